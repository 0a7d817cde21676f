/- Walks and plain words: RndR LexP RndS RndT. -/
import Derived.Test.YtkhoeoilamddaaaGreatDoorXRndQ
namespace Go.Proofs.YtkhoeoilamddaaaGreatDoor
set_option linter.unusedVariables false
set_option linter.unusedSectionVars false
theorem RA {t:Tm} {d:Nat} (h:t.lI d) (ho:5≤t.op):t=dD t.op t.kids:=by
 have hw:=jJ (jI h).2.1
 cases t with
 | mk op n s l=>
  simp only [Tm.op,Tm.num,Tm.name,Tm.kids] at hw ho ⊢;obtain ⟨-,-,-,-,-,-,w3,-,w4⟩:=hw;have h1:=w3 (by omega) (by omega);have h2:=Hz (w4 (by omega));subst h1 h2
  rfl
theorem CW {t:Tm} {d:Nat} (h:t.lI d):1≤t.op∧t.op≤18:=by
 have hw:=(jJ (jI h).2.1).1;unfold cu at hw
 by_cases h1:t.op=1∨t.op=2∨t.op=3∨t.op=4
 · omega
 rw [iN h1] at hw
 by_cases h2:t.op=5
 · omega
 rw [iN h2] at hw
 by_cases h3:t.op=6∨t.op=7
 · omega
 rw [iN h3] at hw
 by_cases h4:t.op=8∨t.op=9∨t.op=10∨t.op=11∨t.op=12∨t.op=13∨t.op=14∨t.op=15∨t.op=16∨t.op=17
 · omega
 rw [iN h4] at hw
 by_cases h5:t.op=18
 · omega
 rw [iN h5] at hw;simp at hw
theorem tK {t:Tm} {d:Nat} (h:t.lI d):(t.op≤4→t.kids.length=0)∧(t.op=5→t.kids.length=1)∧(8≤t.op→t.op≤17→t.kids.length=2)∧(t.op=18→t.kids.length=3)∧(t.op=6∨t.op=7→1≤t.kids.length):=by
 have hr:=CW h;have hw:=jJ (jI h).2.1;obtain ⟨-,-,-,w1,w2,-⟩:=hw;unfold cu at w1 w2;refine ⟨fun h1=>?_,fun h1=>?_,fun h1 h2=>?_,fun h1=>?_,fun h1=>?_⟩
 · rw [iP (by omega)] at w1 w2;simp only at w1 w2;omega
 · rw [iN (by omega),iP h1] at w1 w2;simp only at w1 w2;omega
 · rw [iN (by omega),iN (by omega),iN (by omega),iP (by omega)] at w1 w2;simp only at w1 w2;omega
 · rw [iN (by omega),iN (by omega),iN (by omega),iN (by omega),iP h1] at w1 w2;simp only at w1 w2;omega
 · rw [iN (by omega),iN (by omega),iP h1] at w1 w2;simp only at w1 w2;omega
theorem len1 {α:Type} {l:List α} (h:l.length=1):∃ a,l=[a]:=by
 match l,h with
 | [a],_=>exact ⟨a,rfl⟩
theorem len2 {α:Type} {l:List α} (h:l.length=2):∃ a b,l=[a,b]:=by
 match l,h with
 | [a,b],_=>exact ⟨a,b,rfl⟩
theorem ajL {α:Type} {l:List α} (h:l.length=3):∃ a b c,l=[a,b,c]:=by
 match l,h with
 | [a,b,c],_=>exact ⟨a,b,c,rfl⟩
theorem Na (op:Int) (ends:Bool):∀ (ks:List Tm) (n:Nat),0<n→ks.length≤(gD op ks n ends).length
 | [],n,_=>by simp
 | k :: ks,n,hn=>by
  have:=Na op ends ks (n+1) (by omega);rw [gD,iN (by omega)];simp;omega
theorem wV {t:Tm} {ends:Bool} (h1:6≤t.op) (h2:t.op≤17):fQ t ends=gD t.op t.kids 0 ends:=by
 unfold fQ vI;rw [iN (by omega),iN (by omega),iN (by omega)]
section
variable {l:List Tok}
theorem aa_ {t:Tm} {d:Nat} (hok:t.lI d) (ho:t.op=14∨t.op=15) (ih:∀ k∈t.kids,PT l k (d+1)) (ends:Bool) (r i:Nat) (hr:129≤r+2*d) (hat:At l i (fQ t ends))
 (hf:Follow l (i+(fQ t ends).length) 7) (he:ends=true→Follow l (i+(fQ t ends).length) 0):Lft l (EL l ((sub l r).map p8.term)) [14,15] i t (i+(fQ t ends).length):=by
 obtain ⟨a,b,hk⟩:=len2 ((tK hok).2.2.1 (by omega) (by omega));have hne:=RA hok (by omega);rw [wV (by omega) (by omega),hk,Rz] at hat hf he ⊢;have e0:aX t.op 0=6:=by rcases ho with h | h <;> rw [h] <;> rfl
 have e1:aX t.op 1=7:=by rcases ho with h | h <;> rw [h] <;> rfl
 have er:bQ t.op=6:=by rcases ho with h | h <;> rw [h] <;> rfl
 rw [e0,e1] at hat hf he ⊢;rw [hk] at hne;have ha:=(ih a (by rw [hk];simp)).b6 false r i (by omega) hat.left (D_ (by simpa using hat.right) (by omega) (by omega) (by omega)) (fun h=>by cases h);have ah3:At l (i+(jW a 6 false).length+1) (jW b 7 ends):=hat.right.right;have hlen:i+(jW a 6 false++([qy t.op]++jW b 7 ends)).length=i+(jW a 6 false).length+1+(jW b 7 ends).length:=by simp;omega
 rw [hlen] at hf he;have hb:=(ih b (by rw [hk];simp)).a 7 ends r _ (by omega) (by omega) ah3 hf he;rw [hne];exact UA hat (mQ (by omega) (by omega)) (by decide) (by rcases ho with h | h <;> rw [h] <;> decide) ha hb
theorem abb {t:Tm} {d:Nat} (hok:t.lI d) (ho:t.op=16∨t.op=17) (ih:∀ k∈t.kids,PT l k (d+1)) (ends:Bool) (r i:Nat) (hr:129≤r+2*d) (hat:At l i (fQ t ends))
 (he:ends=true→Follow l (i+(fQ t ends).length) 0):Lft l (bM l ((sub l r).map p8.term)) [16,17] i t (i+(fQ t ends).length):=by
 obtain ⟨a,b,hk⟩:=len2 ((tK hok).2.2.1 (by omega) (by omega));have hne:=RA hok (by omega);rw [wV (by omega) (by omega),hk,Rz] at hat he ⊢;have e0:aX t.op 0=7:=by rcases ho with h | h <;> rw [h] <;> rfl
 have e1:aX t.op 1=8:=by rcases ho with h | h <;> rw [h] <;> rfl
 rw [e0,e1] at hat he ⊢;rw [hk] at hne;have ha:=(ih a (by rw [hk];simp)).b7 false r i (by omega) hat.left (fun h=>by cases h);have ah3:At l (i+(jW a 7 false).length+1) (jW b 8 ends):=hat.right.right;have hlen:i+(jW a 7 false++([qy t.op]++jW b 8 ends)).length=i+(jW a 7 false).length+1+(jW b 8 ends).length:=by simp;omega
 rw [hlen] at he
 have hf8:Follow l (i+(jW a 7 false).length+1+(jW b 8 ends).length) 8:=fun op h1 h2 h3=>by
  exfalso
  have:∀ o∈qz,bQ o<8:=by decide
  have:=this op (mQ h1 h2);omega
 have hb:=(ih b (by rw [hk];simp)).a 8 ends r _ (by omega) (by omega) ah3 hf8 he;rw [hne];exact UA hat (mQ (by omega) (by omega)) (by decide) (by rcases ho with h | h <;> rw [h] <;> decide) ha hb
theorem sub_pos {r d:Nat} (h:129≤r+2*d) (hd:d≤64):∃ r',r=r'+1∧sub l r=some (lvl l r'):=by
 cases r with
 | zero=>omega
 | succ r'=>exact ⟨r',rfl,rfl⟩
theorem agv {t:Tm} {d:Nat} (hok:t.lI d) (htl:iW t=true) (ih:∀ k∈t.kids,PT l k (d+1)) (ends:Bool) (r i:Nat) (hr:129≤r+2*d) (hat:At l i (fQ t ends))
 (hf:Follow l (i+(fQ t ends).length) (bQ t.op)) (he:ends=true→Follow l (i+(fQ t ends).length) 0) (h18:t.op=18→ends=true):OQ l r (bQ t.op) i=.ok t (i+(fQ t ends).length):=by
 have hrg:=CW hok;have hkc:=tK hok;have hd:=(jI hok).1
 by_cases c1:t.op≤4
 · have hk:=List.eq_nil_of_length_eq_zero (hkc.1 c1);have ho:t.op=1∨t.op=2∨t.op=3∨t.op=4:=by omega
   have hb:fQ t ends=rR t.op t.num t.name.data.toList:=by unfold fQ vI;rw [iP ho]
   have er:bQ t.op=8:=by rcases ho with h | h | h | h <;> rw [h] <;> rfl
   rw [hb] at hat ⊢;rw [er]
   cases t with
   | mk op n s ks=>
    simp only [Tm.kids] at hk;subst hk;exact agu hok ho _ i hat
 have hne:=RA hok (by omega)
 by_cases c5:t.op=5
 · obtain ⟨k,hk⟩:=len1 (hkc.2.1 c5);have hb:fQ t ends=[sg [33]]++jW k 4 ends:=by unfold fQ vI;rw [iN (by omega),iP c5,hk,aa7]
   have er:bQ t.op=4:=by rw [c5];rfl
   rw [hb] at hat hf he ⊢;rw [er] at hf ⊢;obtain ⟨r',rfl,hsub⟩:=sub_pos (l:=l) hr hd;have hlen:i+([sg [33]]++jW k 4 ends).length=i+1+(jW k 4 ends).length:=by simp;omega
   rw [hlen] at hf he ⊢;have hkk:=(ih k (by rw [hk];simp)).a 4 ends r' (i+1) (by omega) (by omega) hat.right hf he;obtain ⟨u,hu,a1,a2,a3⟩:=At.head (b:=jW k 4 ends) hat;simp only [sg] at a1 a2 a3;rw [aew,hsub,hne,hk];unfold Kk;rw [gL hu,a1,a3];have hkk':(lvl l r').not (i+1)=.ok k (i+1+(jW k 4 ends).length):=hkk;simp [inner,hkk',c5]
 by_cases c67:t.op=6∨t.op=7
 · have hk1:=hkc.2.2.2.2 c67
   have hk2:t.kids.length≠1:=fun h=>by
    rw [Gu,iP ⟨c67,h⟩] at htl;cases htl
   obtain ⟨op,hop⟩:=aj t.op;rw [wV (by omega) (by omega)] at hat hf he ⊢;rw [←hop] at hat hf he hne c67 ⊢
   cases hks:t.kids with
   | nil=>rw [hks] at hk1;simp at hk1
   | cons k0 ks=>
    have agw:ks≠[]:=fun h=>by rw [hks,h] at hk2;simp at hk2
    rw [hks] at hat hf he hne ih
    have htk:gD op (k0 :: ks) 0 ends=jW k0 (aX op 0) false++gD op ks 1 ends:=by
     rw [gD,iP rfl];have:ks.isEmpty=false:=by cases ks with | nil=>exact absurd rfl agw | cons _ _=>rfl
     rw [this];simp
    rw [htk] at hat hf he ⊢;have hlen:i+(jW k0 (aX op 0) false++gD op ks 1 ends).length=i+(jW k0 (aX op 0) false).length+(gD op ks 1 ends).length:=by simp;omega
    rw [hlen] at hf he ⊢;have UC:aX op 0≤8:=by rcases c67 with h | h <;> rw [h] <;> decide
    have hlt:bQ op<aX op 0:=by rcases c67 with h | h <;> rw [h] <;> decide
    have akS:Follow l (i+(jW k0 (aX op 0) false).length) (aX op 0):=by
     cases ajM:ks with
     | nil=>exact absurd ajM agw
     | cons k1 ks1=>
      have h9:=hat.right;rw [ajM,gD,iN (by omega)] at h9;exact D_ (b:=jW k1 (aX op 1) (ends && ks1.isEmpty)++gD op ks1 (1+1) ends) (by simpa using h9) (by omega) (by omega) hlt
    have h0:=(ih k0 (by simp)).a (aX op 0) false r i UC (by omega) hat.left akS (fun h=>by cases h)
    have hKl:ks.length≤l.length:=by
     have h1:=Na op ends ks 1 (by omega);have h2:=hat.right
     by_cases h3:gD op ks 1 ends=[]
     · rw [h3] at h1;exact absurd (by simpa using h1) agw
     · have:=h2.le h3;omega
    have hm:=aa9 c67 (one:=OQ l r (aX op 0)) rfl (by omega) ks [k0] (i+(jW k0 (aX op 0) false).length) 1 l.length (by simp) (by omega) (fun x hx=>ih x (by simp [hx])) hat.right hf he hKl
    have hend:ql op ([k0]++ks)=dD op (k0 :: ks):=by
     cases ks with
     | nil=>exact absurd rfl agw
     | cons _ _=>rfl
    rw [hend] at hm;rw [hne]
    have hgo:many l op (OQ l r (aX op 0)) i=.ok (dD op (k0 :: ks)) (i+(jW k0 (aX op 0) false).length+(gD op ks 1 ends).length):=by
     unfold many;rw [h0,Rs.then_ok,hm]
    rcases c67 with h | h
    · subst h;have e:OQ l r (aX 6 0)=EM l (sub l r):=aew r;rw [e] at hgo;exact hgo
    · subst h;exact hgo
 by_cases c18:t.op=18
 · obtain ⟨a,b,c,hk⟩:=ajL (hkc.2.2.2.1 c18);have ag7:=h18 c18
   have hb:fQ t ends=ifTk 0 :: (jW a 0 true++(ifTk 1 :: (jW b 0 true++(ifTk 2 :: jW c 0 true)))):=by
    unfold fQ vI;rw [iN (by omega),iN (by omega),iP c18,hk];simp [aes]
   have er:bQ t.op=8:=by rw [c18];rfl
   rw [hb] at hat hf he ⊢;rw [er];obtain ⟨r',rfl,hsub⟩:=sub_pos (l:=l) hr hd;obtain ⟨TA,Y0⟩:=aj (jW a 0 true);obtain ⟨TB,V_⟩:=aj (jW b 0 true);obtain ⟨TC,hTC⟩:=aj (jW c 0 true);rw [←Y0,←V_,←hTC] at hat he ⊢;have hlen:i+(ifTk 0 :: (TA++(ifTk 1 :: (TB++(ifTk 2 :: TC))))).length=i+1+TA.length+1+TB.length+1+TC.length:=by simp;omega
   rw [hlen] at he ⊢;have hA:=hat.tail.left;have h1:=hat.tail.right;have hB:=h1.tail.left;have h2:=h1.tail.right;have hC:=h2.tail;have pa:=(ih a (by rw [hk];simp)).a 0 true r' (i+1) (by omega) (by omega) (by rw [←Y0];exact hA) (by rw [←Y0];exact tJ h1 (by unfold closes;decide)) (fun _=>by rw [←Y0];exact tJ h1 (by unfold closes;decide));have pb:=(ih b (by rw [hk];simp)).a 0 true r' (i+1+TA.length+1) (by omega) (by omega) (by rw [←V_];exact hB) (by rw [←V_];exact tJ h2 (by unfold closes;decide)) (fun _=>by rw [←V_];exact tJ h2 (by unfold closes;decide));have pc:=(ih c (by rw [hk];simp)).a 0 true r' (i+1+TA.length+1+TB.length+1) (by omega) (by omega) (by rw [←hTC];exact hC) (by rw [←hTC];exact he ag7) (fun _=>by rw [←hTC];exact he ag7);rw [←Y0] at pa;rw [←V_] at pb;rw [←hTC] at pc;obtain ⟨u,hu,a1,a2,a3⟩:=hat.head;obtain ⟨v,hv,b1,b2,b3⟩:=h1.head;obtain ⟨x,hx,d1,d2,d3⟩:=h2.head;simp only [ifTk,wd] at a1 a2 a3 b1 b2 b3 d1 d2 d3;show bM l ((sub l (r'+1)).map p8.term) i=_;rw [hsub,hne,hk,c18];have pa':(lvl l r').term (i+1)=.ok a (i+1+TA.length):=pa;have pb':(lvl l r').term (i+1+TA.length+1)=.ok b (i+1+TA.length+1+TB.length):=pb;have pc':(lvl l r').term (i+1+TA.length+1+TB.length+1)=.ok c (i+1+TA.length+1+TB.length+1+TC.length):=pc
   have q1:ah l (i+1+TA.length) 3 um=true:=by rw [gL hv,b1,b3];decide
   have q2:ah l (i+1+TA.length+1+TB.length) 3 uo=true:=by rw [gL hx,d1,d3];decide
   have hch:Gm l ((some (lvl l r')).map p8.term) i=.ok (dD 18 [a,b,c]) (i+1+TA.length+1+TB.length+1+TC.length):=by
    simp [Gm,inner,pa',pb',pc',q1,q2]
   unfold bM;rw [gL hu,gL hu,gL hu,gL hu,gL hu,gL hu,a1,a3,hch];simp [wIf,yh,rD,fE]
 obtain ⟨a,b,hk⟩:=len2 (hkc.2.2.1 (by omega) (by omega))
 by_cases c14:t.op=14∨t.op=15
 · have er:bQ t.op=6:=by rcases c14 with h | h <;> rw [h] <;> rfl
   rw [er] at hf ⊢;exact aa8 (aa_ hok c14 ih ends r i hr hat (hf.mono (by omega)) he) hat (kS hf (by decide))
 by_cases c16:t.op=16∨t.op=17
 · have er:bQ t.op=7:=by rcases c16 with h | h <;> rw [h] <;> rfl
   rw [er] at hf ⊢;exact aa8 (abb hok c16 ih ends r i hr hat he) hat (kS hf (by decide))
 rw [wV (by omega) (by omega),hk,Rz] at hat hf he ⊢;rw [hk] at hne;obtain ⟨TA,Y0⟩:=aj (jW a (aX t.op 0) false);obtain ⟨TB,V_⟩:=aj (jW b (aX t.op 1) ends);rw [←Y0,←V_] at hat hf he ⊢;have hlen:i+(TA++([qy t.op]++TB)).length=i+TA.length+1+TB.length:=by simp;omega
 rw [hlen] at hf he ⊢;have hA:=hat.left;have hO:At l (i+TA.length) (qy t.op :: TB):=by simpa using hat.right
 have hB:=hO.tail;have RB:t.op∈qz:=mQ (by omega) (by omega)
 have hlt:bQ t.op<aX t.op 0:=by
  have:t.op=8∨t.op=9∨t.op=10∨t.op=11∨t.op=12∨t.op=13:=by omega
  rcases this with h | h | h | h | h | h <;> rw [h] <;> decide
 have UC:aX t.op 0≤8∧aX t.op 1≤8∧bQ t.op≤aX t.op 1:=by
  have:t.op=8∨t.op=9∨t.op=10∨t.op=11∨t.op=12∨t.op=13:=by omega
  rcases this with h | h | h | h | h | h <;> rw [h] <;> decide
 have pa:=fun r' (hr':130≤r'+2*(d+1))=>(ih a (by rw [hk];simp)).a (aX t.op 0) false r' i (by omega) hr' (by rw [←Y0];exact hA) (by rw [←Y0];exact D_ hO (by omega) (by omega) hlt) (fun h=>by cases h);have pb:=fun r' (hr':130≤r'+2*(d+1))=>(ih b (by rw [hk];simp)).a (aX t.op 1) ends r' (i+TA.length+1) (by omega) hr' (by rw [←V_];exact hB) (by rw [←V_];exact hf.mono UC.2.2) (fun h=>by rw [←V_];exact he h);rw [←Y0] at pa;rw [←V_] at pb
 by_cases c8:t.op=8
 · rw [c8] at pa pb hO;obtain ⟨r',rfl,hsub⟩:=sub_pos (l:=l) hr hd;rw [hne,c8];show OQ l (r'+1) 1 i=_;rw [aev,hsub];have pa':Oz l (some (lvl l r')) i=.ok a (i+TA.length):=by rw [←hsub];exact pa (r'+1) (by omega)
   have pb':(lvl l r').imp (i+TA.length+1)=.ok b (i+TA.length+1+TB.length):=pb r' (by omega);have hw:=yK hO;unfold Gn;rw [pa',Rs.then_ok,hw,iN (by decide)];simp [inner,pb']
 by_cases c9:t.op=9
 · rw [c9] at pa pb hO;rw [hne,c9];show OQ l r 0 i=_;rw [ajJ];have pa':Ch l (sub l r) i=.ok a (i+TA.length):=by have:=pa r (by omega);rwa [show aX 9 0=1 from rfl,aev] at this
   have pb':Ch l (sub l r) (i+TA.length+1)=.ok b (i+TA.length+1+TB.length):=by have:=pb r (by omega);rwa [show aX 9 1=1 from rfl,aev] at this
   have hw:=yK hO;unfold Bu;rw [pa',Rs.then_ok,hw,iN (by decide),pb']
   rfl
 have cc:t.op=10∨t.op=11∨t.op=12∨t.op=13:=by omega
 have e0:aX t.op 0=6:=by rcases cc with h | h | h | h <;> rw [h] <;> rfl
 have e1:aX t.op 1=6:=by rcases cc with h | h | h | h <;> rw [h] <;> rfl
 have er:bQ t.op=5:=by rcases cc with h | h | h | h <;> rw [h] <;> rfl
 rw [e0] at pa;rw [e1] at pb;rw [er,hne];show OQ l r 4 i=_;rw [aew];have pa':Gp l ((sub l r).map p8.term) i=.ok a (i+TA.length):=pa r (by omega);have pb':Gp l ((sub l r).map p8.term) (i+TA.length+1)=.ok b (i+TA.length+1+TB.length):=pb r (by omega);have hw:au l (i+TA.length) [10,11,12,13]=t.op:=FY hO RB (by decide) (by rcases cc with h | h | h | h <;> rw [h] <;> decide);unfold Kk;rw [Uy pa',iN (by decide),pa',Rs.then_ok,hw,iN (by omega),pb']
 rfl
theorem ag8:∀ (N:Nat) (t:Tm) (d:Nat),t.size≤N→t.lI d→iW t=true→PT l t d
 | 0,t,d,hN,_,_=>by cases t;rw [Tm.size] at hN;omega
 | N+1,t,d,hN,hok,htl=>by
  have ih:∀ k∈t.kids,PT l k (d+1):=fun k hk=>by
   have h1:=Tm.aM hk;have hks:=(tK hok).1
   have h2:t.op≠3∧t.op≠4:=by
    refine ⟨fun h=>?_,fun h=>?_⟩
    · have:=List.eq_nil_of_length_eq_zero (hks (by omega));rw [this] at hk;cases hk
    · have:=List.eq_nil_of_length_eq_zero (hks (by omega));rw [this] at hk;cases hk
   refine ag8 N k (d+1) ?_ ((jI hok).2.2 k hk) (PY htl h2.1 h2.2 k hk)
   cases t with
   | mk o nn ss l=>rw [Tm.size] at hN;simp only [Tm.kids] at h1;omega
  have hd:=(jI hok).1;have hB:=agv hok htl ih
  have hr8:bQ t.op≤8:=by
   unfold bQ
   iterate 8 (split;· omega)
   omega
  have h8:∀ ends r i,130≤r+2*d→At l i (jW t 8 ends)→(ends=true→Follow l (i+(jW t 8 ends).length) 0)→OQ l r 8 i=.ok t (i+(jW t 8 ends).length):=by
   intro ends r i hr hat he;rw [M9] at hat he ⊢
   cases hp:parens t 8 ends with
   | true=>
    rw [hp] at hat he;simp only [Bd,if_true,Bool.true_or] at hat he ⊢;obtain ⟨r',rfl,hsub⟩:=sub_pos (l:=l) (r:=r) (d:=d) (by omega) hd;obtain ⟨T,hT⟩:=aj (fQ t true);rw [←hT] at hat he ⊢;have OU:At l i (sg [40] :: (T++[sg [41]])):=by simpa using hat
    have aex:=OU.tail.left;have Nb:At l (i+1+T.length) [sg [41]]:=OU.tail.right;have hcl:∀ k,Follow l (i+1+T.length) k:=fun k=>tJ Nb (by unfold closes;decide);have hb:=hB true r' (i+1) (by omega) (by rw [←hT];exact aex) (by rw [←hT];exact hcl _) (fun _=>by rw [←hT];exact hcl _) (fun _=>rfl);rw [←hT] at hb;have h0:=Uz (zl _) hr8 hb (hcl 0);have h0':(lvl l r').term (i+1)=.ok t (i+1+T.length):=h0;obtain ⟨u,hu,a1,a2,a3⟩:=OU.head;obtain ⟨v,hv,b1,b2,b3⟩:=Nb.head;simp only [sg] at a1 a2 a3 b1 b2 b3;show bM l ((sub l (r'+1)).map p8.term) i=_;rw [hsub];have hlen:i+([sg [40]]++T++[sg [41]]).length=i+1+T.length+1:=by simp;omega
    rw [hlen];simp [bM,gL hu,gL hv,a1,a3,b1,b3,inner,h0',yh,rD,fE]
   | false=>
    rw [hp] at hat he;simp only [Bd,Bool.false_or] at hat he ⊢;have hp':=hp;unfold parens at hp';simp at hp';have er:bQ t.op=8:=by omega
    have hb:=hB ends r i (by omega) hat (fun op h1 h2 h3=>by
     exfalso
     have:∀ o∈qz,bQ o<8:=by decide
     have:=this op (mQ h1 h2)
     omega) he (fun h=>hp'.2 h)
    rw [er] at hb;exact hb
  have hsame:∀ rule ends,rule≤8→parens t rule ends=true→jW t rule ends=jW t 8 ends:=fun rule ends hr hp=>by
   have h1:parens t 8 ends=true:=by
    unfold parens at hp ⊢;simp at hp ⊢
    rcases hp with h | h
    · left;omega
    · exact .inr h
   rw [M9,M9,hp,h1]
  have hbody:∀ rule ends,parens t rule ends=false→jW t rule ends=fQ t ends∧rule≤bQ t.op∧(t.op=18→ends=true):=fun rule ends hp=>by
   have hp':=hp;unfold parens at hp';simp at hp';exact ⟨by rw [M9,hp];rfl,by omega,hp'.2⟩
  have hA:∀ rule ends r i,rule≤8→130≤r+2*d→At l i (jW t rule ends)→Follow l (i+(jW t rule ends).length) rule→(ends=true→Follow l (i+(jW t rule ends).length) 0)→OQ l r rule i=.ok t (i+(jW t rule ends).length):=by
   intro rule ends r i hru hr hat hf he
   cases hp:parens t rule ends with
   | true=>
    rw [hsame rule ends hru hp] at hat hf he ⊢;exact Uz hru (lr _) (h8 ends r i hr hat he) hf
   | false=>
    obtain ⟨e1,e2,e3⟩:=hbody rule ends hp;rw [e1] at hat hf he ⊢;exact Uz e2 hr8 (hB ends r i (by omega) hat (hf.mono e2) he e3) hf
  refine ⟨hA,?_,?_⟩
  · intro ends r i hr hat hf he
    cases hp:parens t 6 ends with
    | true=>
     rw [hsame 6 ends (by omega) hp] at hat hf he ⊢;exact Hy (Uz (a:=7) (by omega) (lr _) (h8 ends r i hr hat he) hf)
    | false=>
     obtain ⟨e1,e2,e3⟩:=hbody 6 ends hp;rw [e1] at hat hf he ⊢
     by_cases h6:bQ t.op=6
     · have ho:t.op=14∨t.op=15:=by
        have hrg:=CW hok;have:t.op=1∨t.op=2∨t.op=3∨t.op=4∨t.op=5∨t.op=6∨t.op=7∨t.op=8∨t.op=9∨t.op=10∨t.op=11∨t.op=12∨t.op=13∨t.op=14∨t.op=15∨t.op=16∨t.op=17∨t.op=18:=by omega
        rcases this with h | h | h | h | h | h | h | h | h | h | h | h | h | h | h | h | h | h <;> rw [h] at h6 <;> first | (exact absurd h6 (by decide)) | omega
       exact aa_ hok ho ih ends r i (by omega) hat hf he
     · exact Hy (Uz (a:=7) (by omega) hr8 (hB ends r i (by omega) hat (hf.mono (by omega)) he e3) hf)
  · intro ends r i hr hat he
    cases hp:parens t 7 ends with
    | true=>
     rw [hsame 7 ends (by omega) hp] at hat he ⊢;exact Hy (h8 ends r i hr hat he)
    | false=>
     obtain ⟨e1,e2,e3⟩:=hbody 7 ends hp;rw [e1] at hat he ⊢
     by_cases h7:bQ t.op=7
     · have ho:t.op=16∨t.op=17:=by
        have hrg:=CW hok;have:t.op=1∨t.op=2∨t.op=3∨t.op=4∨t.op=5∨t.op=6∨t.op=7∨t.op=8∨t.op=9∨t.op=10∨t.op=11∨t.op=12∨t.op=13∨t.op=14∨t.op=15∨t.op=16∨t.op=17∨t.op=18:=by omega
        rcases this with h | h | h | h | h | h | h | h | h | h | h | h | h | h | h | h | h | h <;> rw [h] at h7 <;> first | (exact absurd h7 (by decide)) | omega
       exact abb hok ho ih ends r i (by omega) hat he
     · have er:bQ t.op=8:=by omega
       have hb:=hB ends r i (by omega) hat (fun op h1 h2 h3=>by
        exfalso
        have:∀ o∈qz,bQ o<8:=by decide
        have:=this op (mQ h1 h2)
        omega) he e3
       rw [er] at hb;exact Hy hb
end
open Go.RowKit
def agx (l:Bs):Nat→List Tok→Prop
 | p,[]=>(next l p).2.2=0∧(next l p).1.kind=5
 | p,t :: r=>(next l p).2.2=0∧(next l p).1=t∧t.kind≠5∧agx l (next l p).2.1 r
theorem H6:∀ (r:List Tok) (l:Bs) (p:Nat) (acc:List Tok),p≤l.length→agx l p r→oZ l p acc=(acc++r,0,0)
 | [],l,p,acc,hp,h=>by rw [Cb h.1 h.2,List.append_nil]
 | t :: r,l,p,acc,hp,h=>by
  obtain ⟨he,ht,hk,hr⟩:=h;rw [Aw hp he (by rw [ht];exact hk)]
  rcases Gh hp he with ⟨h3,_⟩ | ⟨_,h4,h5⟩
  · rw [ht] at h3;exact absurd h3 hk
  · rw [H6 r l _ _ h5 hr,ht];simp
theorem UD {l:Bs} {ts:List Tok} (hl:l.length≤65536) (h:agx l 0 ts):all l=(ts,0,0):=by
 unfold all;rw [iN (by omega)];exact H6 ts l 0 [] (zl _) h
def UE (l:Bs):Prop:=l=[]∨∃ c r,l=c :: r∧qX c=false∧dashes l=false
theorem UF {l:Bs} (h:UE l):blank l=l:=by
 rcases h with rfl | ⟨c,r,rfl,h1,h2⟩
 · rfl
 · exact Fj h1 h2
theorem UG {c:UInt8} (h:qX c=true):c.toNat=32∨c.toNat=9∨c.toNat=10∨c.toNat=13:=by
 unfold qX at h;simp at h;omega
theorem Y5 {p:UInt8→Bool} {sep:Bs} (h:∀ c,sep.head?=some c→p c=false):rowLen p sep=0:=by
 cases sep with
 | nil=>rfl
 | cons c r=>exact nK (h c rfl)
def bJ:List Tok→Bs→Prop
 | [],s=>blank s=[]
 | t :: r,s=>∃ n len:Nat,scan (blank s)=(t.kind,n,len,0)∧t.n=n∧t.text=(blank s).take len∧t.kind≠5∧bJ r ((blank s).drop len)
theorem F5:∀ (ts:List Tok) (l:Bs) (p:Nat),p≤l.length→bJ ts (l.drop p)→∃ us,agx l p us∧us.length=ts.length∧At us 0 ts
 | [],l,p,hp,h=>by
  have hb:blank (l.drop p)=[]:=h;have hq:l.drop l.length=[]:=by simp
  have hn:=KF hb hq (lr _) Lu;rw [iP rfl] at hn;exact ⟨[],⟨by rw [hn],by rw [hn]⟩,rfl,fun j t hj=>by simp at hj⟩
 | t :: r,l,p,hp,h=>by
  obtain ⟨n,len,h1,h2,h3,h4,h5⟩:=h;have acj:blank (l.drop p) <:+ l:=(Ar _).trans (List.drop_suffix _ _);have hd:=Ca acj;have hlen:len≤(blank (l.drop p)).length:=by rcases QA h1 with ⟨_,_,h6,_⟩ | ⟨_,_,h6⟩ <;> omega
  have hbl:=acj.length_le;have hn:=KF rfl hd (by omega) h1;rw [iP rfl] at hn;have hdr:(blank (l.drop p)).drop len=l.drop (l.length - (blank (l.drop p)).length+len):=by rw [←List.drop_drop,hd]
  rw [hdr] at h5;obtain ⟨us,u1,u2,u3⟩:=F5 r l _ (by omega) h5;refine ⟨(next l p).1 :: us,⟨by rw [hn],rfl,by rw [hn];exact h4,by rw [hn];exact u1⟩,by simp [u2],fun j x hj=>?_⟩
  cases j with
  | zero=>
   simp at hj;subst hj;exact ⟨(next l p).1,rfl,by rw [hn],by rw [hn,h2],by rw [hn,h3]⟩
  | succ j=>
   obtain ⟨u,hu,hx⟩:=u3 j x (by simpa using hj);exact ⟨u,by simpa [Nat.add_comm] using hu,hx⟩
theorem qh {c:UInt8} {s:Bs} {ts:List Tok} (hc:qX c=true) (h:bJ ts s):bJ ts (c :: s):=by
 cases ts with
 | nil=>show blank (c :: s)=[];rw [zC hc];exact h
 | cons t r=>
  obtain ⟨n,len,h1,h2,h3,h4,h5⟩:=h;exact ⟨n,len,by rw [zC hc];exact h1,h2,by rw [zC hc];exact h3,h4,by rw [zC hc];exact h5⟩
theorem iL {t:Tok} {x s:Bs} {r:List Tok} {n:Nat} (hs:scan (x++s)=(t.kind,n,x.length,0)) (hn:t.n=n) (hx:t.text=x) (hk:t.kind≠5) (ah4:UE (x++s)) (h:bJ r s):bJ (t :: r) (x++s):=by
 have hb:=UF ah4;refine ⟨n,x.length,by rw [hb];exact hs,hn,by rw [hb,hx];simp,hk,?_⟩;rw [hb]
 simpa using h
theorem lu {c:UInt8} {s:Bs} (h1:qX c=false) (h2:c.toNat≠45):UE (c :: s):=by
 refine .inr ⟨c,s,rfl,h1,?_⟩;unfold dashes
 cases hd:Lib.hasPrefix (c :: s) [45,45] with
 | false=>rfl
 | true=>
  have:=ug (l:=c :: s) hd;obtain ⟨r,hr⟩:=this
  injection hr with hr _
  subst hr;exact absurd rfl h2
theorem UH (s:Bs):scan (40 :: s)=(4,0,1,0):=rfl
theorem PZ (s:Bs):scan (41 :: s)=(4,0,1,0):=rfl
theorem aey (s:Bs):scan (91 :: s)=(4,0,1,0):=rfl
theorem aez (s:Bs):scan (93 :: s)=(4,0,1,0):=rfl
theorem UJ {c:UInt8} {s:Bs} (h:c≠61):scan (33 :: c :: s)=(4,0,1,0):=by
 have h1:¬(61:UInt8)=c:=fun e=>h e.symm;simp [scan,dV,isDigit,jC,gQ,bs,h1]
 rfl
theorem P5 {c:UInt8} {s:Bs} (h:isDigit c=true):scan (45 :: c :: s)=(4,0,1,0):=by
 have h1:¬(62:UInt8)=c:=by
  intro e;subst e
  revert h
  decide
 simp [scan,dV,isDigit,jC,gQ,bs,h1]
 rfl
theorem agy {op:Int} (h1:6≤op) (h2:op≤16) (s:Bs):scan (iy op++32 :: s)=(4,0,(iy op).length,0)∧UE (iy op++32 :: s):=by
 have:op=6∨op=7∨op=8∨op=9∨op=10∨op=11∨op=12∨op=13∨op=14∨op=15∨op=16:=by omega
 rcases this with rfl | rfl | rfl | rfl | rfl | rfl | rfl | rfl | rfl | rfl | rfl
 all_goals refine ⟨rfl,.inr ⟨_,_,rfl,rfl,rfl⟩⟩
theorem qw {p:UInt8→Bool} {s:Bs} (h:∀ c,s.head?=some c→p c=false):∀ (x:Bs),(∀ c∈x,p c=true)→rowLen p (x++s)=x.length
 | [],_=>Y5 h
 | c :: x,hx=>by
  rw [List.cons_append,fG (hx c (by simp)),qw h x (fun d hd=>hx d (by simp [hd]))]
  rfl
def sM (s:Bs):Prop:=∀ c,s.head?=some c→c=32∨c=41∨c=93
theorem UK {s:Bs} (h:sM s) (p:UInt8→Bool) (hp:p 32=false∧p 41=false∧p 93=false):∀ c,s.head?=some c→p c=false:=fun c hc=>by
 rcases h c hc with rfl | rfl | rfl
 · exact hp.1
 · exact hp.2.1
 · exact hp.2.2
theorem H7 {c:UInt8} (h:dV c=true):qX c=false∧c.toNat≠45∧c≠61:=by
 have h':=h;unfold dV at h';simp at h';refine ⟨?_,by omega,fun e=>by subst e;revert h;decide⟩
 cases hw:qX c with
 | false=>rfl
 | true=>
  have:=UG hw;omega
theorem Ka {c:UInt8} {x s:Bs} (hc:dV c=true) (hx:∀ d∈c :: x,bD d=true) (hl:(c :: x).length≤24) (hs:∀ d,s.head?=some d→bD d=false):scan (c :: x++s)=(if isWord (c :: x) then 3 else 2,0,(c :: x).length,0)∧UE (c :: x++s):=by
 have hr:=qw hs (c :: x) hx;have hf:=H7 hc;refine ⟨?_,lu hf.1 hf.2.1⟩;rw [List.cons_append] at hr ⊢;rw [uh hc,hr,iN (by omega)];have ht:(c :: (x++s)).take (c :: x).length=c :: x:=by rw [←List.cons_append,List.take_left' rfl]
 rw [ht]
 split <;> rfl
theorem Nc {x:Bs} (h:isName x=true):∃ c r,x=c :: r∧dV c=true∧(∀ d∈x,bD d=true)∧x.length≤24∧isWord x=false:=by
 unfold isName at h;simp at h;obtain ⟨⟨⟨⟨h1,h2⟩,h3⟩,h4⟩,h5⟩:=h
 cases x with
 | nil=>exact absurd rfl h1
 | cons c r=>
  refine ⟨c,r,rfl,by simpa using h3,fun d hd=>?_,h2,h5⟩;have:=Fh (p:=bD) (l:=c :: r) d;rw [h4] at this;exact this (by simpa using hd)
theorem zY {x s:Bs} (h:isName x=true) (hs:∀ d,s.head?=some d→bD d=false) {ts:List Tok} (hl:bJ ts s):bJ (wU x :: ts) (x++s):=by
 obtain ⟨c,r,rfl,h1,h2,h3,h4⟩:=Nc h;obtain ⟨h5,h6⟩:=Ka h1 h2 h3 hs;rw [h4] at h5;exact iL h5 rfl rfl (show (2:Int)≠5 by decide) h6 hl
theorem lV {c:UInt8} {x s:Bs} (hc:dV c=true) (hx:∀ d∈c :: x,bD d=true) (hl:(c :: x).length≤24) (hw:isWord (c :: x)=true) (hs:∀ d,s.head?=some d→bD d=false) {ts:List Tok} (h:bJ ts s):bJ (wd (c :: x) :: ts) (c :: x++s):=by
 obtain ⟨h5,h6⟩:=Ka hc hx hl hs;rw [hw] at h5;exact iL h5 rfl rfl (show (3:Int)≠5 by decide) h6 h
theorem Nf:∀ n,n<256→(l9 n)≠[]∧(∀ c∈l9 n,isDigit c=true)∧eX (l9 n)=(n,(l9 n).length,0):=by decide +kernel
theorem Ng {x s:Bs} (hx:∀ c∈x,isDigit c=true) (h0:x≠[]) (hs:∀ d,s.head?=some d→isDigit d=false):eX (x++s)=eX x:=by
 have h1:=qw hs x hx;have h2:=qw (p:=isDigit) (s:=[]) (fun c hc=>by cases hc) x hx;rw [List.append_nil] at h2;unfold eX;rw [h1,h2,List.take_left' rfl,List.take_of_length_le (lr _)]
 have:(x++s)[0]?=x[0]?:=by
  cases x with
  | nil=>exact absurd rfl h0
  | cons c r=>rfl
 rw [this]
theorem KZ {n:Nat} (hn:n<256) {s:Bs} (hs:∀ d,s.head?=some d→isDigit d=false) {ts:List Tok} (h:bJ ts s):bJ (FX (n:Int) :: ts) (l9 n++s):=by
 obtain ⟨h1,h2,h3⟩:=Nf n hn;have h4:=Ng h2 h1 hs;rw [h3] at h4
 have ah4:∃ c r,l9 n=c :: r∧isDigit c=true:=by
  cases hd:l9 n with
  | nil=>exact absurd hd h1
  | cons c r=>exact ⟨c,r,rfl,h2 c (by rw [hd];simp)⟩
 obtain ⟨c,r,hcr,hc⟩:=ah4;have hc':=hc;unfold isDigit at hc';simp at hc'
 have hlet:dV c=false:=by
  unfold dV;simp;omega
 have hws:qX c=false:=by
  cases hw:qX c with
  | false=>rfl
  | true=>have:=UG hw;omega
 refine iL (n:=n) ?_ rfl (by show l9 _=_;simp) (show (1:Int)≠5 by decide) (by rw [hcr];exact lu hws (by omega)) h;rw [hcr,List.cons_append] at h4 ⊢;rw [wC hlet hc,h4];rw [iP rfl]
 rfl
theorem nE {c:UInt8} {s:Bs} (h:c=32∨c=41∨c=93):sM (c :: s):=fun d hd=>by simp at hd;subst hd;exact h
theorem CX {s:Bs} (h:sM s):∀ c,s.head?=some c→bD c=false:=UK h bD (by decide)
theorem Nh {s:Bs} (h:sM s):∀ c,s.head?=some c→isDigit c=false:=UK h isDigit (by decide)
def yL (x:Bs):Prop:=∃ c r,x=c :: r∧c≠61
theorem yL.app {x:Bs} (h:yL x) (y:Bs):yL (x++y):=by
 obtain ⟨c,r,rfl,hc⟩:=h;exact ⟨c,r++y,rfl,hc⟩
theorem P6 {n:Nat} (h:n<256):∃ c r,l9 n=c :: r∧isDigit c=true:=by
 obtain ⟨h1,h2,h3⟩:=Nf n h
 cases hd:l9 n with
 | nil=>exact absurd hd h1
 | cons c r=>exact ⟨c,r,rfl,h2 c (by rw [hd];simp)⟩
theorem aeA {c:UInt8} (h:isDigit c=true):c≠61:=fun e=>by subst e;revert h;decide
def agz (t:Tm):Prop:=(∀ rule ends,yL (nU aO t rule ends))∧∀ rule ends s ts,sM s→bJ ts s→bJ (jW t rule ends++ts) (nU aO t rule ends++s)
def uN (t:Tm) (ends:Bool):Bs:=fD aO t.op t.num t.name.data.toList (nX aO t.kids ends) (iR aO t.kids 0) (aW aO t.op t.kids 0 ends)
theorem abd (t:Tm) (rule:Nat) (ends:Bool):nU aO t rule ends=uj (parens t rule ends) (uN t (parens t rule ends || ends)):=QK t rule ends
theorem acn {t:Tm} {ends:Bool} (h1:6≤t.op) (h2:t.op≤17):uN t ends=aW aO t.op t.kids 0 ends:=by
 unfold uN fD;rw [iN (by omega),iN (by omega),iN (by omega)]
theorem RF {op:Int} (h1:6≤op) (h2:op≤17) {s:Bs} {ts:List Tok} (h:bJ ts s):bJ (qy op :: ts) (lG op++s):=by
 have e:lG op++s=32 :: (iy op++32 :: s):=by unfold lG;simp
 rw [e];refine qh (by decide) ?_;have hs:=qh (c:=32) (by decide) h
 by_cases Aj:op=17
 · subst Aj;exact lV (c:=109) (x:=[111,100]) (by decide) (by decide) (by decide) (by decide) (fun d hd=>by simp at hd;subst hd;decide) hs
 · obtain ⟨a,b⟩:=agy h1 (by omega) s;have e2:qy op=sg (iy op):=by unfold qy;rw [iN Aj]
   rw [e2];exact iL a rfl rfl (show (4:Int)≠5 by decide) b hs
theorem aco (op:Int) (s:Bs):sM (lG op++s):=by
 unfold lG;exact nE (.inl rfl)
theorem UL (op:Int) (ho:6≤op∧op≤17) (ends:Bool):∀ (ks:List Tm) (n:Nat) (s:Bs) (ts:List Tok),0<n→(∀ k∈ks,agz k)→sM s→bJ ts s→bJ (gD op ks n ends++ts) (aW aO op ks n ends++s)∧sM (aW aO op ks n ends++s)
 | [],n,s,ts,_,_,hs,h=>⟨h,hs⟩
 | k :: ks,n,s,ts,hn,hk,hs,h=>by
  obtain ⟨i1,i2⟩:=UL op ho ends ks (n+1) s ts (by omega) (fun x hx=>hk x (by simp [hx])) hs h;have h1:=(hk k (by simp)).2 (aX op n) (ends && ks.isEmpty) _ _ i2 i1;have h2:=RF ho.1 ho.2 h1;rw [gD,aW,iN (by omega),iN (by omega)];refine ⟨?_,?_⟩
  · simpa using h2
  · simp only [List.append_assoc];exact aco op _
theorem UM {p:Bool} {b s:Bs} {bt ts:List Tok} (hb:yL b) (hbody:∀ s' ts',sM s'→bJ ts' s'→bJ (bt++ts') (b++s')) (hs:sM s) (h:bJ ts s):bJ (Bd p bt++ts) (uj p b++s):=by
 cases p with
 | false=>exact hbody s ts hs h
 | true=>
  have h1:bJ (sg [41] :: ts) ([41]++s):=iL (n:=0) (PZ s) rfl rfl (by decide) (lu (by decide) (by decide)) h;have h2:=hbody ([41]++s) _ (nE (.inr (.inl rfl))) h1;have h3:bJ (sg [40] :: (bt++sg [41] :: ts)) ([40]++(b++([41]++s))):=iL (n:=0) (UH _) rfl rfl (by decide) (lu (by decide) (by decide)) h2
  simpa [Bd,uj] using h3
theorem P7 {p:Bool} {b:Bs} (hb:yL b):yL (uj p b):=by
 cases p with
 | false=>exact hb
 | true=>exact ⟨40,b++[41],rfl,by decide⟩
theorem Y9 {s:Bs} {ts:List Tok} (h:bJ ts s):bJ (ifTk 0 :: ts) (KH 0++s)∧bJ (ifTk 1 :: ts) (KH 1++s)∧bJ (ifTk 2 :: ts) (KH 2++s):=by
 have hs:=qh (c:=32) (by decide) h;have EY:∀ d,(32 :: s:Bs).head?=some d→bD d=false:=fun d hd=>by simp at hd;subst hd;decide
 refine ⟨?_,?_,?_⟩
 · exact lV (c:=105) (x:=[102]) (by decide) (by decide) (by decide) (by decide) EY hs
 · exact qh (by decide) (lV (c:=116) (x:=[104,101,110]) (by decide) (by decide) (by decide) (by decide) EY hs)
 · exact qh (by decide) (lV (c:=101) (x:=[108,115,101]) (by decide) (by decide) (by decide) (by decide) EY hs)
theorem UO (i:Nat) (hi:0<i) (s:Bs):sM (KH i++s):=by
 unfold KH;rw [iN (by omega)]
 split <;> exact nE (.inl rfl)
theorem P8 {t:Tm} (h:iW t=true) (ho:t.op=3∨t.op=4):isName t.name.data.toList=true:=by
 rw [Gu,iN (by omega),iP ho] at h;exact h
theorem UQ {t:Tm} {d:Nat} (hok:t.lI d) (htl:iW t=true) (ih:∀ k∈t.kids,agz k) (ends:Bool):yL (uN t ends)∧∀ s ts,sM s→bJ ts s→bJ (fQ t ends++ts) (uN t ends++s):=by
 have hrg:=CW hok;have hkc:=tK hok;have hw:=jJ (jI hok).2.1;obtain ⟨-,w1,-,-,-,w2,w3,-,w4⟩:=hw
 by_cases c1:t.op=1
 · have hb:uN t ends=aO t.num:=by unfold uN fD mq;rw [iP (by omega),iP c1]
   have hb2:fQ t ends=if t.num<0 then [sg [45],FX (-t.num)] else [FX t.num]:=by unfold fQ vI rR;rw [iP (by omega),iP c1]
   have hn:=w1 c1;have hsm:t.num.natAbs<256:=by omega
   obtain ⟨c,r,hcr,hc⟩:=P6 hsm;rw [hb,hb2];unfold aO
   by_cases hneg:t.num<0
   · rw [iP hneg,iP hneg];refine ⟨⟨45,_,rfl,by decide⟩,fun s ts hs h=>?_⟩;have h1:=KZ hsm (Nh hs) h;have e1:((t.num.natAbs:Nat):Int)=- t.num:=by omega
     rw [e1,hcr] at h1;rw [hcr]
     have h2:bJ (sg [45] :: (FX (-t.num) :: ts)) ([45]++(c :: r++s)):=iL (n:=0) (P5 hc) rfl rfl (by decide) (.inr ⟨45,_,rfl,by decide,by
      unfold dashes
      cases hd:Lib.hasPrefix ([45]++(c :: r++s)) [45,45] with
      | false=>rfl
      | true=>
       obtain ⟨r',hr'⟩:=ug (l:=[45]++(c :: r++s)) hd;simp at hr';rw [hr'.1] at hc
       exact absurd hc (by decide)⟩) h1
     simpa using h2
   · rw [iN hneg,iN hneg];refine ⟨⟨c,r,hcr,aeA hc⟩,fun s ts hs h=>?_⟩;have h1:=KZ hsm (Nh hs) h;have e1:((t.num.natAbs:Nat):Int)=t.num:=by omega
     rw [e1] at h1;exact h1
 by_cases c2:t.op=2
 · have hb:uN t ends=if t.num=1 then yh else rD:=by unfold uN fD mq;rw [iP (by omega),iN c1,iP c2];rfl
   have hb2:fQ t ends=if t.num=1 then [wd yh] else [wd rD]:=by unfold fQ vI rR;rw [iP (by omega),iN c1,iP c2]
   rw [hb,hb2]
   split
   · exact ⟨⟨116,_,rfl,by decide⟩,fun s ts hs h=>lV (c:=116) (x:=[114,117,101]) (by decide) (by decide) (by decide) (by decide) (CX hs) h⟩
   · exact ⟨⟨102,_,rfl,by decide⟩,fun s ts hs h=>lV (c:=102) (x:=[97,108,115,101]) (by decide) (by decide) (by decide) (by decide) (CX hs) h⟩
 by_cases c3:t.op=3
 · have hb:uN t ends=t.name.data.toList:=by unfold uN fD mq;rw [iP (by omega),iN c1,iN c2,iP c3]
   have hb2:fQ t ends=[wU t.name.data.toList]:=by unfold fQ vI rR;rw [iP (by omega),iN c1,iN c2,iP c3]
   have hnm:=P8 htl (.inl c3);rw [hb,hb2];obtain ⟨c,r,h1,h2,-⟩:=Nc hnm;exact ⟨⟨c,r,h1,(H7 h2).2.2⟩,fun s ts hs h=>zY hnm (CX hs) h⟩
 by_cases c4:t.op=4
 · have hb:uN t ends=[110,101,120,116,40]++t.name.data.toList++[41]:=by unfold uN fD mq;rw [iP (by omega),iN c1,iN c2,iN c3]
   have hb2:fQ t ends=[wd fE,sg [40],wU t.name.data.toList,sg [41]]:=by unfold fQ vI rR;rw [iP (by omega),iN c1,iN c2,iN c3]
   have hnm:=P8 htl (.inr c4);rw [hb,hb2];refine ⟨⟨110,_,rfl,by decide⟩,fun s ts hs h=>?_⟩;have h1:bJ (sg [41] :: ts) ([41]++s):=iL (n:=0) (PZ s) rfl rfl (by decide) (lu (by decide) (by decide)) h;have h2:=zY hnm (s:=[41]++s) (fun d hd=>by simp at hd;subst hd;decide) h1;have h3:bJ (sg [40] :: (wU t.name.data.toList :: sg [41] :: ts)) ([40]++(t.name.data.toList++([41]++s))):=iL (n:=0) (UH _) rfl rfl (by decide) (lu (by decide) (by decide)) h2;have h4:=lV (c:=110) (x:=[101,120,116]) (by decide) (by decide) (by decide) (by decide) (fun d hd=>by simp at hd;subst hd;decide) h3
   simpa [fE] using h4
 by_cases c5:t.op=5
 · obtain ⟨k,hk⟩:=len1 (hkc.2.1 c5);have hb:uN t ends=[33]++nU aO k 4 ends:=by unfold uN fD;rw [iN (by omega),iP c5,hk,nX]
   have hb2:fQ t ends=[sg [33]]++jW k 4 ends:=by unfold fQ vI;rw [iN (by omega),iP c5,hk,aa7]
   rw [hb,hb2];have hl:=ih k (by rw [hk];simp);refine ⟨⟨33,_,rfl,by decide⟩,fun s ts hs h=>?_⟩;have h1:=hl.2 4 ends s ts hs h;obtain ⟨c,r,hcr,hc⟩:=hl.1 4 ends;have h2:bJ (sg [33] :: (jW k 4 ends++ts)) ([33]++(nU aO k 4 ends++s)):=iL (n:=0) (by rw [hcr];exact UJ hc) rfl rfl (by decide) (lu (by decide) (by decide)) h1
   simpa using h2
 by_cases c18:t.op=18
 · obtain ⟨a,b,c,hk⟩:=ajL (hkc.2.2.2.1 c18);have hb:uN t ends=KH 0++(nU aO a 0 true++(KH 1++(nU aO b 0 true++(KH 2++nU aO c 0 true)))):=by unfold uN fD;rw [iN (by omega),iN (by omega),iP c18,hk];simp [iR]
   have hb2:fQ t ends=ifTk 0 :: (jW a 0 true++(ifTk 1 :: (jW b 0 true++(ifTk 2 :: jW c 0 true)))):=by
    unfold fQ vI;rw [iN (by omega),iN (by omega),iP c18,hk];simp [aes]
   rw [hb,hb2];refine ⟨⟨105,_,rfl,by decide⟩,fun s ts hs h=>?_⟩;have h1:=(ih c (by rw [hk];simp)).2 0 true s ts hs h;have h2:=(Y9 h1).2.2;have h3:=(ih b (by rw [hk];simp)).2 0 true _ _ (UO 2 (by omega) _) h2;have h4:=(Y9 h3).2.1;have h5:=(ih a (by rw [hk];simp)).2 0 true _ _ (UO 1 (by omega) _) h4;have h6:=(Y9 h5).1
   simpa using h6
 rw [acn (by omega) (by omega),wV (by omega) (by omega)]
 cases hks:t.kids with
 | nil=>
  exfalso
  have h1:=hkc.2.2.2.2;have h2:=hkc.2.2.1;rw [hks] at h1 h2
  by_cases h:t.op=6∨t.op=7
  · exact absurd (h1 h) (by simp)
  · exact absurd (h2 (by omega) (by omega)) (by simp)
 | cons k0 ks=>
  rw [hks] at ih;have hl:=ih k0 (by simp);rw [aW,gD,iP rfl,iP rfl];refine ⟨?_,fun s ts hs h=>?_⟩
  · rw [List.nil_append];exact (hl.1 _ _).app _
  · obtain ⟨i1,i2⟩:=UL t.op ⟨by omega,by omega⟩ ends ks 1 s ts (by omega) (fun x hx=>ih x (by simp [hx])) hs h;have h1:=hl.2 (aX t.op 0) (ends && ks.isEmpty) _ _ i2 i1
    simpa using h1
theorem RH:∀ (N:Nat) (t:Tm) (d:Nat),t.size≤N→t.lI d→iW t=true→agz t
 | 0,t,d,hN,_,_=>by cases t;rw [Tm.size] at hN;omega
 | N+1,t,d,hN,hok,htl=>by
  have ih:∀ k∈t.kids,agz k:=fun k hk=>by
   have h1:=Tm.aM hk;have hks:=(tK hok).1
   have h2:t.op≠3∧t.op≠4:=by
    refine ⟨fun h=>?_,fun h=>?_⟩
    · have:=List.eq_nil_of_length_eq_zero (hks (by omega));rw [this] at hk;cases hk
    · have:=List.eq_nil_of_length_eq_zero (hks (by omega));rw [this] at hk;cases hk
   refine RH N k (d+1) ?_ ((jI hok).2.2 k hk) (PY htl h2.1 h2.2 k hk)
   cases t with
   | mk o nn ss l=>rw [Tm.size] at hN;simp only [Tm.kids] at h1;omega
  refine ⟨fun rule ends=>?_,fun rule ends s ts hs h=>?_⟩
  · rw [abd];exact P7 (UQ hok htl ih _).1
  · rw [abd,M9];obtain ⟨b1,b2⟩:=UQ hok htl ih (parens t rule ends || ends);exact UM b1 b2 hs h
end Go.Proofs.YtkhoeoilamddaaaGreatDoor
