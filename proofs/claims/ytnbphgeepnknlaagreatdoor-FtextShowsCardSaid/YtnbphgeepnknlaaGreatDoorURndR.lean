/- Walks and plain words: RndR LexP RndS. -/
import Derived.Test.YtnbphgeepnknlaaGreatDoorURefI
namespace Go.Proofs.YtnbphgeepnknlaaGreatDoor
set_option linter.unusedVariables false
set_option linter.unusedSectionVars false
theorem node_eq {t:Tm} {d:Nat} (h:t.okT d) (ho:5≤t.op):t=tmOf t.op t.kids:=by
 have hw:=wrong_ok (okT_open h).2.1
 cases t with
 | mk op n s l=>
  simp only [Tm.op,Tm.num,Tm.name,Tm.kids] at hw ho ⊢;obtain ⟨-,-,-,-,-,-,w3,-,w4⟩:=hw;have h1:=w3 (by omega) (by omega);have h2:=name_nil (w4 (by omega));subst h1 h2
  rfl
theorem op_range {t:Tm} {d:Nat} (h:t.okT d):1≤t.op∧t.op≤18:=by
 have hw:=(wrong_ok (okT_open h).2.1).1;unfold kidsOf at hw
 by_cases h1:t.op=1∨t.op=2∨t.op=3∨t.op=4
 · omega
 rw [iN h1] at hw
 by_cases h2:t.op=5
 · omega
 rw [iN h2] at hw
 by_cases h3:t.op=6∨t.op=7
 · omega
 rw [iN h3] at hw
 by_cases h4:t.op=8∨t.op=9∨t.op=10∨t.op=11∨t.op=12∨t.op=13∨t.op=14∨t.op=15∨t.op=16∨t.op=17
 · omega
 rw [iN h4] at hw
 by_cases h5:t.op=18
 · omega
 rw [iN h5] at hw;simp at hw
theorem kids_count {t:Tm} {d:Nat} (h:t.okT d):(t.op≤4→t.kids.length=0)∧(t.op=5→t.kids.length=1)∧(8≤t.op→t.op≤17→t.kids.length=2)∧(t.op=18→t.kids.length=3)∧(t.op=6∨t.op=7→1≤t.kids.length):=by
 have hr:=op_range h;have hw:=wrong_ok (okT_open h).2.1;obtain ⟨-,-,-,w1,w2,-⟩:=hw;unfold kidsOf at w1 w2;refine ⟨fun h1=>?_,fun h1=>?_,fun h1 h2=>?_,fun h1=>?_,fun h1=>?_⟩
 · rw [iP (by omega)] at w1 w2;simp only at w1 w2;omega
 · rw [iN (by omega),iP h1] at w1 w2;simp only at w1 w2;omega
 · rw [iN (by omega),iN (by omega),iN (by omega),iP (by omega)] at w1 w2;simp only at w1 w2;omega
 · rw [iN (by omega),iN (by omega),iN (by omega),iN (by omega),iP h1] at w1 w2;simp only at w1 w2;omega
 · rw [iN (by omega),iN (by omega),iP h1] at w1 w2;simp only at w1 w2;omega
theorem len1 {α:Type} {l:List α} (h:l.length=1):∃ a,l=[a]:=by
 match l,h with
 | [a],_=>exact ⟨a,rfl⟩
theorem len2 {α:Type} {l:List α} (h:l.length=2):∃ a b,l=[a,b]:=by
 match l,h with
 | [a,b],_=>exact ⟨a,b,rfl⟩
theorem len3 {α:Type} {l:List α} (h:l.length=3):∃ a b c,l=[a,b,c]:=by
 match l,h with
 | [a,b,c],_=>exact ⟨a,b,c,rfl⟩
theorem tkJoin_len (op:Int) (ends:Bool):∀ (ks:List Tm) (n:Nat),0<n→ks.length≤(tkJoin op ks n ends).length
 | [],n,_=>by simp
 | k :: ks,n,hn=>by
  have:=tkJoin_len op ends ks (n+1) (by omega);rw [tkJoin,iN (by omega)];simp;omega
theorem bodyOf_bin {t:Tm} {ends:Bool} (h1:6≤t.op) (h2:t.op≤17):bodyOf t ends=tkJoin t.op t.kids 0 ends:=by
 unfold bodyOf bodyTk;rw [iN (by omega),iN (by omega),iN (by omega)]
section
variable {l:List Tok}
theorem body_l6 {t:Tm} {d:Nat} (hok:t.okT d) (ho:t.op=14∨t.op=15) (ih:∀ k∈t.kids,PT l k (d+1)) (ends:Bool) (r i:Nat) (hr:129≤r+2*d) (hat:At l i (bodyOf t ends))
 (hf:Follow l (i+(bodyOf t ends).length) 7) (he:ends=true→Follow l (i+(bodyOf t ends).length) 0):Lft l (prodB l ((sub l r).map Lvl.term)) [14,15] i t (i+(bodyOf t ends).length):=by
 obtain ⟨a,b,hk⟩:=len2 ((kids_count hok).2.2.1 (by omega) (by omega));have hne:=node_eq hok (by omega);rw [bodyOf_bin (by omega) (by omega),hk,tkJoin2] at hat hf he ⊢;have e0:asksN t.op 0=6:=by rcases ho with h | h <;> rw [h] <;> rfl
 have e1:asksN t.op 1=7:=by rcases ho with h | h <;> rw [h] <;> rfl
 have er:ruleOf t.op=6:=by rcases ho with h | h <;> rw [h] <;> rfl
 rw [e0,e1] at hat hf he ⊢;rw [hk] at hne;have ha:=(ih a (by rw [hk];simp)).b6 false r i (by omega) hat.left (follow_op (by simpa using hat.right) (by omega) (by omega) (by omega)) (fun h=>by cases h);have hatB:At l (i+(tkT a 6 false).length+1) (tkT b 7 ends):=hat.right.right;have hlen:i+(tkT a 6 false++([opTk t.op]++tkT b 7 ends)).length=i+(tkT a 6 false).length+1+(tkT b 7 ends).length:=by simp;omega
 rw [hlen] at hf he;have hb:=(ih b (by rw [hk];simp)).a 7 ends r _ (by omega) (by omega) hatB hf he;rw [hne];exact lft_step hat (binOps_mem (by omega) (by omega)) (by decide) (by rcases ho with h | h <;> rw [h] <;> decide) ha hb
theorem body_l7 {t:Tm} {d:Nat} (hok:t.okT d) (ho:t.op=16∨t.op=17) (ih:∀ k∈t.kids,PT l k (d+1)) (ends:Bool) (r i:Nat) (hr:129≤r+2*d) (hat:At l i (bodyOf t ends))
 (he:ends=true→Follow l (i+(bodyOf t ends).length) 0):Lft l (unitF l ((sub l r).map Lvl.term)) [16,17] i t (i+(bodyOf t ends).length):=by
 obtain ⟨a,b,hk⟩:=len2 ((kids_count hok).2.2.1 (by omega) (by omega));have hne:=node_eq hok (by omega);rw [bodyOf_bin (by omega) (by omega),hk,tkJoin2] at hat he ⊢;have e0:asksN t.op 0=7:=by rcases ho with h | h <;> rw [h] <;> rfl
 have e1:asksN t.op 1=8:=by rcases ho with h | h <;> rw [h] <;> rfl
 rw [e0,e1] at hat he ⊢;rw [hk] at hne;have ha:=(ih a (by rw [hk];simp)).b7 false r i (by omega) hat.left (fun h=>by cases h);have hatB:At l (i+(tkT a 7 false).length+1) (tkT b 8 ends):=hat.right.right;have hlen:i+(tkT a 7 false++([opTk t.op]++tkT b 8 ends)).length=i+(tkT a 7 false).length+1+(tkT b 8 ends).length:=by simp;omega
 rw [hlen] at he
 have hf8:Follow l (i+(tkT a 7 false).length+1+(tkT b 8 ends).length) 8:=fun op h1 h2 h3=>by
  exfalso
  have:∀ o∈binOps,ruleOf o<8:=by decide
  have:=this op (binOps_mem h1 h2);omega
 have hb:=(ih b (by rw [hk];simp)).a 8 ends r _ (by omega) (by omega) hatB hf8 he;rw [hne];exact lft_step hat (binOps_mem (by omega) (by omega)) (by decide) (by rcases ho with h | h <;> rw [h] <;> decide) ha hb
theorem sub_pos {r d:Nat} (h:129≤r+2*d) (hd:d≤64):∃ r',r=r'+1∧sub l r=some (lvl l r'):=by
 cases r with
 | zero=>omega
 | succ r'=>exact ⟨r',rfl,rfl⟩
theorem body_ok {t:Tm} {d:Nat} (hok:t.okT d) (htl:toldT t=true) (ih:∀ k∈t.kids,PT l k (d+1)) (ends:Bool) (r i:Nat) (hr:129≤r+2*d) (hat:At l i (bodyOf t ends))
 (hf:Follow l (i+(bodyOf t ends).length) (ruleOf t.op)) (he:ends=true→Follow l (i+(bodyOf t ends).length) 0) (h18:t.op=18→ends=true):lev l r (ruleOf t.op) i=.ok t (i+(bodyOf t ends).length):=by
 have hrg:=op_range hok;have hkc:=kids_count hok;have hd:=(okT_open hok).1
 by_cases c1:t.op≤4
 · have hk:=List.eq_nil_of_length_eq_zero (hkc.1 c1);have ho:t.op=1∨t.op=2∨t.op=3∨t.op=4:=by omega
   have hb:bodyOf t ends=loneTk t.op t.num t.name.data.toList:=by unfold bodyOf bodyTk;rw [iP ho]
   have er:ruleOf t.op=8:=by rcases ho with h | h | h | h <;> rw [h] <;> rfl
   rw [hb] at hat ⊢;rw [er]
   cases t with
   | mk op n s ks=>
    simp only [Tm.kids] at hk;subst hk;exact lone_ok hok ho _ i hat
 have hne:=node_eq hok (by omega)
 by_cases c5:t.op=5
 · obtain ⟨k,hk⟩:=len1 (hkc.2.1 c5);have hb:bodyOf t ends=[sg [33]]++tkT k 4 ends:=by unfold bodyOf bodyTk;rw [iN (by omega),iP c5,hk,tkNot]
   have er:ruleOf t.op=4:=by rw [c5];rfl
   rw [hb] at hat hf he ⊢;rw [er] at hf ⊢;obtain ⟨r',rfl,hsub⟩:=sub_pos (l:=l) hr hd;have hlen:i+([sg [33]]++tkT k 4 ends).length=i+1+(tkT k 4 ends).length:=by simp;omega
   rw [hlen] at hf he ⊢;have hkk:=(ih k (by rw [hk];simp)).a 4 ends r' (i+1) (by omega) (by omega) hat.right hf he;obtain ⟨u,hu,a1,a2,a3⟩:=At.head (b:=tkT k 4 ends) hat;simp only [sg] at a1 a2 a3;rw [lev4,hsub,hne,hk];unfold notB;rw [isTk_at hu,a1,a3];have hkk':(lvl l r').not (i+1)=.ok k (i+1+(tkT k 4 ends).length):=hkk;simp [inner,hkk',c5]
 by_cases c67:t.op=6∨t.op=7
 · have hk1:=hkc.2.2.2.2 c67
   have hk2:t.kids.length≠1:=fun h=>by
    rw [toldT_eq,iP ⟨c67,h⟩] at htl;cases htl
   obtain ⟨op,hop⟩:=ex_ t.op;rw [bodyOf_bin (by omega) (by omega)] at hat hf he ⊢;rw [←hop] at hat hf he hne c67 ⊢
   cases hks:t.kids with
   | nil=>rw [hks] at hk1;simp at hk1
   | cons k0 ks=>
    have hks0:ks≠[]:=fun h=>by rw [hks,h] at hk2;simp at hk2
    rw [hks] at hat hf he hne ih
    have htk:tkJoin op (k0 :: ks) 0 ends=tkT k0 (asksN op 0) false++tkJoin op ks 1 ends:=by
     rw [tkJoin,iP rfl];have:ks.isEmpty=false:=by cases ks with | nil=>exact absurd rfl hks0 | cons _ _=>rfl
     rw [this];simp
    rw [htk] at hat hf he ⊢;have hlen:i+(tkT k0 (asksN op 0) false++tkJoin op ks 1 ends).length=i+(tkT k0 (asksN op 0) false).length+(tkJoin op ks 1 ends).length:=by simp;omega
    rw [hlen] at hf he ⊢;have hask8:asksN op 0≤8:=by rcases c67 with h | h <;> rw [h] <;> decide
    have hlt:ruleOf op<asksN op 0:=by rcases c67 with h | h <;> rw [h] <;> decide
    have hfol:Follow l (i+(tkT k0 (asksN op 0) false).length) (asksN op 0):=by
     cases hks':ks with
     | nil=>exact absurd hks' hks0
     | cons k1 ks1=>
      have h9:=hat.right;rw [hks',tkJoin,iN (by omega)] at h9;exact follow_op (b:=tkT k1 (asksN op 1) (ends && ks1.isEmpty)++tkJoin op ks1 (1+1) ends) (by simpa using h9) (by omega) (by omega) hlt
    have h0:=(ih k0 (by simp)).a (asksN op 0) false r i hask8 (by omega) hat.left hfol (fun h=>by cases h)
    have hKl:ks.length≤l.length:=by
     have h1:=tkJoin_len op ends ks 1 (by omega);have h2:=hat.right
     by_cases h3:tkJoin op ks 1 ends=[]
     · rw [h3] at h1;exact absurd (by simpa using h1) hks0
     · have:=h2.le h3;omega
    have hm:=many_ok c67 (one:=lev l r (asksN op 0)) rfl (by omega) ks [k0] (i+(tkT k0 (asksN op 0) false).length) 1 l.length (by simp) (by omega) (fun x hx=>ih x (by simp [hx])) hat.right hf he hKl
    have hend:manyEnd op ([k0]++ks)=tmOf op (k0 :: ks):=by
     cases ks with
     | nil=>exact absurd rfl hks0
     | cons _ _=>rfl
    rw [hend] at hm;rw [hne]
    have hgo:many l op (lev l r (asksN op 0)) i=.ok (tmOf op (k0 :: ks)) (i+(tkT k0 (asksN op 0) false).length+(tkJoin op ks 1 ends).length):=by
     unfold many;rw [h0,Rs.then_ok,hm]
    rcases c67 with h | h
    · subst h;have e:lev l r (asksN 6 0)=notOf l (sub l r):=lev4 r;rw [e] at hgo;exact hgo
    · subst h;exact hgo
 by_cases c18:t.op=18
 · obtain ⟨a,b,c,hk⟩:=len3 (hkc.2.2.2.1 c18);have hends:=h18 c18
   have hb:bodyOf t ends=ifTk 0 :: (tkT a 0 true++(ifTk 1 :: (tkT b 0 true++(ifTk 2 :: tkT c 0 true)))):=by
    unfold bodyOf bodyTk;rw [iN (by omega),iN (by omega),iP c18,hk];simp [tkIf]
   have er:ruleOf t.op=8:=by rw [c18];rfl
   rw [hb] at hat hf he ⊢;rw [er];obtain ⟨r',rfl,hsub⟩:=sub_pos (l:=l) hr hd;obtain ⟨TA,hTA⟩:=ex_ (tkT a 0 true);obtain ⟨TB,hTB⟩:=ex_ (tkT b 0 true);obtain ⟨TC,hTC⟩:=ex_ (tkT c 0 true);rw [←hTA,←hTB,←hTC] at hat he ⊢;have hlen:i+(ifTk 0 :: (TA++(ifTk 1 :: (TB++(ifTk 2 :: TC))))).length=i+1+TA.length+1+TB.length+1+TC.length:=by simp;omega
   rw [hlen] at he ⊢;have hA:=hat.tail.left;have h1:=hat.tail.right;have hB:=h1.tail.left;have h2:=h1.tail.right;have hC:=h2.tail;have pa:=(ih a (by rw [hk];simp)).a 0 true r' (i+1) (by omega) (by omega) (by rw [←hTA];exact hA) (by rw [←hTA];exact follow_tk h1 (by unfold closes;decide)) (fun _=>by rw [←hTA];exact follow_tk h1 (by unfold closes;decide));have pb:=(ih b (by rw [hk];simp)).a 0 true r' (i+1+TA.length+1) (by omega) (by omega) (by rw [←hTB];exact hB) (by rw [←hTB];exact follow_tk h2 (by unfold closes;decide)) (fun _=>by rw [←hTB];exact follow_tk h2 (by unfold closes;decide));have pc:=(ih c (by rw [hk];simp)).a 0 true r' (i+1+TA.length+1+TB.length+1) (by omega) (by omega) (by rw [←hTC];exact hC) (by rw [←hTC];exact he hends) (fun _=>by rw [←hTC];exact he hends);rw [←hTA] at pa;rw [←hTB] at pb;rw [←hTC] at pc;obtain ⟨u,hu,a1,a2,a3⟩:=hat.head;obtain ⟨v,hv,b1,b2,b3⟩:=h1.head;obtain ⟨x,hx,d1,d2,d3⟩:=h2.head;simp only [ifTk,wd] at a1 a2 a3 b1 b2 b3 d1 d2 d3;show unitF l ((sub l (r'+1)).map Lvl.term) i=_;rw [hsub,hne,hk,c18];have pa':(lvl l r').term (i+1)=.ok a (i+1+TA.length):=pa;have pb':(lvl l r').term (i+1+TA.length+1)=.ok b (i+1+TA.length+1+TB.length):=pb;have pc':(lvl l r').term (i+1+TA.length+1+TB.length+1)=.ok c (i+1+TA.length+1+TB.length+1+TC.length):=pc
   have q1:isTk l (i+1+TA.length) 3 wThen=true:=by rw [isTk_at hv,b1,b3];decide
   have q2:isTk l (i+1+TA.length+1+TB.length) 3 wElse=true:=by rw [isTk_at hx,d1,d3];decide
   have hch:choiceB l ((some (lvl l r')).map Lvl.term) i=.ok (tmOf 18 [a,b,c]) (i+1+TA.length+1+TB.length+1+TC.length):=by
    simp [choiceB,inner,pa',pb',pc',q1,q2]
   unfold unitF;rw [isTk_at hu,isTk_at hu,isTk_at hu,isTk_at hu,isTk_at hu,isTk_at hu,a1,a3,hch];simp [wIf,wTrue,wFalse,wNext]
 obtain ⟨a,b,hk⟩:=len2 (hkc.2.2.1 (by omega) (by omega))
 by_cases c14:t.op=14∨t.op=15
 · have er:ruleOf t.op=6:=by rcases c14 with h | h <;> rw [h] <;> rfl
   rw [er] at hf ⊢;exact lft_end (body_l6 hok c14 ih ends r i hr hat (hf.mono (by omega)) he) hat (follow_list hf (by decide))
 by_cases c16:t.op=16∨t.op=17
 · have er:ruleOf t.op=7:=by rcases c16 with h | h <;> rw [h] <;> rfl
   rw [er] at hf ⊢;exact lft_end (body_l7 hok c16 ih ends r i hr hat he) hat (follow_list hf (by decide))
 rw [bodyOf_bin (by omega) (by omega),hk,tkJoin2] at hat hf he ⊢;rw [hk] at hne;obtain ⟨TA,hTA⟩:=ex_ (tkT a (asksN t.op 0) false);obtain ⟨TB,hTB⟩:=ex_ (tkT b (asksN t.op 1) ends);rw [←hTA,←hTB] at hat hf he ⊢;have hlen:i+(TA++([opTk t.op]++TB)).length=i+TA.length+1+TB.length:=by simp;omega
 rw [hlen] at hf he ⊢;have hA:=hat.left;have hO:At l (i+TA.length) (opTk t.op :: TB):=by simpa using hat.right
 have hB:=hO.tail;have hbm:t.op∈binOps:=binOps_mem (by omega) (by omega)
 have hlt:ruleOf t.op<asksN t.op 0:=by
  have:t.op=8∨t.op=9∨t.op=10∨t.op=11∨t.op=12∨t.op=13:=by omega
  rcases this with h | h | h | h | h | h <;> rw [h] <;> decide
 have hask8:asksN t.op 0≤8∧asksN t.op 1≤8∧ruleOf t.op≤asksN t.op 1:=by
  have:t.op=8∨t.op=9∨t.op=10∨t.op=11∨t.op=12∨t.op=13:=by omega
  rcases this with h | h | h | h | h | h <;> rw [h] <;> decide
 have pa:=fun r' (hr':130≤r'+2*(d+1))=>(ih a (by rw [hk];simp)).a (asksN t.op 0) false r' i (by omega) hr' (by rw [←hTA];exact hA) (by rw [←hTA];exact follow_op hO (by omega) (by omega) hlt) (fun h=>by cases h);have pb:=fun r' (hr':130≤r'+2*(d+1))=>(ih b (by rw [hk];simp)).a (asksN t.op 1) ends r' (i+TA.length+1) (by omega) hr' (by rw [←hTB];exact hB) (by rw [←hTB];exact hf.mono hask8.2.2) (fun h=>by rw [←hTB];exact he h);rw [←hTA] at pa;rw [←hTB] at pb
 by_cases c8:t.op=8
 · rw [c8] at pa pb hO;obtain ⟨r',rfl,hsub⟩:=sub_pos (l:=l) hr hd;rw [hne,c8];show lev l (r'+1) 1 i=_;rw [lev1,hsub];have pa':orOf l (some (lvl l r')) i=.ok a (i+TA.length):=by rw [←hsub];exact pa (r'+1) (by omega)
   have pb':(lvl l r').imp (i+TA.length+1)=.ok b (i+TA.length+1+TB.length):=pb r' (by omega);have hw:=whichOp_hit hO;unfold impB;rw [pa',Rs.then_ok,hw,iN (by decide)];simp [inner,pb']
 by_cases c9:t.op=9
 · rw [c9] at pa pb hO;rw [hne,c9];show lev l r 0 i=_;rw [lev0];have pa':impOf l (sub l r) i=.ok a (i+TA.length):=by have:=pa r (by omega);rwa [show asksN 9 0=1 from rfl,lev1] at this
   have pb':impOf l (sub l r) (i+TA.length+1)=.ok b (i+TA.length+1+TB.length):=by have:=pb r (by omega);rwa [show asksN 9 1=1 from rfl,lev1] at this
   have hw:=whichOp_hit hO;unfold termB;rw [pa',Rs.then_ok,hw,iN (by decide),pb']
   rfl
 have cc:t.op=10∨t.op=11∨t.op=12∨t.op=13:=by omega
 have e0:asksN t.op 0=6:=by rcases cc with h | h | h | h <;> rw [h] <;> rfl
 have e1:asksN t.op 1=6:=by rcases cc with h | h | h | h <;> rw [h] <;> rfl
 have er:ruleOf t.op=5:=by rcases cc with h | h | h | h <;> rw [h] <;> rfl
 rw [e0] at pa;rw [e1] at pb;rw [er,hne];show lev l r 4 i=_;rw [lev4];have pa':sumB l ((sub l r).map Lvl.term) i=.ok a (i+TA.length):=pa r (by omega);have pb':sumB l ((sub l r).map Lvl.term) (i+TA.length+1)=.ok b (i+TA.length+1+TB.length):=pb r (by omega);have hw:whichOp l (i+TA.length) [10,11,12,13]=t.op:=whichOp_in hO hbm (by decide) (by rcases cc with h | h | h | h <;> rw [h] <;> decide);unfold notB;rw [bang_sum pa',iN (by decide),pa',Rs.then_ok,hw,iN (by omega),pb']
 rfl
theorem pt_ok:∀ (N:Nat) (t:Tm) (d:Nat),t.size≤N→t.okT d→toldT t=true→PT l t d
 | 0,t,d,hN,_,_=>by cases t;rw [Tm.size] at hN;omega
 | N+1,t,d,hN,hok,htl=>by
  have ih:∀ k∈t.kids,PT l k (d+1):=fun k hk=>by
   have h1:=Tm.sizeL_mem hk;have hks:=(kids_count hok).1
   have h2:t.op≠3∧t.op≠4:=by
    refine ⟨fun h=>?_,fun h=>?_⟩
    · have:=List.eq_nil_of_length_eq_zero (hks (by omega));rw [this] at hk;cases hk
    · have:=List.eq_nil_of_length_eq_zero (hks (by omega));rw [this] at hk;cases hk
   refine pt_ok N k (d+1) ?_ ((okT_open hok).2.2 k hk) (told_kids htl h2.1 h2.2 k hk)
   cases t with
   | mk o nn ss l=>rw [Tm.size] at hN;simp only [Tm.kids] at h1;omega
  have hd:=(okT_open hok).1;have hB:=body_ok hok htl ih
  have hr8:ruleOf t.op≤8:=by
   unfold ruleOf
   iterate 8 (split;· omega)
   omega
  have h8:∀ ends r i,130≤r+2*d→At l i (tkT t 8 ends)→(ends=true→Follow l (i+(tkT t 8 ends).length) 0)→lev l r 8 i=.ok t (i+(tkT t 8 ends).length):=by
   intro ends r i hr hat he;rw [tkT_eq] at hat he ⊢
   cases hp:parens t 8 ends with
   | true=>
    rw [hp] at hat he;simp only [wrapTk,if_true,Bool.true_or] at hat he ⊢;obtain ⟨r',rfl,hsub⟩:=sub_pos (l:=l) (r:=r) (d:=d) (by omega) hd;obtain ⟨T,hT⟩:=ex_ (bodyOf t true);rw [←hT] at hat he ⊢;have hat1:At l i (sg [40] :: (T++[sg [41]])):=by simpa using hat
    have hat2:=hat1.tail.left;have hat3:At l (i+1+T.length) [sg [41]]:=hat1.tail.right;have hcl:∀ k,Follow l (i+1+T.length) k:=fun k=>follow_tk hat3 (by unfold closes;decide);have hb:=hB true r' (i+1) (by omega) (by rw [←hT];exact hat2) (by rw [←hT];exact hcl _) (fun _=>by rw [←hT];exact hcl _) (fun _=>rfl);rw [←hT] at hb;have h0:=lift' (zl _) hr8 hb (hcl 0);have h0':(lvl l r').term (i+1)=.ok t (i+1+T.length):=h0;obtain ⟨u,hu,a1,a2,a3⟩:=hat1.head;obtain ⟨v,hv,b1,b2,b3⟩:=hat3.head;simp only [sg] at a1 a2 a3 b1 b2 b3;show unitF l ((sub l (r'+1)).map Lvl.term) i=_;rw [hsub];have hlen:i+([sg [40]]++T++[sg [41]]).length=i+1+T.length+1:=by simp;omega
    rw [hlen];simp [unitF,isTk_at hu,isTk_at hv,a1,a3,b1,b3,inner,h0',wTrue,wFalse,wNext]
   | false=>
    rw [hp] at hat he;simp only [wrapTk,Bool.false_or] at hat he ⊢;have hp':=hp;unfold parens at hp';simp at hp';have er:ruleOf t.op=8:=by omega
    have hb:=hB ends r i (by omega) hat (fun op h1 h2 h3=>by
     exfalso
     have:∀ o∈binOps,ruleOf o<8:=by decide
     have:=this op (binOps_mem h1 h2)
     omega) he (fun h=>hp'.2 h)
    rw [er] at hb;exact hb
  have hsame:∀ rule ends,rule≤8→parens t rule ends=true→tkT t rule ends=tkT t 8 ends:=fun rule ends hr hp=>by
   have h1:parens t 8 ends=true:=by
    unfold parens at hp ⊢;simp at hp ⊢
    rcases hp with h | h
    · left;omega
    · exact .inr h
   rw [tkT_eq,tkT_eq,hp,h1]
  have hbody:∀ rule ends,parens t rule ends=false→tkT t rule ends=bodyOf t ends∧rule≤ruleOf t.op∧(t.op=18→ends=true):=fun rule ends hp=>by
   have hp':=hp;unfold parens at hp';simp at hp';exact ⟨by rw [tkT_eq,hp];rfl,by omega,hp'.2⟩
  have hA:∀ rule ends r i,rule≤8→130≤r+2*d→At l i (tkT t rule ends)→Follow l (i+(tkT t rule ends).length) rule→(ends=true→Follow l (i+(tkT t rule ends).length) 0)→lev l r rule i=.ok t (i+(tkT t rule ends).length):=by
   intro rule ends r i hru hr hat hf he
   cases hp:parens t rule ends with
   | true=>
    rw [hsame rule ends hru hp] at hat hf he ⊢;exact lift' hru (lr _) (h8 ends r i hr hat he) hf
   | false=>
    obtain ⟨e1,e2,e3⟩:=hbody rule ends hp;rw [e1] at hat hf he ⊢;exact lift' e2 hr8 (hB ends r i (by omega) hat (hf.mono e2) he e3) hf
  refine ⟨hA,?_,?_⟩
  · intro ends r i hr hat hf he
    cases hp:parens t 6 ends with
    | true=>
     rw [hsame 6 ends (by omega) hp] at hat hf he ⊢;exact lft_zero (lift' (a:=7) (by omega) (lr _) (h8 ends r i hr hat he) hf)
    | false=>
     obtain ⟨e1,e2,e3⟩:=hbody 6 ends hp;rw [e1] at hat hf he ⊢
     by_cases h6:ruleOf t.op=6
     · have ho:t.op=14∨t.op=15:=by
        have hrg:=op_range hok;have:t.op=1∨t.op=2∨t.op=3∨t.op=4∨t.op=5∨t.op=6∨t.op=7∨t.op=8∨t.op=9∨t.op=10∨t.op=11∨t.op=12∨t.op=13∨t.op=14∨t.op=15∨t.op=16∨t.op=17∨t.op=18:=by omega
        rcases this with h | h | h | h | h | h | h | h | h | h | h | h | h | h | h | h | h | h <;> rw [h] at h6 <;> first | (exact absurd h6 (by decide)) | omega
       exact body_l6 hok ho ih ends r i (by omega) hat hf he
     · exact lft_zero (lift' (a:=7) (by omega) hr8 (hB ends r i (by omega) hat (hf.mono (by omega)) he e3) hf)
  · intro ends r i hr hat he
    cases hp:parens t 7 ends with
    | true=>
     rw [hsame 7 ends (by omega) hp] at hat he ⊢;exact lft_zero (h8 ends r i hr hat he)
    | false=>
     obtain ⟨e1,e2,e3⟩:=hbody 7 ends hp;rw [e1] at hat he ⊢
     by_cases h7:ruleOf t.op=7
     · have ho:t.op=16∨t.op=17:=by
        have hrg:=op_range hok;have:t.op=1∨t.op=2∨t.op=3∨t.op=4∨t.op=5∨t.op=6∨t.op=7∨t.op=8∨t.op=9∨t.op=10∨t.op=11∨t.op=12∨t.op=13∨t.op=14∨t.op=15∨t.op=16∨t.op=17∨t.op=18:=by omega
        rcases this with h | h | h | h | h | h | h | h | h | h | h | h | h | h | h | h | h | h <;> rw [h] at h7 <;> first | (exact absurd h7 (by decide)) | omega
       exact body_l7 hok ho ih ends r i (by omega) hat he
     · have er:ruleOf t.op=8:=by omega
       have hb:=hB ends r i (by omega) hat (fun op h1 h2 h3=>by
        exfalso
        have:∀ o∈binOps,ruleOf o<8:=by decide
        have:=this op (binOps_mem h1 h2)
        omega) he e3
       rw [er] at hb;exact lft_zero hb
end
open Go.RowKit
def Toks (l:Bs):Nat→List Tok→Prop
 | p,[]=>(next l p).2.2=0∧(next l p).1.kind=5
 | p,t :: r=>(next l p).2.2=0∧(next l p).1=t∧t.kind≠5∧Toks l (next l p).2.1 r
theorem allFrom_toks:∀ (n:Nat) (l:Bs) (p:Nat) (acc:List Tok),p≤l.length→l.length+1 - p≤n→∀ (ts:List Tok) (a:Int),allFrom l p acc=(ts,a,0)→∃ r,ts=acc++r∧Toks l p r
 | 0,l,p,acc,hp,hn,ts,a,h=>by omega
 | n+1,l,p,acc,hp,hn,ts,a,h=>by
  by_cases he:(next l p).2.2=0
  · by_cases hk:(next l p).1.kind=5
    · rw [allFrom_end he hk] at h;simp only [Prod.mk.injEq] at h;exact ⟨[],by simp [h.1],he,hk⟩
    · rw [allFrom_more hp he hk] at h
      rcases next_ok hp he with ⟨h3,_⟩ | ⟨_,h4,h5⟩
      · exact absurd h3 hk
      · obtain ⟨r,hr,ht⟩:=allFrom_toks n l _ _ h5 (by omega) ts a h;exact ⟨(next l p).1 :: r,by rw [hr];simp,he,rfl,hk,ht⟩
  · rw [allFrom_err he] at h;simp only [Prod.mk.injEq] at h;exact absurd h.2.2 he
theorem toks_allFrom:∀ (r:List Tok) (l:Bs) (p:Nat) (acc:List Tok),p≤l.length→Toks l p r→allFrom l p acc=(acc++r,0,0)
 | [],l,p,acc,hp,h=>by rw [allFrom_end h.1 h.2,List.append_nil]
 | t :: r,l,p,acc,hp,h=>by
  obtain ⟨he,ht,hk,hr⟩:=h;rw [allFrom_more hp he (by rw [ht];exact hk)]
  rcases next_ok hp he with ⟨h3,_⟩ | ⟨_,h4,h5⟩
  · rw [ht] at h3;exact absurd h3 hk
  · rw [toks_allFrom r l _ _ h5 hr,ht];simp
theorem all_toks {l:Bs} {ts:List Tok} {a:Int} (h:all l=(ts,a,0)):Toks l 0 ts∧a=0∧l.length≤65536:=by
 unfold all at h
 by_cases h1:65536<l.length
 · rw [iP h1] at h;simp at h
 · rw [iN h1] at h;obtain ⟨r,hr,ht⟩:=allFrom_toks (l.length+1) l 0 [] (zl _) (by omega) ts a h;rw [List.nil_append] at hr;subst hr;have:=toks_allFrom ts l 0 [] (zl _) ht
   change allF (l.length+1) l 0 []=_ at this
   rw [h] at this;simp only [Prod.mk.injEq] at this;exact ⟨ht,this.2.1,by omega⟩
theorem toks_all {l:Bs} {ts:List Tok} (hl:l.length≤65536) (h:Toks l 0 ts):all l=(ts,0,0):=by
 unfold all;rw [iN (by omega)];exact toks_allFrom ts l 0 [] (zl _) h
def Solid (l:Bs):Prop:=l=[]∨∃ c r,l=c :: r∧isWs c=false∧dashes l=false
theorem solid_blank {l:Bs} (h:Solid l):blank l=l:=by
 rcases h with rfl | ⟨c,r,rfl,h1,h2⟩
 · rfl
 · exact blank_stop h1 h2
theorem next_form {l:Bs} {p:Nat} (hp:p≤l.length) (h:(next l p).2.2=0):∃ (k:Int) (n len q:Nat) (r:Bs),blank (l.drop p)=r∧l.drop q=r∧q=l.length - r.length∧p≤q∧q≤l.length∧scan r=(k,n,len,0)∧len≤r.length∧next l p=(⟨k,n,r.take len,q⟩,q+len,0):=by
 have hb:=blank_len (l.drop p);rw [List.length_drop] at hb;have hsuf:blank (l.drop p) <:+ l:=(blank_suffix _).trans (List.drop_suffix _ _);have hd:=suffix_drop hsuf
 generalize hr:blank (l.drop p)=r at *
 have hs:scan r=((scan r).1,(scan r).2.1,(scan r).2.2.1,0):=by
  unfold next at h;rw [hr] at h;simp only at h
  split at h
  · rename_i he
    rw [←he]
  · rename_i he
    simp at h;exact absurd h he
 refine ⟨(scan r).1,(scan r).2.1,(scan r).2.2.1,l.length - r.length,r,rfl,hd,rfl,by omega,by omega,hs,?_,?_⟩
 · rcases scan_ok hs with ⟨_,_,h3,_⟩ | ⟨_,_,h3⟩ <;> omega
 · have:=next_eq (p:=p) hr hd (by omega) hs;rw [iP rfl] at this;exact this
theorem ws_cases {c:UInt8} (h:isWs c=true):c.toNat=32∨c.toNat=9∨c.toNat=10∨c.toNat=13:=by
 unfold isWs at h;simp at h;omega
theorem rowLen_sep {p:UInt8→Bool} {sep:Bs} (h:∀ c,sep.head?=some c→p c=false):rowLen p sep=0:=by
 cases sep with
 | nil=>rfl
 | cons c r=>exact rowLen_cons_false (h c rfl)
def LexTo:List Tok→Bs→Prop
 | [],s=>blank s=[]
 | t :: r,s=>∃ n len:Nat,scan (blank s)=(t.kind,n,len,0)∧t.n=n∧t.text=(blank s).take len∧t.kind≠5∧LexTo r ((blank s).drop len)
theorem lexTo_toks:∀ (ts:List Tok) (l:Bs) (p:Nat),p≤l.length→LexTo ts (l.drop p)→∃ us,Toks l p us∧us.length=ts.length∧At us 0 ts
 | [],l,p,hp,h=>by
  have hb:blank (l.drop p)=[]:=h;have hq:l.drop l.length=[]:=by simp
  have hn:=next_eq hb hq (lr _) scan_end;rw [iP rfl] at hn;exact ⟨[],⟨by rw [hn],by rw [hn]⟩,rfl,fun j t hj=>by simp at hj⟩
 | t :: r,l,p,hp,h=>by
  obtain ⟨n,len,h1,h2,h3,h4,h5⟩:=h;have hsuf:blank (l.drop p) <:+ l:=(blank_suffix _).trans (List.drop_suffix _ _);have hd:=suffix_drop hsuf;have hlen:len≤(blank (l.drop p)).length:=by rcases scan_ok h1 with ⟨_,_,h6,_⟩ | ⟨_,_,h6⟩ <;> omega
  have hbl:=hsuf.length_le;have hn:=next_eq rfl hd (by omega) h1;rw [iP rfl] at hn;have hdr:(blank (l.drop p)).drop len=l.drop (l.length - (blank (l.drop p)).length+len):=by rw [←List.drop_drop,hd]
  rw [hdr] at h5;obtain ⟨us,u1,u2,u3⟩:=lexTo_toks r l _ (by omega) h5;refine ⟨(next l p).1 :: us,⟨by rw [hn],rfl,by rw [hn];exact h4,by rw [hn];exact u1⟩,by simp [u2],fun j x hj=>?_⟩
  cases j with
  | zero=>
   simp at hj;subst hj;exact ⟨(next l p).1,rfl,by rw [hn],by rw [hn,h2],by rw [hn,h3]⟩
  | succ j=>
   obtain ⟨u,hu,hx⟩:=u3 j x (by simpa using hj);exact ⟨u,by simpa [Nat.add_comm] using hu,hx⟩
theorem lexTo_ws {c:UInt8} {s:Bs} {ts:List Tok} (hc:isWs c=true) (h:LexTo ts s):LexTo ts (c :: s):=by
 cases ts with
 | nil=>show blank (c :: s)=[];rw [blank_ws hc];exact h
 | cons t r=>
  obtain ⟨n,len,h1,h2,h3,h4,h5⟩:=h;exact ⟨n,len,by rw [blank_ws hc];exact h1,h2,by rw [blank_ws hc];exact h3,h4,by rw [blank_ws hc];exact h5⟩
theorem lexTo_cons {t:Tok} {x s:Bs} {r:List Tok} {n:Nat} (hs:scan (x++s)=(t.kind,n,x.length,0)) (hn:t.n=n) (hx:t.text=x) (hk:t.kind≠5) (hsol:Solid (x++s)) (h:LexTo r s):LexTo (t :: r) (x++s):=by
 have hb:=solid_blank hsol;refine ⟨n,x.length,by rw [hb];exact hs,hn,by rw [hb,hx];simp,hk,?_⟩;rw [hb]
 simpa using h
theorem solid_head {c:UInt8} {s:Bs} (h1:isWs c=false) (h2:c.toNat≠45):Solid (c :: s):=by
 refine .inr ⟨c,s,rfl,h1,?_⟩;unfold dashes
 cases hd:Lib.hasPrefix (c :: s) [45,45] with
 | false=>rfl
 | true=>
  have:=dashes_form (l:=c :: s) hd;obtain ⟨r,hr⟩:=this
  injection hr with hr _
  subst hr;exact absurd rfl h2
theorem lex_open (s:Bs):scan (40 :: s)=(4,0,1,0):=rfl
theorem lex_close (s:Bs):scan (41 :: s)=(4,0,1,0):=rfl
theorem lex_lb (s:Bs):scan (91 :: s)=(4,0,1,0):=rfl
theorem lex_rb (s:Bs):scan (93 :: s)=(4,0,1,0):=rfl
theorem lex_bang {c:UInt8} {s:Bs} (h:c≠61):scan (33 :: c :: s)=(4,0,1,0):=by
 have h1:¬(61:UInt8)=c:=fun e=>h e.symm;simp [scan,isLetter,isDigit,signIdx,signL,bs,h1]
 rfl
theorem lex_minus {c:UInt8} {s:Bs} (h:isDigit c=true):scan (45 :: c :: s)=(4,0,1,0):=by
 have h1:¬(62:UInt8)=c:=by
  intro e;subst e
  revert h
  decide
 simp [scan,isLetter,isDigit,signIdx,signL,bs,h1]
 rfl
theorem lex_bin {op:Int} (h1:6≤op) (h2:op≤16) (s:Bs):scan (signB op++32 :: s)=(4,0,(signB op).length,0)∧Solid (signB op++32 :: s):=by
 have:op=6∨op=7∨op=8∨op=9∨op=10∨op=11∨op=12∨op=13∨op=14∨op=15∨op=16:=by omega
 rcases this with rfl | rfl | rfl | rfl | rfl | rfl | rfl | rfl | rfl | rfl | rfl
 all_goals refine ⟨rfl,.inr ⟨_,_,rfl,rfl,rfl⟩⟩
theorem rowLen_all_glue {p:UInt8→Bool} {s:Bs} (h:∀ c,s.head?=some c→p c=false):∀ (x:Bs),(∀ c∈x,p c=true)→rowLen p (x++s)=x.length
 | [],_=>rowLen_sep h
 | c :: x,hx=>by
  rw [List.cons_append,rowLen_cons_true (hx c (by simp)),rowLen_all_glue h x (fun d hd=>hx d (by simp [hd]))]
  rfl
def SafeB (s:Bs):Prop:=∀ c,s.head?=some c→c=32∨c=41∨c=93
theorem safe_not {s:Bs} (h:SafeB s) (p:UInt8→Bool) (hp:p 32=false∧p 41=false∧p 93=false):∀ c,s.head?=some c→p c=false:=fun c hc=>by
 rcases h c hc with rfl | rfl | rfl
 · exact hp.1
 · exact hp.2.1
 · exact hp.2.2
theorem letter_facts {c:UInt8} (h:isLetter c=true):isWs c=false∧c.toNat≠45∧c≠61:=by
 have h':=h;unfold isLetter at h';simp at h';refine ⟨?_,by omega,fun e=>by subst e;revert h;decide⟩
 cases hw:isWs c with
 | false=>rfl
 | true=>
  have:=ws_cases hw;omega
theorem lex_letters {c:UInt8} {x s:Bs} (hc:isLetter c=true) (hx:∀ d∈c :: x,isInside d=true) (hl:(c :: x).length≤24) (hs:∀ d,s.head?=some d→isInside d=false):scan (c :: x++s)=(if isWord (c :: x) then 3 else 2,0,(c :: x).length,0)∧Solid (c :: x++s):=by
 have hr:=rowLen_all_glue hs (c :: x) hx;have hf:=letter_facts hc;refine ⟨?_,solid_head hf.1 hf.2.1⟩;rw [List.cons_append] at hr ⊢;rw [scan_letter hc,hr,iN (by omega)];have ht:(c :: (x++s)).take (c :: x).length=c :: x:=by rw [←List.cons_append,List.take_left' rfl]
 rw [ht]
 split <;> rfl
theorem name_facts {x:Bs} (h:isName x=true):∃ c r,x=c :: r∧isLetter c=true∧(∀ d∈x,isInside d=true)∧x.length≤24∧isWord x=false:=by
 unfold isName at h;simp at h;obtain ⟨⟨⟨⟨h1,h2⟩,h3⟩,h4⟩,h5⟩:=h
 cases x with
 | nil=>exact absurd rfl h1
 | cons c r=>
  refine ⟨c,r,rfl,by simpa using h3,fun d hd=>?_,h2,h5⟩;have:=rowLen_all (p:=isInside) (l:=c :: r) d;rw [h4] at this;exact this (by simpa using hd)
theorem lex_name {x s:Bs} (h:isName x=true) (hs:∀ d,s.head?=some d→isInside d=false) {ts:List Tok} (hl:LexTo ts s):LexTo (nmTk x :: ts) (x++s):=by
 obtain ⟨c,r,rfl,h1,h2,h3,h4⟩:=name_facts h;obtain ⟨h5,h6⟩:=lex_letters h1 h2 h3 hs;rw [h4] at h5;exact lexTo_cons h5 rfl rfl (show (2:Int)≠5 by decide) h6 hl
theorem lex_word {c:UInt8} {x s:Bs} (hc:isLetter c=true) (hx:∀ d∈c :: x,isInside d=true) (hl:(c :: x).length≤24) (hw:isWord (c :: x)=true) (hs:∀ d,s.head?=some d→isInside d=false) {ts:List Tok} (h:LexTo ts s):LexTo (wd (c :: x) :: ts) (c :: x++s):=by
 obtain ⟨h5,h6⟩:=lex_letters hc hx hl hs;rw [hw] at h5;exact lexTo_cons h5 rfl rfl (show (3:Int)≠5 by decide) h6 h
theorem decB_small:∀ n,n<256→(decB n)≠[]∧(∀ c∈decB n,isDigit c=true)∧numSpec (decB n)=(n,(decB n).length,0):=by decide +kernel
theorem numSpec_digits {x s:Bs} (hx:∀ c∈x,isDigit c=true) (h0:x≠[]) (hs:∀ d,s.head?=some d→isDigit d=false):numSpec (x++s)=numSpec x:=by
 have h1:=rowLen_all_glue hs x hx;have h2:=rowLen_all_glue (p:=isDigit) (s:=[]) (fun c hc=>by cases hc) x hx;rw [List.append_nil] at h2;unfold numSpec;rw [h1,h2,List.take_left' rfl,List.take_of_length_le (lr _)]
 have:(x++s)[0]?=x[0]?:=by
  cases x with
  | nil=>exact absurd rfl h0
  | cons c r=>rfl
 rw [this]
theorem lex_num {n:Nat} (hn:n<256) {s:Bs} (hs:∀ d,s.head?=some d→isDigit d=false) {ts:List Tok} (h:LexTo ts s):LexTo (nuTk (n:Int) :: ts) (decB n++s):=by
 obtain ⟨h1,h2,h3⟩:=decB_small n hn;have h4:=numSpec_digits h2 h1 hs;rw [h3] at h4
 have hsol:∃ c r,decB n=c :: r∧isDigit c=true:=by
  cases hd:decB n with
  | nil=>exact absurd hd h1
  | cons c r=>exact ⟨c,r,rfl,h2 c (by rw [hd];simp)⟩
 obtain ⟨c,r,hcr,hc⟩:=hsol;have hc':=hc;unfold isDigit at hc';simp at hc'
 have hlet:isLetter c=false:=by
  unfold isLetter;simp;omega
 have hws:isWs c=false:=by
  cases hw:isWs c with
  | false=>rfl
  | true=>have:=ws_cases hw;omega
 refine lexTo_cons (n:=n) ?_ rfl (by show decB _=_;simp) (show (1:Int)≠5 by decide) (by rw [hcr];exact solid_head hws (by omega)) h;rw [hcr,List.cons_append] at h4 ⊢;rw [scan_digit hlet hc,h4];rw [iP rfl]
 rfl
end Go.Proofs.YtnbphgeepnknlaaGreatDoor
