/- Walks and plain words: FRdA FRdB. -/
import Derived.Test.YtnbphgeepnknlaaGreatDoorURndT
namespace Go.Proofs.YtnbphgeepnknlaaGreatDoor
set_option linter.unusedVariables false
set_option linter.unusedSectionVars false
def preTk (op:Int):Tok:=if op=2 then sg [33] else if op=6 then wd [69,88] else if op=7 then wd [69,70] else if op=8 then wd [69,71] else if op=10 then wd [65,88] else if op=11 then wd [65,70] else wd [65,71]
def openTk (op:Int):List Tok:=if op=9 then [wd [69],sg [91]] else if op=13 then [wd [65],sg [91]] else []
def inTk (op:Int):Tok:=if op=5 then opTk 8 else if op=4 then opTk 7 else if op=3 then opTk 6 else wd [85]
def closeTk (op:Int):List Tok:=if op=9∨op=13 then [sg [93]] else []
mutual
def ftk:Fm→Nat→List Tok
 | .mk o e l,least=>wrapTk (decide (strongF o<least)) (if o=1 then [sg [91]]++(tkT e 0 true++[sg [93]]) else ftkK o l)
def ftkK (o:Int):List Fm→List Tok
 | []=>[]
 | a :: r=>ftkK2 o (ftk a (if fkids o=2 then leftF o else 4)) r
def ftkK2 (o:Int) (x:List Tok):List Fm→List Tok
 | []=>preTk o :: x
 | b :: _=>openTk o++(x++([inTk o]++(ftk b (rightF o)++closeTk o)))
end
def fbody (f:Fm):List Tok:=if f.op=1 then [sg [91]]++(tkT f.tm 0 true++[sg [93]]) else ftkK f.op f.kids
theorem ftk_eq (f:Fm) (least:Nat):ftk f least=wrapTk (decide (strongF f.op<least)) (fbody f):=by
 cases f;rw [ftk];rfl
def flev (l:List Tok) (r k:Nat):FPar:=match k with
 | 0=>(flvl l r).form
 | 1=>(flvl l r).form
 | 2=>fOrs l (fsub l r)
 | 3=>fAnds l (fsub l r)
 | _=>fUnitB l (fsub l r)
def FFol (l:List Tok) (j k:Nat):Prop:=(k≤1→isTk l j 4 [45,62]=false)∧(k≤2→isTk l j 4 [124]=false)∧(k≤3→isTk l j 4 [38]=false)
theorem FFol.mono {l:List Tok} {j k m:Nat} (h:FFol l j k) (hk:k≤m):FFol l j m:=⟨fun h1=>h.1 (by omega),fun h1=>h.2.1 (by omega),fun h1=>h.2.2 (by omega)⟩
theorem ffol4 {l:List Tok} {j k:Nat} (h:4≤k):FFol l j k:=⟨fun h1=>by omega,fun h1=>by omega,fun h1=>by omega⟩
theorem ffol_end {l:List Tok} {j k:Nat} (h:l.length≤j):FFol l j k:=by
 have hn:l[j]?=none:=List.getElem?_eq_none h;refine ⟨fun _=>?_,fun _=>?_,fun _=>?_⟩ <;> simp [isTk,hn]
theorem ffol_tk {l b:List Tok} {j k:Nat} {t:Tok} (h:At l j (t :: b)) (hc:t.kind≠4∨(t.text≠[45,62]∧t.text≠[124]∧t.text≠[38])):FFol l j k:=by
 obtain ⟨u,hu,hk,-,hx⟩:=h.head
 have key:∀ s:Bs,(t.kind≠4∨t.text≠s)→isTk l j 4 s=false:=fun s hs=>by
  rw [isTk_at hu,hk,hx]
  rcases hs with h | h <;> simp [h]
 refine ⟨fun _=>key _ ?_,fun _=>key _ ?_,fun _=>key _ ?_⟩
 · exact hc.imp id fun h=>h.1
 · exact hc.imp id fun h=>h.2.1
 · exact hc.imp id fun h=>h.2.2
theorem isTk_hit {l b:List Tok} {j:Nat} {t:Tok} (h:At l j (t :: b)) (k:Int) (s:Bs):isTk l j k s=(decide (t.kind=k) && decide (t.text=s)):=by
 obtain ⟨u,hu,hk,-,hx⟩:=h.head;rw [isTk_at hu,hk,hx]
section
variable {l:List Tok}
theorem flev1 (r:Nat):flev l r 1=fFormB l (fsub l r):=by show (flvl l r).form=_;rw [flvl_eq]
theorem rowL_stop {op:Int} {sign:Bs} {part:FPar} {f:Fm} {j:Nat} (h:isTk l j 4 sign=false) (K:Nat):rowL l op sign part K f j=.ok f j:=by cases K <;> simp [rowL,h]
theorem flift_step {r i j k:Nat} {f:Fm} (h1:1≤k) (hk:k<4) (h:flev l r (k+1) i=.ok f j) (hf:FFol l j k):flev l r k i=.ok f j:=by
 have hk':k=1∨k=2∨k=3:=by omega
 rcases hk' with rfl | rfl | rfl
 · rw [flev1];have h':fOrs l (fsub l r) i=.ok f j:=h;unfold fFormB;rw [h',Rs.then_ok,hf.1 (lr _),iN (by decide)]
 · have h':fAnds l (fsub l r) i=.ok f j:=h;show fOrs l (fsub l r) i=_;unfold fOrs rowB;rw [h',Rs.then_ok,rowL_stop (hf.2.1 (lr _))]
 · have h':fUnitB l (fsub l r) i=.ok f j:=h;show fAnds l (fsub l r) i=_;unfold fAnds rowB;rw [h',Rs.then_ok,rowL_stop (hf.2.2 (lr _))]
theorem flift {r i j a:Nat} {f:Fm} (h1:1≤a):∀ (m:Nat),a+m≤4→flev l r (a+m) i=.ok f j→FFol l j a→flev l r a i=.ok f j
 | 0,_,h,_=>h
 | m+1,hm,h,hf=>flift h1 m (by omega) (flift_step (k:=a+m) (by omega) (by omega) h (hf.mono (by omega))) hf
theorem flift' {r i j a b:Nat} {f:Fm} (h1:1≤a) (hab:a≤b) (hb:b≤4) (h:flev l r b i=.ok f j) (hf:FFol l j a):flev l r a i=.ok f j:=by
 obtain ⟨m,rfl⟩:∃ m,b=a+m:=⟨b - a,by omega⟩;exact flift h1 m hb h hf
def FLft (l:List Tok) (op:Int) (sign:Bs) (part:FPar) (i:Nat) (f:Fm) (j:Nat):Prop:=∃ n,n≤j - i∧∀ K,n≤K→(part i).then (fun u m=>rowL l op sign part K u m)=rowL l op sign part (K - n) f j
theorem flft_zero {op:Int} {sign:Bs} {part:FPar} {i j:Nat} {f:Fm} (h:part i=.ok f j):FLft l op sign part i f j:=⟨0,zl _,fun K _=>by rw [h];rfl⟩
theorem flft_end {op:Int} {sign:Bs} {part:FPar} {i:Nat} {f:Fm} {ts:List Tok} (h:FLft l op sign part i f (i+ts.length)) (hat:At l i ts) (hf:isTk l (i+ts.length) 4 sign=false):rowB l op sign part i=.ok f (i+ts.length):=by
 obtain ⟨n,hn,hK⟩:=h
 have hl:n≤l.length:=by
  by_cases h0:ts=[]
  · subst h0;simp at hn;omega
  · have:=hat.le h0;omega
 have:=hK l.length hl;unfold rowB;rw [this,rowL_stop hf]
theorem flft_step {op:Int} {sign:Bs} {part:FPar} {i:Nat} {a b:Fm} {A B:List Tok} (hat:At l i (A++([sg sign]++B))) (ha:FLft l op sign part i a (i+A.length)) (hb:part (i+A.length+1)=.ok b (i+A.length+1+B.length)) :
 FLft l op sign part i (fmOf op [a,b]) (i+(A++([sg sign]++B)).length):=by
 obtain ⟨n,hn,hK⟩:=ha;have h1:At l (i+A.length) (sg sign :: B):=by simpa using hat.right
 have hw:isTk l (i+A.length) 4 sign=true:=by rw [isTk_hit h1];simp [sg]
 refine ⟨n+1,by simp;omega,fun K hk=>?_⟩;rw [hK K (by omega)];obtain ⟨m,hm⟩:∃ m,K - n=m+1:=⟨K - n - 1,by omega⟩;rw [hm,rowL,hw,iP rfl,hb,Rs.then_ok,show K - (n+1)=m from by omega]
 congr 1
 simp;omega
theorem take_at {t:Tm} (hc:t.check=0) (htl:toldT t=true) {i:Nat} (hat:At l i (tkT t 0 true)) (hf:Follow l (i+(tkT t 0 true).length) 0):takeT l i=(t,i+(tkT t 0 true).length,0):=by
 have hok:=(check_ok hc).1;have hp:=(pt_ok (l:=l) t.size t 1 (lr _) hok htl).a 0 true 256 i (by omega) (by omega) hat hf (fun _=>hf);have hp':(lvl l 256).term i=.ok t (i+(tkT t 0 true).length):=hp;unfold takeT;rw [hp'];simp [hc]
end
theorem showTm_ok {t:Tm} (h:(showTm t).2=0):t.check=0∧toldT t=true∧(showTm t).1=shw numS t 0 true∧(shw numS t 0 true).length≤65536:=by
 unfold showTm at h
 by_cases h1:t.check≠0
 · rw [iP h1] at h;exact absurd h h1
 rw [iN h1] at h
 by_cases h2:toldT t=false
 · rw [iP h2] at h;exact absurd h (by simp)
 rw [iN h2] at h
 by_cases h3:65536<(shw numS t 0 true).length
 · rw [iP h3] at h;exact absurd h (by simp)
 refine ⟨by omega,by cases hh:toldT t with | false=>exact absurd hh h2 | true=>rfl,?_,by omega⟩;unfold showTm;rw [iN h1,iN h2,iN h3]
def fbar (f:Fm):Bs×Int:=if f.op=1 then ([91]++(showTm f.tm).1++[93],(showTm f.tm).2) else frmK f.op f.kids
theorem frmT_bar0 (f:Fm) (least:Nat):frmT f least=if (fbar f).2≠0 then ([],(fbar f).2) else if strongF f.op<least then ([40]++(fbar f).1++[41],0) else ((fbar f).1,0):=by
 cases f;rw [frmT];rfl
theorem frmT_err (f:Fm) (least:Nat):(frmT f least).2=(fbar f).2:=by
 rw [frmT_bar0]
 by_cases h:(fbar f).2≠0
 · rw [iP h]
 · rw [iN h];have h0:(fbar f).2=0:=by omega
   split <;> simp [h0]
theorem frmT_txt {f:Fm} (h:(fbar f).2=0) (least:Nat):(frmT f least).1=wrapP (decide (strongF f.op<least)) (fbar f).1:=by
 rw [frmT_bar0,iN (by omega)]
 by_cases hs:strongF f.op<least
 · rw [iP hs,decide_eq_true hs];rfl
 · rw [iN hs,dF hs];rfl
theorem fbar1 {f a:Fm} (ho:f.op≠1) (hk:f.kids=[a]) (hf:fkids f.op=1):fbar f=(preF f.op++(frmT a 4).1,(fbar a).2):=by
 have e:fbar f=frmK f.op f.kids:=by unfold fbar;rw [iN ho]
 rw [e,hk,frmK,frmK2,hf,iN (by decide),frmT_err]
theorem fbar2 {f a b:Fm} (ho:f.op≠1) (hk:f.kids=[a,b]) (hf:fkids f.op=2):fbar f=if (fbar a).2≠0 then ([],(fbar a).2) else (openF f.op++(frmT a (leftF f.op)).1++inF f.op++(frmT b (rightF f.op)).1++closeF f.op,(fbar b).2):=by
 have e:fbar f=frmK f.op f.kids:=by unfold fbar;rw [iN ho]
 rw [e,hk,frmK,frmK2,hf,iP rfl,frmT_err]
 by_cases h:(fbar a).2≠0
 · rw [iP h,iP h]
 · rw [iN h,iN h];show (_,(frmT b (rightF f.op)).2)=_;rw [frmT_err]
theorem fbody1 {f a:Fm} (ho:f.op≠1) (hk:f.kids=[a]) (hf:fkids f.op=1):fbody f=preTk f.op :: ftk a 4:=by
 unfold fbody;rw [iN ho,hk,ftkK,ftkK2,hf,iN (by decide)]
theorem fbody2 {f a b:Fm} (ho:f.op≠1) (hk:f.kids=[a,b]) (hf:fkids f.op=2):fbody f=openTk f.op++(ftk a (leftF f.op)++([inTk f.op]++(ftk b (rightF f.op)++closeTk f.op))):=by
 unfold fbody;rw [iN ho,hk,ftkK,ftkK2,hf,iP rfl]
theorem form_cases {f:Fm} {d:Nat} (h:f.okT d):(f.op=1∧f=.mk 1 f.tm [])∨((f.op=2∨f.op=6∨f.op=7∨f.op=8∨f.op=10∨f.op=11∨f.op=12)∧fkids f.op=1∧∃ a,f.kids=[a]∧f=fmOf f.op [a]) ∨
 ((f.op=3∨f.op=4∨f.op=5∨f.op=9∨f.op=13)∧fkids f.op=2∧∃ a b,f.kids=[a,b]∧f=fmOf f.op [a,b]):=by
 cases f with
 | mk op e ks=>
  rw [Fm.okT] at h;obtain ⟨h1,⟨n,h2⟩,h3⟩:=h;obtain ⟨k0,kl,-⟩:=fstep_ok h2;simp only [Fm.op,Fm.kids,Fm.tm] at k0 kl ⊢
  have hbare:op≠1→e=zeroTm:=fun ho=>by
   have h9:¬64<d:=by omega
   have h8:¬fkids (Fm.mk op e ks).op<0:=fun h=>by
    have h':fkids op<0:=h;omega
   unfold fstepE at h2;rw [iN h9,iN h8] at h2
   by_cases c:ftermE (Fm.mk op e ks)≠0
   · rw [iP c] at h2;exact absurd h2 c
   rw [iN c] at h2
   by_cases c2:((Fm.mk op e ks).kids.length:Int)≠fkids (Fm.mk op e ks).op∨((Fm.mk op e ks).op≠1∧bareB (Fm.mk op e ks).tm=false)
   · rw [iP c2] at h2;cases h2
   have hb:bareB e=true:=by
    cases hb:bareB e with
    | true=>rfl
    | false=>exact absurd (Or.inr ⟨ho,hb⟩) c2
   unfold bareB at hb;simp at hb;obtain ⟨⟨⟨b1,b2⟩,b3⟩,b4⟩:=hb
   cases e with
   | mk o n s l=>
    simp only [Tm.op,Tm.num,Tm.name,Tm.kids] at b1 b2 b3 b4;subst b1 b2;have:=name_nil (s:=s) (by simpa using b3);subst this;have:l=[]:=by simpa using b4
    subst this
    rfl
  unfold fkids at k0 kl ⊢
  by_cases c1:op=1
  · rw [iP c1] at kl;have:ks=[]:=List.eq_nil_of_length_eq_zero (by omega);subst this c1;exact .inl ⟨rfl,rfl⟩
  rw [iN c1] at k0 kl ⊢
  by_cases c2:op=2∨op=6∨op=7∨op=8∨op=10∨op=11∨op=12
  · rw [iP c2] at kl ⊢;obtain ⟨a,rfl⟩:=len1 (l:=ks) (by omega);exact .inr (.inl ⟨c2,rfl,a,rfl,by rw [hbare c1];rfl⟩)
  rw [iN c2] at k0 kl ⊢
  by_cases c3:op=3∨op=4∨op=5∨op=9∨op=13
  · rw [iP c3] at kl ⊢;obtain ⟨a,b,rfl⟩:=len2 (l:=ks) (by omega);exact .inr (.inr ⟨c3,rfl,a,b,rfl,by rw [hbare c1];rfl⟩)
  rw [iN c3] at k0;exact absurd k0 (by decide)
structure PF (l:List Tok) (f:Fm) (d:Nat):Prop where
 a:∀ least r i,1≤least→least≤4→130≤r+2*d→At l i (ftk f least)→FFol l (i+(ftk f least).length) least→flev l r least i=.ok f (i+(ftk f least).length)
 b2:∀ r i,130≤r+2*d→At l i (ftk f 2)→FFol l (i+(ftk f 2).length) 3→FLft l 4 [124] (fAnds l (fsub l r)) i f (i+(ftk f 2).length)
 b3:∀ r i,130≤r+2*d→At l i (ftk f 3)→FLft l 3 [38] (fUnitB l (fsub l r)) i f (i+(ftk f 3).length)
section
variable {l:List Tok}
theorem fsub_pos {r d:Nat} (h:129≤r+2*d) (hd:d≤64):∃ r',r=r'+1∧fsub l r=some (flvl l r'):=by
 cases r with
 | zero=>omega
 | succ r'=>exact ⟨r',rfl,rfl⟩
theorem one_not {i:Nat} {b:List Tok} {t:Tok} (h:At l i (t :: b)) (ht:¬(t.kind=4∧t.text=[33])∧∀ s:Bs,s∈[[69,88],[69,70],[69,71],[65,88],[65,70],[65,71]]→¬(t.kind=3∧t.text=s)):oneOp l i=0:=by
 have key:∀ (k:Int) (s:Bs),¬(t.kind=k∧t.text=s)→isTk l i k s=false:=fun k s hs=>by
  rw [isTk_hit h]
  cases hd:(decide (t.kind=k) && decide (t.text=s)) with
  | false=>rfl
  | true=>exact absurd (by simpa using hd) hs
 unfold oneOp;rw [key 4 _ ht.1,key 3 _ (ht.2 [69,88] (by simp)),key 3 _ (ht.2 [69,70] (by simp)),key 3 _ (ht.2 [69,71] (by simp)),key 3 _ (ht.2 [65,88] (by simp)),key 3 _ (ht.2 [65,70] (by simp)),key 3 _ (ht.2 [65,71] (by simp))]
 rfl
theorem fbody_b4 {f a b:Fm} {d:Nat} (ho:f.op=4) (hk:f.kids=[a,b]) (hfk:fkids f.op=2) (hne:f=fmOf f.op [a,b]) (iha:PF l a (d+1)) (ihb:PF l b (d+1)) (r i:Nat) (hr:129≤r+2*d) (hat:At l i (fbody f))
 (hf:FFol l (i+(fbody f).length) 3):FLft l 4 [124] (fAnds l (fsub l r)) i f (i+(fbody f).length):=by
 have e:fbody f=ftk a 2++([sg [124]]++ftk b 3):=by rw [fbody2 (by omega) hk hfk,ho];simp [openTk,closeTk,inTk,leftF,rightF];rfl
 rw [e] at hat hf ⊢;have hlen:i+(ftk a 2++([sg [124]]++ftk b 3)).length=i+(ftk a 2).length+1+(ftk b 3).length:=by simp;omega
 rw [hlen] at hf;have h1:At l (i+(ftk a 2).length) (sg [124] :: ftk b 3):=by simpa using hat.right
 have ha:=iha.b2 r i (by omega) hat.left ⟨fun h=>by omega,fun h=>by omega,fun _=>by rw [isTk_hit h1];decide⟩;have hb:=ihb.a 3 r _ (by omega) (by omega) (by omega) h1.tail hf;rw [hne,ho];exact flft_step hat ha hb
theorem fbody_b3 {f a b:Fm} {d:Nat} (ho:f.op=3) (hk:f.kids=[a,b]) (hfk:fkids f.op=2) (hne:f=fmOf f.op [a,b]) (iha:PF l a (d+1)) (ihb:PF l b (d+1)) (r i:Nat) (hr:129≤r+2*d) (hat:At l i (fbody f)) :
 FLft l 3 [38] (fUnitB l (fsub l r)) i f (i+(fbody f).length):=by
 have e:fbody f=ftk a 3++([sg [38]]++ftk b 4):=by rw [fbody2 (by omega) hk hfk,ho];simp [openTk,closeTk,inTk,leftF,rightF];rfl
 rw [e] at hat ⊢;have h1:At l (i+(ftk a 3).length) (sg [38] :: ftk b 4):=by simpa using hat.right
 have ha:=iha.b3 r i (by omega) hat.left;have hb:=ihb.a 4 r _ (by omega) (by omega) (by omega) h1.tail (ffol4 (by omega));rw [hne,ho];exact flft_step hat ha hb
theorem fpre_ok {op:Int} (ho:op=2∨op=6∨op=7∨op=8∨op=10∨op=11∨op=12) {i:Nat} {b:List Tok} (h:At l i (preTk op :: b)):oneOp l i=op:=by
 have key:=fun k s=>isTk_hit h k s;unfold oneOp;simp only [key]
 rcases ho with rfl | rfl | rfl | rfl | rfl | rfl | rfl <;> decide
theorem fbody_ok {f:Fm} {d:Nat} (hok:f.okT d) (he:(fbar f).2=0) (ih:∀ k∈f.kids,PF l k (d+1)) (r i:Nat) (hr:129≤r+2*d) (hat:At l i (fbody f)) (hf:FFol l (i+(fbody f).length) (strongF f.op)) :
 flev l r (strongF f.op) i=.ok f (i+(fbody f).length):=by
 have hd:=(fokT_open hok).1
 rcases form_cases hok with ⟨ho,hne⟩ | ⟨ho,hfk,a,hk,hne⟩ | ⟨ho,hfk,a,b,hk,hne⟩
 · have e:fbody f=sg [91] :: (tkT f.tm 0 true++[sg [93]]):=by unfold fbody;rw [iP ho];rfl
   have es:strongF f.op=4:=by rw [ho];rfl
   rw [e] at hat hf ⊢;rw [es];have hb2:(showTm f.tm).2=0:=by unfold fbar at he;rw [iP ho] at he;exact he
   obtain ⟨s1,s2,s3,-⟩:=showTm_ok hb2;have h1:=hat.tail.left;have h2:At l (i+1+(tkT f.tm 0 true).length) [sg [93]]:=hat.tail.right;have ht:=take_at s1 s2 h1 (follow_tk h2 (by unfold closes;decide));show fUnitB l (fsub l r) i=_;unfold fUnitB;rw [one_not hat (by decide),iN (by decide),isTk_hit hat,isTk_hit hat,isTk_hit hat,isTk_hit hat,iN (by decide),iN (by decide),iN (by decide),iP (by decide)];unfold fTerm;rw [ht];simp only;rw [iN (by decide),isTk_hit h2,iP (by decide)];have hl:i+(sg [91] :: (tkT f.tm 0 true++[sg [93]])).length=i+1+(tkT f.tm 0 true).length+1:=by simp;omega
   rw [hl,←hne]
 · have ho1:f.op≠1:=by omega
   have e:=fbody1 ho1 hk hfk;have es:strongF f.op=4:=by rcases ho with h | h | h | h | h | h | h <;> rw [h] <;> rfl
   rw [e] at hat hf ⊢;rw [es];obtain ⟨r',rfl,hsub⟩:=fsub_pos (l:=l) hr hd;have hka:=(ih a (by rw [hk];simp)).a 4 r' (i+1) (by omega) (by omega) (by omega) hat.tail (ffol4 (by omega));have hka':(flvl l r').unit (i+1)=.ok a (i+1+(ftk a 4).length):=by rw [flvl_eq];exact hka
   have hone:=fpre_ok ho hat;show fUnitB l (fsub l (r'+1)) i=_;rw [hsub];unfold fUnitB;rw [hone,iP (by omega)];have hin:fInner ((some (flvl l r')).map FLvl.unit) i=.ok a (i+1+(ftk a 4).length):=hka';have hl:i+(preTk f.op :: ftk a 4).length=i+1+(ftk a 4).length:=by simp;omega
   rw [hin,Rs.then_ok,hl,←hne]
 · have ho1:f.op≠1:=by omega
   have hma:a∈f.kids:=by rw [hk];simp
   have hmb:b∈f.kids:=by rw [hk];simp
   by_cases c4:f.op=4
   · have es:strongF f.op=2:=by rw [c4];rfl
     rw [es] at hf ⊢;exact flft_end (fbody_b4 c4 hk hfk hne (ih a hma) (ih b hmb) r i hr hat (hf.mono (by omega))) hat (hf.2.1 (lr _))
   by_cases c3:f.op=3
   · have es:strongF f.op=3:=by rw [c3];rfl
     rw [es] at hf ⊢;exact flft_end (fbody_b3 c3 hk hfk hne (ih a hma) (ih b hmb) r i hr hat) hat (hf.2.2 (lr _))
   obtain ⟨r',rfl,hsub⟩:=fsub_pos (l:=l) hr hd
   by_cases c5:f.op=5
   · have es:strongF f.op=1:=by rw [c5];rfl
     have e:fbody f=ftk a 2++([sg [45,62]]++ftk b 1):=by rw [fbody2 (by omega) hk hfk,c5];simp [openTk,closeTk,inTk,leftF,rightF];rfl
     rw [es] at hf ⊢;rw [e] at hat hf ⊢;have hlen:i+(ftk a 2++([sg [45,62]]++ftk b 1)).length=i+(ftk a 2).length+1+(ftk b 1).length:=by simp;omega
     rw [hlen] at hf ⊢;have h1:At l (i+(ftk a 2).length) (sg [45,62] :: ftk b 1):=by simpa using hat.right
     have pa:=(ih a hma).a 2 (r'+1) i (by omega) (by omega) (by omega) hat.left ⟨fun h=>by omega,fun _=>by rw [isTk_hit h1];decide,fun _=>by rw [isTk_hit h1];decide⟩;have pb:=(ih b hmb).a 1 r' _ (by omega) (by omega) (by omega) h1.tail hf;rw [flev1,hsub];have pa':fOrs l (some (flvl l r')) i=.ok a (i+(ftk a 2).length):=by rw [←hsub];exact pa
     have pb':fInner ((some (flvl l r')).map FLvl.form) (i+(ftk a 2).length)=.ok b (i+(ftk a 2).length+1+(ftk b 1).length):=pb;unfold fFormB;rw [pa',Rs.then_ok,isTk_hit h1,iP (by decide),pb',Rs.then_ok]
     conv=>rhs;rw [hne,c5]
   have c9:f.op=9∨f.op=13:=by omega
   have es:strongF f.op=4:=by rcases c9 with h | h <;> rw [h] <;> rfl
   obtain ⟨kw,hkw⟩:∃ kw:Bs,kw=if f.op=9 then [69] else [65]:=⟨_,rfl⟩
   have e:fbody f=wd kw :: (sg [91] :: (ftk a 1++(wd [85] :: (ftk b 1++[sg [93]])))):=by
    rw [fbody2 (by omega) hk hfk,hkw]
    rcases c9 with h | h <;> rw [h] <;> simp [openTk,closeTk,inTk,leftF,rightF]
   rw [es];rw [e] at hat ⊢;obtain ⟨TA,hTA⟩:=ex_ (ftk a 1);obtain ⟨TB,hTB⟩:=ex_ (ftk b 1);rw [←hTA,←hTB] at hat ⊢;have hlen:i+(wd kw :: (sg [91] :: (TA++(wd [85] :: (TB++[sg [93]]))))).length=i+2+TA.length+1+TB.length+1:=by simp;omega
   rw [hlen];have h1:=hat.tail;have h2:At l (i+2) (TA++(wd [85] :: (TB++[sg [93]]))):=h1.tail;have h3:=h2.right;have h4:At l (i+2+TA.length+1) (TB++[sg [93]]):=h3.tail;have h5:=h4.right;have pa:=(ih a hma).a 1 r' (i+2) (by omega) (by omega) (by omega) (by rw [←hTA];exact h2.left) (by rw [←hTA];exact ffol_tk h3 (.inl (by decide)));have pb:=(ih b hmb).a 1 r' (i+2+TA.length+1) (by omega) (by omega) (by omega) (by rw [←hTB];exact h4.left) (by rw [←hTB];exact ffol_tk h5 (.inr (by decide)));rw [←hTA] at pa;rw [←hTB] at pb;have pa':(flvl l r').form (i+2)=.ok a (i+2+TA.length):=pa;have pb':(flvl l r').form (i+2+TA.length+1)=.ok b (i+2+TA.length+1+TB.length):=pb
   have hu:untilB l ((some (flvl l r')).map FLvl.form) f.op i=.ok (fmOf f.op [a,b]) (i+2+TA.length+1+TB.length+1):=by
    show (if isTk l (i+1) 4 [91] then ((flvl l r').form (i+2)).then _ else _)=_;rw [isTk_hit h1,iP (by decide),pa',Rs.then_ok,isTk_hit h3,iP (by decide),pb',Rs.then_ok,isTk_hit h5,iP (by decide)]
   show fUnitB l (fsub l (r'+1)) i=_;rw [hsub];unfold fUnitB
   rcases c9 with h | h
   · rw [h] at hu hkw hne;rw [iP rfl] at hkw;subst hkw;rw [one_not hat (by decide),iN (by decide),isTk_hit hat,iP (by decide),hu,←hne]
   · rw [h] at hu hkw hne;rw [iN (by decide)] at hkw;subst hkw;rw [one_not hat (by decide),iN (by decide),isTk_hit hat,iN (by decide),isTk_hit hat,iP (by decide),hu,←hne]
theorem ferr_kids {f:Fm} {d:Nat} (hok:f.okT d) (he:(fbar f).2=0):∀ k∈f.kids,(fbar k).2=0:=by
 rcases form_cases hok with ⟨ho,hne⟩ | ⟨ho,hfk,a,hk,hne⟩ | ⟨ho,hfk,a,b,hk,hne⟩
 · intro k hk;rw [hne] at hk;cases hk
 · rw [fbar1 (by omega) hk hfk] at he;intro k h;rw [hk] at h;simp at h;subst h;exact he
 · rw [fbar2 (by omega) hk hfk] at he;intro k h;rw [hk] at h
   by_cases h0:(fbar a).2≠0
   · rw [iP h0] at he;exact absurd he h0
   · rw [iN h0] at he;simp at h
     rcases h with rfl | rfl
     · omega
     · exact he
theorem pf_ok:∀ (N:Nat) (f:Fm) (d:Nat),f.size≤N→f.okT d→(fbar f).2=0→PF l f d
 | 0,f,d,hN,_,_=>by cases f;rw [Fm.size] at hN;omega
 | N+1,f,d,hN,hok,he=>by
  have ih:∀ k∈f.kids,PF l k (d+1):=fun k hk=>by
   have h1:=Fm.sizeL_mem hk;refine pf_ok N k (d+1) ?_ ((fokT_open hok).2.2 k hk) (ferr_kids hok he k hk)
   cases f with
   | mk o e l=>rw [Fm.size] at hN;simp only [Fm.kids] at h1;omega
  have hd:=(fokT_open hok).1;have hB:=fbody_ok hok he ih
  have hs:1≤strongF f.op∧strongF f.op≤4:=by
   unfold strongF
   iterate 3 (split;· omega)
   omega
  have h8:∀ least r i,strongF f.op<least→130≤r+2*d→At l i (ftk f least)→flev l r 4 i=.ok f (i+(ftk f least).length):=by
   intro least r i hp hr hat;rw [ftk_eq,decide_eq_true hp] at hat ⊢;simp only [wrapTk,if_true] at hat ⊢;obtain ⟨r',rfl,hsub⟩:=fsub_pos (l:=l) (r:=r) (d:=d) (by omega) hd;obtain ⟨T,hT⟩:=ex_ (fbody f);rw [←hT] at hat ⊢;have hat1:At l i (sg [40] :: (T++[sg [41]])):=by simpa using hat
   have hat2:=hat1.tail.left;have hat3:At l (i+1+T.length) [sg [41]]:=hat1.tail.right;have hcl:∀ k,FFol l (i+1+T.length) k:=fun k=>ffol_tk hat3 (.inr (by decide));have hb:=hB r' (i+1) (by omega) (by rw [←hT];exact hat2) (by rw [←hT];exact hcl _);rw [←hT] at hb;have h0:=flift' (lr 1) hs.1 hs.2 hb (hcl 1);have h0':fInner ((some (flvl l r')).map FLvl.form) i=.ok f (i+1+T.length):=h0;have hlen:i+([sg [40]]++T++[sg [41]]).length=i+1+T.length+1:=by simp;omega
   show fUnitB l (fsub l (r'+1)) i=_;rw [hsub,hlen];unfold fUnitB;rw [one_not hat1 (by decide),iN (by decide),isTk_hit hat1,isTk_hit hat1,isTk_hit hat1,iN (by decide),iN (by decide),iP (by decide),h0',Rs.then_ok,isTk_hit hat3,iP (by decide)]
  have hbody:∀ least,¬strongF f.op<least→ftk f least=fbody f:=fun least hp=>by rw [ftk_eq,dF hp];rfl
  refine ⟨?_,?_,?_⟩
  · intro least r i h1 h4 hr hat hf
    by_cases hp:strongF f.op<least
    · exact flift' h1 h4 (lr _) (h8 least r i hp hr hat) hf
    · rw [hbody least hp] at hat hf ⊢;exact flift' h1 (by omega) hs.2 (hB r i (by omega) hat (hf.mono (by omega))) hf
  · intro r i hr hat hf
    by_cases hp:strongF f.op<2
    · exact flft_zero (flift' (a:=3) (by omega) (by omega) (lr _) (h8 2 r i hp hr hat) hf)
    · rw [hbody 2 hp] at hat hf ⊢
      by_cases h2:f.op=4
      · rcases form_cases hok with ⟨ho,hne⟩ | ⟨ho,hfk,a,hk,hne⟩ | ⟨ho,hfk,a,b,hk,hne⟩
        · omega
        · omega
        · exact fbody_b4 h2 hk hfk hne (ih a (by rw [hk];simp)) (ih b (by rw [hk];simp)) r i (by omega) hat hf
      · have h3:3≤strongF f.op:=by
         unfold strongF at hp ⊢
         by_cases c5:f.op=5
         · rw [iP c5] at hp;omega
         · rw [iN c5,iN h2];split <;> omega
        exact flft_zero (flift' (a:=3) (by omega) h3 hs.2 (hB r i (by omega) hat (hf.mono h3)) hf)
  · intro r i hr hat
    by_cases hp:strongF f.op<3
    · exact flft_zero (h8 3 r i hp hr hat)
    · rw [hbody 3 hp] at hat ⊢
      by_cases h2:f.op=3
      · rcases form_cases hok with ⟨ho,hne⟩ | ⟨ho,hfk,a,hk,hne⟩ | ⟨ho,hfk,a,b,hk,hne⟩
        · omega
        · omega
        · exact fbody_b3 h2 hk hfk hne (ih a (by rw [hk];simp)) (ih b (by rw [hk];simp)) r i (by omega) hat
      · have h4:strongF f.op=4:=by
         unfold strongF at hp ⊢
         by_cases c5:f.op=5
         · rw [iP c5] at hp;omega
         · rw [iN c5] at hp ⊢
           by_cases c4:f.op=4
           · rw [iP c4] at hp;omega
           · rw [iN c4,iN h2]
        have:=hB r i (by omega) hat (by rw [h4];exact ffol4 (lr _));rw [h4] at this;exact flft_zero this
end
theorem take_atF {f:Fm} (hc:f.check=0) (he:(fbar f).2=0) {l:List Tok} {i:Nat} (hat:At l i (ftk f 1)) (hf:FFol l (i+(ftk f 1).length) 1):takeF l i=(f,i+(ftk f 1).length,0):=by
 have hok:=(fcheck_ok hc).1;have hp:=(pf_ok (l:=l) f.size f 1 (lr _) hok he).a 1 256 i (by omega) (by omega) (by omega) hat hf;have hp':(flvl l 256).form i=.ok f (i+(ftk f 1).length):=hp;unfold takeF;rw [hp'];simp [hc]
theorem lex_sign1 {c:UInt8} {s:Bs} {ts:List Tok} (h1:isWs c=false) (h2:c.toNat≠45) (hs:scan (c :: s)=(4,0,1,0)) (h:LexTo ts s):LexTo (sg [c] :: ts) ([c]++s):=
 lexTo_cons (n:=0) hs rfl rfl (show (4:Int)≠5 by decide) (solid_head h1 h2) h
def LexF (f:Fm):Prop:=(∀ least,HeadB (frmT f least).1)∧∀ least s ts,SafeB s→LexTo ts s→LexTo (ftk f least++ts) ((frmT f least).1++s)
theorem lex_wd1 {c:UInt8} (hc:c=69∨c=65∨c=85) {s:Bs} {ts:List Tok} (hs:∀ d,s.head?=some d→isInside d=false) (h:LexTo ts s):LexTo (wd [c] :: ts) ([c]++s):=by
 rcases hc with rfl | rfl | rfl
 · exact lex_word (c:=69) (x:=[]) (by decide) (by decide) (by decide) (by decide) hs h
 · exact lex_word (c:=65) (x:=[]) (by decide) (by decide) (by decide) (by decide) hs h
 · exact lex_word (c:=85) (x:=[]) (by decide) (by decide) (by decide) (by decide) hs h
theorem lex_wd2 {a b:UInt8} (hc:(a=69∨a=65)∧(b=88∨b=70∨b=71)) {s:Bs} {ts:List Tok} (hs:∀ d,s.head?=some d→isInside d=false) (h:LexTo ts s):LexTo (wd [a,b] :: ts) ([a,b]++s):=by
 obtain ⟨h1,h2⟩:=hc
 rcases h1 with rfl | rfl <;> rcases h2 with rfl | rfl | rfl
 all_goals exact lex_word (by decide) (by decide) (by decide) (by decide) hs h
theorem in_safe (op:Int) (s:Bs):SafeB (inF op++s):=by
 unfold inF
 split
 · exact safe_cons (.inl rfl)
 split
 · exact safe_cons (.inl rfl)
 split
 · exact safe_cons (.inl rfl)
 · exact safe_cons (.inl rfl)
theorem lex_in (op:Int) {s:Bs} {ts:List Tok} (h:LexTo ts s):LexTo (inTk op :: ts) (inF op++s):=by
 unfold inF inTk
 by_cases h5:op=5
 · rw [iP h5,iP h5];exact lex_op (op:=8) (by decide) (by decide) h
 rw [iN h5,iN h5]
 by_cases h4:op=4
 · rw [iP h4,iP h4];exact lex_op (op:=7) (by decide) (by decide) h
 rw [iN h4,iN h4]
 by_cases h3:op=3
 · rw [iP h3,iP h3];exact lex_op (op:=6) (by decide) (by decide) h
 rw [iN h3,iN h3];have hs:=lexTo_ws (c:=32) (by decide) h;have h1:=lex_wd1 (c:=85) (.inr (.inr rfl)) (s:=32 :: s) (fun d hd=>by simp at hd;subst hd;decide) hs;exact lexTo_ws (c:=32) (by decide) h1
theorem close_safe {op:Int} {s:Bs} (h:SafeB s):SafeB (closeF op++s):=by
 unfold closeF
 split
 · exact safe_cons (.inr (.inr rfl))
 · exact h
theorem lex_closeF {op:Int} {s:Bs} {ts:List Tok} (h:LexTo ts s):LexTo (closeTk op++ts) (closeF op++s):=by
 unfold closeF closeTk
 split
 · exact lex_sign1 (c:=93) (by decide) (by decide) (lex_rb s) h
 · exact h
theorem lex_openF {op:Int} {s:Bs} {ts:List Tok} (h:LexTo ts s):LexTo (openTk op++ts) (openF op++s):=by
 have hb:LexTo (sg [91] :: ts) ([91]++s):=lex_sign1 (c:=91) (by decide) (by decide) (lex_lb s) h;unfold openF openTk
 split
 · exact lex_wd1 (.inl rfl) (fun d hd=>by simp at hd;subst hd;decide) hb
 split
 · exact lex_wd1 (.inr (.inl rfl)) (fun d hd=>by simp at hd;subst hd;decide) hb
 · exact h
theorem head_openF (op:Int) {x:Bs} (h:HeadB x):HeadB (openF op++x):=by
 unfold openF
 split
 · exact ⟨69,_,rfl,by decide⟩
 split
 · exact ⟨65,_,rfl,by decide⟩
 · exact h
theorem lex_pre {op:Int} (ho:op=2∨op=6∨op=7∨op=8∨op=10∨op=11∨op=12) {x s:Bs} {ts:List Tok} (hx:HeadB x) (h:LexTo ts (x++s)):LexTo (preTk op :: ts) (preF op++(x++s)):=by
 have hs:=lexTo_ws (c:=32) (by decide) h;have hsafe:∀ d,(32 :: (x++s):Bs).head?=some d→isInside d=false:=fun d hd=>by simp at hd;subst hd;decide
 rcases ho with rfl | rfl | rfl | rfl | rfl | rfl | rfl
 · obtain ⟨c,r,rfl,hc⟩:=hx;exact lex_sign1 (c:=33) (by decide) (by decide) (lex_bang hc) h
 · exact lex_wd2 ⟨.inl rfl,.inl rfl⟩ hsafe hs
 · exact lex_wd2 ⟨.inl rfl,.inr (.inl rfl)⟩ hsafe hs
 · exact lex_wd2 ⟨.inl rfl,.inr (.inr rfl)⟩ hsafe hs
 · exact lex_wd2 ⟨.inr rfl,.inl rfl⟩ hsafe hs
 · exact lex_wd2 ⟨.inr rfl,.inr (.inl rfl)⟩ hsafe hs
 · exact lex_wd2 ⟨.inr rfl,.inr (.inr rfl)⟩ hsafe hs
theorem head_pre (op:Int) (x:Bs):HeadB (preF op++x):=by
 unfold preF
 split
 · exact ⟨33,_,rfl,by decide⟩
 split
 · exact ⟨69,_,rfl,by decide⟩
 split
 · exact ⟨69,_,rfl,by decide⟩
 split
 · exact ⟨69,_,rfl,by decide⟩
 split
 · exact ⟨65,_,rfl,by decide⟩
 split
 · exact ⟨65,_,rfl,by decide⟩
 · exact ⟨65,_,rfl,by decide⟩
theorem fbar_lex {f:Fm} {d:Nat} (hok:f.okT d) (he:(fbar f).2=0) (ih:∀ k∈f.kids,LexF k):HeadB (fbar f).1∧∀ s ts,SafeB s→LexTo ts s→LexTo (fbody f++ts) ((fbar f).1++s):=by
 have hkids:=ferr_kids hok he
 rcases form_cases hok with ⟨ho,hne⟩ | ⟨ho,hfk,a,hk,hne⟩ | ⟨ho,hfk,a,b,hk,hne⟩
 · have hb2:(showTm f.tm).2=0:=by unfold fbar at he;rw [iP ho] at he;exact he
   obtain ⟨s1,s2,s3,-⟩:=showTm_ok hb2;have e:fbody f=sg [91] :: (tkT f.tm 0 true++[sg [93]]):=by unfold fbody;rw [iP ho];rfl
   have e2:(fbar f).1=[91]++shw numS f.tm 0 true++[93]:=by unfold fbar;rw [iP ho];show [91]++(showTm f.tm).1++[93]=_;rw [s3]
   rw [e,e2];refine ⟨⟨91,_,rfl,by decide⟩,fun s ts hs h=>?_⟩;have h1:LexTo (sg [93] :: ts) ([93]++s):=lex_sign1 (by decide) (by decide) (lex_rb s) h;have h2:=(lex_shw f.tm.size f.tm 1 (lr _) (check_ok s1).1 s2).2 0 true ([93]++s) _ (safe_cons (.inr (.inr rfl))) h1;have h3:LexTo (sg [91] :: (tkT f.tm 0 true++sg [93] :: ts)) ([91]++(shw numS f.tm 0 true++([93]++s))):=lex_sign1 (by decide) (by decide) (lex_lb _) h2
   simpa using h3
 · have ho1:f.op≠1:=by omega
   have hl:=ih a (by rw [hk];simp);rw [fbody1 ho1 hk hfk,fbar1 ho1 hk hfk];refine ⟨head_pre _ _,fun s ts hs h=>?_⟩;have h1:=hl.2 4 s ts hs h;have h2:=lex_pre ho (hl.1 4) h1
   simpa using h2
 · have ho1:f.op≠1:=by omega
   have hla:=ih a (by rw [hk];simp);have hlb:=ih b (by rw [hk];simp);have hea:=hkids a (by rw [hk];simp);rw [fbody2 ho1 hk hfk,fbar2 ho1 hk hfk,iN (by omega)];refine ⟨?_,fun s ts hs h=>?_⟩
   · simp only [List.append_assoc];exact head_openF _ ((hla.1 _).app _)
   · have h1:=lex_closeF (op:=f.op) h;have h2:=hlb.2 (rightF f.op) _ _ (close_safe hs) h1;have h3:=lex_in f.op h2;have h4:=hla.2 (leftF f.op) _ _ (in_safe f.op _) h3;have h5:=lex_openF (op:=f.op) h4
     simpa using h5
theorem lex_frm:∀ (N:Nat) (f:Fm) (d:Nat),f.size≤N→f.okT d→(fbar f).2=0→LexF f
 | 0,f,d,hN,_,_=>by cases f;rw [Fm.size] at hN;omega
 | N+1,f,d,hN,hok,he=>by
  have ih:∀ k∈f.kids,LexF k:=fun k hk=>by
   have h1:=Fm.sizeL_mem hk;refine lex_frm N k (d+1) ?_ ((fokT_open hok).2.2 k hk) (ferr_kids hok he k hk)
   cases f with
   | mk o e l=>rw [Fm.size] at hN;simp only [Fm.kids] at h1;omega
  obtain ⟨b1,b2⟩:=fbar_lex hok he ih;refine ⟨fun least=>?_,fun least s ts hs h=>?_⟩
  · rw [frmT_txt he];exact head_wrap b1
  · rw [frmT_txt he,ftk_eq];exact lex_wrap b1 b2 hs h
theorem showFm_ok {f:Fm} (h:(showFm f).2=0):f.check=0∧(fbar f).2=0∧(showFm f).1=(frmT f 1).1∧(frmT f 1).1.length≤65536:=by
 unfold showFm at h
 by_cases h1:f.check≠0
 · rw [iP h1] at h;exact absurd h h1
 rw [iN h1] at h
 by_cases h2:(frmT f 1).2≠0
 · rw [iP h2] at h;exact absurd h h2
 rw [iN h2] at h
 by_cases h3:65536<(frmT f 1).1.length
 · rw [iP h3] at h;exact absurd h (by simp)
 refine ⟨by omega,by rw [←frmT_err f 1];omega,?_,by omega⟩;unfold showFm;rw [iN h1,iN h2,iN h3]
theorem parse_showF {f:Fm} (h:(showFm f).2=0):parseF (showFm f).1=(f,((showFm f).1.length:Int),0):=by
 obtain ⟨hc,he,hs,hlen⟩:=showFm_ok h;rw [hs];have hl:=(lex_frm f.size f 1 (lr _) (fcheck_ok hc).1 he).2 1 [] [] safe_nil rfl;rw [List.append_nil,List.append_nil] at hl;obtain ⟨us,u1,u2,u3⟩:=lexTo_toks _ (frmT f 1).1 0 (zl _) (by rw [List.drop_zero];exact hl);have ha:=toks_all (by omega) u1;have ht:=take_atF hc he (i:=0) u3 (ffol_end (by rw [Nat.zero_add,u2];exact lr _));rw [Nat.zero_add,←u2] at ht;unfold parseF;rw [ha];simp only [ht];simp
end Go.Proofs.YtnbphgeepnknlaaGreatDoor
