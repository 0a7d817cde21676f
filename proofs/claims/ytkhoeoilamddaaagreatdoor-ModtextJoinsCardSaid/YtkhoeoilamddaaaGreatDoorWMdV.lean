/- Plain words: a parser looks at no token behind the one at which it ends: the same at two lists of tokens that agree there. -/
import Derived.Test.YtkhoeoilamddaaaGreatDoorVMdP
import Derived.Test.YtkhoeoilamddaaaGreatDoorVMtL
import Derived.Test.YtkhoeoilamddaaaGreatDoorVSml
namespace Go.Proofs.YtkhoeoilamddaaaGreatDoor
set_option linter.unusedVariables false
set_option linter.unusedSectionVars false
theorem tLMdV {o:Array Oper} {i:Nat} {x:Oper} (h:o.toList[i]?=some x):o[i]?=some x:=by simpa using h
def TkEq:Option Tok→Option Tok→Prop
 | none,none=>True
 | some t,some u=>t.kind=u.kind∧t.n=u.n∧t.text=u.text
 | _,_=>False
section
variable {l m:List Tok} {p q:Nat}
theorem TkEq.none_iff (h:TkEq l[p]? m[q]?):l[p]?=none↔m[q]?=none:=by
 cases h1:l[p]? <;> cases h2:m[q]? <;> rw [h1,h2] at h <;> simp [TkEq] at h ⊢
theorem isTk_eq (h:TkEq l[p]? m[q]?) (k:Int) (s:Bs):isTk l p k s=isTk m q k s:=by
 unfold isTk;cases h1:l[p]? <;> cases h2:m[q]? <;> rw [h1,h2] at h <;> simp [TkEq] at h
 all_goals first | rfl | (simp only [h.1,h.2.2])
theorem isKd_eq (h:TkEq l[p]? m[q]?) (k:Int):isKd l p k=isKd m q k:=by
 unfold isKd;cases h1:l[p]? <;> cases h2:m[q]? <;> rw [h1,h2] at h <;> simp [TkEq] at h
 all_goals first | rfl | (simp only [h.1])
theorem numAt_eq (h:TkEq l[p]? m[q]?):numAt l p=numAt m q:=by
 unfold numAt;cases h1:l[p]? <;> cases h2:m[q]? <;> rw [h1,h2] at h <;> simp [TkEq] at h
 all_goals first | rfl | (exact h.2.1)
theorem textAt_eq (h:TkEq l[p]? m[q]?):textAt l p=textAt m q:=by
 unfold textAt;cases h1:l[p]? <;> cases h2:m[q]? <;> rw [h1,h2] at h <;> simp [TkEq] at h
 all_goals first | rfl | (exact h.2.2)
theorem whichOp_eq (h:TkEq l[p]? m[q]?):∀ ops,whichOp l p ops=whichOp m q ops
 | []=>rfl
 | op :: r=>by rw [whichOp,whichOp,isTk_eq h,isTk_eq h,whichOp_eq h r]
theorem oneOp_eq (h:TkEq l[p]? m[q]?):oneOp l p=oneOp m q:=by
 unfold oneOp;simp only [isTk_eq h]
theorem whichOp_lt5 {ops:List Int} (h:whichOp l p ops≠0):p<l.length:=by
 by_cases hp:p<l.length
 · exact hp
 · have hn:l[p]?=none:=List.getElem?_eq_none (by omega)
   have:∀ ops,whichOp l p ops=0:=by
    intro ops
    induction ops with
    | nil=>rfl
    | cons o r ih=>rw [whichOp];simp [isTk,hn,ih]
   exact absurd (this ops) h
theorem isTk_in {k:Int} {s:Bs} (h:isTk l p k s=true):p<l.length:=by
 by_cases hp:p<l.length
 · exact hp
 · have hn:l[p]?=none:=List.getElem?_eq_none (by omega);simp [isTk,hn] at h
end
def Ag (l m:List Tok) (a b i j:Nat):Prop:=∀ k,i≤k→k≤j→TkEq l[k+a]? m[k+b]?
theorem Ag.sub {l m:List Tok} {a b i j i' j':Nat} (h:Ag l m a b i j) (h1:i≤i') (h2:j'≤j):Ag l m a b i' j':=fun k k1 k2=>h k (by omega) (by omega)
section
variable (l m:List Tok) (a b:Nat)
def Loc {α:Type} (P Q:Nat→Rs α):Prop:=∀ i f j,P (i+a)=.ok f j→∃ q,j=q+a∧i<q∧(Ag l m a b i q→Q (i+b)=.ok f (q+b))
def LocS {α:Type} (s t:Option (Nat→Rs α)):Prop:=(s=none∧t=none)∨∃ P Q,s=some P∧t=some Q∧Loc l m a b P Q
variable {l m a b}
theorem inner_loc {s t:Option Par} (h:LocS l m a b s t):Loc l m a b (inner s) (inner t):=by
 intro i f j he
 rcases h with ⟨rfl,rfl⟩ | ⟨P,Q,rfl,rfl,hL⟩
 · cases he
 · have he':P (i+1+a)=.ok f j:=by rw [Nat.add_right_comm];exact he
   obtain ⟨q,hq,hlt,hA⟩:=hL _ _ _ he';refine ⟨q,hq,by omega,fun hag=>?_⟩;have:=hA (hag.sub (by omega) (lr _));rw [Nat.add_right_comm] at this;exact this
theorem finner_loc {s t:Option FPar} (h:LocS l m a b s t):Loc l m a b (fInner s) (fInner t):=by
 intro i f j he
 rcases h with ⟨rfl,rfl⟩ | ⟨P,Q,rfl,rfl,hL⟩
 · cases he
 · have he':P (i+1+a)=.ok f j:=by rw [Nat.add_right_comm];exact he
   obtain ⟨q,hq,hlt,hA⟩:=hL _ _ _ he';refine ⟨q,hq,by omega,fun hag=>?_⟩;have:=hA (hag.sub (by omega) (lr _));rw [Nat.add_right_comm] at this;exact this
theorem step_loc {α:Type} {P Q:Nat→Rs α} (h:Loc l m a b P Q) (i:Nat) {f:α} {j:Nat} (he:P (i+a+1)=.ok f j):∃ q,j=q+a∧i+1<q∧(Ag l m a b (i+1) q→Q (i+b+1)=.ok f (q+b)):=by
 rw [Nat.add_right_comm] at he;obtain ⟨q,h1,h2,h3⟩:=h _ _ _ he;refine ⟨q,h1,h2,fun hag=>?_⟩;rw [Nat.add_right_comm];exact h3 hag
theorem leftL_loc {P Q:Par} (h:Loc l m a b P Q) (ops:List Int):∀ (K:Nat) (t:Tm) (i:Nat) (f:Tm) (j:Nat),leftL l P ops K t (i+a)=.ok f j→l.length≤i+a+K→∃ q,j=q+a∧i≤q∧(Ag l m a b i q→∀ K2,m.length≤i+b+K2→leftL m Q ops K2 t (i+b)=.ok f (q+b))
 | 0,t,i,f,j,he,hl=>by
  rw [leftL] at he;obtain ⟨rfl,rfl⟩:=ok_inj3 he;refine ⟨i,rfl,lr _,fun hag K2 hK=>?_⟩;have hn:l[i+a]?=none:=List.getElem?_eq_none (by omega);have hm:=(hag i (lr _) (lr _)).none_iff.1 hn
  have hw:whichOp m (i+b) ops=0:=by
   by_cases hw:whichOp m (i+b) ops=0
   · exact hw
   · have:=whichOp_lt5 hw;rw [List.getElem?_eq_none_iff] at hm;omega
  cases K2 with
  | zero=>rfl
  | succ K2=>rw [leftL,iP hw]
 | K+1,t,i,f,j,he,hl=>by
  rw [leftL] at he
  by_cases hw:whichOp l (i+a) ops=0
  · rw [iP hw] at he;obtain ⟨rfl,rfl⟩:=ok_inj3 he;refine ⟨i,rfl,lr _,fun hag K2 hK=>?_⟩;rw [whichOp_eq (hag i (lr _) (lr _))] at hw
    cases K2 with
    | zero=>rfl
    | succ K2=>rw [leftL,iP hw]
  · rw [iN hw] at he;obtain ⟨u,k,h1,h2⟩:=then_ok3 he;obtain ⟨q1,rfl,hq1,hA1⟩:=step_loc h i h1;obtain ⟨q,rfl,hq,hA⟩:=leftL_loc h ops K _ q1 f j h2 (by omega);refine ⟨q,rfl,by omega,fun hag K2 hK=>?_⟩;have e:=whichOp_eq (hag i (lr _) (by omega)) ops;rw [e] at hw hA;have hin:=whichOp_lt5 hw;obtain ⟨K3,rfl⟩:∃ K3,K2=K3+1:=⟨K2 - 1,by omega⟩;rw [leftL,iN hw,hA1 (hag.sub (by omega) (by omega)),Rs.then_ok];exact hA (hag.sub (by omega) (lr _)) K3 (by omega)
theorem left_loc {P Q:Par} (h:Loc l m a b P Q) (ops:List Int):Loc l m a b (left l P ops) (left m Q ops):=by
 intro i f j he;unfold left at he;obtain ⟨u,k,h1,h2⟩:=then_ok3 he;obtain ⟨q1,rfl,hq1,hA1⟩:=h _ _ _ h1;obtain ⟨q,rfl,hq,hA⟩:=leftL_loc h ops _ _ q1 f j h2 (by omega);refine ⟨q,rfl,by omega,fun hag=>?_⟩;unfold left;rw [hA1 (hag.sub (lr _) (by omega)),Rs.then_ok];exact hA (hag.sub (by omega) (lr _)) _ (by omega)
theorem manyF_loc {P Q:Par} (h:Loc l m a b P Q) (op:Int):∀ (K:Nat) (acc:List Tm) (i:Nat) (f:Tm) (j:Nat),manyF l op P K acc (i+a)=.ok f j→l.length≤i+a+K→∃ q,j=q+a∧i≤q∧(Ag l m a b i q→∀ K2,m.length≤i+b+K2→manyF m op Q K2 acc (i+b)=.ok f (q+b))
 | 0,acc,i,f,j,he,hl=>by
  rw [manyF] at he;obtain ⟨rfl,rfl⟩:=ok_inj3 he;refine ⟨i,rfl,lr _,fun hag K2 hK=>?_⟩;have hn:l[i+a]?=none:=List.getElem?_eq_none (by omega);have hm:=(hag i (lr _) (lr _)).none_iff.1 hn
  have hw:whichOp m (i+b) [op]=0:=by
   by_cases hw:whichOp m (i+b) [op]=0
   · exact hw
   · have:=whichOp_lt5 hw;rw [List.getElem?_eq_none_iff] at hm;omega
  cases K2 with
  | zero=>rfl
  | succ K2=>rw [manyF,iP hw]
 | K+1,acc,i,f,j,he,hl=>by
  rw [manyF] at he
  by_cases hw:whichOp l (i+a) [op]=0
  · rw [iP hw] at he;obtain ⟨rfl,rfl⟩:=ok_inj3 he;refine ⟨i,rfl,lr _,fun hag K2 hK=>?_⟩;rw [whichOp_eq (hag i (lr _) (lr _))] at hw
    cases K2 with
    | zero=>rfl
    | succ K2=>rw [manyF,iP hw]
  · rw [iN hw] at he;obtain ⟨u,k,h1,h2⟩:=then_ok3 he;obtain ⟨q1,rfl,hq1,hA1⟩:=step_loc h i h1;obtain ⟨q,rfl,hq,hA⟩:=manyF_loc h op K _ q1 f j h2 (by omega);refine ⟨q,rfl,by omega,fun hag K2 hK=>?_⟩;rw [whichOp_eq (hag i (lr _) (by omega))] at hw;have hin:=whichOp_lt5 hw;obtain ⟨K3,rfl⟩:∃ K3,K2=K3+1:=⟨K2 - 1,by omega⟩;rw [manyF,iN hw,hA1 (hag.sub (by omega) (by omega)),Rs.then_ok];exact hA (hag.sub (by omega) (lr _)) K3 (by omega)
theorem many_loc {P Q:Par} (h:Loc l m a b P Q) (op:Int):Loc l m a b (many l op P) (many m op Q):=by
 intro i f j he;unfold many at he;obtain ⟨u,k,h1,h2⟩:=then_ok3 he;obtain ⟨q1,rfl,hq1,hA1⟩:=h _ _ _ h1;obtain ⟨q,rfl,hq,hA⟩:=manyF_loc h op _ _ q1 f j h2 (by omega);refine ⟨q,rfl,by omega,fun hag=>?_⟩;unfold many;rw [hA1 (hag.sub (lr _) (by omega)),Rs.then_ok];exact hA (hag.sub (by omega) (lr _)) _ (by omega)
theorem choice_loc {s t:Option Par} (h:LocS l m a b s t):Loc l m a b (choiceB l s) (choiceB m t):=by
 have hI:=inner_loc h;intro i f j he;unfold choiceB at he;obtain ⟨x,k,h1,h2⟩:=then_ok3 he;obtain ⟨q1,rfl,hq1,hA1⟩:=hI _ _ _ h1
 by_cases c1:isTk l (q1+a) 3 wThen=true
 · rw [iP c1] at h2;obtain ⟨y,k2,h3,h4⟩:=then_ok3 h2;obtain ⟨q2,rfl,hq2,hA2⟩:=hI _ _ _ h3
   by_cases c2:isTk l (q2+a) 3 wElse=true
   · rw [iP c2] at h4;obtain ⟨z,k3,h5,h6⟩:=then_ok3 h4;obtain ⟨q3,rfl,hq3,hA3⟩:=hI _ _ _ h5;obtain ⟨rfl,rfl⟩:=ok_inj3 h6;refine ⟨q3,rfl,by omega,fun hag=>?_⟩;rw [isTk_eq (hag q1 (by omega) (by omega))] at c1;rw [isTk_eq (hag q2 (by omega) (by omega))] at c2;unfold choiceB;rw [hA1 (hag.sub (by omega) (by omega)),Rs.then_ok,iP c1,hA2 (hag.sub (by omega) (by omega)),Rs.then_ok,iP c2,hA3 (hag.sub (by omega) (by omega)),Rs.then_ok]
   · rw [iN c2] at h4;cases h4
 · rw [iN c1] at h2;cases h2
theorem unit_loc {s t:Option Par} (h:LocS l m a b s t):Loc l m a b (unitF l s) (unitF m t):=by
 have hI:=inner_loc h;intro i f j he;unfold unitF at he;have T:=fun (hag:Ag l m a b i (i+0)) k s=>isTk_eq (hag i (lr _) (lr _)) k s
 have one:∀ {x:Tm},(Rs.ok x (i+a+1):Rs Tm)=.ok f j→x=f∧j=i+1+a:=fun he=>by
  obtain ⟨h1,h2⟩:=ok_inj3 he;exact ⟨h1,by omega⟩
 by_cases c1:isTk l (i+a) 4 [45]=true
 · rw [iP c1] at he
   by_cases c2:isKd l (i+a+1) 1=true
   · rw [iP c2] at he;obtain ⟨rfl,rfl⟩:=ok_inj3 he;refine ⟨i+2,by omega,by omega,fun hag=>?_⟩;have h1:=hag i (lr _) (by omega);have h2:=hag (i+1) (by omega) (by omega);rw [Nat.add_right_comm i 1 a,Nat.add_right_comm i 1 b] at h2;unfold unitF;rw [iP (by rw [←isTk_eq h1];exact c1),iP (by rw [←isKd_eq h2];exact c2),←numAt_eq h2]
     congr 1
     omega
   · rw [iN c2] at he;cases he
 rw [iN c1] at he
 by_cases c2:isTk l (i+a) 3 wTrue=true
 · rw [iP c2] at he;obtain ⟨rfl,rfl⟩:=one he;refine ⟨i+1,rfl,by omega,fun hag=>?_⟩;have h1:=hag i (lr _) (by omega);rw [isTk_eq h1] at c1 c2;unfold unitF;rw [iN c1,iP c2,Nat.add_right_comm]
 rw [iN c2] at he
 by_cases c3:isTk l (i+a) 3 wFalse=true
 · rw [iP c3] at he;obtain ⟨rfl,rfl⟩:=one he;refine ⟨i+1,rfl,by omega,fun hag=>?_⟩;have h1:=hag i (lr _) (by omega);rw [isTk_eq h1] at c1 c2 c3;unfold unitF;rw [iN c1,iN c2,iP c3,Nat.add_right_comm]
 rw [iN c3] at he
 by_cases c4:isTk l (i+a) 3 wNext=true
 · rw [iP c4] at he
   by_cases d1:isTk l (i+a+1) 4 [40]=true
   · rw [iP d1] at he
     by_cases d2:isKd l (i+a+2) 2=true
     · rw [iP d2] at he
       by_cases d3:isTk l (i+a+3) 4 [41]=true
       · rw [iP d3] at he;obtain ⟨rfl,rfl⟩:=ok_inj3 he;refine ⟨i+4,by omega,by omega,fun hag=>?_⟩;have h1:=hag i (lr _) (by omega);have h2:=hag (i+1) (by omega) (by omega);have h3:=hag (i+2) (by omega) (by omega);have h4:=hag (i+3) (by omega) (by omega);rw [Nat.add_right_comm i 1 a,Nat.add_right_comm i 1 b] at h2;rw [Nat.add_right_comm i 2 a,Nat.add_right_comm i 2 b] at h3;rw [Nat.add_right_comm i 3 a,Nat.add_right_comm i 3 b] at h4;rw [isTk_eq h1] at c1 c2 c3 c4;rw [isTk_eq h2] at d1;rw [isKd_eq h3] at d2;rw [isTk_eq h4] at d3;unfold unitF;rw [iN c1,iN c2,iN c3,iP c4,iP d1,iP d2,iP d3,textAt_eq h3]
         congr 1
         omega
       · rw [iN d3] at he;cases he
     · rw [iN d2] at he;cases he
   · rw [iN d1] at he;cases he
 rw [iN c4] at he
 by_cases c5:isTk l (i+a) 4 [40]=true
 · rw [iP c5] at he;obtain ⟨x,k,h1,h2⟩:=then_ok3 he;obtain ⟨q1,rfl,hq1,hA1⟩:=hI _ _ _ h1
   by_cases d1:isTk l (q1+a) 4 [41]=true
   · rw [iP d1] at h2;obtain ⟨rfl,rfl⟩:=ok_inj3 h2;refine ⟨q1+1,by omega,by omega,fun hag=>?_⟩;have h1:=hag i (lr _) (by omega);have h3:=hag q1 (by omega) (by omega);rw [isTk_eq h1] at c1 c2 c3 c4 c5;rw [isTk_eq h3] at d1;unfold unitF;rw [iN c1,iN c2,iN c3,iN c4,iP c5,hA1 (hag.sub (by omega) (by omega)),Rs.then_ok,iP d1]
     congr 1
     omega
   · rw [iN d1] at h2;cases h2
 rw [iN c5] at he
 by_cases c6:isTk l (i+a) 3 wIf=true
 · rw [iP c6] at he;obtain ⟨q1,rfl,hq1,hA1⟩:=choice_loc h _ _ _ he;refine ⟨q1,rfl,hq1,fun hag=>?_⟩;have h1:=hag i (lr _) (by omega);rw [isTk_eq h1] at c1 c2 c3 c4 c5 c6;unfold unitF;rw [iN c1,iN c2,iN c3,iN c4,iN c5,iP c6];exact hA1 hag
 rw [iN c6] at he
 by_cases c7:isKd l (i+a) 2=true
 · rw [iP c7] at he;obtain ⟨rfl,rfl⟩:=one he;refine ⟨i+1,rfl,by omega,fun hag=>?_⟩;have h1:=hag i (lr _) (by omega);rw [isTk_eq h1] at c1 c2 c3 c4 c5 c6;rw [isKd_eq h1] at c7;unfold unitF;rw [iN c1,iN c2,iN c3,iN c4,iN c5,iN c6,iP c7,textAt_eq h1,Nat.add_right_comm]
 rw [iN c7] at he
 by_cases c8:isKd l (i+a) 1=true
 · rw [iP c8] at he;obtain ⟨rfl,rfl⟩:=one he;refine ⟨i+1,rfl,by omega,fun hag=>?_⟩;have h1:=hag i (lr _) (by omega);rw [isTk_eq h1] at c1 c2 c3 c4 c5 c6;rw [isKd_eq h1] at c7 c8;unfold unitF;rw [iN c1,iN c2,iN c3,iN c4,iN c5,iN c6,iN c7,iP c8,numAt_eq h1,Nat.add_right_comm]
 rw [iN c8] at he;cases he
theorem not_loc {s t:Option Par} {P Q:Par} (hs:LocS l m a b s t) (h:Loc l m a b P Q):Loc l m a b (notB l s P) (notB m t Q):=by
 intro i f j he;unfold notB at he
 by_cases c1:isTk l (i+a) 4 [33]=true
 · rw [iP c1] at he;obtain ⟨x,k,h1,h2⟩:=then_ok3 he;obtain ⟨q1,rfl,hq1,hA1⟩:=inner_loc hs _ _ _ h1;obtain ⟨rfl,rfl⟩:=ok_inj3 h2;refine ⟨q1,rfl,hq1,fun hag=>?_⟩;rw [isTk_eq (hag i (lr _) (by omega))] at c1;unfold notB;rw [iP c1,hA1 hag,Rs.then_ok]
 · rw [iN c1] at he;obtain ⟨x,k,h1,h2⟩:=then_ok3 he;obtain ⟨q1,rfl,hq1,hA1⟩:=h _ _ _ h1
   by_cases c2:whichOp l (q1+a) [10,11,12,13]=0
   · rw [iP c2] at h2;obtain ⟨rfl,rfl⟩:=ok_inj3 h2;refine ⟨q1,rfl,hq1,fun hag=>?_⟩;rw [isTk_eq (hag i (lr _) (by omega))] at c1;rw [whichOp_eq (hag q1 (by omega) (by omega))] at c2;unfold notB;rw [iN c1,hA1 hag,Rs.then_ok,iP c2]
   · rw [iN c2] at h2;obtain ⟨y,k2,h3,h4⟩:=then_ok3 h2;obtain ⟨q2,rfl,hq2,hA2⟩:=step_loc h q1 h3;obtain ⟨rfl,rfl⟩:=ok_inj3 h4;refine ⟨q2,rfl,by omega,fun hag=>?_⟩;have e2:=whichOp_eq (hag q1 (by omega) (by omega)) [10,11,12,13];rw [isTk_eq (hag i (lr _) (by omega))] at c1;rw [e2] at c2 ⊢;unfold notB;rw [iN c1,hA1 (hag.sub (by omega) (by omega)),Rs.then_ok,iN c2,hA2 (hag.sub (by omega) (by omega)),Rs.then_ok]
theorem imp_loc {s t:Option Par} {P Q:Par} (hs:LocS l m a b s t) (h:Loc l m a b P Q):Loc l m a b (impB l s P) (impB m t Q):=by
 intro i f j he;unfold impB at he;obtain ⟨x,k,h1,h2⟩:=then_ok3 he;obtain ⟨q1,rfl,hq1,hA1⟩:=h _ _ _ h1
 by_cases c2:whichOp l (q1+a) [8]=0
 · rw [iP c2] at h2;obtain ⟨rfl,rfl⟩:=ok_inj3 h2;refine ⟨q1,rfl,hq1,fun hag=>?_⟩;rw [whichOp_eq (hag q1 (by omega) (by omega))] at c2;unfold impB;rw [hA1 hag,Rs.then_ok,iP c2]
 · rw [iN c2] at h2;obtain ⟨y,k2,h3,h4⟩:=then_ok3 h2;obtain ⟨q2,rfl,hq2,hA2⟩:=inner_loc hs _ _ _ h3;obtain ⟨rfl,rfl⟩:=ok_inj3 h4;refine ⟨q2,rfl,by omega,fun hag=>?_⟩;rw [whichOp_eq (hag q1 (by omega) (by omega))] at c2;unfold impB;rw [hA1 (hag.sub (by omega) (by omega)),Rs.then_ok,iN c2,hA2 (hag.sub (by omega) (by omega)),Rs.then_ok]
theorem term_loc {P Q:Par} (h:Loc l m a b P Q):Loc l m a b (termB l P) (termB m Q):=by
 intro i f j he;unfold termB at he;obtain ⟨x,k,h1,h2⟩:=then_ok3 he;obtain ⟨q1,rfl,hq1,hA1⟩:=h _ _ _ h1
 by_cases c2:whichOp l (q1+a) [9]=0
 · rw [iP c2] at h2;obtain ⟨rfl,rfl⟩:=ok_inj3 h2;refine ⟨q1,rfl,hq1,fun hag=>?_⟩;rw [whichOp_eq (hag q1 (by omega) (by omega))] at c2;unfold termB;rw [hA1 hag,Rs.then_ok,iP c2]
 · rw [iN c2] at h2;obtain ⟨y,k2,h3,h4⟩:=then_ok3 h2;obtain ⟨q2,rfl,hq2,hA2⟩:=step_loc h q1 h3;obtain ⟨rfl,rfl⟩:=ok_inj3 h4;refine ⟨q2,rfl,by omega,fun hag=>?_⟩;rw [whichOp_eq (hag q1 (by omega) (by omega))] at c2;unfold termB;rw [hA1 (hag.sub (by omega) (by omega)),Rs.then_ok,iN c2,hA2 (hag.sub (by omega) (by omega)),Rs.then_ok]
structure LocL (l m:List Tok) (a b:Nat) (v u:Lvl):Prop where
 term:Loc l m a b v.term u.term
 imp:Loc l m a b v.imp u.imp
 not:Loc l m a b v.not u.not
theorem lvlB_loc {s t:Option Lvl} (ht:LocS l m a b (s.map Lvl.term) (t.map Lvl.term)) (hi:LocS l m a b (s.map Lvl.imp) (t.map Lvl.imp)) (hn:LocS l m a b (s.map Lvl.not) (t.map Lvl.not)):LocL l m a b (lvlB l s) (lvlB m t):=by
 have h1:=left_loc (left_loc (unit_loc ht) [16,17]) [14,15];have h2:Loc l m a b (notOf l s) (notOf m t):=not_loc hn h1;have h3:Loc l m a b (orOf l s) (orOf m t):=many_loc (many_loc h2 6) 7;have h4:Loc l m a b (impOf l s) (impOf m t):=imp_loc hi h3;exact ⟨term_loc h4,h4,h2⟩
theorem lvl_loc:∀ r,LocL l m a b (lvl l r) (lvl m r)
 | 0=>by rw [lvl,lvl];exact lvlB_loc (.inl ⟨rfl,rfl⟩) (.inl ⟨rfl,rfl⟩) (.inl ⟨rfl,rfl⟩)
 | r+1=>by
  have ih:=lvl_loc r;rw [lvl,lvl];exact lvlB_loc (.inr ⟨_,_,rfl,rfl,ih.term⟩) (.inr ⟨_,_,rfl,rfl,ih.imp⟩) (.inr ⟨_,_,rfl,rfl,ih.not⟩)
theorem tmP_loc:Loc l m a b (tmP l) (tmP m):=by
 intro i f j he;unfold tmP takeT at he
 cases hr:(lvl l 256).term (i+a) with
 | bad k e=>
  rw [hr] at he;have:=(lvl_nz l 256).1 _ _ _ hr;simp [this] at he
 | ok x k=>
  rw [hr] at he
  by_cases hc:x.check=0
  · simp [hc] at he;obtain ⟨rfl,rfl⟩:=he;obtain ⟨q,rfl,hq,hA⟩:=(lvl_loc (l:=l) (m:=m) (a:=a) (b:=b) 256).term _ _ _ hr;refine ⟨q,rfl,hq,fun hag=>?_⟩;unfold tmP takeT;rw [hA hag];simp [hc]
  · simp [hc] at he
theorem takeT_loc {i j:Nat} {t:Tm} (he:takeT l (i+a)=(t,j,0)):∃ q,j=q+a∧i<q∧(Ag l m a b i q→takeT m (i+b)=(t,q+b,0)):=by
 have h1:tmP l (i+a)=.ok t j:=by unfold tmP;rw [he];simp
 obtain ⟨q,rfl,hq,hA⟩:=tmP_loc (m:=m) (b:=b) _ _ _ h1;refine ⟨q,rfl,hq,fun hag=>?_⟩;have h2:=hA hag;unfold tmP at h2
 by_cases hz:(takeT m (i+b)).2.2≠0
 · rw [iP hz] at h2;cases h2
 · rw [iN hz] at h2;obtain ⟨h3,h4⟩:=ok_inj3 h2;exact Prod.ext h3 (Prod.ext h4 (by simpa using hz))
theorem fTerm_loc:Loc l m a b (fTerm l) (fTerm m):=by
 intro i f j he;unfold fTerm at he
 by_cases hz:(takeT l (i+a+1)).2.2≠0
 · rw [iP hz] at he;cases he
 rw [iN hz] at he
 by_cases c1:isTk l (takeT l (i+a+1)).2.1 4 [93]=true
 · rw [iP c1] at he;obtain ⟨rfl,rfl⟩:=ok_inj3 he
   have h0:takeT l (i+1+a)=((takeT l (i+a+1)).1,(takeT l (i+a+1)).2.1,0):=by
    rw [Nat.add_right_comm];exact Prod.ext rfl (Prod.ext rfl (by simpa using hz))
   obtain ⟨q,hq,hlt,hA⟩:=takeT_loc (m:=m) (b:=b) h0;refine ⟨q+1,by omega,by omega,fun hag=>?_⟩;have h1:=hA (hag.sub (by omega) (by omega));rw [Nat.add_right_comm] at h1;rw [hq,isTk_eq (hag q (by omega) (by omega))] at c1;unfold fTerm;rw [h1];simp only [ne_eq,not_true_eq_false,if_false];rw [iP c1]
   congr 1
   omega
 · rw [iN c1] at he;cases he
theorem until_loc {s t:Option FPar} (h:LocS l m a b s t) (op:Int):Loc l m a b (untilB l s op) (untilB m t op):=by
 intro i f j he
 rcases h with ⟨rfl,rfl⟩ | ⟨P,Q,rfl,rfl,hL⟩
 · cases he
 unfold untilB at he;simp only at he
 by_cases c1:isTk l (i+a+1) 4 [91]=true
 · rw [iP c1] at he;obtain ⟨x,k,h1,h2⟩:=then_ok3 he;obtain ⟨q1,rfl,hq1,hA1⟩:=step_loc hL (i+1) (by rw [Nat.add_right_comm i 1 a];exact h1)
   by_cases c2:isTk l (q1+a) 3 [85]=true
   · rw [iP c2] at h2;obtain ⟨y,k2,h3,h4⟩:=then_ok3 h2;obtain ⟨q2,rfl,hq2,hA2⟩:=step_loc hL q1 h3
     by_cases c3:isTk l (q2+a) 4 [93]=true
     · rw [iP c3] at h4;obtain ⟨rfl,rfl⟩:=ok_inj3 h4;refine ⟨q2+1,by omega,by omega,fun hag=>?_⟩;have e1:=hag (i+1) (by omega) (by omega);rw [Nat.add_right_comm i 1 a,Nat.add_right_comm i 1 b] at e1;rw [isTk_eq e1] at c1;rw [isTk_eq (hag q1 (by omega) (by omega))] at c2;rw [isTk_eq (hag q2 (by omega) (by omega))] at c3;have g1:=hA1 (hag.sub (by omega) (by omega));rw [Nat.add_right_comm i 1 b] at g1;unfold untilB;simp only;rw [iP c1,g1,Rs.then_ok,iP c2,hA2 (hag.sub (by omega) (by omega)),Rs.then_ok,iP c3]
       congr 1
       omega
     · rw [iN c3] at h4;cases h4
   · rw [iN c2] at h2;cases h2
 · rw [iN c1] at he;cases he
theorem funit_loc {s t:Option FLvl} (hf:LocS l m a b (s.map FLvl.form) (t.map FLvl.form)) (hu:LocS l m a b (s.map FLvl.unit) (t.map FLvl.unit)):Loc l m a b (fUnitB l s) (fUnitB m t):=by
 intro i f j he;unfold fUnitB at he
 by_cases c1:oneOp l (i+a)≠0
 · rw [iP c1] at he;obtain ⟨x,k,h1,h2⟩:=then_ok3 he;obtain ⟨q1,rfl,hq1,hA1⟩:=finner_loc hu _ _ _ h1;obtain ⟨rfl,rfl⟩:=ok_inj3 h2;refine ⟨q1,rfl,hq1,fun hag=>?_⟩;have e1:=oneOp_eq (hag i (lr _) (by omega));rw [e1] at c1 ⊢;unfold fUnitB;rw [iP c1,hA1 hag,Rs.then_ok]
 rw [iN c1] at he
 by_cases c2:isTk l (i+a) 3 [69]=true
 · rw [iP c2] at he;obtain ⟨q1,rfl,hq1,hA1⟩:=until_loc hf 9 _ _ _ he;refine ⟨q1,rfl,hq1,fun hag=>?_⟩;have e:=hag i (lr _) (by omega);rw [oneOp_eq e] at c1;rw [isTk_eq e] at c2;unfold fUnitB;rw [iN c1,iP c2];exact hA1 hag
 rw [iN c2] at he
 by_cases c3:isTk l (i+a) 3 [65]=true
 · rw [iP c3] at he;obtain ⟨q1,rfl,hq1,hA1⟩:=until_loc hf 13 _ _ _ he;refine ⟨q1,rfl,hq1,fun hag=>?_⟩;have e:=hag i (lr _) (by omega);rw [oneOp_eq e] at c1;rw [isTk_eq e] at c2 c3;unfold fUnitB;rw [iN c1,iN c2,iP c3];exact hA1 hag
 rw [iN c3] at he
 by_cases c4:isTk l (i+a) 4 [40]=true
 · rw [iP c4] at he;obtain ⟨x,k,h1,h2⟩:=then_ok3 he;obtain ⟨q1,rfl,hq1,hA1⟩:=finner_loc hf _ _ _ h1
   by_cases d1:isTk l (q1+a) 4 [41]=true
   · rw [iP d1] at h2;obtain ⟨rfl,rfl⟩:=ok_inj3 h2;refine ⟨q1+1,by omega,by omega,fun hag=>?_⟩;have e:=hag i (lr _) (by omega);rw [oneOp_eq e] at c1;rw [isTk_eq e] at c2 c3 c4;rw [isTk_eq (hag q1 (by omega) (by omega))] at d1;unfold fUnitB;rw [iN c1,iN c2,iN c3,iP c4,hA1 (hag.sub (by omega) (by omega)),Rs.then_ok,iP d1]
     congr 1
     omega
   · rw [iN d1] at h2;cases h2
 rw [iN c4] at he
 by_cases c5:isTk l (i+a) 4 [91]=true
 · rw [iP c5] at he;obtain ⟨q1,rfl,hq1,hA1⟩:=fTerm_loc (m:=m) (b:=b) _ _ _ he;refine ⟨q1,rfl,hq1,fun hag=>?_⟩;have e:=hag i (lr _) (by omega);rw [oneOp_eq e] at c1;rw [isTk_eq e] at c2 c3 c4 c5;unfold fUnitB;rw [iN c1,iN c2,iN c3,iN c4,iP c5];exact hA1 hag
 rw [iN c5] at he;cases he
theorem rowL_loc {P Q:FPar} (h:Loc l m a b P Q) (op:Int) (sign:Bs):∀ (K:Nat) (t:Fm) (i:Nat) (f:Fm) (j:Nat),rowL l op sign P K t (i+a)=.ok f j→l.length≤i+a+K→∃ q,j=q+a∧i≤q∧(Ag l m a b i q→∀ K2,m.length≤i+b+K2→rowL m op sign Q K2 t (i+b)=.ok f (q+b))
 | 0,t,i,f,j,he,hl=>by
  rw [rowL] at he;obtain ⟨rfl,rfl⟩:=ok_inj3 he;refine ⟨i,rfl,lr _,fun hag K2 hK=>?_⟩;have hn:l[i+a]?=none:=List.getElem?_eq_none (by omega);have hm:=(hag i (lr _) (lr _)).none_iff.1 hn
  have hw:¬isTk m (i+b) 4 sign=true:=fun hw=>by
   have:=isTk_in hw;rw [List.getElem?_eq_none_iff] at hm;omega
  cases K2 with
  | zero=>rfl
  | succ K2=>rw [rowL,iN hw]
 | K+1,t,i,f,j,he,hl=>by
  rw [rowL] at he
  by_cases hw:isTk l (i+a) 4 sign=true
  · rw [iP hw] at he;obtain ⟨u,k,h1,h2⟩:=then_ok3 he;obtain ⟨q1,rfl,hq1,hA1⟩:=step_loc h i h1;obtain ⟨q,rfl,hq,hA⟩:=rowL_loc h op sign K _ q1 f j h2 (by omega);refine ⟨q,rfl,by omega,fun hag K2 hK=>?_⟩;rw [isTk_eq (hag i (lr _) (by omega))] at hw;have hin:=isTk_in hw;obtain ⟨K3,rfl⟩:∃ K3,K2=K3+1:=⟨K2 - 1,by omega⟩;rw [rowL,iP hw,hA1 (hag.sub (by omega) (by omega)),Rs.then_ok];exact hA (hag.sub (by omega) (lr _)) K3 (by omega)
  · rw [iN hw] at he;obtain ⟨rfl,rfl⟩:=ok_inj3 he;refine ⟨i,rfl,lr _,fun hag K2 hK=>?_⟩;rw [isTk_eq (hag i (lr _) (lr _))] at hw
    cases K2 with
    | zero=>rfl
    | succ K2=>rw [rowL,iN hw]
theorem row_loc {P Q:FPar} (h:Loc l m a b P Q) (op:Int) (sign:Bs):Loc l m a b (rowB l op sign P) (rowB m op sign Q):=by
 intro i f j he;unfold rowB at he;obtain ⟨u,k,h1,h2⟩:=then_ok3 he;obtain ⟨q1,rfl,hq1,hA1⟩:=h _ _ _ h1;obtain ⟨q,rfl,hq,hA⟩:=rowL_loc h op sign _ _ q1 f j h2 (by omega);refine ⟨q,rfl,by omega,fun hag=>?_⟩;unfold rowB;rw [hA1 (hag.sub (lr _) (by omega)),Rs.then_ok];exact hA (hag.sub (by omega) (lr _)) _ (by omega)
theorem fform_loc {s t:Option FLvl} (hf:LocS l m a b (s.map FLvl.form) (t.map FLvl.form)) (hu:LocS l m a b (s.map FLvl.unit) (t.map FLvl.unit)):Loc l m a b (fFormB l s) (fFormB m t):=by
 have hor:Loc l m a b (fOrs l s) (fOrs m t):=row_loc (row_loc (funit_loc hf hu) 3 [38]) 4 [124];intro i f j he;unfold fFormB at he;obtain ⟨x,k,h1,h2⟩:=then_ok3 he;obtain ⟨q1,rfl,hq1,hA1⟩:=hor _ _ _ h1
 by_cases c1:isTk l (q1+a) 4 [45,62]=true
 · rw [iP c1] at h2;obtain ⟨y,k2,h3,h4⟩:=then_ok3 h2;obtain ⟨q2,rfl,hq2,hA2⟩:=finner_loc hf _ _ _ h3;obtain ⟨rfl,rfl⟩:=ok_inj3 h4;refine ⟨q2,rfl,by omega,fun hag=>?_⟩;rw [isTk_eq (hag q1 (by omega) (by omega))] at c1;unfold fFormB;rw [hA1 (hag.sub (by omega) (by omega)),Rs.then_ok,iP c1,hA2 (hag.sub (by omega) (by omega)),Rs.then_ok]
 · rw [iN c1] at h2;obtain ⟨rfl,rfl⟩:=ok_inj3 h2;refine ⟨q1,rfl,hq1,fun hag=>?_⟩;rw [isTk_eq (hag q1 (by omega) (by omega))] at c1;unfold fFormB;rw [hA1 hag,Rs.then_ok,iN c1]
theorem flvl_loc:∀ r,Loc l m a b (flvl l r).form (flvl m r).form∧Loc l m a b (flvl l r).unit (flvl m r).unit
 | 0=>by rw [flvl,flvl];exact ⟨fform_loc (.inl ⟨rfl,rfl⟩) (.inl ⟨rfl,rfl⟩),funit_loc (.inl ⟨rfl,rfl⟩) (.inl ⟨rfl,rfl⟩)⟩
 | r+1=>by
  obtain ⟨h1,h2⟩:=flvl_loc r;rw [flvl,flvl];exact ⟨fform_loc (.inr ⟨_,_,rfl,rfl,h1⟩) (.inr ⟨_,_,rfl,rfl,h2⟩),funit_loc (.inr ⟨_,_,rfl,rfl,h1⟩) (.inr ⟨_,_,rfl,rfl,h2⟩)⟩
theorem fmP_loc:Loc l m a b (fmP l) (fmP m):=by
 intro i f j he;unfold fmP takeF at he
 cases hr:(flvl l 256).form (i+a) with
 | bad k e=>
  rw [hr] at he;have:=(flvl_nz l 256).form _ _ _ hr;simp [this] at he
 | ok x k=>
  rw [hr] at he
  by_cases hc:x.check=0
  · simp [hc] at he;obtain ⟨rfl,rfl⟩:=he;obtain ⟨q,rfl,hq,hA⟩:=(flvl_loc (l:=l) (m:=m) (a:=a) (b:=b) 256).1 _ _ _ hr;refine ⟨q,rfl,hq,fun hag=>?_⟩;unfold fmP takeF;rw [hA hag];simp [hc]
  · simp [hc] at he
end
end Go.Proofs.YtkhoeoilamddaaaGreatDoor
