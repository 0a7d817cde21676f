/- Walks and plain words: TrmP ParP TrmA TrmB. -/
import Derived.Test.YtnbphgeepnknlaaGreatDoorULex6
import Derived.Laws.CopyOwn
namespace Go.Proofs.YtnbphgeepnknlaaGreatDoor
set_option linter.unusedVariables false
set_option linter.unusedSectionVars false
inductive Tm where
 | mk (op n:Int) (name:ByteArray) (kids:List Tm):Tm
namespace Tm
def op:Tm→Int | mk o _ _ _=>o
def num:Tm→Int | mk _ n _ _=>n
def name:Tm→ByteArray | mk _ _ s _=>s
def kids:Tm→List Tm | mk _ _ _ l=>l
end Tm
mutual
def Tm.size:Tm→Nat
 | .mk _ _ _ l=>1+Tm.sizeL l
def Tm.sizeL:List Tm→Nat
 | []=>0
 | t :: r=>t.size+Tm.sizeL r
end
theorem Tm.sizeL_mem:∀ {l:List Tm} {t:Tm},t∈l→t.size≤Tm.sizeL l
 | x :: r,t,h=>by
  rcases List.mem_cons.1 h with rfl | h
  · rw [Tm.sizeL];omega
  · have:=Tm.sizeL_mem h;rw [Tm.sizeL];omega
theorem Tm.len_le:∀ (l:List Tm),l.length≤Tm.sizeL l
 | []=>zl _
 | t :: r=>by
  have:=Tm.len_le r;cases t;rw [Tm.sizeL,Tm.size,List.length_cons];omega
theorem Tm.sizeL_snoc:∀ {l:List Tm} {k:Nat} {t:Tm},l[k]?=some t→Tm.sizeL (l.take (k+1))=Tm.sizeL (l.take k)+t.size
 | x :: r,0,t,h=>by
  simp at h;subst h;simp [Tm.sizeL]
 | x :: r,k+1,t,h=>by
  have:=Tm.sizeL_snoc (l:=r) (k:=k) (by simpa using h);simp only [List.take_succ_cons,Tm.sizeL] at this ⊢;omega
theorem Tm.sizeL_take_le:∀ (l:List Tm) (k:Nat),Tm.sizeL (l.take k)≤Tm.sizeL l
 | [],k=>by simp
 | x :: r,0=>by simp [Tm.sizeL]
 | x :: r,k+1=>by
  have:=Tm.sizeL_take_le r k;simp only [List.take_succ_cons,Tm.sizeL];omega
def kidsOf (op:Int):Int×Int:=
 if op=1∨op=2∨op=3∨op=4 then (0,0) else if op=5 then (1,1) else if op=6∨op=7 then (1,64) else if op=8∨op=9∨op=10∨op=11∨op=12∨op=13∨op=14∨op=15∨op=16∨op=17 then (2,2) else if op=18 then (3,3) else (-1,-1)
def lowE (op:Int):Int:=if op=1 then -255 else 0
def highE (op:Int):Int:=if op=1 then 255 else if op=2 then 1 else 0
def wrongE (op n:Int) (nm k:Nat):Int:=
 if (kidsOf op).1<0 then 11
 else if n<lowE op∨highE op<n then 2
 else if (op=3∨op=4)∧(nm=0∨24<nm)∨¬(op=3∨op=4)∧nm≠0 then 12
 else if (k:Int)<(kidsOf op).1∨(kidsOf op).2<k then 3 else 0
section
variable {σ:Type} (step:σ→Tm→Nat→σ×Bool)
mutual
def walkF:Tm→Nat→σ→σ×Bool
 | .mk o n s l,d,x=>match step x (.mk o n s l) d with
  | (y,true)=>walkL l (d+1) y
  | (y,false)=>(y,false)
def walkL:List Tm→Nat→σ→σ×Bool
 | [],_,x=>(x,true)
 | t :: r,d,x=>match walkF t d x with
  | (y,true)=>walkL r d y
  | (y,false)=>(y,false)
end
end
def chkStep (x:Int×Nat) (t:Tm) (d:Nat):(Int×Nat)×Bool:=
 let e:Int:=if 64<d then 17 else let e:=wrongE t.op t.num t.name.size t.kids.length;if e=0∧4096<x.2+1 then 4 else e
 ((e,x.2+1),decide (e=0))
def Tm.check (t:Tm):Int:=(walkF chkStep t 1 (0,0)).1.1
theorem walkF_eq {σ:Type} (step:σ→Tm→Nat→σ×Bool) (t:Tm) (d:Nat) (x:σ):walkF step t d x=if (step x t d).2=true then walkL step t.kids (d+1) (step x t d).1 else ((step x t d).1,false):=by
 cases t with
 | mk o n s l=>
  rw [walkF]
  cases h:step x (.mk o n s l) d with
  | mk y b=>cases b <;> rfl
def ruleOf (op:Int):Nat:=
 if op=9 then 0 else if op=8 then 1 else if op=7 then 2 else if op=6 then 3 else if op=5 then 4 else if op=10∨op=11∨op=12∨op=13 then 5 else if op=14∨op=15 then 6 else if op=16∨op=17 then 7 else 8
def asksN (op:Int) (i:Nat):Nat:=
 if op=9 then 1 else if op=8 then 2 - i else if op=7 then 3 else if op=6∨op=5 then 4 else if op=10∨op=11∨op=12∨op=13 then 6 else if op=14∨op=15 then 6+i else if op=16∨op=17 then 7+i else 0
def signB (op:Int):Bs:=
 if op=9 then [60,45,62] else if op=8 then [45,62] else if op=7 then [124] else if op=6 then [38] else if op=10 then [61] else if op=11 then [33,61] else if op=12 then [60] else if op=13 then [60,61] else if op=14 then [43] else if op=15 then [45] else if op=16 then [42] else [109,111,100]
def betw (op:Int):Bs:=[32]++signB op++[32]
def ifW (i:Nat):Bs:=if i=0 then [105,102,32] else if i=1 then [32,116,104,101,110,32] else [32,101,108,115,101,32]
def wrapP (p:Bool) (b:Bs):Bs:=if p then [40]++b++[41] else b
section
variable (numS:Int→Bs)
def loneT (op n:Int) (s:Bs):Bs:=
 if op=1 then numS n else if op=2 then (if n=1 then [116,114,117,101] else [102,97,108,115,101]) else if op=3 then s else [110,101,120,116,40]++s++[41]
def bodyE (op n:Int) (s:Bs) (b5 b18 bj:Bs):Bs:=
 if op=1∨op=2∨op=3∨op=4 then loneT numS op n s else if op=5 then [33]++b5 else if op=18 then b18 else bj
mutual
def shw:Tm→Nat→Bool→Bs
 | .mk op n s l,rule,ends=>
  let p:=decide (ruleOf op<rule) || (decide (op=18) && !ends)
  wrapP p (bodyE numS op n s.data.toList (shwNot l (p || ends)) (shwIf l 0) (shwJoin op l 0 (p || ends)))
def shwNot:List Tm→Bool→Bs
 | [],_=>[]
 | k :: _,ends=>shw k 4 ends
def shwIf:List Tm→Nat→Bs
 | [],_=>[]
 | k :: r,i=>ifW i++shw k 0 true++shwIf r (i+1)
def shwJoin (op:Int):List Tm→Nat→Bool→Bs
 | [],_,_=>[]
 | k :: r,i,ends=>(if i=0 then [] else betw op)++shw k (asksN op i) (ends && r.isEmpty)++shwJoin op r (i+1) ends
end
end
mutual
def Tm.okT:Tm→Nat→Prop
 | .mk o n s l,d=>d≤64∧wrongE o n s.size l.length=0∧Tm.okL l (d+1)
def Tm.okL:List Tm→Nat→Prop
 | [],_=>True
 | t :: r,d=>t.okT d∧Tm.okL r d
end
mutual
theorem chk_spec:∀ (t:Tm) (d:Nat) (x:Int×Nat),((walkF chkStep t d x).2=true→t.okT d∧(walkF chkStep t d x).1=(0,x.2+t.size)∧x.2+t.size≤4096)∧((walkF chkStep t d x).2=false→(walkF chkStep t d x).1.1≠0)
 | .mk o n s l,d,x=>by
  rw [walkF_eq,Tm.okT,Tm.size];have hs:chkStep x (.mk o n s l) d=((if 64<d then 17 else if wrongE o n s.size l.length=0∧4096<x.2+1 then 4 else wrongE o n s.size l.length,x.2+1),decide ((if 64<d then (17:Int) else if wrongE o n s.size l.length=0∧4096<x.2+1 then 4 else wrongE o n s.size l.length)=0)):=rfl;rw [hs]
  by_cases h1:64<d
  · simp [h1]
  · by_cases h2:wrongE o n s.size l.length=0
    · by_cases h3:4096<x.2+1
      · simp [h1,h2,h3]
      · have ih:=chkL_spec l (d+1) (0,x.2+1) rfl (by simp;omega);simp only [h1,h2,h3,if_false,and_false,decide_true,if_true,Tm.kids];refine ⟨fun h=>?_,fun h=>ih.2 h⟩;obtain ⟨i1,i2,i3⟩:=ih.1 h;simp only at i2 i3;exact ⟨⟨by omega,trivial,i1⟩,by rw [i2,Nat.add_assoc],by omega⟩
    · simp [h1,h2]
theorem chkL_spec:∀ (l:List Tm) (d:Nat) (x:Int×Nat),x.1=0→x.2≤4096→((walkL chkStep l d x).2=true→Tm.okL l d∧(walkL chkStep l d x).1=(0,x.2+Tm.sizeL l)∧x.2+Tm.sizeL l≤4096)∧((walkL chkStep l d x).2=false→(walkL chkStep l d x).1.1≠0)
 | [],d,x,h0,h1=>by
  rw [walkL,Tm.okL,Tm.sizeL];refine ⟨fun _=>⟨trivial,by rw [←h0];rfl,h1⟩,fun h=>by cases h⟩
 | t :: r,d,x,h0,h1=>by
  have ih:=chk_spec t d x;rw [walkL,Tm.okL,Tm.sizeL]
  cases hw:walkF chkStep t d x with
  | mk y b=>
   rw [hw] at ih
   cases b with
   | false=>
    exact ⟨(fun h=>by cases h),fun _=>ih.2 rfl⟩
   | true=>
    obtain ⟨i1,i2,i3⟩:=ih.1 rfl;simp only at i2;subst i2;have ih2:=chkL_spec r d (0,x.2+t.size) rfl i3;refine ⟨fun h=>?_,fun h=>ih2.2 h⟩;obtain ⟨j1,j2,j3⟩:=ih2.1 h;simp only at j2 j3;exact ⟨⟨i1,j1⟩,by simp only;rw [j2,Nat.add_assoc],by omega⟩
end
theorem check_ok {t:Tm} (h:t.check=0):t.okT 1∧t.size≤4096:=by
 have hs:=chk_spec t 1 (0,0);unfold Tm.check at h
 cases hb:(walkF chkStep t 1 (0,0)).2 with
 | false=>exact absurd h (hs.2 hb)
 | true=>
  obtain ⟨h1,_,h3⟩:=hs.1 hb;exact ⟨h1,by simpa using h3⟩
theorem okL_mem:∀ {l:List Tm} {d:Nat} {t:Tm},Tm.okL l d→t∈l→t.okT d
 | x :: r,d,t,h,hm=>by
  rw [Tm.okL] at h
  rcases List.mem_cons.1 hm with rfl | hm
  · exact h.1
  · exact okL_mem h.2 hm
theorem okT_open {t:Tm} {d:Nat} (h:t.okT d):d≤64∧wrongE t.op t.num t.name.size t.kids.length=0∧∀ k∈t.kids,k.okT (d+1):=by
 cases t with
 | mk o n s l=>
  rw [Tm.okT] at h;exact ⟨h.1,h.2.1,fun k hk=>okL_mem h.2.2 hk⟩
theorem wrong_ok {op n:Int} {nm k:Nat} (h:wrongE op n nm k=0):0≤(kidsOf op).1∧(op=1→-255≤n∧n≤255)∧nm≤24∧(kidsOf op).1≤k∧(k:Int)≤(kidsOf op).2∧(op=2→0≤n∧n≤1)∧(op≠1→op≠2→n=0)∧((op=3∨op=4)→0<nm)∧(¬(op=3∨op=4)→nm=0):=by
 unfold wrongE at h
 by_cases h1:(kidsOf op).1<0
 · rw [iP h1] at h;cases h
 rw [iN h1] at h
 by_cases h2:n<lowE op∨highE op<n
 · rw [iP h2] at h;cases h
 rw [iN h2] at h
 by_cases h3:(op=3∨op=4)∧(nm=0∨24<nm)∨¬(op=3∨op=4)∧nm≠0
 · rw [iP h3] at h;cases h
 rw [iN h3] at h
 by_cases h4:(k:Int)<(kidsOf op).1∨(kidsOf op).2<k
 · rw [iP h4] at h;cases h
 unfold lowE highE at h2
 have h5:(op=3∨op=4)→0<nm∧nm≤24:=fun hx=>by
  have:¬(nm=0∨24<nm):=fun hy=>h3 (.inl ⟨hx,hy⟩);omega
 have h6:¬(op=3∨op=4)→nm=0:=fun hx=>by
  have:¬nm≠0:=fun hy=>h3 (.inr ⟨hx,hy⟩);omega
 refine ⟨by omega,fun hx=>?_,?_,by omega,by omega,fun hx=>?_,fun hx hy=>?_,fun hx=>(h5 hx).1,h6⟩
 · rw [iP hx,iP hx] at h2;omega
 · by_cases hn:op=3∨op=4
   · exact (h5 hn).2
   · have:=h6 hn;omega
 · subst hx;simp at h2;omega
 · rw [iN hx,iN hx,iN hy] at h2;omega
theorem signB_len (op:Int):(signB op).length≤3:=by
 unfold signB
 iterate 11 (split;· simp)
 simp
theorem ifW_len (i:Nat):(ifW i).length≤6:=by
 unfold ifW
 split
 · simp
 · split <;> simp
theorem wrapP_len (p:Bool) (b:Bs):(wrapP p b).length≤b.length+2:=by
 unfold wrapP
 split <;> simp
section
variable {numS:Int→Bs} (hn:∀ n,-255≤n→n≤255→(numS n).length≤20)
include hn
theorem loneT_len (op n:Int) (s:Bs) (h1:op=1→-255≤n∧n≤255):(loneT numS op n s).length≤s.length+20:=by
 unfold loneT
 split
 · rename_i ho;have:=hn n (h1 ho).1 (h1 ho).2;omega
 · split
   · split <;> simp
   · split
     · omega
     · simp <;> omega
theorem bodyE_len (op n:Int) (s b5 b18 bj:Bs) (L:Nat) (h1:op=1→-255≤n∧n≤255) (h5:b5.length≤L) (h18:b18.length≤L) (hj:bj.length≤L):(bodyE numS op n s b5 b18 bj).length≤s.length+20+L:=by
 unfold bodyE
 split
 · have:=loneT_len hn op n s h1;omega
 · split
   · simp;omega
   · split <;> omega
mutual
theorem shw_len:∀ (t:Tm) (rule:Nat) (ends:Bool) (d:Nat),t.okT d→(shw numS t rule ends).length+10≤80*t.size
 | .mk op n s l,rule,ends,d,h=>by
  rw [Tm.okT] at h;have hs:=(wrong_ok h.2.1).2.2.1;have hsl:s.data.toList.length=s.size:=by simp
  have hb:=bodyE_len hn op n s.data.toList (shwNot numS l (decide (ruleOf op<rule) || (decide (op=18) && !ends) || ends)) (shwIf numS l 0) (shwJoin numS op l 0 (decide (ruleOf op<rule) || (decide (op=18) && !ends) || ends)) (80*Tm.sizeL l) (wrong_ok h.2.1).2.1 (shwNot_len l _ _ h.2.2) (shwIf_len l _ _ h.2.2) (shwJoin_len op l _ _ _ h.2.2);rw [shw,Tm.size];have hw:=wrapP_len (decide (ruleOf op<rule) || (decide (op=18) && !ends)) (bodyE numS op n s.data.toList (shwNot numS l (decide (ruleOf op<rule) || (decide (op=18) && !ends) || ends)) (shwIf numS l 0) (shwJoin numS op l 0 (decide (ruleOf op<rule) || (decide (op=18) && !ends) || ends)));show (wrapP _ _).length+10≤_;omega
theorem shwNot_len:∀ (l:List Tm) (ends:Bool) (d:Nat),Tm.okL l d→(shwNot numS l ends).length≤80*Tm.sizeL l
 | [],_,_,_=>by simp [shwNot]
 | k :: r,ends,d,h=>by
  rw [Tm.okL] at h;have:=shw_len k 4 ends d h.1;rw [shwNot,Tm.sizeL];omega
theorem shwIf_len:∀ (l:List Tm) (i d:Nat),Tm.okL l d→(shwIf numS l i).length≤80*Tm.sizeL l
 | [],_,_,_=>by simp [shwIf]
 | k :: r,i,d,h=>by
  rw [Tm.okL] at h;have h1:=shw_len k 0 true d h.1;have h2:=shwIf_len r (i+1) d h.2;have h3:=ifW_len i;rw [shwIf,Tm.sizeL,List.length_append,List.length_append];omega
theorem shwJoin_len (op:Int):∀ (l:List Tm) (i:Nat) (ends:Bool) (d:Nat),Tm.okL l d→(shwJoin numS op l i ends).length≤80*Tm.sizeL l
 | [],_,_,_,_=>by simp [shwJoin]
 | k :: r,i,ends,d,h=>by
  rw [Tm.okL] at h;have h1:=shw_len k (asksN op i) (ends && r.isEmpty) d h.1;have h2:=shwJoin_len op r (i+1) ends d h.2;have h3:=signB_len op
  have h4:(if i=0 then [] else betw op).length≤5:=by
   split
   · simp
   · simp [betw];omega
  rw [shwJoin,Tm.sizeL,List.length_append,List.length_append];omega
end
end
inductive Rs (α:Type) where
 | bad (i:Nat) (e:Int):Rs α
 | ok (x:α) (i:Nat):Rs α
def Rs.then {α β:Type} (r:Rs α) (f:α→Nat→Rs β):Rs β:=match r with
 | .bad i e=>.bad i e
 | .ok x i=>f x i
@[simp] theorem Rs.then_bad {α β:Type} (i:Nat) (e:Int) (f:α→Nat→Rs β):(Rs.bad i e:Rs α).then f=.bad i e:=rfl
@[simp] theorem Rs.then_ok {α β:Type} (x:α) (i:Nat) (f:α→Nat→Rs β):(Rs.ok x i).then f=f x i:=rfl
abbrev Par:=Nat→Rs Tm
section
variable (l:List Tok)
def isTk (i:Nat) (k:Int) (s:Bs):Bool:=match l[i]? with
 | some t=>decide (t.kind=k) && decide (t.text=s)
 | none=>false
def isKd (i:Nat) (k:Int):Bool:=match l[i]? with
 | some t=>decide (t.kind=k)
 | none=>false
def numAt (i:Nat):Int:=match l[i]? with
 | some t=>t.n
 | none=>0
def textAt (i:Nat):Bs:=match l[i]? with
 | some t=>t.text
 | none=>[]
def nomk:ByteArray:=⟨#[]⟩
def tmNum (n:Int):Tm:=.mk 1 n nomk []
def tmBool (n:Int):Tm:=.mk 2 n nomk []
def tmName (op:Int) (s:Bs):Tm:=.mk op 0 ⟨s.toArray⟩ []
def tmOf (op:Int) (ks:List Tm):Tm:=.mk op 0 nomk ks
def zeroTm:Tm:=.mk 0 0 nomk []
def whichOp (i:Nat):List Int→Int
 | []=>0
 | op :: r=>if (if op=17 then isTk l i 3 [109,111,100] else isTk l i 4 (signB op)) then op else whichOp i r
def manyEnd (op:Int) (acc:List Tm):Tm:=match acc with
 | [t]=>t
 | _=>tmOf op acc
def manyF (op:Int) (one:Par):Nat→List Tm→Nat→Rs Tm
 | 0,acc,i=>.ok (manyEnd op acc) i
 | k+1,acc,i=>if whichOp l i [op]=0 then .ok (manyEnd op acc) i else (one (i+1)).then fun t j=>manyF op one k (acc++[t]) j
def many (op:Int) (one:Par):Par:=fun i=>(one i).then fun t j=>manyF l op one l.length [t] j
def leftL (one:Par) (ops:List Int):Nat→Tm→Nat→Rs Tm
 | 0,t,i=>.ok t i
 | k+1,t,i=>if whichOp l i ops=0 then .ok t i else (one (i+1)).then fun u j=>leftL one ops k (tmOf (whichOp l i ops) [t,u]) j
def left (one:Par) (ops:List Int):Par:=fun i=>(one i).then fun t j=>leftL l one ops l.length t j
def wTrue:Bs:=[116,114,117,101]
def wFalse:Bs:=[102,97,108,115,101]
def wNext:Bs:=[110,101,120,116]
def wIf:Bs:=[105,102]
def wThen:Bs:=[116,104,101,110]
def wElse:Bs:=[101,108,115,101]
def inner (sub:Option Par):Par:=fun i=>match sub with
 | none=>.bad i 17
 | some p=>p (i+1)
def choiceB (sub:Option Par):Par:=fun i=>(inner sub i).then fun a j=>
 if isTk l j 3 wThen then (inner sub j).then fun b k=>
  if isTk l k 3 wElse then (inner sub k).then fun c m=>.ok (tmOf 18 [a,b,c]) m
  else .bad k 16
 else .bad j 16
def unitF (sub:Option Par):Par:=fun i=>
 if isTk l i 4 [45] then (if isKd l (i+1) 1 then .ok (tmNum (- numAt l (i+1))) (i+2) else .bad (i+1) 16)
 else if isTk l i 3 wTrue then .ok (tmBool 1) (i+1)
 else if isTk l i 3 wFalse then .ok (tmBool 0) (i+1)
 else if isTk l i 3 wNext then
  (if isTk l (i+1) 4 [40] then (if isKd l (i+2) 2 then (if isTk l (i+3) 4 [41] then .ok (tmName 4 (textAt l (i+2))) (i+4) else .bad (i+3) 16) else .bad (i+2) 16) else .bad (i+1) 16)
 else if isTk l i 4 [40] then (inner sub i).then fun t j=>if isTk l j 4 [41] then .ok t (j+1) else .bad j 16
 else if isTk l i 3 wIf then choiceB l sub i
 else if isKd l i 2 then .ok (tmName 3 (textAt l i)) (i+1)
 else if isKd l i 1 then .ok (tmNum (numAt l i)) (i+1)
 else .bad i 16
def notB (sub:Option Par) (sum:Par):Par:=fun i=>
 if isTk l i 4 [33] then (inner sub i).then fun t j=>.ok (tmOf 5 [t]) j
 else (sum i).then fun t j=>if whichOp l j [10,11,12,13]=0 then .ok t j else (sum (j+1)).then fun u k=>.ok (tmOf (whichOp l j [10,11,12,13]) [t,u]) k
def impB (sub:Option Par) (or:Par):Par:=fun i=>(or i).then fun t j=>if whichOp l j [8]=0 then .ok t j else (inner sub j).then fun u k=>.ok (tmOf 8 [t,u]) k
def termB (imp:Par):Par:=fun i=>(imp i).then fun t j=>if whichOp l j [9]=0 then .ok t j else (imp (j+1)).then fun u k=>.ok (tmOf 9 [t,u]) k
structure Lvl where
 term:Par
 imp:Par
 not:Par
def prodB (sub:Option Par):Par:=left l (unitF l sub) [16,17]
def sumB (sub:Option Par):Par:=left l (prodB l sub) [14,15]
def notOf (s:Option Lvl):Par:=notB l (s.map Lvl.not) (sumB l (s.map Lvl.term))
def andOf (s:Option Lvl):Par:=many l 6 (notOf l s)
def orOf (s:Option Lvl):Par:=many l 7 (andOf l s)
def impOf (s:Option Lvl):Par:=impB l (s.map Lvl.imp) (orOf l s)
def lvlB (s:Option Lvl):Lvl:=⟨termB l (impOf l s),impOf l s,notOf l s⟩
def lvl:Nat→Lvl
 | 0=>lvlB l none
 | r+1=>lvlB l (some (lvl r))
def sub:Nat→Option Lvl
 | 0=>none
 | r+1=>some (lvl l r)
theorem lvl_eq (r:Nat):lvl l r=lvlB l (sub l r):=by cases r <;> rfl
def takeT (i:Nat):Tm×Nat×Int:=match (lvl l 256).term i with
 | .bad j e=>(zeroTm,j,e)
 | .ok t j=>if t.check=0 then (t,j,0) else (zeroTm,i,t.check)
def atOf (n:Nat) (i:Nat):Int:=match l[i]? with
 | some t=>t.at_
 | none=>n
end
open Go.RowKit
mutual
def TmAt (w:World) (g o:Nat):Tm→Prop
 | .mk op n s l=>w.cell? ⟨g,o,none⟩=some (.int .i64 op)∧w.cell? ⟨g,o+1,none⟩=some (.int .i64 n)∧w.cell? ⟨g,o+2,none⟩=some (.string s)∧s.size≤maxLen ∧
  ∃ A c,w.cell? ⟨g,o+3,none⟩=some (.slice A l.length c)∧l.length≤c∧c≤maxLen∧(l=[]∨∃ g' o',A=some ⟨g',o',none⟩∧g'<w.heap.size∧TmRow w g' o' l)
def TmRow (w:World) (g o:Nat):List Tm→Prop
 | []=>True
 | t :: r=>TmAt w g o t∧TmRow w g (o+4) r
end
def KidsAt (w:World) (A:Option Addr) (l:List Tm):Prop:=l=[]∨∃ g' o',A=some ⟨g',o',none⟩∧g'<w.heap.size∧TmRow w g' o' l
mutual
theorem TmAt.below {B:Nat} {w w':World} (hb:Below B w w') (hB:B=w.heap.size):∀ {t:Tm} {g o:Nat},g<B→TmAt w g o t→TmAt w' g o t
 | .mk op n s l,g,o,hg,h=>by
  rw [TmAt] at h ⊢;obtain ⟨h0,h1,h2,hs,A,c,h3,h4,h5,h6⟩:=h;refine ⟨by rw [hb.cell (p:=⟨g,_,none⟩) hg];exact h0,by rw [hb.cell (p:=⟨g,_,none⟩) hg];exact h1,by rw [hb.cell (p:=⟨g,_,none⟩) hg];exact h2,hs,A,c,by rw [hb.cell (p:=⟨g,_,none⟩) hg];exact h3,h4,h5,?_⟩
  rcases h6 with h6 | ⟨g',o',rfl,hg',h6⟩
  · exact .inl h6
  · exact .inr ⟨g',o',rfl,lL hg' hb.size,TmRow.below hb hB (by omega) h6⟩
theorem TmRow.below {B:Nat} {w w':World} (hb:Below B w w') (hB:B=w.heap.size):∀ {l:List Tm} {g o:Nat},g<B→TmRow w g o l→TmRow w' g o l
 | [],g,o,hg,h=>by rw [TmRow];trivial
 | t :: r,g,o,hg,h=>by
  rw [TmRow] at h ⊢;exact ⟨TmAt.below hb hB hg h.1,TmRow.below hb hB hg h.2⟩
end
theorem KidsAt.below {B:Nat} {w w':World} {A:Option Addr} {l:List Tm} (h:KidsAt w A l) (hb:Below B w w') (hB:B=w.heap.size):KidsAt w' A l:=by
 rcases h with h | ⟨g',o',rfl,hg',h⟩
 · exact .inl h
 · exact .inr ⟨g',o',rfl,lL hg' hb.size,TmRow.below hb hB (by omega) h⟩
theorem TmRow.get:∀ {w:World} {l:List Tm} {g o j:Nat} {t:Tm},TmRow w g o l→l[j]?=some t→TmAt w g (o+4*j) t
 | w,x :: r,g,o,0,t,h,hj=>by
  rw [TmRow] at h;simp at hj;subst hj;exact h.1
 | w,x :: r,g,o,j+1,t,h,hj=>by
  rw [TmRow] at h;have:=TmRow.get h.2 (j:=j) (by simpa using hj)
  rwa [show o+4+4*j=o+4*(j+1) from by omega] at this
structure TmV (w:World) (A:Option Addr) (c:Nat) (t:Tm):Prop where
 cap:t.kids.length≤c
 capm:c≤maxLen
 name:t.name.size≤maxLen
 kids:KidsAt w A t.kids
theorem TmV.below {B:Nat} {w w':World} {A:Option Addr} {c:Nat} {t:Tm} (h:TmV w A c t) (hb:Below B w w') (hB:B=w.heap.size):TmV w' A c t:=⟨h.cap,h.capm,h.name,h.kids.below hb hB⟩
def Tm.val (A:Option Addr) (c:Nat) (t:Tm):Value:=.agg #[.int .i64 t.op,.int .i64 t.num,.string t.name,.slice A t.kids.length c]
theorem TmAt.open {w:World} {g o:Nat} {t:Tm} (h:TmAt w g o t):w.cell? ⟨g,o,none⟩=some (.int .i64 t.op)∧w.cell? ⟨g,o+1,none⟩=some (.int .i64 t.num)∧w.cell? ⟨g,o+2,none⟩=some (.string t.name)∧∃ A c,w.cell? ⟨g,o+3,none⟩=some (.slice A t.kids.length c)∧TmV w A c t:=by
 cases t with
 | mk op n s l=>
  rw [TmAt] at h;obtain ⟨h0,h1,h2,hs,A,c,h3,h4,h5,h6⟩:=h;exact ⟨h0,h1,h2,A,c,h3,h4,h5,hs,h6⟩
theorem TmAt.mk {w:World} {g o:Nat} {t:Tm} {A:Option Addr} {c:Nat} (h0:w.cell? ⟨g,o,none⟩=some (.int .i64 t.op)) (h1:w.cell? ⟨g,o+1,none⟩=some (.int .i64 t.num)) (h2:w.cell? ⟨g,o+2,none⟩=some (.string t.name)) (h3:w.cell? ⟨g,o+3,none⟩=some (.slice A t.kids.length c)) (h:TmV w A c t):TmAt w g o t:=by
 cases t with
 | mk op n s l=>
  rw [TmAt];exact ⟨h0,h1,h2,h.name,A,c,h3,h.cap,h.capm,h.kids⟩
set_option maxRecDepth 100000
set_option maxHeartbeats 4000000
theorem kids_any (op:Int) (w:World) :
 Calls Tryz.prog 162 #[.int .i64 op] w fun e w'=>e=.returned (.tuple #[.int .i64 (kidsOf op).1,.int .i64 (kidsOf op).2])∧w=w':=by
 obtain ⟨r,HR⟩:=exh_ (kidsOf op);rw [←HR.out];go_enter Tryz.func162,Tryz.ntmps162
 go_wp2
 all_goals
  go_ret2
  rw [HR.out];refine ⟨?_,rfl⟩
  simp_all [kidsOf]
theorem isEmpty_of_size {s:ByteArray} (h:s.size=0):s.toList.isEmpty=true:=by
 rw [ByteArray.toList_eq];have:s.data.toList.length=0:=by simpa using h
 rw [List.eq_nil_of_length_eq_zero this]
 rfl
theorem isEmpty_of_pos {s:ByteArray} (h:0<s.size):s.toList.isEmpty=false:=by
 rw [ByteArray.toList_eq];have:0<s.data.toList.length:=by simpa using h
 cases hl:s.data.toList with
 | nil=>rw [hl] at this;simp at this
 | cons _ _=>rfl
theorem toList_of_size {s:ByteArray} (h:s.size=0):s.toList=[]:=List.isEmpty_iff.1 (isEmpty_of_size h)
theorem wrongE_cls (op n:Int) (nm k:Nat) (lo hi:Int) (nb:Nat) (hlo:lowE op=lo) (hhi:highE op=hi) (hnb:(if op=3∨op=4 then 1 else 0)=nb) :
 wrongE op n nm k=if (kidsOf op).1<0 then 11 else if n<lo∨hi<n then 2 else if nb=1∧(nm=0∨24<nm)∨nb=0∧nm≠0 then 12 else if (k:Int)<(kidsOf op).1∨(kidsOf op).2<k then 3 else 0:=by
 subst hlo hhi hnb;unfold wrongE
 by_cases h:op=3∨op=4
 · simp [h]
 · simp [h]
theorem wrong_any (op n:Int) (s:ByteArray) (A:Option Addr) (k c:Nat) (w:World) (hs:s.size≤maxLen) (hk:k≤maxLen) :
 Calls Tryz.prog 109 #[.agg #[.int .i64 op,.int .i64 n,.string s,.slice A k c]] w fun e w'=>e=.returned (.int .i64 (wrongE op n s.size k))∧Below w.heap.size w w':=by
 unfold maxLen at hs hk;obtain ⟨fk,HFK⟩:=exh_ (kidsOf op);obtain ⟨W,HW⟩:=exh_ (wrongE op n s.size k);rw [←HW.out];have HK:=Hd (fun W=>kids_any op W);rw [←HFK.out] at HK;have HB:=Hd ((Br w.heap.size w).alloc (lr _) (.cells #[.int .i64 op,.int .i64 n,.string s,.slice A k c] 25))
 have hnm:(0<s.size∧s.toList.isEmpty=false)∨(s.size=0∧s.toList.isEmpty=true):=by
  rcases Nat.eq_zero_or_pos s.size with h | h
  · exact .inr ⟨h,isEmpty_of_size h⟩
  · exact .inl ⟨h,isEmpty_of_pos h⟩
 have hcl:op=1∨op=2∨op=3∨op=4∨(op≠1∧op≠2∧op≠3∧op≠4∧(op == 1)=false∧(op == 2)=false∧(op == 3)=false∧(op == 4)=false):=by
  by_cases h1:op=1
  · exact .inl h1
  by_cases h2:op=2
  · exact .inr (.inl h2)
  by_cases h3:op=3
  · exact .inr (.inr (.inl h3))
  by_cases h4:op=4
  · exact .inr (.inr (.inr (.inl h4)))
  exact .inr (.inr (.inr (.inr ⟨h1,h2,h3,h4,by simpa using h1,by simpa using h2,by simpa using h3,by simpa using h4⟩)))
 rcases hnm with ⟨hn1,hn2⟩ | ⟨hn1,hn2⟩
 all_goals
  have HN1:=Hd hn1;try clear hn1
  rcases hcl with rfl | rfl | rfl | rfl | ⟨h1,h2,h3,h4,b1,b2,b3,b4⟩
  all_goals
   (try have HOP:=Hd (And.intro h1 (And.intro h2 (And.intro h3 h4))))
   (try clear h1 h2 h3 h4)
   go_enter Tryz.func109,Tryz.ntmps109;go_wp2_with fail;refine (HK.out _).mono ?_;rintro e w' ⟨rfl,hw⟩;rw [←hw];clear hw;go_wp2_with fail
   all_goals
    go_ret;refine ⟨?_,HB.out⟩;have hn:=HN1.out;refine congrArg (fun x=>Ending.returned (.int .i64 x)) ?_;rw [HW.out]
    first
     | rw [wrongE_cls 1 n _ _ (-255) 255 0 rfl rfl rfl]
     | rw [wrongE_cls 2 n _ _ 0 1 0 rfl rfl rfl]
     | rw [wrongE_cls 3 n _ _ 0 0 1 rfl rfl rfl]
     | rw [wrongE_cls 4 n _ _ 0 0 1 rfl rfl rfl]
     | (obtain ⟨o1,o2,o3,o4⟩:=HOP.out
        rw [wrongE_cls op n _ _ 0 0 0 (iN o1) (by unfold highE;rw [iN o1,iN o2]) (by rw [iN (by omega)])])
    rw [←HFK.out]
    repeat' split
    all_goals first | rfl | omega
end Go.Proofs.YtnbphgeepnknlaaGreatDoor
