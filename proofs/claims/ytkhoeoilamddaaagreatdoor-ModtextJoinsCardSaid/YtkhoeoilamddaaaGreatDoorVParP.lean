/- Walks and plain words: ParP FrmP FParP TrmA TrmB TrmC TrmD. -/
import Derived.Test.YtkhoeoilamddaaaGreatDoorVLex6
import Derived.Laws.CopyOwn
namespace Go.Proofs.YtkhoeoilamddaaaGreatDoor
set_option linter.unusedVariables false
inductive Rs (α:Type) where
 | bad (i:Nat) (e:Int):Rs α
 | ok (x:α) (i:Nat):Rs α
def Rs.then {α β:Type} (r:Rs α) (f:α→Nat→Rs β):Rs β:=match r with
 | .bad i e=>.bad i e
 | .ok x i=>f x i
@[simp] theorem Rs.then_bad {α β:Type} (i:Nat) (e:Int) (f:α→Nat→Rs β):(Rs.bad i e:Rs α).then f=.bad i e:=rfl
@[simp] theorem Rs.then_ok {α β:Type} (x:α) (i:Nat) (f:α→Nat→Rs β):(Rs.ok x i).then f=f x i:=rfl
abbrev Par:=Nat→Rs Tm
section
variable (l:List Tok)
def isTk (i:Nat) (k:Int) (s:Bs):Bool:=match l[i]? with
 | some t=>decide (t.kind=k) && decide (t.text=s)
 | none=>false
def isKd (i:Nat) (k:Int):Bool:=match l[i]? with
 | some t=>decide (t.kind=k)
 | none=>false
def numAt (i:Nat):Int:=match l[i]? with
 | some t=>t.n
 | none=>0
def textAt (i:Nat):Bs:=match l[i]? with
 | some t=>t.text
 | none=>[]
def nomk:ByteArray:=⟨#[]⟩
def tmNum (n:Int):Tm:=.mk 1 n nomk []
def tmBool (n:Int):Tm:=.mk 2 n nomk []
def tmName (op:Int) (s:Bs):Tm:=.mk op 0 ⟨s.toArray⟩ []
def tmOf (op:Int) (ks:List Tm):Tm:=.mk op 0 nomk ks
def zeroTm:Tm:=.mk 0 0 nomk []
def whichOp (i:Nat):List Int→Int
 | []=>0
 | op :: r=>if (if op=17 then isTk l i 3 [109,111,100] else isTk l i 4 (signB op)) then op else whichOp i r
def manyEnd (op:Int) (acc:List Tm):Tm:=match acc with
 | [t]=>t
 | _=>tmOf op acc
def manyF (op:Int) (one:Par):Nat→List Tm→Nat→Rs Tm
 | 0,acc,i=>.ok (manyEnd op acc) i
 | k+1,acc,i=>if whichOp l i [op]=0 then .ok (manyEnd op acc) i else (one (i+1)).then fun t j=>manyF op one k (acc++[t]) j
def many (op:Int) (one:Par):Par:=fun i=>(one i).then fun t j=>manyF l op one l.length [t] j
def leftL (one:Par) (ops:List Int):Nat→Tm→Nat→Rs Tm
 | 0,t,i=>.ok t i
 | k+1,t,i=>if whichOp l i ops=0 then .ok t i else (one (i+1)).then fun u j=>leftL one ops k (tmOf (whichOp l i ops) [t,u]) j
def left (one:Par) (ops:List Int):Par:=fun i=>(one i).then fun t j=>leftL l one ops l.length t j
def wTrue:Bs:=[116,114,117,101]
def wFalse:Bs:=[102,97,108,115,101]
def wNext:Bs:=[110,101,120,116]
def wIf:Bs:=[105,102]
def wThen:Bs:=[116,104,101,110]
def wElse:Bs:=[101,108,115,101]
def inner (sub:Option Par):Par:=fun i=>match sub with
 | none=>.bad i 17
 | some p=>p (i+1)
def choiceB (sub:Option Par):Par:=fun i=>(inner sub i).then fun a j=>
 if isTk l j 3 wThen then (inner sub j).then fun b k=>
  if isTk l k 3 wElse then (inner sub k).then fun c m=>.ok (tmOf 18 [a,b,c]) m
  else .bad k 16
 else .bad j 16
def unitF (sub:Option Par):Par:=fun i=>
 if isTk l i 4 [45] then (if isKd l (i+1) 1 then .ok (tmNum (- numAt l (i+1))) (i+2) else .bad (i+1) 16)
 else if isTk l i 3 wTrue then .ok (tmBool 1) (i+1)
 else if isTk l i 3 wFalse then .ok (tmBool 0) (i+1)
 else if isTk l i 3 wNext then
  (if isTk l (i+1) 4 [40] then (if isKd l (i+2) 2 then (if isTk l (i+3) 4 [41] then .ok (tmName 4 (textAt l (i+2))) (i+4) else .bad (i+3) 16) else .bad (i+2) 16) else .bad (i+1) 16)
 else if isTk l i 4 [40] then (inner sub i).then fun t j=>if isTk l j 4 [41] then .ok t (j+1) else .bad j 16
 else if isTk l i 3 wIf then choiceB l sub i
 else if isKd l i 2 then .ok (tmName 3 (textAt l i)) (i+1)
 else if isKd l i 1 then .ok (tmNum (numAt l i)) (i+1)
 else .bad i 16
def notB (sub:Option Par) (sum:Par):Par:=fun i=>
 if isTk l i 4 [33] then (inner sub i).then fun t j=>.ok (tmOf 5 [t]) j
 else (sum i).then fun t j=>if whichOp l j [10,11,12,13]=0 then .ok t j else (sum (j+1)).then fun u k=>.ok (tmOf (whichOp l j [10,11,12,13]) [t,u]) k
def impB (sub:Option Par) (or:Par):Par:=fun i=>(or i).then fun t j=>if whichOp l j [8]=0 then .ok t j else (inner sub j).then fun u k=>.ok (tmOf 8 [t,u]) k
def termB (imp:Par):Par:=fun i=>(imp i).then fun t j=>if whichOp l j [9]=0 then .ok t j else (imp (j+1)).then fun u k=>.ok (tmOf 9 [t,u]) k
structure Lvl where
 term:Par
 imp:Par
 not:Par
def prodB (sub:Option Par):Par:=left l (unitF l sub) [16,17]
def sumB (sub:Option Par):Par:=left l (prodB l sub) [14,15]
def notOf (s:Option Lvl):Par:=notB l (s.map Lvl.not) (sumB l (s.map Lvl.term))
def andOf (s:Option Lvl):Par:=many l 6 (notOf l s)
def orOf (s:Option Lvl):Par:=many l 7 (andOf l s)
def impOf (s:Option Lvl):Par:=impB l (s.map Lvl.imp) (orOf l s)
def lvlB (s:Option Lvl):Lvl:=⟨termB l (impOf l s),impOf l s,notOf l s⟩
def lvl:Nat→Lvl
 | 0=>lvlB l none
 | r+1=>lvlB l (some (lvl r))
def sub:Nat→Option Lvl
 | 0=>none
 | r+1=>some (lvl l r)
theorem lvl_eq (r:Nat):lvl l r=lvlB l (sub l r):=by cases r <;> rfl
def takeT (i:Nat):Tm×Nat×Int:=match (lvl l 256).term i with
 | .bad j e=>(zeroTm,j,e)
 | .ok t j=>if t.check=0 then (t,j,0) else (zeroTm,i,t.check)
def atOf (n:Nat) (i:Nat):Int:=match l[i]? with
 | some t=>t.at_
 | none=>n
end
set_option linter.unusedSectionVars false
inductive Fm where
 | mk (op:Int) (e:Tm) (kids:List Fm):Fm
namespace Fm
def op:Fm→Int | mk o _ _=>o
def tm:Fm→Tm | mk _ t _=>t
def kids:Fm→List Fm | mk _ _ l=>l
end Fm
mutual
def Fm.size:Fm→Nat
 | .mk _ _ l=>1+Fm.sizeL l
def Fm.sizeL:List Fm→Nat
 | []=>0
 | t :: r=>t.size+Fm.sizeL r
end
theorem Fm.sizeL_mem:∀ {l:List Fm} {t:Fm},t∈l→t.size≤Fm.sizeL l
 | x :: r,t,h=>by
  rcases List.mem_cons.1 h with rfl | h
  · rw [Fm.sizeL];omega
  · have:=Fm.sizeL_mem h;rw [Fm.sizeL];omega
mutual
def hasNext:Tm→Bool
 | .mk o _ _ l=>decide (o=4) || hasNextL l
def hasNextL:List Tm→Bool
 | []=>false
 | t :: r=>hasNext t || hasNextL r
end
def fkids (op:Int):Int:=
 if op=1 then 0 else if op=2∨op=6∨op=7∨op=8∨op=10∨op=11∨op=12 then 1 else if op=3∨op=4∨op=5∨op=9∨op=13 then 2 else -1
def bareB (t:Tm):Bool:=decide (t.op=0) && decide (t.num=0) && decide (t.name.size=0) && decide (t.kids.length=0)
def ftermE (f:Fm):Int:=if f.op=1 then (if f.tm.check=0 then (if hasNext f.tm=true then 24 else 0) else f.tm.check) else 0
def fstepE (f:Fm) (d n:Nat):Int:=
 if 64<d then 17 else if fkids f.op<0 then 11 else if ftermE f≠0 then ftermE f
 else if (f.kids.length:Int)≠fkids f.op∨(f.op≠1∧bareB f.tm=false) then 3 else if 4096<n+1 then 4 else 0
section
variable {σ:Type} (step:σ→Fm→Nat→σ×Bool)
mutual
def eachF:Fm→Nat→σ→σ×Bool
 | .mk o e l,d,x=>match step x (.mk o e l) d with
  | (y,true)=>eachL l (d+1) y
  | (y,false)=>(y,false)
def eachL:List Fm→Nat→σ→σ×Bool
 | [],_,x=>(x,true)
 | t :: r,d,x=>match eachF t d x with
  | (y,true)=>eachL r d y
  | (y,false)=>(y,false)
end
end
theorem eachF_eq {σ:Type} (step:σ→Fm→Nat→σ×Bool) (t:Fm) (d:Nat) (x:σ):eachF step t d x=if (step x t d).2=true then eachL step t.kids (d+1) (step x t d).1 else ((step x t d).1,false):=by
 cases t with
 | mk o e l=>
  rw [eachF]
  cases h:step x (.mk o e l) d with
  | mk y b=>cases b <;> rfl
def fchkStep (x:Int×Nat) (f:Fm) (d:Nat):(Int×Nat)×Bool:=((fstepE f d x.2,x.2+1),decide (fstepE f d x.2=0))
def Fm.check (f:Fm):Int:=(eachF fchkStep f 1 (0,0)).1.1
mutual
def Fm.okT:Fm→Nat→Prop
 | .mk o e l,d=>d≤64∧(∃ n,fstepE (.mk o e l) d n=0)∧Fm.okL l (d+1)
def Fm.okL:List Fm→Nat→Prop
 | [],_=>True
 | t :: r,d=>t.okT d∧Fm.okL r d
end
mutual
theorem fchk_spec:∀ (t:Fm) (d:Nat) (x:Int×Nat),((eachF fchkStep t d x).2=true→t.okT d∧(eachF fchkStep t d x).1=(0,x.2+t.size)∧x.2+t.size≤4096)∧((eachF fchkStep t d x).2=false→(eachF fchkStep t d x).1.1≠0)
 | .mk o e l,d,x=>by
  rw [eachF_eq,Fm.okT,Fm.size]
  by_cases h0:fstepE (.mk o e l) d x.2=0
  · have hs:fchkStep x (.mk o e l) d=((0,x.2+1),true):=by unfold fchkStep;rw [h0];rfl
    have h1:d≤64∧x.2+1≤4096:=by
     unfold fstepE at h0
     by_cases a:64<d
     · rw [iP a] at h0;cases h0
     rw [iN a] at h0
     by_cases b:fkids (Fm.mk o e l).op<0
     · rw [iP b] at h0;cases h0
     rw [iN b] at h0
     by_cases c:ftermE (Fm.mk o e l)≠0
     · rw [iP c] at h0;exact absurd h0 c
     rw [iN c] at h0
     by_cases c2:((Fm.mk o e l).kids.length:Int)≠fkids (Fm.mk o e l).op∨((Fm.mk o e l).op≠1∧bareB (Fm.mk o e l).tm=false)
     · rw [iP c2] at h0;cases h0
     rw [iN c2] at h0
     by_cases c3:4096<x.2+1
     · rw [iP c3] at h0;cases h0
     omega
    have ih:=fchkL_spec l (d+1) (0,x.2+1) rfl (by simp only;omega);rw [hs];simp only [if_true,Fm.kids];refine ⟨fun h=>?_,fun h=>ih.2 h⟩;obtain ⟨i1,i2,i3⟩:=ih.1 h;simp only at i2 i3;exact ⟨⟨by omega,⟨_,h0⟩,i1⟩,by rw [i2,Nat.add_assoc],by omega⟩
  · have hs:fchkStep x (.mk o e l) d=((fstepE (.mk o e l) d x.2,x.2+1),false):=by unfold fchkStep;rw [dF h0]
    rw [hs];exact ⟨(fun h=>by cases h),fun _=>h0⟩
theorem fchkL_spec:∀ (l:List Fm) (d:Nat) (x:Int×Nat),x.1=0→x.2≤4096→((eachL fchkStep l d x).2=true→Fm.okL l d∧(eachL fchkStep l d x).1=(0,x.2+Fm.sizeL l)∧x.2+Fm.sizeL l≤4096)∧((eachL fchkStep l d x).2=false→(eachL fchkStep l d x).1.1≠0)
 | [],d,x,h0,h1=>by
  rw [eachL,Fm.okL,Fm.sizeL];refine ⟨fun _=>⟨trivial,by rw [←h0];rfl,h1⟩,fun h=>by cases h⟩
 | t :: r,d,x,h0,h1=>by
  have ih:=fchk_spec t d x;rw [eachL,Fm.okL,Fm.sizeL]
  cases hw:eachF fchkStep t d x with
  | mk y b=>
   rw [hw] at ih
   cases b with
   | false=>exact ⟨(fun h=>by cases h),fun _=>ih.2 rfl⟩
   | true=>
    obtain ⟨i1,i2,i3⟩:=ih.1 rfl;simp only at i2;subst i2;have ih2:=fchkL_spec r d (0,x.2+t.size) rfl i3;refine ⟨fun h=>?_,fun h=>ih2.2 h⟩;obtain ⟨j1,j2,j3⟩:=ih2.1 h;simp only at j2 j3;exact ⟨⟨i1,j1⟩,by simp only;rw [j2,Nat.add_assoc],by omega⟩
end
theorem fcheck_ok {t:Fm} (h:t.check=0):t.okT 1∧t.size≤4096:=by
 have hs:=fchk_spec t 1 (0,0);unfold Fm.check at h
 cases hb:(eachF fchkStep t 1 (0,0)).2 with
 | false=>exact absurd h (hs.2 hb)
 | true=>
  obtain ⟨h1,_,h3⟩:=hs.1 hb;exact ⟨h1,by simpa using h3⟩
theorem fokL_mem:∀ {l:List Fm} {d:Nat} {t:Fm},Fm.okL l d→t∈l→t.okT d
 | x :: r,d,t,h,hm=>by
  rw [Fm.okL] at h
  rcases List.mem_cons.1 hm with rfl | hm
  · exact h.1
  · exact fokL_mem h.2 hm
theorem fstep_ok {f:Fm} {d n:Nat} (h0:fstepE f d n=0):0≤fkids f.op∧(f.kids.length:Int)=fkids f.op∧(f.op=1→f.tm.check=0∧hasNext f.tm=false):=by
 unfold fstepE at h0
 by_cases a:64<d
 · rw [iP a] at h0;cases h0
 rw [iN a] at h0
 by_cases b:fkids f.op<0
 · rw [iP b] at h0;cases h0
 rw [iN b] at h0
 by_cases c:ftermE f≠0
 · rw [iP c] at h0;exact absurd h0 c
 rw [iN c] at h0
 by_cases c2:(f.kids.length:Int)≠fkids f.op∨(f.op≠1∧bareB f.tm=false)
 · rw [iP c2] at h0;cases h0
 refine ⟨by omega,by omega,fun h1=>?_⟩;have c':ftermE f=0:=by omega
 unfold ftermE at c';rw [iP h1] at c'
 by_cases hc:f.tm.check=0
 · rw [iP hc] at c';refine ⟨hc,?_⟩
   cases hn:hasNext f.tm with
   | false=>rfl
   | true=>rw [hn] at c';cases c'
 · rw [iN hc] at c';exact absurd c' hc
theorem fokT_open {t:Fm} {d:Nat} (h:t.okT d):d≤64∧(0≤fkids t.op∧(t.kids.length:Int)=fkids t.op∧(t.op=1→t.tm.check=0∧hasNext t.tm=false))∧∀ k∈t.kids,k.okT (d+1):=by
 cases t with
 | mk o e l=>
  rw [Fm.okT] at h;obtain ⟨h1,⟨n,h2⟩,h3⟩:=h;exact ⟨h1,fstep_ok h2,fun k hk=>fokL_mem h3 hk⟩
abbrev FPar:=Nat→Rs Fm
structure FLvl where
 form:FPar
 unit:FPar
def fmOf (op:Int) (ks:List Fm):Fm:=.mk op zeroTm ks
def zeroFm:Fm:=.mk 0 zeroTm []
section
variable (l:List Tok)
def oneOp (i:Nat):Int:=
 if isTk l i 4 [33] then 2 else if isTk l i 3 [69,88] then 6 else if isTk l i 3 [69,70] then 7 else if isTk l i 3 [69,71] then 8 else if isTk l i 3 [65,88] then 10 else if isTk l i 3 [65,70] then 11 else if isTk l i 3 [65,71] then 12 else 0
def fInner (s:Option FPar) (i:Nat):Rs Fm:=match s with
 | none=>.bad i 17
 | some p=>p (i+1)
def untilB (s:Option FPar) (op:Int) (i:Nat):Rs Fm:=match s with
 | none=>.bad i 17
 | some p=>if isTk l (i+1) 4 [91] then (p (i+2)).then fun f j=>
  if isTk l j 3 [85] then (p (j+1)).then fun g k=>if isTk l k 4 [93] then .ok (fmOf op [f,g]) (k+1) else .bad k 16
  else .bad j 16
  else .bad (i+1) 16
def fTerm (i:Nat):Rs Fm:=if (takeT l (i+1)).2.2≠0 then .bad (takeT l (i+1)).2.1 (takeT l (i+1)).2.2 else if isTk l (takeT l (i+1)).2.1 4 [93] then .ok (.mk 1 (takeT l (i+1)).1 []) ((takeT l (i+1)).2.1+1) else .bad (takeT l (i+1)).2.1 16
def fUnitB (s:Option FLvl):FPar:=fun i=>
 if oneOp l i≠0 then (fInner (s.map FLvl.unit) i).then fun f j=>.ok (fmOf (oneOp l i) [f]) j
 else if isTk l i 3 [69] then untilB l (s.map FLvl.form) 9 i
 else if isTk l i 3 [65] then untilB l (s.map FLvl.form) 13 i
 else if isTk l i 4 [40] then (fInner (s.map FLvl.form) i).then fun f j=>if isTk l j 4 [41] then .ok f (j+1) else .bad j 16
 else if isTk l i 4 [91] then fTerm l i
 else .bad i 16
def rowL (op:Int) (sign:Bs) (part:FPar):Nat→Fm→Nat→Rs Fm
 | 0,f,i=>.ok f i
 | k+1,f,i=>if isTk l i 4 sign then (part (i+1)).then fun g j=>rowL op sign part k (fmOf op [f,g]) j else .ok f i
def rowB (op:Int) (sign:Bs) (part:FPar):FPar:=fun i=>(part i).then fun f j=>rowL l op sign part l.length f j
def fAnds (s:Option FLvl):FPar:=rowB l 3 [38] (fUnitB l s)
def fOrs (s:Option FLvl):FPar:=rowB l 4 [124] (fAnds l s)
def fFormB (s:Option FLvl):FPar:=fun i=>(fOrs l s i).then fun f j=>if isTk l j 4 [45,62] then (fInner (s.map FLvl.form) j).then fun g k=>.ok (fmOf 5 [f,g]) k else .ok f j
def flvl:Nat→FLvl
 | 0=>⟨fFormB l none,fUnitB l none⟩
 | r+1=>⟨fFormB l (some (flvl r)),fUnitB l (some (flvl r))⟩
def fsub:Nat→Option FLvl
 | 0=>none
 | r+1=>some (flvl l r)
theorem flvl_eq (r:Nat):flvl l r=⟨fFormB l (fsub l r),fUnitB l (fsub l r)⟩:=by cases r <;> rfl
def takeF (i:Nat):Fm×Nat×Int:=match (flvl l 256).form i with
 | .bad j e=>(zeroFm,j,e)
 | .ok f j=>if f.check=0 then (f,j,0) else (zeroFm,i,f.check)
end
open Go.RowKit
mutual
def TmAt (w:World) (g o:Nat):Tm→Prop
 | .mk op n s l=>w.cell? ⟨g,o,none⟩=some (.int .i64 op)∧w.cell? ⟨g,o+1,none⟩=some (.int .i64 n)∧w.cell? ⟨g,o+2,none⟩=some (.string s)∧s.size≤maxLen ∧
  ∃ A c,w.cell? ⟨g,o+3,none⟩=some (.slice A l.length c)∧l.length≤c∧c≤maxLen∧(l=[]∨∃ g' o',A=some ⟨g',o',none⟩∧g'<w.heap.size∧TmRow w g' o' l)
def TmRow (w:World) (g o:Nat):List Tm→Prop
 | []=>True
 | t :: r=>TmAt w g o t∧TmRow w g (o+4) r
end
def KidsAt (w:World) (A:Option Addr) (l:List Tm):Prop:=l=[]∨∃ g' o',A=some ⟨g',o',none⟩∧g'<w.heap.size∧TmRow w g' o' l
mutual
theorem TmAt.below {B:Nat} {w w':World} (hb:Below B w w') (hB:B=w.heap.size):∀ {t:Tm} {g o:Nat},g<B→TmAt w g o t→TmAt w' g o t
 | .mk op n s l,g,o,hg,h=>by
  rw [TmAt] at h ⊢;obtain ⟨h0,h1,h2,hs,A,c,h3,h4,h5,h6⟩:=h;refine ⟨by rw [hb.cell (p:=⟨g,_,none⟩) hg];exact h0,by rw [hb.cell (p:=⟨g,_,none⟩) hg];exact h1,by rw [hb.cell (p:=⟨g,_,none⟩) hg];exact h2,hs,A,c,by rw [hb.cell (p:=⟨g,_,none⟩) hg];exact h3,h4,h5,?_⟩
  rcases h6 with h6 | ⟨g',o',rfl,hg',h6⟩
  · exact .inl h6
  · exact .inr ⟨g',o',rfl,lL hg' hb.size,TmRow.below hb hB (by omega) h6⟩
theorem TmRow.below {B:Nat} {w w':World} (hb:Below B w w') (hB:B=w.heap.size):∀ {l:List Tm} {g o:Nat},g<B→TmRow w g o l→TmRow w' g o l
 | [],g,o,hg,h=>by rw [TmRow];trivial
 | t :: r,g,o,hg,h=>by
  rw [TmRow] at h ⊢;exact ⟨TmAt.below hb hB hg h.1,TmRow.below hb hB hg h.2⟩
end
theorem KidsAt.below {B:Nat} {w w':World} {A:Option Addr} {l:List Tm} (h:KidsAt w A l) (hb:Below B w w') (hB:B=w.heap.size):KidsAt w' A l:=by
 rcases h with h | ⟨g',o',rfl,hg',h⟩
 · exact .inl h
 · exact .inr ⟨g',o',rfl,lL hg' hb.size,TmRow.below hb hB (by omega) h⟩
theorem TmRow.get:∀ {w:World} {l:List Tm} {g o j:Nat} {t:Tm},TmRow w g o l→l[j]?=some t→TmAt w g (o+4*j) t
 | w,x :: r,g,o,0,t,h,hj=>by
  rw [TmRow] at h;simp at hj;subst hj;exact h.1
 | w,x :: r,g,o,j+1,t,h,hj=>by
  rw [TmRow] at h;have:=TmRow.get h.2 (j:=j) (by simpa using hj)
  rwa [show o+4+4*j=o+4*(j+1) from by omega] at this
structure TmV (w:World) (A:Option Addr) (c:Nat) (t:Tm):Prop where
 cap:t.kids.length≤c
 capm:c≤maxLen
 name:t.name.size≤maxLen
 kids:KidsAt w A t.kids
theorem TmV.below {B:Nat} {w w':World} {A:Option Addr} {c:Nat} {t:Tm} (h:TmV w A c t) (hb:Below B w w') (hB:B=w.heap.size):TmV w' A c t:=⟨h.cap,h.capm,h.name,h.kids.below hb hB⟩
def Tm.val (A:Option Addr) (c:Nat) (t:Tm):Value:=.agg #[.int .i64 t.op,.int .i64 t.num,.string t.name,.slice A t.kids.length c]
theorem TmAt.open {w:World} {g o:Nat} {t:Tm} (h:TmAt w g o t):w.cell? ⟨g,o,none⟩=some (.int .i64 t.op)∧w.cell? ⟨g,o+1,none⟩=some (.int .i64 t.num)∧w.cell? ⟨g,o+2,none⟩=some (.string t.name)∧∃ A c,w.cell? ⟨g,o+3,none⟩=some (.slice A t.kids.length c)∧TmV w A c t:=by
 cases t with
 | mk op n s l=>
  rw [TmAt] at h;obtain ⟨h0,h1,h2,hs,A,c,h3,h4,h5,h6⟩:=h;exact ⟨h0,h1,h2,A,c,h3,h4,h5,hs,h6⟩
theorem TmAt.mk {w:World} {g o:Nat} {t:Tm} {A:Option Addr} {c:Nat} (h0:w.cell? ⟨g,o,none⟩=some (.int .i64 t.op)) (h1:w.cell? ⟨g,o+1,none⟩=some (.int .i64 t.num)) (h2:w.cell? ⟨g,o+2,none⟩=some (.string t.name)) (h3:w.cell? ⟨g,o+3,none⟩=some (.slice A t.kids.length c)) (h:TmV w A c t):TmAt w g o t:=by
 cases t with
 | mk op n s l=>
  rw [TmAt];exact ⟨h0,h1,h2,h.name,A,c,h3,h.cap,h.capm,h.kids⟩
set_option maxRecDepth 100000
set_option maxHeartbeats 4000000
theorem kids_any (op:Int) (w:World) :
 Calls Tryz.prog 176 #[.int .i64 op] w fun e w'=>e=.returned (.tuple #[.int .i64 (kidsOf op).1,.int .i64 (kidsOf op).2])∧w=w':=by
 obtain ⟨r,HR⟩:=exh_ (kidsOf op);rw [←HR.out];go_enter Tryz.func176,Tryz.ntmps176
 go_wp2
 all_goals
  go_ret2
  rw [HR.out];refine ⟨?_,rfl⟩
  simp_all [kidsOf]
theorem isEmpty_of_size {s:ByteArray} (h:s.size=0):s.toList.isEmpty=true:=by
 rw [ByteArray.toList_eq];have:s.data.toList.length=0:=by simpa using h
 rw [List.eq_nil_of_length_eq_zero this]
 rfl
theorem isEmpty_of_pos {s:ByteArray} (h:0<s.size):s.toList.isEmpty=false:=by
 rw [ByteArray.toList_eq];have:0<s.data.toList.length:=by simpa using h
 cases hl:s.data.toList with
 | nil=>rw [hl] at this;simp at this
 | cons _ _=>rfl
theorem toList_of_size {s:ByteArray} (h:s.size=0):s.toList=[]:=List.isEmpty_iff.1 (isEmpty_of_size h)
theorem wrongE_cls (op n:Int) (nm k:Nat) (lo hi:Int) (nb:Nat) (hlo:lowE op=lo) (hhi:highE op=hi) (hnb:(if op=3∨op=4 then 1 else 0)=nb) :
 wrongE op n nm k=if (kidsOf op).1<0 then 11 else if n<lo∨hi<n then 2 else if nb=1∧(nm=0∨24<nm)∨nb=0∧nm≠0 then 12 else if (k:Int)<(kidsOf op).1∨(kidsOf op).2<k then 3 else 0:=by
 subst hlo hhi hnb;unfold wrongE
 by_cases h:op=3∨op=4
 · simp [h]
 · simp [h]
theorem wrong_any (op n:Int) (s:ByteArray) (A:Option Addr) (k c:Nat) (w:World) (hs:s.size≤maxLen) (hk:k≤maxLen) :
 Calls Tryz.prog 149 #[.agg #[.int .i64 op,.int .i64 n,.string s,.slice A k c]] w fun e w'=>e=.returned (.int .i64 (wrongE op n s.size k))∧Below w.heap.size w w':=by
 unfold maxLen at hs hk;obtain ⟨fk,HFK⟩:=exh_ (kidsOf op);obtain ⟨W,HW⟩:=exh_ (wrongE op n s.size k);rw [←HW.out];have HK:=Hd (fun W=>kids_any op W);rw [←HFK.out] at HK;have HB:=Hd ((Br w.heap.size w).alloc (lr _) (.cells #[.int .i64 op,.int .i64 n,.string s,.slice A k c] 64))
 have hnm:(0<s.size∧s.toList.isEmpty=false)∨(s.size=0∧s.toList.isEmpty=true):=by
  rcases Nat.eq_zero_or_pos s.size with h | h
  · exact .inr ⟨h,isEmpty_of_size h⟩
  · exact .inl ⟨h,isEmpty_of_pos h⟩
 have hcl:op=1∨op=2∨op=3∨op=4∨(op≠1∧op≠2∧op≠3∧op≠4∧(op == 1)=false∧(op == 2)=false∧(op == 3)=false∧(op == 4)=false):=by
  by_cases h1:op=1
  · exact .inl h1
  by_cases h2:op=2
  · exact .inr (.inl h2)
  by_cases h3:op=3
  · exact .inr (.inr (.inl h3))
  by_cases h4:op=4
  · exact .inr (.inr (.inr (.inl h4)))
  exact .inr (.inr (.inr (.inr ⟨h1,h2,h3,h4,by simpa using h1,by simpa using h2,by simpa using h3,by simpa using h4⟩)))
 rcases hnm with ⟨hn1,hn2⟩ | ⟨hn1,hn2⟩
 all_goals
  have HN1:=Hd hn1;try clear hn1
  rcases hcl with rfl | rfl | rfl | rfl | ⟨h1,h2,h3,h4,b1,b2,b3,b4⟩
  all_goals
   (try have HOP:=Hd (And.intro h1 (And.intro h2 (And.intro h3 h4))))
   (try clear h1 h2 h3 h4)
   go_enter Tryz.func149,Tryz.ntmps149;go_wp2_with fail;refine (HK.out _).mono ?_;rintro e w' ⟨rfl,hw⟩;rw [←hw];clear hw;go_wp2_with fail
   all_goals
    go_ret;refine ⟨?_,HB.out⟩;have hn:=HN1.out;refine congrArg (fun x=>Ending.returned (.int .i64 x)) ?_;rw [HW.out]
    first
     | rw [wrongE_cls 1 n _ _ (-255) 255 0 rfl rfl rfl]
     | rw [wrongE_cls 2 n _ _ 0 1 0 rfl rfl rfl]
     | rw [wrongE_cls 3 n _ _ 0 0 1 rfl rfl rfl]
     | rw [wrongE_cls 4 n _ _ 0 0 1 rfl rfl rfl]
     | (obtain ⟨o1,o2,o3,o4⟩:=HOP.out
        rw [wrongE_cls op n _ _ 0 0 0 (iN o1) (by unfold highE;rw [iN o1,iN o2]) (by rw [iN (by omega)])])
    rw [←HFK.out]
    repeat' split
    all_goals first | rfl | omega
structure Only (F:Nat→Prop) (w w':World):Prop where
 os:w'.os=w.os
 tape:w'.tape=w.tape
 output:w'.output=w.output
 size:w.heap.size≤w'.heap.size
 block:∀ q,q<w.heap.size→¬F q→w'.heap[q]?=w.heap[q]?
section
variable {F:Nat→Prop} {w w' w'':World}
theorem Only.refl:Only F w w:=⟨rfl,rfl,rfl,lr _,fun _ _ _=>rfl⟩
theorem Only.trans (h:Only F w w') (k:Only F w' w''):Only F w w'':=⟨k.os.trans h.os,k.tape.trans h.tape,k.output.trans h.output,Nat.le_trans h.size k.size,fun q hq hf=>(k.block q (lL hq h.size) hf).trans (h.block q hq hf)⟩
theorem Only.of_below (h:Below w.heap.size w w'):Only F w w':=⟨h.os,h.tape,h.output,h.size,fun q hq _=>h.block q hq⟩
theorem Only.thenBelow {B:Nat} (h:Only F w w') (k:Below B w' w'') (hB:w.heap.size≤B):Only F w w'':=⟨k.os.trans h.os,k.tape.trans h.tape,k.output.trans h.output,Nat.le_trans h.size k.size,fun q hq hf=>(k.block q (lL hq hB)).trans (h.block q hq hf)⟩
theorem Only.below {B:Nat} (h:Only F w w') (hF:∀ q,F q→B≤q) (hB:B≤w.heap.size):Below B w w':=⟨h.os,h.tape,h.output,h.size,fun q hq=>h.block q (lL hq hB) fun hf=>by have:=hF q hf;omega⟩
theorem Only.cell (h:Only F w w') {b o:Nat} (hb:b<w.heap.size) (hf:¬F b):w'.cell? ⟨b,o,none⟩=w.cell? ⟨b,o,none⟩:=World.cell?_of_block (a:=⟨b,o,none⟩) (h.block b hb hf)
theorem Only.mono {G:Nat→Prop} (h:Only F w w') (hG:∀ q,F q→G q):Only G w w':=⟨h.os,h.tape,h.output,h.size,fun q hq hg=>h.block q hq fun hf=>hg (hG q hf)⟩
theorem Only.setF (h:Only F w w') {b o:Nat} (hF:F b) (v:Value):Only F w (w'.setCell ⟨b,o,none⟩ v):=
 ⟨h.os,h.tape,h.output,by simpa using h.size,fun q hq hf=>(hO_ w' ⟨b,o,none⟩ q v (fun e=>hf (by subst e;exact hF))).trans (h.block q hq hf)⟩
end
structure KT (T:TypeId) (B:Nat) (w w':World):Prop where
 below:Below B w w'
 keep:∀ (q:Nat) (cs:Array Value) (fz:Nat×Nat),w.heap[q]?=some (Obj.cells cs T fz)→w'.heap[q]?=w.heap[q]?
section
variable {T:TypeId} {B:Nat} {w w' w'':World}
theorem KT.refl:KT T B w w:=⟨Br _ _,fun _ _ _ _=>rfl⟩
theorem KT.trans (h:KT T B w w') (k:KT T B w' w''):KT T B w w'':=⟨h.below.trans k.below,fun q cs fz hq=>by
 have h1:=h.keep q cs fz hq;rw [←h1]
 exact k.keep q cs fz (h1.trans hq)⟩
theorem lt_of_heap {w:World} {q:Nat} {o:Obj} (h:w.heap[q]?=some o):q<w.heap.size:=by
 rcases Nat.lt_or_ge q w.heap.size with h' | h'
 · exact h'
 · rw [Array.getElem?_eq_none h'] at h;cases h
theorem KT.of_below (h:Below w.heap.size w w') (hB:B≤w.heap.size):KT T B w w':=⟨h.mono hB,fun q cs fz hq=>h.block q (lt_of_heap hq)⟩
theorem KT.thenBelow {C:Nat} (h:KT T B w w') (k:Below C w' w'') (hC:w.heap.size≤C) (hB:B≤C):KT T B w w'':=⟨h.below.trans (k.mono hB),fun q cs fz hq=>(k.block q (lL (lt_of_heap hq) hC)).trans (h.keep q cs fz hq)⟩
theorem KT.of_only {F:Nat→Prop} (h:Only F w w') (hF:∀ q,F q→B≤q) (hB:B≤w.heap.size) (hT:∀ q,F q→∀ (cs:Array Value) (fz:Nat×Nat),w.heap[q]?≠some (Obj.cells cs T fz)):KT T B w w':=
 ⟨h.below hF hB,fun q cs fz hq=>h.block q (lt_of_heap hq) fun hf=>hT q hf cs fz hq⟩
end
structure Visitor (K:Nat) (cap:Array Value) (B:Nat) (w0:World) {σ:Type} (Inv Fin:σ→World→Prop) (step:σ→Tm→Nat→σ×Bool) (room:σ→Nat):Prop where
 enter:∀ args w,(callFunc K args).run Tryz.prog w=.ok (.enter K args) w
 fin:∀ s w,Inv s w→Fin s w
 keep:∀ s w w',Inv s w→Below w.heap.size w w'→Inv s w'
 lose:∀ s t d,room s≤room (step s t d).1+1
 call:∀ s t (d:Nat) A c w,Inv s w→Below B w0 w→TmV w A c t→d≤10000000→0<room s→Calls Tryz.prog K #[t.val A c,.int .i64 d,cap.getD 0 undef,cap.getD 1 undef] w fun e w'=>e=.returned (.bool (step s t d).2)∧(Fin (step s t d).1 w'∧((step s t d).2=true→Inv (step s t d).1 w'))∧KT 64 B w w'
section
variable {σ:Type} {step:σ→Tm→Nat→σ×Bool} {room:σ→Nat} (hl:∀ s t d,room s≤room (step s t d).1+1)
include hl
mutual
theorem walkF_lose:∀ (t:Tm) (d:Nat) (s:σ),room s≤room (walkF step t d s).1+t.size
 | .mk o n x l,d,s=>by
  rw [walkF_eq,Tm.size];have h1:=hl s (.mk o n x l) d
  split
  · have h2:=walkL_lose l (d+1) (step s (.mk o n x l) d).1;show _≤room (walkL step l (d+1) _).1+_;omega
  · show _≤room (step s (.mk o n x l) d).1+_;omega
theorem walkL_lose:∀ (l:List Tm) (d:Nat) (s:σ),room s≤room (walkL step l d s).1+Tm.sizeL l
 | [],d,s=>by rw [walkL,Tm.sizeL];exact lr _
 | t :: r,d,s=>by
  have h1:=walkF_lose t d s;rw [walkL,Tm.sizeL]
  cases hw:walkF step t d s with
  | mk y b=>
   rw [hw] at h1;simp only at h1
   cases b with
   | false=>simp only;omega
   | true=>
    have h2:=walkL_lose r d y;simp only;omega
end
end
theorem Tm.sizeL_drop {l:List Tm} {k:Nat} {t:Tm} (h:l[k]?=some t):Tm.sizeL (l.drop k)=t.size+Tm.sizeL (l.drop (k+1)):=by
 obtain ⟨hj,hj2⟩:=gE.1 h;rw [List.drop_eq_getElem_cons hj,hj2,Tm.sizeL]
theorem walk_any {K:Nat} {c0 c1:Value} {B:Nat} {w0:World} {σ:Type} {Inv Fin:σ→World→Prop} {step:σ→Tm→Nat→σ×Bool} {room:σ→Nat} (V:Visitor K #[c0,c1] B w0 Inv Fin step room) (hB:B=w0.heap.size) :
 ∀ (N:Nat) (t:Tm) (d:Nat) (A:Option Addr) (c:Nat) (s:σ) (w:World),t.size≤N→d+t.size≤10000000→t.size≤room s→TmV w0 A c t→Inv s w→Below B w0 w →
 Calls Tryz.prog 147 #[t.val A c,.int .i64 d,.func (.func K) #[] #[c0,c1]] w fun e w'=>e=.returned (.bool (walkF step t d s).2)∧(Fin (walkF step t d s).1 w'∧((walkF step t d s).2=true→Inv (walkF step t d s).1 w'))∧KT 64 B w w':=by
 intro N
 induction N with
 | zero=>
  intro t d A c s w hN;cases t;rw [Tm.size] at hN;omega
 | succ N ih=>
  intro t d A c s w hN hd hroom hV hI hbel;have hrun:=V.enter;have HIHH:=Hd ih;have HV:=Hd hV;have HBEL:=Hd hbel;obtain ⟨wb,hwb⟩:=ex_ (w.alloc (.cells #[.int .i64 t.op,.int .i64 t.num,.string t.name,.slice A t.kids.length c] 64));have hb1:=bAl hwb;have hI1:=V.keep s w wb hI hb1;have hbw:B≤w.heap.size:=by rw [hB];exact hbel.size
  have hbel1:Below B w0 wb:=hbel.trans (hb1.mono hbw);have htp:1≤t.size:=by cases t;rw [Tm.size];omega
  have hcall:Calls Tryz.prog K #[.agg #[.int .i64 t.op,.int .i64 t.num,.string t.name,.slice A t.kids.length c],.int .i64 d,c0,c1] wb fun e w'=>e=.returned (.bool (step s t d).2)∧(Fin (step s t d).1 w'∧((step s t d).2=true→Inv (step s t d).1 w'))∧KT 64 B wb w':=V.call s t d A c wb hI1 hbel1 (hV.below hbel1 hB) (by omega) (by omega);have hlos:t.size - 1≤room (step s t d).1:=by have:=V.lose s t d;omega
  have hszk:Tm.sizeL t.kids=t.size - 1:=by cases t;rw [Tm.size];simp only [Tm.kids];omega
  have hbx:wb.heap[w.heap.size]?=some (.cells #[.int .i64 t.op,.int .i64 t.num,.string t.name,.slice A t.kids.length c] 64 (0,0)):=by rw [hwb];exact hA_ w _
  have hsb:wb.heap.size=w.heap.size+1:=by rw [hwb];simp
  have HBX:=Hd hbx;have HSB:=Hd hsb;have HB1:=Hd hb1;have HBL1:=Hd hbel1;have HFX:=Hd (walkF_eq step t d s);obtain ⟨s1,hs1⟩:=ex_ (step s t d);obtain ⟨r,hr⟩:=ex_ (walkF step t d s);rw [←hs1] at hcall HFX hlos;rw [←hszk] at hlos;rw [←hr] at HFX;rw [←hr];rw [hwb] at hcall;have HC:=Hd hcall;have HON:Hid (KT 64 B w wb):=KT.of_below hb1 hbw;obtain ⟨n,hn⟩:=ex_ t.kids.length;have HN:=Hd hn;have hcap:=hV.cap;have hcapm:=hV.capm;unfold maxLen at hcapm
  have hnl:n≤10000000:=by
   have:t.kids.length≤Tm.sizeL t.kids:=Tm.len_le t.kids;omega
  have HKID:=Hd hV.kids
  have HSZ:Hid (∀ k∈t.kids,k.size≤N∧d+1+k.size≤10000000):=fun k hk=>by
   have h1:=Tm.sizeL_mem hk;omega
  have HLOS:=Hd hlos;unfold Tm.val;rw [←hn] at HBX HC hcap hwb ⊢;have HWB:=Hd hwb;have HBQ:=Hd hB;clear hB ih hV hbel hcall hI hI1 hb1 hbel1 hwb hbx hsb hs1 hr hn hN hlos hroom hszk htp;go_enter Tryz.func147,Tryz.ntmps147;go_wp2_with fail;refine (HC.out).mono ?_;rintro e w1 ⟨rfl,hI1,ho1⟩;rw [←HWB.out] at ho1;have HI1:=Hd hI1;have hsz1:=ho1.below.size
  have x3:w1.cell? ⟨w.heap.size,3,none⟩=some (.slice A n c):=by
   have h9:=(ho1.keep _ _ _ HBX.out).trans HBX.out;rw [cR w1 w.heap.size 3 _ _ (0,0) h9];rfl
  have HO1:Hid (KT 64 B w w1):=HON.out.trans ho1;have hlt1:w.heap.size<w1.heap.size:=by have:=HSB.out;omega
  clear hI1 ho1 hsz1;obtain ⟨y,b⟩:=s1
  cases b with
  | false=>
   simp only at HI1;simp only [Bool.false_eq_true,if_false] at HFX;go_wp2_with fail;go_ret;rw [HFX.out];exact ⟨rfl,⟨HI1.out.1,fun h=>by cases h⟩,HO1.out⟩
  | true=>
   simp only at HI1 HLOS;simp only [if_true] at HFX;go_wp2_with fail
   go_loopw [17] (fun si wr=>∃ (k:Nat) (x:σ),k≤n∧si=.int .i64 k∧Inv x wr∧KT 64 B w wr∧w.heap.size<wr.heap.size∧Tm.sizeL (t.kids.drop k)≤room x∧walkL step (t.kids.drop k) (d+1) x=r) (fun i _=>n - (intOf i).toNat)
   case atStart=>exact ⟨0,y,zl _,rfl,HI1.out.2 (by first | rfl | trivial),HO1.out,hlt1,HLOS.out,HFX.out.symm⟩
   case round=>
    obtain ⟨k,x,hk,rfl,hI,ho,hlr,hrm,hwl⟩:=hrel;have HI:=Hd hI;have HO:=Hd ho;have HWL:=Hd hwl;have HRM:=Hd hrm;have hszr:=ho.below.size;clear hI ho hwl hrm
    by_cases hlt:k<n
    · obtain ⟨kd,hkd⟩:∃ kd,t.kids[k]?=some kd:=⟨_,gG (by have:=HN.out;omega)⟩;have hmem:kd∈t.kids:=mG hkd
      rcases HKID.out with h9 | ⟨g,off,rfl,hg,hrow⟩
      · rw [h9] at hkd;simp at hkd
      obtain ⟨q0,q1,q2,A2,c2,q3,hV2⟩:=(hrow.get hkd).open;have hbr:Below B w0 wr:=HBEL.out.trans HO.out.below;have hgB:g<B:=by rw [HBQ.out];exact hg
      rw [←hbr.cell (p:=⟨g,_,none⟩) hgB] at q0 q1 q2 q3;have hgw:g<wr.heap.size:=by omega
      obtain ⟨n2,HN2⟩:=exh_ kd.kids.length;rw [←HN2.out] at q3;have HBR:=Hd hbr;have HV2:=Hd hV2
      have HDR:Hid (t.kids.drop k=kd :: t.kids.drop (k+1)):=by
       obtain ⟨hj,hj2⟩:=gE.1 hkd;show _=_;rw [List.drop_eq_getElem_cons hj,hj2]
      have HSD:=Hd (Tm.sizeL_drop hkd);have HSK:=Hd (HSZ.out kd hmem);have hk0:(0:Int)≤(k:Int):=by omega
      have hk1:(k:Int)<(n:Int):=by omega
      have e1:off+4*k=off+k*4:=by omega
      rw [e1] at q0 q1 q2 q3;clear hkd hmem hrow hbr hV2 e1;obtain ⟨wk,hwk⟩:=ex_ (wr.alloc (.cells #[.int .i64 kd.op,.int .i64 kd.num,.string kd.name,.slice A2 n2 c2] 64));have hbk:=bAl hwk;have hBr:B≤wr.heap.size:=by omega
      have hzk:w.heap.size<wk.heap.size:=by have:=hbk.size;omega
      have hok:KT 64 B w wk:=HO.out.thenBelow hbk (by omega) hBr;have hih:=HIHH.out kd (d+1) A2 c2 x wk HSK.out.1 HSK.out.2 (by have h1:=HRM.out;rw [HSD.out] at h1;omega) HV2.out (V.keep x wr wk HI.out hbk) (HBR.out.trans (hbk.mono hBr))
      have HLO:Hid (Tm.sizeL (t.kids.drop (k+1))≤room (walkF step kd (d+1) x).1):=by
       have h1:=HRM.out;rw [HSD.out] at h1;have h2:=walkF_lose V.lose kd (d+1) x;show _≤_;omega
      rw [show ((d+1:Nat):Int)=(d:Int)+1 from by omega] at hih;unfold Tm.val at hih;rw [←HN2.out] at hih;obtain ⟨z,HZ⟩:=exh_ (walkF step kd (d+1) x);rw [←HZ.out] at hih HLO;have HIH:=Hd hih;have HWK:=Hd hwk;have HOK:=Hd hok;rw [HWK.out] at HIH;clear hih hwk hbk hok;go_wp2_with fail;refine (HIH.out).mono ?_;rintro e w2 ⟨rfl,hI2,ho2⟩;rw [←HWK.out] at ho2;have hz2:=ho2.below.size;have HI2:=Hd hI2;have HO2:=Hd (HOK.out.trans ho2);clear hI2 ho2;obtain ⟨y2,b2⟩:=z
      have HW2:Hid (walkL step (t.kids.drop k) (d+1) x=if b2=true then walkL step (t.kids.drop (k+1)) (d+1) y2 else (y2,false)):=by
       show _=_;rw [HDR.out,walkL,←HZ.out];cases b2 <;> rfl
      cases b2 with
      | false=>
       have HR:Hid (r=(y2,false)):=by show _=_;rw [←HWL.out,HW2.out];rfl
       go_wp2_with fail;go_ret;rw [HR.out];exact ⟨rfl,⟨HI2.out.1,fun h=>by cases h⟩,HO2.out⟩
      | true=>
       go_wp2_with fail
       go_roundw
       case rel=>exact ⟨k+1,y2,by omega,by go_num,HI2.out.2 (by first | rfl | trivial),HO2.out,by omega,HLO.out,by rw [←HWL.out,HW2.out];rfl⟩
       case measure=>first | (simp [intOf];done) | (simp [intOf];omega)
    · have hkn:k=n:=by omega
      have HR:Hid (r=(x,true)):=by
       show _=_;rw [←HWL.out,List.drop_eq_nil_of_le (by have:=HN.out;omega)]
       rfl
      have hk1:¬(k:Int)<(n:Int):=by omega
      go_wp2_with fail;go_ret;rw [HR.out];exact ⟨rfl,⟨V.fin _ _ HI.out,fun _=>HI.out⟩,HO.out⟩
abbrev Ob := @Only.of_below
abbrev lH := @lt_of_heap
def Box (w:World) (b:Nat) (T:TypeId) (v:Int):Prop:=w.heap[b]?=some (.cells #[.int .i64 v] T (0,0))
theorem Box.cell {w:World} {b:Nat} {T:TypeId} {v:Int} (h:Box w b T v):w.cell? ⟨b,0,none⟩=some (.int .i64 v):=by
 rw [cR w b 0 _ T (0,0) h];rfl
theorem Box.frozen {w:World} {b:Nat} {T:TypeId} {v:Int} (h:Box w b T v):w.frozen? ⟨b,0,none⟩=false:=by
 unfold Box at h;simp [World.frozen?,h]
theorem Box.lt {w:World} {b:Nat} {T:TypeId} {v:Int} (h:Box w b T v):b<w.heap.size:=by
 rcases Nat.lt_or_ge b w.heap.size with hlt | hge
 · exact hlt
 · unfold Box at h;rw [Array.getElem?_eq_none hge] at h;cases h
theorem Box.set {w:World} {b:Nat} {T:TypeId} {v:Int} (h:Box w b T v) (u:Int):Box (w.setCell ⟨b,0,none⟩ (.int .i64 u)) b T u:=by
 unfold Box at h ⊢;simp [World.setCell,Array.getElem?_modify,h]
theorem Box.setOther {w:World} {b:Nat} {T:TypeId} {v:Int} (h:Box w b T v) {p:Addr} (hp:b≠p.block) (u:Value):Box (w.setCell p u) b T v:=
 (hO_ w p b u hp).trans h
theorem Box.below {w w':World} {B b:Nat} {T:TypeId} {v:Int} (h:Box w b T v) (hb:Below B w w') (hB:b<B):Box w' b T v:=(hb.block b hB).trans h
theorem Box.only {w w':World} {F:Nat→Prop} {b:Nat} {T:TypeId} {v:Int} (h:Box w b T v) (hb:Only F w w') (hF:¬F b):Box w' b T v:=(hb.block b h.lt hF).trans h
theorem Box.new (w:World) (T:TypeId) (v:Int):Box (w.alloc (.cells #[.int .i64 v] T)) w.heap.size T v:=hA_ w _
def ChkInv (bw bn:Nat) (x:Int×Nat) (w:World):Prop:=Box w bw 29 x.1∧Box w bn 3 x.2∧x.2≤4096
def ChkFin (bw:Nat) (x:Int×Nat) (w:World):Prop:=Box w bw 29 x.1
theorem check1_any (bw bn:Nat) (hne:bw≠bn) (x:Int×Nat) (t:Tm) (d:Nat) (A:Option Addr) (c:Nat) (w:World) (hI:ChkInv bw bn x w) (hV:TmV w A c t) (hd:d≤10000000) :
 Calls Tryz.prog 148 #[t.val A c,.int .i64 d,.pointer (some ⟨bn,0,none⟩),.pointer (some ⟨bw,0,none⟩)] w fun e w'=>e=.returned (.bool (chkStep x t d).2)∧(ChkFin bw (chkStep x t d).1 w'∧((chkStep x t d).2=true→ChkInv bw bn (chkStep x t d).1 w'))∧Only (fun q=>q=bw∨q=bn) w w':=by
 obtain ⟨hw1,hn1,hx2⟩:=hI;obtain ⟨e0,n⟩:=x;simp only at hw1 hn1 hx2;obtain ⟨we,hwe⟩:=ex_ (wrongE t.op t.num t.name.size t.kids.length);have hwr:=fun W=>wrong_any t.op t.num t.name A t.kids.length c W hV.name (Nat.le_trans hV.cap hV.capm);rw [←hwe] at hwr;have HWR:=Hd hwr;obtain ⟨wb,hwb⟩:=ex_ (w.alloc (.cells #[.int .i64 t.op,.int .i64 t.num,.string t.name,.slice A t.kids.length c] 64));have hb1:=bAl hwb;have hlw:=hw1.lt;have hln:=hn1.lt;have cw:=hw1.cell;have cn:=hn1.cell;have fw:=hw1.frozen;have fn:=hn1.frozen;have HW1:=Hd hw1;have HN1:=Hd hn1
 have HST:Hid (chkStep (e0,n) t d=((if 64<d then 17 else if we=0∧4096<n+1 then 4 else we,n+1),decide ((if 64<d then (17:Int) else if we=0∧4096<n+1 then 4 else we)=0))):=by
  show _=_;rw [hwe];rfl
 obtain ⟨st,hst⟩:=ex_ (chkStep (e0,n) t d);rw [←hst] at HST ⊢;obtain ⟨nk,hnk⟩:=ex_ t.kids.length;have hne':bn≠bw:=fun h=>hne h.symm;unfold Tm.val;clear hwr hwe hst hV hw1 hn1 hb1 hwb hnk
 by_cases hd64:64<d
 · have hd':(64:Int)<(d:Int):=by omega
   go_enter Tryz.func148,Tryz.ntmps148;go_wp2_with fail;have hs2:st=((17,n+1),false):=by rw [HST.out,iP hd64];rfl
   rw [hs2];clear hs2;go_ret;refine ⟨rfl,⟨?_,fun h=>by cases h⟩,?_⟩
   · exact ((HW1.out.setOther (p:=⟨bn,0,none⟩) hne _).set _).below ((Br w.heap.size _).alloc (by simp) _) (by simpa using hlw)
   · exact (((Only.refl (F:=fun q=>q=bw∨q=bn)).setF (Or.inr rfl) _).setF (Or.inl rfl) _).thenBelow ((Br w.heap.size _).alloc (by simp) _) (lr _)
 · have hd':¬(64:Int)<(d:Int):=by omega
   have hs2:st=((if we=0∧4096<n+1 then 4 else we,n+1),decide ((if we=0∧4096<n+1 then 4 else we)=0)):=by rw [HST.out,iN hd64]
   have HS2:=Hd hs2;clear hs2;obtain ⟨w2,hw2⟩:=ex_ ((w.setCell ⟨bn,0,none⟩ (.int .i64 ((n:Int)+1))).alloc (.cells #[.int .i64 t.op,.int .i64 t.num,.string t.name,.slice A t.kids.length c] 64));have hbw2:Box w2 bw 29 e0:=by rw [hw2];exact (HW1.out.setOther (p:=⟨bn,0,none⟩) hne _).below ((Br w.heap.size _).alloc (by simp) _) (by simpa using hlw)
   have hbn2:Box w2 bn 3 ((n:Int)+1):=by rw [hw2];exact (HN1.out.set _).below ((Br w.heap.size _).alloc (by simp) _) (by simpa using hln)
   have ho2:Only (fun q=>q=bw∨q=bn) w w2:=by rw [hw2];exact ((Only.refl (F:=fun q=>q=bw∨q=bn)).setF (Or.inr rfl) _).thenBelow ((Br w.heap.size _).alloc (by simp) _) (lr _)
   have HW2:=Hd hw2;have HBW2:=Hd hbw2;have HBN2:=Hd hbn2;have HO2:=Hd ho2;clear hw2 hbw2 hbn2 ho2;go_enter Tryz.func148,Tryz.ntmps148;go_wp2_with fail;rw [←HW2.out];refine (HWR.out w2).mono ?_;rintro e w3 ⟨rfl,hb3⟩;clear cw cn fw fn;have hbw3:=HBW2.out.below hb3 HBW2.out.lt;have hbn3:=HBN2.out.below hb3 HBN2.out.lt;have HO3:=Hd (HO2.out.thenBelow hb3 HO2.out.size);have cw:=hbw3.cell;have cn:=hbn3.cell;have fw:=hbw3.frozen;have fn:=hbn3.frozen;have lw:=hbw3.lt;have ln:=hbn3.lt;have HBW3:=Hd hbw3;have HBN3:=Hd hbn3;clear hbw3 hbn3 hb3
   by_cases h0:we=0
   · by_cases h4:4096<n+1
     · have hs2:st=((4,n+1),false):=by rw [HS2.out,iP ⟨h0,h4⟩];rfl
       have HSS:=Hd hs2;subst h0;have h4':(4096:Int)<(n:Int)+1:=by omega
       clear hs2;go_wp2_with fail;go_ret;rw [HSS.out];refine ⟨rfl,⟨?_,fun h=>by cases h⟩,?_⟩
       · exact (HBW3.out.set _).set _
       · exact (HO3.out.setF (Or.inl rfl) _).setF (Or.inl rfl) _
     · have hs2:st=((0,n+1),true):=by rw [HS2.out,iN (by omega),h0];rfl
       have HSS:=Hd hs2;subst h0;have h4':¬(4096:Int)<(n:Int)+1:=by omega
       clear hs2;go_wp2_with fail;go_ret;rw [HSS.out];refine ⟨rfl,⟨HBW3.out.set _,fun _=>⟨HBW3.out.set _,?_,(by show n+1≤4096;omega)⟩⟩,HO3.out.setF (Or.inl rfl) _⟩;exact HBN3.out.setOther (p:=⟨bw,0,none⟩) hne' _
   · have hs2:st=((we,n+1),false):=by rw [HS2.out,iN (fun h=>h0 h.1),dF h0]
     have HSS:=Hd hs2;have h0':(we == 0)=false:=by simpa using h0
     clear hs2 h0;go_wp2_with fail;go_ret;rw [HSS.out];exact ⟨rfl,⟨HBW3.out.set _,fun h=>by cases h⟩,HO3.out.setF (Or.inl rfl) _⟩
theorem check_any (t:Tm) (A:Option Addr) (c:Nat) (w:World) (hV:TmV w A c t) (hsz:t.size≤9000000) :
 Calls Tryz.prog 123 #[t.val A c] w fun e w'=>e=.returned (.int .i64 t.check)∧Below w.heap.size w w':=by
 obtain ⟨wb,hwb⟩:=ex_ (((w.alloc (.cells #[.int .i64 t.op,.int .i64 t.num,.string t.name,.slice A t.kids.length c] 64)).alloc (.cells #[.int .i64 0] 29)).alloc (.cells #[.int .i64 0] 3));have hb1:Below w.heap.size w wb:=by rw [hwb];exact (((Br _ _).alloc (lr _) _).alloc (by simp) _).alloc (by simp;omega) _
 have hbw:Box wb (w.heap.size+1) 29 0:=by
  rw [hwb];have h:=Box.new (w.alloc (.cells #[.int .i64 t.op,.int .i64 t.num,.string t.name,.slice A t.kids.length c] 64)) 29 0;rw [show (w.alloc (.cells #[.int .i64 t.op,.int .i64 t.num,.string t.name,.slice A t.kids.length c] 64)).heap.size=w.heap.size+1 from by simp] at h;exact h.below ((Br (w.heap.size+2) _).alloc (by simp) _) (by omega)
 have hbn:Box wb (w.heap.size+2) 3 0:=by
  rw [hwb];have h:=Box.new ((w.alloc (.cells #[.int .i64 t.op,.int .i64 t.num,.string t.name,.slice A t.kids.length c] 64)).alloc (.cells #[.int .i64 0] 29)) 3 0;rw [show ((w.alloc (.cells #[.int .i64 t.op,.int .i64 t.num,.string t.name,.slice A t.kids.length c] 64)).alloc (.cells #[.int .i64 0] 29)).heap.size=w.heap.size+2 from by simp] at h;exact h
 have V:Visitor 148 #[.pointer (some ⟨w.heap.size+2,0,none⟩),.pointer (some ⟨w.heap.size+1,0,none⟩)] w.heap.size w (ChkInv (w.heap.size+1) (w.heap.size+2)) (ChkFin (w.heap.size+1)) chkStep (fun _=>10000000):=
  { enter:=fun args w=>by kernel_rfl
    fin:=fun s w h=>h.1
    keep:=fun s w w' h hb=>⟨h.1.below hb h.1.lt,h.2.1.below hb h.2.1.lt,h.2.2⟩
    lose:=fun s t d=>Nat.le_succ _
    call:=fun s t d A c w' hI hbl hV hd _=>(check1_any _ _ (by omega) s t d A c w' hI hV hd).mono fun e w2 ⟨h1,h2,h3⟩=>⟨h1,h2,KT.of_only h3 (fun q hq=>by omega) hbl.size (fun q hq cs fz he=>by
     rcases hq with rfl | rfl
     · have h4:=hI.1;unfold Box at h4;rw [he] at h4
       injection h4 with h4
       injection h4 with _ h4 _
       exact absurd h4 (by decide)
     · have h4:=hI.2.1;unfold Box at h4;rw [he] at h4
       injection h4 with h4
       injection h4 with _ h4 _
       exact absurd h4 (by decide))⟩ }
 have hwalk:=walk_any V rfl t.size t 1 A c (0,0) wb (lr _) (by omega) (by omega) hV ⟨hbw,hbn,zl _⟩ hb1;rw [hwb] at hwalk;have HWK:=Hd hwalk;have HB1:=Hd hb1;have HWB:=Hd hwb;unfold Tm.val at HWK ⊢;clear hb1 hbw hbn V hwalk hwb hV hsz;go_enter Tryz.func123,Tryz.ntmps123;go_wp2_with fail;refine (HWK.out).mono ?_;rintro e w1 ⟨rfl,hfin,ho⟩;rw [←HWB.out] at ho;have hbx:Box w1 (w.heap.size+1) 29 t.check:=hfin.1;have HO:=Hd (HB1.out.trans ho.below);have cw:=hbx.cell;clear hfin ho;go_wp2_with fail;go_ret;exact ⟨rfl,HO.out⟩
end Go.Proofs.YtkhoeoilamddaaaGreatDoor
