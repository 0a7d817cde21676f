/- Walks and plain words: ParP TrmA TrmB TrmC TrmD CntP. -/
import Derived.Test.YtkhoeoilamddaaaGreatDoorQLex6
import Derived.Laws.CopyOwn
namespace Go.Proofs.YtkhoeoilamddaaaGreatDoor
set_option linter.unusedVariables false
inductive Rs(α:Type) where
 |bad (i:Nat) (e:Int):Rs α
 |ok (x:α) (i:Nat):Rs α
def Rs.then{α β:Type}(r:Rs α)(f:α→Nat→Rs β):Rs β:=match r with
 |.bad i e=>.bad i e
 |.ok x i=>f x i
@[simp] theorem Rs.Cg {α β:Type} (i:Nat) (e:Int) (f:α→Nat→Rs β):(Rs.bad i e:Rs α).then f=.bad i e:=rfl
@[simp] theorem Rs.then_ok {α β:Type} (x:α) (i:Nat) (f:α→Nat→Rs β):(Rs.ok x i).then f=f x i:=rfl
abbrev jN:=Nat→Rs Tm
section
variable (l:List Tok)
def ah(i:Nat)(k:Int)(s:Bs):Bool:=match l[i]? with
 |some t=>decide (t.kind=k)&&decide (t.text=s)
 |none=>false
def jd(i:Nat)(k:Int):Bool:=match l[i]? with
 |some t=>decide (t.kind=k)
 |none=>false
def rC(i:Nat):Int:=match l[i]? with
 |some t=>t.n
 |none=>0
def pJ(i:Nat):Bs:=match l[i]? with
 |some t=>t.text
 |none=>[]
def ac1:ByteArray:=⟨#[]⟩
def j6(n:Int):Tm:=.mk 1 n ac1 []
def jv(n:Int):Tm:=.mk 2 n ac1 []
def iH(op:Int)(s:Bs):Tm:=.mk op 0 ⟨s.toArray⟩ []
def dD(op:Int)(ks:List Tm):Tm:=.mk op 0 ac1 ks
def dG:Tm:=.mk 0 0 ac1 []
def au(i:Nat):List Int→Int
 |[]=>0
 |op::r=>if (if op=17 then ah l i 3 [109,111,100]else ah l i 4 (iy op))then op else au i r
def ql(op:Int)(acc:List Tm):Tm:=match acc with
 |[t]=>t
 |_=>dD op acc
def lD(op:Int)(one:jN):Nat→List Tm→Nat→Rs Tm
 |0,acc,i=>.ok (ql op acc) i
 |k+1,acc,i=>if au l i [op]=0 then .ok (ql op acc) i else(one (i+1)).then fun t j=>lD op one k (acc++[t]) j
def many(op:Int)(one:jN):jN:=fun i=>(one i).then fun t j=>lD l op one l.length [t] j
def jK(one:jN)(ops:List Int):Nat→Tm→Nat→Rs Tm
 |0,t,i=>.ok t i
 |k+1,t,i=>if au l i ops=0 then .ok t i else(one (i+1)).then fun u j=>jK one ops k (dD (au l i ops) [t,u]) j
def left(one:jN)(ops:List Int):jN:=fun i=>(one i).then fun t j=>jK l one ops l.length t j
def yh:Bs:=[116,114,117,101]
def rD:Bs:=[102,97,108,115,101]
def fE:Bs:=[110,101,120,116]
def wIf:Bs:=[105,102]
def um:Bs:=[116,104,101,110]
def uo:Bs:=[101,108,115,101]
def inner(sub:Option jN):jN:=fun i=>match sub with
 |none=>.bad i 17
 |some p=>p (i+1)
def Gm(sub:Option jN):jN:=fun i=>(inner sub i).then fun a j=>
 if ah l j 3 um then(inner sub j).then fun b k=>
  if ah l k 3 uo then(inner sub k).then fun c m=>.ok (dD 18 [a,b,c]) m
  else .bad k 16
 else .bad j 16
def bM(sub:Option jN):jN:=fun i=>
 if ah l i 4 [45]then(if jd l (i+1) 1 then .ok (j6 (- rC l (i+1))) (i+2)else .bad (i+1) 16)
 else if ah l i 3 yh then .ok (jv 1) (i+1)
 else if ah l i 3 rD then .ok (jv 0) (i+1)
 else if ah l i 3 fE then
  (if ah l (i+1) 4 [40]then(if jd l (i+2) 2 then(if ah l (i+3) 4 [41]then .ok (iH 4 (pJ l (i+2))) (i+4)else .bad (i+3) 16)else .bad (i+2) 16)else .bad (i+1) 16)
 else if ah l i 4 [40]then(inner sub i).then fun t j=>if ah l j 4 [41]then .ok t (j+1)else .bad j 16
 else if ah l i 3 wIf then Gm l sub i
 else if jd l i 2 then .ok (iH 3 (pJ l i)) (i+1)
 else if jd l i 1 then .ok (j6 (rC l i)) (i+1)
 else .bad i 16
def Kk(sub:Option jN)(sum:jN):jN:=fun i=>
 if ah l i 4 [33]then(inner sub i).then fun t j=>.ok (dD 5 [t]) j
 else(sum i).then fun t j=>if au l j [10,11,12,13]=0 then .ok t j else(sum (j+1)).then fun u k=>.ok (dD (au l j [10,11,12,13]) [t,u]) k
def Gn(sub:Option jN)(or:jN):jN:=fun i=>(or i).then fun t j=>if au l j [8]=0 then .ok t j else(inner sub j).then fun u k=>.ok (dD 8 [t,u]) k
def Bu(imp:jN):jN:=fun i=>(imp i).then fun t j=>if au l j [9]=0 then .ok t j else(imp (j+1)).then fun u k=>.ok (dD 9 [t,u]) k
structure p8 where
 term:jN
 imp:jN
 not:jN
def EL(sub:Option jN):jN:=left l (bM l sub) [16,17]
def Gp(sub:Option jN):jN:=left l (EL l sub) [14,15]
def EM(s:Option p8):jN:=Kk l (s.map p8.not) (Gp l (s.map p8.term))
def Pd(s:Option p8):jN:=many l 6 (EM l s)
def Oz(s:Option p8):jN:=many l 7 (Pd l s)
def Ch(s:Option p8):jN:=Gn l (s.map p8.imp) (Oz l s)
def QB(s:Option p8):p8:=⟨Bu l (Ch l s),Ch l s,EM l s⟩
def lvl:Nat→p8
 |0=>QB l none
 |r+1=>QB l (some (lvl r))
def sub:Nat→Option p8
 |0=>none
 |r+1=>some (lvl l r)
def iU(i:Nat):Tm×Nat×Int:=match (lvl l 256).term i with
 |.bad j e=>(dG,j,e)
 |.ok t j=>if t.check=0 then(t,j,0)else(dG,i,t.check)
def Wv(n:Nat)(i:Nat):Int:=match l[i]? with
 |some t=>t.at_
 |none=>n
end
open Go.RowKit
mutual
def gB(w:World)(g o:Nat):Tm→Prop
 |.mk op n s l=>w.cell? ⟨g,o,none⟩=some (.int .i64 op)∧w.cell? ⟨g,o+1,none⟩=some (.int .i64 n)∧w.cell? ⟨g,o+2,none⟩=some (.string s)∧s.size≤maxLen ∧
  ∃A c,w.cell? ⟨g,o+3,none⟩=some (.slice A l.length c)∧l.length≤c∧c≤maxLen∧(l=[]∨∃g' o',A=some ⟨g',o',none⟩∧g'<w.heap.size∧mX w g' o' l)
def mX(w:World)(g o:Nat):List Tm→Prop
 |[]=>True
 |t::r=>gB w g o t∧mX w g (o+4) r
end
def QC(w:World)(A:Option Addr)(l:List Tm):Prop:=l=[]∨∃g' o',A=some ⟨g',o',none⟩∧g'<w.heap.size∧mX w g' o' l
mutual
theorem gB.below{B:Nat}{w w':World}(hb:Below B w w')(J:B=w.heap.size):∀{t:Tm}{g o:Nat},g<B→gB w g o t→gB w' g o t
 |.mk op n s l,g,o,hg,h=>by
  rw[gB]at h⊢;obtain⟨h0,h1,h2,hs,A,c,h3,I,h5,D⟩:=h;refine⟨by rw[hb.cell (p:=⟨g,_,none⟩) hg];exact h0,by rw[hb.cell (p:=⟨g,_,none⟩) hg];exact h1,by rw[hb.cell (p:=⟨g,_,none⟩) hg];exact h2,hs,A,c,by rw[hb.cell (p:=⟨g,_,none⟩) hg];exact h3,I,h5,?_⟩
  rcases D with D|⟨g',O,rfl,G,D⟩
  ·exact .inl D
  ·exact .inr ⟨g',O,rfl,lL G hb.size,mX.below hb J (by omega) D⟩
theorem mX.below{B:Nat}{w w':World}(hb:Below B w w')(D:B=w.heap.size):∀{l:List Tm}{g o:Nat},g<B→mX w g o l→mX w' g o l
 |[],g,o,hg,h=>by rw[mX];trivial
 |t::r,g,o,hg,h=>by
  rw[mX]at h⊢;exact⟨gB.below hb D hg h.1,mX.below hb D hg h.2⟩
end
theorem QC.below{B:Nat}{w w':World}{A:Option Addr}{l:List Tm}(h:QC w A l)(hb:Below B w w')(G:B=w.heap.size):QC w' A l:=by
 rcases h with h|⟨g',I,rfl,D,h⟩
 ·exact .inl h
 ·exact .inr ⟨g',I,rfl,lL D hb.size,mX.below hb G (by omega) h⟩
theorem mX.get:∀{w:World} {l:List Tm} {g o j:Nat} {t:Tm},mX w g o l→l[j]?=some t→gB w g (o+4*j) t
 |w,x::r,g,o,0,t,h,hj=>by
  rw[mX]at h;simp at hj;subst hj;exact h.1
 |w,x::r,g,o,j+1,t,h,hj=>by
  rw[mX]at h;have:=mX.get h.2 (j:=j) (by simpa using hj)
  rwa [show o+4+4*j=o+4*(j+1)from by omega]at this
structure zx(w:World)(A:Option Addr)(c:Nat)(t:Tm):Prop where
 cap:t.kids.length≤c
 bU:c≤maxLen
 name:t.name.size≤maxLen
 kids:QC w A t.kids
theorem zx.below{B:Nat}{w w':World}{A:Option Addr}{c:Nat}{t:Tm}(h:zx w A c t)(hb:Below B w w')(D:B=w.heap.size):zx w' A c t:=⟨h.cap,h.bU,h.name,h.kids.below hb D⟩
def Tm.val(A:Option Addr)(c:Nat)(t:Tm):Value:=.agg #[.int .i64 t.op,.int .i64 t.num,.string t.name,.slice A t.kids.length c]
theorem gB.open{w:World}{g o:Nat}{t:Tm}(h:gB w g o t):w.cell? ⟨g,o,none⟩=some (.int .i64 t.op)∧w.cell? ⟨g,o+1,none⟩=some (.int .i64 t.num)∧w.cell? ⟨g,o+2,none⟩=some (.string t.name)∧∃A c,w.cell? ⟨g,o+3,none⟩=some (.slice A t.kids.length c)∧zx w A c t:=by
 cases t with
 |mk op n s l=>
  rw[gB]at h;obtain⟨h0,h1,h2,hs,A,c,h3,D,h5,G⟩:=h;exact⟨h0,h1,h2,A,c,h3,D,h5,hs,G⟩
theorem gB.mk{w:World}{g o:Nat}{t:Tm}{A:Option Addr}{c:Nat}(h0:w.cell? ⟨g,o,none⟩=some (.int .i64 t.op))(h1:w.cell? ⟨g,o+1,none⟩=some (.int .i64 t.num))(h2:w.cell? ⟨g,o+2,none⟩=some (.string t.name))(h3:w.cell? ⟨g,o+3,none⟩=some (.slice A t.kids.length c))(h:zx w A c t):gB w g o t:=by
 cases t with
 |mk op n s l=>
  rw[gB];exact⟨h0,h1,h2,h.name,A,c,h3,h.cap,h.bU,h.kids⟩
set_option maxRecDepth 100000
set_option maxHeartbeats 4000000
theorem ac2(op:Int)(w:World) :
 Calls Tryz.prog 176 #[.int .i64 op] w fun e w'=>e=.returned (.tuple #[.int .i64 (cu op).1,.int .i64 (cu op).2])∧w=w':=by
 obtain⟨r,D⟩:=ak (cu op);rw[←D];go_in
 go_wp2
 all_goals
  go_ret2
  rw[D];refine⟨?_,rfl⟩
  simp_all[cu]
theorem mY{s:ByteArray}(h:s.size=0):s.toList.isEmpty=true:=by
 rw[ByteArray.toList_eq];have:s.data.toList.length=0:=by simpa using h
 rw[List.eq_nil_of_length_eq_zero this]
 rfl
theorem rE{s:ByteArray}(h:0<s.size):s.toList.isEmpty=false:=by
 rw[ByteArray.toList_eq];have:0<s.data.toList.length:=by simpa using h
 cases hl:s.data.toList with
 |nil=>rw[hl]at this;simp at this
 |cons _ _=>rfl
theorem LD{s:ByteArray}(h:s.size=0):s.toList=[]:=List.isEmpty_iff.1 (mY h)
theorem kT(op n:Int)(nm k:Nat)(lo hi:Int)(J:Nat)(G:afF op=lo)(D:O8 op=hi)(I:(if op=3∨op=4 then 1 else 0)=J) :
 j5 op n nm k=if (cu op).1<0 then 11 else if n<lo∨hi<n then 2 else if J=1∧(nm=0∨24<nm)∨J=0∧nm≠0 then 12 else if (k:Int)<(cu op).1∨(cu op).2<k then 3 else 0:=by
 subst G D I;unfold j5
 by_cases h:op=3∨op=4
 ·simp[h]
 ·simp[h]
theorem abv(op n:Int)(s:ByteArray)(A:Option Addr)(k c:Nat)(w:World)(hs:s.size≤maxLen)(hk:k≤maxLen) :
 Calls Tryz.prog 149 #[.agg #[.int .i64 op,.int .i64 n,.string s,.slice A k c]] w fun e w'=>e=.returned (.int .i64 (j5 op n s.size k))∧Below w.heap.size w w':=by
 unfold maxLen at hs hk;obtain⟨fk,I⟩:=ak (cu op);obtain⟨W,HW⟩:=ak (j5 op n s.size k);rw[←HW];have HK:=Hd (fun W=>ac2 op W);rw[←I]at HK;have HB:=Hd ((Br w.heap.size w).alloc (lr _) (.cells #[.int .i64 op,.int .i64 n,.string s,.slice A k c] 64))
 have Y:(0<s.size∧s.toList.isEmpty=false)∨(s.size=0∧s.toList.isEmpty=true):=by
  rcases Nat.eq_zero_or_pos s.size with h|h
  ·exact .inr ⟨h,mY h⟩
  ·exact .inl ⟨h,rE h⟩
 have J:op=1∨op=2∨op=3∨op=4∨(op≠1∧op≠2∧op≠3∧op≠4∧(op==1)=false∧(op==2)=false∧(op==3)=false∧(op==4)=false):=by
  by_cases h1:op=1
  ·exact .inl h1
  by_cases h2:op=2
  ·exact .inr (.inl h2)
  by_cases h3:op=3
  ·exact .inr (.inr (.inl h3))
  by_cases G:op=4
  ·exact .inr (.inr (.inr (.inl G)))
  exact .inr (.inr (.inr (.inr ⟨h1,h2,h3,G,by simpa using h1,by simpa using h2,by simpa using h3,by simpa using G⟩)))
 rcases Y with⟨D,O⟩|⟨D,O⟩
 all_goals
  have Iz:=Hd D;try clear D
  rcases J with rfl|rfl|rfl|rfl|⟨h1,h2,h3,G,b1,b2,b3,b4⟩
  all_goals
   (try have gy:=Hd (And.intro h1 (And.intro h2 (And.intro h3 G))))
   (try clear h1 h2 h3 G)
   go_in;go_wp2_with fail;refine(HK _).mono ?_;rintro e w' ⟨rfl,hw⟩;rw[←hw];clear hw;go_wp2_with fail
   all_goals
    go_ret;refine⟨?_,HB⟩;have hn:=Iz.out;refine congrArg (fun x=>Ending.returned (.int .i64 x)) ?_;rw[HW]
    first
     |rw[kT 1 n _ _ (-255) 255 0 rfl rfl rfl]
     |rw[kT 2 n _ _ 0 1 0 rfl rfl rfl]
     |rw[kT 3 n _ _ 0 0 1 rfl rfl rfl]
     |rw[kT 4 n _ _ 0 0 1 rfl rfl rfl]
     |(obtain⟨o1,o2,o3,o4⟩:=gy.out
       rw[kT op n _ _ 0 0 0 (iN o1) (by unfold O8;rw[iN o1,iN o2]) (by rw[iN (by omega)])])
    rw[←I]
    repeat' split
    all_goals first|rfl|omega
set_option linter.unusedSectionVars false
structure Only(F:Nat→Prop)(w w':World):Prop where
 os:w'.os=w.os
 tape:w'.tape=w.tape
 output:w'.output=w.output
 size:w.heap.size≤w'.heap.size
 block:∀q,q<w.heap.size→¬F q→w'.heap[q]?=w.heap[q]?
section
variable {F:Nat→Prop} {w w' w'':World}
theorem Only.refl:Only F w w:=⟨rfl,rfl,rfl,lr _,fun _ _ _=>rfl⟩
theorem Only.trans(h:Only F w w')(k:Only F w' w''):Only F w w'':=⟨k.os.trans h.os,k.tape.trans h.tape,k.output.trans h.output,Nat.le_trans h.size k.size,fun q hq hf=>(k.block q (lL hq h.size) hf).trans (h.block q hq hf)⟩
theorem Only.of_below(h:Below w.heap.size w w'):Only F w w':=⟨h.os,h.tape,h.output,h.size,fun q hq _=>h.block q hq⟩
theorem Only.jV{B:Nat}(h:Only F w w')(k:Below B w' w'')(D:w.heap.size≤B):Only F w w'':=⟨k.os.trans h.os,k.tape.trans h.tape,k.output.trans h.output,Nat.le_trans h.size k.size,fun q hq hf=>(k.block q (lL hq D)).trans (h.block q hq hf)⟩
theorem Only.below{B:Nat}(h:Only F w w')(hF:∀q,F q→B≤q)(D:B≤w.heap.size):Below B w w':=⟨h.os,h.tape,h.output,h.size,fun q hq=>h.block q (lL hq D) fun hf=>by have:=hF q hf;omega⟩
theorem Only.cell(h:Only F w w'){b o:Nat}(hb:b<w.heap.size)(hf:¬F b):w'.cell? ⟨b,o,none⟩=w.cell? ⟨b,o,none⟩:=World.cell?_of_block (a:=⟨b,o,none⟩) (h.block b hb hf)
theorem Only.mono{G:Nat→Prop}(h:Only F w w')(hG:∀q,F q→G q):Only G w w':=⟨h.os,h.tape,h.output,h.size,fun q hq D=>h.block q hq fun hf=>D (hG q hf)⟩
theorem Only.bq(h:Only F w w'){b o:Nat}(hF:F b)(v:Value):Only F w (w'.setCell ⟨b,o,none⟩ v):=
 ⟨h.os,h.tape,h.output,by simpa using h.size,fun q hq hf=>(iw w' ⟨b,o,none⟩ q v (fun e=>hf (by subst e;exact hF))).trans (h.block q hq hf)⟩
end
structure KT(T:TypeId)(B:Nat)(w w':World):Prop where
 below:Below B w w'
 keep:∀(q:Nat)(cs:Array Value)(fz:Nat×Nat),w.heap[q]?=some (Obj.cells cs T fz)→w'.heap[q]?=w.heap[q]?
section
variable {T:TypeId} {B:Nat} {w w' w'':World}
theorem KT.refl:KT T B w w:=⟨Br _ _,fun _ _ _ _=>rfl⟩
theorem KT.trans(h:KT T B w w')(k:KT T B w' w''):KT T B w w'':=⟨h.below.trans k.below,fun q cs D hq=>by
 have h1:=h.keep q cs D hq;rw[←h1]
 exact k.keep q cs D (h1.trans hq)⟩
theorem lt_of_heap{w:World}{q:Nat}{o:Obj}(h:w.heap[q]?=some o):q<w.heap.size:=by
 rcases Nat.lt_or_ge q w.heap.size with D|D
 ·exact D
 ·rw[Array.getElem?_eq_none D]at h;cases h
theorem KT.of_below(h:Below w.heap.size w w')(D:B≤w.heap.size):KT T B w w':=⟨h.mono D,fun q cs G hq=>h.block q (lt_of_heap hq)⟩
theorem KT.jV{C:Nat}(h:KT T B w w')(k:Below C w' w'')(I:w.heap.size≤C)(G:B≤C):KT T B w w'':=⟨h.below.trans (k.mono G),fun q cs D hq=>(k.block q (lL (lt_of_heap hq) I)).trans (h.keep q cs D hq)⟩
theorem KT.cO{F:Nat→Prop}(h:Only F w w')(hF:∀q,F q→B≤q)(G:B≤w.heap.size)(I:∀q,F q→∀(cs:Array Value) (D:Nat×Nat),w.heap[q]?≠some (Obj.cells cs T D)):KT T B w w':=
 ⟨h.below hF G,fun q cs D hq=>h.block q (lt_of_heap hq) fun hf=>I q hf cs D hq⟩
end
structure Visitor(K:Nat)(cap:Array Value)(B:Nat)(w0:World){σ:Type}(Inv Fin:σ→World→Prop)(step:σ→Tm→Nat→σ×Bool)(room:σ→Nat):Prop where
 enter:∀args w,(callFunc K args).run Tryz.prog w=.ok (.enter K args) w
 fin:∀s w,Inv s w→Fin s w
 keep:∀s w w',Inv s w→Below w.heap.size w w'→Inv s w'
 lose:∀s t d,room s≤room (step s t d).1+1
 call:∀s t (d:Nat) A c w,Inv s w→Below B w0 w→zx w A c t→d≤10000000→0<room s→Calls Tryz.prog K #[t.val A c,.int .i64 d,cap.getD 0 undef,cap.getD 1 undef] w fun e w'=>e=.returned (.bool (step s t d).2)∧(Fin (step s t d).1 w'∧((step s t d).2=true→Inv (step s t d).1 w'))∧KT 64 B w w'
section
variable {σ:Type} {step:σ→Tm→Nat→σ×Bool} {room:σ→Nat} (hl:∀s t d,room s≤room (step s t d).1+1)
include hl
mutual
theorem LG:∀(t:Tm) (d:Nat) (s:σ),room s≤room (kN step t d s).1+t.size
 |.mk o n x l,d,s=>by
  rw[Cc,Tm.size];have h1:=hl s (.mk o n x l) d
  split
  ·have h2:=LH l (d+1) (step s (.mk o n x l) d).1;show _≤room (kG step l (d+1) _).1+_;omega
  ·show _≤room (step s (.mk o n x l) d).1+_;omega
theorem LH:∀(l:List Tm) (d:Nat) (s:σ),room s≤room (kG step l d s).1+Tm.aA l
 |[],d,s=>by rw[kG,Tm.aA];exact lr _
 |t::r,d,s=>by
  have h1:=LG t d s;rw[kG,Tm.aA]
  cases hw:kN step t d s with
  |mk y b=>
   rw[hw]at h1;simp only at h1
   cases b with
   |false=>simp only;omega
   |true=>
    have h2:=LH r d y;simp only;omega
end
end
theorem Tm.Fp{l:List Tm}{k:Nat}{t:Tm}(h:l[k]?=some t):Tm.aA (l.drop k)=t.size+Tm.aA (l.drop (k+1)):=by
 obtain⟨G,D⟩:=gE.1 h;rw[List.drop_eq_getElem_cons G,D,Tm.aA]
theorem Ta{K:Nat}{c0 c1:Value}{B:Nat}{w0:World}{σ:Type}{Inv Fin:σ→World→Prop}{step:σ→Tm→Nat→σ×Bool}{room:σ→Nat}(V:Visitor K #[c0,c1] B w0 Inv Fin step room)(hB:B=w0.heap.size) :
 ∀(N:Nat)(t:Tm)(d:Nat)(A:Option Addr)(c:Nat)(s:σ)(w:World),t.size≤N→d+t.size≤10000000→t.size≤room s→zx w0 A c t→Inv s w→Below B w0 w →
 Calls Tryz.prog 147 #[t.val A c,.int .i64 d,.func (.func K) #[] #[c0,c1]] w fun e w'=>e=.returned (.bool (kN step t d s).2)∧(Fin (kN step t d s).1 w'∧((kN step t d s).2=true→Inv (kN step t d s).1 w'))∧KT 64 B w w':=by
 intro N
 induction N with
 |zero=>
  intro t d A c s w hN;cases t;rw[Tm.size]at hN;omega
 |succ N ih=>
  intro t d A c s w hN hd ag hV hI J;have bp:=V.enter;have bk:=Hd ih;have HV:=Hd hV;have nH:=Hd J;obtain⟨wb,I⟩:=aj (w.alloc (.cells #[.int .i64 t.op,.int .i64 t.num,.string t.name,.slice A t.kids.length c] 64));have hb1:=dz I;have aa:=V.keep s w wb hI hb1;have ba:B≤w.heap.size:=by rw[hB];exact J.size
  have JM:Below B w0 wb:=J.trans (hb1.mono ba);have br:1≤t.size:=by cases t;rw[Tm.size];omega
  have D:Calls Tryz.prog K #[.agg #[.int .i64 t.op,.int .i64 t.num,.string t.name,.slice A t.kids.length c],.int .i64 d,c0,c1] wb fun e w'=>e=.returned (.bool (step s t d).2)∧(Fin (step s t d).1 w'∧((step s t d).2=true→Inv (step s t d).1 w'))∧KT 64 B wb w':=V.call s t d A c wb aa JM (hV.below JM hB) (by omega) (by omega);have QD:t.size-1≤room (step s t d).1:=by have:=V.lose s t d;omega
  have cB:Tm.aA t.kids=t.size-1:=by cases t;rw[Tm.size];simp only[Tm.kids];omega
  have bb:wb.heap[w.heap.size]?=some (.cells #[.int .i64 t.op,.int .i64 t.num,.string t.name,.slice A t.kids.length c] 64 (0,0)):=by rw[I];exact eu w _
  have bg:wb.heap.size=w.heap.size+1:=by rw[I];simp
  have qH:=Hd bb;have p9:=Hd bg;have bu:=Hd hb1;have bv:=Hd JM;have O:=Hd (Cc step t d s);obtain⟨s1,bf⟩:=aj (step s t d);obtain⟨r,hr⟩:=aj (kN step t d s);rw[←bf]at D O QD;rw[←cB]at QD;rw[←hr]at O;rw[←hr];rw[I]at D;have HC:=Hd D;have bj:Hid (KT 64 B w wb):=KT.of_below hb1 ba;obtain⟨n,hn⟩:=aj t.kids.length;have HN:=Hd hn;have av:=hV.cap;have aQ:=hV.bU;unfold maxLen at aQ
  have bL:n≤10000000:=by
   have:t.kids.length≤Tm.aA t.kids:=Tm.wG t.kids;omega
  have bl:=Hd hV.kids
  have mg:Hid (∀k∈t.kids,k.size≤N∧d+1+k.size≤10000000):=fun k hk=>by
   have h1:=Tm.aM hk;omega
  have aS:=Hd QD;unfold Tm.val;rw[←hn]at qH HC av I⊢;have jy:=Hd I;have qY:=Hd hB;clear hB ih hV J D hI aa hb1 JM I bb bg bf hr hn hN QD ag cB br;go_in;go_wp2_with fail;refine HC.mono ?_;rintro e w1 ⟨rfl,aa,af⟩;rw[←jy]at af;have ai:=Hd aa;have ax:=af.below.size
  have x3:w1.cell? ⟨w.heap.size,3,none⟩=some (.slice A n c):=by
   have h9:=(af.keep _ _ _ qH).trans qH;rw[cR w1 w.heap.size 3 _ _ (0,0) h9];rfl
  have wH:Hid (KT 64 B w w1):=bj.trans af;have aw:w.heap.size<w1.heap.size:=by have:=p9.out;omega
  clear aa af ax;obtain⟨y,b⟩:=s1
  cases b with
  |false=>
   simp only at ai;simp only[Bool.false_eq_true,if_false]at O;go_wp2_with fail;go_ret;rw[O];exact⟨rfl,⟨ai.1,fun h=>by cases h⟩,wH⟩
  |true=>
   simp only at ai aS;simp only[if_true]at O;go_wp2_with fail
   go_loopw [17] (fun si wr=>∃(k:Nat)(x:σ),k≤n∧si=.int .i64 k∧Inv x wr∧KT 64 B w wr∧w.heap.size<wr.heap.size∧Tm.aA (t.kids.drop k)≤room x∧kG step (t.kids.drop k) (d+1) x=r) (fun i _=>n-(intOf i).toNat)
   case atStart=>exact⟨0,y,zl _,rfl,ai.2 (by first|rfl|trivial),wH,aw,aS,O.symm⟩
   case round=>
    obtain⟨k,x,hk,rfl,hI,ho,bE,bd,bh⟩:=hrel;have HI:=Hd hI;have HO:=Hd ho;have Ww:=Hd bh;have aF:=Hd bd;have nR:=ho.below.size;clear hI ho bh bd
    by_cases bJ:k<n
    ·obtain⟨kd,G⟩:∃kd,t.kids[k]?=some kd:=⟨_,gG (by have:=HN.out;omega)⟩;have ae:kd∈t.kids:=mG G
     rcases bl.out with h9|⟨g,off,rfl,hg,hrow⟩
     ·rw[h9]at G;simp at G
     obtain⟨q0,q1,q2,A2,c2,q3,a8⟩:=(hrow.get G).open;have ar:Below B w0 wr:=nH.trans HO.below;have bm:g<B:=by rw[qY];exact hg
     rw[←ar.cell (p:=⟨g,_,none⟩) bm]at q0 q1 q2 q3;have bw:g<wr.heap.size:=by omega
     obtain⟨n2,kU⟩:=ak kd.kids.length;rw[←kU]at q3;have kJ:=Hd ar;have jm:=Hd a8
     have bi:Hid (t.kids.drop k=kd::t.kids.drop (k+1)):=by
      obtain⟨hj,bn⟩:=gE.1 G;show _=_;rw[List.drop_eq_getElem_cons hj,bn]
     have Gq:=Hd (Tm.Fp G);have aJ:=Hd (mg kd ae);have bz:(0:Int)≤(k:Int):=by omega
     have bo:(k:Int)<(n:Int):=by omega
     have e1:off+4*k=off+k*4:=by omega
     rw[e1]at q0 q1 q2 q3;clear G ae hrow ar a8 e1;obtain⟨wk,ay⟩:=aj (wr.alloc (.cells #[.int .i64 kd.op,.int .i64 kd.num,.string kd.name,.slice A2 n2 c2] 64));have ab:=dz ay;have a6:B≤wr.heap.size:=by omega
     have bW:w.heap.size<wk.heap.size:=by have:=ab.size;omega
     have hok:KT 64 B w wk:=HO.jV ab (by omega) a6;have Y:=bk kd (d+1) A2 c2 x wk aJ.1 aJ.2 (by have h1:=aF.out;rw[Gq]at h1;omega) jm (V.keep x wr wk HI ab) (kJ.trans (ab.mono a6))
     have aE:Hid (Tm.aA (t.kids.drop (k+1))≤room (kN step kd (d+1) x).1):=by
      have h1:=aF.out;rw[Gq]at h1;have h2:=LG V.lose kd (d+1) x;show _≤_;omega
     rw[show((d+1:Nat):Int)=(d:Int)+1 from by omega]at Y;unfold Tm.val at Y;rw[←kU]at Y;obtain⟨z,HZ⟩:=ak (kN step kd (d+1) x);rw[←HZ]at Y aE;have qm:=Hd Y;have yj:=Hd ay;have BQ:=Hd hok;rw[yj]at qm;clear Y ay ab hok;go_wp2_with fail;refine qm.mono ?_;rintro e w2 ⟨rfl,a7,ao⟩;rw[←yj]at ao;have bP:=ao.below.size;have az:=Hd a7;have Ah:=Hd (BQ.trans ao);clear a7 ao;obtain⟨y2,b2⟩:=z
     have aP:Hid (kG step (t.kids.drop k) (d+1) x=if b2=true then kG step (t.kids.drop (k+1)) (d+1) y2 else(y2,false)):=by
      show _=_;rw[bi,kG,←HZ];cases b2<;>rfl
     cases b2 with
     |false=>
      have HR:Hid (r=(y2,false)):=by show _=_;rw[←Ww,aP];rfl
      go_wp2_with fail;go_ret;rw[HR];exact⟨rfl,⟨az.1,fun h=>by cases h⟩,Ah⟩
     |true=>
      go_wp2_with fail
      go_roundw
      case rel=>exact⟨k+1,y2,by omega,by go_num,az.2 (by first|rfl|trivial),Ah,by omega,aE,by rw[←Ww,aP];rfl⟩
      case measure=>first|(simp[intOf];done)|(simp[intOf];omega)
    ·have bC:k=n:=by omega
     have HR:Hid (r=(x,true)):=by
      show _=_;rw[←Ww,List.drop_eq_nil_of_le (by have:=HN.out;omega)]
      rfl
     have bo:¬(k:Int)<(n:Int):=by omega
     go_wp2_with fail;go_ret;rw[HR];exact⟨rfl,⟨V.fin _ _ HI,fun _=>HI⟩,HO⟩
abbrev Ob:=@Only.of_below
abbrev lH:=@lt_of_heap
def yu(w:World)(b:Nat)(T:TypeId)(v:Int):Prop:=w.heap[b]?=some (.cells #[.int .i64 v] T (0,0))
theorem yu.cell{w:World}{b:Nat}{T:TypeId}{v:Int}(h:yu w b T v):w.cell? ⟨b,0,none⟩=some (.int .i64 v):=by
 rw[cR w b 0 _ T (0,0) h];rfl
theorem yu.frozen{w:World}{b:Nat}{T:TypeId}{v:Int}(h:yu w b T v):w.frozen? ⟨b,0,none⟩=false:=by
 unfold yu at h;simp[World.frozen?,h]
theorem yu.lt{w:World}{b:Nat}{T:TypeId}{v:Int}(h:yu w b T v):b<w.heap.size:=by
 rcases Nat.lt_or_ge b w.heap.size with G|D
 ·exact G
 ·unfold yu at h;rw[Array.getElem?_eq_none D]at h;cases h
theorem yu.set{w:World}{b:Nat}{T:TypeId}{v:Int}(h:yu w b T v)(u:Int):yu (w.setCell ⟨b,0,none⟩ (.int .i64 u)) b T u:=by
 unfold yu at h⊢;simp[World.setCell,Array.getElem?_modify,h]
theorem yu.setOther{w:World}{b:Nat}{T:TypeId}{v:Int}(h:yu w b T v){p:Addr}(hp:b≠p.block)(u:Value):yu (w.setCell p u) b T v:=
 (iw w p b u hp).trans h
theorem yu.below{w w':World}{B b:Nat}{T:TypeId}{v:Int}(h:yu w b T v)(hb:Below B w w')(D:b<B):yu w' b T v:=(hb.block b D).trans h
theorem yu.only{w w':World}{F:Nat→Prop}{b:Nat}{T:TypeId}{v:Int}(h:yu w b T v)(hb:Only F w w')(hF:¬F b):yu w' b T v:=(hb.block b h.lt hF).trans h
theorem yu.new(w:World)(T:TypeId)(v:Int):yu (w.alloc (.cells #[.int .i64 v] T)) w.heap.size T v:=eu w _
def IJ(bw bn:Nat)(x:Int×Nat)(w:World):Prop:=yu w bw 29 x.1∧yu w bn 3 x.2∧x.2≤4096
def QE(bw:Nat)(x:Int×Nat)(w:World):Prop:=yu w bw 29 x.1
theorem Wx(J G:Nat)(hne:J≠G)(x:Int×Nat)(t:Tm)(d:Nat)(A:Option Addr)(c:Nat)(w:World)(hI:IJ J G x w)(hV:zx w A c t)(hd:d≤10000000) :
 Calls Tryz.prog 148 #[t.val A c,.int .i64 d,.pointer (some ⟨G,0,none⟩),.pointer (some ⟨J,0,none⟩)] w fun e w'=>e=.returned (.bool (eO x t d).2)∧(QE J (eO x t d).1 w'∧((eO x t d).2=true→IJ J G (eO x t d).1 w'))∧Only (fun q=>q=J∨q=G) w w':=by
 obtain⟨hw1,I,a7⟩:=hI;obtain⟨e0,n⟩:=x;simp only at hw1 I a7;obtain⟨we,ag⟩:=aj (j5 t.op t.num t.name.size t.kids.length);have ai:=fun W=>abv t.op t.num t.name A t.kids.length c W hV.name (Nat.le_trans hV.cap hV.bU);rw[←ag]at ai;have aF:=Hd ai;obtain⟨wb,az⟩:=aj (w.alloc (.cells #[.int .i64 t.op,.int .i64 t.num,.string t.name,.slice A t.kids.length c] 64));have hb1:=dz az;have aw:=hw1.lt;have aS:=I.lt;have cw:=hw1.cell;have cn:=I.cell;have fw:=hw1.frozen;have fn:=I.frozen;have ao:=Hd hw1;have Iz:=Hd I
 have ae:Hid (eO (e0,n) t d=((if 64<d then 17 else if we=0∧4096<n+1 then 4 else we,n+1),decide ((if 64<d then(17:Int)else if we=0∧4096<n+1 then 4 else we)=0))):=by
  show _=_;rw[ag];rfl
 obtain⟨st,ay⟩:=aj (eO (e0,n) t d);rw[←ay]at ae⊢;obtain⟨nk,a6⟩:=aj t.kids.length;have af:G≠J:=fun h=>hne h.symm;unfold Tm.val;clear ai ag ay hV hw1 I hb1 az a6
 by_cases wI:64<d
 ·have aQ:(64:Int)<(d:Int):=by omega
  go_in;go_wp2_with fail;have D:st=((17,n+1),false):=by rw[ae,iP wI];rfl
  rw[D];clear D;go_ret;refine⟨rfl,⟨?_,fun h=>by cases h⟩,?_⟩
  ·exact((ao.setOther (p:=⟨G,0,none⟩) hne _).set _).below ((Br w.heap.size _).alloc (by simp) _) (by simpa using aw)
  ·exact(((Only.refl (F:=fun q=>q=J∨q=G)).bq (Or.inr rfl) _).bq (Or.inl rfl) _).jV ((Br w.heap.size _).alloc (by simp) _) (lr _)
 ·have aQ:¬(64:Int)<(d:Int):=by omega
  have D:st=((if we=0∧4096<n+1 then 4 else we,n+1),decide ((if we=0∧4096<n+1 then 4 else we)=0)):=by rw[ae,iN wI]
  have ab:=Hd D;clear D;obtain⟨w2,O⟩:=aj ((w.setCell ⟨G,0,none⟩ (.int .i64 ((n:Int)+1))).alloc (.cells #[.int .i64 t.op,.int .i64 t.num,.string t.name,.slice A t.kids.length c] 64));have aa:yu w2 J 29 e0:=by rw[O];exact(ao.setOther (p:=⟨G,0,none⟩) hne _).below ((Br w.heap.size _).alloc (by simp) _) (by simpa using aw)
  have ar:yu w2 G 3 ((n:Int)+1):=by rw[O];exact(Iz.set _).below ((Br w.heap.size _).alloc (by simp) _) (by simpa using aS)
  have ax:Only (fun q=>q=J∨q=G) w w2:=by rw[O];exact((Only.refl (F:=fun q=>q=J∨q=G)).bq (Or.inr rfl) _).jV ((Br w.heap.size _).alloc (by simp) _) (lr _)
  have aE:=Hd O;have Tc:=Hd aa;have av:=Hd ar;have Ah:=Hd ax;clear O aa ar ax;go_in;go_wp2_with fail;rw[←aE];refine(aF w2).mono ?_;rintro e w3 ⟨rfl,Y⟩;clear cw cn fw fn;have wJ:=Tc.below Y Tc.lt;have LJ:=av.below Y av.lt;have Ai:=Hd (Ah.jV Y Ah.size);have cw:=wJ.cell;have cn:=LJ.cell;have fw:=wJ.frozen;have fn:=LJ.frozen;have lw:=wJ.lt;have ln:=LJ.lt;have u_:=Hd wJ;have aJ:=Hd LJ;clear wJ LJ Y
  by_cases h0:we=0
  ·by_cases h4:4096<n+1
   ·have D:st=((4,n+1),false):=by rw[ab,iP ⟨h0,h4⟩];rfl
    have LK:=Hd D;subst h0;have aP:(4096:Int)<(n:Int)+1:=by omega
    clear D;go_wp2_with fail;go_ret;rw[LK];refine⟨rfl,⟨?_,fun h=>by cases h⟩,?_⟩
    ·exact(u_.set _).set _
    ·exact(Ai.bq (Or.inl rfl) _).bq (Or.inl rfl) _
   ·have D:st=((0,n+1),true):=by rw[ab,iN (by omega),h0];rfl
    have LK:=Hd D;subst h0;have aP:¬(4096:Int)<(n:Int)+1:=by omega
    clear D;go_wp2_with fail;go_ret;rw[LK];refine⟨rfl,⟨u_.set _,fun _=>⟨u_.set _,?_,(by show n+1≤4096;omega)⟩⟩,Ai.bq (Or.inl rfl) _⟩;exact aJ.setOther (p:=⟨J,0,none⟩) af _
  ·have D:st=((we,n+1),false):=by rw[ab,iN (fun h=>h0 h.1),dF h0]
   have LK:=Hd D;have a8:(we==0)=false:=by simpa using h0
   clear D h0;go_wp2_with fail;go_ret;rw[LK];exact⟨rfl,⟨u_.set _,fun h=>by cases h⟩,Ai.bq (Or.inl rfl) _⟩
theorem DC(t:Tm)(A:Option Addr)(c:Nat)(w:World)(Y:zx w A c t)(hsz:t.size≤9000000) :
 Calls Tryz.prog 123 #[t.val A c] w fun e w'=>e=.returned (.int .i64 t.check)∧Below w.heap.size w w':=by
 obtain⟨wb,G⟩:=aj (((w.alloc (.cells #[.int .i64 t.op,.int .i64 t.num,.string t.name,.slice A t.kids.length c] 64)).alloc (.cells #[.int .i64 0] 29)).alloc (.cells #[.int .i64 0] 3));have hb1:Below w.heap.size w wb:=by rw[G];exact(((Br _ _).alloc (lr _) _).alloc (by simp) _).alloc (by simp;omega) _
 have O:yu wb (w.heap.size+1) 29 0:=by
  rw[G];have h:=yu.new (w.alloc (.cells #[.int .i64 t.op,.int .i64 t.num,.string t.name,.slice A t.kids.length c] 64)) 29 0;rw[show(w.alloc (.cells #[.int .i64 t.op,.int .i64 t.num,.string t.name,.slice A t.kids.length c] 64)).heap.size=w.heap.size+1 from by simp]at h;exact h.below ((Br (w.heap.size+2) _).alloc (by simp) _) (by omega)
 have J:yu wb (w.heap.size+2) 3 0:=by
  rw[G];have h:=yu.new ((w.alloc (.cells #[.int .i64 t.op,.int .i64 t.num,.string t.name,.slice A t.kids.length c] 64)).alloc (.cells #[.int .i64 0] 29)) 3 0;rw[show((w.alloc (.cells #[.int .i64 t.op,.int .i64 t.num,.string t.name,.slice A t.kids.length c] 64)).alloc (.cells #[.int .i64 0] 29)).heap.size=w.heap.size+2 from by simp]at h;exact h
 have V:Visitor 148 #[.pointer (some ⟨w.heap.size+2,0,none⟩),.pointer (some ⟨w.heap.size+1,0,none⟩)] w.heap.size w (IJ (w.heap.size+1) (w.heap.size+2)) (QE (w.heap.size+1)) eO (fun _=>10000000):=
  { enter:=fun args w=>by kernel_rfl
    fin:=fun s w h=>h.1
    keep:=fun s w w' h hb=>⟨h.1.below hb h.1.lt,h.2.1.below hb h.2.1.lt,h.2.2⟩
    lose:=fun s t d=>Nat.le_succ _
    call:=fun s t d A c w' hI ab Y hd _=>(Wx _ _ (by omega) s t d A c w' hI Y hd).mono fun e w2 ⟨h1,h2,h3⟩=>⟨h1,h2,KT.cO h3 (fun q hq=>by omega) ab.size (fun q hq cs fz he=>by
     rcases hq with rfl|rfl
     ·have D:=hI.1;unfold yu at D;rw[he]at D
      injection D with D
      injection D with _ D _
      exact absurd D (by decide)
     ·have D:=hI.2.1;unfold yu at D;rw[he]at D
      injection D with D
      injection D with _ D _
      exact absurd D (by decide))⟩}
 have Bv:=Ta V rfl t.size t 1 A c (0,0) wb (lr _) (by omega) (by omega) Y ⟨O,J,zl _⟩ hb1;rw[G]at Bv;have yj:=Hd Bv;have aa:=Hd hb1;have jy:=Hd G;unfold Tm.val at yj⊢;clear hb1 O J V Bv G Y hsz;go_in;go_wp2_with fail;refine yj.mono ?_;rintro e w1 ⟨rfl,I,ho⟩;rw[←jy]at ho;have ae:yu w1 (w.heap.size+1) 29 t.check:=I.1;have HO:=Hd (aa.trans ho.below);have cw:=ae.cell;clear I ho;go_wp2_with fail;go_ret;exact⟨rfl,HO⟩
def val(b:Nat):List Nat→Nat
 |[]=>0
 |d::r=>d+b*val b r
def LM:Nat→Nat→Nat→List Nat
 |0,_,_=>[]
 |f+1,b,n=>if n=0 then[]else n%b::LM f b (n/b)
def afH(b n:Nat):List Nat:=LM n b n
theorem Gr{b:Nat}(hb:2≤b):∀(f g n:Nat),n≤f→n≤g→LM f b n=LM g b n
 |0,g,n,h1,h2=>by
  have:n=0:=by omega
  subst this;cases g<;>rfl
 |f+1,0,n,h1,h2=>by
  have:n=0:=by omega
  subst this
  rfl
 |f+1,g+1,n,h1,h2=>by
  unfold LM
  split
  ·rfl
  ·rename_i hn
   have D:n/b<n:=Nat.div_lt_self (by omega) (by omega);rw[Gr hb f g (n/b) (by omega) (by omega)]
theorem Gs{b n:Nat}(hb:2≤b)(hn:n≠0):afH b n=n%b::afH b (n/b):=by
 obtain⟨m,rfl⟩:∃m,n=m+1:=⟨n-1,by omega⟩;have D:(m+1)/b<m+1:=Nat.div_lt_self (by omega) (by omega);show LM (m+1) b (m+1)=_;rw[LM,iN (by omega),Gr hb m ((m+1)/b) _ (by omega) (lr _)]
 rfl
theorem LP{b:Nat}(hb:2≤b):∀(m n:Nat),n<b^m→(afH b n).length≤m
 |0,n,h=>by
  have:n=0:=by simpa using h
  subst this;exact lr _
 |m+1,n,h=>by
  by_cases hn:n=0
  ·subst hn;exact zl _
  ·rw[Gs hb hn,List.length_cons];have:=LP hb m (n/b) (by rw[Nat.div_lt_iff_lt_mul (by omega)];rw[Nat.pow_succ]at h;exact h);omega
end Go.Proofs.YtkhoeoilamddaaaGreatDoor
