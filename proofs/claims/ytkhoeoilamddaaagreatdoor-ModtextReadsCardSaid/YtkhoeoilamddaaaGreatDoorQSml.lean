/- Small words that shorten the walks. -/
import Derived.Test.YtkhoeoilamddaaaGreatDoorProg
import Derived.WalkKit
import Derived.WalkLawsBesides
import Derived.OpenShut
import Derived.Lib.Hide
import Derived.Deep.RegionHeld3
import Derived.Deep.RegionHeld
import Derived.Deep.OwnRows
namespace Go.Proofs.YtkhoeoilamddaaaGreatDoor
open Go.RowKit
set_option linter.unusedVariables false
theorem aj{α:Sort _}(a:α):∃x,x=a:=⟨a,rfl⟩
theorem ak{α:Sort _}(a:α):∃x,Hid (x=a):=⟨a,rfl⟩
abbrev aT:=@List.setIfInBounds_toArray
abbrev aU:=@List.set_cons_zero
abbrev aV:=@List.set_cons_succ
theorem dz{w W:World}{o:Obj}(h:W=w.alloc o):Below w.heap.size w W:=by rw[h];exact(Below.refl _ _).alloc (Nat.le_refl _) _
theorem sAl{w W:World}{o:Obj}(h:W=w.alloc o):W.heap.size=w.heap.size+1:=by rw[h];simp
theorem jZ{w W:World}{o:Obj}{b:Nat}(h:W=w.alloc o)(hb:b=w.heap.size):Hid (W.heap[b]?=some o):=by show _=_;rw[h,hb];exact heap_alloc_new w o
theorem ltH{w:World}{q:Nat}{o:Obj}(h:w.heap[q]?=some o):q<w.heap.size:=by
 rcases Nat.lt_or_ge q w.heap.size with h'|h'
 ·exact h'
 ·rw[Array.getElem?_eq_none h']at h;cases h
theorem kX{w w':World}{b:Nat}{o:Obj}(hb:Below w.heap.size w w')(X:Hid (w.heap[b]?=some o)):Hid (w'.heap[b]?=some o):=(hb.block b (ltH X)).trans X
theorem kB{w w' w'':World}(HB:Hid (Below w.heap.size w w'))(hb:Below w'.heap.size w' w''):Hid (Below w.heap.size w w''):=HB.trans (hb.mono HB.size)
theorem frz{w:World}{b:Nat}{vs:Array Value}{T:TypeId}(h:w.heap[b]?=some (.cells vs T (0,0)))(j:Nat):w.frozen? ⟨b,j,none⟩=false:=by simp[World.frozen?,h]
theorem pG{w:World}{b:Nat}{vs:Array Value}{T:TypeId}{v:Value}(h:w.heap[b]?=some (.cells vs T (0,0)))(j:Nat)(hj:vs[j]?=some v):w.cell? ⟨b,j,none⟩=some v:=by simp[World.cell?,h,hj]
section
variable {w:World} {b:Nat} {T:TypeId} {u0 u1 u2 u3 u4 u5 u6 u7:Value}
theorem q4(h:w.heap[b]?=some (.cells #[u0,u1,u2,u3] T (0,0))):w.cell? ⟨b,0,none⟩=some u0∧w.cell? ⟨b,1,none⟩=some u1∧w.cell? ⟨b,2,none⟩=some u2∧w.cell? ⟨b,3,none⟩=some u3∧∀j,w.frozen? ⟨b,j,none⟩=false:=
 ⟨pG h 0 rfl,pG h 1 rfl,pG h 2 rfl,pG h 3 rfl,frz h⟩
theorem q6(h:w.heap[b]?=some (.cells #[u0,u1,u2,u3,u4,u5] T (0,0))):w.cell? ⟨b,0,none⟩=some u0∧w.cell? ⟨b,1,none⟩=some u1∧w.cell? ⟨b,2,none⟩=some u2∧w.cell? ⟨b,3,none⟩=some u3∧w.cell? ⟨b,4,none⟩=some u4∧w.cell? ⟨b,5,none⟩=some u5∧∀j,w.frozen? ⟨b,j,none⟩=false:=
 ⟨pG h 0 rfl,pG h 1 rfl,pG h 2 rfl,pG h 3 rfl,pG h 4 rfl,pG h 5 rfl,frz h⟩
theorem q8(h:w.heap[b]?=some (.cells #[u0,u1,u2,u3,u4,u5,u6,u7] T (0,0))):w.cell? ⟨b,0,none⟩=some u0∧w.cell? ⟨b,1,none⟩=some u1∧w.cell? ⟨b,2,none⟩=some u2∧w.cell? ⟨b,3,none⟩=some u3∧w.cell? ⟨b,4,none⟩=some u4∧w.cell? ⟨b,5,none⟩=some u5∧w.cell? ⟨b,6,none⟩=some u6∧w.cell? ⟨b,7,none⟩=some u7∧∀j,w.frozen? ⟨b,j,none⟩=false:=
 ⟨pG h 0 rfl,pG h 1 rfl,pG h 2 rfl,pG h 3 rfl,pG h 4 rfl,pG h 5 rfl,pG h 6 rfl,pG h 7 rfl,frz h⟩
end
section
variable {fn:Func} {p:Tmp} {tmps:Array Value} {W:World} {b:Nat} {cs:Array Value}
theorem Gg(h:W.heap[b]?=some (.cells cs 64 (0,0)))(hr:fn.results=#[.cell p 64]:=by rfl)(hp:tmps.getD p undef=.pointer (some ⟨b,0,none⟩):=by rfl)(hi:(Tryz.prog.info? 64).map (·.size)=some cs.size:=by kernel_rfl):(results fn tmps).run Tryz.prog W=.ok (.agg cs) W:=results_cell_row hr tmps W b 64 cs (0,0) _ hp h Tryz.underlying64 rfl hi
theorem Ki(h:W.heap[b]?=some (.cells cs 67 (0,0)))(hr:fn.results=#[.cell p 67]:=by rfl)(hp:tmps.getD p undef=.pointer (some ⟨b,0,none⟩):=by rfl)(hi:(Tryz.prog.info? 67).map (·.size)=some cs.size:=by kernel_rfl):(results fn tmps).run Tryz.prog W=.ok (.agg cs) W:=results_cell_row hr tmps W b 67 cs (0,0) _ hp h Tryz.underlying67 rfl hi
theorem sJ(h:W.heap[b]?=some (.cells cs 194 (0,0)))(hr:fn.results=#[.cell p 194]:=by rfl)(hp:tmps.getD p undef=.pointer (some ⟨b,0,none⟩):=by rfl)(hi:(Tryz.prog.info? 194).map (·.size)=some cs.size:=by kernel_rfl):(results fn tmps).run Tryz.prog W=.ok (.agg cs) W:=results_cell_row hr tmps W b 194 cs (0,0) _ hp h Tryz.underlying194 rfl hi
theorem Bt(h:W.heap[b]?=some (.cells cs 197 (0,0)))(hr:fn.results=#[.cell p 197]:=by rfl)(hp:tmps.getD p undef=.pointer (some ⟨b,0,none⟩):=by rfl)(hi:(Tryz.prog.info? 197).map (·.size)=some cs.size:=by kernel_rfl):(results fn tmps).run Tryz.prog W=.ok (.agg cs) W:=results_cell_row hr tmps W b 197 cs (0,0) _ hp h Tryz.underlying197 rfl hi
end
theorem gJ{P:Program}{ops:Array Oper}{Q:Exit→Act→World→Prop}{S:World→Prop}(i:Nat){oi:Oper}{v:Value}{fuel:Nat}{listed:Array Bool}{a:Act}{w:World}(hi:ops[i]?=some oi)(hy:YieldsIf P ops S oi v a)(hS:S w)
 (h:wpAnyH P .any ops Q S fuel (listed.setIfInBounds i true) (a.put oi.dst v) w) (hs:Region.noSelect ops=true:=by kernel_rfl) (hf:Region.free .any ops listed i=true:=by kernel_rfl) (hr:(Region.ready .any ops listed).contains i=true:=by kernel_rfl)
 (hQ:∀c a w,Q (.panic c) (a.put oi.dst v) w→Q (.panic c) a w:=by exact fun _ _ _ h=>h):wpAnyH P .any ops Q S (fuel+1) listed a w:=wpAnyH_take hi hs hf hr hQ hy hS h
abbrev Rc:=@AllReadyH.cons
abbrev Rn:=@AllReadyH.nil
abbrev Br:=@Below.refl
abbrev bA:=@ByteArray.size_append
abbrev Hd:=@Lib.hid
abbrev gG:=@List.getElem?_eq_getElem
abbrev gE:=@List.getElem?_eq_some_iff
abbrev mG:=@List.mem_of_getElem?
abbrev lr:=@Nat.le_refl
abbrev lL:=@Nat.lt_of_lt_of_le
abbrev zl:=@Nat.zero_le
abbrev Dv:=@World.cell?_setCell_far
abbrev bR:=@bodyPost_ret
abbrev cR:=@cell_of_row
abbrev dF:=@decide_eq_false
abbrev eu:=@heap_alloc_new
abbrev iw:=@heap_setCell_other
abbrev iN:=@if_neg
abbrev iP:=@if_pos
abbrev Rd:=@wpAnyH_ready
end Go.Proofs.YtkhoeoilamddaaaGreatDoor
