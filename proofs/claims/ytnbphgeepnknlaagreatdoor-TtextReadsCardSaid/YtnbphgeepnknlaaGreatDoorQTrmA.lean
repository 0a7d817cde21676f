/- Terms in memory. Walks: terms.kids, wrong. Walks: a visit of all parts of a term, whatever the visitor. -/
import Derived.Test.YtnbphgeepnknlaaGreatDoorQTrmP
import Derived.WalkKit
import Derived.WalkSpells
import Derived.WalkLawsBesides
import Derived.OpenShut
import Derived.BigQuiet
import Derived.Lib.Hide
import Derived.IntWalk
import Derived.Deep.RegionHeld3
import Derived.Deep.AppendLies
import Derived.Deep.OwnRows
import Derived.Laws.CopyOwn
namespace Go.Proofs.YtnbphgeepnknlaaGreatDoor
open Go.RowKit
set_option linter.unusedVariables false

mutual
def TmAt (w : World) (g o : Nat) : Tm → Prop
 | .mk op n s l => w.cell? ⟨g, o, none⟩ = some (.int .i64 op) ∧ w.cell? ⟨g, o + 1, none⟩ = some (.int .i64 n) ∧ w.cell? ⟨g, o + 2, none⟩ = some (.string s) ∧ s.size ≤ maxLen ∧
  ∃ A c, w.cell? ⟨g, o + 3, none⟩ = some (.slice A l.length c) ∧ l.length ≤ c ∧ c ≤ maxLen ∧ (l = [] ∨ ∃ g' o', A = some ⟨g', o', none⟩ ∧ g' < w.heap.size ∧ TmRow w g' o' l)
def TmRow (w : World) (g o : Nat) : List Tm → Prop
 | [] => True
 | t :: r => TmAt w g o t ∧ TmRow w g (o + 4) r
end
def KidsAt (w : World) (A : Option Addr) (l : List Tm) : Prop := l = [] ∨ ∃ g' o', A = some ⟨g', o', none⟩ ∧ g' < w.heap.size ∧ TmRow w g' o' l
mutual
theorem TmAt.below {B : Nat} {w w' : World} (hb : Below B w w') (hB : B = w.heap.size) : ∀ {t : Tm} {g o : Nat}, g < B → TmAt w g o t → TmAt w' g o t
 | .mk op n s l, g, o, hg, h => by
  rw [TmAt] at h ⊢
  obtain ⟨h0, h1, h2, hs, A, c, h3, h4, h5, h6⟩ := h
  refine ⟨by rw [hb.cell (p := ⟨g, _, none⟩) hg]; exact h0, by rw [hb.cell (p := ⟨g, _, none⟩) hg]; exact h1, by rw [hb.cell (p := ⟨g, _, none⟩) hg]; exact h2, hs, A, c, by rw [hb.cell (p := ⟨g, _, none⟩) hg]; exact h3, h4, h5, ?_⟩
  rcases h6 with h6 | ⟨g', o', rfl, hg', h6⟩
  · exact .inl h6
  · exact .inr ⟨g', o', rfl, Nat.lt_of_lt_of_le hg' hb.size, TmRow.below hb hB (by omega) h6⟩
theorem TmRow.below {B : Nat} {w w' : World} (hb : Below B w w') (hB : B = w.heap.size) : ∀ {l : List Tm} {g o : Nat}, g < B → TmRow w g o l → TmRow w' g o l
 | [], g, o, hg, h => by rw [TmRow]; trivial
 | t :: r, g, o, hg, h => by
  rw [TmRow] at h ⊢
  exact ⟨TmAt.below hb hB hg h.1, TmRow.below hb hB hg h.2⟩
end
theorem KidsAt.below {B : Nat} {w w' : World} {A : Option Addr} {l : List Tm} (h : KidsAt w A l) (hb : Below B w w') (hB : B = w.heap.size) : KidsAt w' A l := by
 rcases h with h | ⟨g', o', rfl, hg', h⟩
 · exact .inl h
 · exact .inr ⟨g', o', rfl, Nat.lt_of_lt_of_le hg' hb.size, TmRow.below hb hB (by omega) h⟩
theorem TmRow.get : ∀ {w : World} {l : List Tm} {g o j : Nat} {t : Tm}, TmRow w g o l → l[j]? = some t → TmAt w g (o + 4 * j) t
 | w, x :: r, g, o, 0, t, h, hj => by
  rw [TmRow] at h
  simp at hj
  subst hj
  exact h.1
 | w, x :: r, g, o, j + 1, t, h, hj => by
  rw [TmRow] at h
  have := TmRow.get h.2 (j := j) (by simpa using hj)
  rwa [show o + 4 + 4 * j = o + 4 * (j + 1) from by omega] at this
/-- The value of a term: what its fields hold. -/
structure TmV (w : World) (A : Option Addr) (c : Nat) (t : Tm) : Prop where
 cap : t.kids.length ≤ c
 capm : c ≤ maxLen
 name : t.name.size ≤ maxLen
 kids : KidsAt w A t.kids
theorem TmV.below {B : Nat} {w w' : World} {A : Option Addr} {c : Nat} {t : Tm} (h : TmV w A c t) (hb : Below B w w') (hB : B = w.heap.size) : TmV w' A c t := ⟨h.cap, h.capm, h.name, h.kids.below hb hB⟩
def Tm.val (A : Option Addr) (c : Nat) (t : Tm) : Value := .agg #[.int .i64 t.op, .int .i64 t.num, .string t.name, .slice A t.kids.length c]
theorem TmAt.open {w : World} {g o : Nat} {t : Tm} (h : TmAt w g o t) : w.cell? ⟨g, o, none⟩ = some (.int .i64 t.op) ∧ w.cell? ⟨g, o + 1, none⟩ = some (.int .i64 t.num) ∧ w.cell? ⟨g, o + 2, none⟩ = some (.string t.name) ∧ ∃ A c, w.cell? ⟨g, o + 3, none⟩ = some (.slice A t.kids.length c) ∧ TmV w A c t := by
 cases t with
 | mk op n s l =>
  rw [TmAt] at h
  obtain ⟨h0, h1, h2, hs, A, c, h3, h4, h5, h6⟩ := h
  exact ⟨h0, h1, h2, A, c, h3, h4, h5, hs, h6⟩
theorem TmAt.mk {w : World} {g o : Nat} {t : Tm} {A : Option Addr} {c : Nat} (h0 : w.cell? ⟨g, o, none⟩ = some (.int .i64 t.op)) (h1 : w.cell? ⟨g, o + 1, none⟩ = some (.int .i64 t.num)) (h2 : w.cell? ⟨g, o + 2, none⟩ = some (.string t.name)) (h3 : w.cell? ⟨g, o + 3, none⟩ = some (.slice A t.kids.length c)) (h : TmV w A c t) : TmAt w g o t := by
 cases t with
 | mk op n s l =>
  rw [TmAt]
  exact ⟨h0, h1, h2, h.name, A, c, h3, h.cap, h.capm, h.kids⟩
end Go.Proofs.YtnbphgeepnknlaaGreatDoor
namespace Go.Proofs.YtnbphgeepnknlaaGreatDoor
open Go.RowKit
set_option linter.unusedVariables false

set_option maxHeartbeats 2000000 in
theorem kids_any (op : Int) (w : World) :
 Calls Tryz.prog 162 #[.int .i64 op] w fun e w' => e = .returned (.tuple #[.int .i64 (kidsOf op).1, .int .i64 (kidsOf op).2]) ∧ w = w' := by
 obtain ⟨r, hr⟩ : ∃ r, r = kidsOf op := ⟨_, rfl⟩
 rw [← hr]
 have HR := Lib.hid hr
 clear hr
 go_enter Tryz.func162, Tryz.ntmps162
 go_wp2
 all_goals
  go_ret2
  rw [HR.out]
  refine ⟨?_, rfl⟩
  simp_all [kidsOf]

/-- A term in a box of its own. -/
def tmC (A : Option Addr) (c : Nat) (t : Tm) : Array Value := #[.int .i64 t.op, .int .i64 t.num, .string t.name, .slice A t.kids.length c]

theorem isEmpty_of_size {s : ByteArray} (h : s.size = 0) : s.toList.isEmpty = true := by
 rw [ByteArray.toList_eq]
 have : s.data.toList.length = 0 := by simpa using h
 rw [List.eq_nil_of_length_eq_zero this]
 rfl
theorem isEmpty_of_pos {s : ByteArray} (h : 0 < s.size) : s.toList.isEmpty = false := by
 rw [ByteArray.toList_eq]
 have : 0 < s.data.toList.length := by simpa using h
 cases hl : s.data.toList with
 | nil => rw [hl] at this; simp at this
 | cons _ _ => rfl
theorem toList_of_size {s : ByteArray} (h : s.size = 0) : s.toList = [] := List.isEmpty_iff.1 (isEmpty_of_size h)

theorem wrongE_cls (op n : Int) (nm k : Nat) (lo hi : Int) (nb : Nat) (hlo : lowE op = lo) (hhi : highE op = hi) (hnb : (if op = 3 ∨ op = 4 then 1 else 0) = nb) :
 wrongE op n nm k = if (kidsOf op).1 < 0 then 11 else if n < lo ∨ hi < n then 2 else if nb = 1 ∧ (nm = 0 ∨ 24 < nm) ∨ nb = 0 ∧ nm ≠ 0 then 12 else if (k : Int) < (kidsOf op).1 ∨ (kidsOf op).2 < k then 3 else 0 := by
 subst hlo hhi hnb
 unfold wrongE
 by_cases h : op = 3 ∨ op = 4
 · simp [h]
 · simp [h]

set_option maxRecDepth 100000 in
set_option maxHeartbeats 4000000 in
theorem wrong_any (op n : Int) (s : ByteArray) (A : Option Addr) (k c : Nat) (w : World) (hs : s.size ≤ maxLen) (hk : k ≤ maxLen) :
 Calls Tryz.prog 109 #[.agg #[.int .i64 op, .int .i64 n, .string s, .slice A k c]] w fun e w' => e = .returned (.int .i64 (wrongE op n s.size k)) ∧ Below w.heap.size w w' := by
 unfold maxLen at hs hk
 obtain ⟨fk, hfk⟩ : ∃ fk, fk = kidsOf op := ⟨_, rfl⟩
 obtain ⟨W, hW⟩ : ∃ W, W = wrongE op n s.size k := ⟨_, rfl⟩
 rw [← hW]
 have HK := Lib.hid (fun W => kids_any op W)
 rw [← hfk] at HK
 have HB := Lib.hid ((Below.refl w.heap.size w).alloc (Nat.le_refl _) (.cells #[.int .i64 op, .int .i64 n, .string s, .slice A k c] 25))
 have HW := Lib.hid hW
 have HFK := Lib.hid hfk
 clear hfk hW
 have hnm : (0 < s.size ∧ s.toList.isEmpty = false) ∨ (s.size = 0 ∧ s.toList.isEmpty = true) := by
  rcases Nat.eq_zero_or_pos s.size with h | h
  · exact .inr ⟨h, isEmpty_of_size h⟩
  · exact .inl ⟨h, isEmpty_of_pos h⟩
 have hcl : op = 1 ∨ op = 2 ∨ op = 3 ∨ op = 4 ∨ (op ≠ 1 ∧ op ≠ 2 ∧ op ≠ 3 ∧ op ≠ 4 ∧ (op == 1) = false ∧ (op == 2) = false ∧ (op == 3) = false ∧ (op == 4) = false) := by
  by_cases h1 : op = 1
  · exact .inl h1
  by_cases h2 : op = 2
  · exact .inr (.inl h2)
  by_cases h3 : op = 3
  · exact .inr (.inr (.inl h3))
  by_cases h4 : op = 4
  · exact .inr (.inr (.inr (.inl h4)))
  exact .inr (.inr (.inr (.inr ⟨h1, h2, h3, h4, by simpa using h1, by simpa using h2, by simpa using h3, by simpa using h4⟩)))
 rcases hnm with ⟨hn1, hn2⟩ | ⟨hn1, hn2⟩
 all_goals
  have HN1 := Lib.hid hn1
  try clear hn1
  rcases hcl with rfl | rfl | rfl | rfl | ⟨h1, h2, h3, h4, b1, b2, b3, b4⟩
  all_goals
   (try have HOP := Lib.hid (And.intro h1 (And.intro h2 (And.intro h3 h4))))
   (try clear h1 h2 h3 h4)
   go_enter Tryz.func109, Tryz.ntmps109
   go_wp2_with fail
   refine (HK.out _).mono ?_
   rintro e w' ⟨rfl, hw⟩
   rw [← hw]
   clear hw
   go_wp2_with fail
   all_goals
    go_ret
    refine ⟨?_, HB.out⟩
    have hn := HN1.out
    refine congrArg (fun x => Ending.returned (.int .i64 x)) ?_
    rw [HW.out]
    first
     | rw [wrongE_cls 1 n _ _ (-255) 255 0 rfl rfl rfl]
     | rw [wrongE_cls 2 n _ _ 0 1 0 rfl rfl rfl]
     | rw [wrongE_cls 3 n _ _ 0 0 1 rfl rfl rfl]
     | rw [wrongE_cls 4 n _ _ 0 0 1 rfl rfl rfl]
     | (obtain ⟨o1, o2, o3, o4⟩ := HOP.out
        rw [wrongE_cls op n _ _ 0 0 0 (if_neg o1) (by unfold highE; rw [if_neg o1, if_neg o2]) (by rw [if_neg (by omega)])])
    rw [← HFK.out]
    repeat' split
    all_goals first | rfl | omega
end Go.Proofs.YtnbphgeepnknlaaGreatDoor
namespace Go.Proofs.YtnbphgeepnknlaaGreatDoor
open Go.RowKit
set_option linter.unusedVariables false
set_option linter.unusedSectionVars false

/-- Of the old blocks only those of F may have been written. -/
structure Only (F : Nat → Prop) (w w' : World) : Prop where
 os : w'.os = w.os
 tape : w'.tape = w.tape
 output : w'.output = w.output
 size : w.heap.size ≤ w'.heap.size
 block : ∀ q, q < w.heap.size → ¬ F q → w'.heap[q]? = w.heap[q]?
section
variable {F : Nat → Prop} {w w' w'' : World}
theorem Only.refl : Only F w w := ⟨rfl, rfl, rfl, Nat.le_refl _, fun _ _ _ => rfl⟩
theorem Only.trans (h : Only F w w') (k : Only F w' w'') : Only F w w'' := ⟨k.os.trans h.os, k.tape.trans h.tape, k.output.trans h.output, Nat.le_trans h.size k.size, fun q hq hf => (k.block q (Nat.lt_of_lt_of_le hq h.size) hf).trans (h.block q hq hf)⟩
theorem Only.of_below (h : Below w.heap.size w w') : Only F w w' := ⟨h.os, h.tape, h.output, h.size, fun q hq _ => h.block q hq⟩
theorem Only.thenBelow {B : Nat} (h : Only F w w') (k : Below B w' w'') (hB : w.heap.size ≤ B) : Only F w w'' := ⟨k.os.trans h.os, k.tape.trans h.tape, k.output.trans h.output, Nat.le_trans h.size k.size, fun q hq hf => (k.block q (Nat.lt_of_lt_of_le hq hB)).trans (h.block q hq hf)⟩
theorem Only.below {B : Nat} (h : Only F w w') (hF : ∀ q, F q → B ≤ q) (hB : B ≤ w.heap.size) : Below B w w' := ⟨h.os, h.tape, h.output, h.size, fun q hq => h.block q (Nat.lt_of_lt_of_le hq hB) fun hf => by have := hF q hf; omega⟩
theorem Only.cell (h : Only F w w') {b o : Nat} (hb : b < w.heap.size) (hf : ¬ F b) : w'.cell? ⟨b, o, none⟩ = w.cell? ⟨b, o, none⟩ := World.cell?_of_block (a := ⟨b, o, none⟩) (h.block b hb hf)
theorem Only.mono {G : Nat → Prop} (h : Only F w w') (hG : ∀ q, F q → G q) : Only G w w' := ⟨h.os, h.tape, h.output, h.size, fun q hq hg => h.block q hq fun hf => hg (hG q hf)⟩
theorem Only.setF (h : Only F w w') {b o : Nat} (hF : F b) (v : Value) : Only F w (w'.setCell ⟨b, o, none⟩ v) :=
 ⟨h.os, h.tape, h.output, by simpa using h.size, fun q hq hf => (heap_setCell_other w' ⟨b, o, none⟩ q v (fun e => hf (by subst e; exact hF))).trans (h.block q hq hf)⟩
end

/-- Blocks from B on alone may have been written, and of those none that holds parts of type T. -/
structure KT (T : TypeId) (B : Nat) (w w' : World) : Prop where
 below : Below B w w'
 keep : ∀ (q : Nat) (cs : Array Value) (fz : Nat × Nat), w.heap[q]? = some (Obj.cells cs T fz) → w'.heap[q]? = w.heap[q]?
section
variable {T : TypeId} {B : Nat} {w w' w'' : World}
theorem KT.refl : KT T B w w := ⟨Below.refl _ _, fun _ _ _ _ => rfl⟩
theorem KT.trans (h : KT T B w w') (k : KT T B w' w'') : KT T B w w'' := ⟨h.below.trans k.below, fun q cs fz hq => by
 have h1 := h.keep q cs fz hq
 rw [← h1]
 exact k.keep q cs fz (h1.trans hq)⟩
theorem lt_of_heap {w : World} {q : Nat} {o : Obj} (h : w.heap[q]? = some o) : q < w.heap.size := by
 rcases Nat.lt_or_ge q w.heap.size with h' | h'
 · exact h'
 · rw [Array.getElem?_eq_none h'] at h; cases h
theorem KT.of_below (h : Below w.heap.size w w') (hB : B ≤ w.heap.size) : KT T B w w' := ⟨h.mono hB, fun q cs fz hq => h.block q (lt_of_heap hq)⟩
theorem KT.thenBelow {C : Nat} (h : KT T B w w') (k : Below C w' w'') (hC : w.heap.size ≤ C) (hB : B ≤ C) : KT T B w w'' := ⟨h.below.trans (k.mono hB), fun q cs fz hq => (k.block q (Nat.lt_of_lt_of_le (lt_of_heap hq) hC)).trans (h.keep q cs fz hq)⟩
theorem KT.of_only {F : Nat → Prop} (h : Only F w w') (hF : ∀ q, F q → B ≤ q) (hB : B ≤ w.heap.size) (hT : ∀ q, F q → ∀ (cs : Array Value) (fz : Nat × Nat), w.heap[q]? ≠ some (Obj.cells cs T fz)) : KT T B w w' :=
 ⟨h.below hF hB, fun q cs fz hq => h.block q (lt_of_heap hq) fun hf => hT q hf cs fz hq⟩
end

/-- A visitor: a function value whose calls turn a state held in memory; room is how many calls it can still take. -/
structure Visitor (K : Nat) (cap : Array Value) (B : Nat) (w0 : World) {σ : Type} (Inv Fin : σ → World → Prop) (step : σ → Tm → Nat → σ × Bool) (room : σ → Nat) : Prop where
 enter : ∀ args w, (callFunc K args).run Tryz.prog w = .ok (.enter K args) w
 fin : ∀ s w, Inv s w → Fin s w
 keep : ∀ s w w', Inv s w → Below w.heap.size w w' → Inv s w'
 lose : ∀ s t d, room s ≤ room (step s t d).1 + 1
 call : ∀ s t (d : Nat) A c w, Inv s w → Below B w0 w → TmV w A c t → d ≤ 10000000 → 0 < room s → Calls Tryz.prog K #[t.val A c, .int .i64 d, cap.getD 0 undef, cap.getD 1 undef] w fun e w' => e = .returned (.bool (step s t d).2) ∧ (Fin (step s t d).1 w' ∧ ((step s t d).2 = true → Inv (step s t d).1 w')) ∧ KT 25 B w w'

section
variable {σ : Type} {step : σ → Tm → Nat → σ × Bool} {room : σ → Nat} (hl : ∀ s t d, room s ≤ room (step s t d).1 + 1)
include hl
mutual
theorem walkF_lose : ∀ (t : Tm) (d : Nat) (s : σ), room s ≤ room (walkF step t d s).1 + t.size
 | .mk o n x l, d, s => by
  rw [walkF_eq, Tm.size]
  have h1 := hl s (.mk o n x l) d
  split
  · have h2 := walkL_lose l (d + 1) (step s (.mk o n x l) d).1
    show _ ≤ room (walkL step l (d + 1) _).1 + _
    omega
  · show _ ≤ room (step s (.mk o n x l) d).1 + _
    omega
theorem walkL_lose : ∀ (l : List Tm) (d : Nat) (s : σ), room s ≤ room (walkL step l d s).1 + Tm.sizeL l
 | [], d, s => by rw [walkL, Tm.sizeL]; exact Nat.le_refl _
 | t :: r, d, s => by
  have h1 := walkF_lose t d s
  rw [walkL, Tm.sizeL]
  cases hw : walkF step t d s with
  | mk y b =>
   rw [hw] at h1
   simp only at h1
   cases b with
   | false => simp only; omega
   | true =>
    have h2 := walkL_lose r d y
    simp only
    omega
end
end
theorem Tm.sizeL_drop {l : List Tm} {k : Nat} {t : Tm} (h : l[k]? = some t) : Tm.sizeL (l.drop k) = t.size + Tm.sizeL (l.drop (k + 1)) := by
 obtain ⟨hj, hj2⟩ := List.getElem?_eq_some_iff.1 h
 rw [List.drop_eq_getElem_cons hj, hj2, Tm.sizeL]

set_option maxRecDepth 100000 in
set_option maxHeartbeats 4000000 in
theorem walk_any {K : Nat} {c0 c1 : Value} {B : Nat} {w0 : World} {σ : Type} {Inv Fin : σ → World → Prop} {step : σ → Tm → Nat → σ × Bool} {room : σ → Nat} (V : Visitor K #[c0, c1] B w0 Inv Fin step room) (hB : B = w0.heap.size) :
 ∀ (N : Nat) (t : Tm) (d : Nat) (A : Option Addr) (c : Nat) (s : σ) (w : World), t.size ≤ N → d + t.size ≤ 10000000 → t.size ≤ room s → TmV w0 A c t → Inv s w → Below B w0 w →
 Calls Tryz.prog 107 #[t.val A c, .int .i64 d, .func (.func K) #[] #[c0, c1]] w fun e w' => e = .returned (.bool (walkF step t d s).2) ∧ (Fin (walkF step t d s).1 w' ∧ ((walkF step t d s).2 = true → Inv (walkF step t d s).1 w')) ∧ KT 25 B w w' := by
 intro N
 induction N with
 | zero =>
  intro t d A c s w hN
  cases t; rw [Tm.size] at hN; omega
 | succ N ih =>
  intro t d A c s w hN hd hroom hV hI hbel
  have hrun := V.enter
  have HIHH := Lib.hid ih
  have HV := Lib.hid hV
  have HBEL := Lib.hid hbel
  obtain ⟨wb, hwb⟩ : ∃ wb, wb = w.alloc (.cells #[.int .i64 t.op, .int .i64 t.num, .string t.name, .slice A t.kids.length c] 25) := ⟨_, rfl⟩
  have hb1 : Below w.heap.size w wb := by rw [hwb]; exact (Below.refl _ _).alloc (Nat.le_refl _) _
  have hI1 := V.keep s w wb hI hb1
  have hbw : B ≤ w.heap.size := by rw [hB]; exact hbel.size
  have hbel1 : Below B w0 wb := hbel.trans (hb1.mono hbw)
  have htp : 1 ≤ t.size := by cases t; rw [Tm.size]; omega
  have hcall : Calls Tryz.prog K #[.agg #[.int .i64 t.op, .int .i64 t.num, .string t.name, .slice A t.kids.length c], .int .i64 d, c0, c1] wb fun e w' => e = .returned (.bool (step s t d).2) ∧ (Fin (step s t d).1 w' ∧ ((step s t d).2 = true → Inv (step s t d).1 w')) ∧ KT 25 B wb w' := V.call s t d A c wb hI1 hbel1 (hV.below hbel1 hB) (by omega) (by omega)
  have hlos : t.size - 1 ≤ room (step s t d).1 := by have := V.lose s t d; omega
  have hszk : Tm.sizeL t.kids = t.size - 1 := by cases t; rw [Tm.size]; simp only [Tm.kids]; omega
  have hbx : wb.heap[w.heap.size]? = some (.cells #[.int .i64 t.op, .int .i64 t.num, .string t.name, .slice A t.kids.length c] 25 (0, 0)) := by rw [hwb]; exact heap_alloc_new w _
  have hsb : wb.heap.size = w.heap.size + 1 := by rw [hwb]; simp
  have HBX := Lib.hid hbx
  have HSB := Lib.hid hsb
  have HB1 := Lib.hid hb1
  have HBL1 := Lib.hid hbel1
  have HFX := Lib.hid (walkF_eq step t d s)
  obtain ⟨s1, hs1⟩ : ∃ s1, s1 = step s t d := ⟨_, rfl⟩
  obtain ⟨r, hr⟩ : ∃ r, r = walkF step t d s := ⟨_, rfl⟩
  rw [← hs1] at hcall HFX hlos
  rw [← hszk] at hlos
  rw [← hr] at HFX
  rw [← hr]
  rw [hwb] at hcall
  have HC := Lib.hid hcall
  have HON : Hid (KT 25 B w wb) := KT.of_below hb1 hbw
  obtain ⟨n, hn⟩ : ∃ n, n = t.kids.length := ⟨_, rfl⟩
  have HN := Lib.hid hn
  have hcap := hV.cap
  have hcapm := hV.capm
  unfold maxLen at hcapm
  have hnl : n ≤ 10000000 := by
   have : t.kids.length ≤ Tm.sizeL t.kids := Tm.len_le t.kids
   omega
  have HKID := Lib.hid hV.kids
  have HSZ : Hid (∀ k ∈ t.kids, k.size ≤ N ∧ d + 1 + k.size ≤ 10000000) := fun k hk => by
   have h1 := Tm.sizeL_mem hk
   omega
  have HLOS := Lib.hid hlos
  unfold Tm.val
  rw [← hn] at HBX HC hcap hwb ⊢
  have HWB := Lib.hid hwb
  have HBQ := Lib.hid hB
  clear hB ih hV hbel hcall hI hI1 hb1 hbel1 hwb hbx hsb hs1 hr hn hN hlos hroom hszk htp
  go_enter Tryz.func107, Tryz.ntmps107
  go_wp2_with fail
  refine (HC.out).mono ?_
  rintro e w1 ⟨rfl, hI1, ho1⟩
  rw [← HWB.out] at ho1
  have HI1 := Lib.hid hI1
  have hsz1 := ho1.below.size
  have x3 : w1.cell? ⟨w.heap.size, 3, none⟩ = some (.slice A n c) := by
   have h9 := (ho1.keep _ _ _ HBX.out).trans HBX.out
   rw [cell_of_row w1 w.heap.size 3 _ _ (0, 0) h9]; rfl
  have HO1 : Hid (KT 25 B w w1) := HON.out.trans ho1
  have hlt1 : w.heap.size < w1.heap.size := by have := HSB.out; omega
  clear hI1 ho1 hsz1
  obtain ⟨y, b⟩ := s1
  cases b with
  | false =>
   simp only at HI1
   simp only [Bool.false_eq_true, if_false] at HFX
   go_wp2_with fail
   go_ret
   rw [HFX.out]
   exact ⟨rfl, ⟨HI1.out.1, fun h => by cases h⟩, HO1.out⟩
  | true =>
   simp only at HI1 HLOS
   simp only [if_true] at HFX
   go_wp2_with fail
   go_loopw [17] (fun si wr => ∃ (k : Nat) (x : σ), k ≤ n ∧ si = .int .i64 k ∧ Inv x wr ∧ KT 25 B w wr ∧ w.heap.size < wr.heap.size ∧ Tm.sizeL (t.kids.drop k) ≤ room x ∧ walkL step (t.kids.drop k) (d + 1) x = r) (fun i _ => n - (intOf i).toNat)
   case atStart => exact ⟨0, y, Nat.zero_le _, rfl, HI1.out.2 (by first | rfl | trivial), HO1.out, hlt1, HLOS.out, HFX.out.symm⟩
   case round =>
    obtain ⟨k, x, hk, rfl, hI, ho, hlr, hrm, hwl⟩ := hrel
    have HI := Lib.hid hI
    have HO := Lib.hid ho
    have HWL := Lib.hid hwl
    have HRM := Lib.hid hrm
    have hszr := ho.below.size
    clear hI ho hwl hrm
    by_cases hlt : k < n
    · obtain ⟨kd, hkd⟩ : ∃ kd, t.kids[k]? = some kd := ⟨_, List.getElem?_eq_getElem (by have := HN.out; omega)⟩
      have hmem : kd ∈ t.kids := List.mem_of_getElem? hkd
      rcases HKID.out with h9 | ⟨g, off, rfl, hg, hrow⟩
      · rw [h9] at hkd; simp at hkd
      obtain ⟨q0, q1, q2, A2, c2, q3, hV2⟩ := (hrow.get hkd).open
      have hbr : Below B w0 wr := HBEL.out.trans HO.out.below
      have hgB : g < B := by rw [HBQ.out]; exact hg
      rw [← hbr.cell (p := ⟨g, _, none⟩) hgB] at q0 q1 q2 q3
      have hgw : g < wr.heap.size := by omega
      obtain ⟨n2, hn2⟩ : ∃ n2, n2 = kd.kids.length := ⟨_, rfl⟩
      rw [← hn2] at q3
      have HN2 := Lib.hid hn2
      have HBR := Lib.hid hbr
      have HV2 := Lib.hid hV2
      have HDR : Hid (t.kids.drop k = kd :: t.kids.drop (k + 1)) := by
       obtain ⟨hj, hj2⟩ := List.getElem?_eq_some_iff.1 hkd
       show _ = _
       rw [List.drop_eq_getElem_cons hj, hj2]
      have HSD := Lib.hid (Tm.sizeL_drop hkd)
      have HSK := Lib.hid (HSZ.out kd hmem)
      have hk0 : (0 : Int) ≤ (k : Int) := by omega
      have hk1 : (k : Int) < (n : Int) := by omega
      have e1 : off + 4 * k = off + k * 4 := by omega
      rw [e1] at q0 q1 q2 q3
      clear hkd hmem hrow hbr hn2 hV2 e1
      obtain ⟨wk, hwk⟩ : ∃ wk, wk = wr.alloc (.cells #[.int .i64 kd.op, .int .i64 kd.num, .string kd.name, .slice A2 n2 c2] 25) := ⟨_, rfl⟩
      have hbk : Below wr.heap.size wr wk := by rw [hwk]; exact (Below.refl _ _).alloc (Nat.le_refl _) _
      have hBr : B ≤ wr.heap.size := by omega
      have hzk : w.heap.size < wk.heap.size := by have := hbk.size; omega
      have hok : KT 25 B w wk := HO.out.thenBelow hbk (by omega) hBr
      have hih := HIHH.out kd (d + 1) A2 c2 x wk HSK.out.1 HSK.out.2 (by have h1 := HRM.out; rw [HSD.out] at h1; omega) HV2.out (V.keep x wr wk HI.out hbk) (HBR.out.trans (hbk.mono hBr))
      have HLO : Hid (Tm.sizeL (t.kids.drop (k + 1)) ≤ room (walkF step kd (d + 1) x).1) := by
       have h1 := HRM.out
       rw [HSD.out] at h1
       have h2 := walkF_lose V.lose kd (d + 1) x
       show _ ≤ _
       omega
      rw [show ((d + 1 : Nat) : Int) = (d : Int) + 1 from by omega] at hih
      unfold Tm.val at hih
      rw [← HN2.out] at hih
      obtain ⟨z, hz⟩ : ∃ z, z = walkF step kd (d + 1) x := ⟨_, rfl⟩
      rw [← hz] at hih HLO
      have HZ := Lib.hid hz
      have HIH := Lib.hid hih
      have HWK := Lib.hid hwk
      have HOK := Lib.hid hok
      rw [HWK.out] at HIH
      clear hih hz hwk hbk hok
      go_wp2_with fail
      refine (HIH.out).mono ?_
      rintro e w2 ⟨rfl, hI2, ho2⟩
      rw [← HWK.out] at ho2
      have hz2 := ho2.below.size
      have HI2 := Lib.hid hI2
      have HO2 := Lib.hid (HOK.out.trans ho2)
      clear hI2 ho2
      obtain ⟨y2, b2⟩ := z
      have HW2 : Hid (walkL step (t.kids.drop k) (d + 1) x = if b2 = true then walkL step (t.kids.drop (k + 1)) (d + 1) y2 else (y2, false)) := by
       show _ = _
       rw [HDR.out, walkL, ← HZ.out]
       cases b2 <;> rfl
      cases b2 with
      | false =>
       have HR : Hid (r = (y2, false)) := by show _ = _; rw [← HWL.out, HW2.out]; rfl
       go_wp2_with fail
       go_ret
       rw [HR.out]
       exact ⟨rfl, ⟨HI2.out.1, fun h => by cases h⟩, HO2.out⟩
      | true =>
       go_wp2_with fail
       go_roundw
       case rel => exact ⟨k + 1, y2, by omega, by go_num, HI2.out.2 (by first | rfl | trivial), HO2.out, by omega, HLO.out, by rw [← HWL.out, HW2.out]; rfl⟩
       case measure => first | (simp [intOf]; done) | (simp [intOf]; omega)
    · have hkn : k = n := by omega
      have HR : Hid (r = (x, true)) := by
       show _ = _
       rw [← HWL.out, List.drop_eq_nil_of_le (by have := HN.out; omega)]
       rfl
      have hk1 : ¬ (k : Int) < (n : Int) := by omega
      go_wp2_with fail
      go_ret
      rw [HR.out]
      exact ⟨rfl, ⟨V.fin _ _ HI.out, fun _ => HI.out⟩, HO.out⟩
end Go.Proofs.YtnbphgeepnknlaaGreatDoor
