/- Walks: terms.Names: whether a term refers to the next state. -/
import Derived.Test.YtcjblbpkjegmiaaDoorTrmI
import Derived.Test.YtcjblbpkjegmiaaDoorFrmP
namespace Go.Proofs.YtcjblbpkjegmiaaDoor
open Go.RowKit
set_option linter.unusedVariables false
set_option linter.unusedSectionVars false

/-- A box that holds a row of strings of its own. -/
structure Row1 (b B : Nat) (w : World) (v : Value) (n : Nat) (xs : List Value) : Prop where
  box : w.heap[b]? = some (.cells #[v] 45 (0, 0))
  own : w.ownsRow B 9 1 v n xs
  strs : Strs xs
section
variable {b b2 B n n2 : Nat} {w w' : World} {v v2 : Value} {xs xs2 : List Value}
theorem Row1.cell (h : Row1 b B w v n xs) : w.cell? ⟨b, 0, none⟩ = some v := by rw [cell_of_row w b 0 _ _ (0, 0) h.box]; rfl
theorem Row1.frozen (h : Row1 b B w v n xs) : w.frozen? ⟨b, 0, none⟩ = false := by
  have := h.box
  simp [World.frozen?, this]
theorem Row1.lt (h : Row1 b B w v n xs) : b < w.heap.size := lt_of_heap h.box
theorem row_typed (h : w.ownsRow B 9 1 v n xs) {q : Nat} (hq : v.ownBlock = some q) : ∃ cs, w.heap[q]? = some (.cells cs 9 (0, 0)) := by
  rcases h.2 with ⟨rfl, _⟩ | ⟨g, cap, cur, rfl, _, hg, _⟩
  · cases hq
  · have hq' : g = q := by simpa [Value.ownBlock] using hq
    subst hq'
    exact ⟨_, hg⟩
theorem Row1.below (h : Row1 b B w v n xs) (hb : Below w.heap.size w w') : Row1 b B w' v n xs := by
  refine ⟨(hb.block b h.lt).trans h.box, h.own.kept (row := none) ⟨hb.os, hb.tape, hb.output, hb.size, fun q hq _ => hb.block q hq⟩ ?_, h.strs⟩
  cases hv : v.ownBlock <;> simp
/-- After put, and the store into the box. -/
theorem Row1.put (h : Row1 b B w v n xs) {e : Ending} (hp : PutQ B v n w e w') (hBb : B ≤ b) (hBw : B ≤ w.heap.size) : ∃ v' n' xs', e = .returned v' ∧ Row1 b B (w'.setCell ⟨b, 0, none⟩ v') v' n' xs' ∧ 0 < n' ∧ n' ≤ n + 1 ∧ (∀ q, v'.ownBlock = some q → some q = v.ownBlock ∨ w.heap.size ≤ q) ∧ KT 26 B w (w'.setCell ⟨b, 0, none⟩ v') ∧
    w'.cell? ⟨b, 0, none⟩ = some v ∧ w'.frozen? ⟨b, 0, none⟩ = false ∧
    ∀ b2 v2 n2 xs2, b2 ≠ b → Row1 b2 B w v2 n2 xs2 → (v2.ownBlock = none ∨ v2.ownBlock ≠ v.ownBlock) → Row1 b2 B (w'.setCell ⟨b, 0, none⟩ v') v2 n2 xs2 := by
  obtain ⟨v', xs', m, rfl, h1, h2, h3, h4, h5, h6⟩ := hp
  have hbne : some b ≠ v.ownBlock := fun e => by
    obtain ⟨cs, hc⟩ := row_typed h.own e.symm
    rw [h.box] at hc
    injection hc with hc
    injection hc with _ hc _
    exact absurd hc (by decide)
  have hbx : w'.heap[b]? = some (.cells #[v] 45 (0, 0)) := (h5.block b h.lt hbne).trans h.box
  have hbne' : v'.ownBlock ≠ some b := fun e => by
    obtain ⟨cs, hc⟩ := row_typed h4 e
    rw [hbx] at hc
    injection hc with hc
    injection hc with _ hc _
    exact absurd hc (by decide)
  refine ⟨v', m, xs', rfl, ⟨?_, ownsRow_setCell_other h4 hbne' _, h3⟩, h1, h2, h6, ?_, by rw [cell_of_row w' b 0 _ _ (0, 0) hbx]; rfl, by simp [World.frozen?, hbx], ?_⟩
  · simp [World.setCell, Array.getElem?_modify, hbx]
  · refine ⟨Below.setCell (p := ⟨b, 0, none⟩) ⟨h5.os, h5.tape, h5.output, h5.size, fun q hq => h5.block q (by omega) (fun e => ?_)⟩ hBb _, fun q cs fz hq => ?_⟩
    · have := (h.own.lt q e.symm).1
      omega
    · have hqb : q ≠ b := fun e => by
        subst e
        rw [h.box] at hq
        injection hq with hq
        injection hq with _ hq _
        exact absurd hq (by decide)
      rw [heap_setCell_other w' ⟨b, 0, none⟩ q _ hqb]
      refine h5.block q (lt_of_heap hq) fun e => ?_
      obtain ⟨cs', hc⟩ := row_typed h.own e.symm
      rw [hq] at hc
      injection hc with hc
      injection hc with _ hc _
      exact absurd hc (by decide)
  · intro b2 v2 n2 xs2 hne k hrow
    have hb2 : some b2 ≠ v.ownBlock := fun e => by
      obtain ⟨cs, hc⟩ := row_typed h.own e.symm
      rw [k.box] at hc
      injection hc with hc
      injection hc with _ hc _
      exact absurd hc (by decide)
    have hv2 : v2.ownBlock ≠ some b := fun e => by
      obtain ⟨cs, hc⟩ := row_typed k.own e
      rw [h.box] at hc
      injection hc with hc
      injection hc with _ hc _
      exact absurd hc (by decide)
    refine ⟨?_, ownsRow_setCell_other (k.own.kept h5 hrow) hv2 _, k.strs⟩
    rw [heap_setCell_other w' ⟨b, 0, none⟩ b2 _ hne]
    exact (h5.block b2 k.lt hb2).trans k.box
end
structure NmInv (b1 b2 B : Nat) (x : Nat × Bool) (w : World) : Prop where
  B1 : B ≤ b1
  B2 : B ≤ b2
  rows : ∃ v1 n1 xs1 v2 n2 xs2, Row1 b1 B w v1 n1 xs1 ∧ Row1 b2 B w v2 n2 xs2 ∧ n1 ≤ x.1 ∧ n2 ≤ x.1 ∧ (n2 = 0 ↔ x.2 = false) ∧ (v2.ownBlock = none ∨ v2.ownBlock ≠ v1.ownBlock)
def nmStep (x : Nat × Bool) (t : Tm) (d : Nat) : (Nat × Bool) × Bool := ((x.1 + 1, x.2 || decide (t.op = 4)), true)
mutual
theorem nm_walk : ∀ (t : Tm) (d : Nat) (x : Nat × Bool), (walkF nmStep t d x).2 = true ∧ (walkF nmStep t d x).1.2 = (x.2 || hasNext t)
  | .mk o n s l, d, x => by
    rw [walkF_eq, hasNext]
    have h := nm_walkL l (d + 1) (x.1 + 1, x.2 || decide (o = 4))
    show (if true = true then walkL nmStep l (d + 1) (x.1 + 1, x.2 || decide (o = 4)) else _).2 = true ∧ (if true = true then walkL nmStep l (d + 1) (x.1 + 1, x.2 || decide (o = 4)) else _).1.2 = _
    rw [if_pos rfl]
    refine ⟨h.1, h.2.trans ?_⟩
    simp [Bool.or_assoc]
theorem nm_walkL : ∀ (l : List Tm) (d : Nat) (x : Nat × Bool), (walkL nmStep l d x).2 = true ∧ (walkL nmStep l d x).1.2 = (x.2 || hasNextL l)
  | [], d, x => by rw [walkL, hasNextL]; simp
  | t :: r, d, x => by
    have h1 := nm_walk t d x
    rw [walkL, hasNextL]
    cases hw : walkF nmStep t d x with
    | mk y b =>
      rw [hw] at h1
      obtain ⟨h2, h3⟩ := h1
      simp only at h2 h3
      subst h2
      have h4 := nm_walkL r d y
      refine ⟨h4.1, h4.2.trans ?_⟩
      rw [h3, Bool.or_assoc]
end

set_option maxRecDepth 100000 in
set_option maxHeartbeats 4000000 in
theorem names1_any (b1 b2 B : Nat) (hne : b1 ≠ b2) (x : Nat × Bool) (t : Tm) (d : Nat) (A : Option Addr) (c : Nat) (w : World) (hI : NmInv b1 b2 B x w) (hB : B ≤ w.heap.size) (hx : x.1 ≤ 9000000) :
    Calls Tryd.prog 126 #[t.val A c, .int .i64 d, .pointer (some ⟨b1, 0, none⟩), .pointer (some ⟨b2, 0, none⟩)] w fun e w' => e = .returned (.bool true) ∧ NmInv b1 b2 B (nmStep x t d).1 w' ∧ KT 26 B w w' := by
  obtain ⟨B1, B2, v1, n1, xs1, v2, n2, xs2, r1, r2, l1, l2, hz, hdis⟩ := hI
  obtain ⟨wb, hwb⟩ : ∃ wb, wb = w.alloc (.cells #[.int .i64 t.op, .int .i64 t.num, .string t.name, .slice A t.kids.length c] 26) := ⟨_, rfl⟩
  have hb1 : Below w.heap.size w wb := by rw [hwb]; exact (Below.refl _ _).alloc (Nat.le_refl _) _
  have lt1 := r1.lt
  have lt2 := r2.lt
  have k1 := r1.below hb1
  have k2 := r2.below hb1
  have hsb : B ≤ wb.heap.size := by have := hb1.size; omega
  have HK : Hid (KT 26 B w wb) := KT.of_below hb1 hB
  have HP1 := Lib.hid (tput_any B n1 v1 xs1 t.name wb k1.own k1.strs (by omega) hsb)
  have HP2 := Lib.hid (tput_any B n2 v2 xs2 t.name wb k2.own k2.strs (by omega) hsb)
  have c1 := r1.cell
  have c2 := r2.cell
  have HWB := Lib.hid hwb
  rw [HWB.out] at HP1 HP2
  have K1 := Lib.hid k1
  have K2 := Lib.hid k2
  have HST : Hid ((nmStep x t d).1 = (x.1 + 1, x.2 || decide (t.op = 4))) := rfl
  obtain ⟨st, hst⟩ : ∃ st, st = (nmStep x t d).1 := ⟨_, rfl⟩
  rw [← hst] at HST ⊢
  have HZ := Lib.hid hz
  have HD := Lib.hid hdis
  obtain ⟨op, hop⟩ : ∃ op, op = t.op := ⟨_, rfl⟩
  unfold Tm.val
  rw [← hop] at HST HP1 HP2 HWB ⊢
  have HNE := Lib.hid hne
  have HSBB := Lib.hid hsb
  clear hwb hb1 hsb k1 k2 r1 r2 hst hz hdis hop hne
  by_cases h3 : op = 3
  · subst h3
    go_enter Tryd.func126, Tryd.ntmps126
    go_wp2_with fail
    refine (HP1.out).mono ?_
    rintro e w2 hp
    rw [← HWB.out] at hp
    obtain ⟨v', n', xs', rfl, q1, q2, q3, q4, q5, q6, q7, q8⟩ := K1.out.put hp B1 HSBB.out
    obtain ⟨g', cap', rfl, -, -⟩ := q1.own.form q2
    have Q1 := Lib.hid q1
    have Q5 := Lib.hid (HK.out.trans q5)
    have Q8 := Lib.hid (q8 b2 v2 n2 xs2 HNE.out.symm K2.out HD.out)
    have Q4 := Lib.hid q4
    clear q1 q5 q8 q4
    go_wp2_with fail
    go_ret
    refine ⟨rfl, ⟨B1, B2, _, n', xs', v2, n2, xs2, Q1.out, Q8.out, by rw [HST.out]; show n' ≤ x.1 + 1; omega, by rw [HST.out]; show n2 ≤ x.1 + 1; omega, by rw [HST.out]; simpa using HZ.out, ?_⟩, Q5.out⟩
    cases hv2 : v2.ownBlock with
    | none => exact .inl rfl
    | some q =>
      right
      intro e
      rcases Q4.out q e.symm with h | h
      · rcases HD.out with hd | hd
        · rw [hv2] at hd; cases hd
        · exact hd (hv2.trans h)
      · have := (K2.out.own.lt q hv2).2
        omega
  · have b3 : (op == 3) = false := by simpa using h3
    clear h3
    by_cases h4 : op = 4
    · subst h4
      go_enter Tryd.func126, Tryd.ntmps126
      go_wp2_with fail
      refine (HP2.out).mono ?_
      rintro e w2 hp
      rw [← HWB.out] at hp
      obtain ⟨v', n', xs', rfl, q1, q2, q3, q4, q5, q6, q7, q8⟩ := K2.out.put hp B2 HSBB.out
      obtain ⟨g', cap', rfl, -, -⟩ := q1.own.form q2
      have Q1 := Lib.hid q1
      have Q5 := Lib.hid (HK.out.trans q5)
      have Q8 := Lib.hid (q8 b1 v1 n1 xs1 HNE.out K1.out (by
        rcases HD.out with h | h
        · cases hv1 : v1.ownBlock with
          | none => exact .inl rfl
          | some q => right; rw [h]; simp
        · exact .inr h.symm))
      have Q4 := Lib.hid q4
      clear q1 q5 q8 q4
      go_wp2_with fail
      go_ret
      refine ⟨rfl, ⟨B1, B2, v1, n1, xs1, _, n', xs', Q8.out, Q1.out, by rw [HST.out]; show n1 ≤ x.1 + 1; omega, by rw [HST.out]; show n' ≤ x.1 + 1; omega, by rw [HST.out]; simp; omega, ?_⟩, Q5.out⟩
      cases hv' : (Value.slice (some ⟨g', 0, none⟩) n' cap').ownBlock with
      | none => exact .inl rfl
      | some q =>
        right
        intro e
        rcases Q4.out q hv' with h | h
        · rcases HD.out with hd | hd
          · rw [hd] at h; cases h
          · exact hd (h.symm.trans e)
        · have := (K1.out.own.lt q e.symm).2
          omega
    · have b4 : (op == 4) = false := by simpa using h4
      have H4 := Lib.hid h4
      clear h4
      go_enter Tryd.func126, Tryd.ntmps126
      go_wp2_with fail
      go_ret
      rw [← HWB.out]
      exact ⟨rfl, ⟨B1, B2, v1, n1, xs1, v2, n2, xs2, K1.out, K2.out, by rw [HST.out]; show n1 ≤ x.1 + 1; omega, by rw [HST.out]; show n2 ≤ x.1 + 1; omega, by rw [HST.out]; simpa [H4.out] using HZ.out, HD.out⟩, HK.out⟩
/-- What Names leaves. -/
def NamesQ (t : Tm) (w : World) (e : Ending) (w' : World) : Prop := ∃ v1 A n2 c2, e = .returned (.tuple #[v1, .slice A n2 c2]) ∧ (n2 = 0 ↔ hasNext t = false) ∧ Below w.heap.size w w'

set_option maxRecDepth 100000 in
set_option maxHeartbeats 4000000 in
theorem names_any (t : Tm) (A : Option Addr) (c : Nat) (w : World) (hV : TmV w A c t) (hsz : t.size ≤ 9000000) :
    Calls Tryd.prog 107 #[t.val A c] w (NamesQ t w) := by
  obtain ⟨wb, hwb⟩ : ∃ wb, wb = ((w.alloc (.cells #[.int .i64 t.op, .int .i64 t.num, .string t.name, .slice A t.kids.length c] 26)).alloc (.cells #[.slice none 0 0] 45)).alloc (.cells #[.slice none 0 0] 45) := ⟨_, rfl⟩
  have hb1 : Below w.heap.size w wb := by rw [hwb]; exact (((Below.refl _ _).alloc (Nat.le_refl _) _).alloc (by simp) _).alloc (by simp; omega) _
  have own0 : ∀ W : World, W.ownsRow w.heap.size 9 1 (.slice none 0 0) 0 [] := fun W => ⟨rfl, .inl ⟨rfl, rfl⟩⟩
  have hr1 : Row1 (w.heap.size + 1) w.heap.size wb (.slice none 0 0) 0 [] := by
    refine ⟨?_, own0 _, fun v hv => by cases hv⟩
    rw [hwb, heap_alloc_old _ _ (by simp)]
    have h := heap_alloc_new (w.alloc (.cells #[.int .i64 t.op, .int .i64 t.num, .string t.name, .slice A t.kids.length c] 26)) (.cells #[.slice none 0 0] 45)
    rw [show (w.alloc (.cells #[.int .i64 t.op, .int .i64 t.num, .string t.name, .slice A t.kids.length c] 26)).heap.size = w.heap.size + 1 from by simp] at h
    exact h
  have hr2 : Row1 (w.heap.size + 2) w.heap.size wb (.slice none 0 0) 0 [] := by
    refine ⟨?_, own0 _, fun v hv => by cases hv⟩
    rw [hwb]
    have h := heap_alloc_new ((w.alloc (.cells #[.int .i64 t.op, .int .i64 t.num, .string t.name, .slice A t.kids.length c] 26)).alloc (.cells #[.slice none 0 0] 45)) (.cells #[.slice none 0 0] 45)
    rw [show ((w.alloc (.cells #[.int .i64 t.op, .int .i64 t.num, .string t.name, .slice A t.kids.length c] 26)).alloc (.cells #[.slice none 0 0] 45)).heap.size = w.heap.size + 2 from by simp] at h
    exact h
  have hI : NmInv (w.heap.size + 1) (w.heap.size + 2) w.heap.size (0, false) wb := ⟨by omega, by omega, _, 0, [], _, 0, [], hr1, hr2, Nat.le_refl _, Nat.le_refl _, by simp, .inl rfl⟩
  have V : Visitor 126 #[.pointer (some ⟨w.heap.size + 1, 0, none⟩), .pointer (some ⟨w.heap.size + 2, 0, none⟩)] w.heap.size w (NmInv (w.heap.size + 1) (w.heap.size + 2) w.heap.size) (NmInv (w.heap.size + 1) (w.heap.size + 2) w.heap.size) nmStep (fun x => 9000001 - x.1) :=
    { enter := fun args w => by kernel_rfl
      fin := fun s w h => h
      keep := fun s W W' h hb => by
        obtain ⟨B1, B2, v1, n1, xs1, v2, n2, xs2, r1, r2, h3⟩ := h
        exact ⟨B1, B2, v1, n1, xs1, v2, n2, xs2, r1.below hb, r2.below hb, h3⟩
      lose := fun s t d => by show 9000001 - s.1 ≤ 9000001 - (s.1 + 1) + 1; omega
      call := fun s t d A c W hI hbl hV hd hr => (names1_any _ _ _ (by omega) s t d A c W hI hbl.size (by omega)).mono fun e w2 ⟨h1, h2, h3⟩ => ⟨h1, ⟨h2, fun _ => h2⟩, h3⟩ }
  have hwalk := walk_any V rfl t.size t 1 A c (0, false) wb (Nat.le_refl _) (by omega) (by show t.size ≤ 9000001 - 0; omega) hV hI hb1
  have hnw := nm_walk t 1 (0, false)
  rw [hnw.1] at hwalk
  have HNW : Hid ((walkF nmStep t 1 (0, false)).1.2 = hasNext t) := by show _ = _; rw [hnw.2]; rfl
  rw [hwb] at hwalk
  have HWK := Lib.hid hwalk
  have HB1 := Lib.hid hb1
  have HWB := Lib.hid hwb
  obtain ⟨F, hF⟩ : ∃ F, F = NamesQ t w := ⟨_, rfl⟩
  rw [← hF]
  have HF := Lib.hid hF
  unfold Tm.val at HWK ⊢
  clear hb1 hr1 hr2 hI V hwalk hwb hV hsz hnw own0 hF
  go_enter Tryd.func107, Tryd.ntmps107
  go_wp2_with fail
  refine (HWK.out).mono ?_
  rintro e w1 ⟨rfl, hfin, ho⟩
  rw [← HWB.out] at ho
  obtain ⟨B1, B2, v1, n1, xs1, v2, n2, xs2, r1, r2, l1, l2, hz, hdis⟩ := hfin.1
  rw [HNW.out] at hz
  have hb2 := HB1.out.trans ho.below
  obtain ⟨a1, m1, c1, rfl⟩ : ∃ a m c, v1 = .slice a m c := by
    rcases r1.own.2 with ⟨h, _⟩ | ⟨g, cap, cur, h, _⟩
    · exact ⟨_, _, _, h⟩
    · exact ⟨_, _, _, h⟩
  obtain ⟨a2, c2, rfl⟩ : ∃ a c, v2 = .slice a n2 c := by
    rcases r2.own.2 with ⟨h, h0⟩ | ⟨g, cap, cur, h, _⟩
    · exact ⟨_, _, by rw [h, h0]⟩
    · exact ⟨_, _, h⟩
  have q1 := r1.cell
  have q2 := r2.cell
  have f1 := r1.frozen
  have f2 := r2.frozen
  have hlt1 := r1.lt
  have hlt2 := r2.lt
  have HB2 := Lib.hid hb2
  have HZ := Lib.hid hz
  clear hfin ho r1 r2 l1 l2 hz hdis hb2
  have q2' : w1.cell? ⟨w.heap.size + 1 + 1, 0, none⟩ = some (.slice a2 n2 c2) := q2
  have f2' : w1.frozen? ⟨w.heap.size + 1 + 1, 0, none⟩ = false := f2
  clear q2 f2
  go_wp2_with fail
  go_region
  obtain ⟨w3, hw3⟩ : ∃ w3, w3 = ((w1.setCell ⟨w.heap.size + 1, 0, none⟩ (.slice a1 m1 c1)).setCell ⟨w.heap.size + 1 + 1, 0, none⟩ (.slice a2 n2 c2)).drew := ⟨_, rfl⟩
  rw [← hw3]
  have z1 : w3.cell? ⟨w.heap.size + 1, 0, none⟩ = some (.slice a1 m1 c1) := by
    rw [hw3]; go_simp
  have z2 : w3.cell? ⟨w.heap.size + 1 + 1, 0, none⟩ = some (.slice a2 n2 c2) := by
    rw [hw3]; go_simp
  have hb3 : Below w.heap.size w w3 := by
    rw [hw3]
    exact ((HB2.out.setCell (p := ⟨w.heap.size + 1, 0, none⟩) (by simp) _).setCell (p := ⟨w.heap.size + 1 + 1, 0, none⟩) (by simp; omega) _).drew
  have HB3 := Lib.hid hb3
  clear hw3 hb3 q1 q2' f1 f2'
  go_wp2_with fail
  rw [HF.out]
  exact bodyPost_ret (v := .tuple #[.slice a1 m1 c1, .slice a2 n2 c2]) (by simp [results, Tryd.results107, go_sem, z1, z2]) rfl ⟨_, a2, n2, c2, rfl, HZ.out, HB3.out⟩
end Go.Proofs.YtcjblbpkjegmiaaDoor
