/- Arguments that came in; few and Add over literals; text and back. -/
import Derived.Test.YtncdacafdfknnaaDoorCnt4
import Derived.Test.YtncdacafdfknnaaDoorCards
import Derived.Test.YtncdacafdfknnaaDoorTie
import Derived.ProofKit
import Derived.Lay
import Derived.SevenTiedAt
import Derived.LaidOnce
import Derived.Deep.Matrix
namespace Go.Proofs.YtncdacafdfknnaaDoor
open Go.ChangeShapes Go.WideShapes Go.ChangeAt Go.RowKit Go.Deep
set_option linter.unusedVariables false

theorem own : ownKnob Tryd.prog.godebug = none := by kernel_rfl
theorem laidOut : laidOutB Tryd.prog = true := by kernel_rfl

/-- Digits of a slice that came in. -/
structure SAt (w : World) (A : Option Addr) (m c : Nat) (l : List Nat) : Prop where
  len : m = l.length
  cap : m ≤ c
  capm : c ≤ maxLen
  dat : DAt w A .u32 l
  dig : Dig B32 l
theorem SAt.below {w w' : World} {A : Option Addr} {m c : Nat} {l : List Nat} (h : SAt w A m c l) {B : Nat} (hb : Below B w w') (hB : B = w.heap.size) : SAt w' A m c l := ⟨h.len, h.cap, h.capm, h.dat.belowB hb hB, h.dig⟩
theorem SAt.bat {w : World} {A : Option Addr} {m c : Nat} {l : List Nat} (h : SAt w A m c l) (hm : l.length ≤ 40) : BAt w A m c l := ⟨h.len, h.cap, h.capm, by have := h.len; omega, h.dat, h.dig⟩
theorem BAt.sat {w : World} {A : Option Addr} {m c : Nat} {l : List Nat} (h : BAt w A m c l) : SAt w A m c l := ⟨h.len, h.cap, h.capm, h.dat, h.dig⟩

theorem nats_cells (W : World) (T : TypeId) (L : List (Option Addr × Nat × Nat × List Nat)) (h : ∀ x ∈ L, SAt W x.1 x.2.1 x.2.2.1 x.2.2.2) :
    NatsAt (W.alloc (.cells (L.map fun x => Value.slice x.1 x.2.1 x.2.2.1).toArray T)) (some ⟨W.heap.size, 0, none⟩) (L.map fun x => x.2.2.2) := by
  refine .inr ⟨W.heap.size, 0, rfl, by simp, fun j l hj => ?_⟩
  rw [List.getElem?_map] at hj
  cases hx : L[j]? with
  | none => rw [hx] at hj; cases hj
  | some x =>
    rw [hx] at hj
    injection hj with hj
    subst hj
    have hs := h x (List.mem_of_getElem? hx)
    refine ⟨x.1, x.2.2.1, by rw [← hs.len]; exact hs.cap, hs.capm, ?_, hs.dat.belowB ((Below.refl W.heap.size W).alloc (Nat.le_refl _) _) rfl⟩
    rw [Nat.zero_add, cell_of_row _ W.heap.size j _ T (0, 0) (heap_alloc_new W _), ← hs.len]
    simp [hx]

theorem all1 {α : Type} {p : α → Prop} {a : α} (h1 : p a) : ∀ x ∈ [a], p x := List.forall_mem_cons.2 ⟨h1, fun _ h => by cases h⟩
theorem all2 {α : Type} {p : α → Prop} {a b : α} (h1 : p a) (h2 : p b) : ∀ x ∈ [a, b], p x := List.forall_mem_cons.2 ⟨h1, all1 h2⟩
theorem all3 {α : Type} {p : α → Prop} {a b c : α} (h1 : p a) (h2 : p b) (h3 : p c) : ∀ x ∈ [a, b, c], p x := List.forall_mem_cons.2 ⟨h1, all2 h2 h3⟩
theorem fewB_mem {ls : List (List Nat)} (h : fewB ls = true) : (∀ l ∈ ls, l.length ≤ 40) ∧ ls.length ≤ 20 := by
  unfold fewB at h
  rw [Bool.and_eq_true, List.all_eq_true] at h
  exact ⟨fun l hl => of_decide_eq_true (h.1 l hl), of_decide_eq_true h.2⟩

theorem few1 (A1 : Option Addr) (m1 c1 : Nat) (l1 : List Nat) (W : World) (h1 : SAt W A1 m1 c1 l1) :
    Calls Tryd.prog 7 #[.slice (some ⟨W.heap.size, 0, none⟩) 1 1] (W.alloc (.cells #[.slice A1 m1 c1] 23)) fun e w' => e = .returned (.bool (fewB [l1])) ∧ W.alloc (.cells #[.slice A1 m1 c1] 23) = w' :=
  few_any (some ⟨W.heap.size, 0, none⟩) 1 [l1] _ (show 1 ≤ maxLen by decide) (nats_cells W 23 [(A1, m1, c1, l1)] (all1 h1))
theorem few2 (A1 A2 : Option Addr) (m1 c1 m2 c2 : Nat) (l1 l2 : List Nat) (W : World) (h1 : SAt W A1 m1 c1 l1) (h2 : SAt W A2 m2 c2 l2) :
    Calls Tryd.prog 7 #[.slice (some ⟨W.heap.size, 0, none⟩) 2 2] (W.alloc (.cells #[.slice A1 m1 c1, .slice A2 m2 c2] 23)) fun e w' => e = .returned (.bool (fewB [l1, l2])) ∧ W.alloc (.cells #[.slice A1 m1 c1, .slice A2 m2 c2] 23) = w' :=
  few_any (some ⟨W.heap.size, 0, none⟩) 2 [l1, l2] _ (show 2 ≤ maxLen by decide) (nats_cells W 23 [(A1, m1, c1, l1), (A2, m2, c2, l2)] (all2 h1 h2))
theorem few3 (A1 A2 A3 : Option Addr) (m1 c1 m2 c2 m3 c3 : Nat) (l1 l2 l3 : List Nat) (W : World) (h1 : SAt W A1 m1 c1 l1) (h2 : SAt W A2 m2 c2 l2) (h3 : SAt W A3 m3 c3 l3) :
    Calls Tryd.prog 7 #[.slice (some ⟨W.heap.size, 0, none⟩) 3 3] (W.alloc (.cells #[.slice A1 m1 c1, .slice A2 m2 c2, .slice A3 m3 c3] 23)) fun e w' => e = .returned (.bool (fewB [l1, l2, l3])) ∧ W.alloc (.cells #[.slice A1 m1 c1, .slice A2 m2 c2, .slice A3 m3 c3] 23) = w' :=
  few_any (some ⟨W.heap.size, 0, none⟩) 3 [l1, l2, l3] _ (show 3 ≤ maxLen by decide) (nats_cells W 23 [(A1, m1, c1, l1), (A2, m2, c2, l2), (A3, m3, c3, l3)] (all3 h1 h2 h3))
theorem add2 (A1 A2 : Option Addr) (m1 c1 m2 c2 : Nat) (l1 l2 : List Nat) (W : World) (h1 : BAt W A1 m1 c1 l1) (h2 : BAt W A2 m2 c2 l2) (hm1 : m1 ≤ 800) (hm2 : m2 ≤ 800) :
    Calls Tryd.prog 27 #[.slice (some ⟨W.heap.size, 0, none⟩) 2 2] (W.alloc (.cells #[.slice A1 m1 c1, .slice A2 m2 c2] 23)) fun e w' => ∃ A m c, e = .returned (.slice A m c) ∧ BAt w' A m c (digs B32 (val B32 l1 + val B32 l2)) ∧ m ≤ m1 + m2 + 1 ∧ Below W.heap.size W w' := by
  have e1 := h1.len
  have e2 := h2.len
  have h := add_any (some ⟨W.heap.size, 0, none⟩) 2 [l1, l2] _ (by simp) (nats_cells W 23 [(A1, m1, c1, l1), (A2, m2, c2, l2)] (all2 h1.sat h2.sat)) (all2 (p := fun l : List Nat => Dig B32 l ∧ l.length ≤ 1000) ⟨h1.dig, by omega⟩ ⟨h2.dig, by omega⟩)
  have hs : sumV [l1, l2] = val B32 l1 + val B32 l2 := by simp [sumV]
  rw [hs] at h
  refine Calls.mono (P := Tryd.prog) h fun e w' ⟨A', c', he, hc, hc2, hd, hb⟩ => ?_
  have hlt : val B32 l1 + val B32 l2 < B32 ^ (max m1 m2 + 1) := by
    have k1 : val B32 l1 < B32 ^ max m1 m2 := lt_gen _ _ _ m1 (by decide) h1.lt (Nat.le_max_left _ _)
    have k2 : val B32 l2 < B32 ^ max m1 m2 := lt_gen _ _ _ m2 (by decide) h2.lt (Nat.le_max_right _ _)
    rw [Nat.pow_succ]
    generalize B32 ^ max m1 m2 = P at *
    show _ < P * 4294967296
    omega
  obtain ⟨k1, k2⟩ := bat_mk (N := max m1 m2 + 1) hd hlt (by omega) hc hc2
  exact ⟨A', _, _, he, k1, by omega, ((Below.refl W.heap.size W).alloc (Nat.le_refl _) _).trans (hb.mono (by simp))⟩

set_option maxRecDepth 100000 in
/-- A slice of digits that came in. -/
theorem open_nat {H : Type} {enc : TypeId × Value → H} {W : World} {base : Nat} {v : Value} {d : DataW H} {p : List MemPlace}
    (hv : Value.okWide Tryd.prog W .any base 23 v) (h : DataW.Trod enc Tryd.prog W 0 (fun _ => true) true 23 v d p) : ∃ A m c, ∃ l : List Nat, v = .slice A m c ∧ SAt W A m c l := by
  obtain ⟨A, len, cap, rfl⟩ := okWide_slice Tryd.underlying23 hv
  obtain ⟨fuel, hf⟩ := h
  rcases open_ints Tryd.underlying23 Tryd.underlying62 (by kernel_rfl) hf with ⟨hcs, -⟩ | ⟨a, len', cap', zs, hcs, _, hl, hm, hz, hx, hcell, hwz⟩
  · simp [Value.cells] at hcs
    obtain ⟨rfl, rfl, rfl⟩ := hcs
    exact ⟨none, 0, 0, [], rfl, rfl, Nat.le_refl _, Nat.zero_le _, .inl rfl, fun d hd => by cases hd⟩
  · simp [Value.cells] at hcs
    obtain ⟨rfl, rfl, rfl⟩ := hcs
    by_cases h0 : len = 0
    · subst h0
      exact ⟨some a, 0, cap, [], rfl, rfl, hl, hm, .inl rfl, fun d hd => by cases hd⟩
    · have hzl : len ≤ zs.length := by rw [hz]; split <;> omega
      obtain ⟨b, off, rfl, hc⟩ := ints_at hcell (by omega)
      have hlen : ((zs.take len).map Int.toNat).length = len := by simp; omega
      have hnz : ∀ z ∈ zs, 0 ≤ z ∧ z ≤ 4294967295 := fun z hz => by
        have hwf := hwz z hz
        simpa [Lit.wf, IntKind.min, IntKind.max, IntKind.signed, IntKind.bits] using hwf
      refine ⟨_, len, cap, (zs.take len).map Int.toNat, rfl, hlen.symm, hl, hm, .inr ⟨b, off, rfl, World.block_lt_of_cell? W _ (hc 0 (by omega)), fun j z hj => ?_⟩, fun d hd => ?_⟩
      · have hjl : j < len := by
          have := (List.getElem?_eq_some_iff.1 hj).1
          omega
        have hzj : zs[j]? = some zs[j] := List.getElem?_eq_getElem (by omega)
        have hb := hnz zs[j] (List.mem_of_getElem? hzj)
        rw [List.getElem?_map, List.getElem?_take, if_pos hjl, hzj] at hj
        simp at hj
        have hcj := hc j (by omega)
        rw [show zs.getD j 0 = zs[j] from by simp [List.getD, hzj]] at hcj
        rw [hcj]; congr 2; omega
      · obtain ⟨z, hz, rfl⟩ := List.mem_map.1 hd
        have := hnz z (List.mem_of_mem_take hz)
        show z.toNat < 4294967296
        omega

set_option maxRecDepth 100000 in
/-- A slice of slices of digits that came in. -/
theorem open_nats {H : Type} {enc : TypeId × Value → H} {W : World} {base : Nat} {v : Value} {d : DataW H} {p : List MemPlace}
    (hv : Value.okWide Tryd.prog W .any base 53 v) (h : DataW.Trod enc Tryd.prog W 0 (fun _ => true) true 53 v d p) : ∃ A m c, ∃ ls : List (List Nat), v = .slice A m c ∧ m = ls.length ∧ m ≤ maxLen ∧ NatsAt W A ls ∧ ∀ l ∈ ls, Dig B32 l := by
  obtain ⟨A, len, cap, rfl⟩ := okWide_slice Tryd.underlying53 hv
  obtain ⟨fuel, hf⟩ := h
  rcases open_int_rows Tryd.underlying53 Tryd.underlying23 Tryd.underlying62 (by kernel_rfl) (by kernel_rfl) hf with ⟨hcs, -⟩ | ⟨a, len', cap', A, L, C, Z, hcs, _, hl, hm, hx, hrow⟩
  · simp [Value.cells] at hcs
    obtain ⟨rfl, rfl, rfl⟩ := hcs
    exact ⟨none, 0, 0, [], rfl, rfl, Nat.zero_le _, .inl rfl, fun d hd => by cases hd⟩
  · simp [Value.cells] at hcs
    obtain ⟨rfl, rfl, rfl⟩ := hcs
    by_cases h0 : len = 0
    · subst h0
      exact ⟨some a, 0, cap, [], rfl, rfl, Nat.zero_le _, .inl rfl, fun d hd => by cases hd⟩
    · obtain ⟨b, off, spot⟩ := a
      have hspot : spot = none := by simpa [Addr.add] using World.cell?_spot (hrow 0 (by omega)).1
      subst hspot
      have hz0 : ∀ r, r < cap → ∀ z ∈ Z r, 0 ≤ z ∧ z ≤ 4294967295 := fun r hr z hz => by
        have hwf := (hrow r hr).2.2.2.2.1 z hz
        simpa [Lit.wf, IntKind.min, IntKind.max, IntKind.signed, IntKind.bits] using hwf
      refine ⟨_, len, cap, (List.range len).map fun r => ((Z r).take (L r)).map Int.toNat, rfl, by simp, by omega, .inr ⟨b, off, rfl, World.block_lt_of_cell? W _ (hrow 0 (by omega)).1, fun j l hj => ?_⟩, fun l hl => ?_⟩
      · rw [List.getElem?_map] at hj
        have hjl : j < len := by
          rcases Nat.lt_or_ge j len with h | h
          · exact h
          · rw [List.getElem?_eq_none (by simpa using h)] at hj; cases hj
        rw [List.getElem?_range hjl] at hj
        injection hj with hj
        subst hj
        show ∃ a c, (((Z j).take (L j)).map Int.toNat).length ≤ c ∧ c ≤ maxLen ∧ W.cell? ⟨b, off + j, none⟩ = some (.slice a (((Z j).take (L j)).map Int.toNat).length c) ∧ DAt W a .u32 (((Z j).take (L j)).map Int.toNat)
        obtain ⟨r1, r2, r3, r4, r5, r6, r7⟩ := hrow j (by omega)
        have hlen : (((Z j).take (L j)).map Int.toNat).length = L j := by rw [List.length_map, List.length_take]; omega
        rw [hlen]
        refine ⟨A j, C j, r2, r3, by rw [← Go.WideShapes.add_plain]; exact r1, ?_⟩
        by_cases hL : L j = 0
        · exact .inl (by rw [hL]; rfl)
        · cases hA : A j with
          | none => have := r6 hA; omega
          | some a' =>
            obtain ⟨b', off', spot'⟩ := a'
            have hcell := (r7 _ hA).2
            have hspot : spot' = none := by simpa [Addr.add] using World.cell?_spot (hcell 0 (by omega))
            subst hspot
            refine .inr ⟨b', off', rfl, World.block_lt_of_cell? W _ (hcell 0 (by omega)), fun i z hi => ?_⟩
            have hil : i < L j := by
              have := (List.getElem?_eq_some_iff.1 hi).1
              omega
            have hzi : (Z j)[i]? = some (Z j)[i] := List.getElem?_eq_getElem (by omega)
            have hb := hz0 j (by omega) _ (List.mem_of_getElem? hzi)
            rw [List.getElem?_map, List.getElem?_take, if_pos hil, hzi] at hi
            simp at hi
            have hcj := hcell i (by omega)
            rw [Go.WideShapes.add_plain, show (Z j).getD i 0 = (Z j)[i] from by simp [List.getD, hzi]] at hcj
            rw [hcj]; congr 2; omega
      · obtain ⟨r, hr, rfl⟩ := List.mem_map.1 hl
        intro d hd
        obtain ⟨z, hz, rfl⟩ := List.mem_map.1 hd
        have := hz0 r (by have := List.mem_range.1 hr; omega) z (List.mem_of_mem_take hz)
        show z.toNat < 4294967296
        omega
theorem bs_txt (l : List Nat) : bs (txt l) = l.map UInt8.ofNat := txt_list l
theorem back_text {x : Nat} (h : (digs 10 x).length ≤ 2000) : parseS (bs (decS x)) = (x, 0) := by
  by_cases hx : x = 0
  · subst hx; decide
  · have hlt : ∀ d ∈ digs 10 x, d < 10 := dig10 x
    have hne : digs 10 x ≠ [] := by rw [digs_pos (by decide) hx]; simp
    have hb : bs (decS x) = ((digs 10 x).reverse.map fun d => UInt8.ofNat (48 + d)) := by
      rw [decS_eq, if_neg hx, bs_txt, decL, List.map_map]
      rfl
    have hto : ∀ d, d < 10 → (UInt8.ofNat (48 + d)).toNat = 48 + d := fun d hd => by
      rw [UInt8.toNat_ofNat']
      omega
    have hnorm := norm_digs (b := 10) (by decide) x hne
    have hv := val10 x
    rw [hb]
    generalize digs 10 x = D at *
    have hdg : ∀ c ∈ D.reverse.map (fun d => UInt8.ofNat (48 + d)), isDg c = true := by
      intro c hc
      obtain ⟨d, hd, rfl⟩ := List.mem_map.1 hc
      have h1 := hlt d (List.mem_reverse.1 hd)
      unfold isDg
      rw [hto d h1]
      simp
      omega
    have hrv : revD (D.reverse.map fun d => UInt8.ofNat (48 + d)) = D := by
      unfold revD
      rw [← List.map_reverse, List.reverse_reverse, List.map_map]
      have : ∀ d ∈ D, ((fun c : UInt8 => c.toNat - 48) ∘ fun d => UInt8.ofNat (48 + d)) d = d := fun d hd => by
        show (UInt8.ofNat (48 + d)).toNat - 48 = d
        rw [hto d (hlt d hd)]
        omega
      rw [List.map_congr_left this]
      simp
    have hdv : decV (D.reverse.map fun d => UInt8.ofNat (48 + d)) = x := by
      rw [← val_revD _ _ rfl, hrv, hv]
    have hlen : (D.reverse.map fun d => UInt8.ofNat (48 + d)).length = D.length := by simp
    have hpos : 0 < D.length := List.length_pos_iff.2 hne
    unfold parseS
    rw [hlen, if_neg (by omega), if_neg, if_pos (List.all_eq_true.2 hdg), hdv]
    rintro (h | ⟨h, _⟩)
    · omega
    · have h0 : (D.reverse.map fun d => UInt8.ofNat (48 + d))[0]? = some (UInt8.ofNat (48 + D.getLast hne)) := by
        rw [List.getElem?_map, List.getElem?_reverse hpos, Nat.sub_zero, ← List.getLast?_eq_getElem?, List.getLast?_eq_some_getLast hne]
        rfl
      rw [h0] at h
      simp only [Option.map_some, Option.some.injEq] at h
      rw [hto _ (hlt _ (List.getLast_mem hne))] at h
      omega
end Go.Proofs.YtncdacafdfknnaaDoor
