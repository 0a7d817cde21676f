/- The law's package: the examples (law52.lives). -/
import Derived.Test.YtcjblbpkjegmiaaDoorTtrE
import Derived.Test.YtcjblbpkjegmiaaDoorTtrF
namespace Go.Proofs.YtcjblbpkjegmiaaDoor
open Go.RowKit
set_option linter.unusedVariables false

theorem strs_of_bs {w : World} {g : Nat} {L : List Bs} (h : RowT w g L) : StrsAt w (some ⟨g, 0, none⟩) (L.map fun x => ⟨x.toArray⟩) :=
  .inr ⟨g, 0, rfl, h.lt, fun j hj => by
    rw [List.length_map] at hj
    rw [Nat.zero_add, h.cell (List.getElem?_eq_getElem hj)]
    simp [List.getD, hj]⟩
theorem rows2_new (w : World) (T1 T2 : TypeId) (a b : List Int) (ha : ∀ z ∈ a, -9223372036854775808 ≤ z ∧ z ≤ 9223372036854775807) (hb : ∀ z ∈ b, -9223372036854775808 ≤ z ∧ z ≤ 9223372036854775807) (ham : a.length ≤ maxLen) (hbm : b.length ≤ maxLen) :
    RowsV (((w.alloc (.cells (a.map fun z => Value.int .i64 z).toArray T1)).alloc (.cells (b.map fun z => Value.int .i64 z).toArray T1)).alloc (.cells #[.slice (some ⟨w.heap.size, 0, none⟩) a.length a.length, .slice (some ⟨w.heap.size + 1, 0, none⟩) b.length b.length] T2)) (some ⟨w.heap.size + 2, 0, none⟩) 2 [a, b] := by
  obtain ⟨w1, hw1⟩ : ∃ w1, w1 = w.alloc (.cells (a.map fun z => Value.int .i64 z).toArray T1) := ⟨_, rfl⟩
  have h1 : IntsV w1 (some ⟨w.heap.size, 0, none⟩) a.length a := by rw [hw1]; exact intsV_new w T1 a ha ham
  have s1 : w1.heap.size = w.heap.size + 1 := by rw [hw1]; simp
  rw [← hw1]
  obtain ⟨w2, hw2⟩ : ∃ w2, w2 = w1.alloc (.cells (b.map fun z => Value.int .i64 z).toArray T1) := ⟨_, rfl⟩
  have h2 : IntsV w2 (some ⟨w.heap.size + 1, 0, none⟩) b.length b := by rw [hw2, ← s1]; exact intsV_new w1 T1 b hb hbm
  have s2 : w2.heap.size = w.heap.size + 2 := by rw [hw2]; simp [s1]
  have b2 : Below w1.heap.size w1 w2 := by rw [hw2]; exact (Below.refl _ w1).alloc (Nat.le_refl _) _
  have h12 := h1.below b2 rfl
  rw [← hw2]
  obtain ⟨w3, hw3⟩ : ∃ w3, w3 = w2.alloc (.cells #[.slice (some ⟨w.heap.size, 0, none⟩) a.length a.length, .slice (some ⟨w.heap.size + 1, 0, none⟩) b.length b.length] T2) := ⟨_, rfl⟩
  have b3 : Below w2.heap.size w2 w3 := by rw [hw3]; exact (Below.refl _ w2).alloc (Nat.le_refl _) _
  have h13 := h12.below b3 rfl
  have h23 := h2.below b3 rfl
  have hh := heap_alloc_new w2 (.cells #[.slice (some ⟨w.heap.size, 0, none⟩) a.length a.length, .slice (some ⟨w.heap.size + 1, 0, none⟩) b.length b.length] T2)
  rw [← hw3] at hh ⊢
  rw [← s2]
  refine ⟨by simp, by unfold maxLen; omega, .inr ⟨_, _, rfl, lt_of_heap hh, fun j z hj => ?_⟩⟩
  rw [cell_of_row _ w2.heap.size _ _ T2 (0, 0) hh]
  match j, hj with
  | 0, hj =>
    obtain rfl := Option.some.inj hj
    exact ⟨_, _, rfl, h13⟩
  | 1, hj =>
    obtain rfl := Option.some.inj hj
    exact ⟨_, _, rfl, h23⟩
theorem ex_wsize : exT.wsize ≤ 900000 := by decide
theorem ex_len : (rawT exV exT 0).length ≤ 1000000000 := by rw [ex_raw]; decide
set_option maxRecDepth 100000 in
set_option maxHeartbeats 8000000 in
theorem lives_any (w : World) (hT : WordsT w) :
    Calls Tryd.prog 11 #[] w fun e w' => e = .returned (.bool true) ∧ Below w.heap.size w w' := by
  obtain ⟨F, hF⟩ : ∃ F : Ending → World → Prop, F = fun e w' => e = .returned (.bool true) ∧ Below w.heap.size w w' := ⟨_, rfl⟩
  rw [← hF]
  have HF := Lib.hid hF
  have HT := Lib.hid hT
  clear hF hT
  obtain ⟨w1, hw1⟩ : ∃ w1, w1 = w.alloc (.cells #[.string ⟨#[110]⟩, .bool false, .int .i64 0, .int .i64 3, .string ⟨#[98]⟩, .bool true, .int .i64 0, .int .i64 0] 54) := ⟨_, rfl⟩
  have hV1 : VrsV w1 (some ⟨w.heap.size, 0, none⟩) 2 exV := by rw [hw1]; exact exV_new w _
  have hb1 : Below w.heap.size w w1 := by rw [hw1]; exact (Below.refl _ w).alloc (Nat.le_refl _) _
  have hs1 : w1.heap.size = w.heap.size + 1 := by rw [hw1]; simp
  obtain ⟨w2, hw2⟩ : ∃ w2, w2 = w1.alloc (.cells #[.int .i64 2, .int .i64 1] 3) := ⟨_, rfl⟩
  have hI2 : IntsV w2 (some ⟨w.heap.size + 1, 0, none⟩) 2 [2, 1] := by rw [hw2, ← hs1]; exact intsV_new w1 _ [2, 1] (by decide) (by unfold maxLen; show 2 ≤ _; omega)
  have hb12 : Below w1.heap.size w1 w2 := by rw [hw2]; exact (Below.refl _ w1).alloc (Nat.le_refl _) _
  have hV2 := hV1.below hb12 rfl
  have hb2 := hb1.trans (hb12.mono (by rw [hs1]; omega))
  have hS := state_any exV [2, 1] (some ⟨w.heap.size, 0, none⟩) (some ⟨w.heap.size + 1, 0, none⟩) 2 2 w2 ex_small hV2 hI2
  rw [ex_state] at hS
  have HS := Lib.hid hS
  have HV2 := Lib.hid hV2
  have HB2 := Lib.hid hb2
  have HW2 : Hid (w2 = (w.alloc (.cells #[.string ⟨#[110]⟩, .bool false, .int .i64 0, .int .i64 3, .string ⟨#[98]⟩, .bool true, .int .i64 0, .int .i64 0] 54)).alloc (.cells #[.int .i64 2, .int .i64 1] 3)) := by show _ = _; rw [hw2, hw1]
  clear hS hV2 hb2 hw2 hw1 hV1 hI2 hb1 hb12 hs1
  go_enter Tryd.func11, Tryd.ntmps11
  go_wp2_with fail
  rw [← HW2.out]
  refine HS.out.mono ?_
  rintro e w3 ⟨rfl, hb3⟩
  have hV3 := HV2.out.below hb3 rfl
  have hB3 := HB2.out.trans (hb3.mono HB2.out.size)
  clear HS HV2 hb3 HB2 HW2
  obtain ⟨w6, hw6⟩ : ∃ w6, w6 = ((w3.alloc (.cells #[.int .i64 0, .int .i64 0] 3)).alloc (.cells #[.int .i64 1, .int .i64 0] 3)).alloc (.cells #[.slice (some ⟨w3.heap.size, 0, none⟩) 2 2, .slice (some ⟨w3.heap.size + 1, 0, none⟩) 2 2] 23) := ⟨_, rfl⟩
  have hR6 : RowsV w6 (some ⟨w3.heap.size + 2, 0, none⟩) 2 [[0, 0], [1, 0]] := by rw [hw6]; exact rows2_new w3 _ _ [0, 0] [1, 0] (by decide) (by decide) (by unfold maxLen; show 2 ≤ _; omega) (by unfold maxLen; show 2 ≤ _; omega)
  have hb36 : Below w3.heap.size w3 w6 := by rw [hw6]; exact (((Below.refl _ w3).alloc (Nat.le_refl _) _).alloc (by simp) _).alloc (by simp; omega) _
  have hV6 := hV3.below hb36 rfl
  have hB6 := hB3.trans (hb36.mono hB3.size)
  have hL := lines_any exV [[0, 0], [1, 0]] 1 (some ⟨w.heap.size, 0, none⟩) (some ⟨w3.heap.size + 2, 0, none⟩) 2 2 w6 ex_small (by decide) hV6 hR6
  rw [ex_lines] at hL
  have HL := Lib.hid hL
  have HV6 := Lib.hid hV6
  have HB6 := Lib.hid hB6
  have HW6 := Lib.hid hw6
  clear hL hV3 hV6 hB6 hB3 hb36 hR6 hw6
  go_wp2_with fail
  rw [← HW6.out]
  refine HL.out.mono ?_
  rintro e w7 ⟨LA, lc, rfl, hlc, hlcm, hrow, hb7⟩
  have hV7 := HV6.out.below hb7 rfl
  have hB7 := HB6.out.trans (hb7.mono HB6.out.size)
  have HROW := Lib.hid hrow
  have HV7 := Lib.hid hV7
  have HB7 := Lib.hid hB7
  clear HL HV6 HB6 HW6 hrow hV7 hB7 hb7
  go_wp2_with fail
  refine (plain_any _ w7).mono ?_
  rintro e w8 ⟨rfl, hb8⟩
  have HV8 := Lib.hid (HV7.out.below hb8 rfl)
  have HB8 := Lib.hid (HB7.out.trans (hb8.mono HB7.out.size))
  have HT8 := Lib.hid (HT.out.below HB8.out)
  have HSH := Lib.hid (tshowtr_any exV exT (some ⟨w.heap.size, 0, none⟩) 2 exP w8 ex_small HV8.out (exT_v w8) HT8.out ex_wsize ex_len)
  rw [ex_show] at HSH
  have HB78 := Lib.hid hb8
  clear hb8
  go_wp2_with fail
  refine HSH.out.mono ?_
  rintro e w9 ⟨rfl, hb9⟩
  have HB9 := Lib.hid (HB8.out.trans (hb9.mono HB8.out.size))
  have HB79 := Lib.hid (HB78.out.trans (hb9.mono HB78.out.size))
  clear hb9 HSH HV7 HV8
  go_wp2_with fail
  obtain ⟨w10, hw10⟩ : ∃ w10, w10 = w9.alloc (.cells #[.string ⟨#[32, 32, 110, 61, 48, 32, 98, 61, 48]⟩, .string ⟨#[42, 32, 110, 61, 49, 32, 98, 61, 48]⟩] 9) := ⟨_, rfl⟩
  have hb90 : Below w9.heap.size w9 w10 := by rw [hw10]; exact (Below.refl _ w9).alloc (Nat.le_refl _) _
  have hnew : RowT w10 w9.heap.size [[32, 32, 110, 61, 48, 32, 98, 61, 48], [42, 32, 110, 61, 49, 32, 98, 61, 48]] := by rw [hw10]; exact heap_alloc_new w9 _
  have hA : StrsAt w10 LA [⟨#[32, 32, 110, 61, 48, 32, 98, 61, 48]⟩, ⟨#[42, 32, 110, 61, 49, 32, 98, 61, 48]⟩] := by
    rcases HROW.out with h | ⟨g, rfl, -, hr⟩
    · cases h
    · exact (strs_of_bs hr).belowB (HB79.out.trans (hb90.mono HB79.out.size)) rfl
  have HX := Lib.hid (texts_any LA (some ⟨w9.heap.size, 0, none⟩) lc 2 _ w10 (by decide) hA (strs_of_bs hnew))
  have HB10 := Lib.hid (HB9.out.trans (hb90.mono HB9.out.size))
  clear hA hnew hb90
  rw [← hw10]
  clear hw10
  refine HX.out.mono ?_
  rintro e w11 ⟨rfl, nd, hw11⟩
  rw [hw11]
  clear HX hw11
  go_wp2_with fail
  rw [HF.out]
  exact ⟨rfl, bdrewN HB10.out nd⟩
end Go.Proofs.YtcjblbpkjegmiaaDoor
