/- The examples of the law's package voussoirlaw31: lives. -/
import Derived.Test.YtnbphgeepnknlaaGreatDoorQPrsV
import Derived.Test.YtnbphgeepnknlaaGreatDoorQTrmH
namespace Go.Proofs.YtnbphgeepnknlaaGreatDoor
open Go.RowKit
set_option linter.unusedVariables false

def exS : Bs := [97, 32, 43, 32, 50, 32, 42, 32, 98, 32, 60, 61, 32, 45, 51, 32, 45, 62, 32, 33, 99, 32, 38, 32, 110, 101, 120, 116, 40, 100, 41]
def exA : Tm := tmName 3 [97]
def exT : Tm := tmOf 8 [tmOf 13 [tmOf 14 [exA, tmOf 16 [tmNum 2, tmName 3 [98]]], tmNum (-3)], tmOf 6 [tmOf 5 [tmName 3 [99]], tmName 4 [100]]]
set_option maxRecDepth 100000 in
theorem ex31_parse : parseT exS = (exT, 31, 0) := by kernel_rfl
set_option maxRecDepth 100000 in
theorem ex31_bad : parseT [97, 32, 43, 32, 59] = (zeroTm, 4, 16) := by kernel_rfl
set_option maxRecDepth 100000 in
theorem ex31_show : showTm exT = (exS, 0) := by kernel_rfl
theorem ex_kids {S : Nat → Prop} {w : World} {A : Option Addr} {c : Nat} (h : TmVS S w A c exT) : ∃ g o, A = some ⟨g, o, none⟩ ∧ g < w.heap.size ∧ w.cell? ⟨g, o, none⟩ = some (.int .i64 13) ∧ w.cell? ⟨g, o + 4, none⟩ = some (.int .i64 6) := by
 rcases h.kids with h0 | ⟨g, o, hA, _, hg, h1, h2, -⟩
 · cases h0
 · obtain ⟨a, -⟩ := h1
   obtain ⟨b, -⟩ := h2
   exact ⟨g, o, hA, hg, a, b⟩
set_option maxRecDepth 100000 in
set_option maxHeartbeats 8000000 in
theorem lives31_any (w : World) (hT : Tables w) :
 Calls Tryz.prog 12 #[] w fun e w' => e = .returned (.bool true) ∧ Below w.heap.size w w' := by
 obtain ⟨F, hF⟩ : ∃ F : Ending → World → Prop, F = fun e w' => e = .returned (.bool true) ∧ Below w.heap.size w w' := ⟨_, rfl⟩
 rw [← hF]
 have hp : Calls Tryz.prog 13 #[.string ⟨#[97, 32, 43, 32, 50, 32, 42, 32, 98, 32, 60, 61, 32, 45, 51, 32, 45, 62, 32, 33, 99, 32, 38, 32, 110, 101, 120, 116, 40, 100, 41]⟩] w (PaQ w (exT, 31, 0)) := by
  have h := pparse_any ⟨#[97, 32, 43, 32, 50, 32, 42, 32, 98, 32, 60, 61, 32, 45, 51, 32, 45, 62, 32, 33, 99, 32, 38, 32, 110, 101, 120, 116, 40, 100, 41]⟩ w (by unfold maxLen; show 31 ≤ _; omega) hT
  rw [show parseT (bs ⟨#[97, 32, 43, 32, 50, 32, 42, 32, 98, 32, 60, 61, 32, 45, 51, 32, 45, 62, 32, 33, 99, 32, 38, 32, 110, 101, 120, 116, 40, 100, 41]⟩) = (exT, 31, 0) from ex31_parse] at h
  exact h
 have HF := Lib.hid hF
 have HP := Lib.hid hp
 have HT := Lib.hid hT
 clear hF hp hT
 go_enter Tryz.func12, Tryz.ntmps12
 go_wp2_with fail
 refine (HP.out).mono ?_
 rintro e w1 ⟨A', c', rfl, hV, hb1⟩
 have hv : exT.val A' c' = .agg #[.int .i64 8, .int .i64 0, .string ⟨#[]⟩, .slice A' 2 c'] := rfl
 simp only [hv]
 obtain ⟨g, o, rfl, hg, k0, k1⟩ := ex_kids hV
 have hs1 := hb1.size
 have hcc := hV.capm
 have hc2 : 2 ≤ c' := hV.cap
 unfold maxLen at hcc
 obtain ⟨b1, hb1n⟩ : ∃ b, b = w1.heap.size := ⟨_, rfl⟩
 obtain ⟨w2, hw2⟩ : ∃ w2, w2 = w1.alloc (.cells #[.int .i64 8, .int .i64 0, .string ⟨#[]⟩, .slice (some ⟨g, o, none⟩) 2 c'] 25) := ⟨_, rfl⟩
 have hbA : Below w1.heap.size w1 w2 := by rw [hw2]; exact (Below.refl _ _).alloc (Nat.le_refl _) _
 have hB2 : Below w.heap.size w w2 := hb1.trans (hbA.mono hs1)
 have hV2 : TmV w2 (some ⟨g, o, none⟩) c' exT := (hV.keep (KeepS.of_below hbA) (fun _ _ h => h)).toV
 have hsh := tshow_any exT (some ⟨g, o, none⟩) c' w2 hV2 (of_decide_eq_true (by kernel_rfl)) (HT.out.below hB2).wordsT
 rw [hv, ex31_show] at hsh
 have HSH : Hid (Calls Tryz.prog 30 #[.agg #[.int .i64 8, .int .i64 0, .string ⟨#[]⟩, .slice (some ⟨g, o, none⟩) 2 c']] w2 fun e w' => e = .returned (.tuple #[.string ⟨#[97, 32, 43, 32, 50, 32, 42, 32, 98, 32, 60, 61, 32, 45, 51, 32, 45, 62, 32, 33, 99, 32, 38, 32, 110, 101, 120, 116, 40, 100, 41]⟩, .int .i64 0]) ∧ Below w2.heap.size w2 w') := hsh
 have HW2 := Lib.hid hw2
 have HBN := Lib.hid hb1n
 have HB2 := Lib.hid hB2
 clear hV hv hb1 hw2 hb1n hbA hB2 hV2 hsh HP
 go_wp2_with fail
 rw [← HW2.out]
 refine (HSH.out).mono ?_
 rintro e w3 ⟨rfl, hb3⟩
 have hs2 := HB2.out.size
 have HB3 := Lib.hid (HB2.out.trans (hb3.mono hs2))
 have HP2 : Hid (Calls Tryz.prog 13 #[.string ⟨#[97, 32, 43, 32, 59]⟩] w3 (PaQ w3 (zeroTm, 4, 16))) := by
  have h := pparse_any ⟨#[97, 32, 43, 32, 59]⟩ w3 (by unfold maxLen; show 5 ≤ _; omega) (HT.out.below HB3.out)
  rw [show parseT (bs ⟨#[97, 32, 43, 32, 59]⟩) = (zeroTm, 4, 16) from ex31_bad] at h
  exact h
 clear hb3 HSH HW2 k0 k1
 go_wp2_with fail
 refine (HP2.out).mono ?_
 rintro e w4 ⟨A2, c2, rfl, -, hb4⟩
 have hv2 : zeroTm.val A2 c2 = .agg #[.int .i64 0, .int .i64 0, .string ⟨#[]⟩, .slice A2 0 c2] := rfl
 simp only [hv2]
 have HB4 := Lib.hid (HB3.out.trans (hb4.mono HB3.out.size))
 have hs4 := HB4.out.size
 clear hb4 hv2 HP2
 go_wp2_with fail
 rw [HF.out]
 exact ⟨rfl, HB4.out.alloc hs4 _⟩
end Go.Proofs.YtnbphgeepnknlaaGreatDoor
