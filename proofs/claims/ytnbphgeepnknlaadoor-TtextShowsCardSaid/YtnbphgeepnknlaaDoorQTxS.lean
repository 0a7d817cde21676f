/- The law TtextShows: the text of a term, or its error, is the reference's. -/
import Derived.Test.YtnbphgeepnknlaaDoorQLvA
import Derived.Test.YtnbphgeepnknlaaDoorQManA
import Derived.Test.YtnbphgeepnknlaaDoorQRefF
namespace Go.Proofs.YtnbphgeepnknlaaDoor
open Go.RowKit
set_option linter.unusedVariables false

set_option maxRecDepth 100000 in
set_option maxHeartbeats 8000000 in
theorem ttextShows_any (t : Tm) (A : Option Addr) (c : Nat) (w : World) (hV : TmV w A c t) (hT : Tables w) :
    Calls Tryd.prog 3 #[t.val A c] w fun e w' => e = .returned (.bool true) ∧ Below w.heap.size w w' := by
  obtain ⟨F, hF⟩ : ∃ F : Ending → World → Prop, F = fun e w' => e = .returned (.bool true) ∧ Below w.heap.size w w' := ⟨_, rfl⟩
  rw [← hF]
  obtain ⟨n, hn⟩ : ∃ n, n = t.kids.length := ⟨_, rfl⟩
  obtain ⟨w1, hw1⟩ : ∃ w1, w1 = w.alloc (.cells #[.int .i64 t.op, .int .i64 t.num, .string t.name, .slice A n c] 24) := ⟨_, rfl⟩
  have hb1 : Below w.heap.size w w1 := by rw [hw1]; exact (Below.refl _ _).alloc (Nat.le_refl _) _
  have hs1 : w1.heap.size = w.heap.size + 1 := by rw [hw1]; simp
  have hbx : w1.heap[w.heap.size]? = some (.cells #[.int .i64 t.op, .int .i64 t.num, .string t.name, .slice A n c] 24 (0, 0)) := by rw [hw1]; exact heap_alloc_new w _
  have hval : t.val A c = .agg #[.int .i64 t.op, .int .i64 t.num, .string t.name, .slice A n c] := by unfold Tm.val; rw [hn]
  have hmany := rmany_any t.size t 300 A c w1 (Nat.le_refl _) (hV.below hb1 rfl) (by omega) (by omega)
  rw [hval] at hmany ⊢
  have HSW := Lib.hid (fun (W : World) (hb : Below w1.heap.size w1 W) (hsz : t.size ≤ 9000000) => by
    have h := tshow_any t A c W ((hV.below hb1 rfl).below hb rfl) hsz ((hT.below hb1).below hb).wordsT
    rw [hval] at h
    exact h)
  have HSR := Lib.hid (fun (W : World) (hb : Below w1.heap.size w1 W) (hsz : t.size ≤ 9000000) => by
    have h := rtshow_any t A c W ((hV.below hb1 rfl).below hb rfl) hsz
    rw [hval] at h
    exact h)
  have HLV := Lib.hid (fun (W : World) (hb : Below w1.heap.size w1 W) => lives31_any W ((hT.below hb1).below hb))
  have HM := Lib.hid hmany
  have HF := Lib.hid hF
  have HB1 := Lib.hid hb1
  have HW1 := Lib.hid hw1
  have HBX := Lib.hid hbx
  clear hF hn hw1 hb1 hbx hval hmany hV hT
  go_enter Tryd.func3, Tryd.ntmps3
  go_wp2_with fail
  rw [← HW1.out]
  obtain ⟨⟨y0, p0⟩, ⟨y1, p1⟩, ⟨y2, p2⟩, y3, p3⟩ := cells4 HBX.out
  try go_wp2_with fail
  refine (HM.out).mono ?_
  rintro e w2 ⟨⟨r, rfl, hr⟩, hb2⟩
  have hsz := hr.2.2.2
  have hs2 := hb2.size
  have HB2 := Lib.hid hb2
  clear hb2 HM hr y0 y1 y2 y3 p0 p1 p2 p3
  by_cases hgt : 300 < r
  · clear hsz
    go_wp2_with fail
    refine (HLV.out w2 HB2.out).mono ?_
    rintro e w9 ⟨rfl, hb9⟩
    have HB9 := Lib.hid (HB1.out.trans ((HB2.out.trans (hb9.mono hs2)).mono (by omega)))
    clear hb9
    go_wp2_with fail
    rw [HF.out]
    exact ⟨rfl, HB9.out⟩
  · have hsz2 : t.size ≤ 9000000 := by have := hsz (by omega); omega
    obtain ⟨⟨y0, p0⟩, ⟨y1, p1⟩, ⟨y2, p2⟩, y3, p3⟩ := cells4 ((HB2.out.block _ (by omega)).trans HBX.out)
    have HS1 := Lib.hid (HSW.out w2 HB2.out hsz2)
    clear hsz
    go_wp2_with fail
    refine (HS1.out).mono ?_
    rintro e w3 ⟨rfl, hb3⟩
    have HB3 := Lib.hid (HB2.out.trans (hb3.mono hs2))
    have hs3 := hb3.size
    have HS2 := Lib.hid (HSR.out w3 HB3.out hsz2)
    clear hb3 HS1 y0 y1 y2 y3 p0 p1 p2 p3
    obtain ⟨⟨y0, p0⟩, ⟨y1, p1⟩, ⟨y2, p2⟩, y3, p3⟩ := cells4 ((HB3.out.block _ (by omega)).trans HBX.out)
    obtain ⟨S, hS⟩ : ∃ S, S = showTm t := ⟨_, rfl⟩
    rw [← hS] at HS2
    rw [← hS]
    obtain ⟨s1, z1⟩ := S
    simp only at HS2 ⊢
    clear hS hsz2
    go_wp2_with fail
    refine (HS2.out).mono ?_
    rintro e w4 ⟨rfl, hb4⟩
    have HB4 := Lib.hid (HB3.out.trans (hb4.mono (by omega)))
    have hs4 := HB4.out.size
    have HL := Lib.hid (HLV.out w4 HB4.out)
    clear hb4 HS2 y0 y1 y2 y3 p0 p1 p2 p3
    go_wp2_with fail
    refine (HL.out).mono ?_
    rintro e w9 ⟨rfl, hb9⟩
    have HB9 := Lib.hid (HB1.out.trans ((HB4.out.trans (hb9.mono hs4)).mono (by omega)))
    clear hb9
    go_wp2_with fail
    rw [HF.out]
    exact ⟨rfl, HB9.out⟩
end Go.Proofs.YtnbphgeepnknlaaDoor
