/- The law TtextReads: Parse gives the term, or the offset and the error, that the reference gives. -/
import Derived.Test.YtnbphgeepnknlaaGreatDoorQLvA
import Derived.Test.YtnbphgeepnknlaaGreatDoorQSamA
import Derived.Test.YtnbphgeepnknlaaGreatDoorQRpTp
namespace Go.Proofs.YtnbphgeepnknlaaGreatDoor
open Go.RowKit
set_option linter.unusedVariables false

set_option maxRecDepth 100000 in
set_option maxHeartbeats 8000000 in
theorem ttextReads_any (s : ByteArray) (w : World) (hs : s.size ≤ maxLen) (hT : Tables w) :
 Calls Tryz.prog 3 #[.string s] w fun e w' => e = .returned (.bool true) ∧ Below w.heap.size w w' := by
 obtain ⟨F, hF⟩ : ∃ F : Ending → World → Prop, F = fun e w' => e = .returned (.bool true) ∧ Below w.heap.size w w' := ⟨_, rfl⟩
 rw [← hF]
 have HF := Lib.hid hF
 have HT := Lib.hid hT
 have HSM := Lib.hid hs
 unfold maxLen at hs
 clear hF hT
 by_cases hg : 3000 < s.size ∧ s.size ≤ 65536
 · have hg1 : (3000 : Int) < (s.size : Int) := by omega
   have hg2 : (s.size : Int) ≤ 65536 := by omega
   have HL := Lib.hid (lives31_any w HT.out)
   clear hg
   go_enter Tryz.func3, Tryz.ntmps3
   go_wp2_with fail
   refine (HL.out).mono ?_
   rintro e w1 ⟨rfl, hb⟩
   have HB := Lib.hid hb
   clear hb
   go_wp2_with fail
   rw [HF.out]
   exact ⟨rfl, HB.out⟩
 · have HG : Hid (¬ (3000 < s.size ∧ s.size ≤ 65536)) := hg
   have HP := Lib.hid (pparse_any s w HSM.out HT.out)
   have hgd : (decide ((3000 : Int) < (s.size : Int)) && decide ((s.size : Int) ≤ 65536)) = false := by
    cases h : (decide ((3000 : Int) < (s.size : Int)) && decide ((s.size : Int) ≤ 65536)) with
    | false => rfl
    | true => simp at h; omega
   obtain ⟨P, hP⟩ : ∃ P, P = parseT (bs s) := ⟨_, rfl⟩
   rw [← hP] at HP
   obtain ⟨t, at_, x⟩ := P
   have HQP := Lib.hid hP
   clear hP hg hgd
   go_enter Tryz.func3, Tryz.ntmps3
   by_cases h3 : (3000 : Int) < (s.size : Int)
   · have h65 : ¬ (s.size : Int) ≤ 65536 := by have := HG.out; omega
     go_wp2_with fail
     refine (HP.out).mono ?_
     rintro e w2 ⟨A1, c1, rfl, hV1, hb1⟩
     simp only at hV1 ⊢
     obtain ⟨n1, hn1⟩ : ∃ n, n = t.kids.length := ⟨_, rfl⟩
     have hval1 : t.val A1 c1 = .agg #[.int .i64 t.op, .int .i64 t.num, .string t.name, .slice A1 n1 c1] := by unfold Tm.val; rw [hn1]
     simp only [hval1]
     obtain ⟨b3, hb3⟩ : ∃ b, b = w2.heap.size := ⟨_, rfl⟩
     obtain ⟨w3, hw3⟩ : ∃ x, x = w2.alloc (.cells #[.int .i64 t.op, .int .i64 t.num, .string t.name, .slice A1 n1 c1] 25) := ⟨_, rfl⟩
     have hal : Below w2.heap.size w2 w3 := by rw [hw3]; exact (Below.refl _ _).alloc (Nat.le_refl _) _
     have X3 : Hid (w3.heap[b3]? = some (.cells #[.int .i64 t.op, .int .i64 t.num, .string t.name, .slice A1 n1 c1] 25 (0, 0))) := by show _ = _; rw [hw3, hb3]; exact heap_alloc_new w2 _
     have HB3 := Lib.hid (hb1.trans (hal.mono hb1.size))
     have HV3 : Hid (TmV w3 A1 c1 t) := (hV1.keep (KeepS.of_below hal) (fun _ _ h => h)).toV
     have Qw3 := Lib.hid hw3
     have Qb3 := Lib.hid hb3
     have HVAL := Lib.hid hval1
     have hl3 : b3 < w3.heap.size := lt_of_heap X3.out
     have HP2 := Lib.hid (rpparse_any s w3 HSM.out)
     rw [← HQP.out] at HP2
     clear hn1 hval1 hb3 hw3 hal hb1 hV1 HP
     go_wp2_with fail
     rw [← Qw3.out, ← Qb3.out]
     refine (HP2.out).mono ?_
     rintro e w4 ⟨A2, c2, rfl, hV2, hb2⟩
     simp only at hV2 ⊢
     obtain ⟨n2, hn2⟩ : ∃ n, n = t.kids.length := ⟨_, rfl⟩
     have hval2 : t.val A2 c2 = .agg #[.int .i64 t.op, .int .i64 t.num, .string t.name, .slice A2 n2 c2] := by unfold Tm.val; rw [hn2]
     simp only [hval2]
     obtain ⟨b5, hb5⟩ : ∃ b, b = w4.heap.size := ⟨_, rfl⟩
     obtain ⟨w5, hw5⟩ : ∃ x, x = w4.alloc (.cells #[.int .i64 t.op, .int .i64 t.num, .string t.name, .slice A2 n2 c2] 25) := ⟨_, rfl⟩
     have hal : Below w4.heap.size w4 w5 := by rw [hw5]; exact (Below.refl _ _).alloc (Nat.le_refl _) _
     have X5 : Hid (w5.heap[b5]? = some (.cells #[.int .i64 t.op, .int .i64 t.num, .string t.name, .slice A2 n2 c2] 25 (0, 0))) := by show _ = _; rw [hw5, hb5]; exact heap_alloc_new w4 _
     have X34 := Lib.hid ((hb2.block b3 hl3).trans X3.out)
     have HB5 := Lib.hid (HB3.out.trans ((hb2.mono HB3.out.size).trans (hal.mono (Nat.le_trans HB3.out.size hb2.size))))
     have HV5 : Hid (TmV w5 A2 c2 t) := (hV2.keep (KeepS.of_below hal) (fun _ _ h => h)).toV
     have HV35 : Hid (TmV w5 A1 c1 t) := (HV3.out.below hb2 rfl).below hal rfl
     have Qw5 := Lib.hid hw5
     have Qb5 := Lib.hid hb5
     have hl4 : b3 < w4.heap.size := lt_of_heap X34.out
     have hsame := rsame_any t.size t A1 c1 A2 c2 w5 (Nat.le_refl _) HV35.out HV5.out
     rw [HVAL.out, hval2] at hsame
     have HSA := Lib.hid hsame
     clear hn2 hval2 hb5 hw5 hal hb2 hV2 HP2 hsame
     obtain ⟨⟨y0, p0⟩, ⟨y1, p1⟩, ⟨y2, p2⟩, y3, p3⟩ := cells4 X34.out
     go_wp2_with fail
     rw [← Qw5.out]
     refine (HSA.out).mono ?_
     rintro e w6 ⟨rfl, hb6⟩
     have HB6 := Lib.hid (HB5.out.trans (hb6.mono HB5.out.size))
     have HL := Lib.hid (lives31_any w6 (HT.out.below HB6.out))
     clear hb6 HSA y0 y1 y2 y3 p0 p1 p2 p3
     go_wp2_with fail
     refine (HL.out).mono ?_
     rintro e w7 ⟨rfl, hb7⟩
     have HB7 := Lib.hid (HB6.out.trans (hb7.mono HB6.out.size))
     clear hb7
     go_wp2_with fail
     rw [HF.out]
     exact ⟨rfl, HB7.out⟩
   · go_wp2_with fail
     refine (HP.out).mono ?_
     rintro e w2 ⟨A1, c1, rfl, hV1, hb1⟩
     simp only at hV1 ⊢
     obtain ⟨n1, hn1⟩ : ∃ n, n = t.kids.length := ⟨_, rfl⟩
     have hval1 : t.val A1 c1 = .agg #[.int .i64 t.op, .int .i64 t.num, .string t.name, .slice A1 n1 c1] := by unfold Tm.val; rw [hn1]
     simp only [hval1]
     obtain ⟨b3, hb3⟩ : ∃ b, b = w2.heap.size := ⟨_, rfl⟩
     obtain ⟨w3, hw3⟩ : ∃ x, x = w2.alloc (.cells #[.int .i64 t.op, .int .i64 t.num, .string t.name, .slice A1 n1 c1] 25) := ⟨_, rfl⟩
     have hal : Below w2.heap.size w2 w3 := by rw [hw3]; exact (Below.refl _ _).alloc (Nat.le_refl _) _
     have X3 : Hid (w3.heap[b3]? = some (.cells #[.int .i64 t.op, .int .i64 t.num, .string t.name, .slice A1 n1 c1] 25 (0, 0))) := by show _ = _; rw [hw3, hb3]; exact heap_alloc_new w2 _
     have HB3 := Lib.hid (hb1.trans (hal.mono hb1.size))
     have HV3 : Hid (TmV w3 A1 c1 t) := (hV1.keep (KeepS.of_below hal) (fun _ _ h => h)).toV
     have Qw3 := Lib.hid hw3
     have Qb3 := Lib.hid hb3
     have HVAL := Lib.hid hval1
     have hl3 : b3 < w3.heap.size := lt_of_heap X3.out
     have HP2 := Lib.hid (rpparse_any s w3 HSM.out)
     rw [← HQP.out] at HP2
     clear hn1 hval1 hb3 hw3 hal hb1 hV1 HP
     go_wp2_with fail
     rw [← Qw3.out, ← Qb3.out]
     refine (HP2.out).mono ?_
     rintro e w4 ⟨A2, c2, rfl, hV2, hb2⟩
     simp only at hV2 ⊢
     obtain ⟨n2, hn2⟩ : ∃ n, n = t.kids.length := ⟨_, rfl⟩
     have hval2 : t.val A2 c2 = .agg #[.int .i64 t.op, .int .i64 t.num, .string t.name, .slice A2 n2 c2] := by unfold Tm.val; rw [hn2]
     simp only [hval2]
     obtain ⟨b5, hb5⟩ : ∃ b, b = w4.heap.size := ⟨_, rfl⟩
     obtain ⟨w5, hw5⟩ : ∃ x, x = w4.alloc (.cells #[.int .i64 t.op, .int .i64 t.num, .string t.name, .slice A2 n2 c2] 25) := ⟨_, rfl⟩
     have hal : Below w4.heap.size w4 w5 := by rw [hw5]; exact (Below.refl _ _).alloc (Nat.le_refl _) _
     have X5 : Hid (w5.heap[b5]? = some (.cells #[.int .i64 t.op, .int .i64 t.num, .string t.name, .slice A2 n2 c2] 25 (0, 0))) := by show _ = _; rw [hw5, hb5]; exact heap_alloc_new w4 _
     have X34 := Lib.hid ((hb2.block b3 hl3).trans X3.out)
     have HB5 := Lib.hid (HB3.out.trans ((hb2.mono HB3.out.size).trans (hal.mono (Nat.le_trans HB3.out.size hb2.size))))
     have HV5 : Hid (TmV w5 A2 c2 t) := (hV2.keep (KeepS.of_below hal) (fun _ _ h => h)).toV
     have HV35 : Hid (TmV w5 A1 c1 t) := (HV3.out.below hb2 rfl).below hal rfl
     have Qw5 := Lib.hid hw5
     have Qb5 := Lib.hid hb5
     have hl4 : b3 < w4.heap.size := lt_of_heap X34.out
     have hsame := rsame_any t.size t A1 c1 A2 c2 w5 (Nat.le_refl _) HV35.out HV5.out
     rw [HVAL.out, hval2] at hsame
     have HSA := Lib.hid hsame
     clear hn2 hval2 hb5 hw5 hal hb2 hV2 HP2 hsame
     obtain ⟨⟨y0, p0⟩, ⟨y1, p1⟩, ⟨y2, p2⟩, y3, p3⟩ := cells4 X34.out
     go_wp2_with fail
     rw [← Qw5.out]
     refine (HSA.out).mono ?_
     rintro e w6 ⟨rfl, hb6⟩
     have HB6 := Lib.hid (HB5.out.trans (hb6.mono HB5.out.size))
     have HL := Lib.hid (lives31_any w6 (HT.out.below HB6.out))
     clear hb6 HSA y0 y1 y2 y3 p0 p1 p2 p3
     go_wp2_with fail
     refine (HL.out).mono ?_
     rintro e w7 ⟨rfl, hb7⟩
     have HB7 := Lib.hid (HB6.out.trans (hb7.mono HB6.out.size))
     clear hb7
     go_wp2_with fail
     rw [HF.out]
     exact ⟨rfl, HB7.out⟩
end Go.Proofs.YtnbphgeepnknlaaGreatDoor
