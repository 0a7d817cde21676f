/- The law TtextBack: a shown term parses back to itself; a parsed term can be shown and parsed again. -/
import Derived.Test.YtnbphgeepnknlaaDoorQLvA
import Derived.Test.YtnbphgeepnknlaaDoorQSamA
import Derived.Test.YtnbphgeepnknlaaDoorQParS
import Derived.Test.YtnbphgeepnknlaaDoorQRndT
namespace Go.Proofs.YtnbphgeepnknlaaDoor
open Go.RowKit
set_option linter.unusedVariables false

theorem show_len (t : Tm) : (showTm t).1.length ≤ 65536 := by
  unfold showTm
  split
  · exact Nat.zero_le _
  · split
    · exact Nat.zero_le _
    · split
      · exact Nat.zero_le _
      · show (shw numS t 0 true).length ≤ _; omega
theorem parsed_size {s : Bs} {t : Tm} {a : Int} (h : parseT s = (t, a, 0)) : t.size ≤ 4096 := by
  unfold parseT at h
  by_cases h1 : (all s).2.2 ≠ 0
  · rw [if_pos h1] at h
    simp only [Prod.mk.injEq] at h
    exact absurd h.2.2 h1
  rw [if_neg h1] at h
  simp only at h
  obtain ⟨l, hl⟩ : ∃ l, l = (all s).1 := ⟨_, rfl⟩
  rw [← hl] at h
  by_cases h2 : (takeT l 0).2.2 ≠ 0
  · rw [if_pos h2] at h
    simp only [Prod.mk.injEq] at h
    exact absurd h.2.2 h2
  rw [if_neg h2] at h
  by_cases h3 : (takeT l 0).2.1 < l.length
  · rw [if_pos h3] at h
    simp at h
  rw [if_neg h3] at h
  simp only [Prod.mk.injEq] at h
  obtain ⟨ht, -, -⟩ := h
  rw [← ht]
  unfold takeT
  split
  · show zeroTm.size ≤ 4096; decide
  · split
    · rename_i hc
      exact (check_ok hc).2
    · show zeroTm.size ≤ 4096; decide
set_option maxRecDepth 100000 in
set_option maxHeartbeats 16000000 in
theorem ttextBack_any (t : Tm) (A : Option Addr) (c : Nat) (s : ByteArray) (w : World) (hV : TmV w A c t) (hs : s.size ≤ maxLen) (hT : Tables w) :
    Calls Tryd.prog 4 #[t.val A c, .string s] w fun e w' => e = .returned (.bool true) ∧ Below w.heap.size w w' := by
  have hs' := hs
  unfold maxLen at hs'
  obtain ⟨F, hF⟩ : ∃ F : Ending → World → Prop, F = fun e w' => e = .returned (.bool true) ∧ Below w.heap.size w w' := ⟨_, rfl⟩
  rw [← hF]
  obtain ⟨n, hn⟩ : ∃ n, n = t.kids.length := ⟨_, rfl⟩
  obtain ⟨b1, hb1n⟩ : ∃ b1, b1 = w.heap.size := ⟨_, rfl⟩
  obtain ⟨w1, hw1⟩ : ∃ w1, w1 = w.alloc (.cells #[.int .i64 t.op, .int .i64 t.num, .string t.name, .slice A n c] 24) := ⟨_, rfl⟩
  have hb1 : Below w.heap.size w w1 := by rw [hw1]; exact (Below.refl _ _).alloc (Nat.le_refl _) _
  have hs1 : w1.heap.size = b1 + 1 := by rw [hw1, hb1n]; simp
  have hbx : w1.heap[b1]? = some (.cells #[.int .i64 t.op, .int .i64 t.num, .string t.name, .slice A n c] 24 (0, 0)) := by rw [hw1, hb1n]; exact heap_alloc_new w _
  have hval : t.val A c = .agg #[.int .i64 t.op, .int .i64 t.num, .string t.name, .slice A n c] := by unfold Tm.val; rw [hn]
  have hmany := rmany_any t.size t 300 A c w1 (Nat.le_refl _) (hV.below hb1 rfl) (by omega) (by omega)
  rw [hval] at hmany ⊢
  have HLV := Lib.hid (fun (W : World) (hb : Below w.heap.size w W) => lives31_any W (hT.below hb))
  have HT := Lib.hid hT
  have HV := Lib.hid hV
  have HVAL := Lib.hid hval
  have HM := Lib.hid hmany
  have HF := Lib.hid hF
  have HB1 := Lib.hid hb1
  have HW1 := Lib.hid hw1
  have HBX := Lib.hid hbx
  have HB1N := Lib.hid hb1n
  clear hF hn hw1 hb1 hbx hval hmany hV hT hb1n
  go_enter Tryd.func4, Tryd.ntmps4
  obtain ⟨⟨y0, p0⟩, ⟨y1, p1⟩, ⟨y2, p2⟩, y3, p3⟩ := cells4 HBX.out
  go_wp2_with fail
  rw [← HW1.out]
  try rw [← HB1N.out]
  try go_wp2_with fail
  refine (HM.out).mono ?_
  rintro e w2 ⟨⟨r, rfl, hr⟩, hb2⟩
  have hsz := hr.2.2.2
  have HB2 := Lib.hid (HB1.out.trans (hb2.mono HB1.out.size))
  have HBX2 := Lib.hid ((hb2.block b1 (by omega)).trans HBX.out)
  clear hb2 HM hr y0 y1 y2 y3 p0 p1 p2 p3
  by_cases hgt : 300 < r
  · clear hsz
    have HLV2 := Lib.hid (HLV.out w2 HB2.out)
    go_wp2_with fail
    refine (HLV2.out).mono ?_
    rintro e w99 ⟨rfl, hb99⟩
    have HB99 := Lib.hid (HB2.out.trans (hb99.mono HB2.out.size))
    clear hb99 HLV2
    go_wp2_with fail
    rw [HF.out]
    exact ⟨rfl, HB99.out⟩
  by_cases hlong : 2000 < s.size
  · clear hsz
    have hl2 : (2000 : Int) < (s.size : Int) := by omega
    have HLV2 := Lib.hid (HLV.out w2 HB2.out)
    go_wp2_with fail
    refine (HLV2.out).mono ?_
    rintro e w99 ⟨rfl, hb99⟩
    have HB99 := Lib.hid (HB2.out.trans (hb99.mono HB2.out.size))
    clear hb99 HLV2
    go_wp2_with fail
    rw [HF.out]
    exact ⟨rfl, HB99.out⟩
  have hl2 : ¬ (2000 : Int) < (s.size : Int) := by omega
  have hsz2 : t.size ≤ 300 := by have := hsz (by omega); omega
  have hsl := show_len t
  have HSH := Lib.hid (tshow_any t A c w2 (HV.out.below HB2.out rfl) (by omega) (HT.out.below HB2.out).wordsT)
  rw [HVAL.out] at HSH
  have hback := parse_show (t := t)
  obtain ⟨S1, hq⟩ : ∃ S, S = showTm t := ⟨_, rfl⟩
  rw [← hq] at hback hsl HSH
  obtain ⟨s1, z1⟩ := S1
  simp only at hback hsl HSH
  obtain ⟨⟨y0, p0⟩, ⟨y1, p1⟩, ⟨y2, p2⟩, y3, p3⟩ := cells4 HBX2.out
  clear hsz hq
  go_wp2_with fail
  refine (HSH.out).mono ?_
  rintro e w3 ⟨rfl, hb3⟩
  have hb1l : b1 < w2.heap.size := lt_of_heap HBX2.out
  have HB3 := Lib.hid (HB2.out.trans (hb3.mono HB2.out.size))
  have HBX3 := Lib.hid ((hb3.block b1 hb1l).trans HBX2.out)
  clear hb3 HSH y0 y1 y2 y3 p0 p1 p2 p3
  by_cases hz : z1 = 0
  · have hbk := hback hz
    subst hz
    have HPB := Lib.hid (pparse_any ⟨s1.toArray⟩ w3 (by unfold maxLen; show s1.toArray.size ≤ _; simp; omega) (HT.out.below HB3.out))
    rw [show parseT (bs ⟨s1.toArray⟩) = (t, (s1.length : Int), 0) from hbk] at HPB
    clear hback hbk
    have hsz1 : (⟨s1.toArray⟩ : ByteArray).size = s1.length := by show s1.toArray.size = _; simp
    obtain ⟨st, hst⟩ : ∃ st : ByteArray, st = ⟨s1.toArray⟩ := ⟨_, rfl⟩
    rw [← hst] at HPB hsz1 ⊢
    have HST := Lib.hid hst
    have HSZ1 := Lib.hid hsz1
    have hszI : ((st.size : Nat) : Int) = (s1.length : Int) := by omega
    clear hst hsz1
    go_wp2_with fail
    refine (HPB.out).mono ?_
    rintro e w4 ⟨Y, cy, rfl, hVy, hb4⟩
    have hb1l3 : b1 < w3.heap.size := lt_of_heap HBX3.out
    have HB4 := Lib.hid (HB3.out.trans (hb4.mono HB3.out.size))
    have HBX4 := Lib.hid ((hb4.block b1 hb1l3).trans HBX3.out)
    have HVy := Lib.hid hVy.toV
    obtain ⟨ny, hny⟩ : ∃ ny, ny = t.kids.length := ⟨_, rfl⟩
    have hvy : t.val Y cy = .agg #[.int .i64 t.op, .int .i64 t.num, .string t.name, .slice Y ny cy] := by unfold Tm.val; rw [hny]
    simp only [hvy]
    obtain ⟨by_, hby⟩ : ∃ by_, by_ = w4.heap.size := ⟨_, rfl⟩
    obtain ⟨w5, hw5⟩ : ∃ w5, w5 = w4.alloc (.cells #[.int .i64 t.op, .int .i64 t.num, .string t.name, .slice Y ny cy] 24) := ⟨_, rfl⟩
    have hb5 : Below w4.heap.size w4 w5 := by rw [hw5]; exact (Below.refl _ _).alloc (Nat.le_refl _) _
    have HYB : Hid (w5.heap[by_]? = some (.cells #[.int .i64 t.op, .int .i64 t.num, .string t.name, .slice Y ny cy] 24 (0, 0))) := by show _ = _; rw [hw5, hby]; exact heap_alloc_new w4 _
    have hb1l4 : b1 < w4.heap.size := lt_of_heap HBX4.out
    have HBX5 := Lib.hid ((hb5.block b1 hb1l4).trans HBX4.out)
    have HB5 := Lib.hid (HB4.out.trans (hb5.mono HB4.out.size))
    have HSM : Hid (Calls Tryd.prog 10 #[.agg #[.int .i64 t.op, .int .i64 t.num, .string t.name, .slice Y ny cy], .agg #[.int .i64 t.op, .int .i64 t.num, .string t.name, .slice A n c]] w5 fun e w' => e = .returned (.bool true) ∧ Below w5.heap.size w5 w') := by
      have h := rsame_any t.size t Y cy A c w5 (Nat.le_refl _) (HVy.out.below hb5 rfl) (HV.out.below HB5.out rfl)
      rw [hvy, HVAL.out] at h
      exact h
    have HW5 := Lib.hid hw5
    have HBYN := Lib.hid hby
    clear hw5 hb5 hby hvy hny hVy hb4 HPB
    obtain ⟨⟨y0, p0⟩, ⟨y1, p1⟩, ⟨y2, p2⟩, y3, p3⟩ := cells4 HBX5.out
    obtain ⟨⟨v0, z0⟩, ⟨v1, z1⟩, ⟨v2, z2⟩, v3, z3⟩ := cells4 HYB.out
    obtain ⟨⟨q0, -⟩, ⟨q1, -⟩, ⟨q2, -⟩, q3, -⟩ := cells4 HBX4.out
    have hb1l5 : b1 < w5.heap.size := lt_of_heap HBX5.out
    have hbyl5 : by_ < w5.heap.size := lt_of_heap HYB.out
    go_wp2_with fail
    try rw [← HW5.out, ← HBYN.out]
    try go_wp2_with fail
    refine (HSM.out).mono ?_
    rintro e w6 ⟨rfl, hb6⟩
    have HB6 := Lib.hid (HB5.out.trans (hb6.mono HB5.out.size))
    clear hb6 HSM y0 y1 y2 y3 p0 p1 p2 p3 v0 v1 v2 v3 z0 z1 z2 z3 q0 q1 q2 q3
    have HPS := Lib.hid (pparse_any s w6 hs (HT.out.below HB6.out))
    go_wp2_with fail
    refine (HPS.out).mono ?_
    rintro e u1 ⟨X, cx, rfl, hVx, hbu1⟩
    obtain ⟨P, hP⟩ : ∃ P, P = parseT (bs s) := ⟨_, rfl⟩
    rw [← hP] at hVx
    simp only [← hP]
    obtain ⟨x, ax, ex⟩ := P
    simp only at hVx ⊢
    have HU1 := Lib.hid (HB6.out.trans (hbu1.mono HB6.out.size))
    have HVx := Lib.hid hVx
    have HP := Lib.hid hP
    clear hbu1 hVx hP HPS
    obtain ⟨nx, hnx⟩ : ∃ nx, nx = x.kids.length := ⟨_, rfl⟩
    have hvx : x.val X cx = .agg #[.int .i64 x.op, .int .i64 x.num, .string x.name, .slice X nx cx] := by unfold Tm.val; rw [hnx]
    simp only [hvx]
    obtain ⟨bx, hbx⟩ : ∃ bx, bx = u1.heap.size := ⟨_, rfl⟩
    obtain ⟨u2, hu2⟩ : ∃ u2, u2 = u1.alloc (.cells #[.int .i64 x.op, .int .i64 x.num, .string x.name, .slice X nx cx] 24) := ⟨_, rfl⟩
    have hbu2 : Below u1.heap.size u1 u2 := by rw [hu2]; exact (Below.refl _ _).alloc (Nat.le_refl _) _
    have HXB : Hid (u2.heap[bx]? = some (.cells #[.int .i64 x.op, .int .i64 x.num, .string x.name, .slice X nx cx] 24 (0, 0))) := by show _ = _; rw [hu2, hbx]; exact heap_alloc_new u1 _
    have HU2 := Lib.hid (HU1.out.trans (hbu2.mono HU1.out.size))
    have HVx2 : Hid (TmV u2 X cx x) := HVx.out.toV.below hbu2 rfl
    have HW2 := Lib.hid hu2
    have HBXN := Lib.hid hbx
    have HVXQ := Lib.hid hvx
    have hbxl : bx < u2.heap.size := lt_of_heap HXB.out
    clear hu2 hbu2 hvx hnx hbx
    by_cases hex : ex = 0
    · subst hex
      have hsh : (showTm x).2 = 0 := parsed_show (by rw [bs_length]; omega) HP.out.symm
      have hback := parse_show hsh
      have hsl := show_len x
      have hxs := parsed_size HP.out.symm
      have HS2 := Lib.hid (tshow_any x X cx u2 HVx2.out (by omega) (HT.out.below HU2.out).wordsT)
      obtain ⟨S2, hq⟩ : ∃ S, S = showTm x := ⟨_, rfl⟩
      rw [← hq] at hsh hback hsl HS2
      obtain ⟨s2, z2⟩ := S2
      simp only at hsh hback hsl HS2
      subst hsh
      rw [HVXQ.out] at HS2
      obtain ⟨⟨y0, p0⟩, ⟨y1, p1⟩, ⟨y2, p2⟩, y3, p3⟩ := cells4 HXB.out
      clear hq hxs
      go_wp2_with fail
      rw [← HW2.out, ← HBXN.out]
      try go_wp2_with fail
      refine (HS2.out).mono ?_
      rintro e u3 ⟨rfl, hbu3⟩
      have HU3 := Lib.hid (HU2.out.trans (hbu3.mono HU2.out.size))
      have HXB3 := Lib.hid ((hbu3.block bx hbxl).trans HXB.out)
      have HVx3 : Hid (TmV u3 X cx x) := HVx2.out.below hbu3 rfl
      clear hbu3 HS2 y0 y1 y2 y3 p0 p1 p2 p3
      have HPB := Lib.hid (pparse_any ⟨s2.toArray⟩ u3 (by unfold maxLen; show s2.toArray.size ≤ _; simp; omega) (HT.out.below HU3.out))
      rw [show parseT (bs ⟨s2.toArray⟩) = (x, (s2.length : Int), 0) from hback] at HPB
      clear hback
      go_wp2_with fail
      refine (HPB.out).mono ?_
      rintro e u4 ⟨Y, cy, rfl, hVy, hbu4⟩
      have hbxl3 : bx < u3.heap.size := lt_of_heap HXB3.out
      have HU4 := Lib.hid (HU3.out.trans (hbu4.mono HU3.out.size))
      have HXB4 := Lib.hid ((hbu4.block bx hbxl3).trans HXB3.out)
      have HVx4 : Hid (TmV u4 X cx x) := HVx3.out.below hbu4 rfl
      have HVy := Lib.hid hVy.toV
      obtain ⟨ny, hny⟩ : ∃ ny, ny = x.kids.length := ⟨_, rfl⟩
      have hvy : x.val Y cy = .agg #[.int .i64 x.op, .int .i64 x.num, .string x.name, .slice Y ny cy] := by unfold Tm.val; rw [hny]
      simp only [hvy]
      obtain ⟨by_, hby⟩ : ∃ by_, by_ = u4.heap.size := ⟨_, rfl⟩
      obtain ⟨u5, hu5⟩ : ∃ u5, u5 = u4.alloc (.cells #[.int .i64 x.op, .int .i64 x.num, .string x.name, .slice Y ny cy] 24) := ⟨_, rfl⟩
      have hbu5 : Below u4.heap.size u4 u5 := by rw [hu5]; exact (Below.refl _ _).alloc (Nat.le_refl _) _
      have HYB : Hid (u5.heap[by_]? = some (.cells #[.int .i64 x.op, .int .i64 x.num, .string x.name, .slice Y ny cy] 24 (0, 0))) := by show _ = _; rw [hu5, hby]; exact heap_alloc_new u4 _
      have hbxl4 : bx < u4.heap.size := lt_of_heap HXB4.out
      have HXB5 := Lib.hid ((hbu5.block bx hbxl4).trans HXB4.out)
      have HU5 := Lib.hid (HU4.out.trans (hbu5.mono HU4.out.size))
      have HSM : Hid (Calls Tryd.prog 10 #[.agg #[.int .i64 x.op, .int .i64 x.num, .string x.name, .slice Y ny cy], .agg #[.int .i64 x.op, .int .i64 x.num, .string x.name, .slice X nx cx]] u5 fun e w' => e = .returned (.bool true) ∧ Below u5.heap.size u5 w') := by
        have h := rsame_any x.size x Y cy X cx u5 (Nat.le_refl _) (HVy.out.below hbu5 rfl) (HVx4.out.below hbu5 rfl)
        rw [hvy, HVXQ.out] at h
        exact h
      have HW5 := Lib.hid hu5
      have HBYN := Lib.hid hby
      clear hu5 hbu5 hby hvy hny hVy hbu4 HPB
      obtain ⟨⟨y0, p0⟩, ⟨y1, p1⟩, ⟨y2, p2⟩, y3, p3⟩ := cells4 HXB5.out
      obtain ⟨⟨v0, z0⟩, ⟨v1, z1⟩, ⟨v2, z2⟩, v3, z3⟩ := cells4 HYB.out
      have hbxl5 : bx < u5.heap.size := lt_of_heap HXB5.out
      have hbyl5 : by_ < u5.heap.size := lt_of_heap HYB.out
      obtain ⟨⟨q0, -⟩, ⟨q1, -⟩, ⟨q2, -⟩, q3, -⟩ := cells4 HXB4.out
      go_wp2_with fail
      try rw [← HW5.out, ← HBYN.out]
      try go_wp2_with fail
      refine (HSM.out).mono ?_
      rintro e u6 ⟨rfl, hbu6⟩
      have HU6 := Lib.hid (HU5.out.trans (hbu6.mono HU5.out.size))
      clear hbu6 HSM y0 y1 y2 y3 p0 p1 p2 p3 v0 v1 v2 v3 z0 z1 z2 z3 q0 q1 q2 q3
      have HLV2 := Lib.hid (HLV.out u6 HU6.out)
      go_wp2_with fail
      refine (HLV2.out).mono ?_
      rintro e w99 ⟨rfl, hb99⟩
      have HB99 := Lib.hid (HU6.out.trans (hb99.mono HU6.out.size))
      clear hb99 HLV2
      go_wp2_with fail
      rw [HF.out]
      exact ⟨rfl, HB99.out⟩
    · have hexb : (ex != 0) = true := by simpa using hex
      obtain ⟨⟨y0, p0⟩, ⟨y1, p1⟩, ⟨y2, p2⟩, y3, p3⟩ := cells4 HXB.out
      go_wp2_with fail
      try rw [← HW2.out]
      clear y0 y1 y2 y3 p0 p1 p2 p3
      have HLV2 := Lib.hid (HLV.out u2 HU2.out)
      go_wp2_with fail
      refine (HLV2.out).mono ?_
      rintro e w99 ⟨rfl, hb99⟩
      have HB99 := Lib.hid (HU2.out.trans (hb99.mono HU2.out.size))
      clear hb99 HLV2
      go_wp2_with fail
      rw [HF.out]
      exact ⟨rfl, HB99.out⟩
  · clear hback
    have HPS := Lib.hid (pparse_any s w3 hs (HT.out.below HB3.out))
    go_wp2_with fail
    refine (HPS.out).mono ?_
    rintro e u1 ⟨X, cx, rfl, hVx, hbu1⟩
    obtain ⟨P, hP⟩ : ∃ P, P = parseT (bs s) := ⟨_, rfl⟩
    rw [← hP] at hVx
    simp only [← hP]
    obtain ⟨x, ax, ex⟩ := P
    simp only at hVx ⊢
    have HU1 := Lib.hid (HB3.out.trans (hbu1.mono HB3.out.size))
    have HVx := Lib.hid hVx
    have HP := Lib.hid hP
    clear hbu1 hVx hP HPS
    obtain ⟨nx, hnx⟩ : ∃ nx, nx = x.kids.length := ⟨_, rfl⟩
    have hvx : x.val X cx = .agg #[.int .i64 x.op, .int .i64 x.num, .string x.name, .slice X nx cx] := by unfold Tm.val; rw [hnx]
    simp only [hvx]
    obtain ⟨bx, hbx⟩ : ∃ bx, bx = u1.heap.size := ⟨_, rfl⟩
    obtain ⟨u2, hu2⟩ : ∃ u2, u2 = u1.alloc (.cells #[.int .i64 x.op, .int .i64 x.num, .string x.name, .slice X nx cx] 24) := ⟨_, rfl⟩
    have hbu2 : Below u1.heap.size u1 u2 := by rw [hu2]; exact (Below.refl _ _).alloc (Nat.le_refl _) _
    have HXB : Hid (u2.heap[bx]? = some (.cells #[.int .i64 x.op, .int .i64 x.num, .string x.name, .slice X nx cx] 24 (0, 0))) := by show _ = _; rw [hu2, hbx]; exact heap_alloc_new u1 _
    have HU2 := Lib.hid (HU1.out.trans (hbu2.mono HU1.out.size))
    have HVx2 : Hid (TmV u2 X cx x) := HVx.out.toV.below hbu2 rfl
    have HW2 := Lib.hid hu2
    have HBXN := Lib.hid hbx
    have HVXQ := Lib.hid hvx
    have hbxl : bx < u2.heap.size := lt_of_heap HXB.out
    clear hu2 hbu2 hvx hnx hbx
    by_cases hex : ex = 0
    · subst hex
      have hsh : (showTm x).2 = 0 := parsed_show (by rw [bs_length]; omega) HP.out.symm
      have hback := parse_show hsh
      have hsl := show_len x
      have hxs := parsed_size HP.out.symm
      have HS2 := Lib.hid (tshow_any x X cx u2 HVx2.out (by omega) (HT.out.below HU2.out).wordsT)
      obtain ⟨S2, hq⟩ : ∃ S, S = showTm x := ⟨_, rfl⟩
      rw [← hq] at hsh hback hsl HS2
      obtain ⟨s2, z2⟩ := S2
      simp only at hsh hback hsl HS2
      subst hsh
      rw [HVXQ.out] at HS2
      obtain ⟨⟨y0, p0⟩, ⟨y1, p1⟩, ⟨y2, p2⟩, y3, p3⟩ := cells4 HXB.out
      clear hq hxs
      go_wp2_with fail
      rw [← HW2.out, ← HBXN.out]
      try go_wp2_with fail
      refine (HS2.out).mono ?_
      rintro e u3 ⟨rfl, hbu3⟩
      have HU3 := Lib.hid (HU2.out.trans (hbu3.mono HU2.out.size))
      have HXB3 := Lib.hid ((hbu3.block bx hbxl).trans HXB.out)
      have HVx3 : Hid (TmV u3 X cx x) := HVx2.out.below hbu3 rfl
      clear hbu3 HS2 y0 y1 y2 y3 p0 p1 p2 p3
      have HPB := Lib.hid (pparse_any ⟨s2.toArray⟩ u3 (by unfold maxLen; show s2.toArray.size ≤ _; simp; omega) (HT.out.below HU3.out))
      rw [show parseT (bs ⟨s2.toArray⟩) = (x, (s2.length : Int), 0) from hback] at HPB
      clear hback
      go_wp2_with fail
      refine (HPB.out).mono ?_
      rintro e u4 ⟨Y, cy, rfl, hVy, hbu4⟩
      have hbxl3 : bx < u3.heap.size := lt_of_heap HXB3.out
      have HU4 := Lib.hid (HU3.out.trans (hbu4.mono HU3.out.size))
      have HXB4 := Lib.hid ((hbu4.block bx hbxl3).trans HXB3.out)
      have HVx4 : Hid (TmV u4 X cx x) := HVx3.out.below hbu4 rfl
      have HVy := Lib.hid hVy.toV
      obtain ⟨ny, hny⟩ : ∃ ny, ny = x.kids.length := ⟨_, rfl⟩
      have hvy : x.val Y cy = .agg #[.int .i64 x.op, .int .i64 x.num, .string x.name, .slice Y ny cy] := by unfold Tm.val; rw [hny]
      simp only [hvy]
      obtain ⟨by_, hby⟩ : ∃ by_, by_ = u4.heap.size := ⟨_, rfl⟩
      obtain ⟨u5, hu5⟩ : ∃ u5, u5 = u4.alloc (.cells #[.int .i64 x.op, .int .i64 x.num, .string x.name, .slice Y ny cy] 24) := ⟨_, rfl⟩
      have hbu5 : Below u4.heap.size u4 u5 := by rw [hu5]; exact (Below.refl _ _).alloc (Nat.le_refl _) _
      have HYB : Hid (u5.heap[by_]? = some (.cells #[.int .i64 x.op, .int .i64 x.num, .string x.name, .slice Y ny cy] 24 (0, 0))) := by show _ = _; rw [hu5, hby]; exact heap_alloc_new u4 _
      have hbxl4 : bx < u4.heap.size := lt_of_heap HXB4.out
      have HXB5 := Lib.hid ((hbu5.block bx hbxl4).trans HXB4.out)
      have HU5 := Lib.hid (HU4.out.trans (hbu5.mono HU4.out.size))
      have HSM : Hid (Calls Tryd.prog 10 #[.agg #[.int .i64 x.op, .int .i64 x.num, .string x.name, .slice Y ny cy], .agg #[.int .i64 x.op, .int .i64 x.num, .string x.name, .slice X nx cx]] u5 fun e w' => e = .returned (.bool true) ∧ Below u5.heap.size u5 w') := by
        have h := rsame_any x.size x Y cy X cx u5 (Nat.le_refl _) (HVy.out.below hbu5 rfl) (HVx4.out.below hbu5 rfl)
        rw [hvy, HVXQ.out] at h
        exact h
      have HW5 := Lib.hid hu5
      have HBYN := Lib.hid hby
      clear hu5 hbu5 hby hvy hny hVy hbu4 HPB
      obtain ⟨⟨y0, p0⟩, ⟨y1, p1⟩, ⟨y2, p2⟩, y3, p3⟩ := cells4 HXB5.out
      obtain ⟨⟨v0, z0⟩, ⟨v1, z1⟩, ⟨v2, z2⟩, v3, z3⟩ := cells4 HYB.out
      have hbxl5 : bx < u5.heap.size := lt_of_heap HXB5.out
      have hbyl5 : by_ < u5.heap.size := lt_of_heap HYB.out
      obtain ⟨⟨q0, -⟩, ⟨q1, -⟩, ⟨q2, -⟩, q3, -⟩ := cells4 HXB4.out
      go_wp2_with fail
      try rw [← HW5.out, ← HBYN.out]
      try go_wp2_with fail
      refine (HSM.out).mono ?_
      rintro e u6 ⟨rfl, hbu6⟩
      have HU6 := Lib.hid (HU5.out.trans (hbu6.mono HU5.out.size))
      clear hbu6 HSM y0 y1 y2 y3 p0 p1 p2 p3 v0 v1 v2 v3 z0 z1 z2 z3 q0 q1 q2 q3
      have HLV2 := Lib.hid (HLV.out u6 HU6.out)
      go_wp2_with fail
      refine (HLV2.out).mono ?_
      rintro e w99 ⟨rfl, hb99⟩
      have HB99 := Lib.hid (HU6.out.trans (hb99.mono HU6.out.size))
      clear hb99 HLV2
      go_wp2_with fail
      rw [HF.out]
      exact ⟨rfl, HB99.out⟩
    · have hexb : (ex != 0) = true := by simpa using hex
      obtain ⟨⟨y0, p0⟩, ⟨y1, p1⟩, ⟨y2, p2⟩, y3, p3⟩ := cells4 HXB.out
      go_wp2_with fail
      try rw [← HW2.out]
      clear y0 y1 y2 y3 p0 p1 p2 p3
      have HLV2 := Lib.hid (HLV.out u2 HU2.out)
      go_wp2_with fail
      refine (HLV2.out).mono ?_
      rintro e w99 ⟨rfl, hb99⟩
      have HB99 := Lib.hid (HU2.out.trans (hb99.mono HU2.out.size))
      clear hb99 HLV2
      go_wp2_with fail
      rw [HF.out]
      exact ⟨rfl, HB99.out⟩
end Go.Proofs.YtnbphgeepnknlaaDoor
