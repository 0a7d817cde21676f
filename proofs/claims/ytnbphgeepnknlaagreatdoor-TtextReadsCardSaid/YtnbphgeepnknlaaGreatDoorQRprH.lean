/- Walks: the reference's imp, cmp. -/
import Derived.Test.YtnbphgeepnknlaaGreatDoorQRprG
namespace Go.Proofs.YtnbphgeepnknlaaGreatDoor
open Go.RowKit
set_option linter.unusedVariables false

set_option maxRecDepth 100000 in
set_option maxHeartbeats 4000000 in
theorem rpimp_any (l : List Tok) (d : Nat) (P PI : Par) (hd : d ≤ 256) (hF : FnRB l d 175 false P) (hG : GdP l P) (hZ : NzP P) (hF2 : d < 256 → FnR l (d + 1) 136 PI) (hG2 : GdP l PI) (hZ2 : NzP PI) : FnR l d 136 (impB l (if d = 256 then none else some PI) P) := by
 intro A c i w hi hP
 obtain ⟨n, b6, w1, F, hlen, hlc, hcm, hs1, X6, HB, HP, HP1, HS, HI, HF, HN, HB6, HW1⟩ := rset A c l w hP (GQ w (impB l (if d = 256 then none else some PI) P i))
 rw [← HF.out, ← HN.out]
 rw [← HN.out] at hi
 clear hP
 have HI1 : Hid (∀ (i : Nat) (W : World), i ≤ l.length → TokIn W A c l → Calls Tryz.prog 175 #[.slice A n c, .int .i64 (i : Nat), .int .i64 ((d : Nat) : Int), .bool false] W (GQ W (P i))) := by
  intro i W h1 h2
  have := hF A c i W h1 h2
  rw [← HN.out] at this
  exact this
 obtain ⟨HI1P, hHI1P⟩ : ∃ Q0, Q0 = P := ⟨_, rfl⟩
 rw [← hHI1P] at HI1
 have HI1G : Hid (GdP l HI1P) := by show GdP _ _; rw [hHI1P]; exact hG
 have HI1Z : Hid (NzP HI1P) := by show NzP _; rw [hHI1P]; exact hZ
 have HQHI1 := Lib.hid hHI1P
 clear hHI1P
 have HI2F : Hid (d < 256 → ∀ (i : Nat) (W : World), i ≤ l.length → TokIn W A c l → Calls Tryz.prog 136 #[.slice A n c, .int .i64 (i : Nat), .int .i64 ((d + 1 : Nat) : Int)] W (GQ W (PI i))) := by
  intro hdd i W h1 h2
  have := hF2 hdd A c i W h1 h2
  rw [← HN.out] at this
  exact this
 have HI2G := Lib.hid hG2
 have HI2Z := Lib.hid hZ2
 clear hF hG hZ hF2 hG2 hZ2
 go_enter Tryz.func136, Tryz.ntmps136
 have hcf := HI1.out (i) w1 (by first | omega | (rw [← HN.out]; omega)) (HP.out.below HB.out)
 obtain ⟨r1, hr1⟩ : ∃ r, r = HI1P (i) := ⟨_, rfl⟩
 rw [← hr1] at hcf
 have HC := Lib.hid hcf
 have HGr1 : Hid (∀ x k, r1 = .ok x k → Gd l (i) x k) := fun x k h => HI1G.out (i) x k (by rw [← hr1]; exact h)
 have HZr1 : Hid (∀ k x, r1 = .bad k x → x ≠ 0) := fun k x h => HI1Z.out (i) k x (by rw [← hr1]; exact h)
 have HRr1 := Lib.hid hr1
 clear hcf hr1
 go_wp2_with fail
 rw [← HW1.out]
 try rw [← HB6.out]
 refine (HC.out).mono ?_
 intro e w2 hq
 have HRE1 : Hid (F = GQ w (r1.then fun t j => if whichOp l j [8] = 0 then .ok t j else (inner (if d = 256 then none else some PI) j).then fun u k => .ok (tmOf 8 [t, u]) k)) := by show _ = _; rw [HF.out, HRr1.out, HQHI1.out]; rfl
 clear HRr1
 rcases r1 with ⟨jb, xb⟩ | ⟨t1, j1⟩
 · obtain ⟨A', c', rfl, hV, hb2⟩ := gq_bad.1 hq
   have hx := HZr1.out _ _ rfl
   have hxb : (xb != 0) = true := by simpa using hx
   have HV : Hid (TmVS (fun q => w.heap.size < q) w2 A' c' zeroTm) := hV.keep KeepS.refl (fun q _ h => by have := HB6.out; have := lt_of_heap X6.out; omega)
   have Y6 := Lib.hid ((hb2.block b6 (lt_of_heap X6.out)).trans X6.out)
   clear X6
   have X6 := Y6
   clear Y6
   have HBn := Lib.hid (HB.out.trans (hb2.mono HB.out.size))
   clear HB
   have HB := HBn
   clear HBn
   clear hb2 hV hq HC hx
   obtain ⟨⟨v0, vz0⟩, ⟨v1, vz1⟩, ⟨v2, vz2⟩, ⟨v3, vz3⟩, ⟨v4, vz4⟩, v5, vz5⟩ := cells6 X6.out
   have vl : b6 < w2.heap.size := lt_of_heap X6.out
   go_wp2_with fail
   clear v0 vz0 v1 vz1 v2 vz2 v3 vz3 v4 vz4 v5 vz5 vl
   refine bodyPost_ret (results_cell_row (t := 140) (fr := (0, 0)) rfl _ _ b6 _ _ rfl (alloc_keep (res6 X6.out)) Tryz.underlying140 rfl (by kernel_rfl)) rfl ?_
   rw [HRE1.out]
   exact gq_enda (r := .bad jb xb) (A' := A') (c' := c') _ _ _ _ _ _ _ HB6.out HV.out HB.out
 obtain ⟨A1, c1, rfl, hV, hb2⟩ := gq_ok.1 hq
 have HV1 : Hid (TmVS (fun q => w.heap.size < q) w2 A1 c1 t1) := hV.keep KeepS.refl (fun q _ h => by have := HB6.out; have := lt_of_heap X6.out; omega)
 have hgd_j1 := HGr1.out _ _ rfl
 have hij_j1 := hgd_j1.ij
 have hjl_j1 := hgd_j1.jl
 rw [← HN.out] at hjl_j1
 clear hgd_j1
 obtain ⟨n1, hn1⟩ : ∃ m, m = t1.kids.length := ⟨_, rfl⟩
 rw [← hn1]
 have HQn1 := Lib.hid hn1
 clear hn1
 have Y6 := Lib.hid ((hb2.block b6 (lt_of_heap X6.out)).trans X6.out)
 clear X6
 have X6 := Y6
 clear Y6
 have HBn := Lib.hid (HB.out.trans (hb2.mono HB.out.size))
 clear HB
 have HB := HBn
 clear HBn
 clear hb2 hV hq HC
 obtain ⟨b7, hb7⟩ : ∃ b, b = w2.heap.size := ⟨_, rfl⟩
 obtain ⟨w3, hw3⟩ : ∃ x, x = w2.alloc (.cells #[.int .i64 t1.op, .int .i64 t1.num, .string t1.name, .slice A1 n1 c1, .int .i64 (j1 : Nat), .int .i64 0] 140) := ⟨_, rfl⟩
 have Xb7 : Hid (w3.heap[b7]? = some (.cells #[.int .i64 t1.op, .int .i64 t1.num, .string t1.name, .slice A1 n1 c1, .int .i64 (j1 : Nat), .int .i64 0] 140 (0, 0))) := by show _ = _; rw [hw3, hb7]; exact heap_alloc_new w2 _
 have NEb7 : Hid (b7 ≠ b6) := by show _ ≠ _; have := lt_of_heap X6.out; omega
 have hal : Below w2.heap.size w2 w3 := by rw [hw3]; exact (Below.refl _ _).alloc (Nat.le_refl _) _
 have Qb7 := Lib.hid hb7
 have Qw3 := Lib.hid hw3
 clear hb7 hw3
 have Y6 := Lib.hid ((hal.block b6 (lt_of_heap X6.out)).trans X6.out)
 clear X6
 have X6 := Y6
 clear Y6
 have YHV1 : Hid (TmVS (fun q => w.heap.size < q) w3 A1 c1 t1) := HV1.out.keep (KeepS.of_below hal) (fun _ _ h => h)
 clear HV1
 have HV1 := YHV1
 clear YHV1
 have HBn := Lib.hid (HB.out.trans (hal.mono HB.out.size))
 clear HB
 have HB := HBn
 clear HBn
 clear hal
 have hI := rpsign_any A c j1 l ⟨#[45, 62]⟩ w3 (HP.out.below HB.out) (by omega)
 rw [← HN.out] at hI
 have hw9 : whichOp l j1 [8] = if isTk l j1 4 [45, 62] then 8 else 0 := rfl
 by_cases hcl : isTk l j1 4 [45, 62] = true
 · rw [show isTk l j1 4 (bs ⟨#[45, 62]⟩) = true from hcl] at hI
   have HC := Lib.hid hI
   have hjl2 := isTk_lt hcl
   have HREY : Hid (F = GQ w ((inner (if d = 256 then none else some PI) j1).then fun u k => .ok (tmOf 8 [t1, u]) k)) := by show _ = _; rw [HRE1.out]; show GQ w (if whichOp l j1 [8] = 0 then _ else _) = _; rw [hw9, if_pos hcl]; rfl
   clear hI hcl hw9 HRE1
   by_cases h256 : d = 256
   · have hdb : ((d : Int) == 256) = true := by simp; omega
     have HRE : Hid (F = GQ w (.bad j1 17)) := by show _ = _; rw [HREY.out, if_pos h256]; rfl
     clear h256 HREY
     obtain ⟨⟨u0, uz0⟩, ⟨u1, uz1⟩, ⟨u2, uz2⟩, ⟨u3, uz3⟩, ⟨u4, uz4⟩, u5, uz5⟩ := cells6 Xb7.out
     have ul : b7 < w3.heap.size := lt_of_heap Xb7.out
     go_wp2_with fail
     rw [← Qw3.out, ← Qb7.out]
     try go_wp2_with fail
     refine (HC.out).mono ?_
     rintro e w' ⟨rfl, hww⟩
     rw [hww]
     clear hww
     clear HC
     have HC := Lib.hid (rpfail_any j1 17 w3)
     go_wp2_with fail
     refine (HC.out).mono ?_
     intro e w9 hq
     obtain ⟨AF, cF, rfl, hVF, hbF⟩ := gq_bad.1 hq
     clear u0 uz0 u1 uz1 u2 uz2 u3 uz3 u4 uz4 u5 uz5 ul
     have HVF : Hid (TmVS (fun q => w.heap.size < q) w9 AF cF zeroTm) := hVF.keep KeepS.refl (fun q _ h => by have := HB6.out; have := lt_of_heap X6.out; omega)
     have Y6 := Lib.hid ((hbF.block b6 (lt_of_heap X6.out)).trans X6.out)
     clear X6
     have X6 := Y6
     clear Y6
     have HBn := Lib.hid (HB.out.trans (hbF.mono HB.out.size))
     clear HB
     have HB := HBn
     clear HBn
     clear hq hVF hbF HC
     obtain ⟨⟨v0, vz0⟩, ⟨v1, vz1⟩, ⟨v2, vz2⟩, ⟨v3, vz3⟩, ⟨v4, vz4⟩, v5, vz5⟩ := cells6 X6.out
     have vl : b6 < w9.heap.size := lt_of_heap X6.out
     go_wp2_with fail
     clear v0 vz0 v1 vz1 v2 vz2 v3 vz3 v4 vz4 v5 vz5 vl
     refine bodyPost_ret (results_cell_row (t := 140) (fr := (0, 0)) rfl _ _ b6 _ _ rfl (res6 X6.out) Tryz.underlying140 rfl (by kernel_rfl)) rfl ?_
     rw [HRE.out]
     exact gq_end (r := .bad j1 17) (A' := AF) (c' := cF) _ _ _ _ _ _ HB6.out HVF.out HB.out
   · have hdb : ((d : Int) == 256) = false := by simp; omega
     have hd2 : d < 256 := by omega
     have HREZ : Hid (F = GQ w ((PI (j1 + 1)).then fun u k => .ok (tmOf 8 [t1, u]) k)) := by show _ = _; rw [HREY.out, if_neg h256]; rfl
     have HI2 : Hid (∀ (i : Nat) (W : World), i ≤ l.length → TokIn W A c l → Calls Tryz.prog 136 #[.slice A n c, .int .i64 (i : Nat), .int .i64 ((d + 1 : Nat) : Int)] W (GQ W (PI i))) := HI2F.out hd2
     obtain ⟨HI2P, hq2⟩ : ∃ Q0, Q0 = PI := ⟨_, rfl⟩
     rw [← hq2] at HI2 HREZ HI2G HI2Z
     clear h256 HREY hq2
     obtain ⟨⟨u0, uz0⟩, ⟨u1, uz1⟩, ⟨u2, uz2⟩, ⟨u3, uz3⟩, ⟨u4, uz4⟩, u5, uz5⟩ := cells6 Xb7.out
     have ul : b7 < w3.heap.size := lt_of_heap Xb7.out
     go_wp2_with fail
     rw [← Qw3.out, ← Qb7.out]
     try go_wp2_with fail
     refine (HC.out).mono ?_
     rintro e w' ⟨rfl, hww⟩
     rw [hww]
     clear hww
     clear HC
     have hcf := HI2.out (j1 + 1) w3 (by first | omega | (rw [← HN.out]; omega)) (HP.out.below HB.out)
     rw [show ((j1 + 1 : Nat) : Int) = (j1 : Int) + 1 from by omega] at hcf
     rw [show ((d + 1 : Nat) : Int) = (d : Int) + 1 from by omega] at hcf
     obtain ⟨r2, hr2⟩ : ∃ r, r = HI2P (j1 + 1) := ⟨_, rfl⟩
     rw [← hr2] at hcf
     have HC := Lib.hid hcf
     have HGr2 : Hid (∀ x k, r2 = .ok x k → Gd l (j1 + 1) x k) := fun x k h => HI2G.out (j1 + 1) x k (by rw [← hr2]; exact h)
     have HZr2 : Hid (∀ k x, r2 = .bad k x → x ≠ 0) := fun k x h => HI2Z.out (j1 + 1) k x (by rw [← hr2]; exact h)
     have HRr2 := Lib.hid hr2
     clear hcf hr2
     go_wp2_with fail
     refine (HC.out).mono ?_
     intro e w4 hq
     have HRE2 : Hid (F = GQ w (r2.then fun u k => .ok (tmOf 8 [t1, u]) k)) := by show _ = _; rw [HREZ.out, HRr2.out]
     clear HRr2 HREZ
     clear u0 uz0 u1 uz1 u2 uz2 u3 uz3 u4 uz4 u5 uz5 ul
     rcases r2 with ⟨jb, xb⟩ | ⟨t2, j2⟩
     · obtain ⟨A', c', rfl, hV, hb2⟩ := gq_bad.1 hq
       have hx := HZr2.out _ _ rfl
       have hxb : (xb != 0) = true := by simpa using hx
       have HV : Hid (TmVS (fun q => w.heap.size < q) w4 A' c' zeroTm) := hV.keep KeepS.refl (fun q _ h => by have := HB6.out; have := lt_of_heap X6.out; omega)
       have Y6 := Lib.hid ((hb2.block b6 (lt_of_heap X6.out)).trans X6.out)
       clear X6
       have X6 := Y6
       clear Y6
       have Yb7 := Lib.hid ((hb2.block b7 (lt_of_heap Xb7.out)).trans Xb7.out)
       clear Xb7
       have Xb7 := Yb7
       clear Yb7
       have YHV1 : Hid (TmVS (fun q => w.heap.size < q) w4 A1 c1 t1) := HV1.out.keep (KeepS.of_below hb2) (fun _ _ h => h)
       clear HV1
       have HV1 := YHV1
       clear YHV1
       have HBn := Lib.hid (HB.out.trans (hb2.mono HB.out.size))
       clear HB
       have HB := HBn
       clear HBn
       clear hb2 hV hq HC hx
       obtain ⟨⟨v0, vz0⟩, ⟨v1, vz1⟩, ⟨v2, vz2⟩, ⟨v3, vz3⟩, ⟨v4, vz4⟩, v5, vz5⟩ := cells6 X6.out
       have vl : b6 < w4.heap.size := lt_of_heap X6.out
       go_wp2_with fail
       clear v0 vz0 v1 vz1 v2 vz2 v3 vz3 v4 vz4 v5 vz5 vl
       refine bodyPost_ret (results_cell_row (t := 140) (fr := (0, 0)) rfl _ _ b6 _ _ rfl (alloc_keep (res6 X6.out)) Tryz.underlying140 rfl (by kernel_rfl)) rfl ?_
       rw [HRE2.out]
       exact gq_enda (r := .bad jb xb) (A' := A') (c' := c') _ _ _ _ _ _ _ HB6.out HV.out HB.out
     obtain ⟨A2, c2, rfl, hV, hb2⟩ := gq_ok.1 hq
     have HV2 : Hid (TmVS (fun q => w.heap.size < q) w4 A2 c2 t2) := hV.keep KeepS.refl (fun q _ h => by have := HB6.out; have := lt_of_heap X6.out; omega)
     have hgd_j2 := HGr2.out _ _ rfl
     have hij_j2 := hgd_j2.ij
     have hjl_j2 := hgd_j2.jl
     rw [← HN.out] at hjl_j2
     clear hgd_j2
     obtain ⟨n2, hn2⟩ : ∃ m, m = t2.kids.length := ⟨_, rfl⟩
     rw [← hn2]
     have HQn2 := Lib.hid hn2
     clear hn2
     have Y6 := Lib.hid ((hb2.block b6 (lt_of_heap X6.out)).trans X6.out)
     clear X6
     have X6 := Y6
     clear Y6
     have Yb7 := Lib.hid ((hb2.block b7 (lt_of_heap Xb7.out)).trans Xb7.out)
     clear Xb7
     have Xb7 := Yb7
     clear Yb7
     have YHV1 : Hid (TmVS (fun q => w.heap.size < q) w4 A1 c1 t1) := HV1.out.keep (KeepS.of_below hb2) (fun _ _ h => h)
     clear HV1
     have HV1 := YHV1
     clear YHV1
     have HBn := Lib.hid (HB.out.trans (hb2.mono HB.out.size))
     clear HB
     have HB := HBn
     clear HBn
     clear hb2 hV hq HC
     obtain ⟨b8, hb8⟩ : ∃ b, b = w4.heap.size := ⟨_, rfl⟩
     obtain ⟨w5, hw5⟩ : ∃ x, x = w4.alloc (.cells #[.int .i64 t2.op, .int .i64 t2.num, .string t2.name, .slice A2 n2 c2, .int .i64 (j2 : Nat), .int .i64 0] 140) := ⟨_, rfl⟩
     have Xb8 : Hid (w5.heap[b8]? = some (.cells #[.int .i64 t2.op, .int .i64 t2.num, .string t2.name, .slice A2 n2 c2, .int .i64 (j2 : Nat), .int .i64 0] 140 (0, 0))) := by show _ = _; rw [hw5, hb8]; exact heap_alloc_new w4 _
     have NEb8 : Hid (b8 ≠ b6) := by show _ ≠ _; have := lt_of_heap X6.out; omega
     have hal : Below w4.heap.size w4 w5 := by rw [hw5]; exact (Below.refl _ _).alloc (Nat.le_refl _) _
     have Qb8 := Lib.hid hb8
     have Qw5 := Lib.hid hw5
     clear hb8 hw5
     have Y6 := Lib.hid ((hal.block b6 (lt_of_heap X6.out)).trans X6.out)
     clear X6
     have X6 := Y6
     clear Y6
     have Yb7 := Lib.hid ((hal.block b7 (lt_of_heap Xb7.out)).trans Xb7.out)
     clear Xb7
     have Xb7 := Yb7
     clear Yb7
     have YHV1 : Hid (TmVS (fun q => w.heap.size < q) w5 A1 c1 t1) := HV1.out.keep (KeepS.of_below hal) (fun _ _ h => h)
     clear HV1
     have HV1 := YHV1
     clear YHV1
     have YHV2 : Hid (TmVS (fun q => w.heap.size < q) w5 A2 c2 t2) := HV2.out.keep (KeepS.of_below hal) (fun _ _ h => h)
     clear HV2
     have HV2 := YHV2
     clear YHV2
     have HBn := Lib.hid (HB.out.trans (hal.mono HB.out.size))
     clear HB
     have HB := HBn
     clear HBn
     clear hal
     go_wp2_with fail
     rw [← Qw5.out, ← Qb8.out]
     have nb7 : b7 ≠ b6 := NEb7.out
     have nb8 : b8 ≠ b6 := NEb8.out
     obtain ⟨wd, hwd⟩ : ∃ wd, wd = w5.drew := ⟨_, rfl⟩
     have hbd : Below w5.heap.size w5 wd := by rw [hwd]; exact (Below.refl _ _).drew
     have Y6 := Lib.hid ((hbd.block b6 (lt_of_heap X6.out)).trans X6.out)
     clear X6
     have X6 := Y6
     clear Y6
     have Yb7 := Lib.hid ((hbd.block b7 (lt_of_heap Xb7.out)).trans Xb7.out)
     clear Xb7
     have Xb7 := Yb7
     clear Yb7
     have Yb8 := Lib.hid ((hbd.block b8 (lt_of_heap Xb8.out)).trans Xb8.out)
     clear Xb8
     have Xb8 := Yb8
     clear Yb8
     have YHV1 : Hid (TmVS (fun q => w.heap.size < q) wd A1 c1 t1) := HV1.out.keep (KeepS.of_below hbd) (fun _ _ h => h)
     clear HV1
     have HV1 := YHV1
     clear YHV1
     have YHV2 : Hid (TmVS (fun q => w.heap.size < q) wd A2 c2 t2) := HV2.out.keep (KeepS.of_below hbd) (fun _ _ h => h)
     clear HV2
     have HV2 := YHV2
     clear YHV2
     have HBn := Lib.hid (HB.out.trans (hbd.mono HB.out.size))
     clear HB
     have HB := HBn
     clear HBn
     have HTW : Hid (Calls Tryz.prog 138 #[.int .i64 8, .agg #[.int .i64 t1.op, .int .i64 t1.num, .string t1.name, .slice A1 n1 c1], .agg #[.int .i64 t2.op, .int .i64 t2.num, .string t2.name, .slice A2 n2 c2]] wd fun e w' => ∃ g, e = .returned (.agg #[.int .i64 8, .int .i64 0, .string ⟨#[]⟩, .slice (some ⟨g, 0, none⟩) 2 2]) ∧ TmVS (fun q => w.heap.size < q) w' (some ⟨g, 0, none⟩) 2 (tmOf 8 [t1, t2]) ∧ Below wd.heap.size wd w') := by
      have h := rptwo_any 8 t1 t2 A1 c1 A2 c2 (w.heap.size + 1) wd (by have := HB6.out; have := lt_of_heap X6.out; omega) HV1.out HV2.out
      unfold Tm.val at h
      rw [← HQn1.out, ← HQn2.out] at h
      exact h
     refine wp_region_held_drew (S := fun w' => w'.heap[b7]? = some (.cells #[.int .i64 t1.op, .int .i64 t1.num, .string t1.name, .slice A1 n1 c1, .int .i64 (j1 : Nat), .int .i64 0] 140 (0, 0)) ∧ w'.heap[b8]? = some (.cells #[.int .i64 t2.op, .int .i64 t2.num, .string t2.name, .slice A2 n2 c2, .int .i64 (j2 : Nat), .int .i64 0] 140 (0, 0))) (by kernel_rfl) (by rw [← hwd]; exact ⟨Xb7.out, Xb8.out⟩) (fun hHeld => ?_)
     rw [← hwd] at hHeld ⊢
     clear hwd hbd
     refine wpAnyH_take (i := 0) (oi := { dst := some 40, op := Op.fieldAddr 140 (Operand.tmp 7) 0, type := 0, pos := "ref.go:56", after := #[], guard := none }) (v := ?_) rfl (by kernel_rfl) (by kernel_rfl) (by kernel_rfl) (fun _ _ _ h => h) (Or.inl ⟨by rfl, ?hy⟩) (by assumption) ?_
     case hy =>
      intro w0 hSw
      clear hSw
      go_simp
      (first | done | with_reducible rfl)
     try simp only [Act.put, List.setIfInBounds_toArray, List.set_cons_zero, List.set_cons_succ]
     refine wpAnyH_take (i := 1) (oi := { dst := some 41, op := Op.load 25 (Operand.tmp 40), type := 25, pos := "ref.go:56", after := #[{ on := 0, ground := Ground.data }], guard := none }) (v := ?_) rfl (by kernel_rfl) (by kernel_rfl) (by kernel_rfl) (fun _ _ _ h => h) (Or.inl ⟨by rfl, ?hy⟩) (by assumption) ?_
     case hy =>
      intro w0 hSw
      obtain ⟨⟨e0, -⟩, ⟨e1, -⟩, ⟨e2, -⟩, ⟨e3, -⟩, ⟨e4, -⟩, e5, -⟩ := cells6 hSw.1
      obtain ⟨⟨h0, -⟩, ⟨h1, -⟩, ⟨h2, -⟩, ⟨h3, -⟩, ⟨h4, -⟩, h5, -⟩ := cells6 hSw.2
      clear hSw
      go_simp
      (first | done | with_reducible rfl)
     try simp only [Act.put, List.setIfInBounds_toArray, List.set_cons_zero, List.set_cons_succ]
     refine wpAnyH_take (i := 2) (oi := { dst := some 42, op := Op.fieldAddr 140 (Operand.tmp 8) 0, type := 0, pos := "ref.go:56", after := #[], guard := none }) (v := ?_) rfl (by kernel_rfl) (by kernel_rfl) (by kernel_rfl) (fun _ _ _ h => h) (Or.inl ⟨by rfl, ?hy⟩) (by assumption) ?_
     case hy =>
      intro w0 hSw
      clear hSw
      go_simp
      (first | done | with_reducible rfl)
     try simp only [Act.put, List.setIfInBounds_toArray, List.set_cons_zero, List.set_cons_succ]
     refine wpAnyH_take (i := 3) (oi := { dst := some 43, op := Op.load 25 (Operand.tmp 42), type := 25, pos := "ref.go:56", after := #[{ on := 2, ground := Ground.data }], guard := none }) (v := ?_) rfl (by kernel_rfl) (by kernel_rfl) (by kernel_rfl) (fun _ _ _ h => h) (Or.inl ⟨by rfl, ?hy⟩) (by assumption) ?_
     case hy =>
      intro w0 hSw
      obtain ⟨⟨e0, -⟩, ⟨e1, -⟩, ⟨e2, -⟩, ⟨e3, -⟩, ⟨e4, -⟩, e5, -⟩ := cells6 hSw.1
      obtain ⟨⟨h0, -⟩, ⟨h1, -⟩, ⟨h2, -⟩, ⟨h3, -⟩, ⟨h4, -⟩, h5, -⟩ := cells6 hSw.2
      clear hSw
      go_simp
      (first | done | with_reducible rfl)
     try simp only [Act.put, List.setIfInBounds_toArray, List.set_cons_zero, List.set_cons_succ]
     refine wpAnyH_take (i := 5) (oi := { dst := some 45, op := Op.fieldAddr 140 (Operand.tmp 8) 1, type := 0, pos := "ref.go:56", after := #[], guard := none }) (v := ?_) rfl (by kernel_rfl) (by kernel_rfl) (by kernel_rfl) (fun _ _ _ h => h) (Or.inl ⟨by rfl, ?hy⟩) (by assumption) ?_
     case hy =>
      intro w0 hSw
      clear hSw
      go_simp
      (first | done | with_reducible rfl)
     try simp only [Act.put, List.setIfInBounds_toArray, List.set_cons_zero, List.set_cons_succ]
     refine wpAnyH_take (i := 6) (oi := { dst := some 46, op := Op.load 3 (Operand.tmp 45), type := 3, pos := "ref.go:56", after := #[{ on := 5, ground := Ground.data }], guard := none }) (v := ?_) rfl (by kernel_rfl) (by kernel_rfl) (by kernel_rfl) (fun _ _ _ h => h) (Or.inl ⟨by rfl, ?hy⟩) (by assumption) ?_
     case hy =>
      intro w0 hSw
      obtain ⟨⟨e0, -⟩, ⟨e1, -⟩, ⟨e2, -⟩, ⟨e3, -⟩, ⟨e4, -⟩, e5, -⟩ := cells6 hSw.1
      obtain ⟨⟨h0, -⟩, ⟨h1, -⟩, ⟨h2, -⟩, ⟨h3, -⟩, ⟨h4, -⟩, h5, -⟩ := cells6 hSw.2
      clear hSw
      go_simp
      (first | done | with_reducible rfl)
     try simp only [Act.put, List.setIfInBounds_toArray, List.set_cons_zero, List.set_cons_succ]
     refine wpAnyH_ready (rs := [4]) (by kernel_rfl) (by simp) ?_
     refine AllReadyH.cons (o := { dst := some 44, op := Op.call { callee := Callee.value (Operand.func 138), args := #[Operand.const (Value.int IntKind.i64 8), Operand.tmp 41, Operand.tmp 43], argTypes := #[3, 25, 25] }, type := 25, pos := "ref.go:56", after := #[{ on := 1, ground := Ground.data }, { on := 3, ground := Ground.data }], guard := none }) rfl (fun K hK => ?_) AllReadyH.nil
     go_simp
     with_reducible refine (HTW.out).mono ?_
     rintro e w8 ⟨g, rfl, hVT, hbT⟩
     have HVT := Lib.hid hVT
     refine hK.out _ _ ⟨(hbT.block b7 (lt_of_heap Xb7.out)).trans Xb7.out, (hbT.block b8 (lt_of_heap Xb8.out)).trans Xb8.out⟩ (fun hHeld => ?_)
     clear hK K
     try simp only [Act.put, List.setIfInBounds_toArray, List.set_cons_zero, List.set_cons_succ]
     have Y6 := Lib.hid ((hbT.block b6 (lt_of_heap X6.out)).trans X6.out)
     clear X6
     have X6 := Y6
     clear Y6
     have HBn := Lib.hid (HB.out.trans (hbT.mono HB.out.size))
     clear HB
     have HB := HBn
     clear HBn
     clear hbT hVT HTW
     refine wpAnyH_take (i := 7) (oi := { dst := some 47, op := Op.build 140 #[(0, Operand.tmp 44), (1, Operand.tmp 46), (2, Operand.const (Value.int IntKind.i64 0))], type := 140, pos := "ref.go:56", after := #[{ on := 4, ground := Ground.data }, { on := 6, ground := Ground.data }], guard := none }) (v := ?_) rfl (by kernel_rfl) (by kernel_rfl) (by kernel_rfl) (fun _ _ _ h => h) (Or.inl ⟨by rfl, ?hy⟩) (by assumption) ?_
     case hy =>
      intro w0 hSw
      clear hSw
      go_simp
      (first | done | with_reducible rfl)
     try simp only [Act.put, List.setIfInBounds_toArray, List.set_cons_zero, List.set_cons_succ]
     refine wpAnyH_ready (rs := [8]) (by kernel_rfl) (by simp) ?_
     refine AllReadyH.cons (o := { dst := none, op := Op.store 140 (Operand.tmp 6) (Operand.tmp 47), type := 0, pos := "ref.go:56", after := #[{ on := 7, ground := Ground.data }, { on := 4, ground := Ground.chain }, { on := 0, ground := Ground.phase }, { on := 1, ground := Ground.phase }, { on := 2, ground := Ground.phase }, { on := 3, ground := Ground.phase }, { on := 4, ground := Ground.phase }, { on := 5, ground := Ground.phase }, { on := 6, ground := Ground.phase }, { on := 7, ground := Ground.phase }], guard := none }) rfl (fun K hK => ?_) AllReadyH.nil
     obtain ⟨⟨v0, vz0⟩, ⟨v1, vz1⟩, ⟨v2, vz2⟩, ⟨v3, vz3⟩, ⟨v4, vz4⟩, v5, vz5⟩ := cells6 X6.out
     have vl : b6 < w8.heap.size := lt_of_heap X6.out
     go_simp
     clear v0 vz0 v1 vz1 v2 vz2 v3 vz3 v4 vz4 v5 vz5 vl
     refine hK.out _ _ ⟨(sets6_far nb7).trans hHeld.1, (sets6_far nb8).trans hHeld.2⟩ (fun hHeld => ?_)
     clear hK K
     try simp only [Act.put, List.setIfInBounds_toArray, List.set_cons_zero, List.set_cons_succ]
     refine wpAnyH_done (by kernel_rfl) ?_ _
     clear hHeld
     go_wp2_with fail
     refine bodyPost_ret (results_cell_row (t := 140) (fr := (0, 0)) rfl _ _ b6 _ _ rfl (res6 X6.out) Tryz.underlying140 rfl (by kernel_rfl)) rfl ?_
     rw [HRE2.out]
     exact gq_end (r := .ok (tmOf 8 [t1, t2]) j2) (A' := some ⟨g, 0, none⟩) (c' := 2) _ _ _ _ _ _ HB6.out HVT.out HB.out
 · have hcf : isTk l j1 4 [45, 62] = false := by simpa using hcl
   rw [show isTk l j1 4 (bs ⟨#[45, 62]⟩) = false from hcf] at hI
   have HC := Lib.hid hI
   have HRE : Hid (F = GQ w (.ok t1 j1)) := by show _ = _; rw [HRE1.out]; show GQ w (if whichOp l j1 [8] = 0 then _ else _) = _; rw [hw9, if_neg hcl]; rfl
   clear hI hcl hcf hw9 HRE1
   obtain ⟨⟨u0, uz0⟩, ⟨u1, uz1⟩, ⟨u2, uz2⟩, ⟨u3, uz3⟩, ⟨u4, uz4⟩, u5, uz5⟩ := cells6 Xb7.out
   have ul : b7 < w3.heap.size := lt_of_heap Xb7.out
   obtain ⟨⟨v0, vz0⟩, ⟨v1, vz1⟩, ⟨v2, vz2⟩, ⟨v3, vz3⟩, ⟨v4, vz4⟩, v5, vz5⟩ := cells6 X6.out
   have vl : b6 < w3.heap.size := lt_of_heap X6.out
   go_wp2_with fail
   rw [← Qw3.out, ← Qb7.out]
   try go_wp2_with fail
   refine (HC.out).mono ?_
   rintro e w' ⟨rfl, hww⟩
   rw [hww]
   clear hww
   clear HC
   go_wp2_with fail
   clear u0 uz0 u1 uz1 u2 uz2 u3 uz3 u4 uz4 u5 uz5 ul
   clear v0 vz0 v1 vz1 v2 vz2 v3 vz3 v4 vz4 v5 vz5 vl
   refine bodyPost_ret (results_cell_row (t := 140) (fr := (0, 0)) rfl _ _ b6 _ _ rfl (res6 X6.out) Tryz.underlying140 rfl (by kernel_rfl)) rfl ?_
   rw [HRE.out, HQn1.out]
   exact gq_end (r := .ok t1 j1) (A' := A1) (c' := c1) _ _ _ _ _ _ HB6.out HV1.out HB.out
set_option maxRecDepth 100000 in
set_option maxHeartbeats 4000000 in
theorem rpcmp_any (l : List Tok) (d : Nat) (P : Par) (hd : d ≤ 256) (hF : FnRB l d 226 false P) (hG : GdP l P) (hZ : NzP P) : FnR l d 217 (fun i => (P i).then fun t j => if whichOp l j [10, 11, 12, 13] = 0 then .ok t j else (P (j + 1)).then fun u k => .ok (tmOf (whichOp l j [10, 11, 12, 13]) [t, u]) k) := by
 intro A c i w hi hP
 show Calls _ _ _ _ (GQ w ((P i).then fun t j => if whichOp l j [10, 11, 12, 13] = 0 then .ok t j else (P (j + 1)).then fun u k => .ok (tmOf (whichOp l j [10, 11, 12, 13]) [t, u]) k))
 obtain ⟨n, b6, w1, F, hlen, hlc, hcm, hs1, X6, HB, HP, HP1, HS, HI, HF, HN, HB6, HW1⟩ := rset A c l w hP (GQ w ((P i).then fun t j => if whichOp l j [10, 11, 12, 13] = 0 then .ok t j else (P (j + 1)).then fun u k => .ok (tmOf (whichOp l j [10, 11, 12, 13]) [t, u]) k))
 rw [← HF.out, ← HN.out]
 rw [← HN.out] at hi
 clear hP
 have HI1 : Hid (∀ (i : Nat) (W : World), i ≤ l.length → TokIn W A c l → Calls Tryz.prog 226 #[.slice A n c, .int .i64 (i : Nat), .int .i64 ((d : Nat) : Int), .bool false] W (GQ W (P i))) := by
  intro i W h1 h2
  have := hF A c i W h1 h2
  rw [← HN.out] at this
  exact this
 obtain ⟨HI1P, hHI1P⟩ : ∃ Q0, Q0 = P := ⟨_, rfl⟩
 rw [← hHI1P] at HI1
 have HI1G : Hid (GdP l HI1P) := by show GdP _ _; rw [hHI1P]; exact hG
 have HI1Z : Hid (NzP HI1P) := by show NzP _; rw [hHI1P]; exact hZ
 have HQHI1 := Lib.hid hHI1P
 clear hHI1P
 clear hF hG hZ
 go_enter Tryz.func217, Tryz.ntmps217
 have hcf := HI1.out (i) w1 (by first | omega | (rw [← HN.out]; omega)) (HP.out.below HB.out)
 obtain ⟨r1, hr1⟩ : ∃ r, r = HI1P (i) := ⟨_, rfl⟩
 rw [← hr1] at hcf
 have HC := Lib.hid hcf
 have HGr1 : Hid (∀ x k, r1 = .ok x k → Gd l (i) x k) := fun x k h => HI1G.out (i) x k (by rw [← hr1]; exact h)
 have HZr1 : Hid (∀ k x, r1 = .bad k x → x ≠ 0) := fun k x h => HI1Z.out (i) k x (by rw [← hr1]; exact h)
 have HRr1 := Lib.hid hr1
 clear hcf hr1
 go_wp2_with fail
 rw [← HW1.out]
 try rw [← HB6.out]
 refine (HC.out).mono ?_
 intro e w2 hq
 have HRE1 : Hid (F = GQ w (r1.then fun t j => if whichOp l j [10, 11, 12, 13] = 0 then .ok t j else (HI1P (j + 1)).then fun u k => .ok (tmOf (whichOp l j [10, 11, 12, 13]) [t, u]) k)) := by show _ = _; rw [HF.out, HRr1.out, HQHI1.out]
 clear HRr1
 rcases r1 with ⟨jb, xb⟩ | ⟨t1, j1⟩
 · obtain ⟨A', c', rfl, hV, hb2⟩ := gq_bad.1 hq
   have hx := HZr1.out _ _ rfl
   have hxb : (xb != 0) = true := by simpa using hx
   have HV : Hid (TmVS (fun q => w.heap.size < q) w2 A' c' zeroTm) := hV.keep KeepS.refl (fun q _ h => by have := HB6.out; have := lt_of_heap X6.out; omega)
   have Y6 := Lib.hid ((hb2.block b6 (lt_of_heap X6.out)).trans X6.out)
   clear X6
   have X6 := Y6
   clear Y6
   have HBn := Lib.hid (HB.out.trans (hb2.mono HB.out.size))
   clear HB
   have HB := HBn
   clear HBn
   clear hb2 hV hq HC hx
   obtain ⟨⟨v0, vz0⟩, ⟨v1, vz1⟩, ⟨v2, vz2⟩, ⟨v3, vz3⟩, ⟨v4, vz4⟩, v5, vz5⟩ := cells6 X6.out
   have vl : b6 < w2.heap.size := lt_of_heap X6.out
   go_wp2_with fail
   clear v0 vz0 v1 vz1 v2 vz2 v3 vz3 v4 vz4 v5 vz5 vl
   refine bodyPost_ret (results_cell_row (t := 140) (fr := (0, 0)) rfl _ _ b6 _ _ rfl (alloc_keep (res6 X6.out)) Tryz.underlying140 rfl (by kernel_rfl)) rfl ?_
   rw [HRE1.out]
   exact gq_enda (r := .bad jb xb) (A' := A') (c' := c') _ _ _ _ _ _ _ HB6.out HV.out HB.out
 obtain ⟨A1, c1, rfl, hV, hb2⟩ := gq_ok.1 hq
 have HV1 : Hid (TmVS (fun q => w.heap.size < q) w2 A1 c1 t1) := hV.keep KeepS.refl (fun q _ h => by have := HB6.out; have := lt_of_heap X6.out; omega)
 have hgd_j1 := HGr1.out _ _ rfl
 have hij_j1 := hgd_j1.ij
 have hjl_j1 := hgd_j1.jl
 rw [← HN.out] at hjl_j1
 clear hgd_j1
 obtain ⟨n1, hn1⟩ : ∃ m, m = t1.kids.length := ⟨_, rfl⟩
 rw [← hn1]
 have HQn1 := Lib.hid hn1
 clear hn1
 have Y6 := Lib.hid ((hb2.block b6 (lt_of_heap X6.out)).trans X6.out)
 clear X6
 have X6 := Y6
 clear Y6
 have HBn := Lib.hid (HB.out.trans (hb2.mono HB.out.size))
 clear HB
 have HB := HBn
 clear HBn
 clear hb2 hV hq HC
 obtain ⟨b7, hb7⟩ : ∃ b, b = w2.heap.size := ⟨_, rfl⟩
 obtain ⟨w3, hw3⟩ : ∃ x, x = w2.alloc (.cells #[.int .i64 t1.op, .int .i64 t1.num, .string t1.name, .slice A1 n1 c1, .int .i64 (j1 : Nat), .int .i64 0] 140) := ⟨_, rfl⟩
 have Xb7 : Hid (w3.heap[b7]? = some (.cells #[.int .i64 t1.op, .int .i64 t1.num, .string t1.name, .slice A1 n1 c1, .int .i64 (j1 : Nat), .int .i64 0] 140 (0, 0))) := by show _ = _; rw [hw3, hb7]; exact heap_alloc_new w2 _
 have NEb7 : Hid (b7 ≠ b6) := by show _ ≠ _; have := lt_of_heap X6.out; omega
 have hal : Below w2.heap.size w2 w3 := by rw [hw3]; exact (Below.refl _ _).alloc (Nat.le_refl _) _
 have Qb7 := Lib.hid hb7
 have Qw3 := Lib.hid hw3
 clear hb7 hw3
 have Y6 := Lib.hid ((hal.block b6 (lt_of_heap X6.out)).trans X6.out)
 clear X6
 have X6 := Y6
 clear Y6
 have YHV1 : Hid (TmVS (fun q => w.heap.size < q) w3 A1 c1 t1) := HV1.out.keep (KeepS.of_below hal) (fun _ _ h => h)
 clear HV1
 have HV1 := YHV1
 clear YHV1
 have HBn := Lib.hid (HB.out.trans (hal.mono HB.out.size))
 clear HB
 have HB := HBn
 clear HBn
 clear hal
 obtain ⟨gtq, hgtq⟩ : ∃ g, g = w3.heap.size := ⟨_, rfl⟩
 obtain ⟨sq, hsq⟩ : ∃ x, x = w3.alloc (.cells #[.string ⟨#[61]⟩, .string ⟨#[33, 61]⟩, .string ⟨#[60]⟩, .string ⟨#[60, 61]⟩] 9) := ⟨_, rfl⟩
 have hbsq : Below w3.heap.size w3 sq := by rw [hsq]; exact (Below.refl _ _).alloc (Nat.le_refl _) _
 have hxsq : sq.heap[gtq]? = some (.cells #[.string ⟨#[61]⟩, .string ⟨#[33, 61]⟩, .string ⟨#[60]⟩, .string ⟨#[60, 61]⟩] 9 (0, 0)) := by rw [hsq, hgtq]; exact heap_alloc_new w3 _
 obtain ⟨goq, hgoq⟩ : ∃ g, g = sq.heap.size := ⟨_, rfl⟩
 obtain ⟨tq, htq⟩ : ∃ x, x = sq.alloc (.cells #[.int .i64 10, .int .i64 11, .int .i64 12, .int .i64 13] 3) := ⟨_, rfl⟩
 have hbtq : Below sq.heap.size sq tq := by rw [htq]; exact (Below.refl _ _).alloc (Nat.le_refl _) _
 have hbel2 : Below w3.heap.size w3 tq := hbsq.trans (hbtq.mono hbsq.size)
 have hO : OpsAt tq goq [10, 11, 12, 13] := by rw [htq, hgoq]; exact ops_new sq [10, 11, 12, 13]
 have hxtq : tq.heap[gtq]? = some (.cells #[.string ⟨#[61]⟩, .string ⟨#[33, 61]⟩, .string ⟨#[60]⟩, .string ⟨#[60, 61]⟩] 9 (0, 0)) := (hbtq.block gtq (lt_of_heap hxsq)).trans hxsq
 have hwh := rpwhich_any A c j1 l [10, 11, 12, 13] gtq goq 4 4 tq (HP.out.below (HB.out.trans (hbel2.mono HB.out.size))) (by omega) (by decide) (fun k op hop => by
  rw [cell_of_row tq gtq k _ _ (0, 0) hxtq]
  have hk := (List.getElem?_eq_some_iff.1 hop).1
  simp only [List.length_cons, List.length_nil] at hk
  have hk2 : k = 0 ∨ k = 1 ∨ k = 2 ∨ k = 3 := by omega
  rcases hk2 with rfl | rfl | rfl | rfl
  all_goals
   simp at hop
   subst hop
   rfl) hO (by decide)
 rw [← HN.out] at hwh
 have HC := Lib.hid hwh
 have hw3s : w3.heap.size = b7 + 1 := by rw [Qw3.out, Qb7.out]; simp
 have Qgtq : Hid (gtq = b7 + 1) := by show _ = _; rw [hgtq, hw3s]
 have Qgoq : Hid (goq = b7 + 1 + 1) := by show _ = _; rw [hgoq, hsq]; simp [hw3s]
 have Qsq := Lib.hid hsq
 have Qtq := Lib.hid htq
 obtain ⟨⟨u0, uz0⟩, ⟨u1, uz1⟩, ⟨u2, uz2⟩, ⟨u3, uz3⟩, ⟨u4, uz4⟩, u5, uz5⟩ := cells6 Xb7.out
 have ul : b7 < w3.heap.size := lt_of_heap Xb7.out
 clear hwh hw3s hgtq hgoq hsq htq hO hxsq hxtq hbsq hbtq
 go_wp2_with fail
 rw [← Qw3.out, ← Qb7.out, ← Qsq.out, ← Qtq.out, ← Qgoq.out, ← Qgtq.out]
 clear u0 uz0 u1 uz1 u2 uz2 u3 uz3 u4 uz4 u5 uz5 ul
 have Y6 := Lib.hid ((hbel2.block b6 (lt_of_heap X6.out)).trans X6.out)
 clear X6
 have X6 := Y6
 clear Y6
 have Yb7 := Lib.hid ((hbel2.block b7 (lt_of_heap Xb7.out)).trans Xb7.out)
 clear Xb7
 have Xb7 := Yb7
 clear Yb7
 have YHV1 : Hid (TmVS (fun q => w.heap.size < q) tq A1 c1 t1) := HV1.out.keep (KeepS.of_below hbel2) (fun _ _ h => h)
 clear HV1
 have HV1 := YHV1
 clear YHV1
 have HBn := Lib.hid (HB.out.trans (hbel2.mono HB.out.size))
 clear HB
 have HB := HBn
 clear HBn
 clear hbel2
 refine (HC.out).mono ?_
 rintro e w' ⟨rfl, hww⟩
 rw [hww]
 clear hww HC
 by_cases hz : whichOp l j1 [10, 11, 12, 13] = 0
 · have HRE : Hid (F = GQ w (.ok t1 j1)) := by show _ = _; rw [HRE1.out]; show GQ w (if whichOp l j1 [10, 11, 12, 13] = 0 then _ else _) = _; rw [if_pos hz]
   rw [hz]
   clear hz HRE1
   obtain ⟨⟨u0, uz0⟩, ⟨u1, uz1⟩, ⟨u2, uz2⟩, ⟨u3, uz3⟩, ⟨u4, uz4⟩, u5, uz5⟩ := cells6 Xb7.out
   have ul : b7 < tq.heap.size := lt_of_heap Xb7.out
   obtain ⟨⟨v0, vz0⟩, ⟨v1, vz1⟩, ⟨v2, vz2⟩, ⟨v3, vz3⟩, ⟨v4, vz4⟩, v5, vz5⟩ := cells6 X6.out
   have vl : b6 < tq.heap.size := lt_of_heap X6.out
   go_wp2_with fail
   clear u0 uz0 u1 uz1 u2 uz2 u3 uz3 u4 uz4 u5 uz5 ul
   clear v0 vz0 v1 vz1 v2 vz2 v3 vz3 v4 vz4 v5 vz5 vl
   refine bodyPost_ret (results_cell_row (t := 140) (fr := (0, 0)) rfl _ _ b6 _ _ rfl (res6 X6.out) Tryz.underlying140 rfl (by kernel_rfl)) rfl ?_
   rw [HRE.out, HQn1.out]
   exact gq_end (r := .ok t1 j1) (A' := A1) (c' := c1) _ _ _ _ _ _ HB6.out HV1.out HB.out
 · have HREY : Hid (F = GQ w ((HI1P (j1 + 1)).then fun u k => .ok (tmOf (whichOp l j1 [10, 11, 12, 13]) [t1, u]) k)) := by show _ = _; rw [HRE1.out]; show GQ w (if whichOp l j1 [10, 11, 12, 13] = 0 then _ else _) = _; rw [if_neg hz]
   have hjl2 := which_lt hz
   obtain ⟨zz, hzz⟩ : ∃ z, z = whichOp l j1 [10, 11, 12, 13] := ⟨_, rfl⟩
   rw [← hzz] at hz HREY ⊢
   have hzb : (zz == 0) = false := by simpa using hz
   clear hz hzz HRE1
   obtain ⟨⟨u0, uz0⟩, ⟨u1, uz1⟩, ⟨u2, uz2⟩, ⟨u3, uz3⟩, ⟨u4, uz4⟩, u5, uz5⟩ := cells6 Xb7.out
   have ul : b7 < tq.heap.size := lt_of_heap Xb7.out
   have hcf := HI1.out (j1 + 1) tq (by first | omega | (rw [← HN.out]; omega)) (HP.out.below HB.out)
   rw [show ((j1 + 1 : Nat) : Int) = (j1 : Int) + 1 from by omega] at hcf
   obtain ⟨r2, hr2⟩ : ∃ r, r = HI1P (j1 + 1) := ⟨_, rfl⟩
   rw [← hr2] at hcf
   have HC := Lib.hid hcf
   have HGr2 : Hid (∀ x k, r2 = .ok x k → Gd l (j1 + 1) x k) := fun x k h => HI1G.out (j1 + 1) x k (by rw [← hr2]; exact h)
   have HZr2 : Hid (∀ k x, r2 = .bad k x → x ≠ 0) := fun k x h => HI1Z.out (j1 + 1) k x (by rw [← hr2]; exact h)
   have HRr2 := Lib.hid hr2
   clear hcf hr2
   go_wp2_with fail
   refine (HC.out).mono ?_
   intro e w4 hq
   have HRE2 : Hid (F = GQ w (r2.then fun u k => .ok (tmOf zz [t1, u]) k)) := by show _ = _; rw [HREY.out, HRr2.out]
   clear HRr2 HREY
   clear u0 uz0 u1 uz1 u2 uz2 u3 uz3 u4 uz4 u5 uz5 ul
   rcases r2 with ⟨jb, xb⟩ | ⟨t2, j2⟩
   · obtain ⟨A', c', rfl, hV, hb2⟩ := gq_bad.1 hq
     have hx := HZr2.out _ _ rfl
     have hxb : (xb != 0) = true := by simpa using hx
     have HV : Hid (TmVS (fun q => w.heap.size < q) w4 A' c' zeroTm) := hV.keep KeepS.refl (fun q _ h => by have := HB6.out; have := lt_of_heap X6.out; omega)
     have Y6 := Lib.hid ((hb2.block b6 (lt_of_heap X6.out)).trans X6.out)
     clear X6
     have X6 := Y6
     clear Y6
     have Yb7 := Lib.hid ((hb2.block b7 (lt_of_heap Xb7.out)).trans Xb7.out)
     clear Xb7
     have Xb7 := Yb7
     clear Yb7
     have YHV1 : Hid (TmVS (fun q => w.heap.size < q) w4 A1 c1 t1) := HV1.out.keep (KeepS.of_below hb2) (fun _ _ h => h)
     clear HV1
     have HV1 := YHV1
     clear YHV1
     have HBn := Lib.hid (HB.out.trans (hb2.mono HB.out.size))
     clear HB
     have HB := HBn
     clear HBn
     clear hb2 hV hq HC hx
     obtain ⟨⟨v0, vz0⟩, ⟨v1, vz1⟩, ⟨v2, vz2⟩, ⟨v3, vz3⟩, ⟨v4, vz4⟩, v5, vz5⟩ := cells6 X6.out
     have vl : b6 < w4.heap.size := lt_of_heap X6.out
     go_wp2_with fail
     clear v0 vz0 v1 vz1 v2 vz2 v3 vz3 v4 vz4 v5 vz5 vl
     refine bodyPost_ret (results_cell_row (t := 140) (fr := (0, 0)) rfl _ _ b6 _ _ rfl (alloc_keep (res6 X6.out)) Tryz.underlying140 rfl (by kernel_rfl)) rfl ?_
     rw [HRE2.out]
     exact gq_enda (r := .bad jb xb) (A' := A') (c' := c') _ _ _ _ _ _ _ HB6.out HV.out HB.out
   obtain ⟨A2, c2, rfl, hV, hb2⟩ := gq_ok.1 hq
   have HV2 : Hid (TmVS (fun q => w.heap.size < q) w4 A2 c2 t2) := hV.keep KeepS.refl (fun q _ h => by have := HB6.out; have := lt_of_heap X6.out; omega)
   have hgd_j2 := HGr2.out _ _ rfl
   have hij_j2 := hgd_j2.ij
   have hjl_j2 := hgd_j2.jl
   rw [← HN.out] at hjl_j2
   clear hgd_j2
   obtain ⟨n2, hn2⟩ : ∃ m, m = t2.kids.length := ⟨_, rfl⟩
   rw [← hn2]
   have HQn2 := Lib.hid hn2
   clear hn2
   have Y6 := Lib.hid ((hb2.block b6 (lt_of_heap X6.out)).trans X6.out)
   clear X6
   have X6 := Y6
   clear Y6
   have Yb7 := Lib.hid ((hb2.block b7 (lt_of_heap Xb7.out)).trans Xb7.out)
   clear Xb7
   have Xb7 := Yb7
   clear Yb7
   have YHV1 : Hid (TmVS (fun q => w.heap.size < q) w4 A1 c1 t1) := HV1.out.keep (KeepS.of_below hb2) (fun _ _ h => h)
   clear HV1
   have HV1 := YHV1
   clear YHV1
   have HBn := Lib.hid (HB.out.trans (hb2.mono HB.out.size))
   clear HB
   have HB := HBn
   clear HBn
   clear hb2 hV hq HC
   obtain ⟨b8, hb8⟩ : ∃ b, b = w4.heap.size := ⟨_, rfl⟩
   obtain ⟨w5, hw5⟩ : ∃ x, x = w4.alloc (.cells #[.int .i64 t2.op, .int .i64 t2.num, .string t2.name, .slice A2 n2 c2, .int .i64 (j2 : Nat), .int .i64 0] 140) := ⟨_, rfl⟩
   have Xb8 : Hid (w5.heap[b8]? = some (.cells #[.int .i64 t2.op, .int .i64 t2.num, .string t2.name, .slice A2 n2 c2, .int .i64 (j2 : Nat), .int .i64 0] 140 (0, 0))) := by show _ = _; rw [hw5, hb8]; exact heap_alloc_new w4 _
   have NEb8 : Hid (b8 ≠ b6) := by show _ ≠ _; have := lt_of_heap X6.out; omega
   have hal : Below w4.heap.size w4 w5 := by rw [hw5]; exact (Below.refl _ _).alloc (Nat.le_refl _) _
   have Qb8 := Lib.hid hb8
   have Qw5 := Lib.hid hw5
   clear hb8 hw5
   have Y6 := Lib.hid ((hal.block b6 (lt_of_heap X6.out)).trans X6.out)
   clear X6
   have X6 := Y6
   clear Y6
   have Yb7 := Lib.hid ((hal.block b7 (lt_of_heap Xb7.out)).trans Xb7.out)
   clear Xb7
   have Xb7 := Yb7
   clear Yb7
   have YHV1 : Hid (TmVS (fun q => w.heap.size < q) w5 A1 c1 t1) := HV1.out.keep (KeepS.of_below hal) (fun _ _ h => h)
   clear HV1
   have HV1 := YHV1
   clear YHV1
   have YHV2 : Hid (TmVS (fun q => w.heap.size < q) w5 A2 c2 t2) := HV2.out.keep (KeepS.of_below hal) (fun _ _ h => h)
   clear HV2
   have HV2 := YHV2
   clear YHV2
   have HBn := Lib.hid (HB.out.trans (hal.mono HB.out.size))
   clear HB
   have HB := HBn
   clear HBn
   clear hal
   go_wp2_with fail
   rw [← Qw5.out, ← Qb8.out]
   have nb7 : b7 ≠ b6 := NEb7.out
   have nb8 : b8 ≠ b6 := NEb8.out
   obtain ⟨wd, hwd⟩ : ∃ wd, wd = w5.drew := ⟨_, rfl⟩
   have hbd : Below w5.heap.size w5 wd := by rw [hwd]; exact (Below.refl _ _).drew
   have Y6 := Lib.hid ((hbd.block b6 (lt_of_heap X6.out)).trans X6.out)
   clear X6
   have X6 := Y6
   clear Y6
   have Yb7 := Lib.hid ((hbd.block b7 (lt_of_heap Xb7.out)).trans Xb7.out)
   clear Xb7
   have Xb7 := Yb7
   clear Yb7
   have Yb8 := Lib.hid ((hbd.block b8 (lt_of_heap Xb8.out)).trans Xb8.out)
   clear Xb8
   have Xb8 := Yb8
   clear Yb8
   have YHV1 : Hid (TmVS (fun q => w.heap.size < q) wd A1 c1 t1) := HV1.out.keep (KeepS.of_below hbd) (fun _ _ h => h)
   clear HV1
   have HV1 := YHV1
   clear YHV1
   have YHV2 : Hid (TmVS (fun q => w.heap.size < q) wd A2 c2 t2) := HV2.out.keep (KeepS.of_below hbd) (fun _ _ h => h)
   clear HV2
   have HV2 := YHV2
   clear YHV2
   have HBn := Lib.hid (HB.out.trans (hbd.mono HB.out.size))
   clear HB
   have HB := HBn
   clear HBn
   have HTW : Hid (Calls Tryz.prog 138 #[.int .i64 zz, .agg #[.int .i64 t1.op, .int .i64 t1.num, .string t1.name, .slice A1 n1 c1], .agg #[.int .i64 t2.op, .int .i64 t2.num, .string t2.name, .slice A2 n2 c2]] wd fun e w' => ∃ g, e = .returned (.agg #[.int .i64 zz, .int .i64 0, .string ⟨#[]⟩, .slice (some ⟨g, 0, none⟩) 2 2]) ∧ TmVS (fun q => w.heap.size < q) w' (some ⟨g, 0, none⟩) 2 (tmOf zz [t1, t2]) ∧ Below wd.heap.size wd w') := by
    have h := rptwo_any zz t1 t2 A1 c1 A2 c2 (w.heap.size + 1) wd (by have := HB6.out; have := lt_of_heap X6.out; omega) HV1.out HV2.out
    unfold Tm.val at h
    rw [← HQn1.out, ← HQn2.out] at h
    exact h
   refine wp_region_held_drew (S := fun w' => w'.heap[b7]? = some (.cells #[.int .i64 t1.op, .int .i64 t1.num, .string t1.name, .slice A1 n1 c1, .int .i64 (j1 : Nat), .int .i64 0] 140 (0, 0)) ∧ w'.heap[b8]? = some (.cells #[.int .i64 t2.op, .int .i64 t2.num, .string t2.name, .slice A2 n2 c2, .int .i64 (j2 : Nat), .int .i64 0] 140 (0, 0))) (by kernel_rfl) (by rw [← hwd]; exact ⟨Xb7.out, Xb8.out⟩) (fun hHeld => ?_)
   rw [← hwd] at hHeld ⊢
   clear hwd hbd
   refine wpAnyH_take (i := 0) (oi := { dst := some 37, op := Op.move (Operand.tmp 8), type := 3, pos := "ref.go:126", after := #[], guard := none }) (v := ?_) rfl (by kernel_rfl) (by kernel_rfl) (by kernel_rfl) (fun _ _ _ h => h) (Or.inl ⟨by rfl, ?hy⟩) (by assumption) ?_
   case hy =>
    intro w0 hSw
    clear hSw
    go_simp
    (first | done | with_reducible rfl)
   try simp only [Act.put, List.setIfInBounds_toArray, List.set_cons_zero, List.set_cons_succ]
   refine wpAnyH_take (i := 1) (oi := { dst := some 38, op := Op.fieldAddr 140 (Operand.tmp 7) 0, type := 0, pos := "ref.go:126", after := #[], guard := none }) (v := ?_) rfl (by kernel_rfl) (by kernel_rfl) (by kernel_rfl) (fun _ _ _ h => h) (Or.inl ⟨by rfl, ?hy⟩) (by assumption) ?_
   case hy =>
    intro w0 hSw
    clear hSw
    go_simp
    (first | done | with_reducible rfl)
   try simp only [Act.put, List.setIfInBounds_toArray, List.set_cons_zero, List.set_cons_succ]
   refine wpAnyH_take (i := 2) (oi := { dst := some 39, op := Op.load 25 (Operand.tmp 38), type := 25, pos := "ref.go:126", after := #[{ on := 1, ground := Ground.data }], guard := none }) (v := ?_) rfl (by kernel_rfl) (by kernel_rfl) (by kernel_rfl) (fun _ _ _ h => h) (Or.inl ⟨by rfl, ?hy⟩) (by assumption) ?_
   case hy =>
    intro w0 hSw
    obtain ⟨⟨e0, -⟩, ⟨e1, -⟩, ⟨e2, -⟩, ⟨e3, -⟩, ⟨e4, -⟩, e5, -⟩ := cells6 hSw.1
    obtain ⟨⟨h0, -⟩, ⟨h1, -⟩, ⟨h2, -⟩, ⟨h3, -⟩, ⟨h4, -⟩, h5, -⟩ := cells6 hSw.2
    clear hSw
    go_simp
    (first | done | with_reducible rfl)
   try simp only [Act.put, List.setIfInBounds_toArray, List.set_cons_zero, List.set_cons_succ]
   refine wpAnyH_take (i := 3) (oi := { dst := some 40, op := Op.fieldAddr 140 (Operand.tmp 9) 0, type := 0, pos := "ref.go:126", after := #[], guard := none }) (v := ?_) rfl (by kernel_rfl) (by kernel_rfl) (by kernel_rfl) (fun _ _ _ h => h) (Or.inl ⟨by rfl, ?hy⟩) (by assumption) ?_
   case hy =>
    intro w0 hSw
    clear hSw
    go_simp
    (first | done | with_reducible rfl)
   try simp only [Act.put, List.setIfInBounds_toArray, List.set_cons_zero, List.set_cons_succ]
   refine wpAnyH_take (i := 4) (oi := { dst := some 41, op := Op.load 25 (Operand.tmp 40), type := 25, pos := "ref.go:126", after := #[{ on := 3, ground := Ground.data }], guard := none }) (v := ?_) rfl (by kernel_rfl) (by kernel_rfl) (by kernel_rfl) (fun _ _ _ h => h) (Or.inl ⟨by rfl, ?hy⟩) (by assumption) ?_
   case hy =>
    intro w0 hSw
    obtain ⟨⟨e0, -⟩, ⟨e1, -⟩, ⟨e2, -⟩, ⟨e3, -⟩, ⟨e4, -⟩, e5, -⟩ := cells6 hSw.1
    obtain ⟨⟨h0, -⟩, ⟨h1, -⟩, ⟨h2, -⟩, ⟨h3, -⟩, ⟨h4, -⟩, h5, -⟩ := cells6 hSw.2
    clear hSw
    go_simp
    (first | done | with_reducible rfl)
   try simp only [Act.put, List.setIfInBounds_toArray, List.set_cons_zero, List.set_cons_succ]
   refine wpAnyH_take (i := 6) (oi := { dst := some 43, op := Op.fieldAddr 140 (Operand.tmp 9) 1, type := 0, pos := "ref.go:126", after := #[], guard := none }) (v := ?_) rfl (by kernel_rfl) (by kernel_rfl) (by kernel_rfl) (fun _ _ _ h => h) (Or.inl ⟨by rfl, ?hy⟩) (by assumption) ?_
   case hy =>
    intro w0 hSw
    clear hSw
    go_simp
    (first | done | with_reducible rfl)
   try simp only [Act.put, List.setIfInBounds_toArray, List.set_cons_zero, List.set_cons_succ]
   refine wpAnyH_take (i := 7) (oi := { dst := some 44, op := Op.load 3 (Operand.tmp 43), type := 3, pos := "ref.go:126", after := #[{ on := 6, ground := Ground.data }], guard := none }) (v := ?_) rfl (by kernel_rfl) (by kernel_rfl) (by kernel_rfl) (fun _ _ _ h => h) (Or.inl ⟨by rfl, ?hy⟩) (by assumption) ?_
   case hy =>
    intro w0 hSw
    obtain ⟨⟨e0, -⟩, ⟨e1, -⟩, ⟨e2, -⟩, ⟨e3, -⟩, ⟨e4, -⟩, e5, -⟩ := cells6 hSw.1
    obtain ⟨⟨h0, -⟩, ⟨h1, -⟩, ⟨h2, -⟩, ⟨h3, -⟩, ⟨h4, -⟩, h5, -⟩ := cells6 hSw.2
    clear hSw
    go_simp
    (first | done | with_reducible rfl)
   try simp only [Act.put, List.setIfInBounds_toArray, List.set_cons_zero, List.set_cons_succ]
   refine wpAnyH_ready (rs := [5]) (by kernel_rfl) (by simp) ?_
   refine AllReadyH.cons (o := { dst := some 42, op := Op.call { callee := Callee.value (Operand.func 138), args := #[Operand.tmp 37, Operand.tmp 39, Operand.tmp 41], argTypes := #[3, 25, 25] }, type := 25, pos := "ref.go:126", after := #[{ on := 0, ground := Ground.data }, { on := 2, ground := Ground.data }, { on := 4, ground := Ground.data }], guard := none }) rfl (fun K hK => ?_) AllReadyH.nil
   go_simp
   with_reducible refine (HTW.out).mono ?_
   rintro e w8 ⟨g, rfl, hVT, hbT⟩
   have HVT := Lib.hid hVT
   refine hK.out _ _ ⟨(hbT.block b7 (lt_of_heap Xb7.out)).trans Xb7.out, (hbT.block b8 (lt_of_heap Xb8.out)).trans Xb8.out⟩ (fun hHeld => ?_)
   clear hK K
   try simp only [Act.put, List.setIfInBounds_toArray, List.set_cons_zero, List.set_cons_succ]
   have Y6 := Lib.hid ((hbT.block b6 (lt_of_heap X6.out)).trans X6.out)
   clear X6
   have X6 := Y6
   clear Y6
   have HBn := Lib.hid (HB.out.trans (hbT.mono HB.out.size))
   clear HB
   have HB := HBn
   clear HBn
   clear hbT hVT HTW
   refine wpAnyH_take (i := 8) (oi := { dst := some 45, op := Op.build 140 #[(0, Operand.tmp 42), (1, Operand.tmp 44), (2, Operand.const (Value.int IntKind.i64 0))], type := 140, pos := "ref.go:126", after := #[{ on := 5, ground := Ground.data }, { on := 7, ground := Ground.data }], guard := none }) (v := ?_) rfl (by kernel_rfl) (by kernel_rfl) (by kernel_rfl) (fun _ _ _ h => h) (Or.inl ⟨by rfl, ?hy⟩) (by assumption) ?_
   case hy =>
    intro w0 hSw
    clear hSw
    go_simp
    (first | done | with_reducible rfl)
   try simp only [Act.put, List.setIfInBounds_toArray, List.set_cons_zero, List.set_cons_succ]
   refine wpAnyH_ready (rs := [9]) (by kernel_rfl) (by simp) ?_
   refine AllReadyH.cons (o := { dst := none, op := Op.store 140 (Operand.tmp 6) (Operand.tmp 45), type := 0, pos := "ref.go:126", after := #[{ on := 8, ground := Ground.data }, { on := 5, ground := Ground.chain }, { on := 0, ground := Ground.phase }, { on := 1, ground := Ground.phase }, { on := 2, ground := Ground.phase }, { on := 3, ground := Ground.phase }, { on := 4, ground := Ground.phase }, { on := 5, ground := Ground.phase }, { on := 6, ground := Ground.phase }, { on := 7, ground := Ground.phase }, { on := 8, ground := Ground.phase }], guard := none }) rfl (fun K hK => ?_) AllReadyH.nil
   obtain ⟨⟨v0, vz0⟩, ⟨v1, vz1⟩, ⟨v2, vz2⟩, ⟨v3, vz3⟩, ⟨v4, vz4⟩, v5, vz5⟩ := cells6 X6.out
   have vl : b6 < w8.heap.size := lt_of_heap X6.out
   go_simp
   clear v0 vz0 v1 vz1 v2 vz2 v3 vz3 v4 vz4 v5 vz5 vl
   refine hK.out _ _ ⟨(sets6_far nb7).trans hHeld.1, (sets6_far nb8).trans hHeld.2⟩ (fun hHeld => ?_)
   clear hK K
   try simp only [Act.put, List.setIfInBounds_toArray, List.set_cons_zero, List.set_cons_succ]
   refine wpAnyH_done (by kernel_rfl) ?_ _
   clear hHeld
   go_wp2_with fail
   refine bodyPost_ret (results_cell_row (t := 140) (fr := (0, 0)) rfl _ _ b6 _ _ rfl (res6 X6.out) Tryz.underlying140 rfl (by kernel_rfl)) rfl ?_
   rw [HRE2.out]
   exact gq_end (r := .ok (tmOf zz [t1, t2]) j2) (A' := some ⟨g, 0, none⟩) (c' := 2) _ _ _ _ _ _ HB6.out HVT.out HB.out
end Go.Proofs.YtnbphgeepnknlaaGreatDoor
