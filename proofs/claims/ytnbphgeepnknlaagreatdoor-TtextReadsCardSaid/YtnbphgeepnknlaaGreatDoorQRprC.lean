/- Walk: the reference's unit. -/
import Derived.Test.YtnbphgeepnknlaaGreatDoorQRprA
namespace Go.Proofs.YtnbphgeepnknlaaGreatDoor
open Go.RowKit
set_option linter.unusedVariables false

theorem gq_bad {w w' : World} {j : Nat} {x : Int} {e : Ending} : GQ w (.bad j x) e w' ↔ ∃ A' c', e = .returned (.agg #[.int .i64 0, .int .i64 0, .string ⟨#[]⟩, .slice A' 0 c', .int .i64 (j : Nat), .int .i64 x]) ∧ TmVS (fun q => w.heap.size ≤ q) w' A' c' zeroTm ∧ Below w.heap.size w w' := Iff.rfl
theorem gq_ok {w w' : World} {j : Nat} {t : Tm} {e : Ending} : GQ w (.ok t j) e w' ↔ ∃ A' c', e = .returned (.agg #[.int .i64 t.op, .int .i64 t.num, .string t.name, .slice A' t.kids.length c', .int .i64 (j : Nat), .int .i64 0]) ∧ TmVS (fun q => w.heap.size ≤ q) w' A' c' t ∧ Below w.heap.size w w' := Iff.rfl
theorem cells6 {w : World} {b : Nat} {u0 u1 u2 u3 u4 u5 : Value} {T : TypeId} (h : w.heap[b]? = some (.cells #[u0, u1, u2, u3, u4, u5] T (0, 0))) :
 (w.cell? ⟨b, 0, none⟩ = some u0 ∧ w.frozen? ⟨b, 0, none⟩ = false) ∧ (w.cell? ⟨b, 1, none⟩ = some u1 ∧ w.frozen? ⟨b, 1, none⟩ = false) ∧ (w.cell? ⟨b, 2, none⟩ = some u2 ∧ w.frozen? ⟨b, 2, none⟩ = false) ∧ (w.cell? ⟨b, 3, none⟩ = some u3 ∧ w.frozen? ⟨b, 3, none⟩ = false) ∧ (w.cell? ⟨b, 4, none⟩ = some u4 ∧ w.frozen? ⟨b, 4, none⟩ = false) ∧ w.cell? ⟨b, 5, none⟩ = some u5 ∧ w.frozen? ⟨b, 5, none⟩ = false :=
 ⟨⟨by rw [cell_of_row w b 0 _ _ (0, 0) h]; rfl, by simp [World.frozen?, h]⟩, ⟨by rw [cell_of_row w b 1 _ _ (0, 0) h]; rfl, by simp [World.frozen?, h]⟩, ⟨by rw [cell_of_row w b 2 _ _ (0, 0) h]; rfl, by simp [World.frozen?, h]⟩, ⟨by rw [cell_of_row w b 3 _ _ (0, 0) h]; rfl, by simp [World.frozen?, h]⟩, ⟨by rw [cell_of_row w b 4 _ _ (0, 0) h]; rfl, by simp [World.frozen?, h]⟩, by rw [cell_of_row w b 5 _ _ (0, 0) h]; rfl, by simp [World.frozen?, h]⟩
/-- What stands at the start of a function of the reference's parser. -/
theorem rset (A : Option Addr) (c : Nat) (l : List Tok) (w : World) (hP : TokIn w A c l) (F0 : Ending → World → Prop) : ∃ (n b6 : Nat) (w1 : World) (F : Ending → World → Prop), n ≤ 100000 ∧ n ≤ c ∧ c ≤ 2 ^ 63 - 1 ∧ w1.heap.size = b6 + 1 ∧
 Hid (w1.heap[b6]? = some (.cells #[.int .i64 0, .int .i64 0, .string ⟨#[]⟩, .slice none 0 0, .int .i64 0, .int .i64 0] 140 (0, 0))) ∧ Hid (Below w.heap.size w w1) ∧ Hid (TokIn w A c l) ∧ Hid (TokIn w1 A c l) ∧
 Hid (∀ (i : Nat) (s : ByteArray), i ≤ 1000000 → Calls Tryz.prog 137 #[.slice A n c, .int .i64 (i : Nat), .string s] w1 fun e w' => e = .returned (.bool (isTk l i 4 (bs s))) ∧ w' = w1) ∧
 Hid (∀ (i : Nat) (k : Int) (s : ByteArray), i ≤ 1000000 → Calls Tryz.prog 177 #[.slice A n c, .int .i64 (i : Nat), .int .i64 k, .string s] w1 fun e w' => e = .returned (.bool (isTk l i k (bs s))) ∧ w' = w1) ∧
 Hid (F = F0) ∧ Hid (n = l.length) ∧ Hid (b6 = w.heap.size) ∧ Hid (w1 = w.alloc (.cells #[.int .i64 0, .int .i64 0, .string ⟨#[]⟩, .slice none 0 0, .int .i64 0, .int .i64 0] 140)) := by
 have HB : Below w.heap.size w (w.alloc (.cells #[.int .i64 0, .int .i64 0, .string ⟨#[]⟩, .slice none 0 0, .int .i64 0, .int .i64 0] 140)) := (Below.refl _ _).alloc (Nat.le_refl _) _
 have hcm := hP.capm
 unfold maxLen at hcm
 exact ⟨l.length, w.heap.size, _, F0, hP.len, hP.cap, hcm, by simp, heap_alloc_new w _, HB, hP, hP.below HB, fun i s h => rpsign_any A c i l s _ (hP.below HB) h, fun i k s h => rpis_any A c i l k s _ (hP.below HB) h, rfl, rfl, rfl, rfl⟩
/-- The token at which it stands. -/
theorem rtok {A : Option Addr} {c i n : Nat} {l : List Tok} {w w1 : World} {t : Tok} (HP : Hid (TokIn w A c l)) (HB : Hid (Below w.heap.size w w1)) (HN : Hid (n = l.length)) (ht : l[i]? = some t) : ∃ b off, A = some ⟨b, off, none⟩ ∧ b < w.heap.size ∧ i < n ∧ b < w1.heap.size ∧ (0 : Int) ≤ (i : Int) ∧ (i : Int) < (n : Int) ∧
 (∀ (k : Nat) (z : Tok), l[k]? = some z → ∀ j, j < 4 → w.cell? ⟨b, off + k * 4 + j, none⟩ = some (tokV z j)) ∧ (∀ (k : Nat) (z : Tok), l[k]? = some z → ∀ j, j < 4 → w1.cell? ⟨b, off + k * 4 + j, none⟩ = some (tokV z j)) := by
 rcases HP.out.toks with h0 | ⟨b, off, rfl, hb, hc⟩
 · rw [h0] at ht; simp at ht
 have hil : i < n := by rw [HN.out]; exact (List.getElem?_eq_some_iff.1 ht).1
 exact ⟨b, off, rfl, hb, hil, Nat.lt_of_lt_of_le hb HB.out.size, by omega, by omega, hc, fun k z hz j hj => by rw [HB.out.cell (p := ⟨b, _, none⟩) hb]; exact hc k z hz j hj⟩
set_option maxRecDepth 100000 in
set_option maxHeartbeats 16000000 in
theorem rpunit_num (A : Option Addr) (c d : Nat) (l : List Tok) (i : Nat) (w : World) (t : Tok) (ht : l[i]? = some t) (hk : t.kind = 1) (hi : i ≤ l.length) (hP : TokIn w A c l) :
 Calls Tryz.prog 229 #[.slice A l.length c, .int .i64 (i : Nat), .int .i64 (d : Nat)] w (GQ w (.ok (tmNum t.n) (i + 1))) := by
 obtain ⟨n, b6, w1, F, hlen, hlc, hcm, hs1, X6, HB, HP, HP1, HS, HI, HF, HN, HB6, HW1⟩ := rset A c l w hP (GQ w (.ok (tmNum t.n) (i + 1)))
 rw [← HF.out, ← HN.out]
 rw [← HN.out] at hi
 clear hP
 obtain ⟨b, off, rfl, hb, hil, hbw, hk0, hk1, hc, hcell⟩ := rtok HP HB HN ht
 have x0 := hcell i t ht 0 (by omega)
 have y0 := hc i t ht 0 (by omega)
 have x1 := hcell i t ht 1 (by omega)
 have y1 := hc i t ht 1 (by omega)
 simp only [tokV, Nat.add_zero] at x0 y0 x1 y1
 rw [hk] at x0 y0
 go_enter Tryz.func229, Tryz.ntmps229
 clear hcell hc ht hk
 go_wp2_with fail
 refine bodyPost_ret (results_cell_row (t := 140) (fr := (0, 0)) rfl _ _ w.heap.size _ _ rfl (heap_alloc_new w _) Tryz.underlying140 rfl (by kernel_rfl)) rfl ?_
 rw [HF.out]
 exact ⟨none, 0, rfl, TmVS.leaf (Nat.zero_le _), (Below.refl _ _).alloc (Nat.le_refl _) _⟩
set_option maxRecDepth 100000 in
set_option maxHeartbeats 16000000 in
theorem rpunit_name (A : Option Addr) (c d : Nat) (l : List Tok) (i : Nat) (w : World) (t : Tok) (ht : l[i]? = some t) (hk : t.kind = 2) (hi : i ≤ l.length) (hP : TokIn w A c l) :
 Calls Tryz.prog 229 #[.slice A l.length c, .int .i64 (i : Nat), .int .i64 (d : Nat)] w (GQ w (.ok (tmName 3 t.text) (i + 1))) := by
 obtain ⟨n, b6, w1, F, hlen, hlc, hcm, hs1, X6, HB, HP, HP1, HS, HI, HF, HN, HB6, HW1⟩ := rset A c l w hP (GQ w (.ok (tmName 3 t.text) (i + 1)))
 rw [← HF.out, ← HN.out]
 rw [← HN.out] at hi
 clear hP
 obtain ⟨b, off, rfl, hb, hil, hbw, hk0, hk1, hc, hcell⟩ := rtok HP HB HN ht
 have x0 := hcell i t ht 0 (by omega)
 have y0 := hc i t ht 0 (by omega)
 have x2 := hcell i t ht 2 (by omega)
 have y2 := hc i t ht 2 (by omega)
 simp only [tokV, Nat.add_zero] at x0 y0 x2 y2
 rw [hk] at x0 y0
 go_enter Tryz.func229, Tryz.ntmps229
 have HTX := Lib.hid (HP.out.txt t (List.mem_of_getElem? ht))
 clear hcell hc ht hk
 go_wp2_with fail
 refine bodyPost_ret (results_cell_row (t := 140) (fr := (0, 0)) rfl _ _ w.heap.size _ _ rfl (heap_alloc_new w _) Tryz.underlying140 rfl (by kernel_rfl)) rfl ?_
 rw [HF.out]
 exact ⟨none, 0, rfl, TmVS.leaf (by have := HTX.out; show t.text.toArray.size ≤ _; unfold maxLen; simp; omega), (Below.refl _ _).alloc (Nat.le_refl _) _⟩
set_option maxRecDepth 100000 in
set_option maxHeartbeats 16000000 in
theorem rpunit_minus_yes (A : Option Addr) (c d : Nat) (l : List Tok) (i : Nat) (w : World) (h_minus : isTk l i 4 [45] = true) (t2 : Tok) (htt2 : l[i + 1]? = some t2) (hkt2 : t2.kind = 1) (hi : i ≤ l.length) (hP : TokIn w A c l) :
 Calls Tryz.prog 229 #[.slice A l.length c, .int .i64 (i : Nat), .int .i64 (d : Nat)] w (GQ w (.ok (tmNum (-t2.n)) (i + 2))) := by
 obtain ⟨n, b6, w1, F, hlen, hlc, hcm, hs1, X6, HB, HP, HP1, HS, HI, HF, HN, HB6, HW1⟩ := rset A c l w hP (GQ w (.ok (tmNum (-t2.n)) (i + 2)))
 rw [← HF.out, ← HN.out]
 rw [← HN.out] at hi
 clear hP
 obtain ⟨t, ht, hk, -⟩ := isTk_some h_minus
 obtain ⟨b, off, rfl, hb, hil, hbw, hk0, hk1, hc, hcell⟩ := rtok HP HB HN ht
 have x0 := hcell i t ht 0 (by omega)
 have y0 := hc i t ht 0 (by omega)
 simp only [tokV, Nat.add_zero] at x0 y0
 rw [hk] at x0 y0
 go_enter Tryz.func229, Tryz.ntmps229
 have hI := HS.out i ⟨#[45]⟩ (by omega)
 rw [show isTk l i 4 (bs ⟨#[45]⟩) = true from h_minus] at hI
 have HC := Lib.hid hI
 clear hI
 go_wp2_with fail
 rw [← HW1.out]
 try rw [← HB6.out]
 refine (HC.out).mono ?_
 rintro e w' ⟨rfl, hww⟩
 rw [hww]
 clear hww
 clear HC
 have hil1 : i + 1 < n := by rw [HN.out]; exact (List.getElem?_eq_some_iff.1 htt2).1
 have t2x0 := hcell (i + 1) t2 htt2 0 (by omega)
 have t2x1 := hcell (i + 1) t2 htt2 1 (by omega)
 simp only [tokV, Nat.add_zero] at t2x0 t2x1
 rw [hkt2] at t2x0
 have hk10 : (0 : Int) ≤ (i : Int) + 1 := by omega
 have hk11 : (i : Int) + 1 < (n : Int) := by omega
 have htn1 : ((i : Int) + 1).toNat = i + 1 := by omega
 have hrng := HP.out.rng t2 (List.mem_of_getElem? htt2)
 have hneg : IntKind.i64.wrap (-t2.n) = -t2.n := IntWalk.i64_in _ (by omega)
 obtain ⟨⟨v0, z0⟩, ⟨v1, z1⟩, ⟨v2, z2⟩, ⟨v3, z3⟩, ⟨v4, z4⟩, v5, z5⟩ := cells6 X6.out
 have l6 : b6 < w1.heap.size := lt_of_heap X6.out
 clear hcell hc ht hk htt2 hkt2 hrng
 go_wp2_with fail
 clear v0 v1 v2 v3 v4 v5 z0 z1 z2 z3 z4 z5 l6
 refine bodyPost_ret (results_cell_row (t := 140) (fr := (0, 0)) rfl _ _ b6 _ _ rfl (res6 X6.out) Tryz.underlying140 rfl (by kernel_rfl)) rfl ?_
 rw [HF.out]
 exact gq_end (r := .ok (tmNum (-t2.n)) (i + 2)) (A' := none) (c' := 0) _ _ _ _ _ _ HB6.out (TmVS.leaf (Nat.zero_le _)) HB.out
set_option maxRecDepth 100000 in
set_option maxHeartbeats 16000000 in
theorem rpunit_minus_no1 (A : Option Addr) (c d : Nat) (l : List Tok) (i : Nat) (w : World) (h_minus : isTk l i 4 [45] = true) (hge : l.length ≤ i + 1) (hi : i ≤ l.length) (hP : TokIn w A c l) :
 Calls Tryz.prog 229 #[.slice A l.length c, .int .i64 (i : Nat), .int .i64 (d : Nat)] w (GQ w (.bad (i + 1) 16)) := by
 obtain ⟨n, b6, w1, F, hlen, hlc, hcm, hs1, X6, HB, HP, HP1, HS, HI, HF, HN, HB6, HW1⟩ := rset A c l w hP (GQ w (.bad (i + 1) 16))
 rw [← HF.out, ← HN.out]
 rw [← HN.out] at hi
 clear hP
 obtain ⟨t, ht, hk, -⟩ := isTk_some h_minus
 obtain ⟨b, off, rfl, hb, hil, hbw, hk0, hk1, hc, hcell⟩ := rtok HP HB HN ht
 have x0 := hcell i t ht 0 (by omega)
 have y0 := hc i t ht 0 (by omega)
 simp only [tokV, Nat.add_zero] at x0 y0
 rw [hk] at x0 y0
 go_enter Tryz.func229, Tryz.ntmps229
 have hI := HS.out i ⟨#[45]⟩ (by omega)
 rw [show isTk l i 4 (bs ⟨#[45]⟩) = true from h_minus] at hI
 have HC := Lib.hid hI
 clear hI
 go_wp2_with fail
 rw [← HW1.out]
 try rw [← HB6.out]
 refine (HC.out).mono ?_
 rintro e w' ⟨rfl, hww⟩
 rw [hww]
 clear hww
 clear HC
 have hnn : ¬ (i : Int) + 1 < (n : Int) := by have := HN.out; omega
 clear hcell hc ht hk hge
 have hcf := rpfail_any (i + 1) 16 w1
 rw [show ((i + 1 : Nat) : Int) = (i : Int) + 1 from by omega] at hcf
 have HC := Lib.hid hcf
 clear hcf
 go_wp2_with fail
 refine (HC.out).mono ?_
 intro e w2 hq
 obtain ⟨A', c', rfl, hV, hb2⟩ := gq_bad.1 hq
 have X62 := Lib.hid ((hb2.block b6 (lt_of_heap X6.out)).trans X6.out)
 have HB2 := Lib.hid (HB.out.trans (hb2.mono HB.out.size))
 have HV : Hid (TmVS (fun q => w.heap.size < q) w2 A' c' zeroTm) := hV.keep KeepS.refl (fun q _ h => by have := HB6.out; omega)
 obtain ⟨⟨v0, z0⟩, ⟨v1, z1⟩, ⟨v2, z2⟩, ⟨v3, z3⟩, ⟨v4, z4⟩, v5, z5⟩ := cells6 X62.out
 have l6 : b6 < w2.heap.size := lt_of_heap X62.out
 clear hq hV hb2 HC
 go_wp2_with fail
 clear v0 v1 v2 v3 v4 v5 z0 z1 z2 z3 z4 z5 l6
 refine bodyPost_ret (results_cell_row (t := 140) (fr := (0, 0)) rfl _ _ b6 _ _ rfl (res6 X62.out) Tryz.underlying140 rfl (by kernel_rfl)) rfl ?_
 rw [HF.out]
 exact gq_end (r := .bad (i + 1) 16) (A' := A') (c' := c') _ _ _ _ _ _ HB6.out HV.out HB2.out
set_option maxRecDepth 100000 in
set_option maxHeartbeats 16000000 in
theorem rpunit_minus_no2 (A : Option Addr) (c d : Nat) (l : List Tok) (i : Nat) (w : World) (h_minus : isTk l i 4 [45] = true) (t2 : Tok) (htt2 : l[i + 1]? = some t2) (hkt2 : t2.kind ≠ 1) (hi : i ≤ l.length) (hP : TokIn w A c l) :
 Calls Tryz.prog 229 #[.slice A l.length c, .int .i64 (i : Nat), .int .i64 (d : Nat)] w (GQ w (.bad (i + 1) 16)) := by
 obtain ⟨n, b6, w1, F, hlen, hlc, hcm, hs1, X6, HB, HP, HP1, HS, HI, HF, HN, HB6, HW1⟩ := rset A c l w hP (GQ w (.bad (i + 1) 16))
 rw [← HF.out, ← HN.out]
 rw [← HN.out] at hi
 clear hP
 obtain ⟨t, ht, hk, -⟩ := isTk_some h_minus
 obtain ⟨b, off, rfl, hb, hil, hbw, hk0, hk1, hc, hcell⟩ := rtok HP HB HN ht
 have x0 := hcell i t ht 0 (by omega)
 have y0 := hc i t ht 0 (by omega)
 simp only [tokV, Nat.add_zero] at x0 y0
 rw [hk] at x0 y0
 go_enter Tryz.func229, Tryz.ntmps229
 have hI := HS.out i ⟨#[45]⟩ (by omega)
 rw [show isTk l i 4 (bs ⟨#[45]⟩) = true from h_minus] at hI
 have HC := Lib.hid hI
 clear hI
 go_wp2_with fail
 rw [← HW1.out]
 try rw [← HB6.out]
 refine (HC.out).mono ?_
 rintro e w' ⟨rfl, hww⟩
 rw [hww]
 clear hww
 clear HC
 have hil1 : i + 1 < n := by rw [HN.out]; exact (List.getElem?_eq_some_iff.1 htt2).1
 have t2x0 := hcell (i + 1) t2 htt2 0 (by omega)
 simp only [tokV, Nat.add_zero] at t2x0
 have hkb : (t2.kind == 1) = false := by simpa using hkt2
 have hk10 : (0 : Int) ≤ (i : Int) + 1 := by omega
 have hk11 : (i : Int) + 1 < (n : Int) := by omega
 have htn1 : ((i : Int) + 1).toNat = i + 1 := by omega
 clear hcell hc ht hk htt2 hkt2
 have hcf := rpfail_any (i + 1) 16 w1
 rw [show ((i + 1 : Nat) : Int) = (i : Int) + 1 from by omega] at hcf
 have HC := Lib.hid hcf
 clear hcf
 go_wp2_with fail
 refine (HC.out).mono ?_
 intro e w2 hq
 obtain ⟨A', c', rfl, hV, hb2⟩ := gq_bad.1 hq
 have X62 := Lib.hid ((hb2.block b6 (lt_of_heap X6.out)).trans X6.out)
 have HB2 := Lib.hid (HB.out.trans (hb2.mono HB.out.size))
 have HV : Hid (TmVS (fun q => w.heap.size < q) w2 A' c' zeroTm) := hV.keep KeepS.refl (fun q _ h => by have := HB6.out; omega)
 obtain ⟨⟨v0, z0⟩, ⟨v1, z1⟩, ⟨v2, z2⟩, ⟨v3, z3⟩, ⟨v4, z4⟩, v5, z5⟩ := cells6 X62.out
 have l6 : b6 < w2.heap.size := lt_of_heap X62.out
 clear hq hV hb2 HC
 go_wp2_with fail
 clear v0 v1 v2 v3 v4 v5 z0 z1 z2 z3 z4 z5 l6
 refine bodyPost_ret (results_cell_row (t := 140) (fr := (0, 0)) rfl _ _ b6 _ _ rfl (res6 X62.out) Tryz.underlying140 rfl (by kernel_rfl)) rfl ?_
 rw [HF.out]
 exact gq_end (r := .bad (i + 1) 16) (A' := A') (c' := c') _ _ _ _ _ _ HB6.out HV.out HB2.out
set_option maxRecDepth 100000 in
set_option maxHeartbeats 16000000 in
theorem rpunit_true (A : Option Addr) (c d : Nat) (l : List Tok) (i : Nat) (w : World) (h_minus : isTk l i 4 [45] = false) (h_true : isTk l i 3 [116, 114, 117, 101] = true) (hi : i ≤ l.length) (hP : TokIn w A c l) :
 Calls Tryz.prog 229 #[.slice A l.length c, .int .i64 (i : Nat), .int .i64 (d : Nat)] w (GQ w (.ok (tmBool 1) (i + 1))) := by
 obtain ⟨n, b6, w1, F, hlen, hlc, hcm, hs1, X6, HB, HP, HP1, HS, HI, HF, HN, HB6, HW1⟩ := rset A c l w hP (GQ w (.ok (tmBool 1) (i + 1)))
 rw [← HF.out, ← HN.out]
 rw [← HN.out] at hi
 clear hP
 obtain ⟨t, ht, hk, -⟩ := isTk_some h_true
 obtain ⟨b, off, rfl, hb, hil, hbw, hk0, hk1, hc, hcell⟩ := rtok HP HB HN ht
 have x0 := hcell i t ht 0 (by omega)
 have y0 := hc i t ht 0 (by omega)
 simp only [tokV, Nat.add_zero] at x0 y0
 rw [hk] at x0 y0
 go_enter Tryz.func229, Tryz.ntmps229
 have hI := HS.out i ⟨#[45]⟩ (by omega)
 rw [show isTk l i 4 (bs ⟨#[45]⟩) = false from h_minus] at hI
 have HC := Lib.hid hI
 clear hI
 go_wp2_with fail
 rw [← HW1.out]
 try rw [← HB6.out]
 refine (HC.out).mono ?_
 rintro e w' ⟨rfl, hww⟩
 rw [hww]
 clear hww
 clear HC
 have hI := HI.out i 3 ⟨#[116, 114, 117, 101]⟩ (by omega)
 rw [show isTk l i 3 (bs ⟨#[116, 114, 117, 101]⟩) = true from h_true] at hI
 have HC := Lib.hid hI
 clear hI
 go_wp2_with fail
 refine (HC.out).mono ?_
 rintro e w' ⟨rfl, hww⟩
 rw [hww]
 clear hww
 clear HC
 obtain ⟨⟨v0, z0⟩, ⟨v1, z1⟩, ⟨v2, z2⟩, ⟨v3, z3⟩, ⟨v4, z4⟩, v5, z5⟩ := cells6 X6.out
 have l6 : b6 < w1.heap.size := lt_of_heap X6.out
 clear hcell hc ht hk
 go_wp2_with fail
 clear v0 v1 v2 v3 v4 v5 z0 z1 z2 z3 z4 z5 l6
 refine bodyPost_ret (results_cell_row (t := 140) (fr := (0, 0)) rfl _ _ b6 _ _ rfl (res6 X6.out) Tryz.underlying140 rfl (by kernel_rfl)) rfl ?_
 rw [HF.out]
 exact gq_end (r := .ok (tmBool 1) (i + 1)) (A' := none) (c' := 0) _ _ _ _ _ _ HB6.out (TmVS.leaf (Nat.zero_le _)) HB.out
set_option maxRecDepth 100000 in
set_option maxHeartbeats 16000000 in
theorem rpunit_false (A : Option Addr) (c d : Nat) (l : List Tok) (i : Nat) (w : World) (h_minus : isTk l i 4 [45] = false) (h_true : isTk l i 3 [116, 114, 117, 101] = false) (h_false : isTk l i 3 [102, 97, 108, 115, 101] = true) (hi : i ≤ l.length) (hP : TokIn w A c l) :
 Calls Tryz.prog 229 #[.slice A l.length c, .int .i64 (i : Nat), .int .i64 (d : Nat)] w (GQ w (.ok (tmBool 0) (i + 1))) := by
 obtain ⟨n, b6, w1, F, hlen, hlc, hcm, hs1, X6, HB, HP, HP1, HS, HI, HF, HN, HB6, HW1⟩ := rset A c l w hP (GQ w (.ok (tmBool 0) (i + 1)))
 rw [← HF.out, ← HN.out]
 rw [← HN.out] at hi
 clear hP
 obtain ⟨t, ht, hk, -⟩ := isTk_some h_false
 obtain ⟨b, off, rfl, hb, hil, hbw, hk0, hk1, hc, hcell⟩ := rtok HP HB HN ht
 have x0 := hcell i t ht 0 (by omega)
 have y0 := hc i t ht 0 (by omega)
 simp only [tokV, Nat.add_zero] at x0 y0
 rw [hk] at x0 y0
 go_enter Tryz.func229, Tryz.ntmps229
 have hI := HS.out i ⟨#[45]⟩ (by omega)
 rw [show isTk l i 4 (bs ⟨#[45]⟩) = false from h_minus] at hI
 have HC := Lib.hid hI
 clear hI
 go_wp2_with fail
 rw [← HW1.out]
 try rw [← HB6.out]
 refine (HC.out).mono ?_
 rintro e w' ⟨rfl, hww⟩
 rw [hww]
 clear hww
 clear HC
 have hI := HI.out i 3 ⟨#[116, 114, 117, 101]⟩ (by omega)
 rw [show isTk l i 3 (bs ⟨#[116, 114, 117, 101]⟩) = false from h_true] at hI
 have HC := Lib.hid hI
 clear hI
 go_wp2_with fail
 refine (HC.out).mono ?_
 rintro e w' ⟨rfl, hww⟩
 rw [hww]
 clear hww
 clear HC
 have hI := HI.out i 3 ⟨#[102, 97, 108, 115, 101]⟩ (by omega)
 rw [show isTk l i 3 (bs ⟨#[102, 97, 108, 115, 101]⟩) = true from h_false] at hI
 have HC := Lib.hid hI
 clear hI
 go_wp2_with fail
 refine (HC.out).mono ?_
 rintro e w' ⟨rfl, hww⟩
 rw [hww]
 clear hww
 clear HC
 obtain ⟨⟨v0, z0⟩, ⟨v1, z1⟩, ⟨v2, z2⟩, ⟨v3, z3⟩, ⟨v4, z4⟩, v5, z5⟩ := cells6 X6.out
 have l6 : b6 < w1.heap.size := lt_of_heap X6.out
 clear hcell hc ht hk
 go_wp2_with fail
 clear v0 v1 v2 v3 v4 v5 z0 z1 z2 z3 z4 z5 l6
 refine bodyPost_ret (results_cell_row (t := 140) (fr := (0, 0)) rfl _ _ b6 _ _ rfl (res6 X6.out) Tryz.underlying140 rfl (by kernel_rfl)) rfl ?_
 rw [HF.out]
 exact gq_end (r := .ok (tmBool 0) (i + 1)) (A' := none) (c' := 0) _ _ _ _ _ _ HB6.out (TmVS.leaf (Nat.zero_le _)) HB.out
set_option maxRecDepth 100000 in
set_option maxHeartbeats 16000000 in
theorem rpunit_next_no1 (A : Option Addr) (c d : Nat) (l : List Tok) (i : Nat) (w : World) (h_minus : isTk l i 4 [45] = false) (h_true : isTk l i 3 [116, 114, 117, 101] = false) (h_false : isTk l i 3 [102, 97, 108, 115, 101] = false) (h_next : isTk l i 3 [110, 101, 120, 116] = true) (hop : isTk l (i + 1) 4 [40] = false) (hi : i ≤ l.length) (hP : TokIn w A c l) :
 Calls Tryz.prog 229 #[.slice A l.length c, .int .i64 (i : Nat), .int .i64 (d : Nat)] w (GQ w (.bad (i + 1) 16)) := by
 obtain ⟨n, b6, w1, F, hlen, hlc, hcm, hs1, X6, HB, HP, HP1, HS, HI, HF, HN, HB6, HW1⟩ := rset A c l w hP (GQ w (.bad (i + 1) 16))
 rw [← HF.out, ← HN.out]
 rw [← HN.out] at hi
 clear hP
 obtain ⟨t, ht, hk, -⟩ := isTk_some h_next
 obtain ⟨b, off, rfl, hb, hil, hbw, hk0, hk1, hc, hcell⟩ := rtok HP HB HN ht
 have x0 := hcell i t ht 0 (by omega)
 have y0 := hc i t ht 0 (by omega)
 simp only [tokV, Nat.add_zero] at x0 y0
 rw [hk] at x0 y0
 go_enter Tryz.func229, Tryz.ntmps229
 have hI := HS.out i ⟨#[45]⟩ (by omega)
 rw [show isTk l i 4 (bs ⟨#[45]⟩) = false from h_minus] at hI
 have HC := Lib.hid hI
 clear hI
 go_wp2_with fail
 rw [← HW1.out]
 try rw [← HB6.out]
 refine (HC.out).mono ?_
 rintro e w' ⟨rfl, hww⟩
 rw [hww]
 clear hww
 clear HC
 have hI := HI.out i 3 ⟨#[116, 114, 117, 101]⟩ (by omega)
 rw [show isTk l i 3 (bs ⟨#[116, 114, 117, 101]⟩) = false from h_true] at hI
 have HC := Lib.hid hI
 clear hI
 go_wp2_with fail
 refine (HC.out).mono ?_
 rintro e w' ⟨rfl, hww⟩
 rw [hww]
 clear hww
 clear HC
 have hI := HI.out i 3 ⟨#[102, 97, 108, 115, 101]⟩ (by omega)
 rw [show isTk l i 3 (bs ⟨#[102, 97, 108, 115, 101]⟩) = false from h_false] at hI
 have HC := Lib.hid hI
 clear hI
 go_wp2_with fail
 refine (HC.out).mono ?_
 rintro e w' ⟨rfl, hww⟩
 rw [hww]
 clear hww
 clear HC
 have hI := HI.out i 3 ⟨#[110, 101, 120, 116]⟩ (by omega)
 rw [show isTk l i 3 (bs ⟨#[110, 101, 120, 116]⟩) = true from h_next] at hI
 have HC := Lib.hid hI
 clear hI
 go_wp2_with fail
 refine (HC.out).mono ?_
 rintro e w' ⟨rfl, hww⟩
 rw [hww]
 clear hww
 clear HC
 clear hcell hc ht hk
 have hI := HS.out (i + 1) ⟨#[40]⟩ (by omega)
 rw [show isTk l (i + 1) 4 (bs ⟨#[40]⟩) = false from hop, show ((i + 1 : Nat) : Int) = (i : Int) + 1 from by omega] at hI
 have HC := Lib.hid hI
 clear hI
 go_wp2_with fail
 refine (HC.out).mono ?_
 rintro e w' ⟨rfl, hww⟩
 rw [hww]
 clear hww
 clear HC
 have hcf := rpfail_any (i + 1) 16 w1
 rw [show ((i + 1 : Nat) : Int) = (i : Int) + 1 from by omega] at hcf
 have HC := Lib.hid hcf
 clear hcf
 go_wp2_with fail
 refine (HC.out).mono ?_
 intro e w2 hq
 obtain ⟨A', c', rfl, hV, hb2⟩ := gq_bad.1 hq
 have X62 := Lib.hid ((hb2.block b6 (lt_of_heap X6.out)).trans X6.out)
 have HB2 := Lib.hid (HB.out.trans (hb2.mono HB.out.size))
 have HV : Hid (TmVS (fun q => w.heap.size < q) w2 A' c' zeroTm) := hV.keep KeepS.refl (fun q _ h => by have := HB6.out; omega)
 obtain ⟨⟨v0, z0⟩, ⟨v1, z1⟩, ⟨v2, z2⟩, ⟨v3, z3⟩, ⟨v4, z4⟩, v5, z5⟩ := cells6 X62.out
 have l6 : b6 < w2.heap.size := lt_of_heap X62.out
 clear hq hV hb2 HC
 go_wp2_with fail
 clear v0 v1 v2 v3 v4 v5 z0 z1 z2 z3 z4 z5 l6
 refine bodyPost_ret (results_cell_row (t := 140) (fr := (0, 0)) rfl _ _ b6 _ _ rfl (res6 X62.out) Tryz.underlying140 rfl (by kernel_rfl)) rfl ?_
 rw [HF.out]
 exact gq_end (r := .bad (i + 1) 16) (A' := A') (c' := c') _ _ _ _ _ _ HB6.out HV.out HB2.out
set_option maxRecDepth 100000 in
set_option maxHeartbeats 16000000 in
theorem rpunit_next_no2a (A : Option Addr) (c d : Nat) (l : List Tok) (i : Nat) (w : World) (h_minus : isTk l i 4 [45] = false) (h_true : isTk l i 3 [116, 114, 117, 101] = false) (h_false : isTk l i 3 [102, 97, 108, 115, 101] = false) (h_next : isTk l i 3 [110, 101, 120, 116] = true) (hop : isTk l (i + 1) 4 [40] = true) (hge : l.length ≤ i + 2) (hi : i ≤ l.length) (hP : TokIn w A c l) :
 Calls Tryz.prog 229 #[.slice A l.length c, .int .i64 (i : Nat), .int .i64 (d : Nat)] w (GQ w (.bad (i + 2) 16)) := by
 obtain ⟨n, b6, w1, F, hlen, hlc, hcm, hs1, X6, HB, HP, HP1, HS, HI, HF, HN, HB6, HW1⟩ := rset A c l w hP (GQ w (.bad (i + 2) 16))
 rw [← HF.out, ← HN.out]
 rw [← HN.out] at hi
 clear hP
 obtain ⟨t, ht, hk, -⟩ := isTk_some h_next
 obtain ⟨b, off, rfl, hb, hil, hbw, hk0, hk1, hc, hcell⟩ := rtok HP HB HN ht
 have x0 := hcell i t ht 0 (by omega)
 have y0 := hc i t ht 0 (by omega)
 simp only [tokV, Nat.add_zero] at x0 y0
 rw [hk] at x0 y0
 go_enter Tryz.func229, Tryz.ntmps229
 have hI := HS.out i ⟨#[45]⟩ (by omega)
 rw [show isTk l i 4 (bs ⟨#[45]⟩) = false from h_minus] at hI
 have HC := Lib.hid hI
 clear hI
 go_wp2_with fail
 rw [← HW1.out]
 try rw [← HB6.out]
 refine (HC.out).mono ?_
 rintro e w' ⟨rfl, hww⟩
 rw [hww]
 clear hww
 clear HC
 have hI := HI.out i 3 ⟨#[116, 114, 117, 101]⟩ (by omega)
 rw [show isTk l i 3 (bs ⟨#[116, 114, 117, 101]⟩) = false from h_true] at hI
 have HC := Lib.hid hI
 clear hI
 go_wp2_with fail
 refine (HC.out).mono ?_
 rintro e w' ⟨rfl, hww⟩
 rw [hww]
 clear hww
 clear HC
 have hI := HI.out i 3 ⟨#[102, 97, 108, 115, 101]⟩ (by omega)
 rw [show isTk l i 3 (bs ⟨#[102, 97, 108, 115, 101]⟩) = false from h_false] at hI
 have HC := Lib.hid hI
 clear hI
 go_wp2_with fail
 refine (HC.out).mono ?_
 rintro e w' ⟨rfl, hww⟩
 rw [hww]
 clear hww
 clear HC
 have hI := HI.out i 3 ⟨#[110, 101, 120, 116]⟩ (by omega)
 rw [show isTk l i 3 (bs ⟨#[110, 101, 120, 116]⟩) = true from h_next] at hI
 have HC := Lib.hid hI
 clear hI
 go_wp2_with fail
 refine (HC.out).mono ?_
 rintro e w' ⟨rfl, hww⟩
 rw [hww]
 clear hww
 clear HC
 have hil1 := isTk_lt hop
 have hnn : (n : Int) ≤ (i : Int) + 2 := by have := HN.out; omega
 clear hcell hc ht hk hge
 have hI := HS.out (i + 1) ⟨#[40]⟩ (by omega)
 rw [show isTk l (i + 1) 4 (bs ⟨#[40]⟩) = true from hop, show ((i + 1 : Nat) : Int) = (i : Int) + 1 from by omega] at hI
 have HC := Lib.hid hI
 clear hI
 go_wp2_with fail
 refine (HC.out).mono ?_
 rintro e w' ⟨rfl, hww⟩
 rw [hww]
 clear hww
 clear HC
 have hcf := rpfail_any (i + 2) 16 w1
 rw [show ((i + 2 : Nat) : Int) = (i : Int) + 2 from by omega] at hcf
 have HC := Lib.hid hcf
 clear hcf
 go_wp2_with fail
 refine (HC.out).mono ?_
 intro e w2 hq
 obtain ⟨A', c', rfl, hV, hb2⟩ := gq_bad.1 hq
 have X62 := Lib.hid ((hb2.block b6 (lt_of_heap X6.out)).trans X6.out)
 have HB2 := Lib.hid (HB.out.trans (hb2.mono HB.out.size))
 have HV : Hid (TmVS (fun q => w.heap.size < q) w2 A' c' zeroTm) := hV.keep KeepS.refl (fun q _ h => by have := HB6.out; omega)
 obtain ⟨⟨v0, z0⟩, ⟨v1, z1⟩, ⟨v2, z2⟩, ⟨v3, z3⟩, ⟨v4, z4⟩, v5, z5⟩ := cells6 X62.out
 have l6 : b6 < w2.heap.size := lt_of_heap X62.out
 clear hq hV hb2 HC
 go_wp2_with fail
 clear v0 v1 v2 v3 v4 v5 z0 z1 z2 z3 z4 z5 l6
 refine bodyPost_ret (results_cell_row (t := 140) (fr := (0, 0)) rfl _ _ b6 _ _ rfl (res6 X62.out) Tryz.underlying140 rfl (by kernel_rfl)) rfl ?_
 rw [HF.out]
 exact gq_end (r := .bad (i + 2) 16) (A' := A') (c' := c') _ _ _ _ _ _ HB6.out HV.out HB2.out
set_option maxRecDepth 100000 in
set_option maxHeartbeats 16000000 in
theorem rpunit_next_no2b (A : Option Addr) (c d : Nat) (l : List Tok) (i : Nat) (w : World) (h_minus : isTk l i 4 [45] = false) (h_true : isTk l i 3 [116, 114, 117, 101] = false) (h_false : isTk l i 3 [102, 97, 108, 115, 101] = false) (h_next : isTk l i 3 [110, 101, 120, 116] = true) (hop : isTk l (i + 1) 4 [40] = true) (t3 : Tok) (htt3 : l[i + 2]? = some t3) (hkt3 : t3.kind ≠ 2) (hi : i ≤ l.length) (hP : TokIn w A c l) :
 Calls Tryz.prog 229 #[.slice A l.length c, .int .i64 (i : Nat), .int .i64 (d : Nat)] w (GQ w (.bad (i + 2) 16)) := by
 obtain ⟨n, b6, w1, F, hlen, hlc, hcm, hs1, X6, HB, HP, HP1, HS, HI, HF, HN, HB6, HW1⟩ := rset A c l w hP (GQ w (.bad (i + 2) 16))
 rw [← HF.out, ← HN.out]
 rw [← HN.out] at hi
 clear hP
 obtain ⟨t, ht, hk, -⟩ := isTk_some h_next
 obtain ⟨b, off, rfl, hb, hil, hbw, hk0, hk1, hc, hcell⟩ := rtok HP HB HN ht
 have x0 := hcell i t ht 0 (by omega)
 have y0 := hc i t ht 0 (by omega)
 simp only [tokV, Nat.add_zero] at x0 y0
 rw [hk] at x0 y0
 go_enter Tryz.func229, Tryz.ntmps229
 have hI := HS.out i ⟨#[45]⟩ (by omega)
 rw [show isTk l i 4 (bs ⟨#[45]⟩) = false from h_minus] at hI
 have HC := Lib.hid hI
 clear hI
 go_wp2_with fail
 rw [← HW1.out]
 try rw [← HB6.out]
 refine (HC.out).mono ?_
 rintro e w' ⟨rfl, hww⟩
 rw [hww]
 clear hww
 clear HC
 have hI := HI.out i 3 ⟨#[116, 114, 117, 101]⟩ (by omega)
 rw [show isTk l i 3 (bs ⟨#[116, 114, 117, 101]⟩) = false from h_true] at hI
 have HC := Lib.hid hI
 clear hI
 go_wp2_with fail
 refine (HC.out).mono ?_
 rintro e w' ⟨rfl, hww⟩
 rw [hww]
 clear hww
 clear HC
 have hI := HI.out i 3 ⟨#[102, 97, 108, 115, 101]⟩ (by omega)
 rw [show isTk l i 3 (bs ⟨#[102, 97, 108, 115, 101]⟩) = false from h_false] at hI
 have HC := Lib.hid hI
 clear hI
 go_wp2_with fail
 refine (HC.out).mono ?_
 rintro e w' ⟨rfl, hww⟩
 rw [hww]
 clear hww
 clear HC
 have hI := HI.out i 3 ⟨#[110, 101, 120, 116]⟩ (by omega)
 rw [show isTk l i 3 (bs ⟨#[110, 101, 120, 116]⟩) = true from h_next] at hI
 have HC := Lib.hid hI
 clear hI
 go_wp2_with fail
 refine (HC.out).mono ?_
 rintro e w' ⟨rfl, hww⟩
 rw [hww]
 clear hww
 clear HC
 have hil2 : i + 2 < n := by rw [HN.out]; exact (List.getElem?_eq_some_iff.1 htt3).1
 have t3x0 := hcell (i + 2) t3 htt3 0 (by omega)
 simp only [tokV, Nat.add_zero] at t3x0
 have hkb : (t3.kind != 2) = true := by simpa using hkt3
 have hk20 : (0 : Int) ≤ (i : Int) + 2 := by omega
 have hk21 : (i : Int) + 2 < (n : Int) := by omega
 have htn2 : ((i : Int) + 2).toNat = i + 2 := by omega
 have hnn : ¬ (n : Int) ≤ (i : Int) + 2 := by omega
 clear hcell hc ht hk htt3 hkt3
 have hI := HS.out (i + 1) ⟨#[40]⟩ (by omega)
 rw [show isTk l (i + 1) 4 (bs ⟨#[40]⟩) = true from hop, show ((i + 1 : Nat) : Int) = (i : Int) + 1 from by omega] at hI
 have HC := Lib.hid hI
 clear hI
 go_wp2_with fail
 refine (HC.out).mono ?_
 rintro e w' ⟨rfl, hww⟩
 rw [hww]
 clear hww
 clear HC
 have hcf := rpfail_any (i + 2) 16 w1
 rw [show ((i + 2 : Nat) : Int) = (i : Int) + 2 from by omega] at hcf
 have HC := Lib.hid hcf
 clear hcf
 go_wp2_with fail
 refine (HC.out).mono ?_
 intro e w2 hq
 obtain ⟨A', c', rfl, hV, hb2⟩ := gq_bad.1 hq
 have X62 := Lib.hid ((hb2.block b6 (lt_of_heap X6.out)).trans X6.out)
 have HB2 := Lib.hid (HB.out.trans (hb2.mono HB.out.size))
 have HV : Hid (TmVS (fun q => w.heap.size < q) w2 A' c' zeroTm) := hV.keep KeepS.refl (fun q _ h => by have := HB6.out; omega)
 obtain ⟨⟨v0, z0⟩, ⟨v1, z1⟩, ⟨v2, z2⟩, ⟨v3, z3⟩, ⟨v4, z4⟩, v5, z5⟩ := cells6 X62.out
 have l6 : b6 < w2.heap.size := lt_of_heap X62.out
 clear hq hV hb2 HC
 go_wp2_with fail
 clear v0 v1 v2 v3 v4 v5 z0 z1 z2 z3 z4 z5 l6
 refine bodyPost_ret (results_cell_row (t := 140) (fr := (0, 0)) rfl _ _ b6 _ _ rfl (res6 X62.out) Tryz.underlying140 rfl (by kernel_rfl)) rfl ?_
 rw [HF.out]
 exact gq_end (r := .bad (i + 2) 16) (A' := A') (c' := c') _ _ _ _ _ _ HB6.out HV.out HB2.out
set_option maxRecDepth 100000 in
set_option maxHeartbeats 16000000 in
theorem rpunit_next_no3 (A : Option Addr) (c d : Nat) (l : List Tok) (i : Nat) (w : World) (h_minus : isTk l i 4 [45] = false) (h_true : isTk l i 3 [116, 114, 117, 101] = false) (h_false : isTk l i 3 [102, 97, 108, 115, 101] = false) (h_next : isTk l i 3 [110, 101, 120, 116] = true) (hop : isTk l (i + 1) 4 [40] = true) (t3 : Tok) (htt3 : l[i + 2]? = some t3) (hkt3 : t3.kind = 2) (hcl : isTk l (i + 3) 4 [41] = false) (hi : i ≤ l.length) (hP : TokIn w A c l) :
 Calls Tryz.prog 229 #[.slice A l.length c, .int .i64 (i : Nat), .int .i64 (d : Nat)] w (GQ w (.bad (i + 3) 16)) := by
 obtain ⟨n, b6, w1, F, hlen, hlc, hcm, hs1, X6, HB, HP, HP1, HS, HI, HF, HN, HB6, HW1⟩ := rset A c l w hP (GQ w (.bad (i + 3) 16))
 rw [← HF.out, ← HN.out]
 rw [← HN.out] at hi
 clear hP
 obtain ⟨t, ht, hk, -⟩ := isTk_some h_next
 obtain ⟨b, off, rfl, hb, hil, hbw, hk0, hk1, hc, hcell⟩ := rtok HP HB HN ht
 have x0 := hcell i t ht 0 (by omega)
 have y0 := hc i t ht 0 (by omega)
 simp only [tokV, Nat.add_zero] at x0 y0
 rw [hk] at x0 y0
 go_enter Tryz.func229, Tryz.ntmps229
 have hI := HS.out i ⟨#[45]⟩ (by omega)
 rw [show isTk l i 4 (bs ⟨#[45]⟩) = false from h_minus] at hI
 have HC := Lib.hid hI
 clear hI
 go_wp2_with fail
 rw [← HW1.out]
 try rw [← HB6.out]
 refine (HC.out).mono ?_
 rintro e w' ⟨rfl, hww⟩
 rw [hww]
 clear hww
 clear HC
 have hI := HI.out i 3 ⟨#[116, 114, 117, 101]⟩ (by omega)
 rw [show isTk l i 3 (bs ⟨#[116, 114, 117, 101]⟩) = false from h_true] at hI
 have HC := Lib.hid hI
 clear hI
 go_wp2_with fail
 refine (HC.out).mono ?_
 rintro e w' ⟨rfl, hww⟩
 rw [hww]
 clear hww
 clear HC
 have hI := HI.out i 3 ⟨#[102, 97, 108, 115, 101]⟩ (by omega)
 rw [show isTk l i 3 (bs ⟨#[102, 97, 108, 115, 101]⟩) = false from h_false] at hI
 have HC := Lib.hid hI
 clear hI
 go_wp2_with fail
 refine (HC.out).mono ?_
 rintro e w' ⟨rfl, hww⟩
 rw [hww]
 clear hww
 clear HC
 have hI := HI.out i 3 ⟨#[110, 101, 120, 116]⟩ (by omega)
 rw [show isTk l i 3 (bs ⟨#[110, 101, 120, 116]⟩) = true from h_next] at hI
 have HC := Lib.hid hI
 clear hI
 go_wp2_with fail
 refine (HC.out).mono ?_
 rintro e w' ⟨rfl, hww⟩
 rw [hww]
 clear hww
 clear HC
 have hil2 : i + 2 < n := by rw [HN.out]; exact (List.getElem?_eq_some_iff.1 htt3).1
 have t3x0 := hcell (i + 2) t3 htt3 0 (by omega)
 simp only [tokV, Nat.add_zero] at t3x0
 rw [hkt3] at t3x0
 have hk20 : (0 : Int) ≤ (i : Int) + 2 := by omega
 have hk21 : (i : Int) + 2 < (n : Int) := by omega
 have htn2 : ((i : Int) + 2).toNat = i + 2 := by omega
 have hnn : ¬ (n : Int) ≤ (i : Int) + 2 := by omega
 clear hcell hc ht hk htt3 hkt3
 have hI := HS.out (i + 1) ⟨#[40]⟩ (by omega)
 rw [show isTk l (i + 1) 4 (bs ⟨#[40]⟩) = true from hop, show ((i + 1 : Nat) : Int) = (i : Int) + 1 from by omega] at hI
 have HC := Lib.hid hI
 clear hI
 go_wp2_with fail
 refine (HC.out).mono ?_
 rintro e w' ⟨rfl, hww⟩
 rw [hww]
 clear hww
 clear HC
 have hI := HS.out (i + 3) ⟨#[41]⟩ (by omega)
 rw [show isTk l (i + 3) 4 (bs ⟨#[41]⟩) = false from hcl, show ((i + 3 : Nat) : Int) = (i : Int) + 3 from by omega] at hI
 have HC := Lib.hid hI
 clear hI
 go_wp2_with fail
 refine (HC.out).mono ?_
 rintro e w' ⟨rfl, hww⟩
 rw [hww]
 clear hww
 clear HC
 have hcf := rpfail_any (i + 3) 16 w1
 rw [show ((i + 3 : Nat) : Int) = (i : Int) + 3 from by omega] at hcf
 have HC := Lib.hid hcf
 clear hcf
 go_wp2_with fail
 refine (HC.out).mono ?_
 intro e w2 hq
 obtain ⟨A', c', rfl, hV, hb2⟩ := gq_bad.1 hq
 have X62 := Lib.hid ((hb2.block b6 (lt_of_heap X6.out)).trans X6.out)
 have HB2 := Lib.hid (HB.out.trans (hb2.mono HB.out.size))
 have HV : Hid (TmVS (fun q => w.heap.size < q) w2 A' c' zeroTm) := hV.keep KeepS.refl (fun q _ h => by have := HB6.out; omega)
 obtain ⟨⟨v0, z0⟩, ⟨v1, z1⟩, ⟨v2, z2⟩, ⟨v3, z3⟩, ⟨v4, z4⟩, v5, z5⟩ := cells6 X62.out
 have l6 : b6 < w2.heap.size := lt_of_heap X62.out
 clear hq hV hb2 HC
 go_wp2_with fail
 clear v0 v1 v2 v3 v4 v5 z0 z1 z2 z3 z4 z5 l6
 refine bodyPost_ret (results_cell_row (t := 140) (fr := (0, 0)) rfl _ _ b6 _ _ rfl (res6 X62.out) Tryz.underlying140 rfl (by kernel_rfl)) rfl ?_
 rw [HF.out]
 exact gq_end (r := .bad (i + 3) 16) (A' := A') (c' := c') _ _ _ _ _ _ HB6.out HV.out HB2.out
set_option maxRecDepth 100000 in
set_option maxHeartbeats 16000000 in
theorem rpunit_next_yes (A : Option Addr) (c d : Nat) (l : List Tok) (i : Nat) (w : World) (h_minus : isTk l i 4 [45] = false) (h_true : isTk l i 3 [116, 114, 117, 101] = false) (h_false : isTk l i 3 [102, 97, 108, 115, 101] = false) (h_next : isTk l i 3 [110, 101, 120, 116] = true) (hop : isTk l (i + 1) 4 [40] = true) (t3 : Tok) (htt3 : l[i + 2]? = some t3) (hkt3 : t3.kind = 2) (hcl : isTk l (i + 3) 4 [41] = true) (hi : i ≤ l.length) (hP : TokIn w A c l) :
 Calls Tryz.prog 229 #[.slice A l.length c, .int .i64 (i : Nat), .int .i64 (d : Nat)] w (GQ w (.ok (tmName 4 t3.text) (i + 4))) := by
 obtain ⟨n, b6, w1, F, hlen, hlc, hcm, hs1, X6, HB, HP, HP1, HS, HI, HF, HN, HB6, HW1⟩ := rset A c l w hP (GQ w (.ok (tmName 4 t3.text) (i + 4)))
 rw [← HF.out, ← HN.out]
 rw [← HN.out] at hi
 clear hP
 obtain ⟨t, ht, hk, -⟩ := isTk_some h_next
 obtain ⟨b, off, rfl, hb, hil, hbw, hk0, hk1, hc, hcell⟩ := rtok HP HB HN ht
 have x0 := hcell i t ht 0 (by omega)
 have y0 := hc i t ht 0 (by omega)
 simp only [tokV, Nat.add_zero] at x0 y0
 rw [hk] at x0 y0
 go_enter Tryz.func229, Tryz.ntmps229
 have hI := HS.out i ⟨#[45]⟩ (by omega)
 rw [show isTk l i 4 (bs ⟨#[45]⟩) = false from h_minus] at hI
 have HC := Lib.hid hI
 clear hI
 go_wp2_with fail
 rw [← HW1.out]
 try rw [← HB6.out]
 refine (HC.out).mono ?_
 rintro e w' ⟨rfl, hww⟩
 rw [hww]
 clear hww
 clear HC
 have hI := HI.out i 3 ⟨#[116, 114, 117, 101]⟩ (by omega)
 rw [show isTk l i 3 (bs ⟨#[116, 114, 117, 101]⟩) = false from h_true] at hI
 have HC := Lib.hid hI
 clear hI
 go_wp2_with fail
 refine (HC.out).mono ?_
 rintro e w' ⟨rfl, hww⟩
 rw [hww]
 clear hww
 clear HC
 have hI := HI.out i 3 ⟨#[102, 97, 108, 115, 101]⟩ (by omega)
 rw [show isTk l i 3 (bs ⟨#[102, 97, 108, 115, 101]⟩) = false from h_false] at hI
 have HC := Lib.hid hI
 clear hI
 go_wp2_with fail
 refine (HC.out).mono ?_
 rintro e w' ⟨rfl, hww⟩
 rw [hww]
 clear hww
 clear HC
 have hI := HI.out i 3 ⟨#[110, 101, 120, 116]⟩ (by omega)
 rw [show isTk l i 3 (bs ⟨#[110, 101, 120, 116]⟩) = true from h_next] at hI
 have HC := Lib.hid hI
 clear hI
 go_wp2_with fail
 refine (HC.out).mono ?_
 rintro e w' ⟨rfl, hww⟩
 rw [hww]
 clear hww
 clear HC
 have hil2 : i + 2 < n := by rw [HN.out]; exact (List.getElem?_eq_some_iff.1 htt3).1
 have t3x0 := hcell (i + 2) t3 htt3 0 (by omega)
 have t3x2 := hcell (i + 2) t3 htt3 2 (by omega)
 simp only [tokV, Nat.add_zero] at t3x0 t3x2
 rw [hkt3] at t3x0
 have hk20 : (0 : Int) ≤ (i : Int) + 2 := by omega
 have hk21 : (i : Int) + 2 < (n : Int) := by omega
 have htn2 : ((i : Int) + 2).toNat = i + 2 := by omega
 have hnn : ¬ (n : Int) ≤ (i : Int) + 2 := by omega
 have HTX := Lib.hid (HP.out.txt t3 (List.mem_of_getElem? htt3))
 obtain ⟨⟨v0, z0⟩, ⟨v1, z1⟩, ⟨v2, z2⟩, ⟨v3, z3⟩, ⟨v4, z4⟩, v5, z5⟩ := cells6 X6.out
 have l6 : b6 < w1.heap.size := lt_of_heap X6.out
 clear hcell hc ht hk htt3 hkt3
 have hI := HS.out (i + 1) ⟨#[40]⟩ (by omega)
 rw [show isTk l (i + 1) 4 (bs ⟨#[40]⟩) = true from hop, show ((i + 1 : Nat) : Int) = (i : Int) + 1 from by omega] at hI
 have HC := Lib.hid hI
 clear hI
 go_wp2_with fail
 refine (HC.out).mono ?_
 rintro e w' ⟨rfl, hww⟩
 rw [hww]
 clear hww
 clear HC
 have hI := HS.out (i + 3) ⟨#[41]⟩ (by omega)
 rw [show isTk l (i + 3) 4 (bs ⟨#[41]⟩) = true from hcl, show ((i + 3 : Nat) : Int) = (i : Int) + 3 from by omega] at hI
 have HC := Lib.hid hI
 clear hI
 go_wp2_with fail
 refine (HC.out).mono ?_
 rintro e w' ⟨rfl, hww⟩
 rw [hww]
 clear hww
 clear HC
 go_wp2_with fail
 clear v0 v1 v2 v3 v4 v5 z0 z1 z2 z3 z4 z5 l6
 refine bodyPost_ret (results_cell_row (t := 140) (fr := (0, 0)) rfl _ _ b6 _ _ rfl (res6 X6.out) Tryz.underlying140 rfl (by kernel_rfl)) rfl ?_
 rw [HF.out]
 exact gq_end (r := .ok (tmName 4 t3.text) (i + 4)) (A' := none) (c' := 0) _ _ _ _ _ _ HB6.out (TmVS.leaf (by have := HTX.out; show t3.text.toArray.size ≤ _; unfold maxLen; simp; omega)) HB.out
end Go.Proofs.YtnbphgeepnknlaaGreatDoor
