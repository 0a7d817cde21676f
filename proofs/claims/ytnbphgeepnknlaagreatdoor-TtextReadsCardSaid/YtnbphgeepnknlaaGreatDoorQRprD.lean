/- Walks: the reference's choice; its unit at (, if, none of all. -/
import Derived.Test.YtnbphgeepnknlaaGreatDoorQRprC
namespace Go.Proofs.YtnbphgeepnknlaaGreatDoor
open Go.RowKit
set_option linter.unusedVariables false

theorem gq_enda {w W : World} {b6 : Nat} {r : Rs Tm} {A' : Option Addr} {c' : Nat} (v0 v1 v2 v3 v4 v5 : Value) (o : Obj) (hb : b6 = w.heap.size) (hV : TmVS (fun q => w.heap.size < q) W A' c' (gotT r)) (hB : Below w.heap.size w W) :
 GQ w r (.returned (.agg #[.int .i64 (gotT r).op, .int .i64 (gotT r).num, .string (gotT r).name, .slice A' (gotT r).kids.length c', .int .i64 (gotI r : Nat), .int .i64 (gotE r)])) (((((((W.setCell ⟨b6, 0, none⟩ v0).setCell ⟨b6, 1, none⟩ v1).setCell ⟨b6, 2, none⟩ v2).setCell ⟨b6, 3, none⟩ v3).setCell ⟨b6, 4, none⟩ v4).setCell ⟨b6, 5, none⟩ v5).alloc o) := by
 obtain ⟨A2, c2, he, hv, hb2⟩ := gq_end v0 v1 v2 v3 v4 v5 hb hV hB
 have hs := hb2.size
 exact ⟨A2, c2, he, hv.keep (KeepS.of_below ((Below.refl _ _).alloc (Nat.le_refl _) _)) (fun _ _ h => h), hb2.alloc hs o⟩
/-- The end of a parser whose result's row is made last. -/
theorem gq_endr {w W : World} {b6 j : Nat} {op : Int} (acc : List TmE) (v0 v1 v2 v3 v4 v5 : Value) (o : Obj) (hb : b6 = w.heap.size) (hn : acc.length ≤ 3) (hV : ∀ e ∈ acc, TmVS (fun q => w.heap.size < q) W e.A e.c e.t) (hB : Below w.heap.size w W) :
 GQ w (.ok (tmOf op (acc.map TmE.t)) j) (.returned (.agg #[.int .i64 op, .int .i64 0, .string ⟨#[]⟩, .slice (some ⟨W.heap.size + 1, 0, none⟩) acc.length acc.length, .int .i64 (j : Nat), .int .i64 0])) ((((((((W.setCell ⟨b6, 0, none⟩ v0).setCell ⟨b6, 1, none⟩ v1).setCell ⟨b6, 2, none⟩ v2).setCell ⟨b6, 3, none⟩ v3).setCell ⟨b6, 4, none⟩ v4).setCell ⟨b6, 5, none⟩ v5).alloc o).alloc (.cells (flatE acc).toArray 25)) := by
 have h0 : w.heap.size ≤ b6 := by omega
 have hWB : Below w.heap.size w ((((((W.setCell ⟨b6, 0, none⟩ v0).setCell ⟨b6, 1, none⟩ v1).setCell ⟨b6, 2, none⟩ v2).setCell ⟨b6, 3, none⟩ v3).setCell ⟨b6, 4, none⟩ v4).setCell ⟨b6, 5, none⟩ v5) :=
  ((((((Only.of_below (F := fun q => w.heap.size ≤ q) hB).setF h0 _).setF h0 _).setF h0 _).setF h0 _).setF h0 _).setF h0 _ |>.below (fun q h => h) (Nat.le_refl _)
 have hk0 : KeepS (fun q => w.heap.size < q) W ((((((W.setCell ⟨b6, 0, none⟩ v0).setCell ⟨b6, 1, none⟩ v1).setCell ⟨b6, 2, none⟩ v2).setCell ⟨b6, 3, none⟩ v3).setCell ⟨b6, 4, none⟩ v4).setCell ⟨b6, 5, none⟩ v5) := (((((KeepS.refl.set (by omega) _).set (by omega) _).set (by omega) _).set (by omega) _).set (by omega) _).set (by omega) _
 have hsz : (((((((W.setCell ⟨b6, 0, none⟩ v0).setCell ⟨b6, 1, none⟩ v1).setCell ⟨b6, 2, none⟩ v2).setCell ⟨b6, 3, none⟩ v3).setCell ⟨b6, 4, none⟩ v4).setCell ⟨b6, 5, none⟩ v5).alloc o).heap.size = W.heap.size + 1 := by simp
 obtain ⟨W1, hW1⟩ : ∃ W1, W1 = (((((W.setCell ⟨b6, 0, none⟩ v0).setCell ⟨b6, 1, none⟩ v1).setCell ⟨b6, 2, none⟩ v2).setCell ⟨b6, 3, none⟩ v3).setCell ⟨b6, 4, none⟩ v4).setCell ⟨b6, 5, none⟩ v5 := ⟨_, rfl⟩
 rw [← hW1] at hWB hk0 hsz ⊢
 have hb1 : Below W1.heap.size W1 (W1.alloc o) := (Below.refl _ _).alloc (Nat.le_refl _) _
 have hb2 : Below (W1.alloc o).heap.size (W1.alloc o) ((W1.alloc o).alloc (.cells (flatE acc).toArray 25)) := (Below.refl _ _).alloc (Nat.le_refl _) _
 have hrow := heap_alloc_new (W1.alloc o) (.cells (flatE acc).toArray 25)
 rw [hsz] at hrow
 have hgl := lt_of_heap hrow
 have hk : KeepS (fun q => w.heap.size < q) W ((W1.alloc o).alloc (.cells (flatE acc).toArray 25)) := (hk0.trans (KeepS.of_below hb1)).trans (KeepS.of_below hb2)
 have hWs := hWB.size
 have hs0 := hB.size
 have hs1 := hb1.size
 have hlen : (acc.map TmE.t).length = acc.length := List.length_map _
 refine ⟨some ⟨W.heap.size + 1, 0, none⟩, acc.length, ?_, ⟨by show (acc.map TmE.t).length ≤ _; rw [hlen]; exact Nat.le_refl _, by unfold maxLen; omega, Nat.zero_le _, .inr ⟨W.heap.size + 1, 0, rfl, by omega, hgl, ?_⟩⟩, (hWB.trans (hb1.mono hWs)).trans (hb2.mono (by omega))⟩
 · show Ending.returned (.agg #[.int .i64 op, .int .i64 0, .string ⟨#[]⟩, .slice (some ⟨W.heap.size + 1, 0, none⟩) acc.length acc.length, .int .i64 (j : Nat), .int .i64 0]) = .returned (.agg #[.int .i64 op, .int .i64 0, .string ⟨#[]⟩, .slice (some ⟨W.heap.size + 1, 0, none⟩) (acc.map TmE.t).length acc.length, .int .i64 (j : Nat), .int .i64 0])
   rw [hlen]
 · refine row_of_cells acc 0 (fun k v hv => ?_) (fun e he => (hV e he).keep hk (fun q _ h => Nat.le_of_lt h))
   rw [Nat.zero_add, cell_of_row _ _ k _ _ (0, 0) hrow]
   simpa using hv
set_option maxRecDepth 100000 in
set_option maxHeartbeats 16000000 in
theorem rpunit_open256 (A : Option Addr) (c d : Nat) (l : List Tok) (i : Nat) (w : World) (h_minus : isTk l i 4 [45] = false) (h_true : isTk l i 3 [116, 114, 117, 101] = false) (h_false : isTk l i 3 [102, 97, 108, 115, 101] = false) (h_next : isTk l i 3 [110, 101, 120, 116] = false) (h_open : isTk l i 4 [40] = true) (hd : d = 256) (hi : i ≤ l.length) (hP : TokIn w A c l) :
 Calls Tryz.prog 229 #[.slice A l.length c, .int .i64 (i : Nat), .int .i64 (d : Nat)] w (GQ w (.bad i 17)) := by
 obtain ⟨n, b6, w1, F, hlen, hlc, hcm, hs1, X6, HB, HP, HP1, HS, HI, HF, HN, HB6, HW1⟩ := rset A c l w hP (GQ w (.bad i 17))
 rw [← HF.out, ← HN.out]
 rw [← HN.out] at hi
 clear hP
 obtain ⟨t, ht, hk, -⟩ := isTk_some h_open
 obtain ⟨b, off, rfl, hb, hil, hbw, hk0, hk1, hc, hcell⟩ := rtok HP HB HN ht
 have x0 := hcell i t ht 0 (by omega)
 have y0 := hc i t ht 0 (by omega)
 simp only [tokV, Nat.add_zero] at x0 y0
 rw [hk] at x0 y0
 go_enter Tryz.func229, Tryz.ntmps229
 have hI := HS.out i ⟨#[45]⟩ (by omega)
 rw [show isTk l i 4 (bs ⟨#[45]⟩) = false from h_minus] at hI
 have HC := Lib.hid hI
 clear hI
 go_wp2_with fail
 rw [← HW1.out]
 try rw [← HB6.out]
 refine (HC.out).mono ?_
 rintro e w' ⟨rfl, hww⟩
 rw [hww]
 clear hww
 clear HC
 have hI := HI.out i 3 ⟨#[116, 114, 117, 101]⟩ (by omega)
 rw [show isTk l i 3 (bs ⟨#[116, 114, 117, 101]⟩) = false from h_true] at hI
 have HC := Lib.hid hI
 clear hI
 go_wp2_with fail
 refine (HC.out).mono ?_
 rintro e w' ⟨rfl, hww⟩
 rw [hww]
 clear hww
 clear HC
 have hI := HI.out i 3 ⟨#[102, 97, 108, 115, 101]⟩ (by omega)
 rw [show isTk l i 3 (bs ⟨#[102, 97, 108, 115, 101]⟩) = false from h_false] at hI
 have HC := Lib.hid hI
 clear hI
 go_wp2_with fail
 refine (HC.out).mono ?_
 rintro e w' ⟨rfl, hww⟩
 rw [hww]
 clear hww
 clear HC
 have hI := HI.out i 3 ⟨#[110, 101, 120, 116]⟩ (by omega)
 rw [show isTk l i 3 (bs ⟨#[110, 101, 120, 116]⟩) = false from h_next] at hI
 have HC := Lib.hid hI
 clear hI
 go_wp2_with fail
 refine (HC.out).mono ?_
 rintro e w' ⟨rfl, hww⟩
 rw [hww]
 clear hww
 clear HC
 have hI := HS.out i ⟨#[40]⟩ (by omega)
 rw [show isTk l i 4 (bs ⟨#[40]⟩) = true from h_open] at hI
 have HC := Lib.hid hI
 clear hI
 go_wp2_with fail
 refine (HC.out).mono ?_
 rintro e w' ⟨rfl, hww⟩
 rw [hww]
 clear hww
 clear HC
 have hdb : ((d : Int) == 256) = true := by simp; omega
 clear hd
 clear hcell hc ht hk
 have hcf := rpfail_any (i) 17 w1
 have HC := Lib.hid hcf
 clear hcf
 go_wp2_with fail
 refine (HC.out).mono ?_
 intro e w2 hq
 obtain ⟨A', c', rfl, hV, hb2⟩ := gq_bad.1 hq
 have X62 := Lib.hid ((hb2.block b6 (lt_of_heap X6.out)).trans X6.out)
 have HB2 := Lib.hid (HB.out.trans (hb2.mono HB.out.size))
 have HV : Hid (TmVS (fun q => w.heap.size < q) w2 A' c' zeroTm) := hV.keep KeepS.refl (fun q _ h => by have := HB6.out; omega)
 obtain ⟨⟨v0, z0⟩, ⟨v1, z1⟩, ⟨v2, z2⟩, ⟨v3, z3⟩, ⟨v4, z4⟩, v5, z5⟩ := cells6 X62.out
 have l6 : b6 < w2.heap.size := lt_of_heap X62.out
 clear hq hV hb2 HC
 go_wp2_with fail
 clear v0 v1 v2 v3 v4 v5 z0 z1 z2 z3 z4 z5 l6
 refine bodyPost_ret (results_cell_row (t := 140) (fr := (0, 0)) rfl _ _ b6 _ _ rfl (res6 X62.out) Tryz.underlying140 rfl (by kernel_rfl)) rfl ?_
 rw [HF.out]
 exact gq_end (r := .bad (i) 17) (A' := A') (c' := c') _ _ _ _ _ _ HB6.out HV.out HB2.out
set_option maxRecDepth 100000 in
set_option maxHeartbeats 16000000 in
theorem rpunit_open (A : Option Addr) (c d : Nat) (l : List Tok) (i : Nat) (w : World) (h_minus : isTk l i 4 [45] = false) (h_true : isTk l i 3 [116, 114, 117, 101] = false) (h_false : isTk l i 3 [102, 97, 108, 115, 101] = false) (h_next : isTk l i 3 [110, 101, 120, 116] = false) (h_open : isTk l i 4 [40] = true) (T : Par) (hd : d < 256) (hT : FnR l (d + 1) 69 T) (hG : GdP l T) (hZ : NzP T) (hi : i ≤ l.length) (hP : TokIn w A c l) :
 Calls Tryz.prog 229 #[.slice A l.length c, .int .i64 (i : Nat), .int .i64 (d : Nat)] w (GQ w ((T (i + 1)).then fun t j => if isTk l j 4 [41] then .ok t (j + 1) else .bad j 16)) := by
 obtain ⟨n, b6, w1, F, hlen, hlc, hcm, hs1, X6, HB, HP, HP1, HS, HI, HF, HN, HB6, HW1⟩ := rset A c l w hP (GQ w ((T (i + 1)).then fun t j => if isTk l j 4 [41] then .ok t (j + 1) else .bad j 16))
 rw [← HF.out, ← HN.out]
 rw [← HN.out] at hi
 clear hP
 obtain ⟨t, ht, hk, -⟩ := isTk_some h_open
 obtain ⟨b, off, rfl, hb, hil, hbw, hk0, hk1, hc, hcell⟩ := rtok HP HB HN ht
 have x0 := hcell i t ht 0 (by omega)
 have y0 := hc i t ht 0 (by omega)
 simp only [tokV, Nat.add_zero] at x0 y0
 rw [hk] at x0 y0
 go_enter Tryz.func229, Tryz.ntmps229
 have hI := HS.out i ⟨#[45]⟩ (by omega)
 rw [show isTk l i 4 (bs ⟨#[45]⟩) = false from h_minus] at hI
 have HC := Lib.hid hI
 clear hI
 go_wp2_with fail
 rw [← HW1.out]
 try rw [← HB6.out]
 refine (HC.out).mono ?_
 rintro e w' ⟨rfl, hww⟩
 rw [hww]
 clear hww
 clear HC
 have hI := HI.out i 3 ⟨#[116, 114, 117, 101]⟩ (by omega)
 rw [show isTk l i 3 (bs ⟨#[116, 114, 117, 101]⟩) = false from h_true] at hI
 have HC := Lib.hid hI
 clear hI
 go_wp2_with fail
 refine (HC.out).mono ?_
 rintro e w' ⟨rfl, hww⟩
 rw [hww]
 clear hww
 clear HC
 have hI := HI.out i 3 ⟨#[102, 97, 108, 115, 101]⟩ (by omega)
 rw [show isTk l i 3 (bs ⟨#[102, 97, 108, 115, 101]⟩) = false from h_false] at hI
 have HC := Lib.hid hI
 clear hI
 go_wp2_with fail
 refine (HC.out).mono ?_
 rintro e w' ⟨rfl, hww⟩
 rw [hww]
 clear hww
 clear HC
 have hI := HI.out i 3 ⟨#[110, 101, 120, 116]⟩ (by omega)
 rw [show isTk l i 3 (bs ⟨#[110, 101, 120, 116]⟩) = false from h_next] at hI
 have HC := Lib.hid hI
 clear hI
 go_wp2_with fail
 refine (HC.out).mono ?_
 rintro e w' ⟨rfl, hww⟩
 rw [hww]
 clear hww
 clear HC
 have hI := HS.out i ⟨#[40]⟩ (by omega)
 rw [show isTk l i 4 (bs ⟨#[40]⟩) = true from h_open] at hI
 have HC := Lib.hid hI
 clear hI
 go_wp2_with fail
 refine (HC.out).mono ?_
 rintro e w' ⟨rfl, hww⟩
 rw [hww]
 clear hww
 clear HC
 clear hcell hc ht hk
 have hTT : Hid (∀ (i : Nat) (W : World), i ≤ l.length → TokIn W (some ⟨b, off, none⟩) c l → Calls Tryz.prog 69 #[.slice (some ⟨b, off, none⟩) n c, .int .i64 (i : Nat), .int .i64 ((d + 1 : Nat) : Int)] W (GQ W (T i))) := by
  intro i W h1 h2
  have := hT (some ⟨b, off, none⟩) c i W h1 h2
  rw [← HN.out] at this
  exact this
 have hGG := Lib.hid hG
 have hZZ := Lib.hid hZ
 have hdb : ((d : Int) == 256) = false := by simp; omega
 have hcf := hTT.out (i + 1) w1 (by first | omega | (rw [← HN.out]; omega)) (HP.out.below HB.out)
 rw [show ((i + 1 : Nat) : Int) = (i : Int) + 1 from by omega, show ((d + 1 : Nat) : Int) = (d : Int) + 1 from by omega] at hcf
 obtain ⟨r, hr⟩ : ∃ r, r = T (i + 1) := ⟨_, rfl⟩
 rw [← hr] at hcf
 have HC := Lib.hid hcf
 have HGr : Hid (∀ x k, r = .ok x k → Gd l (i + 1) x k) := fun x k h => hGG.out (i + 1) x k (by rw [← hr]; exact h)
 have HZr : Hid (∀ k x, r = .bad k x → x ≠ 0) := fun k x h => hZZ.out (i + 1) k x (by rw [← hr]; exact h)
 have HRr := Lib.hid hr
 clear hcf hr
 go_wp2_with fail
 refine (HC.out).mono ?_
 intro e w2 hq
 rcases r with ⟨jb, xb⟩ | ⟨t, j⟩
 · obtain ⟨A', c', rfl, hV, hb2⟩ := gq_bad.1 hq
   have hx := HZr.out _ _ rfl
   have hxb : (xb != 0) = true := by simpa using hx
   have HV : Hid (TmVS (fun q => w.heap.size < q) w2 A' c' zeroTm) := hV.keep KeepS.refl (fun q _ h => by have := HB6.out; have := lt_of_heap X6.out; omega)
   have Y6 := Lib.hid ((hb2.block b6 (lt_of_heap X6.out)).trans X6.out)
   clear X6
   have X6 := Y6
   clear Y6
   have HBn := Lib.hid (HB.out.trans (hb2.mono HB.out.size))
   clear HB
   have HB := HBn
   clear HBn
   clear hb2 hV hq HC hx
   obtain ⟨⟨v0, vz0⟩, ⟨v1, vz1⟩, ⟨v2, vz2⟩, ⟨v3, vz3⟩, ⟨v4, vz4⟩, v5, vz5⟩ := cells6 X6.out
   have vl : b6 < w2.heap.size := lt_of_heap X6.out
   go_wp2_with fail
   clear v0 vz0 v1 vz1 v2 vz2 v3 vz3 v4 vz4 v5 vz5 vl
   refine bodyPost_ret (results_cell_row (t := 140) (fr := (0, 0)) rfl _ _ b6 _ _ rfl (alloc_keep (res6 X6.out)) Tryz.underlying140 rfl (by kernel_rfl)) rfl ?_
   rw [HF.out, ← HRr.out]
   exact gq_enda (r := .bad jb xb) (A' := A') (c' := c') _ _ _ _ _ _ _ HB6.out HV.out HB.out
 obtain ⟨A', c', rfl, hV, hb2⟩ := gq_ok.1 hq
 have HV : Hid (TmVS (fun q => w.heap.size < q) w2 A' c' t) := hV.keep KeepS.refl (fun q _ h => by have := HB6.out; have := lt_of_heap X6.out; omega)
 have hgd_j := HGr.out _ _ rfl
 have hij_j := hgd_j.ij
 have hjl_j := hgd_j.jl
 rw [← HN.out] at hjl_j
 clear hgd_j
 obtain ⟨n2, hn2⟩ : ∃ m, m = t.kids.length := ⟨_, rfl⟩
 rw [← hn2]
 have HQn2 := Lib.hid hn2
 clear hn2
 have Y6 := Lib.hid ((hb2.block b6 (lt_of_heap X6.out)).trans X6.out)
 clear X6
 have X6 := Y6
 clear Y6
 have HBn := Lib.hid (HB.out.trans (hb2.mono HB.out.size))
 clear HB
 have HB := HBn
 clear HBn
 clear hb2 hV hq HC
 obtain ⟨b7, hb7⟩ : ∃ b, b = w2.heap.size := ⟨_, rfl⟩
 obtain ⟨w3, hw3⟩ : ∃ x, x = w2.alloc (.cells #[.int .i64 t.op, .int .i64 t.num, .string t.name, .slice A' n2 c', .int .i64 (j : Nat), .int .i64 0] 140) := ⟨_, rfl⟩
 have Xb7 : Hid (w3.heap[b7]? = some (.cells #[.int .i64 t.op, .int .i64 t.num, .string t.name, .slice A' n2 c', .int .i64 (j : Nat), .int .i64 0] 140 (0, 0))) := by show _ = _; rw [hw3, hb7]; exact heap_alloc_new w2 _
 have NEb7 : Hid (b7 ≠ b6) := by show _ ≠ _; have := lt_of_heap X6.out; omega
 have hal : Below w2.heap.size w2 w3 := by rw [hw3]; exact (Below.refl _ _).alloc (Nat.le_refl _) _
 have Qb7 := Lib.hid hb7
 have Qw3 := Lib.hid hw3
 clear hb7 hw3
 have Y6 := Lib.hid ((hal.block b6 (lt_of_heap X6.out)).trans X6.out)
 clear X6
 have X6 := Y6
 clear Y6
 have YHV : Hid (TmVS (fun q => w.heap.size < q) w3 A' c' t) := HV.out.keep (KeepS.of_below hal) (fun _ _ h => h)
 clear HV
 have HV := YHV
 clear YHV
 have HBn := Lib.hid (HB.out.trans (hal.mono HB.out.size))
 clear HB
 have HB := HBn
 clear HBn
 clear hal
 have hI := rpsign_any (some ⟨b, off, none⟩) c j l ⟨#[41]⟩ w3 (HP.out.below HB.out) (by omega)
 rw [← HN.out] at hI
 by_cases hcl : isTk l j 4 [41] = true
 · rw [show isTk l j 4 (bs ⟨#[41]⟩) = true from hcl] at hI
   have HC := Lib.hid hI
   have hjl2 := isTk_lt hcl
   have HRE : Hid (F = GQ w (.ok t (j + 1))) := by show _ = _; rw [HF.out, ← HRr.out]; show GQ w (if isTk l j 4 [41] = true then _ else _) = _; rw [if_pos hcl]
   clear hI hcl
   obtain ⟨⟨u0, uz0⟩, ⟨u1, uz1⟩, ⟨u2, uz2⟩, ⟨u3, uz3⟩, ⟨u4, uz4⟩, u5, uz5⟩ := cells6 Xb7.out
   have ul : b7 < w3.heap.size := lt_of_heap Xb7.out
   obtain ⟨⟨v0, vz0⟩, ⟨v1, vz1⟩, ⟨v2, vz2⟩, ⟨v3, vz3⟩, ⟨v4, vz4⟩, v5, vz5⟩ := cells6 X6.out
   have vl : b6 < w3.heap.size := lt_of_heap X6.out
   go_wp2_with fail
   rw [← Qw3.out, ← Qb7.out]
   try go_wp2_with fail
   refine (HC.out).mono ?_
   rintro e w' ⟨rfl, hww⟩
   rw [hww]
   clear hww
   clear HC
   go_wp2_with fail
   clear u0 uz0 u1 uz1 u2 uz2 u3 uz3 u4 uz4 u5 uz5 ul
   clear v0 vz0 v1 vz1 v2 vz2 v3 vz3 v4 vz4 v5 vz5 vl
   refine bodyPost_ret (results_cell_row (t := 140) (fr := (0, 0)) rfl _ _ b6 _ _ rfl (res6 X6.out) Tryz.underlying140 rfl (by kernel_rfl)) rfl ?_
   rw [HRE.out, HQn2.out]
   exact gq_end (r := .ok t (j + 1)) (A' := A') (c' := c') _ _ _ _ _ _ HB6.out HV.out HB.out
 · have hcf : isTk l j 4 [41] = false := by simpa using hcl
   rw [show isTk l j 4 (bs ⟨#[41]⟩) = false from hcf] at hI
   have HC := Lib.hid hI
   have HRE : Hid (F = GQ w (.bad j 16)) := by show _ = _; rw [HF.out, ← HRr.out]; show GQ w (if isTk l j 4 [41] = true then _ else _) = _; rw [if_neg hcl]
   clear hI hcl hcf
   obtain ⟨⟨u0, uz0⟩, ⟨u1, uz1⟩, ⟨u2, uz2⟩, ⟨u3, uz3⟩, ⟨u4, uz4⟩, u5, uz5⟩ := cells6 Xb7.out
   have ul : b7 < w3.heap.size := lt_of_heap Xb7.out
   go_wp2_with fail
   rw [← Qw3.out, ← Qb7.out]
   try go_wp2_with fail
   refine (HC.out).mono ?_
   rintro e w' ⟨rfl, hww⟩
   rw [hww]
   clear hww
   clear HC
   have HC := Lib.hid (rpfail_any j 16 w3)
   go_wp2_with fail
   refine (HC.out).mono ?_
   intro e w4 hq
   obtain ⟨A2, c2, rfl, hV2, hb4⟩ := gq_bad.1 hq
   have HV2 : Hid (TmVS (fun q => w.heap.size < q) w4 A2 c2 zeroTm) := hV2.keep KeepS.refl (fun q _ h => by have := HB6.out; have := lt_of_heap X6.out; omega)
   clear u0 uz0 u1 uz1 u2 uz2 u3 uz3 u4 uz4 u5 uz5 ul
   have Y6 := Lib.hid ((hb4.block b6 (lt_of_heap X6.out)).trans X6.out)
   clear X6
   have X6 := Y6
   clear Y6
   have HBn := Lib.hid (HB.out.trans (hb4.mono HB.out.size))
   clear HB
   have HB := HBn
   clear HBn
   clear hq hV2 hb4 HC
   obtain ⟨⟨v0, vz0⟩, ⟨v1, vz1⟩, ⟨v2, vz2⟩, ⟨v3, vz3⟩, ⟨v4, vz4⟩, v5, vz5⟩ := cells6 X6.out
   have vl : b6 < w4.heap.size := lt_of_heap X6.out
   go_wp2_with fail
   clear v0 vz0 v1 vz1 v2 vz2 v3 vz3 v4 vz4 v5 vz5 vl
   refine bodyPost_ret (results_cell_row (t := 140) (fr := (0, 0)) rfl _ _ b6 _ _ rfl (res6 X6.out) Tryz.underlying140 rfl (by kernel_rfl)) rfl ?_
   rw [HRE.out]
   exact gq_end (r := .bad j 16) (A' := A2) (c' := c2) _ _ _ _ _ _ HB6.out HV2.out HB.out
set_option maxRecDepth 100000 in
set_option maxHeartbeats 4000000 in
theorem rpchoice256 (A : Option Addr) (c d : Nat) (l : List Tok) (i : Nat) (w : World) (hd : d = 256) (hi : i ≤ l.length) (hP : TokIn w A c l) :
 Calls Tryz.prog 230 #[.slice A l.length c, .int .i64 (i : Nat), .int .i64 (d : Nat)] w (GQ w (.bad i 17)) := by
 obtain ⟨n, b6, w1, F, hlen, hlc, hcm, hs1, X6, HB, HP, HP1, HS, HI, HF, HN, HB6, HW1⟩ := rset A c l w hP (GQ w (.bad i 17))
 rw [← HF.out, ← HN.out]
 rw [← HN.out] at hi
 clear hP
 have hdb : ((d : Int) == 256) = true := by simp; omega
 clear hd
 go_enter Tryz.func230, Tryz.ntmps230
 have hcf := rpfail_any (i) 17 w1
 have HC := Lib.hid hcf
 clear hcf
 go_wp2_with fail
 rw [← HW1.out]
 try rw [← HB6.out]
 refine (HC.out).mono ?_
 intro e w2 hq
 obtain ⟨A', c', rfl, hV, hb2⟩ := gq_bad.1 hq
 have X62 := Lib.hid ((hb2.block b6 (lt_of_heap X6.out)).trans X6.out)
 have HB2 := Lib.hid (HB.out.trans (hb2.mono HB.out.size))
 have HV : Hid (TmVS (fun q => w.heap.size < q) w2 A' c' zeroTm) := hV.keep KeepS.refl (fun q _ h => by have := HB6.out; omega)
 obtain ⟨⟨v0, z0⟩, ⟨v1, z1⟩, ⟨v2, z2⟩, ⟨v3, z3⟩, ⟨v4, z4⟩, v5, z5⟩ := cells6 X62.out
 have l6 : b6 < w2.heap.size := lt_of_heap X62.out
 clear hq hV hb2 HC
 go_wp2_with fail
 clear v0 v1 v2 v3 v4 v5 z0 z1 z2 z3 z4 z5 l6
 refine bodyPost_ret (results_cell_row (t := 140) (fr := (0, 0)) rfl _ _ b6 _ _ rfl (res6 X62.out) Tryz.underlying140 rfl (by kernel_rfl)) rfl ?_
 rw [HF.out]
 exact gq_end (r := .bad (i) 17) (A' := A') (c' := c') _ _ _ _ _ _ HB6.out HV.out HB2.out
set_option maxRecDepth 100000 in
set_option maxHeartbeats 8000000 in
theorem rpchoice_any (A : Option Addr) (c d : Nat) (l : List Tok) (i : Nat) (w : World) (T : Par) (hd : d < 256) (hT : FnR l (d + 1) 69 T) (hG : GdP l T) (hZ : NzP T) (hi : i < l.length) (hP : TokIn w A c l) :
 Calls Tryz.prog 230 #[.slice A l.length c, .int .i64 (i : Nat), .int .i64 (d : Nat)] w (GQ w (ch1 l T (i + 1))) := by
 obtain ⟨n, b6, w1, F, hlen, hlc, hcm, hs1, X6, HB, HP, HP1, HS, HI, HF, HN, HB6, HW1⟩ := rset A c l w hP (GQ w (ch1 l T (i + 1)))
 rw [← HF.out, ← HN.out]
 rw [← HN.out] at hi
 clear hP
 have hTT : Hid (∀ (i : Nat) (W : World), i ≤ l.length → TokIn W A c l → Calls Tryz.prog 69 #[.slice A n c, .int .i64 (i : Nat), .int .i64 ((d + 1 : Nat) : Int)] W (GQ W (T i))) := by
  intro i W h1 h2
  have := hT A c i W h1 h2
  rw [← HN.out] at this
  exact this
 have hGG := Lib.hid hG
 have hZZ := Lib.hid hZ
 have hdb : ((d : Int) == 256) = false := by simp; omega
 clear hT hG hZ
 go_enter Tryz.func230, Tryz.ntmps230
 have hcf := hTT.out (i + 1) w1 (by first | omega | (rw [← HN.out]; omega)) (HP.out.below HB.out)
 rw [show ((i + 1 : Nat) : Int) = (i : Int) + 1 from by omega, show ((d + 1 : Nat) : Int) = (d : Int) + 1 from by omega] at hcf
 obtain ⟨r1, hr1⟩ : ∃ r, r = T (i + 1) := ⟨_, rfl⟩
 rw [← hr1] at hcf
 have HC := Lib.hid hcf
 have HGr1 : Hid (∀ x k, r1 = .ok x k → Gd l (i + 1) x k) := fun x k h => hGG.out (i + 1) x k (by rw [← hr1]; exact h)
 have HZr1 : Hid (∀ k x, r1 = .bad k x → x ≠ 0) := fun k x h => hZZ.out (i + 1) k x (by rw [← hr1]; exact h)
 have HRr1 := Lib.hid hr1
 clear hcf hr1
 go_wp2_with fail
 rw [← HW1.out]
 try rw [← HB6.out]
 refine (HC.out).mono ?_
 intro e w2 hq
 have HRE1 : Hid (F = GQ w (r1.then fun a j => if isTk l j 3 wThen then ch2 l T a j else .bad j 16)) := by show _ = _; rw [HF.out, HRr1.out, ch1]
 clear HRr1
 rcases r1 with ⟨jb, xb⟩ | ⟨t1, j1⟩
 · obtain ⟨A', c', rfl, hV, hb2⟩ := gq_bad.1 hq
   have hx := HZr1.out _ _ rfl
   have hxb : (xb != 0) = true := by simpa using hx
   have HV : Hid (TmVS (fun q => w.heap.size < q) w2 A' c' zeroTm) := hV.keep KeepS.refl (fun q _ h => by have := HB6.out; have := lt_of_heap X6.out; omega)
   have Y6 := Lib.hid ((hb2.block b6 (lt_of_heap X6.out)).trans X6.out)
   clear X6
   have X6 := Y6
   clear Y6
   have HBn := Lib.hid (HB.out.trans (hb2.mono HB.out.size))
   clear HB
   have HB := HBn
   clear HBn
   clear hb2 hV hq HC hx
   obtain ⟨⟨v0, vz0⟩, ⟨v1, vz1⟩, ⟨v2, vz2⟩, ⟨v3, vz3⟩, ⟨v4, vz4⟩, v5, vz5⟩ := cells6 X6.out
   have vl : b6 < w2.heap.size := lt_of_heap X6.out
   go_wp2_with fail
   clear v0 vz0 v1 vz1 v2 vz2 v3 vz3 v4 vz4 v5 vz5 vl
   refine bodyPost_ret (results_cell_row (t := 140) (fr := (0, 0)) rfl _ _ b6 _ _ rfl (alloc_keep (res6 X6.out)) Tryz.underlying140 rfl (by kernel_rfl)) rfl ?_
   rw [HRE1.out]
   exact gq_enda (r := .bad jb xb) (A' := A') (c' := c') _ _ _ _ _ _ _ HB6.out HV.out HB.out
 obtain ⟨A1, c1, rfl, hV, hb2⟩ := gq_ok.1 hq
 have HV1 : Hid (TmVS (fun q => w.heap.size < q) w2 A1 c1 t1) := hV.keep KeepS.refl (fun q _ h => by have := HB6.out; have := lt_of_heap X6.out; omega)
 have hgd_j1 := HGr1.out _ _ rfl
 have hij_j1 := hgd_j1.ij
 have hjl_j1 := hgd_j1.jl
 rw [← HN.out] at hjl_j1
 clear hgd_j1
 obtain ⟨n1, hn1⟩ : ∃ m, m = t1.kids.length := ⟨_, rfl⟩
 rw [← hn1]
 have HQn1 := Lib.hid hn1
 clear hn1
 have Y6 := Lib.hid ((hb2.block b6 (lt_of_heap X6.out)).trans X6.out)
 clear X6
 have X6 := Y6
 clear Y6
 have HBn := Lib.hid (HB.out.trans (hb2.mono HB.out.size))
 clear HB
 have HB := HBn
 clear HBn
 clear hb2 hV hq HC
 obtain ⟨b7, hb7⟩ : ∃ b, b = w2.heap.size := ⟨_, rfl⟩
 obtain ⟨w3, hw3⟩ : ∃ x, x = w2.alloc (.cells #[.int .i64 t1.op, .int .i64 t1.num, .string t1.name, .slice A1 n1 c1, .int .i64 (j1 : Nat), .int .i64 0] 140) := ⟨_, rfl⟩
 have Xb7 : Hid (w3.heap[b7]? = some (.cells #[.int .i64 t1.op, .int .i64 t1.num, .string t1.name, .slice A1 n1 c1, .int .i64 (j1 : Nat), .int .i64 0] 140 (0, 0))) := by show _ = _; rw [hw3, hb7]; exact heap_alloc_new w2 _
 have NEb7 : Hid (b7 ≠ b6) := by show _ ≠ _; have := lt_of_heap X6.out; omega
 have hal : Below w2.heap.size w2 w3 := by rw [hw3]; exact (Below.refl _ _).alloc (Nat.le_refl _) _
 have Qb7 := Lib.hid hb7
 have Qw3 := Lib.hid hw3
 clear hb7 hw3
 have Y6 := Lib.hid ((hal.block b6 (lt_of_heap X6.out)).trans X6.out)
 clear X6
 have X6 := Y6
 clear Y6
 have YHV1 : Hid (TmVS (fun q => w.heap.size < q) w3 A1 c1 t1) := HV1.out.keep (KeepS.of_below hal) (fun _ _ h => h)
 clear HV1
 have HV1 := YHV1
 clear YHV1
 have HBn := Lib.hid (HB.out.trans (hal.mono HB.out.size))
 clear HB
 have HB := HBn
 clear HBn
 clear hal
 have hI := rpis_any A c j1 l 3 ⟨#[116, 104, 101, 110]⟩ w3 (HP.out.below HB.out) (by omega)
 rw [← HN.out] at hI
 by_cases hcl : isTk l j1 3 wThen = true
 · rw [show isTk l j1 3 (bs ⟨#[116, 104, 101, 110]⟩) = true from hcl] at hI
   have HC := Lib.hid hI
   have hjl_2j1 := isTk_lt hcl
   have HREY : Hid (F = GQ w (ch2 l T t1 j1)) := by show _ = _; rw [HRE1.out]; show GQ w (if isTk l j1 3 wThen = true then _ else _) = _; rw [if_pos hcl]
   clear hI hcl HRE1
   obtain ⟨⟨u0, uz0⟩, ⟨u1, uz1⟩, ⟨u2, uz2⟩, ⟨u3, uz3⟩, ⟨u4, uz4⟩, u5, uz5⟩ := cells6 Xb7.out
   have ul : b7 < w3.heap.size := lt_of_heap Xb7.out
   go_wp2_with fail
   rw [← Qw3.out, ← Qb7.out]
   try go_wp2_with fail
   refine (HC.out).mono ?_
   rintro e w' ⟨rfl, hww⟩
   rw [hww]
   clear hww
   clear HC
   have hcf := hTT.out (j1 + 1) w3 (by first | omega | (rw [← HN.out]; omega)) (HP.out.below HB.out)
   rw [show ((j1 + 1 : Nat) : Int) = (j1 : Int) + 1 from by omega, show ((d + 1 : Nat) : Int) = (d : Int) + 1 from by omega] at hcf
   obtain ⟨r2, hr2⟩ : ∃ r, r = T (j1 + 1) := ⟨_, rfl⟩
   rw [← hr2] at hcf
   have HC := Lib.hid hcf
   have HGr2 : Hid (∀ x k, r2 = .ok x k → Gd l (j1 + 1) x k) := fun x k h => hGG.out (j1 + 1) x k (by rw [← hr2]; exact h)
   have HZr2 : Hid (∀ k x, r2 = .bad k x → x ≠ 0) := fun k x h => hZZ.out (j1 + 1) k x (by rw [← hr2]; exact h)
   have HRr2 := Lib.hid hr2
   clear hcf hr2
   go_wp2_with fail
   refine (HC.out).mono ?_
   intro e w4 hq
   have HRE2 : Hid (F = GQ w (r2.then fun b k => if isTk l k 3 wElse then ch3 T t1 b k else .bad k 16)) := by show _ = _; rw [HREY.out, HRr2.out, ch2]
   clear HRr2 HREY
   clear u0 uz0 u1 uz1 u2 uz2 u3 uz3 u4 uz4 u5 uz5 ul
   rcases r2 with ⟨jb, xb⟩ | ⟨t2, j2⟩
   · obtain ⟨A', c', rfl, hV, hb2⟩ := gq_bad.1 hq
     have hx := HZr2.out _ _ rfl
     have hxb : (xb != 0) = true := by simpa using hx
     have HV : Hid (TmVS (fun q => w.heap.size < q) w4 A' c' zeroTm) := hV.keep KeepS.refl (fun q _ h => by have := HB6.out; have := lt_of_heap X6.out; omega)
     have Y6 := Lib.hid ((hb2.block b6 (lt_of_heap X6.out)).trans X6.out)
     clear X6
     have X6 := Y6
     clear Y6
     have Yb7 := Lib.hid ((hb2.block b7 (lt_of_heap Xb7.out)).trans Xb7.out)
     clear Xb7
     have Xb7 := Yb7
     clear Yb7
     have YHV1 : Hid (TmVS (fun q => w.heap.size < q) w4 A1 c1 t1) := HV1.out.keep (KeepS.of_below hb2) (fun _ _ h => h)
     clear HV1
     have HV1 := YHV1
     clear YHV1
     have HBn := Lib.hid (HB.out.trans (hb2.mono HB.out.size))
     clear HB
     have HB := HBn
     clear HBn
     clear hb2 hV hq HC hx
     obtain ⟨⟨v0, vz0⟩, ⟨v1, vz1⟩, ⟨v2, vz2⟩, ⟨v3, vz3⟩, ⟨v4, vz4⟩, v5, vz5⟩ := cells6 X6.out
     have vl : b6 < w4.heap.size := lt_of_heap X6.out
     go_wp2_with fail
     clear v0 vz0 v1 vz1 v2 vz2 v3 vz3 v4 vz4 v5 vz5 vl
     refine bodyPost_ret (results_cell_row (t := 140) (fr := (0, 0)) rfl _ _ b6 _ _ rfl (alloc_keep (res6 X6.out)) Tryz.underlying140 rfl (by kernel_rfl)) rfl ?_
     rw [HRE2.out]
     exact gq_enda (r := .bad jb xb) (A' := A') (c' := c') _ _ _ _ _ _ _ HB6.out HV.out HB.out
   obtain ⟨A2, c2, rfl, hV, hb2⟩ := gq_ok.1 hq
   have HV2 : Hid (TmVS (fun q => w.heap.size < q) w4 A2 c2 t2) := hV.keep KeepS.refl (fun q _ h => by have := HB6.out; have := lt_of_heap X6.out; omega)
   have hgd_j2 := HGr2.out _ _ rfl
   have hij_j2 := hgd_j2.ij
   have hjl_j2 := hgd_j2.jl
   rw [← HN.out] at hjl_j2
   clear hgd_j2
   obtain ⟨n2, hn2⟩ : ∃ m, m = t2.kids.length := ⟨_, rfl⟩
   rw [← hn2]
   have HQn2 := Lib.hid hn2
   clear hn2
   have Y6 := Lib.hid ((hb2.block b6 (lt_of_heap X6.out)).trans X6.out)
   clear X6
   have X6 := Y6
   clear Y6
   have Yb7 := Lib.hid ((hb2.block b7 (lt_of_heap Xb7.out)).trans Xb7.out)
   clear Xb7
   have Xb7 := Yb7
   clear Yb7
   have YHV1 : Hid (TmVS (fun q => w.heap.size < q) w4 A1 c1 t1) := HV1.out.keep (KeepS.of_below hb2) (fun _ _ h => h)
   clear HV1
   have HV1 := YHV1
   clear YHV1
   have HBn := Lib.hid (HB.out.trans (hb2.mono HB.out.size))
   clear HB
   have HB := HBn
   clear HBn
   clear hb2 hV hq HC
   obtain ⟨b8, hb8⟩ : ∃ b, b = w4.heap.size := ⟨_, rfl⟩
   obtain ⟨w5, hw5⟩ : ∃ x, x = w4.alloc (.cells #[.int .i64 t2.op, .int .i64 t2.num, .string t2.name, .slice A2 n2 c2, .int .i64 (j2 : Nat), .int .i64 0] 140) := ⟨_, rfl⟩
   have Xb8 : Hid (w5.heap[b8]? = some (.cells #[.int .i64 t2.op, .int .i64 t2.num, .string t2.name, .slice A2 n2 c2, .int .i64 (j2 : Nat), .int .i64 0] 140 (0, 0))) := by show _ = _; rw [hw5, hb8]; exact heap_alloc_new w4 _
   have NEb8 : Hid (b8 ≠ b6) := by show _ ≠ _; have := lt_of_heap X6.out; omega
   have hal : Below w4.heap.size w4 w5 := by rw [hw5]; exact (Below.refl _ _).alloc (Nat.le_refl _) _
   have Qb8 := Lib.hid hb8
   have Qw5 := Lib.hid hw5
   clear hb8 hw5
   have Y6 := Lib.hid ((hal.block b6 (lt_of_heap X6.out)).trans X6.out)
   clear X6
   have X6 := Y6
   clear Y6
   have Yb7 := Lib.hid ((hal.block b7 (lt_of_heap Xb7.out)).trans Xb7.out)
   clear Xb7
   have Xb7 := Yb7
   clear Yb7
   have YHV1 : Hid (TmVS (fun q => w.heap.size < q) w5 A1 c1 t1) := HV1.out.keep (KeepS.of_below hal) (fun _ _ h => h)
   clear HV1
   have HV1 := YHV1
   clear YHV1
   have YHV2 : Hid (TmVS (fun q => w.heap.size < q) w5 A2 c2 t2) := HV2.out.keep (KeepS.of_below hal) (fun _ _ h => h)
   clear HV2
   have HV2 := YHV2
   clear YHV2
   have HBn := Lib.hid (HB.out.trans (hal.mono HB.out.size))
   clear HB
   have HB := HBn
   clear HBn
   clear hal
   have hI := rpis_any A c j2 l 3 ⟨#[101, 108, 115, 101]⟩ w5 (HP.out.below HB.out) (by omega)
   rw [← HN.out] at hI
   by_cases hcl : isTk l j2 3 wElse = true
   · rw [show isTk l j2 3 (bs ⟨#[101, 108, 115, 101]⟩) = true from hcl] at hI
     have HC := Lib.hid hI
     have hjl_2j2 := isTk_lt hcl
     have HREY : Hid (F = GQ w (ch3 T t1 t2 j2)) := by show _ = _; rw [HRE2.out]; show GQ w (if isTk l j2 3 wElse = true then _ else _) = _; rw [if_pos hcl]
     clear hI hcl HRE2
     obtain ⟨⟨u0, uz0⟩, ⟨u1, uz1⟩, ⟨u2, uz2⟩, ⟨u3, uz3⟩, ⟨u4, uz4⟩, u5, uz5⟩ := cells6 Xb8.out
     have ul : b8 < w5.heap.size := lt_of_heap Xb8.out
     go_wp2_with fail
     rw [← Qw5.out, ← Qb8.out]
     try go_wp2_with fail
     refine (HC.out).mono ?_
     rintro e w' ⟨rfl, hww⟩
     rw [hww]
     clear hww
     clear HC
     have hcf := hTT.out (j2 + 1) w5 (by first | omega | (rw [← HN.out]; omega)) (HP.out.below HB.out)
     rw [show ((j2 + 1 : Nat) : Int) = (j2 : Int) + 1 from by omega, show ((d + 1 : Nat) : Int) = (d : Int) + 1 from by omega] at hcf
     obtain ⟨r3, hr3⟩ : ∃ r, r = T (j2 + 1) := ⟨_, rfl⟩
     rw [← hr3] at hcf
     have HC := Lib.hid hcf
     have HGr3 : Hid (∀ x k, r3 = .ok x k → Gd l (j2 + 1) x k) := fun x k h => hGG.out (j2 + 1) x k (by rw [← hr3]; exact h)
     have HZr3 : Hid (∀ k x, r3 = .bad k x → x ≠ 0) := fun k x h => hZZ.out (j2 + 1) k x (by rw [← hr3]; exact h)
     have HRr3 := Lib.hid hr3
     clear hcf hr3
     go_wp2_with fail
     refine (HC.out).mono ?_
     intro e w6 hq
     have HRE3 : Hid (F = GQ w (r3.then fun c m => .ok (tmOf 18 [t1, t2, c]) m)) := by show _ = _; rw [HREY.out, HRr3.out, ch3]
     clear HRr3 HREY
     clear u0 uz0 u1 uz1 u2 uz2 u3 uz3 u4 uz4 u5 uz5 ul
     rcases r3 with ⟨jb, xb⟩ | ⟨t3, j3⟩
     · obtain ⟨A', c', rfl, hV, hb2⟩ := gq_bad.1 hq
       have hx := HZr3.out _ _ rfl
       have hxb : (xb != 0) = true := by simpa using hx
       have HV : Hid (TmVS (fun q => w.heap.size < q) w6 A' c' zeroTm) := hV.keep KeepS.refl (fun q _ h => by have := HB6.out; have := lt_of_heap X6.out; omega)
       have Y6 := Lib.hid ((hb2.block b6 (lt_of_heap X6.out)).trans X6.out)
       clear X6
       have X6 := Y6
       clear Y6
       have Yb7 := Lib.hid ((hb2.block b7 (lt_of_heap Xb7.out)).trans Xb7.out)
       clear Xb7
       have Xb7 := Yb7
       clear Yb7
       have Yb8 := Lib.hid ((hb2.block b8 (lt_of_heap Xb8.out)).trans Xb8.out)
       clear Xb8
       have Xb8 := Yb8
       clear Yb8
       have YHV1 : Hid (TmVS (fun q => w.heap.size < q) w6 A1 c1 t1) := HV1.out.keep (KeepS.of_below hb2) (fun _ _ h => h)
       clear HV1
       have HV1 := YHV1
       clear YHV1
       have YHV2 : Hid (TmVS (fun q => w.heap.size < q) w6 A2 c2 t2) := HV2.out.keep (KeepS.of_below hb2) (fun _ _ h => h)
       clear HV2
       have HV2 := YHV2
       clear YHV2
       have HBn := Lib.hid (HB.out.trans (hb2.mono HB.out.size))
       clear HB
       have HB := HBn
       clear HBn
       clear hb2 hV hq HC hx
       obtain ⟨⟨v0, vz0⟩, ⟨v1, vz1⟩, ⟨v2, vz2⟩, ⟨v3, vz3⟩, ⟨v4, vz4⟩, v5, vz5⟩ := cells6 X6.out
       have vl : b6 < w6.heap.size := lt_of_heap X6.out
       go_wp2_with fail
       clear v0 vz0 v1 vz1 v2 vz2 v3 vz3 v4 vz4 v5 vz5 vl
       refine bodyPost_ret (results_cell_row (t := 140) (fr := (0, 0)) rfl _ _ b6 _ _ rfl (alloc_keep (res6 X6.out)) Tryz.underlying140 rfl (by kernel_rfl)) rfl ?_
       rw [HRE3.out]
       exact gq_enda (r := .bad jb xb) (A' := A') (c' := c') _ _ _ _ _ _ _ HB6.out HV.out HB.out
     obtain ⟨A3, c3, rfl, hV, hb2⟩ := gq_ok.1 hq
     have HV3 : Hid (TmVS (fun q => w.heap.size < q) w6 A3 c3 t3) := hV.keep KeepS.refl (fun q _ h => by have := HB6.out; have := lt_of_heap X6.out; omega)
     have hgd_j3 := HGr3.out _ _ rfl
     have hij_j3 := hgd_j3.ij
     have hjl_j3 := hgd_j3.jl
     rw [← HN.out] at hjl_j3
     clear hgd_j3
     obtain ⟨n3, hn3⟩ : ∃ m, m = t3.kids.length := ⟨_, rfl⟩
     rw [← hn3]
     have HQn3 := Lib.hid hn3
     clear hn3
     have Y6 := Lib.hid ((hb2.block b6 (lt_of_heap X6.out)).trans X6.out)
     clear X6
     have X6 := Y6
     clear Y6
     have Yb7 := Lib.hid ((hb2.block b7 (lt_of_heap Xb7.out)).trans Xb7.out)
     clear Xb7
     have Xb7 := Yb7
     clear Yb7
     have Yb8 := Lib.hid ((hb2.block b8 (lt_of_heap Xb8.out)).trans Xb8.out)
     clear Xb8
     have Xb8 := Yb8
     clear Yb8
     have YHV1 : Hid (TmVS (fun q => w.heap.size < q) w6 A1 c1 t1) := HV1.out.keep (KeepS.of_below hb2) (fun _ _ h => h)
     clear HV1
     have HV1 := YHV1
     clear YHV1
     have YHV2 : Hid (TmVS (fun q => w.heap.size < q) w6 A2 c2 t2) := HV2.out.keep (KeepS.of_below hb2) (fun _ _ h => h)
     clear HV2
     have HV2 := YHV2
     clear YHV2
     have HBn := Lib.hid (HB.out.trans (hb2.mono HB.out.size))
     clear HB
     have HB := HBn
     clear HBn
     clear hb2 hV hq HC
     obtain ⟨⟨v0, vz0⟩, ⟨v1, vz1⟩, ⟨v2, vz2⟩, ⟨v3, vz3⟩, ⟨v4, vz4⟩, v5, vz5⟩ := cells6 X6.out
     have vl : b6 < w6.heap.size := lt_of_heap X6.out
     obtain ⟨⟨u0, uz0⟩, ⟨u1, uz1⟩, ⟨u2, uz2⟩, ⟨u3, uz3⟩, ⟨u4, uz4⟩, u5, uz5⟩ := cells6 Xb7.out
     have ul : b7 < w6.heap.size := lt_of_heap Xb7.out
     obtain ⟨⟨p0, pz0⟩, ⟨p1, pz1⟩, ⟨p2, pz2⟩, ⟨p3, pz3⟩, ⟨p4, pz4⟩, p5, pz5⟩ := cells6 Xb8.out
     have pl : b8 < w6.heap.size := lt_of_heap Xb8.out
     go_wp2_with fail
     clear u0 uz0 u1 uz1 u2 uz2 u3 uz3 u4 uz4 u5 uz5 ul
     clear v0 vz0 v1 vz1 v2 vz2 v3 vz3 v4 vz4 v5 vz5 vl
     clear p0 pz0 p1 pz1 p2 pz2 p3 pz3 p4 pz4 p5 pz5 pl
     refine bodyPost_ret (results_cell_row (t := 140) (fr := (0, 0)) rfl _ _ b6 _ _ rfl (alloc_keep (alloc_keep (res6 X6.out))) Tryz.underlying140 rfl (by kernel_rfl)) rfl ?_
     rw [HRE3.out, HQn1.out, HQn2.out, HQn3.out]
     exact gq_endr (op := 18) [⟨t1, A1, c1⟩, ⟨t2, A2, c2⟩, ⟨t3, A3, c3⟩] _ _ _ _ _ _ _ HB6.out (Nat.le_refl _) (fun e he => by
      simp only [List.mem_cons, List.not_mem_nil, or_false] at he
      rcases he with rfl | rfl | rfl
      · exact HV1.out
      · exact HV2.out
      · exact HV3.out) HB.out
   · have hcf : isTk l j2 3 wElse = false := by simpa using hcl
     rw [show isTk l j2 3 (bs ⟨#[101, 108, 115, 101]⟩) = false from hcf] at hI
     have HC := Lib.hid hI
     have HRE : Hid (F = GQ w (.bad j2 16)) := by show _ = _; rw [HRE2.out]; show GQ w (if isTk l j2 3 wElse = true then _ else _) = _; rw [if_neg hcl]
     clear hI hcl hcf HRE2
     obtain ⟨⟨u0, uz0⟩, ⟨u1, uz1⟩, ⟨u2, uz2⟩, ⟨u3, uz3⟩, ⟨u4, uz4⟩, u5, uz5⟩ := cells6 Xb8.out
     have ul : b8 < w5.heap.size := lt_of_heap Xb8.out
     go_wp2_with fail
     rw [← Qw5.out, ← Qb8.out]
     try go_wp2_with fail
     refine (HC.out).mono ?_
     rintro e w' ⟨rfl, hww⟩
     rw [hww]
     clear hww
     clear HC
     have HC := Lib.hid (rpfail_any j2 16 w5)
     go_wp2_with fail
     refine (HC.out).mono ?_
     intro e w9 hq
     obtain ⟨AF, cF, rfl, hVF, hbF⟩ := gq_bad.1 hq
     clear u0 uz0 u1 uz1 u2 uz2 u3 uz3 u4 uz4 u5 uz5 ul
     have HVF : Hid (TmVS (fun q => w.heap.size < q) w9 AF cF zeroTm) := hVF.keep KeepS.refl (fun q _ h => by have := HB6.out; have := lt_of_heap X6.out; omega)
     have Y6 := Lib.hid ((hbF.block b6 (lt_of_heap X6.out)).trans X6.out)
     clear X6
     have X6 := Y6
     clear Y6
     have HBn := Lib.hid (HB.out.trans (hbF.mono HB.out.size))
     clear HB
     have HB := HBn
     clear HBn
     clear hq hVF hbF HC
     obtain ⟨⟨v0, vz0⟩, ⟨v1, vz1⟩, ⟨v2, vz2⟩, ⟨v3, vz3⟩, ⟨v4, vz4⟩, v5, vz5⟩ := cells6 X6.out
     have vl : b6 < w9.heap.size := lt_of_heap X6.out
     go_wp2_with fail
     clear v0 vz0 v1 vz1 v2 vz2 v3 vz3 v4 vz4 v5 vz5 vl
     refine bodyPost_ret (results_cell_row (t := 140) (fr := (0, 0)) rfl _ _ b6 _ _ rfl (res6 X6.out) Tryz.underlying140 rfl (by kernel_rfl)) rfl ?_
     rw [HRE.out]
     exact gq_end (r := .bad j2 16) (A' := AF) (c' := cF) _ _ _ _ _ _ HB6.out HVF.out HB.out
 · have hcf : isTk l j1 3 wThen = false := by simpa using hcl
   rw [show isTk l j1 3 (bs ⟨#[116, 104, 101, 110]⟩) = false from hcf] at hI
   have HC := Lib.hid hI
   have HRE : Hid (F = GQ w (.bad j1 16)) := by show _ = _; rw [HRE1.out]; show GQ w (if isTk l j1 3 wThen = true then _ else _) = _; rw [if_neg hcl]
   clear hI hcl hcf HRE1
   obtain ⟨⟨u0, uz0⟩, ⟨u1, uz1⟩, ⟨u2, uz2⟩, ⟨u3, uz3⟩, ⟨u4, uz4⟩, u5, uz5⟩ := cells6 Xb7.out
   have ul : b7 < w3.heap.size := lt_of_heap Xb7.out
   go_wp2_with fail
   rw [← Qw3.out, ← Qb7.out]
   try go_wp2_with fail
   refine (HC.out).mono ?_
   rintro e w' ⟨rfl, hww⟩
   rw [hww]
   clear hww
   clear HC
   have HC := Lib.hid (rpfail_any j1 16 w3)
   go_wp2_with fail
   refine (HC.out).mono ?_
   intro e w9 hq
   obtain ⟨AF, cF, rfl, hVF, hbF⟩ := gq_bad.1 hq
   clear u0 uz0 u1 uz1 u2 uz2 u3 uz3 u4 uz4 u5 uz5 ul
   have HVF : Hid (TmVS (fun q => w.heap.size < q) w9 AF cF zeroTm) := hVF.keep KeepS.refl (fun q _ h => by have := HB6.out; have := lt_of_heap X6.out; omega)
   have Y6 := Lib.hid ((hbF.block b6 (lt_of_heap X6.out)).trans X6.out)
   clear X6
   have X6 := Y6
   clear Y6
   have HBn := Lib.hid (HB.out.trans (hbF.mono HB.out.size))
   clear HB
   have HB := HBn
   clear HBn
   clear hq hVF hbF HC
   obtain ⟨⟨v0, vz0⟩, ⟨v1, vz1⟩, ⟨v2, vz2⟩, ⟨v3, vz3⟩, ⟨v4, vz4⟩, v5, vz5⟩ := cells6 X6.out
   have vl : b6 < w9.heap.size := lt_of_heap X6.out
   go_wp2_with fail
   clear v0 vz0 v1 vz1 v2 vz2 v3 vz3 v4 vz4 v5 vz5 vl
   refine bodyPost_ret (results_cell_row (t := 140) (fr := (0, 0)) rfl _ _ b6 _ _ rfl (res6 X6.out) Tryz.underlying140 rfl (by kernel_rfl)) rfl ?_
   rw [HRE.out]
   exact gq_end (r := .bad j1 16) (A' := AF) (c' := cF) _ _ _ _ _ _ HB6.out HVF.out HB.out
set_option maxRecDepth 100000 in
set_option maxHeartbeats 16000000 in
theorem rpunit_if (A : Option Addr) (c d : Nat) (l : List Tok) (i : Nat) (w : World) (h_minus : isTk l i 4 [45] = false) (h_true : isTk l i 3 [116, 114, 117, 101] = false) (h_false : isTk l i 3 [102, 97, 108, 115, 101] = false) (h_next : isTk l i 3 [110, 101, 120, 116] = false) (h_open : isTk l i 4 [40] = false) (h_if : isTk l i 3 [105, 102] = true) (r : Rs Tm) (hC : ∀ (A : Option Addr) (c : Nat) (w : World), TokIn w A c l → Calls Tryz.prog 230 #[.slice A l.length c, .int .i64 (i : Nat), .int .i64 (d : Nat)] w (GQ w r)) (hi : i ≤ l.length) (hP : TokIn w A c l) :
 Calls Tryz.prog 229 #[.slice A l.length c, .int .i64 (i : Nat), .int .i64 (d : Nat)] w (GQ w r) := by
 obtain ⟨n, b6, w1, F, hlen, hlc, hcm, hs1, X6, HB, HP, HP1, HS, HI, HF, HN, HB6, HW1⟩ := rset A c l w hP (GQ w r)
 rw [← HF.out, ← HN.out]
 rw [← HN.out] at hi
 clear hP
 obtain ⟨t, ht, hk, -⟩ := isTk_some h_if
 obtain ⟨b, off, rfl, hb, hil, hbw, hk0, hk1, hc, hcell⟩ := rtok HP HB HN ht
 have x0 := hcell i t ht 0 (by omega)
 have y0 := hc i t ht 0 (by omega)
 simp only [tokV, Nat.add_zero] at x0 y0
 rw [hk] at x0 y0
 go_enter Tryz.func229, Tryz.ntmps229
 have hI := HS.out i ⟨#[45]⟩ (by omega)
 rw [show isTk l i 4 (bs ⟨#[45]⟩) = false from h_minus] at hI
 have HC := Lib.hid hI
 clear hI
 go_wp2_with fail
 rw [← HW1.out]
 try rw [← HB6.out]
 refine (HC.out).mono ?_
 rintro e w' ⟨rfl, hww⟩
 rw [hww]
 clear hww
 clear HC
 have hI := HI.out i 3 ⟨#[116, 114, 117, 101]⟩ (by omega)
 rw [show isTk l i 3 (bs ⟨#[116, 114, 117, 101]⟩) = false from h_true] at hI
 have HC := Lib.hid hI
 clear hI
 go_wp2_with fail
 refine (HC.out).mono ?_
 rintro e w' ⟨rfl, hww⟩
 rw [hww]
 clear hww
 clear HC
 have hI := HI.out i 3 ⟨#[102, 97, 108, 115, 101]⟩ (by omega)
 rw [show isTk l i 3 (bs ⟨#[102, 97, 108, 115, 101]⟩) = false from h_false] at hI
 have HC := Lib.hid hI
 clear hI
 go_wp2_with fail
 refine (HC.out).mono ?_
 rintro e w' ⟨rfl, hww⟩
 rw [hww]
 clear hww
 clear HC
 have hI := HI.out i 3 ⟨#[110, 101, 120, 116]⟩ (by omega)
 rw [show isTk l i 3 (bs ⟨#[110, 101, 120, 116]⟩) = false from h_next] at hI
 have HC := Lib.hid hI
 clear hI
 go_wp2_with fail
 refine (HC.out).mono ?_
 rintro e w' ⟨rfl, hww⟩
 rw [hww]
 clear hww
 clear HC
 have hI := HS.out i ⟨#[40]⟩ (by omega)
 rw [show isTk l i 4 (bs ⟨#[40]⟩) = false from h_open] at hI
 have HC := Lib.hid hI
 clear hI
 go_wp2_with fail
 refine (HC.out).mono ?_
 rintro e w' ⟨rfl, hww⟩
 rw [hww]
 clear hww
 clear HC
 have hI := HI.out i 3 ⟨#[105, 102]⟩ (by omega)
 rw [show isTk l i 3 (bs ⟨#[105, 102]⟩) = true from h_if] at hI
 have HC := Lib.hid hI
 clear hI
 go_wp2_with fail
 refine (HC.out).mono ?_
 rintro e w' ⟨rfl, hww⟩
 rw [hww]
 clear hww
 clear HC
 have hcf := hC (some ⟨b, off, none⟩) c w1 HP1.out
 rw [← HN.out] at hcf
 have HC := Lib.hid hcf
 clear hcf hC hcell hc ht hk
 go_wp2_with fail
 refine (HC.out).mono ?_
 intro e w2 hq
 obtain ⟨A', c', rfl, hV, hb2⟩ := hq
 have HV : Hid (TmVS (fun q => w.heap.size < q) w2 A' c' (gotT r)) := hV.keep KeepS.refl (fun q _ h => by have := HB6.out; omega)
 obtain ⟨n2, hn2⟩ : ∃ m, m = (gotT r).kids.length := ⟨_, rfl⟩
 rw [← hn2]
 have HQn2 := Lib.hid hn2
 have Y6 := Lib.hid ((hb2.block b6 (lt_of_heap X6.out)).trans X6.out)
 clear X6
 have X6 := Y6
 clear Y6
 have HBn := Lib.hid (HB.out.trans (hb2.mono HB.out.size))
 clear HB
 have HB := HBn
 clear HBn
 clear hb2 hV hn2 HC
 obtain ⟨⟨v0, vz0⟩, ⟨v1, vz1⟩, ⟨v2, vz2⟩, ⟨v3, vz3⟩, ⟨v4, vz4⟩, v5, vz5⟩ := cells6 X6.out
 have vl : b6 < w2.heap.size := lt_of_heap X6.out
 go_wp2_with fail
 clear v0 vz0 v1 vz1 v2 vz2 v3 vz3 v4 vz4 v5 vz5 vl
 refine bodyPost_ret (results_cell_row (t := 140) (fr := (0, 0)) rfl _ _ b6 _ _ rfl (res6 X6.out) Tryz.underlying140 rfl (by kernel_rfl)) rfl ?_
 rw [HF.out, HQn2.out]
 exact gq_end (r := r) (A' := A') (c' := c') _ _ _ _ _ _ HB6.out HV.out HB.out
set_option maxRecDepth 100000 in
set_option maxHeartbeats 16000000 in
theorem rpunit_end (A : Option Addr) (c d : Nat) (l : List Tok) (i : Nat) (w : World) (hge : l.length ≤ i) (h_minus : isTk l i 4 [45] = false) (h_true : isTk l i 3 [116, 114, 117, 101] = false) (h_false : isTk l i 3 [102, 97, 108, 115, 101] = false) (h_next : isTk l i 3 [110, 101, 120, 116] = false) (h_open : isTk l i 4 [40] = false) (h_if : isTk l i 3 [105, 102] = false) (hi : i ≤ l.length) (hP : TokIn w A c l) :
 Calls Tryz.prog 229 #[.slice A l.length c, .int .i64 (i : Nat), .int .i64 (d : Nat)] w (GQ w (.bad i 16)) := by
 obtain ⟨n, b6, w1, F, hlen, hlc, hcm, hs1, X6, HB, HP, HP1, HS, HI, HF, HN, HB6, HW1⟩ := rset A c l w hP (GQ w (.bad i 16))
 rw [← HF.out, ← HN.out]
 rw [← HN.out] at hi
 clear hP
 have hk1 : ¬ (i : Int) < (n : Int) := by have := HN.out; omega
 have hdd : decide ((i : Int) < (n : Int)) = false := decide_eq_false hk1
 have hd2 : decide (i < n) = false := decide_eq_false (by omega)
 go_enter Tryz.func229, Tryz.ntmps229
 have hI := HS.out i ⟨#[45]⟩ (by omega)
 rw [show isTk l i 4 (bs ⟨#[45]⟩) = false from h_minus] at hI
 have HC := Lib.hid hI
 clear hI
 go_wp2_with fail
 rw [← HW1.out]
 try rw [← HB6.out]
 refine (HC.out).mono ?_
 rintro e w' ⟨rfl, hww⟩
 rw [hww]
 clear hww
 clear HC
 have hI := HI.out i 3 ⟨#[116, 114, 117, 101]⟩ (by omega)
 rw [show isTk l i 3 (bs ⟨#[116, 114, 117, 101]⟩) = false from h_true] at hI
 have HC := Lib.hid hI
 clear hI
 go_wp2_with fail
 refine (HC.out).mono ?_
 rintro e w' ⟨rfl, hww⟩
 rw [hww]
 clear hww
 clear HC
 have hI := HI.out i 3 ⟨#[102, 97, 108, 115, 101]⟩ (by omega)
 rw [show isTk l i 3 (bs ⟨#[102, 97, 108, 115, 101]⟩) = false from h_false] at hI
 have HC := Lib.hid hI
 clear hI
 go_wp2_with fail
 refine (HC.out).mono ?_
 rintro e w' ⟨rfl, hww⟩
 rw [hww]
 clear hww
 clear HC
 have hI := HI.out i 3 ⟨#[110, 101, 120, 116]⟩ (by omega)
 rw [show isTk l i 3 (bs ⟨#[110, 101, 120, 116]⟩) = false from h_next] at hI
 have HC := Lib.hid hI
 clear hI
 go_wp2_with fail
 refine (HC.out).mono ?_
 rintro e w' ⟨rfl, hww⟩
 rw [hww]
 clear hww
 clear HC
 have hI := HS.out i ⟨#[40]⟩ (by omega)
 rw [show isTk l i 4 (bs ⟨#[40]⟩) = false from h_open] at hI
 have HC := Lib.hid hI
 clear hI
 go_wp2_with fail
 refine (HC.out).mono ?_
 rintro e w' ⟨rfl, hww⟩
 rw [hww]
 clear hww
 clear HC
 have hI := HI.out i 3 ⟨#[105, 102]⟩ (by omega)
 rw [show isTk l i 3 (bs ⟨#[105, 102]⟩) = false from h_if] at hI
 have HC := Lib.hid hI
 clear hI
 go_wp2_with fail
 refine (HC.out).mono ?_
 rintro e w' ⟨rfl, hww⟩
 rw [hww]
 clear hww
 clear HC
 have hcf := rpfail_any (i) 16 w1
 have HC := Lib.hid hcf
 clear hcf
 go_wp2_with fail
 refine (HC.out).mono ?_
 intro e w2 hq
 obtain ⟨A', c', rfl, hV, hb2⟩ := gq_bad.1 hq
 have X62 := Lib.hid ((hb2.block b6 (lt_of_heap X6.out)).trans X6.out)
 have HB2 := Lib.hid (HB.out.trans (hb2.mono HB.out.size))
 have HV : Hid (TmVS (fun q => w.heap.size < q) w2 A' c' zeroTm) := hV.keep KeepS.refl (fun q _ h => by have := HB6.out; omega)
 obtain ⟨⟨v0, z0⟩, ⟨v1, z1⟩, ⟨v2, z2⟩, ⟨v3, z3⟩, ⟨v4, z4⟩, v5, z5⟩ := cells6 X62.out
 have l6 : b6 < w2.heap.size := lt_of_heap X62.out
 clear hq hV hb2 HC
 go_wp2_with fail
 clear v0 v1 v2 v3 v4 v5 z0 z1 z2 z3 z4 z5 l6
 refine bodyPost_ret (results_cell_row (t := 140) (fr := (0, 0)) rfl _ _ b6 _ _ rfl (res6 X62.out) Tryz.underlying140 rfl (by kernel_rfl)) rfl ?_
 rw [HF.out]
 exact gq_end (r := .bad (i) 16) (A' := A') (c' := c') _ _ _ _ _ _ HB6.out HV.out HB2.out
set_option maxRecDepth 100000 in
set_option maxHeartbeats 16000000 in
theorem rpunit_other (A : Option Addr) (c d : Nat) (l : List Tok) (i : Nat) (w : World) (t : Tok) (ht : l[i]? = some t) (hk1x : t.kind ≠ 1) (hk2x : t.kind ≠ 2) (h_minus : isTk l i 4 [45] = false) (h_true : isTk l i 3 [116, 114, 117, 101] = false) (h_false : isTk l i 3 [102, 97, 108, 115, 101] = false) (h_next : isTk l i 3 [110, 101, 120, 116] = false) (h_open : isTk l i 4 [40] = false) (h_if : isTk l i 3 [105, 102] = false) (hi : i ≤ l.length) (hP : TokIn w A c l) :
 Calls Tryz.prog 229 #[.slice A l.length c, .int .i64 (i : Nat), .int .i64 (d : Nat)] w (GQ w (.bad i 16)) := by
 obtain ⟨n, b6, w1, F, hlen, hlc, hcm, hs1, X6, HB, HP, HP1, HS, HI, HF, HN, HB6, HW1⟩ := rset A c l w hP (GQ w (.bad i 16))
 rw [← HF.out, ← HN.out]
 rw [← HN.out] at hi
 clear hP
 obtain ⟨b, off, rfl, hb, hil, hbw, hk0, hk1, hc, hcell⟩ := rtok HP HB HN ht
 have x0 := hcell i t ht 0 (by omega)
 have y0 := hc i t ht 0 (by omega)
 simp only [tokV, Nat.add_zero] at x0 y0
 have hkb1 : (t.kind == 1) = false := by simpa using hk1x
 have hkb2 : (t.kind == 2) = false := by simpa using hk2x
 clear hcell hc ht hk1x hk2x
 go_enter Tryz.func229, Tryz.ntmps229
 have hI := HS.out i ⟨#[45]⟩ (by omega)
 rw [show isTk l i 4 (bs ⟨#[45]⟩) = false from h_minus] at hI
 have HC := Lib.hid hI
 clear hI
 go_wp2_with fail
 rw [← HW1.out]
 try rw [← HB6.out]
 refine (HC.out).mono ?_
 rintro e w' ⟨rfl, hww⟩
 rw [hww]
 clear hww
 clear HC
 have hI := HI.out i 3 ⟨#[116, 114, 117, 101]⟩ (by omega)
 rw [show isTk l i 3 (bs ⟨#[116, 114, 117, 101]⟩) = false from h_true] at hI
 have HC := Lib.hid hI
 clear hI
 go_wp2_with fail
 refine (HC.out).mono ?_
 rintro e w' ⟨rfl, hww⟩
 rw [hww]
 clear hww
 clear HC
 have hI := HI.out i 3 ⟨#[102, 97, 108, 115, 101]⟩ (by omega)
 rw [show isTk l i 3 (bs ⟨#[102, 97, 108, 115, 101]⟩) = false from h_false] at hI
 have HC := Lib.hid hI
 clear hI
 go_wp2_with fail
 refine (HC.out).mono ?_
 rintro e w' ⟨rfl, hww⟩
 rw [hww]
 clear hww
 clear HC
 have hI := HI.out i 3 ⟨#[110, 101, 120, 116]⟩ (by omega)
 rw [show isTk l i 3 (bs ⟨#[110, 101, 120, 116]⟩) = false from h_next] at hI
 have HC := Lib.hid hI
 clear hI
 go_wp2_with fail
 refine (HC.out).mono ?_
 rintro e w' ⟨rfl, hww⟩
 rw [hww]
 clear hww
 clear HC
 have hI := HS.out i ⟨#[40]⟩ (by omega)
 rw [show isTk l i 4 (bs ⟨#[40]⟩) = false from h_open] at hI
 have HC := Lib.hid hI
 clear hI
 go_wp2_with fail
 refine (HC.out).mono ?_
 rintro e w' ⟨rfl, hww⟩
 rw [hww]
 clear hww
 clear HC
 have hI := HI.out i 3 ⟨#[105, 102]⟩ (by omega)
 rw [show isTk l i 3 (bs ⟨#[105, 102]⟩) = false from h_if] at hI
 have HC := Lib.hid hI
 clear hI
 go_wp2_with fail
 refine (HC.out).mono ?_
 rintro e w' ⟨rfl, hww⟩
 rw [hww]
 clear hww
 clear HC
 have hcf := rpfail_any (i) 16 w1
 have HC := Lib.hid hcf
 clear hcf
 go_wp2_with fail
 refine (HC.out).mono ?_
 intro e w2 hq
 obtain ⟨A', c', rfl, hV, hb2⟩ := gq_bad.1 hq
 have X62 := Lib.hid ((hb2.block b6 (lt_of_heap X6.out)).trans X6.out)
 have HB2 := Lib.hid (HB.out.trans (hb2.mono HB.out.size))
 have HV : Hid (TmVS (fun q => w.heap.size < q) w2 A' c' zeroTm) := hV.keep KeepS.refl (fun q _ h => by have := HB6.out; omega)
 obtain ⟨⟨v0, z0⟩, ⟨v1, z1⟩, ⟨v2, z2⟩, ⟨v3, z3⟩, ⟨v4, z4⟩, v5, z5⟩ := cells6 X62.out
 have l6 : b6 < w2.heap.size := lt_of_heap X62.out
 clear hq hV hb2 HC
 go_wp2_with fail
 clear v0 v1 v2 v3 v4 v5 z0 z1 z2 z3 z4 z5 l6
 refine bodyPost_ret (results_cell_row (t := 140) (fr := (0, 0)) rfl _ _ b6 _ _ rfl (res6 X62.out) Tryz.underlying140 rfl (by kernel_rfl)) rfl ?_
 rw [HF.out]
 exact gq_end (r := .bad (i) 16) (A' := A') (c' := c') _ _ _ _ _ _ HB6.out HV.out HB2.out
end Go.Proofs.YtnbphgeepnknlaaGreatDoor
