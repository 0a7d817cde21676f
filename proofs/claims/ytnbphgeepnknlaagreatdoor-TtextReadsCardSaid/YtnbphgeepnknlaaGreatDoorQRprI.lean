/- Walks: the reference's not. The state of the loop of the reference's sum. -/
import Derived.Test.YtnbphgeepnknlaaGreatDoorQRprH
import Derived.Test.YtnbphgeepnknlaaGreatDoorQPrsE
namespace Go.Proofs.YtnbphgeepnknlaaGreatDoor
open Go.RowKit
set_option linter.unusedVariables false

set_option maxRecDepth 100000 in
set_option maxHeartbeats 1000000 in
theorem rpnot_any (l : List Tok) (d : Nat) (PC PN : Par) (hd : d ≤ 256) (hF : FnR l d 217 PC) (hF2 : d < 256 → FnR l (d + 1) 202 PN) (hG2 : GdP l PN) (hZ2 : NzP PN) : FnR l d 202 (fun i => if isTk l i 4 [33] then (inner (if d = 256 then none else some PN) i).then fun t j => .ok (tmOf 5 [t]) j else PC i) := by
 intro A c i w hi hP
 show Calls _ _ _ _ (GQ w (if isTk l i 4 [33] then (inner (if d = 256 then none else some PN) i).then fun t j => .ok (tmOf 5 [t]) j else PC i))
 obtain ⟨n, b6, w1, F, hlen, hlc, hcm, hs1, X6, HB, HP, HP1, HS, HI, HF, HN, HB6, HW1⟩ := rset A c l w hP (GQ w (if isTk l i 4 [33] then (inner (if d = 256 then none else some PN) i).then fun t j => .ok (tmOf 5 [t]) j else PC i))
 rw [← HF.out, ← HN.out]
 rw [← HN.out] at hi
 clear hP
 have HI1 : Hid (∀ (i : Nat) (W : World), i ≤ l.length → TokIn W A c l → Calls Tryz.prog 217 #[.slice A n c, .int .i64 (i : Nat), .int .i64 (d : Nat)] W (GQ W (PC i))) := by
  intro i W h1 h2
  have := hF A c i W h1 h2
  rw [← HN.out] at this
  exact this
 have HI2F : Hid (d < 256 → ∀ (i : Nat) (W : World), i ≤ l.length → TokIn W A c l → Calls Tryz.prog 202 #[.slice A n c, .int .i64 (i : Nat), .int .i64 ((d + 1 : Nat) : Int)] W (GQ W (PN i))) := by
  intro hdd i W h1 h2
  have := hF2 hdd A c i W h1 h2
  rw [← HN.out] at this
  exact this
 have HI2G := Lib.hid hG2
 have HI2Z := Lib.hid hZ2
 clear hF hF2 hG2 hZ2
 go_enter Tryz.func202, Tryz.ntmps202
 by_cases hcl : isTk l i 4 [33] = true
 · have hjl0 := isTk_lt hcl
   have HREY : Hid (F = GQ w ((inner (if d = 256 then none else some PN) i).then fun t j => .ok (tmOf 5 [t]) j)) := by show _ = _; rw [HF.out, if_pos hcl]
   have hI := HS.out i ⟨#[33]⟩ (by omega)
   rw [show isTk l i 4 (bs ⟨#[33]⟩) = true from hcl] at hI
   have HC := Lib.hid hI
   clear hI hcl
   go_wp2_with fail
   rw [← HW1.out]
   try rw [← HB6.out]
   refine (HC.out).mono ?_
   rintro e w' ⟨rfl, hww⟩
   rw [hww]
   clear hww
   clear HC
   by_cases h256 : d = 256
   · have hdb : ((d : Int) == 256) = true := by simp; omega
     have HRE : Hid (F = GQ w (.bad i 17)) := by show _ = _; rw [HREY.out, if_pos h256]; rfl
     clear h256 HREY hd
     have hcf := rpfail_any (i) 17 w1
     have HC := Lib.hid hcf
     clear hcf
     go_wp2_with fail
     refine (HC.out).mono ?_
     intro e w2 hq
     obtain ⟨A', c', rfl, hV, hb2⟩ := gq_bad.1 hq
     have X62 := Lib.hid ((hb2.block b6 (lt_of_heap X6.out)).trans X6.out)
     have HB2 := Lib.hid (HB.out.trans (hb2.mono HB.out.size))
     have HV : Hid (TmVS (fun q => w.heap.size < q) w2 A' c' zeroTm) := hV.keep KeepS.refl (fun q _ h => by have := HB6.out; omega)
     obtain ⟨⟨v0, z0⟩, ⟨v1, z1⟩, ⟨v2, z2⟩, ⟨v3, z3⟩, ⟨v4, z4⟩, v5, z5⟩ := cells6 X62.out
     have l6 : b6 < w2.heap.size := lt_of_heap X62.out
     clear hq hV hb2 HC
     go_wp2_with fail
     clear v0 v1 v2 v3 v4 v5 z0 z1 z2 z3 z4 z5 l6
     refine bodyPost_ret (results_cell_row (t := 140) (fr := (0, 0)) rfl _ _ b6 _ _ rfl (res6 X62.out) Tryz.underlying140 rfl (by kernel_rfl)) rfl ?_
     rw [HRE.out]
     exact gq_end (r := .bad (i) 17) (A' := A') (c' := c') _ _ _ _ _ _ HB6.out HV.out HB2.out
   · have hdb : ((d : Int) == 256) = false := by simp; omega
     have hd2 : d < 256 := by omega
     have HREZ : Hid (F = GQ w ((PN (i + 1)).then fun t j => .ok (tmOf 5 [t]) j)) := by show _ = _; rw [HREY.out, if_neg h256]; rfl
     have HI2 : Hid (∀ (i : Nat) (W : World), i ≤ l.length → TokIn W A c l → Calls Tryz.prog 202 #[.slice A n c, .int .i64 (i : Nat), .int .i64 ((d + 1 : Nat) : Int)] W (GQ W (PN i))) := HI2F.out hd2
     obtain ⟨HI2P, hq2⟩ : ∃ Q0, Q0 = PN := ⟨_, rfl⟩
     rw [← hq2] at HI2 HREZ HI2G HI2Z
     clear h256 HREY hq2
     have hcf := HI2.out (i + 1) w1 (by first | omega | (rw [← HN.out]; omega)) (HP.out.below HB.out)
     rw [show ((i + 1 : Nat) : Int) = (i : Int) + 1 from by omega] at hcf
     rw [show ((d + 1 : Nat) : Int) = (d : Int) + 1 from by omega] at hcf
     obtain ⟨r1, hr1⟩ : ∃ r, r = HI2P (i + 1) := ⟨_, rfl⟩
     rw [← hr1] at hcf
     have HC := Lib.hid hcf
     have HGr1 : Hid (∀ x k, r1 = .ok x k → Gd l (i + 1) x k) := fun x k h => HI2G.out (i + 1) x k (by rw [← hr1]; exact h)
     have HZr1 : Hid (∀ k x, r1 = .bad k x → x ≠ 0) := fun k x h => HI2Z.out (i + 1) k x (by rw [← hr1]; exact h)
     have HRr1 := Lib.hid hr1
     clear hcf hr1
     go_wp2_with fail
     refine (HC.out).mono ?_
     intro e w2 hq
     have HRE1 : Hid (F = GQ w (r1.then fun t j => .ok (tmOf 5 [t]) j)) := by show _ = _; rw [HREZ.out, HRr1.out]
     clear HRr1 HREZ
     rcases r1 with ⟨jb, xb⟩ | ⟨t1, j1⟩
     · obtain ⟨A', c', rfl, hV, hb2⟩ := gq_bad.1 hq
       have hx := HZr1.out _ _ rfl
       have hxb : (xb != 0) = true := by simpa using hx
       have HV : Hid (TmVS (fun q => w.heap.size < q) w2 A' c' zeroTm) := hV.keep KeepS.refl (fun q _ h => by have := HB6.out; have := lt_of_heap X6.out; omega)
       have Y6 := Lib.hid ((hb2.block b6 (lt_of_heap X6.out)).trans X6.out)
       clear X6
       have X6 := Y6
       clear Y6
       have HBn := Lib.hid (HB.out.trans (hb2.mono HB.out.size))
       clear HB
       have HB := HBn
       clear HBn
       clear hb2 hV hq HC hx
       obtain ⟨⟨v0, vz0⟩, ⟨v1, vz1⟩, ⟨v2, vz2⟩, ⟨v3, vz3⟩, ⟨v4, vz4⟩, v5, vz5⟩ := cells6 X6.out
       have vl : b6 < w2.heap.size := lt_of_heap X6.out
       go_wp2_with fail
       clear v0 vz0 v1 vz1 v2 vz2 v3 vz3 v4 vz4 v5 vz5 vl
       refine bodyPost_ret (results_cell_row (t := 140) (fr := (0, 0)) rfl _ _ b6 _ _ rfl (alloc_keep (res6 X6.out)) Tryz.underlying140 rfl (by kernel_rfl)) rfl ?_
       rw [HRE1.out]
       exact gq_enda (r := .bad jb xb) (A' := A') (c' := c') _ _ _ _ _ _ _ HB6.out HV.out HB.out
     obtain ⟨A1, c1, rfl, hV, hb2⟩ := gq_ok.1 hq
     have HV1 : Hid (TmVS (fun q => w.heap.size < q) w2 A1 c1 t1) := hV.keep KeepS.refl (fun q _ h => by have := HB6.out; have := lt_of_heap X6.out; omega)
     have hgd_j1 := HGr1.out _ _ rfl
     have hij_j1 := hgd_j1.ij
     have hjl_j1 := hgd_j1.jl
     rw [← HN.out] at hjl_j1
     clear hgd_j1
     obtain ⟨n1, hn1⟩ : ∃ m, m = t1.kids.length := ⟨_, rfl⟩
     rw [← hn1]
     have HQn1 := Lib.hid hn1
     clear hn1
     have Y6 := Lib.hid ((hb2.block b6 (lt_of_heap X6.out)).trans X6.out)
     clear X6
     have X6 := Y6
     clear Y6
     have HBn := Lib.hid (HB.out.trans (hb2.mono HB.out.size))
     clear HB
     have HB := HBn
     clear HBn
     clear hb2 hV hq HC
     obtain ⟨⟨v0, vz0⟩, ⟨v1, vz1⟩, ⟨v2, vz2⟩, ⟨v3, vz3⟩, ⟨v4, vz4⟩, v5, vz5⟩ := cells6 X6.out
     have vl : b6 < w2.heap.size := lt_of_heap X6.out
     go_wp2_with fail
     clear v0 vz0 v1 vz1 v2 vz2 v3 vz3 v4 vz4 v5 vz5 vl
     refine bodyPost_ret (results_cell_row (t := 140) (fr := (0, 0)) rfl _ _ b6 _ _ rfl (alloc_keep (alloc_keep (res6 X6.out))) Tryz.underlying140 rfl (by kernel_rfl)) rfl ?_
     rw [HRE1.out, HQn1.out]
     exact gq_endr (op := 5) [⟨t1, A1, c1⟩] _ _ _ _ _ _ _ HB6.out (show 1 ≤ 3 from by decide) (fun e he => by
      simp only [List.mem_cons, List.not_mem_nil, or_false] at he
      rcases he with rfl
      exact HV1.out) HB.out
 · have hcf : isTk l i 4 [33] = false := by simpa using hcl
   have HRE : Hid (F = GQ w (PC i)) := by show _ = _; rw [HF.out, if_neg hcl]
   have hI := HS.out i ⟨#[33]⟩ (by omega)
   rw [show isTk l i 4 (bs ⟨#[33]⟩) = false from hcf] at hI
   have HC := Lib.hid hI
   clear hI hcl hcf
   go_wp2_with fail
   rw [← HW1.out]
   try rw [← HB6.out]
   refine (HC.out).mono ?_
   rintro e w' ⟨rfl, hww⟩
   rw [hww]
   clear hww
   clear HC
   have hcf := HI1.out i w1 (by rw [← HN.out]; omega) (HP.out.below HB.out)
   obtain ⟨r, hr⟩ : ∃ r, r = PC i := ⟨_, rfl⟩
   rw [← hr] at hcf HRE
   have HC := Lib.hid hcf
   clear hcf hr
   go_wp2_with fail
   refine (HC.out).mono ?_
   intro e w2 hq
   obtain ⟨A', c', rfl, hV, hb2⟩ := hq
   have HV : Hid (TmVS (fun q => w.heap.size < q) w2 A' c' (gotT r)) := hV.keep KeepS.refl (fun q _ h => by have := HB6.out; have := lt_of_heap X6.out; omega)
   obtain ⟨n2, hn2⟩ : ∃ m, m = (gotT r).kids.length := ⟨_, rfl⟩
   rw [← hn2]
   have HQn2 := Lib.hid hn2
   have Y6 := Lib.hid ((hb2.block b6 (lt_of_heap X6.out)).trans X6.out)
   clear X6
   have X6 := Y6
   clear Y6
   have HBn := Lib.hid (HB.out.trans (hb2.mono HB.out.size))
   clear HB
   have HB := HBn
   clear HBn
   clear hb2 hV hn2 HC
   obtain ⟨⟨v0, vz0⟩, ⟨v1, vz1⟩, ⟨v2, vz2⟩, ⟨v3, vz3⟩, ⟨v4, vz4⟩, v5, vz5⟩ := cells6 X6.out
   have vl : b6 < w2.heap.size := lt_of_heap X6.out
   go_wp2_with fail
   clear v0 vz0 v1 vz1 v2 vz2 v3 vz3 v4 vz4 v5 vz5 vl
   refine bodyPost_ret (results_cell_row (t := 140) (fr := (0, 0)) rfl _ _ b6 _ _ rfl (res6 X6.out) Tryz.underlying140 rfl (by kernel_rfl)) rfl ?_
   rw [HRE.out, HQn2.out]
   exact gq_end (r := r) (A' := A') (c' := c') _ _ _ _ _ _ HB6.out HV.out HB.out
end Go.Proofs.YtnbphgeepnknlaaGreatDoor
namespace Go.Proofs.YtnbphgeepnknlaaGreatDoor
open Go.RowKit
set_option linter.unusedVariables false

def jAt (b : Nat) (w : World) : Nat := match w.cell? ⟨b, 4, none⟩ with
 | some (.int _ z) => z.toNat
 | _ => 0
structure SumS (w : World) (l : List Tok) (i b6 b7 : Nat) (one : Par) (ops : List Int) (r : Rs Tm) (wr : World) (ra : Rs Tm) (A' : Option Addr) (c' fuel : Nat) : Prop where
 x6 : wr.heap[b6]? = some (.cells #[.int .i64 0, .int .i64 0, .string ⟨#[]⟩, .slice none 0 0, .int .i64 0, .int .i64 0] 140 (0, 0))
 x7 : wr.heap[b7]? = some (.cells #[.int .i64 (gotT ra).op, .int .i64 (gotT ra).num, .string (gotT ra).name, .slice A' (gotT ra).kids.length c', .int .i64 (gotI ra : Nat), .int .i64 (gotE ra)] 140 (0, 0))
 v : TmVS (fun q => b7 < q) wr A' c' (gotT ra)
 below : Below w.heap.size w wr
 ok : ∀ t j, ra = .ok t j → i < j ∧ j ≤ l.length ∧ l.length ≤ fuel + j
 bad : ∀ j x, ra = .bad j x → x ≠ 0
 re : (ra.then fun t j => leftL l one ops fuel t j) = r
theorem jAt_of {b : Nat} {w : World} {u0 u1 u2 u3 u5 : Value} {j : Nat} (h : w.heap[b]? = some (.cells #[u0, u1, u2, u3, .int .i64 (j : Nat), u5] 140 (0, 0))) : jAt b w = j := by
 unfold jAt
 rw [(cells6 h).2.2.2.2.1.1]
 simp
theorem SumS.set {w W : World} {l : List Tok} {i b6 b7 : Nat} {one : Par} {ops : List Int} {r ra : Rs Tm} {A' : Option Addr} {c' fuel : Nat} {u0 u1 u2 u3 u4 u5 : Value} (hb : b6 = w.heap.size) (hne : b6 < b7) (x6 : W.heap[b6]? = some (.cells #[.int .i64 0, .int .i64 0, .string ⟨#[]⟩, .slice none 0 0, .int .i64 0, .int .i64 0] 140 (0, 0))) (x7 : W.heap[b7]? = some (.cells #[u0, u1, u2, u3, u4, u5] 140 (0, 0))) (v : TmVS (fun q => b7 < q) W A' c' (gotT ra)) (below : Below w.heap.size w W) (ok : ∀ t j, ra = .ok t j → i < j ∧ j ≤ l.length ∧ l.length ≤ fuel + j) (bad : ∀ j x, ra = .bad j x → x ≠ 0) (re : (ra.then fun t j => leftL l one ops fuel t j) = r) :
 SumS w l i b6 b7 one ops r ((((((W.setCell ⟨b7, 0, none⟩ (.int .i64 (gotT ra).op)).setCell ⟨b7, 1, none⟩ (.int .i64 (gotT ra).num)).setCell ⟨b7, 2, none⟩ (.string (gotT ra).name)).setCell ⟨b7, 3, none⟩ (.slice A' (gotT ra).kids.length c')).setCell ⟨b7, 4, none⟩ (.int .i64 (gotI ra : Nat))).setCell ⟨b7, 5, none⟩ (.int .i64 (gotE ra))) ra A' c' fuel := by
 have h0 : w.heap.size ≤ b7 := by omega
 refine ⟨(sets6_far (by omega)).trans x6, res6 x7, ?_, ?_, ok, bad, re⟩
 · exact v.keep ((((((KeepS.refl.set (by simp) _).set (by simp) _).set (by simp) _).set (by simp) _).set (by simp) _).set (by simp) _) (fun q _ h => h)
 · exact ((((((Only.of_below (F := fun q => w.heap.size ≤ q) below).setF h0 _).setF h0 _).setF h0 _).setF h0 _).setF h0 _).setF h0 _ |>.below (fun q h => h) (Nat.le_refl _)
theorem gq_end2 {w W : World} {b6 b8 : Nat} {r : Rs Tm} {A' : Option Addr} {c' : Nat} (u0 u1 u2 u3 u4 u5 v0 v1 v2 v3 v4 v5 : Value) (hb : b6 = w.heap.size) (h8 : w.heap.size < b8) (hV : TmVS (fun q => b8 < q) W A' c' (gotT r)) (hB : Below w.heap.size w W) :
 GQ w r (.returned (.agg #[.int .i64 (gotT r).op, .int .i64 (gotT r).num, .string (gotT r).name, .slice A' (gotT r).kids.length c', .int .i64 (gotI r : Nat), .int .i64 (gotE r)])) ((((((((((((W.setCell ⟨b8, 0, none⟩ (u0)).setCell ⟨b8, 1, none⟩ (u1)).setCell ⟨b8, 2, none⟩ (u2)).setCell ⟨b8, 3, none⟩ (u3)).setCell ⟨b8, 4, none⟩ (u4)).setCell ⟨b8, 5, none⟩ (u5)).setCell ⟨b6, 0, none⟩ (v0)).setCell ⟨b6, 1, none⟩ (v1)).setCell ⟨b6, 2, none⟩ (v2)).setCell ⟨b6, 3, none⟩ (v3)).setCell ⟨b6, 4, none⟩ (v4)).setCell ⟨b6, 5, none⟩ (v5)) := by
 have h0 : w.heap.size ≤ b8 := by omega
 refine gq_end v0 v1 v2 v3 v4 v5 hb ?_ ?_
 · exact hV.keep ((((((KeepS.refl.set (by omega) _).set (by omega) _).set (by omega) _).set (by omega) _).set (by omega) _).set (by omega) _) (fun q _ h => by omega)
 · exact ((((((Only.of_below (F := fun q => w.heap.size ≤ q) hB).setF h0 _).setF h0 _).setF h0 _).setF h0 _).setF h0 _).setF h0 _ |>.below (fun q h => h) (Nat.le_refl _)
theorem keep6 {S : Nat → Prop} {W : World} {b : Nat} {v0 v1 v2 v3 v4 v5 : Value} (h : ¬ S b) : KeepS S W ((((((W.setCell ⟨b, 0, none⟩ (v0)).setCell ⟨b, 1, none⟩ (v1)).setCell ⟨b, 2, none⟩ (v2)).setCell ⟨b, 3, none⟩ (v3)).setCell ⟨b, 4, none⟩ (v4)).setCell ⟨b, 5, none⟩ (v5)) := ((((((KeepS.refl.set h _).set h _).set h _).set h _).set h _).set h _)
theorem below6 {w W : World} {b : Nat} {v0 v1 v2 v3 v4 v5 : Value} (hB : Below w.heap.size w W) (h0 : w.heap.size ≤ b) : Below w.heap.size w ((((((W.setCell ⟨b, 0, none⟩ (v0)).setCell ⟨b, 1, none⟩ (v1)).setCell ⟨b, 2, none⟩ (v2)).setCell ⟨b, 3, none⟩ (v3)).setCell ⟨b, 4, none⟩ (v4)).setCell ⟨b, 5, none⟩ (v5)) := ((((((Only.of_below (F := fun q => w.heap.size ≤ q) hB).setF h0 _).setF h0 _).setF h0 _).setF h0 _).setF h0 _).setF h0 _ |>.below (fun q h => h) (Nat.le_refl _)
theorem left_fuel {l : List Tok} {one : Par} {ops : List Int} {i : Nat} : left l one ops i = (one i).then fun t j => leftL l one ops l.length t j := rfl
end Go.Proofs.YtnbphgeepnknlaaGreatDoor
