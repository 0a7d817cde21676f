/- Walk: the reference's sum (products). -/
import Derived.Test.YtnbphgeepnknlaaGreatDoorQRprI
namespace Go.Proofs.YtnbphgeepnknlaaGreatDoor
open Go.RowKit
set_option linter.unusedVariables false

set_option maxRecDepth 100000 in
set_option maxHeartbeats 1000000 in
theorem rpsum_true (l : List Tok) (d : Nat) (P : Par) (hd : d ≤ 256) (hF : FnR l d 229 P) (hG : GdP l P) (hZ : NzP P) : FnRB l d 226 true (left l P [16, 17]) := by
 intro A c i w hi hP
 obtain ⟨n, b6, w1, F, hlen, hlc, hcm, hs1, X6, HB, HP, HP1, HS, HI, HF, HN, HB6, HW1⟩ := rset A c l w hP (GQ w (left l P [16, 17] i))
 rw [← HF.out, ← HN.out]
 rw [← HN.out] at hi
 clear hP
 have HI1 : Hid (∀ (i : Nat) (W : World), i ≤ l.length → TokIn W A c l → Calls Tryz.prog 229 #[.slice A n c, .int .i64 (i : Nat), .int .i64 ((d : Nat) : Int)] W (GQ W (P i))) := by
  intro i W h1 h2
  have := hF A c i W h1 h2
  rw [← HN.out] at this
  exact this
 obtain ⟨HI1P, hHI1P⟩ : ∃ Q0, Q0 = P := ⟨_, rfl⟩
 rw [← hHI1P] at HI1
 have HI1G : Hid (GdP l HI1P) := by show GdP _ _; rw [hHI1P]; exact hG
 have HI1Z : Hid (NzP HI1P) := by show NzP _; rw [hHI1P]; exact hZ
 have HQHI1 := Lib.hid hHI1P
 clear hHI1P
 clear hF hG hZ
 go_enter Tryz.func226, Tryz.ntmps226
 obtain ⟨b7, hb7⟩ : ∃ b, b = w1.heap.size := ⟨_, rfl⟩
 obtain ⟨w2, hw2⟩ : ∃ x, x = w1.alloc (.cells #[.int .i64 0, .int .i64 0, .string ⟨#[]⟩, .slice none 0 0, .int .i64 0, .int .i64 0] 140) := ⟨_, rfl⟩
 have Xb7 : Hid (w2.heap[b7]? = some (.cells #[.int .i64 0, .int .i64 0, .string ⟨#[]⟩, .slice none 0 0, .int .i64 0, .int .i64 0] 140 (0, 0))) := by show _ = _; rw [hw2, hb7]; exact heap_alloc_new w1 _
 have NEb7 : Hid (b7 ≠ b6) := by show _ ≠ _; have := lt_of_heap X6.out; omega
 have hal : Below w1.heap.size w1 w2 := by rw [hw2]; exact (Below.refl _ _).alloc (Nat.le_refl _) _
 have Qb7 := Lib.hid hb7
 have Qw2 := Lib.hid hw2
 clear hb7 hw2
 have NLT : Hid (b6 < b7) := by show _ < _; have := Qb7.out; omega
 have Y6 := Lib.hid ((hal.block b6 (lt_of_heap X6.out)).trans X6.out)
 clear X6
 have X6 := Y6
 clear Y6
 have HBn := Lib.hid (HB.out.trans (hal.mono HB.out.size))
 clear HB
 have HB := HBn
 clear HBn
 clear hal
 have hcf := HI1.out (i) w2 (by first | omega | (rw [← HN.out]; omega)) (HP.out.below HB.out)
 obtain ⟨r1, hr1⟩ : ∃ r, r = HI1P (i) := ⟨_, rfl⟩
 rw [← hr1] at hcf
 have HC := Lib.hid hcf
 have HGr1 : Hid (∀ x k, r1 = .ok x k → Gd l (i) x k) := fun x k h => HI1G.out (i) x k (by rw [← hr1]; exact h)
 have HZr1 : Hid (∀ k x, r1 = .bad k x → x ≠ 0) := fun k x h => HI1Z.out (i) k x (by rw [← hr1]; exact h)
 have HRr1 := Lib.hid hr1
 clear hcf hr1
 go_wp2_with fail
 rw [← HW1.out, ← Qw2.out, show w.heap.size + 1 = b7 from by have := Qb7.out; have := HB6.out; omega]
 try rw [← HB6.out]
 refine (HC.out).mono ?_
 intro e w3 hq
 have HRE : Hid (F = GQ w (left l P [16, 17] i)) := HF
 obtain ⟨r, hr⟩ : ∃ r, r = left l P [16, 17] i := ⟨_, rfl⟩
 rw [← hr] at HRE
 rw [left_fuel, ← HQHI1.out, ← HRr1.out] at hr
 obtain ⟨A', c', rfl, hV, hb2⟩ := hq
 have HV : Hid (TmVS (fun q => b7 < q) w3 A' c' (gotT r1)) := hV.keep KeepS.refl (fun q _ h => by have := lt_of_heap Xb7.out; omega)
 have Y6 := Lib.hid ((hb2.block b6 (lt_of_heap X6.out)).trans X6.out)
 clear X6
 have X6 := Y6
 clear Y6
 have Yb7 := Lib.hid ((hb2.block b7 (lt_of_heap Xb7.out)).trans Xb7.out)
 clear Xb7
 have Xb7 := Yb7
 clear Yb7
 have HBn := Lib.hid (HB.out.trans (hb2.mono HB.out.size))
 clear HB
 have HB := HBn
 clear HBn
 have hS0 := SumS.set (i := i) (one := HI1P) (ops := [16, 17]) (fuel := l.length) (ra := r1) (r := r) HB6.out (by have := HB6.out; have := Qb7.out; have := HB.out.size; have := lt_of_heap X6.out; omega) X6.out Xb7.out HV.out HB.out (fun t j h => by have := HGr1.out t j h; exact ⟨this.ij, this.jl, by omega⟩) (HZr1.out) hr.symm
 clear hb2 hV HC hr
 obtain ⟨w4, hw4⟩ : ∃ w4, w4 = ((((((w3.setCell ⟨b7, 0, none⟩ (.int .i64 (gotT r1).op)).setCell ⟨b7, 1, none⟩ (.int .i64 (gotT r1).num)).setCell ⟨b7, 2, none⟩ (.string (gotT r1).name)).setCell ⟨b7, 3, none⟩ (.slice A' (gotT r1).kids.length c')).setCell ⟨b7, 4, none⟩ (.int .i64 (gotI r1 : Nat))).setCell ⟨b7, 5, none⟩ (.int .i64 (gotE r1))) := ⟨_, rfl⟩
 rw [← hw4] at hS0
 have HS0 := Lib.hid hS0
 have Qw4 := Lib.hid hw4
 clear hS0 hw4
 obtain ⟨n1, hn1⟩ : ∃ m, m = (gotT r1).kids.length := ⟨_, rfl⟩
 have HQn1 := Lib.hid hn1
 rw [← hn1]
 obtain ⟨⟨u0, uz0⟩, ⟨u1, uz1⟩, ⟨u2, uz2⟩, ⟨u3, uz3⟩, ⟨u4, uz4⟩, u5, uz5⟩ := cells6 Xb7.out
 have ul : b7 < w3.heap.size := lt_of_heap Xb7.out
 obtain ⟨⟨v0, vz0⟩, ⟨v1, vz1⟩, ⟨v2, vz2⟩, ⟨v3, vz3⟩, ⟨v4, vz4⟩, v5, vz5⟩ := cells6 X6.out
 have vl : b6 < w3.heap.size := lt_of_heap X6.out
 go_wp2_with fail
 clear u0 uz0 u1 uz1 u2 uz2 u3 uz3 u4 uz4 u5 uz5 ul
 clear v0 vz0 v1 vz1 v2 vz2 v3 vz3 v4 vz4 v5 vz5 vl
 try rw [hn1]
 rw [← Qw4.out]
 clear hn1
 go_loopw [10] (fun sv wr => ∃ (ra : Rs Tm) (A' : Option Addr) (c' fuel : Nat), SumS w l i b6 b7 HI1P [16, 17] r wr ra A' c' fuel) (fun _ wr => l.length - jAt b7 wr)
 case atStart => exact ⟨r1, A', c', l.length, HS0.out⟩
 case round =>
  obtain ⟨ra, A', c', fuel, hS⟩ := hrel
  have HS := Lib.hid hS
  clear hS X6 Xb7 HV HB HS0 Qw4 HQn1
  have X6 := Lib.hid HS.out.x6
  have Xb7 := Lib.hid HS.out.x7
  have HB := Lib.hid HS.out.below
  have nb7 : b7 ≠ b6 := NEb7.out
  rcases ra with ⟨jb, xb⟩ | ⟨t1, j1⟩
  · have HRR : Hid (F = GQ w (.bad jb xb)) := by show _ = _; rw [HRE.out, ← HS.out.re]; rfl
    have hx := HS.out.bad jb xb rfl
    have hxb : (xb == 0) = false := by simpa using hx
    have XZ : Hid (wr.heap[b7]? = some (.cells #[.int .i64 0, .int .i64 0, .string ⟨#[]⟩, .slice A' 0 c', .int .i64 (jb : Nat), .int .i64 xb] 140 (0, 0))) := Xb7
    clear Xb7
    have Xb7 := XZ
    clear XZ
    have HV : Hid (TmVS (fun q => w.heap.size < q) wr A' c' zeroTm) := HS.out.v.keep KeepS.refl (fun q _ h => by have := HB6.out; have := NLT.out; omega)
    clear hx
    obtain ⟨⟨u0, uz0⟩, ⟨u1, uz1⟩, ⟨u2, uz2⟩, ⟨u3, uz3⟩, ⟨u4, uz4⟩, u5, uz5⟩ := cells6 Xb7.out
    have ul : b7 < wr.heap.size := lt_of_heap Xb7.out
    obtain ⟨⟨v0, vz0⟩, ⟨v1, vz1⟩, ⟨v2, vz2⟩, ⟨v3, vz3⟩, ⟨v4, vz4⟩, v5, vz5⟩ := cells6 X6.out
    have vl : b6 < wr.heap.size := lt_of_heap X6.out
    go_wp2_with fail
    clear u0 uz0 u1 uz1 u2 uz2 u3 uz3 u4 uz4 u5 uz5 ul
    clear v0 vz0 v1 vz1 v2 vz2 v3 vz3 v4 vz4 v5 vz5 vl
    refine bodyPost_ret (results_cell_row (t := 140) (fr := (0, 0)) rfl _ _ b6 _ _ rfl (res6 X6.out) Tryz.underlying140 rfl (by kernel_rfl)) rfl ?_
    rw [HRR.out]
    exact gq_end (r := .bad jb xb) (A' := A') (c' := c') _ _ _ _ _ _ HB6.out HV.out HB.out
  · obtain ⟨A1, hA1⟩ : ∃ x, x = A' := ⟨_, rfl⟩
    obtain ⟨c1, hc1⟩ : ∃ x, x = c' := ⟨_, rfl⟩
    obtain ⟨n1, hn1⟩ : ∃ m, m = t1.kids.length := ⟨_, rfl⟩
    have HQn1 := Lib.hid hn1
    have XZ : Hid (wr.heap[b7]? = some (.cells #[.int .i64 t1.op, .int .i64 t1.num, .string t1.name, .slice A1 n1 c1, .int .i64 (j1 : Nat), .int .i64 0] 140 (0, 0))) := by show _ = _; rw [hA1, hc1, hn1]; exact Xb7.out
    clear Xb7
    have Xb7 := XZ
    clear XZ
    have HV1 : Hid (TmVS (fun q => b7 < q) wr A1 c1 t1) := by show TmVS _ _ _ _ _; rw [hA1, hc1]; exact HS.out.v
    have HGO : Hid (leftL l HI1P [16, 17] fuel t1 j1 = r) := HS.out.re
    have hok := HS.out.ok t1 j1 rfl
    have hij_j1 := hok.1
    have hjl_j1 := hok.2.1
    have HFU := Lib.hid hok.2.2
    have HJA : Hid (jAt b7 wr = j1) := jAt_of Xb7.out
    rw [← HN.out] at hjl_j1
    clear hok HS hA1 hc1 hn1
    obtain ⟨gtp, hgtp⟩ : ∃ g, g = wr.heap.size := ⟨_, rfl⟩
    obtain ⟨sp, hsp⟩ : ∃ x, x = wr.alloc (.cells #[.string ⟨#[43]⟩, .string ⟨#[45]⟩] 9) := ⟨_, rfl⟩
    have hbsp : Below wr.heap.size wr sp := by rw [hsp]; exact (Below.refl _ _).alloc (Nat.le_refl _) _
    have hxsp : sp.heap[gtp]? = some (.cells #[.string ⟨#[43]⟩, .string ⟨#[45]⟩] 9 (0, 0)) := by rw [hsp, hgtp]; exact heap_alloc_new wr _
    obtain ⟨gop, hgop⟩ : ∃ g, g = sp.heap.size := ⟨_, rfl⟩
    obtain ⟨tp, htp⟩ : ∃ x, x = sp.alloc (.cells #[.int .i64 14, .int .i64 15] 3) := ⟨_, rfl⟩
    have hbtp : Below sp.heap.size sp tp := by rw [htp]; exact (Below.refl _ _).alloc (Nat.le_refl _) _
    have hbel2 : Below wr.heap.size wr tp := hbsp.trans (hbtp.mono hbsp.size)
    have hO : OpsAt tp gop [14, 15] := by rw [htp, hgop]; exact ops_new sp [14, 15]
    have hxtp : tp.heap[gtp]? = some (.cells #[.string ⟨#[43]⟩, .string ⟨#[45]⟩] 9 (0, 0)) := (hbtp.block gtp (lt_of_heap hxsp)).trans hxsp
    have hwh := rpwhich_any A c j1 l [14, 15] gtp gop 2 2 tp (HP.out.below (HB.out.trans (hbel2.mono HB.out.size))) (by omega) (by decide) (fun k op hop => by
     rw [cell_of_row tp gtp k _ _ (0, 0) hxtp]
     have hk := (List.getElem?_eq_some_iff.1 hop).1
     simp only [List.length_cons, List.length_nil] at hk
     have hk2 : k = 0 ∨ k = 1 := by omega
     rcases hk2 with rfl | rfl
     all_goals
      simp at hop
      subst hop
      rfl) hO (by decide)
    rw [← HN.out] at hwh
    have HC := Lib.hid hwh
    have Qgtp := Lib.hid hgtp
    have Qgop : Hid (gop = wr.heap.size + 1) := by show _ = _; rw [hgop, hsp]; simp
    have Qsp := Lib.hid hsp
    have Qtp := Lib.hid htp
    obtain ⟨⟨u0, uz0⟩, ⟨u1, uz1⟩, ⟨u2, uz2⟩, ⟨u3, uz3⟩, ⟨u4, uz4⟩, u5, uz5⟩ := cells6 Xb7.out
    have ul : b7 < wr.heap.size := lt_of_heap Xb7.out
    clear hwh hgtp hgop hsp htp hO hxsp hxtp hbsp hbtp
    go_wp2_with fail
    rw [← Qsp.out, ← Qtp.out, ← Qgop.out, ← Qgtp.out]
    clear u0 uz0 u1 uz1 u2 uz2 u3 uz3 u4 uz4 u5 uz5 ul
    have Y6 := Lib.hid ((hbel2.block b6 (lt_of_heap X6.out)).trans X6.out)
    clear X6
    have X6 := Y6
    clear Y6
    have Yb7 := Lib.hid ((hbel2.block b7 (lt_of_heap Xb7.out)).trans Xb7.out)
    clear Xb7
    have Xb7 := Yb7
    clear Yb7
    have YHV1 : Hid (TmVS (fun q => b7 < q) tp A1 c1 t1) := HV1.out.keep (KeepS.of_below hbel2) (fun _ _ h => h)
    clear HV1
    have HV1 := YHV1
    clear YHV1
    have HBn := Lib.hid (HB.out.trans (hbel2.mono HB.out.size))
    clear HB
    have HB := HBn
    clear HBn
    clear hbel2
    refine (HC.out).mono ?_
    rintro e w' ⟨rfl, hww⟩
    rw [hww]
    clear hww HC
    obtain ⟨zp, hzp⟩ : ∃ z, z = whichOp l j1 [14, 15] := ⟨_, rfl⟩
    rw [← hzp]
    clear hzp
    obtain ⟨gtq, hgtq⟩ : ∃ g, g = tp.heap.size := ⟨_, rfl⟩
    obtain ⟨sq, hsq⟩ : ∃ x, x = tp.alloc (.cells #[.string ⟨#[42]⟩, .string ⟨#[109, 111, 100]⟩] 9) := ⟨_, rfl⟩
    have hbsq : Below tp.heap.size tp sq := by rw [hsq]; exact (Below.refl _ _).alloc (Nat.le_refl _) _
    have hxsq : sq.heap[gtq]? = some (.cells #[.string ⟨#[42]⟩, .string ⟨#[109, 111, 100]⟩] 9 (0, 0)) := by rw [hsq, hgtq]; exact heap_alloc_new tp _
    obtain ⟨goq, hgoq⟩ : ∃ g, g = sq.heap.size := ⟨_, rfl⟩
    obtain ⟨tq, htq⟩ : ∃ x, x = sq.alloc (.cells #[.int .i64 16, .int .i64 17] 3) := ⟨_, rfl⟩
    have hbtq : Below sq.heap.size sq tq := by rw [htq]; exact (Below.refl _ _).alloc (Nat.le_refl _) _
    have hbel2 : Below tp.heap.size tp tq := hbsq.trans (hbtq.mono hbsq.size)
    have hO : OpsAt tq goq [16, 17] := by rw [htq, hgoq]; exact ops_new sq [16, 17]
    have hxtq : tq.heap[gtq]? = some (.cells #[.string ⟨#[42]⟩, .string ⟨#[109, 111, 100]⟩] 9 (0, 0)) := (hbtq.block gtq (lt_of_heap hxsq)).trans hxsq
    have hwh := rpwhich_any A c j1 l [16, 17] gtq goq 2 2 tq (HP.out.below (HB.out.trans (hbel2.mono HB.out.size))) (by omega) (by decide) (fun k op hop => by
     rw [cell_of_row tq gtq k _ _ (0, 0) hxtq]
     have hk := (List.getElem?_eq_some_iff.1 hop).1
     simp only [List.length_cons, List.length_nil] at hk
     have hk2 : k = 0 ∨ k = 1 := by omega
     rcases hk2 with rfl | rfl
     all_goals
      simp at hop
      subst hop
      rfl) hO (by decide)
    rw [← HN.out] at hwh
    have HC := Lib.hid hwh
    have Qgtq := Lib.hid hgtq
    have Qgoq : Hid (goq = tp.heap.size + 1) := by show _ = _; rw [hgoq, hsq]; simp
    have Qsq := Lib.hid hsq
    have Qtq := Lib.hid htq
    obtain ⟨⟨u0, uz0⟩, ⟨u1, uz1⟩, ⟨u2, uz2⟩, ⟨u3, uz3⟩, ⟨u4, uz4⟩, u5, uz5⟩ := cells6 Xb7.out
    have ul : b7 < tp.heap.size := lt_of_heap Xb7.out
    clear hwh hgtq hgoq hsq htq hO hxsq hxtq hbsq hbtq
    go_wp2_with fail
    rw [← Qsq.out, ← Qtq.out, ← Qgoq.out, ← Qgtq.out]
    clear u0 uz0 u1 uz1 u2 uz2 u3 uz3 u4 uz4 u5 uz5 ul
    have Y6 := Lib.hid ((hbel2.block b6 (lt_of_heap X6.out)).trans X6.out)
    clear X6
    have X6 := Y6
    clear Y6
    have Yb7 := Lib.hid ((hbel2.block b7 (lt_of_heap Xb7.out)).trans Xb7.out)
    clear Xb7
    have Xb7 := Yb7
    clear Yb7
    have YHV1 : Hid (TmVS (fun q => b7 < q) tq A1 c1 t1) := HV1.out.keep (KeepS.of_below hbel2) (fun _ _ h => h)
    clear HV1
    have HV1 := YHV1
    clear YHV1
    have HBn := Lib.hid (HB.out.trans (hbel2.mono HB.out.size))
    clear HB
    have HB := HBn
    clear HBn
    clear hbel2
    refine (HC.out).mono ?_
    rintro e w' ⟨rfl, hww⟩
    rw [hww]
    clear hww HC
    by_cases hz : whichOp l j1 [16, 17] = 0
    · have HRR : Hid (F = GQ w (.ok t1 j1)) := by show _ = _; rw [HRE.out, ← HGO.out, left_stop hz]
      rw [hz]
      clear hz
      obtain ⟨⟨u0, uz0⟩, ⟨u1, uz1⟩, ⟨u2, uz2⟩, ⟨u3, uz3⟩, ⟨u4, uz4⟩, u5, uz5⟩ := cells6 Xb7.out
      have ul : b7 < tq.heap.size := lt_of_heap Xb7.out
      obtain ⟨⟨v0, vz0⟩, ⟨v1, vz1⟩, ⟨v2, vz2⟩, ⟨v3, vz3⟩, ⟨v4, vz4⟩, v5, vz5⟩ := cells6 X6.out
      have vl : b6 < tq.heap.size := lt_of_heap X6.out
      go_wp2_with fail
      clear u0 uz0 u1 uz1 u2 uz2 u3 uz3 u4 uz4 u5 uz5 ul
      clear v0 vz0 v1 vz1 v2 vz2 v3 vz3 v4 vz4 v5 vz5 vl
      refine bodyPost_ret (results_cell_row (t := 140) (fr := (0, 0)) rfl _ _ b6 _ _ rfl (res6 X6.out) Tryz.underlying140 rfl (by kernel_rfl)) rfl ?_
      rw [HRR.out, HQn1.out]
      exact gq_end (r := .ok t1 j1) (A' := A1) (c' := c1) _ _ _ _ _ _ HB6.out (HV1.out.keep KeepS.refl (fun q _ h => by have := HB6.out; have := NLT.out; omega)) HB.out
    · have hjl2 := which_lt hz
      rw [← HN.out] at hjl2
      obtain ⟨fu, hfu⟩ : ∃ fu, fuel = fu + 1 := ⟨fuel - 1, by have := HFU.out; have := HN.out; omega⟩
      have HFU2 : Hid (l.length ≤ fu + 1 + j1) := by show _ ≤ _; have := HFU.out; omega
      have HGO2 : Hid ((HI1P (j1 + 1)).then (fun u k => leftL l HI1P [16, 17] fu (tmOf (whichOp l j1 [16, 17]) [t1, u]) k) = r) := by show _ = _; rw [← HGO.out, hfu, left_go hz]
      obtain ⟨zz, hzz⟩ : ∃ z, z = whichOp l j1 [16, 17] := ⟨_, rfl⟩
      rw [← hzz] at hz HGO2 ⊢
      have hzb : (zz == 0) = false := by simpa using hz
      clear hz hzz hfu HFU HGO
      obtain ⟨⟨u0, uz0⟩, ⟨u1, uz1⟩, ⟨u2, uz2⟩, ⟨u3, uz3⟩, ⟨u4, uz4⟩, u5, uz5⟩ := cells6 Xb7.out
      have ul : b7 < tq.heap.size := lt_of_heap Xb7.out
      have X7L : Hid (b7 < tq.heap.size) := lt_of_heap Xb7.out
      obtain ⟨b8, hb8⟩ : ∃ b, b = tq.heap.size := ⟨_, rfl⟩
      obtain ⟨w5, hw5⟩ : ∃ x, x = tq.alloc (.cells #[.int .i64 0, .int .i64 0, .string ⟨#[]⟩, .slice none 0 0, .int .i64 0, .int .i64 0] 140) := ⟨_, rfl⟩
      have Xb8 : Hid (w5.heap[b8]? = some (.cells #[.int .i64 0, .int .i64 0, .string ⟨#[]⟩, .slice none 0 0, .int .i64 0, .int .i64 0] 140 (0, 0))) := by show _ = _; rw [hw5, hb8]; exact heap_alloc_new tq _
      have NEb8 : Hid (b8 ≠ b6) := by show _ ≠ _; have := lt_of_heap X6.out; omega
      have hal : Below tq.heap.size tq w5 := by rw [hw5]; exact (Below.refl _ _).alloc (Nat.le_refl _) _
      have Qb8 := Lib.hid hb8
      have Qw5 := Lib.hid hw5
      clear hb8 hw5
      have HV1b : Hid (TmVS (fun q => b7 < q ∧ q ≠ b8) tq A1 c1 t1) := HV1.out.keep KeepS.refl (fun q hq h => ⟨h, by have := Qb8.out; omega⟩)
      clear HV1
      have HV1 := HV1b
      clear HV1b
      have Y6 := Lib.hid ((hal.block b6 (lt_of_heap X6.out)).trans X6.out)
      clear X6
      have X6 := Y6
      clear Y6
      have Yb7 := Lib.hid ((hal.block b7 (lt_of_heap Xb7.out)).trans Xb7.out)
      clear Xb7
      have Xb7 := Yb7
      clear Yb7
      have YHV1 : Hid (TmVS (fun q => b7 < q ∧ q ≠ b8) w5 A1 c1 t1) := HV1.out.keep (KeepS.of_below hal) (fun _ _ h => h)
      clear HV1
      have HV1 := YHV1
      clear YHV1
      have HBn := Lib.hid (HB.out.trans (hal.mono HB.out.size))
      clear HB
      have HB := HBn
      clear HBn
      have NB8 : Hid (b8 ≠ b7) := by show _ ≠ _; have := Qb8.out; have := lt_of_heap Xb7.out; have := hal.size; have : b7 < tq.heap.size := X7L.out; omega
      have NL8 : Hid (b7 < b8) := by show _ < _; have := Qb8.out; have : b7 < tq.heap.size := X7L.out; omega
      clear hal
      have hcf := HI1.out (j1 + 1) w5 (by first | omega | (rw [← HN.out]; omega)) (HP.out.below HB.out)
      rw [show ((j1 + 1 : Nat) : Int) = (j1 : Int) + 1 from by omega] at hcf
      obtain ⟨r2, hr2⟩ : ∃ r, r = HI1P (j1 + 1) := ⟨_, rfl⟩
      rw [← hr2] at hcf
      have HC := Lib.hid hcf
      have HGr2 : Hid (∀ x k, r2 = .ok x k → Gd l (j1 + 1) x k) := fun x k h => HI1G.out (j1 + 1) x k (by rw [← hr2]; exact h)
      have HZr2 : Hid (∀ k x, r2 = .bad k x → x ≠ 0) := fun k x h => HI1Z.out (j1 + 1) k x (by rw [← hr2]; exact h)
      have HRr2 := Lib.hid hr2
      clear hcf hr2
      go_wp2_with fail
      rw [← Qw5.out, ← Qb8.out]
      clear u0 uz0 u1 uz1 u2 uz2 u3 uz3 u4 uz4 u5 uz5 ul
      refine (HC.out).mono ?_
      intro e w6 hq
      rcases r2 with ⟨jb, xb⟩ | ⟨t2, j2⟩
      · obtain ⟨A2, c2, rfl, hV, hb2⟩ := gq_bad.1 hq
        have HRR : Hid (F = GQ w (.bad jb xb)) := by show _ = _; rw [HRE.out, ← HGO2.out, ← HRr2.out]; rfl
        have hx := HZr2.out _ _ rfl
        have hxb : (xb != 0) = true := by simpa using hx
        have HV : Hid (TmVS (fun q => b8 < q) w6 A2 c2 zeroTm) := hV.keep KeepS.refl (fun q _ h => by have := lt_of_heap Xb8.out; omega)
        have Y6 := Lib.hid ((hb2.block b6 (lt_of_heap X6.out)).trans X6.out)
        clear X6
        have X6 := Y6
        clear Y6
        have Yb7 := Lib.hid ((hb2.block b7 (lt_of_heap Xb7.out)).trans Xb7.out)
        clear Xb7
        have Xb7 := Yb7
        clear Yb7
        have Yb8 := Lib.hid ((hb2.block b8 (lt_of_heap Xb8.out)).trans Xb8.out)
        clear Xb8
        have Xb8 := Yb8
        clear Yb8
        have YHV1 : Hid (TmVS (fun q => b7 < q ∧ q ≠ b8) w6 A1 c1 t1) := HV1.out.keep (KeepS.of_below hb2) (fun _ _ h => h)
        clear HV1
        have HV1 := YHV1
        clear YHV1
        have HBn := Lib.hid (HB.out.trans (hb2.mono HB.out.size))
        clear HB
        have HB := HBn
        clear HBn
        clear hb2 hV hq HC hx
        have nb8 : b8 ≠ b6 := NEb8.out
        obtain ⟨⟨u0, uz0⟩, ⟨u1, uz1⟩, ⟨u2, uz2⟩, ⟨u3, uz3⟩, ⟨u4, uz4⟩, u5, uz5⟩ := cells6 Xb8.out
        have ul : b8 < w6.heap.size := lt_of_heap Xb8.out
        obtain ⟨⟨v0, vz0⟩, ⟨v1, vz1⟩, ⟨v2, vz2⟩, ⟨v3, vz3⟩, ⟨v4, vz4⟩, v5, vz5⟩ := cells6 X6.out
        have vl : b6 < w6.heap.size := lt_of_heap X6.out
        go_wp2_with fail
        clear u0 uz0 u1 uz1 u2 uz2 u3 uz3 u4 uz4 u5 uz5 ul
        clear v0 vz0 v1 vz1 v2 vz2 v3 vz3 v4 vz4 v5 vz5 vl
        refine bodyPost_ret (results_cell_row (t := 140) (fr := (0, 0)) rfl _ _ b6 _ _ rfl (res6 ((sets6_far nb8.symm).trans X6.out)) Tryz.underlying140 rfl (by kernel_rfl)) rfl ?_
        rw [HRR.out]
        exact gq_end2 (r := .bad jb xb) (A' := A2) (c' := c2) _ _ _ _ _ _ _ _ _ _ _ _ HB6.out (by have := HB6.out; have := NLT.out; have := NL8.out; omega) HV.out HB.out
      · obtain ⟨A2, c2, rfl, hV, hb2⟩ := gq_ok.1 hq
        have HGO3 : Hid (leftL l HI1P [16, 17] fu (tmOf zz [t1, t2]) j2 = r) := by show _ = _; rw [← HGO2.out, ← HRr2.out]; rfl
        have HV2 : Hid (TmVS (fun q => b8 < q) w6 A2 c2 t2) := hV.keep KeepS.refl (fun q _ h => by have := lt_of_heap Xb8.out; omega)
        have hgd := HGr2.out _ _ rfl
        have hij_j2 := hgd.ij
        have hjl_j2 := hgd.jl
        rw [← HN.out] at hjl_j2
        clear hgd HGO2
        obtain ⟨n2, hn2⟩ : ∃ m, m = t2.kids.length := ⟨_, rfl⟩
        rw [← hn2]
        have HQn2 := Lib.hid hn2
        clear hn2
        have Y6 := Lib.hid ((hb2.block b6 (lt_of_heap X6.out)).trans X6.out)
        clear X6
        have X6 := Y6
        clear Y6
        have Yb7 := Lib.hid ((hb2.block b7 (lt_of_heap Xb7.out)).trans Xb7.out)
        clear Xb7
        have Xb7 := Yb7
        clear Yb7
        have Yb8 := Lib.hid ((hb2.block b8 (lt_of_heap Xb8.out)).trans Xb8.out)
        clear Xb8
        have Xb8 := Yb8
        clear Yb8
        have YHV1 : Hid (TmVS (fun q => b7 < q ∧ q ≠ b8) w6 A1 c1 t1) := HV1.out.keep (KeepS.of_below hb2) (fun _ _ h => h)
        clear HV1
        have HV1 := YHV1
        clear YHV1
        have HBn := Lib.hid (HB.out.trans (hb2.mono HB.out.size))
        clear HB
        have HB := HBn
        clear HBn
        clear hb2 hV hq HC
        obtain ⟨w7, hw7⟩ : ∃ x, x = ((((((w6.setCell ⟨b8, 0, none⟩ (.int .i64 t2.op)).setCell ⟨b8, 1, none⟩ (.int .i64 t2.num)).setCell ⟨b8, 2, none⟩ (.string t2.name)).setCell ⟨b8, 3, none⟩ (.slice A2 n2 c2)).setCell ⟨b8, 4, none⟩ (.int .i64 (j2 : Nat))).setCell ⟨b8, 5, none⟩ (.int .i64 0)) := ⟨_, rfl⟩
        have nb8 : b8 ≠ b6 := NEb8.out
        have nb87 : b8 ≠ b7 := NB8.out
        have YX6 : Hid (w7.heap[b6]? = some (.cells #[.int .i64 0, .int .i64 0, .string ⟨#[]⟩, .slice none 0 0, .int .i64 0, .int .i64 0] 140 (0, 0))) := by show _ = _; rw [hw7]; exact (sets6_far nb8.symm).trans X6.out
        have YX7 : Hid (w7.heap[b7]? = some (.cells #[.int .i64 t1.op, .int .i64 t1.num, .string t1.name, .slice A1 n1 c1, .int .i64 (j1 : Nat), .int .i64 0] 140 (0, 0))) := by show _ = _; rw [hw7]; exact (sets6_far nb87.symm).trans Xb7.out
        have YX8 : Hid (w7.heap[b8]? = some (.cells #[.int .i64 t2.op, .int .i64 t2.num, .string t2.name, .slice A2 n2 c2, .int .i64 (j2 : Nat), .int .i64 0] 140 (0, 0))) := by show _ = _; rw [hw7]; exact res6 Xb8.out
        have YV1 : Hid (TmVS (fun q => b7 < q) w7 A1 c1 t1) := by show TmVS _ _ _ _ _; rw [hw7]; exact HV1.out.keep (keep6 (by simp)) (fun q _ h => h.1)
        have YV2 : Hid (TmVS (fun q => b7 < q) w7 A2 c2 t2) := by show TmVS _ _ _ _ _; rw [hw7]; exact HV2.out.keep (keep6 (by simp)) (fun q _ h => by have := NL8.out; omega)
        have YB : Hid (Below w.heap.size w w7) := by show Below _ _ _; rw [hw7]; exact below6 HB.out (by have := HB6.out; have := NLT.out; have := NL8.out; omega)
        have Qw7 := Lib.hid hw7
        clear hw7
        obtain ⟨⟨u0, uz0⟩, ⟨u1, uz1⟩, ⟨u2, uz2⟩, ⟨u3, uz3⟩, ⟨u4, uz4⟩, u5, uz5⟩ := cells6 Xb8.out
        have ul : b8 < w6.heap.size := lt_of_heap Xb8.out
        go_wp2_with fail
        rw [← Qw7.out]
        clear u0 uz0 u1 uz1 u2 uz2 u3 uz3 u4 uz4 u5 uz5 ul
        clear X6 Xb7 Xb8 HV1 HV2 HB
        have X6 := YX6
        have Xb7 := YX7
        have Xb8 := YX8
        have HV1 := YV1
        have HV2 := YV2
        have HB := YB
        clear YX6 YX7 YX8 YV1 YV2 YB Qw7
        have n87 : b8 ≠ b7 := NB8.out
        obtain ⟨wd, hwd⟩ : ∃ wd, wd = w7.drew := ⟨_, rfl⟩
        have hbd : Below w7.heap.size w7 wd := by rw [hwd]; exact (Below.refl _ _).drew
        have Y6 := Lib.hid ((hbd.block b6 (lt_of_heap X6.out)).trans X6.out)
        clear X6
        have X6 := Y6
        clear Y6
        have Yb7 := Lib.hid ((hbd.block b7 (lt_of_heap Xb7.out)).trans Xb7.out)
        clear Xb7
        have Xb7 := Yb7
        clear Yb7
        have Yb8 := Lib.hid ((hbd.block b8 (lt_of_heap Xb8.out)).trans Xb8.out)
        clear Xb8
        have Xb8 := Yb8
        clear Yb8
        have YHV1 : Hid (TmVS (fun q => b7 < q) wd A1 c1 t1) := HV1.out.keep (KeepS.of_below hbd) (fun _ _ h => h)
        clear HV1
        have HV1 := YHV1
        clear YHV1
        have YHV2 : Hid (TmVS (fun q => b7 < q) wd A2 c2 t2) := HV2.out.keep (KeepS.of_below hbd) (fun _ _ h => h)
        clear HV2
        have HV2 := YHV2
        clear YHV2
        have HBn := Lib.hid (HB.out.trans (hbd.mono HB.out.size))
        clear HB
        have HB := HBn
        clear HBn
        have HTW : Hid (Calls Tryz.prog 138 #[.int .i64 zz, .agg #[.int .i64 t1.op, .int .i64 t1.num, .string t1.name, .slice A1 n1 c1], .agg #[.int .i64 t2.op, .int .i64 t2.num, .string t2.name, .slice A2 n2 c2]] wd fun e w' => ∃ g, e = .returned (.agg #[.int .i64 zz, .int .i64 0, .string ⟨#[]⟩, .slice (some ⟨g, 0, none⟩) 2 2]) ∧ TmVS (fun q => b7 < q) w' (some ⟨g, 0, none⟩) 2 (tmOf zz [t1, t2]) ∧ Below wd.heap.size wd w') := by
         have h := rptwo_any zz t1 t2 A1 c1 A2 c2 (b7 + 1) wd (by have := lt_of_heap Xb7.out; omega) HV1.out HV2.out
         unfold Tm.val at h
         rw [← HQn1.out, ← HQn2.out] at h
         exact h
        refine wp_region_held_drew (S := fun w' => w'.heap[b8]? = some (.cells #[.int .i64 t2.op, .int .i64 t2.num, .string t2.name, .slice A2 n2 c2, .int .i64 (j2 : Nat), .int .i64 0] 140 (0, 0))) (by kernel_rfl) (by rw [← hwd]; exact Xb8.out) (fun hHeld => ?_)
        rw [← hwd] at hHeld ⊢
        clear hwd hbd
        refine wpAnyH_take (i := 0) (oi := { dst := some 57, op := Op.move (Operand.tmp 10), type := 3, pos := "ref.go:154", after := #[], guard := none }) (v := ?_) rfl (by kernel_rfl) (by kernel_rfl) (by kernel_rfl) (fun _ _ _ h => h) (Or.inl ⟨by rfl, ?hy⟩) (by assumption) ?_
        case hy =>
         intro w0 hSw
         clear hSw
         go_simp
         (first | done | with_reducible rfl)
        try simp only [Act.put, List.setIfInBounds_toArray, List.set_cons_zero, List.set_cons_succ]
        refine wpAnyH_take (i := 1) (oi := { dst := some 58, op := Op.fieldAddr 140 (Operand.tmp 9) 0, type := 0, pos := "ref.go:154", after := #[], guard := none }) (v := ?_) rfl (by kernel_rfl) (by kernel_rfl) (by kernel_rfl) (fun _ _ _ h => h) (Or.inl ⟨by rfl, ?hy⟩) (by assumption) ?_
        case hy =>
         intro w0 hSw
         clear hSw
         go_simp
         (first | done | with_reducible rfl)
        try simp only [Act.put, List.setIfInBounds_toArray, List.set_cons_zero, List.set_cons_succ]
        refine wpAnyH_take (i := 3) (oi := { dst := some 60, op := Op.fieldAddr 140 (Operand.tmp 11) 0, type := 0, pos := "ref.go:154", after := #[], guard := none }) (v := ?_) rfl (by kernel_rfl) (by kernel_rfl) (by kernel_rfl) (fun _ _ _ h => h) (Or.inl ⟨by rfl, ?hy⟩) (by assumption) ?_
        case hy =>
         intro w0 hSw
         clear hSw
         go_simp
         (first | done | with_reducible rfl)
        try simp only [Act.put, List.setIfInBounds_toArray, List.set_cons_zero, List.set_cons_succ]
        refine wpAnyH_take (i := 4) (oi := { dst := some 61, op := Op.load 25 (Operand.tmp 60), type := 25, pos := "ref.go:154", after := #[{ on := 3, ground := Ground.data }], guard := none }) (v := ?_) rfl (by kernel_rfl) (by kernel_rfl) (by kernel_rfl) (fun _ _ _ h => h) (Or.inl ⟨by rfl, ?hy⟩) (by assumption) ?_
        case hy =>
         intro w0 hSw
         obtain ⟨⟨h0, -⟩, ⟨h1, -⟩, ⟨h2, -⟩, ⟨h3, -⟩, ⟨h4, -⟩, h5, -⟩ := cells6 hSw
         clear hSw
         go_simp
         (first | done | with_reducible rfl)
        try simp only [Act.put, List.setIfInBounds_toArray, List.set_cons_zero, List.set_cons_succ]
        refine wpAnyH_take (i := 6) (oi := { dst := some 63, op := Op.fieldAddr 140 (Operand.tmp 11) 1, type := 0, pos := "ref.go:154", after := #[], guard := none }) (v := ?_) rfl (by kernel_rfl) (by kernel_rfl) (by kernel_rfl) (fun _ _ _ h => h) (Or.inl ⟨by rfl, ?hy⟩) (by assumption) ?_
        case hy =>
         intro w0 hSw
         clear hSw
         go_simp
         (first | done | with_reducible rfl)
        try simp only [Act.put, List.setIfInBounds_toArray, List.set_cons_zero, List.set_cons_succ]
        refine wpAnyH_take (i := 7) (oi := { dst := some 64, op := Op.load 3 (Operand.tmp 63), type := 3, pos := "ref.go:154", after := #[{ on := 6, ground := Ground.data }], guard := none }) (v := ?_) rfl (by kernel_rfl) (by kernel_rfl) (by kernel_rfl) (fun _ _ _ h => h) (Or.inl ⟨by rfl, ?hy⟩) (by assumption) ?_
        case hy =>
         intro w0 hSw
         obtain ⟨⟨h0, -⟩, ⟨h1, -⟩, ⟨h2, -⟩, ⟨h3, -⟩, ⟨h4, -⟩, h5, -⟩ := cells6 hSw
         clear hSw
         go_simp
         (first | done | with_reducible rfl)
        try simp only [Act.put, List.setIfInBounds_toArray, List.set_cons_zero, List.set_cons_succ]
        refine wpAnyH_ready (rs := [2]) (by kernel_rfl) (by simp) ?_
        refine AllReadyH.cons (o := { dst := some 59, op := Op.load 25 (Operand.tmp 58), type := 25, pos := "ref.go:154", after := #[{ on := 1, ground := Ground.data }], guard := none }) rfl (fun K hK => ?_) AllReadyH.nil
        obtain ⟨⟨u0, uz0⟩, ⟨u1, uz1⟩, ⟨u2, uz2⟩, ⟨u3, uz3⟩, ⟨u4, uz4⟩, u5, uz5⟩ := cells6 Xb7.out
        have ul : b7 < wd.heap.size := lt_of_heap Xb7.out
        go_simp
        clear u0 uz0 u1 uz1 u2 uz2 u3 uz3 u4 uz4 u5 uz5 ul
        refine hK.out _ _ hHeld (fun hHeld => ?_)
        clear hK K
        try simp only [Act.put, List.setIfInBounds_toArray, List.set_cons_zero, List.set_cons_succ]
        refine wpAnyH_ready (rs := [5]) (by kernel_rfl) (by simp) ?_
        refine AllReadyH.cons (o := { dst := some 62, op := Op.call { callee := Callee.value (Operand.func 138), args := #[Operand.tmp 57, Operand.tmp 59, Operand.tmp 61], argTypes := #[3, 25, 25] }, type := 25, pos := "ref.go:154", after := #[{ on := 0, ground := Ground.data }, { on := 2, ground := Ground.data }, { on := 4, ground := Ground.data }], guard := none }) rfl (fun K hK => ?_) AllReadyH.nil
        go_simp
        with_reducible refine (HTW.out).mono ?_
        rintro e w8 ⟨g, rfl, hVT, hbT⟩
        have HVT := Lib.hid hVT
        refine hK.out _ _ ((hbT.block b8 (lt_of_heap Xb8.out)).trans Xb8.out) (fun hHeld => ?_)
        clear hK K
        try simp only [Act.put, List.setIfInBounds_toArray, List.set_cons_zero, List.set_cons_succ]
        have Y6 := Lib.hid ((hbT.block b6 (lt_of_heap X6.out)).trans X6.out)
        clear X6
        have X6 := Y6
        clear Y6
        have Yb7 := Lib.hid ((hbT.block b7 (lt_of_heap Xb7.out)).trans Xb7.out)
        clear Xb7
        have Xb7 := Yb7
        clear Yb7
        have HBn := Lib.hid (HB.out.trans (hbT.mono HB.out.size))
        clear HB
        have HB := HBn
        clear HBn
        clear hbT hVT HTW
        refine wpAnyH_take (i := 8) (oi := { dst := some 65, op := Op.build 140 #[(0, Operand.tmp 62), (1, Operand.tmp 64), (2, Operand.const (Value.int IntKind.i64 0))], type := 140, pos := "ref.go:154", after := #[{ on := 5, ground := Ground.data }, { on := 7, ground := Ground.data }], guard := none }) (v := ?_) rfl (by kernel_rfl) (by kernel_rfl) (by kernel_rfl) (fun _ _ _ h => h) (Or.inl ⟨by rfl, ?hy⟩) (by assumption) ?_
        case hy =>
         intro w0 hSw
         clear hSw
         go_simp
         (first | done | with_reducible rfl)
        try simp only [Act.put, List.setIfInBounds_toArray, List.set_cons_zero, List.set_cons_succ]
        refine wpAnyH_ready (rs := [9]) (by kernel_rfl) (by simp) ?_
        refine AllReadyH.cons (o := { dst := none, op := Op.store 140 (Operand.tmp 9) (Operand.tmp 65), type := 0, pos := "ref.go:154", after := #[{ on := 8, ground := Ground.data }, { on := 5, ground := Ground.chain }, { on := 0, ground := Ground.phase }, { on := 1, ground := Ground.phase }, { on := 2, ground := Ground.phase }, { on := 3, ground := Ground.phase }, { on := 4, ground := Ground.phase }, { on := 5, ground := Ground.phase }, { on := 6, ground := Ground.phase }, { on := 7, ground := Ground.phase }, { on := 8, ground := Ground.phase }], guard := none }) rfl (fun K hK => ?_) AllReadyH.nil
        obtain ⟨⟨u0, uz0⟩, ⟨u1, uz1⟩, ⟨u2, uz2⟩, ⟨u3, uz3⟩, ⟨u4, uz4⟩, u5, uz5⟩ := cells6 Xb7.out
        have ul : b7 < w8.heap.size := lt_of_heap Xb7.out
        go_simp
        clear u0 uz0 u1 uz1 u2 uz2 u3 uz3 u4 uz4 u5 uz5 ul
        refine hK.out _ _ ((sets6_far n87).trans hHeld) (fun hHeld => ?_)
        clear hK K
        try simp only [Act.put, List.setIfInBounds_toArray, List.set_cons_zero, List.set_cons_succ]
        refine wpAnyH_done (by kernel_rfl) ?_ _
        clear hHeld
        have hSn := SumS.set (i := i) (one := HI1P) (ops := [16, 17]) (fuel := fu) (ra := .ok (tmOf zz [t1, t2]) j2) (r := r) HB6.out NLT.out X6.out Xb7.out HVT.out HB.out (fun t j h => by cases h; have := HFU2.out; have := HN.out; exact ⟨by omega, by omega, by omega⟩) (fun j x h => by cases h) HGO3.out
        have hja := HJA.out
        have hjn := jAt_of hSn.x7
        go_wp2_with fail
        go_roundw
        case rel => exact ⟨.ok (tmOf zz [t1, t2]) j2, some ⟨g, 0, none⟩, 2, fu, hSn⟩
        case measure =>
         have := HN.out
         rw [hja]
         refine lt_of_eq_of_lt (congrArg (l.length - ·) hjn) ?_
         show l.length - j2 < _
         omega
end Go.Proofs.YtnbphgeepnknlaaGreatDoor
