/-Walks of the reference of formula texts: ref33.text at two parts.  Walks of the reference of formula texts: ref33.text whole, Show.  Walks of the reference of tree texts: ref52.word, show, Show. -/
import Derived.Test.YtcjblbpkjegmiaaDoorRfA3
import Derived.Test.YtcjblbpkjegmiaaDoorTtrL2
import Derived.Test.YtcjblbpkjegmiaaDoorTtrD
namespace Go.Proofs.YtcjblbpkjegmiaaDoor
open Go.RowKit
set_option linter.unusedVariables false
set_option linter.unusedSimpArgs false

set_option maxRecDepth 100000 in
set_option maxHeartbeats 16000000 in
theorem rtext_b3 (N : Nat) (H : RTextC N) (f : Fm) (least d : Nat) (Ae : Option Addr) (ce : Nat) (A : Option Addr) (c : Nat) (w : World) (hN : f.size ≤ N + 1) (hok : f.okT d) (hws : f.wsize ≤ 9000000) (hsz : f.size ≤ 5000) (hl4 : least ≤ 4) (hV : FmV w Ae ce A c f) (ho : f.op = 3) :
    Calls Tryd.prog 90 #[f.val Ae ce A c, .int .i64 (least : Nat)] w (FTQ f least w) := by
  obtain ⟨-, ⟨hk0, hkl, hk1⟩, hkids⟩ := fokT_open hok
  obtain ⟨n, hn⟩ : ∃ n, n = f.kids.length := ⟨_, rfl⟩
  obtain ⟨ne, hne⟩ : ∃ ne, ne = f.tm.kids.length := ⟨_, rfl⟩
  obtain ⟨F, hF⟩ : ∃ F, F = FTQ f least w := ⟨_, rfl⟩
  have hszk : ∀ k ∈ f.kids, k.size ≤ N ∧ k.size ≤ 5000 ∧ k.wsize ≤ 9000000 := fun k hk => by
    have h1 := Fm.sizeL_mem hk
    have h2 := (Fm.wsize_open f).2 k hk
    cases f with
    | mk op e l => rw [Fm.size] at hN hsz; simp only [Fm.kids] at h1; omega
  have hts := (Fm.wsize_open f).1
  have hcap := hV.cap
  have hcapm := hV.capm
  unfold maxLen at hcapm
  obtain ⟨w1, hw1⟩ : ∃ w1, w1 = w.alloc (.cells #[.int .i64 3, .int .i64 f.tm.op, .int .i64 f.tm.num, .string f.tm.name, .slice Ae ne ce, .slice A n c] 29) := ⟨_, rfl⟩
  have hb1 : Below w.heap.size w w1 := by rw [hw1]; exact (Below.refl _ _).alloc (Nat.le_refl _) _
  have hs1 : w.heap.size < w1.heap.size := by rw [hw1]; simp
  have hbx : FBox w1 w.heap.size Ae ne ce A n c f := by unfold FBox; rw [hw1, ho]; exact heap_alloc_new w _
  have HXX : Hid (∀ W, Below w1.heap.size w1 W → W.cell? ⟨w.heap.size, 0, none⟩ = some (.int .i64 3) ∧ W.cell? ⟨w.heap.size, 1, none⟩ = some (.int .i64 f.tm.op) ∧ W.cell? ⟨w.heap.size, 2, none⟩ = some (.int .i64 f.tm.num) ∧ W.cell? ⟨w.heap.size, 3, none⟩ = some (.string f.tm.name) ∧ W.cell? ⟨w.heap.size, 4, none⟩ = some (.slice Ae ne ce) ∧ W.cell? ⟨w.heap.size, 5, none⟩ = some (.slice A n c)) := fun W hb => by
    have hx := hbx.below hb hs1
    have h0 := hx.c0
    rw [ho] at h0
    exact ⟨h0, hx.c1, hx.c2, hx.c3, hx.c4, hx.c5⟩
  obtain ⟨x0, x1, x2, x3, x4, x5⟩ := HXX.out w1 (Below.refl _ _)
  have hV1 := hV.below hb1 rfl
  have hkl1 : f.kids.length = 2 := by rw [ho] at hkl; have : fkids 3 = 2 := rfl; omega
  obtain ⟨a, b, hk⟩ := flen2 hkl1
  rcases hV1.kids with h9 | ⟨g, off, rfl, hg, hrow⟩
  · rw [h9] at hk; cases hk
  unfold Fm.val
  rw [ho, ← hF, ← hn, ← hne]
  have hn1 : n = 2 := by rw [hn, hkl1]
  have hma : a ∈ f.kids := by rw [hk]; simp
  have hga : f.kids[0]? = some a := by rw [hk]; rfl
  obtain ⟨ra, hra⟩ : ∃ ra, ra = frmT a 3 := ⟨_, rfl⟩
  have hla := frmT_len a 3
  have hcla : ∀ (Ae2 : Option Addr) (ce2 : Nat) (A2 : Option Addr) (c2 : Nat) W, FmV W Ae2 ce2 A2 c2 a → Calls Tryd.prog 90 #[a.val Ae2 ce2 A2 c2, .int .i64 3] W fun e w' => ∃ s : ByteArray, e = .returned (.tuple #[.string s, .int .i64 ra.2]) ∧ (ra.2 = 0 → bs s = ra.1) ∧ Below W.heap.size W w' := fun Ae2 ce2 A2 c2 W hv => by
    have h := H a 3 (d + 1) Ae2 ce2 A2 c2 W (hszk a hma).1 (hkids a hma) (hszk a hma).2.2 (hszk a hma).2.1 (by omega) hv
    unfold FTQ at h
    rw [← hra] at h
    exact h
  have HCa := Lib.hid hcla
  rw [← hra] at hla
  have HLa := Lib.hid hla
  have hmb : b ∈ f.kids := by rw [hk]; simp
  have hgb : f.kids[1]? = some b := by rw [hk]; rfl
  obtain ⟨rb, hrb⟩ : ∃ rb, rb = frmT b 4 := ⟨_, rfl⟩
  have hlb := frmT_len b 4
  have hclb : ∀ (Ae2 : Option Addr) (ce2 : Nat) (A2 : Option Addr) (c2 : Nat) W, FmV W Ae2 ce2 A2 c2 b → Calls Tryd.prog 90 #[b.val Ae2 ce2 A2 c2, .int .i64 4] W fun e w' => ∃ s : ByteArray, e = .returned (.tuple #[.string s, .int .i64 rb.2]) ∧ (rb.2 = 0 → bs s = rb.1) ∧ Below W.heap.size W w' := fun Ae2 ce2 A2 c2 W hv => by
    have h := H b 4 (d + 1) Ae2 ce2 A2 c2 W (hszk b hmb).1 (hkids b hmb) (hszk b hmb).2.2 (hszk b hmb).2.1 (by omega) hv
    unfold FTQ at h
    rw [← hrb] at h
    exact h
  have HCb := Lib.hid hclb
  rw [← hrb] at hlb
  have HLb := Lib.hid hlb
  have HLS : Hid (a.size + b.size + 1 ≤ f.size) := by
    have h1 := Fm.sizeL_mem hma
    show _ ≤ _
    cases f with
    | mk op0 e0 l0' =>
      simp only [Fm.kids] at hk
      rw [Fm.size, hk]
      simp only [Fm.sizeL]
      omega
  have HRES : Hid (frmT f least = if ra.2 ≠ 0 then ([], ra.2) else if rb.2 ≠ 0 then ([], rb.2) else if strongF 3 < least then ([40] ++ (openF 3 ++ ra.1 ++ inF 3 ++ rb.1 ++ closeF 3) ++ [41], 0) else (openF 3 ++ ra.1 ++ inF 3 ++ rb.1 ++ closeF 3, 0)) := by
    show _ = _
    have hb : (if f.op = 1 then ([91] ++ (showTm f.tm).1 ++ [93], (showTm f.tm).2) else frmK f.op f.kids) = (if ra.2 ≠ 0 then ([], ra.2) else (openF 3 ++ ra.1 ++ inF 3 ++ rb.1 ++ closeF 3, rb.2)) := by rw [if_neg (by omega), ho, hk, bar2 rfl, show leftF 3 = 3 from rfl, show rightF 3 = 4 from rfl, ← hra, ← hrb]
    rw [frmT_bar, hb, ho]
    by_cases h1 : ra.2 = 0
    · simp [h1]
    · simp [h1]
  have HST : Hid (∀ W, Calls Tryd.prog 111 #[.int .i64 3] W fun e w' => e = .returned (.int .i64 3) ∧ w' = W) := fun W => by
    have h := rfstrong_any 3 W
    rw [show ((strongF 3 : Nat) : Int) = 3 from rfl] at h
    exact h
  have HROW := Lib.hid hrow
  have HF := Lib.hid hF
  have HB1 := Lib.hid hb1
  have HW1 := Lib.hid hw1
  have HFS := Lib.hid hsz
  have HGa := Lib.hid hga
  have HRa := Lib.hid hra
  have HGb := Lib.hid hgb
  have HRb := Lib.hid hrb
  clear hF hb1 hw1 hV hV1 hbx hn hne hok hkids hszk hk1 hkl hk0 H hk hkl1 hrow hsz hws hN hts hga hma hra hla hcla hgb hmb hrb hlb hclb
  subst hn1
  go_enter Tryd.func90, Tryd.ntmps90
  go_wp2_with fail
  rw [← HW1.out]
  go_wp2_with fail
  refine wp_region_still_drew 7 (by kernel_rfl) (by kernel_rfl) ?_
  simp only [List.take_succ_cons, List.take_zero, List.drop_succ_cons, List.drop_zero]
  repeat still_step
  still_call (HST.out _)
  repeat still_step
  still_call (HST.out _)
  repeat still_step
  refine wpStill_nil ?_
  go_wp2_with fail
  obtain ⟨i0, hi, hz0, hz1, hz2⟩ := info_parts infoStr
  go_loopw [9, 10, 11, 12] (fun sl si _ _ wr => ∃ (k : Nat) (ys : List ByteArray), k ≤ 2 ∧ si = .int .i64 k ∧ TxR w1 wr (w1.heap.size) 3 4 f.kids k sl ys) (fun _ i _ _ _ => 2 - (intOf i).toNat)
  case atStart => exact ⟨0, [], Nat.zero_le _, rfl, TxR.first (w2 := (w1.alloc (.cells #[.int .i64 3, .int .i64 4] 3))) ((Below.refl _ _).alloc (Nat.le_refl _) _) (heap_alloc_new w1 _) (by simp) (by omega)⟩
  case round =>
    obtain ⟨k, ys, hk, rfl, hR⟩ := hrel
    obtain ⟨sa, scap, hsv⟩ := own_shape hR.own
    subst hsv
    have HR := Lib.hid hR
    have hbel := hR.below
    have hszr := hbel.size
    have hblr := hR.blt
    have y0 := hR.c0
    have y1 := hR.c1
    obtain ⟨x0, x1, x2, x3, x4, x5⟩ := HXX.out wr hbel
    have hwwr : w.heap.size < wr.heap.size := by omega
    have hgw : g < wr.heap.size := by omega
    have hkc : k = 0 ∨ k = 1 ∨ k = 2 := by omega
    clear x1 x2 x3 x4 hk
    rcases hkc with rfl | rfl | rfl
    · have hat := (HROW.out.get HGa.out).below hbel rfl hg
      obtain ⟨q0, q1, q2, q3, Ae2, ce2, A2, c2, q4, q5, hV2⟩ := hat.open
      simp only [Nat.mul_zero, Nat.add_zero] at q0 q1 q2 q3 q4 q5
      obtain ⟨n2, hn2⟩ : ∃ n2, n2 = a.kids.length := ⟨_, rfl⟩
      obtain ⟨ne2, hne2⟩ : ∃ ne2, ne2 = a.tm.kids.length := ⟨_, rfl⟩
      have HC : Hid (∀ W, Below wr.heap.size wr W → Calls Tryd.prog 90 #[.agg #[.int .i64 a.op, .int .i64 a.tm.op, .int .i64 a.tm.num, .string a.tm.name, .slice Ae2 ne2 ce2, .slice A2 n2 c2], .int .i64 3] W fun e w' => ∃ s : ByteArray, e = .returned (.tuple #[.string s, .int .i64 ra.2]) ∧ (ra.2 = 0 → bs s = ra.1) ∧ Below W.heap.size W w') := fun W hb => by
        have hcall := HCa.out Ae2 ce2 A2 c2 W (hV2.below hb rfl)
        unfold Fm.val at hcall
        rw [← hn2, ← hne2] at hcall
        exact hcall
      rw [← hn2] at q5
      rw [← hne2] at q4
      clear hn2 hne2 hV2 hat hbel hR
      go_wp2_with fail
      have hbd : Below wr.heap.size wr wr.drew := (Below.refl _ _).drew
      go_region_held3 (fun w' => (∀ o, w'.cell? ⟨w.heap.size, o, none⟩ = wr.cell? ⟨w.heap.size, o, none⟩) ∧ (∀ o, w'.cell? ⟨g, o, none⟩ = wr.cell? ⟨g, o, none⟩) ∧ (∀ o, w'.cell? ⟨w1.heap.size, o, none⟩ = wr.cell? ⟨w1.heap.size, o, none⟩) ∧ Below wr.heap.size wr w')
        (first | (exact ⟨keep_cells (by assumption) hwwr, keep_cells (by assumption) hgw, keep_cells (by assumption) hblr, by assumption⟩) | fail)
        (first | (go_at_call 90; with_reducible refine (HC.out _ (by assumption)).mono ?_; rintro e w4 ⟨s4, rfl, hs4, hb4⟩; have hb5 := keep_step (by assumption) hb4) | fail)
      have HB5 := Lib.hid hb5
      have HBW := Lib.hid (HB1.out.trans ((keep_step HR.out.below hb5).mono (by omega)))
      have hs5 := hb5.size
      have HO4 := Lib.hid (own_keepB HR.out.own hb5)
      have HS4 := Lib.hid hs4
      clear hbd hb4 hb5 hs4 q0 q1 q2 q3 q4 q5 x0 x5 y0 y1
      by_cases hz : ra.2 = 0
      · have hy4 := HS4.out hz
        have HY4 := Lib.hid hy4
        have HZ := Lib.hid hz
        have hzb : (ra.2 != 0) = false := by simpa using hz
        clear hy4 hz
        go_wp2_with (at_builtin; refine wpList_append_lies _ (by rfl) _ _ _ (by rfl) (w1.heap.size + 1) 9 i0 (.string ⟨#[]⟩) 1 16 Tryd.underlying45 hi hz0 hz1 hz2 rfl (by decide) _ 0 _ (by rfl) (HO4.out.alloc _) ⟨w4.heap.size, 0, none⟩ 1 1 [.string s4] (by rfl) rfl (World.news_of_block (heap_alloc_new w4 _)) (fun u hu => by rw [List.mem_singleton.1 hu]; rfl) (by decide) ?c3 ?c4 ?c5 (w4.heap.size + 1) (by simp) ?_)
        case c3 => unfold maxLen; omega
        case c4 => omega
        case c5 => first | omega | (simp; omega)
        intro g' cap' w6 hown6 hgrow6 hat6 hlt6
        have hown6' : w6.ownsRow (w1.heap.size + 1) 9 1 (.slice (some ⟨g', 0, none⟩) (0 + 1) cap') (0 + 1) ((ys ++ [s4]).map Value.string) := by
          rw [List.map_append, List.map_singleton]
          exact hown6
        have HR6 := Lib.hid (TxR.next HR.out HB5.out hgrow6 hown6' HGa.out (by show (frmT a 3).2 = 0; rw [← HRa.out]; exact HZ.out) (by show _ = (frmT a 3).1; rw [← HRa.out]; exact HY4.out))
        clear hown6 hown6' hgrow6 hat6
        go_wp2_with fail
        go_roundw
        case rel => exact ⟨0 + 1, ys ++ [s4], by omega, rfl, HR6.out⟩
        case measure => simp [intOf]
      · have HZ := Lib.hid hz
        have hzb : (ra.2 != 0) = true := by simpa using hz
        clear hz
        go_wp2_with fail
        rw [HF.out]
        have h2 : frmT f least = ([], ra.2) := by rw [HRES.out, if_pos HZ.out]
        exact ⟨⟨#[]⟩, by rw [h2]; rfl, fun h => by rw [h2] at h; exact absurd h HZ.out, HBW.out⟩
    · have hat := (HROW.out.get HGb.out).below hbel rfl hg
      obtain ⟨q0, q1, q2, q3, Ae2, ce2, A2, c2, q4, q5, hV2⟩ := hat.open
      rw [show off + 6 * 1 = off + 1 * 6 by omega] at q0 q1 q2 q3 q4 q5
      obtain ⟨n2, hn2⟩ : ∃ n2, n2 = b.kids.length := ⟨_, rfl⟩
      obtain ⟨ne2, hne2⟩ : ∃ ne2, ne2 = b.tm.kids.length := ⟨_, rfl⟩
      have HC : Hid (∀ W, Below wr.heap.size wr W → Calls Tryd.prog 90 #[.agg #[.int .i64 b.op, .int .i64 b.tm.op, .int .i64 b.tm.num, .string b.tm.name, .slice Ae2 ne2 ce2, .slice A2 n2 c2], .int .i64 4] W fun e w' => ∃ s : ByteArray, e = .returned (.tuple #[.string s, .int .i64 rb.2]) ∧ (rb.2 = 0 → bs s = rb.1) ∧ Below W.heap.size W w') := fun W hb => by
        have hcall := HCb.out Ae2 ce2 A2 c2 W (hV2.below hb rfl)
        unfold Fm.val at hcall
        rw [← hn2, ← hne2] at hcall
        exact hcall
      rw [← hn2] at q5
      rw [← hne2] at q4
      have H0a : Hid (ra.2 = 0) := by
        have h := (hR.txt 0 a HGa.out (by omega)).1
        show _ = _
        rw [HRa.out]
        exact h
      clear hn2 hne2 hV2 hat hbel hR
      go_wp2_with fail
      have hbd : Below wr.heap.size wr wr.drew := (Below.refl _ _).drew
      go_region_held3 (fun w' => (∀ o, w'.cell? ⟨w.heap.size, o, none⟩ = wr.cell? ⟨w.heap.size, o, none⟩) ∧ (∀ o, w'.cell? ⟨g, o, none⟩ = wr.cell? ⟨g, o, none⟩) ∧ (∀ o, w'.cell? ⟨w1.heap.size, o, none⟩ = wr.cell? ⟨w1.heap.size, o, none⟩) ∧ Below wr.heap.size wr w')
        (first | (exact ⟨keep_cells (by assumption) hwwr, keep_cells (by assumption) hgw, keep_cells (by assumption) hblr, by assumption⟩) | fail)
        (first | (go_at_call 90; with_reducible refine (HC.out _ (by assumption)).mono ?_; rintro e w4 ⟨s4, rfl, hs4, hb4⟩; have hb5 := keep_step (by assumption) hb4) | fail)
      have HB5 := Lib.hid hb5
      have HBW := Lib.hid (HB1.out.trans ((keep_step HR.out.below hb5).mono (by omega)))
      have hs5 := hb5.size
      have HO4 := Lib.hid (own_keepB HR.out.own hb5)
      have HS4 := Lib.hid hs4
      clear hbd hb4 hb5 hs4 q0 q1 q2 q3 q4 q5 x0 x5 y0 y1
      by_cases hz : rb.2 = 0
      · have hy4 := HS4.out hz
        have HY4 := Lib.hid hy4
        have HZ := Lib.hid hz
        have hzb : (rb.2 != 0) = false := by simpa using hz
        clear hy4 hz
        go_wp2_with (at_builtin; refine wpList_append_lies _ (by rfl) _ _ _ (by rfl) (w1.heap.size + 1) 9 i0 (.string ⟨#[]⟩) 1 16 Tryd.underlying45 hi hz0 hz1 hz2 rfl (by decide) _ 1 _ (by rfl) (HO4.out.alloc _) ⟨w4.heap.size, 0, none⟩ 1 1 [.string s4] (by rfl) rfl (World.news_of_block (heap_alloc_new w4 _)) (fun u hu => by rw [List.mem_singleton.1 hu]; rfl) (by decide) ?c3 ?c4 ?c5 (w4.heap.size + 1) (by simp) ?_)
        case c3 => unfold maxLen; omega
        case c4 => omega
        case c5 => first | omega | (simp; omega)
        intro g' cap' w6 hown6 hgrow6 hat6 hlt6
        have hown6' : w6.ownsRow (w1.heap.size + 1) 9 1 (.slice (some ⟨g', 0, none⟩) (1 + 1) cap') (1 + 1) ((ys ++ [s4]).map Value.string) := by
          rw [List.map_append, List.map_singleton]
          exact hown6
        have HR6 := Lib.hid (TxR.next HR.out HB5.out hgrow6 hown6' HGb.out (by show (frmT b 4).2 = 0; rw [← HRb.out]; exact HZ.out) (by show _ = (frmT b 4).1; rw [← HRb.out]; exact HY4.out))
        clear hown6 hown6' hgrow6 hat6
        go_wp2_with fail
        go_roundw
        case rel => exact ⟨1 + 1, ys ++ [s4], by omega, rfl, HR6.out⟩
        case measure => simp [intOf]
      · have HZ := Lib.hid hz
        have hzb : (rb.2 != 0) = true := by simpa using hz
        clear hz
        go_wp2_with fail
        rw [HF.out]
        have h2 : frmT f least = ([], rb.2) := by rw [HRES.out, if_neg (fun h => h H0a.out), if_pos HZ.out]
        exact ⟨⟨#[]⟩, by rw [h2]; rfl, fun h => by rw [h2] at h; exact absurd h HZ.out, HBW.out⟩
    · rw [show ((2 : Nat) : Int) = 2 from rfl]
      obtain ⟨A9, c9, hv9, hs9⟩ := strs_of_own (by rw [hR.len]; exact hR.own)
      rw [hR.len] at hv9
      obtain ⟨rfl, -, rfl⟩ : sa = A9 ∧ 2 = 2 ∧ scap = c9 := by injection hv9 with h1 h2 h3; exact ⟨h1, rfl, h3⟩
      rcases hs9 with h9 | ⟨gb, ob, rfl, hgb, hcb⟩
      · have h := hR.len; rw [h9] at h; simp at h
      obtain ⟨h0a, va, hya, hta⟩ := hR.txt 0 a HGa.out (by omega)
      change (frmT a 3).2 = 0 at h0a
      change bs va = (frmT a 3).1 at hta
      rw [← HRa.out] at h0a hta
      have z0 := hcb 0 (by rw [hR.len]; omega)
      rw [show ys.getD 0 ByteArray.empty = va by simp [List.getD, hya]] at z0
      have hvaz : va.size = ra.1.length := by rw [← hta]; rfl
      obtain ⟨h0b, vb, hyb, htb⟩ := hR.txt 1 b HGb.out (by omega)
      change (frmT b 4).2 = 0 at h0b
      change bs vb = (frmT b 4).1 at htb
      rw [← HRb.out] at h0b htb
      have z1 := hcb 1 (by rw [hR.len]; omega)
      rw [show ys.getD 1 ByteArray.empty = vb by simp [List.getD, hyb]] at z1
      have hvbz : vb.size = rb.1.length := by rw [← htb]; rfl
      simp only [Nat.add_zero] at z0
      obtain ⟨S0, hS0⟩ : ∃ S0 : ByteArray, S0 = va ++ (⟨#[32, 38, 32]⟩ : ByteArray) := ⟨_, rfl⟩
      have szS0 : S0.size = va.size + 3 := by rw [hS0, ByteArray.size_append] <;> rfl
      obtain ⟨S1, hS1⟩ : ∃ S1 : ByteArray, S1 = S0 ++ vb := ⟨_, rfl⟩
      have szS1 : S1.size = S0.size + vb.size := by rw [hS1, ByteArray.size_append] <;> rfl
      obtain ⟨U1, hU1⟩ : ∃ U1 : ByteArray, U1 = (⟨#[40]⟩ : ByteArray) ++ S1 := ⟨_, rfl⟩
      have szU1 : U1.size = 1 + S1.size := by rw [hU1, ByteArray.size_append] <;> rfl
      obtain ⟨U2, hU2⟩ : ∃ U2 : ByteArray, U2 = U1 ++ (⟨#[41]⟩ : ByteArray) := ⟨_, rfl⟩
      have szU2 : U2.size = U1.size + 1 := by rw [hU2, ByteArray.size_append] <;> rfl
      have hLa := HLa.out
      have hLb := HLb.out
      have hLS := HLS.out
      have hFS := HFS.out
      have hcatS0 := rle_run hS0 (by show va.size + 3 ≤ _; omega)
      have hcatS1 := rle_run hS1 (by show S0.size + vb.size ≤ _; omega)
      have hcatU1 := rle_run hU1 (by show 1 + S1.size ≤ _; omega)
      have hcatU2 := rle_run hU2 (by show U1.size + 1 ≤ _; omega)
      have HT1 : Hid (bs S1 = openF 3 ++ ra.1 ++ inF 3 ++ rb.1 ++ closeF 3) := by
        show _ = _
        rw [hS1, hS0, ← hta, ← htb]
        simp [bs, openF, inF, closeF]
      have HT2 : Hid (bs U2 = [40] ++ bs S1 ++ [41]) := by show _ = _; rw [hU2, hU1]; simp [bs]
      have H0a := Lib.hid h0a
      have H0b := Lib.hid h0b
      have HBE := Lib.hid (HB1.out.trans (hbel.mono (by omega)))
      clear hS0 szS0 hS1 szS1 hU1 szU1 hU2 szU2 h0a hya hta hvaz h0b hyb htb hvbz hLa hLS hFS hcb hv9 hbel hR y0 y1 hLb
      by_cases hsl : strongF 3 < least
      · have HSL := Lib.hid hsl
        change (3 < least) at hsl
        have hsl' : ((3 : Int) < (least : Int)) := by omega
        clear hsl
        go_wp2_with fail
        go_quiet (fail)
        go_wp2_with fail
        refine (HST.out _).mono ?_
        rintro e w8 ⟨rfl, hw8⟩
        rw [hw8]
        clear hw8
        go_wp2_with fail
        rw [HF.out]
        have h2 : frmT f least = ([40] ++ (openF 3 ++ ra.1 ++ inF 3 ++ rb.1 ++ closeF 3) ++ [41], 0) := by rw [HRES.out, if_neg (fun h => h H0a.out), if_neg (fun h => h H0b.out), if_pos HSL.out]
        exact ⟨U2, by rw [h2]; rfl, fun _ => by rw [h2]; exact (HT2.out.trans (by rw [HT1.out])), (HBE.out.trans (Below.mono (B := wr.heap.size) (bl_drewN (Below.refl wr.heap.size wr) _) (by omega)))⟩
      · have HSL := Lib.hid hsl
        change ¬ (3 < least) at hsl
        have hsl' : ¬ ((3 : Int) < (least : Int)) := by omega
        clear hsl
        go_wp2_with fail
        go_quiet (fail)
        go_wp2_with fail
        refine (HST.out _).mono ?_
        rintro e w8 ⟨rfl, hw8⟩
        rw [hw8]
        clear hw8
        go_wp2_with fail
        rw [HF.out]
        have h2 : frmT f least = ((openF 3 ++ ra.1 ++ inF 3 ++ rb.1 ++ closeF 3), 0) := by rw [HRES.out, if_neg (fun h => h H0a.out), if_neg (fun h => h H0b.out), if_neg HSL.out]
        exact ⟨S1, by rw [h2]; rfl, fun _ => by rw [h2]; exact HT1.out, (HBE.out.trans (Below.mono (B := wr.heap.size) (bl_drewN (Below.refl wr.heap.size wr) _) (by omega)))⟩

set_option maxRecDepth 100000 in
set_option maxHeartbeats 16000000 in
theorem rtext_b4 (N : Nat) (H : RTextC N) (f : Fm) (least d : Nat) (Ae : Option Addr) (ce : Nat) (A : Option Addr) (c : Nat) (w : World) (hN : f.size ≤ N + 1) (hok : f.okT d) (hws : f.wsize ≤ 9000000) (hsz : f.size ≤ 5000) (hl4 : least ≤ 4) (hV : FmV w Ae ce A c f) (ho : f.op = 4) :
    Calls Tryd.prog 90 #[f.val Ae ce A c, .int .i64 (least : Nat)] w (FTQ f least w) := by
  obtain ⟨-, ⟨hk0, hkl, hk1⟩, hkids⟩ := fokT_open hok
  obtain ⟨n, hn⟩ : ∃ n, n = f.kids.length := ⟨_, rfl⟩
  obtain ⟨ne, hne⟩ : ∃ ne, ne = f.tm.kids.length := ⟨_, rfl⟩
  obtain ⟨F, hF⟩ : ∃ F, F = FTQ f least w := ⟨_, rfl⟩
  have hszk : ∀ k ∈ f.kids, k.size ≤ N ∧ k.size ≤ 5000 ∧ k.wsize ≤ 9000000 := fun k hk => by
    have h1 := Fm.sizeL_mem hk
    have h2 := (Fm.wsize_open f).2 k hk
    cases f with
    | mk op e l => rw [Fm.size] at hN hsz; simp only [Fm.kids] at h1; omega
  have hts := (Fm.wsize_open f).1
  have hcap := hV.cap
  have hcapm := hV.capm
  unfold maxLen at hcapm
  obtain ⟨w1, hw1⟩ : ∃ w1, w1 = w.alloc (.cells #[.int .i64 4, .int .i64 f.tm.op, .int .i64 f.tm.num, .string f.tm.name, .slice Ae ne ce, .slice A n c] 29) := ⟨_, rfl⟩
  have hb1 : Below w.heap.size w w1 := by rw [hw1]; exact (Below.refl _ _).alloc (Nat.le_refl _) _
  have hs1 : w.heap.size < w1.heap.size := by rw [hw1]; simp
  have hbx : FBox w1 w.heap.size Ae ne ce A n c f := by unfold FBox; rw [hw1, ho]; exact heap_alloc_new w _
  have HXX : Hid (∀ W, Below w1.heap.size w1 W → W.cell? ⟨w.heap.size, 0, none⟩ = some (.int .i64 4) ∧ W.cell? ⟨w.heap.size, 1, none⟩ = some (.int .i64 f.tm.op) ∧ W.cell? ⟨w.heap.size, 2, none⟩ = some (.int .i64 f.tm.num) ∧ W.cell? ⟨w.heap.size, 3, none⟩ = some (.string f.tm.name) ∧ W.cell? ⟨w.heap.size, 4, none⟩ = some (.slice Ae ne ce) ∧ W.cell? ⟨w.heap.size, 5, none⟩ = some (.slice A n c)) := fun W hb => by
    have hx := hbx.below hb hs1
    have h0 := hx.c0
    rw [ho] at h0
    exact ⟨h0, hx.c1, hx.c2, hx.c3, hx.c4, hx.c5⟩
  obtain ⟨x0, x1, x2, x3, x4, x5⟩ := HXX.out w1 (Below.refl _ _)
  have hV1 := hV.below hb1 rfl
  have hkl1 : f.kids.length = 2 := by rw [ho] at hkl; have : fkids 4 = 2 := rfl; omega
  obtain ⟨a, b, hk⟩ := flen2 hkl1
  rcases hV1.kids with h9 | ⟨g, off, rfl, hg, hrow⟩
  · rw [h9] at hk; cases hk
  unfold Fm.val
  rw [ho, ← hF, ← hn, ← hne]
  have hn1 : n = 2 := by rw [hn, hkl1]
  have hma : a ∈ f.kids := by rw [hk]; simp
  have hga : f.kids[0]? = some a := by rw [hk]; rfl
  obtain ⟨ra, hra⟩ : ∃ ra, ra = frmT a 2 := ⟨_, rfl⟩
  have hla := frmT_len a 2
  have hcla : ∀ (Ae2 : Option Addr) (ce2 : Nat) (A2 : Option Addr) (c2 : Nat) W, FmV W Ae2 ce2 A2 c2 a → Calls Tryd.prog 90 #[a.val Ae2 ce2 A2 c2, .int .i64 2] W fun e w' => ∃ s : ByteArray, e = .returned (.tuple #[.string s, .int .i64 ra.2]) ∧ (ra.2 = 0 → bs s = ra.1) ∧ Below W.heap.size W w' := fun Ae2 ce2 A2 c2 W hv => by
    have h := H a 2 (d + 1) Ae2 ce2 A2 c2 W (hszk a hma).1 (hkids a hma) (hszk a hma).2.2 (hszk a hma).2.1 (by omega) hv
    unfold FTQ at h
    rw [← hra] at h
    exact h
  have HCa := Lib.hid hcla
  rw [← hra] at hla
  have HLa := Lib.hid hla
  have hmb : b ∈ f.kids := by rw [hk]; simp
  have hgb : f.kids[1]? = some b := by rw [hk]; rfl
  obtain ⟨rb, hrb⟩ : ∃ rb, rb = frmT b 3 := ⟨_, rfl⟩
  have hlb := frmT_len b 3
  have hclb : ∀ (Ae2 : Option Addr) (ce2 : Nat) (A2 : Option Addr) (c2 : Nat) W, FmV W Ae2 ce2 A2 c2 b → Calls Tryd.prog 90 #[b.val Ae2 ce2 A2 c2, .int .i64 3] W fun e w' => ∃ s : ByteArray, e = .returned (.tuple #[.string s, .int .i64 rb.2]) ∧ (rb.2 = 0 → bs s = rb.1) ∧ Below W.heap.size W w' := fun Ae2 ce2 A2 c2 W hv => by
    have h := H b 3 (d + 1) Ae2 ce2 A2 c2 W (hszk b hmb).1 (hkids b hmb) (hszk b hmb).2.2 (hszk b hmb).2.1 (by omega) hv
    unfold FTQ at h
    rw [← hrb] at h
    exact h
  have HCb := Lib.hid hclb
  rw [← hrb] at hlb
  have HLb := Lib.hid hlb
  have HLS : Hid (a.size + b.size + 1 ≤ f.size) := by
    have h1 := Fm.sizeL_mem hma
    show _ ≤ _
    cases f with
    | mk op0 e0 l0' =>
      simp only [Fm.kids] at hk
      rw [Fm.size, hk]
      simp only [Fm.sizeL]
      omega
  have HRES : Hid (frmT f least = if ra.2 ≠ 0 then ([], ra.2) else if rb.2 ≠ 0 then ([], rb.2) else if strongF 4 < least then ([40] ++ (openF 4 ++ ra.1 ++ inF 4 ++ rb.1 ++ closeF 4) ++ [41], 0) else (openF 4 ++ ra.1 ++ inF 4 ++ rb.1 ++ closeF 4, 0)) := by
    show _ = _
    have hb : (if f.op = 1 then ([91] ++ (showTm f.tm).1 ++ [93], (showTm f.tm).2) else frmK f.op f.kids) = (if ra.2 ≠ 0 then ([], ra.2) else (openF 4 ++ ra.1 ++ inF 4 ++ rb.1 ++ closeF 4, rb.2)) := by rw [if_neg (by omega), ho, hk, bar2 rfl, show leftF 4 = 2 from rfl, show rightF 4 = 3 from rfl, ← hra, ← hrb]
    rw [frmT_bar, hb, ho]
    by_cases h1 : ra.2 = 0
    · simp [h1]
    · simp [h1]
  have HST : Hid (∀ W, Calls Tryd.prog 111 #[.int .i64 4] W fun e w' => e = .returned (.int .i64 2) ∧ w' = W) := fun W => by
    have h := rfstrong_any 4 W
    rw [show ((strongF 4 : Nat) : Int) = 2 from rfl] at h
    exact h
  have HROW := Lib.hid hrow
  have HF := Lib.hid hF
  have HB1 := Lib.hid hb1
  have HW1 := Lib.hid hw1
  have HFS := Lib.hid hsz
  have HGa := Lib.hid hga
  have HRa := Lib.hid hra
  have HGb := Lib.hid hgb
  have HRb := Lib.hid hrb
  clear hF hb1 hw1 hV hV1 hbx hn hne hok hkids hszk hk1 hkl hk0 H hk hkl1 hrow hsz hws hN hts hga hma hra hla hcla hgb hmb hrb hlb hclb
  subst hn1
  go_enter Tryd.func90, Tryd.ntmps90
  go_wp2_with fail
  rw [← HW1.out]
  go_wp2_with fail
  refine wp_region_still_drew 7 (by kernel_rfl) (by kernel_rfl) ?_
  simp only [List.take_succ_cons, List.take_zero, List.drop_succ_cons, List.drop_zero]
  repeat still_step
  still_call (HST.out _)
  repeat still_step
  still_call (HST.out _)
  repeat still_step
  refine wpStill_nil ?_
  go_wp2_with fail
  obtain ⟨i0, hi, hz0, hz1, hz2⟩ := info_parts infoStr
  go_loopw [9, 10, 11, 12] (fun sl si _ _ wr => ∃ (k : Nat) (ys : List ByteArray), k ≤ 2 ∧ si = .int .i64 k ∧ TxR w1 wr (w1.heap.size) 2 3 f.kids k sl ys) (fun _ i _ _ _ => 2 - (intOf i).toNat)
  case atStart => exact ⟨0, [], Nat.zero_le _, rfl, TxR.first (w2 := (w1.alloc (.cells #[.int .i64 2, .int .i64 3] 3))) ((Below.refl _ _).alloc (Nat.le_refl _) _) (heap_alloc_new w1 _) (by simp) (by omega)⟩
  case round =>
    obtain ⟨k, ys, hk, rfl, hR⟩ := hrel
    obtain ⟨sa, scap, hsv⟩ := own_shape hR.own
    subst hsv
    have HR := Lib.hid hR
    have hbel := hR.below
    have hszr := hbel.size
    have hblr := hR.blt
    have y0 := hR.c0
    have y1 := hR.c1
    obtain ⟨x0, x1, x2, x3, x4, x5⟩ := HXX.out wr hbel
    have hwwr : w.heap.size < wr.heap.size := by omega
    have hgw : g < wr.heap.size := by omega
    have hkc : k = 0 ∨ k = 1 ∨ k = 2 := by omega
    clear x1 x2 x3 x4 hk
    rcases hkc with rfl | rfl | rfl
    · have hat := (HROW.out.get HGa.out).below hbel rfl hg
      obtain ⟨q0, q1, q2, q3, Ae2, ce2, A2, c2, q4, q5, hV2⟩ := hat.open
      simp only [Nat.mul_zero, Nat.add_zero] at q0 q1 q2 q3 q4 q5
      obtain ⟨n2, hn2⟩ : ∃ n2, n2 = a.kids.length := ⟨_, rfl⟩
      obtain ⟨ne2, hne2⟩ : ∃ ne2, ne2 = a.tm.kids.length := ⟨_, rfl⟩
      have HC : Hid (∀ W, Below wr.heap.size wr W → Calls Tryd.prog 90 #[.agg #[.int .i64 a.op, .int .i64 a.tm.op, .int .i64 a.tm.num, .string a.tm.name, .slice Ae2 ne2 ce2, .slice A2 n2 c2], .int .i64 2] W fun e w' => ∃ s : ByteArray, e = .returned (.tuple #[.string s, .int .i64 ra.2]) ∧ (ra.2 = 0 → bs s = ra.1) ∧ Below W.heap.size W w') := fun W hb => by
        have hcall := HCa.out Ae2 ce2 A2 c2 W (hV2.below hb rfl)
        unfold Fm.val at hcall
        rw [← hn2, ← hne2] at hcall
        exact hcall
      rw [← hn2] at q5
      rw [← hne2] at q4
      clear hn2 hne2 hV2 hat hbel hR
      go_wp2_with fail
      have hbd : Below wr.heap.size wr wr.drew := (Below.refl _ _).drew
      go_region_held3 (fun w' => (∀ o, w'.cell? ⟨w.heap.size, o, none⟩ = wr.cell? ⟨w.heap.size, o, none⟩) ∧ (∀ o, w'.cell? ⟨g, o, none⟩ = wr.cell? ⟨g, o, none⟩) ∧ (∀ o, w'.cell? ⟨w1.heap.size, o, none⟩ = wr.cell? ⟨w1.heap.size, o, none⟩) ∧ Below wr.heap.size wr w')
        (first | (exact ⟨keep_cells (by assumption) hwwr, keep_cells (by assumption) hgw, keep_cells (by assumption) hblr, by assumption⟩) | fail)
        (first | (go_at_call 90; with_reducible refine (HC.out _ (by assumption)).mono ?_; rintro e w4 ⟨s4, rfl, hs4, hb4⟩; have hb5 := keep_step (by assumption) hb4) | fail)
      have HB5 := Lib.hid hb5
      have HBW := Lib.hid (HB1.out.trans ((keep_step HR.out.below hb5).mono (by omega)))
      have hs5 := hb5.size
      have HO4 := Lib.hid (own_keepB HR.out.own hb5)
      have HS4 := Lib.hid hs4
      clear hbd hb4 hb5 hs4 q0 q1 q2 q3 q4 q5 x0 x5 y0 y1
      by_cases hz : ra.2 = 0
      · have hy4 := HS4.out hz
        have HY4 := Lib.hid hy4
        have HZ := Lib.hid hz
        have hzb : (ra.2 != 0) = false := by simpa using hz
        clear hy4 hz
        go_wp2_with (at_builtin; refine wpList_append_lies _ (by rfl) _ _ _ (by rfl) (w1.heap.size + 1) 9 i0 (.string ⟨#[]⟩) 1 16 Tryd.underlying45 hi hz0 hz1 hz2 rfl (by decide) _ 0 _ (by rfl) (HO4.out.alloc _) ⟨w4.heap.size, 0, none⟩ 1 1 [.string s4] (by rfl) rfl (World.news_of_block (heap_alloc_new w4 _)) (fun u hu => by rw [List.mem_singleton.1 hu]; rfl) (by decide) ?c3 ?c4 ?c5 (w4.heap.size + 1) (by simp) ?_)
        case c3 => unfold maxLen; omega
        case c4 => omega
        case c5 => first | omega | (simp; omega)
        intro g' cap' w6 hown6 hgrow6 hat6 hlt6
        have hown6' : w6.ownsRow (w1.heap.size + 1) 9 1 (.slice (some ⟨g', 0, none⟩) (0 + 1) cap') (0 + 1) ((ys ++ [s4]).map Value.string) := by
          rw [List.map_append, List.map_singleton]
          exact hown6
        have HR6 := Lib.hid (TxR.next HR.out HB5.out hgrow6 hown6' HGa.out (by show (frmT a 2).2 = 0; rw [← HRa.out]; exact HZ.out) (by show _ = (frmT a 2).1; rw [← HRa.out]; exact HY4.out))
        clear hown6 hown6' hgrow6 hat6
        go_wp2_with fail
        go_roundw
        case rel => exact ⟨0 + 1, ys ++ [s4], by omega, rfl, HR6.out⟩
        case measure => simp [intOf]
      · have HZ := Lib.hid hz
        have hzb : (ra.2 != 0) = true := by simpa using hz
        clear hz
        go_wp2_with fail
        rw [HF.out]
        have h2 : frmT f least = ([], ra.2) := by rw [HRES.out, if_pos HZ.out]
        exact ⟨⟨#[]⟩, by rw [h2]; rfl, fun h => by rw [h2] at h; exact absurd h HZ.out, HBW.out⟩
    · have hat := (HROW.out.get HGb.out).below hbel rfl hg
      obtain ⟨q0, q1, q2, q3, Ae2, ce2, A2, c2, q4, q5, hV2⟩ := hat.open
      rw [show off + 6 * 1 = off + 1 * 6 by omega] at q0 q1 q2 q3 q4 q5
      obtain ⟨n2, hn2⟩ : ∃ n2, n2 = b.kids.length := ⟨_, rfl⟩
      obtain ⟨ne2, hne2⟩ : ∃ ne2, ne2 = b.tm.kids.length := ⟨_, rfl⟩
      have HC : Hid (∀ W, Below wr.heap.size wr W → Calls Tryd.prog 90 #[.agg #[.int .i64 b.op, .int .i64 b.tm.op, .int .i64 b.tm.num, .string b.tm.name, .slice Ae2 ne2 ce2, .slice A2 n2 c2], .int .i64 3] W fun e w' => ∃ s : ByteArray, e = .returned (.tuple #[.string s, .int .i64 rb.2]) ∧ (rb.2 = 0 → bs s = rb.1) ∧ Below W.heap.size W w') := fun W hb => by
        have hcall := HCb.out Ae2 ce2 A2 c2 W (hV2.below hb rfl)
        unfold Fm.val at hcall
        rw [← hn2, ← hne2] at hcall
        exact hcall
      rw [← hn2] at q5
      rw [← hne2] at q4
      have H0a : Hid (ra.2 = 0) := by
        have h := (hR.txt 0 a HGa.out (by omega)).1
        show _ = _
        rw [HRa.out]
        exact h
      clear hn2 hne2 hV2 hat hbel hR
      go_wp2_with fail
      have hbd : Below wr.heap.size wr wr.drew := (Below.refl _ _).drew
      go_region_held3 (fun w' => (∀ o, w'.cell? ⟨w.heap.size, o, none⟩ = wr.cell? ⟨w.heap.size, o, none⟩) ∧ (∀ o, w'.cell? ⟨g, o, none⟩ = wr.cell? ⟨g, o, none⟩) ∧ (∀ o, w'.cell? ⟨w1.heap.size, o, none⟩ = wr.cell? ⟨w1.heap.size, o, none⟩) ∧ Below wr.heap.size wr w')
        (first | (exact ⟨keep_cells (by assumption) hwwr, keep_cells (by assumption) hgw, keep_cells (by assumption) hblr, by assumption⟩) | fail)
        (first | (go_at_call 90; with_reducible refine (HC.out _ (by assumption)).mono ?_; rintro e w4 ⟨s4, rfl, hs4, hb4⟩; have hb5 := keep_step (by assumption) hb4) | fail)
      have HB5 := Lib.hid hb5
      have HBW := Lib.hid (HB1.out.trans ((keep_step HR.out.below hb5).mono (by omega)))
      have hs5 := hb5.size
      have HO4 := Lib.hid (own_keepB HR.out.own hb5)
      have HS4 := Lib.hid hs4
      clear hbd hb4 hb5 hs4 q0 q1 q2 q3 q4 q5 x0 x5 y0 y1
      by_cases hz : rb.2 = 0
      · have hy4 := HS4.out hz
        have HY4 := Lib.hid hy4
        have HZ := Lib.hid hz
        have hzb : (rb.2 != 0) = false := by simpa using hz
        clear hy4 hz
        go_wp2_with (at_builtin; refine wpList_append_lies _ (by rfl) _ _ _ (by rfl) (w1.heap.size + 1) 9 i0 (.string ⟨#[]⟩) 1 16 Tryd.underlying45 hi hz0 hz1 hz2 rfl (by decide) _ 1 _ (by rfl) (HO4.out.alloc _) ⟨w4.heap.size, 0, none⟩ 1 1 [.string s4] (by rfl) rfl (World.news_of_block (heap_alloc_new w4 _)) (fun u hu => by rw [List.mem_singleton.1 hu]; rfl) (by decide) ?c3 ?c4 ?c5 (w4.heap.size + 1) (by simp) ?_)
        case c3 => unfold maxLen; omega
        case c4 => omega
        case c5 => first | omega | (simp; omega)
        intro g' cap' w6 hown6 hgrow6 hat6 hlt6
        have hown6' : w6.ownsRow (w1.heap.size + 1) 9 1 (.slice (some ⟨g', 0, none⟩) (1 + 1) cap') (1 + 1) ((ys ++ [s4]).map Value.string) := by
          rw [List.map_append, List.map_singleton]
          exact hown6
        have HR6 := Lib.hid (TxR.next HR.out HB5.out hgrow6 hown6' HGb.out (by show (frmT b 3).2 = 0; rw [← HRb.out]; exact HZ.out) (by show _ = (frmT b 3).1; rw [← HRb.out]; exact HY4.out))
        clear hown6 hown6' hgrow6 hat6
        go_wp2_with fail
        go_roundw
        case rel => exact ⟨1 + 1, ys ++ [s4], by omega, rfl, HR6.out⟩
        case measure => simp [intOf]
      · have HZ := Lib.hid hz
        have hzb : (rb.2 != 0) = true := by simpa using hz
        clear hz
        go_wp2_with fail
        rw [HF.out]
        have h2 : frmT f least = ([], rb.2) := by rw [HRES.out, if_neg (fun h => h H0a.out), if_pos HZ.out]
        exact ⟨⟨#[]⟩, by rw [h2]; rfl, fun h => by rw [h2] at h; exact absurd h HZ.out, HBW.out⟩
    · rw [show ((2 : Nat) : Int) = 2 from rfl]
      obtain ⟨A9, c9, hv9, hs9⟩ := strs_of_own (by rw [hR.len]; exact hR.own)
      rw [hR.len] at hv9
      obtain ⟨rfl, -, rfl⟩ : sa = A9 ∧ 2 = 2 ∧ scap = c9 := by injection hv9 with h1 h2 h3; exact ⟨h1, rfl, h3⟩
      rcases hs9 with h9 | ⟨gb, ob, rfl, hgb, hcb⟩
      · have h := hR.len; rw [h9] at h; simp at h
      obtain ⟨h0a, va, hya, hta⟩ := hR.txt 0 a HGa.out (by omega)
      change (frmT a 2).2 = 0 at h0a
      change bs va = (frmT a 2).1 at hta
      rw [← HRa.out] at h0a hta
      have z0 := hcb 0 (by rw [hR.len]; omega)
      rw [show ys.getD 0 ByteArray.empty = va by simp [List.getD, hya]] at z0
      have hvaz : va.size = ra.1.length := by rw [← hta]; rfl
      obtain ⟨h0b, vb, hyb, htb⟩ := hR.txt 1 b HGb.out (by omega)
      change (frmT b 3).2 = 0 at h0b
      change bs vb = (frmT b 3).1 at htb
      rw [← HRb.out] at h0b htb
      have z1 := hcb 1 (by rw [hR.len]; omega)
      rw [show ys.getD 1 ByteArray.empty = vb by simp [List.getD, hyb]] at z1
      have hvbz : vb.size = rb.1.length := by rw [← htb]; rfl
      simp only [Nat.add_zero] at z0
      obtain ⟨S0, hS0⟩ : ∃ S0 : ByteArray, S0 = va ++ (⟨#[32, 124, 32]⟩ : ByteArray) := ⟨_, rfl⟩
      have szS0 : S0.size = va.size + 3 := by rw [hS0, ByteArray.size_append] <;> rfl
      obtain ⟨S1, hS1⟩ : ∃ S1 : ByteArray, S1 = S0 ++ vb := ⟨_, rfl⟩
      have szS1 : S1.size = S0.size + vb.size := by rw [hS1, ByteArray.size_append] <;> rfl
      obtain ⟨U1, hU1⟩ : ∃ U1 : ByteArray, U1 = (⟨#[40]⟩ : ByteArray) ++ S1 := ⟨_, rfl⟩
      have szU1 : U1.size = 1 + S1.size := by rw [hU1, ByteArray.size_append] <;> rfl
      obtain ⟨U2, hU2⟩ : ∃ U2 : ByteArray, U2 = U1 ++ (⟨#[41]⟩ : ByteArray) := ⟨_, rfl⟩
      have szU2 : U2.size = U1.size + 1 := by rw [hU2, ByteArray.size_append] <;> rfl
      have hLa := HLa.out
      have hLb := HLb.out
      have hLS := HLS.out
      have hFS := HFS.out
      have hcatS0 := rle_run hS0 (by show va.size + 3 ≤ _; omega)
      have hcatS1 := rle_run hS1 (by show S0.size + vb.size ≤ _; omega)
      have hcatU1 := rle_run hU1 (by show 1 + S1.size ≤ _; omega)
      have hcatU2 := rle_run hU2 (by show U1.size + 1 ≤ _; omega)
      have HT1 : Hid (bs S1 = openF 4 ++ ra.1 ++ inF 4 ++ rb.1 ++ closeF 4) := by
        show _ = _
        rw [hS1, hS0, ← hta, ← htb]
        simp [bs, openF, inF, closeF]
      have HT2 : Hid (bs U2 = [40] ++ bs S1 ++ [41]) := by show _ = _; rw [hU2, hU1]; simp [bs]
      have H0a := Lib.hid h0a
      have H0b := Lib.hid h0b
      have HBE := Lib.hid (HB1.out.trans (hbel.mono (by omega)))
      clear hS0 szS0 hS1 szS1 hU1 szU1 hU2 szU2 h0a hya hta hvaz h0b hyb htb hvbz hLa hLS hFS hcb hv9 hbel hR y0 y1 hLb
      by_cases hsl : strongF 4 < least
      · have HSL := Lib.hid hsl
        change (2 < least) at hsl
        have hsl' : ((2 : Int) < (least : Int)) := by omega
        clear hsl
        go_wp2_with fail
        go_quiet (fail)
        go_wp2_with fail
        refine (HST.out _).mono ?_
        rintro e w8 ⟨rfl, hw8⟩
        rw [hw8]
        clear hw8
        go_wp2_with fail
        rw [HF.out]
        have h2 : frmT f least = ([40] ++ (openF 4 ++ ra.1 ++ inF 4 ++ rb.1 ++ closeF 4) ++ [41], 0) := by rw [HRES.out, if_neg (fun h => h H0a.out), if_neg (fun h => h H0b.out), if_pos HSL.out]
        exact ⟨U2, by rw [h2]; rfl, fun _ => by rw [h2]; exact (HT2.out.trans (by rw [HT1.out])), (HBE.out.trans (Below.mono (B := wr.heap.size) (bl_drewN (Below.refl wr.heap.size wr) _) (by omega)))⟩
      · have HSL := Lib.hid hsl
        change ¬ (2 < least) at hsl
        have hsl' : ¬ ((2 : Int) < (least : Int)) := by omega
        clear hsl
        go_wp2_with fail
        go_quiet (fail)
        go_wp2_with fail
        refine (HST.out _).mono ?_
        rintro e w8 ⟨rfl, hw8⟩
        rw [hw8]
        clear hw8
        go_wp2_with fail
        rw [HF.out]
        have h2 : frmT f least = ((openF 4 ++ ra.1 ++ inF 4 ++ rb.1 ++ closeF 4), 0) := by rw [HRES.out, if_neg (fun h => h H0a.out), if_neg (fun h => h H0b.out), if_neg HSL.out]
        exact ⟨S1, by rw [h2]; rfl, fun _ => by rw [h2]; exact HT1.out, (HBE.out.trans (Below.mono (B := wr.heap.size) (bl_drewN (Below.refl wr.heap.size wr) _) (by omega)))⟩

set_option maxRecDepth 100000 in
set_option maxHeartbeats 16000000 in
theorem rtext_b5 (N : Nat) (H : RTextC N) (f : Fm) (least d : Nat) (Ae : Option Addr) (ce : Nat) (A : Option Addr) (c : Nat) (w : World) (hN : f.size ≤ N + 1) (hok : f.okT d) (hws : f.wsize ≤ 9000000) (hsz : f.size ≤ 5000) (hl4 : least ≤ 4) (hV : FmV w Ae ce A c f) (ho : f.op = 5) :
    Calls Tryd.prog 90 #[f.val Ae ce A c, .int .i64 (least : Nat)] w (FTQ f least w) := by
  obtain ⟨-, ⟨hk0, hkl, hk1⟩, hkids⟩ := fokT_open hok
  obtain ⟨n, hn⟩ : ∃ n, n = f.kids.length := ⟨_, rfl⟩
  obtain ⟨ne, hne⟩ : ∃ ne, ne = f.tm.kids.length := ⟨_, rfl⟩
  obtain ⟨F, hF⟩ : ∃ F, F = FTQ f least w := ⟨_, rfl⟩
  have hszk : ∀ k ∈ f.kids, k.size ≤ N ∧ k.size ≤ 5000 ∧ k.wsize ≤ 9000000 := fun k hk => by
    have h1 := Fm.sizeL_mem hk
    have h2 := (Fm.wsize_open f).2 k hk
    cases f with
    | mk op e l => rw [Fm.size] at hN hsz; simp only [Fm.kids] at h1; omega
  have hts := (Fm.wsize_open f).1
  have hcap := hV.cap
  have hcapm := hV.capm
  unfold maxLen at hcapm
  obtain ⟨w1, hw1⟩ : ∃ w1, w1 = w.alloc (.cells #[.int .i64 5, .int .i64 f.tm.op, .int .i64 f.tm.num, .string f.tm.name, .slice Ae ne ce, .slice A n c] 29) := ⟨_, rfl⟩
  have hb1 : Below w.heap.size w w1 := by rw [hw1]; exact (Below.refl _ _).alloc (Nat.le_refl _) _
  have hs1 : w.heap.size < w1.heap.size := by rw [hw1]; simp
  have hbx : FBox w1 w.heap.size Ae ne ce A n c f := by unfold FBox; rw [hw1, ho]; exact heap_alloc_new w _
  have HXX : Hid (∀ W, Below w1.heap.size w1 W → W.cell? ⟨w.heap.size, 0, none⟩ = some (.int .i64 5) ∧ W.cell? ⟨w.heap.size, 1, none⟩ = some (.int .i64 f.tm.op) ∧ W.cell? ⟨w.heap.size, 2, none⟩ = some (.int .i64 f.tm.num) ∧ W.cell? ⟨w.heap.size, 3, none⟩ = some (.string f.tm.name) ∧ W.cell? ⟨w.heap.size, 4, none⟩ = some (.slice Ae ne ce) ∧ W.cell? ⟨w.heap.size, 5, none⟩ = some (.slice A n c)) := fun W hb => by
    have hx := hbx.below hb hs1
    have h0 := hx.c0
    rw [ho] at h0
    exact ⟨h0, hx.c1, hx.c2, hx.c3, hx.c4, hx.c5⟩
  obtain ⟨x0, x1, x2, x3, x4, x5⟩ := HXX.out w1 (Below.refl _ _)
  have hV1 := hV.below hb1 rfl
  have hkl1 : f.kids.length = 2 := by rw [ho] at hkl; have : fkids 5 = 2 := rfl; omega
  obtain ⟨a, b, hk⟩ := flen2 hkl1
  rcases hV1.kids with h9 | ⟨g, off, rfl, hg, hrow⟩
  · rw [h9] at hk; cases hk
  unfold Fm.val
  rw [ho, ← hF, ← hn, ← hne]
  have hn1 : n = 2 := by rw [hn, hkl1]
  have hma : a ∈ f.kids := by rw [hk]; simp
  have hga : f.kids[0]? = some a := by rw [hk]; rfl
  obtain ⟨ra, hra⟩ : ∃ ra, ra = frmT a 2 := ⟨_, rfl⟩
  have hla := frmT_len a 2
  have hcla : ∀ (Ae2 : Option Addr) (ce2 : Nat) (A2 : Option Addr) (c2 : Nat) W, FmV W Ae2 ce2 A2 c2 a → Calls Tryd.prog 90 #[a.val Ae2 ce2 A2 c2, .int .i64 2] W fun e w' => ∃ s : ByteArray, e = .returned (.tuple #[.string s, .int .i64 ra.2]) ∧ (ra.2 = 0 → bs s = ra.1) ∧ Below W.heap.size W w' := fun Ae2 ce2 A2 c2 W hv => by
    have h := H a 2 (d + 1) Ae2 ce2 A2 c2 W (hszk a hma).1 (hkids a hma) (hszk a hma).2.2 (hszk a hma).2.1 (by omega) hv
    unfold FTQ at h
    rw [← hra] at h
    exact h
  have HCa := Lib.hid hcla
  rw [← hra] at hla
  have HLa := Lib.hid hla
  have hmb : b ∈ f.kids := by rw [hk]; simp
  have hgb : f.kids[1]? = some b := by rw [hk]; rfl
  obtain ⟨rb, hrb⟩ : ∃ rb, rb = frmT b 1 := ⟨_, rfl⟩
  have hlb := frmT_len b 1
  have hclb : ∀ (Ae2 : Option Addr) (ce2 : Nat) (A2 : Option Addr) (c2 : Nat) W, FmV W Ae2 ce2 A2 c2 b → Calls Tryd.prog 90 #[b.val Ae2 ce2 A2 c2, .int .i64 1] W fun e w' => ∃ s : ByteArray, e = .returned (.tuple #[.string s, .int .i64 rb.2]) ∧ (rb.2 = 0 → bs s = rb.1) ∧ Below W.heap.size W w' := fun Ae2 ce2 A2 c2 W hv => by
    have h := H b 1 (d + 1) Ae2 ce2 A2 c2 W (hszk b hmb).1 (hkids b hmb) (hszk b hmb).2.2 (hszk b hmb).2.1 (by omega) hv
    unfold FTQ at h
    rw [← hrb] at h
    exact h
  have HCb := Lib.hid hclb
  rw [← hrb] at hlb
  have HLb := Lib.hid hlb
  have HLS : Hid (a.size + b.size + 1 ≤ f.size) := by
    have h1 := Fm.sizeL_mem hma
    show _ ≤ _
    cases f with
    | mk op0 e0 l0' =>
      simp only [Fm.kids] at hk
      rw [Fm.size, hk]
      simp only [Fm.sizeL]
      omega
  have HRES : Hid (frmT f least = if ra.2 ≠ 0 then ([], ra.2) else if rb.2 ≠ 0 then ([], rb.2) else if strongF 5 < least then ([40] ++ (openF 5 ++ ra.1 ++ inF 5 ++ rb.1 ++ closeF 5) ++ [41], 0) else (openF 5 ++ ra.1 ++ inF 5 ++ rb.1 ++ closeF 5, 0)) := by
    show _ = _
    have hb : (if f.op = 1 then ([91] ++ (showTm f.tm).1 ++ [93], (showTm f.tm).2) else frmK f.op f.kids) = (if ra.2 ≠ 0 then ([], ra.2) else (openF 5 ++ ra.1 ++ inF 5 ++ rb.1 ++ closeF 5, rb.2)) := by rw [if_neg (by omega), ho, hk, bar2 rfl, show leftF 5 = 2 from rfl, show rightF 5 = 1 from rfl, ← hra, ← hrb]
    rw [frmT_bar, hb, ho]
    by_cases h1 : ra.2 = 0
    · simp [h1]
    · simp [h1]
  have HST : Hid (∀ W, Calls Tryd.prog 111 #[.int .i64 5] W fun e w' => e = .returned (.int .i64 1) ∧ w' = W) := fun W => by
    have h := rfstrong_any 5 W
    rw [show ((strongF 5 : Nat) : Int) = 1 from rfl] at h
    exact h
  have HROW := Lib.hid hrow
  have HF := Lib.hid hF
  have HB1 := Lib.hid hb1
  have HW1 := Lib.hid hw1
  have HFS := Lib.hid hsz
  have HGa := Lib.hid hga
  have HRa := Lib.hid hra
  have HGb := Lib.hid hgb
  have HRb := Lib.hid hrb
  clear hF hb1 hw1 hV hV1 hbx hn hne hok hkids hszk hk1 hkl hk0 H hk hkl1 hrow hsz hws hN hts hga hma hra hla hcla hgb hmb hrb hlb hclb
  subst hn1
  go_enter Tryd.func90, Tryd.ntmps90
  go_wp2_with fail
  rw [← HW1.out]
  go_wp2_with fail
  refine wp_region_still_drew 7 (by kernel_rfl) (by kernel_rfl) ?_
  simp only [List.take_succ_cons, List.take_zero, List.drop_succ_cons, List.drop_zero]
  repeat still_step
  still_call (HST.out _)
  repeat still_step
  still_call (HST.out _)
  repeat still_step
  refine wpStill_nil ?_
  go_wp2_with fail
  obtain ⟨i0, hi, hz0, hz1, hz2⟩ := info_parts infoStr
  go_loopw [9, 10, 11, 12] (fun sl si _ _ wr => ∃ (k : Nat) (ys : List ByteArray), k ≤ 2 ∧ si = .int .i64 k ∧ TxR w1 wr (w1.heap.size + 1) 2 1 f.kids k sl ys) (fun _ i _ _ _ => 2 - (intOf i).toNat)
  case atStart => exact ⟨0, [], Nat.zero_le _, rfl, TxR.first (w2 := ((w1.alloc (.cells #[.int .i64 1, .int .i64 2] 3)).alloc (.cells #[.int .i64 2, .int .i64 1] 3))) (((Below.refl _ _).alloc (Nat.le_refl _) _).alloc (by simp) _) (by have h := heap_alloc_new (w1.alloc (.cells #[.int .i64 1, .int .i64 2] 3)) (.cells #[.int .i64 2, .int .i64 1] 3); rw [show (w1.alloc (.cells #[.int .i64 1, .int .i64 2] 3)).heap.size = w1.heap.size + 1 by simp] at h; exact h) (by simp) (by omega)⟩
  case round =>
    obtain ⟨k, ys, hk, rfl, hR⟩ := hrel
    obtain ⟨sa, scap, hsv⟩ := own_shape hR.own
    subst hsv
    have HR := Lib.hid hR
    have hbel := hR.below
    have hszr := hbel.size
    have hblr := hR.blt
    have y0 := hR.c0
    have y1 := hR.c1
    obtain ⟨x0, x1, x2, x3, x4, x5⟩ := HXX.out wr hbel
    have hwwr : w.heap.size < wr.heap.size := by omega
    have hgw : g < wr.heap.size := by omega
    have hkc : k = 0 ∨ k = 1 ∨ k = 2 := by omega
    clear x1 x2 x3 x4 hk
    rcases hkc with rfl | rfl | rfl
    · have hat := (HROW.out.get HGa.out).below hbel rfl hg
      obtain ⟨q0, q1, q2, q3, Ae2, ce2, A2, c2, q4, q5, hV2⟩ := hat.open
      simp only [Nat.mul_zero, Nat.add_zero] at q0 q1 q2 q3 q4 q5
      obtain ⟨n2, hn2⟩ : ∃ n2, n2 = a.kids.length := ⟨_, rfl⟩
      obtain ⟨ne2, hne2⟩ : ∃ ne2, ne2 = a.tm.kids.length := ⟨_, rfl⟩
      have HC : Hid (∀ W, Below wr.heap.size wr W → Calls Tryd.prog 90 #[.agg #[.int .i64 a.op, .int .i64 a.tm.op, .int .i64 a.tm.num, .string a.tm.name, .slice Ae2 ne2 ce2, .slice A2 n2 c2], .int .i64 2] W fun e w' => ∃ s : ByteArray, e = .returned (.tuple #[.string s, .int .i64 ra.2]) ∧ (ra.2 = 0 → bs s = ra.1) ∧ Below W.heap.size W w') := fun W hb => by
        have hcall := HCa.out Ae2 ce2 A2 c2 W (hV2.below hb rfl)
        unfold Fm.val at hcall
        rw [← hn2, ← hne2] at hcall
        exact hcall
      rw [← hn2] at q5
      rw [← hne2] at q4
      clear hn2 hne2 hV2 hat hbel hR
      go_wp2_with fail
      have hbd : Below wr.heap.size wr wr.drew := (Below.refl _ _).drew
      go_region_held3 (fun w' => (∀ o, w'.cell? ⟨w.heap.size, o, none⟩ = wr.cell? ⟨w.heap.size, o, none⟩) ∧ (∀ o, w'.cell? ⟨g, o, none⟩ = wr.cell? ⟨g, o, none⟩) ∧ (∀ o, w'.cell? ⟨w1.heap.size + 1, o, none⟩ = wr.cell? ⟨w1.heap.size + 1, o, none⟩) ∧ Below wr.heap.size wr w')
        (first | (exact ⟨keep_cells (by assumption) hwwr, keep_cells (by assumption) hgw, keep_cells (by assumption) hblr, by assumption⟩) | fail)
        (first | (go_at_call 90; with_reducible refine (HC.out _ (by assumption)).mono ?_; rintro e w4 ⟨s4, rfl, hs4, hb4⟩; have hb5 := keep_step (by assumption) hb4) | fail)
      have HB5 := Lib.hid hb5
      have HBW := Lib.hid (HB1.out.trans ((keep_step HR.out.below hb5).mono (by omega)))
      have hs5 := hb5.size
      have HO4 := Lib.hid (own_keepB HR.out.own hb5)
      have HS4 := Lib.hid hs4
      clear hbd hb4 hb5 hs4 q0 q1 q2 q3 q4 q5 x0 x5 y0 y1
      by_cases hz : ra.2 = 0
      · have hy4 := HS4.out hz
        have HY4 := Lib.hid hy4
        have HZ := Lib.hid hz
        have hzb : (ra.2 != 0) = false := by simpa using hz
        clear hy4 hz
        go_wp2_with (at_builtin; refine wpList_append_lies _ (by rfl) _ _ _ (by rfl) (w1.heap.size + 1 + 1) 9 i0 (.string ⟨#[]⟩) 1 16 Tryd.underlying45 hi hz0 hz1 hz2 rfl (by decide) _ 0 _ (by rfl) (HO4.out.alloc _) ⟨w4.heap.size, 0, none⟩ 1 1 [.string s4] (by rfl) rfl (World.news_of_block (heap_alloc_new w4 _)) (fun u hu => by rw [List.mem_singleton.1 hu]; rfl) (by decide) ?c3 ?c4 ?c5 (w4.heap.size + 1) (by simp) ?_)
        case c3 => unfold maxLen; omega
        case c4 => omega
        case c5 => first | omega | (simp; omega)
        intro g' cap' w6 hown6 hgrow6 hat6 hlt6
        have hown6' : w6.ownsRow (w1.heap.size + 1 + 1) 9 1 (.slice (some ⟨g', 0, none⟩) (0 + 1) cap') (0 + 1) ((ys ++ [s4]).map Value.string) := by
          rw [List.map_append, List.map_singleton]
          exact hown6
        have HR6 := Lib.hid (TxR.next HR.out HB5.out hgrow6 hown6' HGa.out (by show (frmT a 2).2 = 0; rw [← HRa.out]; exact HZ.out) (by show _ = (frmT a 2).1; rw [← HRa.out]; exact HY4.out))
        clear hown6 hown6' hgrow6 hat6
        go_wp2_with fail
        go_roundw
        case rel => exact ⟨0 + 1, ys ++ [s4], by omega, rfl, HR6.out⟩
        case measure => simp [intOf]
      · have HZ := Lib.hid hz
        have hzb : (ra.2 != 0) = true := by simpa using hz
        clear hz
        go_wp2_with fail
        rw [HF.out]
        have h2 : frmT f least = ([], ra.2) := by rw [HRES.out, if_pos HZ.out]
        exact ⟨⟨#[]⟩, by rw [h2]; rfl, fun h => by rw [h2] at h; exact absurd h HZ.out, HBW.out⟩
    · have hat := (HROW.out.get HGb.out).below hbel rfl hg
      obtain ⟨q0, q1, q2, q3, Ae2, ce2, A2, c2, q4, q5, hV2⟩ := hat.open
      rw [show off + 6 * 1 = off + 1 * 6 by omega] at q0 q1 q2 q3 q4 q5
      obtain ⟨n2, hn2⟩ : ∃ n2, n2 = b.kids.length := ⟨_, rfl⟩
      obtain ⟨ne2, hne2⟩ : ∃ ne2, ne2 = b.tm.kids.length := ⟨_, rfl⟩
      have HC : Hid (∀ W, Below wr.heap.size wr W → Calls Tryd.prog 90 #[.agg #[.int .i64 b.op, .int .i64 b.tm.op, .int .i64 b.tm.num, .string b.tm.name, .slice Ae2 ne2 ce2, .slice A2 n2 c2], .int .i64 1] W fun e w' => ∃ s : ByteArray, e = .returned (.tuple #[.string s, .int .i64 rb.2]) ∧ (rb.2 = 0 → bs s = rb.1) ∧ Below W.heap.size W w') := fun W hb => by
        have hcall := HCb.out Ae2 ce2 A2 c2 W (hV2.below hb rfl)
        unfold Fm.val at hcall
        rw [← hn2, ← hne2] at hcall
        exact hcall
      rw [← hn2] at q5
      rw [← hne2] at q4
      have H0a : Hid (ra.2 = 0) := by
        have h := (hR.txt 0 a HGa.out (by omega)).1
        show _ = _
        rw [HRa.out]
        exact h
      clear hn2 hne2 hV2 hat hbel hR
      go_wp2_with fail
      have hbd : Below wr.heap.size wr wr.drew := (Below.refl _ _).drew
      go_region_held3 (fun w' => (∀ o, w'.cell? ⟨w.heap.size, o, none⟩ = wr.cell? ⟨w.heap.size, o, none⟩) ∧ (∀ o, w'.cell? ⟨g, o, none⟩ = wr.cell? ⟨g, o, none⟩) ∧ (∀ o, w'.cell? ⟨w1.heap.size + 1, o, none⟩ = wr.cell? ⟨w1.heap.size + 1, o, none⟩) ∧ Below wr.heap.size wr w')
        (first | (exact ⟨keep_cells (by assumption) hwwr, keep_cells (by assumption) hgw, keep_cells (by assumption) hblr, by assumption⟩) | fail)
        (first | (go_at_call 90; with_reducible refine (HC.out _ (by assumption)).mono ?_; rintro e w4 ⟨s4, rfl, hs4, hb4⟩; have hb5 := keep_step (by assumption) hb4) | fail)
      have HB5 := Lib.hid hb5
      have HBW := Lib.hid (HB1.out.trans ((keep_step HR.out.below hb5).mono (by omega)))
      have hs5 := hb5.size
      have HO4 := Lib.hid (own_keepB HR.out.own hb5)
      have HS4 := Lib.hid hs4
      clear hbd hb4 hb5 hs4 q0 q1 q2 q3 q4 q5 x0 x5 y0 y1
      by_cases hz : rb.2 = 0
      · have hy4 := HS4.out hz
        have HY4 := Lib.hid hy4
        have HZ := Lib.hid hz
        have hzb : (rb.2 != 0) = false := by simpa using hz
        clear hy4 hz
        go_wp2_with (at_builtin; refine wpList_append_lies _ (by rfl) _ _ _ (by rfl) (w1.heap.size + 1 + 1) 9 i0 (.string ⟨#[]⟩) 1 16 Tryd.underlying45 hi hz0 hz1 hz2 rfl (by decide) _ 1 _ (by rfl) (HO4.out.alloc _) ⟨w4.heap.size, 0, none⟩ 1 1 [.string s4] (by rfl) rfl (World.news_of_block (heap_alloc_new w4 _)) (fun u hu => by rw [List.mem_singleton.1 hu]; rfl) (by decide) ?c3 ?c4 ?c5 (w4.heap.size + 1) (by simp) ?_)
        case c3 => unfold maxLen; omega
        case c4 => omega
        case c5 => first | omega | (simp; omega)
        intro g' cap' w6 hown6 hgrow6 hat6 hlt6
        have hown6' : w6.ownsRow (w1.heap.size + 1 + 1) 9 1 (.slice (some ⟨g', 0, none⟩) (1 + 1) cap') (1 + 1) ((ys ++ [s4]).map Value.string) := by
          rw [List.map_append, List.map_singleton]
          exact hown6
        have HR6 := Lib.hid (TxR.next HR.out HB5.out hgrow6 hown6' HGb.out (by show (frmT b 1).2 = 0; rw [← HRb.out]; exact HZ.out) (by show _ = (frmT b 1).1; rw [← HRb.out]; exact HY4.out))
        clear hown6 hown6' hgrow6 hat6
        go_wp2_with fail
        go_roundw
        case rel => exact ⟨1 + 1, ys ++ [s4], by omega, rfl, HR6.out⟩
        case measure => simp [intOf]
      · have HZ := Lib.hid hz
        have hzb : (rb.2 != 0) = true := by simpa using hz
        clear hz
        go_wp2_with fail
        rw [HF.out]
        have h2 : frmT f least = ([], rb.2) := by rw [HRES.out, if_neg (fun h => h H0a.out), if_pos HZ.out]
        exact ⟨⟨#[]⟩, by rw [h2]; rfl, fun h => by rw [h2] at h; exact absurd h HZ.out, HBW.out⟩
    · rw [show ((2 : Nat) : Int) = 2 from rfl]
      obtain ⟨A9, c9, hv9, hs9⟩ := strs_of_own (by rw [hR.len]; exact hR.own)
      rw [hR.len] at hv9
      obtain ⟨rfl, -, rfl⟩ : sa = A9 ∧ 2 = 2 ∧ scap = c9 := by injection hv9 with h1 h2 h3; exact ⟨h1, rfl, h3⟩
      rcases hs9 with h9 | ⟨gb, ob, rfl, hgb, hcb⟩
      · have h := hR.len; rw [h9] at h; simp at h
      obtain ⟨h0a, va, hya, hta⟩ := hR.txt 0 a HGa.out (by omega)
      change (frmT a 2).2 = 0 at h0a
      change bs va = (frmT a 2).1 at hta
      rw [← HRa.out] at h0a hta
      have z0 := hcb 0 (by rw [hR.len]; omega)
      rw [show ys.getD 0 ByteArray.empty = va by simp [List.getD, hya]] at z0
      have hvaz : va.size = ra.1.length := by rw [← hta]; rfl
      obtain ⟨h0b, vb, hyb, htb⟩ := hR.txt 1 b HGb.out (by omega)
      change (frmT b 1).2 = 0 at h0b
      change bs vb = (frmT b 1).1 at htb
      rw [← HRb.out] at h0b htb
      have z1 := hcb 1 (by rw [hR.len]; omega)
      rw [show ys.getD 1 ByteArray.empty = vb by simp [List.getD, hyb]] at z1
      have hvbz : vb.size = rb.1.length := by rw [← htb]; rfl
      simp only [Nat.add_zero] at z0
      obtain ⟨S0, hS0⟩ : ∃ S0 : ByteArray, S0 = va ++ (⟨#[32, 45, 62, 32]⟩ : ByteArray) := ⟨_, rfl⟩
      have szS0 : S0.size = va.size + 4 := by rw [hS0, ByteArray.size_append] <;> rfl
      obtain ⟨S1, hS1⟩ : ∃ S1 : ByteArray, S1 = S0 ++ vb := ⟨_, rfl⟩
      have szS1 : S1.size = S0.size + vb.size := by rw [hS1, ByteArray.size_append] <;> rfl
      obtain ⟨U1, hU1⟩ : ∃ U1 : ByteArray, U1 = (⟨#[40]⟩ : ByteArray) ++ S1 := ⟨_, rfl⟩
      have szU1 : U1.size = 1 + S1.size := by rw [hU1, ByteArray.size_append] <;> rfl
      obtain ⟨U2, hU2⟩ : ∃ U2 : ByteArray, U2 = U1 ++ (⟨#[41]⟩ : ByteArray) := ⟨_, rfl⟩
      have szU2 : U2.size = U1.size + 1 := by rw [hU2, ByteArray.size_append] <;> rfl
      have hLa := HLa.out
      have hLb := HLb.out
      have hLS := HLS.out
      have hFS := HFS.out
      have hcatS0 := rle_run hS0 (by show va.size + 4 ≤ _; omega)
      have hcatS1 := rle_run hS1 (by show S0.size + vb.size ≤ _; omega)
      have hcatU1 := rle_run hU1 (by show 1 + S1.size ≤ _; omega)
      have hcatU2 := rle_run hU2 (by show U1.size + 1 ≤ _; omega)
      have HT1 : Hid (bs S1 = openF 5 ++ ra.1 ++ inF 5 ++ rb.1 ++ closeF 5) := by
        show _ = _
        rw [hS1, hS0, ← hta, ← htb]
        simp [bs, openF, inF, closeF]
      have HT2 : Hid (bs U2 = [40] ++ bs S1 ++ [41]) := by show _ = _; rw [hU2, hU1]; simp [bs]
      have H0a := Lib.hid h0a
      have H0b := Lib.hid h0b
      have HBE := Lib.hid (HB1.out.trans (hbel.mono (by omega)))
      clear hS0 szS0 hS1 szS1 hU1 szU1 hU2 szU2 h0a hya hta hvaz h0b hyb htb hvbz hLa hLS hFS hcb hv9 hbel hR y0 y1 hLb
      by_cases hsl : strongF 5 < least
      · have HSL := Lib.hid hsl
        change (1 < least) at hsl
        have hsl' : ((1 : Int) < (least : Int)) := by omega
        clear hsl
        go_wp2_with fail
        go_quiet (fail)
        go_wp2_with fail
        refine (HST.out _).mono ?_
        rintro e w8 ⟨rfl, hw8⟩
        rw [hw8]
        clear hw8
        go_wp2_with fail
        rw [HF.out]
        have h2 : frmT f least = ([40] ++ (openF 5 ++ ra.1 ++ inF 5 ++ rb.1 ++ closeF 5) ++ [41], 0) := by rw [HRES.out, if_neg (fun h => h H0a.out), if_neg (fun h => h H0b.out), if_pos HSL.out]
        exact ⟨U2, by rw [h2]; rfl, fun _ => by rw [h2]; exact (HT2.out.trans (by rw [HT1.out])), (HBE.out.trans (Below.mono (B := wr.heap.size) (bl_drewN (Below.refl wr.heap.size wr) _) (by omega)))⟩
      · have HSL := Lib.hid hsl
        change ¬ (1 < least) at hsl
        have hsl' : ¬ ((1 : Int) < (least : Int)) := by omega
        clear hsl
        go_wp2_with fail
        go_quiet (fail)
        go_wp2_with fail
        refine (HST.out _).mono ?_
        rintro e w8 ⟨rfl, hw8⟩
        rw [hw8]
        clear hw8
        go_wp2_with fail
        rw [HF.out]
        have h2 : frmT f least = ((openF 5 ++ ra.1 ++ inF 5 ++ rb.1 ++ closeF 5), 0) := by rw [HRES.out, if_neg (fun h => h H0a.out), if_neg (fun h => h H0b.out), if_neg HSL.out]
        exact ⟨S1, by rw [h2]; rfl, fun _ => by rw [h2]; exact HT1.out, (HBE.out.trans (Below.mono (B := wr.heap.size) (bl_drewN (Below.refl wr.heap.size wr) _) (by omega)))⟩

set_option maxRecDepth 100000 in
set_option maxHeartbeats 16000000 in
theorem rtext_b9 (N : Nat) (H : RTextC N) (f : Fm) (least d : Nat) (Ae : Option Addr) (ce : Nat) (A : Option Addr) (c : Nat) (w : World) (hN : f.size ≤ N + 1) (hok : f.okT d) (hws : f.wsize ≤ 9000000) (hsz : f.size ≤ 5000) (hl4 : least ≤ 4) (hV : FmV w Ae ce A c f) (ho : f.op = 9) :
    Calls Tryd.prog 90 #[f.val Ae ce A c, .int .i64 (least : Nat)] w (FTQ f least w) := by
  obtain ⟨-, ⟨hk0, hkl, hk1⟩, hkids⟩ := fokT_open hok
  obtain ⟨n, hn⟩ : ∃ n, n = f.kids.length := ⟨_, rfl⟩
  obtain ⟨ne, hne⟩ : ∃ ne, ne = f.tm.kids.length := ⟨_, rfl⟩
  obtain ⟨F, hF⟩ : ∃ F, F = FTQ f least w := ⟨_, rfl⟩
  have hszk : ∀ k ∈ f.kids, k.size ≤ N ∧ k.size ≤ 5000 ∧ k.wsize ≤ 9000000 := fun k hk => by
    have h1 := Fm.sizeL_mem hk
    have h2 := (Fm.wsize_open f).2 k hk
    cases f with
    | mk op e l => rw [Fm.size] at hN hsz; simp only [Fm.kids] at h1; omega
  have hts := (Fm.wsize_open f).1
  have hcap := hV.cap
  have hcapm := hV.capm
  unfold maxLen at hcapm
  obtain ⟨w1, hw1⟩ : ∃ w1, w1 = w.alloc (.cells #[.int .i64 9, .int .i64 f.tm.op, .int .i64 f.tm.num, .string f.tm.name, .slice Ae ne ce, .slice A n c] 29) := ⟨_, rfl⟩
  have hb1 : Below w.heap.size w w1 := by rw [hw1]; exact (Below.refl _ _).alloc (Nat.le_refl _) _
  have hs1 : w.heap.size < w1.heap.size := by rw [hw1]; simp
  have hbx : FBox w1 w.heap.size Ae ne ce A n c f := by unfold FBox; rw [hw1, ho]; exact heap_alloc_new w _
  have HXX : Hid (∀ W, Below w1.heap.size w1 W → W.cell? ⟨w.heap.size, 0, none⟩ = some (.int .i64 9) ∧ W.cell? ⟨w.heap.size, 1, none⟩ = some (.int .i64 f.tm.op) ∧ W.cell? ⟨w.heap.size, 2, none⟩ = some (.int .i64 f.tm.num) ∧ W.cell? ⟨w.heap.size, 3, none⟩ = some (.string f.tm.name) ∧ W.cell? ⟨w.heap.size, 4, none⟩ = some (.slice Ae ne ce) ∧ W.cell? ⟨w.heap.size, 5, none⟩ = some (.slice A n c)) := fun W hb => by
    have hx := hbx.below hb hs1
    have h0 := hx.c0
    rw [ho] at h0
    exact ⟨h0, hx.c1, hx.c2, hx.c3, hx.c4, hx.c5⟩
  obtain ⟨x0, x1, x2, x3, x4, x5⟩ := HXX.out w1 (Below.refl _ _)
  have hV1 := hV.below hb1 rfl
  have hkl1 : f.kids.length = 2 := by rw [ho] at hkl; have : fkids 9 = 2 := rfl; omega
  obtain ⟨a, b, hk⟩ := flen2 hkl1
  rcases hV1.kids with h9 | ⟨g, off, rfl, hg, hrow⟩
  · rw [h9] at hk; cases hk
  unfold Fm.val
  rw [ho, ← hF, ← hn, ← hne]
  have hn1 : n = 2 := by rw [hn, hkl1]
  have hma : a ∈ f.kids := by rw [hk]; simp
  have hga : f.kids[0]? = some a := by rw [hk]; rfl
  obtain ⟨ra, hra⟩ : ∃ ra, ra = frmT a 1 := ⟨_, rfl⟩
  have hla := frmT_len a 1
  have hcla : ∀ (Ae2 : Option Addr) (ce2 : Nat) (A2 : Option Addr) (c2 : Nat) W, FmV W Ae2 ce2 A2 c2 a → Calls Tryd.prog 90 #[a.val Ae2 ce2 A2 c2, .int .i64 1] W fun e w' => ∃ s : ByteArray, e = .returned (.tuple #[.string s, .int .i64 ra.2]) ∧ (ra.2 = 0 → bs s = ra.1) ∧ Below W.heap.size W w' := fun Ae2 ce2 A2 c2 W hv => by
    have h := H a 1 (d + 1) Ae2 ce2 A2 c2 W (hszk a hma).1 (hkids a hma) (hszk a hma).2.2 (hszk a hma).2.1 (by omega) hv
    unfold FTQ at h
    rw [← hra] at h
    exact h
  have HCa := Lib.hid hcla
  rw [← hra] at hla
  have HLa := Lib.hid hla
  have hmb : b ∈ f.kids := by rw [hk]; simp
  have hgb : f.kids[1]? = some b := by rw [hk]; rfl
  obtain ⟨rb, hrb⟩ : ∃ rb, rb = frmT b 1 := ⟨_, rfl⟩
  have hlb := frmT_len b 1
  have hclb : ∀ (Ae2 : Option Addr) (ce2 : Nat) (A2 : Option Addr) (c2 : Nat) W, FmV W Ae2 ce2 A2 c2 b → Calls Tryd.prog 90 #[b.val Ae2 ce2 A2 c2, .int .i64 1] W fun e w' => ∃ s : ByteArray, e = .returned (.tuple #[.string s, .int .i64 rb.2]) ∧ (rb.2 = 0 → bs s = rb.1) ∧ Below W.heap.size W w' := fun Ae2 ce2 A2 c2 W hv => by
    have h := H b 1 (d + 1) Ae2 ce2 A2 c2 W (hszk b hmb).1 (hkids b hmb) (hszk b hmb).2.2 (hszk b hmb).2.1 (by omega) hv
    unfold FTQ at h
    rw [← hrb] at h
    exact h
  have HCb := Lib.hid hclb
  rw [← hrb] at hlb
  have HLb := Lib.hid hlb
  have HLS : Hid (a.size + b.size + 1 ≤ f.size) := by
    have h1 := Fm.sizeL_mem hma
    show _ ≤ _
    cases f with
    | mk op0 e0 l0' =>
      simp only [Fm.kids] at hk
      rw [Fm.size, hk]
      simp only [Fm.sizeL]
      omega
  have HRES : Hid (frmT f least = if ra.2 ≠ 0 then ([], ra.2) else if rb.2 ≠ 0 then ([], rb.2) else if strongF 9 < least then ([40] ++ (openF 9 ++ ra.1 ++ inF 9 ++ rb.1 ++ closeF 9) ++ [41], 0) else (openF 9 ++ ra.1 ++ inF 9 ++ rb.1 ++ closeF 9, 0)) := by
    show _ = _
    have hb : (if f.op = 1 then ([91] ++ (showTm f.tm).1 ++ [93], (showTm f.tm).2) else frmK f.op f.kids) = (if ra.2 ≠ 0 then ([], ra.2) else (openF 9 ++ ra.1 ++ inF 9 ++ rb.1 ++ closeF 9, rb.2)) := by rw [if_neg (by omega), ho, hk, bar2 rfl, show leftF 9 = 1 from rfl, show rightF 9 = 1 from rfl, ← hra, ← hrb]
    rw [frmT_bar, hb, ho]
    by_cases h1 : ra.2 = 0
    · simp [h1]
    · simp [h1]
  have HST : Hid (∀ W, Calls Tryd.prog 111 #[.int .i64 9] W fun e w' => e = .returned (.int .i64 4) ∧ w' = W) := fun W => by
    have h := rfstrong_any 9 W
    rw [show ((strongF 9 : Nat) : Int) = 4 from rfl] at h
    exact h
  have HROW := Lib.hid hrow
  have HF := Lib.hid hF
  have HB1 := Lib.hid hb1
  have HW1 := Lib.hid hw1
  have HFS := Lib.hid hsz
  have HGa := Lib.hid hga
  have HRa := Lib.hid hra
  have HGb := Lib.hid hgb
  have HRb := Lib.hid hrb
  clear hF hb1 hw1 hV hV1 hbx hn hne hok hkids hszk hk1 hkl hk0 H hk hkl1 hrow hsz hws hN hts hga hma hra hla hcla hgb hmb hrb hlb hclb
  subst hn1
  go_enter Tryd.func90, Tryd.ntmps90
  go_wp2_with fail
  rw [← HW1.out]
  go_wp2_with fail
  refine wp_region_still_drew 7 (by kernel_rfl) (by kernel_rfl) ?_
  simp only [List.take_succ_cons, List.take_zero, List.drop_succ_cons, List.drop_zero]
  repeat still_step
  still_call (HST.out _)
  repeat still_step
  still_call (HST.out _)
  repeat still_step
  refine wpStill_nil ?_
  go_wp2_with fail
  obtain ⟨i0, hi, hz0, hz1, hz2⟩ := info_parts infoStr
  go_loopw [9, 10, 11, 12] (fun sl si _ _ wr => ∃ (k : Nat) (ys : List ByteArray), k ≤ 2 ∧ si = .int .i64 k ∧ TxR w1 wr (w1.heap.size + 1) 1 1 f.kids k sl ys) (fun _ i _ _ _ => 2 - (intOf i).toNat)
  case atStart => exact ⟨0, [], Nat.zero_le _, rfl, TxR.first (w2 := ((w1.alloc (.cells #[.int .i64 4, .int .i64 5] 3)).alloc (.cells #[.int .i64 1, .int .i64 1] 3))) (((Below.refl _ _).alloc (Nat.le_refl _) _).alloc (by simp) _) (by have h := heap_alloc_new (w1.alloc (.cells #[.int .i64 4, .int .i64 5] 3)) (.cells #[.int .i64 1, .int .i64 1] 3); rw [show (w1.alloc (.cells #[.int .i64 4, .int .i64 5] 3)).heap.size = w1.heap.size + 1 by simp] at h; exact h) (by simp) (by omega)⟩
  case round =>
    obtain ⟨k, ys, hk, rfl, hR⟩ := hrel
    obtain ⟨sa, scap, hsv⟩ := own_shape hR.own
    subst hsv
    have HR := Lib.hid hR
    have hbel := hR.below
    have hszr := hbel.size
    have hblr := hR.blt
    have y0 := hR.c0
    have y1 := hR.c1
    obtain ⟨x0, x1, x2, x3, x4, x5⟩ := HXX.out wr hbel
    have hwwr : w.heap.size < wr.heap.size := by omega
    have hgw : g < wr.heap.size := by omega
    have hkc : k = 0 ∨ k = 1 ∨ k = 2 := by omega
    clear x1 x2 x3 x4 hk
    rcases hkc with rfl | rfl | rfl
    · have hat := (HROW.out.get HGa.out).below hbel rfl hg
      obtain ⟨q0, q1, q2, q3, Ae2, ce2, A2, c2, q4, q5, hV2⟩ := hat.open
      simp only [Nat.mul_zero, Nat.add_zero] at q0 q1 q2 q3 q4 q5
      obtain ⟨n2, hn2⟩ : ∃ n2, n2 = a.kids.length := ⟨_, rfl⟩
      obtain ⟨ne2, hne2⟩ : ∃ ne2, ne2 = a.tm.kids.length := ⟨_, rfl⟩
      have HC : Hid (∀ W, Below wr.heap.size wr W → Calls Tryd.prog 90 #[.agg #[.int .i64 a.op, .int .i64 a.tm.op, .int .i64 a.tm.num, .string a.tm.name, .slice Ae2 ne2 ce2, .slice A2 n2 c2], .int .i64 1] W fun e w' => ∃ s : ByteArray, e = .returned (.tuple #[.string s, .int .i64 ra.2]) ∧ (ra.2 = 0 → bs s = ra.1) ∧ Below W.heap.size W w') := fun W hb => by
        have hcall := HCa.out Ae2 ce2 A2 c2 W (hV2.below hb rfl)
        unfold Fm.val at hcall
        rw [← hn2, ← hne2] at hcall
        exact hcall
      rw [← hn2] at q5
      rw [← hne2] at q4
      clear hn2 hne2 hV2 hat hbel hR
      go_wp2_with fail
      have hbd : Below wr.heap.size wr wr.drew := (Below.refl _ _).drew
      go_region_held3 (fun w' => (∀ o, w'.cell? ⟨w.heap.size, o, none⟩ = wr.cell? ⟨w.heap.size, o, none⟩) ∧ (∀ o, w'.cell? ⟨g, o, none⟩ = wr.cell? ⟨g, o, none⟩) ∧ (∀ o, w'.cell? ⟨w1.heap.size + 1, o, none⟩ = wr.cell? ⟨w1.heap.size + 1, o, none⟩) ∧ Below wr.heap.size wr w')
        (first | (exact ⟨keep_cells (by assumption) hwwr, keep_cells (by assumption) hgw, keep_cells (by assumption) hblr, by assumption⟩) | fail)
        (first | (go_at_call 90; with_reducible refine (HC.out _ (by assumption)).mono ?_; rintro e w4 ⟨s4, rfl, hs4, hb4⟩; have hb5 := keep_step (by assumption) hb4) | fail)
      have HB5 := Lib.hid hb5
      have HBW := Lib.hid (HB1.out.trans ((keep_step HR.out.below hb5).mono (by omega)))
      have hs5 := hb5.size
      have HO4 := Lib.hid (own_keepB HR.out.own hb5)
      have HS4 := Lib.hid hs4
      clear hbd hb4 hb5 hs4 q0 q1 q2 q3 q4 q5 x0 x5 y0 y1
      by_cases hz : ra.2 = 0
      · have hy4 := HS4.out hz
        have HY4 := Lib.hid hy4
        have HZ := Lib.hid hz
        have hzb : (ra.2 != 0) = false := by simpa using hz
        clear hy4 hz
        go_wp2_with (at_builtin; refine wpList_append_lies _ (by rfl) _ _ _ (by rfl) (w1.heap.size + 1 + 1) 9 i0 (.string ⟨#[]⟩) 1 16 Tryd.underlying45 hi hz0 hz1 hz2 rfl (by decide) _ 0 _ (by rfl) (HO4.out.alloc _) ⟨w4.heap.size, 0, none⟩ 1 1 [.string s4] (by rfl) rfl (World.news_of_block (heap_alloc_new w4 _)) (fun u hu => by rw [List.mem_singleton.1 hu]; rfl) (by decide) ?c3 ?c4 ?c5 (w4.heap.size + 1) (by simp) ?_)
        case c3 => unfold maxLen; omega
        case c4 => omega
        case c5 => first | omega | (simp; omega)
        intro g' cap' w6 hown6 hgrow6 hat6 hlt6
        have hown6' : w6.ownsRow (w1.heap.size + 1 + 1) 9 1 (.slice (some ⟨g', 0, none⟩) (0 + 1) cap') (0 + 1) ((ys ++ [s4]).map Value.string) := by
          rw [List.map_append, List.map_singleton]
          exact hown6
        have HR6 := Lib.hid (TxR.next HR.out HB5.out hgrow6 hown6' HGa.out (by show (frmT a 1).2 = 0; rw [← HRa.out]; exact HZ.out) (by show _ = (frmT a 1).1; rw [← HRa.out]; exact HY4.out))
        clear hown6 hown6' hgrow6 hat6
        go_wp2_with fail
        go_roundw
        case rel => exact ⟨0 + 1, ys ++ [s4], by omega, rfl, HR6.out⟩
        case measure => simp [intOf]
      · have HZ := Lib.hid hz
        have hzb : (ra.2 != 0) = true := by simpa using hz
        clear hz
        go_wp2_with fail
        rw [HF.out]
        have h2 : frmT f least = ([], ra.2) := by rw [HRES.out, if_pos HZ.out]
        exact ⟨⟨#[]⟩, by rw [h2]; rfl, fun h => by rw [h2] at h; exact absurd h HZ.out, HBW.out⟩
    · have hat := (HROW.out.get HGb.out).below hbel rfl hg
      obtain ⟨q0, q1, q2, q3, Ae2, ce2, A2, c2, q4, q5, hV2⟩ := hat.open
      rw [show off + 6 * 1 = off + 1 * 6 by omega] at q0 q1 q2 q3 q4 q5
      obtain ⟨n2, hn2⟩ : ∃ n2, n2 = b.kids.length := ⟨_, rfl⟩
      obtain ⟨ne2, hne2⟩ : ∃ ne2, ne2 = b.tm.kids.length := ⟨_, rfl⟩
      have HC : Hid (∀ W, Below wr.heap.size wr W → Calls Tryd.prog 90 #[.agg #[.int .i64 b.op, .int .i64 b.tm.op, .int .i64 b.tm.num, .string b.tm.name, .slice Ae2 ne2 ce2, .slice A2 n2 c2], .int .i64 1] W fun e w' => ∃ s : ByteArray, e = .returned (.tuple #[.string s, .int .i64 rb.2]) ∧ (rb.2 = 0 → bs s = rb.1) ∧ Below W.heap.size W w') := fun W hb => by
        have hcall := HCb.out Ae2 ce2 A2 c2 W (hV2.below hb rfl)
        unfold Fm.val at hcall
        rw [← hn2, ← hne2] at hcall
        exact hcall
      rw [← hn2] at q5
      rw [← hne2] at q4
      have H0a : Hid (ra.2 = 0) := by
        have h := (hR.txt 0 a HGa.out (by omega)).1
        show _ = _
        rw [HRa.out]
        exact h
      clear hn2 hne2 hV2 hat hbel hR
      go_wp2_with fail
      have hbd : Below wr.heap.size wr wr.drew := (Below.refl _ _).drew
      go_region_held3 (fun w' => (∀ o, w'.cell? ⟨w.heap.size, o, none⟩ = wr.cell? ⟨w.heap.size, o, none⟩) ∧ (∀ o, w'.cell? ⟨g, o, none⟩ = wr.cell? ⟨g, o, none⟩) ∧ (∀ o, w'.cell? ⟨w1.heap.size + 1, o, none⟩ = wr.cell? ⟨w1.heap.size + 1, o, none⟩) ∧ Below wr.heap.size wr w')
        (first | (exact ⟨keep_cells (by assumption) hwwr, keep_cells (by assumption) hgw, keep_cells (by assumption) hblr, by assumption⟩) | fail)
        (first | (go_at_call 90; with_reducible refine (HC.out _ (by assumption)).mono ?_; rintro e w4 ⟨s4, rfl, hs4, hb4⟩; have hb5 := keep_step (by assumption) hb4) | fail)
      have HB5 := Lib.hid hb5
      have HBW := Lib.hid (HB1.out.trans ((keep_step HR.out.below hb5).mono (by omega)))
      have hs5 := hb5.size
      have HO4 := Lib.hid (own_keepB HR.out.own hb5)
      have HS4 := Lib.hid hs4
      clear hbd hb4 hb5 hs4 q0 q1 q2 q3 q4 q5 x0 x5 y0 y1
      by_cases hz : rb.2 = 0
      · have hy4 := HS4.out hz
        have HY4 := Lib.hid hy4
        have HZ := Lib.hid hz
        have hzb : (rb.2 != 0) = false := by simpa using hz
        clear hy4 hz
        go_wp2_with (at_builtin; refine wpList_append_lies _ (by rfl) _ _ _ (by rfl) (w1.heap.size + 1 + 1) 9 i0 (.string ⟨#[]⟩) 1 16 Tryd.underlying45 hi hz0 hz1 hz2 rfl (by decide) _ 1 _ (by rfl) (HO4.out.alloc _) ⟨w4.heap.size, 0, none⟩ 1 1 [.string s4] (by rfl) rfl (World.news_of_block (heap_alloc_new w4 _)) (fun u hu => by rw [List.mem_singleton.1 hu]; rfl) (by decide) ?c3 ?c4 ?c5 (w4.heap.size + 1) (by simp) ?_)
        case c3 => unfold maxLen; omega
        case c4 => omega
        case c5 => first | omega | (simp; omega)
        intro g' cap' w6 hown6 hgrow6 hat6 hlt6
        have hown6' : w6.ownsRow (w1.heap.size + 1 + 1) 9 1 (.slice (some ⟨g', 0, none⟩) (1 + 1) cap') (1 + 1) ((ys ++ [s4]).map Value.string) := by
          rw [List.map_append, List.map_singleton]
          exact hown6
        have HR6 := Lib.hid (TxR.next HR.out HB5.out hgrow6 hown6' HGb.out (by show (frmT b 1).2 = 0; rw [← HRb.out]; exact HZ.out) (by show _ = (frmT b 1).1; rw [← HRb.out]; exact HY4.out))
        clear hown6 hown6' hgrow6 hat6
        go_wp2_with fail
        go_roundw
        case rel => exact ⟨1 + 1, ys ++ [s4], by omega, rfl, HR6.out⟩
        case measure => simp [intOf]
      · have HZ := Lib.hid hz
        have hzb : (rb.2 != 0) = true := by simpa using hz
        clear hz
        go_wp2_with fail
        rw [HF.out]
        have h2 : frmT f least = ([], rb.2) := by rw [HRES.out, if_neg (fun h => h H0a.out), if_pos HZ.out]
        exact ⟨⟨#[]⟩, by rw [h2]; rfl, fun h => by rw [h2] at h; exact absurd h HZ.out, HBW.out⟩
    · rw [show ((2 : Nat) : Int) = 2 from rfl]
      obtain ⟨A9, c9, hv9, hs9⟩ := strs_of_own (by rw [hR.len]; exact hR.own)
      rw [hR.len] at hv9
      obtain ⟨rfl, -, rfl⟩ : sa = A9 ∧ 2 = 2 ∧ scap = c9 := by injection hv9 with h1 h2 h3; exact ⟨h1, rfl, h3⟩
      rcases hs9 with h9 | ⟨gb, ob, rfl, hgb, hcb⟩
      · have h := hR.len; rw [h9] at h; simp at h
      obtain ⟨h0a, va, hya, hta⟩ := hR.txt 0 a HGa.out (by omega)
      change (frmT a 1).2 = 0 at h0a
      change bs va = (frmT a 1).1 at hta
      rw [← HRa.out] at h0a hta
      have z0 := hcb 0 (by rw [hR.len]; omega)
      rw [show ys.getD 0 ByteArray.empty = va by simp [List.getD, hya]] at z0
      have hvaz : va.size = ra.1.length := by rw [← hta]; rfl
      obtain ⟨h0b, vb, hyb, htb⟩ := hR.txt 1 b HGb.out (by omega)
      change (frmT b 1).2 = 0 at h0b
      change bs vb = (frmT b 1).1 at htb
      rw [← HRb.out] at h0b htb
      have z1 := hcb 1 (by rw [hR.len]; omega)
      rw [show ys.getD 1 ByteArray.empty = vb by simp [List.getD, hyb]] at z1
      have hvbz : vb.size = rb.1.length := by rw [← htb]; rfl
      simp only [Nat.add_zero] at z0
      obtain ⟨T1, hT1⟩ : ∃ T1 : ByteArray, T1 = (⟨#[69, 91]⟩ : ByteArray) ++ va := ⟨_, rfl⟩
      have szT1 : T1.size = 2 + va.size := by rw [hT1, ByteArray.size_append] <;> rfl
      obtain ⟨T2, hT2⟩ : ∃ T2 : ByteArray, T2 = T1 ++ (⟨#[32, 85, 32]⟩ : ByteArray) := ⟨_, rfl⟩
      have szT2 : T2.size = T1.size + 3 := by rw [hT2, ByteArray.size_append] <;> rfl
      obtain ⟨T3, hT3⟩ : ∃ T3 : ByteArray, T3 = T2 ++ vb := ⟨_, rfl⟩
      have szT3 : T3.size = T2.size + vb.size := by rw [hT3, ByteArray.size_append] <;> rfl
      obtain ⟨S1, hS1⟩ : ∃ S1 : ByteArray, S1 = T3 ++ (⟨#[93]⟩ : ByteArray) := ⟨_, rfl⟩
      have szS1 : S1.size = T3.size + 1 := by rw [hS1, ByteArray.size_append] <;> rfl
      obtain ⟨U1, hU1⟩ : ∃ U1 : ByteArray, U1 = (⟨#[40]⟩ : ByteArray) ++ S1 := ⟨_, rfl⟩
      have szU1 : U1.size = 1 + S1.size := by rw [hU1, ByteArray.size_append] <;> rfl
      obtain ⟨U2, hU2⟩ : ∃ U2 : ByteArray, U2 = U1 ++ (⟨#[41]⟩ : ByteArray) := ⟨_, rfl⟩
      have szU2 : U2.size = U1.size + 1 := by rw [hU2, ByteArray.size_append] <;> rfl
      have hLa := HLa.out
      have hLb := HLb.out
      have hLS := HLS.out
      have hFS := HFS.out
      have hcatT1 := rle_run hT1 (by show 2 + va.size ≤ _; omega)
      have hcatT2 := rle_run hT2 (by show T1.size + 3 ≤ _; omega)
      have hcatT3 := rle_run hT3 (by show T2.size + vb.size ≤ _; omega)
      have hcatS1 := rle_run hS1 (by show T3.size + 1 ≤ _; omega)
      have hcatU1 := rle_run hU1 (by show 1 + S1.size ≤ _; omega)
      have hcatU2 := rle_run hU2 (by show U1.size + 1 ≤ _; omega)
      have HT1 : Hid (bs S1 = openF 9 ++ ra.1 ++ inF 9 ++ rb.1 ++ closeF 9) := by
        show _ = _
        rw [hS1, hT3, hT2, hT1, ← hta, ← htb]
        simp [bs, openF, inF, closeF]
      have HT2 : Hid (bs U2 = [40] ++ bs S1 ++ [41]) := by show _ = _; rw [hU2, hU1]; simp [bs]
      have H0a := Lib.hid h0a
      have H0b := Lib.hid h0b
      have HBE := Lib.hid (HB1.out.trans (hbel.mono (by omega)))
      clear hT1 szT1 hT2 szT2 hT3 szT3 hS1 szS1 hU1 szU1 hU2 szU2 h0a hya hta hvaz h0b hyb htb hvbz hLa hLS hFS hcb hv9 hbel hR y0 y1 hLb
      by_cases hsl : strongF 9 < least
      · exfalso
        change 4 < least at hsl
        omega
      · have HSL := Lib.hid hsl
        change ¬ (4 < least) at hsl
        have hsl' : ¬ ((4 : Int) < (least : Int)) := by omega
        clear hsl
        go_wp2_with fail
        go_quiet (fail)
        go_wp2_with fail
        refine (HST.out _).mono ?_
        rintro e w8 ⟨rfl, hw8⟩
        rw [hw8]
        clear hw8
        go_wp2_with fail
        rw [HF.out]
        have h2 : frmT f least = ((openF 9 ++ ra.1 ++ inF 9 ++ rb.1 ++ closeF 9), 0) := by rw [HRES.out, if_neg (fun h => h H0a.out), if_neg (fun h => h H0b.out), if_neg HSL.out]
        exact ⟨S1, by rw [h2]; rfl, fun _ => by rw [h2]; exact HT1.out, (HBE.out.trans (Below.mono (B := wr.heap.size) (bl_drewN (Below.refl wr.heap.size wr) _) (by omega)))⟩

set_option maxRecDepth 100000 in
set_option maxHeartbeats 16000000 in
theorem rtext_b13 (N : Nat) (H : RTextC N) (f : Fm) (least d : Nat) (Ae : Option Addr) (ce : Nat) (A : Option Addr) (c : Nat) (w : World) (hN : f.size ≤ N + 1) (hok : f.okT d) (hws : f.wsize ≤ 9000000) (hsz : f.size ≤ 5000) (hl4 : least ≤ 4) (hV : FmV w Ae ce A c f) (ho : f.op = 13) :
    Calls Tryd.prog 90 #[f.val Ae ce A c, .int .i64 (least : Nat)] w (FTQ f least w) := by
  obtain ⟨-, ⟨hk0, hkl, hk1⟩, hkids⟩ := fokT_open hok
  obtain ⟨n, hn⟩ : ∃ n, n = f.kids.length := ⟨_, rfl⟩
  obtain ⟨ne, hne⟩ : ∃ ne, ne = f.tm.kids.length := ⟨_, rfl⟩
  obtain ⟨F, hF⟩ : ∃ F, F = FTQ f least w := ⟨_, rfl⟩
  have hszk : ∀ k ∈ f.kids, k.size ≤ N ∧ k.size ≤ 5000 ∧ k.wsize ≤ 9000000 := fun k hk => by
    have h1 := Fm.sizeL_mem hk
    have h2 := (Fm.wsize_open f).2 k hk
    cases f with
    | mk op e l => rw [Fm.size] at hN hsz; simp only [Fm.kids] at h1; omega
  have hts := (Fm.wsize_open f).1
  have hcap := hV.cap
  have hcapm := hV.capm
  unfold maxLen at hcapm
  obtain ⟨w1, hw1⟩ : ∃ w1, w1 = w.alloc (.cells #[.int .i64 13, .int .i64 f.tm.op, .int .i64 f.tm.num, .string f.tm.name, .slice Ae ne ce, .slice A n c] 29) := ⟨_, rfl⟩
  have hb1 : Below w.heap.size w w1 := by rw [hw1]; exact (Below.refl _ _).alloc (Nat.le_refl _) _
  have hs1 : w.heap.size < w1.heap.size := by rw [hw1]; simp
  have hbx : FBox w1 w.heap.size Ae ne ce A n c f := by unfold FBox; rw [hw1, ho]; exact heap_alloc_new w _
  have HXX : Hid (∀ W, Below w1.heap.size w1 W → W.cell? ⟨w.heap.size, 0, none⟩ = some (.int .i64 13) ∧ W.cell? ⟨w.heap.size, 1, none⟩ = some (.int .i64 f.tm.op) ∧ W.cell? ⟨w.heap.size, 2, none⟩ = some (.int .i64 f.tm.num) ∧ W.cell? ⟨w.heap.size, 3, none⟩ = some (.string f.tm.name) ∧ W.cell? ⟨w.heap.size, 4, none⟩ = some (.slice Ae ne ce) ∧ W.cell? ⟨w.heap.size, 5, none⟩ = some (.slice A n c)) := fun W hb => by
    have hx := hbx.below hb hs1
    have h0 := hx.c0
    rw [ho] at h0
    exact ⟨h0, hx.c1, hx.c2, hx.c3, hx.c4, hx.c5⟩
  obtain ⟨x0, x1, x2, x3, x4, x5⟩ := HXX.out w1 (Below.refl _ _)
  have hV1 := hV.below hb1 rfl
  have hkl1 : f.kids.length = 2 := by rw [ho] at hkl; have : fkids 13 = 2 := rfl; omega
  obtain ⟨a, b, hk⟩ := flen2 hkl1
  rcases hV1.kids with h9 | ⟨g, off, rfl, hg, hrow⟩
  · rw [h9] at hk; cases hk
  unfold Fm.val
  rw [ho, ← hF, ← hn, ← hne]
  have hn1 : n = 2 := by rw [hn, hkl1]
  have hma : a ∈ f.kids := by rw [hk]; simp
  have hga : f.kids[0]? = some a := by rw [hk]; rfl
  obtain ⟨ra, hra⟩ : ∃ ra, ra = frmT a 1 := ⟨_, rfl⟩
  have hla := frmT_len a 1
  have hcla : ∀ (Ae2 : Option Addr) (ce2 : Nat) (A2 : Option Addr) (c2 : Nat) W, FmV W Ae2 ce2 A2 c2 a → Calls Tryd.prog 90 #[a.val Ae2 ce2 A2 c2, .int .i64 1] W fun e w' => ∃ s : ByteArray, e = .returned (.tuple #[.string s, .int .i64 ra.2]) ∧ (ra.2 = 0 → bs s = ra.1) ∧ Below W.heap.size W w' := fun Ae2 ce2 A2 c2 W hv => by
    have h := H a 1 (d + 1) Ae2 ce2 A2 c2 W (hszk a hma).1 (hkids a hma) (hszk a hma).2.2 (hszk a hma).2.1 (by omega) hv
    unfold FTQ at h
    rw [← hra] at h
    exact h
  have HCa := Lib.hid hcla
  rw [← hra] at hla
  have HLa := Lib.hid hla
  have hmb : b ∈ f.kids := by rw [hk]; simp
  have hgb : f.kids[1]? = some b := by rw [hk]; rfl
  obtain ⟨rb, hrb⟩ : ∃ rb, rb = frmT b 1 := ⟨_, rfl⟩
  have hlb := frmT_len b 1
  have hclb : ∀ (Ae2 : Option Addr) (ce2 : Nat) (A2 : Option Addr) (c2 : Nat) W, FmV W Ae2 ce2 A2 c2 b → Calls Tryd.prog 90 #[b.val Ae2 ce2 A2 c2, .int .i64 1] W fun e w' => ∃ s : ByteArray, e = .returned (.tuple #[.string s, .int .i64 rb.2]) ∧ (rb.2 = 0 → bs s = rb.1) ∧ Below W.heap.size W w' := fun Ae2 ce2 A2 c2 W hv => by
    have h := H b 1 (d + 1) Ae2 ce2 A2 c2 W (hszk b hmb).1 (hkids b hmb) (hszk b hmb).2.2 (hszk b hmb).2.1 (by omega) hv
    unfold FTQ at h
    rw [← hrb] at h
    exact h
  have HCb := Lib.hid hclb
  rw [← hrb] at hlb
  have HLb := Lib.hid hlb
  have HLS : Hid (a.size + b.size + 1 ≤ f.size) := by
    have h1 := Fm.sizeL_mem hma
    show _ ≤ _
    cases f with
    | mk op0 e0 l0' =>
      simp only [Fm.kids] at hk
      rw [Fm.size, hk]
      simp only [Fm.sizeL]
      omega
  have HRES : Hid (frmT f least = if ra.2 ≠ 0 then ([], ra.2) else if rb.2 ≠ 0 then ([], rb.2) else if strongF 13 < least then ([40] ++ (openF 13 ++ ra.1 ++ inF 13 ++ rb.1 ++ closeF 13) ++ [41], 0) else (openF 13 ++ ra.1 ++ inF 13 ++ rb.1 ++ closeF 13, 0)) := by
    show _ = _
    have hb : (if f.op = 1 then ([91] ++ (showTm f.tm).1 ++ [93], (showTm f.tm).2) else frmK f.op f.kids) = (if ra.2 ≠ 0 then ([], ra.2) else (openF 13 ++ ra.1 ++ inF 13 ++ rb.1 ++ closeF 13, rb.2)) := by rw [if_neg (by omega), ho, hk, bar2 rfl, show leftF 13 = 1 from rfl, show rightF 13 = 1 from rfl, ← hra, ← hrb]
    rw [frmT_bar, hb, ho]
    by_cases h1 : ra.2 = 0
    · simp [h1]
    · simp [h1]
  have HST : Hid (∀ W, Calls Tryd.prog 111 #[.int .i64 13] W fun e w' => e = .returned (.int .i64 4) ∧ w' = W) := fun W => by
    have h := rfstrong_any 13 W
    rw [show ((strongF 13 : Nat) : Int) = 4 from rfl] at h
    exact h
  have HROW := Lib.hid hrow
  have HF := Lib.hid hF
  have HB1 := Lib.hid hb1
  have HW1 := Lib.hid hw1
  have HFS := Lib.hid hsz
  have HGa := Lib.hid hga
  have HRa := Lib.hid hra
  have HGb := Lib.hid hgb
  have HRb := Lib.hid hrb
  clear hF hb1 hw1 hV hV1 hbx hn hne hok hkids hszk hk1 hkl hk0 H hk hkl1 hrow hsz hws hN hts hga hma hra hla hcla hgb hmb hrb hlb hclb
  subst hn1
  go_enter Tryd.func90, Tryd.ntmps90
  go_wp2_with fail
  rw [← HW1.out]
  go_wp2_with fail
  refine wp_region_still_drew 7 (by kernel_rfl) (by kernel_rfl) ?_
  simp only [List.take_succ_cons, List.take_zero, List.drop_succ_cons, List.drop_zero]
  repeat still_step
  still_call (HST.out _)
  repeat still_step
  still_call (HST.out _)
  repeat still_step
  refine wpStill_nil ?_
  go_wp2_with fail
  obtain ⟨i0, hi, hz0, hz1, hz2⟩ := info_parts infoStr
  go_loopw [9, 10, 11, 12] (fun sl si _ _ wr => ∃ (k : Nat) (ys : List ByteArray), k ≤ 2 ∧ si = .int .i64 k ∧ TxR w1 wr (w1.heap.size + 1) 1 1 f.kids k sl ys) (fun _ i _ _ _ => 2 - (intOf i).toNat)
  case atStart => exact ⟨0, [], Nat.zero_le _, rfl, TxR.first (w2 := ((w1.alloc (.cells #[.int .i64 4, .int .i64 5] 3)).alloc (.cells #[.int .i64 1, .int .i64 1] 3))) (((Below.refl _ _).alloc (Nat.le_refl _) _).alloc (by simp) _) (by have h := heap_alloc_new (w1.alloc (.cells #[.int .i64 4, .int .i64 5] 3)) (.cells #[.int .i64 1, .int .i64 1] 3); rw [show (w1.alloc (.cells #[.int .i64 4, .int .i64 5] 3)).heap.size = w1.heap.size + 1 by simp] at h; exact h) (by simp) (by omega)⟩
  case round =>
    obtain ⟨k, ys, hk, rfl, hR⟩ := hrel
    obtain ⟨sa, scap, hsv⟩ := own_shape hR.own
    subst hsv
    have HR := Lib.hid hR
    have hbel := hR.below
    have hszr := hbel.size
    have hblr := hR.blt
    have y0 := hR.c0
    have y1 := hR.c1
    obtain ⟨x0, x1, x2, x3, x4, x5⟩ := HXX.out wr hbel
    have hwwr : w.heap.size < wr.heap.size := by omega
    have hgw : g < wr.heap.size := by omega
    have hkc : k = 0 ∨ k = 1 ∨ k = 2 := by omega
    clear x1 x2 x3 x4 hk
    rcases hkc with rfl | rfl | rfl
    · have hat := (HROW.out.get HGa.out).below hbel rfl hg
      obtain ⟨q0, q1, q2, q3, Ae2, ce2, A2, c2, q4, q5, hV2⟩ := hat.open
      simp only [Nat.mul_zero, Nat.add_zero] at q0 q1 q2 q3 q4 q5
      obtain ⟨n2, hn2⟩ : ∃ n2, n2 = a.kids.length := ⟨_, rfl⟩
      obtain ⟨ne2, hne2⟩ : ∃ ne2, ne2 = a.tm.kids.length := ⟨_, rfl⟩
      have HC : Hid (∀ W, Below wr.heap.size wr W → Calls Tryd.prog 90 #[.agg #[.int .i64 a.op, .int .i64 a.tm.op, .int .i64 a.tm.num, .string a.tm.name, .slice Ae2 ne2 ce2, .slice A2 n2 c2], .int .i64 1] W fun e w' => ∃ s : ByteArray, e = .returned (.tuple #[.string s, .int .i64 ra.2]) ∧ (ra.2 = 0 → bs s = ra.1) ∧ Below W.heap.size W w') := fun W hb => by
        have hcall := HCa.out Ae2 ce2 A2 c2 W (hV2.below hb rfl)
        unfold Fm.val at hcall
        rw [← hn2, ← hne2] at hcall
        exact hcall
      rw [← hn2] at q5
      rw [← hne2] at q4
      clear hn2 hne2 hV2 hat hbel hR
      go_wp2_with fail
      have hbd : Below wr.heap.size wr wr.drew := (Below.refl _ _).drew
      go_region_held3 (fun w' => (∀ o, w'.cell? ⟨w.heap.size, o, none⟩ = wr.cell? ⟨w.heap.size, o, none⟩) ∧ (∀ o, w'.cell? ⟨g, o, none⟩ = wr.cell? ⟨g, o, none⟩) ∧ (∀ o, w'.cell? ⟨w1.heap.size + 1, o, none⟩ = wr.cell? ⟨w1.heap.size + 1, o, none⟩) ∧ Below wr.heap.size wr w')
        (first | (exact ⟨keep_cells (by assumption) hwwr, keep_cells (by assumption) hgw, keep_cells (by assumption) hblr, by assumption⟩) | fail)
        (first | (go_at_call 90; with_reducible refine (HC.out _ (by assumption)).mono ?_; rintro e w4 ⟨s4, rfl, hs4, hb4⟩; have hb5 := keep_step (by assumption) hb4) | fail)
      have HB5 := Lib.hid hb5
      have HBW := Lib.hid (HB1.out.trans ((keep_step HR.out.below hb5).mono (by omega)))
      have hs5 := hb5.size
      have HO4 := Lib.hid (own_keepB HR.out.own hb5)
      have HS4 := Lib.hid hs4
      clear hbd hb4 hb5 hs4 q0 q1 q2 q3 q4 q5 x0 x5 y0 y1
      by_cases hz : ra.2 = 0
      · have hy4 := HS4.out hz
        have HY4 := Lib.hid hy4
        have HZ := Lib.hid hz
        have hzb : (ra.2 != 0) = false := by simpa using hz
        clear hy4 hz
        go_wp2_with (at_builtin; refine wpList_append_lies _ (by rfl) _ _ _ (by rfl) (w1.heap.size + 1 + 1) 9 i0 (.string ⟨#[]⟩) 1 16 Tryd.underlying45 hi hz0 hz1 hz2 rfl (by decide) _ 0 _ (by rfl) (HO4.out.alloc _) ⟨w4.heap.size, 0, none⟩ 1 1 [.string s4] (by rfl) rfl (World.news_of_block (heap_alloc_new w4 _)) (fun u hu => by rw [List.mem_singleton.1 hu]; rfl) (by decide) ?c3 ?c4 ?c5 (w4.heap.size + 1) (by simp) ?_)
        case c3 => unfold maxLen; omega
        case c4 => omega
        case c5 => first | omega | (simp; omega)
        intro g' cap' w6 hown6 hgrow6 hat6 hlt6
        have hown6' : w6.ownsRow (w1.heap.size + 1 + 1) 9 1 (.slice (some ⟨g', 0, none⟩) (0 + 1) cap') (0 + 1) ((ys ++ [s4]).map Value.string) := by
          rw [List.map_append, List.map_singleton]
          exact hown6
        have HR6 := Lib.hid (TxR.next HR.out HB5.out hgrow6 hown6' HGa.out (by show (frmT a 1).2 = 0; rw [← HRa.out]; exact HZ.out) (by show _ = (frmT a 1).1; rw [← HRa.out]; exact HY4.out))
        clear hown6 hown6' hgrow6 hat6
        go_wp2_with fail
        go_roundw
        case rel => exact ⟨0 + 1, ys ++ [s4], by omega, rfl, HR6.out⟩
        case measure => simp [intOf]
      · have HZ := Lib.hid hz
        have hzb : (ra.2 != 0) = true := by simpa using hz
        clear hz
        go_wp2_with fail
        rw [HF.out]
        have h2 : frmT f least = ([], ra.2) := by rw [HRES.out, if_pos HZ.out]
        exact ⟨⟨#[]⟩, by rw [h2]; rfl, fun h => by rw [h2] at h; exact absurd h HZ.out, HBW.out⟩
    · have hat := (HROW.out.get HGb.out).below hbel rfl hg
      obtain ⟨q0, q1, q2, q3, Ae2, ce2, A2, c2, q4, q5, hV2⟩ := hat.open
      rw [show off + 6 * 1 = off + 1 * 6 by omega] at q0 q1 q2 q3 q4 q5
      obtain ⟨n2, hn2⟩ : ∃ n2, n2 = b.kids.length := ⟨_, rfl⟩
      obtain ⟨ne2, hne2⟩ : ∃ ne2, ne2 = b.tm.kids.length := ⟨_, rfl⟩
      have HC : Hid (∀ W, Below wr.heap.size wr W → Calls Tryd.prog 90 #[.agg #[.int .i64 b.op, .int .i64 b.tm.op, .int .i64 b.tm.num, .string b.tm.name, .slice Ae2 ne2 ce2, .slice A2 n2 c2], .int .i64 1] W fun e w' => ∃ s : ByteArray, e = .returned (.tuple #[.string s, .int .i64 rb.2]) ∧ (rb.2 = 0 → bs s = rb.1) ∧ Below W.heap.size W w') := fun W hb => by
        have hcall := HCb.out Ae2 ce2 A2 c2 W (hV2.below hb rfl)
        unfold Fm.val at hcall
        rw [← hn2, ← hne2] at hcall
        exact hcall
      rw [← hn2] at q5
      rw [← hne2] at q4
      have H0a : Hid (ra.2 = 0) := by
        have h := (hR.txt 0 a HGa.out (by omega)).1
        show _ = _
        rw [HRa.out]
        exact h
      clear hn2 hne2 hV2 hat hbel hR
      go_wp2_with fail
      have hbd : Below wr.heap.size wr wr.drew := (Below.refl _ _).drew
      go_region_held3 (fun w' => (∀ o, w'.cell? ⟨w.heap.size, o, none⟩ = wr.cell? ⟨w.heap.size, o, none⟩) ∧ (∀ o, w'.cell? ⟨g, o, none⟩ = wr.cell? ⟨g, o, none⟩) ∧ (∀ o, w'.cell? ⟨w1.heap.size + 1, o, none⟩ = wr.cell? ⟨w1.heap.size + 1, o, none⟩) ∧ Below wr.heap.size wr w')
        (first | (exact ⟨keep_cells (by assumption) hwwr, keep_cells (by assumption) hgw, keep_cells (by assumption) hblr, by assumption⟩) | fail)
        (first | (go_at_call 90; with_reducible refine (HC.out _ (by assumption)).mono ?_; rintro e w4 ⟨s4, rfl, hs4, hb4⟩; have hb5 := keep_step (by assumption) hb4) | fail)
      have HB5 := Lib.hid hb5
      have HBW := Lib.hid (HB1.out.trans ((keep_step HR.out.below hb5).mono (by omega)))
      have hs5 := hb5.size
      have HO4 := Lib.hid (own_keepB HR.out.own hb5)
      have HS4 := Lib.hid hs4
      clear hbd hb4 hb5 hs4 q0 q1 q2 q3 q4 q5 x0 x5 y0 y1
      by_cases hz : rb.2 = 0
      · have hy4 := HS4.out hz
        have HY4 := Lib.hid hy4
        have HZ := Lib.hid hz
        have hzb : (rb.2 != 0) = false := by simpa using hz
        clear hy4 hz
        go_wp2_with (at_builtin; refine wpList_append_lies _ (by rfl) _ _ _ (by rfl) (w1.heap.size + 1 + 1) 9 i0 (.string ⟨#[]⟩) 1 16 Tryd.underlying45 hi hz0 hz1 hz2 rfl (by decide) _ 1 _ (by rfl) (HO4.out.alloc _) ⟨w4.heap.size, 0, none⟩ 1 1 [.string s4] (by rfl) rfl (World.news_of_block (heap_alloc_new w4 _)) (fun u hu => by rw [List.mem_singleton.1 hu]; rfl) (by decide) ?c3 ?c4 ?c5 (w4.heap.size + 1) (by simp) ?_)
        case c3 => unfold maxLen; omega
        case c4 => omega
        case c5 => first | omega | (simp; omega)
        intro g' cap' w6 hown6 hgrow6 hat6 hlt6
        have hown6' : w6.ownsRow (w1.heap.size + 1 + 1) 9 1 (.slice (some ⟨g', 0, none⟩) (1 + 1) cap') (1 + 1) ((ys ++ [s4]).map Value.string) := by
          rw [List.map_append, List.map_singleton]
          exact hown6
        have HR6 := Lib.hid (TxR.next HR.out HB5.out hgrow6 hown6' HGb.out (by show (frmT b 1).2 = 0; rw [← HRb.out]; exact HZ.out) (by show _ = (frmT b 1).1; rw [← HRb.out]; exact HY4.out))
        clear hown6 hown6' hgrow6 hat6
        go_wp2_with fail
        go_roundw
        case rel => exact ⟨1 + 1, ys ++ [s4], by omega, rfl, HR6.out⟩
        case measure => simp [intOf]
      · have HZ := Lib.hid hz
        have hzb : (rb.2 != 0) = true := by simpa using hz
        clear hz
        go_wp2_with fail
        rw [HF.out]
        have h2 : frmT f least = ([], rb.2) := by rw [HRES.out, if_neg (fun h => h H0a.out), if_pos HZ.out]
        exact ⟨⟨#[]⟩, by rw [h2]; rfl, fun h => by rw [h2] at h; exact absurd h HZ.out, HBW.out⟩
    · rw [show ((2 : Nat) : Int) = 2 from rfl]
      obtain ⟨A9, c9, hv9, hs9⟩ := strs_of_own (by rw [hR.len]; exact hR.own)
      rw [hR.len] at hv9
      obtain ⟨rfl, -, rfl⟩ : sa = A9 ∧ 2 = 2 ∧ scap = c9 := by injection hv9 with h1 h2 h3; exact ⟨h1, rfl, h3⟩
      rcases hs9 with h9 | ⟨gb, ob, rfl, hgb, hcb⟩
      · have h := hR.len; rw [h9] at h; simp at h
      obtain ⟨h0a, va, hya, hta⟩ := hR.txt 0 a HGa.out (by omega)
      change (frmT a 1).2 = 0 at h0a
      change bs va = (frmT a 1).1 at hta
      rw [← HRa.out] at h0a hta
      have z0 := hcb 0 (by rw [hR.len]; omega)
      rw [show ys.getD 0 ByteArray.empty = va by simp [List.getD, hya]] at z0
      have hvaz : va.size = ra.1.length := by rw [← hta]; rfl
      obtain ⟨h0b, vb, hyb, htb⟩ := hR.txt 1 b HGb.out (by omega)
      change (frmT b 1).2 = 0 at h0b
      change bs vb = (frmT b 1).1 at htb
      rw [← HRb.out] at h0b htb
      have z1 := hcb 1 (by rw [hR.len]; omega)
      rw [show ys.getD 1 ByteArray.empty = vb by simp [List.getD, hyb]] at z1
      have hvbz : vb.size = rb.1.length := by rw [← htb]; rfl
      simp only [Nat.add_zero] at z0
      obtain ⟨T1, hT1⟩ : ∃ T1 : ByteArray, T1 = (⟨#[65, 91]⟩ : ByteArray) ++ va := ⟨_, rfl⟩
      have szT1 : T1.size = 2 + va.size := by rw [hT1, ByteArray.size_append] <;> rfl
      obtain ⟨T2, hT2⟩ : ∃ T2 : ByteArray, T2 = T1 ++ (⟨#[32, 85, 32]⟩ : ByteArray) := ⟨_, rfl⟩
      have szT2 : T2.size = T1.size + 3 := by rw [hT2, ByteArray.size_append] <;> rfl
      obtain ⟨T3, hT3⟩ : ∃ T3 : ByteArray, T3 = T2 ++ vb := ⟨_, rfl⟩
      have szT3 : T3.size = T2.size + vb.size := by rw [hT3, ByteArray.size_append] <;> rfl
      obtain ⟨S1, hS1⟩ : ∃ S1 : ByteArray, S1 = T3 ++ (⟨#[93]⟩ : ByteArray) := ⟨_, rfl⟩
      have szS1 : S1.size = T3.size + 1 := by rw [hS1, ByteArray.size_append] <;> rfl
      obtain ⟨U1, hU1⟩ : ∃ U1 : ByteArray, U1 = (⟨#[40]⟩ : ByteArray) ++ S1 := ⟨_, rfl⟩
      have szU1 : U1.size = 1 + S1.size := by rw [hU1, ByteArray.size_append] <;> rfl
      obtain ⟨U2, hU2⟩ : ∃ U2 : ByteArray, U2 = U1 ++ (⟨#[41]⟩ : ByteArray) := ⟨_, rfl⟩
      have szU2 : U2.size = U1.size + 1 := by rw [hU2, ByteArray.size_append] <;> rfl
      have hLa := HLa.out
      have hLb := HLb.out
      have hLS := HLS.out
      have hFS := HFS.out
      have hcatT1 := rle_run hT1 (by show 2 + va.size ≤ _; omega)
      have hcatT2 := rle_run hT2 (by show T1.size + 3 ≤ _; omega)
      have hcatT3 := rle_run hT3 (by show T2.size + vb.size ≤ _; omega)
      have hcatS1 := rle_run hS1 (by show T3.size + 1 ≤ _; omega)
      have hcatU1 := rle_run hU1 (by show 1 + S1.size ≤ _; omega)
      have hcatU2 := rle_run hU2 (by show U1.size + 1 ≤ _; omega)
      have HT1 : Hid (bs S1 = openF 13 ++ ra.1 ++ inF 13 ++ rb.1 ++ closeF 13) := by
        show _ = _
        rw [hS1, hT3, hT2, hT1, ← hta, ← htb]
        simp [bs, openF, inF, closeF]
      have HT2 : Hid (bs U2 = [40] ++ bs S1 ++ [41]) := by show _ = _; rw [hU2, hU1]; simp [bs]
      have H0a := Lib.hid h0a
      have H0b := Lib.hid h0b
      have HBE := Lib.hid (HB1.out.trans (hbel.mono (by omega)))
      clear hT1 szT1 hT2 szT2 hT3 szT3 hS1 szS1 hU1 szU1 hU2 szU2 h0a hya hta hvaz h0b hyb htb hvbz hLa hLS hFS hcb hv9 hbel hR y0 y1 hLb
      by_cases hsl : strongF 13 < least
      · exfalso
        change 4 < least at hsl
        omega
      · have HSL := Lib.hid hsl
        change ¬ (4 < least) at hsl
        have hsl' : ¬ ((4 : Int) < (least : Int)) := by omega
        clear hsl
        go_wp2_with fail
        go_quiet (fail)
        go_wp2_with fail
        refine (HST.out _).mono ?_
        rintro e w8 ⟨rfl, hw8⟩
        rw [hw8]
        clear hw8
        go_wp2_with fail
        rw [HF.out]
        have h2 : frmT f least = ((openF 13 ++ ra.1 ++ inF 13 ++ rb.1 ++ closeF 13), 0) := by rw [HRES.out, if_neg (fun h => h H0a.out), if_neg (fun h => h H0b.out), if_neg HSL.out]
        exact ⟨S1, by rw [h2]; rfl, fun _ => by rw [h2]; exact HT1.out, (HBE.out.trans (Below.mono (B := wr.heap.size) (bl_drewN (Below.refl wr.heap.size wr) _) (by omega)))⟩
end Go.Proofs.YtcjblbpkjegmiaaDoor
namespace Go.Proofs.YtcjblbpkjegmiaaDoor
open Go.RowKit
set_option linter.unusedVariables false

theorem rftext_all : ∀ N, RTextC N := by
  intro N
  induction N with
  | zero =>
    intro f least d Ae ce A c w hN
    cases f; rw [Fm.size] at hN; omega
  | succ N ih =>
    intro f least d Ae ce A c w hN hok hws hsz hl hV
    have hrg := fop_range (fokT_open hok).2.1.1
    rcases hrg with ho | ho | ho | ho | ho | ho | ho | ho | ho | ho | ho | ho | ho
    · exact rtext_term N ih f least d Ae ce A c w hN hok hws hsz hl hV ho
    · exact rtext_u2 N ih f least d Ae ce A c w hN hok hws hsz hl hV ho
    · exact rtext_b3 N ih f least d Ae ce A c w hN hok hws hsz hl hV ho
    · exact rtext_b4 N ih f least d Ae ce A c w hN hok hws hsz hl hV ho
    · exact rtext_b5 N ih f least d Ae ce A c w hN hok hws hsz hl hV ho
    · exact rtext_u6 N ih f least d Ae ce A c w hN hok hws hsz hl hV ho
    · exact rtext_u7 N ih f least d Ae ce A c w hN hok hws hsz hl hV ho
    · exact rtext_u8 N ih f least d Ae ce A c w hN hok hws hsz hl hV ho
    · exact rtext_b9 N ih f least d Ae ce A c w hN hok hws hsz hl hV ho
    · exact rtext_u10 N ih f least d Ae ce A c w hN hok hws hsz hl hV ho
    · exact rtext_u11 N ih f least d Ae ce A c w hN hok hws hsz hl hV ho
    · exact rtext_u12 N ih f least d Ae ce A c w hN hok hws hsz hl hV ho
    · exact rtext_b13 N ih f least d Ae ce A c w hN hok hws hsz hl hV ho

set_option maxRecDepth 100000 in
set_option maxHeartbeats 8000000 in
theorem rfshow_any (t : Fm) (Ae : Option Addr) (ce : Nat) (A : Option Addr) (c : Nat) (w : World) (hV : FmV w Ae ce A c t) (hws : t.wsize ≤ 9000000) :
    Calls Tryd.prog 60 #[t.val Ae ce A c] w fun e w' => e = .returned (.tuple #[.string ⟨(showFm t).1.toArray⟩, .int .i64 (showFm t).2]) ∧ Below w.heap.size w w' := by
  obtain ⟨n, hn⟩ : ∃ n, n = t.kids.length := ⟨_, rfl⟩
  obtain ⟨ne, hne⟩ : ∃ ne, ne = t.tm.kids.length := ⟨_, rfl⟩
  obtain ⟨R, hR⟩ : ∃ R, R = showFm t := ⟨_, rfl⟩
  obtain ⟨F, hF⟩ : ∃ F : Ending → World → Prop, F = fun e w' => e = .returned (.tuple #[.string ⟨R.1.toArray⟩, .int .i64 R.2]) ∧ Below w.heap.size w w' := ⟨_, rfl⟩
  rw [← hR, ← hF]
  unfold showFm at hR
  obtain ⟨w1, hw1⟩ : ∃ w1, w1 = w.alloc (.cells #[.int .i64 t.op, .int .i64 t.tm.op, .int .i64 t.tm.num, .string t.tm.name, .slice Ae ne ce, .slice A n c] 29) := ⟨_, rfl⟩
  have hb1 : Below w.heap.size w w1 := by rw [hw1]; exact (Below.refl _ _).alloc (Nat.le_refl _) _
  have hs1 : w.heap.size < w1.heap.size := by rw [hw1]; simp
  have hbx : FBox w1 w.heap.size Ae ne ce A n c t := by rw [hw1]; exact heap_alloc_new w _
  have hV1 := hV.below hb1 rfl
  have hck := rfcheck_any t Ae ce A c w1 hV1 hws
  have HXX : Hid (∀ W, Below w1.heap.size w1 W → W.cell? ⟨w.heap.size, 0, none⟩ = some (.int .i64 t.op) ∧ W.cell? ⟨w.heap.size, 1, none⟩ = some (.int .i64 t.tm.op) ∧ W.cell? ⟨w.heap.size, 2, none⟩ = some (.int .i64 t.tm.num) ∧ W.cell? ⟨w.heap.size, 3, none⟩ = some (.string t.tm.name) ∧ W.cell? ⟨w.heap.size, 4, none⟩ = some (.slice Ae ne ce) ∧ W.cell? ⟨w.heap.size, 5, none⟩ = some (.slice A n c)) := fun W hb => by
    have hx := hbx.below hb hs1
    exact ⟨hx.c0, hx.c1, hx.c2, hx.c3, hx.c4, hx.c5⟩
  obtain ⟨x0, x1, x2, x3, x4, x5⟩ := HXX.out w1 (Below.refl _ _)
  have HTX : Hid (t.check = 0 → ∀ W, Below w1.heap.size w1 W → Calls Tryd.prog 90 #[.agg #[.int .i64 t.op, .int .i64 t.tm.op, .int .i64 t.tm.num, .string t.tm.name, .slice Ae ne ce, .slice A n c], .int .i64 1] W (FTQ t 1 W)) := fun h0 W hb => by
    obtain ⟨h1, h2⟩ := fcheck_ok h0
    have h := rftext_all t.size t 1 1 Ae ce A c W (Nat.le_refl _) h1 hws (by omega) (by omega) (hV1.below hb rfl)
    unfold Fm.val at h
    rw [← hn, ← hne] at h
    exact h
  have HLN : Hid (t.check = 0 → (frmT t 1).1.length ≤ 65600 * 4096) := fun h0 => by
    have := frmT_len t 1
    have := (fcheck_ok h0).2
    show _ ≤ _
    omega
  unfold Fm.val at hck ⊢
  rw [← hn, ← hne] at hck ⊢
  obtain ⟨ck, hck0⟩ : ∃ ck, ck = t.check := ⟨_, rfl⟩
  rw [← hck0] at hck HTX HLN hR
  obtain ⟨X, hX⟩ : ∃ X, X = frmT t 1 := ⟨_, rfl⟩
  unfold FTQ at HTX
  rw [← hX] at HTX HLN hR
  have HR := Lib.hid hR
  have HF := Lib.hid hF
  have HB1 := Lib.hid hb1
  have HW1 := Lib.hid hw1
  have HCK := Lib.hid hck
  clear hR hF hb1 hw1 hck hck0 hX hn hne hV hV1 hbx
  go_enter Tryd.func60, Tryd.ntmps60
  go_wp2_with fail
  rw [← HW1.out]
  go_wp2_with fail
  refine (HCK.out).mono ?_
  rintro e w2 ⟨rfl, hb2⟩
  clear x0 x1 x2 x3 x4 x5
  obtain ⟨x0, x1, x2, x3, x4, x5⟩ := HXX.out w2 hb2
  have hs2 : w.heap.size < w2.heap.size := by have := hb2.size; omega
  have HB2 := Lib.hid hb2
  have HBF := Lib.hid (HB1.out.trans (hb2.mono (by omega)))
  clear hb2
  by_cases h0 : ck = 0
  · have HT2 := Lib.hid (HTX.out h0 w2 HB2.out)
    have hl := HLN.out h0
    have HR2 : Hid (R = if X.2 ≠ 0 then ([], X.2) else if 65536 < X.1.length then ([], 4) else (X.1, 0)) := by show _ = _; rw [HR.out, if_neg (fun h => h h0)]
    have HL := Lib.hid hl
    subst h0
    clear hl
    go_wp2_with fail
    refine (HT2.out).mono ?_
    rintro e w4 ⟨s, rfl, hs, hb4⟩
    have HBF4 := Lib.hid (HB1.out.trans ((keep_step HB2.out hb4).mono (by omega)))
    have HS := Lib.hid hs
    clear hb4 hs x0 x1 x2 x3 x4 x5
    by_cases hx : X.2 = 0
    · have hxb : (X.2 != 0) = false := by simpa using hx
      have hsx := HS.out hx
      have hsz : s.size = X.1.length := by rw [← hsx]; rfl
      have HSX : Hid ((⟨X.1.toArray⟩ : ByteArray) = s) := by show _ = _; rw [← hsx]; rfl
      have HR3 : Hid (R = if 65536 < X.1.length then ([], 4) else (X.1, 0)) := by show _ = _; rw [HR2.out, if_neg (fun h => h hx)]
      have hsl : s.size ≤ 65600 * 4096 := by rw [hsz]; exact HL.out
      have HSZ := Lib.hid hsz
      clear hx hsx hsz
      by_cases h6 : 65536 < s.size
      · have HR4 : Hid (R = ([], 4)) := by show _ = _; rw [HR3.out, if_pos (by rw [← HSZ.out]; exact h6)]
        have h6' : (65536 : Int) < (s.size : Int) := by omega
        clear h6
        go_wp2_with fail
        rw [HF.out, HR4.out]
        exact ⟨rfl, HBF4.out⟩
      · have HR4 : Hid (R = (X.1, 0)) := by show _ = _; rw [HR3.out, if_neg (by rw [← HSZ.out]; exact h6)]
        have h6' : ¬ (65536 : Int) < (s.size : Int) := by omega
        clear h6
        go_wp2_with fail
        rw [HF.out, HR4.out, HSX.out]
        exact ⟨rfl, HBF4.out⟩
    · have hxb : (X.2 != 0) = true := by simpa using hx
      have HR3 : Hid (R = ([], X.2)) := by show _ = _; rw [HR2.out, if_pos hx]
      clear hx
      go_wp2_with fail
      rw [HF.out, HR3.out]
      exact ⟨rfl, HBF4.out⟩
  · have HR2 : Hid (R = ([], ck)) := by show _ = _; rw [HR.out, if_pos h0]
    have h0' : (ck != 0) = true := by simpa using h0
    clear h0
    go_wp2_with fail
    rw [HF.out, HR2.out]
    exact ⟨rfl, HBF.out⟩
end Go.Proofs.YtcjblbpkjegmiaaDoor
namespace Go.Proofs.YtcjblbpkjegmiaaDoor
open Go.RowKit
set_option linter.unusedVariables false
set_option linter.unusedSimpArgs false

set_option maxHeartbeats 2000000 in
theorem rword_any (k : Int) (w : World) :
    Calls Tryd.prog 59 #[.int .i64 k] w fun e w' => e = .returned (.string ⟨(kindS k).toArray⟩) ∧ w = w' := by
  obtain ⟨r, hr⟩ : ∃ r, r = kindS k := ⟨_, rfl⟩
  rw [← hr]
  have HR := Lib.hid hr
  clear hr
  go_enter Tryd.func59, Tryd.ntmps59
  go_wp2
  all_goals
    go_ret
    rw [HR.out]
    refine ⟨?_, rfl⟩
    simp_all [kindS]
theorem rstrs_of_lines {x : List Bs × Int} {w : World} {e : Ending} {w' : World} (h : RLinesQ x w e w') : ∃ A c, e = .returned (.tuple #[.slice A x.1.length c, .int .i64 x.2]) ∧ StrsAt w' A (x.1.map fun l => ⟨l.toArray⟩) ∧ Below w.heap.size w w' := by
  obtain ⟨v, he, ho, hb⟩ := h
  have ho' : w'.ownsRow w.heap.size 9 1 v (x.1.map fun l => (⟨l.toArray⟩ : ByteArray)).length ((x.1.map fun l => (⟨l.toArray⟩ : ByteArray)).map Value.string) := by
    rw [List.length_map, List.map_map]
    exact ho
  obtain ⟨A, c, hv, hs⟩ := strs_of_own ho'
  rw [List.length_map] at hv
  exact ⟨A, c, by rw [he, hv], hs, hb⟩
/-- What show leaves. -/
def STQ (M : Bs) (r : Int) (w : World) (e : Ending) (w' : World) : Prop := ∃ s : ByteArray, e = .returned (.tuple #[.string s, .int .i64 r]) ∧ (r = 0 → bs s = M) ∧ Below w.heap.size w w'
theorem bs_len (s : ByteArray) : s.size = (bs s).length := by unfold bs; simp
theorem pre_le {S M : Bs} {x : Bs} (h : x ++ S = M) : x.length ≤ M.length := by rw [← h, List.length_append]; omega

set_option maxRecDepth 100000 in
set_option maxHeartbeats 16000000 in
theorem rshowtr1_any (vs : List Vr) (Av : Option Addr) (cv : Nat) (hsm : SmallV vs) : ∀ (N : Nat) (t : Tr) (d : Nat) (p : TrP) (w : World), t.size ≤ N → t.wsize ≤ 900000 → d + t.wsize ≤ 900000 → TrV w p t → VrsV w Av cv vs → (rawT vs t d).length ≤ 1000000000 →
    Calls Tryd.prog 39 #[.slice Av vs.length cv, t.val p, .string ⟨(blanksS d).toArray⟩] w (STQ (rawT vs t d) (errT vs t) w) := by
  intro N
  induction N with
  | zero =>
    intro t d p w hN
    cases t; rw [Tr.size] at hN; omega
  | succ N ih =>
    intro t d p w hN hws hd hV hVs hraw
    obtain ⟨n, hn⟩ : ∃ n, n = t.kids.length := ⟨_, rfl⟩
    obtain ⟨nv, hnv⟩ : ∃ nv, nv = vs.length := ⟨_, rfl⟩
    obtain ⟨RAW, hRAW⟩ : ∃ RAW, RAW = rawT vs t d := ⟨_, rfl⟩
    obtain ⟨E, hE⟩ : ∃ E, E = errT vs t := ⟨_, rfl⟩
    obtain ⟨F, hF⟩ : ∃ F, F = STQ RAW E w := ⟨_, rfl⟩
    have hsz : t.size = 1 + t.path.length + Tr.sizeL t.kids := by cases t; rw [Tr.size]; rfl
    have hnl := Tr.len_w t.kids
    obtain ⟨w1, hw1⟩ : ∃ w1, w1 = w.alloc (.cells #[.int .i64 t.kind, .slice p.aS t.state.length p.cS, .int .i64 t.fm.op, .int .i64 t.fm.tm.op, .int .i64 t.fm.tm.num, .string t.fm.tm.name, .slice p.aE t.fm.tm.kids.length p.cE, .slice p.aF t.fm.kids.length p.cF, .slice p.aP t.path.length p.cP, .int .i64 t.loop, .int .i64 t.at_, .slice p.aK t.kids.length p.cK] 33) := ⟨_, rfl⟩
    have hb1 : Below w.heap.size w w1 := by rw [hw1]; exact (Below.refl _ _).alloc (Nat.le_refl _) _
    have hs1 : w.heap.size < w1.heap.size := by rw [hw1]; simp
    have hbx : TrBox w1 w.heap.size p t := by unfold TrBox; rw [hw1]; exact heap_alloc_new w _
    have hV1 := hV.below hb1 rfl
    have hwo := Tr.wsize_open t
    have hfs := rfshow_any t.fm p.aE p.cE p.aF p.cF w1 hV1.own.fm (by omega)
    unfold Fm.val at hfs
    have hfl := showFm_len t.fm
    have HRE : Hid (RAW = headS t.kind t.fm t.at_ d ++ (if t.kind = 5 then linesS d (linesT vs t.path t.loop).1 else []) ++ rawL vs t.kids (d + 1)) := by show _ = _; rw [hRAW, rawT_eq]
    have HEE : Hid (E = if kindS t.kind = [] then 11 else if (showFm t.fm).2 ≠ 0 then (showFm t.fm).2 else if t.kind = 5 ∧ (linesT vs t.path t.loop).2 ≠ 0 then (linesT vs t.path t.loop).2 else errL vs t.kids) := by show _ = _; rw [hE, errT_eq]
    obtain ⟨X, hX⟩ : ∃ X, X = showFm t.fm := ⟨_, rfl⟩
    rw [← hX] at hfs HEE hfl
    have HX := Lib.hid hX
    obtain ⟨FS, hFS⟩ : ∃ FS : ByteArray, FS = ⟨X.1.toArray⟩ := ⟨_, rfl⟩
    have hFz : FS.size ≤ 65536 := by rw [hFS, bsz'']; exact hfl
    rw [← hFS] at hfs
    have HFSS := Lib.hid hFS
    obtain ⟨KS, hKS⟩ : ∃ KS : ByteArray, KS = ⟨(kindS t.kind).toArray⟩ := ⟨_, rfl⟩
    have hKz : KS.size ≤ 5 := by rw [hKS, bsz'']; exact kindS_len _
    have HWD := Lib.hid (fun W => rword_any t.kind W)
    rw [← hKS] at HWD
    obtain ⟨B, hB⟩ : ∃ B : ByteArray, B = ⟨(blanksS d).toArray⟩ := ⟨_, rfl⟩
    have hBz : B.size ≤ 2000000 := by rw [hB, bsz'', blanksS_len]; omega
    obtain ⟨B2, hB2⟩ : ∃ B2 : ByteArray, B2 = B ++ (⟨#[32, 32]⟩ : ByteArray) := ⟨_, rfl⟩
    have hcatB := rle_run hB2 (by show B.size + 2 ≤ _; omega)
    have HSB : Hid (B2 = ⟨(blanksS (d + 1)).toArray⟩) := by show _ = _; rw [hB2, hB, blanksS_succ]; apply bs_ext; simp [bs]
    obtain ⟨S1, hS1⟩ : ∃ S1 : ByteArray, S1 = B ++ KS := ⟨_, rfl⟩
    obtain ⟨S2, hS2⟩ : ∃ S2 : ByteArray, S2 = S1 ++ (⟨#[32]⟩ : ByteArray) := ⟨_, rfl⟩
    obtain ⟨S3, hS3⟩ : ∃ S3 : ByteArray, S3 = S2 ++ FS := ⟨_, rfl⟩
    have z1 : S1.size = B.size + KS.size := by rw [hS1, ByteArray.size_append]
    have z2 : S2.size = S1.size + 1 := by rw [hS2, ByteArray.size_append] <;> rfl
    have z3 : S3.size = S2.size + FS.size := by rw [hS3, ByteArray.size_append]
    have hcat1 := rle_run hS1 (by omega)
    have hcat2 := rle_run hS2 (by show S1.size + 1 ≤ _; omega)
    have hcat3 := rle_run hS3 (by omega)
    have hz3 : S3.size ≤ 3000000 := by omega
    have HS3 : Hid (bs S3 = blanksS d ++ kindS t.kind ++ [32] ++ X.1) := by show _ = _; rw [hS3, hS2, hS1, hB, hKS, hFS]; simp [bs]
    have HSZ : Hid (∀ k ∈ t.kids, k.size ≤ N ∧ k.wsize ≤ 900000 ∧ d + 1 + k.wsize ≤ 900000) := fun k hk => by
      have h1 := Tr.sizeL_mem hk
      have h2 := hwo.2 k hk
      omega
    have hli : Hid (∀ W, Below w1.heap.size w1 W → Calls Tryd.prog 17 #[.slice Av nv cv, .slice p.aP t.path.length p.cP, .int .i64 t.loop] W (RLinesQ (linesT vs t.path t.loop) W)) := fun W hb => by
      rw [hnv]
      exact rlines_any vs t.path t.loop Av p.aP cv p.cP W hsm (by have := hwo.1; omega) ((hVs.below hb1 rfl).below hb rfl) (hV1.own.path.below hb rfl)
    have HNT := Lib.hid (fun W => rtext1_any t.at_ W hV.own.at_.1 hV.own.at_.2)
    have hnl20 := numS_len20 t.at_ hV.own.at_.1 hV.own.at_.2
    have hcK := hV.own.cap
    have hcKm := hV.own.capm
    unfold maxLen at hcKm
    have hnle : n ≤ 900000 := by
      have h0 : Tr.wsizeL t.kids ≤ t.wsize := by cases t; rw [Tr.wsize]; simp only [Tr.kids]; omega
      omega
    unfold Tr.val
    rw [← hRAW, ← hE, ← hF, ← hn, ← hnv, ← hB]
    rw [← hRAW] at hraw
    rw [← hn] at hcK hw1
    rw [← hnv] at ih
    have HF := Lib.hid hF
    have HIH := Lib.hid ih
    have HN := Lib.hid hn
    have HB1 := Lib.hid hb1
    have HW1 := Lib.hid hw1
    have HBX := Lib.hid hbx
    have HV1 := Lib.hid hV1
    have HVS := Lib.hid (hVs.below hb1 rfl)
    have HRL := Lib.hid hraw
    have HFSH := Lib.hid hfs
    have HKS := Lib.hid hKS
    have HBB : Hid (bs B = blanksS d) := by show _ = _; rw [hB]; rfl
    have hpl : t.path.length ≤ 900000 := by omega
    have hdle : d ≤ 900000 := by omega
    have kc0 := hbx.cell (j := 0) rfl
    have kc1 := hbx.cell (j := 1) rfl
    have kc2 := hbx.cell (j := 2) rfl
    have kc3 := hbx.cell (j := 3) rfl
    have kc4 := hbx.cell (j := 4) rfl
    have kc5 := hbx.cell (j := 5) rfl
    have kc6 := hbx.cell (j := 6) rfl
    have kc7 := hbx.cell (j := 7) rfl
    have kc8 := hbx.cell (j := 8) rfl
    have kc9 := hbx.cell (j := 9) rfl
    have kc10 := hbx.cell (j := 10) rfl
    have kc11 := hbx.cell (j := 11) rfl
    rw [← hn] at kc11
    clear hF ih hn hb1 hw1 hbx hV1 hV hVs hraw hfs hfl hX hFS hB2 hS1 hS2 hS3 z1 z2 z3 hRAW hE hN hws hd hwo hnl hsz hKS hB hnv
    by_cases hk0 : kindS t.kind = []
    · have hemp : KS.toList.isEmpty = true := isEmpty_of_size (by rw [HKS.out, hk0]; rfl)
      have HR : Hid (E = 11) := by show _ = _; rw [HEE.out, if_pos hk0]
      clear hk0
      go_enter Tryd.func39, Tryd.ntmps39
      go_wp2_with fail
      rw [← HW1.out]
      go_wp2_with fail
      refine (HWD.out _).mono ?_
      rintro e w2 ⟨rfl, hw⟩
      rw [← hw]
      clear hw
      go_wp2_with fail
      rw [HF.out, HR.out]
      exact ⟨⟨#[]⟩, rfl, (fun h => by cases h), HB1.out⟩
    have hemp : KS.toList.isEmpty = false := isEmpty_of_pos (by
      rw [HKS.out, bsz'']
      rcases Nat.eq_zero_or_pos (kindS t.kind).length with h | h
      · exact absurd (List.eq_nil_of_length_eq_zero h) hk0
      · exact h)
    have HE2 : Hid (E = if X.2 ≠ 0 then X.2 else if t.kind = 5 ∧ (linesT vs t.path t.loop).2 ≠ 0 then (linesT vs t.path t.loop).2 else errL vs t.kids) := by show _ = _; rw [HEE.out, if_neg hk0]
    clear hk0
    by_cases hx : X.2 = 0
    · have hxb : (X.2 != 0) = false := by simpa using hx
      have HE3 : Hid (E = if t.kind = 5 ∧ (linesT vs t.path t.loop).2 ≠ 0 then (linesT vs t.path t.loop).2 else errL vs t.kids) := by show _ = _; rw [HE2.out, if_neg (fun h => h hx)]
      clear hx
      by_cases hk4 : t.kind = 4
      · have hk4b : (t.kind == 4) = true := by simpa using hk4
        have HRE2 : Hid (RAW = headS t.kind t.fm t.at_ d ++ rawL vs t.kids (d + 1)) := by show _ = _; rw [HRE.out, if_neg (by omega)]; simp
        have HE4 : Hid (E = errL vs t.kids) := by show _ = _; rw [HE3.out, if_neg (fun h => by omega)]
        have hk5b : (t.kind == 5) = false := by simp; omega
        obtain ⟨S4, hS4⟩ : ∃ S4 : ByteArray, S4 = S3 ++ (⟨#[32]⟩ : ByteArray) := ⟨_, rfl⟩
        have z4 : S4.size = S3.size + 1 := by rw [hS4, ByteArray.size_append] <;> rfl
        obtain ⟨NS, hNS⟩ : ∃ NS : ByteArray, NS = ⟨(numS t.at_).toArray⟩ := ⟨_, rfl⟩
        have zN : NS.size ≤ 21 := by rw [hNS, bsz'']; exact hnl20
        rw [← hNS] at HNT
        obtain ⟨S5, hS5⟩ : ∃ S5 : ByteArray, S5 = S4 ++ NS := ⟨_, rfl⟩
        have z5 : S5.size = S4.size + NS.size := by rw [hS5, ByteArray.size_append]
        obtain ⟨S6, hS6⟩ : ∃ S6 : ByteArray, S6 = S5 ++ (⟨#[10]⟩ : ByteArray) := ⟨_, rfl⟩
        have z6 : S6.size = S5.size + 1 := by rw [hS6, ByteArray.size_append] <;> rfl
        have hcat4 := rle_run hS4 (by show S3.size + 1 ≤ _; omega)
        have hcat5 := rle_run hS5 (by omega)
        have hcat6 := rle_run hS6 (by show S5.size + 1 ≤ _; omega)
        have hz6 : S6.size ≤ 4000000 := by omega
        have HH6 : Hid (bs S6 = headS t.kind t.fm t.at_ d) := by
          show _ = _
          unfold headS
          rw [if_pos (by omega), ← HX.out, hS6, bs_app, hS5, bs_app, hS4, bs_app, HS3.out, hNS]
          simp [bs]
        clear hS4 z4 hNS zN hS5 z5 hS6 z6
        clear hk4
        go_enter Tryd.func39, Tryd.ntmps39
        go_wp2_with fail
        rw [← HW1.out]
        go_wp2_with fail
        refine (HWD.out _).mono ?_
        rintro e w2 ⟨rfl, hw⟩
        rw [← hw]
        clear hw
        go_wp2_with fail
        refine (HFSH.out).mono ?_
        rintro e w3 ⟨rfl, hb3⟩
        have hbx := HBX.out.below hb3 hs1
        clear kc0 kc1 kc2 kc3 kc4 kc5 kc6 kc7 kc8 kc9 kc10 kc11
        have kc0 := hbx.cell (j := 0) rfl
        have kc1 := hbx.cell (j := 1) rfl
        have kc2 := hbx.cell (j := 2) rfl
        have kc3 := hbx.cell (j := 3) rfl
        have kc4 := hbx.cell (j := 4) rfl
        have kc5 := hbx.cell (j := 5) rfl
        have kc6 := hbx.cell (j := 6) rfl
        have kc7 := hbx.cell (j := 7) rfl
        have kc8 := hbx.cell (j := 8) rfl
        have kc9 := hbx.cell (j := 9) rfl
        have kc10 := hbx.cell (j := 10) rfl
        have kc11 := hbx.cell (j := 11) rfl
        rw [← HN.out] at kc11
        have HB3 := Lib.hid hb3
        have hsw3 : w.heap.size < w3.heap.size := by have := hb3.size; omega
        clear hb3 hbx
        go_wp2_with fail
        refine (HNT.out _).mono ?_
        rintro e w4 ⟨rfl, hb4⟩
        have hb14 := keep_step HB3.out hb4
        have hbx := HBX.out.below hb14 hs1
        clear kc0 kc1 kc2 kc3 kc4 kc5 kc6 kc7 kc8 kc9 kc10 kc11
        have kc0 := hbx.cell (j := 0) rfl
        have kc1 := hbx.cell (j := 1) rfl
        have kc2 := hbx.cell (j := 2) rfl
        have kc3 := hbx.cell (j := 3) rfl
        have kc4 := hbx.cell (j := 4) rfl
        have kc5 := hbx.cell (j := 5) rfl
        have kc6 := hbx.cell (j := 6) rfl
        have kc7 := hbx.cell (j := 7) rfl
        have kc8 := hbx.cell (j := 8) rfl
        have kc9 := hbx.cell (j := 9) rfl
        have kc10 := hbx.cell (j := 10) rfl
        have kc11 := hbx.cell (j := 11) rfl
        rw [← HN.out] at kc11
        have HB4 := Lib.hid hb14
        have hsw4 : w.heap.size < w4.heap.size := by have := hb14.size; omega
        clear hb4 hb14 hbx
        go_wp2_with fail
        go_loopw [11, 15, 16, 17] (fun sv si _ _ wr => ∃ (k : Nat) (S : ByteArray), k ≤ n ∧ sv = .string S ∧ si = .int .i64 k ∧ bs S ++ rawL vs (t.kids.drop k) (d + 1) = RAW ∧ errL vs (t.kids.drop k) = E ∧ Below w1.heap.size w1 wr) (fun _ i _ _ _ => n - (intOf i).toNat)
        case atStart => exact ⟨0, S6, Nat.zero_le _, rfl, rfl, by rw [HH6.out, List.drop_zero]; exact HRE2.out.symm, by rw [List.drop_zero]; exact HE4.out.symm, HB4.out⟩
        case round =>
          obtain ⟨k, S, hk, rfl, rfl, hS, hE, hbel⟩ := hrel
          have HBL := Lib.hid hbel
          have HS := Lib.hid hS
          have HE := Lib.hid hE
          have hszr := hbel.size
          have hbx := HBX.out.below hbel hs1
          have kc11 := hbx.cell (j := 11) rfl
          rw [← HN.out] at kc11
          have hwwr : w.heap.size < wr.heap.size := by omega
          have HBT := Lib.hid (HB1.out.trans (hbel.mono (by omega)))
          clear hbx hS hE
          by_cases hlt : k < n
          · obtain ⟨kd, hkd⟩ : ∃ kd, t.kids[k]? = some kd := ⟨_, List.getElem?_eq_getElem (by have := HN.out; omega)⟩
            have hmem : kd ∈ t.kids := List.mem_of_getElem? hkd
            rcases HV1.out.kids with h9 | ⟨g, off, hpk, hg, hrow⟩
            · rw [h9] at hkd; simp at hkd
            have hat := (hrow.get hkd).below hbel rfl hg
            obtain ⟨p2, hcs, hV2⟩ := hat.open
            have hgw : g < wr.heap.size := by omega
            have hdr : t.kids.drop k = kd :: t.kids.drop (k + 1) := by
              obtain ⟨hj, hj2⟩ := List.getElem?_eq_some_iff.1 hkd
              rw [List.drop_eq_getElem_cons hj, hj2]
            have hraw : rawL vs (t.kids.drop k) (d + 1) = rawT vs kd (d + 1) ++ rawL vs (t.kids.drop (k + 1)) (d + 1) := by rw [hdr, rawL]
            have herr : errL vs (t.kids.drop k) = if errT vs kd ≠ 0 then errT vs kd else errL vs (t.kids.drop (k + 1)) := by rw [hdr, errL]
            have hkl : (rawT vs kd (d + 1)).length ≤ 1000000000 := by
              have h1 := HS.out
              rw [hraw] at h1
              have h2 := HRL.out
              rw [← h1] at h2
              simp only [List.length_append] at h2
              omega
            have hih := HIH.out kd (d + 1) p2 wr (HSZ.out kd hmem).1 (HSZ.out kd hmem).2.1 (HSZ.out kd hmem).2.2 hV2 (HVS.out.below hbel rfl) hkl
            unfold Tr.val at hih
            rw [← HSB.out] at hih
            obtain ⟨eK, heK⟩ : ∃ eK, eK = errT vs kd := ⟨_, rfl⟩
            obtain ⟨rK, hrK⟩ : ∃ rK, rK = rawT vs kd (d + 1) := ⟨_, rfl⟩
            rw [← heK, ← hrK] at hih
            rw [← hrK] at hraw
            rw [← heK] at herr
            have HC := Lib.hid hih
            have HRAW := Lib.hid hraw
            have HERR := Lib.hid herr
            have q0 := hcs 0 _ rfl
            have q1 := hcs 1 _ rfl
            have q2 := hcs 2 _ rfl
            have q3 := hcs 3 _ rfl
            have q4 := hcs 4 _ rfl
            have q5 := hcs 5 _ rfl
            have q6 := hcs 6 _ rfl
            have q7 := hcs 7 _ rfl
            have q8 := hcs 8 _ rfl
            have q9 := hcs 9 _ rfl
            have q10 := hcs 10 _ rfl
            have q11 := hcs 11 _ rfl
            have ea : off + 12 * k = off + k * 12 := by omega
            rw [ea] at q0 q1 q2 q3 q4 q5 q6 q7 q8 q9 q10 q11
            rw [Nat.add_zero] at q0
            have hpk' : p.aK = some ⟨g, off, none⟩ := hpk
            rw [hpk'] at kc11
            have hk0 : (0 : Int) ≤ (k : Int) := by omega
            have hk1 : (k : Int) < (n : Int) := by omega
            have hSz : S.size ≤ 1000000000 := by
              rw [bs_len]
              have := pre_le HS.out
              have := HRL.out
              omega
            clear hih hraw herr heK hrK hdr hcs hat hrow hmem hkd ea hbel hpk hpk' hV2 hkl
            go_wp2_with fail
            refine (HC.out).mono ?_
            rintro e w4 ⟨s4, rfl, hs4, hb4⟩
            have HB5 := Lib.hid (HBL.out.trans (hb4.mono hszr))
            have HB6 := Lib.hid (HBT.out.trans (hb4.mono (by omega)))
            have HS4 := Lib.hid hs4
            clear hb4 hs4 kc11 q0 q1 q2 q3 q4 q5 q6 q7 q8 q9 q10 q11
            by_cases hz : eK = 0
            · have hs4' := HS4.out hz
              have HE2 : Hid (errL vs (t.kids.drop (k + 1)) = E) := by show _ = _; rw [← HE.out, HERR.out, if_neg (fun h => h hz)]
              obtain ⟨S2, hS2⟩ : ∃ S2 : ByteArray, S2 = S ++ s4 := ⟨_, rfl⟩
              have HS2 : Hid (bs S2 ++ rawL vs (t.kids.drop (k + 1)) (d + 1) = RAW) := by
                show _ = _
                rw [← HS.out, HRAW.out, hS2, bs_app, hs4', List.append_assoc]
              have hcat := rle_run hS2 (by
                rw [← ByteArray.size_append, ← hS2, bs_len]
                have := pre_le HS2.out
                have := HRL.out
                omega)
              clear hS2 hs4'
              subst hz
              go_wp2_with fail
              go_roundw
              case rel => exact ⟨k + 1, S2, by omega, rfl, by go_num, HS2.out, HE2.out, HB5.out⟩
              case measure => simp [intOf]; omega
            · have HE2 : Hid (E = eK) := by show _ = _; rw [← HE.out, HERR.out, if_pos hz]
              have HZ := Lib.hid hz
              have hzb : (eK != 0) = true := by simpa using hz
              clear hz
              go_wp2_with fail
              rw [HF.out, HE2.out]
              exact ⟨⟨#[]⟩, rfl, fun h => absurd h HZ.out, HB6.out⟩
          · have hkn : k = n := by omega
            have HFS : Hid (bs S = RAW ∧ E = 0) := by
              have h1 := HS.out
              have h2 := HE.out
              rw [List.drop_eq_nil_of_le (by have := HN.out; omega)] at h1 h2
              exact ⟨by simpa [rawL] using h1, by rw [← h2]; rfl⟩
            have hk1 : ¬ (k : Int) < (n : Int) := by omega
            clear hlt hbel hkn
            go_wp2_with fail
            rw [HF.out, HFS.out.2]
            exact ⟨S, rfl, fun _ => HFS.out.1, HBT.out⟩
      by_cases hk5 : t.kind = 5
      · have hk4b : (t.kind == 4) = false := by simpa using hk4
        have HRE2 : Hid (RAW = headS t.kind t.fm t.at_ d ++ linesS d (linesT vs t.path t.loop).1 ++ rawL vs t.kids (d + 1)) := by show _ = _; rw [HRE.out, if_pos hk5]
        have HE4 : Hid (E = if (linesT vs t.path t.loop).2 ≠ 0 then (linesT vs t.path t.loop).2 else errL vs t.kids) := by
          show _ = _
          rw [HE3.out]
          by_cases h : (linesT vs t.path t.loop).2 = 0
          · rw [if_neg (fun h9 => h9.2 h), if_neg (fun h9 => h9 h)]
          · rw [if_pos ⟨hk5, h⟩, if_pos h]
        have hk5b : (t.kind == 5) = true := by simpa using hk5
        obtain ⟨S4, hS4⟩ : ∃ S4 : ByteArray, S4 = S3 ++ (⟨#[32]⟩ : ByteArray) := ⟨_, rfl⟩
        have z4 : S4.size = S3.size + 1 := by rw [hS4, ByteArray.size_append] <;> rfl
        obtain ⟨NS, hNS⟩ : ∃ NS : ByteArray, NS = ⟨(numS t.at_).toArray⟩ := ⟨_, rfl⟩
        have zN : NS.size ≤ 21 := by rw [hNS, bsz'']; exact hnl20
        rw [← hNS] at HNT
        obtain ⟨S5, hS5⟩ : ∃ S5 : ByteArray, S5 = S4 ++ NS := ⟨_, rfl⟩
        have z5 : S5.size = S4.size + NS.size := by rw [hS5, ByteArray.size_append]
        obtain ⟨S6, hS6⟩ : ∃ S6 : ByteArray, S6 = S5 ++ (⟨#[10]⟩ : ByteArray) := ⟨_, rfl⟩
        have z6 : S6.size = S5.size + 1 := by rw [hS6, ByteArray.size_append] <;> rfl
        have hcat4 := rle_run hS4 (by show S3.size + 1 ≤ _; omega)
        have hcat5 := rle_run hS5 (by omega)
        have hcat6 := rle_run hS6 (by show S5.size + 1 ≤ _; omega)
        have hz6 : S6.size ≤ 4000000 := by omega
        have HH6 : Hid (bs S6 = headS t.kind t.fm t.at_ d) := by
          show _ = _
          unfold headS
          rw [if_pos (by omega), ← HX.out, hS6, bs_app, hS5, bs_app, hS4, bs_app, HS3.out, hNS]
          simp [bs]
        clear hS4 z4 hNS zN hS5 z5 hS6 z6
        clear hk4 hk5
        go_enter Tryd.func39, Tryd.ntmps39
        go_wp2_with fail
        rw [← HW1.out]
        go_wp2_with fail
        refine (HWD.out _).mono ?_
        rintro e w2 ⟨rfl, hw⟩
        rw [← hw]
        clear hw
        go_wp2_with fail
        refine (HFSH.out).mono ?_
        rintro e w3 ⟨rfl, hb3⟩
        have hbx := HBX.out.below hb3 hs1
        clear kc0 kc1 kc2 kc3 kc4 kc5 kc6 kc7 kc8 kc9 kc10 kc11
        have kc0 := hbx.cell (j := 0) rfl
        have kc1 := hbx.cell (j := 1) rfl
        have kc2 := hbx.cell (j := 2) rfl
        have kc3 := hbx.cell (j := 3) rfl
        have kc4 := hbx.cell (j := 4) rfl
        have kc5 := hbx.cell (j := 5) rfl
        have kc6 := hbx.cell (j := 6) rfl
        have kc7 := hbx.cell (j := 7) rfl
        have kc8 := hbx.cell (j := 8) rfl
        have kc9 := hbx.cell (j := 9) rfl
        have kc10 := hbx.cell (j := 10) rfl
        have kc11 := hbx.cell (j := 11) rfl
        rw [← HN.out] at kc11
        have HB3 := Lib.hid hb3
        have hsw3 : w.heap.size < w3.heap.size := by have := hb3.size; omega
        clear hb3 hbx
        go_wp2_with fail
        refine (HNT.out _).mono ?_
        rintro e w4 ⟨rfl, hb4⟩
        have hb14 := keep_step HB3.out hb4
        have hbx := HBX.out.below hb14 hs1
        clear kc0 kc1 kc2 kc3 kc4 kc5 kc6 kc7 kc8 kc9 kc10 kc11
        have kc0 := hbx.cell (j := 0) rfl
        have kc1 := hbx.cell (j := 1) rfl
        have kc2 := hbx.cell (j := 2) rfl
        have kc3 := hbx.cell (j := 3) rfl
        have kc4 := hbx.cell (j := 4) rfl
        have kc5 := hbx.cell (j := 5) rfl
        have kc6 := hbx.cell (j := 6) rfl
        have kc7 := hbx.cell (j := 7) rfl
        have kc8 := hbx.cell (j := 8) rfl
        have kc9 := hbx.cell (j := 9) rfl
        have kc10 := hbx.cell (j := 10) rfl
        have kc11 := hbx.cell (j := 11) rfl
        rw [← HN.out] at kc11
        have HB4 := Lib.hid hb14
        have hsw4 : w.heap.size < w4.heap.size := by have := hb14.size; omega
        clear hb4 hb14 hbx
        go_wp2_with fail
        refine (hli.out _ HB4.out).mono ?_
        intro e w5 hq
        obtain ⟨AL, cL, rfl, hsl, hb5⟩ := rstrs_of_lines hq
        have hb15 := keep_step HB4.out hb5
        have hbx := HBX.out.below hb15 hs1
        clear kc0 kc1 kc2 kc3 kc4 kc5 kc6 kc7 kc8 kc9 kc10 kc11
        have kc0 := hbx.cell (j := 0) rfl
        have kc1 := hbx.cell (j := 1) rfl
        have kc2 := hbx.cell (j := 2) rfl
        have kc3 := hbx.cell (j := 3) rfl
        have kc4 := hbx.cell (j := 4) rfl
        have kc5 := hbx.cell (j := 5) rfl
        have kc6 := hbx.cell (j := 6) rfl
        have kc7 := hbx.cell (j := 7) rfl
        have kc8 := hbx.cell (j := 8) rfl
        have kc9 := hbx.cell (j := 9) rfl
        have kc10 := hbx.cell (j := 10) rfl
        have kc11 := hbx.cell (j := 11) rfl
        rw [← HN.out] at kc11
        have HB5 := Lib.hid hb15
        have HSL := Lib.hid hsl
        have hsw5 : w.heap.size < w5.heap.size := by have := hb15.size; omega
        clear hq hsl hb5 hb15 hbx
        obtain ⟨LX, hLX⟩ : ∃ LX, LX = linesT vs t.path t.loop := ⟨_, rfl⟩
        rw [← hLX] at HSL HRE2 HE4 ⊢
        obtain ⟨m, hm⟩ : ∃ m, m = LX.1.length := ⟨_, rfl⟩
        have HM := Lib.hid hm
        rw [← hm]
        have hml : m ≤ 900000 := by
          rw [hm, hLX]
          unfold linesT
          split
          · rw [linesL_len]; exact hpl
          · simp
        clear hLX hm
        by_cases hle : LX.2 = 0
        · have hleb : (LX.2 != 0) = false := by simpa using hle
          have HE5 : Hid (E = errL vs t.kids) := by show _ = _; rw [HE4.out, if_neg (fun h => h hle)]
          have hhl : (headS t.kind t.fm t.at_ d ++ linesS d LX.1).length ≤ 1000000000 := by
            have h1 := HRE2.out
            have h2 := HRL.out
            rw [h1] at h2
            simp only [List.length_append] at h2 ⊢
            omega
          have HHL := Lib.hid hhl
          clear hle hhl
          go_wp2_with fail
          go_loopw [11, 14] (fun sv si wr => ∃ (k : Nat) (S : ByteArray), k ≤ m ∧ sv = .string S ∧ si = .int .i64 k ∧ bs S ++ linesS d (LX.1.drop k) = headS t.kind t.fm t.at_ d ++ linesS d LX.1 ∧ w5 = wr) (fun _ i _ => m - (intOf i).toNat)
          case atStart => exact ⟨0, S6, Nat.zero_le _, rfl, rfl, by rw [HH6.out, List.drop_zero], by first | rfl | trivial⟩
          case round =>
            obtain ⟨k, S, hk, rfl, rfl, hS, hwr⟩ := hrel
            subst hwr
            have HS := Lib.hid hS
            clear hS
            by_cases hlt : k < m
            · obtain ⟨l, hl⟩ : ∃ l, LX.1[k]? = some l := ⟨_, List.getElem?_eq_getElem (by have := HM.out; omega)⟩
              rcases HSL.out with h9 | ⟨bL, oL, rfl, hbL, hcL⟩
              · have h := congrArg List.length h9
                rw [List.length_map] at h
                have := HM.out
                simp at h
                rw [h] at this
                simp at this
                omega
              have y0 := hcL k (by rw [List.length_map]; have := HM.out; omega)
              rw [show (LX.1.map fun l => (⟨l.toArray⟩ : ByteArray)).getD k ByteArray.empty = ⟨l.toArray⟩ by simp [List.getD, hl]] at y0
              have hdr : linesS d (LX.1.drop k) = blanksS d ++ l ++ [10] ++ linesS d (LX.1.drop (k + 1)) := by
                obtain ⟨hj, hj2⟩ := List.getElem?_eq_some_iff.1 hl
                rw [List.drop_eq_getElem_cons hj, hj2, linesS]
              obtain ⟨LS, hLS⟩ : ∃ LS : ByteArray, LS = ⟨l.toArray⟩ := ⟨_, rfl⟩
              rw [← hLS] at y0
              obtain ⟨R1, hR1⟩ : ∃ R1 : ByteArray, R1 = S ++ B := ⟨_, rfl⟩
              obtain ⟨R2, hR2⟩ : ∃ R2 : ByteArray, R2 = R1 ++ LS := ⟨_, rfl⟩
              obtain ⟨R3, hR3⟩ : ∃ R3 : ByteArray, R3 = R2 ++ (⟨#[10]⟩ : ByteArray) := ⟨_, rfl⟩
              have y1 : R1.size = S.size + B.size := by rw [hR1, ByteArray.size_append]
              have y2 : R2.size = R1.size + LS.size := by rw [hR2, ByteArray.size_append]
              have y3 : R3.size = R2.size + 1 := by rw [hR3, ByteArray.size_append] <;> rfl
              have HS2 : Hid (bs R3 ++ linesS d (LX.1.drop (k + 1)) = headS t.kind t.fm t.at_ d ++ linesS d LX.1) := by
                show _ = _
                rw [← HS.out, hdr, hR3, bs_app, hR2, bs_app, hR1, bs_app, HBB.out, hLS]
                simp [bs]
              have hz3' : R3.size ≤ 1000000000 := by
                rw [bs_len]
                have := pre_le HS2.out
                have := HHL.out
                omega
              have hcr1 := rle_run hR1 (by omega)
              have hcr2 := rle_run hR2 (by omega)
              have hcr3 := rle_run hR3 (by show R2.size + 1 ≤ _; omega)
              have hk0 : (0 : Int) ≤ (k : Int) := by omega
              have hk1 : (k : Int) < (m : Int) := by omega
              clear hl hcL hdr hLS hR1 hR2 hR3 y1 y2 y3 hz3'
              go_wp2_with fail
              go_roundw
              case rel => exact ⟨k + 1, R3, by omega, rfl, by go_num, HS2.out, trivial⟩
              case measure => simp [intOf]; omega
            · have hkm : k = m := by omega
              have HS7 : Hid (bs S = headS t.kind t.fm t.at_ d ++ linesS d LX.1) := by
                have h := HS.out
                rw [List.drop_eq_nil_of_le (by have := HM.out; omega)] at h
                show _ = _
                simpa [linesS] using h
              have hk1 : ¬ (k : Int) < (m : Int) := by omega
              clear hlt hkm
              go_wp2_with fail
              go_loopw [11, 15, 16, 17] (fun sv si _ _ wr => ∃ (k : Nat) (S : ByteArray), k ≤ n ∧ sv = .string S ∧ si = .int .i64 k ∧ bs S ++ rawL vs (t.kids.drop k) (d + 1) = RAW ∧ errL vs (t.kids.drop k) = E ∧ Below w1.heap.size w1 wr) (fun _ i _ _ _ => n - (intOf i).toNat)
              case atStart => exact ⟨0, S, Nat.zero_le _, rfl, rfl, by rw [HS7.out, List.drop_zero]; exact HRE2.out.symm, by rw [List.drop_zero]; exact HE5.out.symm, HB5.out⟩
              case round =>
                obtain ⟨k, S, hk, rfl, rfl, hS, hE, hbel⟩ := hrel
                have HBL := Lib.hid hbel
                have HS := Lib.hid hS
                have HE := Lib.hid hE
                have hszr := hbel.size
                have hbx := HBX.out.below hbel hs1
                have kc11 := hbx.cell (j := 11) rfl
                rw [← HN.out] at kc11
                have hwwr : w.heap.size < wr.heap.size := by omega
                have HBT := Lib.hid (HB1.out.trans (hbel.mono (by omega)))
                clear hbx hS hE
                by_cases hlt : k < n
                · obtain ⟨kd, hkd⟩ : ∃ kd, t.kids[k]? = some kd := ⟨_, List.getElem?_eq_getElem (by have := HN.out; omega)⟩
                  have hmem : kd ∈ t.kids := List.mem_of_getElem? hkd
                  rcases HV1.out.kids with h9 | ⟨g, off, hpk, hg, hrow⟩
                  · rw [h9] at hkd; simp at hkd
                  have hat := (hrow.get hkd).below hbel rfl hg
                  obtain ⟨p2, hcs, hV2⟩ := hat.open
                  have hgw : g < wr.heap.size := by omega
                  have hdr : t.kids.drop k = kd :: t.kids.drop (k + 1) := by
                    obtain ⟨hj, hj2⟩ := List.getElem?_eq_some_iff.1 hkd
                    rw [List.drop_eq_getElem_cons hj, hj2]
                  have hraw : rawL vs (t.kids.drop k) (d + 1) = rawT vs kd (d + 1) ++ rawL vs (t.kids.drop (k + 1)) (d + 1) := by rw [hdr, rawL]
                  have herr : errL vs (t.kids.drop k) = if errT vs kd ≠ 0 then errT vs kd else errL vs (t.kids.drop (k + 1)) := by rw [hdr, errL]
                  have hkl : (rawT vs kd (d + 1)).length ≤ 1000000000 := by
                    have h1 := HS.out
                    rw [hraw] at h1
                    have h2 := HRL.out
                    rw [← h1] at h2
                    simp only [List.length_append] at h2
                    omega
                  have hih := HIH.out kd (d + 1) p2 wr (HSZ.out kd hmem).1 (HSZ.out kd hmem).2.1 (HSZ.out kd hmem).2.2 hV2 (HVS.out.below hbel rfl) hkl
                  unfold Tr.val at hih
                  rw [← HSB.out] at hih
                  obtain ⟨eK, heK⟩ : ∃ eK, eK = errT vs kd := ⟨_, rfl⟩
                  obtain ⟨rK, hrK⟩ : ∃ rK, rK = rawT vs kd (d + 1) := ⟨_, rfl⟩
                  rw [← heK, ← hrK] at hih
                  rw [← hrK] at hraw
                  rw [← heK] at herr
                  have HC := Lib.hid hih
                  have HRAW := Lib.hid hraw
                  have HERR := Lib.hid herr
                  have q0 := hcs 0 _ rfl
                  have q1 := hcs 1 _ rfl
                  have q2 := hcs 2 _ rfl
                  have q3 := hcs 3 _ rfl
                  have q4 := hcs 4 _ rfl
                  have q5 := hcs 5 _ rfl
                  have q6 := hcs 6 _ rfl
                  have q7 := hcs 7 _ rfl
                  have q8 := hcs 8 _ rfl
                  have q9 := hcs 9 _ rfl
                  have q10 := hcs 10 _ rfl
                  have q11 := hcs 11 _ rfl
                  have ea : off + 12 * k = off + k * 12 := by omega
                  rw [ea] at q0 q1 q2 q3 q4 q5 q6 q7 q8 q9 q10 q11
                  rw [Nat.add_zero] at q0
                  have hpk' : p.aK = some ⟨g, off, none⟩ := hpk
                  rw [hpk'] at kc11
                  have hk0 : (0 : Int) ≤ (k : Int) := by omega
                  have hk1 : (k : Int) < (n : Int) := by omega
                  have hSz : S.size ≤ 1000000000 := by
                    rw [bs_len]
                    have := pre_le HS.out
                    have := HRL.out
                    omega
                  clear hih hraw herr heK hrK hdr hcs hat hrow hmem hkd ea hbel hpk hpk' hV2 hkl
                  go_wp2_with fail
                  refine (HC.out).mono ?_
                  rintro e w4 ⟨s4, rfl, hs4, hb4⟩
                  have HB5 := Lib.hid (HBL.out.trans (hb4.mono hszr))
                  have HB6 := Lib.hid (HBT.out.trans (hb4.mono (by omega)))
                  have HS4 := Lib.hid hs4
                  clear hb4 hs4 kc11 q0 q1 q2 q3 q4 q5 q6 q7 q8 q9 q10 q11
                  by_cases hz : eK = 0
                  · have hs4' := HS4.out hz
                    have HE2 : Hid (errL vs (t.kids.drop (k + 1)) = E) := by show _ = _; rw [← HE.out, HERR.out, if_neg (fun h => h hz)]
                    obtain ⟨S2, hS2⟩ : ∃ S2 : ByteArray, S2 = S ++ s4 := ⟨_, rfl⟩
                    have HS2 : Hid (bs S2 ++ rawL vs (t.kids.drop (k + 1)) (d + 1) = RAW) := by
                      show _ = _
                      rw [← HS.out, HRAW.out, hS2, bs_app, hs4', List.append_assoc]
                    have hcat := rle_run hS2 (by
                      rw [← ByteArray.size_append, ← hS2, bs_len]
                      have := pre_le HS2.out
                      have := HRL.out
                      omega)
                    clear hS2 hs4'
                    subst hz
                    go_wp2_with fail
                    go_roundw
                    case rel => exact ⟨k + 1, S2, by omega, rfl, by go_num, HS2.out, HE2.out, HB5.out⟩
                    case measure => simp [intOf]; omega
                  · have HE2 : Hid (E = eK) := by show _ = _; rw [← HE.out, HERR.out, if_pos hz]
                    have HZ := Lib.hid hz
                    have hzb : (eK != 0) = true := by simpa using hz
                    clear hz
                    go_wp2_with fail
                    rw [HF.out, HE2.out]
                    exact ⟨⟨#[]⟩, rfl, fun h => absurd h HZ.out, HB6.out⟩
                · have hkn : k = n := by omega
                  have HFS : Hid (bs S = RAW ∧ E = 0) := by
                    have h1 := HS.out
                    have h2 := HE.out
                    rw [List.drop_eq_nil_of_le (by have := HN.out; omega)] at h1 h2
                    exact ⟨by simpa [rawL] using h1, by rw [← h2]; rfl⟩
                  have hk1 : ¬ (k : Int) < (n : Int) := by omega
                  clear hlt hbel hkn
                  go_wp2_with fail
                  rw [HF.out, HFS.out.2]
                  exact ⟨S, rfl, fun _ => HFS.out.1, HBT.out⟩
        · have hleb : (LX.2 != 0) = true := by simpa using hle
          have HE5 : Hid (E = LX.2) := by show _ = _; rw [HE4.out, if_pos hle]
          have HLE := Lib.hid hle
          have HB6 := Lib.hid (HB1.out.trans (HB5.out.mono (by omega)))
          clear hle
          go_wp2_with fail
          rw [HF.out, HE5.out]
          exact ⟨⟨#[]⟩, rfl, fun h => absurd h HLE.out, HB6.out⟩
      have hk4b : (t.kind == 4) = false := by simpa using hk4
      have hk5b : (t.kind == 5) = false := by simpa using hk5
      have HRE2 : Hid (RAW = headS t.kind t.fm t.at_ d ++ rawL vs t.kids (d + 1)) := by show _ = _; rw [HRE.out, if_neg hk5]; simp
      have HE4 : Hid (E = errL vs t.kids) := by show _ = _; rw [HE3.out, if_neg (fun h => hk5 h.1)]
      obtain ⟨S6, hS6⟩ : ∃ S6 : ByteArray, S6 = S3 ++ (⟨#[10]⟩ : ByteArray) := ⟨_, rfl⟩
      have hcat6 := rle_run hS6 (by show S3.size + 1 ≤ _; omega)
      have HH6 : Hid (bs S6 = headS t.kind t.fm t.at_ d) := by
        show _ = _
        unfold headS
        rw [if_neg (by omega), ← HX.out, hS6, bs_app, HS3.out]
        simp [bs]
      clear hS6 hk4 hk5
      go_enter Tryd.func39, Tryd.ntmps39
      go_wp2_with fail
      rw [← HW1.out]
      go_wp2_with fail
      refine (HWD.out _).mono ?_
      rintro e w2 ⟨rfl, hw⟩
      rw [← hw]
      clear hw
      go_wp2_with fail
      refine (HFSH.out).mono ?_
      rintro e w3 ⟨rfl, hb3⟩
      have hbx := HBX.out.below hb3 hs1
      clear kc0 kc1 kc2 kc3 kc4 kc5 kc6 kc7 kc8 kc9 kc10 kc11
      have kc0 := hbx.cell (j := 0) rfl
      have kc1 := hbx.cell (j := 1) rfl
      have kc2 := hbx.cell (j := 2) rfl
      have kc3 := hbx.cell (j := 3) rfl
      have kc4 := hbx.cell (j := 4) rfl
      have kc5 := hbx.cell (j := 5) rfl
      have kc6 := hbx.cell (j := 6) rfl
      have kc7 := hbx.cell (j := 7) rfl
      have kc8 := hbx.cell (j := 8) rfl
      have kc9 := hbx.cell (j := 9) rfl
      have kc10 := hbx.cell (j := 10) rfl
      have kc11 := hbx.cell (j := 11) rfl
      rw [← HN.out] at kc11
      have HB3 := Lib.hid hb3
      have hsw3 : w.heap.size < w3.heap.size := by have := hb3.size; omega
      clear hb3 hbx
      go_wp2_with fail
      go_loopw [11, 15, 16, 17] (fun sv si _ _ wr => ∃ (k : Nat) (S : ByteArray), k ≤ n ∧ sv = .string S ∧ si = .int .i64 k ∧ bs S ++ rawL vs (t.kids.drop k) (d + 1) = RAW ∧ errL vs (t.kids.drop k) = E ∧ Below w1.heap.size w1 wr) (fun _ i _ _ _ => n - (intOf i).toNat)
      case atStart => exact ⟨0, S6, Nat.zero_le _, rfl, rfl, by rw [HH6.out, List.drop_zero]; exact HRE2.out.symm, by rw [List.drop_zero]; exact HE4.out.symm, HB3.out⟩
      case round =>
        obtain ⟨k, S, hk, rfl, rfl, hS, hE, hbel⟩ := hrel
        have HBL := Lib.hid hbel
        have HS := Lib.hid hS
        have HE := Lib.hid hE
        have hszr := hbel.size
        have hbx := HBX.out.below hbel hs1
        have kc11 := hbx.cell (j := 11) rfl
        rw [← HN.out] at kc11
        have hwwr : w.heap.size < wr.heap.size := by omega
        have HBT := Lib.hid (HB1.out.trans (hbel.mono (by omega)))
        clear hbx hS hE
        by_cases hlt : k < n
        · obtain ⟨kd, hkd⟩ : ∃ kd, t.kids[k]? = some kd := ⟨_, List.getElem?_eq_getElem (by have := HN.out; omega)⟩
          have hmem : kd ∈ t.kids := List.mem_of_getElem? hkd
          rcases HV1.out.kids with h9 | ⟨g, off, hpk, hg, hrow⟩
          · rw [h9] at hkd; simp at hkd
          have hat := (hrow.get hkd).below hbel rfl hg
          obtain ⟨p2, hcs, hV2⟩ := hat.open
          have hgw : g < wr.heap.size := by omega
          have hdr : t.kids.drop k = kd :: t.kids.drop (k + 1) := by
            obtain ⟨hj, hj2⟩ := List.getElem?_eq_some_iff.1 hkd
            rw [List.drop_eq_getElem_cons hj, hj2]
          have hraw : rawL vs (t.kids.drop k) (d + 1) = rawT vs kd (d + 1) ++ rawL vs (t.kids.drop (k + 1)) (d + 1) := by rw [hdr, rawL]
          have herr : errL vs (t.kids.drop k) = if errT vs kd ≠ 0 then errT vs kd else errL vs (t.kids.drop (k + 1)) := by rw [hdr, errL]
          have hkl : (rawT vs kd (d + 1)).length ≤ 1000000000 := by
            have h1 := HS.out
            rw [hraw] at h1
            have h2 := HRL.out
            rw [← h1] at h2
            simp only [List.length_append] at h2
            omega
          have hih := HIH.out kd (d + 1) p2 wr (HSZ.out kd hmem).1 (HSZ.out kd hmem).2.1 (HSZ.out kd hmem).2.2 hV2 (HVS.out.below hbel rfl) hkl
          unfold Tr.val at hih
          rw [← HSB.out] at hih
          obtain ⟨eK, heK⟩ : ∃ eK, eK = errT vs kd := ⟨_, rfl⟩
          obtain ⟨rK, hrK⟩ : ∃ rK, rK = rawT vs kd (d + 1) := ⟨_, rfl⟩
          rw [← heK, ← hrK] at hih
          rw [← hrK] at hraw
          rw [← heK] at herr
          have HC := Lib.hid hih
          have HRAW := Lib.hid hraw
          have HERR := Lib.hid herr
          have q0 := hcs 0 _ rfl
          have q1 := hcs 1 _ rfl
          have q2 := hcs 2 _ rfl
          have q3 := hcs 3 _ rfl
          have q4 := hcs 4 _ rfl
          have q5 := hcs 5 _ rfl
          have q6 := hcs 6 _ rfl
          have q7 := hcs 7 _ rfl
          have q8 := hcs 8 _ rfl
          have q9 := hcs 9 _ rfl
          have q10 := hcs 10 _ rfl
          have q11 := hcs 11 _ rfl
          have ea : off + 12 * k = off + k * 12 := by omega
          rw [ea] at q0 q1 q2 q3 q4 q5 q6 q7 q8 q9 q10 q11
          rw [Nat.add_zero] at q0
          have hpk' : p.aK = some ⟨g, off, none⟩ := hpk
          rw [hpk'] at kc11
          have hk0 : (0 : Int) ≤ (k : Int) := by omega
          have hk1 : (k : Int) < (n : Int) := by omega
          have hSz : S.size ≤ 1000000000 := by
            rw [bs_len]
            have := pre_le HS.out
            have := HRL.out
            omega
          clear hih hraw herr heK hrK hdr hcs hat hrow hmem hkd ea hbel hpk hpk' hV2 hkl
          go_wp2_with fail
          refine (HC.out).mono ?_
          rintro e w4 ⟨s4, rfl, hs4, hb4⟩
          have HB5 := Lib.hid (HBL.out.trans (hb4.mono hszr))
          have HB6 := Lib.hid (HBT.out.trans (hb4.mono (by omega)))
          have HS4 := Lib.hid hs4
          clear hb4 hs4 kc11 q0 q1 q2 q3 q4 q5 q6 q7 q8 q9 q10 q11
          by_cases hz : eK = 0
          · have hs4' := HS4.out hz
            have HE2 : Hid (errL vs (t.kids.drop (k + 1)) = E) := by show _ = _; rw [← HE.out, HERR.out, if_neg (fun h => h hz)]
            obtain ⟨S2, hS2⟩ : ∃ S2 : ByteArray, S2 = S ++ s4 := ⟨_, rfl⟩
            have HS2 : Hid (bs S2 ++ rawL vs (t.kids.drop (k + 1)) (d + 1) = RAW) := by
              show _ = _
              rw [← HS.out, HRAW.out, hS2, bs_app, hs4', List.append_assoc]
            have hcat := rle_run hS2 (by
              rw [← ByteArray.size_append, ← hS2, bs_len]
              have := pre_le HS2.out
              have := HRL.out
              omega)
            clear hS2 hs4'
            subst hz
            go_wp2_with fail
            go_roundw
            case rel => exact ⟨k + 1, S2, by omega, rfl, by go_num, HS2.out, HE2.out, HB5.out⟩
            case measure => simp [intOf]; omega
          · have HE2 : Hid (E = eK) := by show _ = _; rw [← HE.out, HERR.out, if_pos hz]
            have HZ := Lib.hid hz
            have hzb : (eK != 0) = true := by simpa using hz
            clear hz
            go_wp2_with fail
            rw [HF.out, HE2.out]
            exact ⟨⟨#[]⟩, rfl, fun h => absurd h HZ.out, HB6.out⟩
        · have hkn : k = n := by omega
          have HFS : Hid (bs S = RAW ∧ E = 0) := by
            have h1 := HS.out
            have h2 := HE.out
            rw [List.drop_eq_nil_of_le (by have := HN.out; omega)] at h1 h2
            exact ⟨by simpa [rawL] using h1, by rw [← h2]; rfl⟩
          have hk1 : ¬ (k : Int) < (n : Int) := by omega
          clear hlt hbel hkn
          go_wp2_with fail
          rw [HF.out, HFS.out.2]
          exact ⟨S, rfl, fun _ => HFS.out.1, HBT.out⟩
    · have hxb : (X.2 != 0) = true := by simpa using hx
      have HR : Hid (E = X.2) := by show _ = _; rw [HE2.out, if_pos hx]
      have HXN := Lib.hid hx
      clear hx
      go_enter Tryd.func39, Tryd.ntmps39
      go_wp2_with fail
      rw [← HW1.out]
      go_wp2_with fail
      refine (HWD.out _).mono ?_
      rintro e w2 ⟨rfl, hw⟩
      rw [← hw]
      clear hw
      go_wp2_with fail
      refine (HFSH.out).mono ?_
      rintro e w3 ⟨rfl, hb3⟩
      have HB3 := Lib.hid (HB1.out.trans (hb3.mono (by omega)))
      clear hb3
      go_wp2_with fail
      rw [HF.out, HR.out]
      exact ⟨⟨#[]⟩, rfl, fun h => absurd h HXN.out, HB3.out⟩

set_option maxRecDepth 100000 in
set_option maxHeartbeats 8000000 in
theorem rshowtr_any (vs : List Vr) (t : Tr) (Av : Option Addr) (cv : Nat) (p : TrP) (w : World) (hsm : SmallV vs) (hVs : VrsV w Av cv vs) (hV : TrV w p t) (hws : t.wsize ≤ 900000) (hraw : (rawT vs t 0).length ≤ 1000000000) :
    Calls Tryd.prog 13 #[.slice Av vs.length cv, t.val p] w fun e w' => e = .returned (.tuple #[.string ⟨(showTr vs t).1.toArray⟩, .int .i64 (showTr vs t).2]) ∧ Below w.heap.size w w' := by
  obtain ⟨R, hR⟩ : ∃ R, R = showTr vs t := ⟨_, rfl⟩
  obtain ⟨F, hF⟩ : ∃ F : Ending → World → Prop, F = fun e w' => e = .returned (.tuple #[.string ⟨R.1.toArray⟩, .int .i64 R.2]) ∧ Below w.heap.size w w' := ⟨_, rfl⟩
  rw [← hR, ← hF]
  unfold showTr at hR
  obtain ⟨w1, hw1⟩ : ∃ w1, w1 = w.alloc (.cells #[.int .i64 t.kind, .slice p.aS t.state.length p.cS, .int .i64 t.fm.op, .int .i64 t.fm.tm.op, .int .i64 t.fm.tm.num, .string t.fm.tm.name, .slice p.aE t.fm.tm.kids.length p.cE, .slice p.aF t.fm.kids.length p.cF, .slice p.aP t.path.length p.cP, .int .i64 t.loop, .int .i64 t.at_, .slice p.aK t.kids.length p.cK] 33) := ⟨_, rfl⟩
  have hb1 : Below w.heap.size w w1 := by rw [hw1]; exact (Below.refl _ _).alloc (Nat.le_refl _) _
  have hs1 : w.heap.size < w1.heap.size := by rw [hw1]; simp
  have hcall := rshowtr1_any vs Av cv hsm t.size t 0 p w1 (Nat.le_refl _) hws (by omega) (hV.below hb1 rfl) (hVs.below hb1 rfl) hraw
  obtain ⟨nv, hnv⟩ : ∃ nv, nv = vs.length := ⟨_, rfl⟩
  obtain ⟨RW, hRW⟩ : ∃ RW, RW = rawT vs t 0 := ⟨_, rfl⟩
  obtain ⟨E, hE⟩ : ∃ E, E = errT vs t := ⟨_, rfl⟩
  rw [show (⟨(blanksS 0).toArray⟩ : ByteArray) = ⟨#[]⟩ from rfl] at hcall
  unfold Tr.val at hcall ⊢
  rw [← hRW, ← hE, ← hnv] at hcall
  rw [← hRW, ← hE] at hR
  rw [← hRW] at hraw
  rw [← hnv]
  have HC := Lib.hid hcall
  have HR := Lib.hid hR
  have HF := Lib.hid hF
  have HB1 := Lib.hid hb1
  have HW1 := Lib.hid hw1
  clear hcall hR hF hb1 hw1 hRW hE hV hVs hnv
  go_enter Tryd.func13, Tryd.ntmps13
  go_wp2_with fail
  rw [← HW1.out]
  refine (HC.out).mono ?_
  rintro e w2 ⟨s, rfl, hs, hb2⟩
  have HB2 := Lib.hid (HB1.out.trans (hb2.mono (by omega)))
  have HS := Lib.hid hs
  clear hb2 hs
  by_cases h0 : E = 0
  · have hs0 := HS.out h0
    have hsz : s.size = RW.length := by rw [← hs0]; rfl
    have HSX : Hid ((⟨RW.toArray⟩ : ByteArray) = s) := by show _ = _; rw [← hs0]; rfl
    have HR2 : Hid (R = if 65536 < RW.length then ([], 4) else (RW, 0)) := by show _ = _; rw [HR.out, if_neg (fun h => h h0)]
    have h0b : (E != 0) = false := by simpa using h0
    have HSZ := Lib.hid hsz
    have hsl : s.size ≤ 1000000000 := by omega
    clear h0 hs0 hsz hraw
    by_cases h6 : 65536 < s.size
    · have HR3 : Hid (R = ([], 4)) := by show _ = _; rw [HR2.out, if_pos (by rw [← HSZ.out]; exact h6)]
      have h6' : (65536 : Int) < (s.size : Int) := by omega
      clear h6
      go_wp2_with fail
      rw [HF.out, HR3.out]
      exact ⟨rfl, HB2.out⟩
    · have HR3 : Hid (R = (RW, 0)) := by show _ = _; rw [HR2.out, if_neg (by rw [← HSZ.out]; exact h6)]
      have h6' : ¬ (65536 : Int) < (s.size : Int) := by omega
      clear h6
      go_wp2_with fail
      rw [HF.out, HR3.out, HSX.out]
      exact ⟨rfl, HB2.out⟩
  · have h0b : (E != 0) = true := by simpa using h0
    have HR2 : Hid (R = ([], E)) := by show _ = _; rw [HR.out, if_pos h0]
    clear h0
    go_wp2_with fail
    rw [HF.out, HR2.out]
    exact ⟨rfl, HB2.out⟩
end Go.Proofs.YtcjblbpkjegmiaaDoor
