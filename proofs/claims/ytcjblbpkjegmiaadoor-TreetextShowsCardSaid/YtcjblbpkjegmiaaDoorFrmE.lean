/- Walks: ftext.strong, ahead, between. -/
import Derived.Test.YtcjblbpkjegmiaaDoorFrmD
import Derived.Test.YtcjblbpkjegmiaaDoorTrmH
namespace Go.Proofs.YtcjblbpkjegmiaaDoor
open Go.RowKit
set_option linter.unusedVariables false

set_option maxHeartbeats 2000000 in
theorem strong_any (op : Int) (w : World) :
    Calls Tryd.prog 87 #[.int .i64 op] w fun e w' => e = .returned (.int .i64 (strongF op : Nat)) ∧ w = w' := by
  obtain ⟨r, hr⟩ : ∃ r, r = strongF op := ⟨_, rfl⟩
  rw [← hr]
  have HR := Lib.hid hr
  clear hr
  go_enter Tryd.func87, Tryd.ntmps87
  go_wp2
  all_goals
    go_ret
    rw [HR.out]
    refine ⟨?_, rfl⟩
    simp_all [strongF]

/-- The contract of text, for formulas of at most N nodes. -/
def TextC (N : Nat) : Prop := ∀ (f : Fm) (least d : Nat) (Ae : Option Addr) (ce : Nat) (A : Option Addr) (c : Nat) (w : World), f.size ≤ N → f.okT d → f.wsize ≤ 9000000 → f.size ≤ 5000 → least ≤ 10 → FmV w Ae ce A c f → WordsT w →
    Calls Tryd.prog 56 #[f.val Ae ce A c, .int .i64 (least : Nat)] w fun e w' => e = .returned (.tuple #[.string ⟨(frmT f least).1.toArray⟩, .int .i64 (frmT f least).2]) ∧ Below w.heap.size w w'

/-- A kid of a formula, in memory. -/
theorem FmV.kid {w : World} {Ae A : Option Addr} {ce c : Nat} {f k : Fm} {j : Nat} (h : FmV w Ae ce A c f) (hk : f.kids[j]? = some k) : ∃ g o, A = some ⟨g, o, none⟩ ∧ g < w.heap.size ∧ ∃ Ae2 ce2 A2 c2, w.cell? ⟨g, o + 6 * j, none⟩ = some (.int .i64 k.op) ∧ w.cell? ⟨g, o + 6 * j + 1, none⟩ = some (.int .i64 k.tm.op) ∧ w.cell? ⟨g, o + 6 * j + 2, none⟩ = some (.int .i64 k.tm.num) ∧ w.cell? ⟨g, o + 6 * j + 3, none⟩ = some (.string k.tm.name) ∧
    w.cell? ⟨g, o + 6 * j + 4, none⟩ = some (.slice Ae2 k.tm.kids.length ce2) ∧ w.cell? ⟨g, o + 6 * j + 5, none⟩ = some (.slice A2 k.kids.length c2) ∧ FmV w Ae2 ce2 A2 c2 k := by
  rcases h.kids with h0 | ⟨g, o, hA, hg, hrow⟩
  · rw [h0] at hk; simp at hk
  · obtain ⟨q0, q1, q2, q3, Ae2, ce2, A2, c2, q4, q5, hv⟩ := (hrow.get hk).open
    exact ⟨g, o, hA, hg, Ae2, ce2, A2, c2, q0, q1, q2, q3, q4, q5, hv⟩
def aheadF (word : Bs) (a : Fm) : Bs × Int := (word ++ (frmT a 4).1, (frmT a 4).2)
def betwF (sign : Bs) (l r : Nat) (a b : Fm) : Bs × Int := if (frmT a l).2 ≠ 0 then ([], (frmT a l).2) else ((frmT a l).1 ++ sign ++ (frmT b r).1, (frmT b r).2)
theorem bsz' (l : Bs) : (⟨l.toArray⟩ : ByteArray).size = l.length := by simp [ByteArray.size]

set_option maxRecDepth 100000 in
set_option maxHeartbeats 4000000 in
theorem ahead_any (N : Nat) (H : TextC N) (f a : Fm) (d : Nat) (word : ByteArray) (Ae : Option Addr) (ce : Nat) (A : Option Addr) (c : Nat) (w : World) (hka : f.kids = [a]) (ha : a.size ≤ N) (hok : a.okT d) (hws : a.wsize ≤ 9000000) (hsz : a.size ≤ 5000) (hwd : word.size ≤ 10) (hV : FmV w Ae ce A c f) (hT : WordsT w) :
    Calls Tryd.prog 109 #[f.val Ae ce A c, .string word] w fun e w' => e = .returned (.tuple #[.string ⟨(aheadF word.data.toList a).1.toArray⟩, .int .i64 (aheadF word.data.toList a).2]) ∧ Below w.heap.size w w' := by
  have hk0 : f.kids[0]? = some a := by rw [hka]; rfl
  have hkn : f.kids.length = 1 := by rw [hka]; rfl
  obtain ⟨ne, hne⟩ : ∃ ne, ne = f.tm.kids.length := ⟨_, rfl⟩
  obtain ⟨wb, hwb⟩ : ∃ wb, wb = w.alloc (.cells #[.int .i64 f.op, .int .i64 f.tm.op, .int .i64 f.tm.num, .string f.tm.name, .slice Ae ne ce, .slice A 1 c] 29) := ⟨_, rfl⟩
  have hb1 : Below w.heap.size w wb := by rw [hwb]; exact (Below.refl _ _).alloc (Nat.le_refl _) _
  obtain ⟨g, o, rfl, hg, Ae2, ce2, A2, c2, q0, q1, q2, q3, q4, q5, hV2⟩ := hV.kid hk0
  rw [Nat.mul_zero, Nat.add_zero] at q0 q1 q2 q3 q4 q5
  obtain ⟨n2, hn2⟩ : ∃ n2, n2 = a.kids.length := ⟨_, rfl⟩
  obtain ⟨ne2, hne2⟩ : ∃ ne2, ne2 = a.tm.kids.length := ⟨_, rfl⟩
  have hcall := H a 4 d Ae2 ce2 A2 c2 wb ha hok hws hsz (by omega) (hV2.below hb1 rfl) (hT.below hb1)
  unfold Fm.val at hcall ⊢
  rw [hkn, ← hne]
  rw [← hn2] at hcall q5
  rw [← hne2] at hcall q4
  have hlen := frmT_len a 4
  obtain ⟨R, hR⟩ : ∃ R, R = frmT a 4 := ⟨_, rfl⟩
  rw [← hR] at hcall hlen
  rw [hwb] at hcall
  have HC := Lib.hid hcall
  have HB1 := Lib.hid hb1
  have HR := Lib.hid hR
  obtain ⟨S, hS⟩ : ∃ S : ByteArray, S = word ++ ⟨R.1.toArray⟩ := ⟨_, rfl⟩
  have hcat : ∀ W, (Op.stringOp .add word ⟨R.1.toArray⟩).run Tryd.prog W = .ok (.string S) W := fun W => by rw [hS]; exact run_string_add_sum W _ _ (by show word.size + (⟨R.1.toArray⟩ : ByteArray).size ≤ _; rw [bsz' R.1]; omega)
  have HRES : Hid (aheadF word.data.toList a = (S.data.toList, R.2)) := by
    show _ = _
    unfold aheadF
    rw [← hR, hS]
    simp [ByteArray.data_append]
  have hcc := hV.cap
  rw [hkn] at hcc
  have HWB := Lib.hid hwb
  clear hwb hb1 hcall hR hS hV hV2 hT hk0 hkn hn2 hne2 hne hka H hlen
  go_enter Tryd.func109, Tryd.ntmps109
  go_wp2_with fail
  refine (HC.out).mono ?_
  rintro e w1 ⟨rfl, hb2⟩
  rw [← HWB.out] at hb2
  have HB2 := Lib.hid (HB1.out.trans (hb2.mono HB1.out.size))
  clear hb2
  go_wp2_with fail
  go_ret2
  rw [HRES.out]
  exact ⟨rfl, HB2.out⟩

set_option maxRecDepth 100000 in
set_option maxHeartbeats 4000000 in
theorem between_any (N : Nat) (H : TextC N) (f a b : Fm) (d : Nat) (sign : ByteArray) (l r : Nat) (Ae : Option Addr) (ce : Nat) (A : Option Addr) (c : Nat) (w : World) (hka : f.kids = [a, b]) (ha : a.size ≤ N) (hb : b.size ≤ N) (hoka : a.okT d) (hokb : b.okT d) (hwa : a.wsize ≤ 9000000) (hwb' : b.wsize ≤ 9000000) (hsa : a.size ≤ 5000) (hsb : b.size ≤ 5000) (hsg : sign.size ≤ 10) (hl : l ≤ 10) (hr : r ≤ 10) (hV : FmV w Ae ce A c f) (hT : WordsT w) :
    Calls Tryd.prog 108 #[f.val Ae ce A c, .string sign, .int .i64 (l : Nat), .int .i64 (r : Nat)] w fun e w' => e = .returned (.tuple #[.string ⟨(betwF sign.data.toList l r a b).1.toArray⟩, .int .i64 (betwF sign.data.toList l r a b).2]) ∧ Below w.heap.size w w' := by
  have hk0 : f.kids[0]? = some a := by rw [hka]; rfl
  have hk1 : f.kids[1]? = some b := by rw [hka]; rfl
  have hkn : f.kids.length = 2 := by rw [hka]; rfl
  obtain ⟨ne, hne⟩ : ∃ ne, ne = f.tm.kids.length := ⟨_, rfl⟩
  obtain ⟨wb, hwb⟩ : ∃ wb, wb = w.alloc (.cells #[.int .i64 f.op, .int .i64 f.tm.op, .int .i64 f.tm.num, .string f.tm.name, .slice Ae ne ce, .slice A 2 c] 29) := ⟨_, rfl⟩
  have hb1 : Below w.heap.size w wb := by rw [hwb]; exact (Below.refl _ _).alloc (Nat.le_refl _) _
  have hx : FBox wb w.heap.size Ae ne ce A 2 c f := by rw [hwb]; exact heap_alloc_new w _
  obtain ⟨g, o, rfl, hg, Ae2, ce2, A2, c2, q0, q1, q2, q3, q4, q5, hV2⟩ := hV.kid hk0
  obtain ⟨g', o', hgo, hg', Ae3, ce3, A3, c3, p0, p1, p2, p3, p4, p5, hV3⟩ := hV.kid hk1
  injection hgo with hgo
  injection hgo with hg1 ho1 _
  subst hg1 ho1
  rw [Nat.mul_zero, Nat.add_zero] at q0 q1 q2 q3 q4 q5
  rw [Nat.mul_one] at p0 p1 p2 p3 p4 p5
  obtain ⟨n2, hn2⟩ : ∃ n2, n2 = a.kids.length := ⟨_, rfl⟩
  obtain ⟨ne2, hne2⟩ : ∃ ne2, ne2 = a.tm.kids.length := ⟨_, rfl⟩
  obtain ⟨n3, hn3⟩ : ∃ n3, n3 = b.kids.length := ⟨_, rfl⟩
  obtain ⟨ne3, hne3⟩ : ∃ ne3, ne3 = b.tm.kids.length := ⟨_, rfl⟩
  have hcall := H a l d Ae2 ce2 A2 c2 wb ha hoka hwa hsa hl (hV2.below hb1 rfl) (hT.below hb1)
  have HC2 : Hid (∀ w1, Below w.heap.size w w1 → Calls Tryd.prog 56 #[b.val Ae3 ce3 A3 c3, .int .i64 (r : Nat)] w1 fun e w' => e = .returned (.tuple #[.string ⟨(frmT b r).1.toArray⟩, .int .i64 (frmT b r).2]) ∧ Below w1.heap.size w1 w') := fun w1 hbw => H b r d Ae3 ce3 A3 c3 w1 hb hokb hwb' hsb hr (hV3.below hbw rfl) (hT.below hbw)
  unfold Fm.val at hcall HC2 ⊢
  rw [hkn, ← hne]
  rw [← hn2] at hcall q5
  rw [← hne2] at hcall q4
  rw [← hn3] at HC2 p5
  rw [← hne3] at HC2 p4
  have hlen := frmT_len a l
  have hlen2 := frmT_len b r
  obtain ⟨R, hR⟩ : ∃ R, R = frmT a l := ⟨_, rfl⟩
  obtain ⟨R2, hR2⟩ : ∃ R2, R2 = frmT b r := ⟨_, rfl⟩
  rw [← hR] at hcall hlen
  rw [← hR2] at HC2 hlen2
  rw [hwb] at hcall
  have HC := Lib.hid hcall
  have HB1 := Lib.hid hb1
  obtain ⟨S, hS⟩ : ∃ S : ByteArray, S = (⟨R.1.toArray⟩ : ByteArray) ++ sign := ⟨_, rfl⟩
  obtain ⟨S2, hS2⟩ : ∃ S2 : ByteArray, S2 = S ++ ⟨R2.1.toArray⟩ := ⟨_, rfl⟩
  have hSz : S.size = R.1.length + sign.size := by rw [hS, ByteArray.size_append, bsz' R.1]
  have hcat : ∀ W, (Op.stringOp .add (⟨R.1.toArray⟩ : ByteArray) sign).run Tryd.prog W = .ok (.string S) W := fun W => by rw [hS]; exact run_string_add_sum W _ _ (by show (⟨R.1.toArray⟩ : ByteArray).size + sign.size ≤ _; rw [bsz' R.1]; omega)
  have hcat2 : ∀ W, (Op.stringOp .add S (⟨R2.1.toArray⟩ : ByteArray)).run Tryd.prog W = .ok (.string S2) W := fun W => by rw [hS2]; exact run_string_add_sum W _ _ (by show S.size + (⟨R2.1.toArray⟩ : ByteArray).size ≤ _; rw [bsz' R2.1, hSz]; omega)
  have HRES : Hid (betwF sign.data.toList l r a b = if R.2 ≠ 0 then ([], R.2) else (S2.data.toList, R2.2)) := by
    show _ = _
    unfold betwF
    rw [← hR, ← hR2, hS2, hS]
    simp [ByteArray.data_append]
  obtain ⟨X, hX⟩ : ∃ X, X = betwF sign.data.toList l r a b := ⟨_, rfl⟩
  rw [← hX] at HRES ⊢
  have hcc := hV.cap
  rw [hkn] at hcc
  have HWB := Lib.hid hwb
  have HX := Lib.hid hx
  have hlt : w.heap.size < wb.heap.size := by rw [hwb]; simp
  clear hwb hb1 hcall hR hR2 hS hS2 hSz hV hV2 hV3 hT hk0 hk1 hkn hn2 hne2 hn3 hne3 hne hka H hlen hlen2 hx hX hg'
  go_enter Tryd.func108, Tryd.ntmps108
  go_wp2_with fail
  refine (HC.out).mono ?_
  rintro e w1 ⟨rfl, hb2⟩
  rw [← HWB.out] at hb2
  have hx1 := HX.out.below hb2 HX.out.lt
  have hbw := HB1.out.trans (hb2.mono HB1.out.size)
  have hc2 := HC2.out w1 hbw
  have HB2 := Lib.hid hbw
  have HCC := Lib.hid hc2
  have x5 := hx1.c5
  have hs1 := hb2.size
  rw [← hbw.cell (p := ⟨g, _, none⟩) hg] at p0 p1 p2 p3 p4 p5
  clear hb2 hx1 hbw hc2 q0 q1 q2 q3 q4 q5
  by_cases h0 : R.2 = 0
  · have HRE : Hid (X = (S2.data.toList, R2.2)) := by show _ = _; rw [HRES.out, if_neg (fun h => h h0)]
    have h0' : (R.2 != 0) = false := by simpa using h0
    clear h0
    go_wp2_with fail
    refine (HCC.out).mono ?_
    rintro e w2 ⟨rfl, hb3⟩
    have HB3 := Lib.hid (HB2.out.trans (hb3.mono HB2.out.size))
    clear hb3 p0 p1 p2 p3 p4 p5
    go_wp2_with fail
    go_ret2
    rw [HRE.out]
    exact ⟨rfl, HB3.out⟩
  · have HRE : Hid (X = ([], R.2)) := by show _ = _; rw [HRES.out, if_pos h0]
    have h0' : (R.2 != 0) = true := by simpa using h0
    clear h0
    go_wp2_with fail
    go_ret2
    rw [HRE.out]
    exact ⟨rfl, HB2.out⟩
end Go.Proofs.YtcjblbpkjegmiaaDoor
