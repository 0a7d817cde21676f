/- Walks of the reference: Shift, Half. -/
import Derived.Test.YtncdacafdfknnaaDoorCntO
namespace Go.Proofs.YtncdacafdfknnaaDoor
open Go.RowKit
set_option linter.unusedVariables false

/-- The canonical number x lies at A. -/
structure NumAt (w : World) (A : Option Addr) (m c : Nat) (x : Nat) : Prop where
  len : m = (digs 10 x).length
  nil : A = none → c = 0
  cap : m ≤ c
  capm : c ≤ maxLen
  dat : DAt w A .i64 (digs 10 x)
theorem NumAt.below {w w' : World} {A : Option Addr} {m c x : Nat} (h : NumAt w A m c x) {B : Nat} (hb : Below B w w') (hB : B = w.heap.size) : NumAt w' A m c x := ⟨h.len, h.nil, h.cap, h.capm, h.dat.belowB hb hB⟩
theorem num_of_own {w : World} {base : Nat} {v : Value} {x : Nat} (h : w.ownsRow base 3 1 v (digs 10 x).length (iv (digs 10 x))) : ∃ A m c, v = .slice A m c ∧ NumAt w A m c x := by
  obtain ⟨A, c, hv, h1, h2, h3, h4⟩ := dat_of_own h
  exact ⟨A, _, c, hv, rfl, h1, h2, h3, h4⟩
theorem dig10 (x : Nat) : Dig 10 (digs 10 x) := dig_digs (by decide) x
theorem val10 (x : Nat) : val 10 (digs 10 x) = x := val_digs (by decide) x

/-- Times, in numbers. -/
theorem rtimes_num (A1 : Option Addr) (m c : Nat) (x t : Nat) (w : World) (h : NumAt w A1 m c x) (hm : m ≤ 100000) (ht : t ≤ 65536) :
    Calls Tryd.prog 33 #[.slice A1 m c, .int .i64 (t : Nat)] w fun e w' => ∃ A m' c', e = .returned (.slice A m' c') ∧ NumAt w' A m' c' (x * t) ∧ Below w.heap.size w w' := by
  have h1 := rtimes_any A1 c (digs 10 x) t w (by rw [← h.len]; exact hm) ht h.dat (dig10 x)
  rw [val10, ← h.len] at h1
  refine h1.mono fun e w' ⟨v, he, ho, hb⟩ => ?_
  obtain ⟨A, m', c', hv, hn⟩ := num_of_own ho
  exact ⟨A, m', c', by rw [he, hv], hn, hb⟩
theorem radd_num (A1 A2 : Option Addr) (m1 c1 m2 c2 : Nat) (x y : Nat) (w : World) (h : NumAt w A1 m1 c1 x) (h2 : NumAt w A2 m2 c2 y) (hm : m1 ≤ 100000) (hm2 : m2 ≤ 100000) :
    Calls Tryd.prog 25 #[.slice A1 m1 c1, .slice A2 m2 c2] w fun e w' => ∃ A m' c', e = .returned (.slice A m' c') ∧ NumAt w' A m' c' (x + y) ∧ Below w.heap.size w w' := by
  have h1 := radd_any A1 A2 c1 c2 (digs 10 x) (digs 10 y) w (by rw [← h.len]; exact hm) (by rw [← h2.len]; exact hm2) h.dat h2.dat (dig10 x) (dig10 y)
  rw [val10, val10, ← h.len, ← h2.len] at h1
  refine h1.mono fun e w' ⟨v, he, ho, hb⟩ => ?_
  obtain ⟨A, m', c', hv, hn⟩ := num_of_own ho
  exact ⟨A, m', c', by rw [he, hv], hn, hb⟩
theorem rsub_num (A1 A2 : Option Addr) (m1 c1 m2 c2 : Nat) (x y : Nat) (w : World) (h : NumAt w A1 m1 c1 x) (h2 : NumAt w A2 m2 c2 y) (hm : m1 ≤ 100000) (hm2 : m2 ≤ 100000) (hle : y ≤ x) :
    Calls Tryd.prog 31 #[.slice A1 m1 c1, .slice A2 m2 c2] w fun e w' => ∃ A m' c', e = .returned (.slice A m' c') ∧ NumAt w' A m' c' (x - y) ∧ Below w.heap.size w w' := by
  have h1 := rsub_any A1 A2 c1 c2 (digs 10 x) (digs 10 y) w (by rw [← h.len]; exact hm) (by rw [← h2.len]; exact hm2) h.dat h2.dat (dig10 x) (dig10 y) (by rw [val10, val10]; exact hle)
  rw [val10, val10, ← h.len, ← h2.len] at h1
  refine h1.mono fun e w' ⟨v, he, ho, hb⟩ => ?_
  obtain ⟨A, m', c', hv, hn⟩ := num_of_own ho
  exact ⟨A, m', c', by rw [he, hv], hn, hb⟩
theorem rcmp_num (A1 A2 : Option Addr) (m1 c1 m2 c2 : Nat) (x y : Nat) (w : World) (h : NumAt w A1 m1 c1 x) (h2 : NumAt w A2 m2 c2 y) (hm : m1 ≤ 100000) (hm2 : m2 ≤ 100000) :
    Calls Tryd.prog 18 #[.slice A1 m1 c1, .slice A2 m2 c2] w fun e w' => e = .returned (.int .i64 (cmpI x y)) ∧ w = w' := by
  have h1 := rcmp_any A1 A2 c1 c2 (digs 10 x) (digs 10 y) w (by rw [← h.len]; exact hm) (by rw [← h2.len]; exact hm2) h.dat h2.dat (dig10 x) (dig10 y)
  rw [val10, val10, ← h.len, ← h2.len] at h1
  exact h1
theorem rof_num (n : Nat) (w : World) (hn : n < 18446744073709551616) :
    Calls Tryd.prog 16 #[.int .u64 (n : Nat)] w fun e w' => ∃ A m' c', e = .returned (.slice A m' c') ∧ NumAt w' A m' c' n ∧ Below w.heap.size w w' :=
  (rof_any n w hn).mono fun e w' ⟨v, he, ho, hb⟩ => by
    obtain ⟨A, m', c', hv, hn⟩ := num_of_own ho
    exact ⟨A, m', c', by rw [he, hv], hn, hb⟩
theorem cut_num (A1 : Option Addr) (m c : Nat) (x : Nat) (w : World) (h : NumAt w A1 m c x) (hm : m ≤ 1000000) :
    Calls Tryd.prog 35 #[.slice A1 m c] w fun e w' => ∃ A m' c', e = .returned (.slice A m' c') ∧ NumAt w' A m' c' x ∧ Below w.heap.size w w' := by
  have h1 := cut_any A1 c (digs 10 x) w (by rw [← h.len]; exact hm) (by rw [← h.len]; exact h.cap) h.capm h.nil h.dat (dig10 x)
  rw [val10, ← h.len] at h1
  refine h1.mono fun e w' ⟨v, he, ho, hb⟩ => ?_
  rw [h.len] at ho
  obtain ⟨A, m', c', hv, hn⟩ := num_of_own ho
  exact ⟨A, m', c', by rw [he, hv], hn, hb⟩
theorem len_two {x m i : Nat} (h : x < 10 ^ m) : (digs 10 (x * 2 ^ i)).length ≤ m + i := by
  refine digs_len (by decide) _ _ ?_
  rw [Nat.pow_add]
  refine Nat.lt_of_lt_of_le (Nat.mul_lt_mul_of_pos_right h (Nat.pow_pos (by decide))) (Nat.mul_le_mul_left _ (Nat.pow_le_pow_left (by decide) i))

set_option maxRecDepth 100000 in
set_option maxHeartbeats 4000000 in
theorem rshift_num (A1 : Option Addr) (m c : Nat) (x : Nat) (k : Int) (w : World) (h : NumAt w A1 m c x) (hm : m ≤ 50000) :
    Calls Tryd.prog 24 #[.slice A1 m c, .int .i64 k] w fun e w' => ∃ A m' c', e = .returned (.slice A m' c') ∧ NumAt w' A m' c' (x * 2 ^ clampK k) ∧ Below w.heap.size w w' := by
  have hx : x < 10 ^ m := by rw [h.len]; exact lt_digs_len (by decide) x
  have HX := Lib.hid hx
  have HH := Lib.hid h
  clear hx h
  obtain ⟨kk, hkk⟩ : ∃ kk, kk = clampK k := ⟨_, rfl⟩
  have hkk2 : kk ≤ 4096 := by rw [hkk]; unfold clampK; split <;> (try split) <;> omega
  have hk1 : 4096 < k → kk = 4096 := fun h => by rw [hkk]; unfold clampK; rw [if_neg (by omega), if_pos h]
  have hk2 : ¬ 4096 < k → ∀ i : Nat, ((i : Int) < k ↔ i < kk) := fun h i => by
    rw [hkk]; unfold clampK
    by_cases h0 : k < 0
    · rw [if_pos h0]; omega
    · rw [if_neg h0, if_neg h]; omega
  rw [← hkk]
  clear hkk
  by_cases h4 : 4096 < k
  · have hK := Lib.hid (hk1 h4)
    have hit : Hid (∀ i : Nat, ((i : Int) < 4096 ↔ i < kk)) := fun i => by have := hK.out; omega
    clear hk1 hk2
    go_enter Tryd.func24, Tryd.ntmps24
    go_wp2_with fail
    go_loopw [0, 5] (fun s0 si wr => ∃ (i : Nat) (A : Option Addr) (m' c' : Nat), i ≤ kk ∧ si = .int .i64 i ∧ s0 = .slice A m' c' ∧ NumAt wr A m' c' (x * 2 ^ i) ∧ Below w.heap.size w wr) (fun _ i _ => kk - (intOf i).toNat)
    case atStart => exact ⟨0, A1, m, c, Nat.zero_le _, rfl, rfl, by rw [Nat.pow_zero, Nat.mul_one]; exact HH.out, Below.refl _ _⟩
    case round =>
      obtain ⟨i, A, m', c', hi, rfl, rfl, hn, hbel⟩ := hrel
      have hm' : m' ≤ m + i := by rw [hn.len]; exact len_two HX.out
      have hsz := hbel.size
      have HB := Lib.hid hbel
      by_cases hlt : i < kk
      · have hlt' := (hit.out i).2 hlt
        have HT := Lib.hid (rtimes_num A m' c' _ 2 wr hn (by omega) (by omega))
        clear hn hbel
        go_wp2_with fail
        refine (HT.out).mono ?_
        rintro e w2 ⟨A2, m2, c2, rfl, hn2, hb2⟩
        have HN2 := Lib.hid hn2
        have HB2 := Lib.hid (HB.out.trans (hb2.mono hsz))
        clear hn2 hb2
        go_wp2_with fail
        go_roundw
        case rel => exact ⟨i + 1, A2, m2, c2, by omega, by go_num, rfl, by rw [Nat.pow_succ, ← Nat.mul_assoc]; exact HN2.out, HB2.out⟩
        case measure => first | (simp [intOf]; done) | (simp [intOf]; omega)
      · have hlt' : ¬ (i : Int) < 4096 := fun h => hlt ((hit.out i).1 h)
        have hik : i = kk := by omega
        subst hik
        have HT := Lib.hid (cut_num A m' c' _ wr hn (by omega))
        clear hn hbel
        go_wp2_with fail
        refine (HT.out).mono ?_
        rintro e w2 ⟨A2, m2, c2, rfl, hn2, hb2⟩
        have HN2 := Lib.hid hn2
        have HB2 := Lib.hid (HB.out.trans (hb2.mono hsz))
        clear hn2 hb2
        go_wp2
        go_ret
        exact ⟨_, _, _, rfl, HN2.out, HB2.out⟩
  · have hit := Lib.hid (hk2 h4)
    clear hk1 hk2
    go_enter Tryd.func24, Tryd.ntmps24
    go_wp2_with fail
    go_loopw [0, 5] (fun s0 si wr => ∃ (i : Nat) (A : Option Addr) (m' c' : Nat), i ≤ kk ∧ si = .int .i64 i ∧ s0 = .slice A m' c' ∧ NumAt wr A m' c' (x * 2 ^ i) ∧ Below w.heap.size w wr) (fun _ i _ => kk - (intOf i).toNat)
    case atStart => exact ⟨0, A1, m, c, Nat.zero_le _, rfl, rfl, by rw [Nat.pow_zero, Nat.mul_one]; exact HH.out, Below.refl _ _⟩
    case round =>
      obtain ⟨i, A, m', c', hi, rfl, rfl, hn, hbel⟩ := hrel
      have hm' : m' ≤ m + i := by rw [hn.len]; exact len_two HX.out
      have hsz := hbel.size
      have HB := Lib.hid hbel
      by_cases hlt : i < kk
      · have hlt' := (hit.out i).2 hlt
        have HT := Lib.hid (rtimes_num A m' c' _ 2 wr hn (by omega) (by omega))
        clear hn hbel
        go_wp2_with fail
        refine (HT.out).mono ?_
        rintro e w2 ⟨A2, m2, c2, rfl, hn2, hb2⟩
        have HN2 := Lib.hid hn2
        have HB2 := Lib.hid (HB.out.trans (hb2.mono hsz))
        clear hn2 hb2
        go_wp2_with fail
        go_roundw
        case rel => exact ⟨i + 1, A2, m2, c2, by omega, by go_num, rfl, by rw [Nat.pow_succ, ← Nat.mul_assoc]; exact HN2.out, HB2.out⟩
        case measure => first | (simp [intOf]; done) | (simp [intOf]; omega)
      · have hlt' : ¬ (i : Int) < k := fun h => hlt ((hit.out i).1 h)
        have hik : i = kk := by omega
        subst hik
        have HT := Lib.hid (cut_num A m' c' _ wr hn (by omega))
        clear hn hbel
        go_wp2_with fail
        refine (HT.out).mono ?_
        rintro e w2 ⟨A2, m2, c2, rfl, hn2, hb2⟩
        have HN2 := Lib.hid hn2
        have HB2 := Lib.hid (HB.out.trans (hb2.mono hsz))
        clear hn2 hb2
        go_wp2
        go_ret
        exact ⟨_, _, _, rfl, HN2.out, HB2.out⟩
end Go.Proofs.YtncdacafdfknnaaDoor
