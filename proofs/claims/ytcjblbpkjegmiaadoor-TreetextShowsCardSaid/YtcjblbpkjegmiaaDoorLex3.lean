/- Walks: numbers; the next token. -/
import Derived.Test.YtcjblbpkjegmiaaDoorLex2
namespace Go.Proofs.YtcjblbpkjegmiaaDoor
open Go.RowKit
set_option linter.unusedVariables false

/-- The value of digits. -/
def valOf (l : Bs) : Nat := l.foldl (fun n c => 10 * n + (c.toNat - 48)) 0
theorem valOf_snoc (l : Bs) (c : UInt8) : valOf (l ++ [c]) = 10 * valOf l + (c.toNat - 48) := by simp [valOf, List.foldl_append]
theorem valOf_lt : ∀ (k : Nat) (l : Bs), l.length = k → (∀ c ∈ l, isDigit c = true) → valOf l < 10 ^ k
  | 0, l, h, _ => by rw [List.eq_nil_of_length_eq_zero h]; decide
  | k + 1, l, h, hd => by
    rcases List.eq_nil_or_concat l with rfl | ⟨r, c, rfl⟩
    · simp at h
    · have h1 := valOf_lt k r (by simp at h; omega) (fun x hx => hd x (by simp [hx]))
      have h2 := hd c (by simp)
      simp only [isDigit, Bool.and_eq_true, decide_eq_true_eq] at h2
      rw [List.concat_eq_append, valOf_snoc, Nat.pow_succ]
      omega

/-- A number at the start of l: its value and its length, or an error. -/
def numSpec (l : Bs) : Nat × Nat × Nat :=
  if 1 < rowLen isDigit l ∧ (l[0]?.map (·.toNat) = some 48) then (0, 0, 15)
  else if 3 < rowLen isDigit l then (0, 0, 2)
  else if 255 < valOf (l.take (rowLen isDigit l)) then (0, 0, 2)
  else (valOf (l.take (rowLen isDigit l)), rowLen isDigit l, 0)

theorem rowLen_all {p : UInt8 → Bool} {l : Bs} : ∀ c ∈ l.take (rowLen p l), p c = true := by
  unfold rowLen
  intro c hc
  have e : l.take (l.takeWhile p).length = l.takeWhile p := by
    exact (List.prefix_iff_eq_take.1 (List.takeWhile_prefix p)).symm
  rw [e] at hc
  have := List.all_takeWhile (p := p) (l := l)
  exact List.all_eq_true.1 this c hc

def numVal (l : Bs) : Value := .tuple #[.int .i64 (numSpec l).1, .string ⟨(l.take (numSpec l).2.1).toArray⟩, .int .i64 (numSpec l).2.2]

/-- The loop that reckons the value. -/
theorem number_any (s : ByteArray) (w : World) (hs : s.size ≤ maxLen) :
    Calls Tryd.prog 102 #[.string s] w fun e w' => e = .returned (numVal (bs s)) ∧ w = w' := by
  have hsz := bs_length s
  obtain ⟨n, hn⟩ : ∃ n, n = rowLen isDigit (bs s) := ⟨_, rfl⟩
  have hle : n ≤ s.size := by rw [hn, ← hsz]; exact rowLen_le _ _
  have hall : Hid (∀ c ∈ (bs s).take n, isDigit c = true) := by rw [hn]; exact rowLen_all
  obtain ⟨t, ht⟩ : ∃ t, s.extract 0 n = t := ⟨_, rfl⟩
  have hbt : bs t = (bs s).take n := by rw [← ht, bs_extract]; simp
  have htz : t.size = n := by rw [← bs_length, hbt, List.length_take, hsz]; omega
  have hmin : min n s.size = n := by omega
  have HN := Lib.hid hn
  have HBT := Lib.hid hbt
  have HSZ := Lib.hid hsz
  have hu := hs
  unfold maxLen at hu
  have hspec := Lib.hid (show numSpec (bs s) = if 1 < n ∧ ((bs t)[0]?.map (·.toNat) = some 48) then (0, 0, 15) else if 3 < n then (0, 0, 2) else if 255 < valOf (bs t) then (0, 0, 2) else (valOf (bs t), n, 0) from by
    unfold numSpec
    rw [← hn, hbt]
    by_cases h1 : 1 < n
    · have : ((bs s).take n)[0]? = (bs s)[0]? := by rw [List.getElem?_take, if_pos (by omega)]
      rw [this]
    · simp [h1])
  clear hn hbt hsz
  have fin : ∀ (a : Nat) (l : Nat) (e : Nat), numSpec (bs s) = (a, l, e) → numVal (bs s) = .tuple #[.int .i64 a, .string (s.extract 0 l), .int .i64 e] := by
    intro a l e h
    unfold numVal
    rw [h]
    have : (⟨((bs s).take l).toArray⟩ : ByteArray) = s.extract 0 l := bs_ext (by rw [bs_mk, bs_extract]; simp)
    rw [this]
  have FIN := Lib.hid fin
  clear fin
  by_cases h1 : 1 < n
  · have h0 : 0 < t.size := by omega
    have hc0 := bs_get h0
    by_cases hz : t[0].toNat = 48
    · have hz' : ((t[0].toNat : Int) == 48) = true := by simp; omega
      have HV := FIN.out 0 0 15 (by rw [hspec.out, if_pos]; exact ⟨h1, by rw [hc0]; simp [hz]⟩)
      have HV' := Lib.hid HV
      clear HV hc0 hz
      go_enter Tryd.func102, Tryd.ntmps102
      go_wp2_with fail
      refine (row_digit s _ hs).mono ?_
      rw [← HN.out]
      rintro e w' ⟨rfl, rfl⟩
      go_wp2
      go_ret3
      exact ⟨by rw [HV'.out, show s.extract 0 0 = (⟨#[]⟩ : ByteArray) from bs_ext (by rw [bs_extract]; simp [bs])]; rfl, rfl⟩
    · have hz' : ((t[0].toNat : Int) == 48) = false := by simp; omega
      have hspec2 := Lib.hid (show numSpec (bs s) = if 3 < n then (0, 0, 2) else if 255 < valOf (bs t) then (0, 0, 2) else (valOf (bs t), n, 0) from by
        rw [hspec.out, if_neg]
        rintro ⟨_, h⟩
        rw [hc0] at h
        simp at h
        exact hz h)
      clear hc0 hz
      go_enter Tryd.func102, Tryd.ntmps102
      by_cases h3 : 3 < n
      · have HV := Lib.hid (FIN.out 0 0 2 (by rw [hspec2.out, if_pos h3]))
        have h3' : (3 : Int) < (n : Int) := by omega
        go_wp2_with fail
        refine (row_digit s _ hs).mono ?_
        rw [← HN.out]
        rintro e w' ⟨rfl, rfl⟩
        go_wp2
        go_ret3
        exact ⟨by rw [HV.out, show s.extract 0 0 = (⟨#[]⟩ : ByteArray) from bs_ext (by rw [bs_extract]; simp [bs])]; rfl, rfl⟩
      · have h3' : ¬ (3 : Int) < (n : Int) := by omega
        have hspec3 := Lib.hid (show numSpec (bs s) = if 255 < valOf (bs t) then (0, 0, 2) else (valOf (bs t), n, 0) from by rw [hspec2.out, if_neg h3])
        have hlt4 : n ≤ 3 := by omega
        clear h3
        go_wp2_with fail
        refine (row_digit s _ hs).mono ?_
        rw [← HN.out]
        rintro e w' ⟨rfl, rfl⟩
        go_wp2_with fail
        go_loop [6, 27] (fun sa si => ∃ k : Nat, k ≤ n ∧ si = .int .i64 k ∧ sa = .int .i64 (valOf ((bs t).take k) : Nat)) (fun _ i => n - (intOf i).toNat)
        case atStart => exact ⟨0, Nat.zero_le _, rfl, rfl⟩
        case round =>
          obtain ⟨k, hk, rfl, rfl⟩ := hrel
          have hv := valOf_lt k ((bs t).take k) (by rw [List.length_take, bs_length]; omega) (fun c hc => hall.out c (by rw [← HBT.out]; exact List.mem_of_mem_take hc))
          have hv' : valOf ((bs t).take k) < 1000 := Nat.lt_of_lt_of_le hv (Nat.le_trans (Nat.pow_le_pow_right (by decide) (show k ≤ 3 by omega)) (by decide))
          clear hv
          by_cases hlt : k < n
          · have hkt : k < t.size := by omega
            have hdg := hall.out t[k] (by rw [← HBT.out]; exact List.mem_of_getElem? (bs_get hkt))
            have hts := Lib.hid (take_snoc (bs_get hkt))
            simp only [isDigit, Bool.and_eq_true, decide_eq_true_eq] at hdg
            have hvs := Lib.hid (valOf_snoc ((bs t).take k) t[k])
            obtain ⟨d1, d2⟩ := hdg
            generalize valOf ((bs t).take k) = v at *
            have hk0 : (0 : Int) ≤ (k : Int) := by omega
            have hk1 : (k : Int) < (n : Int) := by omega
            go_wp2
            go_round
            case rel => exact ⟨k + 1, by omega, by go_num, by rw [hts.out, hvs.out]; exact congrArg (Value.int .i64) (by omega)⟩
            case measure => simp [intOf]; omega
          · have hkn : k = n := by omega
            subst hkn
            have htk : (bs t).take k = bs t := List.take_of_length_le (by rw [bs_length]; omega)
            rw [htk] at hv' ⊢
            by_cases h255 : 255 < valOf (bs t)
            · have HV := Lib.hid (FIN.out 0 0 2 (by rw [hspec3.out, if_pos h255]))
              have h255' : (255 : Int) < (valOf (bs t) : Int) := by omega
              clear htk
              go_wp2
              go_ret3
              exact ⟨by rw [HV.out, show s.extract 0 0 = (⟨#[]⟩ : ByteArray) from bs_ext (by rw [bs_extract]; simp [bs])]; rfl, rfl⟩
            · have HV := Lib.hid (FIN.out _ _ _ (by rw [hspec3.out, if_neg h255]))
              have h255' : ¬ (255 : Int) < (valOf (bs t) : Int) := by omega
              clear htk
              go_wp2
              go_ret3
              exact ⟨by rw [HV.out, ht]; rfl, rfl⟩
  · have hspec2 := Lib.hid (show numSpec (bs s) = if 3 < n then (0, 0, 2) else if 255 < valOf (bs t) then (0, 0, 2) else (valOf (bs t), n, 0) from by
      rw [hspec.out, if_neg]
      rintro ⟨h, _⟩
      exact h1 h)
    go_enter Tryd.func102, Tryd.ntmps102
    by_cases h3 : 3 < n
    · exfalso; omega
    · have h3' : ¬ (3 : Int) < (n : Int) := by omega
      have hspec3 := Lib.hid (show numSpec (bs s) = if 255 < valOf (bs t) then (0, 0, 2) else (valOf (bs t), n, 0) from by rw [hspec2.out, if_neg h3])
      have hlt4 : n ≤ 3 := by omega
      clear h3
      go_wp2_with fail
      refine (row_digit s _ hs).mono ?_
      rw [← HN.out]
      rintro e w' ⟨rfl, rfl⟩
      go_wp2_with fail
      go_loop [6, 27] (fun sa si => ∃ k : Nat, k ≤ n ∧ si = .int .i64 k ∧ sa = .int .i64 (valOf ((bs t).take k) : Nat)) (fun _ i => n - (intOf i).toNat)
      case atStart => exact ⟨0, Nat.zero_le _, rfl, rfl⟩
      case round =>
        obtain ⟨k, hk, rfl, rfl⟩ := hrel
        have hv := valOf_lt k ((bs t).take k) (by rw [List.length_take, bs_length]; omega) (fun c hc => hall.out c (by rw [← HBT.out]; exact List.mem_of_mem_take hc))
        have hv' : valOf ((bs t).take k) < 1000 := Nat.lt_of_lt_of_le hv (Nat.le_trans (Nat.pow_le_pow_right (by decide) (show k ≤ 3 by omega)) (by decide))
        clear hv
        by_cases hlt : k < n
        · have hkt : k < t.size := by omega
          have hdg := hall.out t[k] (by rw [← HBT.out]; exact List.mem_of_getElem? (bs_get hkt))
          have hts := Lib.hid (take_snoc (bs_get hkt))
          simp only [isDigit, Bool.and_eq_true, decide_eq_true_eq] at hdg
          have hvs := Lib.hid (valOf_snoc ((bs t).take k) t[k])
          obtain ⟨d1, d2⟩ := hdg
          generalize valOf ((bs t).take k) = v at *
          have hk0 : (0 : Int) ≤ (k : Int) := by omega
          have hk1 : (k : Int) < (n : Int) := by omega
          go_wp2
          go_round
          case rel => exact ⟨k + 1, by omega, by go_num, by rw [hts.out, hvs.out]; exact congrArg (Value.int .i64) (by omega)⟩
          case measure => simp [intOf]; omega
        · have hkn : k = n := by omega
          subst hkn
          have htk : (bs t).take k = bs t := List.take_of_length_le (by rw [bs_length]; omega)
          rw [htk] at hv' ⊢
          by_cases h255 : 255 < valOf (bs t)
          · have HV := Lib.hid (FIN.out 0 0 2 (by rw [hspec3.out, if_pos h255]))
            have h255' : (255 : Int) < (valOf (bs t) : Int) := by omega
            clear htk
            go_wp2
            go_ret3
            exact ⟨by rw [HV.out, show s.extract 0 0 = (⟨#[]⟩ : ByteArray) from bs_ext (by rw [bs_extract]; simp [bs])]; rfl, rfl⟩
          · have HV := Lib.hid (FIN.out _ _ _ (by rw [hspec3.out, if_neg h255]))
            have h255' : ¬ (255 : Int) < (valOf (bs t) : Int) := by omega
            clear htk
            go_wp2
            go_ret3
            exact ⟨by rw [HV.out, ht]; rfl, rfl⟩
end Go.Proofs.YtcjblbpkjegmiaaDoor
