/- Walks of the reference: the value of digits, the tables, lists of strings. -/
import Derived.Test.YtcjblbpkjegmiaaDoorLexC
namespace Go.Proofs.YtcjblbpkjegmiaaDoor
open Go.RowKit
set_option linter.unusedVariables false

def valFrom (n : Nat) (l : Bs) : Nat := l.foldl (fun n c => 10 * n + (c.toNat - 48)) n
def capVal : Nat → Bs → Nat
  | n, [] => n
  | n, c :: r => if n ≤ 255 then capVal (10 * n + (c.toNat - 48)) r else n

theorem valFrom_ge (n : Nat) (l : Bs) : n * 10 ^ l.length ≤ valFrom n l := by
  induction l generalizing n with
  | nil => simp [valFrom]
  | cons c r ih =>
    have h := ih (10 * n + (c.toNat - 48))
    refine Nat.le_trans ?_ h
    rw [List.length_cons, Nat.pow_succ]
    have : n * (10 ^ r.length * 10) = (10 * n) * 10 ^ r.length := by ac_rfl
    rw [this]
    exact Nat.mul_le_mul_right _ (by omega)
theorem valFrom_big {n : Nat} (l : Bs) (h : 255 < n) : 255 < valFrom n l := by
  have h1 := valFrom_ge n l
  have h2 : 1 ≤ 10 ^ l.length := Nat.pow_pos (by omega)
  have h3 : n * 1 ≤ n * 10 ^ l.length := Nat.mul_le_mul_left _ h2
  omega
theorem capVal_eq (n : Nat) (l : Bs) : capVal n l = valFrom n l ∨ (255 < capVal n l ∧ 255 < valFrom n l) := by
  induction l generalizing n with
  | nil => exact .inl rfl
  | cons c r ih =>
    unfold capVal
    split
    · exact ih _
    · exact .inr ⟨by omega, valFrom_big _ (by omega)⟩

/-- The reference's number is the program's number. -/
theorem num_cases {l : Bs} {c : UInt8} {r : Bs} (hl : l = c :: r) (hc : isDigit c = true) :
    numSpec l = if 1 < rowLen isDigit l ∧ c.toNat = 48 then (0, 0, 15) else if 255 < capVal 0 (l.take (rowLen isDigit l)) then (0, 0, 2) else (capVal 0 (l.take (rowLen isDigit l)), rowLen isDigit l, 0) := by
  subst hl
  unfold numSpec
  simp only [List.getElem?_cons_zero, Option.map_some, Option.some.injEq]
  split
  · rfl
  · rename_i hn
    have hv : valOf ((c :: r).take (rowLen isDigit (c :: r))) = valFrom 0 ((c :: r).take (rowLen isDigit (c :: r))) := rfl
    have hcv := capVal_eq 0 ((c :: r).take (rowLen isDigit (c :: r)))
    rw [hv]
    have hle := rowLen_le isDigit (c :: r)
    have hpos : 0 < rowLen isDigit (c :: r) := by rw [rowLen_cons_true hc]; omega
    have hbig : 3 < rowLen isDigit (c :: r) → 255 < valFrom 0 ((c :: r).take (rowLen isDigit (c :: r))) := by
      intro h3
      generalize rowLen isDigit (c :: r) = m at *
      obtain ⟨m, rfl⟩ : ∃ k, m = k + 1 := ⟨m - 1, by omega⟩
      rw [List.take_succ_cons]
      show 255 < valFrom (10 * 0 + (c.toNat - 48)) (r.take m)
      have h1 := valFrom_ge (10 * 0 + (c.toNat - 48)) (r.take m)
      rw [List.length_take] at h1
      simp only [List.length_cons] at hle
      rw [Nat.min_eq_left (by omega)] at h1
      have h48 : 48 < c.toNat := by
        have : 48 ≤ c.toNat := by unfold isDigit at hc; simp at hc; omega
        have : c.toNat ≠ 48 := fun h => hn ⟨by omega, h⟩
        omega
      have h2 : 10 ^ 3 ≤ 10 ^ m := Nat.pow_le_pow_right (by omega) (by omega)
      have h4 : 1 * 10 ^ m ≤ (10 * 0 + (c.toNat - 48)) * 10 ^ m := Nat.mul_le_mul_right _ (by omega)
      omega
    generalize (c :: r).take (rowLen isDigit (c :: r)) = d at *
    by_cases h3 : 3 < rowLen isDigit (c :: r)
    · rw [if_pos h3, if_pos (hcv.elim (fun h => by have := hbig h3; omega) (fun h => h.1))]
    · rw [if_neg h3]
      rcases hcv with h | h
      · rw [h]
      · rw [if_pos h.1, if_pos h.2]



/-- A row of strings lies at A. -/
def StrsAt (w : World) (A : Option Addr) (l : List ByteArray) : Prop := l = [] ∨ ∃ b off, A = some ⟨b, off, none⟩ ∧ b < w.heap.size ∧ ∀ j, j < l.length → w.cell? ⟨b, off + j, none⟩ = some (.string (l.getD j ByteArray.empty))

theorem contains_snoc {zs : List ByteArray} {x : ByteArray} {k : Nat} (hk : k < zs.length) : Lib.containsS (zs.take (k + 1)) x = (Lib.containsS (zs.take k) x || decide (zs.getD k ByteArray.empty = x)) := by
  rw [Bool.eq_iff_iff, Lib.containsS_iff, List.take_succ_eq_append_getElem hk, Bool.or_eq_true, Lib.containsS_iff, List.mem_append, List.mem_singleton, decide_eq_true_eq]
  have : zs.getD k ByteArray.empty = zs[k] := by simp [List.getD, hk]
  rw [this]
  constructor
  · rintro (h | h)
    · exact .inl h
    · exact .inr h.symm
  · rintro (h | h)
    · exact .inl h
    · exact .inr h.symm

set_option maxHeartbeats 1000000 in
theorem ramong_any (b off c : Nat) (zs : List ByteArray) (x : ByteArray) (w : World) (hl : zs.length ≤ 1000000) (hc : ∀ j, j < zs.length → w.cell? ⟨b, off + j, none⟩ = some (.string (zs.getD j ByteArray.empty))) :
    Calls Tryd.prog 44 #[.slice (some ⟨b, off, none⟩) zs.length c, .string x] w fun e w' => e = .returned (.bool (Lib.containsS zs x)) ∧ w = w' := by
  have HC := Lib.hid hc
  clear hc
  obtain ⟨n, hn⟩ : ∃ n, n = zs.length := ⟨_, rfl⟩
  rw [← hn] at hl ⊢
  have HN := Lib.hid hn
  clear hn
  go_enter Tryd.func44, Tryd.ntmps44
  go_wp2
  go_loop [5] (fun i => ∃ k : Nat, k ≤ n ∧ i = .int .i64 k ∧ Lib.containsS (zs.take k) x = false) (fun i => n - (intOf i).toNat)
  case atStart => exact ⟨0, Nat.zero_le _, rfl, rfl⟩
  case round =>
    obtain ⟨k, hk, rfl, hno⟩ := hrel
    have HO := Lib.hid hno
    clear hno
    by_cases hlt : k < n
    · have hk0 : (0 : Int) ≤ (k : Int) := by omega
      have hk1 : (k : Int) < (n : Int) := by omega
      have hck := HC.out k (by rw [← HN.out]; exact hlt)
      have hsn := contains_snoc (x := x) (by rw [← HN.out]; exact hlt)
      rw [HO.out] at hsn
      obtain ⟨y, hy⟩ : ∃ y, y = zs.getD k ByteArray.empty := ⟨_, rfl⟩
      rw [← hy] at hck hsn
      have HS := Lib.hid hsn
      clear hsn
      by_cases hyx : y = x
      · have HM := Lib.hid (show Lib.containsS zs x = true from by rw [Lib.containsS_iff, ← hyx, hy]; simp only [List.getD]; rw [List.getElem?_eq_getElem (by rw [← HN.out]; exact hlt)]; simp)
        subst hyx
        clear hy
        go_wp2
        go_ret
        exact ⟨by rw [HM.out]; rfl, rfl⟩
      · have hyx' := toList_ne hyx
        have HM := Lib.hid (show Lib.containsS (zs.take (k + 1)) x = false from by rw [HS.out]; simp [hyx])
        clear hy hyx
        go_wp2
        go_round
        case rel => exact ⟨k + 1, by omega, by go_num, HM.out⟩
        case measure => simp [intOf]; omega
    · have hk1 : ¬ (k : Int) < (n : Int) := by omega
      have HM := Lib.hid (show Lib.containsS zs x = false from by rw [← HO.out, List.take_of_length_le (by rw [← HN.out]; omega)])
      go_wp2
      go_ret
      exact ⟨by rw [HM.out]; rfl, rfl⟩

theorem rwords_any (w : World) : Calls Tryd.prog 45 #[] w fun e w' => e = .returned (.slice (some ⟨w.heap.size, 0, none⟩) 24 24) ∧ w' = w.alloc (.cells (wordL.map Value.string).toArray 9) := by
  go_enter Tryd.func45, Tryd.ntmps45
  go_wp2
  go_ret
  exact ⟨rfl, rfl⟩
end Go.Proofs.YtcjblbpkjegmiaaDoor
