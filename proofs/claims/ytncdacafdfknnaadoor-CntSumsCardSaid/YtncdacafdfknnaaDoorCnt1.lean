/- Plain laws of the decimal text: padded digits, the zeros cut off. -/
import Derived.Test.YtncdacafdfknnaaDoorCntZ
import Derived.Test.YtncdacafdfknnaaDoorShelf
namespace Go.Proofs.YtncdacafdfknnaaDoor
open Go.RowKit
set_option linter.unusedVariables false

def pd : Nat → Nat → List Nat
  | 0, _ => []
  | j + 1, x => x % 10 :: pd j (x / 10)
theorem pd_len : ∀ (j x : Nat), (pd j x).length = j
  | 0, _ => rfl
  | j + 1, x => by rw [pd, List.length_cons, pd_len j]
theorem pd_lt : ∀ (j x : Nat), ∀ d ∈ pd j x, d < 10
  | 0, _, d, h => by cases h
  | j + 1, x, d, h => by
    rcases List.mem_cons.1 h with rfl | h
    · exact Nat.mod_lt _ (by decide)
    · exact pd_lt j _ d h
theorem pd_snoc : ∀ (j x : Nat), pd j x ++ [x / 10 ^ j % 10] = pd (j + 1) x
  | 0, x => by rw [Nat.pow_zero, Nat.div_one]; rfl
  | j + 1, x => by
    rw [pd, List.cons_append, show x / 10 ^ (j + 1) = x / 10 / 10 ^ j from by rw [Nat.pow_succ, Nat.mul_comm, Nat.div_div_eq_div_mul], pd_snoc j (x / 10)]
    rfl
theorem pd_mod : ∀ (j k x : Nat), j ≤ k → pd j (x % 10 ^ k) = pd j x
  | 0, _, _, _ => rfl
  | j + 1, 0, _, h => by omega
  | j + 1, k + 1, x, h => by
    have e : (10 : Nat) ^ (k + 1) = 10 * 10 ^ k := by rw [Nat.pow_succ, Nat.mul_comm]
    rw [pd, pd, e, Nat.mod_mul_right_div_self, pd_mod j k _ (by omega), Nat.mod_mul_right_mod]
theorem pd_add : ∀ (a b x : Nat), pd (a + b) x = pd a x ++ pd b (x / 10 ^ a)
  | 0, b, x => by rw [Nat.zero_add, Nat.pow_zero, Nat.div_one]; rfl
  | a + 1, b, x => by
    rw [show a + 1 + b = (a + b) + 1 from by omega, pd, pd_add a b (x / 10), pd, List.cons_append, Nat.pow_succ, Nat.mul_comm (10 ^ a) 10, Nat.div_div_eq_div_mul]
theorem text_div (B r x Q : Nat) : x + B * (1000000000 * Q + r) = 1000000000 * ((B * r + x) / 1000000000 + B * Q) + (B * r + x) % 1000000000 := by
  have := Nat.div_add_mod (B * r + x) 1000000000
  generalize (B * r + x) / 1000000000 = q at *
  generalize (B * r + x) % 1000000000 = s at *
  have e1 : B * (1000000000 * Q + r) = 1000000000 * (B * Q) + B * r := by rw [Nat.mul_add]; congr 1; ac_rfl
  have e2 : 1000000000 * (q + B * Q) = 1000000000 * q + 1000000000 * (B * Q) := Nat.mul_add ..
  omega
theorem decL_zero : decL 0 = [] := rfl
theorem decL_pos {x : Nat} (h : x ≠ 0) : decL x = decL (x / 10) ++ [48 + x % 10] := by
  unfold decL
  rw [digs_pos (by decide) h, List.reverse_cons, List.map_append]
  rfl
theorem decL_ne {x : Nat} (h : x ≠ 0) : decL x ≠ [] := by
  rw [decL_pos h]
  simp
theorem dec_text : ∀ (j x : Nat), x < 10 ^ j → ((pd j x).reverse.map fun d => 48 + d).dropWhile (fun d => d == 48) = decL x
  | 0, x, h => by
    have : x = 0 := by simpa using h
    subst this
    rfl
  | j + 1, x, h => by
    have ih := dec_text j (x / 10) (by rw [Nat.pow_succ] at h; omega)
    rw [pd, List.reverse_cons, List.map_append, List.dropWhile_append, ih]
    by_cases h1 : x / 10 = 0
    · rw [h1, decL_zero]
      by_cases h2 : x = 0
      · subst h2; rfl
      · rw [decL_pos h2, h1, decL_zero]
        have : x % 10 ≠ 0 := by omega
        simp [this]
    · have hx : x ≠ 0 := by omega
      have hn := decL_ne h1
      rw [decL_pos hx]
      cases hd : decL (x / 10) with
      | nil => exact absurd hd hn
      | cons a r => rfl
theorem byte48 (d : Nat) (h : d < 10) : (UInt8.ofNat (48 + d) == 48) = (48 + d == 48) := by
  have : d = 0 ∨ d = 1 ∨ d = 2 ∨ d = 3 ∨ d = 4 ∨ d = 5 ∨ d = 6 ∨ d = 7 ∨ d = 8 ∨ d = 9 := by omega
  rcases this with rfl | rfl | rfl | rfl | rfl | rfl | rfl | rfl | rfl | rfl <;> decide
def txt (l : List Nat) : ByteArray := strOfNums (l.map fun (d : Nat) => (d : Int))
theorem txt_list (l : List Nat) : (txt l).data.toList = l.map UInt8.ofNat := by
  unfold txt
  rw [strOfNums_data, List.map_map]
  rfl
theorem trim_text (j x : Nat) (hx : x < 10 ^ j) : (⟨(Lib.trimLeftB (txt ((pd j x).reverse.map fun d => 48 + d)).data.toList 48).toArray⟩ : ByteArray) = txt (decL x) := by
  apply ByteArray.ext
  apply Array.toList_inj.1
  show Lib.trimLeftB _ 48 = _
  rw [txt_list, txt_list, ← dec_text j x hx]
  unfold Lib.trimLeftB
  rw [List.dropWhile_map]
  have key : ∀ (L : List Nat), (∀ d ∈ L, d < 10) → (L.map fun d => 48 + d).dropWhile ((fun c => c == 48) ∘ UInt8.ofNat) = (L.map fun d => 48 + d).dropWhile (fun d => d == 48) := by
    intro L hL
    induction L with
    | nil => rfl
    | cons a r ih =>
      rw [List.map_cons, List.dropWhile_cons, List.dropWhile_cons]
      rw [ih (fun d hd => hL d (List.mem_cons_of_mem _ hd))]
      simp only [Function.comp, byte48 a (hL a (List.mem_cons_self ..))]
  rw [key _ (fun d hd => pd_lt j x d (List.mem_reverse.1 hd))]
theorem decS_eq (x : Nat) : decS x = if x = 0 then ⟨#[48]⟩ else txt (decL x) := rfl
theorem txt_empty (x : Nat) : (txt (decL x) = ⟨#[]⟩) ↔ x = 0 := by
  constructor
  · intro h
    rcases Nat.eq_zero_or_pos x with h0 | h0
    · exact h0
    · exfalso
      have h1 := congrArg (fun b => b.data.toList) h
      simp only [txt_list] at h1
      exact decL_ne (by omega) (List.map_eq_nil_iff.1 h1)
  · intro h; subst h; rfl
end Go.Proofs.YtncdacafdfknnaaDoor
