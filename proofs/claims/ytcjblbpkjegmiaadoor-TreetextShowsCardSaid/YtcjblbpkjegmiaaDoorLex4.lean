/- The lexer's tables; walks: the search for an operator. -/
import Derived.Test.YtcjblbpkjegmiaaDoorLex3
namespace Go.Proofs.YtcjblbpkjegmiaaDoor
open Go.RowKit
set_option linter.unusedVariables false

def wordL : List ByteArray := [⟨#[65]⟩, ⟨#[65, 70]⟩, ⟨#[65, 71]⟩, ⟨#[65, 88]⟩, ⟨#[69]⟩, ⟨#[69, 70]⟩, ⟨#[69, 71]⟩, ⟨#[69, 88]⟩, ⟨#[85]⟩, ⟨#[98, 111, 111, 108]⟩, ⟨#[100, 101, 102]⟩, ⟨#[101, 108, 115, 101]⟩, ⟨#[102, 97, 105, 114]⟩, ⟨#[102, 97, 108, 115, 101]⟩, ⟨#[105, 102]⟩, ⟨#[105, 110, 105, 116]⟩, ⟨#[105, 110, 118, 97, 114]⟩, ⟨#[109, 111, 100]⟩, ⟨#[110, 101, 120, 116]⟩, ⟨#[115, 112, 101, 99]⟩, ⟨#[116, 104, 101, 110]⟩, ⟨#[116, 114, 97, 110, 115]⟩, ⟨#[116, 114, 117, 101]⟩, ⟨#[118, 97, 114]⟩]
def signL : List ByteArray := [⟨#[60, 45, 62]⟩, ⟨#[58, 61]⟩, ⟨#[45, 62]⟩, ⟨#[46, 46]⟩, ⟨#[60, 61]⟩, ⟨#[33, 61]⟩, ⟨#[61]⟩, ⟨#[60]⟩, ⟨#[38]⟩, ⟨#[124]⟩, ⟨#[33]⟩, ⟨#[40]⟩, ⟨#[41]⟩, ⟨#[91]⟩, ⟨#[93]⟩, ⟨#[59]⟩, ⟨#[58]⟩, ⟨#[44]⟩, ⟨#[43]⟩, ⟨#[45]⟩, ⟨#[42]⟩]

/-- The package's two tables, as the program's text lays them. -/
structure Tables (w : World) : Prop where
  size : 2 ≤ w.heap.size
  words : ∀ j, j < 24 → w.cell? ⟨0, j, none⟩ = some (.string (wordL.getD j ByteArray.empty))
  signs : ∀ j, j < 21 → w.cell? ⟨1, j, none⟩ = some (.string (signL.getD j ByteArray.empty))

theorem Tables.below {w w' : World} (h : Tables w) (hb : Below w.heap.size w w') : Tables w' :=
  ⟨Nat.le_trans h.size hb.size, fun j hj => by rw [hb.cell (p := ⟨0, j, none⟩) (by have := h.size; show 0 < _; omega)]; exact h.words j hj,
    fun j hj => by rw [hb.cell (p := ⟨1, j, none⟩) (by have := h.size; show 1 < _; omega)]; exact h.signs j hj⟩
theorem Tables.belowB {w w' : World} {B : Nat} (h : Tables w) (hb : Below B w w') (h2 : 2 ≤ B) : Tables w' :=
  ⟨Nat.le_trans h.size hb.size, fun j hj => by rw [hb.cell (p := ⟨0, j, none⟩) (by show 0 < _; omega)]; exact h.words j hj,
    fun j hj => by rw [hb.cell (p := ⟨1, j, none⟩) (by show 1 < _; omega)]; exact h.signs j hj⟩

/-- The first operator that l begins with: its place. -/
def signIdx (l : Bs) : List ByteArray → Nat → Option Nat
  | [], _ => none
  | x :: r, k => if (bs x).isPrefixOf l then some k else signIdx l r (k + 1)
def idxInt : Option Nat → Int
  | some k => k
  | none => -1

theorem signIdx_get {l : Bs} : ∀ (L : List ByteArray) (k i : Nat), signIdx l L k = some i → k ≤ i ∧ ∃ x, L[i - k]? = some x ∧ (bs x).isPrefixOf l = true
  | [], _, _, h => by cases h
  | x :: r, k, i, h => by
    unfold signIdx at h
    split at h
    · injection h with h
      subst h
      exact ⟨Nat.le_refl _, x, by simp, by assumption⟩
    · obtain ⟨h1, y, hy, hp⟩ := signIdx_get r (k + 1) i h
      refine ⟨by omega, y, ?_, hp⟩
      rw [show i - k = (i - (k + 1)) + 1 by omega]
      simpa using hy

theorem sign_closure (t7 : Nat) (r x : ByteArray) (w : World) (h7 : w.cell? ⟨t7, 0, none⟩ = some (.string r)) :
    Calls Tryd.prog 104 #[.string x, .pointer (some ⟨t7, 0, none⟩)] w fun e w' => e = .returned (.bool ((bs x).isPrefixOf (bs r))) ∧ w = w' := by
  have hp := Tryd.strings_HasPrefix r x
  have HP := Lib.hid hp
  clear hp
  go_enter Tryd.func104, Tryd.ntmps104
  go_wp2_with fail
  refine (HP.out _).mono ?_
  rintro e w' ⟨rfl, rfl⟩
  go_wp2
  go_ret
  exact ⟨rfl, rfl⟩

set_option maxHeartbeats 1000000 in
theorem signs_any (t7 : Nat) (r : ByteArray) (w : World) (hT : Tables w) (h7 : w.cell? ⟨t7, 0, none⟩ = some (.string r)) :
    Calls Tryd.prog 103 #[.slice (some ⟨1, 0, none⟩) 21 21, .func (.func 104) #[] #[.pointer (some ⟨t7, 0, none⟩)]] w fun e w' => e = .returned (.int .i64 (idxInt (signIdx (bs r) signL 0))) ∧ w = w' := by
  have HT := Lib.hid hT
  have hs := hT.signs
  have HS := Lib.hid hs
  clear hs hT
  go_enter Tryd.func103, Tryd.ntmps103
  go_wp2_with fail
  go_loop [8] (fun si => ∃ k : Nat, k ≤ 21 ∧ si = .int .i64 k ∧ signIdx (bs r) signL 0 = signIdx (bs r) (signL.drop k) k) (fun i => 21 - (intOf i).toNat)
  case atStart => exact ⟨0, Nat.zero_le _, rfl, rfl⟩
  case round =>
    obtain ⟨k, hk, rfl, heq⟩ := hrel
    have HE := Lib.hid heq
    clear heq
    by_cases hlt : k < 21
    · have hc := HS.out k hlt
      obtain ⟨x, hx⟩ : ∃ x, signL.getD k ByteArray.empty = x := ⟨_, rfl⟩
      rw [hx] at hc
      have hd : signL.drop k = x :: signL.drop (k + 1) := by
        have hl : k < signL.length := by show k < 21; exact hlt
        rw [List.drop_eq_getElem_cons hl]
        have hx' : signL[k] = x := by rw [← hx]; simp [List.getD, hl]
        rw [hx']
      have HD := Lib.hid hd
      clear hd hx
      have hk0 : (0 : Int) ≤ (k : Int) := by omega
      have hk1 : (k : Int) < (21 : Int) := by omega
      have hcl := sign_closure t7 r x w h7
      cases hp : (bs x).isPrefixOf (bs r)
      · rw [hp] at hcl
        have HP := Lib.hid hp
        have HC := Lib.hid hcl
        clear hp hcl
        go_wp2_with fail
        refine HC.out.mono ?_
        rintro e w' ⟨rfl, rfl⟩
        go_wp2
        go_round
        case rel => exact ⟨k + 1, by omega, by go_num, by rw [HE.out, HD.out, signIdx, if_neg (by rw [HP.out]; simp)]⟩
        case measure => simp [intOf]; omega
      · rw [hp] at hcl
        have HP := Lib.hid hp
        have HC := Lib.hid hcl
        clear hp hcl
        go_wp2_with fail
        refine HC.out.mono ?_
        rintro e w' ⟨rfl, rfl⟩
        go_wp2
        go_ret
        exact ⟨by rw [HE.out, HD.out, signIdx, if_pos HP.out]; rfl, rfl⟩
    · have hk21 : k = 21 := by omega
      subst hk21
      go_wp2
      go_ret
      exact ⟨by rw [HE.out]; rfl, rfl⟩
end Go.Proofs.YtcjblbpkjegmiaaDoor
