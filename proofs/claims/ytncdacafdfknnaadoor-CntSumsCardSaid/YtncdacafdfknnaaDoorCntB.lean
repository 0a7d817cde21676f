/- Walks: Of, Add32, Sub32. -/
import Derived.Test.YtncdacafdfknnaaDoorCntA
import Derived.Laws.BitsAllLaws
namespace Go.Proofs.YtncdacafdfknnaaDoor
open Go.RowKit
set_option linter.unusedVariables false

theorem dat_new (w : World) (T : TypeId) (k : IntKind) (l : List Nat) (n : Nat) (hn : n = w.heap.size) : DAt (w.alloc (.cells (l.map fun (d : Nat) => Value.int k (d : Int)).toArray T)) (some ⟨n, 0, none⟩) k l := by
  refine .inr ⟨n, 0, rfl, by simp; omega, fun j z hz => ?_⟩
  rw [World.cell?_alloc_at _ _ _ _ hn, Nat.zero_add]
  simp [hz]

theorem of_any (n : Nat) (w : World) (hn : n < 18446744073709551616) :
    Calls Tryd.prog 15 #[.int .u64 (n : Nat)] w fun e w' => ∃ A, e = .returned (.slice A (digs B32 n).length (digs B32 n).length) ∧ DAt w' A .u32 (digs B32 n) ∧ Below w.heap.size w w' := by
  have e1 : (n : Int) % 4294967296 = ((n % 4294967296 : Nat) : Int) := by omega
  have e2 : (n : Int) / 4294967296 = ((n / 4294967296 : Nat) : Int) := by omega
  have hv : val B32 [n % 4294967296, n / 4294967296] = n := by simp only [val, B32]; omega
  have hd : Dig B32 [n % 4294967296, n / 4294967296] := by
    intro d hd
    simp only [List.mem_cons, List.not_mem_nil, or_false] at hd
    rcases hd with rfl | rfl
    · show _ < 4294967296; omega
    · show _ < 4294967296; omega
  have ht := trim_any (some ⟨w.heap.size, 0, none⟩) 2 [n % 4294967296, n / 4294967296] (w.alloc (.cells #[.int .u32 ((n % 4294967296 : Nat) : Int), .int .u32 ((n / 4294967296 : Nat) : Int)] 62)) (by simp) (by simp) (by decide) (dat_new w 62 .u32 _ _ rfl) hd
  have hda : DAt (w.alloc (.cells #[.int .u32 ((n % 4294967296 : Nat) : Int), .int .u32 ((n / 4294967296 : Nat) : Int)] 62)) (some ⟨w.heap.size, 0, none⟩) .u32 (digs B32 n) := by
    by_cases h0 : n / 4294967296 = 0
    · by_cases h1 : n % 4294967296 = 0
      · have : n = 0 := by omega
        subst this
        exact .inl rfl
      · have hl : digs B32 n = [n % 4294967296] := by
          have := digs_val (b := B32) (by decide) (l := [n % 4294967296]) (norm_cons norm_nil (fun _ => h1)) (fun d hd' => hd d (by simp at hd'; simp [hd']))
          rw [← this]
          congr 1
          rw [← hv, h0]
          simp [val]
        have h9 := (dat_new w 62 .u32 [n % 4294967296, n / 4294967296] _ rfl).take 1
        rw [hl]
        exact h9
    · have hl : digs B32 n = [n % 4294967296, n / 4294967296] := by
        have := digs_val (b := B32) (by decide) (l := [n % 4294967296, n / 4294967296]) (norm_cons (norm_cons norm_nil (fun _ => h0)) (fun h => by simp at h)) hd
        rw [← this, hv]
      rw [hl]
      exact dat_new w 62 .u32 [n % 4294967296, n / 4294967296] _ rfl
  rw [hv] at ht
  have HT := Lib.hid ht
  have HDA := Lib.hid hda
  have E1 := Lib.hid e1
  have E2 := Lib.hid e2
  clear e1 e2 hv hd ht hda
  go_enter Tryd.func15, Tryd.ntmps15
  go_wp2_with fail
  rw [E1.out, E2.out]
  refine (HT.out).mono ?_
  rintro e w1 ⟨rfl, hw⟩
  rw [← hw]
  clear hw
  go_wp2
  go_ret
  exact ⟨_, rfl, HDA.out, (Below.refl _ _).alloc (Nat.le_refl _) _⟩

theorem add32_any (x y z : Nat) (w : World) (hx : x < B32) (hy : y < B32) (hz : z ≤ 1) :
    Calls Tryd.prog 40 #[.int .u32 (x : Nat), .int .u32 (y : Nat), .int .u32 (z : Nat)] w fun e w' => e = .returned (.tuple #[.int .u32 ((x + y + z) % B32 : Nat), .int .u32 ((x + y + z) / B32 : Nat)]) ∧ w = w' := by
  have hx' : x < 4294967296 := hx
  have hy' : y < 4294967296 := hy
  have e1 : (((x + y + z) % B32 : Nat) : Int) = ((x : Int) + (y : Int) + (z : Int)) % 4294967296 := by show (((x + y + z) % 4294967296 : Nat) : Int) = _; omega
  have e2 : (((x + y + z) / B32 : Nat) : Int) = ((x : Int) + (y : Int) + (z : Int)) / 4294967296 := by show (((x + y + z) / 4294967296 : Nat) : Int) = _; omega
  rw [e1, e2]
  clear e1 e2 hx hy
  go_enter Tryd.func40, Tryd.ntmps40
  go_wp2
  go_ret2
  exact ⟨rfl, rfl⟩

theorem top_bit (x y z : Nat) (hx : x < 4294967296) (hy : y < 4294967296) (hz : z ≤ 1) :
    (((4294967295 ^^^ x) &&& y) ||| ((4294967295 ^^^ (x ^^^ y)) &&& ((x + 4294967296 - y - z) % 4294967296))) / 2147483648 = if x < y + z then 1 else 0 := by
  obtain ⟨d, hd⟩ : ∃ d, d = (x + 4294967296 - y - z) % 4294967296 := ⟨_, rfl⟩
  rw [← hd]
  have hdl : d < 4294967296 := by omega
  have e : ∀ a : Nat, a / 2147483648 = a >>> 31 := fun a => by rw [Nat.shiftRight_eq_div_pow]
  rw [e, Nat.shiftRight_or_distrib, Nat.shiftRight_and_distrib, Nat.shiftRight_and_distrib, Nat.shiftRight_xor_distrib, Nat.shiftRight_xor_distrib, Nat.shiftRight_xor_distrib]
  rw [← e, ← e, ← e, ← e]
  have h1 : x / 2147483648 = 0 ∨ x / 2147483648 = 1 := by omega
  have h2 : y / 2147483648 = 0 ∨ y / 2147483648 = 1 := by omega
  have h3 : d / 2147483648 = 0 ∨ d / 2147483648 = 1 := by omega
  have h4 : z = 0 ∨ z = 1 := by omega
  rcases h1 with h1 | h1 <;> rcases h2 with h2 | h2 <;> rcases h3 with h3 | h3
  all_goals
    rw [h1, h2, h3]
    split
    · first
        | rfl
        | (exfalso; omega)
    · first
        | rfl
        | (exfalso; omega)

theorem sub32_any (x y z : Nat) (w : World) (hx : x < B32) (hy : y < B32) (hz : z ≤ 1) :
    Calls Tryd.prog 39 #[.int .u32 (x : Nat), .int .u32 (y : Nat), .int .u32 (z : Nat)] w fun e w' => e = .returned (.tuple #[.int .u32 ((x + B32 - y - z) % B32 : Nat), .int .u32 ((if x < y + z then 1 else 0 : Nat) : Int)]) ∧ w = w' := by
  have hx' : x < 4294967296 := hx
  have hy' : y < 4294967296 := hy
  have hb := top_bit x y z hx hy hz
  rw [← hb]
  clear hb
  obtain ⟨d, hd⟩ : ∃ d, d = (x + 4294967296 - y - z) % 4294967296 := ⟨_, rfl⟩
  have hdl : d < 4294967296 := by omega
  have e1 : ((x : Int) - (y : Int) - (z : Int)) % 4294967296 = (d : Int) := by omega
  show Calls Tryd.prog 39 #[.int .u32 (x : Nat), .int .u32 (y : Nat), .int .u32 (z : Nat)] w fun e w' => e = .returned (.tuple #[.int .u32 ((x + 4294967296 - y - z) % 4294967296 : Nat), _]) ∧ w = w'
  rw [← hd]
  have a1 : 4294967295 ^^^ x < 4294967296 := Nat.xor_lt_two_pow (n := 32) (by omega) hx'
  have a2 : x ^^^ y < 4294967296 := Nat.xor_lt_two_pow (n := 32) hx' hy'
  have a3 : 4294967295 ^^^ (x ^^^ y) < 4294967296 := Nat.xor_lt_two_pow (n := 32) (by omega) a2
  have a4 : (4294967295 ^^^ x) &&& y < 4294967296 := Nat.and_lt_two_pow _ (n := 32) hy'
  have a5 : (4294967295 ^^^ (x ^^^ y)) &&& d < 4294967296 := Nat.and_lt_two_pow _ (n := 32) hdl
  have b1 : bits .xor .u32 IntKind.u32.max (x : Int) = ((4294967295 ^^^ x : Nat) : Int) := u32_xor_nat 4294967295 x (by omega) hx'
  have b2 : bits .xor .u32 (x : Int) (y : Int) = ((x ^^^ y : Nat) : Int) := u32_xor_nat x y hx' hy'
  have b3 : bits .xor .u32 IntKind.u32.max ((x ^^^ y : Nat) : Int) = ((4294967295 ^^^ (x ^^^ y) : Nat) : Int) := u32_xor_nat 4294967295 (x ^^^ y) (by omega) a2
  have b4 : bits .and .u32 ((4294967295 ^^^ x : Nat) : Int) (y : Int) = (((4294967295 ^^^ x) &&& y : Nat) : Int) := u32_and_nat _ _ a1 hy'
  have b5 : bits .and .u32 ((4294967295 ^^^ (x ^^^ y) : Nat) : Int) (d : Int) = (((4294967295 ^^^ (x ^^^ y)) &&& d : Nat) : Int) := u32_and_nat _ _ a3 hdl
  have b6 := u32_or_nat _ _ a4 a5
  have B1 := Lib.hid b1
  have B2 := Lib.hid b2
  have B3 := Lib.hid b3
  have B4 := Lib.hid b4
  have B5 := Lib.hid b5
  have B6 := Lib.hid b6
  have E1 := Lib.hid e1
  clear b1 b2 b3 b4 b5 b6 e1 hd a1 a2 a3 a4 a5
  go_enter Tryd.func39, Tryd.ntmps39
  go_wp2
  go_ret2
  rw [E1.out, B1.out, B2.out, B3.out, B4.out, B5.out, B6.out]
  exact ⟨rfl, rfl⟩
end Go.Proofs.YtncdacafdfknnaaDoor
