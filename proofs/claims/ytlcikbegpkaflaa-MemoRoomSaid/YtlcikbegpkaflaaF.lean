/- The reference's functions, the examples, the law on nil. -/
import Derived.Test.YtlcikbegpkaflaaE
namespace Go.Proofs.Ytlcikbegpkaflaa
open Go.RowKit
set_option linter.unusedVariables false

theorem Kept.row {S : Nat → Prop} {w w' : World} (h : Kept S w w') {b : Nat} (hb : b < w.heap.size) (hs : ¬ S b) : ∀ o, w'.cell? ⟨b, o, none⟩ = w.cell? ⟨b, o, none⟩ := fun o => h.cell hb hs

def held (n : Int) : Int := min (max n 1) 65536
theorem held_any (n : Int) (w : World) : Calls Try.prog 15 #[.int .i64 n] w fun e w' => e = .returned (.int .i64 (held n)) ∧ w = w' := by
  by_cases h1 : n < 1
  · have e : held n = 1 := by unfold held; omega
    rw [e]
    go_enter Try.func15, Try.ntmps15
    go_wp2
    go_ret
    exact ⟨rfl, rfl⟩
  · by_cases h2 : 65536 < n
    · have e : held n = 65536 := by unfold held; omega
      rw [e]
      go_enter Try.func15, Try.ntmps15
      go_wp2
      go_ret
      exact ⟨rfl, rfl⟩
    · have e : held n = n := by unfold held; omega
      rw [e]
      go_enter Try.func15, Try.ntmps15
      go_wp2
      go_ret
      exact ⟨rfl, rfl⟩

set_option maxHeartbeats 400000 in
theorem key_any (x y : Act1) (w : World) : Calls Try.prog 19 #[x.val, y.val] w fun e w' => e = .returned (.bool (sameKey x y)) ∧ Below w.heap.size w w' := by
  unfold Act1.val sameKey
  generalize x.op = x1
  generalize x.a = x2
  generalize x.b = x3
  generalize x.c = x4
  generalize y.op = y1
  generalize y.a = y2
  generalize y.b = y3
  generalize y.c = y4
  by_cases h1 : x1 = y1
  · by_cases h2 : x2 = y2
    · by_cases h3 : x3 = y3
      · subst h1 h2 h3
        cases h4 : (x4 == y4)
        all_goals
          go_enter Try.func19, Try.ntmps19
          go_wp2
          go_ret
          exact ⟨by simp, ((Below.refl _ _).alloc (Nat.le_refl _) _).alloc (by simp) _⟩
      · have e3 : (x3 == y3) = false := by simpa using h3
        subst h1 h2
        go_enter Try.func19, Try.ntmps19
        go_wp2
        go_ret
        exact ⟨by simp [e3], ((Below.refl _ _).alloc (Nat.le_refl _) _).alloc (by simp) _⟩
    · have e3 : (x2 == y2) = false := by simpa using h2
      subst h1
      go_enter Try.func19, Try.ntmps19
      go_wp2
      go_ret
      exact ⟨by simp [e3], ((Below.refl _ _).alloc (Nat.le_refl _) _).alloc (by simp) _⟩
  · have e3 : (x1 == y1) = false := by simpa using h1
    go_enter Try.func19, Try.ntmps19
    go_wp2
    go_ret
    exact ⟨by simp [e3], ((Below.refl _ _).alloc (Nat.le_refl _) _).alloc (by simp) _⟩

def exX : Act1 := ⟨0, 100, 2, 4, 6, 8⟩
def exY : Act1 := ⟨0, 100, 2, 4, 7, 8⟩
theorem ex1 : lookA 2 (putA 2 (fun _ => noEnt) exX) exX = (8, true) := lookA_same (sameKey_refl _)
theorem ex2 : lookA 2 (putA 2 (fun _ => noEnt) exX) exY = (0, false) := by
  rcases lookA_other (n := 2) (t := fun _ => noEnt) (x := exX) (y := exY) (by decide) with h | h
  · exact h
  · rw [h]; rfl

set_option maxHeartbeats 1000000 in
theorem lives_any (w : World) : Calls Try.prog 7 #[] w fun e w' => e = .returned (.bool true) ∧ Kept (fun _ => False) w w' := by
  go_enter Try.func7, Try.ntmps7
  go_wp2_with fail
  refine (new_is 2 w).mono ?_
  rintro e w1 ⟨rfl, hm, hk⟩
  have hlt := hm.lt
  have HM := Lib.hid hm
  have HK := Lib.hid hk
  clear hm hk
  go_wp2_with fail
  refine (lput w.heap.size none _ 0 0 _ exX _ ((show IsMemo w1 w.heap.size none 2 0 0 (fun _ => noEnt) from HM.out).kept ((Kept.refl (fun _ => False) w1).alloc _) (fun h => h) (fun _ _ h => h))).mono ?_
  rintro e w2 ⟨rfl, eo, hm2, hk2, ho⟩
  have hr2 := hk2.row (b := w1.heap.size) (by simp) (by simp; omega)
  have hs2 := hk2.size
  have hlt2 := hm2.lt
  have HM2 := Lib.hid hm2
  have HK2 := Lib.hid hk2
  have HO := Lib.hid ho
  clear hm2 hk2 ho
  go_wp2_with fail
  refine (lget w.heap.size eo _ 0 0 _ exX _ HM2.out (by omega) (by omega)).mono ?_
  rintro e w3 ⟨rfl, hm3, hk3⟩
  rw [ex1] at hm3 ⊢
  have hr3 := hk3.row (b := w1.heap.size) (by (try simp at hs2); omega) (fun h => by have h' : w1.heap.size = w.heap.size := h; omega)
  have hs3 := hk3.size
  have hlt3 := hm3.lt
  have HM3 := Lib.hid hm3
  have HK3 := Lib.hid hk3
  clear hm3 hk3
  have q0 : w1.heap.size < w2.heap.size := by (try simp at hs2); omega
  have q1 : w1.heap.size < w3.heap.size := by omega
  have q2 : w.heap.size < w1.heap.size := hlt
  have q3 : w.heap.size ≠ w3.heap.size := by omega
  go_wp2_with fail
  have K4 := (Kept.refl (fun _ => False) w3).alloc (.cells #[.int .u8 0, .int .i64 100, .int .i64 2, .int .i64 4, .int .i64 7, .int .i64 8] 27)
  refine (lget w.heap.size eo _ _ _ _ exY _ (HM3.out.kept K4 (fun h => h) (fun _ _ h => h)) (by omega) (by simp [hits])).mono ?_
  rintro e w4 ⟨rfl, hm4, hk4⟩
  rw [ex2] at hm4 ⊢
  have hr4 := hk4.row (b := w1.heap.size) (by simp; omega) (fun h => by have h' : w1.heap.size = w.heap.size := h; omega)
  have hs4 := hk4.size
  have hlt4 := hm4.lt
  have HM4 := Lib.hid hm4
  have HK4 := Lib.hid hk4
  have HK4' := Lib.hid K4
  clear hm4 hk4 K4
  have q4 : w1.heap.size < w4.heap.size := by (try simp at hs4); omega
  go_wp2_with fail
  refine (clear_is w.heap.size eo _ _ _ _ _ HM4.out).mono ?_
  rintro e w5 ⟨rfl, hm5, hk5⟩
  have hne : ¬ (w1.heap.size = w.heap.size ∨ eo = some w1.heap.size) := by
    rintro (h | h)
    · omega
    · rcases HO.out with h' | ⟨k, h', hk⟩
      · rw [h] at h'; cases h'
      · rw [h] at h'; injection h' with h'; simp at hk; omega
  have hr5 := hk5.row (b := w1.heap.size) q4 hne
  have hs5 := hk5.size
  have hlt5 := hm5.lt
  have HM5 := Lib.hid hm5
  have HK5 := Lib.hid hk5
  clear hm5 hk5 hne
  go_wp2_with fail
  refine (lget w.heap.size eo _ _ _ _ exX _ HM5.out (by omega) (by simp [hits])).mono ?_
  rintro e w6 ⟨rfl, hm6, hk6⟩
  rw [lookA_none] at hm6 ⊢
  have HM6 := Lib.hid hm6
  have HK6 := Lib.hid hk6
  clear hm6 hk6
  go_wp2_with fail
  refine (count_is w.heap.size eo _ _ _ _ _ HM6.out).mono ?_
  rintro e w7 ⟨rfl, k7, rfl⟩
  have HM7 := Lib.hid (HM6.out.kept ((Kept.refl (fun _ => False) w6).drewN k7) (fun h => h) (fun _ _ h => h))
  go_wp2_with fail
  refine (size_is w.heap.size eo _ _ _ _ _ HM7.out).mono ?_
  rintro e w8 ⟨rfl, rfl⟩
  go_wp2
  go_ret
  refine ⟨rfl, ?_⟩
  have hO : ∀ k, eo = some k → w.heap.size ≤ k := by
    rintro k rfl
    rcases HO.out with h | ⟨k', h, hk⟩
    · cases h
    · injection h with h; (try simp at hk); omega
  have b1 := (HK.out.below (Nat.le_refl _) (fun _ h => h.elim)).alloc (by omega) (.cells #[.int .u8 0, .int .i64 100, .int .i64 2, .int .i64 4, .int .i64 6, .int .i64 8] 27)
  have b2 := b1.trans (HK2.out.below b1.size (fun k h => by rcases h with h | h; omega; cases h))
  have b3 := b2.trans (HK3.out.below b2.size (fun k h => by omega))
  have b4 := b3.trans (HK4'.out.below b3.size (fun _ h => h.elim))
  have b5 := b4.trans (HK4.out.below b4.size (fun k h => by omega))
  have b6 := b5.trans (HK5.out.below b5.size (fun k h => by rcases h with h | h; omega; exact hO k h))
  have b7 := b6.trans (HK6.out.below b6.size (fun k h => by omega))
  exact Kept.of_below (below_drewN b7 _)

theorem nput (z : Act1) (w : World) : Calls Try.prog 9 #[.pointer none, z.val] w fun e w' => e = .returned (.tuple #[]) ∧ Kept (fun _ => False) w w' := by
  unfold Act1.val
  go_enter Try.func9, Try.ntmps9
  go_wp2_with fail
  refine (put_none _ _ _ _ _ _).mono ?_
  rintro e w1 ⟨rfl, rfl⟩
  go_wp2
  go_end0
  exact ⟨rfl, (Kept.refl _ w).alloc _⟩
theorem nget (z : Act1) (w : World) : Calls Try.prog 11 #[.pointer none, z.val] w fun e w' => e = .returned (.tuple #[.int .i64 0, .bool false]) ∧ Kept (fun _ => False) w w' := by
  unfold Act1.val
  go_enter Try.func11, Try.ntmps11
  go_wp2_with fail
  refine (get_none _ _ _ _ _).mono ?_
  rintro e w1 ⟨rfl, rfl⟩
  go_wp2
  go_ret2
  exact ⟨rfl, (Kept.refl _ w).alloc _⟩

theorem memoNil_any (z : Act1) (w : World) : Calls Try.prog 6 #[z.val] w fun e w' => e = .returned (.bool true) ∧ Kept (fun _ => False) w w' := by
  have hz : Hid (z.val = .agg #[.int .u8 z.kind, .int .i64 z.op, .int .i64 z.a, .int .i64 z.b, .int .i64 z.c, .int .i64 z.r]) := rfl
  rw [hz.out]
  go_enter Try.func6, Try.ntmps6
  go_wp2_with fail
  refine (nput z _).mono ?_
  rintro e w1 ⟨rfl, hk1⟩
  have hr1 := hk1.row (b := w.heap.size) (by simp) (fun h => h)
  have hs1 := hk1.size
  have HK1 := Lib.hid hk1
  clear hk1
  go_wp2_with fail
  refine (nget z _).mono ?_
  rintro e w2 ⟨rfl, hk2⟩
  have HK2 := Lib.hid hk2
  clear hk2
  go_wp2_with fail
  refine (clear_none _).mono ?_
  rintro e w3 ⟨rfl, rfl⟩
  go_wp2_with fail
  refine (count_none _).mono ?_
  rintro e w3 ⟨rfl, rfl⟩
  go_wp2_with fail
  refine (size_none _).mono ?_
  rintro e w3 ⟨rfl, rfl⟩
  go_wp2_with fail
  refine (lives_any _).mono ?_
  rintro e w4 ⟨rfl, hk4⟩
  have HK4 := Lib.hid hk4
  clear hk4
  go_wp2
  go_ret
  exact ⟨rfl, ((((Kept.refl _ w).alloc _).trans HK1.out).trans HK2.out).trans HK4.out⟩
end Go.Proofs.Ytlcikbegpkaflaa
