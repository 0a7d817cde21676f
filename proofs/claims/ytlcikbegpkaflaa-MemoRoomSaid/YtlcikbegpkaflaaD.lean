/- Contracts of memo over one predicate, and of the law's wrappers. -/
import Derived.Test.YtlcikbegpkaflaaC
namespace Go.Proofs.Ytlcikbegpkaflaa
open Go.RowKit
set_option linter.unusedVariables false

theorem clear_nil (mb n x y : Nat) (w : World) (h : Mem w mb n (.slice none 0 0) x y) :
    Calls Try.prog 10 #[.pointer (some ⟨mb, 0, none⟩)] w fun e w' => e = .returned (.tuple #[]) ∧ w = w' := by
  obtain ⟨hlt, c0, c1, c2, c3, hf⟩ := h
  have hcl : ∀ ty, (Builtin.clear_ #[41] ty #[.slice none 0 0]).run Try.prog w = .ok (.tuple #[]) w := fun ty => by simp [Builtin.clear_, run_underlying Try.underlying41]
  go_enter Try.func10, Try.ntmps10
  go_wp2
  go_end0
  exact ⟨rfl, rfl⟩

def zeros (n : Nat) : List Value := (Builtin.zeroCells #[.int .i64 0, .int .i64 0, .int .i64 0, .int .i64 0, .int .i64 0, .bool false] n).toList
theorem zeros_length (n : Nat) : (zeros n).length = n * 6 := by simp [zeros, Builtin.zeroCells]
theorem zeros_get (n s j : Nat) (hs : s < n) (hj : j < 6) (h : 6 * s + j < (zeros n).length) : (zeros n)[6 * s + j] = entVal noEnt j := by
  have h1 : (6 * s + j) % 6 = j := by omega
  simp only [zeros, Builtin.zeroCells, Array.getElem_toList, Array.getElem_map, Array.getElem_range]
  simp only [List.size_toArray, List.length_cons, List.length_nil, h1]
  have hj' : j = 0 ∨ j = 1 ∨ j = 2 ∨ j = 3 ∨ j = 4 ∨ j = 5 := by omega
  rcases hj' with rfl | rfl | rfl | rfl | rfl | rfl <;> rfl
theorem zeros_one (n : Nat) : ∀ v ∈ zeros n, v.oneCell' = true := by
  intro v hv
  obtain ⟨k, hk, rfl⟩ := List.mem_iff_getElem.1 hv
  have hl := zeros_length n
  have e : k = 6 * (k / 6) + k % 6 := by omega
  have := zeros_get n (k / 6) (k % 6) (by omega) (by omega) (by omega)
  have e2 : (zeros n)[k] = (zeros n)[6 * (k / 6) + k % 6]'(by omega) := by congr 1
  rw [e2, this]
  have hj' : k % 6 = 0 ∨ k % 6 = 1 ∨ k % 6 = 2 ∨ k % 6 = 3 ∨ k % 6 = 4 ∨ k % 6 = 5 := by omega
  rcases hj' with h | h | h | h | h | h <;> rw [h] <;> rfl

theorem tab_clear {w : World} {eb n : Nat} {t : Nat → Ent} (h : Tab w eb n t) : Tab (w.setCells eb 0 (zeros n)) eb n (fun _ => noEnt) := by
  refine ⟨Nat.lt_of_lt_of_le h.lt (kept_setCells _ _ _ _).size, fun i hi j hj => ?_, fun o => by rw [World.frozen?_setCells]; exact h.free o⟩
  have hl := zeros_length n
  have hin := World.cell?_setCells_in eb (zeros n) 0 w (fun k hk => by
    have := h.cell (k / 6) (by omega) (k % 6) (by omega)
    rw [show 0 + k = 6 * (k / 6) + k % 6 by omega, this]; rfl) (6 * i + j) (by omega)
  rw [Nat.zero_add] at hin
  rw [hin, zeros_get n i j hi hj]

theorem run_clear (w : World) (eb n : Nat) (t : Nat → Ent) (hn : 0 < n) (h : Tab w eb n t) (ty : TypeId) :
    (Builtin.clear_ #[41] ty #[.slice (some ⟨eb, 0, none⟩) n n]).run Try.prog w = .ok (.tuple #[]) (w.setCells eb 0 (zeros n)) := by
  have hl := zeros_length n
  have hst := run_storeCells_cells (P := Try.prog) eb 0 (zeros n) 0 w (fun k hk => by
    have := h.cell (k / 6) (by omega) (k % 6) (by omega)
    rw [show 0 + 0 + k = 6 * (k / 6) + k % 6 by omega, this]; rfl) (fun k _ => h.free _) (zeros_one n)
  simp only [Nat.add_zero] at hst
  obtain ⟨m, rfl⟩ : ∃ m, n = m + 1 := ⟨n - 1, by omega⟩
  have hz : ∀ w, (zeroValue 53).run Try.prog w = .ok (.agg #[.int .i64 0, .int .i64 0, .int .i64 0, .int .i64 0, .int .i64 0, .bool false]) w := fun w => by kernel_rfl
  have hzc : (Builtin.zeroCells (Value.agg #[.int .i64 0, .int .i64 0, .int .i64 0, .int .i64 0, .int .i64 0, .bool false]).cells (m + 1)).toList = zeros (m + 1) := rfl
  simp [Builtin.clear_, run_underlying Try.underlying41, hz, hzc, hst]

theorem clear_tab (mb eb n x y : Nat) (t : Nat → Ent) (w : World) (hn : 0 < n) (h : Mem w mb n (.slice (some ⟨eb, 0, none⟩) n n) x y) (ht : Tab w eb n t) :
    Calls Try.prog 10 #[.pointer (some ⟨mb, 0, none⟩)] w fun e w' => e = .returned (.tuple #[]) ∧ w.setCells eb 0 (zeros n) = w' := by
  obtain ⟨hlt, c0, c1, c2, c3, hf⟩ := h
  have hcl := run_clear w eb n t hn ht
  go_enter Try.func10, Try.ntmps10
  go_wp2
  go_end0
  exact ⟨rfl, rfl⟩

/-- A cache: its struct, and its table where there is one. -/
def IsMemo (w : World) (mb : Nat) (eo : Option Nat) (n x y : Nat) (t : Nat → Ent) : Prop :=
  0 < n ∧ n ≤ 65536 ∧ match eo with
  | none => Mem w mb n (.slice none 0 0) x y ∧ t = fun _ => noEnt
  | some eb => Mem w mb n (.slice (some ⟨eb, 0, none⟩) n n) x y ∧ Tab w eb n t ∧ mb ≠ eb

theorem IsMemo.kept {S : Nat → Prop} {w w' : World} {mb : Nat} {eo : Option Nat} {n x y : Nat} {t : Nat → Ent} (h : IsMemo w mb eo n x y t) (k : Kept S w w') (h1 : ¬ S mb) (h2 : ∀ eb, eo = some eb → ¬ S eb) : IsMemo w' mb eo n x y t := by
  obtain ⟨hn, hn', h⟩ := h
  refine ⟨hn, hn', ?_⟩
  cases eo with
  | none => exact ⟨h.1.kept k h1, h.2⟩
  | some eb => exact ⟨h.1.kept k h1, h.2.1.kept k (h2 eb rfl), h.2.2⟩

theorem IsMemo.lt {w : World} {mb : Nat} {eo : Option Nat} {n x y : Nat} {t : Nat → Ent} (h : IsMemo w mb eo n x y t) : mb < w.heap.size := by
  obtain ⟨hn, hn', h⟩ := h
  cases eo with
  | none => exact h.1.lt
  | some eb => exact h.1.lt
theorem IsMemo.lt2 {w : World} {mb : Nat} {eo : Option Nat} {n x y : Nat} {t : Nat → Ent} (h : IsMemo w mb eo n x y t) : ∀ eb, eo = some eb → eb < w.heap.size := by
  rintro eb rfl
  exact h.2.2.2.1.lt

theorem get_is (mb : Nat) (eo : Option Nat) (n x y : Nat) (t : Nat → Ent) (op a b c : Int) (w : World) (h : IsMemo w mb eo n x y t) (hx : x < 1000000) (hy : y < 1000000) :
    Calls Try.prog 18 #[.pointer (some ⟨mb, 0, none⟩), .int .i64 op, .int .i64 a, .int .i64 b, .int .i64 c] w fun e w' => e = .returned (.tuple #[.int .i64 (look n t op a b c).1, .bool (look n t op a b c).2]) ∧
      IsMemo w' mb eo n (x + 1) (y + hits (look n t op a b c)) t ∧ Kept (· = mb) w w' := by
  obtain ⟨hn, hn', h⟩ := h
  cases eo with
  | none =>
    obtain ⟨h, rfl⟩ := h
    refine (get_empty mb n x y op a b c w h hx).mono fun e w' ⟨he, hm, hk⟩ => ?_
    have e1 : look n (fun _ => noEnt) op a b c = (0, false) := rfl
    rw [e1]
    exact ⟨he, ⟨hn, hn', hm, rfl⟩, hk⟩
  | some eb =>
    obtain ⟨h, ht, hne⟩ := h
    refine (get_tab mb eb n x y t op a b c w hn hn' h ht hne hx hy).mono fun e w' ⟨he, hm, hk⟩ => ?_
    exact ⟨he, ⟨hn, hn', hm, ht.kept hk (fun e => hne e.symm), hne⟩, hk⟩

theorem put_is (mb : Nat) (eo : Option Nat) (n x y : Nat) (t : Nat → Ent) (op a b c r : Int) (w : World) (h : IsMemo w mb eo n x y t) :
    Calls Try.prog 17 #[.pointer (some ⟨mb, 0, none⟩), .int .i64 op, .int .i64 a, .int .i64 b, .int .i64 c, .int .i64 r] w fun e w' => e = .returned (.tuple #[]) ∧ ∃ eo',
      IsMemo w' mb eo' n x y (put n t op a b c r) ∧ Kept (fun k => k = mb ∨ eo = some k) w w' ∧ (eo' = eo ∨ ∃ k, eo' = some k ∧ w.heap.size ≤ k) := by
  obtain ⟨hn, hn', h⟩ := h
  cases eo with
  | none =>
    obtain ⟨h, rfl⟩ := h
    have hlt := h.lt
    refine (put_nil mb n x y op a b c r w hn hn' h).mono ?_
    rintro e w' ⟨eb, he, hm, ht, hsz, hk⟩
    exact ⟨he, some eb, ⟨hn, hn', hm, ht, by omega⟩, hk.mono (fun _ _ h => .inl h), .inr ⟨eb, rfl, hsz⟩⟩
  | some eb =>
    obtain ⟨h, ht, hne⟩ := h
    refine (put_tab mb eb n x y t op a b c r w hn hn' h ht hne).mono ?_
    rintro e w' ⟨he, hm, ht', hk⟩
    exact ⟨he, some eb, ⟨hn, hn', hm, ht', hne⟩, hk.mono (fun _ _ h => .inr (by rw [h])), .inl rfl⟩

theorem clear_is (mb : Nat) (eo : Option Nat) (n x y : Nat) (t : Nat → Ent) (w : World) (h : IsMemo w mb eo n x y t) :
    Calls Try.prog 10 #[.pointer (some ⟨mb, 0, none⟩)] w fun e w' => e = .returned (.tuple #[]) ∧
      IsMemo w' mb eo n x y (fun _ => noEnt) ∧ Kept (fun k => k = mb ∨ eo = some k) w w' := by
  obtain ⟨hn, hn', h⟩ := h
  cases eo with
  | none =>
    obtain ⟨h, rfl⟩ := h
    refine (clear_nil mb n x y w h).mono ?_
    rintro e w' ⟨he, rfl⟩
    exact ⟨he, ⟨hn, hn', h, rfl⟩, Kept.refl _ _⟩
  | some eb =>
    obtain ⟨h, ht, hne⟩ := h
    refine (clear_tab mb eb n x y t w hn h ht).mono ?_
    rintro e w' ⟨he, rfl⟩
    exact ⟨he, ⟨hn, hn', h.kept (kept_setCells eb _ _ w) hne, tab_clear ht, hne⟩, (kept_setCells eb _ _ w).mono (fun _ _ h => .inr (by rw [h]))⟩

theorem new_is (n : Int) (w : World) :
    Calls Try.prog 8 #[.int .i64 n] w fun e w' => e = .returned (.pointer (some ⟨w.heap.size, 0, none⟩)) ∧ IsMemo w' w.heap.size none (min (max n 1) 65536).toNat 0 0 (fun _ => noEnt) ∧ Kept (fun _ => False) w w' :=
  (new_any n w).mono fun e w' ⟨he, hm, hk⟩ => ⟨he, ⟨by omega, by omega, hm, rfl⟩, hk⟩

theorem size_is (mb : Nat) (eo : Option Nat) (n x y : Nat) (t : Nat → Ent) (w : World) (h : IsMemo w mb eo n x y t) :
    Calls Try.prog 14 #[.pointer (some ⟨mb, 0, none⟩)] w fun e w' => e = .returned (.int .i64 n) ∧ w = w' := by
  obtain ⟨hn, hn', h⟩ := h
  cases eo with
  | none => exact size_any mb n x y _ w h.1
  | some eb => exact size_any mb n x y _ w h.1

theorem count_is (mb : Nat) (eo : Option Nat) (n x y : Nat) (t : Nat → Ent) (w : World) (h : IsMemo w mb eo n x y t) :
    Calls Try.prog 13 #[.pointer (some ⟨mb, 0, none⟩)] w fun e w' => e = .returned (.tuple #[.int .i64 x, .int .i64 y]) ∧ ∃ k, w' = w.drewN k := by
  obtain ⟨hn, hn', h⟩ := h
  cases eo with
  | none => exact count_any mb n x y _ w h.1
  | some eb => exact count_any mb n x y _ w h.1

/-- An operation of the reference. -/
structure Act1 where
  kind : Int
  op : Int
  a : Int
  b : Int
  c : Int
  r : Int
def Act1.val (x : Act1) : Value := .agg #[.int .u8 x.kind, .int .i64 x.op, .int .i64 x.a, .int .i64 x.b, .int .i64 x.c, .int .i64 x.r]

def lookA (n : Nat) (t : Nat → Ent) (x : Act1) : Int × Bool := look n t x.op x.a x.b x.c
def putA (n : Nat) (t : Nat → Ent) (x : Act1) : Nat → Ent := put n t x.op x.a x.b x.c x.r

set_option maxHeartbeats 400000 in
theorem lget (mb : Nat) (eo : Option Nat) (n x y : Nat) (t : Nat → Ent) (z : Act1) (w : World) (h : IsMemo w mb eo n x y t) (hx : x < 1000000) (hy : y < 1000000) :
    Calls Try.prog 11 #[.pointer (some ⟨mb, 0, none⟩), z.val] w fun e w' => e = .returned (.tuple #[.int .i64 (lookA n t z).1, .bool (lookA n t z).2]) ∧
      IsMemo w' mb eo n (x + 1) (y + hits (lookA n t z)) t ∧ Kept (· = mb) w w' := by
  unfold Act1.val lookA
  have hl := h.lt
  have hM := Lib.hid h
  have hl2 := Lib.hid h.lt2
  clear h
  go_enter Try.func11, Try.ntmps11
  go_wp2_with fail
  refine (get_is mb eo n x y t z.op z.a z.b z.c _ (hM.out.kept (((Kept.refl (fun _ => False) w).alloc _)) (fun h => h) (fun _ _ h => h)) hx hy).mono ?_
  rintro e w1 ⟨rfl, hm, hk⟩
  have HM := Lib.hid hm
  clear hm
  go_wp2
  go_ret2
  exact ⟨rfl, HM.out, ((Kept.refl (· = mb) w).alloc _).trans hk⟩

set_option maxHeartbeats 400000 in
theorem lput (mb : Nat) (eo : Option Nat) (n x y : Nat) (t : Nat → Ent) (z : Act1) (w : World) (h : IsMemo w mb eo n x y t) :
    Calls Try.prog 9 #[.pointer (some ⟨mb, 0, none⟩), z.val] w fun e w' => e = .returned (.tuple #[]) ∧ ∃ eo',
      IsMemo w' mb eo' n x y (putA n t z) ∧ Kept (fun k => k = mb ∨ eo = some k) w w' ∧ (eo' = eo ∨ ∃ k, eo' = some k ∧ w.heap.size ≤ k) := by
  unfold Act1.val putA
  have hl := h.lt
  have hM := Lib.hid h
  clear h
  go_enter Try.func9, Try.ntmps9
  go_wp2_with fail
  refine (put_is mb eo n x y t z.op z.a z.b z.c z.r _ (hM.out.kept (((Kept.refl (fun _ => False) w).alloc _)) (fun h => h) (fun _ _ h => h))).mono ?_
  rintro e w1 ⟨rfl, hm⟩
  have HM := Lib.hid hm
  clear hm
  go_wp2
  go_end0
  obtain ⟨eo', h1, h2, h3⟩ := HM.out
  refine ⟨rfl, eo', h1, ((Kept.refl _ w).alloc _).trans h2, ?_⟩
  rcases h3 with h3 | ⟨k, h3, h4⟩
  · exact .inl h3
  · exact .inr ⟨k, h3, by simp at h4; omega⟩
end Go.Proofs.Ytlcikbegpkaflaa
