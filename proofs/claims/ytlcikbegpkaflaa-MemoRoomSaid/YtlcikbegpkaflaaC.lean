/- Walks of memo: Put, Clear, New, Size, Count. -/
import Derived.Test.YtlcikbegpkaflaaB
namespace Go.Proofs.Ytlcikbegpkaflaa
open Go.RowKit
set_option linter.unusedVariables false

def look (n : Nat) (t : Nat → Ent) (op a b c : Int) : Int × Bool :=
  if (t (slotOf n op a b c)).full && keyEq (t (slotOf n op a b c)) op a b c then ((t (slotOf n op a b c)).r, true) else (0, false)
def hits (p : Int × Bool) : Nat := if p.2 then 1 else 0

theorem get_tab (mb eb n x y : Nat) (t : Nat → Ent) (op a b c : Int) (w : World) (hn : 0 < n) (hn' : n ≤ 65536) (h : Mem w mb n (.slice (some ⟨eb, 0, none⟩) n n) x y) (ht : Tab w eb n t) (hne : mb ≠ eb) (hx : x < 1000000) (hy : y < 1000000) :
    Calls Try.prog 18 #[.pointer (some ⟨mb, 0, none⟩), .int .i64 op, .int .i64 a, .int .i64 b, .int .i64 c] w fun e w' => e = .returned (.tuple #[.int .i64 (look n t op a b c).1, .bool (look n t op a b c).2]) ∧
      Mem w' mb n (.slice (some ⟨eb, 0, none⟩) n n) (x + 1) (y + hits (look n t op a b c)) ∧ Kept (· = mb) w w' := by
  unfold look hits
  cases hf : (t (slotOf n op a b c)).full
  · simpa using get_miss1 mb eb n x y t op a b c w hn hn' h ht hne hx hy hf
  · cases hk : keyEq (t (slotOf n op a b c)) op a b c
    · simpa using get_miss2 mb eb n x y t op a b c w hn hn' h ht hne hx hy hf hk
    · simpa using get_hit mb eb n x y t op a b c w hn hn' h ht hne hx hy hf hk

def put (n : Nat) (t : Nat → Ent) (op a b c r : Int) : Nat → Ent := fun i => if i = slotOf n op a b c then ⟨op, a, b, c, r, true⟩ else t i

theorem kept_setCells (b : Nat) : ∀ (vs : List Value) (o : Nat) (w : World), Kept (· = b) w (w.setCells b o vs)
  | [], _, w => Kept.refl _ w
  | v :: r, o, w => ((Kept.refl (· = b) w).setCell (p := ⟨b, o, none⟩) (.inl rfl) v).trans (kept_setCells b r (o + 1) _)

theorem setCells6 (w : World) (b o : Nat) (v0 v1 v2 v3 v4 v5 : Value) : w.setCells b o [v0, v1, v2, v3, v4, v5] =
    (((((w.setCell ⟨b, o, none⟩ v0).setCell ⟨b, o + 1, none⟩ v1).setCell ⟨b, o + 2, none⟩ v2).setCell ⟨b, o + 3, none⟩ v3).setCell ⟨b, o + 4, none⟩ v4).setCell ⟨b, o + 5, none⟩ v5 := by
  simp only [World.setCells, Nat.add_assoc]

theorem tab_put {w : World} {eb n : Nat} {t : Nat → Ent} {s : Nat} {op a b c r : Int} (h : Tab w eb n t) (hs : s < n) (he : s = slotOf n op a b c) :
    Tab (w.setCells eb (6 * s) [.int .i64 op, .int .i64 a, .int .i64 b, .int .i64 c, .int .i64 r, .bool true]) eb n (put n t op a b c r) := by
  refine ⟨Nat.lt_of_lt_of_le h.lt (kept_setCells _ _ _ _).size, fun i hi j hj => ?_, fun o => by rw [World.frozen?_setCells]; exact h.free o⟩
  by_cases hij : i = s
  · subst hij
    have hin := World.cell?_setCells_in eb [.int .i64 op, .int .i64 a, .int .i64 b, .int .i64 c, .int .i64 r, .bool true] (6 * i) w (fun k hk => by rw [h.cell i hi k hk]; rfl) j hj
    rw [hin]
    have e : put n t op a b c r i = ⟨op, a, b, c, r, true⟩ := by unfold put; rw [if_pos he]
    rw [e]
    have hj' : j = 0 ∨ j = 1 ∨ j = 2 ∨ j = 3 ∨ j = 4 ∨ j = 5 := by have : j < 6 := hj; omega
    clear hin e
    rcases hj' with rfl | rfl | rfl | rfl | rfl | rfl <;> rfl
  · rw [World.cell?_setCells_out _ _ _ _ _ (fun _ _ => by simp; omega), h.cell i hi j hj]
    have e : put n t op a b c r i = t i := by unfold put; rw [if_neg (by rw [← he]; exact hij)]
    rw [e]

def noEnt : Ent := ⟨0, 0, 0, 0, 0, false⟩

theorem Mem.row {w : World} {mb n : Nat} {v : Value} {x y : Nat} (h : Mem w mb n v x y) (u : Value) : Mem (w.setCell ⟨mb, 1, none⟩ u) mb n u x y :=
  ⟨by rw [World.size_setCell]; exact h.lt, by rw [World.cell?_setCell_other _ _ _ _ (by simp)]; exact h.c0, World.cell?_setCell_same _ _ _ h.c1, by rw [World.cell?_setCell_other _ _ _ _ (by simp)]; exact h.c2, by rw [World.cell?_setCell_other _ _ _ _ (by simp)]; exact h.c3, fun o => by rw [World.frozen?_setCell]; exact h.free o⟩

theorem made_get (n s j : Nat) (hs : s < n) (hj : j < 6) : (madeCells #[.int .i64 0, .int .i64 0, .int .i64 0, .int .i64 0, .int .i64 0, .bool false] (n * 6))[6 * s + j]? = some (entVal noEnt j) := by
  unfold madeCells
  have h1 : (6 * s + j) % 6 = j := by omega
  have h2 : 6 * s + j < n * 6 := by omega
  simp only [Array.getElem?_map]
  rw [Array.getElem?_range, if_pos h2]
  simp [h1]
  have hj' : j = 0 ∨ j = 1 ∨ j = 2 ∨ j = 3 ∨ j = 4 ∨ j = 5 := by omega
  rcases hj' with rfl | rfl | rfl | rfl | rfl | rfl <;> rfl

theorem new_tab {n : Nat} (w : World) :
    Tab (w.alloc (.cells (madeCells #[.int .i64 0, .int .i64 0, .int .i64 0, .int .i64 0, .int .i64 0, .bool false] (n * 6)) 53)) w.heap.size n (fun _ => noEnt) := by
  refine ⟨by simp, fun i hi j hj => ?_, fun o => by simp⟩
  rw [World.cell?_alloc_new]
  exact made_get n i j hi hj

theorem Try.info53 : (Try.prog.info? 53).map (fun i => (i.zero, i.size, i.bytes)) = some (some (.agg #[.int .i64 0, .int .i64 0, .int .i64 0, .int .i64 0, .int .i64 0, .bool false]), 6, 48) := by kernel_rfl

set_option maxHeartbeats 400000 in
theorem put_tab (mb eb n x y : Nat) (t : Nat → Ent) (op a b c r : Int) (w : World) (hn : 0 < n) (hn' : n ≤ 65536) (h : Mem w mb n (.slice (some ⟨eb, 0, none⟩) n n) x y) (ht : Tab w eb n t) (hne : mb ≠ eb) :
    Calls Try.prog 17 #[.pointer (some ⟨mb, 0, none⟩), .int .i64 op, .int .i64 a, .int .i64 b, .int .i64 c, .int .i64 r] w fun e w' => e = .returned (.tuple #[]) ∧
      Mem w' mb n (.slice (some ⟨eb, 0, none⟩) n n) x y ∧ Tab w' eb n (put n t op a b c r) ∧ Kept (· = eb) w w' := by
  have hM := Lib.hid h
  have hT := Lib.hid ht
  obtain ⟨hlt, c0, c1, c2, c3, hf⟩ := h
  have hlt2 := ht.lt
  have hsl := slotOf_lt hn op a b c
  obtain ⟨s, hs⟩ : ∃ s, s = slotOf n op a b c := ⟨_, rfl⟩
  rw [← hs] at hsl
  have e0 := ht.cell s hsl 0 (by omega)
  have e1 := ht.cell s hsl 1 (by omega)
  have e2 := ht.cell s hsl 2 (by omega)
  have e3 := ht.cell s hsl 3 (by omega)
  have e4 := ht.cell s hsl 4 (by omega)
  have e5 := ht.cell s hsl 5 (by omega)
  simp only [entVal, Nat.add_zero] at e0 e1 e2 e3 e4 e5
  have f0 := ht.free (6 * s)
  have f1 := ht.free (6 * s + 1)
  have f2 := ht.free (6 * s + 2)
  have f3 := ht.free (6 * s + 3)
  have f4 := ht.free (6 * s + 4)
  have f5 := ht.free (6 * s + 5)
  clear ht
  have HS := Lib.hid hs
  clear hs
  have hsn := fun w => Lib.run_eql_slice_nil (P := Try.prog) w 41 53 (some ⟨eb, 0, none⟩) n n 0 0 Try.underlying41
  go_enter Try.func17, Try.ntmps17
  go_wp2_with fail
  have hq1 : eb ≠ w.heap.size := by omega
  have hq2 : w.heap.size ≠ eb := by omega
  have K0 := ((Kept.refl (fun _ => False) w).alloc (.cells #[.int .i64 op, .int .i64 a, .int .i64 b, .int .i64 c] 51)).drew
  go_region_held3 (fun w' => w'.cell? ⟨w.heap.size, 0, none⟩ = some (.int .i64 op) ∧ w'.cell? ⟨w.heap.size, 1, none⟩ = some (.int .i64 a) ∧ w'.cell? ⟨w.heap.size, 2, none⟩ = some (.int .i64 b) ∧ w'.cell? ⟨w.heap.size, 3, none⟩ = some (.int .i64 c))
    (first | go_keep | (simp [bc, *]; done))
    (first | (go_at_call 20; refine (place_any mb eb n op a b c _ hn hn' (by simp; omega) (by go_simp)).mono ?_; rintro e w1 ⟨rfl, hb⟩; obtain ⟨bc, bf⟩ := bcell hb; rw [← HS.out]))
  have K1 := (K0.mono (fun _ _ h => h.elim)).trans (Kept.of_below (S := fun _ => False) hb)
  go_end0
  refine ⟨rfl, ?_⟩
  rw [← setCells6]
  exact ⟨(hM.out.kept K1 (fun h => h)).kept (kept_setCells eb _ _ w1) hne, tab_put (hT.out.kept K1 (fun h => h)) hsl HS.out, (K1.mono (fun _ _ h => h.elim)).trans (kept_setCells eb _ _ w1)⟩

set_option maxHeartbeats 400000 in
theorem put_nil (mb n x y : Nat) (op a b c r : Int) (w : World) (hn : 0 < n) (hn' : n ≤ 65536) (h : Mem w mb n (.slice none 0 0) x y) :
    Calls Try.prog 17 #[.pointer (some ⟨mb, 0, none⟩), .int .i64 op, .int .i64 a, .int .i64 b, .int .i64 c, .int .i64 r] w fun e w' => ∃ eb, e = .returned (.tuple #[]) ∧
      Mem w' mb n (.slice (some ⟨eb, 0, none⟩) n n) x y ∧ Tab w' eb n (put n (fun _ => noEnt) op a b c r) ∧ w.heap.size ≤ eb ∧ Kept (· = mb) w w' := by
  have hM := Lib.hid h
  obtain ⟨hlt, c0, c1, c2, c3, hf⟩ := h
  have hf1 := hf 1
  have hsl := slotOf_lt hn op a b c
  obtain ⟨s, hs⟩ : ∃ s, s = slotOf n op a b c := ⟨_, rfl⟩
  rw [← hs] at hsl
  have HS := Lib.hid hs
  clear hs
  have hsn := fun w => Lib.run_eql_slice_nil (P := Try.prog) w 41 53 none 0 0 0 0 Try.underlying41
  obtain ⟨i0, hi, hz0, hz1, hz2⟩ := info_parts Try.info53
  have m0 := made_get n s 0 hsl (by omega)
  have m1 := made_get n s 1 hsl (by omega)
  have m2 := made_get n s 2 hsl (by omega)
  have m3 := made_get n s 3 hsl (by omega)
  have m4 := made_get n s 4 hsl (by omega)
  have m5 := made_get n s 5 hsl (by omega)
  simp only [entVal, noEnt, Nat.add_zero] at m0 m1 m2 m3 m4 m5
  have hmk : ∀ u : World, (Instr.makeSlice 41 (.int .i64 (n : Int)) (.int .i64 (n : Int))).run Try.prog u =
      .ok (.slice (some ⟨u.heap.size, 0, none⟩) n n) (u.alloc (.cells (madeCells #[.int .i64 0, .int .i64 0, .int .i64 0, .int .i64 0, .int .i64 0, .bool false] (n * 6)) 53)) := fun u => by
    have h := run_make (P := Try.prog) u 41 53 i0 _ Try.underlying41 hi hz0 .i64 .i64 (n : Int) (n : Int) (by omega) (Int.le_refl _) (by rw [hz2]; omega) (by omega)
    simpa [hz1, Value.cells] using h
  go_enter Try.func17, Try.ntmps17
  go_wp2_with fail
  have hq1 : mb ≠ w.heap.size := by omega
  have hq2 : mb ≠ w.heap.size + 1 := by omega
  have K0 := ((((Kept.refl (· = mb) w).setCell (p := ⟨mb, 1, none⟩) (.inl rfl) (.slice (some ⟨w.heap.size, 0, none⟩) n n)).alloc (.cells (madeCells #[.int .i64 0, .int .i64 0, .int .i64 0, .int .i64 0, .int .i64 0, .bool false] (n * 6)) 53)).alloc (.cells #[.int .i64 op, .int .i64 a, .int .i64 b, .int .i64 c] 51)).drew
  have hk : ∀ i, (((w.setCell ⟨mb, 1, none⟩ (.slice (some ⟨w.heap.size, 0, none⟩) n n)).alloc (.cells (madeCells #[.int .i64 0, .int .i64 0, .int .i64 0, .int .i64 0, .int .i64 0, .bool false] (n * 6)) 53)).alloc (.cells #[.int .i64 op, .int .i64 a, .int .i64 b, .int .i64 c] 51)).cell? ⟨w.heap.size + 1, i, none⟩ = (#[.int .i64 op, .int .i64 a, .int .i64 b, .int .i64 c] : Array Value)[i]? := fun i => by rw [World.cell?_alloc_at]; simp
  have T0 := new_tab (n := n) (w.setCell ⟨mb, 1, none⟩ (.slice (some ⟨w.heap.size, 0, none⟩) n n))
  have M0 := hM.out.row (.slice (some ⟨w.heap.size, 0, none⟩) n n)
  go_region_held3 (fun w' => w'.cell? ⟨w.heap.size + 1, 0, none⟩ = some (.int .i64 op) ∧ w'.cell? ⟨w.heap.size + 1, 1, none⟩ = some (.int .i64 a) ∧ w'.cell? ⟨w.heap.size + 1, 2, none⟩ = some (.int .i64 b) ∧ w'.cell? ⟨w.heap.size + 1, 3, none⟩ = some (.int .i64 c))
    (first | go_keep | (simp [bc, *]; done))
    (first | (go_at_call 20; refine (place_any mb w.heap.size n op a b c _ hn hn' (by simp; omega) (by go_simp)).mono ?_; rintro e w1 ⟨rfl, hb⟩; obtain ⟨bc, bf⟩ := bcell hb; rw [← HS.out]))
  have Kb := (((Kept.refl (fun _ => False) ((w.setCell ⟨mb, 1, none⟩ (.slice (some ⟨w.heap.size, 0, none⟩) n n)).alloc (.cells (madeCells #[.int .i64 0, .int .i64 0, .int .i64 0, .int .i64 0, .int .i64 0, .bool false] (n * 6)) 53))).alloc (.cells #[.int .i64 op, .int .i64 a, .int .i64 b, .int .i64 c] 51)).drew).trans (Kept.of_below hb)
  have Ka := (Kept.refl (fun _ => False) (w.setCell ⟨mb, 1, none⟩ (.slice (some ⟨w.heap.size, 0, none⟩) n n))).alloc (.cells (madeCells #[.int .i64 0, .int .i64 0, .int .i64 0, .int .i64 0, .int .i64 0, .bool false] (n * 6)) 53)
  rw [World.size_setCell] at T0
  go_end0
  refine ⟨w.heap.size, rfl, ?_⟩
  rw [← setCells6]
  exact ⟨((M0.kept Ka (fun h => h)).kept Kb (fun h => h)).kept (kept_setCells w.heap.size _ _ w1) hq1, tab_put (T0.kept Kb (fun h => h)) hsl HS.out, Nat.le_refl _, (K0.trans (Kept.of_below hb)).trans' (kept_setCells w.heap.size _ _ w1) (fun i hi he => by omega)⟩

theorem put_none (op a b c r : Int) (w : World) :
    Calls Try.prog 17 #[.pointer none, .int .i64 op, .int .i64 a, .int .i64 b, .int .i64 c, .int .i64 r] w fun e w' => e = .returned (.tuple #[]) ∧ w = w' := by
  go_enter Try.func17, Try.ntmps17
  go_wp2
  exact bodyPost_ret (results_none rfl _ _ _) rfl ⟨rfl, rfl⟩

theorem new_mem (w : World) (n : Nat) (T : TypeId) : Mem (w.alloc (.cells #[.int .i64 n, .slice none 0 0, .int .i64 0, .int .i64 0] T)) w.heap.size n (.slice none 0 0) 0 0 := by
  refine ⟨by simp, ?_, ?_, ?_, ?_, fun o => by simp⟩ <;> simp

theorem new_any (n : Int) (w : World) :
    Calls Try.prog 8 #[.int .i64 n] w fun e w' => e = .returned (.pointer (some ⟨w.heap.size, 0, none⟩)) ∧ Mem w' w.heap.size (min (max n 1) 65536).toNat (.slice none 0 0) 0 0 ∧ Kept (fun _ => False) w w' := by
  by_cases h1 : n < 1
  · have e : (min (max n 1) 65536).toNat = 1 := by omega
    rw [e]
    go_enter Try.func8, Try.ntmps8
    go_wp2
    go_ret
    exact ⟨rfl, new_mem w 1 43, (Kept.refl _ w).alloc _⟩
  · by_cases h2 : 65536 < n
    · have e : (min (max n 1) 65536).toNat = 65536 := by omega
      rw [e]
      go_enter Try.func8, Try.ntmps8
      go_wp2
      go_ret
      exact ⟨rfl, new_mem w 65536 43, (Kept.refl _ w).alloc _⟩
    · obtain ⟨m, rfl⟩ := Int.eq_ofNat_of_zero_le (show 0 ≤ n by omega)
      have e : (min (max (m : Int) 1) 65536).toNat = m := by omega
      rw [e]
      go_enter Try.func8, Try.ntmps8
      go_wp2
      go_ret
      exact ⟨rfl, new_mem w m 43, (Kept.refl _ w).alloc _⟩

theorem size_any (mb n x y : Nat) (v : Value) (w : World) (h : Mem w mb n v x y) :
    Calls Try.prog 14 #[.pointer (some ⟨mb, 0, none⟩)] w fun e w' => e = .returned (.int .i64 n) ∧ w = w' := by
  obtain ⟨hlt, c0, c1, c2, c3, hf⟩ := h
  go_enter Try.func14, Try.ntmps14
  go_wp2
  go_ret
  exact ⟨rfl, rfl⟩

theorem size_none (w : World) :
    Calls Try.prog 14 #[.pointer none] w fun e w' => e = .returned (.int .i64 0) ∧ w = w' := by
  go_enter Try.func14, Try.ntmps14
  go_wp2
  go_ret
  exact ⟨rfl, rfl⟩

theorem count_any (mb n x y : Nat) (v : Value) (w : World) (h : Mem w mb n v x y) :
    Calls Try.prog 13 #[.pointer (some ⟨mb, 0, none⟩)] w fun e w' => e = .returned (.tuple #[.int .i64 x, .int .i64 y]) ∧ ∃ k, w' = w.drewN k := by
  obtain ⟨hlt, c0, c1, c2, c3, hf⟩ := h
  go_enter Try.func13, Try.ntmps13
  go_wp2_with fail
  go_quiet (fail)
  go_wp2
  go_ret2
  exact ⟨rfl, nq, rfl⟩

theorem count_none (w : World) :
    Calls Try.prog 13 #[.pointer none] w fun e w' => e = .returned (.tuple #[.int .i64 0, .int .i64 0]) ∧ w = w' := by
  go_enter Try.func13, Try.ntmps13
  go_wp2
  go_ret2
  exact ⟨rfl, rfl⟩

theorem clear_none (w : World) :
    Calls Try.prog 10 #[.pointer none] w fun e w' => e = .returned (.tuple #[]) ∧ w = w' := by
  go_enter Try.func10, Try.ntmps10
  go_wp2
  go_end0
  exact ⟨rfl, rfl⟩
end Go.Proofs.Ytlcikbegpkaflaa
