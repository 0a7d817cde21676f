/- Walks of memo: the methods. -/
import Derived.Test.YtlcikbegpkaflaaA
import Derived.ChangeKeysEq
import Derived.Deep.RegionHeld3
import Derived.Lib.SliceRun
namespace Go.Proofs.Ytlcikbegpkaflaa
open Go.RowKit
set_option linter.unusedVariables false

/-- What is in a slot. -/
structure Ent where
  op : Int
  a : Int
  b : Int
  c : Int
  r : Int
  full : Bool

def entVal (e : Ent) : Nat → Value
  | 0 => .int .i64 e.op
  | 1 => .int .i64 e.a
  | 2 => .int .i64 e.b
  | 3 => .int .i64 e.c
  | 4 => .int .i64 e.r
  | _ => .bool e.full

def keyEq (e : Ent) (op a b c : Int) : Bool := e.op == op && e.a == a && e.b == b && e.c == c

theorem run_keyNeq (x1 x2 x3 x4 y1 y2 y3 y4 : Int) (w : World) :
    (binOp .neq 51 (.agg #[.int .i64 x1, .int .i64 x2, .int .i64 x3, .int .i64 x4]) (.agg #[.int .i64 y1, .int .i64 y2, .int .i64 y3, .int .i64 y4])).run Try.prog w =
      .ok (.bool (!(x1 == y1 && (x2 == y2 && (x3 == y3 && x4 == y4))))) w := by
  have hi : Try.prog.info? 45 = some Try.t45 := by kernel_rfl
  have ha := fun d xs ys => run_equalIn_array (P := Try.prog) w d (t := 49) (e := 45) (n := 3) (i := Try.t45) xs ys Try.underlying49 hi
  have hc : Try.prog.cellsOf 45 = 1 := by kernel_rfl
  rw [run_neq_struct]
  simp [go_sem, Op.eqFields, ha, Op.eqItems, hc, List.range_succ]
  by_cases h1 : x1 = y1 <;> by_cases h2 : x2 = y2 <;> by_cases h3 : x3 = y3 <;> by_cases h4 : x4 = y4 <;> simp [h1, h2, h3, h4]

/-- Of what was there, only the blocks in S may have turned. -/
structure Kept (S : Nat → Prop) (w w' : World) : Prop where
  os : w'.os = w.os
  tape : w'.tape = w.tape
  output : w'.output = w.output
  size : w.heap.size ≤ w'.heap.size
  block : ∀ k, k < w.heap.size → ¬ S k → w'.heap[k]? = w.heap[k]?

theorem Kept.refl (S : Nat → Prop) (w : World) : Kept S w w := ⟨rfl, rfl, rfl, Nat.le_refl _, fun _ _ _ => rfl⟩
theorem Kept.trans {S : Nat → Prop} {a b c : World} (h : Kept S a b) (k : Kept S b c) : Kept S a c :=
  ⟨k.os.trans h.os, k.tape.trans h.tape, k.output.trans h.output, Nat.le_trans h.size k.size, fun i hi hn => (k.block i (Nat.lt_of_lt_of_le hi h.size) hn).trans (h.block i hi hn)⟩
theorem Kept.trans' {S S' : Nat → Prop} {a b c : World} (h : Kept S a b) (k : Kept S' b c) (hs : ∀ i, i < a.heap.size → S' i → S i) : Kept S a c :=
  ⟨k.os.trans h.os, k.tape.trans h.tape, k.output.trans h.output, Nat.le_trans h.size k.size, fun i hi hn => (k.block i (Nat.lt_of_lt_of_le hi h.size) (fun h' => hn (hs i hi h'))).trans (h.block i hi hn)⟩
theorem Kept.mono {S S' : Nat → Prop} {a b : World} (h : Kept S a b) (hs : ∀ k, k < a.heap.size → S k → S' k) : Kept S' a b :=
  ⟨h.os, h.tape, h.output, h.size, fun k hk hn => h.block k hk (fun hsk => hn (hs k hk hsk))⟩
theorem Kept.of_below {S : Nat → Prop} {a b : World} (h : Below a.heap.size a b) : Kept S a b :=
  ⟨h.os, h.tape, h.output, h.size, fun k hk _ => h.block k hk⟩
theorem Kept.drewN {S : Nat → Prop} {a w : World} (h : Kept S a w) (n : Nat) : Kept S a (w.drewN n) := ⟨h.os, h.tape, h.output, h.size, h.block⟩
theorem Kept.drew {S : Nat → Prop} {a w : World} (h : Kept S a w) : Kept S a w.drew := ⟨h.os, h.tape, h.output, h.size, h.block⟩
theorem Kept.alloc {S : Nat → Prop} {a w : World} (h : Kept S a w) (o : Obj) : Kept S a (w.alloc o) :=
  h.trans (Kept.of_below ((Below.refl _ _).alloc (Nat.le_refl _) o))
theorem Kept.setCell {S : Nat → Prop} {a w : World} (h : Kept S a w) {p : Addr} (hp : S p.block ∨ a.heap.size ≤ p.block) (u : Value) : Kept S a (w.setCell p u) :=
  ⟨h.os, h.tape, h.output, Nat.le_trans h.size (by simp [World.setCell]), fun k hk hn => by
    rw [Below.heap_setCell _ _ _ _ (by rintro rfl; rcases hp with hp | hp; exact hn hp; omega)]; exact h.block k hk hn⟩
theorem Kept.cell {S : Nat → Prop} {w w' : World} (h : Kept S w w') {b o : Nat} (hb : b < w.heap.size) (hs : ¬ S b) : w'.cell? ⟨b, o, none⟩ = w.cell? ⟨b, o, none⟩ := World.cell?_of_block (w := w) (h.block b hb hs)
theorem Kept.frozen {S : Nat → Prop} {w w' : World} (h : Kept S w w') {b o : Nat} (hb : b < w.heap.size) (hs : ¬ S b) : w'.frozen? ⟨b, o, none⟩ = w.frozen? ⟨b, o, none⟩ := World.frozen?_of_block (w := w) (h.block b hb hs)
theorem Kept.below {B : Nat} {S : Nat → Prop} {w w' : World} (h : Kept S w w') (hB : B ≤ w.heap.size) (hs : ∀ k, S k → B ≤ k) : Below B w w' :=
  ⟨h.os, h.tape, h.output, h.size, fun k hk => h.block k (by omega) (fun e => by have := hs k e; omega)⟩

/-- The table's own cells. -/
structure Tab (w : World) (eb n : Nat) (t : Nat → Ent) : Prop where
  lt : eb < w.heap.size
  cell : ∀ i, i < n → ∀ j, j < 6 → w.cell? ⟨eb, 6 * i + j, none⟩ = some (entVal (t i) j)
  free : ∀ o, w.frozen? ⟨eb, o, none⟩ = false

/-- The struct's cells. -/
structure Mem (w : World) (mb : Nat) (n : Nat) (v : Value) (asked found : Nat) : Prop where
  lt : mb < w.heap.size
  c0 : w.cell? ⟨mb, 0, none⟩ = some (.int .i64 n)
  c1 : w.cell? ⟨mb, 1, none⟩ = some v
  c2 : w.cell? ⟨mb, 2, none⟩ = some (.int .i64 asked)
  c3 : w.cell? ⟨mb, 3, none⟩ = some (.int .i64 found)
  free : ∀ o, w.frozen? ⟨mb, o, none⟩ = false

theorem Mem.kept {S : Nat → Prop} {w w' : World} {mb n : Nat} {v : Value} {x y : Nat} (h : Mem w mb n v x y) (k : Kept S w w') (hs : ¬ S mb) : Mem w' mb n v x y :=
  ⟨Nat.lt_of_lt_of_le h.lt k.size, by rw [k.cell h.lt hs]; exact h.c0, by rw [k.cell h.lt hs]; exact h.c1, by rw [k.cell h.lt hs]; exact h.c2, by rw [k.cell h.lt hs]; exact h.c3, fun o => by rw [k.frozen h.lt hs]; exact h.free o⟩
theorem Tab.kept {S : Nat → Prop} {w w' : World} {eb n : Nat} {t : Nat → Ent} (h : Tab w eb n t) (k : Kept S w w') (hs : ¬ S eb) : Tab w' eb n t :=
  ⟨Nat.lt_of_lt_of_le h.lt k.size, fun i hi j hj => by rw [k.cell h.lt hs]; exact h.cell i hi j hj, fun o => by rw [k.frozen h.lt hs]; exact h.free o⟩

theorem Mem.ask {w : World} {mb n : Nat} {v : Value} {x y : Nat} (h : Mem w mb n v x y) : Mem (w.setCell ⟨mb, 2, none⟩ (.int .i64 ((x : Int) + 1))) mb n v (x + 1) y :=
  ⟨by rw [World.size_setCell]; exact h.lt, by rw [World.cell?_setCell_other _ _ _ _ (by simp)]; exact h.c0, by rw [World.cell?_setCell_other _ _ _ _ (by simp)]; exact h.c1, World.cell?_setCell_same _ _ _ h.c2, by rw [World.cell?_setCell_other _ _ _ _ (by simp)]; exact h.c3, fun o => by rw [World.frozen?_setCell]; exact h.free o⟩
theorem Mem.find {w : World} {mb n : Nat} {v : Value} {x y : Nat} (h : Mem w mb n v x y) : Mem (w.setCell ⟨mb, 3, none⟩ (.int .i64 ((y : Int) + 1))) mb n v x (y + 1) :=
  ⟨by rw [World.size_setCell]; exact h.lt, by rw [World.cell?_setCell_other _ _ _ _ (by simp)]; exact h.c0, by rw [World.cell?_setCell_other _ _ _ _ (by simp)]; exact h.c1, by rw [World.cell?_setCell_other _ _ _ _ (by simp)]; exact h.c2, World.cell?_setCell_same _ _ _ h.c3, fun o => by rw [World.frozen?_setCell]; exact h.free o⟩

theorem get_none (op a b c : Int) (w : World) :
    Calls Try.prog 18 #[.pointer none, .int .i64 op, .int .i64 a, .int .i64 b, .int .i64 c] w fun e w' => e = .returned (.tuple #[.int .i64 0, .bool false]) ∧ w = w' := by
  go_enter Try.func18, Try.ntmps18
  go_wp2
  go_ret2
  exact ⟨rfl, rfl⟩

set_option maxHeartbeats 400000 in
theorem get_empty (mb n x y : Nat) (op a b c : Int) (w : World) (h : Mem w mb n (.slice none 0 0) x y) (hx : x < 1000000) :
    Calls Try.prog 18 #[.pointer (some ⟨mb, 0, none⟩), .int .i64 op, .int .i64 a, .int .i64 b, .int .i64 c] w fun e w' => e = .returned (.tuple #[.int .i64 0, .bool false]) ∧ Mem w' mb n (.slice none 0 0) (x + 1) y ∧ Kept (· = mb) w w' := by
  obtain ⟨hlt, c0, c1, c2, c3, hf⟩ := h
  have hf2 := hf 2
  go_enter Try.func18, Try.ntmps18
  go_wp2
  go_ret2
  exact ⟨rfl, Mem.ask ⟨hlt, c0, c1, c2, c3, hf⟩, (Kept.refl (· = mb) w).setCell (p := ⟨mb, 2, none⟩) (.inl rfl) _⟩

theorem bcell {W w1 : World} (hb : Below W.heap.size W w1) : (∀ b o, b < W.heap.size → w1.cell? ⟨b, o, none⟩ = W.cell? ⟨b, o, none⟩) ∧ (∀ b o, b < W.heap.size → w1.frozen? ⟨b, o, none⟩ = W.frozen? ⟨b, o, none⟩) :=
  ⟨fun b o h => hb.cell (p := ⟨b, o, none⟩) h, fun b o h => hb.frozen (p := ⟨b, o, none⟩) h⟩

set_option maxHeartbeats 400000 in
theorem get_hit (mb eb n x y : Nat) (t : Nat → Ent) (op a b c : Int) (w : World) (hn : 0 < n) (hn' : n ≤ 65536) (h : Mem w mb n (.slice (some ⟨eb, 0, none⟩) n n) x y) (ht : Tab w eb n t) (hne : mb ≠ eb) (hx : x < 1000000) (hy : y < 1000000)
    (hfull : (t (slotOf n op a b c)).full = true) (hkey : keyEq (t (slotOf n op a b c)) op a b c = true) :
    Calls Try.prog 18 #[.pointer (some ⟨mb, 0, none⟩), .int .i64 op, .int .i64 a, .int .i64 b, .int .i64 c] w fun e w' => e = .returned (.tuple #[.int .i64 (t (slotOf n op a b c)).r, .bool true]) ∧
      Mem w' mb n (.slice (some ⟨eb, 0, none⟩) n n) (x + 1) (y + 1) ∧ Kept (· = mb) w w' := by
  have hM := Lib.hid h
  obtain ⟨hlt, c0, c1, c2, c3, hf⟩ := h
  have hlt2 := ht.lt
  have hf2 := hf 2
  have hf3 := hf 3
  have hsl := slotOf_lt hn op a b c
  obtain ⟨s, hs⟩ : ∃ s, s = slotOf n op a b c := ⟨_, rfl⟩
  rw [← hs] at hfull hkey hsl
  have e0 := ht.cell s hsl 0 (by omega)
  have e1 := ht.cell s hsl 1 (by omega)
  have e2 := ht.cell s hsl 2 (by omega)
  have e3 := ht.cell s hsl 3 (by omega)
  have e4 := ht.cell s hsl 4 (by omega)
  have e5 := ht.cell s hsl 5 (by omega)
  simp only [entVal, hfull, Nat.add_zero] at e0 e1 e2 e3 e4 e5
  simp only [keyEq, Bool.and_eq_true, beq_iff_eq] at hkey
  obtain ⟨⟨⟨k0, k1⟩, k2⟩, k3⟩ := hkey
  rw [k0] at e0
  rw [k1] at e1
  rw [k2] at e2
  rw [k3] at e3
  have hneq := fun w => run_keyNeq op a b c op a b c w
  simp only [BEq.rfl, Bool.and_self, Bool.not_true] at hneq
  rw [← hs]
  generalize (t s).r = r at *
  clear k0 k1 k2 k3 hfull ht
  have HS := Lib.hid hs
  clear hs
  go_enter Try.func18, Try.ntmps18
  go_wp2_with fail
  refine (place_any mb eb n op a b c _ hn hn' (by simp; omega) ?_).mono ?_
  · go_simp
  rintro e w1 ⟨rfl, hb⟩
  rw [← HS.out]
  obtain ⟨bc, bf⟩ := bcell hb
  go_wp2_with fail
  go_quiet (fail)
  go_wp2
  go_ret2
  have K1 := ((((Kept.refl (fun _ => False) (w.setCell ⟨mb, 2, none⟩ (.int .i64 ((x : Int) + 1)))).alloc _).trans (Kept.of_below hb)).drewN nq)
  exact ⟨rfl, Mem.find ((Mem.ask hM.out).kept K1 (fun h => h)), (((Kept.refl (· = mb) w).setCell (p := ⟨mb, 2, none⟩) (.inl rfl) _).trans (K1.mono (fun _ _ h => h.elim))).setCell (p := ⟨mb, 3, none⟩) (.inl rfl) _⟩

set_option maxHeartbeats 400000 in
theorem get_miss1 (mb eb n x y : Nat) (t : Nat → Ent) (op a b c : Int) (w : World) (hn : 0 < n) (hn' : n ≤ 65536) (h : Mem w mb n (.slice (some ⟨eb, 0, none⟩) n n) x y) (ht : Tab w eb n t) (hne : mb ≠ eb) (hx : x < 1000000) (hy : y < 1000000)
    (hfull : (t (slotOf n op a b c)).full = false) :
    Calls Try.prog 18 #[.pointer (some ⟨mb, 0, none⟩), .int .i64 op, .int .i64 a, .int .i64 b, .int .i64 c] w fun e w' => e = .returned (.tuple #[.int .i64 0, .bool false]) ∧
      Mem w' mb n (.slice (some ⟨eb, 0, none⟩) n n) (x + 1) y ∧ Kept (· = mb) w w' := by
  have hM := Lib.hid h
  obtain ⟨hlt, c0, c1, c2, c3, hf⟩ := h
  have hlt2 := ht.lt
  have hf2 := hf 2
  have hf3 := hf 3
  have hsl := slotOf_lt hn op a b c
  obtain ⟨s, hs⟩ : ∃ s, s = slotOf n op a b c := ⟨_, rfl⟩
  rw [← hs] at hfull hsl
  have e0 := ht.cell s hsl 0 (by omega)
  have e1 := ht.cell s hsl 1 (by omega)
  have e2 := ht.cell s hsl 2 (by omega)
  have e3 := ht.cell s hsl 3 (by omega)
  have e4 := ht.cell s hsl 4 (by omega)
  have e5 := ht.cell s hsl 5 (by omega)
  simp only [entVal, hfull, Nat.add_zero] at e0 e1 e2 e3 e4 e5
  clear hfull ht
  have HS := Lib.hid hs
  clear hs
  go_enter Try.func18, Try.ntmps18
  go_wp2_with fail
  refine (place_any mb eb n op a b c _ hn hn' (by simp; omega) ?_).mono ?_
  · go_simp
  rintro e w1 ⟨rfl, hb⟩
  rw [← HS.out]
  obtain ⟨bc, bf⟩ := bcell hb
  go_wp2_with fail
  go_quiet (fail)
  go_wp2
  go_ret2
  have K1 := ((((Kept.refl (fun _ => False) (w.setCell ⟨mb, 2, none⟩ (.int .i64 ((x : Int) + 1)))).alloc _).trans (Kept.of_below hb)).drewN nq)
  exact ⟨rfl, (Mem.ask hM.out).kept K1 (fun h => h), ((Kept.refl (· = mb) w).setCell (p := ⟨mb, 2, none⟩) (.inl rfl) _).trans (K1.mono (fun _ _ h => h.elim))⟩

set_option maxHeartbeats 400000 in
theorem get_miss2 (mb eb n x y : Nat) (t : Nat → Ent) (op a b c : Int) (w : World) (hn : 0 < n) (hn' : n ≤ 65536) (h : Mem w mb n (.slice (some ⟨eb, 0, none⟩) n n) x y) (ht : Tab w eb n t) (hne : mb ≠ eb) (hx : x < 1000000) (hy : y < 1000000)
    (hfull : (t (slotOf n op a b c)).full = true) (hkey : keyEq (t (slotOf n op a b c)) op a b c = false) :
    Calls Try.prog 18 #[.pointer (some ⟨mb, 0, none⟩), .int .i64 op, .int .i64 a, .int .i64 b, .int .i64 c] w fun e w' => e = .returned (.tuple #[.int .i64 0, .bool false]) ∧
      Mem w' mb n (.slice (some ⟨eb, 0, none⟩) n n) (x + 1) y ∧ Kept (· = mb) w w' := by
  have hM := Lib.hid h
  obtain ⟨hlt, c0, c1, c2, c3, hf⟩ := h
  have hlt2 := ht.lt
  have hf2 := hf 2
  have hf3 := hf 3
  have hsl := slotOf_lt hn op a b c
  obtain ⟨s, hs⟩ : ∃ s, s = slotOf n op a b c := ⟨_, rfl⟩
  rw [← hs] at hfull hkey hsl
  have e0 := ht.cell s hsl 0 (by omega)
  have e1 := ht.cell s hsl 1 (by omega)
  have e2 := ht.cell s hsl 2 (by omega)
  have e3 := ht.cell s hsl 3 (by omega)
  have e4 := ht.cell s hsl 4 (by omega)
  have e5 := ht.cell s hsl 5 (by omega)
  simp only [entVal, hfull, Nat.add_zero] at e0 e1 e2 e3 e4 e5
  have hneq := fun w => run_keyNeq (t s).op (t s).a (t s).b (t s).c op a b c w
  have hk' : (!((t s).op == op && ((t s).a == a && ((t s).b == b && (t s).c == c)))) = true := by
    rw [← Bool.and_assoc, ← Bool.and_assoc]; simp only [keyEq] at hkey; rw [hkey]; rfl
  rw [hk'] at hneq
  generalize (t s).r = r at *
  generalize (t s).op = q0 at *
  generalize (t s).a = q1 at *
  generalize (t s).b = q2 at *
  generalize (t s).c = q3 at *
  clear hfull ht hkey hk'
  have HS := Lib.hid hs
  clear hs
  go_enter Try.func18, Try.ntmps18
  go_wp2_with fail
  refine (place_any mb eb n op a b c _ hn hn' (by simp; omega) ?_).mono ?_
  · go_simp
  rintro e w1 ⟨rfl, hb⟩
  rw [← HS.out]
  obtain ⟨bc, bf⟩ := bcell hb
  go_wp2_with fail
  go_quiet (fail)
  go_wp2
  go_ret2
  have K1 := ((((Kept.refl (fun _ => False) (w.setCell ⟨mb, 2, none⟩ (.int .i64 ((x : Int) + 1)))).alloc _).trans (Kept.of_below hb)).drewN nq)
  exact ⟨rfl, (Mem.ask hM.out).kept K1 (fun h => h), ((Kept.refl (· = mb) w).setCell (p := ⟨mb, 2, none⟩) (.inl rfl) _).trans (K1.mono (fun _ _ h => h.elim))⟩

end Go.Proofs.Ytlcikbegpkaflaa
