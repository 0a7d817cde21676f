/- A slice of operations; the reference's search over it. -/
import Derived.Test.YtlcikbegpkaflaaNil
import Derived.Deep.RegionHeld3
namespace Go.Proofs.Ytlcikbegpkaflaa
open Go.ChangeShapes Go.WideShapes Go.ChangeAt Go.RowKit Go.Deep Go.Joins
set_option linter.unusedVariables false

def actV (z : Act1) : Nat → Value
  | 0 => .int .u8 z.kind
  | 1 => .int .i64 z.op
  | 2 => .int .i64 z.a
  | 3 => .int .i64 z.b
  | 4 => .int .i64 z.c
  | _ => .int .i64 z.r

/-- The slice at A reads as the operations l. -/
def ActsAt (w : World) (A : Option Addr) (l : List Act1) : Prop :=
  l = [] ∨ ∃ b off, A = some ⟨b, off, none⟩ ∧ b < w.heap.size ∧ ∀ k z, l[k]? = some z → ∀ j, j < 6 → w.cell? ⟨b, off + k * 6 + j, none⟩ = some (actV z j)

theorem ActsAt.kept {w w' : World} {A : Option Addr} {l : List Act1} (h : ActsAt w A l) (hk : Below w.heap.size w w') : ActsAt w' A l := by
  rcases h with rfl | ⟨b, off, rfl, hb, hc⟩
  · exact .inl rfl
  · exact .inr ⟨b, off, rfl, Nat.lt_of_lt_of_le hb hk.size, fun k z hz j hj => by rw [hk.cell (p := ⟨b, _, none⟩) hb]; exact hc k z hz j hj⟩

theorem addr_add (a : Addr) (n : Nat) (h : a.spot = none) : a.add n = ⟨a.block, a.off + n, none⟩ := by
  unfold Addr.add
  split
  · rename_i h0; subst h0; cases a; simp_all
  · cases a; simp_all

/-- A slice of operations that came in. -/
theorem open_acts {H : Type} {enc : TypeId × Value → H} {W : World} {base : Nat} {v : Value} {d : DataW H} {p : List MemPlace}
    (hv : Value.okWide Try.prog W .any base 22 v) (h : DataW.Trod enc Try.prog W 0 (fun _ => true) true 22 v d p) : ∃ A c, ∃ l : List Act1, v = .slice A l.length c ∧ l.length ≤ maxLen ∧ ActsAt W A l := by
  obtain ⟨A, len, cap, rfl⟩ := okWide_slice Try.underlying22 hv
  obtain ⟨fuel, hf⟩ := h
  have hlt := DataW.trod_lt fuel _ _ _ hf
  rcases open_slice_fields Try.underlying22 Try.underlying27 (by kernel_rfl) (by kernel_rfl) hf with ⟨hcs, -⟩ | ⟨a, len', cap', m, D, Pl, hcs, _, hl, hm, hmm, hx, hi⟩
  · simp [Value.cells] at hcs
    obtain ⟨rfl, rfl, rfl⟩ := hcs
    exact ⟨none, 0, [], rfl, by simp, .inl rfl⟩
  · simp [Value.cells] at hcs
    obtain ⟨rfl, rfl, rfl⟩ := hcs
    have hz : ∀ i, i < len → ∃ z : Act1, ∀ j, j < 6 → W.cell? (a.add (i * 6 + j)) = some (actV z j) := by
      intro i hil
      obtain ⟨ys, n, -, -, -, hf⟩ := hi i (by rw [hmm]; split <;> omega)
      obtain ⟨v0, y0, c0, -, t0⟩ := hf 0 _ rfl
      obtain ⟨v1, y1, c1, -, t1⟩ := hf 1 _ rfl
      obtain ⟨v2, y2, c2, -, t2⟩ := hf 2 _ rfl
      obtain ⟨v3, y3, c3, -, t3⟩ := hf 3 _ rfl
      obtain ⟨v4, y4, c4, -, t4⟩ := hf 4 _ rfl
      obtain ⟨v5, y5, c5, -, t5⟩ := hf 5 _ rfl
      obtain ⟨x0, e0, -, -⟩ := DataW.trod_int Try.underlying5 t0
      obtain ⟨x1, e1, -, -⟩ := DataW.trod_int Try.underlying3 t1
      obtain ⟨x2, e2, -, -⟩ := DataW.trod_int Try.underlying3 t2
      obtain ⟨x3, e3, -, -⟩ := DataW.trod_int Try.underlying3 t3
      obtain ⟨x4, e4, -, -⟩ := DataW.trod_int Try.underlying3 t4
      obtain ⟨x5, e5, -, -⟩ := DataW.trod_int Try.underlying3 t5
      simp only [List.cons.injEq, and_true] at e0 e1 e2 e3 e4 e5
      subst e0 e1 e2 e3 e4 e5
      refine ⟨⟨x0, x1, x2, x3, x4, x5⟩, fun j hj => ?_⟩
      have hj' : j = 0 ∨ j = 1 ∨ j = 2 ∨ j = 3 ∨ j = 4 ∨ j = 5 := by omega
      rcases hj' with rfl | rfl | rfl | rfl | rfl | rfl
      · exact c0
      · exact c1
      · exact c2
      · exact c3
      · exact c4
      · exact c5
    obtain ⟨f, hf⟩ : ∃ f : Nat → Act1, ∀ i, i < len → ∀ j, j < 6 → W.cell? (a.add (i * 6 + j)) = some (actV (f i) j) :=
      ⟨fun i => if h : i < len then Classical.choose (hz i h) else ⟨0, 0, 0, 0, 0, 0⟩, fun i hil => by
        simp only [hil, dite_true]
        exact Classical.choose_spec (hz i hil)⟩
    refine ⟨some a, cap, (List.range len).map f, by simp, by simp; omega, ?_⟩
    by_cases h0 : len = 0
    · subst h0; exact .inl rfl
    · have c00 := hf 0 (by omega) 0 (by omega)
      have hsp : a.spot = none := by
        have := World.cell?_spot c00
        simpa [Addr.add] using this
      obtain ⟨b, off, spot⟩ := a
      simp only at hsp
      subst hsp
      have hb := World.block_lt_of_cell? W _ c00
      refine .inr ⟨b, off, rfl, by simpa [Addr.add] using hb, fun k z hk j hj => ?_⟩
      have hkl : k < len := by
        have := (List.getElem?_eq_some_iff.1 hk).1
        simpa using this
      have hz : z = f k := by
        rw [List.getElem?_map, List.getElem?_range hkl] at hk
        simpa using hk.symm
      subst hz
      have := hf k hkl j hj
      rw [addr_add _ _ rfl, ← Nat.add_assoc] at this
      exact this

theorem take_rev {l : List Act1} {j : Nat} {z : Act1} (h : l[j]? = some z) : (l.take (j + 1)).reverse = z :: (l.take j).reverse := by
  obtain ⟨hj, rfl⟩ := List.getElem?_eq_some_iff.1 h
  rw [List.take_succ_eq_append_getElem hj]
  simp

theorem keptR_step2 {z y : Act1} {r : List Act1} {b : Bool} (h : z.kind = 2) : keptR (z :: r) y b = (0, false, false) := by
  unfold keptR; rw [if_pos h]
theorem keptR_step1 {z y : Act1} {r : List Act1} {b : Bool} (h : z.kind = 1) (hs : sameKey z y = true) : keptR (z :: r) y b = (z.r, true, b) := by
  unfold keptR; rw [if_neg (by omega), if_pos h, if_pos hs]
theorem keptR_step1' {z y : Act1} {r : List Act1} {b : Bool} (h : z.kind = 1) (hs : sameKey z y = false) : keptR (z :: r) y b = keptR r y false := by
  rw [keptR, if_neg (by omega), if_pos h, if_neg (by simp [hs])]
theorem keptR_step0 {z y : Act1} {r : List Act1} {b : Bool} (h : z.kind ≠ 2) (h' : z.kind ≠ 1) : keptR (z :: r) y b = keptR r y b := by
  rw [keptR, if_neg h, if_neg h']

def keptV (p : Int × Bool × Bool) : Value := .tuple #[.int .i64 p.1, .bool p.2.1, .bool p.2.2]

set_option maxHeartbeats 1000000 in
theorem kept_any (A : Option Addr) (c : Nat) (l : List Act1) (k : Nat) (y : Act1) (w : World) (hl : ActsAt w A l) (hk : l[k]? = some y) (hlen : l.length ≤ 80) :
    Calls Try.prog 12 #[.slice A l.length c, .int .i64 k] w fun e w' => e = .returned (keptV (keptR (l.take k).reverse y true)) ∧ Below w.heap.size w w' := by
  have hkl : k < l.length := (List.getElem?_eq_some_iff.1 hk).1
  rcases hl with rfl | ⟨b, off, rfl, hb, hcell⟩
  · simp at hkl
  have y0 := hcell k y hk 0 (by omega)
  have y1 := hcell k y hk 1 (by omega)
  have y2 := hcell k y hk 2 (by omega)
  have y3 := hcell k y hk 3 (by omega)
  have y4 := hcell k y hk 4 (by omega)
  have y5 := hcell k y hk 5 (by omega)
  simp only [actV, Nat.add_zero] at y0 y1 y2 y3 y4 y5
  have HC := Lib.hid hcell
  have HKY := Lib.hid hk
  obtain ⟨n, hn⟩ : ∃ n, n = l.length := ⟨_, rfl⟩
  rw [← hn] at hkl hlen ⊢
  have HN := Lib.hid hn
  clear hcell hk hn
  go_enter Try.func12, Try.ntmps12
  go_wp2_with fail
  go_loopw [7, 8] (fun la i wr => ∃ (j : Nat) (bb : Bool), j ≤ k ∧ i = .int .i64 ((j : Int) - 1) ∧ la = .bool bb ∧ Below w.heap.size w wr ∧ keptR (l.take k).reverse y true = keptR (l.take j).reverse y bb) (fun _ i _ => (intOf i + 1).toNat)
  case atStart => exact ⟨k, true, Nat.le_refl _, rfl, rfl, Below.refl _ _, rfl⟩
  case round =>
    obtain ⟨j, bb, hj, rfl, rfl, hbel, heq⟩ := hrel
    have HE := Lib.hid heq
    have HB := Lib.hid hbel
    obtain ⟨bc, bf⟩ := bcell hbel
    have hsz := hbel.size
    clear heq hbel
    rcases j with _ | j
    · go_wp2
      go_ret3
      exact ⟨by rw [HE.out]; rfl, HB.out⟩
    · rw [show ((j + 1 : Nat) : Int) - 1 = (j : Int) by omega]
      obtain ⟨z, hz⟩ : ∃ z, l[j]? = some z := ⟨_, List.getElem?_eq_getElem (by have := HN.out; omega)⟩
      have z0 := HC.out j z hz 0 (by omega)
      have z1 := HC.out j z hz 1 (by omega)
      have z2 := HC.out j z hz 2 (by omega)
      have z3 := HC.out j z hz 3 (by omega)
      have z4 := HC.out j z hz 4 (by omega)
      have z5 := HC.out j z hz 5 (by omega)
      simp only [actV, Nat.add_zero] at z0 z1 z2 z3 z4 z5
      have HT := Lib.hid (take_rev hz)
      clear hz
      have hj0 : (0 : Int) ≤ (j : Int) := by omega
      have hj1 : (j : Int) < (n : Int) := by omega
      have hk0 : (0 : Int) ≤ (k : Int) := by omega
      have hk1 : (k : Int) < (n : Int) := by omega
      by_cases h2 : z.kind = 2
      · rw [h2] at z0
        have HF := Lib.hid (keptR_step2 (y := y) (r := (l.take j).reverse) (b := bb) h2)
        clear h2
        go_wp2
        go_ret3
        exact ⟨by rw [HE.out, HT.out, HF.out]; rfl, HB.out⟩
      · have h2' : (z.kind == 2) = false := by simpa using h2
        by_cases h1 : z.kind = 1
        · rw [h1] at z0
          have HF := Lib.hid (fun hs => keptR_step1 (y := y) (r := (l.take j).reverse) (b := bb) h1 hs)
          have HG := Lib.hid (fun hs => keptR_step1' (y := y) (r := (l.take j).reverse) (b := bb) h1 hs)
          have hkey := fun (w2 : World) => key_any z y w2
          unfold Act1.val at hkey
          rw [h1] at hkey
          have HKK := Lib.hid hkey
          clear hkey
          clear h2' h1 h2
          cases hs : sameKey z y
          all_goals
            rw [hs] at HKK HF HG
            clear hs
            go_wp2_with fail
            go_region_held3 (fun w' => (∀ o, w'.cell? ⟨b, o, none⟩ = w.cell? ⟨b, o, none⟩)) (first | go_keep | (intro o; rw [bc1 b o (by simp; omega)]; simp [bc, hb]; done))
              (first | (go_at_call 19; refine (HKK.out _).mono ?_; rintro e w1 ⟨rfl, hb1⟩; obtain ⟨bc1, bf1⟩ := bcell hb1))
            have HB1 := HB.out.drew.trans (hb1.mono hsz)
            clear bc1 bf1 hb1
          · go_wp2
            go_roundw
            case rel => exact ⟨j, false, by omega, by go_num, rfl, HB1, by rw [HE.out, HT.out, HG.out (by trivial)]⟩
            case measure => simp [intOf]
          · go_wp2
            go_ret3
            exact ⟨by rw [HE.out, HT.out, HF.out (by trivial)]; rfl, HB1⟩
        · have h1' : (z.kind == 1) = false := by simpa using h1
          have HF := Lib.hid (keptR_step0 (y := y) (r := (l.take j).reverse) (b := bb) h2 h1)
          clear h1 h2
          go_wp2
          go_roundw
          case rel => exact ⟨j, bb, by omega, by go_num, rfl, HB.out, by rw [HE.out, HT.out, HF.out]⟩
          case measure => simp [intOf]
end Go.Proofs.Ytlcikbegpkaflaa
