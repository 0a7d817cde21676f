/- Walks of the law's package: the change of one row of tokens into the other; the examples. -/
import Derived.Test.YtnhabokkjmcdoaaDoorLexF
namespace Go.Proofs.YtnhabokkjmcdoaaDoor
open Go.RowKit
set_option linter.unusedVariables false

theorem flat_take_snoc {l : List Tok} {k : Nat} {z : Tok} (h : l[k]? = some z) : flat (l.take (k + 1)) = flat (l.take k) ++ tokL z := by
  obtain ⟨hj, rfl⟩ := List.getElem?_eq_some_iff.1 h
  rw [List.take_succ_eq_append_getElem hj, flat_snoc]

set_option maxRecDepth 100000 in
set_option maxHeartbeats 4000000 in
theorem to_any (A : Option Addr) (c : Nat) (l : List Tok) (w : World) (hl : l.length ≤ 1000000) (hA : ToksAt w A l) :
    Calls Tryd.prog 18 #[.slice A l.length c] w fun e w' => ∃ v, e = .returned v ∧ w'.ownsRow w.heap.size 28 4 v l.length (flat l) ∧ Below w.heap.size w w' := by
  obtain ⟨n, hn⟩ : ∃ n, n = l.length := ⟨_, rfl⟩
  rw [← hn] at hl ⊢
  have HN := Lib.hid hn
  have HAA := Lib.hid hA
  clear hn hA
  obtain ⟨i0, hi, hz0, hz1, hz2⟩ := info_parts Tryd.infoR
  go_enter Tryd.func18, Tryd.ntmps18
  go_wp2
  go_loopw [3, 4] (fun sv si wr => ∃ (k : Nat) (v : Value), k ≤ n ∧ v = sv ∧ si = .int .i64 k ∧ wr.ownsRow w.heap.size 28 4 v k (flat (l.take k)) ∧ Below w.heap.size w wr) (fun _ i _ => n - (intOf i).toNat)
  case atStart => exact ⟨0, _, Nat.zero_le _, rfl, rfl, World.ownsRow_made _ _ 0 (Nat.le_refl _) (Nat.zero_le _) rfl, (Below.refl _ _).alloc (Nat.le_refl _) _⟩
  case round =>
    obtain ⟨k, v, hk, rfl, rfl, how, hbel⟩ := hrel
    have HO := Lib.hid how
    have HB := Lib.hid hbel
    have hsz := hbel.size
    by_cases hlt : k < n
    · obtain ⟨z, hz⟩ : ∃ z, l[k]? = some z := ⟨_, List.getElem?_eq_getElem (by have := HN.out; omega)⟩
      rcases HAA.out with h0 | ⟨b, off, rfl, hb, hc0⟩
      · rw [h0] at hz; simp at hz
      have hc : ∀ j, j < 4 → wr.cell? ⟨b, off + k * 4 + j, none⟩ = some (tokV z j) := fun j hj => by
        rw [hbel.cell (p := ⟨b, _, none⟩) hb]
        exact hc0 k z hz j hj
      have x0 := hc 0 (by omega)
      have x1 := hc 1 (by omega)
      have x2 := hc 2 (by omega)
      have x3 := hc 3 (by omega)
      simp only [tokV, Nat.add_zero] at x0 x1 x2 x3
      have HF := Lib.hid (flat_take_snoc hz)
      have hlt0 := HO.out.lt
      have hob : v.ownBlock ≠ some b := fun h => by have := (hlt0 b h).1; omega
      have hbw : b < wr.heap.size := by omega
      clear hc hc0 hz how hbel hlt0
      have hk0 : (0 : Int) ≤ (k : Int) := by omega
      have hk1 : (k : Int) < (n : Int) := by omega
      go_wp2_with fail
      go_region_held3 (fun w' => w'.cell? ⟨b, off + k * 4, none⟩ = some (.int .i64 z.kind) ∧ w'.cell? ⟨b, off + k * 4 + 1, none⟩ = some (.int .i64 z.n) ∧ w'.cell? ⟨b, off + k * 4 + 2, none⟩ = some (.string ⟨z.text.toArray⟩) ∧ w'.cell? ⟨b, off + k * 4 + 3, none⟩ = some (.int .i64 z.at_))
        (first
          | go_keep
          | (go_split_ands
             refine ⟨?_, ?_, ?_, ?_⟩
             · (rw [hgrow.cell_far _ (by simp; omega) (Ne.symm hob)]; assumption)
             · (rw [hgrow.cell_far _ (by simp; omega) (Ne.symm hob)]; assumption)
             · (rw [hgrow.cell_far _ (by simp; omega) (Ne.symm hob)]; assumption)
             · (rw [hgrow.cell_far _ (by simp; omega) (Ne.symm hob)]; assumption)))
        ((refine step_append_lies _ (by rfl) _ _ _ (by rfl) w.heap.size 28 i0 _ 4 40 Tryd.underlying32 hi hz0 hz1 hz2 rfl (by omega) v k (flat (l.take k)) (by rfl) ((HO.out.alloc _).drew)
            ⟨wr.heap.size, 0, none⟩ 1 1 (tokL z) (by rfl) (by rfl) (World.news_of_block (cs := #[.int .i64 z.kind, .int .i64 z.n, .string ⟨z.text.toArray⟩, .int .i64 z.at_]) (t := 28) (fr := (0, 0)) (heap_alloc_new wr _)) (by simp [Value.oneCell', tokL])
            (by omega) (by unfold maxLen; omega) (by omega) (by simp; omega) (wr.heap.size + 1) (by simp) ?_; intro gg cap w1 hown1 hgrow hat hlt))
      go_wp2
      go_roundw
      case rel => exact ⟨k + 1, _, by omega, rfl, by go_num, by rw [HF.out]; exact hown1, (HB.out.alloc hsz _).drew.grown hgrow (by simp; omega) (fun q hq => (HO.out.lt q hq).1)⟩
      case measure => simp [intOf]; omega
    · have hkn : k = n := by omega
      subst hkn
      have ht : l.take k = l := List.take_of_length_le (by have := HN.out; omega)
      rw [ht] at HO
      clear ht how hbel
      have hk1 : ¬ (k : Int) < (k : Int) := by omega
      go_wp2
      go_ret
      exact ⟨_, rfl, HO.out, HB.out⟩
end Go.Proofs.YtnhabokkjmcdoaaDoor
