/- The reference's list of unlike operations. -/
import Derived.Test.YtlcikbegpkaflaaG
import Derived.Deep.AppendLies
namespace Go.Proofs.Ytlcikbegpkaflaa
open Go.ChangeShapes Go.WideShapes Go.ChangeAt Go.RowKit Go.Deep Go.Joins
set_option linter.unusedVariables false

def hasKey (out : List Act1) (z : Act1) : Bool := out.any (fun x => sameKey x z)
def unlikeStep (out : List Act1) (z : Act1) : List Act1 := if hasKey out z then out else out ++ [z]
def unlike (l : List Act1) : List Act1 := l.foldl unlikeStep []

theorem unlike_take {l : List Act1} {k : Nat} {z : Act1} (h : l[k]? = some z) : unlike (l.take (k + 1)) = unlikeStep (unlike (l.take k)) z := by
  obtain ⟨hj, rfl⟩ := List.getElem?_eq_some_iff.1 h
  unfold unlike
  rw [List.take_succ_eq_append_getElem hj, List.foldl_append]
  rfl

def actL (z : Act1) : List Value := [.int .u8 z.kind, .int .i64 z.op, .int .i64 z.a, .int .i64 z.b, .int .i64 z.c, .int .i64 z.r]
def flat (l : List Act1) : List Value := l.flatMap actL
theorem flat_length (l : List Act1) : (flat l).length = l.length * 6 := by
  unfold flat
  induction l with
  | nil => rfl
  | cons z l ih => simp only [List.flatMap_cons, List.length_append, ih, List.length_cons]; simp [actL]; omega
theorem flat_get {l : List Act1} {k j : Nat} {z : Act1} (h : l[k]? = some z) (hj : j < 6) : (flat l)[k * 6 + j]? = some (actV z j) := by
  unfold flat
  induction l generalizing k with
  | nil => simp at h
  | cons y l ih =>
    rw [List.flatMap_cons]
    cases k with
    | zero =>
      simp at h
      subst h
      rw [List.getElem?_append_left (by simp [actL]; omega)]
      have hj' : j = 0 ∨ j = 1 ∨ j = 2 ∨ j = 3 ∨ j = 4 ∨ j = 5 := by omega
      rcases hj' with rfl | rfl | rfl | rfl | rfl | rfl <;> rfl
    | succ k =>
      rw [List.getElem?_append_right (by simp [actL]; omega)]
      rw [show (k + 1) * 6 + j - (actL y).length = k * 6 + j by simp [actL]; omega]
      exact ih (by simpa using h)
theorem flat_snoc (l : List Act1) (z : Act1) : flat (l ++ [z]) = flat l ++ actL z := by simp [flat]

theorem ownsRow_below {w w' : World} {base : Nat} {e : TypeId} {size : Nat} {v : Value} {n : Nat} {xs : List Value} (h : w.ownsRow base e size v n xs) (hb : Below w.heap.size w w') : w'.ownsRow base e size v n xs := by
  refine ⟨h.1, ?_⟩
  rcases h.2 with hn | ⟨g, cap, cur, rfl, hb', hgg, rest⟩
  · exact .inl hn
  · refine .inr ⟨g, cap, cur, rfl, hb', ?_, rest⟩
    rw [hb.block g ?_]
    · exact hgg
    · have := h.lt g rfl
      exact this.2

theorem has_take {u : List Act1} {j : Nat} {x z : Act1} (h : u[j]? = some x) : hasKey (u.take (j + 1)) z = (hasKey (u.take j) z || sameKey x z) := by
  obtain ⟨hj, rfl⟩ := List.getElem?_eq_some_iff.1 h
  unfold hasKey
  rw [List.take_succ_eq_append_getElem hj, List.any_append]
  simp

/-- A row of the call's own reads as operations. -/
theorem acts_of_own {w : World} {base : Nat} {v : Value} {l : List Act1} (h : w.ownsRow base 27 6 v l.length (flat l)) : ∃ A c, v = .slice A l.length c ∧ ActsAt w A l := by
  rcases h.2 with ⟨rfl, hn⟩ | ⟨g, cap, cur, rfl, hb, hg, _⟩
  · refine ⟨none, 0, by rw [hn], .inl (List.eq_nil_of_length_eq_zero hn)⟩
  · refine ⟨_, _, rfl, .inr ⟨g, 0, rfl, (h.lt g rfl).2, fun k z hz j hj => ?_⟩⟩
    have := h.cells (g := g) rfl (k * 6 + j) _ (flat_get hz hj)
    rw [addr_add _ _ rfl] at this
    rw [Nat.zero_add]
    simpa using this

theorem Try.info27 : (Try.prog.info? 27).map (fun i => (i.zero, i.size, i.bytes)) = some (some (.agg #[.int .u8 0, .int .i64 0, .int .i64 0, .int .i64 0, .int .i64 0, .int .i64 0]), 6, 48) := by kernel_rfl

set_option maxRecDepth 100000 in
set_option maxHeartbeats 2000000 in
theorem unlike_any (A : Option Addr) (c : Nat) (l : List Act1) (w : World) (hl : ActsAt w A l) (hlen : l.length ≤ 60) :
    Calls Try.prog 16 #[.slice A l.length c] w fun e w' => ∃ v, e = .returned v ∧ w'.ownsRow w.heap.size 27 6 v (unlike l).length (flat (unlike l)) ∧ Below w.heap.size w w' := by
  have HL := Lib.hid hl
  clear hl
  have HA := Lib.hid (show ∀ k z, l[k]? = some z → ∃ b off, A = some ⟨b, off, none⟩ ∧ b < w.heap.size ∧ ∀ j, j < 6 → w.cell? ⟨b, off + k * 6 + j, none⟩ = some (actV z j) from by
    intro k z hz
    rcases HL.out with rfl | ⟨b, off, rfl, hb, hc⟩
    · simp at hz
    · exact ⟨b, off, rfl, hb, fun j hj => hc k z hz j hj⟩)
  obtain ⟨m, hmm⟩ : ∃ m, m = l.length := ⟨_, rfl⟩
  rw [← hmm] at hlen ⊢
  have HM := Lib.hid hmm
  clear hmm
  obtain ⟨i0, hi, hz0, hz1, hz2⟩ := info_parts Try.info27
  go_enter Try.func16, Try.ntmps16
  go_wp2_with fail
  go_loopw [3, 4] (fun sv si wr => ∃ k : Nat, k ≤ m ∧ si = .int .i64 k ∧ wr.ownsRow w.heap.size 27 6 sv (unlike (l.take k)).length (flat (unlike (l.take k))) ∧ (unlike (l.take k)).length ≤ k ∧ Below w.heap.size w wr) (fun _ i _ => m - (intOf i).toNat)
  case atStart => exact ⟨0, Nat.zero_le _, rfl, World.ownsRow_made _ _ _ (Nat.le_refl _) (Nat.zero_le _) rfl, Nat.zero_le _, (Below.refl _ _).alloc (Nat.le_refl _) _⟩
  case round =>
    obtain ⟨k, hk, rfl, how, hle, hbel⟩ := hrel
    have hown0 := Lib.hid how
    obtain ⟨wo, rfl⟩ : ∃ wo : World, wo = wr := ⟨_, rfl⟩
    obtain ⟨A', c', rfl, hac⟩ := acts_of_own how
    have HB := Lib.hid hbel
    obtain ⟨bc, bf⟩ := bcell hbel
    have hsz := hbel.size
    clear hbel how hac
    by_cases hlt : k < m
    · obtain ⟨z, hz⟩ : ∃ z, l[k]? = some z := ⟨_, List.getElem?_eq_getElem (by have := HM.out; omega)⟩
      obtain ⟨b, off, rfl, hb, hc⟩ := HA.out k z hz
      have z0 := hc 0 (by omega)
      have z1 := hc 1 (by omega)
      have z2 := hc 2 (by omega)
      have z3 := hc 3 (by omega)
      have z4 := hc 4 (by omega)
      have z5 := hc 5 (by omega)
      simp only [actV, Nat.add_zero] at z0 z1 z2 z3 z4 z5
      have HU := Lib.hid (unlike_take hz)
      have HZ := Lib.hid hz
      clear hz hc
      have hk0 : (0 : Int) ≤ (k : Int) := by omega
      have hk1 : (k : Int) < (m : Int) := by omega
      obtain ⟨u, hu⟩ : ∃ u, u = unlike (l.take k) := ⟨_, rfl⟩
      rw [← hu] at hown0 hle HU ⊢
      have HUU := Lib.hid hu
      obtain ⟨n, hn⟩ : ∃ n, n = u.length := ⟨_, rfl⟩
      rw [← hn] at hown0 hle ⊢
      have HN := Lib.hid hn
      clear hn hu
      go_wp2_with fail
      go_loopw [5, 6] (fun sb sj wr => ∃ j : Nat, j ≤ n ∧ sj = .int .i64 j ∧ sb = .bool (hasKey (u.take j) z) ∧ Below wo.heap.size wo wr) (fun _ j _ => n - (intOf j).toNat)
      case atStart => exact ⟨0, Nat.zero_le _, rfl, rfl, Below.refl _ _⟩
      case round =>
        obtain ⟨j, hj, rfl, rfl, hbel2⟩ := hrel
        have hown2 := Lib.hid (ownsRow_below hown0.out hbel2)
        have hsz2 := hbel2.size
        obtain ⟨bc2, bf2⟩ := bcell hbel2
        have HB2 := Lib.hid hbel2
        clear hbel2
        by_cases hjn : j < n
        · obtain ⟨x, hx⟩ : ∃ x, u[j]? = some x := ⟨_, List.getElem?_eq_getElem (by have := HN.out; omega)⟩
          have hac := acts_of_own (l := u) (by have h1 := hown0.out; rw [HN.out] at h1; exact h1)
          obtain ⟨A3, c3, h3, hac⟩ := hac
          have hA3 : A3 = A' := by injection h3 with h3 _ _; exact h3.symm
          subst hA3
          rcases hac with h0 | ⟨g, og, rfl, hg, hcg⟩
          · rw [h0] at hx; simp at hx
          have x0 := hcg j x hx 0 (by omega)
          have x1 := hcg j x hx 1 (by omega)
          have x2 := hcg j x hx 2 (by omega)
          have x3 := hcg j x hx 3 (by omega)
          have x4 := hcg j x hx 4 (by omega)
          have x5 := hcg j x hx 5 (by omega)
          simp only [actV, Nat.add_zero] at x0 x1 x2 x3 x4 x5
          have HT := Lib.hid (has_take (z := z) hx)
          clear hcg h3 hx
          have hj0 : (0 : Int) ≤ (j : Int) := by omega
          have hj1 : (j : Int) < (n : Int) := by omega
          have hgw : g < wr.heap.size := by omega
          have hbw : b < wr.heap.size := by omega
          have hbo : b < wo.heap.size := by omega
          cases hh : hasKey (u.take j) z
          · rw [hh] at HT
            have HKK := Lib.hid (fun (w2 : World) => key_any x z w2)
            unfold Act1.val at HKK
            cases hs : sameKey x z
            all_goals
              rw [hs] at HKK HT
              clear hh hs
              go_wp2_with fail
              go_region_held3 (fun w' => (∀ o, w'.cell? ⟨b, o, none⟩ = w.cell? ⟨b, o, none⟩) ∧ (∀ o, w'.cell? ⟨g, o, none⟩ = wo.cell? ⟨g, o, none⟩))
                (first | go_keep | (refine ⟨fun o => ?_, fun o => ?_⟩ <;> (rw [bc1 _ o (by simp; omega)]; simp [*]); done))
                (first | (go_at_call 19; refine (HKK.out _).mono ?_; rintro e w1 ⟨rfl, hb1⟩; obtain ⟨bc1, bf1⟩ := bcell hb1))
              have HB3 := HB2.out.drew.trans (hb1.mono hsz2)
              clear bc1 bf1 hb1
              go_wp2
              go_roundw
              case rel => exact ⟨j + 1, by omega, by go_num, by rw [HT.out]; rfl, HB3⟩
              case measure => simp [intOf]; omega
          · rw [hh] at HT
            clear hh
            go_wp2_with fail
            go_quiet (fail)
            go_wp2
            go_roundw
            case rel => exact ⟨j + 1, by omega, by go_num, by rw [HT.out]; rfl, below_drewN HB2.out _⟩
            case measure => simp [intOf]; omega
        · have hjn' : j = n := by omega
          subst hjn'
          have hut : u.take j = u := List.take_of_length_le (by have := HN.out; omega)
          rw [hut]
          have hwsz : w.heap.size ≤ wr.heap.size := by omega
          have HB3 := Lib.hid (HB.out.trans (HB2.out.mono hsz))
          cases hh : hasKey u z
          · have HS := Lib.hid (show unlikeStep u z = u ++ [z] from by unfold unlikeStep; rw [hh]; rfl)
            clear hh hut
            have hbw : b < wr.heap.size := by omega
            have hbo : b < wo.heap.size := by omega
            go_wp2_with (at_builtin; refine wpList_append_own _ rfl _ _ 22 rfl w.heap.size 27 i0 _ 6 48 Try.underlying22 hi hz0 hz1 hz2 rfl (by decide) _ _ _ rfl (hown2.out.alloc _) ⟨wr.heap.size, 0, none⟩ 1 1 (actL z) rfl rfl ?c1 ?c2 ?c3 ?c4 ?c5 ?_)
            case c1 => exact World.news_of_block (cs := #[.int .u8 z.kind, .int .i64 z.op, .int .i64 z.a, .int .i64 z.b, .int .i64 z.c, .int .i64 z.r]) (t := 27) (fr := (0, 0)) (heap_alloc_new wr _)
            case c2 =>
              intro q hq
              simp [actL] at hq
              rcases hq with rfl | rfl | rfl | rfl | rfl | rfl <;> rfl
            case c3 => unfold maxLen; omega
            case c4 => omega
            case c5 => simp; omega
            intro v' w3 hown3 hgrow3 _
            have hgr := Lib.hid hgrow3
            have HO3 := Lib.hid hown3
            clear hown3 hgrow3
            go_wp2
            go_roundw
            case rel =>
              refine ⟨k + 1, by omega, by go_num, ?_, ?_, ?_⟩
              · rw [HU.out, HS.out, flat_snoc, List.length_append, ← HN.out]; exact HO3.out
              · rw [HU.out, HS.out, List.length_append, ← HN.out]; simp; omega
              · refine (HB3.out.alloc hwsz _).grown hgr.out (by simp; omega) (fun q hq => ?_)
                exact (hown2.out.lt q hq).1
            case measure => simp [intOf]; omega
          · have HS := Lib.hid (show unlikeStep u z = u from by unfold unlikeStep; rw [hh]; rfl)
            clear hh hut
            go_wp2
            go_roundw
            case rel =>
              refine ⟨k + 1, by omega, by go_num, ?_, ?_, HB3.out⟩
              · rw [HU.out, HS.out, ← HN.out]; exact hown2.out
              · rw [HU.out, HS.out, ← HN.out]; omega
            case measure => simp [intOf]; omega
    · have hkm : k = m := by omega
      subst hkm
      go_wp2
      go_ret
      have e : l.take k = l := List.take_of_length_le (by have := HM.out; omega)
      refine ⟨.slice A' (unlike (l.take k)).length c', rfl, ?_, HB.out⟩
      have := hown0.out
      rw [e] at this ⊢
      exact this
end Go.Proofs.Ytlcikbegpkaflaa
