/- A table never keeps more entries than its size and always keeps the most recent one: MemoRoom returns true. No condition. -/
import Derived.Test.YtlcikbegpkaflaaH
namespace Go.Proofs.Ytlcikbegpkaflaa
open Go.ChangeShapes Go.WideShapes Go.ChangeAt Go.RowKit Go.Deep Go.Joins
set_option linter.unusedVariables false

theorem nodup_len : ∀ (n : Nat) (L : List Nat), L.Nodup → (∀ x ∈ L, x < n) → L.length ≤ n
  | 0, L, _, h => by
    cases L with
    | nil => simp
    | cons a L => exact absurd (h a (by simp)) (by omega)
  | n + 1, L, hn, h => by
    have h1 := nodup_len n (L.erase n) (hn.erase n) (fun x hx => by
      have := (List.Nodup.mem_erase_iff hn).1 hx
      have := h x this.2
      omega)
    have h2 : L.length ≤ (L.erase n).length + 1 := by
      rw [List.length_erase]
      split <;> omega
    omega

theorem unlike_le (l : List Act1) : (unlike l).length ≤ l.length := by
  have key : ∀ (l out : List Act1), (l.foldl unlikeStep out).length ≤ out.length + l.length := by
    intro l
    induction l with
    | nil => simp
    | cons z l ih =>
      intro out
      refine Nat.le_trans (ih _) ?_
      unfold unlikeStep
      split <;> simp <;> omega
  have := key l []
  rw [List.length_nil, Nat.zero_add] at this
  exact this
theorem HK2toB {w a b : World} (h : Below w.heap.size w a) (hk : Kept (· = w.heap.size) a b) : Below w.heap.size w b :=
  h.trans (hk.below h.size (fun q h => by have h' : q = w.heap.size := h; omega))

theorem unlike_pair (l : List Act1) : (unlike l).Pairwise (fun a b => sameKey a b = false) := by
  have key : ∀ (l out : List Act1), out.Pairwise (fun a b => sameKey a b = false) → (l.foldl unlikeStep out).Pairwise (fun a b => sameKey a b = false) := by
    intro l
    induction l with
    | nil => exact fun _ h => h
    | cons z l ih =>
      intro out h
      refine ih _ ?_
      unfold unlikeStep
      split
      · exact h
      · rename_i hh
        rw [List.pairwise_append]
        refine ⟨h, by simp, fun a ha b hb => ?_⟩
        simp at hb
        subst hb
        simp [hasKey] at hh
        exact hh a ha
  exact key l [] List.Pairwise.nil

def foundN (n : Nat) (t : Nat → Ent) (u : List Act1) : Nat := (u.filter (fun y => (lookA n t y).2)).length

theorem found_slot {n : Nat} {t : Nat → Ent} {y : Act1} (h : (lookA n t y).2 = true) : keyEq (t (slotOf n y.op y.a y.b y.c)) y.op y.a y.b y.c = true := by
  unfold lookA look at h
  split at h
  · rename_i h1
    simp only [Bool.and_eq_true] at h1
    exact h1.2
  · cases h

theorem found_le (n : Nat) (hn : 0 < n) (t : Nat → Ent) (l : List Act1) : foundN n t (unlike l) ≤ n := by
  unfold foundN
  have h1 := (unlike_pair l).filter (fun y => (lookA n t y).2)
  have h2 : ∀ y ∈ (unlike l).filter (fun y => (lookA n t y).2), (lookA n t y).2 = true := fun y hy => by simpa using (List.mem_filter.1 hy).2
  generalize (unlike l).filter (fun y => (lookA n t y).2) = u at h1 h2
  have h3 : (u.map (fun y => slotOf n y.op y.a y.b y.c)).Nodup := by
    unfold List.Nodup
    rw [List.pairwise_map]
    refine List.Pairwise.imp_of_mem ?_ h1
    intro a b ha hb hab he
    have ea := found_slot (h2 a ha)
    have eb := found_slot (h2 b hb)
    rw [he] at ea
    simp only [keyEq, Bool.and_eq_true, beq_iff_eq] at ea eb
    have : sameKey a b = true := sameKey_iff.2 ⟨ea.1.1.1.symm.trans eb.1.1.1, ea.1.1.2.symm.trans eb.1.1.2, ea.1.2.symm.trans eb.1.2, ea.2.symm.trans eb.2⟩
    rw [this] at hab
    cases hab
  have := nodup_len n _ h3 (fun x hx => by
    obtain ⟨y, _, rfl⟩ := List.mem_map.1 hx
    exact slotOf_lt hn _ _ _ _)
  simpa using this

theorem found_take {n : Nat} {t : Nat → Ent} {u : List Act1} {k : Nat} {z : Act1} (h : u[k]? = some z) : foundN n t (u.take (k + 1)) = foundN n t (u.take k) + hits (lookA n t z) := by
  obtain ⟨hj, rfl⟩ := List.getElem?_eq_some_iff.1 h
  unfold foundN hits
  rw [List.take_succ_eq_append_getElem hj, List.filter_append, List.length_append]
  cases hh : (lookA n t u[k]).2 <;> simp [hh]

theorem acts_of_own2 {w : World} {base : Nat} {A : Option Addr} {c : Nat} {l : List Act1} (h : w.ownsRow base 27 6 (.slice A l.length c) l.length (flat l)) : ∀ k z, l[k]? = some z → ∃ b off, A = some ⟨b, off, none⟩ ∧ base ≤ b ∧ b < w.heap.size ∧ ∀ j, j < 6 → w.cell? ⟨b, off + k * 6 + j, none⟩ = some (actV z j) := by
  intro k z hz
  rcases h.2 with ⟨hn, hn'⟩ | ⟨g, cap, cur, hv, hb, hg, _⟩
  · have := List.eq_nil_of_length_eq_zero hn'
    subst this
    simp at hz
  · injection hv with hv _ _
    subst hv
    refine ⟨g, 0, rfl, hb, (h.lt g rfl).2, fun j hj => ?_⟩
    have := h.cells (g := g) rfl (k * 6 + j) _ (flat_get hz hj)
    rw [addr_add _ _ rfl] at this
    rw [Nat.zero_add]
    simpa using this

/-- The table after Puts alone. -/
def puts (n : Nat) (l : List Act1) : Nat → Ent := l.foldl (fun t z => putA n t z) (fun _ => noEnt)
theorem puts_take {n : Nat} {l : List Act1} {k : Nat} {z : Act1} (h : l[k]? = some z) : puts n (l.take (k + 1)) = putA n (puts n (l.take k)) z := by
  obtain ⟨hj, rfl⟩ := List.getElem?_eq_some_iff.1 h
  unfold puts
  rw [List.take_succ_eq_append_getElem hj, List.foldl_append]
  rfl
theorem puts_last {n : Nat} {l : List Act1} {z : Act1} (h : l[l.length - 1]? = some z) (h0 : 0 < l.length) : lookA n (puts n l) z = (z.r, true) := by
  have h1 := puts_take (n := n) h
  rw [show l.length - 1 + 1 = l.length by omega, List.take_length] at h1
  rw [h1, lookA_same (sameKey_refl z)]

set_option maxRecDepth 100000 in
set_option maxHeartbeats 2000000 in
theorem memoRoom_any (n : Int) (A : Option Addr) (c : Nat) (l : List Act1) (w : World) (hl : ActsAt w A l) (hm : l.length ≤ maxLen) :
    Calls Try.prog 4 #[.int .i64 n, .slice A l.length c] w fun e w' => e = .returned (.bool true) ∧ Below w.heap.size w w' := by
  unfold maxLen at hm
  by_cases h80 : 60 < l.length
  · have h80' : (60 : Int) < (l.length : Int) := by omega
    go_enter Try.func4, Try.ntmps4
    go_wp2_with fail
    refine (lives_any w).mono ?_
    rintro e w1 ⟨rfl, hk⟩
    have HK := Lib.hid hk
    clear hk
    go_wp2
    go_ret
    exact ⟨rfl, HK.out.below (Nat.le_refl _) (fun _ h => h.elim)⟩
  · have HL := Lib.hid hl
    clear hl hm
    have HA := Lib.hid (show ∀ k z, l[k]? = some z → ∃ b off, A = some ⟨b, off, none⟩ ∧ b < w.heap.size ∧ ∀ j, j < 6 → w.cell? ⟨b, off + k * 6 + j, none⟩ = some (actV z j) from by
      intro k z hz
      rcases HL.out with rfl | ⟨b, off, rfl, hb, hc⟩
      · simp at hz
      · exact ⟨b, off, rfl, hb, fun j hj => hc k z hz j hj⟩)
    have HF := Lib.hid (found_le (min (max n 1) 65536).toNat (by omega) (puts (min (max n 1) 65536).toNat l) l)
    obtain ⟨m, hmm⟩ : ∃ m, m = l.length := ⟨_, rfl⟩
    rw [← hmm] at h80 ⊢
    have HM := Lib.hid hmm
    clear hmm
    go_enter Try.func4, Try.ntmps4
    go_wp2_with fail
    refine (new_is n w).mono ?_
    rintro e w1 ⟨rfl, hm1, hk1⟩
    have HM1 := Lib.hid hm1
    have HK1 := Lib.hid hk1
    clear hm1 hk1
    go_wp2_with fail
    go_loopw [6] (fun si wr => ∃ (k : Nat) (eo : Option Nat), k ≤ m ∧ si = .int .i64 k ∧
        IsMemo wr w.heap.size eo (min (max n 1) 65536).toNat 0 0 (puts (min (max n 1) 65536).toNat (l.take k)) ∧ (∀ e, eo = some e → w.heap.size ≤ e) ∧ Below w.heap.size w wr) (fun i _ => m - (intOf i).toNat)
    case atStart => exact ⟨0, none, Nat.zero_le _, rfl, HM1.out, (fun _ h => by cases h), HK1.out.below (Nat.le_refl _) (fun _ h => h.elim)⟩
    case round =>
      obtain ⟨k, eo, hk, rfl, hme, heo, hbel⟩ := hrel
      have HME := Lib.hid hme
      have HEO := Lib.hid heo
      have HB := Lib.hid hbel
      obtain ⟨bc, bf⟩ := bcell hbel
      have hsz := hbel.size
      clear hme heo hbel
      by_cases hlt : k < m
      · obtain ⟨z, hz⟩ : ∃ z, l[k]? = some z := ⟨_, List.getElem?_eq_getElem (by have := HM.out; omega)⟩
        obtain ⟨b, off, rfl, hb, hc⟩ := HA.out k z hz
        have z0 := hc 0 (by omega)
        have z1 := hc 1 (by omega)
        have z2 := hc 2 (by omega)
        have z3 := hc 3 (by omega)
        have z4 := hc 4 (by omega)
        have z5 := hc 5 (by omega)
        simp only [actV, Nat.add_zero] at z0 z1 z2 z3 z4 z5
        have HZ := Lib.hid hz
        clear hz hc
        have hk0 : (0 : Int) ≤ (k : Int) := by omega
        have hk1 : (k : Int) < (m : Int) := by omega
        go_wp2_with fail
        refine (lput w.heap.size eo _ 0 0 _ z _ HME.out).mono ?_
        rintro e w2 ⟨rfl, eo', hme2, hk2, ho⟩
        have HM2 := Lib.hid hme2
        have HK2 := Lib.hid hk2
        have HO2 := Lib.hid ho
        clear hme2 hk2 ho
        go_wp2
        go_roundw
        case rel =>
          refine ⟨k + 1, eo', by omega, by go_num, ?_, ?_, ?_⟩
          · rw [puts_take HZ.out]; exact HM2.out
          · intro e he
            rcases HO2.out with h | ⟨q, h, hq⟩
            · exact HEO.out e (by rw [← h]; exact he)
            · rw [h] at he; injection he with he; omega
          · exact HB.out.trans (HK2.out.below hsz (fun q h => by rcases h with h | h; omega; exact HEO.out q h))
        case measure => simp [intOf]; omega
      · have hkm : k = m := by omega
        subst hkm
        have hlk : l.take k = l := List.take_of_length_le (by have := HM.out; omega)
        rw [hlk] at HME
        clear hlk
        go_wp2_with fail
        have hun := unlike_any A c l wr (HL.out.kept HB.out) (by have := HM.out; omega)
        rw [← HM.out] at hun
        refine hun.mono ?_
        rintro e w3 ⟨v, rfl, hown, hb3⟩
        clear hun
        obtain ⟨A', c', rfl, hac⟩ := acts_of_own hown
        have HAU := Lib.hid (acts_of_own2 hown)
        have HM3 := Lib.hid (HME.out.kept (Kept.of_below (S := fun _ => False) hb3) (fun h => h) (fun _ _ h => h))
        have HB3 := Lib.hid (HB.out.trans (hb3.mono hsz))
        have HLT := Lib.hid HME.out.lt
        have hs3 := hb3.size
        clear hown hac hb3
        obtain ⟨un, hun⟩ : ∃ un, un = (unlike l).length := ⟨_, rfl⟩
        rw [← hun]
        have HUN := Lib.hid hun
        have hun80 : un ≤ 60 := by rw [hun]; have h1 := unlike_le l; have h2 := HM.out; omega
        clear hun
        obtain ⟨t, ht⟩ : ∃ t, t = puts (min (max n 1) 65536).toNat l := ⟨_, rfl⟩
        rw [← ht] at HM3 HF
        have HTT := Lib.hid ht
        clear ht
        go_wp2_with fail
        go_loopw [8, 9] (fun sn si wr2 => ∃ (j y : Nat), j ≤ un ∧ y ≤ j ∧ si = .int .i64 j ∧ sn = .int .i64 (foundN (min (max n 1) 65536).toNat t ((unlike l).take j) : Nat) ∧
            IsMemo wr2 w.heap.size eo (min (max n 1) 65536).toNat j y t ∧ Kept (· = w.heap.size) w3 wr2 ∧ foundN (min (max n 1) 65536).toNat t ((unlike l).take j) ≤ j) (fun _ i _ => un - (intOf i).toNat)
        case atStart => exact ⟨0, 0, Nat.zero_le _, Nat.le_refl _, rfl, rfl, HM3.out, Kept.refl _ _, Nat.le_refl _⟩
        case round =>
          obtain ⟨j, y, hj, hy, rfl, rfl, hme, hkk, hfj⟩ := hrel
          have HM4 := Lib.hid hme
          have HK4 := Lib.hid hkk
          have hs4 := hkk.size
          have HB4 := Lib.hid (HK2toB HB3.out hkk)
          have HFT := Lib.hid (fun z (hz : (unlike l)[j]? = some z) => found_take (n := (min (max n 1) 65536).toNat) (t := t) hz)
          have HFU := Lib.hid (show j = un → foundN (min (max n 1) 65536).toNat t ((unlike l).take j) ≤ (min (max n 1) 65536).toNat from fun h => by
            rw [h, HUN.out, List.take_length]
            exact HF.out)
          generalize foundN (min (max n 1) 65536).toNat t ((unlike l).take j) = fj at *
          have hr4 := hkk
          clear hme hkk
          by_cases hjn : j < un
          · obtain ⟨z, hz⟩ : ∃ z, (unlike l)[j]? = some z := ⟨_, List.getElem?_eq_getElem (by have := HUN.out; omega)⟩
            obtain ⟨b, off, rfl, hwb, hb, hc⟩ := HAU.out j z hz
            have hlt' := HLT.out
            have hrow := hr4.row hb (fun h => by have h' : b = w.heap.size := h; omega)
            have z0 := hc 0 (by omega)
            have z1 := hc 1 (by omega)
            have z2 := hc 2 (by omega)
            have z3 := hc 3 (by omega)
            have z4 := hc 4 (by omega)
            have z5 := hc 5 (by omega)
            simp only [actV, Nat.add_zero] at z0 z1 z2 z3 z4 z5
            have HFZ := Lib.hid (HFT.out z hz)
            clear hz hc hr4
            have hj0 : (0 : Int) ≤ (j : Int) := by omega
            have hj1 : (j : Int) < (un : Int) := by omega
            have hk60 : k ≤ 60 := by omega
            go_wp2_with fail
            refine (lget w.heap.size eo _ j y _ z _ HM4.out (by omega) (by omega)).mono ?_
            rintro e w5 ⟨rfl, hm5, hk5⟩
            have HM5 := Lib.hid hm5
            have HK5 := Lib.hid (HK4.out.trans hk5)
            clear hm5 hk5
            generalize lookA (min (max n 1) 65536).toNat t z = lk at *
            obtain ⟨r, ok⟩ := lk
            cases ok
            all_goals
              go_wp2
              go_roundw
              case rel => exact ⟨j + 1, y + _, by omega, by simp [hits]; omega, by go_num, by first | (rw [HFZ.out]; rfl) | (rw [HFZ.out]; simp [hits]; done), HM5.out, HK5.out, by rw [HFZ.out]; simp [hits]; omega⟩
              case measure => simp [intOf]; omega
          · have hjn' : j = un := by omega
            subst hjn'
            have hle : (fj : Int) ≤ ((min (max n 1) 65536).toNat : Int) := by have := HFU.out rfl; omega
            clear hr4
            have hrow := fun (b : Nat) (hb : b < w.heap.size) => HK4.out.row (b := b) (by have := HB3.out.size; omega) (fun h => by have h' : b = w.heap.size := h; omega)
            obtain ⟨bc3, bf3⟩ := bcell HB3.out
            rcases k with _ | q
            · go_wp2_with fail
              refine (size_is w.heap.size eo _ _ _ _ _ HM4.out).mono ?_
              rintro e w8 ⟨rfl, rfl⟩
              go_wp2_with fail
              refine (lives_any _).mono ?_
              rintro e w9 ⟨rfl, hk9⟩
              have HB9 := Lib.hid (HB4.out.trans (hk9.below HB4.out.size (fun _ h => h.elim)))
              clear hk9
              go_wp2
              go_ret
              exact ⟨rfl, HB9.out⟩
            · obtain ⟨z, hz⟩ : ∃ z, l[q]? = some z := ⟨_, List.getElem?_eq_getElem (by have := HM.out; omega)⟩
              obtain ⟨b, off, rfl, hb, hc⟩ := HA.out q z hz
              have hr := hrow b hb
              have z0 := hc 0 (by omega)
              have z1 := hc 1 (by omega)
              have z2 := hc 2 (by omega)
              have z3 := hc 3 (by omega)
              have z4 := hc 4 (by omega)
              have z5 := hc 5 (by omega)
              simp only [actV, Nat.add_zero] at z0 z1 z2 z3 z4 z5
              have HX := Lib.hid (puts_last (n := (min (max n 1) 65536).toNat) (l := l) (z := z) (by have := HM.out; rw [← this]; exact hz) (by have := HM.out; omega))
              rw [← HTT.out] at HX
              clear hz hc hrow
              have hj0 : (0 : Int) ≤ (q : Int) := by omega
              have hj1 : (q : Int) < ((q + 1 : Nat) : Int) := by omega
              have hne : (z.r != z.r) = false := by simp
              go_wp2_with fail
              refine (lget w.heap.size eo _ _ y _ z _ HM4.out (by omega) (by omega)).mono ?_
              rintro e w5 ⟨rfl, hm5, hk5⟩
              rw [HX.out] at hm5 ⊢
              have hr5 := hk5.row (b := b) (by have := HB4.out.size; omega) (fun h => by have h' : b = w.heap.size := h; omega)
              have HM5 := Lib.hid hm5
              have HB5 := Lib.hid (HK2toB HB4.out hk5)
              clear hm5 hk5
              go_wp2_with fail
              refine (size_is w.heap.size eo _ _ _ _ _ HM5.out).mono ?_
              rintro e w8 ⟨rfl, rfl⟩
              go_wp2_with fail
              refine (lives_any _).mono ?_
              rintro e w9 ⟨rfl, hk9⟩
              have HB9 := Lib.hid (HB5.out.trans (hk9.below HB5.out.size (fun _ h => h.elim)))
              clear hk9
              go_wp2
              go_ret
              exact ⟨rfl, HB9.out⟩

namespace lawRoom
set_option maxRecDepth 100000 in
theorem lifted (os : Os) (started : os.Started) (H : Type) (enc : TypeId × Value → H) :
    ReturnsInHanded {} Try.checked os 4 .any (Rows.memoRoomSpec.pre6 enc Try.prog Try.f4 Rows.memoRoomRow.domain false) (Rows.memoRoomSpec.post enc Try.prog Try.f4 false true false false) := by
  refine returnsInHanded_of_change (C := Try.checked) own started (by kernel_rfl) Try.func4
    (ChangeSpec.witness6 (enc := enc) (C := Try.checked) false ⟨#[], #[.int .i64 0, .slice none 0 0], []⟩ 8 (by kernel_rfl) (by kernel_rfl) (by kernel_rfl) (by kernel_rfl)) ?_
  intro W base args ds gs before hval0 hW hcnd _
  have hval : ∀ (j : Nat) t v, Try.f4.params[j]? = some t → args[j]? = some v → Value.okWide Try.prog W .any base t v := hval0
  have hW' := hW
  obtain ⟨p, q, hA0, hV, rfl, hfz, hnd⟩ := hW
  have hA : DataW.TrodAll enc Try.prog W 0 (fun _ => true) true Try.f4.params.toList args.toList ds p := hA0
  rw [Try.params4] at hA hval
  obtain ⟨v0, vs0, d0, ds0, p0, q0, hargs, rfl, rfl, h0, r0⟩ := trodAll_cons hA
  obtain ⟨v1, vs1, d1, ds1, p1, q1, rfl, rfl, rfl, h1, r1⟩ := trodAll_cons r0
  obtain ⟨rfl, rfl, rfl⟩ := trodAll_nil r1
  obtain rfl : args = #[v0, v1] := by cases args; simp_all
  obtain ⟨rfl, rfl⟩ := trodVars_none hV
  have k0 := h0
  have lt0 : ∀ x ∈ p0, x.block < W.heap.size := by obtain ⟨m, hm⟩ := k0; exact DataW.trod_lt m _ _ _ hm
  have k1 := h1
  have lt1 : ∀ x ∈ p1, x.block < W.heap.size := by obtain ⟨m, hm⟩ := k1; exact DataW.trod_lt m _ _ _ hm
  obtain ⟨n, rfl, rfl, rfl, _⟩ := open_int Try.underlying3 (hval 0 3 v0 rfl rfl) h0
  obtain ⟨A, c, l, rfl, hm, hl⟩ := open_acts (hval 1 22 v1 rfl rfl) h1
  clear hA0 hval0
  refine (memoRoom_any n A c l W hl hm).mono fun e W' ⟨he, bel⟩ => ?_
  subst he
  exact ⟨_, rfl, _, _, _, [], _, [], hW', trodAll_mk1 (shut_bool Try.underlying4 _), (trodAll_cons_mk (Below.trod laidOut (by kernel_rfl) (of_decide_eq_true (by kernel_rfl)) k0 bel lt0) (trodAll_cons_mk (Below.trod laidOut (by kernel_rfl) (of_decide_eq_true (by kernel_rfl)) k1 bel lt1) trodAll_mk0)), rfl, bel.frame _, fun h => by cases h⟩

theorem proved : Rows.MemoRoomSaid :=
  OpenClaim.holds_of_wide 4 Try.f4 rfl rfl rfl rfl rfl rfl rfl ⟨rfl, rfl, rfl, rfl, rfl⟩ rfl rfl rfl rfl rfl (by kernel_rfl) Try.func4 (by kernel_rfl)
    (of_decide_eq_true (by kernel_rfl)) (by unfold Func.isWrapper; first | (rw [if_pos (by decide +kernel)]; kernel_rfl) | (rw [if_neg (by decide +kernel)]; exact ⟨rfl, rfl⟩))
    (fun os started H enc _ => lifted os started H enc)
#print axioms proved
end lawRoom
end Go.Proofs.Ytlcikbegpkaflaa
