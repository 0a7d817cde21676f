/- Walks of the reference: whether a text is a name; whether two rows of strings are the same. -/
import Derived.Test.YtcjblbpkjegmiaaDoorLexD
import Derived.Test.YtcjblbpkjegmiaaDoorLex9
namespace Go.Proofs.YtcjblbpkjegmiaaDoor
open Go.RowKit
set_option linter.unusedVariables false

theorem StrsAt.belowB {w w' : World} {B : Nat} {A : Option Addr} {l : List ByteArray} (h : StrsAt w A l) (hb : Below B w w') (hB : B = w.heap.size) : StrsAt w' A l := by
  rcases h with h | ⟨b, off, rfl, hlt, hc⟩
  · exact .inl h
  · exact .inr ⟨b, off, rfl, Nat.lt_of_lt_of_le hlt hb.size, fun j hj => by rw [hb.cell (p := ⟨b, _, none⟩) (by subst hB; exact hlt)]; exact hc j hj⟩
theorem strs_of_own {w : World} {base : Nat} {v : Value} {T : TypeId} {l : List ByteArray} (h : w.ownsRow base T 1 v l.length (l.map Value.string)) : ∃ A c, v = .slice A l.length c ∧ StrsAt w A l := by
  rcases h.2 with ⟨rfl, hn⟩ | ⟨g, cap, cur, rfl, hb, hg, _⟩
  · exact ⟨none, 0, by rw [hn], .inl (List.eq_nil_of_length_eq_zero hn)⟩
  · refine ⟨_, _, rfl, .inr ⟨g, 0, rfl, (h.lt g rfl).2, fun j hj => ?_⟩⟩
    have := h.cells (g := g) rfl j (.string (l.getD j ByteArray.empty)) (by rw [List.getElem?_map]; simp [List.getD, hj])
    rw [addr_add] at this
    exact this

set_option maxRecDepth 100000 in
set_option maxHeartbeats 2000000 in
theorem texts_any (A B : Option Addr) (ca cb : Nat) (l : List ByteArray) (w : World) (hl : l.length ≤ 1000000) (hA : StrsAt w A l) (hB : StrsAt w B l) :
    Calls Tryd.prog 18 #[.slice A l.length ca, .slice B l.length cb] w fun e w' => e = .returned (.bool true) ∧ ∃ n, w' = w.drewN n := by
  have HAA := Lib.hid hA
  have HBB := Lib.hid hB
  clear hA hB
  obtain ⟨n, hn⟩ : ∃ n, n = l.length := ⟨_, rfl⟩
  rw [← hn] at hl ⊢
  have HN := Lib.hid hn
  clear hn
  have hne : ((n : Int) != (n : Int)) = false := by simp
  go_enter Tryd.func18, Tryd.ntmps18
  go_wp2
  go_loopw [5] (fun i wr => ∃ k : Nat, k ≤ n ∧ i = .int .i64 k ∧ ∃ m, wr = w.drewN m) (fun i _ => n - (intOf i).toNat)
  case atStart => exact ⟨0, Nat.zero_le _, rfl, 0, rfl⟩
  case round =>
    obtain ⟨k, hk, rfl, m, rfl⟩ := hrel
    by_cases hlt : k < n
    · rcases HAA.out with h0 | ⟨b, off, rfl, hb, hc⟩
      · exfalso
        have := HN.out
        rw [h0] at this
        simp at this
        omega
      rcases HBB.out with h0 | ⟨b2, off2, rfl, hb2, hc2⟩
      · exfalso
        have := HN.out
        rw [h0] at this
        simp at this
        omega
      have x0 := hc k (by have := HN.out; omega)
      have y0 := hc2 k (by have := HN.out; omega)
      clear hc hc2
      generalize l.getD k ByteArray.empty = x at *
      have hk0 : (0 : Int) ≤ (k : Int) := by omega
      have hk1 : (k : Int) < (n : Int) := by omega
      have n1 : (x.toList != x.toList) = false := by simp
      go_wp2_with fail
      go_quiet (fail)
      go_wp2
      go_roundw
      case rel => exact ⟨k + 1, by omega, by go_num, _, rfl⟩
      case measure => simp [intOf]; omega
    · have hk1 : ¬ (k : Int) < (n : Int) := by omega
      go_wp2
      go_ret
      exact ⟨rfl, _, rfl⟩

set_option maxHeartbeats 4000000 in
theorem ris_any (s : ByteArray) (w : World) (hs : s.size ≤ 1000000) : Calls Tryd.prog 19 #[.string s] w fun e w' => e = .returned (.bool (isName (bs s))) ∧ Below w.heap.size w w' := by
  by_cases h0 : 0 < s.size
  · have hd0 := drop_cons (bs_get h0)
    rw [List.drop_zero] at hd0
    have hnm := isName_form (l := bs s) (by rw [hd0]; simp)
    rw [bs_length, show (bs s).headD 0 = s[0] from by rw [hd0]; rfl] at hnm
    have HN := Lib.hid hnm
    clear hnm hd0
    have h0' : (1 : Int) ≤ (s.size : Int) := by omega
    have hrow := rrow_any s 0 false w hs (Nat.zero_le _)
    rw [show rowP false = isInside from rfl, List.drop_zero, Nat.zero_add] at hrow
    have HROW := Lib.hid hrow
    clear hrow
    by_cases h24 : s.size ≤ 24
    · have h24' : (s.size : Int) ≤ 24 := by omega
      have HL := Lib.hid (rletter_any s[0])
      cases hle : isLetter s[0]
      · rw [hle] at HL
        have HV := Lib.hid (show isName (bs s) = false from by rw [HN.out, hle]; simp)
        clear hle
        go_enter Tryd.func19, Tryd.ntmps19
        go_wp2_with fail
        refine (HL.out _).mono ?_
        rintro e w3 ⟨rfl, hw⟩
        rw [← hw]
        clear hw
        go_wp2
        go_ret
        exact ⟨by rw [HV.out]; rfl, Below.refl _ _⟩
      · rw [hle] at HL
        by_cases hr : rowLen isInside (bs s) = s.size
        · have HV := Lib.hid (show isName (bs s) = !isWord (bs s) from by rw [HN.out, hle, hr]; simp [h24])
          rw [hr] at HROW
          have hwd : Lib.containsS wordL s = isWord (bs s) := by
            unfold isWord
            rw [show (⟨(bs s).toArray⟩ : ByteArray) = s from bs_ext rfl]
          have hcw : ∀ j, j < wordL.length → (w.alloc (.cells (wordL.map Value.string).toArray 9)).cell? ⟨w.heap.size, 0 + j, none⟩ = some (.string (wordL.getD j ByteArray.empty)) := fun j hj => by
            rw [Nat.zero_add, World.cell?_alloc_at _ _ _ _ rfl]
            simp [List.getD, hj]
          have hca := ramong_any w.heap.size 0 24 wordL s (w.alloc (.cells (wordL.map Value.string).toArray 9)) (by decide) hcw
          rw [hwd] at hca
          have HC : Hid (Calls Tryd.prog 44 #[.slice (some ⟨w.heap.size, 0, none⟩) 24 24, .string s] (w.alloc (.cells (wordL.map Value.string).toArray 9)) fun e w' => e = .returned (.bool (isWord (bs s))) ∧ (w.alloc (.cells (wordL.map Value.string).toArray 9)) = w') := hca
          obtain ⟨W, hW⟩ : ∃ W, W = w.alloc (.cells (wordL.map Value.string).toArray 9) := ⟨_, rfl⟩
          have HBW : Hid (Below w.heap.size w W) := by rw [hW]; exact (Below.refl _ _).alloc (Nat.le_refl _) _
          have HRW := Lib.hid (rwords_any w)
          rw [← hW] at HC HRW
          clear hle hr hcw hca hwd hW
          cases hw : isWord (bs s)
          all_goals
            rw [hw] at HC HV
            clear hw
            go_enter Tryd.func19, Tryd.ntmps19
            go_wp2_with fail
            refine (HL.out _).mono ?_
            rintro e w3 ⟨rfl, hw⟩
            rw [← hw]
            clear hw
            go_wp2_with fail
            refine (HROW.out).mono ?_
            rintro e w3 ⟨rfl, hw⟩
            rw [← hw]
            clear hw
            go_wp2_with fail
            refine (HRW.out).mono ?_
            rintro e w3 ⟨rfl, hw⟩
            rw [hw]
            clear hw
            go_wp2_with fail
            refine (HC.out).mono ?_
            rintro e w3 ⟨rfl, hw⟩
            rw [← hw]
            clear hw
            go_wp2
            go_ret
            exact ⟨by rw [HV.out]; rfl, HBW.out⟩
        · have HV := Lib.hid (show isName (bs s) = false from by rw [HN.out]; simp [hr])
          obtain ⟨n, hn⟩ : ∃ n, n = rowLen isInside (bs s) := ⟨_, rfl⟩
          rw [← hn] at HROW hr
          clear hn hle
          have hr' : ¬ (n : Int) = (s.size : Int) := by omega
          go_enter Tryd.func19, Tryd.ntmps19
          go_wp2_with fail
          refine (HL.out _).mono ?_
          rintro e w3 ⟨rfl, hw⟩
          rw [← hw]
          clear hw
          go_wp2_with fail
          refine (HROW.out).mono ?_
          rintro e w3 ⟨rfl, hw⟩
          rw [← hw]
          clear hw
          go_wp2
          go_ret
          exact ⟨by rw [HV.out]; rfl, Below.refl _ _⟩
    · have HV := Lib.hid (show isName (bs s) = false from by rw [HN.out]; simp [h24])
      have h24' : ¬ (s.size : Int) ≤ 24 := by omega
      clear h24
      go_enter Tryd.func19, Tryd.ntmps19
      go_wp2
      go_ret
      exact ⟨by rw [HV.out]; rfl, Below.refl _ _⟩
  · have hnil : bs s = [] := List.eq_nil_of_length_eq_zero (by rw [bs_length]; omega)
    have hte : s = ⟨#[]⟩ := bs_ext hnil
    rw [isName_false1 hnil]
    subst hte
    clear hnil h0 hs
    go_enter Tryd.func19, Tryd.ntmps19
    go_wp2
    go_ret
    exact ⟨rfl, Below.refl _ _⟩

end Go.Proofs.YtcjblbpkjegmiaaDoor
