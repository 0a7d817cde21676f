/- The law LexiNames: Is and Words answer as the reference's do. -/
import Derived.Test.YtnhabokkjmcdoaaDoorLexW
namespace Go.Proofs.YtnhabokkjmcdoaaDoor
open Go.ChangeShapes Go.WideShapes Go.ChangeAt Go.RowKit
open Go.ChangeMaps (open_string shut_string)
set_option linter.unusedVariables false

theorem StrsAt.belowB {w w' : World} {B : Nat} {A : Option Addr} {l : List ByteArray} (h : StrsAt w A l) (hb : Below B w w') (hB : B = w.heap.size) : StrsAt w' A l := by
  rcases h with h | ⟨b, off, rfl, hlt, hc⟩
  · exact .inl h
  · exact .inr ⟨b, off, rfl, Nat.lt_of_lt_of_le hlt hb.size, fun j hj => by rw [hb.cell (p := ⟨b, _, none⟩) (by subst hB; exact hlt)]; exact hc j hj⟩
theorem strs_of_own {w : World} {base : Nat} {v : Value} {T : TypeId} {l : List ByteArray} (h : w.ownsRow base T 1 v l.length (l.map Value.string)) : ∃ A c, v = .slice A l.length c ∧ StrsAt w A l := by
  rcases h.2 with ⟨rfl, hn⟩ | ⟨g, cap, cur, rfl, hb, hg, _⟩
  · exact ⟨none, 0, by rw [hn], .inl (List.eq_nil_of_length_eq_zero hn)⟩
  · refine ⟨_, _, rfl, .inr ⟨g, 0, rfl, (h.lt g rfl).2, fun j hj => ?_⟩⟩
    have := h.cells (g := g) rfl j (.string (l.getD j ByteArray.empty)) (by rw [List.getElem?_map]; simp [List.getD, hj])
    rw [addr_add] at this
    exact this

set_option maxRecDepth 100000 in
set_option maxHeartbeats 2000000 in
theorem texts_any (A B : Option Addr) (ca cb : Nat) (l : List ByteArray) (w : World) (hl : l.length ≤ 1000000) (hA : StrsAt w A l) (hB : StrsAt w B l) :
    Calls Tryd.prog 26 #[.slice A l.length ca, .slice B l.length cb] w fun e w' => e = .returned (.bool true) ∧ ∃ n, w' = w.drewN n := by
  have HAA := Lib.hid hA
  have HBB := Lib.hid hB
  clear hA hB
  obtain ⟨n, hn⟩ : ∃ n, n = l.length := ⟨_, rfl⟩
  rw [← hn] at hl ⊢
  have HN := Lib.hid hn
  clear hn
  have hne : ((n : Int) != (n : Int)) = false := by simp
  go_enter Tryd.func26, Tryd.ntmps26
  go_wp2
  go_loopw [5] (fun i wr => ∃ k : Nat, k ≤ n ∧ i = .int .i64 k ∧ ∃ m, wr = w.drewN m) (fun i _ => n - (intOf i).toNat)
  case atStart => exact ⟨0, Nat.zero_le _, rfl, 0, rfl⟩
  case round =>
    obtain ⟨k, hk, rfl, m, rfl⟩ := hrel
    by_cases hlt : k < n
    · rcases HAA.out with h0 | ⟨b, off, rfl, hb, hc⟩
      · exfalso
        have := HN.out
        rw [h0] at this
        simp at this
        omega
      rcases HBB.out with h0 | ⟨b2, off2, rfl, hb2, hc2⟩
      · exfalso
        have := HN.out
        rw [h0] at this
        simp at this
        omega
      have x0 := hc k (by have := HN.out; omega)
      have y0 := hc2 k (by have := HN.out; omega)
      clear hc hc2
      generalize l.getD k ByteArray.empty = x at *
      have hk0 : (0 : Int) ≤ (k : Int) := by omega
      have hk1 : (k : Int) < (n : Int) := by omega
      have n1 : (x.toList != x.toList) = false := by simp
      go_wp2_with fail
      go_quiet (fail)
      go_wp2
      go_roundw
      case rel => exact ⟨k + 1, by omega, by go_num, _, rfl⟩
      case measure => simp [intOf]; omega
    · have hk1 : ¬ (k : Int) < (n : Int) := by omega
      go_wp2
      go_ret
      exact ⟨rfl, _, rfl⟩

set_option maxHeartbeats 4000000 in
theorem ris_any (s : ByteArray) (w : World) (hs : s.size ≤ 1000000) : Calls Tryd.prog 25 #[.string s] w fun e w' => e = .returned (.bool (isName (bs s))) ∧ Below w.heap.size w w' := by
  by_cases h0 : 0 < s.size
  · have hd0 := drop_cons (bs_get h0)
    rw [List.drop_zero] at hd0
    have hnm := isName_form (l := bs s) (by rw [hd0]; simp)
    rw [bs_length, show (bs s).headD 0 = s[0] from by rw [hd0]; rfl] at hnm
    have HN := Lib.hid hnm
    clear hnm hd0
    have h0' : (1 : Int) ≤ (s.size : Int) := by omega
    have hrow := rrow_any s 0 false w hs (Nat.zero_le _)
    rw [show rowP false = isInside from rfl, List.drop_zero, Nat.zero_add] at hrow
    have HROW := Lib.hid hrow
    clear hrow
    by_cases h24 : s.size ≤ 24
    · have h24' : (s.size : Int) ≤ 24 := by omega
      have HL := Lib.hid (rletter_any s[0])
      cases hle : isLetter s[0]
      · rw [hle] at HL
        have HV := Lib.hid (show isName (bs s) = false from by rw [HN.out, hle]; simp)
        clear hle
        go_enter Tryd.func25, Tryd.ntmps25
        go_wp2_with fail
        refine (HL.out _).mono ?_
        rintro e w3 ⟨rfl, hw⟩
        rw [← hw]
        clear hw
        go_wp2
        go_ret
        exact ⟨by rw [HV.out]; rfl, Below.refl _ _⟩
      · rw [hle] at HL
        by_cases hr : rowLen isInside (bs s) = s.size
        · have HV := Lib.hid (show isName (bs s) = !isWord (bs s) from by rw [HN.out, hle, hr]; simp [h24])
          rw [hr] at HROW
          have hwd : Lib.containsS wordL s = isWord (bs s) := by
            unfold isWord
            rw [show (⟨(bs s).toArray⟩ : ByteArray) = s from bs_ext rfl]
          have hcw : ∀ j, j < wordL.length → (w.alloc (.cells (wordL.map Value.string).toArray 9)).cell? ⟨w.heap.size, 0 + j, none⟩ = some (.string (wordL.getD j ByteArray.empty)) := fun j hj => by
            rw [Nat.zero_add, World.cell?_alloc_at _ _ _ _ rfl]
            simp [List.getD, hj]
          have hca := ramong_any w.heap.size 0 24 wordL s (w.alloc (.cells (wordL.map Value.string).toArray 9)) (by decide) hcw
          rw [hwd] at hca
          have HC : Hid (Calls Tryd.prog 60 #[.slice (some ⟨w.heap.size, 0, none⟩) 24 24, .string s] (w.alloc (.cells (wordL.map Value.string).toArray 9)) fun e w' => e = .returned (.bool (isWord (bs s))) ∧ (w.alloc (.cells (wordL.map Value.string).toArray 9)) = w') := hca
          obtain ⟨W, hW⟩ : ∃ W, W = w.alloc (.cells (wordL.map Value.string).toArray 9) := ⟨_, rfl⟩
          have HBW : Hid (Below w.heap.size w W) := by rw [hW]; exact (Below.refl _ _).alloc (Nat.le_refl _) _
          have HRW := Lib.hid (rwords_any w)
          rw [← hW] at HC HRW
          clear hle hr hcw hca hwd hW
          cases hw : isWord (bs s)
          all_goals
            rw [hw] at HC HV
            clear hw
            go_enter Tryd.func25, Tryd.ntmps25
            go_wp2_with fail
            refine (HL.out _).mono ?_
            rintro e w3 ⟨rfl, hw⟩
            rw [← hw]
            clear hw
            go_wp2_with fail
            refine (HROW.out).mono ?_
            rintro e w3 ⟨rfl, hw⟩
            rw [← hw]
            clear hw
            go_wp2_with fail
            refine (HRW.out).mono ?_
            rintro e w3 ⟨rfl, hw⟩
            rw [hw]
            clear hw
            go_wp2_with fail
            refine (HC.out).mono ?_
            rintro e w3 ⟨rfl, hw⟩
            rw [← hw]
            clear hw
            go_wp2
            go_ret
            exact ⟨by rw [HV.out]; rfl, HBW.out⟩
        · have HV := Lib.hid (show isName (bs s) = false from by rw [HN.out]; simp [hr])
          obtain ⟨n, hn⟩ : ∃ n, n = rowLen isInside (bs s) := ⟨_, rfl⟩
          rw [← hn] at HROW hr
          clear hn hle
          have hr' : ¬ (n : Int) = (s.size : Int) := by omega
          go_enter Tryd.func25, Tryd.ntmps25
          go_wp2_with fail
          refine (HL.out _).mono ?_
          rintro e w3 ⟨rfl, hw⟩
          rw [← hw]
          clear hw
          go_wp2_with fail
          refine (HROW.out).mono ?_
          rintro e w3 ⟨rfl, hw⟩
          rw [← hw]
          clear hw
          go_wp2
          go_ret
          exact ⟨by rw [HV.out]; rfl, Below.refl _ _⟩
    · have HV := Lib.hid (show isName (bs s) = false from by rw [HN.out]; simp [h24])
      have h24' : ¬ (s.size : Int) ≤ 24 := by omega
      clear h24
      go_enter Tryd.func25, Tryd.ntmps25
      go_wp2
      go_ret
      exact ⟨by rw [HV.out]; rfl, Below.refl _ _⟩
  · have hnil : bs s = [] := List.eq_nil_of_length_eq_zero (by rw [bs_length]; omega)
    have hte : s = ⟨#[]⟩ := bs_ext hnil
    rw [isName_false1 hnil]
    subst hte
    clear hnil h0 hs
    go_enter Tryd.func25, Tryd.ntmps25
    go_wp2
    go_ret
    exact ⟨rfl, Below.refl _ _⟩

set_option maxRecDepth 100000 in
set_option maxHeartbeats 4000000 in
theorem lexiNames_any (s : ByteArray) (w : World) (hs : s.size ≤ maxLen) (hT : Tables w) :
    Calls Tryd.prog 7 #[.string s] w fun e w' => e = .returned (.bool true) ∧ Below w.heap.size w w' := by
  have HT := Lib.hid hT
  have HS := Lib.hid hs
  unfold maxLen at hs
  clear hT
  by_cases h1 : 100 < s.size
  · have h1' : (100 : Int) < (s.size : Int) := by omega
    have HL := Lib.hid (lives_any w HT.out)
    go_enter Tryd.func7, Tryd.ntmps7
    go_wp2_with fail
    refine (HL.out).mono ?_
    rintro e w1 ⟨rfl, hb⟩
    have HB := Lib.hid hb
    clear hb
    go_wp2
    go_ret
    exact ⟨rfl, HB.out⟩
  · have h1' : ¬ (100 : Int) < (s.size : Int) := by omega
    have h1'' : (s.size : Int) ≤ 100 := by omega
    have HI1 := Lib.hid (is_any s w HS.out HT.out)
    have HI2 := Lib.hid (ris_any s w (by omega))
    have HW1 := Lib.hid (fun W (h : Tables W) => words_any W h)
    have HW2 := Lib.hid (fun W => rwords_any W)
    have HTX := Lib.hid (fun A B c d V (h1 : StrsAt V A wordL) (h2 : StrsAt V B wordL) => texts_any A B c d wordL V (by decide) h1 h2)
    generalize isName (bs s) = b at *
    go_enter Tryd.func7, Tryd.ntmps7
    go_wp2_with fail
    refine (HI1.out).mono ?_
    rintro e w1 ⟨rfl, hw⟩
    rw [← hw]
    clear hw
    go_wp2_with fail
    refine (HI2.out).mono ?_
    rintro e w1 ⟨rfl, hb1⟩
    have HB1 := Lib.hid hb1
    have hz1 := hb1.size
    clear hb1
    go_wp2_with fail
    refine (HW1.out _ (HT.out.below HB1.out)).mono ?_
    rintro e w2 ⟨v, rfl, ho, hb2⟩
    obtain ⟨A2, c2, hv, hst⟩ := strs_of_own (l := wordL) ho
    have hv' : v = .slice A2 24 c2 := hv
    subst hv'
    have HB2 := Lib.hid (HB1.out.trans (hb2.mono hz1))
    have HA2 := Lib.hid hst
    have hz2 := HB2.out.size
    clear hb2 ho hst hv
    go_wp2_with fail
    refine (HW2.out _).mono ?_
    rintro e w3 ⟨rfl, hw⟩
    have hb23 : Below w2.heap.size w2 w3 := by rw [hw]; exact (Below.refl _ _).alloc (Nat.le_refl _) _
    have HA2' := Lib.hid (HA2.out.belowB hb23 rfl)
    have HA3 : Hid (StrsAt w3 (some ⟨w2.heap.size, 0, none⟩) wordL) := .inr ⟨w2.heap.size, 0, rfl, by rw [hw]; simp, fun j hj => by
      rw [hw, Nat.zero_add, World.cell?_alloc_at _ _ _ _ rfl]
      simp [List.getD, hj]⟩
    have HB3 := Lib.hid (HB2.out.trans (hb23.mono hz2))
    clear hb23 hw
    go_wp2_with fail
    refine (HTX.out _ _ _ _ _ HA2'.out HA3.out).mono ?_
    rintro e w4 ⟨rfl, n4, rfl⟩
    have HB4 := Lib.hid (bdrewN HB3.out n4)
    go_wp2_with fail
    refine (lives_any _ (HT.out.below HB4.out)).mono ?_
    rintro e w5 ⟨rfl, hb5⟩
    have HB5 := Lib.hid (HB4.out.trans (hb5.mono HB4.out.size))
    clear hb5
    go_wp2
    go_ret
    exact ⟨rfl, HB5.out⟩

namespace lawLexiNames
set_option maxRecDepth 100000 in
theorem lifted (os : Os) (started : os.Started) (H : Type) (enc : TypeId × Value → H) :
    ReturnsInHanded {} Tryd.checked os 7 .any (fun w args => (Rows.lexiNamesSpec.pre enc Tryd.prog Tryd.f7 Rows.lexiNamesRow.domain false w args ∧ laidMetH Tryd.prog Rows.lexiNamesRow.laid w) ∧ sizedMet enc Tryd.prog Tryd.f7 (OpenSpec.ofChange Rows.lexiNamesSpec) false w args)
      (Rows.lexiNamesSpec.post enc Tryd.prog Tryd.f7 false true false false) := by
  refine returnsInHanded_of_change_and (C := Tryd.checked) (X := fun w _ => laidMetH Tryd.prog Rows.lexiNamesRow.laid w) (fun _ _ _ hh h => h.of_heap hh) own started (by kernel_rfl) Tryd.func7
    (ChangeSpec.witness_shaped (enc := enc) (C := Tryd.checked) (os := os) (X := fun w _ => laidMetH Tryd.prog Rows.lexiNamesRow.laid w) false (World.laidAll Tryd.prog os Rows.lexiNamesRow.laid) #[.string ⟨#[]⟩] 8 (World.laidAll_os _ _ _)
      (World.shaped_of_ZipB (by kernel_rfl) (by kernel_rfl)) (by kernel_rfl) (by kernel_rfl) (by kernel_rfl)
      (by rw [MakeChecks.laidMetH_plain _ _ _ (by kernel_rfl)]; exact laidMet_laidAll _ (by kernel_rfl) (by kernel_rfl))) ?_
  intro W base args ds gs before hval0 hW hcnd hsz hL _
  have hval : ∀ (j : Nat) t v, Tryd.f7.params[j]? = some t → args[j]? = some v → Value.okWide Tryd.prog W .any base t v := hval0
  have hW' := hW
  obtain ⟨p, q, hA0, hV, rfl, hfz, hnd⟩ := hW
  have hA : DataW.TrodAll enc Tryd.prog W 0 (fun _ => true) true Tryd.f7.params.toList args.toList ds p := hA0
  rw [Tryd.params7] at hA hval
  obtain ⟨v0, vs0, d0, ds0, p0, q0, hargs, rfl, rfl, h0, r0⟩ := trodAll_cons hA
  obtain ⟨rfl, rfl, rfl⟩ := trodAll_nil r0
  obtain rfl : args = #[v0] := by cases args; simp_all
  obtain ⟨rfl, rfl⟩ := trodVars_none hV
  rw [MakeChecks.laidMetH_plain _ _ _ (by kernel_rfl)] at hL
  have hT : Tables W := tables_of_reads (Lib.laidMet.reads hL (by simp [Rows.lexiNamesRow])) (Lib.laidMet.reads hL (by simp [Rows.lexiNamesRow]))
  have k0 := h0
  have lt0 : ∀ x ∈ p0, x.block < W.heap.size := by obtain ⟨m, hm⟩ := k0; exact DataW.trod_lt m _ _ _ hm
  obtain ⟨s, rfl, rfl, rfl, ws⟩ := open_string Tryd.underlying9 (hval 0 9 v0 rfl rfl) h0
  clear hA0 hval0
  refine (lexiNames_any s W ws hT).mono fun e W' ⟨he, bel⟩ => ?_
  subst he
  exact ⟨_, rfl, _, _, _, [], _, [], hW', trodAll_mk1 (shut_bool Tryd.underlying4 _), (trodAll_cons_mk (Below.trod laidOut (by kernel_rfl) (of_decide_eq_true (by kernel_rfl)) k0 bel lt0) trodAll_mk0), rfl, bel.frame _, fun h => by cases h⟩

theorem said : Rows.LexiNamesSaid :=
  OpenClaim.holds_of_wide 7 Tryd.f7 rfl rfl rfl rfl rfl rfl rfl ⟨rfl, rfl, rfl, rfl, rfl⟩ rfl rfl rfl rfl rfl (by kernel_rfl) Tryd.func7 (by kernel_rfl)
    (of_decide_eq_true (by kernel_rfl)) (by unfold Func.isWrapper; first | (rw [if_pos (by decide +kernel)]; kernel_rfl) | (rw [if_neg (by decide +kernel)]; exact ⟨rfl, rfl⟩))
    (fun os started H enc _ => lifted os started H enc)
theorem card : Rows.LexiNamesCardSaid :=
  Claim7.holds_tied_plain_at .later [] _ _ _ _ said (fun _ h => by cases h) (by kernel_rfl) (fun _ h => by cases h) lexiNames_row_tie rfl ⟨rfl, rfl⟩ (by kernel_rfl) rfl
    (fun f fn hf hfn => by
      obtain rfl : f = 7 := Option.some.inj ((show Tryd.prog.funcNamed Rows.lexiNamesRow.func = some 7 by kernel_rfl).symm.trans hf) |>.symm
      obtain rfl : fn = Tryd.f7 := (Option.some.inj (Tryd.func7.symm.trans hfn)).symm
      exact ⟨by kernel_rfl, fun j t ht => by
        rw [Tryd.params7] at ht
        have hm : t ∈ [9] := by simpa using Array.mem_of_getElem? ht
        have hall : ([9].all fun u => !Tryd.prog.wantsStandIn u) = true := by kernel_rfl
        exact (show Tryd.prog.wantsStandIn t = false by simpa using List.all_eq_true.1 hall t hm)⟩)
    (by kernel_rfl)
#print axioms card
end lawLexiNames
end Go.Proofs.YtnhabokkjmcdoaaDoor
