/-The law TreetextStates: State and Lines answer as the plain reference's.  The law TreetextStates: its row and its card. -/
import Derived.Test.YtcjblbpkjegmiaaDoorTtrL
import Derived.Test.YtcjblbpkjegmiaaDoorTtrV
import Derived.Test.YtcjblbpkjegmiaaDoorTtrW
namespace Go.Proofs.YtcjblbpkjegmiaaDoor
open Go.RowKit
set_option linter.unusedVariables false

theorem strs_of_lines {x : List Bs × Int} {w : World} {e : Ending} {w' : World} (h : LinesQ x w e w') : ∃ A c, e = .returned (.tuple #[.slice A x.1.length c, .int .i64 x.2]) ∧ StrsAt w' A (x.1.map fun l => ⟨l.toArray⟩) ∧ Below w.heap.size w w' := by
  obtain ⟨A, c, he, h1, h2, h3, h4⟩ := h
  refine ⟨A, c, he, ?_, h4⟩
  rcases h3 with h3 | ⟨g, rfl, _, hr⟩
  · exact .inl (by rw [h3]; rfl)
  · exact strs_of_bs hr
theorem strs_of_rlines {x : List Bs × Int} {w : World} {e : Ending} {w' : World} (h : RLinesQ x w e w') : ∃ A c, e = .returned (.tuple #[.slice A x.1.length c, .int .i64 x.2]) ∧ StrsAt w' A (x.1.map fun l => ⟨l.toArray⟩) ∧ Below w.heap.size w w' := by
  obtain ⟨v, he, ho, hb⟩ := h
  have ho' : w'.ownsRow w.heap.size 9 1 v (x.1.map fun l => (⟨l.toArray⟩ : ByteArray)).length ((x.1.map fun l => (⟨l.toArray⟩ : ByteArray)).map Value.string) := by
    rw [List.length_map, List.map_map]
    exact ho
  obtain ⟨A, c, hv, hs⟩ := strs_of_own ho'
  rw [List.length_map] at hv
  exact ⟨A, c, by rw [he, hv], hs, hb⟩

set_option maxRecDepth 100000 in
set_option maxHeartbeats 8000000 in
theorem treetextStates_any (vs : List Vr) (path : List (List Int)) (loop : Int) (Av Ap : Option Addr) (cv cp : Nat) (w : World) (hV : VrsV w Av cv vs) (hP : RowsV w Ap cp path) (hT : WordsT w) :
    Calls Tryd.prog 4 #[.slice Av vs.length cv, .slice Ap path.length cp, .int .i64 loop] w fun e w' => e = .returned (.bool true) ∧ Below w.heap.size w w' := by
  have HSMALL := Lib.hid (small_any vs Av cv w hV)
  obtain ⟨n, hn⟩ : ∃ n, n = vs.length := ⟨_, rfl⟩
  obtain ⟨m, hm⟩ : ∃ m, m = path.length := ⟨_, rfl⟩
  have hcv := hV.cap
  have hcvm := hV.capm
  have hcp := hP.cap
  have hcpm := hP.capm
  unfold maxLen at hcvm hcpm
  rw [← hn] at HSMALL hcv ⊢
  rw [← hm] at hcp ⊢
  have HV := Lib.hid hV
  have HP := Lib.hid hP
  have HT := Lib.hid hT
  have HN := Lib.hid hn
  have HM := Lib.hid hm
  have HLV := Lib.hid (lives_any w hT)
  obtain ⟨F, hF⟩ : ∃ F : Ending → World → Prop, F = fun e w' => e = .returned (.bool true) ∧ Below w.heap.size w w' := ⟨_, rfl⟩
  rw [← hF]
  have HF := Lib.hid hF
  clear hV hP hT hn hm hF
  go_enter Tryd.func4, Tryd.ntmps4
  go_wp2_with fail
  refine (HSMALL.out).mono ?_
  rintro e w' ⟨sb, rfl, hsb, hw⟩
  rw [← hw]
  clear hw
  cases sb with
  | false =>
    clear hsb
    go_wp2_with fail
    refine (HLV.out).mono ?_
    rintro e w1 ⟨rfl, hb1⟩
    have HB1 := Lib.hid hb1
    clear hb1
    go_wp2_with fail
    rw [HF.out]
    exact ⟨rfl, HB1.out⟩
  | true =>
    have HSM := Lib.hid (hsb rfl)
    clear hsb
    by_cases h60 : 60 < m
    · have h60' : (60 : Int) < (m : Int) := by omega
      clear h60
      go_wp2_with fail
      refine (HLV.out).mono ?_
      rintro e w1 ⟨rfl, hb1⟩
      have HB1 := Lib.hid hb1
      clear hb1
      go_wp2_with fail
      rw [HF.out]
      exact ⟨rfl, HB1.out⟩
    · have h60' : ¬ (60 : Int) < (m : Int) := by omega
      have hm60 : m ≤ 60 := by omega
      clear h60
      go_wp2_with fail
      go_loopw [7, 8, 9, 10, 11] (fun si _ _ _ _ wr => ∃ k : Nat, k ≤ m ∧ si = .int .i64 k ∧ Below w.heap.size w wr) (fun i _ _ _ _ _ => m - (intOf i).toNat)
      case atStart => exact ⟨0, Nat.zero_le _, rfl, Below.refl _ _⟩
      case round =>
        obtain ⟨k, hk, rfl, hbel⟩ := hrel
        have HB := Lib.hid hbel
        have hszr := hbel.size
        by_cases hlt : k < m
        · obtain ⟨s, hs⟩ : ∃ s, path[k]? = some s := ⟨_, List.getElem?_eq_getElem (by have := HM.out; omega)⟩
          rcases HP.out.row with h9 | ⟨g, o, rfl, hg, hpr⟩
          · rw [h9] at hs; simp at hs
          obtain ⟨As, cs, q0', hsv⟩ := hpr k s hs
          have q0 := q0'
          rw [← hbel.cell (p := ⟨g, _, none⟩) hg] at q0
          have HSV := Lib.hid hsv
          have hk0 : (0 : Int) ≤ (k : Int) := by omega
          have hk1 : (k : Int) < (m : Int) := by omega
          obtain ⟨ns, hns⟩ : ∃ ns, ns = s.length := ⟨_, rfl⟩
          have HQ0 := Lib.hid q0'
          have HG := Lib.hid hg
          have HNS := Lib.hid hns
          rw [← hns] at q0
          by_cases h20 : 20 < ns
          · have h20' : (20 : Int) < (ns : Int) := by omega
            have HLV2 := Lib.hid (lives_any wr (HT.out.below hbel))
            clear h20 hs hpr hsv hns hbel q0'
            go_wp2_with fail
            refine (HLV2.out).mono ?_
            rintro e w1 ⟨rfl, hb1⟩
            have HB1 := Lib.hid (HB.out.trans (hb1.mono hszr))
            clear hb1
            go_wp2_with fail
            rw [HF.out]
            exact ⟨rfl, HB1.out⟩
          · have h20' : ¬ (20 : Int) < (ns : Int) := by omega
            have hst := state_any vs s Av As cv cs wr HSM.out (HV.out.below hbel rfl) (hsv.below hbel rfl)
            obtain ⟨ST, hST⟩ : ∃ ST, ST = stateT vs s := ⟨_, rfl⟩
            rw [← hST, ← hns, ← HN.out] at hst
            have HST := Lib.hid hst
            have HSR : Hid (∀ w2, Below w.heap.size w w2 → Calls Tryd.prog 15 #[.slice Av n cv, .slice As ns cs] w2 fun e w' => e = .returned (.tuple #[.string ⟨ST.1.toArray⟩, .int .i64 ST.2]) ∧ Below w2.heap.size w2 w') := fun w2 hb => by
              have h := rstate_any vs s Av As cv cs w2 HSM.out (HV.out.below hb rfl) (HSV.out.below hb rfl)
              rw [← hST, ← hns, ← HN.out] at h
              exact h
            obtain ⟨S1, hS1⟩ : ∃ S1 : ByteArray, S1 = ⟨ST.1.toArray⟩ := ⟨_, rfl⟩
            rw [← hS1] at HST HSR
            obtain ⟨z1, hz1⟩ : ∃ z1, z1 = ST.2 := ⟨_, rfl⟩
            rw [← hz1] at HST HSR
            clear h20 hs hpr hsv hns hbel hst hST hS1 hz1 q0'
            go_wp2_with fail
            refine (HST.out).mono ?_
            rintro e w2 ⟨rfl, hb2⟩
            have hb3 := HB.out.trans (hb2.mono hszr)
            have HSR2 := Lib.hid (HSR.out w2 hb3)
            have HB3 := Lib.hid hb3
            have hs3 := hb3.size
            have q2 : w2.cell? ⟨g, o + k, none⟩ = some (.slice As ns cs) := by rw [HNS.out, hb3.cell (p := ⟨g, _, none⟩) HG.out]; exact HQ0.out
            clear hb2 hb3 q0
            go_wp2_with fail
            refine (HSR2.out).mono ?_
            rintro e w4 ⟨rfl, hb4⟩
            have HB5 := Lib.hid (HB3.out.trans (hb4.mono hs3))
            clear hb4 q2
            go_wp2_with fail
            go_roundw
            case rel => exact ⟨k + 1, by omega, by go_num, HB5.out⟩
            case measure => simp [intOf]; omega
        · have hk1 : ¬ (k : Int) < (m : Int) := by omega
          have hli := lines_any vs path loop Av Ap cv cp wr HSM.out (by rw [← HM.out]; omega) (HV.out.below hbel rfl) (HP.out.below hbel rfl)
          obtain ⟨X, hX⟩ : ∃ X, X = linesT vs path loop := ⟨_, rfl⟩
          rw [← hX, ← HN.out, ← HM.out] at hli
          have HLI := Lib.hid hli
          have HRL : Hid (∀ w2, Below w.heap.size w w2 → Calls Tryd.prog 17 #[.slice Av n cv, .slice Ap m cp, .int .i64 loop] w2 (RLinesQ X w2)) := fun w2 hb => by
            have h := rlines_any vs path loop Av Ap cv cp w2 HSM.out (by rw [← HM.out]; omega) (HV.out.below hb rfl) (HP.out.below hb rfl)
            rw [← hX, ← HN.out, ← HM.out] at h
            exact h
          have HXL : Hid (X.1.length ≤ 60) := by
            show _ ≤ _
            rw [hX]
            unfold linesT
            split
            · rw [linesL_len, ← HM.out]; exact hm60
            · simp
          clear hlt hbel hli hX
          go_wp2_with fail
          refine (HLI.out).mono ?_
          intro e w2 hq
          obtain ⟨A1, c1, rfl, hsa, hb2⟩ := strs_of_lines hq
          have hb3 := HB.out.trans (hb2.mono hszr)
          have HRL2 := Lib.hid (HRL.out w2 hb3)
          have HB3 := Lib.hid hb3
          have HSA := Lib.hid hsa
          have hs3 := hb3.size
          clear hq hsa hb2 hb3
          go_wp2_with fail
          refine (HRL2.out).mono ?_
          intro e w4 hq
          obtain ⟨A2, c2, rfl, hsb, hb4⟩ := strs_of_rlines hq
          have hb5 := HB3.out.trans (hb4.mono hs3)
          have htx := texts_any A1 A2 c1 c2 (X.1.map fun l => (⟨l.toArray⟩ : ByteArray)) w4 (by rw [List.length_map]; have := HXL.out; omega) (HSA.out.belowB hb4 rfl) hsb
          rw [List.length_map] at htx
          have HTX := Lib.hid htx
          have HB5 := Lib.hid hb5
          have hs5 := hb5.size
          obtain ⟨z1, hz1⟩ : ∃ z1, z1 = X.2 := ⟨_, rfl⟩
          rw [← hz1]
          clear hq hsb hb4 hb5 htx hz1
          go_wp2_with fail
          refine (HTX.out).mono ?_
          rintro e w6 ⟨rfl, nd, hw6⟩
          rw [hw6]
          have hb7 := bdrewN HB5.out nd
          have HLV2 := Lib.hid (lives_any (w4.drewN nd) (HT.out.below hb7))
          have HB7 := Lib.hid hb7
          have hs7 := hb7.size
          clear hw6 hb7
          go_wp2_with fail
          refine (HLV2.out).mono ?_
          rintro e w8 ⟨rfl, hb8⟩
          have HB9 := Lib.hid (HB7.out.trans (hb8.mono hs7))
          clear hb8
          go_wp2_with fail
          rw [HF.out]
          exact ⟨rfl, HB9.out⟩
end Go.Proofs.YtcjblbpkjegmiaaDoor
namespace Go.Proofs.YtcjblbpkjegmiaaDoor
open Go.ChangeShapes Go.WideShapes Go.ChangeAt Go.RowKit
open Go.ChangeMaps (open_string shut_string)
set_option linter.unusedVariables false
namespace lawTreetextStates
set_option maxRecDepth 100000 in
theorem lifted (os : Os) (started : os.Started) (H : Type) (enc : TypeId × Value → H) :
    ReturnsInHanded {} Tryd.checked os 4 .any (fun w args => (Rows.treetextStatesSpec.pre enc Tryd.prog Tryd.f4 Rows.treetextStatesRow.domain false w args ∧ laidMetH Tryd.prog Rows.treetextStatesRow.laid w) ∧ sizedMet enc Tryd.prog Tryd.f4 (OpenSpec.ofChange Rows.treetextStatesSpec) false w args)
      (Rows.treetextStatesSpec.post enc Tryd.prog Tryd.f4 false true false false) := by
  refine returnsInHanded_of_change_and (C := Tryd.checked) (X := fun w _ => laidMetH Tryd.prog Rows.treetextStatesRow.laid w) (fun _ _ _ hh h => h.of_heap hh) own started (by kernel_rfl) Tryd.func4
    (ChangeSpec.witness_shaped (enc := enc) (C := Tryd.checked) (os := os) (X := fun w _ => laidMetH Tryd.prog Rows.treetextStatesRow.laid w) false (World.laidAll Tryd.prog os Rows.treetextStatesRow.laid) #[.slice none 0 0, .slice none 0 0, .int .i64 0] 8 (World.laidAll_os _ _ _)
      (World.shaped_of_ZipB (by kernel_rfl) (by kernel_rfl)) (by kernel_rfl) (by kernel_rfl) (by kernel_rfl)
      (by rw [MakeChecks.laidMetH_plain _ _ _ (by kernel_rfl)]; exact laidMet_laidAll _ (by kernel_rfl) (by kernel_rfl))) ?_
  intro W base args ds gs before hval0 hW hcnd hsz hL _
  have hval : ∀ (j : Nat) t v, Tryd.f4.params[j]? = some t → args[j]? = some v → Value.okWide Tryd.prog W .any base t v := hval0
  have hW' := hW
  obtain ⟨p, q, hA0, hV, rfl, hfz, hnd⟩ := hW
  have hA : DataW.TrodAll enc Tryd.prog W 0 (fun _ => true) true Tryd.f4.params.toList args.toList ds p := hA0
  rw [Tryd.params4] at hA hval
  obtain ⟨v0, vs0, d0, ds0, p0, q0, hargs, rfl, rfl, h0, r0⟩ := trodAll_cons hA
  obtain ⟨v1, vs1, d1, ds1, p1, q1, rfl, rfl, rfl, h1, r1⟩ := trodAll_cons r0
  obtain ⟨v2, vs2, d2, ds2, p2, q2, rfl, rfl, rfl, h2, r2⟩ := trodAll_cons r1
  obtain ⟨rfl, rfl, rfl⟩ := trodAll_nil r2
  obtain rfl : args = #[v0, v1, v2] := by cases args; simp_all
  obtain ⟨rfl, rfl⟩ := trodVars_none hV
  rw [MakeChecks.laidMetH_plain _ _ _ (by kernel_rfl)] at hL
  have hT : WordsT W := words_of_reads (Lib.laidMet.reads hL (by simp [Rows.treetextStatesRow]))
  have k0 := h0
  have lt0 : ∀ x ∈ p0, x.block < W.heap.size := by obtain ⟨m, hm⟩ := k0; exact DataW.trod_lt m _ _ _ hm
  have k1 := h1
  have lt1 : ∀ x ∈ p1, x.block < W.heap.size := by obtain ⟨m, hm⟩ := k1; exact DataW.trod_lt m _ _ _ hm
  have k2 := h2
  have lt2 : ∀ x ∈ p2, x.block < W.heap.size := by obtain ⟨m, hm⟩ := k2; exact DataW.trod_lt m _ _ _ hm
  obtain ⟨Av, cv, vs, rfl, hVs⟩ := arg_vars (hval 0 22 v0 rfl rfl) h0
  obtain ⟨Ap, cp, path, rfl, hPs⟩ := arg_rows (hval 1 30 v1 rfl rfl) h1
  obtain ⟨n, rfl, rfl, rfl, wn⟩ := open_int Tryd.underlying3 (hval 2 3 v2 rfl rfl) h2
  clear hA0 hval0
  refine (treetextStates_any vs path n Av Ap cv cp W hVs hPs hT).mono fun e W' ⟨he, bel⟩ => ?_
  subst he
  exact ⟨_, rfl, _, _, _, [], _, [], hW', trodAll_mk1 (shut_bool Tryd.underlying4 _), (trodAll_cons_mk (Below.trod laidOut (by kernel_rfl) (of_decide_eq_true (by kernel_rfl)) k0 bel lt0) (trodAll_cons_mk (Below.trod laidOut (by kernel_rfl) (of_decide_eq_true (by kernel_rfl)) k1 bel lt1) (trodAll_cons_mk (Below.trod laidOut (by kernel_rfl) (of_decide_eq_true (by kernel_rfl)) k2 bel lt2) trodAll_mk0))), rfl, bel.frame _, fun h => by cases h⟩

theorem said : Rows.TreetextStatesSaid :=
  OpenClaim.holds_of_wide 4 Tryd.f4 rfl rfl rfl rfl rfl rfl rfl ⟨rfl, rfl, rfl, rfl, rfl⟩ rfl rfl rfl rfl rfl (by kernel_rfl) Tryd.func4 (by kernel_rfl)
    (of_decide_eq_true (by kernel_rfl)) (by unfold Func.isWrapper; first | (rw [if_pos (by decide +kernel)]; kernel_rfl) | (rw [if_neg (by decide +kernel)]; exact ⟨rfl, rfl⟩))
    (fun os started H enc _ => lifted os started H enc)
theorem card : Rows.TreetextStatesCardSaid :=
  Claim7.holds_tied_plain_at .later [] _ _ _ _ said (fun _ h => by cases h) (by kernel_rfl) (fun _ h => by cases h) treetextStates_row_tie rfl ⟨rfl, rfl⟩ (by kernel_rfl) rfl
    (fun f fn hf hfn => by
      obtain rfl : f = 4 := Option.some.inj ((show Tryd.prog.funcNamed Rows.treetextStatesRow.func = some 4 by kernel_rfl).symm.trans hf) |>.symm
      obtain rfl : fn = Tryd.f4 := (Option.some.inj (Tryd.func4.symm.trans hfn)).symm
      exact ⟨by kernel_rfl, fun j t ht => by
        rw [Tryd.params4] at ht
        have hm : t ∈ [22, 30, 3] := by simpa using Array.mem_of_getElem? ht
        have hall : ([22, 30, 3].all fun u => !Tryd.prog.wantsStandIn u) = true := by kernel_rfl
        exact (show Tryd.prog.wantsStandIn t = false by simpa using List.all_eq_true.1 hall t hm)⟩)
    (by kernel_rfl)
#print axioms card
end lawTreetextStates
end Go.Proofs.YtcjblbpkjegmiaaDoor
