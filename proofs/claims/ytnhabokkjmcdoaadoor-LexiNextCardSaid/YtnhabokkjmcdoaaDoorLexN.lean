/- The law LexiNext: what the lexer's Next returns at any offset is what the reference returns. -/
import Derived.Test.YtnhabokkjmcdoaaDoorLexW
namespace Go.Proofs.YtnhabokkjmcdoaaDoor
open Go.ChangeShapes Go.WideShapes Go.ChangeAt Go.RowKit
open Go.ChangeMaps (open_string shut_string)
set_option linter.unusedVariables false

set_option maxRecDepth 100000 in
set_option maxHeartbeats 4000000 in
theorem lexiNext_any (s : ByteArray) (p : Int) (w : World) (hs : s.size ≤ maxLen) (hT : Tables w) :
    Calls Tryd.prog 3 #[.string s, .int .i64 p] w fun e w' => e = .returned (.bool true) ∧ Below w.heap.size w w' := by
  have HT := Lib.hid hT
  unfold maxLen at hs
  clear hT
  by_cases h1 : 1500 < s.size
  · have h1' : (1500 : Int) < (s.size : Int) := by omega
    have HL := Lib.hid (lives_any w HT.out)
    go_enter Tryd.func3, Tryd.ntmps3
    go_wp2_with fail
    refine (HL.out).mono ?_
    rintro e w1 ⟨rfl, hb⟩
    have HB := Lib.hid hb
    clear hb
    go_wp2
    go_ret
    exact ⟨rfl, HB.out⟩
  · have h1' : ¬ (1500 : Int) < (s.size : Int) := by omega
    have HN1 := Lib.hid (fun W (h : Tables W) => next_any s p W (by unfold maxLen; omega) h)
    have HN2 := Lib.hid (fun W => rnext_any s p W (by omega))
    generalize nextAt (bs s) p = x at *
    obtain ⟨⟨tk, tn, tt, ta⟩, q, e⟩ := x
    unfold nextV Tok.val Tok.cells at HN1 HN2
    dsimp only at HN1 HN2
    go_enter Tryd.func3, Tryd.ntmps3
    go_wp2_with fail
    refine (HN1.out _ HT.out).mono ?_
    rintro e1 w1 ⟨rfl, hb1⟩
    have HB1 := Lib.hid (hb1.alloc hb1.size (.cells #[.int .i64 tk, .int .i64 tn, .string ⟨tt.toArray⟩, .int .i64 ta] 24))
    have hz1 := hb1.size
    clear hb1
    obtain ⟨x, hx⟩ : ∃ x, (⟨tt.toArray⟩ : ByteArray) = x := ⟨_, rfl⟩
    rw [hx] at HB1 HN2 ⊢
    have HX := Lib.hid hx
    clear hx
    go_wp2_with fail
    refine (HN2.out _).mono ?_
    rintro e1 w2 ⟨rfl, hb2⟩
    have hz2 := hb2.size
    simp at hz2
    have hc1 : ∀ o, w2.cell? ⟨w1.heap.size, o, none⟩ = (#[.int .i64 tk, .int .i64 tn, .string x, .int .i64 ta] : Array Value)[o]? := fun o => by
      rw [hb2.cell (p := ⟨w1.heap.size, o, none⟩) (by simp)]
      exact World.cell?_alloc_at _ _ _ _ rfl
    have HB2 := Lib.hid (HB1.out.trans (hb2.mono (by have := HB1.out.size; exact this)))
    clear hb2
    go_wp2_with fail
    obtain ⟨W, hW⟩ : ∃ W, W = w2.alloc (.cells #[.int .i64 tk, .int .i64 tn, .string x, .int .i64 ta] 28) := ⟨_, rfl⟩
    have hzW : W.heap.size = w2.heap.size + 1 := by rw [hW]; simp
    have d1 : ∀ o, W.cell? ⟨w1.heap.size, o, none⟩ = (#[.int .i64 tk, .int .i64 tn, .string x, .int .i64 ta] : Array Value)[o]? := fun o => by
      rw [hW, World.cell?_alloc_lt _ _ _ (by show w1.heap.size < _; omega)]
      exact hc1 o
    have d2 : ∀ o, W.cell? ⟨w2.heap.size, o, none⟩ = (#[.int .i64 tk, .int .i64 tn, .string x, .int .i64 ta] : Array Value)[o]? := fun o => by
      rw [hW]
      exact World.cell?_alloc_at _ _ _ _ rfl
    have HB3 : Hid (Below w.heap.size w W) := by rw [hW]; exact HB2.out.alloc HB2.out.size _
    rw [← hW]
    have HZ := Lib.hid hzW
    have hz3 : w2.heap.size < W.heap.size := by omega
    clear hW hzW hc1
    have htk : flat [⟨tk, tn, tt, ta⟩] = [.int .i64 tk, .int .i64 tn, .string x, .int .i64 ta] := by rw [← HX.out]; rfl
    have hto : ∀ V A, ToksAt V A [⟨tk, tn, tt, ta⟩] → Calls Tryd.prog 18 #[.slice A 1 1] V fun e w' => ∃ B d, e = .returned (.slice B 1 d) ∧ ToksAt w' B [⟨tk, tn, tt, ta⟩] ∧ Below V.heap.size V w' :=
      fun V A h => to_at A 1 [⟨tk, tn, tt, ta⟩] V (by simp) h
    have hsame : ∀ V B c A, ToksAt V B [⟨tk, tn, tt, ta⟩] → ToksAt V A [⟨tk, tn, tt, ta⟩] → Calls Tryd.prog 17 #[.slice B 1 c, .slice A 1 1, .bool true] V fun e w' => e = .returned (.bool true) ∧ ∃ n, w' = V.drewN n :=
      fun V B c A h1 h2 => same_any B A c 1 [⟨tk, tn, tt, ta⟩] [⟨tk, tn, tt, ta⟩] true V (by simp) rfl h1 h2 (fun k x y hx hy => by rw [hx] at hy; injection hy with hy; subst hy; exact ⟨rfl, rfl, rfl, fun _ => rfl⟩)
    have HSM := Lib.hid hsame
    have HTO := Lib.hid hto
    clear hsame
    have HTK := Lib.hid htk
    clear hto htk
    go_region_held3 (fun w' => (∀ o, w'.cell? ⟨w1.heap.size, o, none⟩ = W.cell? ⟨w1.heap.size, o, none⟩) ∧ (∀ o, w'.cell? ⟨w2.heap.size, o, none⟩ = W.cell? ⟨w2.heap.size, o, none⟩))
      (first
        | (go_keep; done)
        | (refine ⟨fun o => ?_, fun o => ?_⟩ <;> exact (((Below.refl W.heap.size W).alloc (Nat.le_refl _) _).drew).cell (p := ⟨_, o, none⟩) (by simp; omega))
        | (refine ⟨fun o => ?_, fun o => ?_⟩ <;> exact ((((Below.refl W.heap.size W).alloc (Nat.le_refl _) _).alloc (by simp) _).drew).cell (p := ⟨_, o, none⟩) (by simp; omega))
        | (refine ⟨fun o => ?_, fun o => ?_⟩ <;> exact (HB4.out).cell (p := ⟨_, o, none⟩) (by simp; omega))
        | (refine ⟨fun o => ?_, fun o => ?_⟩ <;> exact (HB4.out.alloc (by omega) _).cell (p := ⟨_, o, none⟩) (by simp; omega))
        | (refine ⟨fun o => ?_, fun o => ?_⟩ <;> exact (bdrewN (HB4.out.alloc (by omega) _) _).cell (p := ⟨_, o, none⟩) (by simp; omega))
        | (refine ⟨fun o => ?_, fun o => ?_⟩ <;> exact (bdrewN HB4.out _).cell (p := ⟨_, o, none⟩) (by simp; omega))
        | (refine ⟨fun o => ?_, fun o => ?_⟩ <;> exact (HB6.out).cell (p := ⟨_, o, none⟩) (by simp; omega))
        | fail)
      (first
        | (go_at_call 18; refine (HTO.out _ _ ?_).mono ?_; (first | exact (toks_new W _ _ _ (by rw [HTK.out])).drew | exact ((toks_new W _ _ _ (by rw [HTK.out])).alloc _).drew | exact (toks_new1 W _ _ _ _ (by rw [HTK.out])).drew); rintro e4 w4 ⟨B4, d4, rfl, ha4, hb4⟩; have HB4 : Hid (Below W.heap.size W w4) := (by first | exact (((Below.refl W.heap.size W).alloc (Nat.le_refl _) _).drew).trans (hb4.mono (by simp)) | exact ((((Below.refl W.heap.size W).alloc (Nat.le_refl _) _).alloc (by simp) _).drew).trans (hb4.mono (by simp; omega))); have HA4 := Lib.hid ha4; have hz4 := HB4.out.size; have HC4 := Lib.hid hb4; clear ha4 hb4)
        | (go_at_call 17; refine (HSM.out _ _ _ _ ?_ ?_).mono ?_; (first | exact HA4.out | exact HA4.out.alloc _); (first | exact toks_new w4 _ _ _ (by rw [HTK.out]) | exact ((toks_new1 W _ _ _ _ (by rw [HTK.out])).drew).belowB HC4.out rfl | exact (((toks_new W _ _ _ (by rw [HTK.out])).alloc _).drew).belowB HC4.out rfl); rintro e5 w5 ⟨rfl, n5, rfl⟩)
        | (go_at_call 14; refine (lives_any _ ?_).mono ?_; (first | exact (HT.out.below HB3.out).below (bdrewN (HB4.out.alloc hz4 _) _) | exact (HT.out.below HB3.out).below (bdrewN HB4.out _)); rintro e6 w6 ⟨rfl, hb6⟩; have HB6 : Hid (Below W.heap.size W w6) := (by first | exact (bdrewN (HB4.out.alloc hz4 _) _).trans (hb6.mono (by simp; omega)) | exact (bdrewN HB4.out _).trans (hb6.mono (by simp; omega))); clear hb6)
        | fail)
    all_goals
      go_wp2
      go_ret
      exact ⟨rfl, HB3.out.trans (HB6.out.mono HB3.out.size)⟩

namespace lawLexiNext
set_option maxRecDepth 100000 in
theorem lifted (os : Os) (started : os.Started) (H : Type) (enc : TypeId × Value → H) :
    ReturnsInHanded {} Tryd.checked os 3 .any (fun w args => (Rows.lexiNextSpec.pre enc Tryd.prog Tryd.f3 Rows.lexiNextRow.domain false w args ∧ laidMetH Tryd.prog Rows.lexiNextRow.laid w) ∧ sizedMet enc Tryd.prog Tryd.f3 (OpenSpec.ofChange Rows.lexiNextSpec) false w args)
      (Rows.lexiNextSpec.post enc Tryd.prog Tryd.f3 false true false false) := by
  refine returnsInHanded_of_change_and (C := Tryd.checked) (X := fun w _ => laidMetH Tryd.prog Rows.lexiNextRow.laid w) (fun _ _ _ hh h => h.of_heap hh) own started (by kernel_rfl) Tryd.func3
    (ChangeSpec.witness_shaped (enc := enc) (C := Tryd.checked) (os := os) (X := fun w _ => laidMetH Tryd.prog Rows.lexiNextRow.laid w) false (World.laidAll Tryd.prog os Rows.lexiNextRow.laid) #[.string ⟨#[]⟩, .int .i64 0] 8 (World.laidAll_os _ _ _)
      (World.shaped_of_ZipB (by kernel_rfl) (by kernel_rfl)) (by kernel_rfl) (by kernel_rfl) (by kernel_rfl)
      (by rw [MakeChecks.laidMetH_plain _ _ _ (by kernel_rfl)]; exact laidMet_laidAll _ (by kernel_rfl) (by kernel_rfl))) ?_
  intro W base args ds gs before hval0 hW hcnd hsz hL _
  have hval : ∀ (j : Nat) t v, Tryd.f3.params[j]? = some t → args[j]? = some v → Value.okWide Tryd.prog W .any base t v := hval0
  have hW' := hW
  obtain ⟨p, q, hA0, hV, rfl, hfz, hnd⟩ := hW
  have hA : DataW.TrodAll enc Tryd.prog W 0 (fun _ => true) true Tryd.f3.params.toList args.toList ds p := hA0
  rw [Tryd.params3] at hA hval
  obtain ⟨v0, vs0, d0, ds0, p0, q0, hargs, rfl, rfl, h0, r0⟩ := trodAll_cons hA
  obtain ⟨v1, vs1, d1, ds1, p1, q1, rfl, rfl, rfl, h1, r1⟩ := trodAll_cons r0
  obtain ⟨rfl, rfl, rfl⟩ := trodAll_nil r1
  obtain rfl : args = #[v0, v1] := by cases args; simp_all
  obtain ⟨rfl, rfl⟩ := trodVars_none hV
  rw [MakeChecks.laidMetH_plain _ _ _ (by kernel_rfl)] at hL
  have hT : Tables W := tables_of_reads (Lib.laidMet.reads hL (by simp [Rows.lexiNextRow])) (Lib.laidMet.reads hL (by simp [Rows.lexiNextRow]))
  have k0 := h0
  have lt0 : ∀ x ∈ p0, x.block < W.heap.size := by obtain ⟨m, hm⟩ := k0; exact DataW.trod_lt m _ _ _ hm
  have k1 := h1
  have lt1 : ∀ x ∈ p1, x.block < W.heap.size := by obtain ⟨m, hm⟩ := k1; exact DataW.trod_lt m _ _ _ hm
  obtain ⟨s, rfl, rfl, rfl, ws⟩ := open_string Tryd.underlying9 (hval 0 9 v0 rfl rfl) h0
  obtain ⟨n, rfl, rfl, rfl, wn⟩ := open_int Tryd.underlying3 (hval 1 3 v1 rfl rfl) h1
  clear hA0 hval0
  refine (lexiNext_any s n W ws hT).mono fun e W' ⟨he, bel⟩ => ?_
  subst he
  exact ⟨_, rfl, _, _, _, [], _, [], hW', trodAll_mk1 (shut_bool Tryd.underlying4 _), (trodAll_cons_mk (Below.trod laidOut (by kernel_rfl) (of_decide_eq_true (by kernel_rfl)) k0 bel lt0) (trodAll_cons_mk (Below.trod laidOut (by kernel_rfl) (of_decide_eq_true (by kernel_rfl)) k1 bel lt1) trodAll_mk0)), rfl, bel.frame _, fun h => by cases h⟩

theorem said : Rows.LexiNextSaid :=
  OpenClaim.holds_of_wide 3 Tryd.f3 rfl rfl rfl rfl rfl rfl rfl ⟨rfl, rfl, rfl, rfl, rfl⟩ rfl rfl rfl rfl rfl (by kernel_rfl) Tryd.func3 (by kernel_rfl)
    (of_decide_eq_true (by kernel_rfl)) (by unfold Func.isWrapper; first | (rw [if_pos (by decide +kernel)]; kernel_rfl) | (rw [if_neg (by decide +kernel)]; exact ⟨rfl, rfl⟩))
    (fun os started H enc _ => lifted os started H enc)
theorem card : Rows.LexiNextCardSaid :=
  Claim7.holds_tied_plain_at .later [] _ _ _ _ said (fun _ h => by cases h) (by kernel_rfl) (fun _ h => by cases h) lexiNext_row_tie rfl ⟨rfl, rfl⟩ (by kernel_rfl) rfl
    (fun f fn hf hfn => by
      obtain rfl : f = 3 := Option.some.inj ((show Tryd.prog.funcNamed Rows.lexiNextRow.func = some 3 by kernel_rfl).symm.trans hf) |>.symm
      obtain rfl : fn = Tryd.f3 := (Option.some.inj (Tryd.func3.symm.trans hfn)).symm
      exact ⟨by kernel_rfl, fun j t ht => by
        rw [Tryd.params3] at ht
        have hm : t ∈ [9, 3] := by simpa using Array.mem_of_getElem? ht
        have hall : ([9, 3].all fun u => !Tryd.prog.wantsStandIn u) = true := by kernel_rfl
        exact (show Tryd.prog.wantsStandIn t = false by simpa using List.all_eq_true.1 hall t hm)⟩)
    (by kernel_rfl)
#print axioms card
end lawLexiNext
end Go.Proofs.YtnhabokkjmcdoaaDoor
