/-A tree that came in within the reach: its paths are not too long.  The law TreetextKids: its row and its card. -/
import Derived.Test.YtcjblbpkjegmiaaDoorTtrV
import Derived.Test.YtcjblbpkjegmiaaDoorTtrN
import Derived.SizedLaws
import Derived.Test.YtcjblbpkjegmiaaDoorTtrU
namespace Go.Proofs.YtcjblbpkjegmiaaDoor
open Go.ChangeShapes Go.WideShapes Go.ChangeAt Go.RowKit
set_option linter.unusedVariables false

theorem Tr.PathsOkL_of : ∀ {l : List Tr}, (∀ q ∈ l, q.PathsOk) → Tr.PathsOkL l
  | [], _ => by rw [Tr.PathsOkL]; trivial
  | t :: r, h => by rw [Tr.PathsOkL]; exact ⟨h t (by simp), Tr.PathsOkL_of fun q hq => h q (by simp [hq])⟩
theorem weightsAll_of {H : Type} {P : Program} {e : TypeId} : ∀ {l : List (DataW H)} {d : DataW H}, d ∈ l → ∀ n ∈ d.weights P e, n ∈ DataW.weightsAll P e l
  | x :: r, d, h, n, hn => by
    rw [DataW.weightsAll]
    rcases List.mem_cons.1 h with rfl | h
    · exact List.mem_append_left _ hn
    · exact List.mem_append_right _ (weightsAll_of h n hn)
section
variable {H : Type} {enc : TypeId × Value → H} {w : World} {base : Nat} {spare : Nat → Bool} {held : Bool}
set_option maxRecDepth 100000 in
theorem paths_ok : ∀ (fuel : Nat) (cs : List Value) (x : DataW H × List MemPlace), DataW.trod enc Tryd.prog w base spare held fuel 33 cs = some x → (∀ n ∈ x.1.weights Tryd.prog 33, n ≤ reachBytes) → ∀ (t : Tr) (p : TrP), cs = t.cells p → TrV w p t → t.PathsOk := by
  intro fuel
  induction fuel using Nat.strongRecOn with
  | _ fuel ih =>
    intro cs x h hw t p hcs hV
    obtain ⟨xs, n, hfu, hx, hl, hxl, hf⟩ := DataW.trod_struct Tryd.underlying33 h
    obtain ⟨y0, y1, y2, y3, y4, y5, y6, rfl⟩ : ∃ y0 y1 y2 y3 y4 y5 y6, xs = [y0, y1, y2, y3, y4, y5, y6] := by
      match xs, hxl with
      | [c0, c1, c2, c3, c4, c5, c6], _ => exact ⟨c0, c1, c2, c3, c4, c5, c6, rfl⟩
    subst hcs
    unfold Tr.cells at hf
    have f3 := hf 3 _ rfl
    have f6 := hf 6 _ rfl
    simp [show Tryd.prog.cellsOf 30 = 1 from by kernel_rfl, show Tryd.prog.cellsOf 31 = 1 from by kernel_rfl] at f3 f6
    have hww : ∀ n, n ∈ y3.1.weights Tryd.prog 30 ∨ n ∈ y6.1.weights Tryd.prog 31 → n ≤ reachBytes := by
      intro n hn
      apply hw
      rw [hx]
      simp [DataW.weights, Tryd.underlying33, DataW.weightsEach]
      rcases hn with h | h
      · simp [h]
      · simp [h]
    clear hw hx hf
    have hp : t.path.length ≤ 140737488355328 := by
      rcases DataW.trod_slice Tryd.underlying30 f3 with ⟨h1, -⟩ | ⟨a, len, cap, elems, rest, m, hm, h1, h2, -, -, -, hel, -⟩
      · injection h1 with h1
        injection h1 with _ h1 _
        omega
      · injection h1 with h1
        injection h1 with _ h1 _
        have h3 := hww ((elems.length + rest.length) * 24) (.inl (by rw [h2]; simp [DataW.weights, Tryd.underlying30, show Tryd.prog.bytesOf 23 = 24 from by kernel_rfl]))
        unfold reachBytes at h3
        omega
    have hkids : ∀ q ∈ t.kids, q.PathsOk := by
      intro q hq
      obtain ⟨i, hi⟩ := List.mem_iff_getElem?.1 hq
      have hil := (List.getElem?_eq_some_iff.1 hi).1
      rcases DataW.trod_slice Tryd.underlying31 f6 with ⟨h1, -⟩ | ⟨a, len, cap, elems, rest, m, hm, h1, h2, -, -, -, hel, hes, -⟩
      · injection h1 with h1
        injection h1 with _ h1 _
        omega
      · injection h1 with h1
        injection h1 with ha h1 _
        rcases hV.kids with h0 | ⟨g, o, hg, hgl, hrow⟩
        · rw [h0] at hi; simp at hi
        rw [hg] at ha
        injection ha with ha
        obtain ⟨p', hcl, hVq⟩ := (hrow.get hi).open
        have he := hes i (by omega)
        rw [List.getElem?_eq_getElem (by omega), ← ha, show Tryd.prog.cellsOf 33 = 12 from by kernel_rfl] at he
        obtain ⟨cs', hc1, hc2⟩ := Option.bind_eq_some_iff.1 he
        obtain ⟨g0, g1, g2⟩ := World.cells?_some hc1
        have hcs' : cs' = q.cells p' := by
          apply List.ext_getElem?
          intro j
          rcases Nat.lt_or_ge j 12 with hj | hj
          · have hq12 : j < (q.cells p').length := by simpa [Tr.cells] using hj
            have h5 := g2 j hj
            have h6 := hcl j _ (List.getElem?_eq_getElem hq12)
            rw [List.getElem?_eq_getElem hq12, ← h5, ← h6]
            rw [addr_add, addr_add, show o + i * 12 + j = o + 12 * i + j from by omega]
          · rw [List.getElem?_eq_none (by omega), List.getElem?_eq_none (by simp [Tr.cells]; omega)]
        refine ih m (by omega) cs' _ hc2 (fun z hz => hww z (.inr ?_)) q p' hcs' hVq
        rw [h2]
        simp only [DataW.weights, Tryd.underlying31]
        refine List.mem_cons_of_mem _ (List.mem_append_left _ (weightsAll_of ?_ z hz))
        exact List.mem_map.2 ⟨_, List.getElem_mem _, rfl⟩
    cases t with
    | mk k st f pt lo at_ l =>
      rw [Tr.PathsOk]
      exact ⟨hp, Tr.PathsOkL_of hkids⟩
set_option maxRecDepth 100000 in
theorem arg_tree2 {W : World} {base : Nat} {v : Value} {d : DataW H} {p : List MemPlace} (hv : Value.okWide Tryd.prog W .any base 33 v) (h : DataW.Trod enc Tryd.prog W 0 (fun _ => true) true 33 v d p) (hw : ∀ n ∈ d.weights Tryd.prog 33, n ≤ reachBytes) : ∃ (t : Tr) (q : TrP), v = t.val q ∧ TrV W q t ∧ t.PathsOk := by
  obtain ⟨cs, rfl, -⟩ := okWide_struct Tryd.underlying33 hv
  obtain ⟨fuel, hf⟩ := h
  obtain ⟨t, q, e, hV⟩ := opn_tree _ _ _ hf
  have hpo := paths_ok _ _ _ hf hw t q e hV
  have e' : cs.toList = t.cells q := e
  refine ⟨t, q, ?_, hV, hpo⟩
  have : cs = (t.cells q).toArray := by rw [← e']
  rw [this]
  rfl
end
end Go.Proofs.YtcjblbpkjegmiaaDoor
namespace Go.Proofs.YtcjblbpkjegmiaaDoor
open Go.ChangeShapes Go.WideShapes Go.ChangeAt Go.RowKit
open Go.ChangeMaps (open_string shut_string)
set_option linter.unusedVariables false
namespace lawTreetextKids
set_option maxRecDepth 100000 in
theorem lifted (os : Os) (started : os.Started) (H : Type) (enc : TypeId × Value → H) :
    ReturnsInHanded {} Tryd.checked os 5 .any (fun w args => (Rows.treetextKidsSpec.pre enc Tryd.prog Tryd.f5 Rows.treetextKidsRow.domain false w args ∧ laidMetH Tryd.prog Rows.treetextKidsRow.laid w) ∧ sizedMet enc Tryd.prog Tryd.f5 (OpenSpec.ofChange Rows.treetextKidsSpec) false w args)
      (Rows.treetextKidsSpec.post enc Tryd.prog Tryd.f5 false true false false) := by
  refine returnsInHanded_of_change_and (C := Tryd.checked) (X := fun w _ => laidMetH Tryd.prog Rows.treetextKidsRow.laid w) (fun _ _ _ hh h => h.of_heap hh) own started (by kernel_rfl) Tryd.func5
    (ChangeSpec.witness_shaped (enc := enc) (C := Tryd.checked) (os := os) (X := fun w _ => laidMetH Tryd.prog Rows.treetextKidsRow.laid w) false (World.laidAll Tryd.prog os Rows.treetextKidsRow.laid) #[.slice none 0 0, .agg #[.int .i64 0, .slice none 0 0, .int .i64 0, .int .i64 0, .int .i64 0, .string ⟨#[]⟩, .slice none 0 0, .slice none 0 0, .slice none 0 0, .int .i64 0, .int .i64 0, .slice none 0 0]] 8 (World.laidAll_os _ _ _)
      (World.shaped_of_ZipB (by kernel_rfl) (by kernel_rfl)) (by kernel_rfl) (by kernel_rfl) (by kernel_rfl)
      (by rw [MakeChecks.laidMetH_plain _ _ _ (by kernel_rfl)]; exact laidMet_laidAll _ (by kernel_rfl) (by kernel_rfl))) ?_
  intro W base args ds gs before hval0 hW hcnd hsz hL _
  have hval : ∀ (j : Nat) t v, Tryd.f5.params[j]? = some t → args[j]? = some v → Value.okWide Tryd.prog W .any base t v := hval0
  have hW' := hW
  obtain ⟨p, q, hA0, hV, rfl, hfz, hnd⟩ := hW
  have hA : DataW.TrodAll enc Tryd.prog W 0 (fun _ => true) true Tryd.f5.params.toList args.toList ds p := hA0
  rw [Tryd.params5] at hA hval
  obtain ⟨v0, vs0, d0, ds0, p0, q0, hargs, rfl, rfl, h0, r0⟩ := trodAll_cons hA
  obtain ⟨v1, vs1, d1, ds1, p1, q1, rfl, rfl, rfl, h1, r1⟩ := trodAll_cons r0
  obtain ⟨rfl, rfl, rfl⟩ := trodAll_nil r1
  obtain rfl : args = #[v0, v1] := by cases args; simp_all
  obtain ⟨rfl, rfl⟩ := trodVars_none hV
  rw [MakeChecks.laidMetH_plain _ _ _ (by kernel_rfl)] at hL
  have hT : WordsT W := words_of_reads (Lib.laidMet.reads hL (by simp [Rows.treetextKidsRow]))
  have k0 := h0
  have lt0 : ∀ x ∈ p0, x.block < W.heap.size := by obtain ⟨m, hm⟩ := k0; exact DataW.trod_lt m _ _ _ hm
  have k1 := h1
  have lt1 : ∀ x ∈ p1, x.block < W.heap.size := by obtain ⟨m, hm⟩ := k1; exact DataW.trod_lt m _ _ _ hm
  obtain ⟨Av, cv, vs, rfl, hVs⟩ := arg_vars (hval 0 22 v0 rfl rfl) h0
  obtain ⟨t, q, rfl, hTr, hpo⟩ := arg_tree2 (hval 1 33 v1 rfl rfl) h1 (fun n hn => of_decide_eq_true (List.all_eq_true.1 hsz n (DataW.weights_mem_each (j := 1) (t := 33) (d := d1) rfl rfl n hn)))
  clear hA0 hval0
  refine (treetextKids_any vs t Av cv q W hVs hTr hpo hT).mono fun e W' ⟨he, bel⟩ => ?_
  subst he
  exact ⟨_, rfl, _, _, _, [], _, [], hW', trodAll_mk1 (shut_bool Tryd.underlying4 _), (trodAll_cons_mk (Below.trod laidOut (by kernel_rfl) (of_decide_eq_true (by kernel_rfl)) k0 bel lt0) (trodAll_cons_mk (Below.trod laidOut (by kernel_rfl) (of_decide_eq_true (by kernel_rfl)) k1 bel lt1) trodAll_mk0)), rfl, bel.frame _, fun h => by cases h⟩

theorem said : Rows.TreetextKidsSaid :=
  OpenClaim.holds_of_wide 5 Tryd.f5 rfl rfl rfl rfl rfl rfl rfl ⟨rfl, rfl, rfl, rfl, rfl⟩ rfl rfl rfl rfl rfl (by kernel_rfl) Tryd.func5 (by kernel_rfl)
    (of_decide_eq_true (by kernel_rfl)) (by unfold Func.isWrapper; first | (rw [if_pos (by decide +kernel)]; kernel_rfl) | (rw [if_neg (by decide +kernel)]; exact ⟨rfl, rfl⟩))
    (fun os started H enc _ => lifted os started H enc)
theorem card : Rows.TreetextKidsCardSaid :=
  Claim7.holds_tied_plain_at .later [] _ _ _ _ said (fun _ h => by cases h) (by kernel_rfl) (fun _ h => by cases h) treetextKids_row_tie rfl ⟨rfl, rfl⟩ (by kernel_rfl) rfl
    (fun f fn hf hfn => by
      obtain rfl : f = 5 := Option.some.inj ((show Tryd.prog.funcNamed Rows.treetextKidsRow.func = some 5 by kernel_rfl).symm.trans hf) |>.symm
      obtain rfl : fn = Tryd.f5 := (Option.some.inj (Tryd.func5.symm.trans hfn)).symm
      exact ⟨by kernel_rfl, fun j t ht => by
        rw [Tryd.params5] at ht
        have hm : t ∈ [22, 33] := by simpa using Array.mem_of_getElem? ht
        have hall : ([22, 33].all fun u => !Tryd.prog.wantsStandIn u) = true := by kernel_rfl
        exact (show Tryd.prog.wantsStandIn t = false by simpa using List.all_eq_true.1 hall t hm)⟩)
    (by kernel_rfl)
#print axioms card
end lawTreetextKids
end Go.Proofs.YtcjblbpkjegmiaaDoor
