/- The law TreetextKids: the text of a tree is its own text and its kids' texts, two blanks deeper. -/
import Derived.Test.YtcjblbpkjegmiaaDoorTtrY
import Derived.Test.YtcjblbpkjegmiaaDoorTtrV
import Derived.Test.YtcjblbpkjegmiaaDoorTtrW
namespace Go.Proofs.YtcjblbpkjegmiaaDoor
open Go.RowKit
set_option linter.unusedVariables false

set_option maxRecDepth 100000 in
set_option maxHeartbeats 16000000 in
theorem treetextKids_any (vs : List Vr) (t : Tr) (Av : Option Addr) (cv : Nat) (p : TrP) (w : World) (hV : VrsV w Av cv vs) (hTr : TrV w p t) (hpo : t.PathsOk) (hT : WordsT w) :
    Calls Tryd.prog 5 #[.slice Av vs.length cv, t.val p] w fun e w' => e = .returned (.bool true) ∧ Below w.heap.size w w' := by
  obtain ⟨nv, hnv⟩ : ∃ nv, nv = vs.length := ⟨_, rfl⟩
  obtain ⟨n, hn⟩ : ∃ n, n = t.kids.length := ⟨_, rfl⟩
  obtain ⟨ne, hne⟩ : ∃ ne, ne = t.fm.tm.kids.length := ⟨_, rfl⟩
  obtain ⟨nf, hnf⟩ : ∃ nf, nf = t.fm.kids.length := ⟨_, rfl⟩
  obtain ⟨ns, hns⟩ : ∃ ns, ns = t.state.length := ⟨_, rfl⟩
  obtain ⟨np, hnp⟩ : ∃ np, np = t.path.length := ⟨_, rfl⟩
  obtain ⟨aK, haK⟩ : ∃ aK, aK = p.aK := ⟨_, rfl⟩
  obtain ⟨F, hF⟩ : ∃ F : Ending → World → Prop, F = fun e w' => e = .returned (.bool true) ∧ Below w.heap.size w w' := ⟨_, rfl⟩
  rw [← hF]
  have hcap := hTr.own.cap
  have hcapm := hTr.own.capm
  unfold maxLen at hcapm
  rw [← hn] at hcap
  have hcv := hV.cap
  have hcvm := hV.capm
  unfold maxLen at hcvm
  rw [← hnv] at hcv
  obtain ⟨w1, hw1⟩ : ∃ w1, w1 = w.alloc (.cells #[.int .i64 t.kind, .slice p.aS ns p.cS, .int .i64 t.fm.op, .int .i64 t.fm.tm.op, .int .i64 t.fm.tm.num, .string t.fm.tm.name, .slice p.aE ne p.cE, .slice p.aF nf p.cF, .slice p.aP np p.cP, .int .i64 t.loop, .int .i64 t.at_, .slice aK n p.cK] 33) := ⟨_, rfl⟩
  have hb1 : Below w.heap.size w w1 := by rw [hw1]; exact (Below.refl _ _).alloc (Nat.le_refl _) _
  have hs1 : w1.heap.size = w.heap.size + 1 := by rw [hw1]; simp
  have hbx : w1.heap[w.heap.size]? = some (.cells #[.int .i64 t.kind, .slice p.aS ns p.cS, .int .i64 t.fm.op, .int .i64 t.fm.tm.op, .int .i64 t.fm.tm.num, .string t.fm.tm.name, .slice p.aE ne p.cE, .slice p.aF nf p.cF, .slice p.aP np p.cP, .int .i64 t.loop, .int .i64 t.at_, .slice aK n p.cK] 33 (0, 0)) := by rw [hw1]; exact heap_alloc_new w _
  have hval : t.val p = .agg #[.int .i64 t.kind, .slice p.aS ns p.cS, .int .i64 t.fm.op, .int .i64 t.fm.tm.op, .int .i64 t.fm.tm.num, .string t.fm.tm.name, .slice p.aE ne p.cE, .slice p.aF nf p.cF, .slice p.aP np p.cP, .int .i64 t.loop, .int .i64 t.at_, .slice aK n p.cK] := by unfold Tr.val; rw [hn, hne, hnf, hns, hnp, haK]
  have hsmall := small_any vs Av cv w1 (hV.below hb1 rfl)
  have hmany := many_any t 200 p w1 (hTr.below hb1 rfl) hpo (by omega) (by omega)
  rw [hval] at hmany ⊢
  rw [← hnv] at hsmall ⊢
  have HF := Lib.hid hF
  have HAK := Lib.hid haK
  have HSMALL := Lib.hid hsmall
  have HMANY := Lib.hid hmany
  have HV := Lib.hid hV
  have HTR := Lib.hid hTr
  have HT := Lib.hid hT
  have HN := Lib.hid hn
  have HNV := Lib.hid hnv
  have HVAL := Lib.hid hval
  have HB1 := Lib.hid hb1
  have HS1 := Lib.hid hs1
  have HBX := Lib.hid hbx
  have HW1 := Lib.hid hw1
  have hbw1 : w.heap.size < w1.heap.size := by omega
  have kc0 : w1.cell? ⟨w.heap.size, 0, none⟩ = some (.int .i64 t.kind) := by rw [cell_of_row w1 w.heap.size 0 _ _ (0, 0) (hbx)]; rfl
  have kc1 : w1.cell? ⟨w.heap.size, 1, none⟩ = some (.slice p.aS ns p.cS) := by rw [cell_of_row w1 w.heap.size 1 _ _ (0, 0) (hbx)]; rfl
  have kc2 : w1.cell? ⟨w.heap.size, 2, none⟩ = some (.int .i64 t.fm.op) := by rw [cell_of_row w1 w.heap.size 2 _ _ (0, 0) (hbx)]; rfl
  have kc3 : w1.cell? ⟨w.heap.size, 3, none⟩ = some (.int .i64 t.fm.tm.op) := by rw [cell_of_row w1 w.heap.size 3 _ _ (0, 0) (hbx)]; rfl
  have kc4 : w1.cell? ⟨w.heap.size, 4, none⟩ = some (.int .i64 t.fm.tm.num) := by rw [cell_of_row w1 w.heap.size 4 _ _ (0, 0) (hbx)]; rfl
  have kc5 : w1.cell? ⟨w.heap.size, 5, none⟩ = some (.string t.fm.tm.name) := by rw [cell_of_row w1 w.heap.size 5 _ _ (0, 0) (hbx)]; rfl
  have kc6 : w1.cell? ⟨w.heap.size, 6, none⟩ = some (.slice p.aE ne p.cE) := by rw [cell_of_row w1 w.heap.size 6 _ _ (0, 0) (hbx)]; rfl
  have kc7 : w1.cell? ⟨w.heap.size, 7, none⟩ = some (.slice p.aF nf p.cF) := by rw [cell_of_row w1 w.heap.size 7 _ _ (0, 0) (hbx)]; rfl
  have kc8 : w1.cell? ⟨w.heap.size, 8, none⟩ = some (.slice p.aP np p.cP) := by rw [cell_of_row w1 w.heap.size 8 _ _ (0, 0) (hbx)]; rfl
  have kc9 : w1.cell? ⟨w.heap.size, 9, none⟩ = some (.int .i64 t.loop) := by rw [cell_of_row w1 w.heap.size 9 _ _ (0, 0) (hbx)]; rfl
  have kc10 : w1.cell? ⟨w.heap.size, 10, none⟩ = some (.int .i64 t.at_) := by rw [cell_of_row w1 w.heap.size 10 _ _ (0, 0) (hbx)]; rfl
  have kc11 : w1.cell? ⟨w.heap.size, 11, none⟩ = some (.slice aK n p.cK) := by rw [cell_of_row w1 w.heap.size 11 _ _ (0, 0) (hbx)]; rfl
  clear hF hsmall hmany hV hTr hT hn hnv hval hb1 hs1 hbx hw1 hne hnf hns hnp haK hpo
  go_enter Tryd.func5, Tryd.ntmps5
  go_wp2_with fail
  rw [← HW1.out]
  refine (HSMALL.out).mono ?_
  rintro e w' ⟨sb, rfl, hsb, hw⟩
  rw [← hw]
  clear hw
  cases sb with
  | false =>
    clear hsb
    have HLV2 := Lib.hid (lives_any w1 (HT.out.below HB1.out))
    go_wp2_with fail
    refine (HLV2.out).mono ?_
    rintro e w9 ⟨rfl, hb9⟩
    have HB9 := Lib.hid ((HB1.out).trans (hb9.mono HB1.out.size))
    clear hb9 HLV2
    go_wp2_with fail
    rw [HF.out]
    exact ⟨rfl, HB9.out⟩
  | true =>
    have HSM := Lib.hid (hsb rfl)
    clear hsb
    go_wp2_with fail
    refine (HMANY.out).mono ?_
    rintro e w2 ⟨mb, rfl, hmb, hb2⟩
    have HBX2 := Lib.hid ((hb2.block _ hbw1).trans HBX.out)
    have HB2 := Lib.hid (HB1.out.trans (hb2.mono HB1.out.size))
    clear hb2 kc0 kc1 kc2 kc3 kc4 kc5 kc6 kc7 kc8 kc9 kc10 kc11
    cases mb with
    | false =>
      clear hmb
      have HLV2 := Lib.hid (lives_any w2 (HT.out.below HB2.out))
      go_wp2_with fail
      refine (HLV2.out).mono ?_
      rintro e w9 ⟨rfl, hb9⟩
      have HB9 := Lib.hid ((HB2.out).trans (hb9.mono HB2.out.size))
      clear hb9 HLV2
      go_wp2_with fail
      rw [HF.out]
      exact ⟨rfl, HB9.out⟩
    | true =>
      have HCOST := Lib.hid (hmb rfl)
      clear hmb
      go_wp2_with fail
      go_loopw [5] (fun si wr => ∃ k : Nat, k ≤ nv ∧ si = .int .i64 k ∧ (∀ v ∈ vs.take k, isName v.name.data.toList = true) ∧ Below w2.heap.size w2 wr) (fun i _ => nv - (intOf i).toNat)
      case atStart => exact ⟨0, Nat.zero_le _, rfl, fun v hv => by simp at hv, Below.refl _ _⟩
      case round =>
        obtain ⟨k, hk, rfl, hnm, hbel2⟩ := hrel
        have hbel := HB2.out.trans (hbel2.mono HB2.out.size)
        have HNM := Lib.hid hnm
        have HBL2 := Lib.hid hbel2
        have HBL := Lib.hid hbel
        have hszr := hbel.size
        have hw2r := hbel2.size
        clear hnm
        by_cases hlt : k < nv
        · obtain ⟨v, hv⟩ : ∃ v, vs[k]? = some v := ⟨_, List.getElem?_eq_getElem (by have := HNV.out; omega)⟩
          rcases HV.out.row with h9 | ⟨g, o, rfl, hg, hvr⟩
          · rw [h9] at hv; simp at hv
          obtain ⟨q0, q1, q2, q3⟩ := hvr k v hv
          rw [← hbel.cell (p := ⟨g, _, none⟩) hg] at q0
          have e1 : o + 4 * k = o + k * 4 := by omega
          rw [e1] at q0
          have hgr : g < wr.heap.size := by omega
          have hvn := HSM.out.name v (List.mem_of_getElem? hv)
          have HTK : Hid (vs.take (k + 1) = vs.take k ++ [v]) := by
            obtain ⟨hj, hj2⟩ := List.getElem?_eq_some_iff.1 hv
            show _ = _
            rw [List.take_succ_eq_append_getElem hj, hj2]
          have his := ris_any v.name wr (by omega)
          obtain ⟨nm, hnm⟩ : ∃ nm, nm = isName (bs v.name) := ⟨_, rfl⟩
          rw [← hnm] at his
          have HIS := Lib.hid his
          have HNM1 := Lib.hid hnm
          have hk0 : (0 : Int) ≤ (k : Int) := by omega
          have hk1 : (k : Int) < (nv : Int) := by omega
          clear hv hvr e1 his hnm hbel hbel2 q1 q2 q3
          go_wp2_with fail
          refine (HIS.out).mono ?_
          rintro e w3 ⟨rfl, hb3⟩
          have HB3 := Lib.hid (HBL.out.trans (hb3.mono hszr))
          have HB32 := Lib.hid (HBL2.out.trans (hb3.mono hw2r))
          clear hb3 q0
          cases nm with
          | false =>
            have HLV2 := Lib.hid (lives_any w3 (HT.out.below HB3.out))
            go_wp2_with fail
            refine (HLV2.out).mono ?_
            rintro e w9 ⟨rfl, hb9⟩
            have HB9 := Lib.hid ((HB3.out).trans (hb9.mono HB3.out.size))
            clear hb9 HLV2
            go_wp2_with fail
            rw [HF.out]
            exact ⟨rfl, HB9.out⟩
          | true =>
            have HNM2 : Hid (∀ z ∈ vs.take (k + 1), isName z.name.data.toList = true) := by
              intro z hz
              rw [HTK.out] at hz
              rcases List.mem_append.1 hz with hz | hz
              · exact HNM.out z hz
              · simp at hz; rw [hz]; exact HNM1.out.symm
            go_wp2_with fail
            go_roundw
            case rel => exact ⟨k + 1, by omega, by go_num, HNM2.out, HB32.out⟩
            case measure => simp [intOf]; omega
        · have hk1 : ¬ (k : Int) < (nv : Int) := by omega
          have HNM2 : Hid (∀ v ∈ vs, isName v.name.data.toList = true) := fun v hv => HNM.out v (by rw [List.take_of_length_le (by rw [← HNV.out]; omega)]; exact hv)
          have hbxr := (hbel2.block _ (lt_of_heap HBX2.out)).trans HBX2.out
          have HBXR := Lib.hid hbxr
          have hbwr : w.heap.size < wr.heap.size := lt_of_heap hbxr
          have kc0 : wr.cell? ⟨w.heap.size, 0, none⟩ = some (.int .i64 t.kind) := by rw [cell_of_row wr w.heap.size 0 _ _ (0, 0) (hbxr)]; rfl
          have kc1 : wr.cell? ⟨w.heap.size, 1, none⟩ = some (.slice p.aS ns p.cS) := by rw [cell_of_row wr w.heap.size 1 _ _ (0, 0) (hbxr)]; rfl
          have kc2 : wr.cell? ⟨w.heap.size, 2, none⟩ = some (.int .i64 t.fm.op) := by rw [cell_of_row wr w.heap.size 2 _ _ (0, 0) (hbxr)]; rfl
          have kc3 : wr.cell? ⟨w.heap.size, 3, none⟩ = some (.int .i64 t.fm.tm.op) := by rw [cell_of_row wr w.heap.size 3 _ _ (0, 0) (hbxr)]; rfl
          have kc4 : wr.cell? ⟨w.heap.size, 4, none⟩ = some (.int .i64 t.fm.tm.num) := by rw [cell_of_row wr w.heap.size 4 _ _ (0, 0) (hbxr)]; rfl
          have kc5 : wr.cell? ⟨w.heap.size, 5, none⟩ = some (.string t.fm.tm.name) := by rw [cell_of_row wr w.heap.size 5 _ _ (0, 0) (hbxr)]; rfl
          have kc6 : wr.cell? ⟨w.heap.size, 6, none⟩ = some (.slice p.aE ne p.cE) := by rw [cell_of_row wr w.heap.size 6 _ _ (0, 0) (hbxr)]; rfl
          have kc7 : wr.cell? ⟨w.heap.size, 7, none⟩ = some (.slice p.aF nf p.cF) := by rw [cell_of_row wr w.heap.size 7 _ _ (0, 0) (hbxr)]; rfl
          have kc8 : wr.cell? ⟨w.heap.size, 8, none⟩ = some (.slice p.aP np p.cP) := by rw [cell_of_row wr w.heap.size 8 _ _ (0, 0) (hbxr)]; rfl
          have kc9 : wr.cell? ⟨w.heap.size, 9, none⟩ = some (.int .i64 t.loop) := by rw [cell_of_row wr w.heap.size 9 _ _ (0, 0) (hbxr)]; rfl
          have kc10 : wr.cell? ⟨w.heap.size, 10, none⟩ = some (.int .i64 t.at_) := by rw [cell_of_row wr w.heap.size 10 _ _ (0, 0) (hbxr)]; rfl
          have kc11 : wr.cell? ⟨w.heap.size, 11, none⟩ = some (.slice aK n p.cK) := by rw [cell_of_row wr w.heap.size 11 _ _ (0, 0) (hbxr)]; rfl
          have hco : t.cost ≤ 200 := by have := HCOST.out; omega
          have hwc := Tr.wsize_cost t
          have hrw := rawT_len HSM.out 200 t 0 (rng_of t p HTR.out) (by omega)
          have hrw2 : t.cost * (70000 + 2 * 200) ≤ 200 * (70000 + 2 * 200) := Nat.mul_le_mul_right _ hco
          have hsh := tshowtr_any vs t Av cv p wr HSM.out (HV.out.below hbel rfl) (HTR.out.below hbel rfl) (HT.out.below hbel) (by omega) (by omega)
          rw [HVAL.out, ← HNV.out] at hsh
          obtain ⟨X, hX⟩ : ∃ X, X = showTr vs t := ⟨_, rfl⟩
          rw [← hX] at hsh
          have HSH := Lib.hid hsh
          have HX := Lib.hid hX
          have HCO := Lib.hid hco
          clear hlt hbel hbel2 hbxr hwc hrw hrw2 hsh hX hco
          go_wp2_with fail
          refine (HSH.out).mono ?_
          rintro e w3 ⟨rfl, hb3⟩
          have HB3 := Lib.hid (HBL.out.trans (hb3.mono hszr))
          have HBX3 := Lib.hid ((hb3.block _ hbwr).trans HBXR.out)
          clear hb3 kc0 kc1 kc2 kc3 kc4 kc5 kc6 kc7 kc8 kc9 kc10 kc11
          have HT3 := Lib.hid (HT.out.below HB3.out)
          have hs3 := HB3.out.size
          by_cases herr : X.2 = 0
          · have hx0 : (X.2 != 0) = false := by simpa using herr
            obtain ⟨hXe, hX1, hXl⟩ : errT vs t = 0 ∧ X.1 = rawT vs t 0 ∧ (rawT vs t 0).length ≤ 65536 := by
              have h := HX.out
              unfold showTr at h
              by_cases h1 : errT vs t ≠ 0
              · rw [if_pos h1] at h; rw [h] at herr; exact absurd herr h1
              · rw [if_neg h1] at h
                by_cases h2 : 65536 < (rawT vs t 0).length
                · rw [if_pos h2] at h; rw [h] at herr; exact absurd herr (by decide)
                · rw [if_neg h2] at h; exact ⟨Classical.byContradiction h1, by rw [h], by omega⟩
            have HXE := Lib.hid hXe
            have HX1 := Lib.hid hX1
            have HXL := Lib.hid hXl
            have hbx3 := HBX3.out
            have hbw3 : w.heap.size < w3.heap.size := lt_of_heap hbx3
            have kc0 : w3.cell? ⟨w.heap.size, 0, none⟩ = some (.int .i64 t.kind) := by rw [cell_of_row w3 w.heap.size 0 _ _ (0, 0) (hbx3)]; rfl
            have kc1 : w3.cell? ⟨w.heap.size, 1, none⟩ = some (.slice p.aS ns p.cS) := by rw [cell_of_row w3 w.heap.size 1 _ _ (0, 0) (hbx3)]; rfl
            have kc2 : w3.cell? ⟨w.heap.size, 2, none⟩ = some (.int .i64 t.fm.op) := by rw [cell_of_row w3 w.heap.size 2 _ _ (0, 0) (hbx3)]; rfl
            have kc3 : w3.cell? ⟨w.heap.size, 3, none⟩ = some (.int .i64 t.fm.tm.op) := by rw [cell_of_row w3 w.heap.size 3 _ _ (0, 0) (hbx3)]; rfl
            have kc4 : w3.cell? ⟨w.heap.size, 4, none⟩ = some (.int .i64 t.fm.tm.num) := by rw [cell_of_row w3 w.heap.size 4 _ _ (0, 0) (hbx3)]; rfl
            have kc5 : w3.cell? ⟨w.heap.size, 5, none⟩ = some (.string t.fm.tm.name) := by rw [cell_of_row w3 w.heap.size 5 _ _ (0, 0) (hbx3)]; rfl
            have kc6 : w3.cell? ⟨w.heap.size, 6, none⟩ = some (.slice p.aE ne p.cE) := by rw [cell_of_row w3 w.heap.size 6 _ _ (0, 0) (hbx3)]; rfl
            have kc7 : w3.cell? ⟨w.heap.size, 7, none⟩ = some (.slice p.aF nf p.cF) := by rw [cell_of_row w3 w.heap.size 7 _ _ (0, 0) (hbx3)]; rfl
            have kc8 : w3.cell? ⟨w.heap.size, 8, none⟩ = some (.slice p.aP np p.cP) := by rw [cell_of_row w3 w.heap.size 8 _ _ (0, 0) (hbx3)]; rfl
            have kc9 : w3.cell? ⟨w.heap.size, 9, none⟩ = some (.int .i64 t.loop) := by rw [cell_of_row w3 w.heap.size 9 _ _ (0, 0) (hbx3)]; rfl
            have kc10 : w3.cell? ⟨w.heap.size, 10, none⟩ = some (.int .i64 t.at_) := by rw [cell_of_row w3 w.heap.size 10 _ _ (0, 0) (hbx3)]; rfl
            have kc11 : w3.cell? ⟨w.heap.size, 11, none⟩ = some (.slice aK n p.cK) := by rw [cell_of_row w3 w.heap.size 11 _ _ (0, 0) (hbx3)]; rfl
            clear herr hXe hX1 hXl hbx3
            obtain ⟨w4, hw4⟩ : ∃ w4, w4 = w3.alloc (.cells #[.int .i64 t.kind, .slice p.aS ns p.cS, .int .i64 t.fm.op, .int .i64 t.fm.tm.op, .int .i64 t.fm.tm.num, .string t.fm.tm.name, .slice p.aE ne p.cE, .slice p.aF nf p.cF, .slice p.aP np p.cP, .int .i64 t.loop, .int .i64 t.at_, .slice none 0 0] 33) := ⟨_, rfl⟩
            have hb34 : Below w3.heap.size w3 w4 := by rw [hw4]; exact (Below.refl _ _).alloc (Nat.le_refl _) _
            have hb4 := HB3.out.trans (hb34.mono hs3)
            have hT4 := HTR.out.below hb4 rfl
            obtain ⟨P0, hP0⟩ : ∃ P0 : TrP, P0 = ⟨p.aS, p.cS, p.aE, p.cE, p.aF, p.cF, p.aP, p.cP, none, 0⟩ := ⟨_, rfl⟩
            have hV0 : TrV w4 P0 t.bare := by rw [hP0]; exact ⟨⟨hT4.own.st, hT4.own.fm, hT4.own.path, Nat.le_refl _, by unfold maxLen; show 0 ≤ _; omega, hT4.own.at_⟩, .inl rfl⟩
            have hv0 : t.bare.val P0 = .agg #[.int .i64 t.kind, .slice p.aS ns p.cS, .int .i64 t.fm.op, .int .i64 t.fm.tm.op, .int .i64 t.fm.tm.num, .string t.fm.tm.name, .slice p.aE ne p.cE, .slice p.aF nf p.cF, .slice p.aP np p.cP, .int .i64 t.loop, .int .i64 t.at_, .slice none 0 0] := by
              have h := HVAL.out
              unfold Tr.val at h
              injection h with h
              have e : ∀ j, _ := fun j : Nat => congrArg (fun z : Array Value => z[j]?) h
              have e1 := e 1
              have e6 := e 6
              have e7 := e 7
              have e8 := e 8
              simp at e1 e6 e7 e8
              rw [hP0]
              unfold Tr.val
              show Value.agg #[.int .i64 t.kind, .slice p.aS t.state.length p.cS, .int .i64 t.fm.op, .int .i64 t.fm.tm.op, .int .i64 t.fm.tm.num, .string t.fm.tm.name, .slice p.aE t.fm.tm.kids.length p.cE, .slice p.aF t.fm.kids.length p.cF, .slice p.aP t.path.length p.cP, .int .i64 t.loop, .int .i64 t.at_, .slice none 0 0] = _
              rw [e1, e6, e7, e8]
            have hco0 : t.bare.cost ≤ 200 := by have h1 := Tr.cost_eq t; have h2 := Tr.cost_eq t.bare; have h3 : Tr.costL t.bare.kids = 0 := rfl; have h4 : t.bare.path = t.path := rfl; have h5 : t.bare.fm = t.fm := rfl; rw [h3, h4, h5] at h2; have := HCO.out; omega
            have hwc0 := Tr.wsize_cost t.bare
            have hrw0 : (rawT vs t.bare 0).length ≤ 65536 := by have h := HXL.out; rw [raw_bare, List.length_append] at h; omega
            have hsh0 := tshowtr_any vs t.bare Av cv P0 w4 HSM.out (HV.out.below hb4 rfl) hV0 (HT.out.below hb4) (by omega) (by omega)
            rw [hv0, show showTr vs t.bare = (rawT vs t.bare 0, 0) from show_bare HXE.out HXL.out, ← HNV.out] at hsh0
            have HSH0 := Lib.hid hsh0
            have HW4 := Lib.hid hw4
            have HB4 := Lib.hid hb4
            have HB34 := Lib.hid hb34
            clear hw4 hb34 hb4 hT4 hP0 hV0 hv0 hco0 hwc0 hrw0 hsh0
            go_wp2_with fail
            rw [← HW4.out]
            refine (HSH0.out).mono ?_
            rintro e w5 ⟨rfl, hb5⟩
            have HB5 := Lib.hid (HB4.out.trans (hb5.mono HB4.out.size))
            have HB35 := Lib.hid (HB34.out.trans (hb5.mono HB34.out.size))
            clear hb5 kc0 kc1 kc2 kc3 kc4 kc5 kc6 kc7 kc8 kc9 kc10 kc11
            go_wp2_with fail
            go_loopw [9, 11, 12, 13] (fun sa si _ _ wr => ∃ (j : Nat) (S : ByteArray), j ≤ n ∧ sa = .string S ∧ si = .int .i64 j ∧ bs S = rawT vs t.bare 0 ++ rawL vs (t.kids.take j) 1 ∧ Below w3.heap.size w3 wr) (fun _ i _ _ _ => n - (intOf i).toNat)
            case atStart => exact ⟨0, _, Nat.zero_le _, rfl, rfl, by simp [bs, rawL], HB35.out⟩
            case round =>

              obtain ⟨j, S, hj, rfl, rfl, hS, hbq⟩ := hrel
              have HS := Lib.hid hS
              have HBQ := Lib.hid hbq
              have hzq := hbq.size
              have hbt : Below w.heap.size w wr := HB3.out.trans (hbq.mono hs3)
              have HBT := Lib.hid hbt
              have hbxq := (hbq.block _ hbw3).trans HBX3.out
              have hbwq : w.heap.size < wr.heap.size := lt_of_heap hbxq
              have hSz : S.size ≤ 65536 := by
                have h := HXL.out
                have h2 := rawL_take_len (vs := vs) t.kids j 1
                rw [raw_bare, List.length_append] at h
                have h3 : S.size = (bs S).length := (bs_length S).symm
                rw [h3, hS, List.length_append]
                omega
              by_cases hlt : j < n
              · obtain ⟨q, hq'⟩ : ∃ q, t.kids[j]? = some q := ⟨_, List.getElem?_eq_getElem (by have := HN.out; omega)⟩
                have hk := HTR.out.kids
                rw [← HAK.out] at hk
                rcases hk with h9 | ⟨g, o, rfl, hg, hrow⟩
                · rw [h9] at hq'; simp at hq'
                have kc11 : wr.cell? ⟨w.heap.size, 11, none⟩ = some (.slice (some ⟨g, o, none⟩) n p.cK) := by rw [cell_of_row wr w.heap.size 11 _ _ (0, 0) hbxq]; rfl
                have hat := (hrow.get hq').below hbt rfl hg
                obtain ⟨p', hcl, hVq⟩ := hat.open
                rw [show o + 12 * j = o + j * 12 from by omega] at hcl
                have q0 := hcl 0 _ rfl
                have q1 := hcl 1 _ rfl
                have q2 := hcl 2 _ rfl
                have q3 := hcl 3 _ rfl
                have q4 := hcl 4 _ rfl
                have q5 := hcl 5 _ rfl
                have q6 := hcl 6 _ rfl
                have q7 := hcl 7 _ rfl
                have q8 := hcl 8 _ rfl
                have q9 := hcl 9 _ rfl
                have q10 := hcl 10 _ rfl
                have q11 := hcl 11 _ rfl
                rw [Nat.add_zero] at q0
                have hgr : g < wr.heap.size := by have := hbt.size; omega
                have hqc : q.cost ≤ 200 := by
                  have h1 := Tr.costL_mem (List.mem_of_getElem? hq')
                  have h2 := Tr.cost_eq t
                  have := HCO.out
                  omega
                have hwq := Tr.wsize_cost q
                obtain ⟨hsk, hskl⟩ := show_kid HNM2.out HXE.out HXL.out hq'
                have hshq := tshowtr_any vs q Av cv p' wr HSM.out (HV.out.below hbt rfl) hVq (HT.out.below hbt) (by omega) (by omega)
                rw [hsk, ← HNV.out] at hshq
                unfold Tr.val at hshq
                obtain ⟨Q, hQ⟩ : ∃ Q : ByteArray, Q = ⟨(rawT vs q 0).toArray⟩ := ⟨_, rfl⟩
                rw [show (⟨(rawT vs q 0, (0 : Int)).1.toArray⟩ : ByteArray) = Q from hQ.symm] at hshq
                have hQz : Q.size ≤ 100000 := by rw [hQ, bsz' (rawT vs q 0)]; omega
                obtain ⟨D, hD⟩ : ∃ D : ByteArray, D = ⟨(rawT vs q 1).toArray⟩ := ⟨_, rfl⟩
                have hdp : ∀ W, Calls Tryd.prog 20 #[.string Q] W fun e w' => e = .returned (.string D) ∧ w' = W := fun W => by
                  have h := deeper_any Q W hQz
                  rw [show bs Q = rawT vs q 0 from by rw [hQ]; rfl, kid_deep HNM2.out, ← hD] at h
                  exact h
                have HSN : Hid (bs (S ++ D) = rawT vs t.bare 0 ++ rawL vs (t.kids.take (j + 1)) 1) := by
                  show _ = _
                  rw [rawL_take hq', bs_app', hS, hD, List.append_assoc]
                  rfl
                have hDz : D.size ≤ 65536 := by
                  have h := HXL.out
                  have h2 := rawL_take_len (vs := vs) t.kids (j + 1) 1
                  rw [rawL_take hq', List.length_append] at h2
                  rw [raw_bare, List.length_append] at h
                  rw [hD, bsz' (rawT vs q 1)]
                  omega
                have HSHQ := Lib.hid hshq
                have HDP := Lib.hid hdp
                have hk0 : (0 : Int) ≤ (j : Int) := by omega
                have hk1' : (j : Int) < (n : Int) := by omega
                clear hshq hdp hVq hat hrow hq' hbq hbt hcl hS hbxq hsk hskl hwq hqc hQ hD hQz
                go_wp2_with fail
                refine (HSHQ.out).mono ?_
                rintro e w6 ⟨rfl, hb6⟩
                have HB6 := Lib.hid (HBQ.out.trans (hb6.mono hzq))
                clear hb6 q0 q1 q2 q3 q4 q5 q6 q7 q8 q9 q10 q11 kc11
                go_wp2_with fail
                refine (HDP.out w6).mono ?_
                rintro e w7 ⟨rfl, hw7⟩
                rw [hw7]
                clear hw7
                go_wp2_with fail
                go_roundw
                case rel => exact ⟨j + 1, S ++ D, by omega, rfl, by go_num, HSN.out, HB6.out⟩
                case measure => simp [intOf]; omega
              · have kc11 : wr.cell? ⟨w.heap.size, 11, none⟩ = some (.slice aK n p.cK) := by rw [cell_of_row wr w.heap.size 11 _ _ (0, 0) hbxq]; rfl
                have hk1' : ¬ (j : Int) < (n : Int) := by omega
                have hSX : S = ⟨X.1.toArray⟩ := by
                  apply bs_ext
                  rw [hS, List.take_of_length_le (by rw [← HN.out]; omega), ← raw_bare, ← HX1.out]
                  rfl
                have hln := lines52_any S wr (by omega)
                have hbS : bs S = rawT vs t 0 := by rw [hSX, ← HX1.out]; rfl
                rw [hbS, rawT_nl vs t 0 (clean_all HNM2.out t) HXE.out, decide_eq_true (Or.inr (rawT_last vs t 0))] at hln
                have HLN := Lib.hid hln
                have hcnt : ∀ W, Below w.heap.size w W → Calls Tryd.prog 22 #[t.val p] W fun e w' => e = .returned (.int .i64 (t.lns : Nat)) ∧ Below W.heap.size W w' := fun W hb => count_any t.size t p W (Nat.le_refl _) (HTR.out.below hb rfl) (by have := HCO.out; omega)
                rw [HVAL.out] at hcnt
                have HCNT := Lib.hid hcnt
                have HBXQ := Lib.hid hbxq
                rw [← hSX]
                clear hln hbS hcnt hbt hbq hbxq hS hSX hlt
                go_wp2_with fail
                refine (HLN.out).mono ?_
                rintro e w6 ⟨rfl, nd, hw6⟩
                have hb6 : Below wr.heap.size wr w6 := by rw [hw6]; exact bdrewN (Below.refl _ _) nd
                have hbx6 := (hb6.block _ hbwq).trans HBXQ.out
                have hbw6 : w.heap.size < w6.heap.size := lt_of_heap hbx6
                have HB6 := Lib.hid (HBT.out.trans (hb6.mono HBT.out.size))
                have HCN := Lib.hid (HCNT.out w6 HB6.out)
                clear kc11
                have kc0 : w6.cell? ⟨w.heap.size, 0, none⟩ = some (.int .i64 t.kind) := by rw [cell_of_row w6 w.heap.size 0 _ _ (0, 0) (hbx6)]; rfl
                have kc1 : w6.cell? ⟨w.heap.size, 1, none⟩ = some (.slice p.aS ns p.cS) := by rw [cell_of_row w6 w.heap.size 1 _ _ (0, 0) (hbx6)]; rfl
                have kc2 : w6.cell? ⟨w.heap.size, 2, none⟩ = some (.int .i64 t.fm.op) := by rw [cell_of_row w6 w.heap.size 2 _ _ (0, 0) (hbx6)]; rfl
                have kc3 : w6.cell? ⟨w.heap.size, 3, none⟩ = some (.int .i64 t.fm.tm.op) := by rw [cell_of_row w6 w.heap.size 3 _ _ (0, 0) (hbx6)]; rfl
                have kc4 : w6.cell? ⟨w.heap.size, 4, none⟩ = some (.int .i64 t.fm.tm.num) := by rw [cell_of_row w6 w.heap.size 4 _ _ (0, 0) (hbx6)]; rfl
                have kc5 : w6.cell? ⟨w.heap.size, 5, none⟩ = some (.string t.fm.tm.name) := by rw [cell_of_row w6 w.heap.size 5 _ _ (0, 0) (hbx6)]; rfl
                have kc6 : w6.cell? ⟨w.heap.size, 6, none⟩ = some (.slice p.aE ne p.cE) := by rw [cell_of_row w6 w.heap.size 6 _ _ (0, 0) (hbx6)]; rfl
                have kc7 : w6.cell? ⟨w.heap.size, 7, none⟩ = some (.slice p.aF nf p.cF) := by rw [cell_of_row w6 w.heap.size 7 _ _ (0, 0) (hbx6)]; rfl
                have kc8 : w6.cell? ⟨w.heap.size, 8, none⟩ = some (.slice p.aP np p.cP) := by rw [cell_of_row w6 w.heap.size 8 _ _ (0, 0) (hbx6)]; rfl
                have kc9 : w6.cell? ⟨w.heap.size, 9, none⟩ = some (.int .i64 t.loop) := by rw [cell_of_row w6 w.heap.size 9 _ _ (0, 0) (hbx6)]; rfl
                have kc10 : w6.cell? ⟨w.heap.size, 10, none⟩ = some (.int .i64 t.at_) := by rw [cell_of_row w6 w.heap.size 10 _ _ (0, 0) (hbx6)]; rfl
                have kc11 : w6.cell? ⟨w.heap.size, 11, none⟩ = some (.slice aK n p.cK) := by rw [cell_of_row w6 w.heap.size 11 _ _ (0, 0) (hbx6)]; rfl
                clear hw6 hb6 hbx6
                go_wp2_with fail
                refine (HCN.out).mono ?_
                rintro e w7 ⟨rfl, hb7⟩
                have HB7 := Lib.hid (HB6.out.trans (hb7.mono HB6.out.size))
                clear hb7 kc0 kc1 kc2 kc3 kc4 kc5 kc6 kc7 kc8 kc9 kc10 kc11
                have HLV2 := Lib.hid (lives_any w7 (HT.out.below HB7.out))
                go_wp2_with fail
                refine (HLV2.out).mono ?_
                rintro e w9 ⟨rfl, hb9⟩
                have HB9 := Lib.hid ((HB7.out).trans (hb9.mono HB7.out.size))
                clear hb9 HLV2
                go_wp2_with fail
                rw [HF.out]
                exact ⟨rfl, HB9.out⟩
          · have hx0 : (X.2 != 0) = true := by simpa using herr
            have hX1 : X.1 = [] := by
              have h := HX.out
              unfold showTr at h
              by_cases h1 : errT vs t ≠ 0
              · rw [if_pos h1] at h; rw [h]
              · rw [if_neg h1] at h
                by_cases h2 : 65536 < (rawT vs t 0).length
                · rw [if_pos h2] at h; rw [h]
                · rw [if_neg h2] at h; rw [h] at herr; exact absurd rfl herr
            rw [hX1]
            clear herr hX1
            have HLV2 := Lib.hid (lives_any w3 (HT.out.below HB3.out))
            go_wp2_with fail
            refine (HLV2.out).mono ?_
            rintro e w9 ⟨rfl, hb9⟩
            have HB9 := Lib.hid ((HB3.out).trans (hb9.mono HB3.out.size))
            clear hb9 HLV2
            go_wp2_with fail
            rw [HF.out]
            exact ⟨rfl, HB9.out⟩

end Go.Proofs.YtcjblbpkjegmiaaDoor
