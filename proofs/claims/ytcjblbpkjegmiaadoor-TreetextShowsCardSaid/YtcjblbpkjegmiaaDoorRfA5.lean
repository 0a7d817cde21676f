/-The law's package: the examples (law52.lives).  The law TreetextShows: Show answers as the plain reference's.  The law TreetextShows: its row and its card. -/
import Derived.Test.YtcjblbpkjegmiaaDoorTtrE
import Derived.Test.YtcjblbpkjegmiaaDoorTtrF
import Derived.Test.YtcjblbpkjegmiaaDoorTtrY3
import Derived.Test.YtcjblbpkjegmiaaDoorRfA4
import Derived.Test.YtcjblbpkjegmiaaDoorOpnV
namespace Go.Proofs.YtcjblbpkjegmiaaDoor
open Go.RowKit
set_option linter.unusedVariables false

theorem strs_of_bs {w : World} {g : Nat} {L : List Bs} (h : RowT w g L) : StrsAt w (some ⟨g, 0, none⟩) (L.map fun x => ⟨x.toArray⟩) :=
  .inr ⟨g, 0, rfl, h.lt, fun j hj => by
    rw [List.length_map] at hj
    rw [Nat.zero_add, h.cell (List.getElem?_eq_getElem hj)]
    simp [List.getD, hj]⟩
theorem rows2_new (w : World) (T1 T2 : TypeId) (a b : List Int) (ha : ∀ z ∈ a, -9223372036854775808 ≤ z ∧ z ≤ 9223372036854775807) (hb : ∀ z ∈ b, -9223372036854775808 ≤ z ∧ z ≤ 9223372036854775807) (ham : a.length ≤ maxLen) (hbm : b.length ≤ maxLen) :
    RowsV (((w.alloc (.cells (a.map fun z => Value.int .i64 z).toArray T1)).alloc (.cells (b.map fun z => Value.int .i64 z).toArray T1)).alloc (.cells #[.slice (some ⟨w.heap.size, 0, none⟩) a.length a.length, .slice (some ⟨w.heap.size + 1, 0, none⟩) b.length b.length] T2)) (some ⟨w.heap.size + 2, 0, none⟩) 2 [a, b] := by
  obtain ⟨w1, hw1⟩ : ∃ w1, w1 = w.alloc (.cells (a.map fun z => Value.int .i64 z).toArray T1) := ⟨_, rfl⟩
  have h1 : IntsV w1 (some ⟨w.heap.size, 0, none⟩) a.length a := by rw [hw1]; exact intsV_new w T1 a ha ham
  have s1 : w1.heap.size = w.heap.size + 1 := by rw [hw1]; simp
  rw [← hw1]
  obtain ⟨w2, hw2⟩ : ∃ w2, w2 = w1.alloc (.cells (b.map fun z => Value.int .i64 z).toArray T1) := ⟨_, rfl⟩
  have h2 : IntsV w2 (some ⟨w.heap.size + 1, 0, none⟩) b.length b := by rw [hw2, ← s1]; exact intsV_new w1 T1 b hb hbm
  have s2 : w2.heap.size = w.heap.size + 2 := by rw [hw2]; simp [s1]
  have b2 : Below w1.heap.size w1 w2 := by rw [hw2]; exact (Below.refl _ w1).alloc (Nat.le_refl _) _
  have h12 := h1.below b2 rfl
  rw [← hw2]
  obtain ⟨w3, hw3⟩ : ∃ w3, w3 = w2.alloc (.cells #[.slice (some ⟨w.heap.size, 0, none⟩) a.length a.length, .slice (some ⟨w.heap.size + 1, 0, none⟩) b.length b.length] T2) := ⟨_, rfl⟩
  have b3 : Below w2.heap.size w2 w3 := by rw [hw3]; exact (Below.refl _ w2).alloc (Nat.le_refl _) _
  have h13 := h12.below b3 rfl
  have h23 := h2.below b3 rfl
  have hh := heap_alloc_new w2 (.cells #[.slice (some ⟨w.heap.size, 0, none⟩) a.length a.length, .slice (some ⟨w.heap.size + 1, 0, none⟩) b.length b.length] T2)
  rw [← hw3] at hh ⊢
  rw [← s2]
  refine ⟨by simp, by unfold maxLen; omega, .inr ⟨_, _, rfl, lt_of_heap hh, fun j z hj => ?_⟩⟩
  rw [cell_of_row _ w2.heap.size _ _ T2 (0, 0) hh]
  match j, hj with
  | 0, hj =>
    obtain rfl := Option.some.inj hj
    exact ⟨_, _, rfl, h13⟩
  | 1, hj =>
    obtain rfl := Option.some.inj hj
    exact ⟨_, _, rfl, h23⟩
theorem ex_wsize : exT.wsize ≤ 900000 := by decide
theorem ex_len : (rawT exV exT 0).length ≤ 1000000000 := by rw [ex_raw]; decide
set_option maxRecDepth 100000 in
set_option maxHeartbeats 8000000 in
theorem lives_any (w : World) (hT : WordsT w) :
    Calls Tryd.prog 11 #[] w fun e w' => e = .returned (.bool true) ∧ Below w.heap.size w w' := by
  obtain ⟨F, hF⟩ : ∃ F : Ending → World → Prop, F = fun e w' => e = .returned (.bool true) ∧ Below w.heap.size w w' := ⟨_, rfl⟩
  rw [← hF]
  have HF := Lib.hid hF
  have HT := Lib.hid hT
  clear hF hT
  obtain ⟨w1, hw1⟩ : ∃ w1, w1 = w.alloc (.cells #[.string ⟨#[110]⟩, .bool false, .int .i64 0, .int .i64 3, .string ⟨#[98]⟩, .bool true, .int .i64 0, .int .i64 0] 54) := ⟨_, rfl⟩
  have hV1 : VrsV w1 (some ⟨w.heap.size, 0, none⟩) 2 exV := by rw [hw1]; exact exV_new w _
  have hb1 : Below w.heap.size w w1 := by rw [hw1]; exact (Below.refl _ w).alloc (Nat.le_refl _) _
  have hs1 : w1.heap.size = w.heap.size + 1 := by rw [hw1]; simp
  obtain ⟨w2, hw2⟩ : ∃ w2, w2 = w1.alloc (.cells #[.int .i64 2, .int .i64 1] 3) := ⟨_, rfl⟩
  have hI2 : IntsV w2 (some ⟨w.heap.size + 1, 0, none⟩) 2 [2, 1] := by rw [hw2, ← hs1]; exact intsV_new w1 _ [2, 1] (by decide) (by unfold maxLen; show 2 ≤ _; omega)
  have hb12 : Below w1.heap.size w1 w2 := by rw [hw2]; exact (Below.refl _ w1).alloc (Nat.le_refl _) _
  have hV2 := hV1.below hb12 rfl
  have hb2 := hb1.trans (hb12.mono (by rw [hs1]; omega))
  have hS := state_any exV [2, 1] (some ⟨w.heap.size, 0, none⟩) (some ⟨w.heap.size + 1, 0, none⟩) 2 2 w2 ex_small hV2 hI2
  rw [ex_state] at hS
  have HS := Lib.hid hS
  have HV2 := Lib.hid hV2
  have HB2 := Lib.hid hb2
  have HW2 : Hid (w2 = (w.alloc (.cells #[.string ⟨#[110]⟩, .bool false, .int .i64 0, .int .i64 3, .string ⟨#[98]⟩, .bool true, .int .i64 0, .int .i64 0] 54)).alloc (.cells #[.int .i64 2, .int .i64 1] 3)) := by show _ = _; rw [hw2, hw1]
  clear hS hV2 hb2 hw2 hw1 hV1 hI2 hb1 hb12 hs1
  go_enter Tryd.func11, Tryd.ntmps11
  go_wp2_with fail
  rw [← HW2.out]
  refine HS.out.mono ?_
  rintro e w3 ⟨rfl, hb3⟩
  have hV3 := HV2.out.below hb3 rfl
  have hB3 := HB2.out.trans (hb3.mono HB2.out.size)
  clear HS HV2 hb3 HB2 HW2
  obtain ⟨w6, hw6⟩ : ∃ w6, w6 = ((w3.alloc (.cells #[.int .i64 0, .int .i64 0] 3)).alloc (.cells #[.int .i64 1, .int .i64 0] 3)).alloc (.cells #[.slice (some ⟨w3.heap.size, 0, none⟩) 2 2, .slice (some ⟨w3.heap.size + 1, 0, none⟩) 2 2] 23) := ⟨_, rfl⟩
  have hR6 : RowsV w6 (some ⟨w3.heap.size + 2, 0, none⟩) 2 [[0, 0], [1, 0]] := by rw [hw6]; exact rows2_new w3 _ _ [0, 0] [1, 0] (by decide) (by decide) (by unfold maxLen; show 2 ≤ _; omega) (by unfold maxLen; show 2 ≤ _; omega)
  have hb36 : Below w3.heap.size w3 w6 := by rw [hw6]; exact (((Below.refl _ w3).alloc (Nat.le_refl _) _).alloc (by simp) _).alloc (by simp; omega) _
  have hV6 := hV3.below hb36 rfl
  have hB6 := hB3.trans (hb36.mono hB3.size)
  have hL := lines_any exV [[0, 0], [1, 0]] 1 (some ⟨w.heap.size, 0, none⟩) (some ⟨w3.heap.size + 2, 0, none⟩) 2 2 w6 ex_small (by decide) hV6 hR6
  rw [ex_lines] at hL
  have HL := Lib.hid hL
  have HV6 := Lib.hid hV6
  have HB6 := Lib.hid hB6
  have HW6 := Lib.hid hw6
  clear hL hV3 hV6 hB6 hB3 hb36 hR6 hw6
  go_wp2_with fail
  rw [← HW6.out]
  refine HL.out.mono ?_
  rintro e w7 ⟨LA, lc, rfl, hlc, hlcm, hrow, hb7⟩
  have hV7 := HV6.out.below hb7 rfl
  have hB7 := HB6.out.trans (hb7.mono HB6.out.size)
  have HROW := Lib.hid hrow
  have HV7 := Lib.hid hV7
  have HB7 := Lib.hid hB7
  clear HL HV6 HB6 HW6 hrow hV7 hB7 hb7
  go_wp2_with fail
  refine (plain_any _ w7).mono ?_
  rintro e w8 ⟨rfl, hb8⟩
  have HV8 := Lib.hid (HV7.out.below hb8 rfl)
  have HB8 := Lib.hid (HB7.out.trans (hb8.mono HB7.out.size))
  have HT8 := Lib.hid (HT.out.below HB8.out)
  have HSH := Lib.hid (tshowtr_any exV exT (some ⟨w.heap.size, 0, none⟩) 2 exP w8 ex_small HV8.out (exT_v w8) HT8.out ex_wsize ex_len)
  rw [ex_show] at HSH
  have HB78 := Lib.hid hb8
  clear hb8
  go_wp2_with fail
  refine HSH.out.mono ?_
  rintro e w9 ⟨rfl, hb9⟩
  have HB9 := Lib.hid (HB8.out.trans (hb9.mono HB8.out.size))
  have HB79 := Lib.hid (HB78.out.trans (hb9.mono HB78.out.size))
  clear hb9 HSH HV7 HV8
  go_wp2_with fail
  obtain ⟨w10, hw10⟩ : ∃ w10, w10 = w9.alloc (.cells #[.string ⟨#[32, 32, 110, 61, 48, 32, 98, 61, 48]⟩, .string ⟨#[42, 32, 110, 61, 49, 32, 98, 61, 48]⟩] 9) := ⟨_, rfl⟩
  have hb90 : Below w9.heap.size w9 w10 := by rw [hw10]; exact (Below.refl _ w9).alloc (Nat.le_refl _) _
  have hnew : RowT w10 w9.heap.size [[32, 32, 110, 61, 48, 32, 98, 61, 48], [42, 32, 110, 61, 49, 32, 98, 61, 48]] := by rw [hw10]; exact heap_alloc_new w9 _
  have hA : StrsAt w10 LA [⟨#[32, 32, 110, 61, 48, 32, 98, 61, 48]⟩, ⟨#[42, 32, 110, 61, 49, 32, 98, 61, 48]⟩] := by
    rcases HROW.out with h | ⟨g, rfl, -, hr⟩
    · cases h
    · exact (strs_of_bs hr).belowB (HB79.out.trans (hb90.mono HB79.out.size)) rfl
  have HX := Lib.hid (texts_any LA (some ⟨w9.heap.size, 0, none⟩) lc 2 _ w10 (by decide) hA (strs_of_bs hnew))
  have HB10 := Lib.hid (HB9.out.trans (hb90.mono HB9.out.size))
  clear hA hnew hb90
  rw [← hw10]
  clear hw10
  refine HX.out.mono ?_
  rintro e w11 ⟨rfl, nd, hw11⟩
  rw [hw11]
  clear HX hw11
  go_wp2_with fail
  rw [HF.out]
  exact ⟨rfl, bdrewN HB10.out nd⟩
end Go.Proofs.YtcjblbpkjegmiaaDoor
namespace Go.Proofs.YtcjblbpkjegmiaaDoor
open Go.RowKit
set_option linter.unusedVariables false

set_option maxRecDepth 100000 in
set_option maxHeartbeats 16000000 in
theorem treetextShows_any (vs : List Vr) (t : Tr) (Av : Option Addr) (cv : Nat) (p : TrP) (w : World) (hV : VrsV w Av cv vs) (hTr : TrV w p t) (hpo : t.PathsOk) (hT : WordsT w) :
    Calls Tryd.prog 3 #[.slice Av vs.length cv, t.val p] w fun e w' => e = .returned (.bool true) ∧ Below w.heap.size w w' := by
  obtain ⟨nv, hnv⟩ : ∃ nv, nv = vs.length := ⟨_, rfl⟩
  obtain ⟨n, hn⟩ : ∃ n, n = t.kids.length := ⟨_, rfl⟩
  obtain ⟨ne, hne⟩ : ∃ ne, ne = t.fm.tm.kids.length := ⟨_, rfl⟩
  obtain ⟨nf, hnf⟩ : ∃ nf, nf = t.fm.kids.length := ⟨_, rfl⟩
  obtain ⟨ns, hns⟩ : ∃ ns, ns = t.state.length := ⟨_, rfl⟩
  obtain ⟨np, hnp⟩ : ∃ np, np = t.path.length := ⟨_, rfl⟩
  obtain ⟨aK, haK⟩ : ∃ aK, aK = p.aK := ⟨_, rfl⟩
  obtain ⟨F, hF⟩ : ∃ F : Ending → World → Prop, F = fun e w' => e = .returned (.bool true) ∧ Below w.heap.size w w' := ⟨_, rfl⟩
  rw [← hF]
  have hcap := hTr.own.cap
  have hcapm := hTr.own.capm
  unfold maxLen at hcapm
  rw [← hn] at hcap
  have hcv := hV.cap
  have hcvm := hV.capm
  unfold maxLen at hcvm
  rw [← hnv] at hcv
  obtain ⟨w1, hw1⟩ : ∃ w1, w1 = w.alloc (.cells #[.int .i64 t.kind, .slice p.aS ns p.cS, .int .i64 t.fm.op, .int .i64 t.fm.tm.op, .int .i64 t.fm.tm.num, .string t.fm.tm.name, .slice p.aE ne p.cE, .slice p.aF nf p.cF, .slice p.aP np p.cP, .int .i64 t.loop, .int .i64 t.at_, .slice aK n p.cK] 33) := ⟨_, rfl⟩
  have hb1 : Below w.heap.size w w1 := by rw [hw1]; exact (Below.refl _ _).alloc (Nat.le_refl _) _
  have hs1 : w1.heap.size = w.heap.size + 1 := by rw [hw1]; simp
  have hbx : w1.heap[w.heap.size]? = some (.cells #[.int .i64 t.kind, .slice p.aS ns p.cS, .int .i64 t.fm.op, .int .i64 t.fm.tm.op, .int .i64 t.fm.tm.num, .string t.fm.tm.name, .slice p.aE ne p.cE, .slice p.aF nf p.cF, .slice p.aP np p.cP, .int .i64 t.loop, .int .i64 t.at_, .slice aK n p.cK] 33 (0, 0)) := by rw [hw1]; exact heap_alloc_new w _
  have hval : t.val p = .agg #[.int .i64 t.kind, .slice p.aS ns p.cS, .int .i64 t.fm.op, .int .i64 t.fm.tm.op, .int .i64 t.fm.tm.num, .string t.fm.tm.name, .slice p.aE ne p.cE, .slice p.aF nf p.cF, .slice p.aP np p.cP, .int .i64 t.loop, .int .i64 t.at_, .slice aK n p.cK] := by unfold Tr.val; rw [hn, hne, hnf, hns, hnp, haK]
  have hsmall := small_any vs Av cv w1 (hV.below hb1 rfl)
  have hmany := many_any t 300 p w1 (hTr.below hb1 rfl) hpo (by omega) (by omega)
  rw [hval] at hmany ⊢
  rw [← hnv] at hsmall ⊢
  have HF := Lib.hid hF
  have HAK := Lib.hid haK
  have HSMALL := Lib.hid hsmall
  have HMANY := Lib.hid hmany
  have HV := Lib.hid hV
  have HTR := Lib.hid hTr
  have HT := Lib.hid hT
  have HN := Lib.hid hn
  have HNV := Lib.hid hnv
  have HVAL := Lib.hid hval
  have HB1 := Lib.hid hb1
  have HS1 := Lib.hid hs1
  have HBX := Lib.hid hbx
  have HW1 := Lib.hid hw1
  have hbw1 : w.heap.size < w1.heap.size := by omega
  have kc0 : w1.cell? ⟨w.heap.size, 0, none⟩ = some (.int .i64 t.kind) := by rw [cell_of_row w1 w.heap.size 0 _ _ (0, 0) (hbx)]; rfl
  have kc1 : w1.cell? ⟨w.heap.size, 1, none⟩ = some (.slice p.aS ns p.cS) := by rw [cell_of_row w1 w.heap.size 1 _ _ (0, 0) (hbx)]; rfl
  have kc2 : w1.cell? ⟨w.heap.size, 2, none⟩ = some (.int .i64 t.fm.op) := by rw [cell_of_row w1 w.heap.size 2 _ _ (0, 0) (hbx)]; rfl
  have kc3 : w1.cell? ⟨w.heap.size, 3, none⟩ = some (.int .i64 t.fm.tm.op) := by rw [cell_of_row w1 w.heap.size 3 _ _ (0, 0) (hbx)]; rfl
  have kc4 : w1.cell? ⟨w.heap.size, 4, none⟩ = some (.int .i64 t.fm.tm.num) := by rw [cell_of_row w1 w.heap.size 4 _ _ (0, 0) (hbx)]; rfl
  have kc5 : w1.cell? ⟨w.heap.size, 5, none⟩ = some (.string t.fm.tm.name) := by rw [cell_of_row w1 w.heap.size 5 _ _ (0, 0) (hbx)]; rfl
  have kc6 : w1.cell? ⟨w.heap.size, 6, none⟩ = some (.slice p.aE ne p.cE) := by rw [cell_of_row w1 w.heap.size 6 _ _ (0, 0) (hbx)]; rfl
  have kc7 : w1.cell? ⟨w.heap.size, 7, none⟩ = some (.slice p.aF nf p.cF) := by rw [cell_of_row w1 w.heap.size 7 _ _ (0, 0) (hbx)]; rfl
  have kc8 : w1.cell? ⟨w.heap.size, 8, none⟩ = some (.slice p.aP np p.cP) := by rw [cell_of_row w1 w.heap.size 8 _ _ (0, 0) (hbx)]; rfl
  have kc9 : w1.cell? ⟨w.heap.size, 9, none⟩ = some (.int .i64 t.loop) := by rw [cell_of_row w1 w.heap.size 9 _ _ (0, 0) (hbx)]; rfl
  have kc10 : w1.cell? ⟨w.heap.size, 10, none⟩ = some (.int .i64 t.at_) := by rw [cell_of_row w1 w.heap.size 10 _ _ (0, 0) (hbx)]; rfl
  have kc11 : w1.cell? ⟨w.heap.size, 11, none⟩ = some (.slice aK n p.cK) := by rw [cell_of_row w1 w.heap.size 11 _ _ (0, 0) (hbx)]; rfl
  clear hF hsmall hmany hV hTr hT hn hnv hval hb1 hs1 hbx hw1 hne hnf hns hnp haK hpo
  go_enter Tryd.func3, Tryd.ntmps3
  go_wp2_with fail
  rw [← HW1.out]
  refine (HSMALL.out).mono ?_
  rintro e w' ⟨sb, rfl, hsb, hw⟩
  rw [← hw]
  clear hw
  cases sb with
  | false =>
    clear hsb
    have HLV2 := Lib.hid (lives_any w1 (HT.out.below HB1.out))
    go_wp2_with fail
    refine (HLV2.out).mono ?_
    rintro e w9 ⟨rfl, hb9⟩
    have HB9 := Lib.hid ((HB1.out).trans (hb9.mono HB1.out.size))
    clear hb9 HLV2
    go_wp2_with fail
    rw [HF.out]
    exact ⟨rfl, HB9.out⟩
  | true =>
    have HSM := Lib.hid (hsb rfl)
    clear hsb
    go_wp2_with fail
    refine (HMANY.out).mono ?_
    rintro e w2 ⟨mb, rfl, hmb, hb2⟩
    have HBX2 := Lib.hid ((hb2.block _ hbw1).trans HBX.out)
    have HB2 := Lib.hid (HB1.out.trans (hb2.mono HB1.out.size))
    clear hb2 kc0 kc1 kc2 kc3 kc4 kc5 kc6 kc7 kc8 kc9 kc10 kc11
    cases mb with
    | false =>
      clear hmb
      have HLV2 := Lib.hid (lives_any w2 (HT.out.below HB2.out))
      go_wp2_with fail
      refine (HLV2.out).mono ?_
      rintro e w9 ⟨rfl, hb9⟩
      have HB9 := Lib.hid ((HB2.out).trans (hb9.mono HB2.out.size))
      clear hb9 HLV2
      go_wp2_with fail
      rw [HF.out]
      exact ⟨rfl, HB9.out⟩
    | true =>
      have HCOST := Lib.hid (hmb rfl)
      clear hmb
      have hcost := HCOST.out
      have hws : t.wsize ≤ 600 := by have := Tr.wsize_cost t; omega
      have hrw : (rawT vs t 0).length ≤ 1000000000 := by
        have h := rawT_len HSM.out 300 t 0 (rng_of t p HTR.out) (by omega)
        have h2 : t.cost * (70000 + 2 * 300) ≤ 300 * 70600 := Nat.mul_le_mul (by omega) (by omega)
        omega
      have hsh := tshowtr_any vs t Av cv p w2 HSM.out (HV.out.below HB2.out rfl) (HTR.out.below HB2.out rfl) (HT.out.below HB2.out) (by omega) hrw
      have HRS : Hid (∀ W, Below w2.heap.size w2 W → Calls Tryd.prog 13 #[.slice Av vs.length cv, t.val p] W fun e w' => e = .returned (.tuple #[.string ⟨(showTr vs t).1.toArray⟩, .int .i64 (showTr vs t).2]) ∧ Below W.heap.size W w') := fun W hb => rshowtr_any vs t Av cv p W HSM.out ((HV.out.below HB2.out rfl).below hb rfl) ((HTR.out.below HB2.out rfl).below hb rfl) (by omega) hrw
      obtain ⟨R, hR⟩ : ∃ R, R = showTr vs t := ⟨_, rfl⟩
      rw [← hR] at hsh HRS
      obtain ⟨S, hS⟩ : ∃ S : ByteArray, S = ⟨R.1.toArray⟩ := ⟨_, rfl⟩
      obtain ⟨z, hz⟩ : ∃ z, z = R.2 := ⟨_, rfl⟩
      rw [← hS, ← hz, HVAL.out, ← HNV.out] at hsh
      rw [← hS, ← hz, HVAL.out, ← HNV.out] at HRS
      have HSH := Lib.hid hsh
      clear hsh hR hS hz hws hrw hcost
      have kc0 : w2.cell? ⟨w.heap.size, 0, none⟩ = some (.int .i64 t.kind) := by rw [cell_of_row w2 w.heap.size 0 _ _ (0, 0) (HBX2.out)]; rfl
      have kc1 : w2.cell? ⟨w.heap.size, 1, none⟩ = some (.slice p.aS ns p.cS) := by rw [cell_of_row w2 w.heap.size 1 _ _ (0, 0) (HBX2.out)]; rfl
      have kc2 : w2.cell? ⟨w.heap.size, 2, none⟩ = some (.int .i64 t.fm.op) := by rw [cell_of_row w2 w.heap.size 2 _ _ (0, 0) (HBX2.out)]; rfl
      have kc3 : w2.cell? ⟨w.heap.size, 3, none⟩ = some (.int .i64 t.fm.tm.op) := by rw [cell_of_row w2 w.heap.size 3 _ _ (0, 0) (HBX2.out)]; rfl
      have kc4 : w2.cell? ⟨w.heap.size, 4, none⟩ = some (.int .i64 t.fm.tm.num) := by rw [cell_of_row w2 w.heap.size 4 _ _ (0, 0) (HBX2.out)]; rfl
      have kc5 : w2.cell? ⟨w.heap.size, 5, none⟩ = some (.string t.fm.tm.name) := by rw [cell_of_row w2 w.heap.size 5 _ _ (0, 0) (HBX2.out)]; rfl
      have kc6 : w2.cell? ⟨w.heap.size, 6, none⟩ = some (.slice p.aE ne p.cE) := by rw [cell_of_row w2 w.heap.size 6 _ _ (0, 0) (HBX2.out)]; rfl
      have kc7 : w2.cell? ⟨w.heap.size, 7, none⟩ = some (.slice p.aF nf p.cF) := by rw [cell_of_row w2 w.heap.size 7 _ _ (0, 0) (HBX2.out)]; rfl
      have kc8 : w2.cell? ⟨w.heap.size, 8, none⟩ = some (.slice p.aP np p.cP) := by rw [cell_of_row w2 w.heap.size 8 _ _ (0, 0) (HBX2.out)]; rfl
      have kc9 : w2.cell? ⟨w.heap.size, 9, none⟩ = some (.int .i64 t.loop) := by rw [cell_of_row w2 w.heap.size 9 _ _ (0, 0) (HBX2.out)]; rfl
      have kc10 : w2.cell? ⟨w.heap.size, 10, none⟩ = some (.int .i64 t.at_) := by rw [cell_of_row w2 w.heap.size 10 _ _ (0, 0) (HBX2.out)]; rfl
      have kc11 : w2.cell? ⟨w.heap.size, 11, none⟩ = some (.slice aK n p.cK) := by rw [cell_of_row w2 w.heap.size 11 _ _ (0, 0) (HBX2.out)]; rfl
      have hbw2 : w.heap.size < w2.heap.size := by have := HB2.out.size; exact lt_of_heap HBX2.out
      go_wp2_with fail
      refine (HSH.out).mono ?_
      rintro e w3 ⟨rfl, hb3⟩
      have HBX3 := Lib.hid ((hb3.block _ hbw2).trans HBX2.out)
      have HB3 := Lib.hid (HB2.out.trans (hb3.mono HB2.out.size))
      have HRS3 := Lib.hid (HRS.out w3 hb3)
      clear hb3 kc0 kc1 kc2 kc3 kc4 kc5 kc6 kc7 kc8 kc9 kc10 kc11
      have kc0 : w3.cell? ⟨w.heap.size, 0, none⟩ = some (.int .i64 t.kind) := by rw [cell_of_row w3 w.heap.size 0 _ _ (0, 0) (HBX3.out)]; rfl
      have kc1 : w3.cell? ⟨w.heap.size, 1, none⟩ = some (.slice p.aS ns p.cS) := by rw [cell_of_row w3 w.heap.size 1 _ _ (0, 0) (HBX3.out)]; rfl
      have kc2 : w3.cell? ⟨w.heap.size, 2, none⟩ = some (.int .i64 t.fm.op) := by rw [cell_of_row w3 w.heap.size 2 _ _ (0, 0) (HBX3.out)]; rfl
      have kc3 : w3.cell? ⟨w.heap.size, 3, none⟩ = some (.int .i64 t.fm.tm.op) := by rw [cell_of_row w3 w.heap.size 3 _ _ (0, 0) (HBX3.out)]; rfl
      have kc4 : w3.cell? ⟨w.heap.size, 4, none⟩ = some (.int .i64 t.fm.tm.num) := by rw [cell_of_row w3 w.heap.size 4 _ _ (0, 0) (HBX3.out)]; rfl
      have kc5 : w3.cell? ⟨w.heap.size, 5, none⟩ = some (.string t.fm.tm.name) := by rw [cell_of_row w3 w.heap.size 5 _ _ (0, 0) (HBX3.out)]; rfl
      have kc6 : w3.cell? ⟨w.heap.size, 6, none⟩ = some (.slice p.aE ne p.cE) := by rw [cell_of_row w3 w.heap.size 6 _ _ (0, 0) (HBX3.out)]; rfl
      have kc7 : w3.cell? ⟨w.heap.size, 7, none⟩ = some (.slice p.aF nf p.cF) := by rw [cell_of_row w3 w.heap.size 7 _ _ (0, 0) (HBX3.out)]; rfl
      have kc8 : w3.cell? ⟨w.heap.size, 8, none⟩ = some (.slice p.aP np p.cP) := by rw [cell_of_row w3 w.heap.size 8 _ _ (0, 0) (HBX3.out)]; rfl
      have kc9 : w3.cell? ⟨w.heap.size, 9, none⟩ = some (.int .i64 t.loop) := by rw [cell_of_row w3 w.heap.size 9 _ _ (0, 0) (HBX3.out)]; rfl
      have kc10 : w3.cell? ⟨w.heap.size, 10, none⟩ = some (.int .i64 t.at_) := by rw [cell_of_row w3 w.heap.size 10 _ _ (0, 0) (HBX3.out)]; rfl
      have kc11 : w3.cell? ⟨w.heap.size, 11, none⟩ = some (.slice aK n p.cK) := by rw [cell_of_row w3 w.heap.size 11 _ _ (0, 0) (HBX3.out)]; rfl
      have hbw3 : w.heap.size < w3.heap.size := lt_of_heap HBX3.out
      go_wp2_with fail
      refine (HRS3.out).mono ?_
      rintro e w4 ⟨rfl, hb4⟩
      have hb5 := HB3.out.trans (hb4.mono HB3.out.size)
      have HLV2 := Lib.hid (lives_any w4 (HT.out.below hb5))
      have HB5 := Lib.hid hb5
      clear hb4 hb5 kc0 kc1 kc2 kc3 kc4 kc5 kc6 kc7 kc8 kc9 kc10 kc11
      go_wp2_with fail
      refine (HLV2.out).mono ?_
      rintro e w9 ⟨rfl, hb9⟩
      have HB9 := Lib.hid (HB5.out.trans (hb9.mono HB5.out.size))
      clear hb9 HLV2
      go_wp2_with fail
      rw [HF.out]
      exact ⟨rfl, HB9.out⟩
end Go.Proofs.YtcjblbpkjegmiaaDoor
namespace Go.Proofs.YtcjblbpkjegmiaaDoor
open Go.ChangeShapes Go.WideShapes Go.ChangeAt Go.RowKit
open Go.ChangeMaps (open_string shut_string)
set_option linter.unusedVariables false
namespace lawTreetextShows
set_option maxRecDepth 100000 in
theorem lifted (os : Os) (started : os.Started) (H : Type) (enc : TypeId × Value → H) :
    ReturnsInHanded {} Tryd.checked os 3 .any (fun w args => (Rows.treetextShowsSpec.pre enc Tryd.prog Tryd.f3 Rows.treetextShowsRow.domain false w args ∧ laidMetH Tryd.prog Rows.treetextShowsRow.laid w) ∧ sizedMet enc Tryd.prog Tryd.f3 (OpenSpec.ofChange Rows.treetextShowsSpec) false w args)
      (Rows.treetextShowsSpec.post enc Tryd.prog Tryd.f3 false true false false) := by
  refine returnsInHanded_of_change_and (C := Tryd.checked) (X := fun w _ => laidMetH Tryd.prog Rows.treetextShowsRow.laid w) (fun _ _ _ hh h => h.of_heap hh) own started (by kernel_rfl) Tryd.func3
    (ChangeSpec.witness_shaped (enc := enc) (C := Tryd.checked) (os := os) (X := fun w _ => laidMetH Tryd.prog Rows.treetextShowsRow.laid w) false (World.laidAll Tryd.prog os Rows.treetextShowsRow.laid) #[.slice none 0 0, .agg #[.int .i64 0, .slice none 0 0, .int .i64 0, .int .i64 0, .int .i64 0, .string ⟨#[]⟩, .slice none 0 0, .slice none 0 0, .slice none 0 0, .int .i64 0, .int .i64 0, .slice none 0 0]] 8 (World.laidAll_os _ _ _)
      (World.shaped_of_ZipB (by kernel_rfl) (by kernel_rfl)) (by kernel_rfl) (by kernel_rfl) (by kernel_rfl)
      (by rw [MakeChecks.laidMetH_plain _ _ _ (by kernel_rfl)]; exact laidMet_laidAll _ (by kernel_rfl) (by kernel_rfl))) ?_
  intro W base args ds gs before hval0 hW hcnd hsz hL _
  have hval : ∀ (j : Nat) t v, Tryd.f3.params[j]? = some t → args[j]? = some v → Value.okWide Tryd.prog W .any base t v := hval0
  have hW' := hW
  obtain ⟨p, q, hA0, hV, rfl, hfz, hnd⟩ := hW
  have hA : DataW.TrodAll enc Tryd.prog W 0 (fun _ => true) true Tryd.f3.params.toList args.toList ds p := hA0
  rw [Tryd.params3] at hA hval
  obtain ⟨v0, vs0, d0, ds0, p0, q0, hargs, rfl, rfl, h0, r0⟩ := trodAll_cons hA
  obtain ⟨v1, vs1, d1, ds1, p1, q1, rfl, rfl, rfl, h1, r1⟩ := trodAll_cons r0
  obtain ⟨rfl, rfl, rfl⟩ := trodAll_nil r1
  obtain rfl : args = #[v0, v1] := by cases args; simp_all
  obtain ⟨rfl, rfl⟩ := trodVars_none hV
  rw [MakeChecks.laidMetH_plain _ _ _ (by kernel_rfl)] at hL
  have hT : WordsT W := words_of_reads (Lib.laidMet.reads hL (by simp [Rows.treetextShowsRow]))
  have k0 := h0
  have lt0 : ∀ x ∈ p0, x.block < W.heap.size := by obtain ⟨m, hm⟩ := k0; exact DataW.trod_lt m _ _ _ hm
  have k1 := h1
  have lt1 : ∀ x ∈ p1, x.block < W.heap.size := by obtain ⟨m, hm⟩ := k1; exact DataW.trod_lt m _ _ _ hm
  obtain ⟨Av, cv, vs, rfl, hVs⟩ := arg_vars (hval 0 22 v0 rfl rfl) h0
  obtain ⟨t, q, rfl, hTr, hpo⟩ := arg_tree2 (hval 1 33 v1 rfl rfl) h1 (fun n hn => of_decide_eq_true (List.all_eq_true.1 hsz n (DataW.weights_mem_each (j := 1) (t := 33) (d := d1) rfl rfl n hn)))
  clear hA0 hval0
  refine (treetextShows_any vs t Av cv q W hVs hTr hpo hT).mono fun e W' ⟨he, bel⟩ => ?_
  subst he
  exact ⟨_, rfl, _, _, _, [], _, [], hW', trodAll_mk1 (shut_bool Tryd.underlying4 _), (trodAll_cons_mk (Below.trod laidOut (by kernel_rfl) (of_decide_eq_true (by kernel_rfl)) k0 bel lt0) (trodAll_cons_mk (Below.trod laidOut (by kernel_rfl) (of_decide_eq_true (by kernel_rfl)) k1 bel lt1) trodAll_mk0)), rfl, bel.frame _, fun h => by cases h⟩

theorem said : Rows.TreetextShowsSaid :=
  OpenClaim.holds_of_wide 3 Tryd.f3 rfl rfl rfl rfl rfl rfl rfl ⟨rfl, rfl, rfl, rfl, rfl⟩ rfl rfl rfl rfl rfl (by kernel_rfl) Tryd.func3 (by kernel_rfl)
    (of_decide_eq_true (by kernel_rfl)) (by unfold Func.isWrapper; first | (rw [if_pos (by decide +kernel)]; kernel_rfl) | (rw [if_neg (by decide +kernel)]; exact ⟨rfl, rfl⟩))
    (fun os started H enc _ => lifted os started H enc)
theorem card : Rows.TreetextShowsCardSaid :=
  Claim7.holds_tied_plain_at .later [] _ _ _ _ said (fun _ h => by cases h) (by kernel_rfl) (fun _ h => by cases h) treetextShows_row_tie rfl ⟨rfl, rfl⟩ (by kernel_rfl) rfl
    (fun f fn hf hfn => by
      obtain rfl : f = 3 := Option.some.inj ((show Tryd.prog.funcNamed Rows.treetextShowsRow.func = some 3 by kernel_rfl).symm.trans hf) |>.symm
      obtain rfl : fn = Tryd.f3 := (Option.some.inj (Tryd.func3.symm.trans hfn)).symm
      exact ⟨by kernel_rfl, fun j t ht => by
        rw [Tryd.params3] at ht
        have hm : t ∈ [22, 33] := by simpa using Array.mem_of_getElem? ht
        have hall : ([22, 33].all fun u => !Tryd.prog.wantsStandIn u) = true := by kernel_rfl
        exact (show Tryd.prog.wantsStandIn t = false by simpa using List.all_eq_true.1 hall t hm)⟩)
    (by kernel_rfl)
#print axioms card
end lawTreetextShows
end Go.Proofs.YtcjblbpkjegmiaaDoor
