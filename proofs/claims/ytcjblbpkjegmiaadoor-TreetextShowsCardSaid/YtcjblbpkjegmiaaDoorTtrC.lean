/- Walk: treetext.Lines. -/
import Derived.Test.YtcjblbpkjegmiaaDoorTtrB
namespace Go.Proofs.YtcjblbpkjegmiaaDoor
open Go.RowKit
set_option linter.unusedVariables false

/-- A row of strings lies at A. -/
def BsAt (w : World) (A : Option Addr) (l : List Bs) : Prop := l = [] ∨ ∃ b o, A = some ⟨b, o, none⟩ ∧ b < w.heap.size ∧ ∀ j x, l[j]? = some x → w.cell? ⟨b, o + j, none⟩ = some (.string ⟨x.toArray⟩)
theorem BsAt.below {B : Nat} {w w' : World} {A : Option Addr} {l : List Bs} (h : BsAt w A l) (hb : Below B w w') (hB : B = w.heap.size) : BsAt w' A l := by
  rcases h with h | ⟨b, o, rfl, hlt, h⟩
  · exact .inl h
  · exact .inr ⟨b, o, rfl, Nat.lt_of_lt_of_le hlt hb.size, fun j x hj => by rw [hb.cell (p := ⟨b, _, none⟩) (by simp only; omega)]; exact h j x hj⟩
theorem BsAt.of_row {w : World} {A : Option Addr} {L : List Bs} {B : Nat} (h : L = [] ∨ ∃ g, A = some ⟨g, 0, none⟩ ∧ B ≤ g ∧ RowT w g L) : BsAt w A L := by
  rcases h with h | ⟨g, rfl, -, h⟩
  · exact .inl h
  · exact .inr ⟨g, 0, rfl, h.lt, fun j x hj => by rw [Nat.zero_add]; exact h.cell hj⟩
theorem linesL_get (vs : List Vr) (loop : Int) : ∀ (p : List (List Int)) (i j : Nat), (linesL vs loop i p)[j]? = p[j]?.map fun s => markS loop (i + j) ++ (stateT vs s).1
  | [], i, j => by simp [linesL]
  | s :: r, i, 0 => by simp [linesL]
  | s :: r, i, j + 1 => by
    rw [linesL, List.getElem?_cons_succ, List.getElem?_cons_succ, linesL_get vs loop r (i + 1) j, show i + 1 + j = i + (j + 1) from by omega]
theorem linesL_len (vs : List Vr) (loop : Int) : ∀ (p : List (List Int)) (i : Nat), (linesL vs loop i p).length = p.length
  | [], i => rfl
  | s :: r, i => by rw [linesL, List.length_cons, List.length_cons, linesL_len vs loop r (i + 1)]
theorem linesOk_iff {vs : List Vr} {p : List (List Int)} : linesOk vs p = true ↔ ∀ s ∈ p, s.length = vs.length := by
  unfold linesOk
  simp
/-- What Lines leaves. -/
def LinesQ (x : List Bs × Int) (w : World) (e : Ending) (w' : World) : Prop := ∃ A c, e = .returned (.tuple #[.slice A x.1.length c, .int .i64 x.2]) ∧ x.1.length ≤ c ∧ c ≤ maxLen ∧ (x.1 = [] ∨ ∃ g, A = some ⟨g, 0, none⟩ ∧ w.heap.size ≤ g ∧ RowT w' g x.1) ∧ Below w.heap.size w w'

theorem lines_row {W : World} {g k m : Nat} {L : List Bs} {x : Bs} {S1 : ByteArray} (h : RowT W g (partL L k m [])) (hl : L.length = m) (hg : L[k]? = some x) (hs : S1 = ⟨x.toArray⟩) : RowT (W.setCell ⟨g, k, none⟩ (.string S1)) g (partL L (k + 1) m []) := by
  subst hs
  have h7 := h.set_ k x
  have hst := partL_step (z := ([] : Bs)) hg
  rw [hl] at hst
  rw [hst] at h7
  exact h7
theorem lines_all {p : List (List Int)} {k n : Nat} {s : List Int} (h : p.take (k + 1) = p.take k ++ [s]) (ha : ∀ x ∈ p.take k, x.length = n) (hs : s.length = n) : ∀ x ∈ p.take (k + 1), x.length = n := by
  intro x hx
  rw [h] at hx
  rcases List.mem_append.1 hx with hx | hx
  · exact ha x hx
  · simp at hx; rw [hx]; exact hs

set_option maxRecDepth 100000 in
set_option maxHeartbeats 4000000 in
theorem lines_any (vs : List Vr) (path : List (List Int)) (loop : Int) (Av Ap : Option Addr) (cv cp : Nat) (w : World) (hsm : SmallV vs) (hpl : path.length ≤ 1000000) (hV : VrsV w Av cv vs) (hP : RowsV w Ap cp path) :
    Calls Tryd.prog 16 #[.slice Av vs.length cv, .slice Ap path.length cp, .int .i64 loop] w (LinesQ (linesT vs path loop) w) := by
  obtain ⟨m, hm⟩ : ∃ m, m = path.length := ⟨_, rfl⟩
  have hcp := hP.cap
  have hcpm := hP.capm
  unfold maxLen at hcpm
  rw [← hm] at hcp hpl ⊢
  obtain ⟨X, hX⟩ : ∃ X, X = linesT vs path loop := ⟨_, rfl⟩
  rw [← hX]
  obtain ⟨F, hF⟩ : ∃ F, F = LinesQ X w := ⟨_, rfl⟩
  rw [← hF]
  have HF := Lib.hid hF
  have HX := Lib.hid hX
  have HSM := Lib.hid hsm
  have HV := Lib.hid hV
  have HP := Lib.hid hP
  have HM := Lib.hid hm
  have hmk' := make_str m (by omega) w
  obtain ⟨W0, hW0⟩ : ∃ W0, W0 = w.alloc (.cells (madeCells #[.string ⟨#[]⟩] m) 9) := ⟨_, rfl⟩
  rw [← hW0] at hmk'
  obtain ⟨L, hL⟩ : ∃ L, L = linesL vs loop 0 path := ⟨_, rfl⟩
  have hLl : L.length = m := by rw [hL, linesL_len, hm]
  have HLG : Hid (∀ k s, path[k]? = some s → L[k]? = some (markS loop k ++ (stateT vs s).1)) := fun k s hs => by rw [hL, linesL_get, hs, Nat.zero_add]; rfl
  have HLX : Hid (linesOk vs path = true → X = (L, 0)) := fun h => by rw [hX, hL]; unfold linesT; rw [if_pos h]
  have HLX3 : Hid (linesOk vs path = false → X = ([], 3)) := fun h => by rw [hX]; unfold linesT; rw [h]; rfl
  have hrow0 : RowT W0 w.heap.size (partL L 0 m []) := by
    rw [hW0]
    have h := rowT_made w m
    unfold partL
    simpa using h
  have hbel0 : Below w.heap.size w W0 := by rw [hW0]; exact (Below.refl _ _).alloc (Nat.le_refl _) _
  have HR0 := Lib.hid hrow0
  have HB0 := Lib.hid hbel0
  have HLL := Lib.hid hLl
  clear hW0 hrow0 hbel0 hX hsm hV hP hm hL hLl hF
  go_enter Tryd.func16, Tryd.ntmps16
  go_wp2_with fail
  go_loopw [9, 10, 11, 12, 13, 19] (fun _ _ _ _ _ si wr => ∃ k : Nat, k ≤ m ∧ si = .int .i64 k ∧ RowT wr w.heap.size (partL L k m []) ∧ Below w.heap.size w wr ∧ ∀ s ∈ path.take k, s.length = vs.length) (fun _ _ _ _ _ i _ => m - (intOf i).toNat)
  case atStart => exact ⟨0, Nat.zero_le _, rfl, HR0.out, HB0.out, fun s hs => by simp at hs⟩
  case round =>
    obtain ⟨k, hk, rfl, hrow, hbel, hall⟩ := hrel
    have HR := Lib.hid hrow
    have HB := Lib.hid hbel
    have HALL := Lib.hid hall
    have hszr := hbel.size
    have hltr := hrow.lt
    by_cases hlt : k < m
    · obtain ⟨s, hs⟩ : ∃ s, path[k]? = some s := ⟨_, List.getElem?_eq_getElem (by have := HM.out; omega)⟩
      rcases HP.out.row with h9 | ⟨g, o, rfl, hg, hpr⟩
      · rw [h9] at hs; simp at hs
      obtain ⟨As, cs, q0, hsv⟩ := hpr k s hs
      rw [← hbel.cell (p := ⟨g, _, none⟩) hg] at q0
      have hst := state_any vs s Av As cv cs wr HSM.out (HV.out.below hbel rfl) (hsv.below hbel rfl)
      have hsl := state_len (s := s) HSM.out hsv.rng
      have hlg := HLG.out k s hs
      have HTK : Hid (path.take (k + 1) = path.take k ++ [s]) := by
        obtain ⟨hj, hj2⟩ := List.getElem?_eq_some_iff.1 hs
        show _ = _
        rw [List.take_succ_eq_append_getElem hj, hj2]
      have HMEM : Hid (s ∈ path) := List.mem_of_getElem? hs
      have HSE : Hid ((s.length = vs.length → (stateT vs s).2 = 0) ∧ (s.length ≠ vs.length → (stateT vs s).2 = 3)) := ⟨fun h => by unfold stateT; rw [if_neg (by omega)], fun h => by unfold stateT; rw [if_pos h]⟩
      obtain ⟨ns, hns⟩ : ∃ ns, ns = s.length := ⟨_, rfl⟩
      rw [← hns] at hst q0 HSE
      have HNS := Lib.hid hns
      obtain ⟨ST, hST⟩ : ∃ ST, ST = stateT vs s := ⟨_, rfl⟩
      rw [← hST] at hst hsl hlg HSE
      have HST := Lib.hid hst
      have HLG1 := Lib.hid hlg
      have hrc := hrow.cell (partL_get (z := ([] : Bs)) (show k < L.length by rw [HLL.out]; exact hlt) |> fun h => by rwa [HLL.out] at h)
      have hrf := hrow.frozen k
      have hk0 : (0 : Int) ≤ (k : Int) := by omega
      have hk1 : (k : Int) < (m : Int) := by omega
      have hgr : g < wr.heap.size := by omega
      clear hst hlg hs hpr hsv hns hST hrow hall
      go_wp2_with fail
      refine (HST.out).mono ?_
      rintro e w2 ⟨rfl, hb2⟩
      have r2 := (hb2.cell (p := ⟨w.heap.size, k, none⟩) hltr).trans hrc
      have f2 := (hb2.frozen (p := ⟨w.heap.size, k, none⟩) hltr).trans hrf
      have hr2 := HR.out.below hb2 hltr
      have hb3 := HB.out.trans (hb2.mono hszr)
      have HR2 := Lib.hid hr2
      have HB3 := Lib.hid hb3
      clear hb2 hr2 hb3 hrc hrf q0
      by_cases hle : ns = vs.length
      · have he0 : (ST.2 != 0) = false := by rw [HSE.out.1 hle]; rfl
        have HLE := Lib.hid hle
        obtain ⟨S0, hS0⟩ : ∃ S0 : ByteArray, S0 = ⟨ST.1.toArray⟩ := ⟨_, rfl⟩
        have hz0 : S0.size = ST.1.length := by rw [hS0]; exact bsz' ST.1
        rw [← hS0]
        have HS0 := Lib.hid hS0
        clear hle hS0
        by_cases hlo : (k : Int) = loop
        · have hl1 : ((k : Int) == loop) = true := by simpa using hlo
          obtain ⟨S1, hS1⟩ : ∃ S1 : ByteArray, S1 = (⟨#[42, 32]⟩ : ByteArray) ++ S0 := ⟨_, rfl⟩
          have hcat : ∀ W, (Op.stringOp .add (⟨#[42, 32]⟩ : ByteArray) S0).run Tryd.prog W = .ok (.string S1) W := fun W => by rw [hS1]; exact run_string_add_sum W _ _ (by show 2 + S0.size ≤ _; omega)
          have HS1 : Hid (S1 = ⟨(markS loop k ++ ST.1).toArray⟩) := by show _ = _; apply bs_ext; unfold bs markS; rw [hS1, HS0.out, if_pos hlo]; simp [ByteArray.data_append]
          clear hS1 hz0 hlo
          go_wp2_with fail
          go_roundw
          case rel => exact ⟨k + 1, by omega, by go_num, lines_row HR2.out HLL.out HLG1.out HS1.out, HB3.out.setCell (p := ⟨w.heap.size, k, none⟩) (Nat.le_refl _) _, lines_all HTK.out HALL.out (by rw [← HNS.out]; exact HLE.out)⟩
          case measure => simp [intOf]; omega
        · have hl1 : ((k : Int) == loop) = false := by simpa using hlo
          obtain ⟨S1, hS1⟩ : ∃ S1 : ByteArray, S1 = (⟨#[32, 32]⟩ : ByteArray) ++ S0 := ⟨_, rfl⟩
          have hcat : ∀ W, (Op.stringOp .add (⟨#[32, 32]⟩ : ByteArray) S0).run Tryd.prog W = .ok (.string S1) W := fun W => by rw [hS1]; exact run_string_add_sum W _ _ (by show 2 + S0.size ≤ _; omega)
          have HS1 : Hid (S1 = ⟨(markS loop k ++ ST.1).toArray⟩) := by show _ = _; apply bs_ext; unfold bs markS; rw [hS1, HS0.out, if_neg hlo]; simp [ByteArray.data_append]
          clear hS1 hz0 hlo
          go_wp2_with fail
          go_roundw
          case rel => exact ⟨k + 1, by omega, by go_num, lines_row HR2.out HLL.out HLG1.out HS1.out, HB3.out.setCell (p := ⟨w.heap.size, k, none⟩) (Nat.le_refl _) _, lines_all HTK.out HALL.out (by rw [← HNS.out]; exact HLE.out)⟩
          case measure => simp [intOf]; omega
      · have he3 := HSE.out.2 hle
        have he0 : (ST.2 != 0) = true := by rw [he3]; rfl
        have HE3 := Lib.hid he3
        have HRES : Hid (X = ([], 3)) := by
          refine HLX3.out ?_
          cases hh : linesOk vs path with
          | false => rfl
          | true => exact absurd ((linesOk_iff.1 hh s HMEM.out)) (by rw [← HNS.out]; exact hle)
        clear hle he3
        go_wp2_with fail
        rw [HF.out, HRES.out, HE3.out]
        exact ⟨none, 0, rfl, Nat.le_refl _, Nat.zero_le _, .inl rfl, HB3.out⟩
    · have hkn : k = m := by omega
      have hk1 : ¬ (k : Int) < (m : Int) := by omega
      have HRES : Hid (X = (L, 0)) := by
        refine HLX.out (linesOk_iff.2 fun s hs => HALL.out s ?_)
        rw [hkn, List.take_of_length_le (by rw [← HM.out]; exact Nat.le_refl _)]
        exact hs
      have hr2 : RowT wr w.heap.size L := by
        have h := HR.out
        rw [hkn] at h
        have h2 := partL_all L ([] : Bs)
        rw [HLL.out] at h2
        rw [h2] at h
        exact h
      have HAT : Hid (L = [] ∨ ∃ g, (some ⟨w.heap.size, 0, none⟩ : Option Addr) = some ⟨g, 0, none⟩ ∧ w.heap.size ≤ g ∧ RowT wr g L) := .inr ⟨_, rfl, Nat.le_refl _, hr2⟩
      clear hrow hbel hall hr2 hkn
      go_wp2_with fail
      rw [HF.out, HRES.out]
      exact ⟨_, m, congrArg (fun z : Nat => Ending.returned (.tuple #[.slice (some ⟨w.heap.size, 0, none⟩) z m, .int .i64 0])) HLL.out.symm, by show L.length ≤ m; rw [HLL.out]; exact Nat.le_refl _, by unfold maxLen; omega, HAT.out, HB.out⟩
end Go.Proofs.YtcjblbpkjegmiaaDoor
