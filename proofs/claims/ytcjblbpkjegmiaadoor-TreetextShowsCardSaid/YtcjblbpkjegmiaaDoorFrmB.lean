/- Walks: a visit of all parts of a formula, whatever the visitor. -/
import Derived.Test.YtcjblbpkjegmiaaDoorTrmJ
import Derived.Test.YtcjblbpkjegmiaaDoorFrmA
namespace Go.Proofs.YtcjblbpkjegmiaaDoor
open Go.RowKit
set_option linter.unusedVariables false
set_option linter.unusedSectionVars false

theorem Fm.len_le : ∀ (l : List Fm), l.length ≤ Fm.sizeL l
  | [] => Nat.zero_le _
  | t :: r => by
    have := Fm.len_le r
    cases t
    rw [Fm.sizeL, Fm.size, List.length_cons]
    omega
mutual
/-- The size with the terms in it. -/
def Fm.wsize : Fm → Nat
  | .mk _ e l => 1 + e.size + Fm.wsizeL l
def Fm.wsizeL : List Fm → Nat
  | [] => 0
  | t :: r => t.wsize + Fm.wsizeL r
end
theorem Fm.wsizeL_mem : ∀ {l : List Fm} {t : Fm}, t ∈ l → t.wsize ≤ Fm.wsizeL l
  | x :: r, t, h => by
    rcases List.mem_cons.1 h with rfl | h
    · rw [Fm.wsizeL]; omega
    · have := Fm.wsizeL_mem h
      rw [Fm.wsizeL]; omega
theorem Fm.wsize_open (t : Fm) : t.tm.size ≤ t.wsize ∧ ∀ k ∈ t.kids, k.wsize ≤ t.wsize := by
  cases t with
  | mk o e l =>
    rw [Fm.wsize]
    refine ⟨by show e.size ≤ _; omega, fun k hk => ?_⟩
    have := Fm.wsizeL_mem (show k ∈ l from hk)
    omega
mutual
theorem Fm.size_le : ∀ t : Fm, t.size ≤ t.wsize
  | .mk o e l => by
    have := Fm.sizeL_le l
    rw [Fm.size, Fm.wsize]; omega
theorem Fm.sizeL_le : ∀ l : List Fm, Fm.sizeL l ≤ Fm.wsizeL l
  | [] => by rw [Fm.sizeL]; omega
  | t :: r => by
    have h1 := Fm.size_le t
    have h2 := Fm.sizeL_le r
    rw [Fm.sizeL, Fm.wsizeL]; omega
end
/-- A visitor: a function value whose calls turn a state held in memory; room is how many calls it can still take. -/
structure FVisitor (K : Nat) (cap : Array Value) (B : Nat) (w0 : World) {σ : Type} (Inv Fin : σ → World → Prop) (step : σ → Fm → Nat → σ × Bool) (room : σ → Nat) : Prop where
  enter : ∀ args w, (callFunc K args).run Tryd.prog w = .ok (.enter K args) w
  fin : ∀ s w, Inv s w → Fin s w
  keep : ∀ s w w', Inv s w → Below w.heap.size w w' → Inv s w'
  lose : ∀ s t d, room s ≤ room (step s t d).1 + 1
  call : ∀ s t (d : Nat) Ae ce A c w, Inv s w → Below B w0 w → FmV w0 Ae ce A c t → d ≤ 10000000 → 0 < room s → t.wsize ≤ 9000000 → Calls Tryd.prog K #[t.val Ae ce A c, .int .i64 d, cap.getD 0 undef, cap.getD 1 undef] w fun e w' => e = .returned (.bool (step s t d).2) ∧ (Fin (step s t d).1 w' ∧ ((step s t d).2 = true → Inv (step s t d).1 w')) ∧ KT 29 B w w'

section
variable {σ : Type} {step : σ → Fm → Nat → σ × Bool} {room : σ → Nat} (hl : ∀ s t d, room s ≤ room (step s t d).1 + 1)
include hl
mutual
theorem eachF_lose : ∀ (t : Fm) (d : Nat) (s : σ), room s ≤ room (eachF step t d s).1 + t.size
  | .mk o n l, d, s => by
    rw [eachF_eq, Fm.size]
    have h1 := hl s (.mk o n l) d
    split
    · have h2 := eachL_lose l (d + 1) (step s (.mk o n l) d).1
      show _ ≤ room (eachL step l (d + 1) _).1 + _
      omega
    · show _ ≤ room (step s (.mk o n l) d).1 + _
      omega
theorem eachL_lose : ∀ (l : List Fm) (d : Nat) (s : σ), room s ≤ room (eachL step l d s).1 + Fm.sizeL l
  | [], d, s => by rw [eachL, Fm.sizeL]; exact Nat.le_refl _
  | t :: r, d, s => by
    have h1 := eachF_lose t d s
    rw [eachL, Fm.sizeL]
    cases hw : eachF step t d s with
    | mk y b =>
      rw [hw] at h1
      simp only at h1
      cases b with
      | false => simp only; omega
      | true =>
        have h2 := eachL_lose r d y
        simp only
        omega
end
end
theorem Fm.sizeL_drop {l : List Fm} {k : Nat} {t : Fm} (h : l[k]? = some t) : Fm.sizeL (l.drop k) = t.size + Fm.sizeL (l.drop (k + 1)) := by
  obtain ⟨hj, hj2⟩ := List.getElem?_eq_some_iff.1 h
  rw [List.drop_eq_getElem_cons hj, hj2, Fm.sizeL]

set_option maxRecDepth 100000 in
set_option maxHeartbeats 4000000 in
theorem each_any {K : Nat} {c0 c1 : Value} {B : Nat} {w0 : World} {σ : Type} {Inv Fin : σ → World → Prop} {step : σ → Fm → Nat → σ × Bool} {room : σ → Nat} (V : FVisitor K #[c0, c1] B w0 Inv Fin step room) (hB : B = w0.heap.size) :
    ∀ (N : Nat) (t : Fm) (d : Nat) (Ae : Option Addr) (ce : Nat) (A : Option Addr) (c : Nat) (s : σ) (w : World), t.size ≤ N → d + t.size ≤ 10000000 → t.wsize ≤ 9000000 → t.size ≤ room s → FmV w0 Ae ce A c t → Inv s w → Below B w0 w →
    Calls Tryd.prog 82 #[t.val Ae ce A c, .int .i64 d, .func (.func K) #[] #[c0, c1]] w fun e w' => e = .returned (.bool (eachF step t d s).2) ∧ (Fin (eachF step t d s).1 w' ∧ ((eachF step t d s).2 = true → Inv (eachF step t d s).1 w')) ∧ KT 29 B w w' := by
  intro N
  induction N with
  | zero =>
    intro t d Ae ce A c s w hN
    cases t; rw [Fm.size] at hN; omega
  | succ N ih =>
    intro t d Ae ce A c s w hN hd hws hroom hV hI hbel
    have hrun := V.enter
    have HIHH := Lib.hid ih
    have HV := Lib.hid hV
    have HBEL := Lib.hid hbel
    obtain ⟨wb, hwb⟩ : ∃ wb, wb = w.alloc (.cells #[.int .i64 t.op, .int .i64 t.tm.op, .int .i64 t.tm.num, .string t.tm.name, .slice Ae t.tm.kids.length ce, .slice A t.kids.length c] 29) := ⟨_, rfl⟩
    have hb1 : Below w.heap.size w wb := by rw [hwb]; exact (Below.refl _ _).alloc (Nat.le_refl _) _
    have hI1 := V.keep s w wb hI hb1
    have hbw : B ≤ w.heap.size := by rw [hB]; exact hbel.size
    have hbel1 : Below B w0 wb := hbel.trans (hb1.mono hbw)
    have htp : 1 ≤ t.size := by cases t; rw [Fm.size]; omega
    have hcall : Calls Tryd.prog K #[.agg #[.int .i64 t.op, .int .i64 t.tm.op, .int .i64 t.tm.num, .string t.tm.name, .slice Ae t.tm.kids.length ce, .slice A t.kids.length c], .int .i64 d, c0, c1] wb fun e w' => e = .returned (.bool (step s t d).2) ∧ (Fin (step s t d).1 w' ∧ ((step s t d).2 = true → Inv (step s t d).1 w')) ∧ KT 29 B wb w' := V.call s t d Ae ce A c wb hI1 hbel1 hV (by omega) (by omega) hws
    have hlos : t.size - 1 ≤ room (step s t d).1 := by have := V.lose s t d; omega
    have hszk : Fm.sizeL t.kids = t.size - 1 := by cases t; rw [Fm.size]; simp only [Fm.kids]; omega
    have hbx : wb.heap[w.heap.size]? = some (.cells #[.int .i64 t.op, .int .i64 t.tm.op, .int .i64 t.tm.num, .string t.tm.name, .slice Ae t.tm.kids.length ce, .slice A t.kids.length c] 29 (0, 0)) := by rw [hwb]; exact heap_alloc_new w _
    have hsb : wb.heap.size = w.heap.size + 1 := by rw [hwb]; simp
    have HBX := Lib.hid hbx
    have HSB := Lib.hid hsb
    have HB1 := Lib.hid hb1
    have HBL1 := Lib.hid hbel1
    have HFX := Lib.hid (eachF_eq step t d s)
    obtain ⟨s1, hs1⟩ : ∃ s1, s1 = step s t d := ⟨_, rfl⟩
    obtain ⟨r, hr⟩ : ∃ r, r = eachF step t d s := ⟨_, rfl⟩
    rw [← hs1] at hcall HFX hlos
    rw [← hszk] at hlos
    rw [← hr] at HFX
    rw [← hr]
    rw [hwb] at hcall
    have HC := Lib.hid hcall
    have HON : Hid (KT 29 B w wb) := KT.of_below hb1 hbw
    obtain ⟨n, hn⟩ : ∃ n, n = t.kids.length := ⟨_, rfl⟩
    have HN := Lib.hid hn
    have hcap := hV.cap
    have hcapm := hV.capm
    unfold maxLen at hcapm
    have hnl : n ≤ 10000000 := by
      have : t.kids.length ≤ Fm.sizeL t.kids := Fm.len_le t.kids
      omega
    have HKID := Lib.hid hV.kids
    have HSZ : Hid (∀ k ∈ t.kids, k.size ≤ N ∧ d + 1 + k.size ≤ 10000000 ∧ k.wsize ≤ 9000000) := fun k hk => by
      have h1 := Fm.sizeL_mem hk
      have h2 := (Fm.wsize_open t).2 k hk
      omega
    have HLOS := Lib.hid hlos
    unfold Fm.val
    rw [← hn] at HBX HC hcap hwb ⊢
    have HWB := Lib.hid hwb
    have HBQ := Lib.hid hB
    clear hB ih hV hbel hcall hI hI1 hb1 hbel1 hwb hbx hsb hs1 hr hn hN hlos hroom hszk htp
    go_enter Tryd.func82, Tryd.ntmps82
    go_wp2_with fail
    refine (HC.out).mono ?_
    rintro e w1 ⟨rfl, hI1, ho1⟩
    rw [← HWB.out] at ho1
    have HI1 := Lib.hid hI1
    have hsz1 := ho1.below.size
    have x3 : w1.cell? ⟨w.heap.size, 5, none⟩ = some (.slice A n c) := by
      have h9 := (ho1.keep _ _ _ HBX.out).trans HBX.out
      rw [cell_of_row w1 w.heap.size 5 _ _ (0, 0) h9]; rfl
    have HO1 : Hid (KT 29 B w w1) := HON.out.trans ho1
    have hlt1 : w.heap.size < w1.heap.size := by have := HSB.out; omega
    clear hI1 ho1 hsz1
    obtain ⟨y, b⟩ := s1
    cases b with
    | false =>
      simp only at HI1
      simp only [Bool.false_eq_true, if_false] at HFX
      go_wp2_with fail
      go_ret
      rw [HFX.out]
      exact ⟨rfl, ⟨HI1.out.1, fun h => by cases h⟩, HO1.out⟩
    | true =>
      simp only at HI1 HLOS
      simp only [if_true] at HFX
      go_wp2_with fail
      go_loopw [17] (fun si wr => ∃ (k : Nat) (x : σ), k ≤ n ∧ si = .int .i64 k ∧ Inv x wr ∧ KT 29 B w wr ∧ w.heap.size < wr.heap.size ∧ Fm.sizeL (t.kids.drop k) ≤ room x ∧ eachL step (t.kids.drop k) (d + 1) x = r) (fun i _ => n - (intOf i).toNat)
      case atStart => exact ⟨0, y, Nat.zero_le _, rfl, HI1.out.2 (by first | rfl | trivial), HO1.out, hlt1, HLOS.out, HFX.out.symm⟩
      case round =>
        obtain ⟨k, x, hk, rfl, hI, ho, hlr, hrm, hwl⟩ := hrel
        have HI := Lib.hid hI
        have HO := Lib.hid ho
        have HWL := Lib.hid hwl
        have HRM := Lib.hid hrm
        have hszr := ho.below.size
        clear hI ho hwl hrm
        by_cases hlt : k < n
        · obtain ⟨kd, hkd⟩ : ∃ kd, t.kids[k]? = some kd := ⟨_, List.getElem?_eq_getElem (by have := HN.out; omega)⟩
          have hmem : kd ∈ t.kids := List.mem_of_getElem? hkd
          rcases HKID.out with h9 | ⟨g, off, rfl, hg, hrow⟩
          · rw [h9] at hkd; simp at hkd
          obtain ⟨q0, q1, q2, q3, Ae2, ce2, A2, c2, q4, q5, hV2⟩ := (hrow.get hkd).open
          have hbr : Below B w0 wr := HBEL.out.trans HO.out.below
          have hgB : g < B := by rw [HBQ.out]; exact hg
          rw [← hbr.cell (p := ⟨g, _, none⟩) hgB] at q0 q1 q2 q3 q4 q5
          have hgw : g < wr.heap.size := by omega
          obtain ⟨n2, hn2⟩ : ∃ n2, n2 = kd.kids.length := ⟨_, rfl⟩
          rw [← hn2] at q5
          have HN2 := Lib.hid hn2
          have HBR := Lib.hid hbr
          have HV2 := Lib.hid hV2
          have HDR : Hid (t.kids.drop k = kd :: t.kids.drop (k + 1)) := by
            obtain ⟨hj, hj2⟩ := List.getElem?_eq_some_iff.1 hkd
            show _ = _
            rw [List.drop_eq_getElem_cons hj, hj2]
          have HSD := Lib.hid (Fm.sizeL_drop hkd)
          have HSK := Lib.hid (HSZ.out kd hmem)
          have hk0 : (0 : Int) ≤ (k : Int) := by omega
          have hk1 : (k : Int) < (n : Int) := by omega
          have e1 : off + 6 * k = off + k * 6 := by omega
          rw [e1] at q0 q1 q2 q3 q4 q5
          clear hkd hmem hrow hbr hn2 hV2 e1
          obtain ⟨wk, hwk⟩ : ∃ wk, wk = wr.alloc (.cells #[.int .i64 kd.op, .int .i64 kd.tm.op, .int .i64 kd.tm.num, .string kd.tm.name, .slice Ae2 kd.tm.kids.length ce2, .slice A2 n2 c2] 29) := ⟨_, rfl⟩
          have hbk : Below wr.heap.size wr wk := by rw [hwk]; exact (Below.refl _ _).alloc (Nat.le_refl _) _
          have hBr : B ≤ wr.heap.size := by omega
          have hzk : w.heap.size < wk.heap.size := by have := hbk.size; omega
          have hok : KT 29 B w wk := HO.out.thenBelow hbk (by omega) hBr
          have hih := HIHH.out kd (d + 1) Ae2 ce2 A2 c2 x wk HSK.out.1 HSK.out.2.1 HSK.out.2.2 (by have h1 := HRM.out; rw [HSD.out] at h1; omega) HV2.out (V.keep x wr wk HI.out hbk) (HBR.out.trans (hbk.mono hBr))
          have HLO : Hid (Fm.sizeL (t.kids.drop (k + 1)) ≤ room (eachF step kd (d + 1) x).1) := by
            have h1 := HRM.out
            rw [HSD.out] at h1
            have h2 := eachF_lose V.lose kd (d + 1) x
            show _ ≤ _
            omega
          rw [show ((d + 1 : Nat) : Int) = (d : Int) + 1 from by omega] at hih
          unfold Fm.val at hih
          rw [← HN2.out] at hih
          obtain ⟨z, hz⟩ : ∃ z, z = eachF step kd (d + 1) x := ⟨_, rfl⟩
          rw [← hz] at hih HLO
          have HZ := Lib.hid hz
          have HIH := Lib.hid hih
          have HWK := Lib.hid hwk
          have HOK := Lib.hid hok
          rw [HWK.out] at HIH
          clear hih hz hwk hbk hok
          go_wp2_with fail
          refine (HIH.out).mono ?_
          rintro e w2 ⟨rfl, hI2, ho2⟩
          rw [← HWK.out] at ho2
          have hz2 := ho2.below.size
          have HI2 := Lib.hid hI2
          have HO2 := Lib.hid (HOK.out.trans ho2)
          clear hI2 ho2
          obtain ⟨y2, b2⟩ := z
          have HW2 : Hid (eachL step (t.kids.drop k) (d + 1) x = if b2 = true then eachL step (t.kids.drop (k + 1)) (d + 1) y2 else (y2, false)) := by
            show _ = _
            rw [HDR.out, eachL, ← HZ.out]
            cases b2 <;> rfl
          cases b2 with
          | false =>
            have HR : Hid (r = (y2, false)) := by show _ = _; rw [← HWL.out, HW2.out]; rfl
            go_wp2_with fail
            go_ret
            rw [HR.out]
            exact ⟨rfl, ⟨HI2.out.1, fun h => by cases h⟩, HO2.out⟩
          | true =>
            go_wp2_with fail
            go_roundw
            case rel => exact ⟨k + 1, y2, by omega, by go_num, HI2.out.2 (by first | rfl | trivial), HO2.out, by omega, HLO.out, by rw [← HWL.out, HW2.out]; rfl⟩
            case measure => first | (simp [intOf]; done) | (simp [intOf]; omega)
        · have hkn : k = n := by omega
          have HR : Hid (r = (x, true)) := by
            show _ = _
            rw [← HWL.out, List.drop_eq_nil_of_le (by have := HN.out; omega)]
            rfl
          have hk1 : ¬ (k : Int) < (n : Int) := by omega
          go_wp2_with fail
          go_ret
          rw [HR.out]
          exact ⟨rfl, ⟨V.fin _ _ HI.out, fun _ => HI.out⟩, HO.out⟩
end Go.Proofs.YtcjblbpkjegmiaaDoor
