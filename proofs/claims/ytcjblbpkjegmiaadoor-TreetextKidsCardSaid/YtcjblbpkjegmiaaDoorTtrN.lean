/- The walks of the law's count of parts: ref52.term, form, left, Many. -/
import Derived.Test.YtcjblbpkjegmiaaDoorTtrE
namespace Go.Proofs.YtcjblbpkjegmiaaDoor
open Go.RowKit
set_option linter.unusedVariables false

/-- What is left of m after k parts: less than nothing if they are too many. -/
def LeftQ (m k r : Int) : Prop := r ≤ m ∧ (m ≤ r ∨ -1 ≤ r) ∧ (0 ≤ r → k + r ≤ m)
theorem Tm.sizeL_take {l : List Tm} {k : Nat} {t : Tm} (h : l[k]? = some t) : Tm.sizeL (l.take (k + 1)) = Tm.sizeL (l.take k) + t.size := by
  obtain ⟨hj, hj2⟩ := List.getElem?_eq_some_iff.1 h
  rw [List.take_succ_eq_append_getElem hj, hj2]
  generalize l.take k = a
  induction a with
  | nil => simp [Tm.sizeL]
  | cons x r ih => rw [List.cons_append, Tm.sizeL, Tm.sizeL, ih]; omega
set_option maxRecDepth 100000 in
set_option maxHeartbeats 4000000 in
theorem rterm_any : ∀ (N : Nat) (t : Tm) (m : Int) (A : Option Addr) (c : Nat) (w : World), t.size ≤ N → TmV w A c t → -1000000000000000000 ≤ m → m ≤ 1000000000000000000 →
    Calls Tryd.prog 81 #[t.val A c, .int .i64 m] w fun e w' => (∃ r : Int, e = .returned (.int .i64 r) ∧ LeftQ m (Tm.sizeL t.kids : Nat) r) ∧ Below w.heap.size w w' := by
  intro N
  induction N with
  | zero =>
    intro t m A c w hN
    cases t; rw [Tm.size] at hN; omega
  | succ N ih =>
    intro t m A c w hN hV hm1 hm2
    obtain ⟨n, hn⟩ : ∃ n, n = t.kids.length := ⟨_, rfl⟩
    obtain ⟨F, hF⟩ : ∃ F : Ending → World → Prop, F = fun e w' => (∃ r : Int, e = .returned (.int .i64 r) ∧ LeftQ m (Tm.sizeL t.kids : Nat) r) ∧ Below w.heap.size w w' := ⟨_, rfl⟩
    rw [← hF]
    have hsz : t.size = 1 + Tm.sizeL t.kids := by cases t; rw [Tm.size]; rfl
    have hcap := hV.cap
    have hcapm := hV.capm
    unfold maxLen at hcapm
    rw [← hn] at hcap
    have hk := hV.kids
    obtain ⟨w1, hw1⟩ : ∃ w1, w1 = w.alloc (.cells #[.int .i64 t.op, .int .i64 t.num, .string t.name, .slice A n c] 26) := ⟨_, rfl⟩
    have hb1 : Below w.heap.size w w1 := by rw [hw1]; exact (Below.refl _ _).alloc (Nat.le_refl _) _
    have hs1 : w1.heap.size = w.heap.size + 1 := by rw [hw1]; simp
    have hbx : w1.heap[w.heap.size]? = some (.cells #[.int .i64 t.op, .int .i64 t.num, .string t.name, .slice A n c] 26 (0, 0)) := by rw [hw1]; exact heap_alloc_new w _
    show Calls Tryd.prog 81 #[.agg #[.int .i64 t.op, .int .i64 t.num, .string t.name, .slice A t.kids.length c], .int .i64 m] w F
    rw [← hn]
    have HF := Lib.hid hF
    have HIH := Lib.hid ih
    have HN := Lib.hid hn
    have HSZ := Lib.hid hsz
    have HK := Lib.hid hk
    have HB1 := Lib.hid hb1
    have HS1 := Lib.hid hs1
    have HBX := Lib.hid hbx
    have HW1 := Lib.hid hw1
    have HNN := Lib.hid hN
    clear hF ih hn hsz hk hb1 hs1 hbx hw1 hV hN
    go_enter Tryd.func81, Tryd.ntmps81
    go_wp2_with fail
    rw [← HW1.out]
    go_loopw [1, 5] (fun sm si wr => ∃ (k : Nat) (x : Int), k ≤ n ∧ sm = .int .i64 x ∧ si = .int .i64 k ∧ LeftQ m (Tm.sizeL (t.kids.take k) : Nat) x ∧ Below w1.heap.size w1 wr) (fun _ i _ => n - (intOf i).toNat)
    case atStart => exact ⟨0, m, Nat.zero_le _, rfl, rfl, ⟨Int.le_refl _, .inl (Int.le_refl _), fun _ => by simp [Tm.sizeL]⟩, Below.refl _ _⟩
    case round =>
      obtain ⟨k, x, hk, rfl, rfl, hq, hbel⟩ := hrel
      have HQ := Lib.hid hq
      have HB := Lib.hid hbel
      have hszr := hbel.size
      have hbw : w.heap.size < wr.heap.size := by have := HS1.out; omega
      have kc3 : wr.cell? ⟨w.heap.size, 3, none⟩ = some (.slice A n c) := by rw [cell_of_row wr w.heap.size 3 _ _ (0, 0) ((hbel.block _ (by have := HS1.out; omega)).trans HBX.out)]; rfl
      have hbt : Below w.heap.size w wr := HB1.out.trans (hbel.mono (by have := HS1.out; omega))
      by_cases hgo : k < n ∧ 0 ≤ x
      · obtain ⟨hlt, hx0⟩ := hgo
        obtain ⟨q, hq'⟩ : ∃ q, t.kids[k]? = some q := ⟨_, List.getElem?_eq_getElem (by have := HN.out; omega)⟩
        rcases HK.out with h9 | ⟨g, o, rfl, hg, hrow⟩
        · rw [h9] at hq'; simp at hq'
        have hat := (hrow.get hq').below hbt rfl hg
        obtain ⟨q0, q1, q2, A', c', q3, hVq⟩ := hat.open
        have e1 : o + 4 * k = o + k * 4 := by omega
        rw [e1] at q0 q1 q2 q3
        have hgr : g < wr.heap.size := by have := hbt.size; omega
        have HTK := Lib.hid (Tm.sizeL_take hq')
        have hqs : q.size ≤ N := by
          have h1 := Tm.sizeL_mem (List.mem_of_getElem? hq')
          have := HNN.out
          have := HSZ.out
          omega
        have hx2 : x ≤ 1000000000000000000 := by have := HQ.out.1; omega
        have hcall := HIH.out q (x - 1) A' c' wr hqs hVq (by omega) (by omega)
        have hqz : q.size = 1 + Tm.sizeL q.kids := by cases q; rw [Tm.size]; rfl
        have HQZ := Lib.hid hqz
        obtain ⟨nq, hnq⟩ : ∃ nq, nq = q.kids.length := ⟨_, rfl⟩
        have hcall' : Calls Tryd.prog 81 #[.agg #[.int .i64 q.op, .int .i64 q.num, .string q.name, .slice A' nq c'], .int .i64 (x - 1)] wr fun e w' => (∃ r : Int, e = .returned (.int .i64 r) ∧ LeftQ (x - 1) (Tm.sizeL q.kids : Nat) r) ∧ Below wr.heap.size wr w' := by rw [hnq]; exact hcall
        rw [← hnq] at q3
        have HC := Lib.hid hcall'
        have hk0 : (0 : Int) ≤ (k : Int) := by omega
        have hk1 : (k : Int) < (n : Int) := by omega
        clear hcall hcall' hnq hqz hqs hVq hat hrow hq' e1 hbel hq hbt
        go_wp2_with fail
        refine (HC.out).mono ?_
        rintro e w2 ⟨⟨r, rfl, hr⟩, hb2⟩
        have HR : Hid (LeftQ m (Tm.sizeL (t.kids.take (k + 1)) : Nat) r) := by
          obtain ⟨a1, a2, a3⟩ := HQ.out
          obtain ⟨b1, b2, b3⟩ := hr
          have := HTK.out
          have := HQZ.out
          refine ⟨by omega, .inr (by omega), fun h => ?_⟩
          have := a3 hx0
          have := b3 h
          omega
        have HB3 := Lib.hid (HB.out.trans (hb2.mono hszr))
        clear hb2 hr q0 q1 q2 q3 kc3
        go_wp2_with fail
        go_roundw
        case rel => exact ⟨k + 1, r, by omega, rfl, by go_num, HR.out, HB3.out⟩
        case measure => simp [intOf]; omega
      · have HE : Hid (LeftQ m (Tm.sizeL t.kids : Nat) x) := by
          obtain ⟨a1, a2, a3⟩ := HQ.out
          refine ⟨a1, a2, fun h => ?_⟩
          have hkn : k = n := by
            by_cases h2 : k < n
            · exact absurd ⟨h2, h⟩ hgo
            · omega
          have := a3 h
          rw [hkn, List.take_of_length_le (by rw [← HN.out]; exact Nat.le_refl _)] at this
          exact this
        have HBE := Lib.hid hbt
        by_cases hlt : k < n
        · have hk1 : (k : Int) < (n : Int) := by omega
          have hx0 : ¬ (0 : Int) ≤ x := fun h => hgo ⟨hlt, h⟩
          clear hgo hlt hq hbel hbt
          go_wp2_with fail
          rw [HF.out]
          exact ⟨⟨x, rfl, HE.out⟩, HBE.out⟩
        · have hk1 : ¬ (k : Int) < (n : Int) := by omega
          clear hgo hlt hq hbel hbt
          go_wp2_with fail
          rw [HF.out]
          exact ⟨⟨x, rfl, HE.out⟩, HBE.out⟩

mutual
/-- What form takes off. -/
def Fm.cost : Fm → Nat
  | .mk _ e l => e.size + Fm.costL l
def Fm.costL : List Fm → Nat
  | [] => 0
  | t :: r => t.cost + Fm.costL r
end
theorem Fm.cost_eq (t : Fm) : t.cost = 1 + Tm.sizeL t.tm.kids + Fm.costL t.kids := by
  cases t with
  | mk op e l =>
    rw [Fm.cost]
    cases e
    rw [Tm.size]
    rfl
theorem Fm.costL_take {l : List Fm} {k : Nat} {t : Fm} (h : l[k]? = some t) : Fm.costL (l.take (k + 1)) = Fm.costL (l.take k) + t.cost := by
  obtain ⟨hj, hj2⟩ := List.getElem?_eq_some_iff.1 h
  rw [List.take_succ_eq_append_getElem hj, hj2]
  generalize l.take k = a
  induction a with
  | nil => simp [Fm.costL]
  | cons x r ih => rw [List.cons_append, Fm.costL, Fm.costL, ih]; omega
def FLeftQ (m k r : Int) : Prop := r ≤ m ∧ (m - 1 ≤ r ∨ -1 ≤ r) ∧ (0 ≤ r → k + r ≤ m)
set_option maxRecDepth 100000 in
set_option maxHeartbeats 4000000 in
theorem rform_any : ∀ (N : Nat) (t : Fm) (m : Int) (Ae : Option Addr) (ce : Nat) (A : Option Addr) (c : Nat) (w : World), t.size ≤ N → FmV w Ae ce A c t → -900000000000000000 ≤ m → m ≤ 900000000000000000 →
    Calls Tryd.prog 54 #[t.val Ae ce A c, .int .i64 m] w fun e w' => (∃ r : Int, e = .returned (.int .i64 r) ∧ FLeftQ m (t.cost : Nat) r) ∧ Below w.heap.size w w' := by
  intro N
  induction N with
  | zero =>
    intro t m Ae ce A c w hN
    cases t; rw [Fm.size] at hN; omega
  | succ N ih =>
    intro t m Ae ce A c w hN hV hm1 hm2
    obtain ⟨n, hn⟩ : ∃ n, n = t.kids.length := ⟨_, rfl⟩
    obtain ⟨ne, hne⟩ : ∃ ne, ne = t.tm.kids.length := ⟨_, rfl⟩
    obtain ⟨F, hF⟩ : ∃ F : Ending → World → Prop, F = fun e w' => (∃ r : Int, e = .returned (.int .i64 r) ∧ FLeftQ m (t.cost : Nat) r) ∧ Below w.heap.size w w' := ⟨_, rfl⟩
    rw [← hF]
    have hsz : t.size = 1 + Fm.sizeL t.kids := by cases t; rw [Fm.size]; rfl
    have hcap := hV.cap
    have hcapm := hV.capm
    unfold maxLen at hcapm
    rw [← hn] at hcap
    have hk := hV.kids
    obtain ⟨w1, hw1⟩ : ∃ w1, w1 = w.alloc (.cells #[.int .i64 t.op, .int .i64 t.tm.op, .int .i64 t.tm.num, .string t.tm.name, .slice Ae ne ce, .slice A n c] 29) := ⟨_, rfl⟩
    have hb1 : Below w.heap.size w w1 := by rw [hw1]; exact (Below.refl _ _).alloc (Nat.le_refl _) _
    have hs1 : w1.heap.size = w.heap.size + 1 := by rw [hw1]; simp
    have hbx : w1.heap[w.heap.size]? = some (.cells #[.int .i64 t.op, .int .i64 t.tm.op, .int .i64 t.tm.num, .string t.tm.name, .slice Ae ne ce, .slice A n c] 29 (0, 0)) := by rw [hw1]; exact heap_alloc_new w _
    have hterm0 := rterm_any t.tm.size t.tm (m - 1) Ae ce w1 (Nat.le_refl _) (hV.tm.below hb1 rfl) (by omega) (by omega)
    have hterm : Calls Tryd.prog 81 #[.agg #[.int .i64 t.tm.op, .int .i64 t.tm.num, .string t.tm.name, .slice Ae ne ce], .int .i64 (m - 1)] w1 fun e w' => (∃ r : Int, e = .returned (.int .i64 r) ∧ LeftQ (m - 1) (Tm.sizeL t.tm.kids : Nat) r) ∧ Below w1.heap.size w1 w' := by rw [hne]; exact hterm0
    show Calls Tryd.prog 54 #[.agg #[.int .i64 t.op, .int .i64 t.tm.op, .int .i64 t.tm.num, .string t.tm.name, .slice Ae t.tm.kids.length ce, .slice A t.kids.length c], .int .i64 m] w F
    rw [← hn, ← hne]
    have HF := Lib.hid hF
    have HIH := Lib.hid ih
    have HN := Lib.hid hn
    have HSZ := Lib.hid hsz
    have HK := Lib.hid hk
    have HB1 := Lib.hid hb1
    have HS1 := Lib.hid hs1
    have HBX := Lib.hid hbx
    have HW1 := Lib.hid hw1
    have HNN := Lib.hid hN
    have HTERM := Lib.hid hterm
    have HCO := Lib.hid (Fm.cost_eq t)
    clear hF ih hn hne hsz hk hb1 hs1 hbx hw1 hV hN hterm hterm0
    go_enter Tryd.func54, Tryd.ntmps54
    go_wp2_with fail
    rw [← HW1.out]
    refine (HTERM.out).mono ?_
    rintro e w2 ⟨⟨r0, rfl, hr0⟩, hb2⟩
    have HR0 := Lib.hid hr0
    have HB2 := Lib.hid hb2
    clear hr0 hb2
    go_wp2_with fail
    go_loopw [1, 5] (fun sm si wr => ∃ (k : Nat) (x : Int), k ≤ n ∧ sm = .int .i64 x ∧ si = .int .i64 k ∧ FLeftQ m (1 + (Tm.sizeL t.tm.kids : Nat) + (Fm.costL (t.kids.take k) : Nat)) x ∧ Below w1.heap.size w1 wr) (fun _ i _ => n - (intOf i).toNat)
    case atStart =>
      obtain ⟨a1, a2, a3⟩ := HR0.out
      exact ⟨0, r0, Nat.zero_le _, rfl, rfl, ⟨by omega, by omega, fun h => by have := a3 h; simp [Fm.costL]; omega⟩, HB2.out⟩
    case round =>
      obtain ⟨k, x, hk, rfl, rfl, hq, hbel⟩ := hrel
      have HQ := Lib.hid hq
      have HB := Lib.hid hbel
      have hszr := hbel.size
      have hbw : w.heap.size < wr.heap.size := by have := HS1.out; omega
      have kc5 : wr.cell? ⟨w.heap.size, 5, none⟩ = some (.slice A n c) := by rw [cell_of_row wr w.heap.size 5 _ _ (0, 0) ((hbel.block _ (by have := HS1.out; omega)).trans HBX.out)]; rfl
      have hbt : Below w.heap.size w wr := HB1.out.trans (hbel.mono (by have := HS1.out; omega))
      by_cases hgo : k < n ∧ 0 ≤ x
      · obtain ⟨hlt, hx0⟩ := hgo
        obtain ⟨q, hq'⟩ : ∃ q, t.kids[k]? = some q := ⟨_, List.getElem?_eq_getElem (by have := HN.out; omega)⟩
        rcases HK.out with h9 | ⟨g, o, rfl, hg, hrow⟩
        · rw [h9] at hq'; simp at hq'
        have hat := (hrow.get hq').below hbt rfl hg
        obtain ⟨q0, q1, q2, q3, Ae', ce', A', c', q4, q5, hVq⟩ := hat.open
        have e1 : o + 6 * k = o + k * 6 := by omega
        rw [e1] at q0 q1 q2 q3 q4 q5
        have hgr : g < wr.heap.size := by have := hbt.size; omega
        have HTK := Lib.hid (Fm.costL_take hq')
        have hqs : q.size ≤ N := by
          have h1 := Fm.sizeL_mem (List.mem_of_getElem? hq')
          have := HNN.out
          have := HSZ.out
          omega
        have hx2 : x ≤ 900000000000000000 := by have := HQ.out.1; omega
        have hcall := HIH.out q x Ae' ce' A' c' wr hqs hVq (by omega) (by omega)
        obtain ⟨nq, hnq⟩ : ∃ nq, nq = q.kids.length := ⟨_, rfl⟩
        obtain ⟨nqe, hnqe⟩ : ∃ nqe, nqe = q.tm.kids.length := ⟨_, rfl⟩
        have hcall' : Calls Tryd.prog 54 #[.agg #[.int .i64 q.op, .int .i64 q.tm.op, .int .i64 q.tm.num, .string q.tm.name, .slice Ae' nqe ce', .slice A' nq c'], .int .i64 x] wr fun e w' => (∃ r : Int, e = .returned (.int .i64 r) ∧ FLeftQ x (q.cost : Nat) r) ∧ Below wr.heap.size wr w' := by rw [hnq, hnqe]; exact hcall
        rw [← hnq] at q5
        rw [← hnqe] at q4
        have HC := Lib.hid hcall'
        have hk0 : (0 : Int) ≤ (k : Int) := by omega
        have hk1 : (k : Int) < (n : Int) := by omega
        clear hcall hcall' hnq hnqe hqs hVq hat hrow hq' e1 hbel hq hbt
        go_wp2_with fail
        refine (HC.out).mono ?_
        rintro e w3 ⟨⟨r, rfl, hr⟩, hb3⟩
        have HR : Hid (FLeftQ m (1 + (Tm.sizeL t.tm.kids : Nat) + (Fm.costL (t.kids.take (k + 1)) : Nat)) r) := by
          obtain ⟨a1, a2, a3⟩ := HQ.out
          obtain ⟨b1, b2, b3⟩ := hr
          have := HTK.out
          refine ⟨by omega, .inr (by omega), fun h => ?_⟩
          have := a3 hx0
          have := b3 h
          omega
        have HB3 := Lib.hid (HB.out.trans (hb3.mono hszr))
        clear hb3 hr q0 q1 q2 q3 q4 q5 kc5
        go_wp2_with fail
        go_roundw
        case rel => exact ⟨k + 1, r, by omega, rfl, by go_num, HR.out, HB3.out⟩
        case measure => simp [intOf]; omega
      · have HE : Hid (FLeftQ m (t.cost : Nat) x) := by
          obtain ⟨a1, a2, a3⟩ := HQ.out
          refine ⟨a1, a2, fun h => ?_⟩
          have hkn : k = n := by
            by_cases h2 : k < n
            · exact absurd ⟨h2, h⟩ hgo
            · omega
          have := a3 h
          rw [hkn, List.take_of_length_le (by rw [← HN.out]; exact Nat.le_refl _)] at this
          rw [HCO.out]
          omega
        have HBE := Lib.hid hbt
        by_cases hlt : k < n
        · have hk1 : (k : Int) < (n : Int) := by omega
          have hx0 : ¬ (0 : Int) ≤ x := fun h => hgo ⟨hlt, h⟩
          clear hgo hlt hq hbel hbt
          go_wp2_with fail
          rw [HF.out]
          exact ⟨⟨x, rfl, HE.out⟩, HBE.out⟩
        · have hk1 : ¬ (k : Int) < (n : Int) := by omega
          clear hgo hlt hq hbel hbt
          go_wp2_with fail
          rw [HF.out]
          exact ⟨⟨x, rfl, HE.out⟩, HBE.out⟩

mutual
/-- What left takes off. -/
def Tr.cost : Tr → Nat
  | .mk _ _ f p _ _ l => 1 + p.length + f.cost + Tr.costL l
def Tr.costL : List Tr → Nat
  | [] => 0
  | t :: r => t.cost + Tr.costL r
end
mutual
def Tr.PathsOk : Tr → Prop
  | .mk _ _ _ p _ _ l => p.length ≤ 140737488355328 ∧ Tr.PathsOkL l
def Tr.PathsOkL : List Tr → Prop
  | [] => True
  | t :: r => t.PathsOk ∧ Tr.PathsOkL r
end
theorem Tr.PathsOkL_mem : ∀ {l : List Tr} {t : Tr}, Tr.PathsOkL l → t ∈ l → t.PathsOk
  | x :: r, t, h, hm => by
    rw [Tr.PathsOkL] at h
    rcases List.mem_cons.1 hm with rfl | hm
    · exact h.1
    · exact Tr.PathsOkL_mem h.2 hm
theorem Tr.PathsOk_open {t : Tr} (h : t.PathsOk) : t.path.length ≤ 140737488355328 ∧ ∀ q ∈ t.kids, q.PathsOk := by
  cases t with
  | mk k st f p lo at_ l =>
    rw [Tr.PathsOk] at h
    exact ⟨h.1, fun q hq => Tr.PathsOkL_mem h.2 hq⟩
theorem Tr.cost_eq (t : Tr) : t.cost = 1 + t.path.length + t.fm.cost + Tr.costL t.kids := by
  cases t; rw [Tr.cost]; rfl
theorem Tr.costL_take {l : List Tr} {k : Nat} {t : Tr} (h : l[k]? = some t) : Tr.costL (l.take (k + 1)) = Tr.costL (l.take k) + t.cost := by
  obtain ⟨hj, hj2⟩ := List.getElem?_eq_some_iff.1 h
  rw [List.take_succ_eq_append_getElem hj, hj2]
  generalize l.take k = a
  induction a with
  | nil => simp [Tr.costL]
  | cons x r ih => rw [List.cons_append, Tr.costL, Tr.costL, ih]; omega
set_option maxRecDepth 100000 in
set_option maxHeartbeats 8000000 in
theorem rleft_any : ∀ (N : Nat) (t : Tr) (m : Int) (p : TrP) (w : World), t.size ≤ N → TrV w p t → t.PathsOk → 0 ≤ m → m ≤ 1000000 →
    Calls Tryd.prog 29 #[t.val p, .int .i64 m] w fun e w' => (∃ r : Int, e = .returned (.int .i64 r) ∧ r ≤ m ∧ (0 ≤ r → (t.cost : Nat) + r ≤ m)) ∧ Below w.heap.size w w' := by
  intro N
  induction N with
  | zero =>
    intro t m p w hN
    cases t; rw [Tr.size] at hN; omega
  | succ N ih =>
    intro t m p w hN hV hpo hm1 hm2
    obtain ⟨n, hn⟩ : ∃ n, n = t.kids.length := ⟨_, rfl⟩
    obtain ⟨ne, hne⟩ : ∃ ne, ne = t.fm.tm.kids.length := ⟨_, rfl⟩
    obtain ⟨nf, hnf⟩ : ∃ nf, nf = t.fm.kids.length := ⟨_, rfl⟩
    obtain ⟨ns, hns⟩ : ∃ ns, ns = t.state.length := ⟨_, rfl⟩
    obtain ⟨np, hnp⟩ : ∃ np, np = t.path.length := ⟨_, rfl⟩
    obtain ⟨aK, haK⟩ : ∃ aK, aK = p.aK := ⟨_, rfl⟩
    obtain ⟨aP, haP⟩ : ∃ aP, aP = p.aP := ⟨_, rfl⟩
    obtain ⟨F, hF⟩ : ∃ F : Ending → World → Prop, F = fun e w' => (∃ r : Int, e = .returned (.int .i64 r) ∧ r ≤ m ∧ (0 ≤ r → (t.cost : Nat) + r ≤ m)) ∧ Below w.heap.size w w' := ⟨_, rfl⟩
    rw [← hF]
    have hsz : 1 + Tr.sizeL t.kids ≤ t.size := by cases t; rw [Tr.size]; show 1 + Tr.sizeL _ ≤ _; simp only [Tr.kids]; omega
    have hcap := hV.own.cap
    have hcapm := hV.own.capm
    have hpc := hV.own.path.cap
    have hpcm := hV.own.path.capm
    have hsc := hV.own.st.cap
    have hscm := hV.own.st.capm
    unfold maxLen at hcapm hpcm hscm
    rw [← hn] at hcap
    rw [← hnp] at hpc
    rw [← hns] at hsc
    have hnp47 : np ≤ 140737488355328 := by rw [hnp]; exact (Tr.PathsOk_open hpo).1
    have hk := hV.kids
    have hpr := hV.own.path.row
    rw [← haK] at hk
    rw [← haP] at hpr
    obtain ⟨w1, hw1⟩ : ∃ w1, w1 = w.alloc (.cells #[.int .i64 t.kind, .slice p.aS ns p.cS, .int .i64 t.fm.op, .int .i64 t.fm.tm.op, .int .i64 t.fm.tm.num, .string t.fm.tm.name, .slice p.aE ne p.cE, .slice p.aF nf p.cF, .slice aP np p.cP, .int .i64 t.loop, .int .i64 t.at_, .slice aK n p.cK] 33) := ⟨_, rfl⟩
    have hb1 : Below w.heap.size w w1 := by rw [hw1]; exact (Below.refl _ _).alloc (Nat.le_refl _) _
    have hs1 : w1.heap.size = w.heap.size + 1 := by rw [hw1]; simp
    have hbx : w1.heap[w.heap.size]? = some (.cells #[.int .i64 t.kind, .slice p.aS ns p.cS, .int .i64 t.fm.op, .int .i64 t.fm.tm.op, .int .i64 t.fm.tm.num, .string t.fm.tm.name, .slice p.aE ne p.cE, .slice p.aF nf p.cF, .slice aP np p.cP, .int .i64 t.loop, .int .i64 t.at_, .slice aK n p.cK] 33 (0, 0)) := by rw [hw1]; exact heap_alloc_new w _
    have hform0 := rform_any t.fm.size t.fm (m - 1 - np) p.aE p.cE p.aF p.cF w1 (Nat.le_refl _) (hV.own.fm.below hb1 rfl) (by omega) (by omega)
    have hform : Calls Tryd.prog 54 #[.agg #[.int .i64 t.fm.op, .int .i64 t.fm.tm.op, .int .i64 t.fm.tm.num, .string t.fm.tm.name, .slice p.aE ne p.cE, .slice p.aF nf p.cF], .int .i64 (m - 1 - np)] w1 fun e w' => (∃ r : Int, e = .returned (.int .i64 r) ∧ FLeftQ (m - 1 - np) (t.fm.cost : Nat) r) ∧ Below w1.heap.size w1 w' := by rw [hne, hnf]; exact hform0
    show Calls Tryd.prog 29 #[.agg #[.int .i64 t.kind, .slice p.aS t.state.length p.cS, .int .i64 t.fm.op, .int .i64 t.fm.tm.op, .int .i64 t.fm.tm.num, .string t.fm.tm.name, .slice p.aE t.fm.tm.kids.length p.cE, .slice p.aF t.fm.kids.length p.cF, .slice p.aP t.path.length p.cP, .int .i64 t.loop, .int .i64 t.at_, .slice p.aK t.kids.length p.cK], .int .i64 m] w F
    rw [← hn, ← hne, ← hnf, ← hns, ← hnp, ← haK, ← haP]
    have HF := Lib.hid hF
    have HIH := Lib.hid ih
    have HN := Lib.hid hn
    have HNP := Lib.hid hnp
    have HSZ := Lib.hid hsz
    have HK := Lib.hid hk
    have HPR := Lib.hid hpr
    have HPO := Lib.hid hpo
    have HB1 := Lib.hid hb1
    have HS1 := Lib.hid hs1
    have HBX := Lib.hid hbx
    have HW1 := Lib.hid hw1
    have HNN := Lib.hid hN
    have HFORM := Lib.hid hform
    have HCO := Lib.hid (Tr.cost_eq t)
    rw [haP] at HBX HW1
    rw [← haP] at HBX HW1
    clear hF ih hn hne hnf hns hnp hsz hk hpr hb1 hs1 hbx hw1 hV hN hform hform0 hpo haK haP
    go_enter Tryd.func29, Tryd.ntmps29
    go_wp2_with fail
    rw [← HW1.out]
    refine (HFORM.out).mono ?_
    rintro e w2 ⟨⟨r0, rfl, hr0⟩, hb2⟩
    have HR0 := Lib.hid hr0
    have HB2 := Lib.hid hb2
    have hz2 := hb2.size
    have hbw2 : w.heap.size < w2.heap.size := by have := HS1.out; omega
    have hbx2 := (hb2.block w.heap.size (by have := HS1.out; omega)).trans HBX.out
    have kc8 : w2.cell? ⟨w.heap.size, 8, none⟩ = some (.slice aP np p.cP) := by rw [cell_of_row w2 w.heap.size 8 _ _ (0, 0) hbx2]; rfl
    have kc1 : w2.cell? ⟨w.heap.size, 1, none⟩ = some (.slice p.aS ns p.cS) := by rw [cell_of_row w2 w.heap.size 1 _ _ (0, 0) hbx2]; rfl
    have hbt2 : Below w.heap.size w w2 := HB1.out.trans (hb2.mono (by have := HS1.out; omega))
    have HBT2 := Lib.hid hbt2
    clear hr0 hb2 hbx2 hbt2
    go_wp2_with fail
    go_loop [5] (fun si => ∃ k : Nat, k ≤ np ∧ si = .int .i64 k) (fun i => np - (intOf i).toNat)
    case atStart => exact ⟨0, Nat.zero_le _, rfl⟩
    case round =>
      obtain ⟨k, hk, rfl⟩ := hrel
      by_cases hlt : k < np
      · obtain ⟨s, hs⟩ : ∃ s, t.path[k]? = some s := ⟨_, List.getElem?_eq_getElem (by have := HNP.out; omega)⟩
        rcases HPR.out with h9 | ⟨g, o, rfl, hg, hrow⟩
        · rw [h9] at hs; simp at hs
        obtain ⟨As, cs, q0, hsv⟩ := hrow k s hs
        rw [← HBT2.out.cell (p := ⟨g, _, none⟩) hg] at q0
        obtain ⟨ls, hls⟩ : ∃ ls, ls = s.length := ⟨_, rfl⟩
        rw [← hls] at q0
        have hgr : g < w2.heap.size := by omega
        have hk0 : (0 : Int) ≤ (k : Int) := by omega
        have hk1 : (k : Int) < (np : Int) := by omega
        clear hs hrow hsv hls
        by_cases h20 : 20 < ls
        · have h20' : (20 : Int) < (ls : Int) := by omega
          clear h20
          go_wp2_with fail
          rw [HF.out]
          exact ⟨⟨-1, rfl, by omega, fun h => by omega⟩, HBT2.out⟩
        · have h20' : ¬ (20 : Int) < (ls : Int) := by omega
          clear h20
          go_wp2_with fail
          go_round
          case rel => exact ⟨k + 1, by omega, by go_num⟩
          case measure => simp [intOf]; omega
      · have hk1 : ¬ (k : Int) < (np : Int) := by omega
        clear hlt
        by_cases h20 : 20 < ns
        · have h20' : (20 : Int) < (ns : Int) := by omega
          clear h20
          go_wp2_with fail
          rw [HF.out]
          exact ⟨⟨-1, rfl, by omega, fun h => by omega⟩, HBT2.out⟩
        · have h20' : ¬ (20 : Int) < (ns : Int) := by omega
          clear h20
          go_wp2_with fail
          clear kc1 kc8
          go_loopw [1, 6] (fun sm si wr => ∃ (k : Nat) (x : Int), k ≤ n ∧ sm = .int .i64 x ∧ si = .int .i64 k ∧ x ≤ m ∧ (0 ≤ x → 1 + (np : Int) + (t.fm.cost : Nat) + (Tr.costL (t.kids.take k) : Nat) + x ≤ m) ∧ Below w1.heap.size w1 wr) (fun _ i _ => n - (intOf i).toNat)
          case atStart =>
            obtain ⟨a1, a2, a3⟩ := HR0.out
            exact ⟨0, r0, Nat.zero_le _, rfl, rfl, by omega, fun h => by have := a3 h; simp [Tr.costL]; omega, HB2.out⟩
          case round =>
            obtain ⟨k2, x, hk2, rfl, rfl, hxm, hq, hbel⟩ := hrel
            have HQ := Lib.hid hq
            have HB := Lib.hid hbel
            have hszr := hbel.size
            have hbw : w.heap.size < wr.heap.size := by have := HS1.out; omega
            have kc11 : wr.cell? ⟨w.heap.size, 11, none⟩ = some (.slice aK n p.cK) := by rw [cell_of_row wr w.heap.size 11 _ _ (0, 0) ((hbel.block _ (by have := HS1.out; omega)).trans HBX.out)]; rfl
            have hbt : Below w.heap.size w wr := HB1.out.trans (hbel.mono (by have := HS1.out; omega))
            have HBE := Lib.hid hbt
            by_cases hgo : k2 < n ∧ 0 ≤ x
            · obtain ⟨hlt, hx0⟩ := hgo
              obtain ⟨q, hq'⟩ : ∃ q, t.kids[k2]? = some q := ⟨_, List.getElem?_eq_getElem (by have := HN.out; omega)⟩
              rcases HK.out with h9 | ⟨g, o, rfl, hg, hrow⟩
              · rw [h9] at hq'; simp at hq'
              have hat := (hrow.get hq').below hbt rfl hg
              obtain ⟨p', hcl, hVq⟩ := hat.open
              rw [show o + 12 * k2 = o + k2 * 12 from by omega] at hcl
              have q0 := hcl 0 _ rfl
              have q1 := hcl 1 _ rfl
              have q2 := hcl 2 _ rfl
              have q3 := hcl 3 _ rfl
              have q4 := hcl 4 _ rfl
              have q5 := hcl 5 _ rfl
              have q6 := hcl 6 _ rfl
              have q7 := hcl 7 _ rfl
              have q8 := hcl 8 _ rfl
              have q9 := hcl 9 _ rfl
              have q10 := hcl 10 _ rfl
              have q11 := hcl 11 _ rfl
              rw [Nat.add_zero] at q0
              have hgr : g < wr.heap.size := by have := hbt.size; omega
              have HTK := Lib.hid (Tr.costL_take hq')
              have hqs : q.size ≤ N := by
                have h1 := Tr.sizeL_mem (List.mem_of_getElem? hq')
                have := HNN.out
                have := HSZ.out
                omega
              have hcall := HIH.out q x p' wr hqs hVq ((Tr.PathsOk_open HPO.out).2 q (List.mem_of_getElem? hq')) hx0 (by omega)
              unfold Tr.val at hcall
              have HC := Lib.hid hcall
              have hk0 : (0 : Int) ≤ (k2 : Int) := by omega
              have hk1' : (k2 : Int) < (n : Int) := by omega
              clear hcall hqs hVq hat hrow hq' hbel hq hbt hcl
              go_wp2_with fail
              refine (HC.out).mono ?_
              rintro e w3 ⟨⟨r, rfl, hrm, hr⟩, hb3⟩
              have HR : Hid (0 ≤ r → 1 + (np : Int) + (t.fm.cost : Nat) + (Tr.costL (t.kids.take (k2 + 1)) : Nat) + r ≤ m) := fun h => by
                have := HTK.out
                have := HQ.out hx0
                have := hr h
                omega
              have HB3 := Lib.hid (HB.out.trans (hb3.mono hszr))
              have hrm2 : r ≤ m := by omega
              clear hb3 hr q0 q1 q2 q3 q4 q5 q6 q7 q8 q9 q10 q11 kc11
              go_wp2_with fail
              go_roundw
              case rel => exact ⟨k2 + 1, r, by omega, rfl, by go_num, hrm2, HR.out, HB3.out⟩
              case measure => simp [intOf]; omega
            · have HE : Hid (0 ≤ x → (t.cost : Nat) + x ≤ m) := fun h => by
                have hkn : k2 = n := by
                  by_cases h2 : k2 < n
                  · exact absurd ⟨h2, h⟩ hgo
                  · omega
                have := HQ.out h
                rw [hkn, List.take_of_length_le (by rw [← HN.out]; exact Nat.le_refl _)] at this
                rw [HCO.out, ← HNP.out]
                omega
              by_cases hlt : k2 < n
              · have hk1' : (k2 : Int) < (n : Int) := by omega
                have hx0 : ¬ (0 : Int) ≤ x := fun h => hgo ⟨hlt, h⟩
                clear hgo hlt hq hbel hbt
                go_wp2_with fail
                rw [HF.out]
                exact ⟨⟨x, rfl, hxm, HE.out⟩, HBE.out⟩
              · have hk1' : ¬ (k2 : Int) < (n : Int) := by omega
                clear hgo hlt hq hbel hbt
                go_wp2_with fail
                rw [HF.out]
                exact ⟨⟨x, rfl, hxm, HE.out⟩, HBE.out⟩
/-- What Many says, if it says yes. -/
def ManyQ (t : Tr) (m : Int) (w : World) (e : Ending) (w' : World) : Prop := ∃ b, e = .returned (.bool b) ∧ (b = true → (t.cost : Int) ≤ m) ∧ Below w.heap.size w w'
set_option maxRecDepth 100000 in
set_option maxHeartbeats 4000000 in
theorem many_any (t : Tr) (m : Int) (p : TrP) (w : World) (hV : TrV w p t) (hpo : t.PathsOk) (hm0 : 0 ≤ m) (hm2 : m ≤ 1000000) :
    Calls Tryd.prog 10 #[t.val p, .int .i64 m] w (ManyQ t m w) := by
  obtain ⟨F, hF⟩ : ∃ F, F = ManyQ t m w := ⟨_, rfl⟩
  rw [← hF]
  unfold Tr.val
  obtain ⟨w1, hw1⟩ : ∃ w1, w1 = w.alloc (.cells (t.cells p).toArray 33) := ⟨_, rfl⟩
  have hb1 : Below w.heap.size w w1 := by rw [hw1]; exact (Below.refl _ _).alloc (Nat.le_refl _) _
  have hl := rleft_any t.size t m p w1 (Nat.le_refl _) (hV.below hb1 rfl) hpo hm0 hm2
  unfold Tr.val at hl
  unfold Tr.cells at hw1
  have HF := Lib.hid hF
  have HL := Lib.hid hl
  have HB1 := Lib.hid hb1
  have HW1 := Lib.hid hw1
  clear hF hl hb1 hw1 hV hpo
  go_enter Tryd.func10, Tryd.ntmps10
  go_wp2_with fail
  rw [← HW1.out]
  refine (HL.out).mono ?_
  rintro e w2 ⟨⟨r, rfl, hrm, hr⟩, hb2⟩
  have HB2 := Lib.hid (HB1.out.trans (hb2.mono HB1.out.size))
  have HR := Lib.hid hr
  clear hr hb2
  go_wp2_with fail
  rw [HF.out]
  exact ⟨decide (0 ≤ r), rfl, fun h => by have h0 : 0 ≤ r := of_decide_eq_true h; have := HR.out h0; omega, HB2.out⟩
end Go.Proofs.YtcjblbpkjegmiaaDoor
