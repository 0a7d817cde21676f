/-The walks of the law's count of parts: ref52.term, form, left, Many.  The law's walks over a text: deeper, lines.  The walk of ref52.Count.  Plain words: a tree's text, line by line; two blanks ahead of each line; how many lines.  Plain words: no line end within the text of a formula or of a state.  Plain words: a tree's text is its own text and its kids' texts. -/
import Derived.Test.YtcjblbpkjegmiaaDoorTtrE
import Derived.Test.YtcjblbpkjegmiaaDoorTtrL2
namespace Go.Proofs.YtcjblbpkjegmiaaDoor
open Go.RowKit
set_option linter.unusedVariables false

/-- What is left of m after k parts: less than nothing if they are too many. -/
def LeftQ (m k r : Int) : Prop := r ≤ m ∧ (m ≤ r ∨ -1 ≤ r) ∧ (0 ≤ r → k + r ≤ m)
theorem Tm.sizeL_take {l : List Tm} {k : Nat} {t : Tm} (h : l[k]? = some t) : Tm.sizeL (l.take (k + 1)) = Tm.sizeL (l.take k) + t.size := by
  obtain ⟨hj, hj2⟩ := List.getElem?_eq_some_iff.1 h
  rw [List.take_succ_eq_append_getElem hj, hj2]
  generalize l.take k = a
  induction a with
  | nil => simp [Tm.sizeL]
  | cons x r ih => rw [List.cons_append, Tm.sizeL, Tm.sizeL, ih]; omega
set_option maxRecDepth 100000 in
set_option maxHeartbeats 4000000 in
theorem rterm_any : ∀ (N : Nat) (t : Tm) (m : Int) (A : Option Addr) (c : Nat) (w : World), t.size ≤ N → TmV w A c t → -1000000000000000000 ≤ m → m ≤ 1000000000000000000 →
    Calls Tryd.prog 81 #[t.val A c, .int .i64 m] w fun e w' => (∃ r : Int, e = .returned (.int .i64 r) ∧ LeftQ m (Tm.sizeL t.kids : Nat) r) ∧ Below w.heap.size w w' := by
  intro N
  induction N with
  | zero =>
    intro t m A c w hN
    cases t; rw [Tm.size] at hN; omega
  | succ N ih =>
    intro t m A c w hN hV hm1 hm2
    obtain ⟨n, hn⟩ : ∃ n, n = t.kids.length := ⟨_, rfl⟩
    obtain ⟨F, hF⟩ : ∃ F : Ending → World → Prop, F = fun e w' => (∃ r : Int, e = .returned (.int .i64 r) ∧ LeftQ m (Tm.sizeL t.kids : Nat) r) ∧ Below w.heap.size w w' := ⟨_, rfl⟩
    rw [← hF]
    have hsz : t.size = 1 + Tm.sizeL t.kids := by cases t; rw [Tm.size]; rfl
    have hcap := hV.cap
    have hcapm := hV.capm
    unfold maxLen at hcapm
    rw [← hn] at hcap
    have hk := hV.kids
    obtain ⟨w1, hw1⟩ : ∃ w1, w1 = w.alloc (.cells #[.int .i64 t.op, .int .i64 t.num, .string t.name, .slice A n c] 26) := ⟨_, rfl⟩
    have hb1 : Below w.heap.size w w1 := by rw [hw1]; exact (Below.refl _ _).alloc (Nat.le_refl _) _
    have hs1 : w1.heap.size = w.heap.size + 1 := by rw [hw1]; simp
    have hbx : w1.heap[w.heap.size]? = some (.cells #[.int .i64 t.op, .int .i64 t.num, .string t.name, .slice A n c] 26 (0, 0)) := by rw [hw1]; exact heap_alloc_new w _
    show Calls Tryd.prog 81 #[.agg #[.int .i64 t.op, .int .i64 t.num, .string t.name, .slice A t.kids.length c], .int .i64 m] w F
    rw [← hn]
    have HF := Lib.hid hF
    have HIH := Lib.hid ih
    have HN := Lib.hid hn
    have HSZ := Lib.hid hsz
    have HK := Lib.hid hk
    have HB1 := Lib.hid hb1
    have HS1 := Lib.hid hs1
    have HBX := Lib.hid hbx
    have HW1 := Lib.hid hw1
    have HNN := Lib.hid hN
    clear hF ih hn hsz hk hb1 hs1 hbx hw1 hV hN
    go_enter Tryd.func81, Tryd.ntmps81
    go_wp2_with fail
    rw [← HW1.out]
    go_loopw [1, 5] (fun sm si wr => ∃ (k : Nat) (x : Int), k ≤ n ∧ sm = .int .i64 x ∧ si = .int .i64 k ∧ LeftQ m (Tm.sizeL (t.kids.take k) : Nat) x ∧ Below w1.heap.size w1 wr) (fun _ i _ => n - (intOf i).toNat)
    case atStart => exact ⟨0, m, Nat.zero_le _, rfl, rfl, ⟨Int.le_refl _, .inl (Int.le_refl _), fun _ => by simp [Tm.sizeL]⟩, Below.refl _ _⟩
    case round =>
      obtain ⟨k, x, hk, rfl, rfl, hq, hbel⟩ := hrel
      have HQ := Lib.hid hq
      have HB := Lib.hid hbel
      have hszr := hbel.size
      have hbw : w.heap.size < wr.heap.size := by have := HS1.out; omega
      have kc3 : wr.cell? ⟨w.heap.size, 3, none⟩ = some (.slice A n c) := by rw [cell_of_row wr w.heap.size 3 _ _ (0, 0) ((hbel.block _ (by have := HS1.out; omega)).trans HBX.out)]; rfl
      have hbt : Below w.heap.size w wr := HB1.out.trans (hbel.mono (by have := HS1.out; omega))
      by_cases hgo : k < n ∧ 0 ≤ x
      · obtain ⟨hlt, hx0⟩ := hgo
        obtain ⟨q, hq'⟩ : ∃ q, t.kids[k]? = some q := ⟨_, List.getElem?_eq_getElem (by have := HN.out; omega)⟩
        rcases HK.out with h9 | ⟨g, o, rfl, hg, hrow⟩
        · rw [h9] at hq'; simp at hq'
        have hat := (hrow.get hq').below hbt rfl hg
        obtain ⟨q0, q1, q2, A', c', q3, hVq⟩ := hat.open
        have e1 : o + 4 * k = o + k * 4 := by omega
        rw [e1] at q0 q1 q2 q3
        have hgr : g < wr.heap.size := by have := hbt.size; omega
        have HTK := Lib.hid (Tm.sizeL_take hq')
        have hqs : q.size ≤ N := by
          have h1 := Tm.sizeL_mem (List.mem_of_getElem? hq')
          have := HNN.out
          have := HSZ.out
          omega
        have hx2 : x ≤ 1000000000000000000 := by have := HQ.out.1; omega
        have hcall := HIH.out q (x - 1) A' c' wr hqs hVq (by omega) (by omega)
        have hqz : q.size = 1 + Tm.sizeL q.kids := by cases q; rw [Tm.size]; rfl
        have HQZ := Lib.hid hqz
        obtain ⟨nq, hnq⟩ : ∃ nq, nq = q.kids.length := ⟨_, rfl⟩
        have hcall' : Calls Tryd.prog 81 #[.agg #[.int .i64 q.op, .int .i64 q.num, .string q.name, .slice A' nq c'], .int .i64 (x - 1)] wr fun e w' => (∃ r : Int, e = .returned (.int .i64 r) ∧ LeftQ (x - 1) (Tm.sizeL q.kids : Nat) r) ∧ Below wr.heap.size wr w' := by rw [hnq]; exact hcall
        rw [← hnq] at q3
        have HC := Lib.hid hcall'
        have hk0 : (0 : Int) ≤ (k : Int) := by omega
        have hk1 : (k : Int) < (n : Int) := by omega
        clear hcall hcall' hnq hqz hqs hVq hat hrow hq' e1 hbel hq hbt
        go_wp2_with fail
        refine (HC.out).mono ?_
        rintro e w2 ⟨⟨r, rfl, hr⟩, hb2⟩
        have HR : Hid (LeftQ m (Tm.sizeL (t.kids.take (k + 1)) : Nat) r) := by
          obtain ⟨a1, a2, a3⟩ := HQ.out
          obtain ⟨b1, b2, b3⟩ := hr
          have := HTK.out
          have := HQZ.out
          refine ⟨by omega, .inr (by omega), fun h => ?_⟩
          have := a3 hx0
          have := b3 h
          omega
        have HB3 := Lib.hid (HB.out.trans (hb2.mono hszr))
        clear hb2 hr q0 q1 q2 q3 kc3
        go_wp2_with fail
        go_roundw
        case rel => exact ⟨k + 1, r, by omega, rfl, by go_num, HR.out, HB3.out⟩
        case measure => simp [intOf]; omega
      · have HE : Hid (LeftQ m (Tm.sizeL t.kids : Nat) x) := by
          obtain ⟨a1, a2, a3⟩ := HQ.out
          refine ⟨a1, a2, fun h => ?_⟩
          have hkn : k = n := by
            by_cases h2 : k < n
            · exact absurd ⟨h2, h⟩ hgo
            · omega
          have := a3 h
          rw [hkn, List.take_of_length_le (by rw [← HN.out]; exact Nat.le_refl _)] at this
          exact this
        have HBE := Lib.hid hbt
        by_cases hlt : k < n
        · have hk1 : (k : Int) < (n : Int) := by omega
          have hx0 : ¬ (0 : Int) ≤ x := fun h => hgo ⟨hlt, h⟩
          clear hgo hlt hq hbel hbt
          go_wp2_with fail
          rw [HF.out]
          exact ⟨⟨x, rfl, HE.out⟩, HBE.out⟩
        · have hk1 : ¬ (k : Int) < (n : Int) := by omega
          clear hgo hlt hq hbel hbt
          go_wp2_with fail
          rw [HF.out]
          exact ⟨⟨x, rfl, HE.out⟩, HBE.out⟩

mutual
/-- What form takes off. -/
def Fm.cost : Fm → Nat
  | .mk _ e l => e.size + Fm.costL l
def Fm.costL : List Fm → Nat
  | [] => 0
  | t :: r => t.cost + Fm.costL r
end
theorem Fm.cost_eq (t : Fm) : t.cost = 1 + Tm.sizeL t.tm.kids + Fm.costL t.kids := by
  cases t with
  | mk op e l =>
    rw [Fm.cost]
    cases e
    rw [Tm.size]
    rfl
theorem Fm.costL_take {l : List Fm} {k : Nat} {t : Fm} (h : l[k]? = some t) : Fm.costL (l.take (k + 1)) = Fm.costL (l.take k) + t.cost := by
  obtain ⟨hj, hj2⟩ := List.getElem?_eq_some_iff.1 h
  rw [List.take_succ_eq_append_getElem hj, hj2]
  generalize l.take k = a
  induction a with
  | nil => simp [Fm.costL]
  | cons x r ih => rw [List.cons_append, Fm.costL, Fm.costL, ih]; omega
def FLeftQ (m k r : Int) : Prop := r ≤ m ∧ (m - 1 ≤ r ∨ -1 ≤ r) ∧ (0 ≤ r → k + r ≤ m)
set_option maxRecDepth 100000 in
set_option maxHeartbeats 4000000 in
theorem rform_any : ∀ (N : Nat) (t : Fm) (m : Int) (Ae : Option Addr) (ce : Nat) (A : Option Addr) (c : Nat) (w : World), t.size ≤ N → FmV w Ae ce A c t → -900000000000000000 ≤ m → m ≤ 900000000000000000 →
    Calls Tryd.prog 54 #[t.val Ae ce A c, .int .i64 m] w fun e w' => (∃ r : Int, e = .returned (.int .i64 r) ∧ FLeftQ m (t.cost : Nat) r) ∧ Below w.heap.size w w' := by
  intro N
  induction N with
  | zero =>
    intro t m Ae ce A c w hN
    cases t; rw [Fm.size] at hN; omega
  | succ N ih =>
    intro t m Ae ce A c w hN hV hm1 hm2
    obtain ⟨n, hn⟩ : ∃ n, n = t.kids.length := ⟨_, rfl⟩
    obtain ⟨ne, hne⟩ : ∃ ne, ne = t.tm.kids.length := ⟨_, rfl⟩
    obtain ⟨F, hF⟩ : ∃ F : Ending → World → Prop, F = fun e w' => (∃ r : Int, e = .returned (.int .i64 r) ∧ FLeftQ m (t.cost : Nat) r) ∧ Below w.heap.size w w' := ⟨_, rfl⟩
    rw [← hF]
    have hsz : t.size = 1 + Fm.sizeL t.kids := by cases t; rw [Fm.size]; rfl
    have hcap := hV.cap
    have hcapm := hV.capm
    unfold maxLen at hcapm
    rw [← hn] at hcap
    have hk := hV.kids
    obtain ⟨w1, hw1⟩ : ∃ w1, w1 = w.alloc (.cells #[.int .i64 t.op, .int .i64 t.tm.op, .int .i64 t.tm.num, .string t.tm.name, .slice Ae ne ce, .slice A n c] 29) := ⟨_, rfl⟩
    have hb1 : Below w.heap.size w w1 := by rw [hw1]; exact (Below.refl _ _).alloc (Nat.le_refl _) _
    have hs1 : w1.heap.size = w.heap.size + 1 := by rw [hw1]; simp
    have hbx : w1.heap[w.heap.size]? = some (.cells #[.int .i64 t.op, .int .i64 t.tm.op, .int .i64 t.tm.num, .string t.tm.name, .slice Ae ne ce, .slice A n c] 29 (0, 0)) := by rw [hw1]; exact heap_alloc_new w _
    have hterm0 := rterm_any t.tm.size t.tm (m - 1) Ae ce w1 (Nat.le_refl _) (hV.tm.below hb1 rfl) (by omega) (by omega)
    have hterm : Calls Tryd.prog 81 #[.agg #[.int .i64 t.tm.op, .int .i64 t.tm.num, .string t.tm.name, .slice Ae ne ce], .int .i64 (m - 1)] w1 fun e w' => (∃ r : Int, e = .returned (.int .i64 r) ∧ LeftQ (m - 1) (Tm.sizeL t.tm.kids : Nat) r) ∧ Below w1.heap.size w1 w' := by rw [hne]; exact hterm0
    show Calls Tryd.prog 54 #[.agg #[.int .i64 t.op, .int .i64 t.tm.op, .int .i64 t.tm.num, .string t.tm.name, .slice Ae t.tm.kids.length ce, .slice A t.kids.length c], .int .i64 m] w F
    rw [← hn, ← hne]
    have HF := Lib.hid hF
    have HIH := Lib.hid ih
    have HN := Lib.hid hn
    have HSZ := Lib.hid hsz
    have HK := Lib.hid hk
    have HB1 := Lib.hid hb1
    have HS1 := Lib.hid hs1
    have HBX := Lib.hid hbx
    have HW1 := Lib.hid hw1
    have HNN := Lib.hid hN
    have HTERM := Lib.hid hterm
    have HCO := Lib.hid (Fm.cost_eq t)
    clear hF ih hn hne hsz hk hb1 hs1 hbx hw1 hV hN hterm hterm0
    go_enter Tryd.func54, Tryd.ntmps54
    go_wp2_with fail
    rw [← HW1.out]
    refine (HTERM.out).mono ?_
    rintro e w2 ⟨⟨r0, rfl, hr0⟩, hb2⟩
    have HR0 := Lib.hid hr0
    have HB2 := Lib.hid hb2
    clear hr0 hb2
    go_wp2_with fail
    go_loopw [1, 5] (fun sm si wr => ∃ (k : Nat) (x : Int), k ≤ n ∧ sm = .int .i64 x ∧ si = .int .i64 k ∧ FLeftQ m (1 + (Tm.sizeL t.tm.kids : Nat) + (Fm.costL (t.kids.take k) : Nat)) x ∧ Below w1.heap.size w1 wr) (fun _ i _ => n - (intOf i).toNat)
    case atStart =>
      obtain ⟨a1, a2, a3⟩ := HR0.out
      exact ⟨0, r0, Nat.zero_le _, rfl, rfl, ⟨by omega, by omega, fun h => by have := a3 h; simp [Fm.costL]; omega⟩, HB2.out⟩
    case round =>
      obtain ⟨k, x, hk, rfl, rfl, hq, hbel⟩ := hrel
      have HQ := Lib.hid hq
      have HB := Lib.hid hbel
      have hszr := hbel.size
      have hbw : w.heap.size < wr.heap.size := by have := HS1.out; omega
      have kc5 : wr.cell? ⟨w.heap.size, 5, none⟩ = some (.slice A n c) := by rw [cell_of_row wr w.heap.size 5 _ _ (0, 0) ((hbel.block _ (by have := HS1.out; omega)).trans HBX.out)]; rfl
      have hbt : Below w.heap.size w wr := HB1.out.trans (hbel.mono (by have := HS1.out; omega))
      by_cases hgo : k < n ∧ 0 ≤ x
      · obtain ⟨hlt, hx0⟩ := hgo
        obtain ⟨q, hq'⟩ : ∃ q, t.kids[k]? = some q := ⟨_, List.getElem?_eq_getElem (by have := HN.out; omega)⟩
        rcases HK.out with h9 | ⟨g, o, rfl, hg, hrow⟩
        · rw [h9] at hq'; simp at hq'
        have hat := (hrow.get hq').below hbt rfl hg
        obtain ⟨q0, q1, q2, q3, Ae', ce', A', c', q4, q5, hVq⟩ := hat.open
        have e1 : o + 6 * k = o + k * 6 := by omega
        rw [e1] at q0 q1 q2 q3 q4 q5
        have hgr : g < wr.heap.size := by have := hbt.size; omega
        have HTK := Lib.hid (Fm.costL_take hq')
        have hqs : q.size ≤ N := by
          have h1 := Fm.sizeL_mem (List.mem_of_getElem? hq')
          have := HNN.out
          have := HSZ.out
          omega
        have hx2 : x ≤ 900000000000000000 := by have := HQ.out.1; omega
        have hcall := HIH.out q x Ae' ce' A' c' wr hqs hVq (by omega) (by omega)
        obtain ⟨nq, hnq⟩ : ∃ nq, nq = q.kids.length := ⟨_, rfl⟩
        obtain ⟨nqe, hnqe⟩ : ∃ nqe, nqe = q.tm.kids.length := ⟨_, rfl⟩
        have hcall' : Calls Tryd.prog 54 #[.agg #[.int .i64 q.op, .int .i64 q.tm.op, .int .i64 q.tm.num, .string q.tm.name, .slice Ae' nqe ce', .slice A' nq c'], .int .i64 x] wr fun e w' => (∃ r : Int, e = .returned (.int .i64 r) ∧ FLeftQ x (q.cost : Nat) r) ∧ Below wr.heap.size wr w' := by rw [hnq, hnqe]; exact hcall
        rw [← hnq] at q5
        rw [← hnqe] at q4
        have HC := Lib.hid hcall'
        have hk0 : (0 : Int) ≤ (k : Int) := by omega
        have hk1 : (k : Int) < (n : Int) := by omega
        clear hcall hcall' hnq hnqe hqs hVq hat hrow hq' e1 hbel hq hbt
        go_wp2_with fail
        refine (HC.out).mono ?_
        rintro e w3 ⟨⟨r, rfl, hr⟩, hb3⟩
        have HR : Hid (FLeftQ m (1 + (Tm.sizeL t.tm.kids : Nat) + (Fm.costL (t.kids.take (k + 1)) : Nat)) r) := by
          obtain ⟨a1, a2, a3⟩ := HQ.out
          obtain ⟨b1, b2, b3⟩ := hr
          have := HTK.out
          refine ⟨by omega, .inr (by omega), fun h => ?_⟩
          have := a3 hx0
          have := b3 h
          omega
        have HB3 := Lib.hid (HB.out.trans (hb3.mono hszr))
        clear hb3 hr q0 q1 q2 q3 q4 q5 kc5
        go_wp2_with fail
        go_roundw
        case rel => exact ⟨k + 1, r, by omega, rfl, by go_num, HR.out, HB3.out⟩
        case measure => simp [intOf]; omega
      · have HE : Hid (FLeftQ m (t.cost : Nat) x) := by
          obtain ⟨a1, a2, a3⟩ := HQ.out
          refine ⟨a1, a2, fun h => ?_⟩
          have hkn : k = n := by
            by_cases h2 : k < n
            · exact absurd ⟨h2, h⟩ hgo
            · omega
          have := a3 h
          rw [hkn, List.take_of_length_le (by rw [← HN.out]; exact Nat.le_refl _)] at this
          rw [HCO.out]
          omega
        have HBE := Lib.hid hbt
        by_cases hlt : k < n
        · have hk1 : (k : Int) < (n : Int) := by omega
          have hx0 : ¬ (0 : Int) ≤ x := fun h => hgo ⟨hlt, h⟩
          clear hgo hlt hq hbel hbt
          go_wp2_with fail
          rw [HF.out]
          exact ⟨⟨x, rfl, HE.out⟩, HBE.out⟩
        · have hk1 : ¬ (k : Int) < (n : Int) := by omega
          clear hgo hlt hq hbel hbt
          go_wp2_with fail
          rw [HF.out]
          exact ⟨⟨x, rfl, HE.out⟩, HBE.out⟩

mutual
/-- What left takes off. -/
def Tr.cost : Tr → Nat
  | .mk _ _ f p _ _ l => 1 + p.length + f.cost + Tr.costL l
def Tr.costL : List Tr → Nat
  | [] => 0
  | t :: r => t.cost + Tr.costL r
end
mutual
def Tr.PathsOk : Tr → Prop
  | .mk _ _ _ p _ _ l => p.length ≤ 140737488355328 ∧ Tr.PathsOkL l
def Tr.PathsOkL : List Tr → Prop
  | [] => True
  | t :: r => t.PathsOk ∧ Tr.PathsOkL r
end
theorem Tr.PathsOkL_mem : ∀ {l : List Tr} {t : Tr}, Tr.PathsOkL l → t ∈ l → t.PathsOk
  | x :: r, t, h, hm => by
    rw [Tr.PathsOkL] at h
    rcases List.mem_cons.1 hm with rfl | hm
    · exact h.1
    · exact Tr.PathsOkL_mem h.2 hm
theorem Tr.PathsOk_open {t : Tr} (h : t.PathsOk) : t.path.length ≤ 140737488355328 ∧ ∀ q ∈ t.kids, q.PathsOk := by
  cases t with
  | mk k st f p lo at_ l =>
    rw [Tr.PathsOk] at h
    exact ⟨h.1, fun q hq => Tr.PathsOkL_mem h.2 hq⟩
theorem Tr.cost_eq (t : Tr) : t.cost = 1 + t.path.length + t.fm.cost + Tr.costL t.kids := by
  cases t; rw [Tr.cost]; rfl
theorem Tr.costL_take {l : List Tr} {k : Nat} {t : Tr} (h : l[k]? = some t) : Tr.costL (l.take (k + 1)) = Tr.costL (l.take k) + t.cost := by
  obtain ⟨hj, hj2⟩ := List.getElem?_eq_some_iff.1 h
  rw [List.take_succ_eq_append_getElem hj, hj2]
  generalize l.take k = a
  induction a with
  | nil => simp [Tr.costL]
  | cons x r ih => rw [List.cons_append, Tr.costL, Tr.costL, ih]; omega
set_option maxRecDepth 100000 in
set_option maxHeartbeats 8000000 in
theorem rleft_any : ∀ (N : Nat) (t : Tr) (m : Int) (p : TrP) (w : World), t.size ≤ N → TrV w p t → t.PathsOk → 0 ≤ m → m ≤ 1000000 →
    Calls Tryd.prog 29 #[t.val p, .int .i64 m] w fun e w' => (∃ r : Int, e = .returned (.int .i64 r) ∧ r ≤ m ∧ (0 ≤ r → (t.cost : Nat) + r ≤ m)) ∧ Below w.heap.size w w' := by
  intro N
  induction N with
  | zero =>
    intro t m p w hN
    cases t; rw [Tr.size] at hN; omega
  | succ N ih =>
    intro t m p w hN hV hpo hm1 hm2
    obtain ⟨n, hn⟩ : ∃ n, n = t.kids.length := ⟨_, rfl⟩
    obtain ⟨ne, hne⟩ : ∃ ne, ne = t.fm.tm.kids.length := ⟨_, rfl⟩
    obtain ⟨nf, hnf⟩ : ∃ nf, nf = t.fm.kids.length := ⟨_, rfl⟩
    obtain ⟨ns, hns⟩ : ∃ ns, ns = t.state.length := ⟨_, rfl⟩
    obtain ⟨np, hnp⟩ : ∃ np, np = t.path.length := ⟨_, rfl⟩
    obtain ⟨aK, haK⟩ : ∃ aK, aK = p.aK := ⟨_, rfl⟩
    obtain ⟨aP, haP⟩ : ∃ aP, aP = p.aP := ⟨_, rfl⟩
    obtain ⟨F, hF⟩ : ∃ F : Ending → World → Prop, F = fun e w' => (∃ r : Int, e = .returned (.int .i64 r) ∧ r ≤ m ∧ (0 ≤ r → (t.cost : Nat) + r ≤ m)) ∧ Below w.heap.size w w' := ⟨_, rfl⟩
    rw [← hF]
    have hsz : 1 + Tr.sizeL t.kids ≤ t.size := by cases t; rw [Tr.size]; show 1 + Tr.sizeL _ ≤ _; simp only [Tr.kids]; omega
    have hcap := hV.own.cap
    have hcapm := hV.own.capm
    have hpc := hV.own.path.cap
    have hpcm := hV.own.path.capm
    have hsc := hV.own.st.cap
    have hscm := hV.own.st.capm
    unfold maxLen at hcapm hpcm hscm
    rw [← hn] at hcap
    rw [← hnp] at hpc
    rw [← hns] at hsc
    have hnp47 : np ≤ 140737488355328 := by rw [hnp]; exact (Tr.PathsOk_open hpo).1
    have hk := hV.kids
    have hpr := hV.own.path.row
    rw [← haK] at hk
    rw [← haP] at hpr
    obtain ⟨w1, hw1⟩ : ∃ w1, w1 = w.alloc (.cells #[.int .i64 t.kind, .slice p.aS ns p.cS, .int .i64 t.fm.op, .int .i64 t.fm.tm.op, .int .i64 t.fm.tm.num, .string t.fm.tm.name, .slice p.aE ne p.cE, .slice p.aF nf p.cF, .slice aP np p.cP, .int .i64 t.loop, .int .i64 t.at_, .slice aK n p.cK] 33) := ⟨_, rfl⟩
    have hb1 : Below w.heap.size w w1 := by rw [hw1]; exact (Below.refl _ _).alloc (Nat.le_refl _) _
    have hs1 : w1.heap.size = w.heap.size + 1 := by rw [hw1]; simp
    have hbx : w1.heap[w.heap.size]? = some (.cells #[.int .i64 t.kind, .slice p.aS ns p.cS, .int .i64 t.fm.op, .int .i64 t.fm.tm.op, .int .i64 t.fm.tm.num, .string t.fm.tm.name, .slice p.aE ne p.cE, .slice p.aF nf p.cF, .slice aP np p.cP, .int .i64 t.loop, .int .i64 t.at_, .slice aK n p.cK] 33 (0, 0)) := by rw [hw1]; exact heap_alloc_new w _
    have hform0 := rform_any t.fm.size t.fm (m - 1 - np) p.aE p.cE p.aF p.cF w1 (Nat.le_refl _) (hV.own.fm.below hb1 rfl) (by omega) (by omega)
    have hform : Calls Tryd.prog 54 #[.agg #[.int .i64 t.fm.op, .int .i64 t.fm.tm.op, .int .i64 t.fm.tm.num, .string t.fm.tm.name, .slice p.aE ne p.cE, .slice p.aF nf p.cF], .int .i64 (m - 1 - np)] w1 fun e w' => (∃ r : Int, e = .returned (.int .i64 r) ∧ FLeftQ (m - 1 - np) (t.fm.cost : Nat) r) ∧ Below w1.heap.size w1 w' := by rw [hne, hnf]; exact hform0
    show Calls Tryd.prog 29 #[.agg #[.int .i64 t.kind, .slice p.aS t.state.length p.cS, .int .i64 t.fm.op, .int .i64 t.fm.tm.op, .int .i64 t.fm.tm.num, .string t.fm.tm.name, .slice p.aE t.fm.tm.kids.length p.cE, .slice p.aF t.fm.kids.length p.cF, .slice p.aP t.path.length p.cP, .int .i64 t.loop, .int .i64 t.at_, .slice p.aK t.kids.length p.cK], .int .i64 m] w F
    rw [← hn, ← hne, ← hnf, ← hns, ← hnp, ← haK, ← haP]
    have HF := Lib.hid hF
    have HIH := Lib.hid ih
    have HN := Lib.hid hn
    have HNP := Lib.hid hnp
    have HSZ := Lib.hid hsz
    have HK := Lib.hid hk
    have HPR := Lib.hid hpr
    have HPO := Lib.hid hpo
    have HB1 := Lib.hid hb1
    have HS1 := Lib.hid hs1
    have HBX := Lib.hid hbx
    have HW1 := Lib.hid hw1
    have HNN := Lib.hid hN
    have HFORM := Lib.hid hform
    have HCO := Lib.hid (Tr.cost_eq t)
    rw [haP] at HBX HW1
    rw [← haP] at HBX HW1
    clear hF ih hn hne hnf hns hnp hsz hk hpr hb1 hs1 hbx hw1 hV hN hform hform0 hpo haK haP
    go_enter Tryd.func29, Tryd.ntmps29
    go_wp2_with fail
    rw [← HW1.out]
    refine (HFORM.out).mono ?_
    rintro e w2 ⟨⟨r0, rfl, hr0⟩, hb2⟩
    have HR0 := Lib.hid hr0
    have HB2 := Lib.hid hb2
    have hz2 := hb2.size
    have hbw2 : w.heap.size < w2.heap.size := by have := HS1.out; omega
    have hbx2 := (hb2.block w.heap.size (by have := HS1.out; omega)).trans HBX.out
    have kc8 : w2.cell? ⟨w.heap.size, 8, none⟩ = some (.slice aP np p.cP) := by rw [cell_of_row w2 w.heap.size 8 _ _ (0, 0) hbx2]; rfl
    have kc1 : w2.cell? ⟨w.heap.size, 1, none⟩ = some (.slice p.aS ns p.cS) := by rw [cell_of_row w2 w.heap.size 1 _ _ (0, 0) hbx2]; rfl
    have hbt2 : Below w.heap.size w w2 := HB1.out.trans (hb2.mono (by have := HS1.out; omega))
    have HBT2 := Lib.hid hbt2
    clear hr0 hb2 hbx2 hbt2
    go_wp2_with fail
    go_loop [5] (fun si => ∃ k : Nat, k ≤ np ∧ si = .int .i64 k) (fun i => np - (intOf i).toNat)
    case atStart => exact ⟨0, Nat.zero_le _, rfl⟩
    case round =>
      obtain ⟨k, hk, rfl⟩ := hrel
      by_cases hlt : k < np
      · obtain ⟨s, hs⟩ : ∃ s, t.path[k]? = some s := ⟨_, List.getElem?_eq_getElem (by have := HNP.out; omega)⟩
        rcases HPR.out with h9 | ⟨g, o, rfl, hg, hrow⟩
        · rw [h9] at hs; simp at hs
        obtain ⟨As, cs, q0, hsv⟩ := hrow k s hs
        rw [← HBT2.out.cell (p := ⟨g, _, none⟩) hg] at q0
        obtain ⟨ls, hls⟩ : ∃ ls, ls = s.length := ⟨_, rfl⟩
        rw [← hls] at q0
        have hgr : g < w2.heap.size := by omega
        have hk0 : (0 : Int) ≤ (k : Int) := by omega
        have hk1 : (k : Int) < (np : Int) := by omega
        clear hs hrow hsv hls
        by_cases h20 : 20 < ls
        · have h20' : (20 : Int) < (ls : Int) := by omega
          clear h20
          go_wp2_with fail
          rw [HF.out]
          exact ⟨⟨-1, rfl, by omega, fun h => by omega⟩, HBT2.out⟩
        · have h20' : ¬ (20 : Int) < (ls : Int) := by omega
          clear h20
          go_wp2_with fail
          go_round
          case rel => exact ⟨k + 1, by omega, by go_num⟩
          case measure => simp [intOf]; omega
      · have hk1 : ¬ (k : Int) < (np : Int) := by omega
        clear hlt
        by_cases h20 : 20 < ns
        · have h20' : (20 : Int) < (ns : Int) := by omega
          clear h20
          go_wp2_with fail
          rw [HF.out]
          exact ⟨⟨-1, rfl, by omega, fun h => by omega⟩, HBT2.out⟩
        · have h20' : ¬ (20 : Int) < (ns : Int) := by omega
          clear h20
          go_wp2_with fail
          clear kc1 kc8
          go_loopw [1, 6] (fun sm si wr => ∃ (k : Nat) (x : Int), k ≤ n ∧ sm = .int .i64 x ∧ si = .int .i64 k ∧ x ≤ m ∧ (0 ≤ x → 1 + (np : Int) + (t.fm.cost : Nat) + (Tr.costL (t.kids.take k) : Nat) + x ≤ m) ∧ Below w1.heap.size w1 wr) (fun _ i _ => n - (intOf i).toNat)
          case atStart =>
            obtain ⟨a1, a2, a3⟩ := HR0.out
            exact ⟨0, r0, Nat.zero_le _, rfl, rfl, by omega, fun h => by have := a3 h; simp [Tr.costL]; omega, HB2.out⟩
          case round =>
            obtain ⟨k2, x, hk2, rfl, rfl, hxm, hq, hbel⟩ := hrel
            have HQ := Lib.hid hq
            have HB := Lib.hid hbel
            have hszr := hbel.size
            have hbw : w.heap.size < wr.heap.size := by have := HS1.out; omega
            have kc11 : wr.cell? ⟨w.heap.size, 11, none⟩ = some (.slice aK n p.cK) := by rw [cell_of_row wr w.heap.size 11 _ _ (0, 0) ((hbel.block _ (by have := HS1.out; omega)).trans HBX.out)]; rfl
            have hbt : Below w.heap.size w wr := HB1.out.trans (hbel.mono (by have := HS1.out; omega))
            have HBE := Lib.hid hbt
            by_cases hgo : k2 < n ∧ 0 ≤ x
            · obtain ⟨hlt, hx0⟩ := hgo
              obtain ⟨q, hq'⟩ : ∃ q, t.kids[k2]? = some q := ⟨_, List.getElem?_eq_getElem (by have := HN.out; omega)⟩
              rcases HK.out with h9 | ⟨g, o, rfl, hg, hrow⟩
              · rw [h9] at hq'; simp at hq'
              have hat := (hrow.get hq').below hbt rfl hg
              obtain ⟨p', hcl, hVq⟩ := hat.open
              rw [show o + 12 * k2 = o + k2 * 12 from by omega] at hcl
              have q0 := hcl 0 _ rfl
              have q1 := hcl 1 _ rfl
              have q2 := hcl 2 _ rfl
              have q3 := hcl 3 _ rfl
              have q4 := hcl 4 _ rfl
              have q5 := hcl 5 _ rfl
              have q6 := hcl 6 _ rfl
              have q7 := hcl 7 _ rfl
              have q8 := hcl 8 _ rfl
              have q9 := hcl 9 _ rfl
              have q10 := hcl 10 _ rfl
              have q11 := hcl 11 _ rfl
              rw [Nat.add_zero] at q0
              have hgr : g < wr.heap.size := by have := hbt.size; omega
              have HTK := Lib.hid (Tr.costL_take hq')
              have hqs : q.size ≤ N := by
                have h1 := Tr.sizeL_mem (List.mem_of_getElem? hq')
                have := HNN.out
                have := HSZ.out
                omega
              have hcall := HIH.out q x p' wr hqs hVq ((Tr.PathsOk_open HPO.out).2 q (List.mem_of_getElem? hq')) hx0 (by omega)
              unfold Tr.val at hcall
              have HC := Lib.hid hcall
              have hk0 : (0 : Int) ≤ (k2 : Int) := by omega
              have hk1' : (k2 : Int) < (n : Int) := by omega
              clear hcall hqs hVq hat hrow hq' hbel hq hbt hcl
              go_wp2_with fail
              refine (HC.out).mono ?_
              rintro e w3 ⟨⟨r, rfl, hrm, hr⟩, hb3⟩
              have HR : Hid (0 ≤ r → 1 + (np : Int) + (t.fm.cost : Nat) + (Tr.costL (t.kids.take (k2 + 1)) : Nat) + r ≤ m) := fun h => by
                have := HTK.out
                have := HQ.out hx0
                have := hr h
                omega
              have HB3 := Lib.hid (HB.out.trans (hb3.mono hszr))
              have hrm2 : r ≤ m := by omega
              clear hb3 hr q0 q1 q2 q3 q4 q5 q6 q7 q8 q9 q10 q11 kc11
              go_wp2_with fail
              go_roundw
              case rel => exact ⟨k2 + 1, r, by omega, rfl, by go_num, hrm2, HR.out, HB3.out⟩
              case measure => simp [intOf]; omega
            · have HE : Hid (0 ≤ x → (t.cost : Nat) + x ≤ m) := fun h => by
                have hkn : k2 = n := by
                  by_cases h2 : k2 < n
                  · exact absurd ⟨h2, h⟩ hgo
                  · omega
                have := HQ.out h
                rw [hkn, List.take_of_length_le (by rw [← HN.out]; exact Nat.le_refl _)] at this
                rw [HCO.out, ← HNP.out]
                omega
              by_cases hlt : k2 < n
              · have hk1' : (k2 : Int) < (n : Int) := by omega
                have hx0 : ¬ (0 : Int) ≤ x := fun h => hgo ⟨hlt, h⟩
                clear hgo hlt hq hbel hbt
                go_wp2_with fail
                rw [HF.out]
                exact ⟨⟨x, rfl, hxm, HE.out⟩, HBE.out⟩
              · have hk1' : ¬ (k2 : Int) < (n : Int) := by omega
                clear hgo hlt hq hbel hbt
                go_wp2_with fail
                rw [HF.out]
                exact ⟨⟨x, rfl, hxm, HE.out⟩, HBE.out⟩
/-- What Many says, if it says yes. -/
def ManyQ (t : Tr) (m : Int) (w : World) (e : Ending) (w' : World) : Prop := ∃ b, e = .returned (.bool b) ∧ (b = true → (t.cost : Int) ≤ m) ∧ Below w.heap.size w w'
set_option maxRecDepth 100000 in
set_option maxHeartbeats 4000000 in
theorem many_any (t : Tr) (m : Int) (p : TrP) (w : World) (hV : TrV w p t) (hpo : t.PathsOk) (hm0 : 0 ≤ m) (hm2 : m ≤ 1000000) :
    Calls Tryd.prog 10 #[t.val p, .int .i64 m] w (ManyQ t m w) := by
  obtain ⟨F, hF⟩ : ∃ F, F = ManyQ t m w := ⟨_, rfl⟩
  rw [← hF]
  unfold Tr.val
  obtain ⟨w1, hw1⟩ : ∃ w1, w1 = w.alloc (.cells (t.cells p).toArray 33) := ⟨_, rfl⟩
  have hb1 : Below w.heap.size w w1 := by rw [hw1]; exact (Below.refl _ _).alloc (Nat.le_refl _) _
  have hl := rleft_any t.size t m p w1 (Nat.le_refl _) (hV.below hb1 rfl) hpo hm0 hm2
  unfold Tr.val at hl
  unfold Tr.cells at hw1
  have HF := Lib.hid hF
  have HL := Lib.hid hl
  have HB1 := Lib.hid hb1
  have HW1 := Lib.hid hw1
  clear hF hl hb1 hw1 hV hpo
  go_enter Tryd.func10, Tryd.ntmps10
  go_wp2_with fail
  rw [← HW1.out]
  refine (HL.out).mono ?_
  rintro e w2 ⟨⟨r, rfl, hrm, hr⟩, hb2⟩
  have HB2 := Lib.hid (HB1.out.trans (hb2.mono HB1.out.size))
  have HR := Lib.hid hr
  clear hr hb2
  go_wp2_with fail
  rw [HF.out]
  exact ⟨decide (0 ≤ r), rfl, fun h => by have h0 : 0 ≤ r := of_decide_eq_true h; have := HR.out h0; omega, HB2.out⟩
end Go.Proofs.YtcjblbpkjegmiaaDoor
namespace Go.Proofs.YtcjblbpkjegmiaaDoor
open Go.RowKit
set_option linter.unusedVariables false

/-- Two blanks ahead of each line. -/
def deepB : Bool → Bs → Bs
  | _, [] => []
  | b, c :: r => (if b then [32, 32] else []) ++ c :: deepB (c == 10) r
theorem bs_app' (a b : ByteArray) : bs (a ++ b) = bs a ++ bs b := by unfold bs; simp
theorem byte_at {s : ByteArray} {k : Nat} (h : k < s.size) : (bs s)[k]? = some s[k] ∧ bs (s.extract k (k + 1)) = [s[k]] ∧ (bs s).drop k = s[k] :: (bs s).drop (k + 1) := by
  have hl : k < (bs s).length := by unfold bs; simpa using h
  have e : (bs s)[k] = s[k] := by unfold bs; rfl
  have hd : (bs s).drop k = s[k] :: (bs s).drop (k + 1) := (List.drop_eq_getElem_cons hl).trans (congrArg (· :: (bs s).drop (k + 1)) e)
  refine ⟨(List.getElem?_eq_getElem hl).trans (congrArg some e), ?_, hd⟩
  rw [bs_extract, List.drop_take, hd, show k + 1 - k = 1 from by omega]
  rfl
theorem byte_nl (c : UInt8) : ((c.toNat : Int) == 10) = (c == 10) := by
  rw [Bool.eq_iff_iff]
  simp only [beq_iff_eq]
  constructor
  · intro h
    apply UInt8.toNat_inj.1
    show c.toNat = 10
    omega
  · intro h
    rw [h]
    rfl
set_option maxRecDepth 100000 in
set_option maxHeartbeats 4000000 in
theorem deeper_any (s : ByteArray) (w : World) (hs : s.size ≤ 100000) :
    Calls Tryd.prog 20 #[.string s] w fun e w' => e = .returned (.string ⟨(deepB true (bs s)).toArray⟩) ∧ w' = w := by
  obtain ⟨F, hF⟩ : ∃ F : Ending → World → Prop, F = fun e w' => e = .returned (.string ⟨(deepB true (bs s)).toArray⟩) ∧ w' = w := ⟨_, rfl⟩
  rw [← hF]
  obtain ⟨n, hn⟩ : ∃ n, n = s.size := ⟨_, rfl⟩
  have HF := Lib.hid hF
  clear hF
  have HN := Lib.hid hn
  have hn1 : n ≤ 100000 := by omega
  go_enter Tryd.func20, Tryd.ntmps20
  go_wp2_with fail
  go_loop [3, 4, 5] (fun so sb si => ∃ (k : Nat) (S : ByteArray) (b : Bool), k ≤ n ∧ so = .string S ∧ sb = .bool b ∧ si = .int .i64 k ∧ S.size ≤ 3 * k ∧ bs S ++ deepB b ((bs s).drop k) = deepB true (bs s)) (fun _ _ i => n - (intOf i).toNat)
  case atStart => exact ⟨0, ⟨#[]⟩, true, Nat.zero_le _, rfl, rfl, rfl, by decide, by simp [bs]⟩
  case round =>
    obtain ⟨k, S, b, hk, rfl, rfl, rfl, hsz, heq⟩ := hrel
    have HEQ := Lib.hid heq
    clear heq
    by_cases hlt : k < n
    · have hk1 : (k : Int) < (s.size : Int) := by omega
      have hks : k < s.size := by omega
      obtain ⟨h1, h2, h3⟩ := byte_at hks
      have H2 := Lib.hid h2
      have H3 := Lib.hid h3
      clear h1 h2 h3
      have hxs : (s.extract k (k + 1)).size = 1 := by
        have : (bs (s.extract k (k + 1))).length = 1 := by rw [H2.out]; rfl
        rw [bs_length] at this
        exact this
      have HXS := Lib.hid hxs
      clear hxs
      cases b with
      | true =>
        go_wp2_with fail
        go_round
        case rel =>
          refine ⟨k + 1, S ++ ⟨#[32, 32]⟩ ++ s.extract k (k + 1), s[k] == 10, by omega, rfl, by rw [byte_nl], by go_num, ?_, ?_⟩
          · rw [ByteArray.size_append, ByteArray.size_append, HXS.out]
            show S.size + 2 + 1 ≤ _
            omega
          · rw [← HEQ.out, H3.out, bs_app', bs_app', H2.out, deepB]
            simp [bs]
        case measure => simp [intOf]; omega
      | false =>
        go_wp2_with fail
        go_round
        case rel =>
          refine ⟨k + 1, S ++ s.extract k (k + 1), s[k] == 10, by omega, rfl, by rw [byte_nl], by go_num, ?_, ?_⟩
          · rw [ByteArray.size_append, HXS.out]
            omega
          · rw [← HEQ.out, H3.out, bs_app', H2.out, deepB]
            simp
        case measure => simp [intOf]; omega
    · have hk1 : ¬ (k : Int) < (s.size : Int) := by omega
      have HE : Hid (S = ⟨(deepB true (bs s)).toArray⟩) := by
        show _ = _
        rw [← HEQ.out, List.drop_eq_nil_of_le (by rw [bs_length]; omega), deepB, List.append_nil]
        rfl
      go_wp2_with fail
      rw [HF.out]
      exact ⟨by rw [← HE.out], rfl⟩
/-- How many line ends. -/
def nlB (l : Bs) : Nat := l.count 10
set_option maxRecDepth 100000 in
set_option maxHeartbeats 4000000 in
theorem lines52_any (s : ByteArray) (w : World) (hs : s.size ≤ 100000) :
    Calls Tryd.prog 21 #[.string s] w fun e w' => e = .returned (.tuple #[.int .i64 (nlB (bs s) : Nat), .bool (decide (bs s = [] ∨ (bs s).getLast? = some 10))]) ∧ ∃ n, w' = w.drewN n := by
  obtain ⟨n, hn⟩ : ∃ n, n = s.size := ⟨_, rfl⟩
  obtain ⟨F, hF⟩ : ∃ F : Ending → World → Prop, F = fun e w' => e = .returned (.tuple #[.int .i64 (nlB (bs s) : Nat), .bool (decide (bs s = [] ∨ (bs s).getLast? = some 10))]) ∧ ∃ n, w' = w.drewN n := ⟨_, rfl⟩
  rw [← hF]
  have HF := Lib.hid hF
  clear hF
  have hn1 : n ≤ 100000 := by omega
  go_enter Tryd.func21, Tryd.ntmps21
  go_wp2_with fail
  go_loop [4, 5] (fun sc si => ∃ (k : Nat), k ≤ n ∧ sc = .int .i64 (nlB ((bs s).take k) : Nat) ∧ si = .int .i64 k) (fun _ i => n - (intOf i).toNat)
  case atStart => exact ⟨0, Nat.zero_le _, rfl, rfl⟩
  case round =>
    obtain ⟨k, hk, rfl, rfl⟩ := hrel
    have hcl : nlB ((bs s).take k) ≤ 100000 := by
      have h1 : nlB ((bs s).take k) ≤ ((bs s).take k).length := List.count_le_length
      have h2 : ((bs s).take k).length ≤ k := by simp; omega
      omega
    obtain ⟨x, hx⟩ : ∃ x, x = nlB ((bs s).take k) := ⟨_, rfl⟩
    rw [← hx] at hcl ⊢
    by_cases hlt : k < n
    · have hk1 : (k : Int) < (s.size : Int) := by omega
      have hks : k < s.size := by omega
      obtain ⟨h1, h2, h3⟩ := byte_at hks
      have HT : Hid (nlB ((bs s).take (k + 1)) = x + if s[k] == 10 then 1 else 0) := by
        show _ = _
        obtain ⟨hj, hj2⟩ := List.getElem?_eq_some_iff.1 h1
        unfold nlB at hx ⊢
        rw [List.take_succ_eq_append_getElem hj, hj2, List.count_append, ← hx, List.count_singleton]
      clear h1 h2 h3
      cases hb : s[k] == 10 with
      | true =>
        have hb' : ((s[k].toNat : Int) == 10) = true := by rw [byte_nl]; exact hb
        have HB := Lib.hid hb
        clear hb hx
        go_wp2_with fail
        go_round
        case rel => exact ⟨k + 1, by omega, by rw [HT.out, HB.out]; go_num, by go_num⟩
        case measure => simp [intOf]; omega
      | false =>
        have hb' : ((s[k].toNat : Int) == 10) = false := by rw [byte_nl]; exact hb
        have HB := Lib.hid hb
        clear hb hx
        go_wp2_with fail
        go_round
        case rel => exact ⟨k + 1, by omega, by rw [HT.out, HB.out]; go_num, by go_num⟩
        case measure => simp [intOf]; omega
    · have hk1 : ¬ (k : Int) < (s.size : Int) := by omega
      have HX : Hid (x = nlB (bs s)) := by show _ = _; rw [hx, List.take_of_length_le (by rw [bs_length]; omega)]
      clear hx
      by_cases he : bs s = []
      · have hse : s = ⟨#[]⟩ := bs_ext he
        have HE := Lib.hid he
        clear he
        subst hse
        go_wp2_with fail
        go_quiet (fail)
        go_wp2_with fail
        rw [HF.out]
        exact ⟨by rw [← HX.out]; rfl, _, rfl⟩
      · have hne : s.toList.isEmpty = false := by
          rw [ByteArray.toList_eq]
          cases hl : s.data.toList with
          | nil => exact absurd hl he
          | cons _ _ => rfl
        have hne2 : (s.toList == []) = false := by
          rw [ByteArray.toList_eq]
          cases hl : s.data.toList with
          | nil => exact absurd hl he
          | cons _ _ => rfl
        obtain ⟨m, hm⟩ : ∃ m, s.size = m + 1 := by
          refine ⟨s.size - 1, ?_⟩
          have : 0 < (bs s).length := by cases hl : bs s with | nil => exact absurd hl he | cons _ _ => simp
          rw [bs_length] at this
          omega
        have hms : m < s.size := by omega
        obtain ⟨h1, h2, h3⟩ := byte_at hms
        have HL : Hid ((bs s).getLast? = some s[m]) := by
          show _ = _
          rw [List.getLast?_eq_getElem?, bs_length, hm, Nat.add_sub_cancel]
          exact h1
        have HNE := Lib.hid he
        have hw1 : IntKind.i64.wrap ((s.size : Int) - 1) = (m : Int) := by rw [show (s.size : Int) - 1 = (m : Int) from by omega]; exact wrap_small _ (by omega) (by omega)
        have hw2 : (s.size : Int) - 1 = (m : Int) := by omega
        have hmi : (m : Int) < (s.size : Int) := by omega
        have hm0 : (0 : Int) ≤ (m : Int) := by omega
        clear he h1 h2 h3 hm
        go_wp2_with fail
        go_quiet (fail)
        go_wp2_with fail
        rw [HF.out]
        have hd : decide (bs s = [] ∨ (bs s).getLast? = some 10) = ((s[m].toNat : Int) == 10) := by
          rw [byte_nl, HL.out]
          by_cases h10 : s[m] = 10
          · rw [h10]; simp
          · have h11 : (s[m] == 10) = false := by simpa using h10
            rw [h11]
            apply decide_eq_false
            rintro (h | h)
            · exact HNE.out h
            · exact h10 (Option.some.inj h)
        refine ⟨?_, _, rfl⟩
        rw [hd, ← HX.out]
        rfl
end Go.Proofs.YtcjblbpkjegmiaaDoor
namespace Go.Proofs.YtcjblbpkjegmiaaDoor
open Go.RowKit
set_option linter.unusedVariables false

mutual
/-- How many lines a tree's text has. -/
def Tr.lns : Tr → Nat
  | .mk k _ _ p _ _ l => 1 + (if k = 5 then p.length else 0) + Tr.lnsL l
def Tr.lnsL : List Tr → Nat
  | [] => 0
  | t :: r => t.lns + Tr.lnsL r
end
theorem Tr.lns_eq (t : Tr) : t.lns = 1 + (if t.kind = 5 then t.path.length else 0) + Tr.lnsL t.kids := by cases t; rw [Tr.lns]; rfl
theorem Tr.lnsL_take {l : List Tr} {k : Nat} {t : Tr} (h : l[k]? = some t) : Tr.lnsL (l.take (k + 1)) = Tr.lnsL (l.take k) + t.lns := by
  obtain ⟨hj, hj2⟩ := List.getElem?_eq_some_iff.1 h
  rw [List.take_succ_eq_append_getElem hj, hj2]
  generalize l.take k = a
  induction a with
  | nil => simp [Tr.lnsL]
  | cons x r ih => rw [List.cons_append, Tr.lnsL, Tr.lnsL, ih]; omega
theorem Tr.costL_mem : ∀ {l : List Tr} {t : Tr}, t ∈ l → t.cost ≤ Tr.costL l
  | x :: r, t, h => by
    rw [Tr.costL]
    rcases List.mem_cons.1 h with rfl | h
    · omega
    · have := Tr.costL_mem h; omega
mutual
theorem Tr.lns_le : ∀ t : Tr, t.lns ≤ t.cost
  | .mk k st f p lo at_ l => by
    have := Tr.lnsL_le l
    rw [Tr.lns, Tr.cost]
    split <;> omega
theorem Tr.lnsL_le : ∀ l : List Tr, Tr.lnsL l ≤ Tr.costL l
  | [] => by rw [Tr.lnsL]; omega
  | t :: r => by
    have h1 := Tr.lns_le t
    have h2 := Tr.lnsL_le r
    rw [Tr.lnsL, Tr.costL]; omega
end
set_option maxRecDepth 100000 in
set_option maxHeartbeats 8000000 in
theorem count_any : ∀ (N : Nat) (t : Tr) (p : TrP) (w : World), t.size ≤ N → TrV w p t → t.cost ≤ 1000000 →
    Calls Tryd.prog 22 #[t.val p] w fun e w' => e = .returned (.int .i64 (t.lns : Nat)) ∧ Below w.heap.size w w' := by
  intro N
  induction N with
  | zero =>
    intro t p w hN
    cases t; rw [Tr.size] at hN; omega
  | succ N ih =>
    intro t p w hN hV hco
    obtain ⟨n, hn⟩ : ∃ n, n = t.kids.length := ⟨_, rfl⟩
    obtain ⟨ne, hne⟩ : ∃ ne, ne = t.fm.tm.kids.length := ⟨_, rfl⟩
    obtain ⟨nf, hnf⟩ : ∃ nf, nf = t.fm.kids.length := ⟨_, rfl⟩
    obtain ⟨ns, hns⟩ : ∃ ns, ns = t.state.length := ⟨_, rfl⟩
    obtain ⟨np, hnp⟩ : ∃ np, np = t.path.length := ⟨_, rfl⟩
    obtain ⟨aK, haK⟩ : ∃ aK, aK = p.aK := ⟨_, rfl⟩
    obtain ⟨aP, haP⟩ : ∃ aP, aP = p.aP := ⟨_, rfl⟩
    obtain ⟨F, hF⟩ : ∃ F : Ending → World → Prop, F = fun e w' => e = .returned (.int .i64 (t.lns : Nat)) ∧ Below w.heap.size w w' := ⟨_, rfl⟩
    rw [← hF]
    have hsz : 1 + Tr.sizeL t.kids ≤ t.size := by cases t; rw [Tr.size]; show 1 + Tr.sizeL _ ≤ _; simp only [Tr.kids]; omega
    have hcap := hV.own.cap
    have hcapm := hV.own.capm
    unfold maxLen at hcapm
    rw [← hn] at hcap
    have hk := hV.kids
    rw [← haK] at hk
    have hce := Tr.cost_eq t
    rw [← hnp] at hce
    have hnpc : np ≤ 1000000 := by omega
    have hll := Tr.lnsL_le t.kids
    have hleq := Tr.lns_eq t
    rw [← hnp] at hleq
    obtain ⟨w1, hw1⟩ : ∃ w1, w1 = w.alloc (.cells #[.int .i64 t.kind, .slice p.aS ns p.cS, .int .i64 t.fm.op, .int .i64 t.fm.tm.op, .int .i64 t.fm.tm.num, .string t.fm.tm.name, .slice p.aE ne p.cE, .slice p.aF nf p.cF, .slice aP np p.cP, .int .i64 t.loop, .int .i64 t.at_, .slice aK n p.cK] 33) := ⟨_, rfl⟩
    have hb1 : Below w.heap.size w w1 := by rw [hw1]; exact (Below.refl _ _).alloc (Nat.le_refl _) _
    have hs1 : w1.heap.size = w.heap.size + 1 := by rw [hw1]; simp
    have hbx : w1.heap[w.heap.size]? = some (.cells #[.int .i64 t.kind, .slice p.aS ns p.cS, .int .i64 t.fm.op, .int .i64 t.fm.tm.op, .int .i64 t.fm.tm.num, .string t.fm.tm.name, .slice p.aE ne p.cE, .slice p.aF nf p.cF, .slice aP np p.cP, .int .i64 t.loop, .int .i64 t.at_, .slice aK n p.cK] 33 (0, 0)) := by rw [hw1]; exact heap_alloc_new w _
    show Calls Tryd.prog 22 #[.agg #[.int .i64 t.kind, .slice p.aS t.state.length p.cS, .int .i64 t.fm.op, .int .i64 t.fm.tm.op, .int .i64 t.fm.tm.num, .string t.fm.tm.name, .slice p.aE t.fm.tm.kids.length p.cE, .slice p.aF t.fm.kids.length p.cF, .slice p.aP t.path.length p.cP, .int .i64 t.loop, .int .i64 t.at_, .slice p.aK t.kids.length p.cK]] w F
    rw [← hn, ← hne, ← hnf, ← hns, ← hnp, ← haK, ← haP]
    have HF := Lib.hid hF
    have HIH := Lib.hid ih
    have HN := Lib.hid hn
    have HSZ := Lib.hid hsz
    have HK := Lib.hid hk
    have HB1 := Lib.hid hb1
    have HS1 := Lib.hid hs1
    have HBX := Lib.hid hbx
    have HW1 := Lib.hid hw1
    have HNN := Lib.hid hN
    have HCE := Lib.hid hce
    have HCO := Lib.hid hco
    have HLL := Lib.hid hll
    obtain ⟨b0, hb0⟩ : ∃ b0 : Nat, b0 = 1 + (if t.kind = 5 then np else 0) := ⟨_, rfl⟩
    rw [← hb0] at hleq
    have HLE := Lib.hid hleq
    have hb0m : b0 ≤ 1000001 := by rw [hb0]; split <;> omega
    clear hF ih hn hne hnf hns hnp hsz hk hb1 hs1 hbx hw1 hV hN haK haP hce hco hll hleq
    have HLOOP : Hid (∀ k : Nat, Tr.lnsL (t.kids.take k) ≤ 1000000) := fun k => by
      have h1 : ∀ (l : List Tr) (k : Nat), Tr.lnsL (l.take k) ≤ Tr.lnsL l := by
        intro l
        induction l with
        | nil => intro k; simp
        | cons x r ih =>
          intro k
          cases k with
          | zero => simp [Tr.lnsL]
          | succ k => rw [List.take_succ_cons, Tr.lnsL, Tr.lnsL]; have := ih k; omega
      have := h1 t.kids k
      have := HLL.out
      have := HCE.out
      have := HCO.out
      omega
    go_enter Tryd.func22, Tryd.ntmps22
    by_cases h5 : t.kind = 5
    · rw [if_pos h5] at hb0
      have h5' : (t.kind == 5) = true := by simpa using h5
      have hb0' : (1 : Int) + (np : Int) = (b0 : Int) := by omega
      clear h5 hb0
      go_wp2_with fail
      rw [← HW1.out]
      go_loopw [3, 4] (fun sc si wr => ∃ (k : Nat), k ≤ n ∧ sc = .int .i64 ((b0 + Tr.lnsL (t.kids.take k) : Nat) : Int) ∧ si = .int .i64 k ∧ Below w1.heap.size w1 wr) (fun _ i _ => n - (intOf i).toNat)
      case atStart => exact ⟨0, Nat.zero_le _, by simp [Tr.lnsL], rfl, Below.refl _ _⟩
      case round =>
        obtain ⟨k, hk, rfl, rfl, hbel⟩ := hrel
        have HB := Lib.hid hbel
        have hszr := hbel.size
        have hbw : w.heap.size < wr.heap.size := by have := HS1.out; omega
        have kc11 : wr.cell? ⟨w.heap.size, 11, none⟩ = some (.slice aK n p.cK) := by rw [cell_of_row wr w.heap.size 11 _ _ (0, 0) ((hbel.block _ (by have := HS1.out; omega)).trans HBX.out)]; rfl
        have hbt : Below w.heap.size w wr := HB1.out.trans (hbel.mono (by have := HS1.out; omega))
        have HBE := Lib.hid hbt
        obtain ⟨x, hx⟩ : ∃ x, x = b0 + Tr.lnsL (t.kids.take k) := ⟨_, rfl⟩
        rw [← hx]
        have hxm : x ≤ 2000001 := by have := HLOOP.out k; omega
        have HX := Lib.hid hx
        clear hx
        by_cases hlt : k < n
        · obtain ⟨q, hq'⟩ : ∃ q, t.kids[k]? = some q := ⟨_, List.getElem?_eq_getElem (by have := HN.out; omega)⟩
          rcases HK.out with h9 | ⟨g, o, rfl, hg, hrow⟩
          · rw [h9] at hq'; simp at hq'
          have hat := (hrow.get hq').below hbt rfl hg
          obtain ⟨p', hcl, hVq⟩ := hat.open
          rw [show o + 12 * k = o + k * 12 from by omega] at hcl
          have q0 := hcl 0 _ rfl
          have q1 := hcl 1 _ rfl
          have q2 := hcl 2 _ rfl
          have q3 := hcl 3 _ rfl
          have q4 := hcl 4 _ rfl
          have q5 := hcl 5 _ rfl
          have q6 := hcl 6 _ rfl
          have q7 := hcl 7 _ rfl
          have q8 := hcl 8 _ rfl
          have q9 := hcl 9 _ rfl
          have q10 := hcl 10 _ rfl
          have q11 := hcl 11 _ rfl
          rw [Nat.add_zero] at q0
          have hgr : g < wr.heap.size := by have := hbt.size; omega
          have HTK := Lib.hid (Tr.lnsL_take hq')
          have hqs : q.size ≤ N := by
            have h1 := Tr.sizeL_mem (List.mem_of_getElem? hq')
            have := HNN.out
            have := HSZ.out
            omega
          have hqc : q.cost ≤ 1000000 := by
            have h1 := Tr.costL_mem (List.mem_of_getElem? hq')
            have := HCE.out
            have := HCO.out
            omega
          have hcall := HIH.out q p' wr hqs hVq hqc
          have hql := Tr.lns_le q
          obtain ⟨y, hy⟩ : ∃ y, y = q.lns := ⟨_, rfl⟩
          rw [← hy] at hcall hql
          unfold Tr.val at hcall
          have HY := Lib.hid hy
          have hym : y ≤ 1000000 := by omega
          have HC := Lib.hid hcall
          have hk0 : (0 : Int) ≤ (k : Int) := by omega
          have hk1' : (k : Int) < (n : Int) := by omega
          clear hcall hqs hVq hat hrow hq' hbel hbt hcl hy hql hqc
          go_wp2_with fail
          refine (HC.out).mono ?_
          rintro e w3 ⟨rfl, hb3⟩
          have HB3 := Lib.hid (HB.out.trans (hb3.mono hszr))
          have HX2 : Hid (b0 + Tr.lnsL (t.kids.take (k + 1)) = x + y) := by show _ = _; rw [HTK.out, HX.out, HY.out]; omega
          clear hb3 q0 q1 q2 q3 q4 q5 q6 q7 q8 q9 q10 q11 kc11
          go_wp2_with fail
          go_roundw
          case rel => exact ⟨k + 1, by omega, by rw [HX2.out]; go_num, by go_num, HB3.out⟩
          case measure => simp [intOf]; omega
        · have hk1' : ¬ (k : Int) < (n : Int) := by omega
          have HE : Hid (x = t.lns) := by
            show _ = _
            rw [HLE.out, HX.out, List.take_of_length_le (by rw [← HN.out]; omega)]
          clear hlt hbel hbt
          go_wp2_with fail
          rw [HF.out]
          exact ⟨by rw [← HE.out], HBE.out⟩
    · rw [if_neg h5] at hb0
      have h5' : (t.kind == 5) = false := by simpa using h5
      clear h5
      subst hb0
      go_wp2_with fail
      rw [← HW1.out]
      go_loopw [3, 4] (fun sc si wr => ∃ (k : Nat), k ≤ n ∧ sc = .int .i64 ((1 + Tr.lnsL (t.kids.take k) : Nat) : Int) ∧ si = .int .i64 k ∧ Below w1.heap.size w1 wr) (fun _ i _ => n - (intOf i).toNat)
      case atStart => exact ⟨0, Nat.zero_le _, by simp [Tr.lnsL], rfl, Below.refl _ _⟩
      case round =>
        obtain ⟨k, hk, rfl, rfl, hbel⟩ := hrel
        have HB := Lib.hid hbel
        have hszr := hbel.size
        have hbw : w.heap.size < wr.heap.size := by have := HS1.out; omega
        have kc11 : wr.cell? ⟨w.heap.size, 11, none⟩ = some (.slice aK n p.cK) := by rw [cell_of_row wr w.heap.size 11 _ _ (0, 0) ((hbel.block _ (by have := HS1.out; omega)).trans HBX.out)]; rfl
        have hbt : Below w.heap.size w wr := HB1.out.trans (hbel.mono (by have := HS1.out; omega))
        have HBE := Lib.hid hbt
        obtain ⟨x, hx⟩ : ∃ x, x = 1 + Tr.lnsL (t.kids.take k) := ⟨_, rfl⟩
        rw [← hx]
        have hxm : x ≤ 2000001 := by have := HLOOP.out k; omega
        have HX := Lib.hid hx
        clear hx
        by_cases hlt : k < n
        · obtain ⟨q, hq'⟩ : ∃ q, t.kids[k]? = some q := ⟨_, List.getElem?_eq_getElem (by have := HN.out; omega)⟩
          rcases HK.out with h9 | ⟨g, o, rfl, hg, hrow⟩
          · rw [h9] at hq'; simp at hq'
          have hat := (hrow.get hq').below hbt rfl hg
          obtain ⟨p', hcl, hVq⟩ := hat.open
          rw [show o + 12 * k = o + k * 12 from by omega] at hcl
          have q0 := hcl 0 _ rfl
          have q1 := hcl 1 _ rfl
          have q2 := hcl 2 _ rfl
          have q3 := hcl 3 _ rfl
          have q4 := hcl 4 _ rfl
          have q5 := hcl 5 _ rfl
          have q6 := hcl 6 _ rfl
          have q7 := hcl 7 _ rfl
          have q8 := hcl 8 _ rfl
          have q9 := hcl 9 _ rfl
          have q10 := hcl 10 _ rfl
          have q11 := hcl 11 _ rfl
          rw [Nat.add_zero] at q0
          have hgr : g < wr.heap.size := by have := hbt.size; omega
          have HTK := Lib.hid (Tr.lnsL_take hq')
          have hqs : q.size ≤ N := by
            have h1 := Tr.sizeL_mem (List.mem_of_getElem? hq')
            have := HNN.out
            have := HSZ.out
            omega
          have hqc : q.cost ≤ 1000000 := by
            have h1 := Tr.costL_mem (List.mem_of_getElem? hq')
            have := HCE.out
            have := HCO.out
            omega
          have hcall := HIH.out q p' wr hqs hVq hqc
          have hql := Tr.lns_le q
          obtain ⟨y, hy⟩ : ∃ y, y = q.lns := ⟨_, rfl⟩
          rw [← hy] at hcall hql
          unfold Tr.val at hcall
          have HY := Lib.hid hy
          have hym : y ≤ 1000000 := by omega
          have HC := Lib.hid hcall
          have hk0 : (0 : Int) ≤ (k : Int) := by omega
          have hk1' : (k : Int) < (n : Int) := by omega
          clear hcall hqs hVq hat hrow hq' hbel hbt hcl hy hql hqc
          go_wp2_with fail
          refine (HC.out).mono ?_
          rintro e w3 ⟨rfl, hb3⟩
          have HB3 := Lib.hid (HB.out.trans (hb3.mono hszr))
          have HX2 : Hid (1 + Tr.lnsL (t.kids.take (k + 1)) = x + y) := by show _ = _; rw [HTK.out, HX.out, HY.out]; omega
          clear hb3 q0 q1 q2 q3 q4 q5 q6 q7 q8 q9 q10 q11 kc11
          go_wp2_with fail
          go_roundw
          case rel => exact ⟨k + 1, by omega, by rw [HX2.out]; go_num, by go_num, HB3.out⟩
          case measure => simp [intOf]; omega
        · have hk1' : ¬ (k : Int) < (n : Int) := by omega
          have HE : Hid (x = t.lns) := by
            show _ = _
            rw [HLE.out, HX.out, List.take_of_length_le (by rw [← HN.out]; omega)]
          clear hlt hbel hbt
          go_wp2_with fail
          rw [HF.out]
          exact ⟨by rw [← HE.out], HBE.out⟩
end Go.Proofs.YtcjblbpkjegmiaaDoor
namespace Go.Proofs.YtcjblbpkjegmiaaDoor
set_option linter.unusedVariables false

def NlFree (l : Bs) : Prop := ∀ c ∈ l, (c == 10) = false
theorem NlFree.append {a b : Bs} (ha : NlFree a) (hb : NlFree b) : NlFree (a ++ b) := fun c hc => by
  rcases List.mem_append.1 hc with h | h
  · exact ha c h
  · exact hb c h
theorem deepB_in : ∀ {l : Bs} (r : Bs), NlFree l → deepB false (l ++ 10 :: r) = l ++ 10 :: deepB true r
  | [], r, _ => rfl
  | c :: l, r, h => by
    have hc := h c (by simp)
    rw [List.cons_append, deepB, hc, deepB_in r fun x hx => h x (by simp [hx])]
    rfl
theorem deepB_line {l : Bs} (r : Bs) (h : NlFree l) : deepB true (l ++ 10 :: r) = [32, 32] ++ l ++ 10 :: deepB true r := by
  cases l with
  | nil => rfl
  | cons c l =>
    have hc := h c (by simp)
    rw [List.cons_append, deepB, hc, deepB_in r fun x hx => h x (by simp [hx])]
    rfl
theorem blanks_nl (d : Nat) : NlFree (blanksS d) := fun c hc => by
  unfold blanksS at hc
  rw [(List.mem_replicate.1 hc).2]
  rfl
theorem blanks_succ (d : Nat) : blanksS (d + 1) = [32, 32] ++ blanksS d := by
  unfold blanksS
  rw [show 2 * (d + 1) = 2 * d + 1 + 1 from by omega, List.replicate_succ, List.replicate_succ]
  rfl
theorem kindS_nl (k : Int) : NlFree (kindS k) := by
  unfold kindS
  repeat' split
  all_goals (intro c hc; simp at hc)
  all_goals (rcases hc with rfl | rfl | rfl | rfl | rfl <;> rfl)
theorem numS_nl (n : Int) : NlFree (numS n) := fun c hc => by
  have h := numS_bytes n c hc
  cases h10 : c == 10 with
  | false => rfl
  | true =>
    have : c = 10 := by simpa using h10
    subst this
    rcases h with h | h
    · exact absurd h (by decide)
    · exact absurd h.1 (by decide)
/-- The line of a tree's head, without its end. -/
def headL (k : Int) (f : Fm) (at_ : Int) (d : Nat) : Bs := blanksS d ++ kindS k ++ [32] ++ (showFm f).1 ++ (if k = 4 ∨ k = 5 then [32] ++ numS at_ else [])
theorem headS_eq (k : Int) (f : Fm) (at_ : Int) (d : Nat) : headS k f at_ d = headL k f at_ d ++ [10] := rfl
theorem headL_nl {k : Int} {f : Fm} {at_ : Int} {d : Nat} (h : NlFree (showFm f).1) : NlFree (headL k f at_ d) := by
  have h32 : NlFree [32] := fun c hc => by rw [List.mem_singleton.1 hc]; rfl
  unfold headL
  refine NlFree.append (NlFree.append (NlFree.append (NlFree.append (blanks_nl d) (kindS_nl k)) h32) h) ?_
  split
  · exact NlFree.append h32 (numS_nl at_)
  · intro c hc; cases hc
theorem headL_succ (k : Int) (f : Fm) (at_ : Int) (d : Nat) : headL k f at_ (d + 1) = [32, 32] ++ headL k f at_ d := by
  unfold headL
  rw [blanks_succ]
  simp [List.append_assoc]
/-- No line end within what a tree shows. -/
def Tr.Lines1 (vs : List Vr) (path : List (List Int)) (loop : Int) : Prop := ∀ l ∈ (linesT vs path loop).1, NlFree l
mutual
def Tr.Clean (vs : List Vr) : Tr → Prop
  | .mk k st f p loop at_ kids => NlFree (showFm f).1 ∧ Tr.Lines1 vs p loop ∧ Tr.CleanL vs kids
def Tr.CleanL (vs : List Vr) : List Tr → Prop
  | [] => True
  | t :: r => t.Clean vs ∧ Tr.CleanL vs r
end
theorem linesS_deep (d : Nat) : ∀ (L : List Bs) (r : Bs), (∀ l ∈ L, NlFree l) → deepB true (linesS d L ++ r) = linesS (d + 1) L ++ deepB true r
  | [], r, _ => rfl
  | l :: L, r, h => by
    have h1 : NlFree (blanksS d ++ l) := NlFree.append (blanks_nl d) (h l (by simp))
    rw [linesS, linesS, show blanksS d ++ l ++ [10] ++ linesS d L ++ r = (blanksS d ++ l) ++ 10 :: (linesS d L ++ r) from by simp, deepB_line _ h1, linesS_deep d L r fun x hx => h x (by simp [hx]), blanks_succ]
    simp [List.append_assoc]
mutual
theorem rawT_deep (vs : List Vr) : ∀ (t : Tr) (d : Nat) (r : Bs), t.Clean vs → deepB true (rawT vs t d ++ r) = rawT vs t (d + 1) ++ deepB true r
  | .mk k st f p loop at_ kids, d, r, h => by
    rw [Tr.Clean] at h
    obtain ⟨h1, h2, h3⟩ := h
    rw [rawT, rawT, headS_eq, headS_eq, headL_succ]
    by_cases h5 : k = 5
    · rw [if_pos h5, if_pos h5]
      rw [show headL k f at_ d ++ [10] ++ linesS d (linesT vs p loop).1 ++ rawL vs kids (d + 1) ++ r = headL k f at_ d ++ 10 :: (linesS d (linesT vs p loop).1 ++ (rawL vs kids (d + 1) ++ r)) from by simp, deepB_line _ (headL_nl h1), linesS_deep d _ _ h2, rawL_deep vs kids (d + 1) r h3]
      simp [List.append_assoc]
    · rw [if_neg h5, if_neg h5]
      rw [show headL k f at_ d ++ [10] ++ [] ++ rawL vs kids (d + 1) ++ r = headL k f at_ d ++ 10 :: (rawL vs kids (d + 1) ++ r) from by simp, deepB_line _ (headL_nl h1), rawL_deep vs kids (d + 1) r h3]
      simp [List.append_assoc]
theorem rawL_deep (vs : List Vr) : ∀ (l : List Tr) (d : Nat) (r : Bs), Tr.CleanL vs l → deepB true (rawL vs l d ++ r) = rawL vs l (d + 1) ++ deepB true r
  | [], d, r, _ => by rw [rawL, rawL]; rfl
  | t :: l, d, r, h => by
    rw [Tr.CleanL] at h
    rw [rawL, rawL, List.append_assoc, rawT_deep vs t d _ h.1, rawL_deep vs l d r h.2, List.append_assoc]
end
/-- The count of line ends. -/
theorem nlB_app (a b : Bs) : nlB (a ++ b) = nlB a + nlB b := by unfold nlB; exact List.count_append ..
theorem nlB_free {l : Bs} (h : NlFree l) : nlB l = 0 := by
  unfold nlB
  rw [List.count_eq_zero]
  intro hm
  have := h 10 hm
  revert this
  decide
theorem nlB_lines (d : Nat) : ∀ (L : List Bs), (∀ l ∈ L, NlFree l) → nlB (linesS d L) = L.length
  | [], _ => rfl
  | l :: L, h => by
    rw [linesS, nlB_app, nlB_app, nlB_app, nlB_free (blanks_nl d), nlB_free (h l (by simp)), nlB_lines d L fun x hx => h x (by simp [hx]), List.length_cons]
    show 0 + 0 + 1 + _ = _
    omega
mutual
theorem rawT_nl (vs : List Vr) : ∀ (t : Tr) (d : Nat), t.Clean vs → errT vs t = 0 → nlB (rawT vs t d) = t.lns
  | .mk k st f p loop at_ kids, d, h, he => by
    rw [Tr.Clean] at h
    obtain ⟨h1, h2, h3⟩ := h
    rw [errT] at he
    rw [rawT, nlB_app, nlB_app, headS_eq, nlB_app, nlB_free (headL_nl h1), Tr.lns]
    split at he
    · cases he
    · split at he
      · rename_i h; exact absurd he h
      · split at he
        · rename_i h; exact absurd he h.2
        · rename_i hk
          rw [rawL_nl vs kids (d + 1) h3 he]
          by_cases h5 : k = 5
          · have hl : (linesT vs p loop).2 = 0 := Classical.byContradiction fun hc => hk ⟨h5, hc⟩
            have hlen : (linesT vs p loop).1.length = p.length := by
              unfold linesT at hl ⊢
              split at hl
              · rename_i hok; rw [if_pos hok]; exact linesL_len vs loop p 0
              · cases hl
            rw [if_pos h5, if_pos h5, nlB_lines d _ h2, hlen]
            show 0 + 1 + _ + _ = _
            omega
          · rw [if_neg h5, if_neg h5]
            show 0 + 1 + 0 + _ = _
            omega
theorem rawL_nl (vs : List Vr) : ∀ (l : List Tr) (d : Nat), Tr.CleanL vs l → errL vs l = 0 → nlB (rawL vs l d) = Tr.lnsL l
  | [], d, _, _ => by rw [rawL, Tr.lnsL]; rfl
  | t :: l, d, h, he => by
    rw [Tr.CleanL] at h
    rw [errL] at he
    split at he
    · rename_i hc; exact absurd he hc
    · rename_i hc
      rw [rawL, nlB_app, Tr.lnsL, rawT_nl vs t d h.1 (Classical.byContradiction hc), rawL_nl vs l d h.2 he]
end
end Go.Proofs.YtcjblbpkjegmiaaDoor
namespace Go.Proofs.YtcjblbpkjegmiaaDoor
set_option linter.unusedVariables false

theorem nl_if {c : Prop} [Decidable c] {a b : Bs} (ha : NlFree a) (hb : NlFree b) : NlFree (if c then a else b) := by
  split
  · exact ha
  · exact hb
theorem nl_nil : NlFree [] := fun c hc => by cases hc
theorem nl_of {l : Bs} (h : (l.all fun c => !(c == 10)) = true) : NlFree l := fun c hc => by
  have := List.all_eq_true.1 h c hc
  simpa using this
theorem signB_nl (op : Int) : NlFree (signB op) := by
  unfold signB
  repeat' apply nl_if
  all_goals exact nl_of (by decide)
theorem betw_nl (op : Int) : NlFree (betw op) := NlFree.append (NlFree.append (nl_of (by decide)) (signB_nl op)) (nl_of (by decide))
theorem ifW_nl (i : Nat) : NlFree (ifW i) := by
  unfold ifW
  repeat' apply nl_if
  all_goals exact nl_of (by decide)
theorem wrapP_nl {p : Bool} {b : Bs} (h : NlFree b) : NlFree (wrapP p b) := by
  unfold wrapP
  exact nl_if (NlFree.append (NlFree.append (nl_of (by decide)) h) (nl_of (by decide))) h
theorem loneT_nl {op n : Int} {s : Bs} (h : op = 3 ∨ op = 4 → NlFree s) (ho : op = 1 ∨ op = 2 ∨ op = 3 ∨ op = 4) : NlFree (loneT numS op n s) := by
  unfold loneT
  split
  · exact numS_nl n
  · split
    · exact nl_if (nl_of (by decide)) (nl_of (by decide))
    · split
      · rename_i h3; exact h (.inl h3)
      · exact NlFree.append (NlFree.append (nl_of (by decide)) (h (by omega))) (nl_of (by decide))
theorem bodyE_nl {op n : Int} {s b5 b18 bj : Bs} (h : op = 3 ∨ op = 4 → NlFree s) (h5 : ¬ (op = 3 ∨ op = 4) → NlFree b5) (h18 : ¬ (op = 3 ∨ op = 4) → NlFree b18) (hj : ¬ (op = 3 ∨ op = 4) → NlFree bj) : NlFree (bodyE numS op n s b5 b18 bj) := by
  unfold bodyE
  split
  · rename_i ho; exact loneT_nl h ho
  · rename_i ho
    have hn : ¬ (op = 3 ∨ op = 4) := fun h => ho (by omega)
    exact nl_if (NlFree.append (nl_of (by decide)) (h5 hn)) (nl_if (h18 hn) (hj hn))
theorem inside_nl {c : UInt8} (h : isInside c = true) : (c == 10) = false := by
  cases hc : c == 10 with
  | false => rfl
  | true =>
    have : c = 10 := by simpa using hc
    subst this
    revert h
    decide
theorem name_nl {l : Bs} (h : isName l = true) : NlFree l := fun c hc => inside_nl (isName_inside h c hc)
mutual
theorem shw_nl : ∀ (t : Tm) (rule : Nat) (ends : Bool), toldT t = true → NlFree (shw numS t rule ends)
  | .mk op n s l, rule, ends, h => by
    rw [toldT] at h
    rw [shw]
    refine wrapP_nl ?_
    split at h
    · cases h
    · split at h
      · rename_i h34
        exact bodyE_nl (fun _ => name_nl h) (fun hn => absurd h34 hn) (fun hn => absurd h34 hn) (fun hn => absurd h34 hn)
      · rename_i h34
        exact bodyE_nl (fun h => absurd h h34) (fun _ => shwNot_nl l _ h) (fun _ => shwIf_nl l 0 h) (fun _ => shwJoin_nl op l 0 _ h)
theorem shwNot_nl : ∀ (l : List Tm) (ends : Bool), toldL l = true → NlFree (shwNot numS l ends)
  | [], ends, _ => by rw [shwNot]; exact nl_nil
  | k :: _, ends, h => by
    rw [toldL, Bool.and_eq_true] at h
    rw [shwNot]
    exact shw_nl k 4 ends h.1
theorem shwIf_nl : ∀ (l : List Tm) (i : Nat), toldL l = true → NlFree (shwIf numS l i)
  | [], i, _ => by rw [shwIf]; exact nl_nil
  | k :: r, i, h => by
    rw [toldL, Bool.and_eq_true] at h
    rw [shwIf]
    exact NlFree.append (NlFree.append (ifW_nl i) (shw_nl k 0 true h.1)) (shwIf_nl r (i + 1) h.2)
theorem shwJoin_nl (op : Int) : ∀ (l : List Tm) (i : Nat) (ends : Bool), toldL l = true → NlFree (shwJoin numS op l i ends)
  | [], i, ends, _ => by rw [shwJoin]; exact nl_nil
  | k :: r, i, ends, h => by
    rw [toldL, Bool.and_eq_true] at h
    rw [shwJoin]
    exact NlFree.append (NlFree.append (nl_if nl_nil (betw_nl op)) (shw_nl k _ _ h.1)) (shwJoin_nl op r (i + 1) ends h.2)
end
theorem showTm_nl (t : Tm) : NlFree (showTm t).1 := by
  unfold showTm
  split
  · exact nl_nil
  · split
    · exact nl_nil
    · rename_i htl
      split
      · exact nl_nil
      · exact shw_nl t 0 true (by cases hh : toldT t with | false => exact absurd hh htl | true => rfl)
theorem preF_nl (op : Int) : NlFree (preF op) := by
  unfold preF
  repeat' apply nl_if
  all_goals exact nl_of (by decide)
theorem inF_nl (op : Int) : NlFree (inF op) := by
  unfold inF
  repeat' apply nl_if
  all_goals exact nl_of (by decide)
theorem openF_nl (op : Int) : NlFree (openF op) := by
  unfold openF
  repeat' apply nl_if
  all_goals exact nl_of (by decide)
theorem closeF_nl (op : Int) : NlFree (closeF op) := by
  unfold closeF
  repeat' apply nl_if
  all_goals exact nl_of (by decide)
mutual
theorem frmT_nl : ∀ (f : Fm) (least : Nat), NlFree (frmT f least).1
  | .mk o e l, least => by
    have h : NlFree (if o = 1 then ([91] ++ (showTm e).1 ++ [93], (showTm e).2) else frmK o l).1 := by
      split
      · exact NlFree.append (NlFree.append (nl_of (by decide)) (showTm_nl e)) (nl_of (by decide))
      · exact frmK_nl o l
    rw [frmT]
    generalize (if o = 1 then ([91] ++ (showTm e).1 ++ [93], (showTm e).2) else frmK o l) = x at h ⊢
    by_cases h1 : x.2 ≠ 0
    · rw [if_pos h1]; exact nl_nil
    · rw [if_neg h1]
      by_cases h2 : strongF o < least
      · rw [if_pos h2]; exact NlFree.append (NlFree.append (nl_of (by decide)) h) (nl_of (by decide))
      · rw [if_neg h2]; exact h
theorem frmK_nl (o : Int) : ∀ (l : List Fm), NlFree (frmK o l).1
  | [] => by rw [frmK]; exact nl_nil
  | a :: r => by rw [frmK]; exact frmK2_nl o _ (frmT_nl a _) r
theorem frmK2_nl (o : Int) (x : Bs × Int) (hx : NlFree x.1) : ∀ (l : List Fm), NlFree (frmK2 o x l).1
  | [] => by rw [frmK2]; exact NlFree.append (preF_nl o) hx
  | b :: _ => by
    rw [frmK2]
    split
    · exact nl_nil
    · exact NlFree.append (NlFree.append (NlFree.append (NlFree.append (openF_nl o) hx) (inF_nl o)) (frmT_nl b (rightF o))) (closeF_nl o)
end
theorem showFm_nl (f : Fm) : NlFree (showFm f).1 := by
  unfold showFm
  split
  · exact nl_nil
  · split
    · exact nl_nil
    · split
      · exact nl_nil
      · exact frmT_nl f 1
theorem wordS_nl {v : Vr} {z : Int} (h : isName v.name.data.toList = true) : NlFree (wordS v z) := by
  unfold wordS
  exact NlFree.append (NlFree.append (name_nl h) (nl_of (by decide))) (numS_nl z)
theorem words_nl {vs : List Vr} {s : List Int} (h : ∀ v ∈ vs, isName v.name.data.toList = true) : ∀ x ∈ wordsS vs s, NlFree x := by
  intro x hx
  unfold wordsS at hx
  rw [List.mem_iff_getElem?] at hx
  obtain ⟨i, hi⟩ := hx
  rw [List.getElem?_zipWith] at hi
  cases hv' : vs[i]? with
  | none => rw [hv'] at hi; simp at hi
  | some v =>
    cases hz' : s[i]? with
    | none => rw [hv', hz'] at hi; simp at hi
    | some z =>
      rw [hv', hz'] at hi
      simp at hi
      subst hi
      exact wordS_nl (h v (List.mem_of_getElem? hv'))
theorem joinTail_nl : ∀ (L : List Bs), (∀ x ∈ L, NlFree x) → NlFree (Lib.joinTail [32] L)
  | [], _ => by unfold Lib.joinTail; exact nl_nil
  | x :: r, h => by
    have h2 := joinTail_nl r fun z hz => h z (by simp [hz])
    have h1 : NlFree ([32] ++ x) := NlFree.append (nl_of (by decide)) (h x (by simp))
    unfold Lib.joinTail at h2 ⊢
    rw [List.map_cons, List.flatten_cons]
    exact NlFree.append h1 h2
theorem join_nl {L : List Bs} (h : ∀ x ∈ L, NlFree x) : NlFree (Lib.join L [32]) := by
  cases L with
  | nil => exact nl_nil
  | cons x r =>
    rw [Lib.join_cons]
    exact NlFree.append (h x (by simp)) (joinTail_nl r fun z hz => h z (by simp [hz]))
theorem stateT_nl {vs : List Vr} {s : List Int} (h : ∀ v ∈ vs, isName v.name.data.toList = true) : NlFree (stateT vs s).1 := by
  unfold stateT
  split
  · exact nl_nil
  · exact join_nl (words_nl h)
theorem markS_nl (loop : Int) (k : Nat) : NlFree (markS loop k) := by
  unfold markS
  split <;> exact nl_of (by decide)
theorem linesL_nl {vs : List Vr} (h : ∀ v ∈ vs, isName v.name.data.toList = true) (loop : Int) : ∀ (p : List (List Int)) (i : Nat), ∀ l ∈ linesL vs loop i p, NlFree l
  | [], i, l, hl => by rw [linesL] at hl; cases hl
  | s :: r, i, l, hl => by
    rw [linesL] at hl
    rcases List.mem_cons.1 hl with rfl | hl
    · exact NlFree.append (markS_nl loop i) (stateT_nl h)
    · exact linesL_nl h loop r (i + 1) l hl
theorem lines1_all {vs : List Vr} (h : ∀ v ∈ vs, isName v.name.data.toList = true) (p : List (List Int)) (loop : Int) : Tr.Lines1 vs p loop := by
  intro l hl
  unfold linesT at hl
  split at hl
  · exact linesL_nl h loop p 0 l hl
  · cases hl
mutual
theorem clean_all {vs : List Vr} (h : ∀ v ∈ vs, isName v.name.data.toList = true) : ∀ t : Tr, t.Clean vs
  | .mk k st f p loop at_ kids => by
    rw [Tr.Clean]
    exact ⟨showFm_nl f, lines1_all h p loop, cleanL_all h kids⟩
theorem cleanL_all {vs : List Vr} (h : ∀ v ∈ vs, isName v.name.data.toList = true) : ∀ l : List Tr, Tr.CleanL vs l
  | [] => by rw [Tr.CleanL]; trivial
  | t :: r => by rw [Tr.CleanL]; exact ⟨clean_all h t, cleanL_all h r⟩
end
/-- How long a tree's text can be. -/
theorem headL_len (k : Int) (f : Fm) (at_ : Int) (d : Nat) (ha : -9223372036854775808 ≤ at_ ∧ at_ ≤ 9223372036854775807) : (headS k f at_ d).length ≤ 2 * d + 65600 := by
  have h1 : (kindS k).length ≤ 5 := by
    unfold kindS
    repeat' split
    all_goals decide
  have h2 := showFm_len f
  have h3 := numS_len20 at_ ha.1 ha.2
  unfold headS blanksS
  split <;> simp only [List.length_append, List.length_replicate, List.length_cons, List.length_nil] <;> omega
mutual
/-- The numbers of a tree lie in their ranges. -/
def Tr.Rng : Tr → Prop
  | .mk _ _ _ p _ at_ l => (-9223372036854775808 ≤ at_ ∧ at_ ≤ 9223372036854775807) ∧ (∀ s ∈ p, ∀ z ∈ s, -9223372036854775808 ≤ z ∧ z ≤ 9223372036854775807) ∧ Tr.RngL l
def Tr.RngL : List Tr → Prop
  | [] => True
  | t :: r => t.Rng ∧ Tr.RngL r
end
theorem linesS_len (d m : Nat) : ∀ (L : List Bs), (∀ l ∈ L, l.length ≤ m) → (linesS d L).length ≤ L.length * (2 * d + m + 1)
  | [], _ => by rw [linesS]; simp
  | l :: L, h => by
    have h1 := linesS_len d m L fun x hx => h x (by simp [hx])
    have h2 := h l (by simp)
    rw [linesS, List.length_cons, Nat.succ_mul]
    unfold blanksS
    simp only [List.length_append, List.length_replicate, List.length_cons, List.length_nil]
    omega
theorem linesL_le {vs : List Vr} (hv : SmallV vs) (loop : Int) : ∀ (p : List (List Int)) (i : Nat), (∀ s ∈ p, ∀ z ∈ s, -9223372036854775808 ≤ z ∧ z ≤ 9223372036854775807) → ∀ l ∈ linesL vs loop i p, l.length ≤ 1662
  | [], i, _, l, hl => by rw [linesL] at hl; cases hl
  | s :: r, i, h, l, hl => by
    rw [linesL] at hl
    rcases List.mem_cons.1 hl with rfl | hl
    · have h1 := state_len (s := s) hv (h s (by simp))
      have h2 : (markS loop i).length = 2 := by unfold markS; split <;> rfl
      rw [List.length_append]
      omega
    · exact linesL_le hv loop r (i + 1) (fun x hx => h x (by simp [hx])) l hl
mutual
theorem rawT_len {vs : List Vr} (hv : SmallV vs) (M : Nat) : ∀ (t : Tr) (d : Nat), t.Rng → d + t.cost ≤ M → (rawT vs t d).length ≤ t.cost * (70000 + 2 * M)
  | .mk k st f p loop at_ kids, d, h, hM => by
    rw [Tr.Rng] at h
    obtain ⟨ha, hp, hk⟩ := h
    rw [Tr.cost] at hM ⊢
    have h1 := headL_len k f at_ d ha
    have h3 := rawL_len hv M kids (d + 1) hk (by omega)
    have h2 : (if k = 5 then linesS d (linesT vs p loop).1 else []).length ≤ p.length * (70000 + 2 * M) := by
      split
      · have hl : ∀ l ∈ (linesT vs p loop).1, l.length ≤ 1662 := by
          intro l hl
          unfold linesT at hl
          split at hl
          · exact linesL_le hv loop p 0 hp l hl
          · cases hl
        have h4 := linesS_len d 1662 (linesT vs p loop).1 hl
        have h5 : (linesT vs p loop).1.length ≤ p.length := by
          unfold linesT
          split
          · rw [linesL_len]; exact Nat.le_refl _
          · simp
        exact Nat.le_trans h4 (Nat.mul_le_mul h5 (by omega))
      · simp
    rw [rawT, List.length_append, List.length_append]
    have e : (1 + p.length + f.cost + Tr.costL kids) * (70000 + 2 * M) = (70000 + 2 * M) + p.length * (70000 + 2 * M) + f.cost * (70000 + 2 * M) + Tr.costL kids * (70000 + 2 * M) := by rw [Nat.add_mul, Nat.add_mul, Nat.add_mul, Nat.one_mul]
    rw [e]
    omega
theorem rawL_len {vs : List Vr} (hv : SmallV vs) (M : Nat) : ∀ (l : List Tr) (d : Nat), Tr.RngL l → d + Tr.costL l ≤ M → (rawL vs l d).length ≤ Tr.costL l * (70000 + 2 * M)
  | [], d, _, _ => by rw [rawL]; simp
  | t :: l, d, h, hM => by
    rw [Tr.RngL] at h
    rw [Tr.costL] at hM ⊢
    have h1 := rawT_len hv M t d h.1 (by omega)
    have h2 := rawL_len hv M l d h.2 (by omega)
    rw [rawL, List.length_append, Nat.add_mul]
    omega
end
mutual
theorem Fm.wsize_cost : ∀ f : Fm, f.wsize ≤ 2 * f.cost
  | .mk o e l => by
    have h1 := Fm.wsizeL_cost l
    have h2 : 1 ≤ e.size := by cases e; rw [Tm.size]; omega
    rw [Fm.wsize, Fm.cost]; omega
theorem Fm.wsizeL_cost : ∀ l : List Fm, Fm.wsizeL l ≤ 2 * Fm.costL l
  | [] => by rw [Fm.wsizeL]; omega
  | t :: r => by
    have h1 := Fm.wsize_cost t
    have h2 := Fm.wsizeL_cost r
    rw [Fm.wsizeL, Fm.costL]; omega
end
mutual
theorem Tr.wsize_cost : ∀ t : Tr, t.wsize ≤ 2 * t.cost
  | .mk k st f p lo at_ l => by
    have h1 := Fm.wsize_cost f
    have h2 := Tr.wsizeL_cost l
    rw [Tr.wsize, Tr.cost]; omega
theorem Tr.wsizeL_cost : ∀ l : List Tr, Tr.wsizeL l ≤ 2 * Tr.costL l
  | [] => by rw [Tr.wsizeL]; omega
  | t :: r => by
    have h1 := Tr.wsize_cost t
    have h2 := Tr.wsizeL_cost r
    rw [Tr.wsizeL, Tr.costL]; omega
end
mutual
theorem rng_of {w : World} : ∀ (t : Tr) (p : TrP), TrV w p t → t.Rng
  | .mk k st f pt lo at_ l, p, h => by
    rw [Tr.Rng]
    refine ⟨h.own.at_, fun s hs z hz => ?_, ?_⟩
    · rcases h.own.path.row with h0 | ⟨b, o, _, _, hr⟩
      · simp only [Tr.path] at h0; rw [h0] at hs; cases hs
      · obtain ⟨j, hj⟩ := List.mem_iff_getElem?.1 hs
        obtain ⟨A', c', _, hI⟩ := hr j s hj
        exact hI.rng z hz
    · rcases h.kids with h0 | ⟨g, o, _, _, hr⟩
      · simp only [Tr.kids] at h0; rw [h0, Tr.RngL]; trivial
      · exact rngL_of l g o hr
theorem rngL_of {w : World} : ∀ (l : List Tr) (g o : Nat), TrRow w g o l → Tr.RngL l
  | [], g, o, _ => by rw [Tr.RngL]; trivial
  | t :: r, g, o, h => by
    rw [TrRow] at h
    obtain ⟨p, _, hV⟩ := h.1.open
    rw [Tr.RngL]
    exact ⟨rng_of t p hV, rngL_of r g (o + 12) h.2⟩
end
end Go.Proofs.YtcjblbpkjegmiaaDoor
namespace Go.Proofs.YtcjblbpkjegmiaaDoor
set_option linter.unusedVariables false

/-- The tree without its kids. -/
def Tr.bare (t : Tr) : Tr := .mk t.kind t.state t.fm t.path t.loop t.at_ []
theorem errL_mem {vs : List Vr} : ∀ {l : List Tr} {q : Tr}, errL vs l = 0 → q ∈ l → errT vs q = 0
  | x :: r, q, h, hq => by
    rw [errL] at h
    split at h
    · rename_i hc; exact absurd h hc
    · rename_i hc
      rcases List.mem_cons.1 hq with rfl | hq
      · exact Classical.byContradiction hc
      · exact errL_mem h hq
theorem deepB_len : ∀ (l : Bs) (b : Bool), l.length ≤ (deepB b l).length
  | [], b => by simp
  | c :: r, b => by
    rw [deepB]
    have := deepB_len r (c == 10)
    simp only [List.length_append, List.length_cons]
    omega
theorem rawL_take {vs : List Vr} {l : List Tr} {k : Nat} {q : Tr} (h : l[k]? = some q) (d : Nat) : rawL vs (l.take (k + 1)) d = rawL vs (l.take k) d ++ rawT vs q d := by
  obtain ⟨hj, hj2⟩ := List.getElem?_eq_some_iff.1 h
  rw [List.take_succ_eq_append_getElem hj, hj2]
  generalize l.take k = a
  induction a with
  | nil => simp [rawL]
  | cons x r ih => rw [List.cons_append, rawL, rawL, ih, List.append_assoc]
theorem rawL_take_len {vs : List Vr} : ∀ (l : List Tr) (k d : Nat), (rawL vs (l.take k) d).length ≤ (rawL vs l d).length
  | [], k, d => by simp
  | x :: r, 0, d => by simp [rawL]
  | x :: r, k + 1, d => by
    rw [List.take_succ_cons, rawL, rawL, List.length_append, List.length_append]
    have := rawL_take_len (vs := vs) r k d
    omega
theorem raw_bare (vs : List Vr) (t : Tr) : rawT vs t 0 = rawT vs t.bare 0 ++ rawL vs t.kids 1 := by
  cases t with
  | mk k st f p lo at_ l =>
    show rawT vs (.mk k st f p lo at_ l) 0 = rawT vs (.mk k st f p lo at_ []) 0 ++ rawL vs l 1
    rw [rawT, rawT, show rawL vs [] (0 + 1) = [] from by rw [rawL], List.append_nil]
theorem err_open {vs : List Vr} {t : Tr} (h : errT vs t = 0) : errT vs t.bare = 0 ∧ errL vs t.kids = 0 := by
  rw [errT_eq] at h
  rw [errT_eq vs t.bare]
  show (if kindS t.kind = [] then 11 else if (showFm t.fm).2 ≠ 0 then (showFm t.fm).2 else if t.kind = 5 ∧ (linesT vs t.path t.loop).2 ≠ 0 then (linesT vs t.path t.loop).2 else errL vs []) = 0 ∧ _
  split at h
  · cases h
  · rename_i h1
    rw [if_neg h1]
    split at h
    · rename_i h2; exact absurd h h2
    · rename_i h2
      rw [if_neg h2]
      split at h
      · rename_i h3; exact absurd h h3.2
      · rename_i h3
        rw [if_neg h3]
        exact ⟨by rw [errL], h⟩
theorem show_ok {vs : List Vr} {t : Tr} (h : errT vs t = 0) (hl : (rawT vs t 0).length ≤ 65536) : showTr vs t = (rawT vs t 0, 0) := by
  unfold showTr
  rw [if_neg (fun hc => hc h), if_neg (by omega)]
theorem show_bare {vs : List Vr} {t : Tr} (h : errT vs t = 0) (hl : (rawT vs t 0).length ≤ 65536) : showTr vs t.bare = (rawT vs t.bare 0, 0) := by
  refine show_ok (err_open h).1 ?_
  rw [raw_bare, List.length_append] at hl
  omega
theorem kid_deep {vs : List Vr} (hn : ∀ v ∈ vs, isName v.name.data.toList = true) (q : Tr) : deepB true (rawT vs q 0) = rawT vs q 1 := by
  have h := rawT_deep vs q 0 [] (clean_all hn q)
  rw [List.append_nil] at h
  rw [h, show deepB true [] = [] from rfl, List.append_nil]
theorem show_kid {vs : List Vr} (hn : ∀ v ∈ vs, isName v.name.data.toList = true) {t q : Tr} (h : errT vs t = 0) (hl : (rawT vs t 0).length ≤ 65536) {k : Nat} (hq : t.kids[k]? = some q) : showTr vs q = (rawT vs q 0, 0) ∧ (rawT vs q 0).length ≤ 65536 := by
  have h1 : (rawT vs q 0).length ≤ 65536 := by
    have h2 := deepB_len (rawT vs q 0) true
    rw [kid_deep hn] at h2
    have h3 := rawL_take_len (vs := vs) t.kids (k + 1) 1
    rw [rawL_take hq, List.length_append] at h3
    rw [raw_bare, List.length_append] at hl
    omega
  exact ⟨show_ok (errL_mem (err_open h).2 (List.mem_of_getElem? hq)) h1, h1⟩
/-- The last byte of a tree's text ends a line. -/
theorem linesS_last (d : Nat) : ∀ (L : List Bs), L ≠ [] → (linesS d L).getLast? = some 10
  | [], h => absurd rfl h
  | [l], _ => by rw [linesS, linesS]; simp
  | l :: x :: L, _ => by
    rw [linesS, List.getLast?_append, linesS_last d (x :: L) (by simp)]
    rfl
mutual
theorem rawT_last (vs : List Vr) : ∀ (t : Tr) (d : Nat), (rawT vs t d).getLast? = some 10
  | .mk k st f p loop at_ kids, d => by
    rw [rawT]
    rcases rawL_last vs kids (d + 1) with h | h
    · rw [h, List.append_nil]
      have hh : (headS k f at_ d).getLast? = some 10 := by rw [headS_eq]; simp
      split
      · cases hL : (linesT vs p loop).1 with
        | nil => rw [linesS, List.append_nil]; exact hh
        | cons x r => rw [List.getLast?_append, linesS_last d (x :: r) (by simp)]; rfl
      · rw [List.append_nil]; exact hh
    · rw [List.getLast?_append, h]; rfl
theorem rawL_last (vs : List Vr) : ∀ (l : List Tr) (d : Nat), rawL vs l d = [] ∨ (rawL vs l d).getLast? = some 10
  | [], d => by left; rw [rawL]
  | t :: r, d => by
    right
    rw [rawL]
    rcases rawL_last vs r d with h | h
    · rw [h, List.append_nil]; exact rawT_last vs t d
    · rw [List.getLast?_append, h]; rfl
end
end Go.Proofs.YtcjblbpkjegmiaaDoor
