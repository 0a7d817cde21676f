/- Walk: ref31.Many. -/
import Derived.Test.YtnbphgeepnknlaaGreatDoorQTrmF
namespace Go.Proofs.YtnbphgeepnknlaaGreatDoor
open Go.RowKit
set_option linter.unusedVariables false

/-- What Many counts, where at most m is asked and s is the count. -/
def MnQ (m : Int) (s : Nat) (r : Int) : Prop := 1 ≤ r ∧ (0 ≤ m → r ≤ m + 1) ∧ (m < 0 → r = 1) ∧ (r ≤ m → r = (s : Int))
theorem Tm.sizeL_take {l : List Tm} {k : Nat} {t : Tm} (h : l[k]? = some t) : Tm.sizeL (l.take (k + 1)) = Tm.sizeL (l.take k) + t.size := by
 obtain ⟨hj, hj2⟩ := List.getElem?_eq_some_iff.1 h
 rw [List.take_succ_eq_append_getElem hj, hj2]
 generalize l.take k = a
 induction a with
 | nil => simp [Tm.sizeL]
 | cons x r ih => rw [List.cons_append, Tm.sizeL, Tm.sizeL, ih]; omega
set_option maxRecDepth 100000 in
set_option maxHeartbeats 4000000 in
theorem rmany_any : ∀ (N : Nat) (t : Tm) (m : Int) (A : Option Addr) (c : Nat) (w : World), t.size ≤ N → TmV w A c t → -1000000 ≤ m → m ≤ 1000000 →
 Calls Tryz.prog 47 #[t.val A c, .int .i64 m] w fun e w' => (∃ r : Int, e = .returned (.int .i64 r) ∧ MnQ m t.size r) ∧ Below w.heap.size w w' := by
 intro N
 induction N with
 | zero =>
  intro t m A c w hN
  cases t; rw [Tm.size] at hN; omega
 | succ N ih =>
  intro t m A c w hN hV hm1 hm2
  obtain ⟨n, hn⟩ : ∃ n, n = t.kids.length := ⟨_, rfl⟩
  obtain ⟨F, hF⟩ : ∃ F : Ending → World → Prop, F = fun e w' => (∃ r : Int, e = .returned (.int .i64 r) ∧ MnQ m t.size r) ∧ Below w.heap.size w w' := ⟨_, rfl⟩
  rw [← hF]
  have hsz : t.size = 1 + Tm.sizeL t.kids := by cases t; rw [Tm.size]; rfl
  have hcap := hV.cap
  have hcapm := hV.capm
  unfold maxLen at hcapm
  rw [← hn] at hcap
  have hk := hV.kids
  obtain ⟨w1, hw1⟩ : ∃ w1, w1 = w.alloc (.cells #[.int .i64 t.op, .int .i64 t.num, .string t.name, .slice A n c] 25) := ⟨_, rfl⟩
  have hb1 : Below w.heap.size w w1 := by rw [hw1]; exact (Below.refl _ _).alloc (Nat.le_refl _) _
  have hs1 : w1.heap.size = w.heap.size + 1 := by rw [hw1]; simp
  have hbx : w1.heap[w.heap.size]? = some (.cells #[.int .i64 t.op, .int .i64 t.num, .string t.name, .slice A n c] 25 (0, 0)) := by rw [hw1]; exact heap_alloc_new w _
  show Calls Tryz.prog 47 #[.agg #[.int .i64 t.op, .int .i64 t.num, .string t.name, .slice A t.kids.length c], .int .i64 m] w F
  rw [← hn]
  have HF := Lib.hid hF
  have HIH := Lib.hid ih
  have HN := Lib.hid hn
  have HSZ := Lib.hid hsz
  have HK := Lib.hid hk
  have HB1 := Lib.hid hb1
  have HS1 := Lib.hid hs1
  have HBX := Lib.hid hbx
  have HW1 := Lib.hid hw1
  have HNN := Lib.hid hN
  clear hF ih hn hsz hk hb1 hs1 hbx hw1 hV hN
  go_enter Tryz.func47, Tryz.ntmps47
  go_wp2_with fail
  rw [← HW1.out]
  go_loopw [5, 6] (fun sm si wr => ∃ (k : Nat) (x : Int), k ≤ n ∧ sm = .int .i64 x ∧ si = .int .i64 k ∧ MnQ m (1 + Tm.sizeL (t.kids.take k)) x ∧ Below w1.heap.size w1 wr) (fun _ i _ => n - (intOf i).toNat)
  case atStart => exact ⟨0, 1, Nat.zero_le _, rfl, rfl, ⟨Int.le_refl _, fun h => by omega, fun _ => rfl, fun _ => by simp [Tm.sizeL]⟩, Below.refl _ _⟩
  case round =>
   obtain ⟨k, x, hk, rfl, rfl, hq, hbel⟩ := hrel
   have HQ := Lib.hid hq
   have HB := Lib.hid hbel
   have hszr := hbel.size
   have hbw : w.heap.size < wr.heap.size := by have := HS1.out; omega
   have kc3 : wr.cell? ⟨w.heap.size, 3, none⟩ = some (.slice A n c) := by rw [cell_of_row wr w.heap.size 3 _ _ (0, 0) ((hbel.block _ (by have := HS1.out; omega)).trans HBX.out)]; rfl
   have hbt : Below w.heap.size w wr := HB1.out.trans (hbel.mono (by have := HS1.out; omega))
   by_cases hgo : k < n ∧ x ≤ m
   · obtain ⟨hlt, hx0⟩ := hgo
     obtain ⟨q, hq'⟩ : ∃ q, t.kids[k]? = some q := ⟨_, List.getElem?_eq_getElem (by have := HN.out; omega)⟩
     rcases HK.out with h9 | ⟨g, o, rfl, hg, hrow⟩
     · rw [h9] at hq'; simp at hq'
     have hat := (hrow.get hq').below hbt rfl hg
     obtain ⟨q0, q1, q2, A', c', q3, hVq⟩ := hat.open
     have e1 : o + 4 * k = o + k * 4 := by omega
     rw [e1] at q0 q1 q2 q3
     have hgr : g < wr.heap.size := by have := hbt.size; omega
     have HTK := Lib.hid (Tm.sizeL_take hq')
     have hqs : q.size ≤ N := by
      have h1 := Tm.sizeL_mem (List.mem_of_getElem? hq')
      have := HNN.out
      have := HSZ.out
      omega
     have hx1 : 1 ≤ x := HQ.out.1
     have hcall := HIH.out q (m - x) A' c' wr hqs hVq (by omega) (by omega)
     have hqz : q.size = 1 + Tm.sizeL q.kids := by cases q; rw [Tm.size]; rfl
     have HQZ := Lib.hid hqz
     obtain ⟨nq, hnq⟩ : ∃ nq, nq = q.kids.length := ⟨_, rfl⟩
     have hcall' : Calls Tryz.prog 47 #[.agg #[.int .i64 q.op, .int .i64 q.num, .string q.name, .slice A' nq c'], .int .i64 (m - x)] wr fun e w' => (∃ r : Int, e = .returned (.int .i64 r) ∧ MnQ (m - x) q.size r) ∧ Below wr.heap.size wr w' := by rw [hnq]; exact hcall
     rw [← hnq] at q3
     have HC := Lib.hid hcall'
     have hk0 : (0 : Int) ≤ (k : Int) := by omega
     have hk1 : (k : Int) < (n : Int) := by omega
     clear hcall hcall' hnq hqz hqs hVq hat hrow hq' e1 hbel hq hbt
     go_wp2_with fail
     refine (HC.out).mono ?_
     rintro e w2 ⟨⟨r, rfl, hr⟩, hb2⟩
     have HR : Hid (MnQ m (1 + Tm.sizeL (t.kids.take (k + 1))) (x + r)) := by
      obtain ⟨a1, a2, a3, a4⟩ := HQ.out
      obtain ⟨b1, b2, b3, b4⟩ := hr
      have := HTK.out
      have h0 : 0 ≤ m - x := by omega
      have h2 := b2 h0
      refine ⟨by omega, fun h => by omega, fun h => by omega, fun h => ?_⟩
      have := a4 hx0
      have := b4 (by omega)
      omega
     have hr1 : 1 ≤ r ∧ r ≤ 1000002 := by
      obtain ⟨b1, b2, b3, b4⟩ := hr
      have := b2 (by omega)
      omega
     obtain ⟨hr0, hr2⟩ := hr1
     have HB3 := Lib.hid (HB.out.trans (hb2.mono hszr))
     clear hb2 hr q0 q1 q2 q3 kc3
     go_wp2_with fail
     go_roundw
     case rel => exact ⟨k + 1, x + r, by omega, by go_num, by go_num, HR.out, HB3.out⟩
     case measure => simp [intOf]; omega
   · have HE : Hid (MnQ m t.size x) := by
      obtain ⟨a1, a2, a3, a4⟩ := HQ.out
      refine ⟨a1, a2, a3, fun h => ?_⟩
      have hkn : k = n := by
       by_cases h2 : k < n
       · exact absurd ⟨h2, h⟩ hgo
       · omega
      have := a4 h
      rw [hkn, List.take_of_length_le (by rw [← HN.out]; exact Nat.le_refl _)] at this
      have := HSZ.out
      omega
     have HBE := Lib.hid hbt
     by_cases hlt : k < n
     · have hk1 : (k : Int) < (n : Int) := by omega
       have hx0 : ¬ x ≤ m := fun h => hgo ⟨hlt, h⟩
       clear hgo hlt hq hbel hbt
       go_wp2_with fail
       rw [HF.out]
       exact ⟨⟨x, rfl, HE.out⟩, HBE.out⟩
     · have hk1 : ¬ (k : Int) < (n : Int) := by omega
       clear hgo hlt hq hbel hbt
       go_wp2_with fail
       rw [HF.out]
       exact ⟨⟨x, rfl, HE.out⟩, HBE.out⟩

end Go.Proofs.YtnbphgeepnknlaaGreatDoor
