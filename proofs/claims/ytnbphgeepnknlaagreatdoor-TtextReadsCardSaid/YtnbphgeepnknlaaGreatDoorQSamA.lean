/- Walk: ref31.Same, at two terms that are the same. -/
import Derived.Test.YtnbphgeepnknlaaGreatDoorQManA
import Derived.Test.YtnbphgeepnknlaaGreatDoorQPrsA
import Derived.Deep.RegionHeld
namespace Go.Proofs.YtnbphgeepnknlaaGreatDoor
open Go.RowKit
set_option linter.unusedVariables false

set_option maxRecDepth 100000 in
set_option maxHeartbeats 8000000 in
theorem rsame_any : ∀ (N : Nat) (t : Tm) (A : Option Addr) (c : Nat) (A2 : Option Addr) (c2 : Nat) (w : World), t.size ≤ N → TmV w A c t → TmV w A2 c2 t →
 Calls Tryz.prog 15 #[t.val A c, t.val A2 c2] w fun e w' => e = .returned (.bool true) ∧ Below w.heap.size w w' := by
 intro N
 induction N with
 | zero =>
  intro t A c A2 c2 w hN
  cases t; rw [Tm.size] at hN; omega
 | succ N ih =>
  intro t A c A2 c2 w hN hV hV2
  obtain ⟨n, hn⟩ : ∃ n, n = t.kids.length := ⟨_, rfl⟩
  obtain ⟨F, hF⟩ : ∃ F : Ending → World → Prop, F = fun e w' => e = .returned (.bool true) ∧ Below w.heap.size w w' := ⟨_, rfl⟩
  rw [← hF]
  have hsz : t.size = 1 + Tm.sizeL t.kids := by cases t; rw [Tm.size]; rfl
  have hcap := hV.cap
  have hcapm := hV.capm
  unfold maxLen at hcapm
  have hcap2 := hV2.cap
  have hcapm2 := hV2.capm
  unfold maxLen at hcapm2
  rw [← hn] at hcap hcap2
  have hk := hV.kids
  have hk2 := hV2.kids
  obtain ⟨b1, hb1n⟩ : ∃ b, b = w.heap.size := ⟨_, rfl⟩
  obtain ⟨b2, hb2n⟩ : ∃ b, b = w.heap.size + 1 := ⟨_, rfl⟩
  obtain ⟨w2, hw2⟩ : ∃ w2, w2 = (w.alloc (.cells #[.int .i64 t.op, .int .i64 t.num, .string t.name, .slice A n c] 25)).alloc (.cells #[.int .i64 t.op, .int .i64 t.num, .string t.name, .slice A2 n c2] 25) := ⟨_, rfl⟩
  have hbA : Below w.heap.size w w2 := by rw [hw2]; exact ((Below.refl _ _).alloc (Nat.le_refl _) _).alloc (by simp) _
  have hs2 : w2.heap.size = w.heap.size + 2 := by rw [hw2]; simp
  have hx1 : w2.heap[b1]? = some (.cells #[.int .i64 t.op, .int .i64 t.num, .string t.name, .slice A n c] 25 (0, 0)) := by
   rw [hw2, hb1n]
   exact (((Below.refl _ _).alloc (Nat.le_refl _) _).block _ (by simp)).trans (heap_alloc_new w _)
  have hx2 : w2.heap[b2]? = some (.cells #[.int .i64 t.op, .int .i64 t.num, .string t.name, .slice A2 n c2] 25 (0, 0)) := by
   rw [hw2, hb2n]
   have h := heap_alloc_new (w.alloc (.cells #[.int .i64 t.op, .int .i64 t.num, .string t.name, .slice A n c] 25)) (.cells #[.int .i64 t.op, .int .i64 t.num, .string t.name, .slice A2 n c2] 25)
   simpa using h
  show Calls Tryz.prog 15 #[.agg #[.int .i64 t.op, .int .i64 t.num, .string t.name, .slice A t.kids.length c], .agg #[.int .i64 t.op, .int .i64 t.num, .string t.name, .slice A2 t.kids.length c2]] w F
  rw [← hn]
  have HF := Lib.hid hF
  have HIH := Lib.hid ih
  have HN := Lib.hid hn
  have HSZ := Lib.hid hsz
  have HK := Lib.hid hk
  have HK2 := Lib.hid hk2
  have HBA := Lib.hid hbA
  have HS2 := Lib.hid hs2
  have HX1 := Lib.hid hx1
  have HX2 := Lib.hid hx2
  have HW2 := Lib.hid hw2
  have HNN := Lib.hid hN
  have HB1N := Lib.hid hb1n
  have HB2N := Lib.hid hb2n
  have hb1w : b1 < w2.heap.size := by omega
  have hb2w : b2 < w2.heap.size := by omega
  have hww2 : w.heap.size ≤ w2.heap.size := by omega
  clear hF ih hn hsz hk hk2 hbA hs2 hw2 hV hV2 hN hb1n hb2n
  go_enter Tryz.func15, Tryz.ntmps15
  obtain ⟨⟨y0, -⟩, ⟨y1, -⟩, ⟨y2, -⟩, y3, -⟩ := cells4 hx1
  obtain ⟨⟨v0, -⟩, ⟨v1, -⟩, ⟨v2, -⟩, v3, -⟩ := cells4 hx2
  clear hx1 hx2
  go_wp2_with fail
  try rw [← HW2.out, ← HB2N.out, ← HB1N.out]
  try go_wp2_with fail
  clear y0 y1 y2 y3 v0 v1 v2 v3
  go_loopw [5] (fun si wr => ∃ k : Nat, k ≤ n ∧ si = .int .i64 k ∧ Below w2.heap.size w2 wr) (fun i _ => n - (intOf i).toNat)
  case atStart => exact ⟨0, Nat.zero_le _, rfl, Below.refl _ _⟩
  case round =>
   obtain ⟨k, hk, rfl, hbel⟩ := hrel
   have HB := Lib.hid hbel
   have hszr := hbel.size
   have kb1 : wr.cell? ⟨b1, 3, none⟩ = some (.slice A n c) := (cells4 ((hbel.block _ hb1w).trans HX1.out)).2.2.2.1
   have kb2 : wr.cell? ⟨b2, 3, none⟩ = some (.slice A2 n c2) := (cells4 ((hbel.block _ hb2w).trans HX2.out)).2.2.2.1
   have hb1r : b1 < wr.heap.size := by omega
   have hb2r : b2 < wr.heap.size := by omega
   have hbt : Below w.heap.size w wr := HBA.out.trans (hbel.mono hww2)
   by_cases hlt : k < n
   · obtain ⟨q, hq'⟩ : ∃ q, t.kids[k]? = some q := ⟨_, List.getElem?_eq_getElem (by have := HN.out; omega)⟩
     rcases HK.out with h9 | ⟨g, o, rfl, hg, hrow⟩
     · rw [h9] at hq'; simp at hq'
     rcases HK2.out with h9 | ⟨g2, o2, rfl, hg2, hrow2⟩
     · rw [h9] at hq'; simp at hq'
     have hat := (hrow.get hq').below hbt rfl hg
     obtain ⟨q0, q1, q2, A', c', q3, hVq⟩ := hat.open
     have hat2 := (hrow2.get hq').below hbt rfl hg2
     obtain ⟨r0, r1, r2, A2', c2', r3, hVq2⟩ := hat2.open
     have e1 : o + 4 * k = o + k * 4 := by omega
     have e2 : o2 + 4 * k = o2 + k * 4 := by omega
     rw [e1] at q0 q1 q2 q3
     rw [e2] at r0 r1 r2 r3
     have hgr : g < wr.heap.size := by have := hbt.size; omega
     have hgr2 : g2 < wr.heap.size := by have := hbt.size; omega
     have hqs : q.size ≤ N := by
      have h1 := Tm.sizeL_mem (List.mem_of_getElem? hq')
      have := HNN.out
      have := HSZ.out
      omega
     obtain ⟨wd, hwd⟩ : ∃ wd, wd = wr.drew := ⟨_, rfl⟩
     have hbd : Below wr.heap.size wr wd := by rw [hwd]; exact (Below.refl _ _).drew
     obtain ⟨nq, hnq⟩ : ∃ nq, nq = q.kids.length := ⟨_, rfl⟩
     have HC : Hid (Calls Tryz.prog 15 #[.agg #[.int .i64 q.op, .int .i64 q.num, .string q.name, .slice A' nq c'], .agg #[.int .i64 q.op, .int .i64 q.num, .string q.name, .slice A2' nq c2']] wd fun e w' => e = .returned (.bool true) ∧ Below wd.heap.size wd w') := by
      have h := HIH.out q A' c' A2' c2' wd hqs (hVq.below hbd rfl) (hVq2.below hbd rfl)
      unfold Tm.val at h
      rw [← hnq] at h
      exact h
     rw [← hnq] at q3 r3
     have HBD := Lib.hid hbd
     have hk0 : (0 : Int) ≤ (k : Int) := by omega
     have hk1 : (k : Int) < (n : Int) := by omega
     clear hnq hqs hVq hVq2 hat hat2 hrow hrow2 hq' e1 e2 hbel hbt
     go_wp2_with fail
     refine wp_region_held_drew (S := fun w' => Below wr.heap.size wr w') (by kernel_rfl) (by rw [← hwd]; exact hbd) (fun hHeld => ?_)
     rw [← hwd] at hHeld ⊢
     clear hwd hbd
     refine wpAnyH_take (i := 0) (oi := { dst := some 41, op := Op.fieldAddr 25 (Operand.tmp 2) 3, type := 0, pos := "ref.go:396", after := #[], guard := none }) (v := ?_) rfl (by kernel_rfl) (by kernel_rfl) (by kernel_rfl) (fun _ _ _ h => h) (Or.inl ⟨by rfl, ?hy⟩) (by assumption) ?_
     case hy =>
      intro w0 hSw
      clear hSw
      go_simp
      (first | done | with_reducible rfl)
     try simp only [Act.put, List.setIfInBounds_toArray, List.set_cons_zero, List.set_cons_succ]
     refine wpAnyH_take (i := 1) (oi := { dst := some 42, op := Op.load 23 (Operand.tmp 41), type := 23, pos := "ref.go:396", after := #[{ on := 0, ground := Ground.data }], guard := none }) (v := ?_) rfl (by kernel_rfl) (by kernel_rfl) (by kernel_rfl) (fun _ _ _ h => h) (Or.inl ⟨by rfl, ?hy⟩) (by assumption) ?_
     case hy =>
      intro w0 hSw
      have e0 := (hSw.cell (p := ⟨b1, 3, none⟩) hb1r).trans kb1
      have e1 := (hSw.cell (p := ⟨b2, 3, none⟩) hb2r).trans kb2
      have f0 := (hSw.cell (p := ⟨g, o + k * 4, none⟩) hgr).trans q0
      have f1 := (hSw.cell (p := ⟨g, o + k * 4 + 1, none⟩) hgr).trans q1
      have f2 := (hSw.cell (p := ⟨g, o + k * 4 + 2, none⟩) hgr).trans q2
      have f3 := (hSw.cell (p := ⟨g, o + k * 4 + 3, none⟩) hgr).trans q3
      have h0 := (hSw.cell (p := ⟨g2, o2 + k * 4, none⟩) hgr2).trans r0
      have h1 := (hSw.cell (p := ⟨g2, o2 + k * 4 + 1, none⟩) hgr2).trans r1
      have h2 := (hSw.cell (p := ⟨g2, o2 + k * 4 + 2, none⟩) hgr2).trans r2
      have h3 := (hSw.cell (p := ⟨g2, o2 + k * 4 + 3, none⟩) hgr2).trans r3
      clear hSw
      go_simp
      (first | done | with_reducible rfl)
     try simp only [Act.put, List.setIfInBounds_toArray, List.set_cons_zero, List.set_cons_succ]
     refine wpAnyH_take (i := 2) (oi := { dst := some 43, op := Op.move (Operand.tmp 5), type := 3, pos := "ref.go:396", after := #[], guard := none }) (v := ?_) rfl (by kernel_rfl) (by kernel_rfl) (by kernel_rfl) (fun _ _ _ h => h) (Or.inl ⟨by rfl, ?hy⟩) (by assumption) ?_
     case hy =>
      intro w0 hSw
      clear hSw
      go_simp
      (first | done | with_reducible rfl)
     try simp only [Act.put, List.setIfInBounds_toArray, List.set_cons_zero, List.set_cons_succ]
     refine wpAnyH_take (i := 3) (oi := { dst := some 44, op := Op.indexAddr 23 (Operand.tmp 42) (Operand.tmp 43), type := 0, pos := "ref.go:396", after := #[{ on := 1, ground := Ground.data }, { on := 2, ground := Ground.data }], guard := none }) (v := ?_) rfl (by kernel_rfl) (by kernel_rfl) (by kernel_rfl) (fun _ _ _ h => h) (Or.inl ⟨by rfl, ?hy⟩) (by assumption) ?_
     case hy =>
      intro w0 hSw
      clear hSw
      go_simp
      (first | done | with_reducible rfl)
     try simp only [Act.put, List.setIfInBounds_toArray, List.set_cons_zero, List.set_cons_succ]
     refine wpAnyH_take (i := 4) (oi := { dst := some 45, op := Op.load 25 (Operand.tmp 44), type := 25, pos := "ref.go:396", after := #[{ on := 3, ground := Ground.data }], guard := none }) (v := ?_) rfl (by kernel_rfl) (by kernel_rfl) (by kernel_rfl) (fun _ _ _ h => h) (Or.inl ⟨by rfl, ?hy⟩) (by assumption) ?_
     case hy =>
      intro w0 hSw
      have e0 := (hSw.cell (p := ⟨b1, 3, none⟩) hb1r).trans kb1
      have e1 := (hSw.cell (p := ⟨b2, 3, none⟩) hb2r).trans kb2
      have f0 := (hSw.cell (p := ⟨g, o + k * 4, none⟩) hgr).trans q0
      have f1 := (hSw.cell (p := ⟨g, o + k * 4 + 1, none⟩) hgr).trans q1
      have f2 := (hSw.cell (p := ⟨g, o + k * 4 + 2, none⟩) hgr).trans q2
      have f3 := (hSw.cell (p := ⟨g, o + k * 4 + 3, none⟩) hgr).trans q3
      have h0 := (hSw.cell (p := ⟨g2, o2 + k * 4, none⟩) hgr2).trans r0
      have h1 := (hSw.cell (p := ⟨g2, o2 + k * 4 + 1, none⟩) hgr2).trans r1
      have h2 := (hSw.cell (p := ⟨g2, o2 + k * 4 + 2, none⟩) hgr2).trans r2
      have h3 := (hSw.cell (p := ⟨g2, o2 + k * 4 + 3, none⟩) hgr2).trans r3
      clear hSw
      go_simp
      (first | done | with_reducible rfl)
     try simp only [Act.put, List.setIfInBounds_toArray, List.set_cons_zero, List.set_cons_succ]
     refine wpAnyH_take (i := 5) (oi := { dst := some 46, op := Op.fieldAddr 25 (Operand.tmp 3) 3, type := 0, pos := "ref.go:396", after := #[], guard := none }) (v := ?_) rfl (by kernel_rfl) (by kernel_rfl) (by kernel_rfl) (fun _ _ _ h => h) (Or.inl ⟨by rfl, ?hy⟩) (by assumption) ?_
     case hy =>
      intro w0 hSw
      clear hSw
      go_simp
      (first | done | with_reducible rfl)
     try simp only [Act.put, List.setIfInBounds_toArray, List.set_cons_zero, List.set_cons_succ]
     refine wpAnyH_take (i := 6) (oi := { dst := some 47, op := Op.load 23 (Operand.tmp 46), type := 23, pos := "ref.go:396", after := #[{ on := 5, ground := Ground.data }], guard := none }) (v := ?_) rfl (by kernel_rfl) (by kernel_rfl) (by kernel_rfl) (fun _ _ _ h => h) (Or.inl ⟨by rfl, ?hy⟩) (by assumption) ?_
     case hy =>
      intro w0 hSw
      have e0 := (hSw.cell (p := ⟨b1, 3, none⟩) hb1r).trans kb1
      have e1 := (hSw.cell (p := ⟨b2, 3, none⟩) hb2r).trans kb2
      have f0 := (hSw.cell (p := ⟨g, o + k * 4, none⟩) hgr).trans q0
      have f1 := (hSw.cell (p := ⟨g, o + k * 4 + 1, none⟩) hgr).trans q1
      have f2 := (hSw.cell (p := ⟨g, o + k * 4 + 2, none⟩) hgr).trans q2
      have f3 := (hSw.cell (p := ⟨g, o + k * 4 + 3, none⟩) hgr).trans q3
      have h0 := (hSw.cell (p := ⟨g2, o2 + k * 4, none⟩) hgr2).trans r0
      have h1 := (hSw.cell (p := ⟨g2, o2 + k * 4 + 1, none⟩) hgr2).trans r1
      have h2 := (hSw.cell (p := ⟨g2, o2 + k * 4 + 2, none⟩) hgr2).trans r2
      have h3 := (hSw.cell (p := ⟨g2, o2 + k * 4 + 3, none⟩) hgr2).trans r3
      clear hSw
      go_simp
      (first | done | with_reducible rfl)
     try simp only [Act.put, List.setIfInBounds_toArray, List.set_cons_zero, List.set_cons_succ]
     refine wpAnyH_take (i := 7) (oi := { dst := some 48, op := Op.move (Operand.tmp 5), type := 3, pos := "ref.go:396", after := #[], guard := none }) (v := ?_) rfl (by kernel_rfl) (by kernel_rfl) (by kernel_rfl) (fun _ _ _ h => h) (Or.inl ⟨by rfl, ?hy⟩) (by assumption) ?_
     case hy =>
      intro w0 hSw
      clear hSw
      go_simp
      (first | done | with_reducible rfl)
     try simp only [Act.put, List.setIfInBounds_toArray, List.set_cons_zero, List.set_cons_succ]
     refine wpAnyH_take (i := 8) (oi := { dst := some 49, op := Op.indexAddr 23 (Operand.tmp 47) (Operand.tmp 48), type := 0, pos := "ref.go:396", after := #[{ on := 6, ground := Ground.data }, { on := 7, ground := Ground.data }], guard := none }) (v := ?_) rfl (by kernel_rfl) (by kernel_rfl) (by kernel_rfl) (fun _ _ _ h => h) (Or.inl ⟨by rfl, ?hy⟩) (by assumption) ?_
     case hy =>
      intro w0 hSw
      clear hSw
      go_simp
      (first | done | with_reducible rfl)
     try simp only [Act.put, List.setIfInBounds_toArray, List.set_cons_zero, List.set_cons_succ]
     refine wpAnyH_take (i := 9) (oi := { dst := some 50, op := Op.load 25 (Operand.tmp 49), type := 25, pos := "ref.go:396", after := #[{ on := 8, ground := Ground.data }], guard := none }) (v := ?_) rfl (by kernel_rfl) (by kernel_rfl) (by kernel_rfl) (fun _ _ _ h => h) (Or.inl ⟨by rfl, ?hy⟩) (by assumption) ?_
     case hy =>
      intro w0 hSw
      have e0 := (hSw.cell (p := ⟨b1, 3, none⟩) hb1r).trans kb1
      have e1 := (hSw.cell (p := ⟨b2, 3, none⟩) hb2r).trans kb2
      have f0 := (hSw.cell (p := ⟨g, o + k * 4, none⟩) hgr).trans q0
      have f1 := (hSw.cell (p := ⟨g, o + k * 4 + 1, none⟩) hgr).trans q1
      have f2 := (hSw.cell (p := ⟨g, o + k * 4 + 2, none⟩) hgr).trans q2
      have f3 := (hSw.cell (p := ⟨g, o + k * 4 + 3, none⟩) hgr).trans q3
      have h0 := (hSw.cell (p := ⟨g2, o2 + k * 4, none⟩) hgr2).trans r0
      have h1 := (hSw.cell (p := ⟨g2, o2 + k * 4 + 1, none⟩) hgr2).trans r1
      have h2 := (hSw.cell (p := ⟨g2, o2 + k * 4 + 2, none⟩) hgr2).trans r2
      have h3 := (hSw.cell (p := ⟨g2, o2 + k * 4 + 3, none⟩) hgr2).trans r3
      clear hSw
      go_simp
      (first | done | with_reducible rfl)
     try simp only [Act.put, List.setIfInBounds_toArray, List.set_cons_zero, List.set_cons_succ]
     refine wpAnyH_ready (rs := [10]) (by kernel_rfl) (by simp) ?_
     refine AllReadyH.cons (o := { dst := some 51, op := Op.call { callee := Callee.value (Operand.func 15), args := #[Operand.tmp 45, Operand.tmp 50], argTypes := #[25, 25] }, type := 4, pos := "ref.go:396", after := #[{ on := 4, ground := Ground.data }, { on := 9, ground := Ground.data }], guard := none }) rfl (fun K hK => ?_) AllReadyH.nil
     go_simp
     with_reducible refine (HC.out).mono ?_
     rintro e w6 ⟨rfl, hb6⟩
     have HB6 := Lib.hid (HBD.out.trans (hb6.mono HBD.out.size))
     clear hb6 q0 q1 q2 q3 r0 r1 r2 r3 kb1 kb2
     refine hK.out _ _ HB6.out (fun hHeld => ?_)
     clear hK K
     try simp only [Act.put, List.setIfInBounds_toArray, List.set_cons_zero, List.set_cons_succ]
     refine wpAnyH_take (i := 11) (oi := { dst := some 52, op := Op.unOp UnOp.not 4 (Operand.tmp 51), type := 4, pos := "ref.go:396", after := #[{ on := 10, ground := Ground.data }], guard := none }) (v := ?_) rfl (by kernel_rfl) (by kernel_rfl) (by kernel_rfl) (fun _ _ _ h => h) (Or.inl ⟨by rfl, ?hy⟩) (by assumption) ?_
     case hy =>
      intro w0 hSw
      clear hSw
      go_simp
      (first | done | with_reducible rfl)
     try simp only [Act.put, List.setIfInBounds_toArray, List.set_cons_zero, List.set_cons_succ]
     refine wpAnyH_done (by kernel_rfl) ?_ _
     clear hHeld
     go_wp2_with fail
     go_roundw
     case rel => exact ⟨k + 1, by omega, by go_num, HB.out.trans (HB6.out.mono hszr)⟩
     case measure => simp [intOf]; omega
   · have hk1 : ¬ (k : Int) < (n : Int) := by omega
     have HBE := Lib.hid hbt
     clear hlt hbel hbt
     go_wp2_with fail
     rw [HF.out]
     exact ⟨rfl, HBE.out⟩
end Go.Proofs.YtnbphgeepnknlaaGreatDoor
