/- Walk: ttext's Take$1 (the deferred recover), Take. -/
import Derived.Test.YtnbphgeepnknlaaGreatDoorQPrsO
import Derived.Defers
import Derived.Recover
namespace Go.Proofs.YtnbphgeepnknlaaGreatDoor
open Go.RowKit
set_option linter.unusedVariables false

/-- What was thrown, caught. -/
def caught (j : Nat) (x : Int) : List PanicEntry := [{ v := .iface 130 (.agg #[.int .i64 (j : Nat), .int .i64 x]), recovered := true }]
set_option maxRecDepth 100000 in
set_option maxHeartbeats 1000000 in
theorem ptake1_panic (b4 b5 b6 : Nat) (j : Nat) (x : Int) (w : World) (u0 u1 u2 u3 u5 u6 : Value) (h4 : w.heap[b4]? = some (.cells #[u0, u1, u2, u3] 25 (0, 0))) (h5 : w.heap[b5]? = some (.cells #[u5] 3 (0, 0))) (h6 : w.heap[b6]? = some (.cells #[u6] 26 (0, 0))) (hne : b4 ≠ b5) (hne2 : b4 ≠ b6) (hne3 : b5 ≠ b6) :
 CallsD Tryz.prog 66 #[.pointer (some ⟨b4, 0, none⟩), .pointer (some ⟨b5, 0, none⟩), .pointer (some ⟨b6, 0, none⟩)] (.panicking (thrown j x)) w fun e u' w' =>
  e = .returned (.tuple #[]) ∧ u' = .panicking (caught j x) ∧ w' = (((((((w.alloc (.cells #[.int .i64 (j : Nat), .int .i64 x] 130)).drew.setCell ⟨b4, 0, none⟩ (.int .i64 0)).setCell ⟨b4, 1, none⟩ (.int .i64 0)).setCell ⟨b4, 2, none⟩ (.string ⟨#[]⟩)).setCell ⟨b4, 3, none⟩ (.slice none 0 0)).setCell ⟨b5, 0, none⟩ (.int .i64 (j : Nat))).setCell ⟨b6, 0, none⟩ (.int .i64 x)) := by
 obtain ⟨⟨y0, p0⟩, ⟨y1, p1⟩, ⟨y2, p2⟩, y3, p3⟩ := cells4 h4
 have y5 : w.cell? ⟨b5, 0, none⟩ = some u5 := by rw [cell_of_row w b5 0 _ _ (0, 0) h5]; rfl
 have p5 : w.frozen? ⟨b5, 0, none⟩ = false := by simp [World.frozen?, h5]
 have y6 : w.cell? ⟨b6, 0, none⟩ = some u6 := by rw [cell_of_row w b6 0 _ _ (0, 0) h6]; rfl
 have p6 : w.frozen? ⟨b6, 0, none⟩ = false := by simp [World.frozen?, h6]
 have l4 := lt_of_heap h4
 have l5 := lt_of_heap h5
 have l6 := lt_of_heap h6
 have n4 : b4 ≠ w.heap.size := by omega
 have n5 : b5 ≠ w.heap.size := by omega
 have n6 : b6 ≠ w.heap.size := by omega
 obtain ⟨WW, hWW⟩ : ∃ WW, WW = (((((((w.alloc (.cells #[.int .i64 (j : Nat), .int .i64 x] 130)).drew.setCell ⟨b4, 0, none⟩ (.int .i64 0)).setCell ⟨b4, 1, none⟩ (.int .i64 0)).setCell ⟨b4, 2, none⟩ (.string ⟨#[]⟩)).setCell ⟨b4, 3, none⟩ (.slice none 0 0)).setCell ⟨b5, 0, none⟩ (.int .i64 (j : Nat))).setCell ⟨b6, 0, none⟩ (.int .i64 x)) := ⟨_, rfl⟩
 rw [← hWW]
 have HWW := Lib.hid hWW
 clear hWW
 refine callsD_of_wpS Tryz.func66 rfl fun c₀ cs hu => ?_
 apply wpS_seq
 apply wpS_region
 simp [wpOpsS, go_sem, recoverD, hu, Tryz.ntmps66, Exit.thenS, thrown]
 refine wpS_of_wp ?_
 obtain ⟨Q, hQ⟩ : ∃ Q : Exit → Act → World → Prop, Q = fun e a' w' => e = .normal ∧ a'.defers = [] ∧ w' = WW := ⟨_, rfl⟩
 refine Code.wp_mono (Q := Q) ?hq ?hw
 case hq =>
  intro e a' w' h
  rw [hQ] at h
  obtain ⟨rfl, hd, rfl⟩ := h
  refine ⟨hd, _, rfl, .tuple #[], results_none rfl _ _ _, ?_⟩
  simp [caught]
 case hw =>
  have HQP : Hid (∀ c a w, Q (.panic c) a w → False) := fun c a w h => by rw [hQ] at h; cases h.1
  have HQ := Lib.hid hQ
  clear hQ
  clear hu
  have hta : ∀ (v : Value) (w : World), (Instr.typeAssert (.iface 130 v) 20 130 true).run Tryz.prog w = .ok (.tuple #[v, .bool true]) w := fun _ _ => by kernel_rfl
  change Code.wp _ _ _ { tmps := #[.pointer (some ⟨b4, 0, none⟩), .pointer (some ⟨b5, 0, none⟩), .pointer (some ⟨b6, 0, none⟩), undef, undef, undef, .iface 130 (.agg #[.int .i64 j, .int .i64 x]), undef, undef, undef, undef, undef, undef, undef, undef, undef, undef], defers := [] } w
  go_wp2_with fail
  --REGION
  obtain ⟨bw, hbw⟩ : ∃ bw, bw = w.heap.size := ⟨_, rfl⟩
  obtain ⟨wb, hwb⟩ : ∃ wa, wa = w.alloc (.cells #[.int .i64 (j : Nat), .int .i64 x] 130) := ⟨_, rfl⟩
  obtain ⟨wa, hwad⟩ : ∃ wa, wa = wb.drew := ⟨_, rfl⟩
  have hwa : wa = (w.alloc (.cells #[.int .i64 (j : Nat), .int .i64 x] 130)).drew := by rw [hwad, hwb]
  have hrow : wa.heap[bw]? = some (.cells #[.int .i64 (j : Nat), .int .i64 x] 130 (0, 0)) := by rw [hwa, hbw]; exact heap_alloc_new w _
  have hold : ∀ q, q < bw → wa.heap[q]? = w.heap[q]? := fun q hq => by rw [hwa]; exact ((Below.refl w.heap.size w).alloc (Nat.le_refl _) _).block q (by omega)
  rw [← hwb, ← hbw]
  rw [← hbw] at n4 n5 n6 l4 l5 l6
  clear y0 y1 y2 y3 p0 p1 p2 p3 y5 p5 y6 p6
  obtain ⟨⟨y0, p0⟩, ⟨y1, p1⟩, ⟨y2, p2⟩, y3, p3⟩ := cells4 ((hold b4 l4).trans h4)
  have y5 : wa.cell? ⟨b5, 0, none⟩ = some u5 := by rw [cell_of_row wa b5 0 _ _ (0, 0) ((hold b5 l5).trans h5)]; rfl
  have p5 : wa.frozen? ⟨b5, 0, none⟩ = false := by simp [World.frozen?, (hold b5 l5).trans h5]
  have y6 : wa.cell? ⟨b6, 0, none⟩ = some u6 := by rw [cell_of_row wa b6 0 _ _ (0, 0) ((hold b6 l6).trans h6)]; rfl
  have p6 : wa.frozen? ⟨b6, 0, none⟩ = false := by simp [World.frozen?, (hold b6 l6).trans h6]
  have yw0 : wa.cell? ⟨bw, 0, none⟩ = some (.int .i64 (j : Nat)) := by rw [cell_of_row wa bw 0 _ _ (0, 0) hrow]; rfl
  have yw1 : wa.cell? ⟨bw, 1, none⟩ = some (.int .i64 x) := by rw [cell_of_row wa bw 1 _ _ (0, 0) hrow]; rfl
  have HWA := Lib.hid hwa
  clear hwa hwb hbw hrow hold h4 h5 h6 l4 l5 l6
  refine wp_region_held_drew (S := fun w' => w'.cell? ⟨bw, 0, none⟩ = some (.int .i64 (j : Nat)) ∧ w'.cell? ⟨bw, 1, none⟩ = some (.int .i64 x)) (by kernel_rfl) (by rw [← hwad]; exact ⟨yw0, yw1⟩) (fun hHeld => ?_)
  rw [← hwad] at hHeld ⊢
  clear hwad
  refine wpAnyH_take (i := 0) (oi := { dst := some 12, op := Op.build 25 #[], type := 25, pos := "ttext.go:354", after := #[], guard := none }) (v := ?_) rfl (by kernel_rfl) (by kernel_rfl) (by kernel_rfl) (fun _ _ _ h => (HQP.out _ _ _ h).elim) (Or.inl ⟨by rfl, ?hy⟩) (by assumption) ?_
  case hy =>
   intro w0 hSw
   have e0 := hSw.1
   have e1 := hSw.2
   clear hSw
   go_simp
   (first | done | with_reducible rfl)
  try simp only [Act.put, List.setIfInBounds_toArray, List.set_cons_zero, List.set_cons_succ]
  refine wpAnyH_take (i := 1) (oi := { dst := some 13, op := Op.fieldAddr 130 (Operand.tmp 4) 0, type := 0, pos := "ttext.go:354", after := #[{ on := 5, ground := Ground.gcOnly Departure.lateStores }], guard := none }) (v := ?_) rfl (by kernel_rfl) (by kernel_rfl) (by kernel_rfl) (fun _ _ _ h => (HQP.out _ _ _ h).elim) (Or.inl ⟨by rfl, ?hy⟩) (by assumption) ?_
  case hy =>
   intro w0 hSw
   have e0 := hSw.1
   have e1 := hSw.2
   clear hSw
   go_simp
   (first | done | with_reducible rfl)
  try simp only [Act.put, List.setIfInBounds_toArray, List.set_cons_zero, List.set_cons_succ]
  refine wpAnyH_take (i := 2) (oi := { dst := some 14, op := Op.load 3 (Operand.tmp 13), type := 3, pos := "ttext.go:354", after := #[{ on := 1, ground := Ground.data }, { on := 5, ground := Ground.gcOnly Departure.lateStores }], guard := none }) (v := ?_) rfl (by kernel_rfl) (by kernel_rfl) (by kernel_rfl) (fun _ _ _ h => (HQP.out _ _ _ h).elim) (Or.inl ⟨by rfl, ?hy⟩) (by assumption) ?_
  case hy =>
   intro w0 hSw
   have e0 := hSw.1
   have e1 := hSw.2
   clear hSw
   go_simp
   (first | done | with_reducible rfl)
  try simp only [Act.put, List.setIfInBounds_toArray, List.set_cons_zero, List.set_cons_succ]
  refine wpAnyH_take (i := 3) (oi := { dst := some 15, op := Op.fieldAddr 130 (Operand.tmp 4) 1, type := 0, pos := "ttext.go:354", after := #[{ on := 6, ground := Ground.gcOnly Departure.lateStores }], guard := none }) (v := ?_) rfl (by kernel_rfl) (by kernel_rfl) (by kernel_rfl) (fun _ _ _ h => (HQP.out _ _ _ h).elim) (Or.inl ⟨by rfl, ?hy⟩) (by assumption) ?_
  case hy =>
   intro w0 hSw
   have e0 := hSw.1
   have e1 := hSw.2
   clear hSw
   go_simp
   (first | done | with_reducible rfl)
  try simp only [Act.put, List.setIfInBounds_toArray, List.set_cons_zero, List.set_cons_succ]
  refine wpAnyH_take (i := 4) (oi := { dst := some 16, op := Op.load 26 (Operand.tmp 15), type := 26, pos := "ttext.go:354", after := #[{ on := 3, ground := Ground.data }, { on := 6, ground := Ground.gcOnly Departure.lateStores }], guard := none }) (v := ?_) rfl (by kernel_rfl) (by kernel_rfl) (by kernel_rfl) (fun _ _ _ h => (HQP.out _ _ _ h).elim) (Or.inl ⟨by rfl, ?hy⟩) (by assumption) ?_
  case hy =>
   intro w0 hSw
   have e0 := hSw.1
   have e1 := hSw.2
   clear hSw
   go_simp
   (first | done | with_reducible rfl)
  try simp only [Act.put, List.setIfInBounds_toArray, List.set_cons_zero, List.set_cons_succ]
  refine wpAnyH_ready (rs := [5]) (by kernel_rfl) (by simp) ?_
  refine AllReadyH.cons (o := { dst := none, op := Op.store 25 (Operand.tmp 0) (Operand.tmp 12), type := 0, pos := "ttext.go:354", after := #[{ on := 0, ground := Ground.data }, { on := 0, ground := Ground.phase }, { on := 1, ground := Ground.textOnly Departure.lateStores }, { on := 2, ground := Ground.textOnly Departure.lateStores }, { on := 3, ground := Ground.textOnly Departure.lateStores }, { on := 4, ground := Ground.textOnly Departure.lateStores }], guard := none }) rfl (fun K hK => ?_) AllReadyH.nil
  go_simp
  refine hK.out _ _ ⟨by rw [World.cell?_setCell_far _ _ _ _ n4, World.cell?_setCell_far _ _ _ _ n4, World.cell?_setCell_far _ _ _ _ n4, World.cell?_setCell_far _ _ _ _ n4]; exact hHeld.1, by rw [World.cell?_setCell_far _ _ _ _ n4, World.cell?_setCell_far _ _ _ _ n4, World.cell?_setCell_far _ _ _ _ n4, World.cell?_setCell_far _ _ _ _ n4]; exact hHeld.2⟩ (fun hHeld => ?_)
  clear hK K
  try simp only [Act.put, List.setIfInBounds_toArray, List.set_cons_zero, List.set_cons_succ]
  refine wpAnyH_ready (rs := [6]) (by kernel_rfl) (by simp) ?_
  refine AllReadyH.cons (o := { dst := none, op := Op.store 3 (Operand.tmp 1) (Operand.tmp 14), type := 0, pos := "ttext.go:354", after := #[{ on := 2, ground := Ground.data }, { on := 5, ground := Ground.chain }, { on := 0, ground := Ground.phase }, { on := 1, ground := Ground.phase }, { on := 2, ground := Ground.phase }, { on := 3, ground := Ground.textOnly Departure.lateStores }, { on := 4, ground := Ground.textOnly Departure.lateStores }, { on := 5, ground := Ground.phase }], guard := none }) rfl (fun K hK => ?_) AllReadyH.nil
  go_simp
  refine hK.out _ _ ⟨by rw [World.cell?_setCell_far _ _ _ _ n5]; exact hHeld.1, by rw [World.cell?_setCell_far _ _ _ _ n5]; exact hHeld.2⟩ (fun hHeld => ?_)
  clear hK K
  try simp only [Act.put, List.setIfInBounds_toArray, List.set_cons_zero, List.set_cons_succ]
  refine wpAnyH_ready (rs := [7]) (by kernel_rfl) (by simp) ?_
  refine AllReadyH.cons (o := { dst := none, op := Op.store 26 (Operand.tmp 2) (Operand.tmp 16), type := 0, pos := "ttext.go:354", after := #[{ on := 4, ground := Ground.data }, { on := 6, ground := Ground.chain }, { on := 0, ground := Ground.phase }, { on := 1, ground := Ground.phase }, { on := 2, ground := Ground.phase }, { on := 3, ground := Ground.phase }, { on := 4, ground := Ground.phase }, { on := 5, ground := Ground.phase }, { on := 6, ground := Ground.phase }], guard := none }) rfl (fun K hK => ?_) AllReadyH.nil
  go_simp
  refine hK.out _ _ ⟨by rw [World.cell?_setCell_far _ _ _ _ n6]; exact hHeld.1, by rw [World.cell?_setCell_far _ _ _ _ n6]; exact hHeld.2⟩ (fun hHeld => ?_)
  clear hK K
  try simp only [Act.put, List.setIfInBounds_toArray, List.set_cons_zero, List.set_cons_succ]
  refine wpAnyH_done (by kernel_rfl) ?_ _
  --END
  refine (show Q _ _ _ from ?_)
  rw [HQ.out]
  refine ⟨rfl, rfl, ?_⟩
  rw [HWW.out, HWA.out]
end Go.Proofs.YtnbphgeepnknlaaGreatDoor
