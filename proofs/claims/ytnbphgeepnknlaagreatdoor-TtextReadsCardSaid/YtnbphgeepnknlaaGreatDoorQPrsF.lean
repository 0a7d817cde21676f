/- Walk: ttext's reader.sum$1, reader.sum, reader.imp$1. Walk: ttext's reader.sum. Walk: ttext's reader.term. Walk: ttext's reader.imp. -/
import Derived.Test.YtnbphgeepnknlaaGreatDoorQPrsE
namespace Go.Proofs.YtnbphgeepnknlaaGreatDoor
open Go.RowKit
set_option linter.unusedVariables false

/-- The box rb holds the pointer to the reader. -/
def BoxR (R rb : Nat) (w : World) : Prop := w.cell? ⟨rb, 0, none⟩ = some (.pointer (some ⟨R, 0, none⟩)) ∧ rb < w.heap.size ∧ rb ≠ R
theorem BoxR.only {R rb : Nat} {w w' : World} (h : BoxR R rb w) (ho : Only (fun q => q = R) w w') : BoxR R rb w' := ⟨by rw [ho.cell h.2.1 h.2.2]; exact h.1, Nat.lt_of_lt_of_le h.2.1 ho.size, h.2.2⟩
set_option maxRecDepth 100000 in
set_option maxHeartbeats 8000000 in
theorem psum1_any (R : Nat) (A : Option Addr) (c d : Nat) (l : List Tok) (rb : Nat) (P : Par) (hF : FnC R A c d l 216 (.pointer (some ⟨R, 0, none⟩)) (fun _ => True) P) :
 FnC R A c d l 215 (.pointer (some ⟨rb, 0, none⟩)) (BoxR R rb) (left l P [16, 17]) := by
 intro i w hi hR hP hw
 have hRlt := hR.lt
 obtain ⟨w1, hw1⟩ : ∃ w1, w1 = w.alloc (.cells #[.int .i64 0, .int .i64 0, .string ⟨#[]⟩, .slice none 0 0] 25) := ⟨_, rfl⟩
 have hb1 : Below w.heap.size w w1 := by rw [hw1]; exact (Below.refl _ _).alloc (Nat.le_refl _) _
 have hs1 : w1.heap.size = w.heap.size + 1 := by rw [hw1]; simp
 have hbx : w1.heap[w.heap.size]? = some (.cells #[.int .i64 0, .int .i64 0, .string ⟨#[]⟩, .slice none 0 0] 25 (0, 0)) := by rw [hw1]; exact heap_alloc_new w _
 have ho1 : Only (fun q => q = R) w w1 := Only.of_below hb1
 have k0 := hw.1
 have k0' := (hw.only ho1).1
 have krb := hw.2.1
 obtain ⟨w2, hw2⟩ : ∃ w2, w2 = w1.alloc (.cells #[.int .i64 16, .int .i64 17] 3) := ⟨_, rfl⟩
 have hb2 : Below w1.heap.size w1 w2 := by rw [hw2]; exact (Below.refl _ _).alloc (Nat.le_refl _) _
 have hs2 : w2.heap.size = w1.heap.size + 1 := by rw [hw2]; simp
 have ho2 : Only (fun q => q = R) w w2 := ho1.trans (Only.of_below hb2)
 have hR2 : Rdr w2 R A l.length c i d := (hR.below hb1 hRlt).below hb2 (by omega)
 have hops : OpsAt w2 w1.heap.size [16, 17] := by rw [hw2]; exact ops_new w1 [16, 17]
 have hcall : Calls Tryz.prog 214 #[.pointer (some ⟨R, 0, none⟩), .func (.func 216) #[.pointer (some ⟨R, 0, none⟩)] #[], .slice (some ⟨w1.heap.size, 0, none⟩) 2 2] w2 (PQ R A c d l i (left l P [16, 17] i) w2) := pleft_any R A c d l 216 (.pointer (some ⟨R, 0, none⟩)) true (fun _ => True) P w1.heap.size 2 [16, 17] i w2 (fun _ _ => by kernel_rfl) (fun _ _ _ _ => trivial) hF hi hR2 (hP.only ho2) trivial hops (by decide) (by omega) (by omega)
 rw [hs1] at hcall
 have hbx2 := (hb2.block w.heap.size (by omega)).trans hbx
 obtain ⟨r, hr⟩ : ∃ r, r = left l P [16, 17] i := ⟨_, rfl⟩
 obtain ⟨F, hF0⟩ : ∃ F, F = PQ R A c d l i (left l P [16, 17] i) w := ⟨_, rfl⟩
 have HRE : Hid (F = PQ R A c d l i r w) := by show _ = _; rw [hF0, hr]
 rw [← hF0]
 rw [← hr] at hcall
 have HC := Lib.hid hcall
 have HW1 := Lib.hid hw1
 have HW2 := Lib.hid hw2
 have HO2 := Lib.hid ho2
 have HBX2 := Lib.hid hbx2
 clear hcall hr hF0 hw1 hw2 hb1 hb2 ho1 ho2 hbx hbx2 hF hP hw hR hops hR2
 go_enter Tryz.func215, Tryz.ntmps215
 go_wp2_with fail
 rw [← HW1.out]
 go_wp2_with fail
 rw [← HW2.out]
 refine (HC.out).mono ?_
 intro e w4 hq
 cases r with
 | bad j x =>
  obtain ⟨rfl, ho4⟩ := hq
  refine (show _ ∧ _ from ⟨rfl, ?_⟩)
  rw [HRE.out]
  exact ⟨rfl, HO2.out.trans ho4⟩
 | ok t j =>
  obtain ⟨⟨A', c', rfl, hV⟩, hij, hjl, hR4, ho4⟩ := hq
  have hbw := (ho4.block w.heap.size (by omega) (by omega)).trans HBX2.out
  have hs4 := ho4.size
  obtain ⟨n2, hn2⟩ : ∃ n2, n2 = t.kids.length := ⟨_, rfl⟩
  have hend := fun v0 v1 v2 v3 => pq_end v0 v1 v2 v3 hij hjl hRlt hR4 (HO2.out.trans ho4) (hV.keep KeepS.refl (fun q _ h => by omega))
  unfold Tm.val at hend ⊢
  rw [← hn2] at hend ⊢
  have HEND := Lib.hid hend
  have HBW := Lib.hid hbw
  obtain ⟨⟨v0, z0⟩, ⟨v1, z1⟩, ⟨v2, z2⟩, v3, z3⟩ := cells4 hbw
  clear hV hR4 ho4 hn2 hij hend hbw
  go_wp2_with fail
  refine bodyPost_ret (results_cell_row (t := 25) (fr := (0, 0)) rfl _ _ w.heap.size _ _ rfl (res4 HBW.out) Tryz.underlying25 rfl (by kernel_rfl)) rfl ?_
  rw [HRE.out]
  exact HEND.out _ _ _ _
set_option maxRecDepth 100000 in
set_option maxHeartbeats 8000000 in
theorem pimp1_any (R : Nat) (A : Option Addr) (c d : Nat) (l : List Tok) (rb : Nat) (P : Par) (hF : FnC R A c d l 172 (.pointer (some ⟨R, 0, none⟩)) (fun _ => True) P) :
 FnC R A c d l 171 (.pointer (some ⟨rb, 0, none⟩)) (BoxR R rb) (many l 6 P) := by
 intro i w hi hR hP hw
 have hRlt := hR.lt
 obtain ⟨w1, hw1⟩ : ∃ w1, w1 = w.alloc (.cells #[.int .i64 0, .int .i64 0, .string ⟨#[]⟩, .slice none 0 0] 25) := ⟨_, rfl⟩
 have hb1 : Below w.heap.size w w1 := by rw [hw1]; exact (Below.refl _ _).alloc (Nat.le_refl _) _
 have hs1 : w1.heap.size = w.heap.size + 1 := by rw [hw1]; simp
 have hbx : w1.heap[w.heap.size]? = some (.cells #[.int .i64 0, .int .i64 0, .string ⟨#[]⟩, .slice none 0 0] 25 (0, 0)) := by rw [hw1]; exact heap_alloc_new w _
 have ho1 : Only (fun q => q = R) w w1 := Only.of_below hb1
 have k0 := hw.1
 have k0' := (hw.only ho1).1
 have krb := hw.2.1
 have hR1 : Rdr w1 R A l.length c i d := hR.below hb1 hRlt
 have hcall : Calls Tryz.prog 170 #[.pointer (some ⟨R, 0, none⟩), .int .i64 6, .func (.func 172) #[.pointer (some ⟨R, 0, none⟩)] #[]] w1 (PQ R A c d l i (many l 6 P i) w1) := pmany_any R A c d l 172 (.pointer (some ⟨R, 0, none⟩)) true (fun _ => True) P 6 i w1 (fun _ _ => by kernel_rfl) (fun _ _ _ _ => trivial) hF hi hR1 (hP.only ho1) trivial
 obtain ⟨r, hr⟩ : ∃ r, r = many l 6 P i := ⟨_, rfl⟩
 obtain ⟨F, hF0⟩ : ∃ F, F = PQ R A c d l i (many l 6 P i) w := ⟨_, rfl⟩
 have HRE : Hid (F = PQ R A c d l i r w) := by show _ = _; rw [hF0, hr]
 rw [← hF0]
 rw [← hr] at hcall
 have HC := Lib.hid hcall
 have HW1 := Lib.hid hw1
 have HO1 := Lib.hid ho1
 have HBX1 := Lib.hid hbx
 clear hcall hr hF0 hw1 hb1 ho1 hbx hF hP hw hR hR1
 go_enter Tryz.func171, Tryz.ntmps171
 go_wp2_with fail
 rw [← HW1.out]
 refine (HC.out).mono ?_
 intro e w4 hq
 cases r with
 | bad j x =>
  obtain ⟨rfl, ho4⟩ := hq
  refine (show _ ∧ _ from ⟨rfl, ?_⟩)
  rw [HRE.out]
  exact ⟨rfl, HO1.out.trans ho4⟩
 | ok t j =>
  obtain ⟨⟨A', c', rfl, hV⟩, hij, hjl, hR4, ho4⟩ := hq
  have hbw := (ho4.block w.heap.size (by omega) (by omega)).trans HBX1.out
  have hs4 := ho4.size
  obtain ⟨n2, hn2⟩ : ∃ n2, n2 = t.kids.length := ⟨_, rfl⟩
  have hend := fun v0 v1 v2 v3 => pq_end v0 v1 v2 v3 hij hjl hRlt hR4 (HO1.out.trans ho4) (hV.keep KeepS.refl (fun q _ h => by omega))
  unfold Tm.val at hend ⊢
  rw [← hn2] at hend ⊢
  have HEND := Lib.hid hend
  have HBW := Lib.hid hbw
  obtain ⟨⟨v0, z0⟩, ⟨v1, z1⟩, ⟨v2, z2⟩, v3, z3⟩ := cells4 hbw
  clear hV hR4 ho4 hn2 hij hend hbw
  go_wp2_with fail
  refine bodyPost_ret (results_cell_row (t := 25) (fr := (0, 0)) rfl _ _ w.heap.size _ _ rfl (res4 HBW.out) Tryz.underlying25 rfl (by kernel_rfl)) rfl ?_
  rw [HRE.out]
  exact HEND.out _ _ _ _
end Go.Proofs.YtnbphgeepnknlaaGreatDoor
namespace Go.Proofs.YtnbphgeepnknlaaGreatDoor
open Go.RowKit
set_option linter.unusedVariables false

/-- What a parser leaves, seen from an earlier world. -/
theorem PQ.back {R c d i : Nat} {A : Option Addr} {l : List Tok} {r : Rs Tm} {w wb w' : World} {e : Ending} (h : PQ R A c d l i r wb e w') (ho : Only (fun q => q = R) w wb) : PQ R A c d l i r w e w' := by
 have hs := ho.size
 cases r with
 | bad j x => exact ⟨h.1, ho.trans h.2⟩
 | ok t j =>
  obtain ⟨⟨A', c', he, hV⟩, h1, h2, h3, h4⟩ := h
  exact ⟨⟨A', c', he, hV.keep KeepS.refl (fun q _ hq => Nat.le_trans hs hq)⟩, h1, h2, h3, ho.trans h4⟩
set_option maxRecDepth 100000 in
set_option maxHeartbeats 8000000 in
theorem psum_any (R : Nat) (A : Option Addr) (c d : Nat) (l : List Tok) (P : Par) (hF : FnC R A c d l 216 (.pointer (some ⟨R, 0, none⟩)) (fun _ => True) P) :
 FnC R A c d l 200 (.pointer (some ⟨R, 0, none⟩)) (fun _ => True) (left l (left l P [16, 17]) [14, 15]) := by
 intro i w hi hR hP hw
 have hRlt := hR.lt
 obtain ⟨wb, hwb⟩ : ∃ wb, wb = w.alloc (.cells #[.pointer (some ⟨R, 0, none⟩)] 131) := ⟨_, rfl⟩
 have hbb : Below w.heap.size w wb := by rw [hwb]; exact (Below.refl _ _).alloc (Nat.le_refl _) _
 have hsb : wb.heap.size = w.heap.size + 1 := by rw [hwb]; simp
 have hob : Only (fun q => q = R) w wb := Only.of_below hbb
 have hRb : Rdr wb R A l.length c i d := hR.below hbb hRlt
 have hbox : BoxR R w.heap.size wb := ⟨by rw [hwb]; exact (cell_of_row _ _ 0 _ _ (0, 0) (heap_alloc_new w _)).trans rfl, by omega, by omega⟩
 obtain ⟨w1, hw1⟩ : ∃ w1, w1 = wb.alloc (.cells #[.int .i64 0, .int .i64 0, .string ⟨#[]⟩, .slice none 0 0] 25) := ⟨_, rfl⟩
 have hb1 : Below wb.heap.size wb w1 := by rw [hw1]; exact (Below.refl _ _).alloc (Nat.le_refl _) _
 have hs1 : w1.heap.size = w.heap.size + 1 + 1 := by rw [hw1]; simp [hsb]
 have hbx : w1.heap[wb.heap.size]? = some (.cells #[.int .i64 0, .int .i64 0, .string ⟨#[]⟩, .slice none 0 0] 25 (0, 0)) := by rw [hw1]; exact heap_alloc_new wb _
 have ho1 : Only (fun q => q = R) wb w1 := Only.of_below hb1
 obtain ⟨w2, hw2⟩ : ∃ w2, w2 = w1.alloc (.cells #[.int .i64 14, .int .i64 15] 3) := ⟨_, rfl⟩
 have hb2 : Below w1.heap.size w1 w2 := by rw [hw2]; exact (Below.refl _ _).alloc (Nat.le_refl _) _
 have hs2 : w2.heap.size = w.heap.size + 3 := by rw [hw2]; simp [hs1]
 have ho2 : Only (fun q => q = R) wb w2 := ho1.trans (Only.of_below hb2)
 have hR2 : Rdr w2 R A l.length c i d := (hRb.below hb1 (by omega)).below hb2 (by omega)
 have hops : OpsAt w2 w1.heap.size [14, 15] := by rw [hw2]; exact ops_new w1 [14, 15]
 have k0 := hbox.1
 have k0' := (hbox.only ho1).1
 have hcall : Calls Tryz.prog 214 #[.pointer (some ⟨R, 0, none⟩), .func (.func 215) #[] #[.pointer (some ⟨w.heap.size, 0, none⟩)], .slice (some ⟨w1.heap.size, 0, none⟩) 2 2] w2 (PQ R A c d l i (left l (left l P [16, 17]) [14, 15] i) w2) :=
  pleft_any R A c d l 215 (.pointer (some ⟨w.heap.size, 0, none⟩)) false (BoxR R w.heap.size) (left l P [16, 17]) w1.heap.size 2 [14, 15] i w2 (fun _ _ => by kernel_rfl) (fun _ _ h ho => h.only ho) (psum1_any R A c d l w.heap.size P hF) hi hR2 (hP.only (hob.trans ho2)) (hbox.only ho2) hops (by decide) (by omega) (by omega)
 rw [hs1] at hcall
 have hbx2 := (hb2.block wb.heap.size (by omega)).trans hbx
 obtain ⟨r, hr⟩ : ∃ r, r = left l (left l P [16, 17]) [14, 15] i := ⟨_, rfl⟩
 obtain ⟨F, hF0⟩ : ∃ F, F = PQ R A c d l i (left l (left l P [16, 17]) [14, 15] i) w := ⟨_, rfl⟩
 have HRE : Hid (F = PQ R A c d l i r w) := by show _ = _; rw [hF0, hr]
 rw [← hF0]
 rw [← hr] at hcall
 have HC := Lib.hid hcall
 have HWB := Lib.hid hwb
 have HSB := Lib.hid hsb
 have HOB := Lib.hid hob
 have HW1 := Lib.hid hw1
 have HW2 := Lib.hid hw2
 have HO2 := Lib.hid ho2
 have HBX2 := Lib.hid hbx2
 clear hcall hr hF0 hwb hbb hob hRb hbox hw1 hw2 hb1 hb2 ho1 ho2 hbx hbx2 hF hP hw hR hops hR2
 go_enter Tryz.func200, Tryz.ntmps200
 go_wp2_with fail
 rw [← HWB.out, ← HW1.out, ← HW2.out]
 refine (HC.out).mono ?_
 intro e w4 hq
 cases r with
 | bad j x =>
  obtain ⟨rfl, ho4⟩ := hq
  refine (show _ ∧ _ from ⟨rfl, ?_⟩)
  rw [HRE.out]
  exact ⟨rfl, HOB.out.trans (HO2.out.trans ho4)⟩
 | ok t j =>
  obtain ⟨⟨A', c', rfl, hV⟩, hij, hjl, hR4, ho4⟩ := hq
  have hbw := (ho4.block wb.heap.size (by omega) (by omega)).trans HBX2.out
  have hs4 := ho4.size
  obtain ⟨n2, hn2⟩ : ∃ n2, n2 = t.kids.length := ⟨_, rfl⟩
  have hend := fun v0 v1 v2 v3 => PQ.back (pq_end v0 v1 v2 v3 hij hjl (by omega) hR4 (HO2.out.trans ho4) (hV.keep KeepS.refl (fun q _ h => by omega))) HOB.out
  unfold Tm.val at hend ⊢
  rw [← hn2] at hend ⊢
  rw [HSB.out] at hend hbw
  have HEND := Lib.hid hend
  have HBW := Lib.hid hbw
  obtain ⟨⟨v0, z0⟩, ⟨v1, z1⟩, ⟨v2, z2⟩, v3, z3⟩ := cells4 hbw
  clear hV hR4 ho4 hn2 hij hend hbw
  go_wp2_with fail
  refine bodyPost_ret (results_cell_row (t := 25) (fr := (0, 0)) rfl _ _ (w.heap.size + 1) _ _ rfl (res4 HBW.out) Tryz.underlying25 rfl (by kernel_rfl)) rfl ?_
  rw [HRE.out]
  exact HEND.out _ _ _ _
end Go.Proofs.YtnbphgeepnknlaaGreatDoor
namespace Go.Proofs.YtnbphgeepnknlaaGreatDoor
open Go.RowKit
set_option linter.unusedVariables false

/-- The end of a parser of two operands: the row is made, the term is laid into the result's block. -/
theorem pq_row2 {R c d i j : Nat} {A A' A2 : Option Addr} {c' c2 : Nat} {l : List Tok} {w w6 : World} {t t2 : Tm} (op : Int) (hij : i < j) (hjl : j ≤ l.length) (hRw : R < w.heap.size) (hR : Rdr w6 R A l.length c j d) (hO : Only (fun q => q = R) w w6) (hs : w.heap.size < w6.heap.size) (hV : TmVS (fun q => w.heap.size < q) w6 A' c' t) (hV2 : TmVS (fun q => w.heap.size < q) w6 A2 c2 t2) :
 PQ R A c d l i (.ok (tmOf op [t, t2]) j) w (.returned (.agg #[.int .i64 op, .int .i64 0, .string ⟨#[]⟩, .slice (some ⟨w6.heap.size, 0, none⟩) 2 2])) (((((w6.setCell ⟨w.heap.size, 0, none⟩ (.int .i64 op)).setCell ⟨w.heap.size, 1, none⟩ (.int .i64 0)).setCell ⟨w.heap.size, 2, none⟩ (.string ⟨#[]⟩)).setCell ⟨w.heap.size, 3, none⟩ (.slice (some ⟨w6.heap.size, 0, none⟩) 2 2)).alloc (.cells #[.int .i64 t.op, .int .i64 t.num, .string t.name, .slice A' t.kids.length c', .int .i64 t2.op, .int .i64 t2.num, .string t2.name, .slice A2 t2.kids.length c2] 25)) := by
 obtain ⟨WQ, hWQ⟩ : ∃ WQ, WQ = (((w6.setCell ⟨w.heap.size, 0, none⟩ (.int .i64 op)).setCell ⟨w.heap.size, 1, none⟩ (.int .i64 0)).setCell ⟨w.heap.size, 2, none⟩ (.string ⟨#[]⟩)).setCell ⟨w.heap.size, 3, none⟩ (.slice (some ⟨w6.heap.size, 0, none⟩) 2 2) := ⟨_, rfl⟩
 rw [← hWQ]
 have hne : R ≠ w.heap.size := by omega
 have hqs : WQ.heap.size = w6.heap.size := by rw [hWQ]; simp
 have hRQ : Rdr WQ R A l.length c j d := by
  rw [hWQ]
  unfold Rdr
  rw [heap_setCell_other _ ⟨w.heap.size, 3, none⟩ R _ hne, heap_setCell_other _ ⟨w.heap.size, 2, none⟩ R _ hne, heap_setCell_other _ ⟨w.heap.size, 1, none⟩ R _ hne, heap_setCell_other _ ⟨w.heap.size, 0, none⟩ R _ hne]
  exact hR
 have hkQ : KeepS (fun q => w.heap.size < q) w6 WQ := by
  rw [hWQ]
  exact (((KeepS.refl.set (by omega) _).set (by omega) _).set (by omega) _).set (by omega) _
 have hOQ : Only (fun q => q = R) w WQ := by rw [hWQ]; exact only_sets hO
 obtain ⟨W7, hW7⟩ : ∃ W7, W7 = WQ.alloc (.cells #[.int .i64 t.op, .int .i64 t.num, .string t.name, .slice A' t.kids.length c', .int .i64 t2.op, .int .i64 t2.num, .string t2.name, .slice A2 t2.kids.length c2] 25) := ⟨_, rfl⟩
 rw [← hW7]
 have hb7 : Below WQ.heap.size WQ W7 := by rw [hW7]; exact (Below.refl _ _).alloc (Nat.le_refl _) _
 have hs7 : W7.heap.size = w6.heap.size + 1 := by rw [hW7]; simp [hqs]
 have hrow7 : W7.heap[w6.heap.size]? = some (.cells (flatE [⟨t, A', c'⟩, ⟨t2, A2, c2⟩]).toArray 25 (0, 0)) := by rw [hW7, ← hqs]; exact heap_alloc_new WQ _
 have hk7 : KeepS (fun q => w.heap.size < q) w6 W7 := hkQ.trans (KeepS.of_below hb7)
 refine ⟨⟨some ⟨w6.heap.size, 0, none⟩, 2, rfl, Nat.le_refl _, by unfold maxLen; omega, Nat.zero_le _, .inr ⟨w6.heap.size, 0, rfl, Nat.le_of_lt hs, by omega, ?_⟩⟩, hij, hjl, hRQ.below hb7 (by omega), hOQ.trans (Only.of_below hb7)⟩
 refine row_of_cells [⟨t, A', c'⟩, ⟨t2, A2, c2⟩] 0 (fun k v hv => by
  rw [Nat.zero_add, cell_of_row _ _ k _ _ (0, 0) hrow7]
  simpa using hv) ?_
 intro e he
 simp only [List.mem_cons, List.not_mem_nil, or_false] at he
 rcases he with rfl | rfl
 · exact hV.keep hk7 (fun q _ h => Nat.le_of_lt h)
 · exact hV2.keep hk7 (fun q _ h => Nat.le_of_lt h)
set_option maxRecDepth 100000 in
set_option maxHeartbeats 8000000 in
theorem pterm_any (R : Nat) (A : Option Addr) (c d : Nat) (l : List Tok) (P : Par) (hF : FnC R A c d l 125 (.pointer (some ⟨R, 0, none⟩)) (fun _ => True) P) :
 FnC R A c d l 67 (.pointer (some ⟨R, 0, none⟩)) (fun _ => True) (termB l P) := by
 intro i w hi hR hP hw
 have hlen := hP.len
 have hRlt := hR.lt
 obtain ⟨w1, hw1⟩ : ∃ w1, w1 = w.alloc (.cells #[.int .i64 0, .int .i64 0, .string ⟨#[]⟩, .slice none 0 0] 25) := ⟨_, rfl⟩
 have hb1 : Below w.heap.size w w1 := by rw [hw1]; exact (Below.refl _ _).alloc (Nat.le_refl _) _
 have hs1 : w1.heap.size = w.heap.size + 1 := by rw [hw1]; simp
 have hbx : w1.heap[w.heap.size]? = some (.cells #[.int .i64 0, .int .i64 0, .string ⟨#[]⟩, .slice none 0 0] 25 (0, 0)) := by rw [hw1]; exact heap_alloc_new w _
 have ho1 : Only (fun q => q = R) w w1 := Only.of_below hb1
 have hc1 : Calls Tryz.prog 125 #[.pointer (some ⟨R, 0, none⟩)] w1 (PQ R A c d l i (P i) w1) := hF i w1 hi (hR.below hb1 hRlt) (hP.only ho1) trivial
 obtain ⟨r1, hr1⟩ : ∃ r1, r1 = P i := ⟨_, rfl⟩
 obtain ⟨F, hF0⟩ : ∃ F, F = PQ R A c d l i (termB l P i) w := ⟨_, rfl⟩
 have HRE : Hid (F = PQ R A c d l i (r1.then fun t j => if whichOp l j [9] = 0 then .ok t j else (P (j + 1)).then fun u k => .ok (tmOf 9 [t, u]) k) w) := by show _ = _; rw [hF0, hr1]; rfl
 rw [← hF0]
 rw [← hr1] at hc1
 have HC1 := Lib.hid hc1
 have HW1 := Lib.hid hw1
 have HO1 := Lib.hid ho1
 have HBX := Lib.hid hbx
 have HFN := Lib.hid hF
 have HP := Lib.hid hP
 clear hc1 hr1 hF0 hw1 hb1 ho1 hbx hF hP hw hR
 go_enter Tryz.func67, Tryz.ntmps67
 go_wp2_with fail
 rw [← HW1.out]
 refine (HC1.out).mono ?_
 intro e w4 hq
 cases r1 with
 | bad j x =>
  obtain ⟨rfl, ho4⟩ := hq
  refine (show _ ∧ _ from ⟨rfl, ?_⟩)
  rw [HRE.out]
  exact ⟨rfl, HO1.out.trans ho4⟩
 | ok t j =>
  obtain ⟨⟨A', c', rfl, hV⟩, hij, hjl, hR4, ho4⟩ := hq
  have hs4 := ho4.size
  obtain ⟨n2, hn2⟩ : ∃ n2, n2 = t.kids.length := ⟨_, rfl⟩
  unfold Tm.val
  rw [← hn2]
  obtain ⟨bt, hbt⟩ : ∃ bt, bt = w4.heap.size := ⟨_, rfl⟩
  obtain ⟨wt, hwt⟩ : ∃ wt, wt = w4.alloc (.cells #[.int .i64 t.op, .int .i64 t.num, .string t.name, .slice A' n2 c'] 25) := ⟨_, rfl⟩
  have hbT : Below w4.heap.size w4 wt := by rw [hwt]; exact (Below.refl _ _).alloc (Nat.le_refl _) _
  have hst : wt.heap.size = bt + 1 := by rw [hwt, hbt]; simp
  have hbox : wt.heap[bt]? = some (.cells #[.int .i64 t.op, .int .i64 t.num, .string t.name, .slice A' n2 c'] 25 (0, 0)) := by rw [hwt, hbt]; exact heap_alloc_new w4 _
  obtain ⟨wo, hwo⟩ : ∃ wo, wo = wt.alloc (.cells #[.int .i64 9] 3) := ⟨_, rfl⟩
  have hbO : Below wt.heap.size wt wo := by rw [hwo]; exact (Below.refl _ _).alloc (Nat.le_refl _) _
  have hso : wo.heap.size = bt + 2 := by rw [hwo]; simp [hst]
  have hOO : Only (fun q => q = R) w1 wo := ho4.trans ((Only.of_below hbT).trans (Only.of_below hbO))
  have hRO : Rdr wo R A l.length c j d := (hR4.below hbT (by omega)).below hbO (by omega)
  have hboxo := (hbO.block bt (by omega)).trans hbox
  have hsg : Calls Tryz.prog 126 #[.pointer (some ⟨R, 0, none⟩), .slice (some ⟨wt.heap.size, 0, none⟩) 1 1] wo fun e w' => e = .returned (.int .i64 (whichOp l j [9])) ∧ ∃ n, w' = wo.drewN n :=
   psign_any R A c j d l wt.heap.size 1 [9] wo hRO (HP.out.only (HO1.out.trans hOO)) (by omega) (by rw [hwo]; exact ops_new wt [9]) (by simp) (by omega)
  rw [hst] at hsg
  have HK : Hid (KeepS (fun q => w1.heap.size ≤ q) w4 wo) := (KeepS.of_below hbT).trans (KeepS.of_below hbO)
  have HSG := Lib.hid hsg
  have HWT := Lib.hid hwt
  have HWO := Lib.hid hwo
  have HBT := Lib.hid hbt
  have HN2 := Lib.hid hn2
  clear hn2 hwt hwo hbT hbO hbox hsg
  go_wp2_with fail
  rw [← HBT.out, ← HWT.out, ← HWO.out]
  refine (HSG.out).mono ?_
  rintro e w5 ⟨rfl, q, hw5⟩
  have hO5 : Only (fun q => q = R) w1 w5 := by rw [hw5]; exact hOO.drewN q
  have hR5 : Rdr w5 R A l.length c j d := by rw [hw5]; exact hRO.drewN q
  have hb5 : w5.heap[bt]? = some (.cells #[.int .i64 t.op, .int .i64 t.num, .string t.name, .slice A' n2 c'] 25 (0, 0)) := by rw [hw5]; exact hboxo
  have hs5 : w5.heap.size = bt + 2 := by rw [hw5]; exact hso
  have hbt1 : w1.heap.size ≤ bt := by rw [hbt]; exact hs4
  have hbr : bt ≠ R := by omega
  have hx5 := (hO5.block w.heap.size (by omega) (by omega)).trans HBX.out
  have hk5 : KeepS (fun q => w1.heap.size ≤ q) w4 w5 := by rw [hw5]; exact ⟨by show w4.heap.size ≤ wo.heap.size; omega, fun q hq hl => HK.out.block q hq hl⟩
  have hV5 : TmVS (fun q => w.heap.size < q) w5 A' c' t := hV.keep hk5 (fun q _ h => by omega)
  clear hk5 hbt hw5 hso hOO hRO hboxo hR4
  have HR5 := Lib.hid hR5
  have HO5 := Lib.hid hO5
  have HV5 := Lib.hid hV5
  have HX5 := Lib.hid hx5
  have HB5 := Lib.hid hb5
  obtain ⟨⟨v0, z0⟩, ⟨v1, z1⟩, ⟨v2, z2⟩, v3, z3⟩ := cells4 hx5
  obtain ⟨⟨y0, x0⟩, ⟨y1, x1⟩, ⟨y2, x2⟩, y3, x3⟩ := cells4 hb5
  have hbwr : w.heap.size < w5.heap.size := by omega
  have hbtr : bt < w5.heap.size := by omega
  clear hR5 hO5 hV5 hx5 hb5 hV
  by_cases hz : whichOp l j [9] = 0
  · have HRR : Hid (F = PQ R A c d l i (.ok t j) w) := by show _ = _; rw [HRE.out]; show PQ R A c d l i (if whichOp l j [9] = 0 then _ else _) w = _; rw [if_pos hz]
    rw [hz]
    clear hz
    go_wp2_with fail
    refine bodyPost_ret (results_cell_row (t := 25) (fr := (0, 0)) rfl _ _ w.heap.size _ _ rfl (res4 HX5.out) Tryz.underlying25 rfl (by kernel_rfl)) rfl ?_
    rw [HRR.out]
    have h := pq_end (.int .i64 t.op) (.int .i64 t.num) (.string t.name) (.slice A' n2 c') hij hjl hRlt HR5.out (HO1.out.trans HO5.out) HV5.out
    unfold Tm.val at h
    rw [← HN2.out] at h
    exact h
  · have hzb : (whichOp l j [9] == 0) = false := by simpa using hz
    have hjl3 := which_lt hz
    have HRR : Hid (F = PQ R A c d l i ((P (j + 1)).then fun u k => .ok (tmOf 9 [t, u]) k) w) := by show _ = _; rw [HRE.out]; show PQ R A c d l i (if whichOp l j [9] = 0 then _ else _) w = _; rw [if_neg hz]
    obtain ⟨zz, hzz⟩ : ∃ zz, zz = whichOp l j [9] := ⟨_, rfl⟩
    rw [← hzz] at hzb ⊢
    have c1 := HR5.out.c1
    have f1 := HR5.out.frozen 1
    clear hz hzz
    go_wp2_with fail
    refine wp_region_any (by kernel_rfl) ?_
    change wpAny _ _ _ _ _ _ _ (World.drew _)
    obtain ⟨W3, hW3⟩ : ∃ W3, W3 = (w5.setCell ⟨R, 1, none⟩ (.int .i64 ((j : Int) + 1))).drew := ⟨_, rfl⟩
    have hwn : Went R A l.length c d (j + 1) w5 ((w5.setCell ⟨R, 1, none⟩ (.int .i64 ((j : Int) + 1))).drew) := went_more (m := 1) (went_next (m := 0) HR5.out)
    rw [← hW3] at hwn ⊢
    have ho3 : Only (fun q => q = R) w5 W3 := hwn.2.1
    have hs3 : W3.heap.size = w5.heap.size := hwn.2.2
    have ho13 := HO1.out.trans (HO5.out.trans ho3)
    have hcall : Calls Tryz.prog 125 #[.pointer (some ⟨R, 0, none⟩)] W3 (PQ R A c d l (j + 1) (P (j + 1)) W3) := HFN.out (j + 1) W3 (by omega) hwn.1 (HP.out.only ho13) trivial
    have hb3 := (ho3.block bt hbtr hbr).trans HB5.out
    have HX3 := Lib.hid ((ho3.block w.heap.size hbwr (by omega)).trans HX5.out)
    have HB3 := Lib.hid hb3
    have HK3 : Hid (KeepS (fun q => w.heap.size < q) w5 W3) := KeepS.of_only ho3 (by omega)
    obtain ⟨r2, hr2⟩ : ∃ r2, r2 = P (j + 1) := ⟨_, rfl⟩
    have HRE2 : Hid (F = PQ R A c d l i (r2.then fun u k => .ok (tmOf 9 [t, u]) k) w) := by show _ = _; rw [HRR.out, hr2]
    rw [← hr2] at hcall
    have HC2 := Lib.hid hcall
    have HO13 := Lib.hid ho13
    clear hW3 hwn ho3 ho13 hcall hr2 hb3 c1 f1 z0 z1 z2 z3 v0 v1 v2 v3 y0 y1 y2 y3 x0 x1 x2 x3
    obtain ⟨⟨y0, x0⟩, ⟨y1, x1⟩, ⟨y2, x2⟩, y3, x3⟩ := cells4 HB3.out
    clear x0 x1 x2 x3
    refine wpAny_take (i := 1) (oi := { dst := some 21, op := Op.move (Operand.tmp 0), type := 131, pos := "ttext.go:245", after := #[], guard := none }) (v := ?_) rfl (by kernel_rfl) (by kernel_rfl) (by kernel_rfl) (fun _ _ _ h => h) (Or.inl ⟨by rfl, ?hy⟩) ?_
    case hy => intro w0; go_simp; (first | done | with_reducible rfl)
    try simp only [Act.put, List.setIfInBounds_toArray, List.set_cons_zero, List.set_cons_succ]
    cases r2 with
    | bad jb xb =>
     refine wpAny_ready (rs := [0, 2]) (by kernel_rfl) (by simp) ?_
     refine AllReady.cons (o := { dst := some 20, op := Op.load 25 (Operand.tmp 3), type := 25, pos := "ttext.go:245", after := #[], guard := none }) rfl (fun K hK => ?_) ?_
     · go_simp
       refine hK _ _ ?_
       clear hK K
       try simp only [Act.put, List.setIfInBounds_toArray, List.set_cons_zero, List.set_cons_succ]
       refine wpAny_ready (rs := [2]) (by kernel_rfl) (by simp) ?_
       refine AllReady.cons (o := { dst := some 22, op := Op.call { callee := Callee.value (Operand.func 125), args := #[Operand.tmp 21], argTypes := #[131] }, type := 25, pos := "ttext.go:245", after := #[{ on := 1, ground := Ground.data }], guard := none }) rfl (fun K hK => ?_) AllReady.nil
       go_simp
       with_reducible refine (HC2.out).mono ?_
       intro e w6 hq
       obtain ⟨rfl, ho6⟩ := hq
       refine (show _ ∧ _ from ⟨rfl, ?_⟩)
       rw [HRE2.out]
       exact ⟨rfl, HO13.out.trans ho6⟩
     · refine AllReady.cons (o := { dst := some 22, op := Op.call { callee := Callee.value (Operand.func 125), args := #[Operand.tmp 21], argTypes := #[131] }, type := 25, pos := "ttext.go:245", after := #[{ on := 1, ground := Ground.data }], guard := none }) rfl (fun K hK => ?_) AllReady.nil
       go_simp
       with_reducible refine (HC2.out).mono ?_
       intro e w6 hq
       obtain ⟨rfl, ho6⟩ := hq
       refine (show _ ∧ _ from ⟨rfl, ?_⟩)
       rw [HRE2.out]
       exact ⟨rfl, HO13.out.trans ho6⟩
    | ok t2 j2 =>
     refine wpAny_ready (rs := [0, 2]) (by kernel_rfl) (by simp) ?_
     refine AllReady.cons (o := { dst := some 20, op := Op.load 25 (Operand.tmp 3), type := 25, pos := "ttext.go:245", after := #[], guard := none }) rfl (fun K hK => ?_) ?_
     · go_simp
       refine hK _ _ ?_
       clear hK K
       try simp only [Act.put, List.setIfInBounds_toArray, List.set_cons_zero, List.set_cons_succ]
       refine wpAny_ready (rs := [2]) (by kernel_rfl) (by simp) ?_
       refine AllReady.cons (o := { dst := some 22, op := Op.call { callee := Callee.value (Operand.func 125), args := #[Operand.tmp 21], argTypes := #[131] }, type := 25, pos := "ttext.go:245", after := #[{ on := 1, ground := Ground.data }], guard := none }) rfl (fun K hK => ?_) AllReady.nil
       go_simp
       with_reducible refine (HC2.out).mono ?_
       intro e w6 hq
       obtain ⟨⟨A2, c2, rfl, hV2⟩, hij2, hjl2', hR6, ho6⟩ := hq
       obtain ⟨n3, hn3⟩ : ∃ n3, n3 = t2.kids.length := ⟨_, rfl⟩
       unfold Tm.val
       rw [← hn3]
       have HN3 := Lib.hid hn3
       have HO6 := Lib.hid ho6
       have HV2 := Lib.hid hV2
       have HR6 := Lib.hid hR6
       have hs6 := ho6.size
       have hbt6 : bt < w6.heap.size := by omega
       have hbw6 : w.heap.size < w6.heap.size := by omega
       have hb6 := (ho6.block bt (by omega) hbr).trans HB3.out
       have HX6 := Lib.hid ((ho6.block w.heap.size (by omega) (by omega)).trans HX3.out)
       clear hV2 hR6 ho6 hn3 y0 y1 y2 y3
       obtain ⟨⟨y0, x0⟩, ⟨y1, x1⟩, ⟨y2, x2⟩, y3, x3⟩ := cells4 hb6
       clear x0 x1 x2 x3 hb6
       obtain ⟨⟨v0, z0⟩, ⟨v1, z1⟩, ⟨v2, z2⟩, v3, z3⟩ := cells4 HX6.out
       refine hK _ _ ?_
       clear hK K
       try simp only [Act.put, List.setIfInBounds_toArray, List.set_cons_zero, List.set_cons_succ]
       refine wpAny_ready (rs := [3]) (by kernel_rfl) (by simp) ?_
       refine AllReady.cons (o := { dst := some 23, op := Op.buildSlice 23 2 #[(0, Operand.tmp 20), (1, Operand.tmp 22)], type := 23, pos := "ttext.go:245", after := #[{ on := 0, ground := Ground.data }, { on := 2, ground := Ground.data }], guard := none }) rfl (fun K hK => ?_) AllReady.nil
       go_simp
       refine hK _ _ ?_
       clear hK K
       try simp only [Act.put, List.setIfInBounds_toArray, List.set_cons_zero, List.set_cons_succ]
       refine wpAny_ready (rs := [4]) (by kernel_rfl) (by simp) ?_
       refine AllReady.cons (o := { dst := some 24, op := Op.build 25 #[(0, Operand.const (Value.int IntKind.i64 9)), (3, Operand.tmp 23)], type := 25, pos := "ttext.go:245", after := #[{ on := 3, ground := Ground.data }], guard := none }) rfl (fun K hK => ?_) AllReady.nil
       go_simp
       refine hK _ _ ?_
       clear hK K
       try simp only [Act.put, List.setIfInBounds_toArray, List.set_cons_zero, List.set_cons_succ]
       refine wpAny_ready (rs := [5]) (by kernel_rfl) (by simp) ?_
       refine AllReady.cons (o := { dst := none, op := Op.store 25 (Operand.tmp 2) (Operand.tmp 24), type := 0, pos := "ttext.go:245", after := #[{ on := 4, ground := Ground.data }, { on := 2, ground := Ground.chain }, { on := 0, ground := Ground.phase }, { on := 1, ground := Ground.phase }, { on := 2, ground := Ground.phase }, { on := 3, ground := Ground.phase }, { on := 4, ground := Ground.phase }], guard := none }) rfl (fun K hK => ?_) AllReady.nil
       go_simp
       refine hK _ _ ?_
       clear hK K
       try simp only [Act.put, List.setIfInBounds_toArray, List.set_cons_zero, List.set_cons_succ]
       refine wpAny_done (by kernel_rfl) ?_ _
       go_wp2_with fail
       refine bodyPost_ret (results_cell_row (t := 25) (fr := (0, 0)) rfl _ _ w.heap.size _ _ rfl (alloc_keep (res4 HX6.out)) Tryz.underlying25 rfl (by kernel_rfl)) rfl ?_
       rw [HRE2.out, HN2.out, HN3.out]
       exact pq_row2 9 (by omega) hjl2' hRlt HR6.out (HO13.out.trans HO6.out) (by omega) ((HV5.out.keep HK3.out (fun q _ h => h)).keep (KeepS.of_only HO6.out (by omega)) (fun q _ h => h)) (HV2.out.keep KeepS.refl (fun q _ h => by omega))
     · refine AllReady.cons (o := { dst := some 22, op := Op.call { callee := Callee.value (Operand.func 125), args := #[Operand.tmp 21], argTypes := #[131] }, type := 25, pos := "ttext.go:245", after := #[{ on := 1, ground := Ground.data }], guard := none }) rfl (fun K hK => ?_) AllReady.nil
       go_simp
       with_reducible refine (HC2.out).mono ?_
       intro e w6 hq
       obtain ⟨⟨A2, c2, rfl, hV2⟩, hij2, hjl2', hR6, ho6⟩ := hq
       obtain ⟨n3, hn3⟩ : ∃ n3, n3 = t2.kids.length := ⟨_, rfl⟩
       unfold Tm.val
       rw [← hn3]
       have HN3 := Lib.hid hn3
       have HO6 := Lib.hid ho6
       have HV2 := Lib.hid hV2
       have HR6 := Lib.hid hR6
       have hs6 := ho6.size
       have hbt6 : bt < w6.heap.size := by omega
       have hbw6 : w.heap.size < w6.heap.size := by omega
       have hb6 := (ho6.block bt (by omega) hbr).trans HB3.out
       have HX6 := Lib.hid ((ho6.block w.heap.size (by omega) (by omega)).trans HX3.out)
       clear hV2 hR6 ho6 hn3 y0 y1 y2 y3
       obtain ⟨⟨y0, x0⟩, ⟨y1, x1⟩, ⟨y2, x2⟩, y3, x3⟩ := cells4 hb6
       clear x0 x1 x2 x3 hb6
       obtain ⟨⟨v0, z0⟩, ⟨v1, z1⟩, ⟨v2, z2⟩, v3, z3⟩ := cells4 HX6.out
       refine hK _ _ ?_
       clear hK K
       try simp only [Act.put, List.setIfInBounds_toArray, List.set_cons_zero, List.set_cons_succ]
       refine wpAny_ready (rs := [0]) (by kernel_rfl) (by simp) ?_
       refine AllReady.cons (o := { dst := some 20, op := Op.load 25 (Operand.tmp 3), type := 25, pos := "ttext.go:245", after := #[], guard := none }) rfl (fun K hK => ?_) AllReady.nil
       go_simp
       refine hK _ _ ?_
       clear hK K
       try simp only [Act.put, List.setIfInBounds_toArray, List.set_cons_zero, List.set_cons_succ]
       refine wpAny_ready (rs := [3]) (by kernel_rfl) (by simp) ?_
       refine AllReady.cons (o := { dst := some 23, op := Op.buildSlice 23 2 #[(0, Operand.tmp 20), (1, Operand.tmp 22)], type := 23, pos := "ttext.go:245", after := #[{ on := 0, ground := Ground.data }, { on := 2, ground := Ground.data }], guard := none }) rfl (fun K hK => ?_) AllReady.nil
       go_simp
       refine hK _ _ ?_
       clear hK K
       try simp only [Act.put, List.setIfInBounds_toArray, List.set_cons_zero, List.set_cons_succ]
       refine wpAny_ready (rs := [4]) (by kernel_rfl) (by simp) ?_
       refine AllReady.cons (o := { dst := some 24, op := Op.build 25 #[(0, Operand.const (Value.int IntKind.i64 9)), (3, Operand.tmp 23)], type := 25, pos := "ttext.go:245", after := #[{ on := 3, ground := Ground.data }], guard := none }) rfl (fun K hK => ?_) AllReady.nil
       go_simp
       refine hK _ _ ?_
       clear hK K
       try simp only [Act.put, List.setIfInBounds_toArray, List.set_cons_zero, List.set_cons_succ]
       refine wpAny_ready (rs := [5]) (by kernel_rfl) (by simp) ?_
       refine AllReady.cons (o := { dst := none, op := Op.store 25 (Operand.tmp 2) (Operand.tmp 24), type := 0, pos := "ttext.go:245", after := #[{ on := 4, ground := Ground.data }, { on := 2, ground := Ground.chain }, { on := 0, ground := Ground.phase }, { on := 1, ground := Ground.phase }, { on := 2, ground := Ground.phase }, { on := 3, ground := Ground.phase }, { on := 4, ground := Ground.phase }], guard := none }) rfl (fun K hK => ?_) AllReady.nil
       go_simp
       refine hK _ _ ?_
       clear hK K
       try simp only [Act.put, List.setIfInBounds_toArray, List.set_cons_zero, List.set_cons_succ]
       refine wpAny_done (by kernel_rfl) ?_ _
       go_wp2_with fail
       refine bodyPost_ret (results_cell_row (t := 25) (fr := (0, 0)) rfl _ _ w.heap.size _ _ rfl (alloc_keep (res4 HX6.out)) Tryz.underlying25 rfl (by kernel_rfl)) rfl ?_
       rw [HRE2.out, HN2.out, HN3.out]
       exact pq_row2 9 (by omega) hjl2' hRlt HR6.out (HO13.out.trans HO6.out) (by omega) ((HV5.out.keep HK3.out (fun q _ h => h)).keep (KeepS.of_only HO6.out (by omega)) (fun q _ h => h)) (HV2.out.keep KeepS.refl (fun q _ h => by omega))
end Go.Proofs.YtnbphgeepnknlaaGreatDoor
namespace Go.Proofs.YtnbphgeepnknlaaGreatDoor
open Go.RowKit
set_option linter.unusedVariables false

theorem sets4_other {W : World} {b q : Nat} {v0 v1 v2 v3 : Value} (h : q ≠ b) : ((((W.setCell ⟨b, 0, none⟩ v0).setCell ⟨b, 1, none⟩ v1).setCell ⟨b, 2, none⟩ v2).setCell ⟨b, 3, none⟩ v3).heap[q]? = W.heap[q]? := by
 rw [heap_setCell_other _ ⟨b, 3, none⟩ q _ h, heap_setCell_other _ ⟨b, 2, none⟩ q _ h, heap_setCell_other _ ⟨b, 1, none⟩ q _ h, heap_setCell_other _ ⟨b, 0, none⟩ q _ h]
theorem BoxR.block {R rb : Nat} {w w' : World} (h : BoxR R rb w) (hb : w'.heap[rb]? = w.heap[rb]?) (hs : w.heap.size ≤ w'.heap.size) : BoxR R rb w' := ⟨by rw [World.cell?_of_block (a := ⟨rb, 0, none⟩) hb]; exact h.1, Nat.lt_of_lt_of_le h.2.1 hs, h.2.2⟩
set_option maxRecDepth 100000 in
set_option maxHeartbeats 8000000 in
theorem pimp_any (R : Nat) (A : Option Addr) (c d : Nat) (l : List Tok) (P PI : Par) (hd : d ≤ 256) (hF : FnC R A c d l 172 (.pointer (some ⟨R, 0, none⟩)) (fun _ => True) P) (hI : d < 256 → FnC R A c (d + 1) l 125 (.pointer (some ⟨R, 0, none⟩)) (fun _ => True) PI) :
 FnC R A c d l 125 (.pointer (some ⟨R, 0, none⟩)) (fun _ => True) (impB l (if d = 256 then none else some PI) (many l 7 (many l 6 P))) := by
 intro i w hi hR hP hw
 have hlen := hP.len
 have hRw := hR.lt
 obtain ⟨wb, hwb⟩ : ∃ wb, wb = w.alloc (.cells #[.pointer (some ⟨R, 0, none⟩)] 131) := ⟨_, rfl⟩
 have hbb : Below w.heap.size w wb := by rw [hwb]; exact (Below.refl _ _).alloc (Nat.le_refl _) _
 have hsb : wb.heap.size = w.heap.size + 1 := by rw [hwb]; simp
 have hob : Only (fun q => q = R) w wb := Only.of_below hbb
 have hRb : Rdr wb R A l.length c i d := hR.below hbb hRw
 have hRlt := hRb.lt
 have hPb := hP.only hob
 obtain ⟨rb, hrb⟩ : ∃ rb, rb = w.heap.size := ⟨_, rfl⟩
 have hbox0 : BoxR R rb wb := ⟨by rw [hwb, hrb]; exact (cell_of_row _ _ 0 _ _ (0, 0) (heap_alloc_new w _)).trans rfl, by omega, by omega⟩
 have hrbl : rb < wb.heap.size := hbox0.2.1
 have hrbR : rb ≠ R := hbox0.2.2
 obtain ⟨w1, hw1⟩ : ∃ w1, w1 = wb.alloc (.cells #[.int .i64 0, .int .i64 0, .string ⟨#[]⟩, .slice none 0 0] 25) := ⟨_, rfl⟩
 have hb1 : Below wb.heap.size wb w1 := by rw [hw1]; exact (Below.refl _ _).alloc (Nat.le_refl _) _
 have hs1 : w1.heap.size = wb.heap.size + 1 := by rw [hw1]; simp
 have hbx : w1.heap[wb.heap.size]? = some (.cells #[.int .i64 0, .int .i64 0, .string ⟨#[]⟩, .slice none 0 0] 25 (0, 0)) := by rw [hw1]; exact heap_alloc_new wb _
 have ho1 : Only (fun q => q = R) wb w1 := Only.of_below hb1
 have hbox1 := hbox0.only ho1
 have k0 := hbox0.1
 have k0' := hbox1.1
 rw [hrb] at k0 k0'
 have hc1 : Calls Tryz.prog 170 #[.pointer (some ⟨R, 0, none⟩), .int .i64 7, .func (.func 171) #[] #[.pointer (some ⟨rb, 0, none⟩)]] w1 (PQ R A c d l i (many l 7 (many l 6 P) i) w1) :=
  pmany_any R A c d l 171 (.pointer (some ⟨rb, 0, none⟩)) false (BoxR R rb) (many l 6 P) 7 i w1 (fun _ _ => by kernel_rfl) (fun _ _ h ho => h.only ho) (pimp1_any R A c d l rb P hF) hi (hRb.below hb1 hRlt) (hPb.only ho1) hbox1
 obtain ⟨r1, hr1⟩ : ∃ r1, r1 = many l 7 (many l 6 P) i := ⟨_, rfl⟩
 obtain ⟨F0, hF00⟩ : ∃ F, F = PQ R A c d l i (impB l (if d = 256 then none else some PI) (many l 7 (many l 6 P)) i) w := ⟨_, rfl⟩
 obtain ⟨F, hF0⟩ : ∃ F, F = PQ R A c d l i (impB l (if d = 256 then none else some PI) (many l 7 (many l 6 P)) i) wb := ⟨_, rfl⟩
 have HBK : Hid (∀ e w', F e w' → F0 e w') := fun e w' h => by rw [hF0] at h; rw [hF00]; exact h.back hob
 have HRE : Hid (F = PQ R A c d l i (r1.then fun t j => if whichOp l j [8] = 0 then .ok t j else (if d = 256 then .bad j 17 else PI (j + 1)).then fun u k => .ok (tmOf 8 [t, u]) k) wb) := by
  show _ = _
  rw [hF0, hr1]
  by_cases h : d = 256
  · simp only [h, if_true]; rfl
  · simp only [h, if_false]; rfl
 rw [← hF00]
 rw [← hr1] at hc1
 have HIN := Lib.hid (fun (W : World) (j : Nat) (hj : j < l.length) (hRW : Rdr W R A l.length c j d) (hPW : PTok W R A c l) => pinside_any R A c d l 125 (.pointer (some ⟨R, 0, none⟩)) true (fun _ => True) PI j W (fun _ _ => by kernel_rfl) (fun _ _ _ _ => trivial) hI hd hj hRW hPW trivial)
 have HC1 := Lib.hid hc1
 have HWB := Lib.hid hwb
 have HSB := Lib.hid hsb
 have HRB := Lib.hid hrb
 have HW1 := Lib.hid hw1
 have HO1 := Lib.hid ho1
 have HBX := Lib.hid hbx
 have HP := Lib.hid hPb
 have HB0 := Lib.hid hbox0
 clear hc1 hr1 hF0 hF00 hw1 hb1 ho1 hbx hF hP hPb hw hR hRb hbb hob hbox0 hbox1 hI hwb
 clear hsb hrb
 go_enter Tryz.func125, Tryz.ntmps125
 go_wp2_with fail
 rw [← HWB.out, ← HW1.out, ← HSB.out, ← HRB.out]
 clear k0 k0'
 have hbk : ∀ e w', F e w' → F0 e w' := HBK.out
 refine (HC1.out).mono ?_
 intro e w4 hq
 cases r1 with
 | bad j x =>
  obtain ⟨rfl, ho4⟩ := hq
  refine (show _ ∧ _ from ⟨rfl, ?_⟩)
  refine HBK.out _ _ ?_
  rw [HRE.out]
  exact ⟨rfl, HO1.out.trans ho4⟩
 | ok t j =>
  obtain ⟨⟨A', c', rfl, hV⟩, hij, hjl, hR4, ho4⟩ := hq
  have hs4 := ho4.size
  clear hbk
  have hb4 := (HB0.out.only HO1.out).only ho4
  have q4 := hb4.1
  have q4l := hb4.2.1
  obtain ⟨n2, hn2⟩ : ∃ n2, n2 = t.kids.length := ⟨_, rfl⟩
  unfold Tm.val
  rw [← hn2]
  obtain ⟨bt, hbt⟩ : ∃ bt, bt = w4.heap.size := ⟨_, rfl⟩
  obtain ⟨wt, hwt⟩ : ∃ wt, wt = w4.alloc (.cells #[.int .i64 t.op, .int .i64 t.num, .string t.name, .slice A' n2 c'] 25) := ⟨_, rfl⟩
  have hbT : Below w4.heap.size w4 wt := by rw [hwt]; exact (Below.refl _ _).alloc (Nat.le_refl _) _
  have hst : wt.heap.size = bt + 1 := by rw [hwt, hbt]; simp
  have hbox : wt.heap[bt]? = some (.cells #[.int .i64 t.op, .int .i64 t.num, .string t.name, .slice A' n2 c'] 25 (0, 0)) := by rw [hwt, hbt]; exact heap_alloc_new w4 _
  obtain ⟨wo, hwo⟩ : ∃ wo, wo = wt.alloc (.cells #[.int .i64 8] 3) := ⟨_, rfl⟩
  have hbO : Below wt.heap.size wt wo := by rw [hwo]; exact (Below.refl _ _).alloc (Nat.le_refl _) _
  have hso : wo.heap.size = bt + 2 := by rw [hwo]; simp [hst]
  have hOO : Only (fun q => q = R) w1 wo := ho4.trans ((Only.of_below hbT).trans (Only.of_below hbO))
  have hRO : Rdr wo R A l.length c j d := (hR4.below hbT (by omega)).below hbO (by omega)
  have hboxo := (hbO.block bt (by omega)).trans hbox
  have hsg : Calls Tryz.prog 126 #[.pointer (some ⟨R, 0, none⟩), .slice (some ⟨wt.heap.size, 0, none⟩) 1 1] wo fun e w' => e = .returned (.int .i64 (whichOp l j [8])) ∧ ∃ n, w' = wo.drewN n :=
   psign_any R A c j d l wt.heap.size 1 [8] wo hRO (HP.out.only (HO1.out.trans hOO)) (by omega) (by rw [hwo]; exact ops_new wt [8]) (by simp) (by omega)
  rw [hst] at hsg
  have HK : Hid (KeepS (fun q => w1.heap.size ≤ q) w4 wo) := (KeepS.of_below hbT).trans (KeepS.of_below hbO)
  have HSG := Lib.hid hsg
  have HBo := Lib.hid ((HB0.out.only HO1.out).only hOO)
  have qt : wt.cell? ⟨rb, 0, none⟩ = _ := ((HB0.out.only HO1.out).only (ho4.trans (Only.of_below hbT))).1
  clear hb4
  have HWT := Lib.hid hwt
  have HWO := Lib.hid hwo
  have HBT := Lib.hid hbt
  have HN2 := Lib.hid hn2
  clear hn2 hwt hwo hbT hbO hbox hsg
  go_wp2_with fail
  rw [← HBT.out, ← HWT.out, ← HWO.out]
  refine (HSG.out).mono ?_
  rintro e w5 ⟨rfl, q, hw5⟩
  have HBo5 : Hid (BoxR R rb w5) := by show BoxR R rb w5; rw [hw5]; exact HBo.out
  have hO5 : Only (fun q => q = R) w1 w5 := by rw [hw5]; exact hOO.drewN q
  have hR5 : Rdr w5 R A l.length c j d := by rw [hw5]; exact hRO.drewN q
  have hb5 : w5.heap[bt]? = some (.cells #[.int .i64 t.op, .int .i64 t.num, .string t.name, .slice A' n2 c'] 25 (0, 0)) := by rw [hw5]; exact hboxo
  have hs5 : w5.heap.size = bt + 2 := by rw [hw5]; exact hso
  have hbt1 : w1.heap.size ≤ bt := by rw [hbt]; exact hs4
  have hbr : bt ≠ R := by omega
  have hx5 := (hO5.block wb.heap.size (by omega) (by omega)).trans HBX.out
  have hk5 : KeepS (fun q => w1.heap.size ≤ q) w4 w5 := by rw [hw5]; exact ⟨by show w4.heap.size ≤ wo.heap.size; omega, fun q hq hl => HK.out.block q hq hl⟩
  have hV5 : TmVS (fun q => wb.heap.size < q) w5 A' c' t := hV.keep hk5 (fun q _ h => by omega)
  clear hk5 hbt hw5 hso hOO hRO hboxo hR4
  have HR5 := Lib.hid hR5
  have HO5 := Lib.hid hO5
  have HV5 := Lib.hid hV5
  have HX5 := Lib.hid hx5
  have HB5 := Lib.hid hb5
  obtain ⟨⟨v0, z0⟩, ⟨v1, z1⟩, ⟨v2, z2⟩, v3, z3⟩ := cells4 hx5
  obtain ⟨⟨y0, x0⟩, ⟨y1, x1⟩, ⟨y2, x2⟩, y3, x3⟩ := cells4 hb5
  have hbwr : wb.heap.size < w5.heap.size := by omega
  have hbtr : bt < w5.heap.size := by omega
  clear hR5 hO5 hV5 hx5 hb5 hV
  by_cases hz : whichOp l j [8] = 0
  · have HRR : Hid (F = PQ R A c d l i (.ok t j) wb) := by show _ = _; rw [HRE.out]; show PQ R A c d l i (if whichOp l j [8] = 0 then _ else _) wb = _; rw [if_pos hz]
    rw [hz]
    clear hz
    go_wp2_with fail
    refine bodyPost_ret (results_cell_row (t := 25) (fr := (0, 0)) rfl _ _ wb.heap.size _ _ rfl (res4 HX5.out) Tryz.underlying25 rfl (by kernel_rfl)) rfl ?_
    refine HBK.out _ _ ?_
    rw [HRR.out]
    have h := pq_end (.int .i64 t.op) (.int .i64 t.num) (.string t.name) (.slice A' n2 c') hij hjl hRlt HR5.out (HO1.out.trans HO5.out) HV5.out
    unfold Tm.val at h
    rw [← HN2.out] at h
    exact h
  · have hzb : (whichOp l j [8] == 0) = false := by simpa using hz
    have hjl3 := which_lt hz
    have HRR : Hid (F = PQ R A c d l i ((if d = 256 then .bad j 17 else PI (j + 1)).then fun u k => .ok (tmOf 8 [t, u]) k) wb) := by show _ = _; rw [HRE.out]; show PQ R A c d l i (if whichOp l j [8] = 0 then _ else _) wb = _; rw [if_neg hz]
    obtain ⟨zz, hzz⟩ : ∃ zz, zz = whichOp l j [8] := ⟨_, rfl⟩
    rw [← hzz] at hzb ⊢
    have c1 := HR5.out.c1
    have f1 := HR5.out.frozen 1
    clear hz hzz
    go_wp2_with fail
    refine wp_region_held_drew (S := fun w' => w'.heap[bt]? = some (.cells #[.int .i64 t.op, .int .i64 t.num, .string t.name, .slice A' n2 c'] 25 (0, 0)) ∧ BoxR R rb w') (by kernel_rfl) ⟨HB5.out, HBo5.out⟩ (fun hHeld => ?_)
    obtain ⟨W3, hW3⟩ : ∃ W3, W3 = w5.drew := ⟨_, rfl⟩
    rw [← hW3] at hHeld ⊢
    have hR3 : Rdr W3 R A l.length c j d := by rw [hW3]; exact HR5.out
    have ho3 : Only (fun q => q = R) w5 W3 := by rw [hW3]; exact (Only.refl (F := fun q => q = R)).drewN 1
    have hs3 : W3.heap.size = w5.heap.size := by rw [hW3]; rfl
    have ho13 := HO1.out.trans (HO5.out.trans ho3)
    have hcall : Calls Tryz.prog 173 #[.pointer (some ⟨R, 0, none⟩), .func (.func 125) #[.pointer (some ⟨R, 0, none⟩)] #[]] W3 (PQ R A c d l j (if d = 256 then .bad j 17 else PI (j + 1)) W3) := HIN.out W3 j hjl3 hR3 (HP.out.only ho13)
    have HX3 := Lib.hid ((ho3.block wb.heap.size hbwr (by omega)).trans HX5.out)
    have HK3 : Hid (KeepS (fun q => wb.heap.size < q) w5 W3) := KeepS.of_only ho3 (by omega)
    obtain ⟨r2, hr2⟩ : ∃ r2, r2 = (if d = 256 then .bad j 17 else PI (j + 1)) := ⟨_, rfl⟩
    have HRE2 : Hid (F = PQ R A c d l i (r2.then fun u k => .ok (tmOf 8 [t, u]) k) wb) := by show _ = _; rw [HRR.out, hr2]
    rw [← hr2] at hcall
    have HC2 := Lib.hid hcall
    have HO13 := Lib.hid ho13
    clear hW3 hR3 ho3 ho13 hcall hr2 c1 f1 z0 z1 z2 z3 v0 v1 v2 v3 y0 y1 y2 y3 x0 x1 x2 x3
    refine wpAnyH_take (i := 0) (oi := { dst := some 12, op := Op.load 25 (Operand.tmp 3), type := 25, pos := "ttext.go:253", after := #[], guard := none }) (v := ?_) rfl (by kernel_rfl) (by kernel_rfl) (by kernel_rfl) (fun _ _ _ h => h) (Or.inl ⟨by rfl, ?hy⟩) (by assumption) ?_
    case hy =>
     intro w0 hSw
     have e0 := (cells4 hSw.1).1.1
     have e1 := (cells4 hSw.1).2.1.1
     have e2 := (cells4 hSw.1).2.2.1.1
     have e3 := (cells4 hSw.1).2.2.2.1
     have e4 := hSw.2.1
     clear hSw
     go_simp
     (first | done | with_reducible rfl)
    try simp only [Act.put, List.setIfInBounds_toArray, List.set_cons_zero, List.set_cons_succ]
    refine wpAnyH_take (i := 1) (oi := { dst := some 13, op := Op.load 131 (Operand.tmp 1), type := 131, pos := "ttext.go:253", after := #[], guard := none }) (v := ?_) rfl (by kernel_rfl) (by kernel_rfl) (by kernel_rfl) (fun _ _ _ h => h) (Or.inl ⟨by rfl, ?hy⟩) (by assumption) ?_
    case hy =>
     intro w0 hSw
     have e0 := (cells4 hSw.1).1.1
     have e1 := (cells4 hSw.1).2.1.1
     have e2 := (cells4 hSw.1).2.2.1.1
     have e3 := (cells4 hSw.1).2.2.2.1
     have e4 := hSw.2.1
     clear hSw
     go_simp
     (first | done | with_reducible rfl)
    try simp only [Act.put, List.setIfInBounds_toArray, List.set_cons_zero, List.set_cons_succ]
    refine wpAnyH_take (i := 2) (oi := { dst := some 14, op := Op.load 131 (Operand.tmp 1), type := 131, pos := "ttext.go:253", after := #[], guard := none }) (v := ?_) rfl (by kernel_rfl) (by kernel_rfl) (by kernel_rfl) (fun _ _ _ h => h) (Or.inl ⟨by rfl, ?hy⟩) (by assumption) ?_
    case hy =>
     intro w0 hSw
     have e0 := (cells4 hSw.1).1.1
     have e1 := (cells4 hSw.1).2.1.1
     have e2 := (cells4 hSw.1).2.2.1.1
     have e3 := (cells4 hSw.1).2.2.2.1
     have e4 := hSw.2.1
     clear hSw
     go_simp
     (first | done | with_reducible rfl)
    try simp only [Act.put, List.setIfInBounds_toArray, List.set_cons_zero, List.set_cons_succ]
    refine wpAnyH_take (i := 3) (oi := { dst := some 15, op := Op.makeFunc (Fn.func 125) #[Operand.tmp 14] #[], type := 136, pos := "ttext.go:253", after := #[{ on := 2, ground := Ground.data }], guard := none }) (v := ?_) rfl (by kernel_rfl) (by kernel_rfl) (by kernel_rfl) (fun _ _ _ h => h) (Or.inl ⟨by rfl, ?hy⟩) (by assumption) ?_
    case hy =>
     intro w0 hSw
     have e0 := (cells4 hSw.1).1.1
     have e1 := (cells4 hSw.1).2.1.1
     have e2 := (cells4 hSw.1).2.2.1.1
     have e3 := (cells4 hSw.1).2.2.2.1
     have e4 := hSw.2.1
     clear hSw
     go_simp
     (first | done | with_reducible rfl)
    try simp only [Act.put, List.setIfInBounds_toArray, List.set_cons_zero, List.set_cons_succ]
    cases r2 with
    | bad jb xb =>
     refine wpAnyH_ready (rs := [4]) (by kernel_rfl) (by simp) ?_
     refine AllReadyH.cons (o := { dst := some 16, op := Op.call { callee := Callee.value (Operand.func 173), args := #[Operand.tmp 13, Operand.tmp 15], argTypes := #[131, 136] }, type := 25, pos := "ttext.go:253", after := #[{ on := 1, ground := Ground.data }, { on := 3, ground := Ground.data }], guard := none }) rfl (fun K hK => ?_) AllReadyH.nil
     go_simp
     with_reducible refine (HC2.out).mono ?_
     intro e w6 hq
     obtain ⟨rfl, ho6⟩ := hq
     refine (show _ ∧ _ from ⟨rfl, ?_⟩)
     refine HBK.out _ _ ?_
     rw [HRE2.out]
     exact ⟨rfl, HO13.out.trans ho6⟩
    | ok t2 j2 =>
     refine wpAnyH_ready (rs := [4]) (by kernel_rfl) (by simp) ?_
     refine AllReadyH.cons (o := { dst := some 16, op := Op.call { callee := Callee.value (Operand.func 173), args := #[Operand.tmp 13, Operand.tmp 15], argTypes := #[131, 136] }, type := 25, pos := "ttext.go:253", after := #[{ on := 1, ground := Ground.data }, { on := 3, ground := Ground.data }], guard := none }) rfl (fun K hK => ?_) AllReadyH.nil
     go_simp
     with_reducible refine (HC2.out).mono ?_
     intro e w6 hq
     obtain ⟨⟨A2, c2, rfl, hV2⟩, hij2, hjl2', hR6, ho6⟩ := hq
     obtain ⟨n3, hn3⟩ : ∃ n3, n3 = t2.kids.length := ⟨_, rfl⟩
     unfold Tm.val
     rw [← hn3]
     have HN3 := Lib.hid hn3
     have HO6 := Lib.hid ho6
     have HV2 := Lib.hid hV2
     have HR6 := Lib.hid hR6
     have hs6 := ho6.size
     have hbt6 : bt < w6.heap.size := by omega
     have hbw6 : wb.heap.size < w6.heap.size := by omega
     have HX6 := Lib.hid ((ho6.block wb.heap.size (by omega) (by omega)).trans HX3.out)
     have HH6 : Hid (w6.heap[bt]? = some (.cells #[.int .i64 t.op, .int .i64 t.num, .string t.name, .slice A' n2 c'] 25 (0, 0)) ∧ BoxR R rb w6) := ⟨(ho6.block bt (by omega) hbr).trans hHeld.1, hHeld.2.only ho6⟩
     clear hV2 hR6 ho6 hn3 hHeld
     obtain ⟨⟨v0, z0⟩, ⟨v1, z1⟩, ⟨v2, z2⟩, v3, z3⟩ := cells4 HX6.out
     refine hK.out _ _ (HH6.out) (fun hHeld => ?_)
     clear hK K
     try simp only [Act.put, List.setIfInBounds_toArray, List.set_cons_zero, List.set_cons_succ]
     refine wpAnyH_ready (rs := [5]) (by kernel_rfl) (by simp) ?_
     refine AllReadyH.cons (o := { dst := some 17, op := Op.buildSlice 23 2 #[(0, Operand.tmp 12), (1, Operand.tmp 16)], type := 23, pos := "ttext.go:253", after := #[{ on := 0, ground := Ground.data }, { on := 4, ground := Ground.data }], guard := none }) rfl (fun K hK => ?_) AllReadyH.nil
     go_simp
     refine hK.out _ _ (⟨alloc_keep HH6.out.1, HH6.out.2.only (Only.of_below ((Below.refl _ _).alloc (Nat.le_refl _) _))⟩) (fun hHeld => ?_)
     clear hK K
     try simp only [Act.put, List.setIfInBounds_toArray, List.set_cons_zero, List.set_cons_succ]
     refine wpAnyH_ready (rs := [6]) (by kernel_rfl) (by simp) ?_
     refine AllReadyH.cons (o := { dst := some 18, op := Op.build 25 #[(0, Operand.const (Value.int IntKind.i64 8)), (3, Operand.tmp 17)], type := 25, pos := "ttext.go:253", after := #[{ on := 5, ground := Ground.data }], guard := none }) rfl (fun K hK => ?_) AllReadyH.nil
     go_simp
     refine hK.out _ _ (⟨alloc_keep HH6.out.1, HH6.out.2.only (Only.of_below ((Below.refl _ _).alloc (Nat.le_refl _) _))⟩) (fun hHeld => ?_)
     clear hK K
     try simp only [Act.put, List.setIfInBounds_toArray, List.set_cons_zero, List.set_cons_succ]
     refine wpAnyH_ready (rs := [7]) (by kernel_rfl) (by simp) ?_
     refine AllReadyH.cons (o := { dst := none, op := Op.store 25 (Operand.tmp 2) (Operand.tmp 18), type := 0, pos := "ttext.go:253", after := #[{ on := 6, ground := Ground.data }, { on := 4, ground := Ground.chain }, { on := 0, ground := Ground.phase }, { on := 1, ground := Ground.phase }, { on := 2, ground := Ground.phase }, { on := 3, ground := Ground.phase }, { on := 4, ground := Ground.phase }, { on := 5, ground := Ground.phase }, { on := 6, ground := Ground.phase }], guard := none }) rfl (fun K hK => ?_) AllReadyH.nil
     go_simp
     refine hK.out _ _ (⟨alloc_keep ((sets4_other (by omega)).trans HH6.out.1), (HH6.out.2.block (sets4_other (by omega)) (by simp)).only (Only.of_below ((Below.refl _ _).alloc (Nat.le_refl _) _))⟩) (fun hHeld => ?_)
     clear hK K
     try simp only [Act.put, List.setIfInBounds_toArray, List.set_cons_zero, List.set_cons_succ]
     refine wpAnyH_done (by kernel_rfl) ?_ _
     clear hHeld
     go_wp2_with fail
     refine bodyPost_ret (results_cell_row (t := 25) (fr := (0, 0)) rfl _ _ wb.heap.size _ _ rfl (alloc_keep (res4 HX6.out)) Tryz.underlying25 rfl (by kernel_rfl)) rfl ?_
     refine HBK.out _ _ ?_
     rw [HRE2.out, HN2.out, HN3.out]
     exact pq_row2 8 (by omega) hjl2' hRlt HR6.out (HO13.out.trans HO6.out) (by omega) ((HV5.out.keep HK3.out (fun q _ h => h)).keep (KeepS.of_only HO6.out (by omega)) (fun q _ h => h)) (HV2.out.keep KeepS.refl (fun q _ h => by omega))
end Go.Proofs.YtnbphgeepnknlaaGreatDoor
