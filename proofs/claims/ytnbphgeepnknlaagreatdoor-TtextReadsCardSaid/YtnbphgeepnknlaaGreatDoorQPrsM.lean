/- Walk: ttext's reader.unit. -/
import Derived.Test.YtnbphgeepnknlaaGreatDoorQPrsL
namespace Go.Proofs.YtnbphgeepnknlaaGreatDoor
open Go.RowKit
set_option linter.unusedVariables false

/-- The state of unit between its tests. -/
structure UnS (R : Nat) (A : Option Addr) (c d : Nat) (l : List Tok) (i rb rs : Nat) (wb wr : World) : Prop where
 rdr : Rdr wr R A l.length c i d
 box : BoxR R rb wr
 res : wr.heap[rs]? = some (.cells #[.int .i64 0, .int .i64 0, .string ⟨#[]⟩, .slice none 0 0] 25 (0, 0))
 only : Only (fun q => q = R) wb wr
 big : rs < wr.heap.size
theorem UnS.drewN {R c d i rb rs : Nat} {A : Option Addr} {l : List Tok} {wb wr : World} (h : UnS R A c d l i rb rs wb wr) (m : Nat) : UnS R A c d l i rb rs wb (wr.drewN m) := ⟨h.rdr.drewN m, ⟨h.box.1, h.box.2.1, h.box.2.2⟩, h.res, h.only.drewN m, h.big⟩
theorem UnS.onw {R c d i j rb rs : Nat} {A : Option Addr} {l : List Tok} {wb wr w' : World} (h : UnS R A c d l i rb rs wb wr) (hrR : rs ≠ R) (ho : Only (fun q => q = R) wr w') (hr : Rdr w' R A l.length c j d) : UnS R A c d l j rb rs wb w' := ⟨hr, h.box.only ho, (ho.block rs h.big hrR).trans h.res, h.only.trans ho, Nat.lt_of_lt_of_le h.big ho.size⟩
theorem isTk_some {l : List Tok} {i : Nat} {k : Int} {s : Bs} (h : isTk l i k s = true) : ∃ t, l[i]? = some t ∧ t.kind = k ∧ t.text = s := by
 unfold isTk at h
 cases ht : l[i]? with
 | none => rw [ht] at h; cases h
 | some t => rw [ht] at h; simp at h; exact ⟨t, rfl, h.1, h.2⟩
theorem Only.weld {R tb : Nat} {w w1 w2 : World} (h : Only (fun q => q = R) w w1) (k : Only (fun q => q = R ∨ q = tb) w1 w2) (ht : w.heap.size ≤ tb) : Only (fun q => q = R) w w2 :=
 ⟨k.os.trans h.os, k.tape.trans h.tape, k.output.trans h.output, Nat.le_trans h.size k.size, fun q hq hf => (k.block q (Nat.lt_of_lt_of_le hq h.size) (fun e => e.elim hf (fun e => by omega))).trans (h.block q hq hf)⟩
set_option maxRecDepth 100000 in
set_option maxHeartbeats 16000000 in
theorem punit_minus_yes (R : Nat) (A : Option Addr) (c d : Nat) (l : List Tok) (i : Nat) (w : World) (h_minus : isTk l i 4 [45] = true) (t : Tok) (ht : l[i + 1]? = some t) (hk : t.kind = 1) (hi : i ≤ l.length) (hR : Rdr w R A l.length c i d) (hP : PTok w R A c l) :
 Calls Tryz.prog 216 #[.pointer (some ⟨R, 0, none⟩)] w (PQ R A c d l i (.ok (tmNum (-t.n)) (i + 1 + 1)) w) := by
 have hlen := hP.len
 have hRw := hR.lt
 obtain ⟨wb, hwb⟩ : ∃ wb, wb = w.alloc (.cells #[.pointer (some ⟨R, 0, none⟩)] 131) := ⟨_, rfl⟩
 have hbb : Below w.heap.size w wb := by rw [hwb]; exact (Below.refl _ _).alloc (Nat.le_refl _) _
 have hsb : wb.heap.size = w.heap.size + 1 := by rw [hwb]; simp
 have hob : Only (fun q => q = R) w wb := Only.of_below hbb
 have hRb : Rdr wb R A l.length c i d := hR.below hbb hRw
 have hPb := hP.only hob
 obtain ⟨rb, hrb⟩ : ∃ rb, rb = w.heap.size := ⟨_, rfl⟩
 obtain ⟨rs, hrs⟩ : ∃ rs, rs = wb.heap.size := ⟨_, rfl⟩
 have hbox0 : BoxR R rb wb := ⟨by rw [hwb, hrb]; exact (cell_of_row _ _ 0 _ _ (0, 0) (heap_alloc_new w _)).trans rfl, by omega, by omega⟩
 obtain ⟨w1, hw1⟩ : ∃ w1, w1 = wb.alloc (.cells #[.int .i64 0, .int .i64 0, .string ⟨#[]⟩, .slice none 0 0] 25) := ⟨_, rfl⟩
 have hb1 : Below wb.heap.size wb w1 := by rw [hw1]; exact (Below.refl _ _).alloc (Nat.le_refl _) _
 have hs1 : w1.heap.size = rs + 1 := by rw [hw1, hrs]; simp
 have hbx : w1.heap[rs]? = some (.cells #[.int .i64 0, .int .i64 0, .string ⟨#[]⟩, .slice none 0 0] 25 (0, 0)) := by rw [hw1, hrs]; exact heap_alloc_new wb _
 have ho1 : Only (fun q => q = R) wb w1 := Only.of_below hb1
 have HU := Lib.hid (show UnS R A c d l i rb rs wb w1 from ⟨hRb.below hb1 hRb.lt, hbox0.only ho1, hbx, ho1, by omega⟩)
 have hrR : rs ≠ R := by omega
 have hrbR : rb ≠ R := by omega
 have hrbs : rb ≠ rs := by omega
 have hRlt : R < wb.heap.size := by omega
 have hrs2 : rs = w.heap.size + 1 := by omega
 obtain ⟨F0, hF00⟩ : ∃ F, F = PQ R A c d l i (.ok (tmNum (-t.n)) (i + 1 + 1)) w := ⟨_, rfl⟩
 obtain ⟨F, hF0⟩ : ∃ F, F = PQ R A c d l i (.ok (tmNum (-t.n)) (i + 1 + 1)) wb := ⟨_, rfl⟩
 have HBK : Hid (∀ e w', F e w' → F0 e w') := fun e w' h => by rw [hF0] at h; rw [hF00]; exact h.back hob
 rw [← hF00]
 have HIS := Lib.hid (fun (W : World) (k : Int) (s : ByteArray) (h : UnS R A c d l i rb rs wb W) => pis_any R A c i d l k s W h.rdr (hPb.only h.only) (by omega))
 have HP := Lib.hid hPb
 have HRE := Lib.hid hF0
 have HRE0 := Lib.hid hF00
 have HPW := Lib.hid hP
 have HOB := Lib.hid hob
 have HWB := Lib.hid hwb
 have HRS := Lib.hid hrs
 have HRS2 := Lib.hid hrs2
 have HRB := Lib.hid hrb
 have HSB := Lib.hid hsb
 have HW1 := Lib.hid hw1
 clear hF00 hF0 hwb hbb hsb hob hRb hPb hrb hrs hrs2 hbox0 hw1 hb1 hs1 hbx ho1 hP hR
 go_enter Tryz.func216, Tryz.ntmps216
 go_wp2_with fail
 rw [← HWB.out, ← HW1.out, ← HRS2.out, ← HRB.out]
 have b0 := HU.out.box.1
 have bl := HU.out.box.2.1
 have hI := HIS.out w1 4 ⟨#[45]⟩ HU.out
 rw [show isTk l i 4 (bs ⟨#[45]⟩) = true from h_minus] at hI
 have HI := Lib.hid hI
 clear hI
 go_wp2_with fail
 refine (HI.out).mono ?_
 rintro e w2 ⟨rfl, m, hwm⟩
 have HU2 : Hid (UnS R A c d l i rb rs wb w2) := by show UnS _ _ _ _ _ _ _ _ _ _; rw [hwm]; exact HU.out.drewN m
 clear HU HI hwm b0 bl
 rename Hid (UnS _ _ _ _ _ _ _ _ _ _) => HU
 have b0 := HU.out.box.1
 have bl := HU.out.box.2.1
 have c1 := HU.out.rdr.c1
 have f1 := HU.out.rdr.frozen 1
 have hRl := HU.out.rdr.lt
 obtain ⟨W2, hW2⟩ : ∃ W2, W2 = w2.setCell ⟨R, 1, none⟩ (.int .i64 ((i : Int) + 1)) := ⟨_, rfl⟩
 have hwn : Went R A l.length c d (i + 1) w2 W2 := by rw [hW2]; exact went_next (m := 0) HU.out.rdr
 have HU2 := Lib.hid (HU.out.onw hrR hwn.2.1 hwn.1)
 have b2 := HU2.out.box.1
 have bl2 := HU2.out.box.2.1
 have hrng := HP.out.rng t (List.mem_of_getElem? ht)
 have HN := Lib.hid (pnum_yes R A c (i + 1) d l t W2 HU2.out.rdr (HP.out.only HU2.out.only) ht hk)
 have hneg : IntKind.i64.wrap (-t.n) = -t.n := IntWalk.i64_in _ (by omega)
 have hil := (List.getElem?_eq_some_iff.1 ht).1
 obtain ⟨nn, hnn⟩ : ∃ nn, nn = t.n := ⟨_, rfl⟩
 rw [← hnn] at hneg
 have HNN := Lib.hid hnn
 have HW2 := Lib.hid hW2
 clear hW2 hwn hrng ht hk hnn
 go_wp2_with fail
 rw [← HW2.out]
 go_wp2_with fail
 refine (HN.out).mono ?_
 rintro e w9 ⟨rfl, hwent⟩
 rw [← HNN.out]
 have HU3 := Lib.hid (HU2.out.onw hrR hwent.2.1 hwent.1)
 clear HU HU2 hwent c1 f1 b0 bl b2 bl2 HN
 rename Hid (UnS _ _ _ _ _ _ _ _ _ _) => HU
 obtain ⟨⟨v0, z0⟩, ⟨v1, z1⟩, ⟨v2, z2⟩, v3, z3⟩ := cells4 HU.out.res
 have hbg := HU.out.big
 go_wp2_with fail
 have HRESX := Lib.hid HU.out.res
 clear v0 v1 v2 v3 z0 z1 z2 z3
 refine bodyPost_ret (results_cell_row (t := 25) (fr := (0, 0)) rfl _ _ rs _ _ rfl (res4 HRESX.out) Tryz.underlying25 rfl (by kernel_rfl)) rfl ?_
 refine HBK.out _ _ ?_
 rw [HRE.out, HRS.out, ← HNN.out]
 exact pq_end (t := tmNum (-nn)) (A' := none) (c' := 0) _ _ _ _ (by omega) (by omega) hRlt HU.out.rdr HU.out.only (TmVS.leaf (by show 0 ≤ _; exact Nat.zero_le _))
set_option maxRecDepth 100000 in
set_option maxHeartbeats 16000000 in
theorem punit_minus_no (R : Nat) (A : Option Addr) (c d : Nat) (l : List Tok) (i : Nat) (w : World) (h_minus : isTk l i 4 [45] = true) (hk : isKd l (i + 1) 1 = false) (hi : i ≤ l.length) (hR : Rdr w R A l.length c i d) (hP : PTok w R A c l) :
 Calls Tryz.prog 216 #[.pointer (some ⟨R, 0, none⟩)] w (PQ R A c d l i (.bad (i + 1) 16) w) := by
 have hlen := hP.len
 have hRw := hR.lt
 obtain ⟨wb, hwb⟩ : ∃ wb, wb = w.alloc (.cells #[.pointer (some ⟨R, 0, none⟩)] 131) := ⟨_, rfl⟩
 have hbb : Below w.heap.size w wb := by rw [hwb]; exact (Below.refl _ _).alloc (Nat.le_refl _) _
 have hsb : wb.heap.size = w.heap.size + 1 := by rw [hwb]; simp
 have hob : Only (fun q => q = R) w wb := Only.of_below hbb
 have hRb : Rdr wb R A l.length c i d := hR.below hbb hRw
 have hPb := hP.only hob
 obtain ⟨rb, hrb⟩ : ∃ rb, rb = w.heap.size := ⟨_, rfl⟩
 obtain ⟨rs, hrs⟩ : ∃ rs, rs = wb.heap.size := ⟨_, rfl⟩
 have hbox0 : BoxR R rb wb := ⟨by rw [hwb, hrb]; exact (cell_of_row _ _ 0 _ _ (0, 0) (heap_alloc_new w _)).trans rfl, by omega, by omega⟩
 obtain ⟨w1, hw1⟩ : ∃ w1, w1 = wb.alloc (.cells #[.int .i64 0, .int .i64 0, .string ⟨#[]⟩, .slice none 0 0] 25) := ⟨_, rfl⟩
 have hb1 : Below wb.heap.size wb w1 := by rw [hw1]; exact (Below.refl _ _).alloc (Nat.le_refl _) _
 have hs1 : w1.heap.size = rs + 1 := by rw [hw1, hrs]; simp
 have hbx : w1.heap[rs]? = some (.cells #[.int .i64 0, .int .i64 0, .string ⟨#[]⟩, .slice none 0 0] 25 (0, 0)) := by rw [hw1, hrs]; exact heap_alloc_new wb _
 have ho1 : Only (fun q => q = R) wb w1 := Only.of_below hb1
 have HU := Lib.hid (show UnS R A c d l i rb rs wb w1 from ⟨hRb.below hb1 hRb.lt, hbox0.only ho1, hbx, ho1, by omega⟩)
 have hrR : rs ≠ R := by omega
 have hrbR : rb ≠ R := by omega
 have hrbs : rb ≠ rs := by omega
 have hRlt : R < wb.heap.size := by omega
 have hrs2 : rs = w.heap.size + 1 := by omega
 obtain ⟨F0, hF00⟩ : ∃ F, F = PQ R A c d l i (.bad (i + 1) 16) w := ⟨_, rfl⟩
 obtain ⟨F, hF0⟩ : ∃ F, F = PQ R A c d l i (.bad (i + 1) 16) wb := ⟨_, rfl⟩
 have HBK : Hid (∀ e w', F e w' → F0 e w') := fun e w' h => by rw [hF0] at h; rw [hF00]; exact h.back hob
 rw [← hF00]
 have HIS := Lib.hid (fun (W : World) (k : Int) (s : ByteArray) (h : UnS R A c d l i rb rs wb W) => pis_any R A c i d l k s W h.rdr (hPb.only h.only) (by omega))
 have HP := Lib.hid hPb
 have HRE := Lib.hid hF0
 have HRE0 := Lib.hid hF00
 have HPW := Lib.hid hP
 have HOB := Lib.hid hob
 have HWB := Lib.hid hwb
 have HRS := Lib.hid hrs
 have HRS2 := Lib.hid hrs2
 have HRB := Lib.hid hrb
 have HSB := Lib.hid hsb
 have HW1 := Lib.hid hw1
 clear hF00 hF0 hwb hbb hsb hob hRb hPb hrb hrs hrs2 hbox0 hw1 hb1 hs1 hbx ho1 hP hR
 go_enter Tryz.func216, Tryz.ntmps216
 go_wp2_with fail
 rw [← HWB.out, ← HW1.out, ← HRS2.out, ← HRB.out]
 have b0 := HU.out.box.1
 have bl := HU.out.box.2.1
 have hI := HIS.out w1 4 ⟨#[45]⟩ HU.out
 rw [show isTk l i 4 (bs ⟨#[45]⟩) = true from h_minus] at hI
 have HI := Lib.hid hI
 clear hI
 go_wp2_with fail
 refine (HI.out).mono ?_
 rintro e w2 ⟨rfl, m, hwm⟩
 have HU2 : Hid (UnS R A c d l i rb rs wb w2) := by show UnS _ _ _ _ _ _ _ _ _ _; rw [hwm]; exact HU.out.drewN m
 clear HU HI hwm b0 bl
 rename Hid (UnS _ _ _ _ _ _ _ _ _ _) => HU
 have b0 := HU.out.box.1
 have bl := HU.out.box.2.1
 have c1 := HU.out.rdr.c1
 have f1 := HU.out.rdr.frozen 1
 have hRl := HU.out.rdr.lt
 obtain ⟨W2, hW2⟩ : ∃ W2, W2 = w2.setCell ⟨R, 1, none⟩ (.int .i64 ((i : Int) + 1)) := ⟨_, rfl⟩
 have hwn : Went R A l.length c d (i + 1) w2 W2 := by rw [hW2]; exact went_next (m := 0) HU.out.rdr
 have HU2 := Lib.hid (HU.out.onw hrR hwn.2.1 hwn.1)
 have HW2 := Lib.hid hW2
 clear hW2 hwn
 have hil := isTk_lt h_minus
 have HN := Lib.hid (pnum_no R A c (i + 1) d l W2 HU2.out.rdr (HP.out.only HU2.out.only) (by omega) hk)
 go_wp2_with fail
 rw [← HW2.out]
 go_wp2_with fail
 refine (HN.out).mono ?_
 rintro e w9 ⟨rfl, m9, hw9⟩
 refine (show _ ∧ _ from ⟨rfl, ?_⟩)
 refine HBK.out _ _ ?_
 rw [HRE.out, hw9]
 exact ⟨rfl, HU2.out.only.drewN m9⟩
set_option maxRecDepth 100000 in
set_option maxHeartbeats 16000000 in
theorem punit_true (R : Nat) (A : Option Addr) (c d : Nat) (l : List Tok) (i : Nat) (w : World) (h_minus : isTk l i 4 [45] = false) (h_true : isTk l i 3 [116, 114, 117, 101] = true) (hi : i ≤ l.length) (hR : Rdr w R A l.length c i d) (hP : PTok w R A c l) :
 Calls Tryz.prog 216 #[.pointer (some ⟨R, 0, none⟩)] w (PQ R A c d l i (.ok (tmBool 1) (i + 1)) w) := by
 have hlen := hP.len
 have hRw := hR.lt
 obtain ⟨wb, hwb⟩ : ∃ wb, wb = w.alloc (.cells #[.pointer (some ⟨R, 0, none⟩)] 131) := ⟨_, rfl⟩
 have hbb : Below w.heap.size w wb := by rw [hwb]; exact (Below.refl _ _).alloc (Nat.le_refl _) _
 have hsb : wb.heap.size = w.heap.size + 1 := by rw [hwb]; simp
 have hob : Only (fun q => q = R) w wb := Only.of_below hbb
 have hRb : Rdr wb R A l.length c i d := hR.below hbb hRw
 have hPb := hP.only hob
 obtain ⟨rb, hrb⟩ : ∃ rb, rb = w.heap.size := ⟨_, rfl⟩
 obtain ⟨rs, hrs⟩ : ∃ rs, rs = wb.heap.size := ⟨_, rfl⟩
 have hbox0 : BoxR R rb wb := ⟨by rw [hwb, hrb]; exact (cell_of_row _ _ 0 _ _ (0, 0) (heap_alloc_new w _)).trans rfl, by omega, by omega⟩
 obtain ⟨w1, hw1⟩ : ∃ w1, w1 = wb.alloc (.cells #[.int .i64 0, .int .i64 0, .string ⟨#[]⟩, .slice none 0 0] 25) := ⟨_, rfl⟩
 have hb1 : Below wb.heap.size wb w1 := by rw [hw1]; exact (Below.refl _ _).alloc (Nat.le_refl _) _
 have hs1 : w1.heap.size = rs + 1 := by rw [hw1, hrs]; simp
 have hbx : w1.heap[rs]? = some (.cells #[.int .i64 0, .int .i64 0, .string ⟨#[]⟩, .slice none 0 0] 25 (0, 0)) := by rw [hw1, hrs]; exact heap_alloc_new wb _
 have ho1 : Only (fun q => q = R) wb w1 := Only.of_below hb1
 have HU := Lib.hid (show UnS R A c d l i rb rs wb w1 from ⟨hRb.below hb1 hRb.lt, hbox0.only ho1, hbx, ho1, by omega⟩)
 have hrR : rs ≠ R := by omega
 have hrbR : rb ≠ R := by omega
 have hrbs : rb ≠ rs := by omega
 have hRlt : R < wb.heap.size := by omega
 have hrs2 : rs = w.heap.size + 1 := by omega
 obtain ⟨F0, hF00⟩ : ∃ F, F = PQ R A c d l i (.ok (tmBool 1) (i + 1)) w := ⟨_, rfl⟩
 obtain ⟨F, hF0⟩ : ∃ F, F = PQ R A c d l i (.ok (tmBool 1) (i + 1)) wb := ⟨_, rfl⟩
 have HBK : Hid (∀ e w', F e w' → F0 e w') := fun e w' h => by rw [hF0] at h; rw [hF00]; exact h.back hob
 rw [← hF00]
 have HIS := Lib.hid (fun (W : World) (k : Int) (s : ByteArray) (h : UnS R A c d l i rb rs wb W) => pis_any R A c i d l k s W h.rdr (hPb.only h.only) (by omega))
 have HP := Lib.hid hPb
 have HRE := Lib.hid hF0
 have HRE0 := Lib.hid hF00
 have HPW := Lib.hid hP
 have HOB := Lib.hid hob
 have HWB := Lib.hid hwb
 have HRS := Lib.hid hrs
 have HRS2 := Lib.hid hrs2
 have HRB := Lib.hid hrb
 have HSB := Lib.hid hsb
 have HW1 := Lib.hid hw1
 clear hF00 hF0 hwb hbb hsb hob hRb hPb hrb hrs hrs2 hbox0 hw1 hb1 hs1 hbx ho1 hP hR
 go_enter Tryz.func216, Tryz.ntmps216
 go_wp2_with fail
 rw [← HWB.out, ← HW1.out, ← HRS2.out, ← HRB.out]
 have b0 := HU.out.box.1
 have bl := HU.out.box.2.1
 have hI := HIS.out w1 4 ⟨#[45]⟩ HU.out
 rw [show isTk l i 4 (bs ⟨#[45]⟩) = false from h_minus] at hI
 have HI := Lib.hid hI
 clear hI
 go_wp2_with fail
 refine (HI.out).mono ?_
 rintro e w2 ⟨rfl, m, hwm⟩
 have HU2 : Hid (UnS R A c d l i rb rs wb w2) := by show UnS _ _ _ _ _ _ _ _ _ _; rw [hwm]; exact HU.out.drewN m
 clear HU HI hwm b0 bl
 rename Hid (UnS _ _ _ _ _ _ _ _ _ _) => HU
 have b0 := HU.out.box.1
 have bl := HU.out.box.2.1
 have hI := HIS.out w2 3 ⟨#[116, 114, 117, 101]⟩ HU.out
 rw [show isTk l i 3 (bs ⟨#[116, 114, 117, 101]⟩) = true from h_true] at hI
 have HI := Lib.hid hI
 clear hI
 go_wp2_with fail
 refine (HI.out).mono ?_
 rintro e w3 ⟨rfl, m, hwm⟩
 have HU2 : Hid (UnS R A c d l i rb rs wb w3) := by show UnS _ _ _ _ _ _ _ _ _ _; rw [hwm]; exact HU.out.drewN m
 clear HU HI hwm b0 bl
 rename Hid (UnS _ _ _ _ _ _ _ _ _ _) => HU
 obtain ⟨t, ht, hkd, htx⟩ := isTk_some h_true
 rcases HP.out.toks with h0 | ⟨b, off, rfl, hb, hc⟩
 · rw [h0] at ht; simp at ht
 have hbR : b ≠ R := HP.out.apart _ rfl
 have b0 := HU.out.box.1
 have bl := HU.out.box.2.1
 have hil := (List.getElem?_eq_some_iff.1 ht).1
 obtain ⟨n, hn⟩ : ∃ n, n = l.length := ⟨_, rfl⟩
 have c0 := HU.out.rdr.c0
 have c1 := HU.out.rdr.c1
 rw [← hn] at c0
 have hRl := HU.out.rdr.lt
 have hlc := HP.out.cap
 have hcm := HP.out.capm
 unfold maxLen at hcm
 rw [← hn] at hlc
 have hk0 : (0 : Int) ≤ (i : Int) := by omega
 have hk1 : (i : Int) < (n : Int) := by omega
 have hin : i < n := by omega
 have hlen2 : n ≤ 100000 := by omega
 have hbw : b < w3.heap.size := Nat.lt_of_lt_of_le hb HU.out.only.size
 have hbR' : R ≠ b := fun h => hbR h.symm
 have hcell : ∀ j, j < 4 → w3.cell? ⟨b, off + i * 4 + j, none⟩ = some (tokV t j) := fun j hj => by
  rw [HU.out.only.cell hb hbR]
  exact hc i t ht j hj
 have x2 := hcell 2 (by omega)
 simp only [tokV] at x2
 rw [htx] at x2
 have x2' : w3.cell? ⟨b, off + i * 4 + 2, none⟩ = some (.string ⟨#[116, 114, 117, 101]⟩) := x2
 have hs : ((⟨#[116, 114, 117, 101]⟩ : ByteArray).toList == (⟨#[116, 114, 117, 101]⟩ : ByteArray).toList) = true := by simp only [ByteArray.toList_eq]; decide
 clear x2 hcell hc ht htx hkd hn
 go_wp2_with fail
 go_quiet (fail)
 obtain ⟨bt, hbt⟩ : ∃ bt, bt = w3.heap.size := ⟨_, rfl⟩
 obtain ⟨W4, hW4⟩ : ∃ W4, W4 = (w3.alloc (.cells #[.int .i64 2, .int .i64 0, .string ⟨#[]⟩, .slice none 0 0] 25)).drewN nq := ⟨_, rfl⟩
 have HO4 : Hid (Only (fun q => q = R) w3 W4) := by show Only _ _ _; rw [hW4]; exact (Only.of_below ((Below.refl _ _).alloc (Nat.le_refl _) _)).drewN nq
 have HB4 : Hid (W4.heap[bt]? = some (.cells #[.int .i64 2, .int .i64 0, .string ⟨#[]⟩, .slice none 0 0] 25 (0, 0))) := by show _ = _; rw [hW4, hbt]; exact heap_alloc_new w3 _
 have hrd4 : Rdr W4 R (some ⟨b, off, none⟩) l.length c i d := by rw [hW4]; exact (HU.out.rdr.below ((Below.refl _ _).alloc (Nat.le_refl _) _) hRl).drewN nq
 have HU4 := Lib.hid (HU.out.onw hrR HO4.out hrd4)
 have hbbig := HU.out.big
 have hbtR : bt ≠ R := by omega
 have hbtrs : bt ≠ rs := by omega
 have hbtrb : bt ≠ rb := by omega
 have hsz4 : bt < W4.heap.size := lt_of_heap HB4.out
 rw [← hW4, ← hbt]
 have HBTW : Hid (w3.heap.size ≤ bt) := by show _ ≤ _; omega
 clear hrd4 hW4 hbt b0 bl c0 c1 x2' hs
 have b4 := HU4.out.box.1
 have bl4 := HU4.out.box.2.1
 have c4 := HU4.out.rdr.c1
 have f4 := HU4.out.rdr.frozen 1
 have hRl4 := HU4.out.rdr.lt
 obtain ⟨⟨y0, p0⟩, ⟨y1, p1⟩, ⟨y2, p2⟩, y3, p3⟩ := cells4 HB4.out
 obtain ⟨⟨v0, z0⟩, ⟨v1, z1⟩, ⟨v2, z2⟩, v3, z3⟩ := cells4 HU4.out.res
 have hbg4 := HU4.out.big
 go_wp2_with fail
 have HOX : Hid (Only (fun q => q = R) w3 (W4.setCell ⟨bt, 1, none⟩ (.int .i64 1))) := only_setN HO4.out HBTW.out _
 have HRX : Hid (Rdr (W4.setCell ⟨bt, 1, none⟩ (.int .i64 1)) R (some ⟨b, off, none⟩) l.length c i d) := (heap_setCell_other W4 ⟨bt, 1, none⟩ R _ (fun e => hbtR e.symm)).trans HU4.out.rdr
 have hwn := went_next (m := 0) HRX.out
 have HUX := Lib.hid (HU.out.onw hrR (HOX.out.trans hwn.2.1) hwn.1)
 have HRESX := Lib.hid HUX.out.res
 clear v0 v1 v2 v3 z0 z1 z2 z3 y0 y1 y2 y3 p0 p1 p2 p3
 refine bodyPost_ret (results_cell_row (t := 25) (fr := (0, 0)) rfl _ _ rs _ _ rfl (res4 HRESX.out) Tryz.underlying25 rfl (by kernel_rfl)) rfl ?_
 refine HBK.out _ _ ?_
 rw [HRE.out, HRS.out]
 rw [HRS.out] at HUX
 exact pq_end (t := tmBool 1) (A' := none) (c' := 0) _ _ _ _ (by omega) (by omega) hRlt HUX.out.rdr HUX.out.only (TmVS.leaf (by show 0 ≤ _; exact Nat.zero_le _))
set_option maxRecDepth 100000 in
set_option maxHeartbeats 16000000 in
theorem punit_false (R : Nat) (A : Option Addr) (c d : Nat) (l : List Tok) (i : Nat) (w : World) (h_minus : isTk l i 4 [45] = false) (h_true : isTk l i 3 [116, 114, 117, 101] = false) (h_false : isTk l i 3 [102, 97, 108, 115, 101] = true) (hi : i ≤ l.length) (hR : Rdr w R A l.length c i d) (hP : PTok w R A c l) :
 Calls Tryz.prog 216 #[.pointer (some ⟨R, 0, none⟩)] w (PQ R A c d l i (.ok (tmBool 0) (i + 1)) w) := by
 have hlen := hP.len
 have hRw := hR.lt
 obtain ⟨wb, hwb⟩ : ∃ wb, wb = w.alloc (.cells #[.pointer (some ⟨R, 0, none⟩)] 131) := ⟨_, rfl⟩
 have hbb : Below w.heap.size w wb := by rw [hwb]; exact (Below.refl _ _).alloc (Nat.le_refl _) _
 have hsb : wb.heap.size = w.heap.size + 1 := by rw [hwb]; simp
 have hob : Only (fun q => q = R) w wb := Only.of_below hbb
 have hRb : Rdr wb R A l.length c i d := hR.below hbb hRw
 have hPb := hP.only hob
 obtain ⟨rb, hrb⟩ : ∃ rb, rb = w.heap.size := ⟨_, rfl⟩
 obtain ⟨rs, hrs⟩ : ∃ rs, rs = wb.heap.size := ⟨_, rfl⟩
 have hbox0 : BoxR R rb wb := ⟨by rw [hwb, hrb]; exact (cell_of_row _ _ 0 _ _ (0, 0) (heap_alloc_new w _)).trans rfl, by omega, by omega⟩
 obtain ⟨w1, hw1⟩ : ∃ w1, w1 = wb.alloc (.cells #[.int .i64 0, .int .i64 0, .string ⟨#[]⟩, .slice none 0 0] 25) := ⟨_, rfl⟩
 have hb1 : Below wb.heap.size wb w1 := by rw [hw1]; exact (Below.refl _ _).alloc (Nat.le_refl _) _
 have hs1 : w1.heap.size = rs + 1 := by rw [hw1, hrs]; simp
 have hbx : w1.heap[rs]? = some (.cells #[.int .i64 0, .int .i64 0, .string ⟨#[]⟩, .slice none 0 0] 25 (0, 0)) := by rw [hw1, hrs]; exact heap_alloc_new wb _
 have ho1 : Only (fun q => q = R) wb w1 := Only.of_below hb1
 have HU := Lib.hid (show UnS R A c d l i rb rs wb w1 from ⟨hRb.below hb1 hRb.lt, hbox0.only ho1, hbx, ho1, by omega⟩)
 have hrR : rs ≠ R := by omega
 have hrbR : rb ≠ R := by omega
 have hrbs : rb ≠ rs := by omega
 have hRlt : R < wb.heap.size := by omega
 have hrs2 : rs = w.heap.size + 1 := by omega
 obtain ⟨F0, hF00⟩ : ∃ F, F = PQ R A c d l i (.ok (tmBool 0) (i + 1)) w := ⟨_, rfl⟩
 obtain ⟨F, hF0⟩ : ∃ F, F = PQ R A c d l i (.ok (tmBool 0) (i + 1)) wb := ⟨_, rfl⟩
 have HBK : Hid (∀ e w', F e w' → F0 e w') := fun e w' h => by rw [hF0] at h; rw [hF00]; exact h.back hob
 rw [← hF00]
 have HIS := Lib.hid (fun (W : World) (k : Int) (s : ByteArray) (h : UnS R A c d l i rb rs wb W) => pis_any R A c i d l k s W h.rdr (hPb.only h.only) (by omega))
 have HP := Lib.hid hPb
 have HRE := Lib.hid hF0
 have HRE0 := Lib.hid hF00
 have HPW := Lib.hid hP
 have HOB := Lib.hid hob
 have HWB := Lib.hid hwb
 have HRS := Lib.hid hrs
 have HRS2 := Lib.hid hrs2
 have HRB := Lib.hid hrb
 have HSB := Lib.hid hsb
 have HW1 := Lib.hid hw1
 clear hF00 hF0 hwb hbb hsb hob hRb hPb hrb hrs hrs2 hbox0 hw1 hb1 hs1 hbx ho1 hP hR
 go_enter Tryz.func216, Tryz.ntmps216
 go_wp2_with fail
 rw [← HWB.out, ← HW1.out, ← HRS2.out, ← HRB.out]
 have b0 := HU.out.box.1
 have bl := HU.out.box.2.1
 have hI := HIS.out w1 4 ⟨#[45]⟩ HU.out
 rw [show isTk l i 4 (bs ⟨#[45]⟩) = false from h_minus] at hI
 have HI := Lib.hid hI
 clear hI
 go_wp2_with fail
 refine (HI.out).mono ?_
 rintro e w2 ⟨rfl, m, hwm⟩
 have HU2 : Hid (UnS R A c d l i rb rs wb w2) := by show UnS _ _ _ _ _ _ _ _ _ _; rw [hwm]; exact HU.out.drewN m
 clear HU HI hwm b0 bl
 rename Hid (UnS _ _ _ _ _ _ _ _ _ _) => HU
 have b0 := HU.out.box.1
 have bl := HU.out.box.2.1
 have hI := HIS.out w2 3 ⟨#[116, 114, 117, 101]⟩ HU.out
 rw [show isTk l i 3 (bs ⟨#[116, 114, 117, 101]⟩) = false from h_true] at hI
 have HI := Lib.hid hI
 clear hI
 go_wp2_with fail
 refine (HI.out).mono ?_
 rintro e w3 ⟨rfl, m, hwm⟩
 have HU2 : Hid (UnS R A c d l i rb rs wb w3) := by show UnS _ _ _ _ _ _ _ _ _ _; rw [hwm]; exact HU.out.drewN m
 clear HU HI hwm b0 bl
 rename Hid (UnS _ _ _ _ _ _ _ _ _ _) => HU
 have b0 := HU.out.box.1
 have bl := HU.out.box.2.1
 have hI := HIS.out w3 3 ⟨#[102, 97, 108, 115, 101]⟩ HU.out
 rw [show isTk l i 3 (bs ⟨#[102, 97, 108, 115, 101]⟩) = true from h_false] at hI
 have HI := Lib.hid hI
 clear hI
 go_wp2_with fail
 refine (HI.out).mono ?_
 rintro e w4 ⟨rfl, m, hwm⟩
 have HU2 : Hid (UnS R A c d l i rb rs wb w4) := by show UnS _ _ _ _ _ _ _ _ _ _; rw [hwm]; exact HU.out.drewN m
 clear HU HI hwm b0 bl
 rename Hid (UnS _ _ _ _ _ _ _ _ _ _) => HU
 obtain ⟨t, ht, hkd, htx⟩ := isTk_some h_false
 rcases HP.out.toks with h0 | ⟨b, off, rfl, hb, hc⟩
 · rw [h0] at ht; simp at ht
 have hbR : b ≠ R := HP.out.apart _ rfl
 have b0 := HU.out.box.1
 have bl := HU.out.box.2.1
 have hil := (List.getElem?_eq_some_iff.1 ht).1
 obtain ⟨n, hn⟩ : ∃ n, n = l.length := ⟨_, rfl⟩
 have c0 := HU.out.rdr.c0
 have c1 := HU.out.rdr.c1
 rw [← hn] at c0
 have hRl := HU.out.rdr.lt
 have hlc := HP.out.cap
 have hcm := HP.out.capm
 unfold maxLen at hcm
 rw [← hn] at hlc
 have hk0 : (0 : Int) ≤ (i : Int) := by omega
 have hk1 : (i : Int) < (n : Int) := by omega
 have hin : i < n := by omega
 have hlen2 : n ≤ 100000 := by omega
 have hbw : b < w4.heap.size := Nat.lt_of_lt_of_le hb HU.out.only.size
 have hbR' : R ≠ b := fun h => hbR h.symm
 have hcell : ∀ j, j < 4 → w4.cell? ⟨b, off + i * 4 + j, none⟩ = some (tokV t j) := fun j hj => by
  rw [HU.out.only.cell hb hbR]
  exact hc i t ht j hj
 have x2 := hcell 2 (by omega)
 simp only [tokV] at x2
 rw [htx] at x2
 have x2' : w4.cell? ⟨b, off + i * 4 + 2, none⟩ = some (.string ⟨#[102, 97, 108, 115, 101]⟩) := x2
 have hs : ((⟨#[102, 97, 108, 115, 101]⟩ : ByteArray).toList == (⟨#[116, 114, 117, 101]⟩ : ByteArray).toList) = false := by simp only [ByteArray.toList_eq]; decide
 clear x2 hcell hc ht htx hkd hn
 go_wp2_with fail
 go_quiet (fail)
 obtain ⟨bt, hbt⟩ : ∃ bt, bt = w4.heap.size := ⟨_, rfl⟩
 obtain ⟨W4, hW4⟩ : ∃ W4, W4 = (w4.alloc (.cells #[.int .i64 2, .int .i64 0, .string ⟨#[]⟩, .slice none 0 0] 25)).drewN nq := ⟨_, rfl⟩
 have HO4 : Hid (Only (fun q => q = R) w4 W4) := by show Only _ _ _; rw [hW4]; exact (Only.of_below ((Below.refl _ _).alloc (Nat.le_refl _) _)).drewN nq
 have HB4 : Hid (W4.heap[bt]? = some (.cells #[.int .i64 2, .int .i64 0, .string ⟨#[]⟩, .slice none 0 0] 25 (0, 0))) := by show _ = _; rw [hW4, hbt]; exact heap_alloc_new w4 _
 have hrd4 : Rdr W4 R (some ⟨b, off, none⟩) l.length c i d := by rw [hW4]; exact (HU.out.rdr.below ((Below.refl _ _).alloc (Nat.le_refl _) _) hRl).drewN nq
 have HU4 := Lib.hid (HU.out.onw hrR HO4.out hrd4)
 have hbbig := HU.out.big
 have hbtR : bt ≠ R := by omega
 have hbtrs : bt ≠ rs := by omega
 have hbtrb : bt ≠ rb := by omega
 have hsz4 : bt < W4.heap.size := lt_of_heap HB4.out
 rw [← hW4, ← hbt]
 have HBTW : Hid (w4.heap.size ≤ bt) := by show _ ≤ _; omega
 clear hrd4 hW4 hbt b0 bl c0 c1 x2' hs
 have b4 := HU4.out.box.1
 have bl4 := HU4.out.box.2.1
 have c4 := HU4.out.rdr.c1
 have f4 := HU4.out.rdr.frozen 1
 have hRl4 := HU4.out.rdr.lt
 obtain ⟨⟨y0, p0⟩, ⟨y1, p1⟩, ⟨y2, p2⟩, y3, p3⟩ := cells4 HB4.out
 obtain ⟨⟨v0, z0⟩, ⟨v1, z1⟩, ⟨v2, z2⟩, v3, z3⟩ := cells4 HU4.out.res
 have hbg4 := HU4.out.big
 go_wp2_with fail
 have HOX : Hid (Only (fun q => q = R) w4 W4) := HO4.out
 have HRX : Hid (Rdr W4 R (some ⟨b, off, none⟩) l.length c i d) := HU4.out.rdr
 have hwn := went_next (m := 0) HRX.out
 have HUX := Lib.hid (HU.out.onw hrR (HOX.out.trans hwn.2.1) hwn.1)
 have HRESX := Lib.hid HUX.out.res
 clear v0 v1 v2 v3 z0 z1 z2 z3 y0 y1 y2 y3 p0 p1 p2 p3
 refine bodyPost_ret (results_cell_row (t := 25) (fr := (0, 0)) rfl _ _ rs _ _ rfl (res4 HRESX.out) Tryz.underlying25 rfl (by kernel_rfl)) rfl ?_
 refine HBK.out _ _ ?_
 rw [HRE.out, HRS.out]
 rw [HRS.out] at HUX
 exact pq_end (t := tmBool 0) (A' := none) (c' := 0) _ _ _ _ (by omega) (by omega) hRlt HUX.out.rdr HUX.out.only (TmVS.leaf (by show 0 ≤ _; exact Nat.zero_le _))
set_option maxRecDepth 100000 in
set_option maxHeartbeats 16000000 in
theorem punit_next_yes (R : Nat) (A : Option Addr) (c d : Nat) (l : List Tok) (i : Nat) (w : World) (h_minus : isTk l i 4 [45] = false) (h_true : isTk l i 3 [116, 114, 117, 101] = false) (h_false : isTk l i 3 [102, 97, 108, 115, 101] = false) (h_next : isTk l i 3 [110, 101, 120, 116] = true) (hop : isTk l (i + 1) 4 [40] = true) (t : Tok) (ht : l[i + 1 + 1]? = some t) (hk : t.kind = 2) (hcl : isTk l (i + 1 + 1 + 1) 4 [41] = true) (hi : i ≤ l.length) (hR : Rdr w R A l.length c i d) (hP : PTok w R A c l) :
 Calls Tryz.prog 216 #[.pointer (some ⟨R, 0, none⟩)] w (PQ R A c d l i (.ok (tmName 4 t.text) (i + 1 + 1 + 1 + 1)) w) := by
 have hlen := hP.len
 have hRw := hR.lt
 obtain ⟨wb, hwb⟩ : ∃ wb, wb = w.alloc (.cells #[.pointer (some ⟨R, 0, none⟩)] 131) := ⟨_, rfl⟩
 have hbb : Below w.heap.size w wb := by rw [hwb]; exact (Below.refl _ _).alloc (Nat.le_refl _) _
 have hsb : wb.heap.size = w.heap.size + 1 := by rw [hwb]; simp
 have hob : Only (fun q => q = R) w wb := Only.of_below hbb
 have hRb : Rdr wb R A l.length c i d := hR.below hbb hRw
 have hPb := hP.only hob
 obtain ⟨rb, hrb⟩ : ∃ rb, rb = w.heap.size := ⟨_, rfl⟩
 obtain ⟨rs, hrs⟩ : ∃ rs, rs = wb.heap.size := ⟨_, rfl⟩
 have hbox0 : BoxR R rb wb := ⟨by rw [hwb, hrb]; exact (cell_of_row _ _ 0 _ _ (0, 0) (heap_alloc_new w _)).trans rfl, by omega, by omega⟩
 obtain ⟨w1, hw1⟩ : ∃ w1, w1 = wb.alloc (.cells #[.int .i64 0, .int .i64 0, .string ⟨#[]⟩, .slice none 0 0] 25) := ⟨_, rfl⟩
 have hb1 : Below wb.heap.size wb w1 := by rw [hw1]; exact (Below.refl _ _).alloc (Nat.le_refl _) _
 have hs1 : w1.heap.size = rs + 1 := by rw [hw1, hrs]; simp
 have hbx : w1.heap[rs]? = some (.cells #[.int .i64 0, .int .i64 0, .string ⟨#[]⟩, .slice none 0 0] 25 (0, 0)) := by rw [hw1, hrs]; exact heap_alloc_new wb _
 have ho1 : Only (fun q => q = R) wb w1 := Only.of_below hb1
 have HU := Lib.hid (show UnS R A c d l i rb rs wb w1 from ⟨hRb.below hb1 hRb.lt, hbox0.only ho1, hbx, ho1, by omega⟩)
 have hrR : rs ≠ R := by omega
 have hrbR : rb ≠ R := by omega
 have hrbs : rb ≠ rs := by omega
 have hRlt : R < wb.heap.size := by omega
 have hrs2 : rs = w.heap.size + 1 := by omega
 obtain ⟨F0, hF00⟩ : ∃ F, F = PQ R A c d l i (.ok (tmName 4 t.text) (i + 1 + 1 + 1 + 1)) w := ⟨_, rfl⟩
 obtain ⟨F, hF0⟩ : ∃ F, F = PQ R A c d l i (.ok (tmName 4 t.text) (i + 1 + 1 + 1 + 1)) wb := ⟨_, rfl⟩
 have HBK : Hid (∀ e w', F e w' → F0 e w') := fun e w' h => by rw [hF0] at h; rw [hF00]; exact h.back hob
 rw [← hF00]
 have HIS := Lib.hid (fun (W : World) (k : Int) (s : ByteArray) (h : UnS R A c d l i rb rs wb W) => pis_any R A c i d l k s W h.rdr (hPb.only h.only) (by omega))
 have HP := Lib.hid hPb
 have HRE := Lib.hid hF0
 have HRE0 := Lib.hid hF00
 have HPW := Lib.hid hP
 have HOB := Lib.hid hob
 have HWB := Lib.hid hwb
 have HRS := Lib.hid hrs
 have HRS2 := Lib.hid hrs2
 have HRB := Lib.hid hrb
 have HSB := Lib.hid hsb
 have HW1 := Lib.hid hw1
 clear hF00 hF0 hwb hbb hsb hob hRb hPb hrb hrs hrs2 hbox0 hw1 hb1 hs1 hbx ho1 hP hR
 go_enter Tryz.func216, Tryz.ntmps216
 go_wp2_with fail
 rw [← HWB.out, ← HW1.out, ← HRS2.out, ← HRB.out]
 have b0 := HU.out.box.1
 have bl := HU.out.box.2.1
 have hI := HIS.out w1 4 ⟨#[45]⟩ HU.out
 rw [show isTk l i 4 (bs ⟨#[45]⟩) = false from h_minus] at hI
 have HI := Lib.hid hI
 clear hI
 go_wp2_with fail
 refine (HI.out).mono ?_
 rintro e w2 ⟨rfl, m, hwm⟩
 have HU2 : Hid (UnS R A c d l i rb rs wb w2) := by show UnS _ _ _ _ _ _ _ _ _ _; rw [hwm]; exact HU.out.drewN m
 clear HU HI hwm b0 bl
 rename Hid (UnS _ _ _ _ _ _ _ _ _ _) => HU
 have b0 := HU.out.box.1
 have bl := HU.out.box.2.1
 have hI := HIS.out w2 3 ⟨#[116, 114, 117, 101]⟩ HU.out
 rw [show isTk l i 3 (bs ⟨#[116, 114, 117, 101]⟩) = false from h_true] at hI
 have HI := Lib.hid hI
 clear hI
 go_wp2_with fail
 refine (HI.out).mono ?_
 rintro e w3 ⟨rfl, m, hwm⟩
 have HU2 : Hid (UnS R A c d l i rb rs wb w3) := by show UnS _ _ _ _ _ _ _ _ _ _; rw [hwm]; exact HU.out.drewN m
 clear HU HI hwm b0 bl
 rename Hid (UnS _ _ _ _ _ _ _ _ _ _) => HU
 have b0 := HU.out.box.1
 have bl := HU.out.box.2.1
 have hI := HIS.out w3 3 ⟨#[102, 97, 108, 115, 101]⟩ HU.out
 rw [show isTk l i 3 (bs ⟨#[102, 97, 108, 115, 101]⟩) = false from h_false] at hI
 have HI := Lib.hid hI
 clear hI
 go_wp2_with fail
 refine (HI.out).mono ?_
 rintro e w4 ⟨rfl, m, hwm⟩
 have HU2 : Hid (UnS R A c d l i rb rs wb w4) := by show UnS _ _ _ _ _ _ _ _ _ _; rw [hwm]; exact HU.out.drewN m
 clear HU HI hwm b0 bl
 rename Hid (UnS _ _ _ _ _ _ _ _ _ _) => HU
 have b0 := HU.out.box.1
 have bl := HU.out.box.2.1
 have hI := HIS.out w4 3 ⟨#[110, 101, 120, 116]⟩ HU.out
 rw [show isTk l i 3 (bs ⟨#[110, 101, 120, 116]⟩) = true from h_next] at hI
 have HI := Lib.hid hI
 clear hI
 go_wp2_with fail
 refine (HI.out).mono ?_
 rintro e w5 ⟨rfl, m, hwm⟩
 have HU2 : Hid (UnS R A c d l i rb rs wb w5) := by show UnS _ _ _ _ _ _ _ _ _ _; rw [hwm]; exact HU.out.drewN m
 clear HU HI hwm b0 bl
 rename Hid (UnS _ _ _ _ _ _ _ _ _ _) => HU
 have b0 := HU.out.box.1
 have bl := HU.out.box.2.1
 have c1 := HU.out.rdr.c1
 have f1 := HU.out.rdr.frozen 1
 have hRl := HU.out.rdr.lt
 obtain ⟨W2, hW2⟩ : ∃ W2, W2 = w5.setCell ⟨R, 1, none⟩ (.int .i64 ((i : Int) + 1)) := ⟨_, rfl⟩
 have hwn : Went R A l.length c d (i + 1) w5 W2 := by rw [hW2]; exact went_next (m := 0) HU.out.rdr
 have HU2 := Lib.hid (HU.out.onw hrR hwn.2.1 hwn.1)
 have HW2 := Lib.hid hW2
 clear hW2 hwn
 have hil := isTk_lt h_next
 have b2 := HU2.out.box.1
 have bl2 := HU2.out.box.2.1
 have HM := Lib.hid (pmust_yes R A c (i + 1) d l 4 ⟨#[40]⟩ W2 HU2.out.rdr (HP.out.only HU2.out.only) (by omega) hop)
 have hil1 := isTk_lt hop
 clear hop
 go_wp2_with fail
 rw [← HW2.out]
 go_wp2_with fail
 refine (HM.out).mono ?_
 rintro e w6 ⟨rfl, hwent⟩
 have HU3 := Lib.hid (HU2.out.onw hrR hwent.2.1 hwent.1)
 have b3 := HU3.out.box.1
 have bl3 := HU3.out.box.2.1
 clear HU HU2 HM hwent b0 bl c1 f1 b2 bl2 HW2 hRl
 have HNM := Lib.hid (pname_yes R A c (i + 1 + 1) d l t w6 HU3.out.rdr (HP.out.only HU3.out.only) ht hk)
 have hil2 := (List.getElem?_eq_some_iff.1 ht).1
 have HTX := Lib.hid (HP.out.txt t (List.mem_of_getElem? ht))
 obtain ⟨nm, hnm⟩ : ∃ nm : ByteArray, nm = ⟨t.text.toArray⟩ := ⟨_, rfl⟩
 rw [← hnm] at HNM
 have HNMQ := Lib.hid hnm
 clear ht hk hnm
 go_wp2_with fail
 refine (HNM.out).mono ?_
 rintro e w7 ⟨rfl, hwent⟩
 have HU4 := Lib.hid (HU3.out.onw hrR hwent.2.1 hwent.1)
 clear hwent HU3 HNM b3 bl3
 obtain ⟨bt, hbt⟩ : ∃ bt, bt = w7.heap.size := ⟨_, rfl⟩
 obtain ⟨W8, hW8⟩ : ∃ W8, W8 = w7.alloc (.cells #[.int .i64 4, .int .i64 0, .string nm, .slice none 0 0] 25) := ⟨_, rfl⟩
 have HB8 : Hid (W8.heap[bt]? = some (.cells #[.int .i64 4, .int .i64 0, .string nm, .slice none 0 0] 25 (0, 0))) := by show _ = _; rw [hW8, hbt]; exact heap_alloc_new w7 _
 have hrl4 := HU4.out.rdr.lt
 have hbbig := HU4.out.big
 have HU5 : Hid (UnS R A c d l (i + 1 + 1 + 1) rb rs wb W8) := by show UnS _ _ _ _ _ _ _ _ _ _; rw [hW8]; exact HU4.out.onw hrR (Only.of_below ((Below.refl _ _).alloc (Nat.le_refl _) _)) (HU4.out.rdr.below ((Below.refl _ _).alloc (Nat.le_refl _) _) hrl4)
 have hbtR : bt ≠ R := by omega
 have hsz8 : bt < W8.heap.size := lt_of_heap HB8.out
 have b4 := HU4.out.box.1
 have bl4 := HU4.out.box.2.1
 have b5 := HU5.out.box.1
 have bl5 := HU5.out.box.2.1
 have HM := Lib.hid (pmust_yes R A c (i + 1 + 1 + 1) d l 4 ⟨#[41]⟩ W8 HU5.out.rdr (HP.out.only HU5.out.only) (by omega) hcl)
 have hil3 := isTk_lt hcl
 have HW8 := Lib.hid hW8
 have HBT := Lib.hid hbt
 clear hcl hW8 hbt hrl4 hbbig HU4
 go_wp2_with fail
 rw [← HW8.out, ← HBT.out]
 try go_wp2_with fail
 refine (HM.out).mono ?_
 rintro e w9 ⟨rfl, hwent⟩
 have HU6 := Lib.hid (HU5.out.onw hrR hwent.2.1 hwent.1)
 have HB9 := Lib.hid ((hwent.2.1.block bt hsz8 hbtR).trans HB8.out)
 obtain ⟨⟨y0, p0⟩, ⟨y1, p1⟩, ⟨y2, p2⟩, y3, p3⟩ := cells4 HB9.out
 obtain ⟨⟨v0, z0⟩, ⟨v1, z1⟩, ⟨v2, z2⟩, v3, z3⟩ := cells4 HU6.out.res
 clear hwent HU5 HM b4 bl4 b5 bl5
 rename Hid (UnS _ _ _ _ _ _ _ _ _ _) => HU
 go_wp2_with fail
 have HRESX := Lib.hid HU.out.res
 clear v0 v1 v2 v3 z0 z1 z2 z3 y0 y1 y2 y3 p0 p1 p2 p3
 refine bodyPost_ret (results_cell_row (t := 25) (fr := (0, 0)) rfl _ _ rs _ _ rfl (res4 HRESX.out) Tryz.underlying25 rfl (by kernel_rfl)) rfl ?_
 refine HBK.out _ _ ?_
 rw [HRE.out, HRS.out, HNMQ.out]
 rw [HRS.out] at HU
 exact pq_end (t := tmName 4 t.text) (A' := none) (c' := 0) _ _ _ _ (by omega) (by omega) hRlt HU.out.rdr HU.out.only (TmVS.leaf (by have := HTX.out; show t.text.toArray.size ≤ _; unfold maxLen; simp; omega))
set_option maxRecDepth 100000 in
set_option maxHeartbeats 16000000 in
theorem punit_next_no1 (R : Nat) (A : Option Addr) (c d : Nat) (l : List Tok) (i : Nat) (w : World) (h_minus : isTk l i 4 [45] = false) (h_true : isTk l i 3 [116, 114, 117, 101] = false) (h_false : isTk l i 3 [102, 97, 108, 115, 101] = false) (h_next : isTk l i 3 [110, 101, 120, 116] = true) (hop : isTk l (i + 1) 4 [40] = false) (hi : i ≤ l.length) (hR : Rdr w R A l.length c i d) (hP : PTok w R A c l) :
 Calls Tryz.prog 216 #[.pointer (some ⟨R, 0, none⟩)] w (PQ R A c d l i (.bad (i + 1) 16) w) := by
 have hlen := hP.len
 have hRw := hR.lt
 obtain ⟨wb, hwb⟩ : ∃ wb, wb = w.alloc (.cells #[.pointer (some ⟨R, 0, none⟩)] 131) := ⟨_, rfl⟩
 have hbb : Below w.heap.size w wb := by rw [hwb]; exact (Below.refl _ _).alloc (Nat.le_refl _) _
 have hsb : wb.heap.size = w.heap.size + 1 := by rw [hwb]; simp
 have hob : Only (fun q => q = R) w wb := Only.of_below hbb
 have hRb : Rdr wb R A l.length c i d := hR.below hbb hRw
 have hPb := hP.only hob
 obtain ⟨rb, hrb⟩ : ∃ rb, rb = w.heap.size := ⟨_, rfl⟩
 obtain ⟨rs, hrs⟩ : ∃ rs, rs = wb.heap.size := ⟨_, rfl⟩
 have hbox0 : BoxR R rb wb := ⟨by rw [hwb, hrb]; exact (cell_of_row _ _ 0 _ _ (0, 0) (heap_alloc_new w _)).trans rfl, by omega, by omega⟩
 obtain ⟨w1, hw1⟩ : ∃ w1, w1 = wb.alloc (.cells #[.int .i64 0, .int .i64 0, .string ⟨#[]⟩, .slice none 0 0] 25) := ⟨_, rfl⟩
 have hb1 : Below wb.heap.size wb w1 := by rw [hw1]; exact (Below.refl _ _).alloc (Nat.le_refl _) _
 have hs1 : w1.heap.size = rs + 1 := by rw [hw1, hrs]; simp
 have hbx : w1.heap[rs]? = some (.cells #[.int .i64 0, .int .i64 0, .string ⟨#[]⟩, .slice none 0 0] 25 (0, 0)) := by rw [hw1, hrs]; exact heap_alloc_new wb _
 have ho1 : Only (fun q => q = R) wb w1 := Only.of_below hb1
 have HU := Lib.hid (show UnS R A c d l i rb rs wb w1 from ⟨hRb.below hb1 hRb.lt, hbox0.only ho1, hbx, ho1, by omega⟩)
 have hrR : rs ≠ R := by omega
 have hrbR : rb ≠ R := by omega
 have hrbs : rb ≠ rs := by omega
 have hRlt : R < wb.heap.size := by omega
 have hrs2 : rs = w.heap.size + 1 := by omega
 obtain ⟨F0, hF00⟩ : ∃ F, F = PQ R A c d l i (.bad (i + 1) 16) w := ⟨_, rfl⟩
 obtain ⟨F, hF0⟩ : ∃ F, F = PQ R A c d l i (.bad (i + 1) 16) wb := ⟨_, rfl⟩
 have HBK : Hid (∀ e w', F e w' → F0 e w') := fun e w' h => by rw [hF0] at h; rw [hF00]; exact h.back hob
 rw [← hF00]
 have HIS := Lib.hid (fun (W : World) (k : Int) (s : ByteArray) (h : UnS R A c d l i rb rs wb W) => pis_any R A c i d l k s W h.rdr (hPb.only h.only) (by omega))
 have HP := Lib.hid hPb
 have HRE := Lib.hid hF0
 have HRE0 := Lib.hid hF00
 have HPW := Lib.hid hP
 have HOB := Lib.hid hob
 have HWB := Lib.hid hwb
 have HRS := Lib.hid hrs
 have HRS2 := Lib.hid hrs2
 have HRB := Lib.hid hrb
 have HSB := Lib.hid hsb
 have HW1 := Lib.hid hw1
 clear hF00 hF0 hwb hbb hsb hob hRb hPb hrb hrs hrs2 hbox0 hw1 hb1 hs1 hbx ho1 hP hR
 go_enter Tryz.func216, Tryz.ntmps216
 go_wp2_with fail
 rw [← HWB.out, ← HW1.out, ← HRS2.out, ← HRB.out]
 have b0 := HU.out.box.1
 have bl := HU.out.box.2.1
 have hI := HIS.out w1 4 ⟨#[45]⟩ HU.out
 rw [show isTk l i 4 (bs ⟨#[45]⟩) = false from h_minus] at hI
 have HI := Lib.hid hI
 clear hI
 go_wp2_with fail
 refine (HI.out).mono ?_
 rintro e w2 ⟨rfl, m, hwm⟩
 have HU2 : Hid (UnS R A c d l i rb rs wb w2) := by show UnS _ _ _ _ _ _ _ _ _ _; rw [hwm]; exact HU.out.drewN m
 clear HU HI hwm b0 bl
 rename Hid (UnS _ _ _ _ _ _ _ _ _ _) => HU
 have b0 := HU.out.box.1
 have bl := HU.out.box.2.1
 have hI := HIS.out w2 3 ⟨#[116, 114, 117, 101]⟩ HU.out
 rw [show isTk l i 3 (bs ⟨#[116, 114, 117, 101]⟩) = false from h_true] at hI
 have HI := Lib.hid hI
 clear hI
 go_wp2_with fail
 refine (HI.out).mono ?_
 rintro e w3 ⟨rfl, m, hwm⟩
 have HU2 : Hid (UnS R A c d l i rb rs wb w3) := by show UnS _ _ _ _ _ _ _ _ _ _; rw [hwm]; exact HU.out.drewN m
 clear HU HI hwm b0 bl
 rename Hid (UnS _ _ _ _ _ _ _ _ _ _) => HU
 have b0 := HU.out.box.1
 have bl := HU.out.box.2.1
 have hI := HIS.out w3 3 ⟨#[102, 97, 108, 115, 101]⟩ HU.out
 rw [show isTk l i 3 (bs ⟨#[102, 97, 108, 115, 101]⟩) = false from h_false] at hI
 have HI := Lib.hid hI
 clear hI
 go_wp2_with fail
 refine (HI.out).mono ?_
 rintro e w4 ⟨rfl, m, hwm⟩
 have HU2 : Hid (UnS R A c d l i rb rs wb w4) := by show UnS _ _ _ _ _ _ _ _ _ _; rw [hwm]; exact HU.out.drewN m
 clear HU HI hwm b0 bl
 rename Hid (UnS _ _ _ _ _ _ _ _ _ _) => HU
 have b0 := HU.out.box.1
 have bl := HU.out.box.2.1
 have hI := HIS.out w4 3 ⟨#[110, 101, 120, 116]⟩ HU.out
 rw [show isTk l i 3 (bs ⟨#[110, 101, 120, 116]⟩) = true from h_next] at hI
 have HI := Lib.hid hI
 clear hI
 go_wp2_with fail
 refine (HI.out).mono ?_
 rintro e w5 ⟨rfl, m, hwm⟩
 have HU2 : Hid (UnS R A c d l i rb rs wb w5) := by show UnS _ _ _ _ _ _ _ _ _ _; rw [hwm]; exact HU.out.drewN m
 clear HU HI hwm b0 bl
 rename Hid (UnS _ _ _ _ _ _ _ _ _ _) => HU
 have b0 := HU.out.box.1
 have bl := HU.out.box.2.1
 have c1 := HU.out.rdr.c1
 have f1 := HU.out.rdr.frozen 1
 have hRl := HU.out.rdr.lt
 obtain ⟨W2, hW2⟩ : ∃ W2, W2 = w5.setCell ⟨R, 1, none⟩ (.int .i64 ((i : Int) + 1)) := ⟨_, rfl⟩
 have hwn : Went R A l.length c d (i + 1) w5 W2 := by rw [hW2]; exact went_next (m := 0) HU.out.rdr
 have HU2 := Lib.hid (HU.out.onw hrR hwn.2.1 hwn.1)
 have HW2 := Lib.hid hW2
 clear hW2 hwn
 have hil := isTk_lt h_next
 have b2 := HU2.out.box.1
 have bl2 := HU2.out.box.2.1
 have HM := Lib.hid (pmust_no R A c (i + 1) d l 4 ⟨#[40]⟩ W2 HU2.out.rdr (HP.out.only HU2.out.only) (by omega) hop)
 clear hop
 go_wp2_with fail
 rw [← HW2.out]
 go_wp2_with fail
 refine (HM.out).mono ?_
 rintro e w9 ⟨rfl, m9, hw9⟩
 refine (show _ ∧ _ from ⟨rfl, ?_⟩)
 refine HBK.out _ _ ?_
 rw [HRE.out, hw9]
 exact ⟨rfl, HU2.out.only.drewN m9⟩
set_option maxRecDepth 100000 in
set_option maxHeartbeats 16000000 in
theorem punit_next_no2 (R : Nat) (A : Option Addr) (c d : Nat) (l : List Tok) (i : Nat) (w : World) (h_minus : isTk l i 4 [45] = false) (h_true : isTk l i 3 [116, 114, 117, 101] = false) (h_false : isTk l i 3 [102, 97, 108, 115, 101] = false) (h_next : isTk l i 3 [110, 101, 120, 116] = true) (hop : isTk l (i + 1) 4 [40] = true) (hk : isKd l (i + 1 + 1) 2 = false) (hi : i ≤ l.length) (hR : Rdr w R A l.length c i d) (hP : PTok w R A c l) :
 Calls Tryz.prog 216 #[.pointer (some ⟨R, 0, none⟩)] w (PQ R A c d l i (.bad (i + 1 + 1) 16) w) := by
 have hlen := hP.len
 have hRw := hR.lt
 obtain ⟨wb, hwb⟩ : ∃ wb, wb = w.alloc (.cells #[.pointer (some ⟨R, 0, none⟩)] 131) := ⟨_, rfl⟩
 have hbb : Below w.heap.size w wb := by rw [hwb]; exact (Below.refl _ _).alloc (Nat.le_refl _) _
 have hsb : wb.heap.size = w.heap.size + 1 := by rw [hwb]; simp
 have hob : Only (fun q => q = R) w wb := Only.of_below hbb
 have hRb : Rdr wb R A l.length c i d := hR.below hbb hRw
 have hPb := hP.only hob
 obtain ⟨rb, hrb⟩ : ∃ rb, rb = w.heap.size := ⟨_, rfl⟩
 obtain ⟨rs, hrs⟩ : ∃ rs, rs = wb.heap.size := ⟨_, rfl⟩
 have hbox0 : BoxR R rb wb := ⟨by rw [hwb, hrb]; exact (cell_of_row _ _ 0 _ _ (0, 0) (heap_alloc_new w _)).trans rfl, by omega, by omega⟩
 obtain ⟨w1, hw1⟩ : ∃ w1, w1 = wb.alloc (.cells #[.int .i64 0, .int .i64 0, .string ⟨#[]⟩, .slice none 0 0] 25) := ⟨_, rfl⟩
 have hb1 : Below wb.heap.size wb w1 := by rw [hw1]; exact (Below.refl _ _).alloc (Nat.le_refl _) _
 have hs1 : w1.heap.size = rs + 1 := by rw [hw1, hrs]; simp
 have hbx : w1.heap[rs]? = some (.cells #[.int .i64 0, .int .i64 0, .string ⟨#[]⟩, .slice none 0 0] 25 (0, 0)) := by rw [hw1, hrs]; exact heap_alloc_new wb _
 have ho1 : Only (fun q => q = R) wb w1 := Only.of_below hb1
 have HU := Lib.hid (show UnS R A c d l i rb rs wb w1 from ⟨hRb.below hb1 hRb.lt, hbox0.only ho1, hbx, ho1, by omega⟩)
 have hrR : rs ≠ R := by omega
 have hrbR : rb ≠ R := by omega
 have hrbs : rb ≠ rs := by omega
 have hRlt : R < wb.heap.size := by omega
 have hrs2 : rs = w.heap.size + 1 := by omega
 obtain ⟨F0, hF00⟩ : ∃ F, F = PQ R A c d l i (.bad (i + 1 + 1) 16) w := ⟨_, rfl⟩
 obtain ⟨F, hF0⟩ : ∃ F, F = PQ R A c d l i (.bad (i + 1 + 1) 16) wb := ⟨_, rfl⟩
 have HBK : Hid (∀ e w', F e w' → F0 e w') := fun e w' h => by rw [hF0] at h; rw [hF00]; exact h.back hob
 rw [← hF00]
 have HIS := Lib.hid (fun (W : World) (k : Int) (s : ByteArray) (h : UnS R A c d l i rb rs wb W) => pis_any R A c i d l k s W h.rdr (hPb.only h.only) (by omega))
 have HP := Lib.hid hPb
 have HRE := Lib.hid hF0
 have HRE0 := Lib.hid hF00
 have HPW := Lib.hid hP
 have HOB := Lib.hid hob
 have HWB := Lib.hid hwb
 have HRS := Lib.hid hrs
 have HRS2 := Lib.hid hrs2
 have HRB := Lib.hid hrb
 have HSB := Lib.hid hsb
 have HW1 := Lib.hid hw1
 clear hF00 hF0 hwb hbb hsb hob hRb hPb hrb hrs hrs2 hbox0 hw1 hb1 hs1 hbx ho1 hP hR
 go_enter Tryz.func216, Tryz.ntmps216
 go_wp2_with fail
 rw [← HWB.out, ← HW1.out, ← HRS2.out, ← HRB.out]
 have b0 := HU.out.box.1
 have bl := HU.out.box.2.1
 have hI := HIS.out w1 4 ⟨#[45]⟩ HU.out
 rw [show isTk l i 4 (bs ⟨#[45]⟩) = false from h_minus] at hI
 have HI := Lib.hid hI
 clear hI
 go_wp2_with fail
 refine (HI.out).mono ?_
 rintro e w2 ⟨rfl, m, hwm⟩
 have HU2 : Hid (UnS R A c d l i rb rs wb w2) := by show UnS _ _ _ _ _ _ _ _ _ _; rw [hwm]; exact HU.out.drewN m
 clear HU HI hwm b0 bl
 rename Hid (UnS _ _ _ _ _ _ _ _ _ _) => HU
 have b0 := HU.out.box.1
 have bl := HU.out.box.2.1
 have hI := HIS.out w2 3 ⟨#[116, 114, 117, 101]⟩ HU.out
 rw [show isTk l i 3 (bs ⟨#[116, 114, 117, 101]⟩) = false from h_true] at hI
 have HI := Lib.hid hI
 clear hI
 go_wp2_with fail
 refine (HI.out).mono ?_
 rintro e w3 ⟨rfl, m, hwm⟩
 have HU2 : Hid (UnS R A c d l i rb rs wb w3) := by show UnS _ _ _ _ _ _ _ _ _ _; rw [hwm]; exact HU.out.drewN m
 clear HU HI hwm b0 bl
 rename Hid (UnS _ _ _ _ _ _ _ _ _ _) => HU
 have b0 := HU.out.box.1
 have bl := HU.out.box.2.1
 have hI := HIS.out w3 3 ⟨#[102, 97, 108, 115, 101]⟩ HU.out
 rw [show isTk l i 3 (bs ⟨#[102, 97, 108, 115, 101]⟩) = false from h_false] at hI
 have HI := Lib.hid hI
 clear hI
 go_wp2_with fail
 refine (HI.out).mono ?_
 rintro e w4 ⟨rfl, m, hwm⟩
 have HU2 : Hid (UnS R A c d l i rb rs wb w4) := by show UnS _ _ _ _ _ _ _ _ _ _; rw [hwm]; exact HU.out.drewN m
 clear HU HI hwm b0 bl
 rename Hid (UnS _ _ _ _ _ _ _ _ _ _) => HU
 have b0 := HU.out.box.1
 have bl := HU.out.box.2.1
 have hI := HIS.out w4 3 ⟨#[110, 101, 120, 116]⟩ HU.out
 rw [show isTk l i 3 (bs ⟨#[110, 101, 120, 116]⟩) = true from h_next] at hI
 have HI := Lib.hid hI
 clear hI
 go_wp2_with fail
 refine (HI.out).mono ?_
 rintro e w5 ⟨rfl, m, hwm⟩
 have HU2 : Hid (UnS R A c d l i rb rs wb w5) := by show UnS _ _ _ _ _ _ _ _ _ _; rw [hwm]; exact HU.out.drewN m
 clear HU HI hwm b0 bl
 rename Hid (UnS _ _ _ _ _ _ _ _ _ _) => HU
 have b0 := HU.out.box.1
 have bl := HU.out.box.2.1
 have c1 := HU.out.rdr.c1
 have f1 := HU.out.rdr.frozen 1
 have hRl := HU.out.rdr.lt
 obtain ⟨W2, hW2⟩ : ∃ W2, W2 = w5.setCell ⟨R, 1, none⟩ (.int .i64 ((i : Int) + 1)) := ⟨_, rfl⟩
 have hwn : Went R A l.length c d (i + 1) w5 W2 := by rw [hW2]; exact went_next (m := 0) HU.out.rdr
 have HU2 := Lib.hid (HU.out.onw hrR hwn.2.1 hwn.1)
 have HW2 := Lib.hid hW2
 clear hW2 hwn
 have hil := isTk_lt h_next
 have b2 := HU2.out.box.1
 have bl2 := HU2.out.box.2.1
 have HM := Lib.hid (pmust_yes R A c (i + 1) d l 4 ⟨#[40]⟩ W2 HU2.out.rdr (HP.out.only HU2.out.only) (by omega) hop)
 have hil1 := isTk_lt hop
 clear hop
 go_wp2_with fail
 rw [← HW2.out]
 go_wp2_with fail
 refine (HM.out).mono ?_
 rintro e w6 ⟨rfl, hwent⟩
 have HU3 := Lib.hid (HU2.out.onw hrR hwent.2.1 hwent.1)
 have b3 := HU3.out.box.1
 have bl3 := HU3.out.box.2.1
 clear HU HU2 HM hwent b0 bl c1 f1 b2 bl2 HW2 hRl
 have HNM := Lib.hid (pname_no R A c (i + 1 + 1) d l w6 HU3.out.rdr (HP.out.only HU3.out.only) (by omega) hk)
 go_wp2_with fail
 refine (HNM.out).mono ?_
 rintro e w9 ⟨rfl, m9, hw9⟩
 refine (show _ ∧ _ from ⟨rfl, ?_⟩)
 refine HBK.out _ _ ?_
 rw [HRE.out, hw9]
 exact ⟨rfl, HU3.out.only.drewN m9⟩
set_option maxRecDepth 100000 in
set_option maxHeartbeats 16000000 in
theorem punit_next_no3 (R : Nat) (A : Option Addr) (c d : Nat) (l : List Tok) (i : Nat) (w : World) (h_minus : isTk l i 4 [45] = false) (h_true : isTk l i 3 [116, 114, 117, 101] = false) (h_false : isTk l i 3 [102, 97, 108, 115, 101] = false) (h_next : isTk l i 3 [110, 101, 120, 116] = true) (hop : isTk l (i + 1) 4 [40] = true) (t : Tok) (ht : l[i + 1 + 1]? = some t) (hk : t.kind = 2) (hcl : isTk l (i + 1 + 1 + 1) 4 [41] = false) (hi : i ≤ l.length) (hR : Rdr w R A l.length c i d) (hP : PTok w R A c l) :
 Calls Tryz.prog 216 #[.pointer (some ⟨R, 0, none⟩)] w (PQ R A c d l i (.bad (i + 1 + 1 + 1) 16) w) := by
 have hlen := hP.len
 have hRw := hR.lt
 obtain ⟨wb, hwb⟩ : ∃ wb, wb = w.alloc (.cells #[.pointer (some ⟨R, 0, none⟩)] 131) := ⟨_, rfl⟩
 have hbb : Below w.heap.size w wb := by rw [hwb]; exact (Below.refl _ _).alloc (Nat.le_refl _) _
 have hsb : wb.heap.size = w.heap.size + 1 := by rw [hwb]; simp
 have hob : Only (fun q => q = R) w wb := Only.of_below hbb
 have hRb : Rdr wb R A l.length c i d := hR.below hbb hRw
 have hPb := hP.only hob
 obtain ⟨rb, hrb⟩ : ∃ rb, rb = w.heap.size := ⟨_, rfl⟩
 obtain ⟨rs, hrs⟩ : ∃ rs, rs = wb.heap.size := ⟨_, rfl⟩
 have hbox0 : BoxR R rb wb := ⟨by rw [hwb, hrb]; exact (cell_of_row _ _ 0 _ _ (0, 0) (heap_alloc_new w _)).trans rfl, by omega, by omega⟩
 obtain ⟨w1, hw1⟩ : ∃ w1, w1 = wb.alloc (.cells #[.int .i64 0, .int .i64 0, .string ⟨#[]⟩, .slice none 0 0] 25) := ⟨_, rfl⟩
 have hb1 : Below wb.heap.size wb w1 := by rw [hw1]; exact (Below.refl _ _).alloc (Nat.le_refl _) _
 have hs1 : w1.heap.size = rs + 1 := by rw [hw1, hrs]; simp
 have hbx : w1.heap[rs]? = some (.cells #[.int .i64 0, .int .i64 0, .string ⟨#[]⟩, .slice none 0 0] 25 (0, 0)) := by rw [hw1, hrs]; exact heap_alloc_new wb _
 have ho1 : Only (fun q => q = R) wb w1 := Only.of_below hb1
 have HU := Lib.hid (show UnS R A c d l i rb rs wb w1 from ⟨hRb.below hb1 hRb.lt, hbox0.only ho1, hbx, ho1, by omega⟩)
 have hrR : rs ≠ R := by omega
 have hrbR : rb ≠ R := by omega
 have hrbs : rb ≠ rs := by omega
 have hRlt : R < wb.heap.size := by omega
 have hrs2 : rs = w.heap.size + 1 := by omega
 obtain ⟨F0, hF00⟩ : ∃ F, F = PQ R A c d l i (.bad (i + 1 + 1 + 1) 16) w := ⟨_, rfl⟩
 obtain ⟨F, hF0⟩ : ∃ F, F = PQ R A c d l i (.bad (i + 1 + 1 + 1) 16) wb := ⟨_, rfl⟩
 have HBK : Hid (∀ e w', F e w' → F0 e w') := fun e w' h => by rw [hF0] at h; rw [hF00]; exact h.back hob
 rw [← hF00]
 have HIS := Lib.hid (fun (W : World) (k : Int) (s : ByteArray) (h : UnS R A c d l i rb rs wb W) => pis_any R A c i d l k s W h.rdr (hPb.only h.only) (by omega))
 have HP := Lib.hid hPb
 have HRE := Lib.hid hF0
 have HRE0 := Lib.hid hF00
 have HPW := Lib.hid hP
 have HOB := Lib.hid hob
 have HWB := Lib.hid hwb
 have HRS := Lib.hid hrs
 have HRS2 := Lib.hid hrs2
 have HRB := Lib.hid hrb
 have HSB := Lib.hid hsb
 have HW1 := Lib.hid hw1
 clear hF00 hF0 hwb hbb hsb hob hRb hPb hrb hrs hrs2 hbox0 hw1 hb1 hs1 hbx ho1 hP hR
 go_enter Tryz.func216, Tryz.ntmps216
 go_wp2_with fail
 rw [← HWB.out, ← HW1.out, ← HRS2.out, ← HRB.out]
 have b0 := HU.out.box.1
 have bl := HU.out.box.2.1
 have hI := HIS.out w1 4 ⟨#[45]⟩ HU.out
 rw [show isTk l i 4 (bs ⟨#[45]⟩) = false from h_minus] at hI
 have HI := Lib.hid hI
 clear hI
 go_wp2_with fail
 refine (HI.out).mono ?_
 rintro e w2 ⟨rfl, m, hwm⟩
 have HU2 : Hid (UnS R A c d l i rb rs wb w2) := by show UnS _ _ _ _ _ _ _ _ _ _; rw [hwm]; exact HU.out.drewN m
 clear HU HI hwm b0 bl
 rename Hid (UnS _ _ _ _ _ _ _ _ _ _) => HU
 have b0 := HU.out.box.1
 have bl := HU.out.box.2.1
 have hI := HIS.out w2 3 ⟨#[116, 114, 117, 101]⟩ HU.out
 rw [show isTk l i 3 (bs ⟨#[116, 114, 117, 101]⟩) = false from h_true] at hI
 have HI := Lib.hid hI
 clear hI
 go_wp2_with fail
 refine (HI.out).mono ?_
 rintro e w3 ⟨rfl, m, hwm⟩
 have HU2 : Hid (UnS R A c d l i rb rs wb w3) := by show UnS _ _ _ _ _ _ _ _ _ _; rw [hwm]; exact HU.out.drewN m
 clear HU HI hwm b0 bl
 rename Hid (UnS _ _ _ _ _ _ _ _ _ _) => HU
 have b0 := HU.out.box.1
 have bl := HU.out.box.2.1
 have hI := HIS.out w3 3 ⟨#[102, 97, 108, 115, 101]⟩ HU.out
 rw [show isTk l i 3 (bs ⟨#[102, 97, 108, 115, 101]⟩) = false from h_false] at hI
 have HI := Lib.hid hI
 clear hI
 go_wp2_with fail
 refine (HI.out).mono ?_
 rintro e w4 ⟨rfl, m, hwm⟩
 have HU2 : Hid (UnS R A c d l i rb rs wb w4) := by show UnS _ _ _ _ _ _ _ _ _ _; rw [hwm]; exact HU.out.drewN m
 clear HU HI hwm b0 bl
 rename Hid (UnS _ _ _ _ _ _ _ _ _ _) => HU
 have b0 := HU.out.box.1
 have bl := HU.out.box.2.1
 have hI := HIS.out w4 3 ⟨#[110, 101, 120, 116]⟩ HU.out
 rw [show isTk l i 3 (bs ⟨#[110, 101, 120, 116]⟩) = true from h_next] at hI
 have HI := Lib.hid hI
 clear hI
 go_wp2_with fail
 refine (HI.out).mono ?_
 rintro e w5 ⟨rfl, m, hwm⟩
 have HU2 : Hid (UnS R A c d l i rb rs wb w5) := by show UnS _ _ _ _ _ _ _ _ _ _; rw [hwm]; exact HU.out.drewN m
 clear HU HI hwm b0 bl
 rename Hid (UnS _ _ _ _ _ _ _ _ _ _) => HU
 have b0 := HU.out.box.1
 have bl := HU.out.box.2.1
 have c1 := HU.out.rdr.c1
 have f1 := HU.out.rdr.frozen 1
 have hRl := HU.out.rdr.lt
 obtain ⟨W2, hW2⟩ : ∃ W2, W2 = w5.setCell ⟨R, 1, none⟩ (.int .i64 ((i : Int) + 1)) := ⟨_, rfl⟩
 have hwn : Went R A l.length c d (i + 1) w5 W2 := by rw [hW2]; exact went_next (m := 0) HU.out.rdr
 have HU2 := Lib.hid (HU.out.onw hrR hwn.2.1 hwn.1)
 have HW2 := Lib.hid hW2
 clear hW2 hwn
 have hil := isTk_lt h_next
 have b2 := HU2.out.box.1
 have bl2 := HU2.out.box.2.1
 have HM := Lib.hid (pmust_yes R A c (i + 1) d l 4 ⟨#[40]⟩ W2 HU2.out.rdr (HP.out.only HU2.out.only) (by omega) hop)
 have hil1 := isTk_lt hop
 clear hop
 go_wp2_with fail
 rw [← HW2.out]
 go_wp2_with fail
 refine (HM.out).mono ?_
 rintro e w6 ⟨rfl, hwent⟩
 have HU3 := Lib.hid (HU2.out.onw hrR hwent.2.1 hwent.1)
 have b3 := HU3.out.box.1
 have bl3 := HU3.out.box.2.1
 clear HU HU2 HM hwent b0 bl c1 f1 b2 bl2 HW2 hRl
 have HNM := Lib.hid (pname_yes R A c (i + 1 + 1) d l t w6 HU3.out.rdr (HP.out.only HU3.out.only) ht hk)
 have hil2 := (List.getElem?_eq_some_iff.1 ht).1
 have HTX := Lib.hid (HP.out.txt t (List.mem_of_getElem? ht))
 obtain ⟨nm, hnm⟩ : ∃ nm : ByteArray, nm = ⟨t.text.toArray⟩ := ⟨_, rfl⟩
 rw [← hnm] at HNM
 have HNMQ := Lib.hid hnm
 clear ht hk hnm
 go_wp2_with fail
 refine (HNM.out).mono ?_
 rintro e w7 ⟨rfl, hwent⟩
 have HU4 := Lib.hid (HU3.out.onw hrR hwent.2.1 hwent.1)
 clear hwent HU3 HNM b3 bl3
 obtain ⟨bt, hbt⟩ : ∃ bt, bt = w7.heap.size := ⟨_, rfl⟩
 obtain ⟨W8, hW8⟩ : ∃ W8, W8 = w7.alloc (.cells #[.int .i64 4, .int .i64 0, .string nm, .slice none 0 0] 25) := ⟨_, rfl⟩
 have HB8 : Hid (W8.heap[bt]? = some (.cells #[.int .i64 4, .int .i64 0, .string nm, .slice none 0 0] 25 (0, 0))) := by show _ = _; rw [hW8, hbt]; exact heap_alloc_new w7 _
 have hrl4 := HU4.out.rdr.lt
 have hbbig := HU4.out.big
 have HU5 : Hid (UnS R A c d l (i + 1 + 1 + 1) rb rs wb W8) := by show UnS _ _ _ _ _ _ _ _ _ _; rw [hW8]; exact HU4.out.onw hrR (Only.of_below ((Below.refl _ _).alloc (Nat.le_refl _) _)) (HU4.out.rdr.below ((Below.refl _ _).alloc (Nat.le_refl _) _) hrl4)
 have hbtR : bt ≠ R := by omega
 have hsz8 : bt < W8.heap.size := lt_of_heap HB8.out
 have b4 := HU4.out.box.1
 have bl4 := HU4.out.box.2.1
 have b5 := HU5.out.box.1
 have bl5 := HU5.out.box.2.1
 have HM := Lib.hid (pmust_no R A c (i + 1 + 1 + 1) d l 4 ⟨#[41]⟩ W8 HU5.out.rdr (HP.out.only HU5.out.only) (by omega) hcl)
 have HW8 := Lib.hid hW8
 have HBT := Lib.hid hbt
 clear hcl hW8 hbt hrl4 hbbig HU4
 go_wp2_with fail
 rw [← HW8.out, ← HBT.out]
 try go_wp2_with fail
 refine (HM.out).mono ?_
 rintro e w9 ⟨rfl, m9, hw9⟩
 refine (show _ ∧ _ from ⟨rfl, ?_⟩)
 refine HBK.out _ _ ?_
 rw [HRE.out, hw9]
 exact ⟨rfl, HU5.out.only.drewN m9⟩
end Go.Proofs.YtnbphgeepnknlaaGreatDoor
