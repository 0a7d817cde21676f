/- Walk: ttext's reader.unit, the paths (, if, a name, a number, none. -/
import Derived.Test.YtnbphgeepnknlaaGreatDoorQPrsM
namespace Go.Proofs.YtnbphgeepnknlaaGreatDoor
open Go.RowKit
set_option linter.unusedVariables false

set_option maxRecDepth 100000 in
set_option maxHeartbeats 16000000 in
theorem punit_open (R : Nat) (A : Option Addr) (c d : Nat) (l : List Tok) (i : Nat) (w : World) (h_minus : isTk l i 4 [45] = false) (h_true : isTk l i 3 [116, 114, 117, 101] = false) (h_false : isTk l i 3 [102, 97, 108, 115, 101] = false) (h_next : isTk l i 3 [110, 101, 120, 116] = false) (h_open : isTk l i 4 [40] = true) (T : Par) (hd : d ≤ 256) (hT : d < 256 → FnC R A c (d + 1) l 67 (.pointer (some ⟨R, 0, none⟩)) (fun _ => True) T) (hi : i ≤ l.length) (hR : Rdr w R A l.length c i d) (hP : PTok w R A c l) :
 Calls Tryz.prog 216 #[.pointer (some ⟨R, 0, none⟩)] w (PQ R A c d l i ((if d = 256 then .bad i 17 else T (i + 1)).then fun t j => if isTk l j 4 [41] then .ok t (j + 1) else .bad j 16) w) := by
 have hlen := hP.len
 have hRw := hR.lt
 obtain ⟨wb, hwb⟩ : ∃ wb, wb = w.alloc (.cells #[.pointer (some ⟨R, 0, none⟩)] 131) := ⟨_, rfl⟩
 have hbb : Below w.heap.size w wb := by rw [hwb]; exact (Below.refl _ _).alloc (Nat.le_refl _) _
 have hsb : wb.heap.size = w.heap.size + 1 := by rw [hwb]; simp
 have hob : Only (fun q => q = R) w wb := Only.of_below hbb
 have hRb : Rdr wb R A l.length c i d := hR.below hbb hRw
 have hPb := hP.only hob
 obtain ⟨rb, hrb⟩ : ∃ rb, rb = w.heap.size := ⟨_, rfl⟩
 obtain ⟨rs, hrs⟩ : ∃ rs, rs = wb.heap.size := ⟨_, rfl⟩
 have hbox0 : BoxR R rb wb := ⟨by rw [hwb, hrb]; exact (cell_of_row _ _ 0 _ _ (0, 0) (heap_alloc_new w _)).trans rfl, by omega, by omega⟩
 obtain ⟨w1, hw1⟩ : ∃ w1, w1 = wb.alloc (.cells #[.int .i64 0, .int .i64 0, .string ⟨#[]⟩, .slice none 0 0] 25) := ⟨_, rfl⟩
 have hb1 : Below wb.heap.size wb w1 := by rw [hw1]; exact (Below.refl _ _).alloc (Nat.le_refl _) _
 have hs1 : w1.heap.size = rs + 1 := by rw [hw1, hrs]; simp
 have hbx : w1.heap[rs]? = some (.cells #[.int .i64 0, .int .i64 0, .string ⟨#[]⟩, .slice none 0 0] 25 (0, 0)) := by rw [hw1, hrs]; exact heap_alloc_new wb _
 have ho1 : Only (fun q => q = R) wb w1 := Only.of_below hb1
 have HU := Lib.hid (show UnS R A c d l i rb rs wb w1 from ⟨hRb.below hb1 hRb.lt, hbox0.only ho1, hbx, ho1, by omega⟩)
 have hrR : rs ≠ R := by omega
 have hrbR : rb ≠ R := by omega
 have hrbs : rb ≠ rs := by omega
 have hRlt : R < wb.heap.size := by omega
 have hrs2 : rs = w.heap.size + 1 := by omega
 obtain ⟨F0, hF00⟩ : ∃ F, F = PQ R A c d l i ((if d = 256 then .bad i 17 else T (i + 1)).then fun t j => if isTk l j 4 [41] then .ok t (j + 1) else .bad j 16) w := ⟨_, rfl⟩
 obtain ⟨F, hF0⟩ : ∃ F, F = PQ R A c d l i ((if d = 256 then .bad i 17 else T (i + 1)).then fun t j => if isTk l j 4 [41] then .ok t (j + 1) else .bad j 16) wb := ⟨_, rfl⟩
 have HBK : Hid (∀ e w', F e w' → F0 e w') := fun e w' h => by rw [hF0] at h; rw [hF00]; exact h.back hob
 rw [← hF00]
 have HIS := Lib.hid (fun (W : World) (k : Int) (s : ByteArray) (h : UnS R A c d l i rb rs wb W) => pis_any R A c i d l k s W h.rdr (hPb.only h.only) (by omega))
 have HP := Lib.hid hPb
 have HRE := Lib.hid hF0
 have HRE0 := Lib.hid hF00
 have HPW := Lib.hid hP
 have HOB := Lib.hid hob
 have HWB := Lib.hid hwb
 have HRS := Lib.hid hrs
 have HRS2 := Lib.hid hrs2
 have HRB := Lib.hid hrb
 have HSB := Lib.hid hsb
 have HW1 := Lib.hid hw1
 clear hF00 hF0 hwb hbb hsb hob hRb hPb hrb hrs hrs2 hbox0 hw1 hb1 hs1 hbx ho1 hP hR
 go_enter Tryz.func216, Tryz.ntmps216
 go_wp2_with fail
 rw [← HWB.out, ← HW1.out, ← HRS2.out, ← HRB.out]
 have b0 := HU.out.box.1
 have bl := HU.out.box.2.1
 have hI := HIS.out w1 4 ⟨#[45]⟩ HU.out
 rw [show isTk l i 4 (bs ⟨#[45]⟩) = false from h_minus] at hI
 have HI := Lib.hid hI
 clear hI
 go_wp2_with fail
 refine (HI.out).mono ?_
 rintro e w2 ⟨rfl, m, hwm⟩
 have HU2 : Hid (UnS R A c d l i rb rs wb w2) := by show UnS _ _ _ _ _ _ _ _ _ _; rw [hwm]; exact HU.out.drewN m
 clear HU HI hwm b0 bl
 rename Hid (UnS _ _ _ _ _ _ _ _ _ _) => HU
 have b0 := HU.out.box.1
 have bl := HU.out.box.2.1
 have hI := HIS.out w2 3 ⟨#[116, 114, 117, 101]⟩ HU.out
 rw [show isTk l i 3 (bs ⟨#[116, 114, 117, 101]⟩) = false from h_true] at hI
 have HI := Lib.hid hI
 clear hI
 go_wp2_with fail
 refine (HI.out).mono ?_
 rintro e w3 ⟨rfl, m, hwm⟩
 have HU2 : Hid (UnS R A c d l i rb rs wb w3) := by show UnS _ _ _ _ _ _ _ _ _ _; rw [hwm]; exact HU.out.drewN m
 clear HU HI hwm b0 bl
 rename Hid (UnS _ _ _ _ _ _ _ _ _ _) => HU
 have b0 := HU.out.box.1
 have bl := HU.out.box.2.1
 have hI := HIS.out w3 3 ⟨#[102, 97, 108, 115, 101]⟩ HU.out
 rw [show isTk l i 3 (bs ⟨#[102, 97, 108, 115, 101]⟩) = false from h_false] at hI
 have HI := Lib.hid hI
 clear hI
 go_wp2_with fail
 refine (HI.out).mono ?_
 rintro e w4 ⟨rfl, m, hwm⟩
 have HU2 : Hid (UnS R A c d l i rb rs wb w4) := by show UnS _ _ _ _ _ _ _ _ _ _; rw [hwm]; exact HU.out.drewN m
 clear HU HI hwm b0 bl
 rename Hid (UnS _ _ _ _ _ _ _ _ _ _) => HU
 have b0 := HU.out.box.1
 have bl := HU.out.box.2.1
 have hI := HIS.out w4 3 ⟨#[110, 101, 120, 116]⟩ HU.out
 rw [show isTk l i 3 (bs ⟨#[110, 101, 120, 116]⟩) = false from h_next] at hI
 have HI := Lib.hid hI
 clear hI
 go_wp2_with fail
 refine (HI.out).mono ?_
 rintro e w5 ⟨rfl, m, hwm⟩
 have HU2 : Hid (UnS R A c d l i rb rs wb w5) := by show UnS _ _ _ _ _ _ _ _ _ _; rw [hwm]; exact HU.out.drewN m
 clear HU HI hwm b0 bl
 rename Hid (UnS _ _ _ _ _ _ _ _ _ _) => HU
 have b0 := HU.out.box.1
 have bl := HU.out.box.2.1
 have hI := HIS.out w5 4 ⟨#[40]⟩ HU.out
 rw [show isTk l i 4 (bs ⟨#[40]⟩) = true from h_open] at hI
 have HI := Lib.hid hI
 clear hI
 go_wp2_with fail
 refine (HI.out).mono ?_
 rintro e w6 ⟨rfl, m, hwm⟩
 have HU2 : Hid (UnS R A c d l i rb rs wb w6) := by show UnS _ _ _ _ _ _ _ _ _ _; rw [hwm]; exact HU.out.drewN m
 clear HU HI hwm b0 bl
 rename Hid (UnS _ _ _ _ _ _ _ _ _ _) => HU
 have b0 := HU.out.box.1
 have bl := HU.out.box.2.1
 have hil := isTk_lt h_open
 have HIN : Hid (Calls Tryz.prog 173 #[.pointer (some ⟨R, 0, none⟩), .func (.func 67) #[.pointer (some ⟨R, 0, none⟩)] #[]] w6 (PQ R A c d l i (if d = 256 then .bad i 17 else T (i + 1)) w6)) := pinside_any R A c d l 67 (.pointer (some ⟨R, 0, none⟩)) true (fun _ => True) T i w6 (fun _ _ => by kernel_rfl) (fun _ _ _ _ => trivial) hT hd hil HU.out.rdr (HP.out.only HU.out.only) trivial
 obtain ⟨r, hr⟩ : ∃ r, r = (if d = 256 then .bad i 17 else T (i + 1)) := ⟨_, rfl⟩
 have HRE2 : Hid (F = PQ R A c d l i (r.then fun t j => if isTk l j 4 [41] then .ok t (j + 1) else .bad j 16) wb) := by show _ = _; rw [HRE.out, hr]
 rw [← hr] at HIN
 clear hr hT HRE
 go_wp2_with fail
 refine (HIN.out).mono ?_
 intro e w4 hq
 rcases r with ⟨jb, xb⟩ | ⟨t, j⟩
 · obtain ⟨rfl, ho4⟩ := hq
   refine (show _ ∧ _ from ⟨rfl, ?_⟩)
   refine HBK.out _ _ ?_
   rw [HRE2.out]
   exact ⟨rfl, HU.out.only.trans ho4⟩
 obtain ⟨⟨A', c', rfl, hV⟩, hij, hjl, hR4, ho4⟩ := hq
 have HU4 := Lib.hid (HU.out.onw hrR ho4 hR4)
 have hwk := HU.out.only.size
 obtain ⟨n2, hn2⟩ : ∃ n2, n2 = t.kids.length := ⟨_, rfl⟩
 unfold Tm.val
 rw [← hn2]
 have hbl2 := HU.out.big
 have hVS : TmVS (fun q => wb.heap.size < q) w4 A' c' t := hV.keep KeepS.refl (fun q _ h => by have := HRS.out; omega)
 clear HU b0 bl HIN hV ho4
 obtain ⟨bt, hbt⟩ : ∃ bt, bt = w4.heap.size := ⟨_, rfl⟩
 obtain ⟨W8, hW8⟩ : ∃ W8, W8 = w4.alloc (.cells #[.int .i64 t.op, .int .i64 t.num, .string t.name, .slice A' n2 c'] 25) := ⟨_, rfl⟩
 have HB8 : Hid (W8.heap[bt]? = some (.cells #[.int .i64 t.op, .int .i64 t.num, .string t.name, .slice A' n2 c'] 25 (0, 0))) := by show _ = _; rw [hW8, hbt]; exact heap_alloc_new w4 _
 have hrl4 := HU4.out.rdr.lt
 have hbbig := HU4.out.big
 have HU5 : Hid (UnS R A c d l j rb rs wb W8) := by show UnS _ _ _ _ _ _ _ _ _ _; rw [hW8]; exact HU4.out.onw hrR (Only.of_below ((Below.refl _ _).alloc (Nat.le_refl _) _)) (HU4.out.rdr.below ((Below.refl _ _).alloc (Nat.le_refl _) _) hrl4)
 have HV5 : Hid (TmVS (fun q => wb.heap.size < q) W8 A' c' t) := by show TmVS _ _ _ _ _; rw [hW8]; exact hVS.keep (KeepS.of_below ((Below.refl _ _).alloc (Nat.le_refl _) _)) (fun _ _ h => h)
 have hbtR : bt ≠ R := by omega
 have hsz8 : bt < W8.heap.size := lt_of_heap HB8.out
 have b4 := HU4.out.box.1
 have bl4 := HU4.out.box.2.1
 have b5 := HU5.out.box.1
 have bl5 := HU5.out.box.2.1
 have HW8 := Lib.hid hW8
 have HBT := Lib.hid hbt
 have HN2 := Lib.hid hn2
 have hRw5 : R < wb.heap.size := hRlt
 clear hW8 hbt hrl4 hbbig hVS hn2 hR4
 go_wp2_with fail
 rw [← HW8.out, ← HBT.out]
 by_cases hcl : isTk l j 4 [41] = true
 · have HM := Lib.hid (pmust_yes R A c j d l 4 ⟨#[41]⟩ W8 HU5.out.rdr (HP.out.only HU5.out.only) (by omega) hcl)
   have hil3 := isTk_lt hcl
   have HRE3 : Hid (F = PQ R A c d l i (.ok t (j + 1)) wb) := by show _ = _; rw [HRE2.out]; show PQ R A c d l i (if isTk l j 4 [41] = true then _ else _) wb = _; rw [if_pos hcl]
   clear hcl HRE2
   try go_wp2_with fail
   refine (HM.out).mono ?_
   rintro e w9 ⟨rfl, hwent⟩
   have HU6 := Lib.hid (HU5.out.onw hrR hwent.2.1 hwent.1)
   have HV6 : Hid (TmVS (fun q => wb.heap.size < q) w9 A' c' t) := HV5.out.keep (KeepS.of_only hwent.2.1 (by omega)) (fun _ _ h => h)
   have HB9 := Lib.hid ((hwent.2.1.block bt hsz8 hbtR).trans HB8.out)
   obtain ⟨⟨y0, p0⟩, ⟨y1, p1⟩, ⟨y2, p2⟩, y3, p3⟩ := cells4 HB9.out
   obtain ⟨⟨v0, z0⟩, ⟨v1, z1⟩, ⟨v2, z2⟩, v3, z3⟩ := cells4 HU6.out.res
   clear hwent HU4 HU5 HM b4 bl4 b5 bl5
   rename Hid (UnS _ _ _ _ _ _ _ _ _ _) => HU
   go_wp2_with fail
   have HRESX := Lib.hid HU.out.res
   clear v0 v1 v2 v3 z0 z1 z2 z3 y0 y1 y2 y3 p0 p1 p2 p3
   refine bodyPost_ret (results_cell_row (t := 25) (fr := (0, 0)) rfl _ _ rs _ _ rfl (res4 HRESX.out) Tryz.underlying25 rfl (by kernel_rfl)) rfl ?_
   refine HBK.out _ _ ?_
   rw [HRE3.out, HRS.out]
   rw [HRS.out] at HU
   have h := pq_end (.int .i64 t.op) (.int .i64 t.num) (.string t.name) (.slice A' n2 c') (show i < j + 1 by omega) (show j + 1 ≤ l.length by omega) hRlt HU.out.rdr HU.out.only HV6.out
   unfold Tm.val at h
   rw [← HN2.out] at h
   exact h
 · have hcf : isTk l j 4 [41] = false := by simpa using hcl
   have HM := Lib.hid (pmust_no R A c j d l 4 ⟨#[41]⟩ W8 HU5.out.rdr (HP.out.only HU5.out.only) (by omega) hcf)
   have HRE3 : Hid (F = PQ R A c d l i (.bad j 16) wb) := by show _ = _; rw [HRE2.out]; show PQ R A c d l i (if isTk l j 4 [41] = true then _ else _) wb = _; rw [if_neg hcl]
   clear hcl hcf HRE2
   try go_wp2_with fail
   refine (HM.out).mono ?_
   rintro e w9 ⟨rfl, m9, hw9⟩
   refine (show _ ∧ _ from ⟨rfl, ?_⟩)
   refine HBK.out _ _ ?_
   rw [HRE3.out, hw9]
   exact ⟨rfl, HU5.out.only.drewN m9⟩
set_option maxRecDepth 100000 in
set_option maxHeartbeats 16000000 in
theorem punit_if (R : Nat) (A : Option Addr) (c d : Nat) (l : List Tok) (i : Nat) (w : World) (h_minus : isTk l i 4 [45] = false) (h_true : isTk l i 3 [116, 114, 117, 101] = false) (h_false : isTk l i 3 [102, 97, 108, 115, 101] = false) (h_next : isTk l i 3 [110, 101, 120, 116] = false) (h_open : isTk l i 4 [40] = false) (h_if : isTk l i 3 [105, 102] = true) (T : Par) (hd : d ≤ 256) (hT : d < 256 → FnC R A c (d + 1) l 67 (.pointer (some ⟨R, 0, none⟩)) (fun _ => True) T) (hi : i ≤ l.length) (hR : Rdr w R A l.length c i d) (hP : PTok w R A c l) :
 Calls Tryz.prog 216 #[.pointer (some ⟨R, 0, none⟩)] w (PQ R A c d l i (if d = 256 then .bad i 17 else ch1 l T (i + 1)) w) := by
 have hlen := hP.len
 have hRw := hR.lt
 obtain ⟨wb, hwb⟩ : ∃ wb, wb = w.alloc (.cells #[.pointer (some ⟨R, 0, none⟩)] 131) := ⟨_, rfl⟩
 have hbb : Below w.heap.size w wb := by rw [hwb]; exact (Below.refl _ _).alloc (Nat.le_refl _) _
 have hsb : wb.heap.size = w.heap.size + 1 := by rw [hwb]; simp
 have hob : Only (fun q => q = R) w wb := Only.of_below hbb
 have hRb : Rdr wb R A l.length c i d := hR.below hbb hRw
 have hPb := hP.only hob
 obtain ⟨rb, hrb⟩ : ∃ rb, rb = w.heap.size := ⟨_, rfl⟩
 obtain ⟨rs, hrs⟩ : ∃ rs, rs = wb.heap.size := ⟨_, rfl⟩
 have hbox0 : BoxR R rb wb := ⟨by rw [hwb, hrb]; exact (cell_of_row _ _ 0 _ _ (0, 0) (heap_alloc_new w _)).trans rfl, by omega, by omega⟩
 obtain ⟨w1, hw1⟩ : ∃ w1, w1 = wb.alloc (.cells #[.int .i64 0, .int .i64 0, .string ⟨#[]⟩, .slice none 0 0] 25) := ⟨_, rfl⟩
 have hb1 : Below wb.heap.size wb w1 := by rw [hw1]; exact (Below.refl _ _).alloc (Nat.le_refl _) _
 have hs1 : w1.heap.size = rs + 1 := by rw [hw1, hrs]; simp
 have hbx : w1.heap[rs]? = some (.cells #[.int .i64 0, .int .i64 0, .string ⟨#[]⟩, .slice none 0 0] 25 (0, 0)) := by rw [hw1, hrs]; exact heap_alloc_new wb _
 have ho1 : Only (fun q => q = R) wb w1 := Only.of_below hb1
 have HU := Lib.hid (show UnS R A c d l i rb rs wb w1 from ⟨hRb.below hb1 hRb.lt, hbox0.only ho1, hbx, ho1, by omega⟩)
 have hrR : rs ≠ R := by omega
 have hrbR : rb ≠ R := by omega
 have hrbs : rb ≠ rs := by omega
 have hRlt : R < wb.heap.size := by omega
 have hrs2 : rs = w.heap.size + 1 := by omega
 obtain ⟨F0, hF00⟩ : ∃ F, F = PQ R A c d l i (if d = 256 then .bad i 17 else ch1 l T (i + 1)) w := ⟨_, rfl⟩
 obtain ⟨F, hF0⟩ : ∃ F, F = PQ R A c d l i (if d = 256 then .bad i 17 else ch1 l T (i + 1)) wb := ⟨_, rfl⟩
 have HBK : Hid (∀ e w', F e w' → F0 e w') := fun e w' h => by rw [hF0] at h; rw [hF00]; exact h.back hob
 rw [← hF00]
 have HIS := Lib.hid (fun (W : World) (k : Int) (s : ByteArray) (h : UnS R A c d l i rb rs wb W) => pis_any R A c i d l k s W h.rdr (hPb.only h.only) (by omega))
 have HP := Lib.hid hPb
 have HRE := Lib.hid hF0
 have HRE0 := Lib.hid hF00
 have HPW := Lib.hid hP
 have HOB := Lib.hid hob
 have HWB := Lib.hid hwb
 have HRS := Lib.hid hrs
 have HRS2 := Lib.hid hrs2
 have HRB := Lib.hid hrb
 have HSB := Lib.hid hsb
 have HW1 := Lib.hid hw1
 clear hF00 hF0 hwb hbb hsb hob hRb hPb hrb hrs hrs2 hbox0 hw1 hb1 hs1 hbx ho1 hP hR
 go_enter Tryz.func216, Tryz.ntmps216
 go_wp2_with fail
 rw [← HWB.out, ← HW1.out, ← HRS2.out, ← HRB.out]
 have b0 := HU.out.box.1
 have bl := HU.out.box.2.1
 have hI := HIS.out w1 4 ⟨#[45]⟩ HU.out
 rw [show isTk l i 4 (bs ⟨#[45]⟩) = false from h_minus] at hI
 have HI := Lib.hid hI
 clear hI
 go_wp2_with fail
 refine (HI.out).mono ?_
 rintro e w2 ⟨rfl, m, hwm⟩
 have HU2 : Hid (UnS R A c d l i rb rs wb w2) := by show UnS _ _ _ _ _ _ _ _ _ _; rw [hwm]; exact HU.out.drewN m
 clear HU HI hwm b0 bl
 rename Hid (UnS _ _ _ _ _ _ _ _ _ _) => HU
 have b0 := HU.out.box.1
 have bl := HU.out.box.2.1
 have hI := HIS.out w2 3 ⟨#[116, 114, 117, 101]⟩ HU.out
 rw [show isTk l i 3 (bs ⟨#[116, 114, 117, 101]⟩) = false from h_true] at hI
 have HI := Lib.hid hI
 clear hI
 go_wp2_with fail
 refine (HI.out).mono ?_
 rintro e w3 ⟨rfl, m, hwm⟩
 have HU2 : Hid (UnS R A c d l i rb rs wb w3) := by show UnS _ _ _ _ _ _ _ _ _ _; rw [hwm]; exact HU.out.drewN m
 clear HU HI hwm b0 bl
 rename Hid (UnS _ _ _ _ _ _ _ _ _ _) => HU
 have b0 := HU.out.box.1
 have bl := HU.out.box.2.1
 have hI := HIS.out w3 3 ⟨#[102, 97, 108, 115, 101]⟩ HU.out
 rw [show isTk l i 3 (bs ⟨#[102, 97, 108, 115, 101]⟩) = false from h_false] at hI
 have HI := Lib.hid hI
 clear hI
 go_wp2_with fail
 refine (HI.out).mono ?_
 rintro e w4 ⟨rfl, m, hwm⟩
 have HU2 : Hid (UnS R A c d l i rb rs wb w4) := by show UnS _ _ _ _ _ _ _ _ _ _; rw [hwm]; exact HU.out.drewN m
 clear HU HI hwm b0 bl
 rename Hid (UnS _ _ _ _ _ _ _ _ _ _) => HU
 have b0 := HU.out.box.1
 have bl := HU.out.box.2.1
 have hI := HIS.out w4 3 ⟨#[110, 101, 120, 116]⟩ HU.out
 rw [show isTk l i 3 (bs ⟨#[110, 101, 120, 116]⟩) = false from h_next] at hI
 have HI := Lib.hid hI
 clear hI
 go_wp2_with fail
 refine (HI.out).mono ?_
 rintro e w5 ⟨rfl, m, hwm⟩
 have HU2 : Hid (UnS R A c d l i rb rs wb w5) := by show UnS _ _ _ _ _ _ _ _ _ _; rw [hwm]; exact HU.out.drewN m
 clear HU HI hwm b0 bl
 rename Hid (UnS _ _ _ _ _ _ _ _ _ _) => HU
 have b0 := HU.out.box.1
 have bl := HU.out.box.2.1
 have hI := HIS.out w5 4 ⟨#[40]⟩ HU.out
 rw [show isTk l i 4 (bs ⟨#[40]⟩) = false from h_open] at hI
 have HI := Lib.hid hI
 clear hI
 go_wp2_with fail
 refine (HI.out).mono ?_
 rintro e w6 ⟨rfl, m, hwm⟩
 have HU2 : Hid (UnS R A c d l i rb rs wb w6) := by show UnS _ _ _ _ _ _ _ _ _ _; rw [hwm]; exact HU.out.drewN m
 clear HU HI hwm b0 bl
 rename Hid (UnS _ _ _ _ _ _ _ _ _ _) => HU
 have b0 := HU.out.box.1
 have bl := HU.out.box.2.1
 have hI := HIS.out w6 3 ⟨#[105, 102]⟩ HU.out
 rw [show isTk l i 3 (bs ⟨#[105, 102]⟩) = true from h_if] at hI
 have HI := Lib.hid hI
 clear hI
 go_wp2_with fail
 refine (HI.out).mono ?_
 rintro e w7 ⟨rfl, m, hwm⟩
 have HU2 : Hid (UnS R A c d l i rb rs wb w7) := by show UnS _ _ _ _ _ _ _ _ _ _; rw [hwm]; exact HU.out.drewN m
 clear HU HI hwm b0 bl
 rename Hid (UnS _ _ _ _ _ _ _ _ _ _) => HU
 have b0 := HU.out.box.1
 have bl := HU.out.box.2.1
 have hil := isTk_lt h_if
 have hRl0 := HU.out.rdr.lt
 have hbg0 := HU.out.big
 obtain ⟨tb, htb⟩ : ∃ tb, tb = w7.heap.size := ⟨_, rfl⟩
 obtain ⟨W3, hW3⟩ : ∃ W3, W3 = w7.alloc (.cells #[.int .i64 18, .int .i64 0, .string ⟨#[]⟩, .slice none 0 0] 25) := ⟨_, rfl⟩
 have hO3 : Only (fun q => q = R) w7 W3 := by rw [hW3]; exact Only.of_below ((Below.refl _ _).alloc (Nat.le_refl _) _)
 have HTB3 : Hid (W3.heap[tb]? = some (.cells #[.int .i64 18, .int .i64 0, .string ⟨#[]⟩, .slice none 0 0] 25 (0, 0))) := by show _ = _; rw [hW3, htb]; exact heap_alloc_new w7 _
 have hrd3 : Rdr W3 R A l.length c i d := by rw [hW3]; exact HU.out.rdr.below ((Below.refl _ _).alloc (Nat.le_refl _) _) hRl0
 have HU3 := Lib.hid (HU.out.onw hrR hO3 hrd3)
 have hwb1 := HU.out.only.size
 have hRwX : R < w.heap.size := hRw
 have HIN : Hid (Calls Tryz.prog 173 #[.pointer (some ⟨R, 0, none⟩), .func (.func 225) #[] #[.pointer (some ⟨tb, 0, none⟩), .pointer (some ⟨rb, 0, none⟩)]] W3 (IfQ R A c d l i tb (if d = 256 then .bad i 17 else ch1 l T (i + 1)) w W3 W3.heap.size)) :=
  pinside2_any R A c d l tb rb w W3 i T hT hRw (by have := HRB.out; have := HRS2.out; omega) (by have := HRB.out; omega) (lt_of_heap HTB3.out) (by have := HRB.out; omega) hd hil HU3.out.rdr HPW.out (HOB.out.trans HU3.out.only) HU3.out.box HTB3.out
 obtain ⟨r, hr⟩ : ∃ r, r = (if d = 256 then .bad i 17 else ch1 l T (i + 1)) := ⟨_, rfl⟩
 rw [← hr] at HIN
 have HRE2 : Hid (F = PQ R A c d l i r wb) := by show _ = _; rw [HRE.out, hr]
 have HRE02 : Hid (F0 = PQ R A c d l i r w) := by show _ = _; rw [HRE0.out, hr]
 have b3 := HU3.out.box.1
 have bl3 := HU3.out.box.2.1
 have htbR : tb ≠ R := by omega
 have htbrs : tb ≠ rs := by omega
 have htbrb : tb ≠ rb := by omega
 have hwbt : wb.heap.size < tb := by have := HRS.out; omega
 have hW3s : W3.heap.size = tb + 1 := by rw [hW3, htb]; simp
 have HW3 := Lib.hid hW3
 have HTBQ := Lib.hid htb
 have hbx0 := b0
 clear hr hT HRE HRE0 hW3 htb hO3 hrd3
 go_wp2_with fail
 rw [← HW3.out, ← HTBQ.out]
 try go_wp2_with fail
 refine (HIN.out).mono ?_
 intro e w4 hq
 rcases r with ⟨jb, xb⟩ | ⟨t, j⟩
 · obtain ⟨rfl, ho4⟩ := hq
   refine (show _ ∧ _ from ⟨rfl, ?_⟩)
   rw [HRE02.out]
   exact ⟨rfl, ho4⟩
 obtain ⟨⟨A', c', rfl, htb4, hV⟩, hij, hjl, hR4, ho40, ho4⟩ := hq
 have HO4 : Hid (Only (fun q => q = R) wb w4) := HU3.out.only.weld ho4 (by omega)
 have HU4 : Hid (UnS R A c d l j rb rs wb w4) := ⟨hR4, ⟨(World.cell?_of_block (a := ⟨rb, 0, none⟩) (ho4.block rb bl3 (fun h => h.elim hrbR (fun h => htbrb h.symm)))).trans b3, Nat.lt_of_lt_of_le bl3 ho4.size, hrbR⟩, (ho4.block rs HU3.out.big (fun h => h.elim hrR (fun h => htbrs h.symm))).trans HU3.out.res, HO4.out, Nat.lt_of_lt_of_le HU3.out.big ho4.size⟩
 have HV4 : Hid (TmVS (fun q => wb.heap.size < q) w4 A' c' t) := hV.keep KeepS.refl (fun q _ h => by omega)
 obtain ⟨n2, hn2⟩ : ∃ n2, n2 = t.kids.length := ⟨_, rfl⟩
 unfold Tm.val
 rw [← hn2] at htb4 ⊢
 have HN2 := Lib.hid hn2
 have HTB4 := Lib.hid htb4
 obtain ⟨⟨y0, p0⟩, ⟨y1, p1⟩, ⟨y2, p2⟩, y3, p3⟩ := cells4 htb4
 obtain ⟨⟨v0, z0⟩, ⟨v1, z1⟩, ⟨v2, z2⟩, v3, z3⟩ := cells4 HU4.out.res
 clear HU HU3 hV hR4 ho40 ho4 htb4 hn2 b0 bl b3 bl3 HIN hbx0
 rename Hid (UnS _ _ _ _ _ _ _ _ _ _) => HU
 go_wp2_with fail
 have HRESX := Lib.hid HU.out.res
 clear v0 v1 v2 v3 z0 z1 z2 z3 y0 y1 y2 y3 p0 p1 p2 p3
 refine bodyPost_ret (results_cell_row (t := 25) (fr := (0, 0)) rfl _ _ rs _ _ rfl (res4 HRESX.out) Tryz.underlying25 rfl (by kernel_rfl)) rfl ?_
 refine HBK.out _ _ ?_
 rw [HRE2.out, HRS.out]
 rw [HRS.out] at HU
 have h := pq_end (.int .i64 t.op) (.int .i64 t.num) (.string t.name) (.slice A' n2 c') hij hjl hRlt HU.out.rdr HU.out.only HV4.out
 unfold Tm.val at h
 rw [← HN2.out] at h
 exact h
set_option maxRecDepth 100000 in
set_option maxHeartbeats 16000000 in
theorem punit_name (R : Nat) (A : Option Addr) (c d : Nat) (l : List Tok) (i : Nat) (w : World) (h_minus : isTk l i 4 [45] = false) (h_true : isTk l i 3 [116, 114, 117, 101] = false) (h_false : isTk l i 3 [102, 97, 108, 115, 101] = false) (h_next : isTk l i 3 [110, 101, 120, 116] = false) (h_open : isTk l i 4 [40] = false) (h_if : isTk l i 3 [105, 102] = false) (t : Tok) (ht : l[i]? = some t) (hk : t.kind = 2) (hi : i ≤ l.length) (hR : Rdr w R A l.length c i d) (hP : PTok w R A c l) :
 Calls Tryz.prog 216 #[.pointer (some ⟨R, 0, none⟩)] w (PQ R A c d l i (.ok (tmName 3 t.text) (i + 1)) w) := by
 have hlen := hP.len
 have hRw := hR.lt
 obtain ⟨wb, hwb⟩ : ∃ wb, wb = w.alloc (.cells #[.pointer (some ⟨R, 0, none⟩)] 131) := ⟨_, rfl⟩
 have hbb : Below w.heap.size w wb := by rw [hwb]; exact (Below.refl _ _).alloc (Nat.le_refl _) _
 have hsb : wb.heap.size = w.heap.size + 1 := by rw [hwb]; simp
 have hob : Only (fun q => q = R) w wb := Only.of_below hbb
 have hRb : Rdr wb R A l.length c i d := hR.below hbb hRw
 have hPb := hP.only hob
 obtain ⟨rb, hrb⟩ : ∃ rb, rb = w.heap.size := ⟨_, rfl⟩
 obtain ⟨rs, hrs⟩ : ∃ rs, rs = wb.heap.size := ⟨_, rfl⟩
 have hbox0 : BoxR R rb wb := ⟨by rw [hwb, hrb]; exact (cell_of_row _ _ 0 _ _ (0, 0) (heap_alloc_new w _)).trans rfl, by omega, by omega⟩
 obtain ⟨w1, hw1⟩ : ∃ w1, w1 = wb.alloc (.cells #[.int .i64 0, .int .i64 0, .string ⟨#[]⟩, .slice none 0 0] 25) := ⟨_, rfl⟩
 have hb1 : Below wb.heap.size wb w1 := by rw [hw1]; exact (Below.refl _ _).alloc (Nat.le_refl _) _
 have hs1 : w1.heap.size = rs + 1 := by rw [hw1, hrs]; simp
 have hbx : w1.heap[rs]? = some (.cells #[.int .i64 0, .int .i64 0, .string ⟨#[]⟩, .slice none 0 0] 25 (0, 0)) := by rw [hw1, hrs]; exact heap_alloc_new wb _
 have ho1 : Only (fun q => q = R) wb w1 := Only.of_below hb1
 have HU := Lib.hid (show UnS R A c d l i rb rs wb w1 from ⟨hRb.below hb1 hRb.lt, hbox0.only ho1, hbx, ho1, by omega⟩)
 have hrR : rs ≠ R := by omega
 have hrbR : rb ≠ R := by omega
 have hrbs : rb ≠ rs := by omega
 have hRlt : R < wb.heap.size := by omega
 have hrs2 : rs = w.heap.size + 1 := by omega
 obtain ⟨F0, hF00⟩ : ∃ F, F = PQ R A c d l i (.ok (tmName 3 t.text) (i + 1)) w := ⟨_, rfl⟩
 obtain ⟨F, hF0⟩ : ∃ F, F = PQ R A c d l i (.ok (tmName 3 t.text) (i + 1)) wb := ⟨_, rfl⟩
 have HBK : Hid (∀ e w', F e w' → F0 e w') := fun e w' h => by rw [hF0] at h; rw [hF00]; exact h.back hob
 rw [← hF00]
 have HIS := Lib.hid (fun (W : World) (k : Int) (s : ByteArray) (h : UnS R A c d l i rb rs wb W) => pis_any R A c i d l k s W h.rdr (hPb.only h.only) (by omega))
 have HP := Lib.hid hPb
 have HRE := Lib.hid hF0
 have HRE0 := Lib.hid hF00
 have HPW := Lib.hid hP
 have HOB := Lib.hid hob
 have HWB := Lib.hid hwb
 have HRS := Lib.hid hrs
 have HRS2 := Lib.hid hrs2
 have HRB := Lib.hid hrb
 have HSB := Lib.hid hsb
 have HW1 := Lib.hid hw1
 clear hF00 hF0 hwb hbb hsb hob hRb hPb hrb hrs hrs2 hbox0 hw1 hb1 hs1 hbx ho1 hP hR
 go_enter Tryz.func216, Tryz.ntmps216
 go_wp2_with fail
 rw [← HWB.out, ← HW1.out, ← HRS2.out, ← HRB.out]
 have b0 := HU.out.box.1
 have bl := HU.out.box.2.1
 have hI := HIS.out w1 4 ⟨#[45]⟩ HU.out
 rw [show isTk l i 4 (bs ⟨#[45]⟩) = false from h_minus] at hI
 have HI := Lib.hid hI
 clear hI
 go_wp2_with fail
 refine (HI.out).mono ?_
 rintro e w2 ⟨rfl, m, hwm⟩
 have HU2 : Hid (UnS R A c d l i rb rs wb w2) := by show UnS _ _ _ _ _ _ _ _ _ _; rw [hwm]; exact HU.out.drewN m
 clear HU HI hwm b0 bl
 rename Hid (UnS _ _ _ _ _ _ _ _ _ _) => HU
 have b0 := HU.out.box.1
 have bl := HU.out.box.2.1
 have hI := HIS.out w2 3 ⟨#[116, 114, 117, 101]⟩ HU.out
 rw [show isTk l i 3 (bs ⟨#[116, 114, 117, 101]⟩) = false from h_true] at hI
 have HI := Lib.hid hI
 clear hI
 go_wp2_with fail
 refine (HI.out).mono ?_
 rintro e w3 ⟨rfl, m, hwm⟩
 have HU2 : Hid (UnS R A c d l i rb rs wb w3) := by show UnS _ _ _ _ _ _ _ _ _ _; rw [hwm]; exact HU.out.drewN m
 clear HU HI hwm b0 bl
 rename Hid (UnS _ _ _ _ _ _ _ _ _ _) => HU
 have b0 := HU.out.box.1
 have bl := HU.out.box.2.1
 have hI := HIS.out w3 3 ⟨#[102, 97, 108, 115, 101]⟩ HU.out
 rw [show isTk l i 3 (bs ⟨#[102, 97, 108, 115, 101]⟩) = false from h_false] at hI
 have HI := Lib.hid hI
 clear hI
 go_wp2_with fail
 refine (HI.out).mono ?_
 rintro e w4 ⟨rfl, m, hwm⟩
 have HU2 : Hid (UnS R A c d l i rb rs wb w4) := by show UnS _ _ _ _ _ _ _ _ _ _; rw [hwm]; exact HU.out.drewN m
 clear HU HI hwm b0 bl
 rename Hid (UnS _ _ _ _ _ _ _ _ _ _) => HU
 have b0 := HU.out.box.1
 have bl := HU.out.box.2.1
 have hI := HIS.out w4 3 ⟨#[110, 101, 120, 116]⟩ HU.out
 rw [show isTk l i 3 (bs ⟨#[110, 101, 120, 116]⟩) = false from h_next] at hI
 have HI := Lib.hid hI
 clear hI
 go_wp2_with fail
 refine (HI.out).mono ?_
 rintro e w5 ⟨rfl, m, hwm⟩
 have HU2 : Hid (UnS R A c d l i rb rs wb w5) := by show UnS _ _ _ _ _ _ _ _ _ _; rw [hwm]; exact HU.out.drewN m
 clear HU HI hwm b0 bl
 rename Hid (UnS _ _ _ _ _ _ _ _ _ _) => HU
 have b0 := HU.out.box.1
 have bl := HU.out.box.2.1
 have hI := HIS.out w5 4 ⟨#[40]⟩ HU.out
 rw [show isTk l i 4 (bs ⟨#[40]⟩) = false from h_open] at hI
 have HI := Lib.hid hI
 clear hI
 go_wp2_with fail
 refine (HI.out).mono ?_
 rintro e w6 ⟨rfl, m, hwm⟩
 have HU2 : Hid (UnS R A c d l i rb rs wb w6) := by show UnS _ _ _ _ _ _ _ _ _ _; rw [hwm]; exact HU.out.drewN m
 clear HU HI hwm b0 bl
 rename Hid (UnS _ _ _ _ _ _ _ _ _ _) => HU
 have b0 := HU.out.box.1
 have bl := HU.out.box.2.1
 have hI := HIS.out w6 3 ⟨#[105, 102]⟩ HU.out
 rw [show isTk l i 3 (bs ⟨#[105, 102]⟩) = false from h_if] at hI
 have HI := Lib.hid hI
 clear hI
 go_wp2_with fail
 refine (HI.out).mono ?_
 rintro e w7 ⟨rfl, m, hwm⟩
 have HU2 : Hid (UnS R A c d l i rb rs wb w7) := by show UnS _ _ _ _ _ _ _ _ _ _; rw [hwm]; exact HU.out.drewN m
 clear HU HI hwm b0 bl
 rename Hid (UnS _ _ _ _ _ _ _ _ _ _) => HU
 rcases HP.out.toks with h0 | ⟨b, off, rfl, hb, hc⟩
 · rw [h0] at ht; simp at ht
 have hbR : b ≠ R := HP.out.apart _ rfl
 have b0 := HU.out.box.1
 have bl := HU.out.box.2.1
 have hil := (List.getElem?_eq_some_iff.1 ht).1
 obtain ⟨n, hn⟩ : ∃ n, n = l.length := ⟨_, rfl⟩
 have c0 := HU.out.rdr.c0
 have c1 := HU.out.rdr.c1
 rw [← hn] at c0
 have hRl := HU.out.rdr.lt
 have hlc := HP.out.cap
 have hcm := HP.out.capm
 unfold maxLen at hcm
 rw [← hn] at hlc
 have hk0 : (0 : Int) ≤ (i : Int) := by omega
 have hk1 : (i : Int) < (n : Int) := by omega
 have hin : i < n := by omega
 have hlen2 : n ≤ 100000 := by omega
 have hbw : b < w7.heap.size := Nat.lt_of_lt_of_le hb HU.out.only.size
 have hbR' : R ≠ b := fun h => hbR h.symm
 have hcell : ∀ j, j < 4 → w7.cell? ⟨b, off + i * 4 + j, none⟩ = some (tokV t j) := fun j hj => by
  rw [HU.out.only.cell hb hbR]
  exact hc i t ht j hj
 have x0 := hcell 0 (by omega)
 simp only [tokV, Nat.add_zero] at x0
 rw [hk] at x0
 have HNM := Lib.hid (fun m => pname_yes R (some ⟨b, off, none⟩) c i d l t (w7.drewN m) (HU.out.drewN m).rdr (HP.out.only (HU.out.drewN m).only) ht hk)
 have HTX := Lib.hid (HP.out.txt t (List.mem_of_getElem? ht))
 obtain ⟨nm, hnm⟩ : ∃ nm : ByteArray, nm = ⟨t.text.toArray⟩ := ⟨_, rfl⟩
 rw [← hnm] at HNM
 have HNMQ := Lib.hid hnm
 clear hcell hc ht hk hn hnm
 go_wp2_with fail
 go_quiet (fail)
 obtain ⟨W5, hW5⟩ : ∃ W5, W5 = w7.drewN nq := ⟨_, rfl⟩
 have HU5 : Hid (UnS R (some ⟨b, off, none⟩) c d l i rb rs wb W5) := by show UnS _ _ _ _ _ _ _ _ _ _; rw [hW5]; exact HU.out.drewN nq
 have HNM5 := HNM.out nq
 rw [← hW5] at HNM5 ⊢
 have HNM6 := Lib.hid HNM5
 clear HNM HNM5 HU hW5 b0 bl x0 c0 c1
 have b5 := HU5.out.box.1
 have bl5 := HU5.out.box.2.1
 go_wp2_with fail
 refine (HNM6.out).mono ?_
 rintro e w9 ⟨rfl, hwent⟩
 have HU6 := Lib.hid (HU5.out.onw hrR hwent.2.1 hwent.1)
 clear HU5 hwent HNM6 b5 bl5
 rename Hid (UnS _ _ _ _ _ _ _ _ _ _) => HU
 have hbg9 := HU.out.big
 obtain ⟨⟨v0, z0⟩, ⟨v1, z1⟩, ⟨v2, z2⟩, v3, z3⟩ := cells4 HU.out.res
 go_wp2_with fail
 have HRESX := Lib.hid HU.out.res
 clear v0 v1 v2 v3 z0 z1 z2 z3
 refine bodyPost_ret (results_cell_row (t := 25) (fr := (0, 0)) rfl _ _ rs _ _ rfl (res4 HRESX.out) Tryz.underlying25 rfl (by kernel_rfl)) rfl ?_
 refine HBK.out _ _ ?_
 rw [HRE.out, HRS.out, HNMQ.out]
 rw [HRS.out] at HU
 exact pq_end (t := tmName 3 t.text) (A' := none) (c' := 0) _ _ _ _ (by omega) (by omega) hRlt HU.out.rdr HU.out.only (TmVS.leaf (by have := HTX.out; show t.text.toArray.size ≤ _; unfold maxLen; simp; omega))
set_option maxRecDepth 100000 in
set_option maxHeartbeats 16000000 in
theorem punit_num (R : Nat) (A : Option Addr) (c d : Nat) (l : List Tok) (i : Nat) (w : World) (h_minus : isTk l i 4 [45] = false) (h_true : isTk l i 3 [116, 114, 117, 101] = false) (h_false : isTk l i 3 [102, 97, 108, 115, 101] = false) (h_next : isTk l i 3 [110, 101, 120, 116] = false) (h_open : isTk l i 4 [40] = false) (h_if : isTk l i 3 [105, 102] = false) (t : Tok) (ht : l[i]? = some t) (hk : t.kind = 1) (hi : i ≤ l.length) (hR : Rdr w R A l.length c i d) (hP : PTok w R A c l) :
 Calls Tryz.prog 216 #[.pointer (some ⟨R, 0, none⟩)] w (PQ R A c d l i (.ok (tmNum t.n) (i + 1)) w) := by
 have hlen := hP.len
 have hRw := hR.lt
 obtain ⟨wb, hwb⟩ : ∃ wb, wb = w.alloc (.cells #[.pointer (some ⟨R, 0, none⟩)] 131) := ⟨_, rfl⟩
 have hbb : Below w.heap.size w wb := by rw [hwb]; exact (Below.refl _ _).alloc (Nat.le_refl _) _
 have hsb : wb.heap.size = w.heap.size + 1 := by rw [hwb]; simp
 have hob : Only (fun q => q = R) w wb := Only.of_below hbb
 have hRb : Rdr wb R A l.length c i d := hR.below hbb hRw
 have hPb := hP.only hob
 obtain ⟨rb, hrb⟩ : ∃ rb, rb = w.heap.size := ⟨_, rfl⟩
 obtain ⟨rs, hrs⟩ : ∃ rs, rs = wb.heap.size := ⟨_, rfl⟩
 have hbox0 : BoxR R rb wb := ⟨by rw [hwb, hrb]; exact (cell_of_row _ _ 0 _ _ (0, 0) (heap_alloc_new w _)).trans rfl, by omega, by omega⟩
 obtain ⟨w1, hw1⟩ : ∃ w1, w1 = wb.alloc (.cells #[.int .i64 0, .int .i64 0, .string ⟨#[]⟩, .slice none 0 0] 25) := ⟨_, rfl⟩
 have hb1 : Below wb.heap.size wb w1 := by rw [hw1]; exact (Below.refl _ _).alloc (Nat.le_refl _) _
 have hs1 : w1.heap.size = rs + 1 := by rw [hw1, hrs]; simp
 have hbx : w1.heap[rs]? = some (.cells #[.int .i64 0, .int .i64 0, .string ⟨#[]⟩, .slice none 0 0] 25 (0, 0)) := by rw [hw1, hrs]; exact heap_alloc_new wb _
 have ho1 : Only (fun q => q = R) wb w1 := Only.of_below hb1
 have HU := Lib.hid (show UnS R A c d l i rb rs wb w1 from ⟨hRb.below hb1 hRb.lt, hbox0.only ho1, hbx, ho1, by omega⟩)
 have hrR : rs ≠ R := by omega
 have hrbR : rb ≠ R := by omega
 have hrbs : rb ≠ rs := by omega
 have hRlt : R < wb.heap.size := by omega
 have hrs2 : rs = w.heap.size + 1 := by omega
 obtain ⟨F0, hF00⟩ : ∃ F, F = PQ R A c d l i (.ok (tmNum t.n) (i + 1)) w := ⟨_, rfl⟩
 obtain ⟨F, hF0⟩ : ∃ F, F = PQ R A c d l i (.ok (tmNum t.n) (i + 1)) wb := ⟨_, rfl⟩
 have HBK : Hid (∀ e w', F e w' → F0 e w') := fun e w' h => by rw [hF0] at h; rw [hF00]; exact h.back hob
 rw [← hF00]
 have HIS := Lib.hid (fun (W : World) (k : Int) (s : ByteArray) (h : UnS R A c d l i rb rs wb W) => pis_any R A c i d l k s W h.rdr (hPb.only h.only) (by omega))
 have HP := Lib.hid hPb
 have HRE := Lib.hid hF0
 have HRE0 := Lib.hid hF00
 have HPW := Lib.hid hP
 have HOB := Lib.hid hob
 have HWB := Lib.hid hwb
 have HRS := Lib.hid hrs
 have HRS2 := Lib.hid hrs2
 have HRB := Lib.hid hrb
 have HSB := Lib.hid hsb
 have HW1 := Lib.hid hw1
 clear hF00 hF0 hwb hbb hsb hob hRb hPb hrb hrs hrs2 hbox0 hw1 hb1 hs1 hbx ho1 hP hR
 go_enter Tryz.func216, Tryz.ntmps216
 go_wp2_with fail
 rw [← HWB.out, ← HW1.out, ← HRS2.out, ← HRB.out]
 have b0 := HU.out.box.1
 have bl := HU.out.box.2.1
 have hI := HIS.out w1 4 ⟨#[45]⟩ HU.out
 rw [show isTk l i 4 (bs ⟨#[45]⟩) = false from h_minus] at hI
 have HI := Lib.hid hI
 clear hI
 go_wp2_with fail
 refine (HI.out).mono ?_
 rintro e w2 ⟨rfl, m, hwm⟩
 have HU2 : Hid (UnS R A c d l i rb rs wb w2) := by show UnS _ _ _ _ _ _ _ _ _ _; rw [hwm]; exact HU.out.drewN m
 clear HU HI hwm b0 bl
 rename Hid (UnS _ _ _ _ _ _ _ _ _ _) => HU
 have b0 := HU.out.box.1
 have bl := HU.out.box.2.1
 have hI := HIS.out w2 3 ⟨#[116, 114, 117, 101]⟩ HU.out
 rw [show isTk l i 3 (bs ⟨#[116, 114, 117, 101]⟩) = false from h_true] at hI
 have HI := Lib.hid hI
 clear hI
 go_wp2_with fail
 refine (HI.out).mono ?_
 rintro e w3 ⟨rfl, m, hwm⟩
 have HU2 : Hid (UnS R A c d l i rb rs wb w3) := by show UnS _ _ _ _ _ _ _ _ _ _; rw [hwm]; exact HU.out.drewN m
 clear HU HI hwm b0 bl
 rename Hid (UnS _ _ _ _ _ _ _ _ _ _) => HU
 have b0 := HU.out.box.1
 have bl := HU.out.box.2.1
 have hI := HIS.out w3 3 ⟨#[102, 97, 108, 115, 101]⟩ HU.out
 rw [show isTk l i 3 (bs ⟨#[102, 97, 108, 115, 101]⟩) = false from h_false] at hI
 have HI := Lib.hid hI
 clear hI
 go_wp2_with fail
 refine (HI.out).mono ?_
 rintro e w4 ⟨rfl, m, hwm⟩
 have HU2 : Hid (UnS R A c d l i rb rs wb w4) := by show UnS _ _ _ _ _ _ _ _ _ _; rw [hwm]; exact HU.out.drewN m
 clear HU HI hwm b0 bl
 rename Hid (UnS _ _ _ _ _ _ _ _ _ _) => HU
 have b0 := HU.out.box.1
 have bl := HU.out.box.2.1
 have hI := HIS.out w4 3 ⟨#[110, 101, 120, 116]⟩ HU.out
 rw [show isTk l i 3 (bs ⟨#[110, 101, 120, 116]⟩) = false from h_next] at hI
 have HI := Lib.hid hI
 clear hI
 go_wp2_with fail
 refine (HI.out).mono ?_
 rintro e w5 ⟨rfl, m, hwm⟩
 have HU2 : Hid (UnS R A c d l i rb rs wb w5) := by show UnS _ _ _ _ _ _ _ _ _ _; rw [hwm]; exact HU.out.drewN m
 clear HU HI hwm b0 bl
 rename Hid (UnS _ _ _ _ _ _ _ _ _ _) => HU
 have b0 := HU.out.box.1
 have bl := HU.out.box.2.1
 have hI := HIS.out w5 4 ⟨#[40]⟩ HU.out
 rw [show isTk l i 4 (bs ⟨#[40]⟩) = false from h_open] at hI
 have HI := Lib.hid hI
 clear hI
 go_wp2_with fail
 refine (HI.out).mono ?_
 rintro e w6 ⟨rfl, m, hwm⟩
 have HU2 : Hid (UnS R A c d l i rb rs wb w6) := by show UnS _ _ _ _ _ _ _ _ _ _; rw [hwm]; exact HU.out.drewN m
 clear HU HI hwm b0 bl
 rename Hid (UnS _ _ _ _ _ _ _ _ _ _) => HU
 have b0 := HU.out.box.1
 have bl := HU.out.box.2.1
 have hI := HIS.out w6 3 ⟨#[105, 102]⟩ HU.out
 rw [show isTk l i 3 (bs ⟨#[105, 102]⟩) = false from h_if] at hI
 have HI := Lib.hid hI
 clear hI
 go_wp2_with fail
 refine (HI.out).mono ?_
 rintro e w7 ⟨rfl, m, hwm⟩
 have HU2 : Hid (UnS R A c d l i rb rs wb w7) := by show UnS _ _ _ _ _ _ _ _ _ _; rw [hwm]; exact HU.out.drewN m
 clear HU HI hwm b0 bl
 rename Hid (UnS _ _ _ _ _ _ _ _ _ _) => HU
 rcases HP.out.toks with h0 | ⟨b, off, rfl, hb, hc⟩
 · rw [h0] at ht; simp at ht
 have hbR : b ≠ R := HP.out.apart _ rfl
 have b0 := HU.out.box.1
 have bl := HU.out.box.2.1
 have hil := (List.getElem?_eq_some_iff.1 ht).1
 obtain ⟨n, hn⟩ : ∃ n, n = l.length := ⟨_, rfl⟩
 have c0 := HU.out.rdr.c0
 have c1 := HU.out.rdr.c1
 rw [← hn] at c0
 have hRl := HU.out.rdr.lt
 have hlc := HP.out.cap
 have hcm := HP.out.capm
 unfold maxLen at hcm
 rw [← hn] at hlc
 have hk0 : (0 : Int) ≤ (i : Int) := by omega
 have hk1 : (i : Int) < (n : Int) := by omega
 have hin : i < n := by omega
 have hlen2 : n ≤ 100000 := by omega
 have hbw : b < w7.heap.size := Nat.lt_of_lt_of_le hb HU.out.only.size
 have hbR' : R ≠ b := fun h => hbR h.symm
 have hcell : ∀ j, j < 4 → w7.cell? ⟨b, off + i * 4 + j, none⟩ = some (tokV t j) := fun j hj => by
  rw [HU.out.only.cell hb hbR]
  exact hc i t ht j hj
 have x0 := hcell 0 (by omega)
 simp only [tokV, Nat.add_zero] at x0
 rw [hk] at x0
 have HNM := Lib.hid (fun m => pnum_yes R (some ⟨b, off, none⟩) c i d l t (w7.drewN m) (HU.out.drewN m).rdr (HP.out.only (HU.out.drewN m).only) ht hk)
 obtain ⟨nm, hnm⟩ : ∃ nm, nm = t.n := ⟨_, rfl⟩
 rw [← hnm] at HNM
 have HNMQ := Lib.hid hnm
 clear hcell hc ht hk hn hnm
 go_wp2_with fail
 go_quiet (fail)
 obtain ⟨W5, hW5⟩ : ∃ W5, W5 = w7.drewN nq := ⟨_, rfl⟩
 have HU5 : Hid (UnS R (some ⟨b, off, none⟩) c d l i rb rs wb W5) := by show UnS _ _ _ _ _ _ _ _ _ _; rw [hW5]; exact HU.out.drewN nq
 have HNM5 := HNM.out nq
 rw [← hW5] at HNM5 ⊢
 have HNM6 := Lib.hid HNM5
 clear HNM HNM5 HU hW5 b0 bl x0 c0 c1
 have b5 := HU5.out.box.1
 have bl5 := HU5.out.box.2.1
 go_wp2_with fail
 refine (HNM6.out).mono ?_
 rintro e w9 ⟨rfl, hwent⟩
 have HU6 := Lib.hid (HU5.out.onw hrR hwent.2.1 hwent.1)
 clear HU5 hwent HNM6 b5 bl5
 rename Hid (UnS _ _ _ _ _ _ _ _ _ _) => HU
 have hbg9 := HU.out.big
 obtain ⟨⟨v0, z0⟩, ⟨v1, z1⟩, ⟨v2, z2⟩, v3, z3⟩ := cells4 HU.out.res
 go_wp2_with fail
 have HRESX := Lib.hid HU.out.res
 clear v0 v1 v2 v3 z0 z1 z2 z3
 refine bodyPost_ret (results_cell_row (t := 25) (fr := (0, 0)) rfl _ _ rs _ _ rfl (res4 HRESX.out) Tryz.underlying25 rfl (by kernel_rfl)) rfl ?_
 refine HBK.out _ _ ?_
 rw [HRE.out, HRS.out, HNMQ.out]
 rw [HRS.out] at HU
 exact pq_end (t := tmNum t.n) (A' := none) (c' := 0) _ _ _ _ (by omega) (by omega) hRlt HU.out.rdr HU.out.only (TmVS.leaf (by show 0 ≤ _; exact Nat.zero_le _))
set_option maxRecDepth 100000 in
set_option maxHeartbeats 16000000 in
theorem punit_end (R : Nat) (A : Option Addr) (c d : Nat) (l : List Tok) (i : Nat) (w : World) (h_minus : isTk l i 4 [45] = false) (h_true : isTk l i 3 [116, 114, 117, 101] = false) (h_false : isTk l i 3 [102, 97, 108, 115, 101] = false) (h_next : isTk l i 3 [110, 101, 120, 116] = false) (h_open : isTk l i 4 [40] = false) (h_if : isTk l i 3 [105, 102] = false) (hge : l.length ≤ i) (hk1x : isKd l i 1 = false) (hi : i ≤ l.length) (hR : Rdr w R A l.length c i d) (hP : PTok w R A c l) :
 Calls Tryz.prog 216 #[.pointer (some ⟨R, 0, none⟩)] w (PQ R A c d l i (.bad i 16) w) := by
 have hlen := hP.len
 have hRw := hR.lt
 obtain ⟨wb, hwb⟩ : ∃ wb, wb = w.alloc (.cells #[.pointer (some ⟨R, 0, none⟩)] 131) := ⟨_, rfl⟩
 have hbb : Below w.heap.size w wb := by rw [hwb]; exact (Below.refl _ _).alloc (Nat.le_refl _) _
 have hsb : wb.heap.size = w.heap.size + 1 := by rw [hwb]; simp
 have hob : Only (fun q => q = R) w wb := Only.of_below hbb
 have hRb : Rdr wb R A l.length c i d := hR.below hbb hRw
 have hPb := hP.only hob
 obtain ⟨rb, hrb⟩ : ∃ rb, rb = w.heap.size := ⟨_, rfl⟩
 obtain ⟨rs, hrs⟩ : ∃ rs, rs = wb.heap.size := ⟨_, rfl⟩
 have hbox0 : BoxR R rb wb := ⟨by rw [hwb, hrb]; exact (cell_of_row _ _ 0 _ _ (0, 0) (heap_alloc_new w _)).trans rfl, by omega, by omega⟩
 obtain ⟨w1, hw1⟩ : ∃ w1, w1 = wb.alloc (.cells #[.int .i64 0, .int .i64 0, .string ⟨#[]⟩, .slice none 0 0] 25) := ⟨_, rfl⟩
 have hb1 : Below wb.heap.size wb w1 := by rw [hw1]; exact (Below.refl _ _).alloc (Nat.le_refl _) _
 have hs1 : w1.heap.size = rs + 1 := by rw [hw1, hrs]; simp
 have hbx : w1.heap[rs]? = some (.cells #[.int .i64 0, .int .i64 0, .string ⟨#[]⟩, .slice none 0 0] 25 (0, 0)) := by rw [hw1, hrs]; exact heap_alloc_new wb _
 have ho1 : Only (fun q => q = R) wb w1 := Only.of_below hb1
 have HU := Lib.hid (show UnS R A c d l i rb rs wb w1 from ⟨hRb.below hb1 hRb.lt, hbox0.only ho1, hbx, ho1, by omega⟩)
 have hrR : rs ≠ R := by omega
 have hrbR : rb ≠ R := by omega
 have hrbs : rb ≠ rs := by omega
 have hRlt : R < wb.heap.size := by omega
 have hrs2 : rs = w.heap.size + 1 := by omega
 obtain ⟨F0, hF00⟩ : ∃ F, F = PQ R A c d l i (.bad i 16) w := ⟨_, rfl⟩
 obtain ⟨F, hF0⟩ : ∃ F, F = PQ R A c d l i (.bad i 16) wb := ⟨_, rfl⟩
 have HBK : Hid (∀ e w', F e w' → F0 e w') := fun e w' h => by rw [hF0] at h; rw [hF00]; exact h.back hob
 rw [← hF00]
 have HIS := Lib.hid (fun (W : World) (k : Int) (s : ByteArray) (h : UnS R A c d l i rb rs wb W) => pis_any R A c i d l k s W h.rdr (hPb.only h.only) (by omega))
 have HP := Lib.hid hPb
 have HRE := Lib.hid hF0
 have HRE0 := Lib.hid hF00
 have HPW := Lib.hid hP
 have HOB := Lib.hid hob
 have HWB := Lib.hid hwb
 have HRS := Lib.hid hrs
 have HRS2 := Lib.hid hrs2
 have HRB := Lib.hid hrb
 have HSB := Lib.hid hsb
 have HW1 := Lib.hid hw1
 clear hF00 hF0 hwb hbb hsb hob hRb hPb hrb hrs hrs2 hbox0 hw1 hb1 hs1 hbx ho1 hP hR
 go_enter Tryz.func216, Tryz.ntmps216
 go_wp2_with fail
 rw [← HWB.out, ← HW1.out, ← HRS2.out, ← HRB.out]
 have b0 := HU.out.box.1
 have bl := HU.out.box.2.1
 have hI := HIS.out w1 4 ⟨#[45]⟩ HU.out
 rw [show isTk l i 4 (bs ⟨#[45]⟩) = false from h_minus] at hI
 have HI := Lib.hid hI
 clear hI
 go_wp2_with fail
 refine (HI.out).mono ?_
 rintro e w2 ⟨rfl, m, hwm⟩
 have HU2 : Hid (UnS R A c d l i rb rs wb w2) := by show UnS _ _ _ _ _ _ _ _ _ _; rw [hwm]; exact HU.out.drewN m
 clear HU HI hwm b0 bl
 rename Hid (UnS _ _ _ _ _ _ _ _ _ _) => HU
 have b0 := HU.out.box.1
 have bl := HU.out.box.2.1
 have hI := HIS.out w2 3 ⟨#[116, 114, 117, 101]⟩ HU.out
 rw [show isTk l i 3 (bs ⟨#[116, 114, 117, 101]⟩) = false from h_true] at hI
 have HI := Lib.hid hI
 clear hI
 go_wp2_with fail
 refine (HI.out).mono ?_
 rintro e w3 ⟨rfl, m, hwm⟩
 have HU2 : Hid (UnS R A c d l i rb rs wb w3) := by show UnS _ _ _ _ _ _ _ _ _ _; rw [hwm]; exact HU.out.drewN m
 clear HU HI hwm b0 bl
 rename Hid (UnS _ _ _ _ _ _ _ _ _ _) => HU
 have b0 := HU.out.box.1
 have bl := HU.out.box.2.1
 have hI := HIS.out w3 3 ⟨#[102, 97, 108, 115, 101]⟩ HU.out
 rw [show isTk l i 3 (bs ⟨#[102, 97, 108, 115, 101]⟩) = false from h_false] at hI
 have HI := Lib.hid hI
 clear hI
 go_wp2_with fail
 refine (HI.out).mono ?_
 rintro e w4 ⟨rfl, m, hwm⟩
 have HU2 : Hid (UnS R A c d l i rb rs wb w4) := by show UnS _ _ _ _ _ _ _ _ _ _; rw [hwm]; exact HU.out.drewN m
 clear HU HI hwm b0 bl
 rename Hid (UnS _ _ _ _ _ _ _ _ _ _) => HU
 have b0 := HU.out.box.1
 have bl := HU.out.box.2.1
 have hI := HIS.out w4 3 ⟨#[110, 101, 120, 116]⟩ HU.out
 rw [show isTk l i 3 (bs ⟨#[110, 101, 120, 116]⟩) = false from h_next] at hI
 have HI := Lib.hid hI
 clear hI
 go_wp2_with fail
 refine (HI.out).mono ?_
 rintro e w5 ⟨rfl, m, hwm⟩
 have HU2 : Hid (UnS R A c d l i rb rs wb w5) := by show UnS _ _ _ _ _ _ _ _ _ _; rw [hwm]; exact HU.out.drewN m
 clear HU HI hwm b0 bl
 rename Hid (UnS _ _ _ _ _ _ _ _ _ _) => HU
 have b0 := HU.out.box.1
 have bl := HU.out.box.2.1
 have hI := HIS.out w5 4 ⟨#[40]⟩ HU.out
 rw [show isTk l i 4 (bs ⟨#[40]⟩) = false from h_open] at hI
 have HI := Lib.hid hI
 clear hI
 go_wp2_with fail
 refine (HI.out).mono ?_
 rintro e w6 ⟨rfl, m, hwm⟩
 have HU2 : Hid (UnS R A c d l i rb rs wb w6) := by show UnS _ _ _ _ _ _ _ _ _ _; rw [hwm]; exact HU.out.drewN m
 clear HU HI hwm b0 bl
 rename Hid (UnS _ _ _ _ _ _ _ _ _ _) => HU
 have b0 := HU.out.box.1
 have bl := HU.out.box.2.1
 have hI := HIS.out w6 3 ⟨#[105, 102]⟩ HU.out
 rw [show isTk l i 3 (bs ⟨#[105, 102]⟩) = false from h_if] at hI
 have HI := Lib.hid hI
 clear hI
 go_wp2_with fail
 refine (HI.out).mono ?_
 rintro e w7 ⟨rfl, m, hwm⟩
 have HU2 : Hid (UnS R A c d l i rb rs wb w7) := by show UnS _ _ _ _ _ _ _ _ _ _; rw [hwm]; exact HU.out.drewN m
 clear HU HI hwm b0 bl
 rename Hid (UnS _ _ _ _ _ _ _ _ _ _) => HU
 have c0 := HU.out.rdr.c0
 have c1 := HU.out.rdr.c1
 obtain ⟨n, hn⟩ : ∃ n, n = l.length := ⟨_, rfl⟩
 rw [← hn] at c0
 have hRl := HU.out.rdr.lt
 have hk1 : ¬ (i : Int) < (n : Int) := by omega
 have hd : decide ((i : Int) < (n : Int)) = false := decide_eq_false hk1
 have hd2 : decide (i < n) = false := decide_eq_false (by omega)
 have hlc := HP.out.cap
 have hcm := HP.out.capm
 unfold maxLen at hcm
 rw [← hn] at hlc
 have hlen2 : n ≤ 100000 := by omega
 have HK1 := Lib.hid hk1x
 clear hn hk1x hge
 have b0 := HU.out.box.1
 have bl := HU.out.box.2.1
 go_wp2_with fail
 go_quiet (fail)
 obtain ⟨W5, hW5⟩ : ∃ W5, W5 = w7.drewN nq := ⟨_, rfl⟩
 have HU5 : Hid (UnS R A c d l i rb rs wb W5) := by show UnS _ _ _ _ _ _ _ _ _ _; rw [hW5]; exact HU.out.drewN nq
 rw [← hW5]
 have HNM6 := Lib.hid (pnum_no R A c i d l W5 HU5.out.rdr (HP.out.only HU5.out.only) (by omega) HK1.out)
 clear HU hW5 b0 bl c0 c1
 have b5 := HU5.out.box.1
 have bl5 := HU5.out.box.2.1
 go_wp2_with fail
 refine (HNM6.out).mono ?_
 rintro e w9 ⟨rfl, m9, hw9⟩
 refine (show _ ∧ _ from ⟨rfl, ?_⟩)
 refine HBK.out _ _ ?_
 rw [HRE.out, hw9]
 exact ⟨rfl, HU5.out.only.drewN m9⟩
set_option maxRecDepth 100000 in
set_option maxHeartbeats 16000000 in
theorem punit_other (R : Nat) (A : Option Addr) (c d : Nat) (l : List Tok) (i : Nat) (w : World) (h_minus : isTk l i 4 [45] = false) (h_true : isTk l i 3 [116, 114, 117, 101] = false) (h_false : isTk l i 3 [102, 97, 108, 115, 101] = false) (h_next : isTk l i 3 [110, 101, 120, 116] = false) (h_open : isTk l i 4 [40] = false) (h_if : isTk l i 3 [105, 102] = false) (t : Tok) (ht : l[i]? = some t) (hk2 : t.kind ≠ 2) (hk1x : isKd l i 1 = false) (hi : i ≤ l.length) (hR : Rdr w R A l.length c i d) (hP : PTok w R A c l) :
 Calls Tryz.prog 216 #[.pointer (some ⟨R, 0, none⟩)] w (PQ R A c d l i (.bad i 16) w) := by
 have hlen := hP.len
 have hRw := hR.lt
 obtain ⟨wb, hwb⟩ : ∃ wb, wb = w.alloc (.cells #[.pointer (some ⟨R, 0, none⟩)] 131) := ⟨_, rfl⟩
 have hbb : Below w.heap.size w wb := by rw [hwb]; exact (Below.refl _ _).alloc (Nat.le_refl _) _
 have hsb : wb.heap.size = w.heap.size + 1 := by rw [hwb]; simp
 have hob : Only (fun q => q = R) w wb := Only.of_below hbb
 have hRb : Rdr wb R A l.length c i d := hR.below hbb hRw
 have hPb := hP.only hob
 obtain ⟨rb, hrb⟩ : ∃ rb, rb = w.heap.size := ⟨_, rfl⟩
 obtain ⟨rs, hrs⟩ : ∃ rs, rs = wb.heap.size := ⟨_, rfl⟩
 have hbox0 : BoxR R rb wb := ⟨by rw [hwb, hrb]; exact (cell_of_row _ _ 0 _ _ (0, 0) (heap_alloc_new w _)).trans rfl, by omega, by omega⟩
 obtain ⟨w1, hw1⟩ : ∃ w1, w1 = wb.alloc (.cells #[.int .i64 0, .int .i64 0, .string ⟨#[]⟩, .slice none 0 0] 25) := ⟨_, rfl⟩
 have hb1 : Below wb.heap.size wb w1 := by rw [hw1]; exact (Below.refl _ _).alloc (Nat.le_refl _) _
 have hs1 : w1.heap.size = rs + 1 := by rw [hw1, hrs]; simp
 have hbx : w1.heap[rs]? = some (.cells #[.int .i64 0, .int .i64 0, .string ⟨#[]⟩, .slice none 0 0] 25 (0, 0)) := by rw [hw1, hrs]; exact heap_alloc_new wb _
 have ho1 : Only (fun q => q = R) wb w1 := Only.of_below hb1
 have HU := Lib.hid (show UnS R A c d l i rb rs wb w1 from ⟨hRb.below hb1 hRb.lt, hbox0.only ho1, hbx, ho1, by omega⟩)
 have hrR : rs ≠ R := by omega
 have hrbR : rb ≠ R := by omega
 have hrbs : rb ≠ rs := by omega
 have hRlt : R < wb.heap.size := by omega
 have hrs2 : rs = w.heap.size + 1 := by omega
 obtain ⟨F0, hF00⟩ : ∃ F, F = PQ R A c d l i (.bad i 16) w := ⟨_, rfl⟩
 obtain ⟨F, hF0⟩ : ∃ F, F = PQ R A c d l i (.bad i 16) wb := ⟨_, rfl⟩
 have HBK : Hid (∀ e w', F e w' → F0 e w') := fun e w' h => by rw [hF0] at h; rw [hF00]; exact h.back hob
 rw [← hF00]
 have HIS := Lib.hid (fun (W : World) (k : Int) (s : ByteArray) (h : UnS R A c d l i rb rs wb W) => pis_any R A c i d l k s W h.rdr (hPb.only h.only) (by omega))
 have HP := Lib.hid hPb
 have HRE := Lib.hid hF0
 have HRE0 := Lib.hid hF00
 have HPW := Lib.hid hP
 have HOB := Lib.hid hob
 have HWB := Lib.hid hwb
 have HRS := Lib.hid hrs
 have HRS2 := Lib.hid hrs2
 have HRB := Lib.hid hrb
 have HSB := Lib.hid hsb
 have HW1 := Lib.hid hw1
 clear hF00 hF0 hwb hbb hsb hob hRb hPb hrb hrs hrs2 hbox0 hw1 hb1 hs1 hbx ho1 hP hR
 go_enter Tryz.func216, Tryz.ntmps216
 go_wp2_with fail
 rw [← HWB.out, ← HW1.out, ← HRS2.out, ← HRB.out]
 have b0 := HU.out.box.1
 have bl := HU.out.box.2.1
 have hI := HIS.out w1 4 ⟨#[45]⟩ HU.out
 rw [show isTk l i 4 (bs ⟨#[45]⟩) = false from h_minus] at hI
 have HI := Lib.hid hI
 clear hI
 go_wp2_with fail
 refine (HI.out).mono ?_
 rintro e w2 ⟨rfl, m, hwm⟩
 have HU2 : Hid (UnS R A c d l i rb rs wb w2) := by show UnS _ _ _ _ _ _ _ _ _ _; rw [hwm]; exact HU.out.drewN m
 clear HU HI hwm b0 bl
 rename Hid (UnS _ _ _ _ _ _ _ _ _ _) => HU
 have b0 := HU.out.box.1
 have bl := HU.out.box.2.1
 have hI := HIS.out w2 3 ⟨#[116, 114, 117, 101]⟩ HU.out
 rw [show isTk l i 3 (bs ⟨#[116, 114, 117, 101]⟩) = false from h_true] at hI
 have HI := Lib.hid hI
 clear hI
 go_wp2_with fail
 refine (HI.out).mono ?_
 rintro e w3 ⟨rfl, m, hwm⟩
 have HU2 : Hid (UnS R A c d l i rb rs wb w3) := by show UnS _ _ _ _ _ _ _ _ _ _; rw [hwm]; exact HU.out.drewN m
 clear HU HI hwm b0 bl
 rename Hid (UnS _ _ _ _ _ _ _ _ _ _) => HU
 have b0 := HU.out.box.1
 have bl := HU.out.box.2.1
 have hI := HIS.out w3 3 ⟨#[102, 97, 108, 115, 101]⟩ HU.out
 rw [show isTk l i 3 (bs ⟨#[102, 97, 108, 115, 101]⟩) = false from h_false] at hI
 have HI := Lib.hid hI
 clear hI
 go_wp2_with fail
 refine (HI.out).mono ?_
 rintro e w4 ⟨rfl, m, hwm⟩
 have HU2 : Hid (UnS R A c d l i rb rs wb w4) := by show UnS _ _ _ _ _ _ _ _ _ _; rw [hwm]; exact HU.out.drewN m
 clear HU HI hwm b0 bl
 rename Hid (UnS _ _ _ _ _ _ _ _ _ _) => HU
 have b0 := HU.out.box.1
 have bl := HU.out.box.2.1
 have hI := HIS.out w4 3 ⟨#[110, 101, 120, 116]⟩ HU.out
 rw [show isTk l i 3 (bs ⟨#[110, 101, 120, 116]⟩) = false from h_next] at hI
 have HI := Lib.hid hI
 clear hI
 go_wp2_with fail
 refine (HI.out).mono ?_
 rintro e w5 ⟨rfl, m, hwm⟩
 have HU2 : Hid (UnS R A c d l i rb rs wb w5) := by show UnS _ _ _ _ _ _ _ _ _ _; rw [hwm]; exact HU.out.drewN m
 clear HU HI hwm b0 bl
 rename Hid (UnS _ _ _ _ _ _ _ _ _ _) => HU
 have b0 := HU.out.box.1
 have bl := HU.out.box.2.1
 have hI := HIS.out w5 4 ⟨#[40]⟩ HU.out
 rw [show isTk l i 4 (bs ⟨#[40]⟩) = false from h_open] at hI
 have HI := Lib.hid hI
 clear hI
 go_wp2_with fail
 refine (HI.out).mono ?_
 rintro e w6 ⟨rfl, m, hwm⟩
 have HU2 : Hid (UnS R A c d l i rb rs wb w6) := by show UnS _ _ _ _ _ _ _ _ _ _; rw [hwm]; exact HU.out.drewN m
 clear HU HI hwm b0 bl
 rename Hid (UnS _ _ _ _ _ _ _ _ _ _) => HU
 have b0 := HU.out.box.1
 have bl := HU.out.box.2.1
 have hI := HIS.out w6 3 ⟨#[105, 102]⟩ HU.out
 rw [show isTk l i 3 (bs ⟨#[105, 102]⟩) = false from h_if] at hI
 have HI := Lib.hid hI
 clear hI
 go_wp2_with fail
 refine (HI.out).mono ?_
 rintro e w7 ⟨rfl, m, hwm⟩
 have HU2 : Hid (UnS R A c d l i rb rs wb w7) := by show UnS _ _ _ _ _ _ _ _ _ _; rw [hwm]; exact HU.out.drewN m
 clear HU HI hwm b0 bl
 rename Hid (UnS _ _ _ _ _ _ _ _ _ _) => HU
 rcases HP.out.toks with h0 | ⟨b, off, rfl, hb, hc⟩
 · rw [h0] at ht; simp at ht
 have hbR : b ≠ R := HP.out.apart _ rfl
 have b0 := HU.out.box.1
 have bl := HU.out.box.2.1
 have hil := (List.getElem?_eq_some_iff.1 ht).1
 obtain ⟨n, hn⟩ : ∃ n, n = l.length := ⟨_, rfl⟩
 have c0 := HU.out.rdr.c0
 have c1 := HU.out.rdr.c1
 rw [← hn] at c0
 have hRl := HU.out.rdr.lt
 have hlc := HP.out.cap
 have hcm := HP.out.capm
 unfold maxLen at hcm
 rw [← hn] at hlc
 have hk0 : (0 : Int) ≤ (i : Int) := by omega
 have hk1 : (i : Int) < (n : Int) := by omega
 have hin : i < n := by omega
 have hlen2 : n ≤ 100000 := by omega
 have hbw : b < w7.heap.size := Nat.lt_of_lt_of_le hb HU.out.only.size
 have hbR' : R ≠ b := fun h => hbR h.symm
 have hcell : ∀ j, j < 4 → w7.cell? ⟨b, off + i * 4 + j, none⟩ = some (tokV t j) := fun j hj => by
  rw [HU.out.only.cell hb hbR]
  exact hc i t ht j hj
 have x0 := hcell 0 (by omega)
 simp only [tokV, Nat.add_zero] at x0
 have hkb : (t.kind == 2) = false := by simpa using hk2
 have hkb2 : (t.kind != 2) = true := by simpa using hk2
 have HK1 := Lib.hid hk1x
 clear hcell hc ht hk2 hn hk1x
 go_wp2_with fail
 go_quiet (fail)
 obtain ⟨W5, hW5⟩ : ∃ W5, W5 = w7.drewN nq := ⟨_, rfl⟩
 have HU5 : Hid (UnS R (some ⟨b, off, none⟩) c d l i rb rs wb W5) := by show UnS _ _ _ _ _ _ _ _ _ _; rw [hW5]; exact HU.out.drewN nq
 rw [← hW5]
 have HNM6 := Lib.hid (pnum_no R (some ⟨b, off, none⟩) c i d l W5 HU5.out.rdr (HP.out.only HU5.out.only) (by omega) HK1.out)
 clear HU hW5 b0 bl c0 c1 x0
 have b5 := HU5.out.box.1
 have bl5 := HU5.out.box.2.1
 go_wp2_with fail
 refine (HNM6.out).mono ?_
 rintro e w9 ⟨rfl, m9, hw9⟩
 refine (show _ ∧ _ from ⟨rfl, ?_⟩)
 refine HBK.out _ _ ?_
 rw [HRE.out, hw9]
 exact ⟨rfl, HU5.out.only.drewN m9⟩
end Go.Proofs.YtnbphgeepnknlaaGreatDoor
