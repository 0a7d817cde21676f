/- Walk: ttext's reader.left. -/
import Derived.Test.YtnbphgeepnknlaaGreatDoorQPrsD
namespace Go.Proofs.YtnbphgeepnknlaaGreatDoor
open Go.RowKit
set_option linter.unusedVariables false

theorem only_setN {F : Nat → Prop} {w W : World} {b o : Nat} (h : Only F w W) (hb : w.heap.size ≤ b) (v : Value) : Only F w (W.setCell ⟨b, o, none⟩ v) := by
 refine ⟨h.os, h.tape, h.output, by simpa using h.size, fun q hq hf => ?_⟩
 have hne : q ≠ b := by omega
 rw [heap_setCell_other _ ⟨b, o, none⟩ q _ hne]
 exact h.block q hq hf
theorem left_stop {l : List Tok} {ops : List Int} {one : Par} {fuel j : Nat} {t : Tm} (h : whichOp l j ops = 0) : leftL l one ops fuel t j = .ok t j := by
 cases fuel with
 | zero => rfl
 | succ k => rw [leftL, if_pos h]
theorem left_go {l : List Tok} {ops : List Int} {one : Par} {fuel j : Nat} {t : Tm} (h : whichOp l j ops ≠ 0) : leftL l one ops (fuel + 1) t j = (one (j + 1)).then fun u j2 => leftL l one ops fuel (tmOf (whichOp l j ops) [t, u]) j2 := by rw [leftL, if_neg h]
theorem OpsAt.only {w w' : World} {b R : Nat} {l : List Int} (h : OpsAt w b l) (ho : Only (fun q => q = R) w w') (hb : b < w.heap.size) (hne : b ≠ R) : OpsAt w' b l := fun j z hz => by rw [ho.cell hb hne]; exact h j z hz
/-- The state of left's loop: the term so far lies in the box bt. -/
structure LeftS (R : Nat) (A : Option Addr) (c d : Nat) (l : List Tok) (i B0 bt : Nat) (w1 wr : World) (t : Tm) (A' : Option Addr) (c' j : Nat) : Prop where
 box : wr.heap[bt]? = some (.cells #[.int .i64 t.op, .int .i64 t.num, .string t.name, .slice A' t.kids.length c'] 25 (0, 0))
 val : TmVS (fun q => B0 ≤ q ∧ q ≠ bt) wr A' c' t
 rdr : Rdr wr R A l.length c j d
 only : Only (fun q => q = R) w1 wr
 ij : i < j
 jl : j ≤ l.length
theorem LeftS.first {R c d i j : Nat} {A A' : Option Addr} {c' : Nat} {l : List Tok} {w1 w4 : World} {t : Tm} (hR : R < w1.heap.size) (hij : i < j) (hj : j ≤ l.length) (hV : TmVS (fun q => w1.heap.size ≤ q) w4 A' c' t) (hr : Rdr w4 R A l.length c j d) (ho : Only (fun q => q = R) w1 w4) (q : Nat) :
 LeftS R A c d l i w1.heap.size w4.heap.size w1 ((w4.alloc (.cells #[.int .i64 t.op, .int .i64 t.num, .string t.name, .slice A' t.kids.length c'] 25)).drewN q) t A' c' j := by
 have hb : Below w4.heap.size w4 (w4.alloc (.cells #[.int .i64 t.op, .int .i64 t.num, .string t.name, .slice A' t.kids.length c'] 25)) := (Below.refl _ _).alloc (Nat.le_refl _) _
 refine ⟨heap_alloc_new w4 _, ?_, (hr.below hb hr.lt).drewN q, (ho.trans (Only.of_below hb)).drewN q, hij, hj⟩
 have hk : KeepS (fun q => w1.heap.size ≤ q) w4 ((w4.alloc (.cells #[.int .i64 t.op, .int .i64 t.num, .string t.name, .slice A' t.kids.length c'] 25)).drewN q) := ⟨(KeepS.of_below (S := fun _ => True) hb).size, fun q _ hq => hb.block q hq⟩
 exact hV.keep hk (fun q hq h => ⟨h, by omega⟩)
theorem LeftS.next {R c d i j j2 B0 bt g : Nat} {A A' A2 : Option Addr} {c' c2 : Nat} {l : List Tok} {w1 wr w6 W : World} {t t2 : Tm} {op : Int} (h : LeftS R A c d l i B0 bt w1 wr t A' c' j) (hRB : R < B0) (hB1 : B0 = w1.heap.size) (ho : Only (fun q => q = R) wr w6) (hj : j < j2) (hj2 : j2 ≤ l.length) (hV2 : TmVS (fun q => wr.heap.size ≤ q) w6 A2 c2 t2)
 (hk : KeepS (fun q => B0 ≤ q ∧ q ≠ bt) w6 W) (hR : Rdr W R A l.length c j2 d) (hO : Only (fun q => q = R) w1 W) (hbx : W.heap[bt]? = some (.cells #[.int .i64 op, .int .i64 0, .string ⟨#[]⟩, .slice (some ⟨g, 0, none⟩) 2 2] 25 (0, 0)))
 (hg : w6.heap.size ≤ g) (hrow : ∀ k v, (flatE [⟨t, A', c'⟩, ⟨t2, A2, c2⟩])[k]? = some v → W.cell? ⟨g, k, none⟩ = some v) (hgW : g < W.heap.size) : LeftS R A c d l i B0 bt w1 W (tmOf op [t, t2]) (some ⟨g, 0, none⟩) 2 j2 := by
 have hbl : bt < wr.heap.size := lt_of_heap h.box
 have hs6 := ho.size
 have hos := h.only.size
 refine ⟨hbx, ⟨Nat.le_refl _, by unfold maxLen; omega, Nat.zero_le _, .inr ⟨g, 0, rfl, ⟨by omega, by omega⟩, hgW, ?_⟩⟩, hR, hO, by have := h.ij; omega, hj2⟩
 refine row_of_cells [⟨t, A', c'⟩, ⟨t2, A2, c2⟩] 0 (fun k v hv => by rw [Nat.zero_add]; exact hrow k v hv) ?_
 intro e he
 have h1 : TmVS (fun q => B0 ≤ q ∧ q ≠ bt) w6 A' c' t := h.val.keep (KeepS.of_only ho (fun h => by have := h.1; omega)) (fun q _ h => h)
 have h2 : TmVS (fun q => B0 ≤ q ∧ q ≠ bt) w6 A2 c2 t2 := hV2.keep KeepS.refl (fun q _ h => ⟨by omega, by omega⟩)
 simp only [List.mem_cons, List.not_mem_nil, or_false] at he
 rcases he with rfl | rfl
 · exact h1.keep hk (fun q _ h => h)
 · exact h2.keep hk (fun q _ h => h)

set_option maxRecDepth 100000 in
set_option maxHeartbeats 8000000 in
theorem pleft_any (R : Nat) (A : Option Addr) (c d : Nat) (l : List Tok) (K : FuncId) (x : Value) (m : Bool) (Inv : World → Prop) (one : Par) (bo co : Nat) (ops : List Int) (i : Nat) (w : World) (hrun : ∀ args W, (callFunc K args).run Tryz.prog W = .ok (.enter K args) W)
 (hInv : ∀ w w', Inv w → Only (fun q => q = R) w w' → Inv w') (hF : FnC R A c d l K x Inv one) (hi : i ≤ l.length) (hR : Rdr w R A l.length c i d) (hP : PTok w R A c l) (hw : Inv w) (hops : OpsAt w bo ops) (hol : ops.length ≤ 20) (hbo : bo < w.heap.size) (hboR : bo ≠ R) :
 Calls Tryz.prog 214 #[.pointer (some ⟨R, 0, none⟩), fvOf m K x, .slice (some ⟨bo, 0, none⟩) ops.length co] w (PQ R A c d l i (left l one ops i) w) := by
 have hlen := hP.len
 have hRlt := hR.lt
 obtain ⟨w1, hw1⟩ : ∃ w1, w1 = w.alloc (.cells #[.int .i64 0, .int .i64 0, .string ⟨#[]⟩, .slice none 0 0] 25) := ⟨_, rfl⟩
 have hb1 : Below w.heap.size w w1 := by rw [hw1]; exact (Below.refl _ _).alloc (Nat.le_refl _) _
 have hs1 : w1.heap.size = w.heap.size + 1 := by rw [hw1]; simp
 have hbx : w1.heap[w.heap.size]? = some (.cells #[.int .i64 0, .int .i64 0, .string ⟨#[]⟩, .slice none 0 0] 25 (0, 0)) := by rw [hw1]; exact heap_alloc_new w _
 have ho1 : Only (fun q => q = R) w w1 := Only.of_below hb1
 have hc1 := hF i w1 hi (hR.below hb1 hRlt) (hP.only ho1) (hInv w w1 hw ho1)
 obtain ⟨r1, hr1⟩ : ∃ r1, r1 = one i := ⟨_, rfl⟩
 obtain ⟨F, hF0⟩ : ∃ F, F = PQ R A c d l i (left l one ops i) w := ⟨_, rfl⟩
 have HRE : Hid (F = PQ R A c d l i (r1.then fun t j => leftL l one ops l.length t j) w) := by show _ = _; rw [hF0, hr1]; rfl
 rw [← hF0]
 rw [← hr1] at hc1
 have hsgn : ∀ (j : Nat) (W : World), Rdr W R A l.length c j d → Only (fun q => q = R) w W → j ≤ l.length → Calls Tryz.prog 126 #[.pointer (some ⟨R, 0, none⟩), .slice (some ⟨bo, 0, none⟩) ops.length co] W fun e w' => e = .returned (.int .i64 (whichOp l j ops)) ∧ ∃ n, w' = W.drewN n := fun j W hRW hOW hj =>
  psign_any R A c j d l bo co ops W hRW (hP.only hOW) (by omega) (hops.only hOW hbo hboR) hol (Nat.lt_of_lt_of_le hbo hOW.size)
 have HSGN := Lib.hid hsgn
 have HC1 := Lib.hid hc1
 have HW1 := Lib.hid hw1
 have HB1 := Lib.hid hb1
 have HO1 := Lib.hid ho1
 have HBX := Lib.hid hbx
 have HFN := Lib.hid hF
 have HINV := Lib.hid hInv
 have HP := Lib.hid hP
 have HWI := Lib.hid hw
 obtain ⟨no, hno⟩ : ∃ no, no = ops.length := ⟨_, rfl⟩
 rw [← hno] at hsgn ⊢
 have HSGN := Lib.hid hsgn
 clear hc1 hr1 hF0 hw1 hb1 ho1 hbx hF hInv hP hw hR hsgn hops hno
 cases m
 all_goals
  unfold fvOf
  simp only [if_true, Bool.false_eq_true, if_false]
  go_enter Tryz.func214, Tryz.ntmps214
  go_wp2_with fail
  rw [← HW1.out]
  refine (HC1.out).mono ?_
  intro e w4 hq
  cases r1 with
  | bad j x =>
   obtain ⟨rfl, ho4⟩ := hq
   refine (show _ ∧ _ from ⟨rfl, ?_⟩)
   rw [HRE.out]
   exact ⟨rfl, HO1.out.trans ho4⟩
  | ok t j =>
   obtain ⟨⟨A', c', rfl, hV⟩, hij, hjl, hR4, ho4⟩ := hq
   have hsg := fun (W : World) (hW : W = w4.alloc (.cells #[.int .i64 t.op, .int .i64 t.num, .string t.name, .slice A' t.kids.length c'] 25)) => HSGN.out j W (by rw [hW]; exact hR4.below ((Below.refl _ _).alloc (Nat.le_refl _) _) hR4.lt) (by rw [hW]; exact HO1.out.trans (ho4.trans (Only.of_below ((Below.refl _ _).alloc (Nat.le_refl _) _)))) hjl
   have hm := fun q => LeftS.first (i := i) (by omega) hij hjl hV hR4 ho4 q
   obtain ⟨n2, hn2⟩ : ∃ n2, n2 = t.kids.length := ⟨_, rfl⟩
   unfold Tm.val
   rw [← hn2]
   rw [← hn2] at hsg
   have HSG := Lib.hid hsg
   have HM := Lib.hid hm
   have HN2 := Lib.hid hn2
   have HRE2 : Hid (F = PQ R A c d l i (leftL l one ops l.length t j) w) := HRE.out
   obtain ⟨r, hr⟩ : ∃ r, r = leftL l one ops l.length t j := ⟨_, rfl⟩
   rw [← hr] at HRE2
   have HR := Lib.hid hr
   clear hV hR4 hn2 hr hij hsg hm
   go_wp2_with fail
   refine (HSG.out _ rfl).mono ?_
   rintro e w5 ⟨rfl, q, hw5⟩
   have hmq := HM.out q
   rw [← HN2.out, ← hw5] at hmq
   have HMQ := Lib.hid hmq
   have hbt : w4.heap.size ≥ w1.heap.size := ho4.size
   clear hmq hw5
   obtain ⟨bt, hbt0⟩ : ∃ bt, bt = w4.heap.size := ⟨_, rfl⟩
   rw [← hbt0] at hbt HMQ
   go_wp2_with fail
   rw [← hbt0]
   clear hbt0
   go_loopw [8] (fun sv wr => ∃ (t : Tm) (A' : Option Addr) (c' j fuel : Nat), sv = .int .i64 (whichOp l j ops) ∧ LeftS R A c d l i w1.heap.size bt w1 wr t A' c' j ∧ l.length ≤ fuel + j ∧ leftL l one ops fuel t j = r) (fun _ wr => l.length - rdAt R wr)
   case atStart => exact ⟨t, A', c', j, l.length, rfl, HMQ.out, by omega, HR.out.symm⟩
   case round =>
    obtain ⟨t, A', c', j, fuel, rfl, hM, hfu, hre⟩ := hrel
    have HM2 := Lib.hid hM
    have HRE3 := Lib.hid hre
    have hjl2 := hM.jl
    have hsr := hM.only.size
    have hRr := hM.rdr.lt
    have hbtl : bt < wr.heap.size := lt_of_heap hM.box
    have hbwr : w.heap.size < wr.heap.size := by omega
    have hbxr := (hM.only.block w.heap.size (by omega) (by omega)).trans HBX.out
    have hbox := hM.box
    obtain ⟨n, hn⟩ : ∃ n, n = t.kids.length := ⟨_, rfl⟩
    rw [← hn] at hbox
    have HN := Lib.hid hn
    have HBXR := Lib.hid hbxr
    have HBOX := Lib.hid hbox
    obtain ⟨⟨v0, z0⟩, ⟨v1, z1⟩, ⟨v2, z2⟩, v3, z3⟩ := cells4 hbxr
    obtain ⟨⟨y0, x0⟩, ⟨y1, x1⟩, ⟨y2, x2⟩, y3, x3⟩ := cells4 hbox
    clear hM hre hn hbxr hbox
    by_cases hz : whichOp l j ops = 0
    · have hzb : (whichOp l j ops != 0) = false := by simpa using hz
      have HRR : Hid (r = .ok t j) := by show _ = _; rw [← HRE3.out]; exact left_stop hz
      clear hz
      obtain ⟨zz, hzz⟩ : ∃ zz, zz = whichOp l j ops := ⟨_, rfl⟩
      rw [← hzz] at hzb ⊢
      clear hzz
      go_wp2_with fail
      refine bodyPost_ret (results_cell_row (t := 25) (fr := (0, 0)) rfl _ _ w.heap.size _ _ rfl (res4 HBXR.out) Tryz.underlying25 rfl (by kernel_rfl)) rfl ?_
      rw [HRE2.out, HRR.out]
      have h := pq_end (.int .i64 t.op) (.int .i64 t.num) (.string t.name) (.slice A' n c') HM2.out.ij HM2.out.jl hRlt HM2.out.rdr (HO1.out.trans HM2.out.only) (HM2.out.val.keep KeepS.refl (fun q _ h => by have := h.1; omega))
      unfold Tm.val at h
      rw [← HN.out] at h
      exact h
    · have hzb : (whichOp l j ops != 0) = true := by simpa using hz
      have hjl3 := which_lt hz
      have HZ : Hid (whichOp l j ops ≠ 0) := hz
      obtain ⟨zz, hzz⟩ : ∃ zz, zz = whichOp l j ops := ⟨_, rfl⟩
      rw [← hzz] at hzb ⊢
      have HZZ := Lib.hid hzz
      have c1 := HM2.out.rdr.c1
      have f1 := HM2.out.rdr.frozen 1
      have hbr : bt ≠ R := by omega
      clear hz hzz
      go_wp2_with fail
      -- REGION
      refine wp_region_any (by kernel_rfl) ?_
      change wpAny _ _ _ _ _ _ _ (World.drew _)
      obtain ⟨W3, hW3⟩ : ∃ W3, W3 = (wr.setCell ⟨R, 1, none⟩ (.int .i64 ((j : Int) + 1))).drew := ⟨_, rfl⟩
      have hwn : Went R A l.length c d (j + 1) wr ((wr.setCell ⟨R, 1, none⟩ (.int .i64 ((j : Int) + 1))).drew) := went_more (m := 1) (went_next (m := 0) HM2.out.rdr)
      rw [← hW3] at hwn ⊢
      have ho3 : Only (fun q => q = R) wr W3 := hwn.2.1
      have hs3 : W3.heap.size = wr.heap.size := hwn.2.2
      have hP3 := HP.out.only (HO1.out.trans (HM2.out.only.trans ho3))
      have hI3 := HINV.out w W3 HWI.out (HO1.out.trans (HM2.out.only.trans ho3))
      have hcall := HFN.out (j + 1) W3 (by omega) hwn.1 hP3 hI3
      have HB3 := Lib.hid ((ho3.block bt hbtl hbr).trans HBOX.out)
      obtain ⟨fu, rfl⟩ : ∃ fu, fuel = fu + 1 := ⟨fuel - 1, by omega⟩
      have hgo := HRE3.out
      rw [left_go HZ.out] at hgo
      obtain ⟨r2, hr2⟩ : ∃ r2, r2 = one (j + 1) := ⟨_, rfl⟩
      rw [← hr2] at hgo hcall
      have HGO := Lib.hid hgo
      have HC2 := Lib.hid hcall
      have HO3 := Lib.hid ho3
      clear hW3 hwn ho3 hP3 hI3 hcall hgo hr2 c1 f1 z0 z1 z2 z3 y0 y1 y2 y3 x0 x1 x2 x3
      obtain ⟨⟨y0, x0⟩, ⟨y1, x1⟩, ⟨y2, x2⟩, y3, x3⟩ := cells4 HB3.out
      clear x0 x1 x2 x3
      refine wpAny_take (i := 0) (oi := { dst := some 28, op := Op.move (Operand.tmp 8), type := 3, pos := "ttext.go:287", after := #[], guard := none }) (v := ?_) rfl (by kernel_rfl) (by kernel_rfl) (by kernel_rfl) (fun _ _ _ h => h) (Or.inl ⟨by rfl, ?hy⟩) ?_
      case hy => intro w0; go_simp; (first | done | with_reducible rfl)
      try simp only [Act.put, List.setIfInBounds_toArray, List.set_cons_zero, List.set_cons_succ]
      refine wpAny_take (i := 2) (oi := { dst := some 30, op := Op.move (Operand.tmp 1), type := 136, pos := "ttext.go:287", after := #[], guard := none }) (v := ?_) rfl (by kernel_rfl) (by kernel_rfl) (by kernel_rfl) (fun _ _ _ h => h) (Or.inl ⟨by rfl, ?hy⟩) ?_
      case hy => intro w0; go_simp; (first | done | with_reducible rfl)
      try simp only [Act.put, List.setIfInBounds_toArray, List.set_cons_zero, List.set_cons_succ]
      cases r2 with
      | bad jb xb =>
       refine wpAny_ready (rs := [1, 3]) (by kernel_rfl) (by simp) ?_
       refine AllReady.cons (o := { dst := some 29, op := Op.load 25 (Operand.tmp 7), type := 25, pos := "ttext.go:287", after := #[], guard := none }) rfl (fun K hK => ?_) ?_
       · go_simp
         refine hK _ _ ?_
         clear hK K
         try simp only [Act.put, List.setIfInBounds_toArray, List.set_cons_zero, List.set_cons_succ]
         refine wpAny_ready (rs := [3]) (by kernel_rfl) (by simp) ?_
         refine AllReady.cons (o := { dst := some 31, op := Op.call { callee := Callee.value (Operand.tmp 30), args := #[], argTypes := #[] }, type := 25, pos := "ttext.go:287", after := #[{ on := 2, ground := Ground.data }], guard := none }) rfl (fun K hK => ?_) AllReady.nil
         go_simp
         with_reducible refine (HC2.out).mono ?_
         intro e w6 hq
         obtain ⟨rfl, ho6⟩ := hq
         refine (show _ ∧ _ from ⟨rfl, ?_⟩)
         rw [HRE2.out, ← HGO.out]
         exact ⟨rfl, HO1.out.trans (HM2.out.only.trans (HO3.out.trans ho6))⟩
       · refine AllReady.cons (o := { dst := some 31, op := Op.call { callee := Callee.value (Operand.tmp 30), args := #[], argTypes := #[] }, type := 25, pos := "ttext.go:287", after := #[{ on := 2, ground := Ground.data }], guard := none }) rfl (fun K hK => ?_) AllReady.nil
         go_simp
         with_reducible refine (HC2.out).mono ?_
         intro e w6 hq
         obtain ⟨rfl, ho6⟩ := hq
         refine (show _ ∧ _ from ⟨rfl, ?_⟩)
         rw [HRE2.out, ← HGO.out]
         exact ⟨rfl, HO1.out.trans (HM2.out.only.trans (HO3.out.trans ho6))⟩
      | ok t2 j2 =>
       refine wpAny_ready (rs := [1, 3]) (by kernel_rfl) (by simp) ?_
       refine AllReady.cons (o := { dst := some 29, op := Op.load 25 (Operand.tmp 7), type := 25, pos := "ttext.go:287", after := #[], guard := none }) rfl (fun K hK => ?_) ?_
       · go_simp
         refine hK _ _ ?_
         clear hK K
         try simp only [Act.put, List.setIfInBounds_toArray, List.set_cons_zero, List.set_cons_succ]
         refine wpAny_ready (rs := [3]) (by kernel_rfl) (by simp) ?_
         refine AllReady.cons (o := { dst := some 31, op := Op.call { callee := Callee.value (Operand.tmp 30), args := #[], argTypes := #[] }, type := 25, pos := "ttext.go:287", after := #[{ on := 2, ground := Ground.data }], guard := none }) rfl (fun K hK => ?_) AllReady.nil
         go_simp
         with_reducible refine (HC2.out).mono ?_
         intro e w6 hq
         obtain ⟨⟨A2, c2, rfl, hV2⟩, hij2, hjl2', hR6, ho6⟩ := hq
         obtain ⟨n3, hn3⟩ : ∃ n3, n3 = t2.kids.length := ⟨_, rfl⟩
         unfold Tm.val
         rw [← hn3]
         have HN3 := Lib.hid hn3
         have HO6 := Lib.hid ho6
         have HV2 := Lib.hid hV2
         have HR6 := Lib.hid hR6
         have hs6 := ho6.size
         have hbt6 : bt < w6.heap.size := by omega
         have HB6 := Lib.hid ((ho6.block bt (by omega) hbr).trans HB3.out)
         clear hV2 hR6 ho6 hn3 y0 y1 y2 y3
         obtain ⟨⟨y0, x0⟩, ⟨y1, x1⟩, ⟨y2, x2⟩, y3, x3⟩ := cells4 HB6.out
         refine hK _ _ ?_
         clear hK K
         try simp only [Act.put, List.setIfInBounds_toArray, List.set_cons_zero, List.set_cons_succ]
         refine wpAny_ready (rs := [4]) (by kernel_rfl) (by simp) ?_
         refine AllReady.cons (o := { dst := some 32, op := Op.buildSlice 23 2 #[(0, Operand.tmp 29), (1, Operand.tmp 31)], type := 23, pos := "ttext.go:287", after := #[{ on := 1, ground := Ground.data }, { on := 3, ground := Ground.data }], guard := none }) rfl (fun K hK => ?_) AllReady.nil
         go_simp
         refine hK _ _ ?_
         clear hK K
         try simp only [Act.put, List.setIfInBounds_toArray, List.set_cons_zero, List.set_cons_succ]
         refine wpAny_ready (rs := [5]) (by kernel_rfl) (by simp) ?_
         refine AllReady.cons (o := { dst := some 33, op := Op.build 25 #[(0, Operand.tmp 28), (3, Operand.tmp 32)], type := 25, pos := "ttext.go:287", after := #[{ on := 0, ground := Ground.data }, { on := 4, ground := Ground.data }], guard := none }) rfl (fun K hK => ?_) AllReady.nil
         go_simp
         refine hK _ _ ?_
         clear hK K
         try simp only [Act.put, List.setIfInBounds_toArray, List.set_cons_zero, List.set_cons_succ]
         refine wpAny_ready (rs := [6]) (by kernel_rfl) (by simp) ?_
         refine AllReady.cons (o := { dst := none, op := Op.store 25 (Operand.tmp 7) (Operand.tmp 33), type := 0, pos := "ttext.go:287", after := #[{ on := 5, ground := Ground.data }, { on := 3, ground := Ground.chain }, { on := 0, ground := Ground.phase }, { on := 1, ground := Ground.phase }, { on := 2, ground := Ground.phase }, { on := 3, ground := Ground.phase }, { on := 4, ground := Ground.phase }, { on := 5, ground := Ground.phase }], guard := none }) rfl (fun K hK => ?_) AllReady.nil
         go_simp
         refine hK _ _ ?_
         clear hK K
         try simp only [Act.put, List.setIfInBounds_toArray, List.set_cons_zero, List.set_cons_succ]
         refine wpAny_done (by kernel_rfl) ?_ _
         go_wp2_with fail
         obtain ⟨WQ, hWQ⟩ : ∃ WQ, WQ = (((w6.setCell ⟨bt, 0, none⟩ (.int .i64 zz)).setCell ⟨bt, 1, none⟩ (.int .i64 0)).setCell ⟨bt, 2, none⟩ (.string ⟨#[]⟩)).setCell ⟨bt, 3, none⟩ (.slice (some ⟨w6.heap.size, 0, none⟩) 2 2) := ⟨_, rfl⟩
         rw [← hWQ]
         have hqs : WQ.heap.size = w6.heap.size := by rw [hWQ]; simp
         have hbQ : WQ.heap[bt]? = some (.cells #[.int .i64 zz, .int .i64 0, .string ⟨#[]⟩, .slice (some ⟨w6.heap.size, 0, none⟩) 2 2] 25 (0, 0)) := by rw [hWQ]; exact res4 HB6.out
         have hRQ : Rdr WQ R A l.length c j2 d := by
          have hne : R ≠ bt := fun h => hbr h.symm
          rw [hWQ]
          unfold Rdr
          rw [heap_setCell_other _ ⟨bt, 3, none⟩ R _ hne, heap_setCell_other _ ⟨bt, 2, none⟩ R _ hne, heap_setCell_other _ ⟨bt, 1, none⟩ R _ hne, heap_setCell_other _ ⟨bt, 0, none⟩ R _ hne]
          exact HR6.out
         have hkQ : KeepS (fun q => w1.heap.size ≤ q ∧ q ≠ bt) w6 WQ := by
          rw [hWQ]
          exact (((KeepS.refl.set (fun h => h.2 rfl) _).set (fun h => h.2 rfl) _).set (fun h => h.2 rfl) _).set (fun h => h.2 rfl) _
         have ho36 := HM2.out.only.trans (HO3.out.trans HO6.out)
         have hOQ : Only (fun q => q = R) w1 WQ := by
          rw [hWQ]
          exact only_setN (only_setN (only_setN (only_setN ho36 hbt _) hbt _) hbt _) hbt _
         clear hWQ
         rw [HN.out, HN3.out]
         obtain ⟨W7, hW7⟩ : ∃ W7, W7 = WQ.alloc (.cells #[.int .i64 t.op, .int .i64 t.num, .string t.name, .slice A' t.kids.length c', .int .i64 t2.op, .int .i64 t2.num, .string t2.name, .slice A2 t2.kids.length c2] 25) := ⟨_, rfl⟩
         rw [← hW7]
         have hb7 : Below WQ.heap.size WQ W7 := by rw [hW7]; exact (Below.refl _ _).alloc (Nat.le_refl _) _
         have hs7 : W7.heap.size = w6.heap.size + 1 := by rw [hW7]; simp [hqs]
         have hrow7 : W7.heap[w6.heap.size]? = some (.cells (flatE [⟨t, A', c'⟩, ⟨t2, A2, c2⟩]).toArray 25 (0, 0)) := by rw [hW7, ← hqs]; exact heap_alloc_new WQ _
         have hR7 := hRQ.below hb7 (by omega)
         have hO7 := hOQ.trans (Only.of_below (F := fun q => q = R) hb7)
         have hk7 : KeepS (fun q => w1.heap.size ≤ q ∧ q ≠ bt) w6 W7 := hkQ.trans (KeepS.of_below hb7)
         have hbx7 := (hb7.block bt (by omega)).trans hbQ
         have HM7 := Lib.hid (fun q => LeftS.next (j2 := j2) (t2 := t2) (W := W7.drewN q) (op := zz) HM2.out (by omega) rfl (HO3.out.trans HO6.out) (by omega) hjl2' (HV2.out.keep KeepS.refl (fun q _ h => by omega)) ⟨hk7.size, hk7.block⟩ (hR7.drewN q) (hO7.drewN q) hbx7 (Nat.le_refl _) (fun k v hv => by
          have hr : (W7.drewN q).heap[w6.heap.size]? = some (.cells (flatE [⟨t, A', c'⟩, ⟨t2, A2, c2⟩]).toArray 25 (0, 0)) := hrow7
          rw [cell_of_row _ _ k _ _ (0, 0) hr]
          simpa using hv) (by show _ < W7.heap.size; omega))
         have hsg7 := HSGN.out j2 W7 hR7 (HO1.out.trans hO7) hjl2'
         have HSG7 := Lib.hid hsg7
         clear hW7 hb7 hrow7 hR7 hO7 hk7 hbx7 hsg7 hqs hbQ hRQ hkQ ho36 hOQ y0 y1 y2 y3 x0 x1 x2 x3
         refine (HSG7.out).mono ?_
         rintro e w7 ⟨rfl, q, hw7⟩
         have hm7 := HM7.out q
         rw [← hw7] at hm7
         have HM8 := Lib.hid hm7
         have hrd7 := rdAt_of hm7.rdr
         have hrdr := rdAt_of HM2.out.rdr
         have HGO2 : Hid (leftL l one ops fu (tmOf zz [t, t2]) j2 = r) := by
          show _ = _
          rw [HZZ.out]
          exact HGO.out
         clear hm7 hw7
         go_wp2_with fail
         go_roundw
         case rel => exact ⟨tmOf zz [t, t2], some ⟨w6.heap.size, 0, none⟩, 2, j2, fu, rfl, HM8.out, by omega, HGO2.out⟩
         case measure => rw [hrd7, hrdr]; omega
       · refine AllReady.cons (o := { dst := some 31, op := Op.call { callee := Callee.value (Operand.tmp 30), args := #[], argTypes := #[] }, type := 25, pos := "ttext.go:287", after := #[{ on := 2, ground := Ground.data }], guard := none }) rfl (fun K hK => ?_) AllReady.nil
         go_simp
         with_reducible refine (HC2.out).mono ?_
         intro e w6 hq
         obtain ⟨⟨A2, c2, rfl, hV2⟩, hij2, hjl2', hR6, ho6⟩ := hq
         obtain ⟨n3, hn3⟩ : ∃ n3, n3 = t2.kids.length := ⟨_, rfl⟩
         unfold Tm.val
         rw [← hn3]
         have HN3 := Lib.hid hn3
         have HO6 := Lib.hid ho6
         have HV2 := Lib.hid hV2
         have HR6 := Lib.hid hR6
         have hs6 := ho6.size
         have hbt6 : bt < w6.heap.size := by omega
         have HB6 := Lib.hid ((ho6.block bt (by omega) hbr).trans HB3.out)
         clear hV2 hR6 ho6 hn3 y0 y1 y2 y3
         obtain ⟨⟨y0, x0⟩, ⟨y1, x1⟩, ⟨y2, x2⟩, y3, x3⟩ := cells4 HB6.out
         refine hK _ _ ?_
         clear hK K
         try simp only [Act.put, List.setIfInBounds_toArray, List.set_cons_zero, List.set_cons_succ]
         refine wpAny_ready (rs := [1]) (by kernel_rfl) (by simp) ?_
         refine AllReady.cons (o := { dst := some 29, op := Op.load 25 (Operand.tmp 7), type := 25, pos := "ttext.go:287", after := #[], guard := none }) rfl (fun K hK => ?_) AllReady.nil
         go_simp
         refine hK _ _ ?_
         clear hK K
         try simp only [Act.put, List.setIfInBounds_toArray, List.set_cons_zero, List.set_cons_succ]
         refine wpAny_ready (rs := [4]) (by kernel_rfl) (by simp) ?_
         refine AllReady.cons (o := { dst := some 32, op := Op.buildSlice 23 2 #[(0, Operand.tmp 29), (1, Operand.tmp 31)], type := 23, pos := "ttext.go:287", after := #[{ on := 1, ground := Ground.data }, { on := 3, ground := Ground.data }], guard := none }) rfl (fun K hK => ?_) AllReady.nil
         go_simp
         refine hK _ _ ?_
         clear hK K
         try simp only [Act.put, List.setIfInBounds_toArray, List.set_cons_zero, List.set_cons_succ]
         refine wpAny_ready (rs := [5]) (by kernel_rfl) (by simp) ?_
         refine AllReady.cons (o := { dst := some 33, op := Op.build 25 #[(0, Operand.tmp 28), (3, Operand.tmp 32)], type := 25, pos := "ttext.go:287", after := #[{ on := 0, ground := Ground.data }, { on := 4, ground := Ground.data }], guard := none }) rfl (fun K hK => ?_) AllReady.nil
         go_simp
         refine hK _ _ ?_
         clear hK K
         try simp only [Act.put, List.setIfInBounds_toArray, List.set_cons_zero, List.set_cons_succ]
         refine wpAny_ready (rs := [6]) (by kernel_rfl) (by simp) ?_
         refine AllReady.cons (o := { dst := none, op := Op.store 25 (Operand.tmp 7) (Operand.tmp 33), type := 0, pos := "ttext.go:287", after := #[{ on := 5, ground := Ground.data }, { on := 3, ground := Ground.chain }, { on := 0, ground := Ground.phase }, { on := 1, ground := Ground.phase }, { on := 2, ground := Ground.phase }, { on := 3, ground := Ground.phase }, { on := 4, ground := Ground.phase }, { on := 5, ground := Ground.phase }], guard := none }) rfl (fun K hK => ?_) AllReady.nil
         go_simp
         refine hK _ _ ?_
         clear hK K
         try simp only [Act.put, List.setIfInBounds_toArray, List.set_cons_zero, List.set_cons_succ]
         refine wpAny_done (by kernel_rfl) ?_ _
         go_wp2_with fail
         obtain ⟨WQ, hWQ⟩ : ∃ WQ, WQ = (((w6.setCell ⟨bt, 0, none⟩ (.int .i64 zz)).setCell ⟨bt, 1, none⟩ (.int .i64 0)).setCell ⟨bt, 2, none⟩ (.string ⟨#[]⟩)).setCell ⟨bt, 3, none⟩ (.slice (some ⟨w6.heap.size, 0, none⟩) 2 2) := ⟨_, rfl⟩
         rw [← hWQ]
         have hqs : WQ.heap.size = w6.heap.size := by rw [hWQ]; simp
         have hbQ : WQ.heap[bt]? = some (.cells #[.int .i64 zz, .int .i64 0, .string ⟨#[]⟩, .slice (some ⟨w6.heap.size, 0, none⟩) 2 2] 25 (0, 0)) := by rw [hWQ]; exact res4 HB6.out
         have hRQ : Rdr WQ R A l.length c j2 d := by
          have hne : R ≠ bt := fun h => hbr h.symm
          rw [hWQ]
          unfold Rdr
          rw [heap_setCell_other _ ⟨bt, 3, none⟩ R _ hne, heap_setCell_other _ ⟨bt, 2, none⟩ R _ hne, heap_setCell_other _ ⟨bt, 1, none⟩ R _ hne, heap_setCell_other _ ⟨bt, 0, none⟩ R _ hne]
          exact HR6.out
         have hkQ : KeepS (fun q => w1.heap.size ≤ q ∧ q ≠ bt) w6 WQ := by
          rw [hWQ]
          exact (((KeepS.refl.set (fun h => h.2 rfl) _).set (fun h => h.2 rfl) _).set (fun h => h.2 rfl) _).set (fun h => h.2 rfl) _
         have ho36 := HM2.out.only.trans (HO3.out.trans HO6.out)
         have hOQ : Only (fun q => q = R) w1 WQ := by
          rw [hWQ]
          exact only_setN (only_setN (only_setN (only_setN ho36 hbt _) hbt _) hbt _) hbt _
         clear hWQ
         rw [HN.out, HN3.out]
         obtain ⟨W7, hW7⟩ : ∃ W7, W7 = WQ.alloc (.cells #[.int .i64 t.op, .int .i64 t.num, .string t.name, .slice A' t.kids.length c', .int .i64 t2.op, .int .i64 t2.num, .string t2.name, .slice A2 t2.kids.length c2] 25) := ⟨_, rfl⟩
         rw [← hW7]
         have hb7 : Below WQ.heap.size WQ W7 := by rw [hW7]; exact (Below.refl _ _).alloc (Nat.le_refl _) _
         have hs7 : W7.heap.size = w6.heap.size + 1 := by rw [hW7]; simp [hqs]
         have hrow7 : W7.heap[w6.heap.size]? = some (.cells (flatE [⟨t, A', c'⟩, ⟨t2, A2, c2⟩]).toArray 25 (0, 0)) := by rw [hW7, ← hqs]; exact heap_alloc_new WQ _
         have hR7 := hRQ.below hb7 (by omega)
         have hO7 := hOQ.trans (Only.of_below (F := fun q => q = R) hb7)
         have hk7 : KeepS (fun q => w1.heap.size ≤ q ∧ q ≠ bt) w6 W7 := hkQ.trans (KeepS.of_below hb7)
         have hbx7 := (hb7.block bt (by omega)).trans hbQ
         have HM7 := Lib.hid (fun q => LeftS.next (j2 := j2) (t2 := t2) (W := W7.drewN q) (op := zz) HM2.out (by omega) rfl (HO3.out.trans HO6.out) (by omega) hjl2' (HV2.out.keep KeepS.refl (fun q _ h => by omega)) ⟨hk7.size, hk7.block⟩ (hR7.drewN q) (hO7.drewN q) hbx7 (Nat.le_refl _) (fun k v hv => by
          have hr : (W7.drewN q).heap[w6.heap.size]? = some (.cells (flatE [⟨t, A', c'⟩, ⟨t2, A2, c2⟩]).toArray 25 (0, 0)) := hrow7
          rw [cell_of_row _ _ k _ _ (0, 0) hr]
          simpa using hv) (by show _ < W7.heap.size; omega))
         have hsg7 := HSGN.out j2 W7 hR7 (HO1.out.trans hO7) hjl2'
         have HSG7 := Lib.hid hsg7
         clear hW7 hb7 hrow7 hR7 hO7 hk7 hbx7 hsg7 hqs hbQ hRQ hkQ ho36 hOQ y0 y1 y2 y3 x0 x1 x2 x3
         refine (HSG7.out).mono ?_
         rintro e w7 ⟨rfl, q, hw7⟩
         have hm7 := HM7.out q
         rw [← hw7] at hm7
         have HM8 := Lib.hid hm7
         have hrd7 := rdAt_of hm7.rdr
         have hrdr := rdAt_of HM2.out.rdr
         have HGO2 : Hid (leftL l one ops fu (tmOf zz [t, t2]) j2 = r) := by
          show _ = _
          rw [HZZ.out]
          exact HGO.out
         clear hm7 hw7
         go_wp2_with fail
         go_roundw
         case rel => exact ⟨tmOf zz [t, t2], some ⟨w6.heap.size, 0, none⟩, 2, j2, fu, rfl, HM8.out, by omega, HGO2.out⟩
         case measure => rw [hrd7, hrdr]; omega
end Go.Proofs.YtnbphgeepnknlaaGreatDoor
