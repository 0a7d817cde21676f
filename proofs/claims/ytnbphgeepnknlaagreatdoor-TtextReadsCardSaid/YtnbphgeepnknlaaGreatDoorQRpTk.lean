/- Walk: the reference's Take. -/
import Derived.Test.YtnbphgeepnknlaaGreatDoorQRprW
import Derived.Test.YtnbphgeepnknlaaGreatDoorQRefA
namespace Go.Proofs.YtnbphgeepnknlaaGreatDoor
open Go.RowKit
set_option linter.unusedVariables false

theorem rtake_results (tm : Array Value) (b2 : Nat) (z1 z2 : Value) (u0 u1 u2 u3 : Value) (w : World) (h2 : tm[4]? = some (.pointer (some ⟨b2, 0, none⟩))) (h3 : tm[5]? = some z1) (h4 : tm[6]? = some z2) (h : w.heap[b2]? = some (.cells #[u0, u1, u2, u3] 25 (0, 0))) :
 (results Tryz.f34 tm).run Tryz.prog w = .ok (.tuple #[.agg #[u0, u1, u2, u3], z1, z2]) w := by
 obtain ⟨⟨y0, -⟩, ⟨y1, -⟩, ⟨y2, -⟩, y3, -⟩ := cells4 h
 unfold results
 rw [Tryz.results34]
 simp only [Array.getD_eq_getD_getElem?]
 simp [h2, h3, h4, go_sem, y0, y1, y2, y3]
set_option maxRecDepth 100000 in
set_option maxHeartbeats 8000000 in
theorem rptake_any (l : List Tok) (A : Option Addr) (c i : Nat) (w : World) (hi : i ≤ l.length) (hT : TokIn w A c l) :
 Calls Tryz.prog 34 #[.slice A l.length c, .int .i64 (i : Nat)] w (TkQ l w (takeT l i)) := by
 have hlen := hT.len
 have hcap := hT.cap
 have hcapm := hT.capm
 unfold maxLen at hcapm
 obtain ⟨n, hn⟩ : ∃ n, n = l.length := ⟨_, rfl⟩
 rw [← hn] at hi hlen hcap ⊢
 obtain ⟨F, hF⟩ : ∃ F, F = TkQ l w (takeT l i) := ⟨_, rfl⟩
 rw [← hF]
 obtain ⟨b4, hb4⟩ : ∃ b, b = w.heap.size := ⟨_, rfl⟩
 obtain ⟨w1, hw1⟩ : ∃ w1, w1 = w.alloc (.cells #[.int .i64 0, .int .i64 0, .string ⟨#[]⟩, .slice none 0 0] 25) := ⟨_, rfl⟩
 have hb1 : Below w.heap.size w w1 := by rw [hw1]; exact (Below.refl _ _).alloc (Nat.le_refl _) _
 have hx1 : w1.heap[b4]? = some (.cells #[.int .i64 0, .int .i64 0, .string ⟨#[]⟩, .slice none 0 0] 25 (0, 0)) := by rw [hw1, hb4]; exact heap_alloc_new w _
 have hs1 : w1.heap.size = b4 + 1 := by rw [hw1, hb4]; simp
 have hcall := (rlevels l 256 0 rfl).term A c i w1 (by rw [← hn]; exact hi) (hT.below hb1)
 rw [← hn] at hcall
 obtain ⟨r, hr⟩ : ∃ r, r = (lvl l 256).term i := ⟨_, rfl⟩
 rw [← hr] at hcall
 have HRE : Hid (F = TkQ l w (tkOf i r)) := by show _ = _; rw [hF, hr]; rfl
 have HGD : Hid (∀ t j, r = .ok t j → Gd l i t j) := fun t j h => (lvl_gd l 256).term i t j (by rw [← hr]; exact h)
 have HNZ : Hid (∀ j x, r = .bad j x → x ≠ 0) := fun j x h => (lvl_nz l 256).1 i j x (by rw [← hr]; exact h)
 have HC := Lib.hid hcall
 have HW1 := Lib.hid hw1
 have HBQ := Lib.hid hb4
 have HB := Lib.hid hb1
 have X4 := Lib.hid hx1
 have HN := Lib.hid hn
 have hi0 : ¬ (i : Int) < 0 := by omega
 have hi1 : ¬ (n : Int) < (i : Int) := by omega
 have hbw : w.heap.size ≤ b4 := by omega
 clear hF hb4 hw1 hb1 hx1 hcall hr hn hT
 go_enter Tryz.func34, Tryz.ntmps34
 go_wp2_with fail
 rw [← HW1.out, ← HBQ.out]
 refine (HC.out).mono ?_
 intro e w2 hq
 rcases r with ⟨jb, xb⟩ | ⟨t, j⟩
 · obtain ⟨A', c', rfl, hV, hb2⟩ := gq_bad.1 hq
   have hx := HNZ.out _ _ rfl
   have hxb : (xb != 0) = true := by simpa using hx
   have HRE2 : Hid (F = TkQ l w (zeroTm, jb, xb)) := HRE.out
   obtain ⟨b7, hb7⟩ : ∃ b, b = w2.heap.size := ⟨_, rfl⟩
   obtain ⟨w3, hw3⟩ : ∃ x, x = w2.alloc (.cells #[.int .i64 0, .int .i64 0, .string ⟨#[]⟩, .slice A' 0 c', .int .i64 (jb : Nat), .int .i64 xb] 140) := ⟨_, rfl⟩
   have X7 : Hid (w3.heap[b7]? = some (.cells #[.int .i64 0, .int .i64 0, .string ⟨#[]⟩, .slice A' 0 c', .int .i64 (jb : Nat), .int .i64 xb] 140 (0, 0))) := by show _ = _; rw [hw3, hb7]; exact heap_alloc_new w2 _
   have hal : Below w2.heap.size w2 w3 := by rw [hw3]; exact (Below.refl _ _).alloc (Nat.le_refl _) _
   have n74 : b7 ≠ b4 := by have := hb2.size; omega
   have Y4 := Lib.hid ((hal.block b4 (by have := hb2.size; omega)).trans ((hb2.block b4 (by omega)).trans X4.out))
   have YB := Lib.hid (HB.out.trans ((hb2.mono (by omega)).trans (hal.mono (by have := hb2.size; omega))))
   have hs7 : b7 < w3.heap.size := lt_of_heap X7.out
   have Qw3 := Lib.hid hw3
   have Qb7 := Lib.hid hb7
   clear hq hV hb2 hal hw3 hb7 hx X4 HB HC
   have X4 := Y4
   have HB := YB
   clear Y4 YB
   go_wp2_with fail
   rw [← Qw3.out, ← Qb7.out]
   obtain ⟨⟨u0, uz0⟩, ⟨u1, uz1⟩, ⟨u2, uz2⟩, ⟨u3, uz3⟩, ⟨u4, uz4⟩, u5, uz5⟩ := cells6 X7.out
   try go_wp2_with fail
   clear u0 uz0 u1 uz1 u2 uz2 u3 uz3 u4 uz4 u5 uz5
   obtain ⟨wd, hwd⟩ : ∃ wd, wd = w3.drew := ⟨_, rfl⟩
   have hxd : wd.heap[b7]? = some (.cells #[.int .i64 0, .int .i64 0, .string ⟨#[]⟩, .slice A' 0 c', .int .i64 (jb : Nat), .int .i64 xb] 140 (0, 0)) := by rw [hwd]; exact X7.out
   have Y4 : Hid (wd.heap[b4]? = some (.cells #[.int .i64 0, .int .i64 0, .string ⟨#[]⟩, .slice none 0 0] 25 (0, 0))) := by show _ = _; rw [hwd]; exact X4.out
   have YB : Hid (Below w.heap.size w wd) := by show Below _ _ _; rw [hwd]; exact HB.out.drew
   refine wp_region_held_drew (S := fun w' => w'.heap[b7]? = some (.cells #[.int .i64 0, .int .i64 0, .string ⟨#[]⟩, .slice A' 0 c', .int .i64 (jb : Nat), .int .i64 xb] 140 (0, 0))) (by kernel_rfl) (by rw [← hwd]; exact hxd) (fun hHeld => ?_)
   rw [← hwd] at hHeld ⊢
   clear hwd hxd X4 HB
   have X4 := Y4
   have HB := YB
   clear Y4 YB
   refine wpAnyH_take (i := 0) (oi := { dst := some 24, op := Op.build 25 #[], type := 25, pos := "ref.go:241", after := #[], guard := none }) (v := ?_) rfl (by kernel_rfl) (by kernel_rfl) (by kernel_rfl) (fun _ _ _ h => h) (Or.inl ⟨by rfl, ?hy⟩) (by assumption) ?_
   case hy =>
    intro w0 hSw
    obtain ⟨⟨h0, -⟩, ⟨h1, -⟩, ⟨h2, -⟩, ⟨h3, -⟩, ⟨h4, -⟩, h5, -⟩ := cells6 hSw
    clear hSw
    go_simp
    (first | done | with_reducible rfl)
   try simp only [Act.put, List.setIfInBounds_toArray, List.set_cons_zero, List.set_cons_succ]
   refine wpAnyH_take (i := 1) (oi := { dst := some 25, op := Op.fieldAddr 140 (Operand.tmp 7) 1, type := 0, pos := "ref.go:241", after := #[{ on := 5, ground := Ground.gcOnly Departure.lateStores }], guard := none }) (v := ?_) rfl (by kernel_rfl) (by kernel_rfl) (by kernel_rfl) (fun _ _ _ h => h) (Or.inl ⟨by rfl, ?hy⟩) (by assumption) ?_
   case hy =>
    intro w0 hSw
    obtain ⟨⟨h0, -⟩, ⟨h1, -⟩, ⟨h2, -⟩, ⟨h3, -⟩, ⟨h4, -⟩, h5, -⟩ := cells6 hSw
    clear hSw
    go_simp
    (first | done | with_reducible rfl)
   try simp only [Act.put, List.setIfInBounds_toArray, List.set_cons_zero, List.set_cons_succ]
   refine wpAnyH_take (i := 2) (oi := { dst := some 26, op := Op.load 3 (Operand.tmp 25), type := 3, pos := "ref.go:241", after := #[{ on := 1, ground := Ground.data }, { on := 5, ground := Ground.gcOnly Departure.lateStores }], guard := none }) (v := ?_) rfl (by kernel_rfl) (by kernel_rfl) (by kernel_rfl) (fun _ _ _ h => h) (Or.inl ⟨by rfl, ?hy⟩) (by assumption) ?_
   case hy =>
    intro w0 hSw
    obtain ⟨⟨h0, -⟩, ⟨h1, -⟩, ⟨h2, -⟩, ⟨h3, -⟩, ⟨h4, -⟩, h5, -⟩ := cells6 hSw
    clear hSw
    go_simp
    (first | done | with_reducible rfl)
   try simp only [Act.put, List.setIfInBounds_toArray, List.set_cons_zero, List.set_cons_succ]
   refine wpAnyH_take (i := 3) (oi := { dst := some 27, op := Op.fieldAddr 140 (Operand.tmp 7) 2, type := 0, pos := "ref.go:241", after := #[{ on := 6, ground := Ground.gcOnly Departure.lateStores }], guard := none }) (v := ?_) rfl (by kernel_rfl) (by kernel_rfl) (by kernel_rfl) (fun _ _ _ h => h) (Or.inl ⟨by rfl, ?hy⟩) (by assumption) ?_
   case hy =>
    intro w0 hSw
    obtain ⟨⟨h0, -⟩, ⟨h1, -⟩, ⟨h2, -⟩, ⟨h3, -⟩, ⟨h4, -⟩, h5, -⟩ := cells6 hSw
    clear hSw
    go_simp
    (first | done | with_reducible rfl)
   try simp only [Act.put, List.setIfInBounds_toArray, List.set_cons_zero, List.set_cons_succ]
   refine wpAnyH_take (i := 4) (oi := { dst := some 28, op := Op.load 3 (Operand.tmp 27), type := 3, pos := "ref.go:241", after := #[{ on := 3, ground := Ground.data }, { on := 6, ground := Ground.gcOnly Departure.lateStores }], guard := none }) (v := ?_) rfl (by kernel_rfl) (by kernel_rfl) (by kernel_rfl) (fun _ _ _ h => h) (Or.inl ⟨by rfl, ?hy⟩) (by assumption) ?_
   case hy =>
    intro w0 hSw
    obtain ⟨⟨h0, -⟩, ⟨h1, -⟩, ⟨h2, -⟩, ⟨h3, -⟩, ⟨h4, -⟩, h5, -⟩ := cells6 hSw
    clear hSw
    go_simp
    (first | done | with_reducible rfl)
   try simp only [Act.put, List.setIfInBounds_toArray, List.set_cons_zero, List.set_cons_succ]
   refine wpAnyH_ready (rs := [5]) (by kernel_rfl) (by simp) ?_
   refine AllReadyH.cons (o := { dst := none, op := Op.store 25 (Operand.tmp 4) (Operand.tmp 24), type := 0, pos := "ref.go:241", after := #[{ on := 0, ground := Ground.data }, { on := 0, ground := Ground.phase }, { on := 1, ground := Ground.textOnly Departure.lateStores }, { on := 2, ground := Ground.textOnly Departure.lateStores }, { on := 3, ground := Ground.textOnly Departure.lateStores }, { on := 4, ground := Ground.textOnly Departure.lateStores }], guard := none }) rfl (fun K hK => ?_) AllReadyH.nil
   obtain ⟨⟨v0, vz0⟩, ⟨v1, vz1⟩, ⟨v2, vz2⟩, v3, vz3⟩ := cells4 X4.out
   go_simp
   clear v0 vz0 v1 vz1 v2 vz2 v3 vz3
   refine hK.out _ _ ((sets4_far n74).trans hHeld) (fun hHeld => ?_)
   clear hK K
   try simp only [Act.put, List.setIfInBounds_toArray, List.set_cons_zero, List.set_cons_succ]
   refine wpAnyH_take (i := 6) (oi := { dst := some 5, op := Op.assign (Operand.tmp 26), type := 3, pos := "ref.go:241", after := #[{ on := 2, ground := Ground.data }, { on := 5, ground := Ground.chain }, { on := 0, ground := Ground.phase }, { on := 1, ground := Ground.phase }, { on := 2, ground := Ground.phase }, { on := 3, ground := Ground.textOnly Departure.lateStores }, { on := 4, ground := Ground.textOnly Departure.lateStores }, { on := 5, ground := Ground.phase }], guard := none }) (v := ?_) rfl (by kernel_rfl) (by kernel_rfl) (by kernel_rfl) (fun _ _ _ h => h) (Or.inl ⟨by rfl, ?hy⟩) (by assumption) ?_
   case hy =>
    intro w0 hSw
    obtain ⟨⟨h0, -⟩, ⟨h1, -⟩, ⟨h2, -⟩, ⟨h3, -⟩, ⟨h4, -⟩, h5, -⟩ := cells6 hSw
    clear hSw
    go_simp
    (first | done | with_reducible rfl)
   try simp only [Act.put, List.setIfInBounds_toArray, List.set_cons_zero, List.set_cons_succ]
   refine wpAnyH_take (i := 7) (oi := { dst := some 6, op := Op.assign (Operand.tmp 28), type := 3, pos := "ref.go:241", after := #[{ on := 4, ground := Ground.data }, { on := 6, ground := Ground.chain }, { on := 0, ground := Ground.phase }, { on := 1, ground := Ground.phase }, { on := 2, ground := Ground.phase }, { on := 3, ground := Ground.phase }, { on := 4, ground := Ground.phase }, { on := 5, ground := Ground.phase }, { on := 6, ground := Ground.phase }], guard := none }) (v := ?_) rfl (by kernel_rfl) (by kernel_rfl) (by kernel_rfl) (fun _ _ _ h => h) (Or.inl ⟨by rfl, ?hy⟩) (by assumption) ?_
   case hy =>
    intro w0 hSw
    obtain ⟨⟨h0, -⟩, ⟨h1, -⟩, ⟨h2, -⟩, ⟨h3, -⟩, ⟨h4, -⟩, h5, -⟩ := cells6 hSw
    clear hSw
    go_simp
    (first | done | with_reducible rfl)
   try simp only [Act.put, List.setIfInBounds_toArray, List.set_cons_zero, List.set_cons_succ]
   refine wpAnyH_done (by kernel_rfl) ?_ _
   clear hHeld
   go_wp2_with fail
   obtain ⟨WW, hWW⟩ : ∃ WW, WW = ((((wd.setCell ⟨b4, 0, none⟩ (.int .i64 0)).setCell ⟨b4, 1, none⟩ (.int .i64 0)).setCell ⟨b4, 2, none⟩ (.string ⟨#[]⟩)).setCell ⟨b4, 3, none⟩ (.slice none 0 0)) := ⟨_, rfl⟩
   have hrow : WW.heap[b4]? = some (.cells #[.int .i64 0, .int .i64 0, .string ⟨#[]⟩, .slice none 0 0] 25 (0, 0)) := by rw [hWW]; exact res4 X4.out
   have HBF : Hid (Below w.heap.size w WW) := by
    show Below _ _ _
    rw [hWW]
    have hb : w.heap.size ≤ b4 := by rw [HBQ.out]; exact Nat.le_refl _
    exact (((((Only.of_below (F := fun q => w.heap.size ≤ q) HB.out).setF hb _).setF hb _).setF hb _).setF hb _).below (fun q h => h) (Nat.le_refl _)
   rw [← hWW]
   clear hWW
   refine bodyPost_ret (rtake_results _ b4 _ _ _ _ _ _ _ rfl rfl rfl hrow) rfl ?_
   rw [HRE2.out]
   exact ⟨none, 0, rfl, TmVS.leaf (Nat.zero_le _), HBF.out⟩
 · obtain ⟨A', c', rfl, hV, hb2⟩ := gq_ok.1 hq
   have HGT := Lib.hid (HGD.out _ _ rfl)
   obtain ⟨n2, hn2⟩ : ∃ m, m = t.kids.length := ⟨_, rfl⟩
   rw [← hn2]
   have HRE2 : Hid (F = TkQ l w (if t.check = 0 then (t, j, 0) else (zeroTm, i, t.check))) := HRE.out
   obtain ⟨b7, hb7⟩ : ∃ b, b = w2.heap.size := ⟨_, rfl⟩
   obtain ⟨w3, hw3⟩ : ∃ x, x = w2.alloc (.cells #[.int .i64 t.op, .int .i64 t.num, .string t.name, .slice A' n2 c', .int .i64 (j : Nat), .int .i64 0] 140) := ⟨_, rfl⟩
   have X7 : Hid (w3.heap[b7]? = some (.cells #[.int .i64 t.op, .int .i64 t.num, .string t.name, .slice A' n2 c', .int .i64 (j : Nat), .int .i64 0] 140 (0, 0))) := by show _ = _; rw [hw3, hb7]; exact heap_alloc_new w2 _
   have hal : Below w2.heap.size w2 w3 := by rw [hw3]; exact (Below.refl _ _).alloc (Nat.le_refl _) _
   have n74 : b7 ≠ b4 := by have := hb2.size; omega
   have Y4 := Lib.hid ((hal.block b4 (by have := hb2.size; omega)).trans ((hb2.block b4 (by omega)).trans X4.out))
   have YB := Lib.hid (HB.out.trans ((hb2.mono (by omega)).trans (hal.mono (by have := hb2.size; omega))))
   have hs7 : b7 < w3.heap.size := lt_of_heap X7.out
   have Qw3 := Lib.hid hw3
   have Qb7 := Lib.hid hb7
   have hV3 : TmVS (fun q => w1.heap.size ≤ q) w3 A' c' t := hV.keep (KeepS.of_below hal) (fun _ _ h => h)
   have hck := rcheck_any t A' c' w3 hV3.toV (by have h1 := HGT.out.sz; have h2 := HGT.out.ij; have h3 := HGT.out.jl; rw [← HN.out] at h3; omega)
   unfold Tm.val at hck
   rw [← hn2] at hck
   have HCK := Lib.hid hck
   have HV3 := Lib.hid hV3
   have HN2 := Lib.hid hn2
   clear hq hV hb2 hal hw3 hb7 X4 HB HC hV3 hck hn2
   have X4 := Y4
   have HB := YB
   clear Y4 YB
   go_wp2_with fail
   rw [← Qw3.out, ← Qb7.out]
   obtain ⟨⟨u0, uz0⟩, ⟨u1, uz1⟩, ⟨u2, uz2⟩, ⟨u3, uz3⟩, ⟨u4, uz4⟩, u5, uz5⟩ := cells6 X7.out
   try go_wp2_with fail
   refine (HCK.out).mono ?_
   rintro e w4 ⟨rfl, hb4c⟩
   have hs4 := hb4c.size
   have Y7 := Lib.hid ((hb4c.block b7 hs7).trans X7.out)
   have Y4 := Lib.hid ((hb4c.block b4 (lt_of_heap X4.out)).trans X4.out)
   have YB := Lib.hid (HB.out.trans (hb4c.mono HB.out.size))
   have HV4 : Hid (TmVS (fun q => w1.heap.size ≤ q) w4 A' c' t) := HV3.out.keep (KeepS.of_below hb4c) (fun _ _ h => h)
   clear u0 uz0 u1 uz1 u2 uz2 u3 uz3 u4 uz4 u5 uz5
   clear X7 X4 HB HCK hb4c
   have X7 := Y7
   have X4 := Y4
   have HB := YB
   clear Y7 Y4 YB
   by_cases hz : t.check = 0
   · rw [hz]
     have HRE3 : Hid (F = TkQ l w (t, j, 0)) := by show _ = _; rw [HRE2.out, if_pos hz]
     clear hz
     go_wp2_with fail
     obtain ⟨wd, hwd⟩ : ∃ wd, wd = w4.drew := ⟨_, rfl⟩
     have hxd : wd.heap[b7]? = some (.cells #[.int .i64 t.op, .int .i64 t.num, .string t.name, .slice A' n2 c', .int .i64 (j : Nat), .int .i64 0] 140 (0, 0)) := by rw [hwd]; exact X7.out
     have Y4 : Hid (wd.heap[b4]? = some (.cells #[.int .i64 0, .int .i64 0, .string ⟨#[]⟩, .slice none 0 0] 25 (0, 0))) := by show _ = _; rw [hwd]; exact X4.out
     have YB : Hid (Below w.heap.size w wd) := by show Below _ _ _; rw [hwd]; exact HB.out.drew
     have HVd : Hid (TmVS (fun q => w1.heap.size ≤ q) wd A' c' t) := by show TmVS _ _ _ _ _; rw [hwd]; exact HV4.out.keep ⟨Nat.le_refl _, fun _ _ _ => rfl⟩ (fun _ _ h => h)
     refine wp_region_held_drew (S := fun w' => w'.heap[b7]? = some (.cells #[.int .i64 t.op, .int .i64 t.num, .string t.name, .slice A' n2 c', .int .i64 (j : Nat), .int .i64 0] 140 (0, 0))) (by kernel_rfl) (by rw [← hwd]; exact hxd) (fun hHeld => ?_)
     rw [← hwd] at hHeld ⊢
     clear hwd hxd X4 HB
     have X4 := Y4
     have HB := YB
     clear Y4 YB
     refine wpAnyH_take (i := 0) (oi := { dst := some 37, op := Op.fieldAddr 140 (Operand.tmp 7) 0, type := 0, pos := "ref.go:246", after := #[], guard := none }) (v := ?_) rfl (by kernel_rfl) (by kernel_rfl) (by kernel_rfl) (fun _ _ _ h => h) (Or.inl ⟨by rfl, ?hy⟩) (by assumption) ?_
     case hy =>
      intro w0 hSw
      obtain ⟨⟨h0, -⟩, ⟨h1, -⟩, ⟨h2, -⟩, ⟨h3, -⟩, ⟨h4, -⟩, h5, -⟩ := cells6 hSw
      clear hSw
      go_simp
      (first | done | with_reducible rfl)
     try simp only [Act.put, List.setIfInBounds_toArray, List.set_cons_zero, List.set_cons_succ]
     refine wpAnyH_take (i := 1) (oi := { dst := some 38, op := Op.load 25 (Operand.tmp 37), type := 25, pos := "ref.go:246", after := #[{ on := 0, ground := Ground.data }], guard := none }) (v := ?_) rfl (by kernel_rfl) (by kernel_rfl) (by kernel_rfl) (fun _ _ _ h => h) (Or.inl ⟨by rfl, ?hy⟩) (by assumption) ?_
     case hy =>
      intro w0 hSw
      obtain ⟨⟨h0, -⟩, ⟨h1, -⟩, ⟨h2, -⟩, ⟨h3, -⟩, ⟨h4, -⟩, h5, -⟩ := cells6 hSw
      clear hSw
      go_simp
      (first | done | with_reducible rfl)
     try simp only [Act.put, List.setIfInBounds_toArray, List.set_cons_zero, List.set_cons_succ]
     refine wpAnyH_take (i := 2) (oi := { dst := some 39, op := Op.fieldAddr 140 (Operand.tmp 7) 1, type := 0, pos := "ref.go:246", after := #[{ on := 4, ground := Ground.gcOnly Departure.lateStores }], guard := none }) (v := ?_) rfl (by kernel_rfl) (by kernel_rfl) (by kernel_rfl) (fun _ _ _ h => h) (Or.inl ⟨by rfl, ?hy⟩) (by assumption) ?_
     case hy =>
      intro w0 hSw
      obtain ⟨⟨h0, -⟩, ⟨h1, -⟩, ⟨h2, -⟩, ⟨h3, -⟩, ⟨h4, -⟩, h5, -⟩ := cells6 hSw
      clear hSw
      go_simp
      (first | done | with_reducible rfl)
     try simp only [Act.put, List.setIfInBounds_toArray, List.set_cons_zero, List.set_cons_succ]
     refine wpAnyH_take (i := 3) (oi := { dst := some 40, op := Op.load 3 (Operand.tmp 39), type := 3, pos := "ref.go:246", after := #[{ on := 2, ground := Ground.data }, { on := 4, ground := Ground.gcOnly Departure.lateStores }], guard := none }) (v := ?_) rfl (by kernel_rfl) (by kernel_rfl) (by kernel_rfl) (fun _ _ _ h => h) (Or.inl ⟨by rfl, ?hy⟩) (by assumption) ?_
     case hy =>
      intro w0 hSw
      obtain ⟨⟨h0, -⟩, ⟨h1, -⟩, ⟨h2, -⟩, ⟨h3, -⟩, ⟨h4, -⟩, h5, -⟩ := cells6 hSw
      clear hSw
      go_simp
      (first | done | with_reducible rfl)
     try simp only [Act.put, List.setIfInBounds_toArray, List.set_cons_zero, List.set_cons_succ]
     refine wpAnyH_ready (rs := [4]) (by kernel_rfl) (by simp) ?_
     refine AllReadyH.cons (o := { dst := none, op := Op.store 25 (Operand.tmp 4) (Operand.tmp 38), type := 0, pos := "ref.go:246", after := #[{ on := 1, ground := Ground.data }, { on := 0, ground := Ground.phase }, { on := 1, ground := Ground.phase }, { on := 2, ground := Ground.textOnly Departure.lateStores }, { on := 3, ground := Ground.textOnly Departure.lateStores }], guard := none }) rfl (fun K hK => ?_) AllReadyH.nil
     obtain ⟨⟨v0, vz0⟩, ⟨v1, vz1⟩, ⟨v2, vz2⟩, v3, vz3⟩ := cells4 X4.out
     go_simp
     clear v0 vz0 v1 vz1 v2 vz2 v3 vz3
     refine hK.out _ _ ((sets4_far n74).trans hHeld) (fun hHeld => ?_)
     clear hK K
     try simp only [Act.put, List.setIfInBounds_toArray, List.set_cons_zero, List.set_cons_succ]
     refine wpAnyH_take (i := 5) (oi := { dst := some 5, op := Op.assign (Operand.tmp 40), type := 3, pos := "ref.go:246", after := #[{ on := 3, ground := Ground.data }, { on := 4, ground := Ground.chain }, { on := 0, ground := Ground.phase }, { on := 1, ground := Ground.phase }, { on := 2, ground := Ground.phase }, { on := 3, ground := Ground.phase }, { on := 4, ground := Ground.phase }], guard := none }) (v := ?_) rfl (by kernel_rfl) (by kernel_rfl) (by kernel_rfl) (fun _ _ _ h => h) (Or.inl ⟨by rfl, ?hy⟩) (by assumption) ?_
     case hy =>
      intro w0 hSw
      obtain ⟨⟨h0, -⟩, ⟨h1, -⟩, ⟨h2, -⟩, ⟨h3, -⟩, ⟨h4, -⟩, h5, -⟩ := cells6 hSw
      clear hSw
      go_simp
      (first | done | with_reducible rfl)
     try simp only [Act.put, List.setIfInBounds_toArray, List.set_cons_zero, List.set_cons_succ]
     refine wpAnyH_take (i := 6) (oi := { dst := some 6, op := Op.assign (Operand.const (Value.int IntKind.i64 0)), type := 3, pos := "ref.go:246", after := #[{ on := 5, ground := Ground.chain }, { on := 0, ground := Ground.phase }, { on := 1, ground := Ground.phase }, { on := 2, ground := Ground.phase }, { on := 3, ground := Ground.phase }, { on := 4, ground := Ground.phase }, { on := 5, ground := Ground.phase }], guard := none }) (v := ?_) rfl (by kernel_rfl) (by kernel_rfl) (by kernel_rfl) (fun _ _ _ h => h) (Or.inl ⟨by rfl, ?hy⟩) (by assumption) ?_
     case hy =>
      intro w0 hSw
      obtain ⟨⟨h0, -⟩, ⟨h1, -⟩, ⟨h2, -⟩, ⟨h3, -⟩, ⟨h4, -⟩, h5, -⟩ := cells6 hSw
      clear hSw
      go_simp
      (first | done | with_reducible rfl)
     try simp only [Act.put, List.setIfInBounds_toArray, List.set_cons_zero, List.set_cons_succ]
     refine wpAnyH_done (by kernel_rfl) ?_ _
     clear hHeld
     go_wp2_with fail
     obtain ⟨WW, hWW⟩ : ∃ WW, WW = ((((wd.setCell ⟨b4, 0, none⟩ (.int .i64 t.op)).setCell ⟨b4, 1, none⟩ (.int .i64 t.num)).setCell ⟨b4, 2, none⟩ (.string t.name)).setCell ⟨b4, 3, none⟩ (.slice A' n2 c')) := ⟨_, rfl⟩
     have hrow : WW.heap[b4]? = some (.cells #[.int .i64 t.op, .int .i64 t.num, .string t.name, .slice A' n2 c'] 25 (0, 0)) := by rw [hWW]; exact res4 X4.out
     have HBF : Hid (Below w.heap.size w WW) := by
      show Below _ _ _
      rw [hWW]
      have hb : w.heap.size ≤ b4 := by rw [HBQ.out]; exact Nat.le_refl _
      exact (((((Only.of_below (F := fun q => w.heap.size ≤ q) HB.out).setF hb _).setF hb _).setF hb _).setF hb _).below (fun q h => h) (Nat.le_refl _)
     have HVF : Hid (TmVS (fun q => w.heap.size ≤ q) WW A' c' t) := by
      show TmVS _ _ _ _ _
      rw [hWW]
      exact HVd.out.keep ((((KeepS.refl.set (by omega) _).set (by omega) _).set (by omega) _).set (by omega) _) (fun q _ h => by have := HBQ.out; omega)
     rw [← hWW]
     clear hWW
     refine bodyPost_ret (rtake_results _ b4 _ _ _ _ _ _ _ rfl rfl rfl hrow) rfl ?_
     rw [HRE3.out]
     exact ⟨A', c', by unfold Tm.val; rw [← HN2.out]; rfl, HVF.out, HBF.out⟩
   · have hzb : (t.check != 0) = true := by simpa using hz
     have HRE3 : Hid (F = TkQ l w (zeroTm, i, t.check)) := by show _ = _; rw [HRE2.out, if_neg hz]
     obtain ⟨ck, hck⟩ : ∃ z, z = t.check := ⟨_, rfl⟩
     rw [← hck] at hzb HRE3 ⊢
     clear hz hck
     obtain ⟨⟨v0, vz0⟩, ⟨v1, vz1⟩, ⟨v2, vz2⟩, v3, vz3⟩ := cells4 X4.out
     go_wp2_with fail
     clear v0 vz0 v1 vz1 v2 vz2 v3 vz3
     obtain ⟨WW, hWW⟩ : ∃ WW, WW = ((((w4.setCell ⟨b4, 0, none⟩ (.int .i64 0)).setCell ⟨b4, 1, none⟩ (.int .i64 0)).setCell ⟨b4, 2, none⟩ (.string ⟨#[]⟩)).setCell ⟨b4, 3, none⟩ (.slice none 0 0)) := ⟨_, rfl⟩
     have hrow : WW.heap[b4]? = some (.cells #[.int .i64 0, .int .i64 0, .string ⟨#[]⟩, .slice none 0 0] 25 (0, 0)) := by rw [hWW]; exact res4 X4.out
     have HBF : Hid (Below w.heap.size w WW) := by
      show Below _ _ _
      rw [hWW]
      have hb : w.heap.size ≤ b4 := by rw [HBQ.out]; exact Nat.le_refl _
      exact (((((Only.of_below (F := fun q => w.heap.size ≤ q) HB.out).setF hb _).setF hb _).setF hb _).setF hb _).below (fun q h => h) (Nat.le_refl _)
     rw [← hWW]
     clear hWW
     refine bodyPost_ret (rtake_results _ b4 _ _ _ _ _ _ _ rfl rfl rfl hrow) rfl ?_
     rw [HRE3.out]
     exact ⟨none, 0, rfl, TmVS.leaf (Nat.zero_le _), HBF.out⟩
end Go.Proofs.YtnbphgeepnknlaaGreatDoor
