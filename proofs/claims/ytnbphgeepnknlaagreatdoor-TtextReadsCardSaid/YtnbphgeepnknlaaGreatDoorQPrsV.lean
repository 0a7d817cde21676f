/- Walk: ttext's Parse. -/
import Derived.Test.YtnbphgeepnknlaaGreatDoorQPrsU
import Derived.Test.YtnbphgeepnknlaaGreatDoorQAllP
namespace Go.Proofs.YtnbphgeepnknlaaGreatDoor
open Go.RowKit
set_option linter.unusedVariables false

/-- What Parse leaves. -/
def PaQ (w : World) (r : Tm × Int × Int) (e : Ending) (w' : World) : Prop := ∃ A' c', e = .returned (.tuple #[r.1.val A' c', .int .i64 r.2.1, .int .i64 r.2.2]) ∧ TmVS (fun q => w.heap.size ≤ q) w' A' c' r.1 ∧ Below w.heap.size w w'
theorem tokIn_of_own {w : World} {B : Nat} {v : Value} {l : List Tok} (hB : 0 < l.length ∨ True) (h : w.ownsRow B 72 4 v l.length (flat l)) (hok : ∀ t ∈ l, TokOk t) (hs : txts l ≤ 65536) : ∃ A c, v = .slice A l.length c ∧ TokIn w A c l := by
 have hlen := txts_len hok
 have htx : ∀ t ∈ l, t.text.length ≤ 100000 := fun t ht => by have := txts_mem ht; omega
 have hrg : ∀ t ∈ l, -1000000 ≤ t.n ∧ t.n ≤ 1000000 := fun t ht => by have h1 := (hok t ht).n0; have h2 := (hok t ht).n1; omega
 rcases h.2 with ⟨h1, h2⟩ | ⟨g, cap, cur, hv, hb, hg, hnc, hcm, hcs, htk⟩
 · exact ⟨none, 0, by rw [h1, h2], ⟨.inl (List.length_eq_zero_iff.1 h2), by omega, by unfold maxLen; omega, by omega, htx, hrg, fun a ha => by cases ha⟩⟩
 · refine ⟨some ⟨g, 0, none⟩, cap, hv, ⟨.inr ⟨g, 0, rfl, lt_of_heap hg, fun k z hz j hj => ?_⟩, hnc, hcm, by omega, htx, hrg, fun a ha => by cases ha; exact lt_of_heap hg⟩⟩
   have hc := h.cells (g := g) (by rw [hv]; rfl) (k * 4 + j) (tokV z j) (flat_get hz hj)
   rw [addr_add] at hc
   rw [Nat.zero_add] at hc ⊢
   exact hc
theorem parse_results (tm : Array Value) (b2 : Nat) (z1 z2 : Value) (u0 u1 u2 u3 : Value) (w : World) (h2 : tm[2]? = some (.pointer (some ⟨b2, 0, none⟩))) (h3 : tm[3]? = some z1) (h4 : tm[4]? = some z2) (h : w.heap[b2]? = some (.cells #[u0, u1, u2, u3] 25 (0, 0))) :
 (results Tryz.f13 tm).run Tryz.prog w = .ok (.tuple #[.agg #[u0, u1, u2, u3], z1, z2]) w := by
 obtain ⟨⟨y0, -⟩, ⟨y1, -⟩, ⟨y2, -⟩, y3, -⟩ := cells4 h
 unfold results
 rw [Tryz.results13]
 simp only [Array.getD_eq_getD_getElem?]
 simp [h2, h3, h4, go_sem, y0, y1, y2, y3]
set_option maxRecDepth 100000 in
set_option maxHeartbeats 8000000 in
theorem pparse_any (s : ByteArray) (w : World) (hs : s.size ≤ maxLen) (hT : Tables w) :
 Calls Tryz.prog 13 #[.string s] w (PaQ w (parseT (bs s))) := by
 have hs' := hs
 unfold maxLen at hs'
 obtain ⟨F, hF⟩ : ∃ F, F = PaQ w (parseT (bs s)) := ⟨_, rfl⟩
 rw [← hF]
 obtain ⟨b2, hb2⟩ : ∃ b2, b2 = w.heap.size := ⟨_, rfl⟩
 obtain ⟨w1, hw1⟩ : ∃ w1, w1 = w.alloc (.cells #[.int .i64 0, .int .i64 0, .string ⟨#[]⟩, .slice none 0 0] 25) := ⟨_, rfl⟩
 have hb1 : Below w.heap.size w w1 := by rw [hw1]; exact (Below.refl _ _).alloc (Nat.le_refl _) _
 have hs1 : w1.heap.size = b2 + 1 := by rw [hw1, hb2]; simp
 have hx1 : w1.heap[b2]? = some (.cells #[.int .i64 0, .int .i64 0, .string ⟨#[]⟩, .slice none 0 0] 25 (0, 0)) := by rw [hw1, hb2]; exact heap_alloc_new w _
 have hall := all_any s w1 hs (hT.below hb1)
 have hok := all_ok (bs s)
 obtain ⟨l, hl⟩ : ∃ l, l = (all (bs s)).1 := ⟨_, rfl⟩
 obtain ⟨z1, hz1⟩ : ∃ z, z = (all (bs s)).2.1 := ⟨_, rfl⟩
 obtain ⟨z2, hz2⟩ : ∃ z, z = (all (bs s)).2.2 := ⟨_, rfl⟩
 have HRE : Hid (F = PaQ w (if z2 ≠ 0 then (zeroTm, z1, z2) else if (takeT l 0).2.2 ≠ 0 then (zeroTm, atOf l (bs s).length (takeT l 0).2.1, (takeT l 0).2.2) else if (takeT l 0).2.1 < l.length then (zeroTm, atOf l (bs s).length (takeT l 0).2.1, 16) else ((takeT l 0).1, (bs s).length, 0))) := by
  show _ = _
  rw [hF, hl, hz1, hz2]
  rfl
 rw [← hl, ← hz1, ← hz2] at hall
 rw [← hl] at hok
 have HALL := Lib.hid hall
 have HOK := Lib.hid hok
 have HW1 := Lib.hid hw1
 have HB1 := Lib.hid hb1
 have HX1 := Lib.hid hx1
 have HB2 := Lib.hid hb2
 have HSZ : Hid ((bs s).length = s.size) := bs_length s
 clear hF hw1 hb1 hx1 hall hok hl hz1 hz2 hT hb2
 go_enter Tryz.func13, Tryz.ntmps13
 go_wp2_with fail
 rw [← HW1.out, ← HB2.out]
 refine (HALL.out).mono ?_
 rintro e w2 ⟨v, rfl, hown, hb2'⟩
 have hx2 := (hb2'.block b2 (by omega)).trans HX1.out
 have HBW := Lib.hid (HB1.out.trans (hb2'.mono (by have := HB2.out; omega)))
 have hsz2 := hb2'.size
 have hB2w := HB2.out
 have hge : ∀ q, v.ownBlock = some q → w1.heap.size ≤ q := fun q hq => (hown.lt q hq).1
 obtain ⟨A, c, hv, hTI⟩ := tokIn_of_own (.inr trivial) hown HOK.out.1 HOK.out.2.2
 obtain ⟨n, hn⟩ : ∃ n, n = l.length := ⟨_, rfl⟩
 have TOKOLD : Hid (∀ a, A = some a → w1.heap.size ≤ a.block) := fun a ha => hge a.block (by rw [hv, ha]; rfl)
 rw [hv, ← hn]
 clear hge
 have HX2 := Lib.hid hx2
 have HTI := Lib.hid hTI
 have HN := Lib.hid hn
 have HB2W := Lib.hid hB2w
 have hbl : b2 < w2.heap.size := by omega
 clear hx2 hTI hown hv hn hb2' hB2w
 by_cases hz : z2 = 0
 · have HRE2 : Hid (F = PaQ w (if (takeT l 0).2.2 ≠ 0 then (zeroTm, atOf l (bs s).length (takeT l 0).2.1, (takeT l 0).2.2) else if (takeT l 0).2.1 < l.length then (zeroTm, atOf l (bs s).length (takeT l 0).2.1, 16) else ((takeT l 0).1, (bs s).length, 0))) := by show _ = _; rw [HRE.out, if_neg (by simpa using hz)]
   rw [hz]
   have htk := ptake_any l A c 0 w2 (Nat.zero_le _) HTI.out
   rw [← HN.out] at htk
   obtain ⟨r, hr⟩ : ∃ r, r = takeT l 0 := ⟨_, rfl⟩
   rw [← hr] at htk
   obtain ⟨t, j, x⟩ := r
   have HRE3 : Hid (F = PaQ w (if x ≠ 0 then (zeroTm, atOf l (bs s).length j, x) else if j < l.length then (zeroTm, atOf l (bs s).length j, 16) else (t, (bs s).length, 0))) := by show _ = _; rw [HRE2.out, ← hr]
   have HTK := Lib.hid htk
   obtain ⟨⟨y0, p0⟩, ⟨y1, p1⟩, ⟨y2, p2⟩, y3, p3⟩ := cells4 HX2.out
   clear hz HRE HRE2 hr htk
   go_wp2_with fail
   refine (HTK.out).mono ?_
   rintro e w3 ⟨A', c', rfl, hV, hb3⟩
   obtain ⟨n2, hn2⟩ : ∃ n2, n2 = t.kids.length := ⟨_, rfl⟩
   have HN2 := Lib.hid hn2
   have hval : t.val A' c' = .agg #[.int .i64 t.op, .int .i64 t.num, .string t.name, .slice A' n2 c'] := by unfold Tm.val; rw [hn2]
   simp only [hval]
   have HX3 := Lib.hid ((hb3.block b2 hbl).trans HX2.out)
   have HV := Lib.hid hV
   have hsz3 := hb3.size
   have HB3 := Lib.hid (HBW.out.trans (hb3.mono (by have := HBW.out.size; omega)))
   have HTI3 : Hid (ToksAt w3 A l) := HTI.out.toks.belowB hb3 rfl
   have HOLD := Lib.hid HTI.out.old
   clear y0 y1 y2 y3 p0 p1 p2 p3 hn2 hval hV hb3 HTK
   obtain ⟨⟨y0, p0⟩, ⟨y1, p1⟩, ⟨y2, p2⟩, y3, p3⟩ := cells4 HX3.out
   obtain ⟨w3s, hw3s⟩ : ∃ w3s, w3s = (((w3.setCell ⟨b2, 0, none⟩ (.int .i64 t.op)).setCell ⟨b2, 1, none⟩ (.int .i64 t.num)).setCell ⟨b2, 2, none⟩ (.string t.name)).setCell ⟨b2, 3, none⟩ (.slice A' n2 c') := ⟨_, rfl⟩
   have hbw2 : w.heap.size ≤ b2 := by rw [HB2.out]; exact Nat.le_refl _
   have HX4 : Hid (w3s.heap[b2]? = some (.cells #[.int .i64 t.op, .int .i64 t.num, .string t.name, .slice A' n2 c'] 25 (0, 0))) := by show _ = _; rw [hw3s]; exact res4 HX3.out
   have HB4 : Hid (Below w.heap.size w w3s) := by
    show Below _ _ _
    rw [hw3s]
    exact (((((Only.of_below (F := fun q => w.heap.size ≤ q) HB3.out).setF hbw2 _).setF hbw2 _).setF hbw2 _).setF hbw2 _).below (fun q h => h) (Nat.le_refl _)
   have HV4 : Hid (TmVS (fun q => w2.heap.size ≤ q) w3s A' c' t) := by
    show TmVS _ _ _ _ _
    rw [hw3s]
    exact HV.out.keep ((((KeepS.refl.set (by omega) _).set (by omega) _).set (by omega) _).set (by omega) _) (fun _ _ h => h)
   have HW3S := Lib.hid hw3s
   clear hw3s
   by_cases hx : x = 0
   · subst hx
     by_cases hj : j < n
     · have hj' : (j : Int) < (n : Int) := by omega
       go_wp2_with fail
       have HRE4 : Hid (F = PaQ w (zeroTm, atOf l (bs s).length j, 16)) := by show _ = _; rw [HRE3.out, if_neg (by simp), if_pos (by rw [← HN.out]; exact hj)]
       obtain ⟨tk, htk⟩ : ∃ tk, l[j]? = some tk := ⟨_, List.getElem?_eq_getElem (by have := HN.out; omega)⟩
       obtain ⟨bg, off, rfl, hbg3, hcl⟩ : ∃ b off, A = some ⟨b, off, none⟩ ∧ b < w3.heap.size ∧ w3.cell? ⟨b, off + j * 4 + 3, none⟩ = some (.int .i64 tk.at_) := by
        rcases HTI3.out with h0 | ⟨b, off, h1, h2, h3⟩
        · rw [h0] at htk; simp at htk
        · exact ⟨b, off, h1, h2, h3 j tk htk 3 (by omega)⟩
       have hbg : b2 ≠ bg := by
        have h2 : w1.heap.size ≤ bg := TOKOLD.out _ rfl
        omega
       have HAT : Hid (atOf l (bs s).length j = tk.at_) := by show _ = _; unfold atOf; rw [htk]
       have hj0 : (0 : Int) ≤ (j : Int) := by omega
       clear htk y0 y1 y2 y3 p0 p1 p2 p3
       have hcl4 : w3s.cell? ⟨bg, off + j * 4 + 3, none⟩ = some (.int .i64 tk.at_) := by rw [HW3S.out, World.cell?_setCell_far _ _ _ _ hbg, World.cell?_setCell_far _ _ _ _ hbg, World.cell?_setCell_far _ _ _ _ hbg, World.cell?_setCell_far _ _ _ _ hbg]; exact hcl
       rw [← HW3S.out]
       obtain ⟨w4, hw4⟩ : ∃ w4, w4 = w3s.drew := ⟨_, rfl⟩
       have HB6 : Hid (w4.heap[b2]? = some (.cells #[.int .i64 t.op, .int .i64 t.num, .string t.name, .slice A' n2 c'] 25 (0, 0))) := by show _ = _; rw [hw4]; exact HX4.out
       have HB3d : Hid (Below w.heap.size w w4) := by show Below _ _ _; rw [hw4]; exact HB4.out.drew
       refine wp_region_held_drew (S := fun w' => w'.cell? ⟨bg, off + j * 4 + 3, none⟩ = some (.int .i64 tk.at_)) (by kernel_rfl) hcl4 (fun hHeld => ?_)
       rw [← hw4] at hHeld ⊢
       clear hw4 hcl hcl4
       refine wpAnyH_take (i := 0) (oi := { dst := some 41, op := Op.build 25 #[], type := 25, pos := "ttext.go:381", after := #[], guard := none }) (v := ?_) rfl (by kernel_rfl) (by kernel_rfl) (by kernel_rfl) (fun _ _ _ h => h) (Or.inl ⟨by rfl, ?hy⟩) (by assumption) ?_
       case hy =>
        intro w0 hSw
        have e4 := hSw
        clear hSw
        go_simp
        (first | done | with_reducible rfl)
       try simp only [Act.put, List.setIfInBounds_toArray, List.set_cons_zero, List.set_cons_succ]
       refine wpAnyH_take (i := 1) (oi := { dst := some 42, op := Op.move (Operand.tmp 5), type := 67, pos := "ttext.go:381", after := #[{ on := 7, ground := Ground.gcOnly Departure.lateStores }], guard := none }) (v := ?_) rfl (by kernel_rfl) (by kernel_rfl) (by kernel_rfl) (fun _ _ _ h => h) (Or.inl ⟨by rfl, ?hy⟩) (by assumption) ?_
       case hy =>
        intro w0 hSw
        have e4 := hSw
        clear hSw
        go_simp
        (first | done | with_reducible rfl)
       try simp only [Act.put, List.setIfInBounds_toArray, List.set_cons_zero, List.set_cons_succ]
       refine wpAnyH_take (i := 2) (oi := { dst := some 43, op := Op.move (Operand.tmp 6), type := 3, pos := "ttext.go:381", after := #[{ on := 7, ground := Ground.gcOnly Departure.lateStores }], guard := none }) (v := ?_) rfl (by kernel_rfl) (by kernel_rfl) (by kernel_rfl) (fun _ _ _ h => h) (Or.inl ⟨by rfl, ?hy⟩) (by assumption) ?_
       case hy =>
        intro w0 hSw
        have e4 := hSw
        clear hSw
        go_simp
        (first | done | with_reducible rfl)
       try simp only [Act.put, List.setIfInBounds_toArray, List.set_cons_zero, List.set_cons_succ]
       refine wpAnyH_take (i := 3) (oi := { dst := some 44, op := Op.indexAddr 67 (Operand.tmp 42) (Operand.tmp 43), type := 0, pos := "ttext.go:381", after := #[{ on := 1, ground := Ground.data }, { on := 2, ground := Ground.data }, { on := 7, ground := Ground.gcOnly Departure.lateStores }], guard := none }) (v := ?_) rfl (by kernel_rfl) (by kernel_rfl) (by kernel_rfl) (fun _ _ _ h => h) (Or.inl ⟨by rfl, ?hy⟩) (by assumption) ?_
       case hy =>
        intro w0 hSw
        have e4 := hSw
        clear hSw
        go_simp
        (first | done | with_reducible rfl)
       try simp only [Act.put, List.setIfInBounds_toArray, List.set_cons_zero, List.set_cons_succ]
       refine wpAnyH_take (i := 4) (oi := { dst := some 45, op := Op.fieldAddr 72 (Operand.tmp 44) 3, type := 0, pos := "ttext.go:381", after := #[{ on := 3, ground := Ground.data }, { on := 7, ground := Ground.gcOnly Departure.lateStores }], guard := none }) (v := ?_) rfl (by kernel_rfl) (by kernel_rfl) (by kernel_rfl) (fun _ _ _ h => h) (Or.inl ⟨by rfl, ?hy⟩) (by assumption) ?_
       case hy =>
        intro w0 hSw
        have e4 := hSw
        clear hSw
        go_simp
        (first | done | with_reducible rfl)
       try simp only [Act.put, List.setIfInBounds_toArray, List.set_cons_zero, List.set_cons_succ]
       refine wpAnyH_take (i := 5) (oi := { dst := some 46, op := Op.load 3 (Operand.tmp 45), type := 3, pos := "ttext.go:381", after := #[{ on := 4, ground := Ground.data }, { on := 7, ground := Ground.gcOnly Departure.lateStores }], guard := none }) (v := ?_) rfl (by kernel_rfl) (by kernel_rfl) (by kernel_rfl) (fun _ _ _ h => h) (Or.inl ⟨by rfl, ?hy⟩) (by assumption) ?_
       case hy =>
        intro w0 hSw
        have e4 := hSw
        clear hSw
        go_simp
        (first | done | with_reducible rfl)
       try simp only [Act.put, List.setIfInBounds_toArray, List.set_cons_zero, List.set_cons_succ]
       refine wpAnyH_take (i := 6) (oi := { dst := some 47, op := Op.move (Operand.tmp 4), type := 26, pos := "ttext.go:381", after := #[{ on := 8, ground := Ground.gcOnly Departure.lateStores }], guard := none }) (v := ?_) rfl (by kernel_rfl) (by kernel_rfl) (by kernel_rfl) (fun _ _ _ h => h) (Or.inl ⟨by rfl, ?hy⟩) (by assumption) ?_
       case hy =>
        intro w0 hSw
        have e4 := hSw
        clear hSw
        go_simp
        (first | done | with_reducible rfl)
       try simp only [Act.put, List.setIfInBounds_toArray, List.set_cons_zero, List.set_cons_succ]
       refine wpAnyH_ready (rs := [7]) (by kernel_rfl) (by simp) ?_
       refine AllReadyH.cons (o := { dst := none, op := Op.store 25 (Operand.tmp 2) (Operand.tmp 41), type := 0, pos := "ttext.go:381", after := #[{ on := 0, ground := Ground.data }, { on := 0, ground := Ground.phase }, { on := 1, ground := Ground.textOnly Departure.lateStores }, { on := 2, ground := Ground.textOnly Departure.lateStores }, { on := 3, ground := Ground.textOnly Departure.lateStores }, { on := 4, ground := Ground.textOnly Departure.lateStores }, { on := 5, ground := Ground.textOnly Departure.lateStores }, { on := 6, ground := Ground.textOnly Departure.lateStores }], guard := none }) rfl (fun K hK => ?_) AllReadyH.nil
       obtain ⟨⟨y0, p0⟩, ⟨y1, p1⟩, ⟨y2, p2⟩, y3, p3⟩ := cells4 HB6.out
       go_simp
       clear y0 y1 y2 y3 p0 p1 p2 p3
       refine hK.out _ _ (by rw [World.cell?_setCell_far _ _ _ _ hbg, World.cell?_setCell_far _ _ _ _ hbg, World.cell?_setCell_far _ _ _ _ hbg, World.cell?_setCell_far _ _ _ _ hbg]; exact hHeld) (fun hHeld => ?_)
       clear hK K
       try simp only [Act.put, List.setIfInBounds_toArray, List.set_cons_zero, List.set_cons_succ]
       refine wpAnyH_take (i := 8) (oi := { dst := some 3, op := Op.assign (Operand.tmp 46), type := 3, pos := "ttext.go:381", after := #[{ on := 5, ground := Ground.data }, { on := 7, ground := Ground.chain }, { on := 0, ground := Ground.phase }, { on := 1, ground := Ground.phase }, { on := 2, ground := Ground.phase }, { on := 3, ground := Ground.phase }, { on := 4, ground := Ground.phase }, { on := 5, ground := Ground.phase }, { on := 6, ground := Ground.textOnly Departure.lateStores }, { on := 7, ground := Ground.phase }], guard := none }) (v := ?_) rfl (by kernel_rfl) (by kernel_rfl) (by kernel_rfl) (fun _ _ _ h => h) (Or.inl ⟨by rfl, ?hy⟩) (by assumption) ?_
       case hy =>
        intro w0 hSw
        have e4 := hSw
        clear hSw
        go_simp
        (first | done | with_reducible rfl)
       try simp only [Act.put, List.setIfInBounds_toArray, List.set_cons_zero, List.set_cons_succ]
       refine wpAnyH_take (i := 9) (oi := { dst := some 4, op := Op.assign (Operand.tmp 47), type := 26, pos := "ttext.go:381", after := #[{ on := 6, ground := Ground.data }, { on := 8, ground := Ground.chain }, { on := 0, ground := Ground.phase }, { on := 1, ground := Ground.phase }, { on := 2, ground := Ground.phase }, { on := 3, ground := Ground.phase }, { on := 4, ground := Ground.phase }, { on := 5, ground := Ground.phase }, { on := 6, ground := Ground.phase }, { on := 7, ground := Ground.phase }, { on := 8, ground := Ground.phase }], guard := none }) (v := ?_) rfl (by kernel_rfl) (by kernel_rfl) (by kernel_rfl) (fun _ _ _ h => h) (Or.inl ⟨by rfl, ?hy⟩) (by assumption) ?_
       case hy =>
        intro w0 hSw
        have e4 := hSw
        clear hSw
        go_simp
        (first | done | with_reducible rfl)
       try simp only [Act.put, List.setIfInBounds_toArray, List.set_cons_zero, List.set_cons_succ]
       refine wpAnyH_done (by kernel_rfl) ?_ _
       clear hHeld
       go_wp2_with fail
       obtain ⟨WW, hWW⟩ : ∃ WW, WW = (((w4.setCell ⟨b2, 0, none⟩ (.int .i64 0)).setCell ⟨b2, 1, none⟩ (.int .i64 0)).setCell ⟨b2, 2, none⟩ (.string ⟨#[]⟩)).setCell ⟨b2, 3, none⟩ (.slice none 0 0) := ⟨_, rfl⟩
       have hrow : WW.heap[b2]? = some (.cells #[.int .i64 0, .int .i64 0, .string ⟨#[]⟩, .slice none 0 0] 25 (0, 0)) := by rw [hWW]; exact res4 HB6.out
       have HBF : Hid (Below w.heap.size w WW) := by
        show Below _ _ _
        rw [hWW]
        have hb : w.heap.size ≤ b2 := by rw [HB2.out]; exact Nat.le_refl _
        exact (((((Only.of_below (F := fun q => w.heap.size ≤ q) HB3d.out).setF hb _).setF hb _).setF hb _).setF hb _).below (fun q h => h) (Nat.le_refl _)
       rw [← hWW]
       clear hWW
       refine bodyPost_ret (parse_results _ b2 _ _ _ _ _ _ _ rfl rfl rfl hrow) rfl ?_
       rw [HRE4.out, HAT.out]
       exact ⟨none, 0, rfl, TmVS.leaf (Nat.zero_le _), HBF.out⟩
     · have hj' : ¬ (j : Int) < (n : Int) := by omega
       go_wp2_with fail
       have HRE4 : Hid (F = PaQ w (t, (s.size : Int), 0)) := by show _ = _; rw [HRE3.out, if_neg (by simp), if_neg (by rw [← HN.out]; exact hj), HSZ.out]
       rw [← HW3S.out]
       obtain ⟨WW, hWW⟩ : ∃ WW, WW = (((w3s.setCell ⟨b2, 0, none⟩ (.int .i64 t.op)).setCell ⟨b2, 1, none⟩ (.int .i64 t.num)).setCell ⟨b2, 2, none⟩ (.string t.name)).setCell ⟨b2, 3, none⟩ (.slice A' n2 c') := ⟨_, rfl⟩
       have hrow : WW.heap[b2]? = some (.cells #[.int .i64 t.op, .int .i64 t.num, .string t.name, .slice A' n2 c'] 25 (0, 0)) := by rw [hWW]; exact res4 HX4.out
       have HBF : Hid (Below w.heap.size w WW) := by
        show Below _ _ _
        rw [hWW]
        have hb : w.heap.size ≤ b2 := by rw [HB2.out]; exact Nat.le_refl _
        exact (((((Only.of_below (F := fun q => w.heap.size ≤ q) HB4.out).setF hb _).setF hb _).setF hb _).setF hb _).below (fun q h => h) (Nat.le_refl _)
       have HVF : Hid (TmVS (fun q => w.heap.size ≤ q) WW A' c' t) := by
        show TmVS _ _ _ _ _
        rw [hWW]
        exact HV4.out.keep ((((KeepS.refl.set (by omega) _).set (by omega) _).set (by omega) _).set (by omega) _) (fun q _ h => by omega)
       rw [← hWW]
       clear hWW
       refine bodyPost_ret (parse_results _ b2 _ _ _ _ _ _ _ rfl rfl rfl hrow) rfl ?_
       rw [HRE4.out]
       exact ⟨A', c', by unfold Tm.val; rw [← HN2.out]; rfl, HVF.out, HBF.out⟩
   · have hxb : (x == 0) = false := by simpa using hx
     by_cases hj : j < n
     · have hj' : (j : Int) < (n : Int) := by omega
       go_wp2_with fail
       have HRE4 : Hid (F = PaQ w (zeroTm, atOf l (bs s).length j, x)) := by show _ = _; rw [HRE3.out, if_pos hx]
       obtain ⟨tk, htk⟩ : ∃ tk, l[j]? = some tk := ⟨_, List.getElem?_eq_getElem (by have := HN.out; omega)⟩
       obtain ⟨bg, off, rfl, hbg3, hcl⟩ : ∃ b off, A = some ⟨b, off, none⟩ ∧ b < w3.heap.size ∧ w3.cell? ⟨b, off + j * 4 + 3, none⟩ = some (.int .i64 tk.at_) := by
        rcases HTI3.out with h0 | ⟨b, off, h1, h2, h3⟩
        · rw [h0] at htk; simp at htk
        · exact ⟨b, off, h1, h2, h3 j tk htk 3 (by omega)⟩
       have hbg : b2 ≠ bg := by
        have h2 : w1.heap.size ≤ bg := TOKOLD.out _ rfl
        omega
       have HAT : Hid (atOf l (bs s).length j = tk.at_) := by show _ = _; unfold atOf; rw [htk]
       have hj0 : (0 : Int) ≤ (j : Int) := by omega
       clear htk y0 y1 y2 y3 p0 p1 p2 p3
       have hcl4 : w3s.cell? ⟨bg, off + j * 4 + 3, none⟩ = some (.int .i64 tk.at_) := by rw [HW3S.out, World.cell?_setCell_far _ _ _ _ hbg, World.cell?_setCell_far _ _ _ _ hbg, World.cell?_setCell_far _ _ _ _ hbg, World.cell?_setCell_far _ _ _ _ hbg]; exact hcl
       rw [← HW3S.out]
       obtain ⟨w4, hw4⟩ : ∃ w4, w4 = w3s.drew := ⟨_, rfl⟩
       have HB6 : Hid (w4.heap[b2]? = some (.cells #[.int .i64 t.op, .int .i64 t.num, .string t.name, .slice A' n2 c'] 25 (0, 0))) := by show _ = _; rw [hw4]; exact HX4.out
       have HB3d : Hid (Below w.heap.size w w4) := by show Below _ _ _; rw [hw4]; exact HB4.out.drew
       refine wp_region_held_drew (S := fun w' => w'.cell? ⟨bg, off + j * 4 + 3, none⟩ = some (.int .i64 tk.at_)) (by kernel_rfl) hcl4 (fun hHeld => ?_)
       rw [← hw4] at hHeld ⊢
       clear hw4 hcl hcl4
       refine wpAnyH_take (i := 0) (oi := { dst := some 41, op := Op.build 25 #[], type := 25, pos := "ttext.go:381", after := #[], guard := none }) (v := ?_) rfl (by kernel_rfl) (by kernel_rfl) (by kernel_rfl) (fun _ _ _ h => h) (Or.inl ⟨by rfl, ?hy⟩) (by assumption) ?_
       case hy =>
        intro w0 hSw
        have e4 := hSw
        clear hSw
        go_simp
        (first | done | with_reducible rfl)
       try simp only [Act.put, List.setIfInBounds_toArray, List.set_cons_zero, List.set_cons_succ]
       refine wpAnyH_take (i := 1) (oi := { dst := some 42, op := Op.move (Operand.tmp 5), type := 67, pos := "ttext.go:381", after := #[{ on := 7, ground := Ground.gcOnly Departure.lateStores }], guard := none }) (v := ?_) rfl (by kernel_rfl) (by kernel_rfl) (by kernel_rfl) (fun _ _ _ h => h) (Or.inl ⟨by rfl, ?hy⟩) (by assumption) ?_
       case hy =>
        intro w0 hSw
        have e4 := hSw
        clear hSw
        go_simp
        (first | done | with_reducible rfl)
       try simp only [Act.put, List.setIfInBounds_toArray, List.set_cons_zero, List.set_cons_succ]
       refine wpAnyH_take (i := 2) (oi := { dst := some 43, op := Op.move (Operand.tmp 6), type := 3, pos := "ttext.go:381", after := #[{ on := 7, ground := Ground.gcOnly Departure.lateStores }], guard := none }) (v := ?_) rfl (by kernel_rfl) (by kernel_rfl) (by kernel_rfl) (fun _ _ _ h => h) (Or.inl ⟨by rfl, ?hy⟩) (by assumption) ?_
       case hy =>
        intro w0 hSw
        have e4 := hSw
        clear hSw
        go_simp
        (first | done | with_reducible rfl)
       try simp only [Act.put, List.setIfInBounds_toArray, List.set_cons_zero, List.set_cons_succ]
       refine wpAnyH_take (i := 3) (oi := { dst := some 44, op := Op.indexAddr 67 (Operand.tmp 42) (Operand.tmp 43), type := 0, pos := "ttext.go:381", after := #[{ on := 1, ground := Ground.data }, { on := 2, ground := Ground.data }, { on := 7, ground := Ground.gcOnly Departure.lateStores }], guard := none }) (v := ?_) rfl (by kernel_rfl) (by kernel_rfl) (by kernel_rfl) (fun _ _ _ h => h) (Or.inl ⟨by rfl, ?hy⟩) (by assumption) ?_
       case hy =>
        intro w0 hSw
        have e4 := hSw
        clear hSw
        go_simp
        (first | done | with_reducible rfl)
       try simp only [Act.put, List.setIfInBounds_toArray, List.set_cons_zero, List.set_cons_succ]
       refine wpAnyH_take (i := 4) (oi := { dst := some 45, op := Op.fieldAddr 72 (Operand.tmp 44) 3, type := 0, pos := "ttext.go:381", after := #[{ on := 3, ground := Ground.data }, { on := 7, ground := Ground.gcOnly Departure.lateStores }], guard := none }) (v := ?_) rfl (by kernel_rfl) (by kernel_rfl) (by kernel_rfl) (fun _ _ _ h => h) (Or.inl ⟨by rfl, ?hy⟩) (by assumption) ?_
       case hy =>
        intro w0 hSw
        have e4 := hSw
        clear hSw
        go_simp
        (first | done | with_reducible rfl)
       try simp only [Act.put, List.setIfInBounds_toArray, List.set_cons_zero, List.set_cons_succ]
       refine wpAnyH_take (i := 5) (oi := { dst := some 46, op := Op.load 3 (Operand.tmp 45), type := 3, pos := "ttext.go:381", after := #[{ on := 4, ground := Ground.data }, { on := 7, ground := Ground.gcOnly Departure.lateStores }], guard := none }) (v := ?_) rfl (by kernel_rfl) (by kernel_rfl) (by kernel_rfl) (fun _ _ _ h => h) (Or.inl ⟨by rfl, ?hy⟩) (by assumption) ?_
       case hy =>
        intro w0 hSw
        have e4 := hSw
        clear hSw
        go_simp
        (first | done | with_reducible rfl)
       try simp only [Act.put, List.setIfInBounds_toArray, List.set_cons_zero, List.set_cons_succ]
       refine wpAnyH_take (i := 6) (oi := { dst := some 47, op := Op.move (Operand.tmp 4), type := 26, pos := "ttext.go:381", after := #[{ on := 8, ground := Ground.gcOnly Departure.lateStores }], guard := none }) (v := ?_) rfl (by kernel_rfl) (by kernel_rfl) (by kernel_rfl) (fun _ _ _ h => h) (Or.inl ⟨by rfl, ?hy⟩) (by assumption) ?_
       case hy =>
        intro w0 hSw
        have e4 := hSw
        clear hSw
        go_simp
        (first | done | with_reducible rfl)
       try simp only [Act.put, List.setIfInBounds_toArray, List.set_cons_zero, List.set_cons_succ]
       refine wpAnyH_ready (rs := [7]) (by kernel_rfl) (by simp) ?_
       refine AllReadyH.cons (o := { dst := none, op := Op.store 25 (Operand.tmp 2) (Operand.tmp 41), type := 0, pos := "ttext.go:381", after := #[{ on := 0, ground := Ground.data }, { on := 0, ground := Ground.phase }, { on := 1, ground := Ground.textOnly Departure.lateStores }, { on := 2, ground := Ground.textOnly Departure.lateStores }, { on := 3, ground := Ground.textOnly Departure.lateStores }, { on := 4, ground := Ground.textOnly Departure.lateStores }, { on := 5, ground := Ground.textOnly Departure.lateStores }, { on := 6, ground := Ground.textOnly Departure.lateStores }], guard := none }) rfl (fun K hK => ?_) AllReadyH.nil
       obtain ⟨⟨y0, p0⟩, ⟨y1, p1⟩, ⟨y2, p2⟩, y3, p3⟩ := cells4 HB6.out
       go_simp
       clear y0 y1 y2 y3 p0 p1 p2 p3
       refine hK.out _ _ (by rw [World.cell?_setCell_far _ _ _ _ hbg, World.cell?_setCell_far _ _ _ _ hbg, World.cell?_setCell_far _ _ _ _ hbg, World.cell?_setCell_far _ _ _ _ hbg]; exact hHeld) (fun hHeld => ?_)
       clear hK K
       try simp only [Act.put, List.setIfInBounds_toArray, List.set_cons_zero, List.set_cons_succ]
       refine wpAnyH_take (i := 8) (oi := { dst := some 3, op := Op.assign (Operand.tmp 46), type := 3, pos := "ttext.go:381", after := #[{ on := 5, ground := Ground.data }, { on := 7, ground := Ground.chain }, { on := 0, ground := Ground.phase }, { on := 1, ground := Ground.phase }, { on := 2, ground := Ground.phase }, { on := 3, ground := Ground.phase }, { on := 4, ground := Ground.phase }, { on := 5, ground := Ground.phase }, { on := 6, ground := Ground.textOnly Departure.lateStores }, { on := 7, ground := Ground.phase }], guard := none }) (v := ?_) rfl (by kernel_rfl) (by kernel_rfl) (by kernel_rfl) (fun _ _ _ h => h) (Or.inl ⟨by rfl, ?hy⟩) (by assumption) ?_
       case hy =>
        intro w0 hSw
        have e4 := hSw
        clear hSw
        go_simp
        (first | done | with_reducible rfl)
       try simp only [Act.put, List.setIfInBounds_toArray, List.set_cons_zero, List.set_cons_succ]
       refine wpAnyH_take (i := 9) (oi := { dst := some 4, op := Op.assign (Operand.tmp 47), type := 26, pos := "ttext.go:381", after := #[{ on := 6, ground := Ground.data }, { on := 8, ground := Ground.chain }, { on := 0, ground := Ground.phase }, { on := 1, ground := Ground.phase }, { on := 2, ground := Ground.phase }, { on := 3, ground := Ground.phase }, { on := 4, ground := Ground.phase }, { on := 5, ground := Ground.phase }, { on := 6, ground := Ground.phase }, { on := 7, ground := Ground.phase }, { on := 8, ground := Ground.phase }], guard := none }) (v := ?_) rfl (by kernel_rfl) (by kernel_rfl) (by kernel_rfl) (fun _ _ _ h => h) (Or.inl ⟨by rfl, ?hy⟩) (by assumption) ?_
       case hy =>
        intro w0 hSw
        have e4 := hSw
        clear hSw
        go_simp
        (first | done | with_reducible rfl)
       try simp only [Act.put, List.setIfInBounds_toArray, List.set_cons_zero, List.set_cons_succ]
       refine wpAnyH_done (by kernel_rfl) ?_ _
       clear hHeld
       go_wp2_with fail
       obtain ⟨WW, hWW⟩ : ∃ WW, WW = (((w4.setCell ⟨b2, 0, none⟩ (.int .i64 0)).setCell ⟨b2, 1, none⟩ (.int .i64 0)).setCell ⟨b2, 2, none⟩ (.string ⟨#[]⟩)).setCell ⟨b2, 3, none⟩ (.slice none 0 0) := ⟨_, rfl⟩
       have hrow : WW.heap[b2]? = some (.cells #[.int .i64 0, .int .i64 0, .string ⟨#[]⟩, .slice none 0 0] 25 (0, 0)) := by rw [hWW]; exact res4 HB6.out
       have HBF : Hid (Below w.heap.size w WW) := by
        show Below _ _ _
        rw [hWW]
        have hb : w.heap.size ≤ b2 := by rw [HB2.out]; exact Nat.le_refl _
        exact (((((Only.of_below (F := fun q => w.heap.size ≤ q) HB3d.out).setF hb _).setF hb _).setF hb _).setF hb _).below (fun q h => h) (Nat.le_refl _)
       rw [← hWW]
       clear hWW
       refine bodyPost_ret (parse_results _ b2 _ _ _ _ _ _ _ rfl rfl rfl hrow) rfl ?_
       rw [HRE4.out, HAT.out]
       exact ⟨none, 0, rfl, TmVS.leaf (Nat.zero_le _), HBF.out⟩
     · have hj' : ¬ (j : Int) < (n : Int) := by omega
       go_wp2_with fail
       have HRE4 : Hid (F = PaQ w (zeroTm, (s.size : Int), x)) := by
        show _ = _
        rw [HRE3.out, if_pos hx]
        unfold atOf
        rw [List.getElem?_eq_none (by rw [← HN.out]; omega), HSZ.out]
       rw [← HW3S.out]
       obtain ⟨WW, hWW⟩ : ∃ WW, WW = (((w3s.setCell ⟨b2, 0, none⟩ (.int .i64 0)).setCell ⟨b2, 1, none⟩ (.int .i64 0)).setCell ⟨b2, 2, none⟩ (.string ⟨#[]⟩)).setCell ⟨b2, 3, none⟩ (.slice none 0 0) := ⟨_, rfl⟩
       have hrow : WW.heap[b2]? = some (.cells #[.int .i64 0, .int .i64 0, .string ⟨#[]⟩, .slice none 0 0] 25 (0, 0)) := by rw [hWW]; exact res4 HX4.out
       have HBF : Hid (Below w.heap.size w WW) := by
        show Below _ _ _
        rw [hWW]
        have hb : w.heap.size ≤ b2 := by rw [HB2.out]; exact Nat.le_refl _
        exact (((((Only.of_below (F := fun q => w.heap.size ≤ q) HB4.out).setF hb _).setF hb _).setF hb _).setF hb _).below (fun q h => h) (Nat.le_refl _)
       rw [← hWW]
       clear hWW
       refine bodyPost_ret (parse_results _ b2 _ _ _ _ _ _ _ rfl rfl rfl hrow) rfl ?_
       rw [HRE4.out]
       exact ⟨none, 0, rfl, TmVS.leaf (Nat.zero_le _), HBF.out⟩
 · have HRE2 : Hid (F = PaQ w (zeroTm, z1, z2)) := by show _ = _; rw [HRE.out, if_pos hz]
   have hzb : (z2 != 0) = true := by simpa using hz
   obtain ⟨⟨y0, p0⟩, ⟨y1, p1⟩, ⟨y2, p2⟩, y3, p3⟩ := cells4 HX2.out
   clear hz HRE
   go_wp2_with fail
   obtain ⟨WW, hWW⟩ : ∃ WW, WW = (((w2.setCell ⟨b2, 0, none⟩ (.int .i64 0)).setCell ⟨b2, 1, none⟩ (.int .i64 0)).setCell ⟨b2, 2, none⟩ (.string ⟨#[]⟩)).setCell ⟨b2, 3, none⟩ (.slice none 0 0) := ⟨_, rfl⟩
   have hrow : WW.heap[b2]? = some (.cells #[.int .i64 0, .int .i64 0, .string ⟨#[]⟩, .slice none 0 0] 25 (0, 0)) := by rw [hWW]; exact res4 HX2.out
   have HBF : Hid (Below w.heap.size w WW) := by
    show Below _ _ _
    rw [hWW]
    have hb : w.heap.size ≤ b2 := by rw [HB2.out]; exact Nat.le_refl _
    exact (((((Only.of_below (F := fun q => w.heap.size ≤ q) HBW.out).setF hb _).setF hb _).setF hb _).setF hb _).below (fun q h => h) (Nat.le_refl _)
   rw [← hWW]
   clear hWW
   refine bodyPost_ret (parse_results _ b2 _ _ _ _ _ _ _ rfl rfl rfl hrow) rfl ?_
   rw [HRE2.out]
   exact ⟨none, 0, rfl, TmVS.leaf (Nat.zero_le _), HBF.out⟩
end Go.Proofs.YtnbphgeepnknlaaGreatDoor
