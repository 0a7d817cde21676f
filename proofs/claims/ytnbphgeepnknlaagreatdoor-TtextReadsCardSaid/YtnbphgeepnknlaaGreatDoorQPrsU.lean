/- Walk: ttext's Take. -/
import Derived.Test.YtnbphgeepnknlaaGreatDoorQPrsT
import Derived.Test.YtnbphgeepnknlaaGreatDoorQParQ
import Derived.Test.YtnbphgeepnknlaaGreatDoorQTrmD
namespace Go.Proofs.YtnbphgeepnknlaaGreatDoor
open Go.RowKit
set_option linter.unusedVariables false

set_option maxRecDepth 100000 in
set_option maxHeartbeats 4000000 in
theorem ptake1_idle (b4 b5 b6 : Nat) (w : World) :
 CallsD Tryz.prog 66 #[.pointer (some ⟨b4, 0, none⟩), .pointer (some ⟨b5, 0, none⟩), .pointer (some ⟨b6, 0, none⟩)] .returning w fun e u' w' => e = .returned (.tuple #[]) ∧ u' = .returning ∧ w' = w := by
 refine callsD_of_wpS Tryz.func66 rfl fun c₀ cs hu => ?_
 apply wpS_seq
 apply wpS_region
 simp [wpOpsS, go_sem, recoverD, hu, Tryz.ntmps66, Exit.thenS]
 refine wpS_of_wp ?_
 obtain ⟨Q, hQ⟩ : ∃ Q : Exit → Act → World → Prop, Q = fun e a' w' => e = .normal ∧ a'.defers = [] ∧ w' = w := ⟨_, rfl⟩
 refine Code.wp_mono (Q := Q) ?hq ?hw
 case hq =>
  intro e a' w' h
  rw [hQ] at h
  obtain ⟨rfl, hd, rfl⟩ := h
  refine ⟨hd, .returning, ?_, .tuple #[], results_none rfl _ _ _, ?_⟩
  · cases c₀; simp_all
  · simp
 case hw =>
  have HQ := Lib.hid hQ
  clear hQ
  clear hu
  change Code.wp _ _ _ { tmps := #[.pointer (some ⟨b4, 0, none⟩), .pointer (some ⟨b5, 0, none⟩), .pointer (some ⟨b6, 0, none⟩), undef, undef, undef, .nilIface, undef, undef, undef, undef, undef, undef, undef, undef, undef, undef], defers := [] } w
  go_wp2
  refine (show Q _ _ _ from ?_)
  rw [HQ.out]
  exact ⟨rfl, rfl, rfl⟩
/-- Tokens that came in. -/
structure TokIn (w : World) (A : Option Addr) (c : Nat) (l : List Tok) : Prop where
 toks : ToksAt w A l
 cap : l.length ≤ c
 capm : c ≤ maxLen
 len : l.length ≤ 100000
 txt : ∀ t ∈ l, t.text.length ≤ 100000
 rng : ∀ t ∈ l, -1000000 ≤ t.n ∧ t.n ≤ 1000000
 old : ∀ a, A = some a → a.block < w.heap.size
theorem TokIn.pt {w w' : World} {A : Option Addr} {c R : Nat} {l : List Tok} (h : TokIn w A c l) (hb : Below w.heap.size w w') (hR : w.heap.size ≤ R) : PTok w' R A c l := by
 refine ⟨?_, h.cap, h.capm, h.len, ?_, h.txt, h.rng⟩
 · rcases h.toks with h0 | ⟨b, off, rfl, hbl, hc⟩
   · exact .inl h0
   · exact .inr ⟨b, off, rfl, Nat.lt_of_lt_of_le hbl hb.size, fun k z hz j hj => by rw [hb.cell (p := ⟨b, _, none⟩) hbl]; exact hc k z hz j hj⟩
 · intro a ha
   have := h.old a ha
   omega
theorem leaves_tmps {P : Program} {fn : Func} {R : Ending → World → Prop} {tmps tmps' : Array Value} (h : results fn tmps' = results fn tmps) : ∀ (ds : List Deferred) (u : FrameMode) (w : World), Leaves P fn tmps' R ds u w → Leaves P fn tmps R ds u w
 | [], .returning, w, ⟨v, hv, hr⟩ => ⟨v, by rw [← h]; exact hv, hr⟩
 | [], .panicking c, w, hh => hh
 | [], .run, w, hh => hh
 | d :: ds, u, w, ⟨hu, fv, cap, f, args, h1, h2, h3⟩ => ⟨hu, fv, cap, f, args, h1, h2, h3.mono fun e u' w' hh => by
  cases e with
  | returned v => exact leaves_tmps h ds _ _ hh
  | panicked c => exact leaves_tmps h ds _ _ hh
  | outgrown => exact hh⟩
theorem take_results (tm : Array Value) (v : Value) {k : Nat} (hk : 7 ≤ k) : results Tryz.f32 (tm.setIfInBounds k v) = results Tryz.f32 tm := by
 have g : ∀ m, m < 7 → (tm.setIfInBounds k v)[m]? = tm[m]? := fun m hm => by rw [Array.getElem?_setIfInBounds, if_neg (by omega)]
 have g4 := g 4 (by decide)
 have g5 := g 5 (by decide)
 have g6 := g 6 (by decide)
 unfold results
 rw [Tryz.results32]
 simp only [Array.getD_eq_getD_getElem?]
 simp [g4, g5, g6]
theorem cells1 {w : World} {b : Nat} {u : Value} {T : TypeId} (h : w.heap[b]? = some (.cells #[u] T (0, 0))) : w.cell? ⟨b, 0, none⟩ = some u ∧ w.frozen? ⟨b, 0, none⟩ = false := ⟨by rw [cell_of_row w b 0 _ _ (0, 0) h]; rfl, by simp [World.frozen?, h]⟩
theorem set1 {W : World} {b : Nat} {u v : Value} {T : TypeId} (h : W.heap[b]? = some (.cells #[u] T (0, 0))) : (W.setCell ⟨b, 0, none⟩ v).heap[b]? = some (.cells #[v] T (0, 0)) := by simp [World.setCell, Array.getElem?_modify, h]
def tkOf (i : Nat) (r : Rs Tm) : Tm × Nat × Int := match r with
 | .bad j e => (zeroTm, j, e)
 | .ok t j => if t.check = 0 then (t, j, 0) else (zeroTm, i, t.check)
/-- What Take leaves. -/
def TkQ (l : List Tok) (w : World) (r : Tm × Nat × Int) (e : Ending) (w' : World) : Prop := ∃ A' c', e = .returned (.tuple #[r.1.val A' c', .int .i64 (r.2.1 : Nat), .int .i64 r.2.2]) ∧ TmVS (fun q => w.heap.size ≤ q) w' A' c' r.1 ∧ Below w.heap.size w w'

set_option maxRecDepth 100000 in
set_option maxHeartbeats 4000000 in
theorem ptake_any (l : List Tok) (A : Option Addr) (c i : Nat) (w : World) (hi : i ≤ l.length) (hT : TokIn w A c l) :
 Calls Tryz.prog 32 #[.slice A l.length c, .int .i64 (i : Nat)] w (TkQ l w (takeT l i)) := by
 obtain ⟨n, hn⟩ : ∃ n, n = l.length := ⟨_, rfl⟩
 have hlen := hT.len
 have hcap := hT.cap
 have hcapm := hT.capm
 unfold maxLen at hcapm
 rw [← hn] at hi hlen hcap ⊢
 have hmf : ∀ (fn : Fn) (first cap : Array Value) (w : World), (Instr.makeFunc fn first cap).run Tryz.prog w = .ok (.func fn first cap) w := fun _ _ _ _ => rfl
 obtain ⟨F, hF⟩ : ∃ F, F = TkQ l w (takeT l i) := ⟨_, rfl⟩
 rw [← hF]
 have HF := Lib.hid hF
 have HN := Lib.hid hn
 have HT := Lib.hid hT
 have hi0 : ¬ (i : Int) < 0 := by omega
 have hi1 : ¬ (n : Int) < (i : Int) := by omega
 clear hF hn hT
 go_enter_defers Tryz.func32, Tryz.ntmps32
 go_wp2_with fail
 obtain ⟨b4, hb4⟩ : ∃ b4, b4 = w.heap.size := ⟨_, rfl⟩
 obtain ⟨b5, hb5⟩ : ∃ b5, b5 = w.heap.size + 1 := ⟨_, rfl⟩
 obtain ⟨b6, hb6⟩ : ∃ b6, b6 = w.heap.size + 1 + 1 := ⟨_, rfl⟩
 obtain ⟨R, hR⟩ : ∃ R, R = w.heap.size + 1 + 1 + 1 := ⟨_, rfl⟩
 obtain ⟨w3, hw3⟩ : ∃ w3, w3 = (((w.alloc (.cells #[.int .i64 0, .int .i64 0, .string ⟨#[]⟩, .slice none 0 0] 25)).alloc (.cells #[.int .i64 0] 3)).alloc (.cells #[.int .i64 0] 26)).alloc (.cells #[.slice A n c, .int .i64 (i : Nat), .int .i64 0] 135) := ⟨_, rfl⟩
 rw [← hw3, ← hR, ← hb6, ← hb5, ← hb4]
 have HB4q := Lib.hid hb4
 have n45 : b4 ≠ b5 := by omega
 have n46 : b4 ≠ b6 := by omega
 have n56 : b5 ≠ b6 := by omega
 have n54 : b4 ≠ b5 := n45
 have n64 : b4 ≠ b6 := n46
 have n4R : b4 ≠ R := by omega
 have n5R : b5 ≠ R := by omega
 have n6R : b6 ≠ R := by omega
 have r4 : w3.heap[b4]? = some (.cells #[.int .i64 0, .int .i64 0, .string ⟨#[]⟩, .slice none 0 0] 25 (0, 0)) := by
  rw [hw3, hb4]
  refine (((Below.refl _ _).alloc (Nat.le_refl _) _).block _ (by simp; omega)).trans ((((Below.refl _ _).alloc (Nat.le_refl _) _).block _ (by simp; omega)).trans ((((Below.refl _ _).alloc (Nat.le_refl _) _).block _ (by simp)).trans (heap_alloc_new w _)))
 have r5 : w3.heap[b5]? = some (.cells #[.int .i64 0] 3 (0, 0)) := by
  rw [hw3, hb5]
  refine (((Below.refl _ _).alloc (Nat.le_refl _) _).block _ (by simp)).trans ((((Below.refl _ _).alloc (Nat.le_refl _) _).block _ (by simp)).trans ?_)
  have h := heap_alloc_new (w.alloc (.cells #[.int .i64 0, .int .i64 0, .string ⟨#[]⟩, .slice none 0 0] 25)) (.cells #[.int .i64 0] 3)
  simpa using h
 have r6 : w3.heap[b6]? = some (.cells #[.int .i64 0] 26 (0, 0)) := by
  rw [hw3, hb6]
  refine (((Below.refl _ _).alloc (Nat.le_refl _) _).block _ (by simp)).trans ?_
  have h := heap_alloc_new ((w.alloc (.cells #[.int .i64 0, .int .i64 0, .string ⟨#[]⟩, .slice none 0 0] 25)).alloc (.cells #[.int .i64 0] 3)) (.cells #[.int .i64 0] 26)
  simpa using h
 have hrd : Rdr w3 R A n c i 0 := by
  rw [hw3, hR]
  have h := heap_alloc_new (((w.alloc (.cells #[.int .i64 0, .int .i64 0, .string ⟨#[]⟩, .slice none 0 0] 25)).alloc (.cells #[.int .i64 0] 3)).alloc (.cells #[.int .i64 0] 26)) (.cells #[.slice A n c, .int .i64 (i : Nat), .int .i64 0] 135)
  unfold Rdr
  simpa using h
 have hbel : Below w.heap.size w w3 := by
  rw [hw3]
  exact ((((Below.refl _ _).alloc (Nat.le_refl _) _).alloc (by simp) _).alloc (by simp; omega) _).alloc (by simp; omega) _
 have hsz3 : w3.heap.size = R + 1 := by rw [hw3, hR]; simp
 have hwR : w.heap.size ≤ b4 ∧ w.heap.size ≤ b5 ∧ w.heap.size ≤ b6 ∧ w.heap.size ≤ R := by omega
 have hb3 : b4 < w3.heap.size ∧ b5 < w3.heap.size ∧ b6 < w3.heap.size := by omega
 obtain ⟨r, hr⟩ : ∃ r, r = (lvl l 256).term i := ⟨_, rfl⟩
 have hcall : Calls Tryz.prog 67 #[.pointer (some ⟨R, 0, none⟩)] w3 (PQ R A c 0 l i r w3) := by
  rw [hr]
  exact (plevels R A c l 256 0 (by omega)).term i w3 (by rw [← HN.out]; exact hi) (by rw [← HN.out]; exact hrd) (HT.out.pt hbel (by omega)) trivial
 have HRE : Hid (F = TkQ l w (tkOf i r)) := by show _ = _; rw [HF.out, hr]; rfl
 have HGD : Hid (∀ t j, r = .ok t j → Gd l i t j) := fun t j h => (lvl_gd l 256).term i t j (by rw [← hr]; exact h)
 have HC := Lib.hid hcall
 have HR4 := Lib.hid r4
 have HR5 := Lib.hid r5
 have HR6 := Lib.hid r6
 have HBEL := Lib.hid hbel
 clear hb4 hb5 hb6 hR hw3 r4 r5 r6 hrd hbel hcall hr HF
 refine (HC.out).mono ?_
 intro e w4 hq
 rcases r with ⟨j, x⟩ | ⟨t, j⟩
 · obtain ⟨rfl, ho4⟩ := hq
   have HO4 := Lib.hid ho4
   have q4 := (ho4.block b4 hb3.1 n4R).trans HR4.out
   have q5 := (ho4.block b5 hb3.2.1 n5R).trans HR5.out
   have q6 := (ho4.block b6 hb3.2.2 n6R).trans HR6.out
   have hs4 := ho4.size
   obtain ⟨WW, hWW⟩ : ∃ WW, WW = (((((((w4.alloc (.cells #[.int .i64 (j : Nat), .int .i64 x] 130)).drew.setCell ⟨b4, 0, none⟩ (.int .i64 0)).setCell ⟨b4, 1, none⟩ (.int .i64 0)).setCell ⟨b4, 2, none⟩ (.string ⟨#[]⟩)).setCell ⟨b4, 3, none⟩ (.slice none 0 0)).setCell ⟨b5, 0, none⟩ (.int .i64 (j : Nat))).setCell ⟨b6, 0, none⟩ (.int .i64 x)) := ⟨_, rfl⟩
   have hpan := ptake1_panic b4 b5 b6 j x w4 _ _ _ _ _ _ q4 q5 q6 n45 n46 n56
   rw [← hWW] at hpan
   have HPAN := Lib.hid hpan
   have h4a : (w4.alloc (.cells #[.int .i64 (j : Nat), .int .i64 x] 130)).drew.heap[b4]? = some (.cells #[.int .i64 0, .int .i64 0, .string ⟨#[]⟩, .slice none 0 0] 25 (0, 0)) := alloc_keep (W := w4) q4
   have h4f : WW.heap[b4]? = some (.cells #[.int .i64 0, .int .i64 0, .string ⟨#[]⟩, .slice none 0 0] 25 (0, 0)) := by
    rw [hWW, heap_setCell_other _ ⟨b6, 0, none⟩ b4 _ n46, heap_setCell_other _ ⟨b5, 0, none⟩ b4 _ n45]
    exact res4 h4a
   have h5a : (w4.alloc (.cells #[.int .i64 (j : Nat), .int .i64 x] 130)).drew.heap[b5]? = some (.cells #[.int .i64 0] 3 (0, 0)) := alloc_keep (W := w4) q5
   have h6a : (w4.alloc (.cells #[.int .i64 (j : Nat), .int .i64 x] 130)).drew.heap[b6]? = some (.cells #[.int .i64 0] 26 (0, 0)) := alloc_keep (W := w4) q6
   have h5f : WW.heap[b5]? = some (.cells #[.int .i64 (j : Nat)] 3 (0, 0)) := by
    rw [hWW, heap_setCell_other _ ⟨b6, 0, none⟩ b5 _ n56]
    exact set1 ((sets4_far (fun e => n45 e.symm)).trans h5a)
   have h6f : WW.heap[b6]? = some (.cells #[.int .i64 x] 26 (0, 0)) := by
    rw [hWW]
    refine set1 (u := .int .i64 0) ?_
    rw [heap_setCell_other _ ⟨b5, 0, none⟩ b6 _ (fun e => n56 e.symm)]
    exact (sets4_far (fun e => n46 e.symm)).trans h6a
   have HWWf : Hid (Below w.heap.size w WW) := by
    show Below _ _ _
    have o4 : Only (fun q => w.heap.size ≤ q) w w4 := (Only.of_below HBEL.out).trans (HO4.out.mono (fun q h => by show w.heap.size ≤ q; omega))
    have o5 : Only (fun q => w.heap.size ≤ q) w (w4.alloc (.cells #[.int .i64 (j : Nat), .int .i64 x] 130)).drew := (o4.trans (Only.of_below ((Below.refl _ _).alloc (Nat.le_refl _) _))).drewN 1
    rw [hWW]
    exact ((((((o5.setF hwR.1 _).setF hwR.1 _).setF hwR.1 _).setF hwR.1 _).setF hwR.2.1 _).setF hwR.2.2.1 _).below (fun q h => h) (Nat.le_refl _)
   clear hWW hpan q4 q5 q6 ho4 h4a h5a h6a
   refine leaves_cons (f := 66) (args := #[.pointer (some ⟨b4, 0, none⟩), .pointer (some ⟨b5, 0, none⟩), .pointer (some ⟨b6, 0, none⟩)]) (by simp) (by simp [go_sem]) ?_
   refine (HPAN.out).mono ?_
   rintro e u' w'' ⟨rfl, rfl, rfl⟩
   obtain ⟨⟨y0, -⟩, ⟨y1, -⟩, ⟨y2, -⟩, y3, -⟩ := cells4 h4f
   have y5 := (cells1 h5f).1
   have y6 := (cells1 h6f).1
   clear h4f h5f h6f HPAN
   simp [Leaves, settle, caught, results, Tryz.results32, go_sem, y0, y1, y2, y3, y5, y6]
   rw [HRE.out]
   exact ⟨none, 0, rfl, TmVS.leaf (Nat.zero_le _), HWWf.out⟩
 · obtain ⟨⟨A', c', rfl, hV⟩, hij, hjl, hR4, ho4⟩ := hq
   have HGD2 := Lib.hid (HGD.out t j rfl)
   have HO4 := Lib.hid ho4
   have q4 := (ho4.block b4 hb3.1 n4R).trans HR4.out
   have q5 := (ho4.block b5 hb3.2.1 n5R).trans HR5.out
   have q6 := (ho4.block b6 hb3.2.2 n6R).trans HR6.out
   have hs4 := ho4.size
   obtain ⟨n2, hn2⟩ : ∃ n2, n2 = t.kids.length := ⟨_, rfl⟩
   have HN2 := Lib.hid hn2
   have hb44 : b4 < w4.heap.size := by omega
   obtain ⟨w5, hw5⟩ : ∃ w5, w5 = (((w4.setCell ⟨b4, 0, none⟩ (.int .i64 t.op)).setCell ⟨b4, 1, none⟩ (.int .i64 t.num)).setCell ⟨b4, 2, none⟩ (.string t.name)).setCell ⟨b4, 3, none⟩ (.slice A' n2 c') := ⟨_, rfl⟩
   have HB5 : Hid (w5.heap[b4]? = some (.cells #[.int .i64 t.op, .int .i64 t.num, .string t.name, .slice A' n2 c'] 25 (0, 0))) := by show _ = _; rw [hw5]; exact res4 q4
   have HV5 : Hid (TmVS (fun q => w3.heap.size ≤ q) w5 A' c' t) := by
    show TmVS _ _ _ _ _
    rw [hw5]
    exact hV.keep ((((KeepS.refl.set (by omega) _).set (by omega) _).set (by omega) _).set (by omega) _) (fun _ _ h => h)
   have HR5a : Hid (w5.heap[b5]? = some (.cells #[.int .i64 0] 3 (0, 0))) := by show _ = _; rw [hw5]; exact (sets4_far (fun e => n45 e.symm)).trans q5
   have HR6a : Hid (w5.heap[b6]? = some (.cells #[.int .i64 0] 26 (0, 0))) := by show _ = _; rw [hw5]; exact (sets4_far (fun e => n46 e.symm)).trans q6
   have HRDa : Hid (w5.cell? ⟨R, 1, none⟩ = some (.int .i64 (j : Nat))) := by
    show _ = _
    rw [hw5, World.cell?_setCell_far _ _ _ _ n4R, World.cell?_setCell_far _ _ _ _ n4R, World.cell?_setCell_far _ _ _ _ n4R, World.cell?_setCell_far _ _ _ _ n4R]
    exact hR4.c1
   have HO5 : Hid (Only (fun q => w.heap.size ≤ q) w w5) := by
    show Only _ _ _
    rw [hw5]
    exact (((((Only.of_below HBEL.out).trans (ho4.mono (fun q h => by show w.heap.size ≤ q; omega))).setF hwR.1 _).setF hwR.1 _).setF hwR.1 _).setF hwR.1 _
   have hs5 : w5.heap.size = w4.heap.size := by rw [hw5]; simp
   have hlt5 : R < w4.heap.size := hR4.lt
   obtain ⟨⟨y0, p0⟩, ⟨y1, p1⟩, ⟨y2, p2⟩, y3, p3⟩ := cells4 q4
   have HW5 := Lib.hid hw5
   unfold Tm.val
   rw [← hn2]
   have hck := check_any t A' c' w5 HV5.out.toV (by have := HGD2.out.sz; have := HGD2.out.jl; have := HGD2.out.ij; rw [← HN.out] at *; omega)
   unfold Tm.val at hck
   rw [← hn2] at hck
   have HCK := Lib.hid hck
   clear hw5 q4 q5 q6 ho4 hV hR4 hn2 hck
   go_wp2_with fail
   rw [← HW5.out]
   clear y0 y1 y2 y3 p0 p1 p2 p3
   obtain ⟨⟨y0, p0⟩, ⟨y1, p1⟩, ⟨y2, p2⟩, y3, p3⟩ := cells4 HB5.out
   try go_wp2_with fail
   refine (HCK.out).mono ?_
   rintro e w6 ⟨rfl, hb6⟩
   have hs6 := hb6.size
   have hb45 : b4 < w5.heap.size := by omega
   have HV6 : Hid (TmVS (fun q => w3.heap.size ≤ q) w6 A' c' t) := HV5.out.keep (KeepS.of_below hb6) (fun _ _ h => h)
   have HB6 := Lib.hid ((hb6.block b4 hb45).trans HB5.out)
   have HR5b := Lib.hid ((hb6.block b5 (by omega)).trans HR5a.out)
   have HR6b := Lib.hid ((hb6.block b6 (by omega)).trans HR6a.out)
   have HRDb := Lib.hid ((hb6.cell (p := ⟨R, 1, none⟩) (by show R < _; omega)).trans HRDa.out)
   have HO6 := Lib.hid (HO5.out.trans (Only.of_below hb6))
   clear hb6 HCK y0 y1 y2 y3 p0 p1 p2 p3
   obtain ⟨⟨y0, p0⟩, ⟨y1, p1⟩, ⟨y2, p2⟩, y3, p3⟩ := cells4 HB6.out
   obtain ⟨y5, p5⟩ := cells1 HR5b.out
   obtain ⟨y6, p6⟩ := cells1 HR6b.out
   by_cases hz : t.check = 0
   · have HRE2 : Hid (F = TkQ l w (t, j, 0)) := by show _ = _; rw [HRE.out]; show TkQ l w (if t.check = 0 then (t, j, 0) else (zeroTm, i, t.check)) = _; rw [if_pos hz]
     rw [hz]
     clear hz
     go_wp2_with fail
     obtain ⟨wd, hwd⟩ : ∃ wd, wd = w6.drew := ⟨_, rfl⟩
     have hB : wd.heap[b4]? = some (.cells #[.int .i64 t.op, .int .i64 t.num, .string t.name, .slice A' n2 c'] 25 (0, 0)) := by rw [hwd]; exact HB6.out
     have hRD : wd.cell? ⟨R, 1, none⟩ = some (.int .i64 (j : Nat)) := by rw [hwd]; exact HRDb.out
     have h5r : wd.heap[b5]? = some (.cells #[.int .i64 0] 3 (0, 0)) := by rw [hwd]; exact HR5b.out
     have h6r : wd.heap[b6]? = some (.cells #[.int .i64 0] 26 (0, 0)) := by rw [hwd]; exact HR6b.out
     have HO7 : Hid (Only (fun q => w.heap.size ≤ q) w wd) := by show Only _ _ _; rw [hwd]; exact HO6.out.drewN 1
     have HV7 : Hid (TmVS (fun q => w3.heap.size ≤ q) wd A' c' t) := by show TmVS _ _ _ _ _; rw [hwd]; exact HV6.out.keep ⟨Nat.le_refl _, fun _ _ _ => rfl⟩ (fun _ _ h => h)
     have HH5 := Lib.hid h5r
     have HH6 := Lib.hid h6r
     clear y0 y1 y2 y3 p0 p1 p2 p3 y5 p5 y6 p6
     obtain ⟨y5, p5⟩ := cells1 h5r
     obtain ⟨y6, p6⟩ := cells1 h6r
     clear h5r h6r
     have HQD := Lib.hid (fun (k : Nat) (hk : 7 ≤ k) (cc : List PanicEntry) (a : Act) (w : World) (v : Value) (h : bodyPostD Tryz.prog Tryz.f32 F (.panic cc) (a.put (some k) v) w) => (leaves_tmps (take_results a.tmps v hk) _ _ _ h : bodyPostD Tryz.prog Tryz.f32 F (.panic cc) a w))
     refine wp_region_held_drew (S := fun w' => w'.heap[b4]? = some (.cells #[.int .i64 t.op, .int .i64 t.num, .string t.name, .slice A' n2 c'] 25 (0, 0)) ∧ w'.cell? ⟨R, 1, none⟩ = some (.int .i64 (j : Nat))) (by kernel_rfl) (by rw [← hwd]; exact ⟨hB, hRD⟩) (fun hHeld => ?_)
     rw [← hwd] at hHeld ⊢
     clear hwd hB hRD
     refine wpAnyH_take (i := 0) (oi := { dst := some 33, op := Op.load 25 (Operand.tmp 4), type := 25, pos := "ttext.go:364", after := #[], guard := none }) (v := ?_) rfl (by kernel_rfl) (by kernel_rfl) (by kernel_rfl) (fun c a w h => HQD.out 33 (by decide) c a w _ h) (Or.inl ⟨by rfl, ?hy⟩) (by assumption) ?_
     case hy =>
      intro w0 hSw
      obtain ⟨⟨e0, -⟩, ⟨e1, -⟩, ⟨e2, -⟩, e3, -⟩ := cells4 hSw.1
      have e4 := hSw.2
      clear hSw
      go_simp
      (first | done | with_reducible rfl)
     try simp only [Act.put, List.setIfInBounds_toArray, List.set_cons_zero, List.set_cons_succ]
     refine wpAnyH_take (i := 1) (oi := { dst := some 34, op := Op.move (Operand.tmp 7), type := 131, pos := "ttext.go:364", after := #[], guard := none }) (v := ?_) rfl (by kernel_rfl) (by kernel_rfl) (by kernel_rfl) (fun c a w h => HQD.out 34 (by decide) c a w _ h) (Or.inl ⟨by rfl, ?hy⟩) (by assumption) ?_
     case hy =>
      intro w0 hSw
      obtain ⟨⟨e0, -⟩, ⟨e1, -⟩, ⟨e2, -⟩, e3, -⟩ := cells4 hSw.1
      have e4 := hSw.2
      clear hSw
      go_simp
      (first | done | with_reducible rfl)
     try simp only [Act.put, List.setIfInBounds_toArray, List.set_cons_zero, List.set_cons_succ]
     refine wpAnyH_take (i := 2) (oi := { dst := some 35, op := Op.nilCheck (Operand.tmp 34), type := 0, pos := "ttext.go:364", after := #[{ on := 1, ground := Ground.data }], guard := none }) (v := ?_) rfl (by kernel_rfl) (by kernel_rfl) (by kernel_rfl) (fun c a w h => HQD.out 35 (by decide) c a w _ h) (Or.inl ⟨by rfl, ?hy⟩) (by assumption) ?_
     case hy =>
      intro w0 hSw
      obtain ⟨⟨e0, -⟩, ⟨e1, -⟩, ⟨e2, -⟩, e3, -⟩ := cells4 hSw.1
      have e4 := hSw.2
      clear hSw
      go_simp
      (first | done | with_reducible rfl)
     try simp only [Act.put, List.setIfInBounds_toArray, List.set_cons_zero, List.set_cons_succ]
     refine wpAnyH_take (i := 3) (oi := { dst := some 36, op := Op.fieldAddr 135 (Operand.tmp 35) 0, type := 0, pos := "ttext.go:364", after := #[{ on := 2, ground := Ground.data }], guard := none }) (v := ?_) rfl (by kernel_rfl) (by kernel_rfl) (by kernel_rfl) (fun c a w h => HQD.out 36 (by decide) c a w _ h) (Or.inl ⟨by rfl, ?hy⟩) (by assumption) ?_
     case hy =>
      intro w0 hSw
      obtain ⟨⟨e0, -⟩, ⟨e1, -⟩, ⟨e2, -⟩, e3, -⟩ := cells4 hSw.1
      have e4 := hSw.2
      clear hSw
      go_simp
      (first | done | with_reducible rfl)
     try simp only [Act.put, List.setIfInBounds_toArray, List.set_cons_zero, List.set_cons_succ]
     refine wpAnyH_take (i := 4) (oi := { dst := some 37, op := Op.fieldAddr 133 (Operand.tmp 36) 1, type := 0, pos := "ttext.go:364", after := #[{ on := 3, ground := Ground.data }], guard := none }) (v := ?_) rfl (by kernel_rfl) (by kernel_rfl) (by kernel_rfl) (fun c a w h => HQD.out 37 (by decide) c a w _ h) (Or.inl ⟨by rfl, ?hy⟩) (by assumption) ?_
     case hy =>
      intro w0 hSw
      obtain ⟨⟨e0, -⟩, ⟨e1, -⟩, ⟨e2, -⟩, e3, -⟩ := cells4 hSw.1
      have e4 := hSw.2
      clear hSw
      go_simp
      (first | done | with_reducible rfl)
     try simp only [Act.put, List.setIfInBounds_toArray, List.set_cons_zero, List.set_cons_succ]
     refine wpAnyH_take (i := 5) (oi := { dst := some 38, op := Op.load 3 (Operand.tmp 37), type := 3, pos := "ttext.go:364", after := #[{ on := 4, ground := Ground.data }], guard := none }) (v := ?_) rfl (by kernel_rfl) (by kernel_rfl) (by kernel_rfl) (fun c a w h => HQD.out 38 (by decide) c a w _ h) (Or.inl ⟨by rfl, ?hy⟩) (by assumption) ?_
     case hy =>
      intro w0 hSw
      obtain ⟨⟨e0, -⟩, ⟨e1, -⟩, ⟨e2, -⟩, e3, -⟩ := cells4 hSw.1
      have e4 := hSw.2
      clear hSw
      go_simp
      (first | done | with_reducible rfl)
     try simp only [Act.put, List.setIfInBounds_toArray, List.set_cons_zero, List.set_cons_succ]
     refine wpAnyH_ready (rs := [6]) (by kernel_rfl) (by simp) ?_
     refine AllReadyH.cons (o := { dst := none, op := Op.store 25 (Operand.tmp 4) (Operand.tmp 33), type := 0, pos := "ttext.go:364", after := #[{ on := 0, ground := Ground.data }, { on := 0, ground := Ground.phase }, { on := 1, ground := Ground.textOnly Departure.lateStoresUnsure }, { on := 2, ground := Ground.textOnly Departure.lateStoresUnsure }, { on := 3, ground := Ground.textOnly Departure.lateStoresUnsure }, { on := 4, ground := Ground.textOnly Departure.lateStoresUnsure }, { on := 5, ground := Ground.textOnly Departure.lateStoresUnsure }], guard := none }) rfl (fun K hK => ?_) AllReadyH.nil
     obtain ⟨⟨y0, p0⟩, ⟨y1, p1⟩, ⟨y2, p2⟩, y3, p3⟩ := cells4 hHeld.1
     go_simp
     clear y0 y1 y2 y3 p0 p1 p2 p3
     refine hK.out _ _ ⟨res4 hHeld.1, by rw [World.cell?_setCell_far _ _ _ _ n4R, World.cell?_setCell_far _ _ _ _ n4R, World.cell?_setCell_far _ _ _ _ n4R, World.cell?_setCell_far _ _ _ _ n4R]; exact hHeld.2⟩ (fun hHeld => ?_)
     clear hK K
     try simp only [Act.put, List.setIfInBounds_toArray, List.set_cons_zero, List.set_cons_succ]
     obtain ⟨WA, hWA⟩ : ∃ WA, WA = ((((wd.setCell ⟨b4, 0, none⟩ (.int .i64 t.op)).setCell ⟨b4, 1, none⟩ (.int .i64 t.num)).setCell ⟨b4, 2, none⟩ (.string t.name)).setCell ⟨b4, 3, none⟩ (.slice A' n2 c')) := ⟨_, rfl⟩
     rw [← hWA] at hHeld ⊢
     have y5A : WA.cell? ⟨b5, 0, none⟩ = some (.int .i64 0) := by rw [hWA, World.cell?_setCell_far _ _ _ _ n45, World.cell?_setCell_far _ _ _ _ n45, World.cell?_setCell_far _ _ _ _ n45, World.cell?_setCell_far _ _ _ _ n45]; exact y5
     have p5A : WA.frozen? ⟨b5, 0, none⟩ = false := by rw [hWA]; simpa [World.frozen?_setCell] using p5
     have y6A : WA.cell? ⟨b6, 0, none⟩ = some (.int .i64 0) := by rw [hWA, World.cell?_setCell_far _ _ _ _ n46, World.cell?_setCell_far _ _ _ _ n46, World.cell?_setCell_far _ _ _ _ n46, World.cell?_setCell_far _ _ _ _ n46]; exact y6
     have p6A : WA.frozen? ⟨b6, 0, none⟩ = false := by rw [hWA]; simpa [World.frozen?_setCell] using p6
     have HWA := Lib.hid hWA
     have HB7 := Lib.hid hHeld.1
     clear hWA y5 p5 y6 p6
     refine wpAnyH_ready (rs := [7]) (by kernel_rfl) (by simp) ?_
     refine AllReadyH.cons (o := { dst := none, op := Op.store 3 (Operand.tmp 5) (Operand.tmp 38), type := 0, pos := "ttext.go:364", after := #[{ on := 5, ground := Ground.data }, { on := 6, ground := Ground.chain }, { on := 0, ground := Ground.phase }, { on := 1, ground := Ground.phase }, { on := 2, ground := Ground.phase }, { on := 3, ground := Ground.phase }, { on := 4, ground := Ground.phase }, { on := 5, ground := Ground.phase }, { on := 6, ground := Ground.phase }], guard := none }) rfl (fun K hK => ?_) AllReadyH.nil
     go_simp
     refine hK.out _ _ ⟨(heap_setCell_other _ ⟨b5, 0, none⟩ b4 _ n54).trans hHeld.1, by rw [World.cell?_setCell_far _ _ _ _ n5R]; exact hHeld.2⟩ (fun hHeld => ?_)
     clear hK K
     try simp only [Act.put, List.setIfInBounds_toArray, List.set_cons_zero, List.set_cons_succ]
     refine wpAnyH_ready (rs := [8]) (by kernel_rfl) (by simp) ?_
     refine AllReadyH.cons (o := { dst := none, op := Op.store 26 (Operand.tmp 6) (Operand.const (Value.int IntKind.i64 0)), type := 0, pos := "ttext.go:364", after := #[{ on := 7, ground := Ground.chain }, { on := 0, ground := Ground.phase }, { on := 1, ground := Ground.phase }, { on := 2, ground := Ground.phase }, { on := 3, ground := Ground.phase }, { on := 4, ground := Ground.phase }, { on := 5, ground := Ground.phase }, { on := 6, ground := Ground.phase }, { on := 7, ground := Ground.phase }], guard := none }) rfl (fun K hK => ?_) AllReadyH.nil
     go_simp
     refine hK.out _ _ ⟨(heap_setCell_other _ ⟨b6, 0, none⟩ b4 _ n64).trans hHeld.1, by rw [World.cell?_setCell_far _ _ _ _ n6R]; exact hHeld.2⟩ (fun hHeld => ?_)
     clear hK K
     try simp only [Act.put, List.setIfInBounds_toArray, List.set_cons_zero, List.set_cons_succ]
     refine wpAnyH_done (by kernel_rfl) ?_ _
     clear hHeld y5A p5A y6A p6A
     try clear y0 y1 y2 y3 p0 p1 p2 p3
     go_wp2_with fail
     obtain ⟨WW, hWW⟩ : ∃ WW, WW = (WA.setCell ⟨b5, 0, none⟩ (.int .i64 (j : Nat))).setCell ⟨b6, 0, none⟩ (.int .i64 0) := ⟨_, rfl⟩
     have h4f : WW.heap[b4]? = some (.cells #[.int .i64 t.op, .int .i64 t.num, .string t.name, .slice A' n2 c'] 25 (0, 0)) := by
      rw [hWW, heap_setCell_other _ ⟨b6, 0, none⟩ b4 _ n46, heap_setCell_other _ ⟨b5, 0, none⟩ b4 _ n45]
      exact HB7.out
     have h5f : WW.heap[b5]? = some (.cells #[.int .i64 (j : Nat)] 3 (0, 0)) := by
      rw [hWW, heap_setCell_other _ ⟨b6, 0, none⟩ b5 _ n56]
      refine set1 (u := .int .i64 0) ?_
      rw [HWA.out]
      exact (sets4_far (fun e => n45 e.symm)).trans HH5.out
     have h6f : WW.heap[b6]? = some (.cells #[.int .i64 0] 26 (0, 0)) := by
      rw [hWW]
      refine set1 (u := .int .i64 0) ?_
      rw [heap_setCell_other _ ⟨b5, 0, none⟩ b6 _ (fun e => n56 e.symm), HWA.out]
      exact (sets4_far (fun e => n46 e.symm)).trans HH6.out
     have HWWf : Hid (Below w.heap.size w WW) := by
      show Below _ _ _
      rw [hWW, HWA.out]
      exact ((((((HO7.out.setF hwR.1 _).setF hwR.1 _).setF hwR.1 _).setF hwR.1 _).setF hwR.2.1 _).setF hwR.2.2.1 _).below (fun q h => h) (Nat.le_refl _)
     have HVF : Hid (TmVS (fun q => w3.heap.size ≤ q) WW A' c' t) := by
      show TmVS _ _ _ _ _
      rw [hWW, HWA.out]
      exact HV7.out.keep ((((((KeepS.refl.set (by omega) _).set (by omega) _).set (by omega) _).set (by omega) _).set (by omega) _).set (by omega) _) (fun _ _ h => h)
     rw [← hWW]
     clear hWW
     refine leaves_cons (f := 66) (args := #[.pointer (some ⟨b4, 0, none⟩), .pointer (some ⟨b5, 0, none⟩), .pointer (some ⟨b6, 0, none⟩)]) (by simp) (by simp [go_sem]) ?_
     refine (ptake1_idle b4 b5 b6 WW).mono ?_
     rintro e u' w'' ⟨rfl, rfl, hww⟩
     rw [hww]
     clear hww
     obtain ⟨⟨y0, -⟩, ⟨y1, -⟩, ⟨y2, -⟩, y3, -⟩ := cells4 h4f
     have y5 := (cells1 h5f).1
     have y6 := (cells1 h6f).1
     clear h4f h5f h6f
     simp [Leaves, settle, results, Tryz.results32, go_sem, y0, y1, y2, y3, y5, y6]
     rw [HRE2.out]
     exact ⟨A', c', by unfold Tm.val; rw [← HN2.out], HVF.out.keep KeepS.refl (fun q _ h => by omega), HWWf.out⟩
   · have HRE2 : Hid (F = TkQ l w (zeroTm, i, t.check)) := by show _ = _; rw [HRE.out]; show TkQ l w (if t.check = 0 then (t, j, 0) else (zeroTm, i, t.check)) = _; rw [if_neg hz]
     obtain ⟨zz, hzz⟩ : ∃ zz, zz = t.check := ⟨_, rfl⟩
     rw [← hzz] at hz ⊢
     have hzb : (zz != 0) = true := by simpa using hz
     have HZZ := Lib.hid hzz
     clear hzz
     go_wp2_with fail
     obtain ⟨WW, hWW⟩ : ∃ WW, WW = (((((w6.setCell ⟨b4, 0, none⟩ (.int .i64 0)).setCell ⟨b4, 1, none⟩ (.int .i64 0)).setCell ⟨b4, 2, none⟩ (.string ⟨#[]⟩)).setCell ⟨b4, 3, none⟩ (.slice none 0 0)).setCell ⟨b5, 0, none⟩ (.int .i64 (i : Nat))).setCell ⟨b6, 0, none⟩ (.int .i64 zz) := ⟨_, rfl⟩
     clear y0 y1 y2 y3 p0 p1 p2 p3 y5 p5 y6 p6
     have h4f : WW.heap[b4]? = some (.cells #[.int .i64 0, .int .i64 0, .string ⟨#[]⟩, .slice none 0 0] 25 (0, 0)) := by
      rw [hWW, heap_setCell_other _ ⟨b6, 0, none⟩ b4 _ n46, heap_setCell_other _ ⟨b5, 0, none⟩ b4 _ n45]
      exact res4 HB6.out
     have h5f : WW.heap[b5]? = some (.cells #[.int .i64 (i : Nat)] 3 (0, 0)) := by
      rw [hWW, heap_setCell_other _ ⟨b6, 0, none⟩ b5 _ n56]
      exact set1 ((sets4_far (fun e => n45 e.symm)).trans HR5b.out)
     have h6f : WW.heap[b6]? = some (.cells #[.int .i64 zz] 26 (0, 0)) := by
      rw [hWW]
      refine set1 (u := .int .i64 0) ?_
      rw [heap_setCell_other _ ⟨b5, 0, none⟩ b6 _ (fun e => n56 e.symm)]
      exact (sets4_far (fun e => n46 e.symm)).trans HR6b.out
     have HWWf : Hid (Below w.heap.size w WW) := by
      show Below _ _ _
      rw [hWW]
      exact ((((((HO6.out.setF hwR.1 _).setF hwR.1 _).setF hwR.1 _).setF hwR.1 _).setF hwR.2.1 _).setF hwR.2.2.1 _).below (fun q h => h) (Nat.le_refl _)
     rw [← hWW]
     clear hWW
     refine leaves_cons (f := 66) (args := #[.pointer (some ⟨b4, 0, none⟩), .pointer (some ⟨b5, 0, none⟩), .pointer (some ⟨b6, 0, none⟩)]) (by simp) (by simp [go_sem]) ?_
     refine (ptake1_idle b4 b5 b6 WW).mono ?_
     rintro e u' w'' ⟨rfl, rfl, hww⟩
     rw [hww]
     clear hww
     obtain ⟨⟨y0, -⟩, ⟨y1, -⟩, ⟨y2, -⟩, y3, -⟩ := cells4 h4f
     have y5 := (cells1 h5f).1
     have y6 := (cells1 h6f).1
     clear h4f h5f h6f
     simp [Leaves, settle, results, Tryz.results32, go_sem, y0, y1, y2, y3, y5, y6]
     rw [HRE2.out, ← HZZ.out]
     exact ⟨none, 0, rfl, TmVS.leaf (Nat.zero_le _), HWWf.out⟩
end Go.Proofs.YtnbphgeepnknlaaGreatDoor
