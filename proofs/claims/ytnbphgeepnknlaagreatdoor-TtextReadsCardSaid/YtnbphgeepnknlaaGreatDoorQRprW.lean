/- The state of the loop of the reference's row. Walk: the reference's row (and). Walk: the reference's row (or). Walk: the reference's parsers of all levels. -/
import Derived.Test.YtnbphgeepnknlaaGreatDoorQRprU
import Derived.Test.YtnbphgeepnknlaaGreatDoorQPrsD
namespace Go.Proofs.YtnbphgeepnknlaaGreatDoor
open Go.RowKit
set_option linter.unusedVariables false

theorem own_below {B n sz : Nat} {T : TypeId} {w w' : World} {v : Value} {xs : List Value} (h : w.ownsRow B T sz v n xs) (hb : Below w.heap.size w w') : w'.ownsRow B T sz v n xs := h.kept (row := none) ⟨hb.os, hb.tape, hb.output, hb.size, fun k hk _ => hb.block k hk⟩ (by cases v.ownBlock <;> simp)
/-- The row of operands so far. -/
structure RowK (w : World) (b6 : Nat) (wr : World) (v : Value) (acc : List TmE) : Prop where
 x6 : wr.heap[b6]? = some (.cells #[.int .i64 0, .int .i64 0, .string ⟨#[]⟩, .slice none 0 0, .int .i64 0, .int .i64 0] 140 (0, 0))
 own : wr.ownsRow (b6 + 1) 25 4 v acc.length (flatE acc)
 vals : ∀ e ∈ acc, TmVS (fun q => b6 < q ∧ v.ownBlock ≠ some q) wr e.A e.c e.t
 below : Below w.heap.size w wr
structure RowS (w : World) (l : List Tok) (b6 : Nat) (op : Int) (one : Par) (r : Rs Tm) (wr : World) (v : Value) (acc : List TmE) (i fuel : Nat) : Prop where
 b : RowK w b6 wr v acc
 cnt : acc.length ≤ i
 il : i ≤ l.length
 fu : l.length ≤ fuel + i
 re : ((one i).then fun t j => manyF l op one fuel (acc.map TmE.t ++ [t]) j) = r
theorem RowK.next {w wr w4 w6 : World} {b6 : Nat} {v v' : Value} {acc : List TmE} {o : Obj} {t : Tm} {A' : Option Addr} {c' : Nat} (h : RowK w b6 wr v acc) (hb : b6 = w.heap.size) (ho : Below wr.heap.size wr w4) (hV : TmVS (fun q => wr.heap.size ≤ q) w4 A' c' t)
 (hown : w6.ownsRow (b6 + 1) 25 4 v' (acc.length + 1) (flatE acc ++ (TmE.mk t A' c').cells)) (hg : (w4.alloc o).grownBy w6 v.ownBlock) (hat : v'.ownBlock = v.ownBlock ∨ ∀ q, v'.ownBlock = some q → w4.heap.size ≤ q) :
 RowK w b6 w6 v' (acc ++ [⟨t, A', c'⟩]) := by
 have hs4 := ho.size
 have hs1 := h.below.size
 have hl6 : b6 < wr.heap.size := lt_of_heap h.x6
 have hlt : ∀ q, v.ownBlock = some q → b6 + 1 ≤ q ∧ q < wr.heap.size := fun q hq => h.own.lt q hq
 have hal : Below w4.heap.size w4 (w4.alloc o) := (Below.refl _ _).alloc (Nat.le_refl _) o
 have hk : ∀ q, v.ownBlock ≠ some q → q < w4.heap.size → w6.heap[q]? = w4.heap[q]? := fun q hq hl => (hg.block q (by simp; omega) (fun e => hq e.symm)).trans (hal.block q hl)
 have hs6 : w4.heap.size ≤ w6.heap.size := by have := hg.size; simp at this; omega
 have hR : v.ownBlock ≠ some b6 := fun e => by have := (hlt b6 e).1; omega
 refine ⟨((hk b6 hR (by omega)).trans (ho.block b6 hl6)).trans h.x6, by rw [List.length_append, flatE_snoc]; simpa [flatE] using hown, fun e he => ?_, ?_⟩
 · have hfin : ∀ q, q < w4.heap.size → (b6 < q ∧ v.ownBlock ≠ some q) → (b6 < q ∧ v'.ownBlock ≠ some q) := fun q hq ⟨h1, h2⟩ => ⟨h1, fun e => by
    rcases hat with h3 | h3
    · exact h2 (h3 ▸ e)
    · have := h3 q e; omega⟩
   rcases List.mem_append.1 he with he | he
   · have h1 := (h.vals e he).keep (S' := fun q => (b6 < q ∧ v.ownBlock ≠ some q)) (KeepS.of_below ho) (fun _ _ h => h)
     exact h1.keep ⟨hs6, fun q hq hl => hk q hq.2 hl⟩ hfin
   · rw [List.mem_singleton.1 he]
     have h1 := hV.keep (S' := fun q => (b6 < q ∧ v.ownBlock ≠ some q)) KeepS.refl (fun q _ h => ⟨by omega, fun e => by have := (hlt q e).2; omega⟩)
     exact h1.keep ⟨hs6, fun q hq hl => hk q hq.2 hl⟩ hfin
 · have h1 := h.below.trans (ho.mono hs1)
   refine ⟨by rw [hg.os]; exact h1.os, by rw [hg.tape]; exact h1.tape, by rw [hg.output]; exact h1.output, Nat.le_trans h1.size hs6, fun q hq => ?_⟩
   rw [hk q (fun e => by have := (hlt q e).1; omega) (by omega)]
   exact h1.block q hq
theorem RowK.many {w wr : World} {b6 g cap n : Nat} {acc : List TmE} {op : Int} (h : RowK w b6 wr (.slice (some ⟨g, 0, none⟩) n cap) acc) (hb : b6 = w.heap.size) : TmVS (fun q => w.heap.size < q) wr (some ⟨g, 0, none⟩) cap (tmOf op (acc.map TmE.t)) := by
 rcases h.own.2 with ⟨h9, -⟩ | ⟨g2, cap2, cur, he, hBg, hg, hnc, hcm, hcs, htk⟩
 · cases h9
 · cases he
   refine ⟨by show (acc.map TmE.t).length ≤ cap; rw [List.length_map]; exact hnc, hcm, Nat.zero_le _, .inr ⟨g, 0, rfl, by show w.heap.size < g; omega, lt_of_heap hg, ?_⟩⟩
   refine row_of_cells acc 0 (fun jj vv hv => ?_) (fun e9 he9 => (h.vals e9 he9).keep KeepS.refl (fun q _ h => by have := h.1; omega))
   have h := h.own.cells (g := g) rfl jj vv hv
   rw [addr_add] at h
   exact h
theorem RowK.one {w wr : World} {b6 g cap n : Nat} {e1 : TmE} (h : RowK w b6 wr (.slice (some ⟨g, 0, none⟩) n cap) [e1]) : wr.cell? ⟨g, 0, none⟩ = some (.int .i64 e1.t.op) ∧ wr.cell? ⟨g, 1, none⟩ = some (.int .i64 e1.t.num) ∧ wr.cell? ⟨g, 2, none⟩ = some (.string e1.t.name) ∧ wr.cell? ⟨g, 3, none⟩ = some (.slice e1.A e1.t.kids.length e1.c) := by
 have hcl : ∀ jj vv, (flatE [e1])[jj]? = some vv → wr.cell? ⟨g, jj, none⟩ = some vv := fun jj vv hv => by
  have h := h.own.cells (g := g) rfl jj vv hv
  rw [addr_add, Nat.zero_add] at h
  exact h
 exact ⟨hcl 0 _ rfl, hcl 1 _ rfl, hcl 2 _ rfl, hcl 3 _ rfl⟩
end Go.Proofs.YtnbphgeepnknlaaGreatDoor
namespace Go.Proofs.YtnbphgeepnknlaaGreatDoor
open Go.RowKit
set_option linter.unusedVariables false

set_option maxRecDepth 100000 in
set_option maxHeartbeats 1000000 in
theorem rprow_true (l : List Tok) (d : Nat) (P : Par) (hd : d ≤ 256) (hF : FnR l d 202 P) (hG : GdP l P) (hZ : NzP P) : FnRB l d 175 true (many l 6 P) := by
 intro A c i w hi hP
 obtain ⟨n, b6, w1, F, hlen, hlc, hcm, hs1, X6, HB, HP, HP1, HS, HI, HF, HN, HB6, HW1⟩ := rset A c l w hP (GQ w (many l 6 P i))
 rw [← HF.out, ← HN.out]
 rw [← HN.out] at hi
 clear hP
 have HI1 : Hid (∀ (i : Nat) (W : World), i ≤ l.length → TokIn W A c l → Calls Tryz.prog 202 #[.slice A n c, .int .i64 (i : Nat), .int .i64 ((d : Nat) : Int)] W (GQ W (P i))) := by
  intro i W h1 h2
  have := hF A c i W h1 h2
  rw [← HN.out] at this
  exact this
 obtain ⟨HI1P, hHI1P⟩ : ∃ Q0, Q0 = P := ⟨_, rfl⟩
 rw [← hHI1P] at HI1
 have HI1G : Hid (GdP l HI1P) := by show GdP _ _; rw [hHI1P]; exact hG
 have HI1Z : Hid (NzP HI1P) := by show NzP _; rw [hHI1P]; exact hZ
 have HQHI1 := Lib.hid hHI1P
 clear hHI1P
 clear hF hG hZ
 go_enter Tryz.func175, Tryz.ntmps175
 obtain ⟨r, hr⟩ : ∃ r, r = many l 6 P i := ⟨_, rfl⟩
 have HRE : Hid (F = GQ w r) := by show _ = _; rw [HF.out, hr]
 have HR0 : Hid (((HI1P i).then fun t j => manyF l 6 HI1P l.length ([] ++ [t]) j) = r) := by show _ = _; rw [hr, HQHI1.out]; rfl
 clear hr
 go_wp2_with fail
 rw [← HW1.out]
 try rw [← HB6.out]
 go_loopw [1, 11] (fun si sv wr => ∃ (acc : List TmE) (i fuel : Nat), si = .int .i64 (i : Nat) ∧ RowS w l b6 6 HI1P r wr sv acc i fuel) (fun si _ wr => l.length + 1 - (intOf si).toNat)
 case atStart => exact ⟨[], i, l.length, rfl, ⟨X6.out, World.ownsRow_nil _ _ _ _, fun _ h => by simp at h, HB.out⟩, Nat.zero_le _, by rw [← HN.out]; omega, by omega, HR0.out⟩
 case round =>
  obtain ⟨acc, i, fuel, rfl, hS⟩ := hrel
  have HS := Lib.hid hS
  have hi2 := hS.il
  rw [← HN.out] at hi2
  clear hS X6 HB HP1
  have X6 := Lib.hid HS.out.b.x6
  have HB := Lib.hid HS.out.b.below
  obtain ⟨b7, hb7⟩ : ∃ b, b = wr.heap.size := ⟨_, rfl⟩
  obtain ⟨w5, hw5⟩ : ∃ x, x = wr.alloc (.cells #[.int .i64 0, .int .i64 0, .string ⟨#[]⟩, .slice none 0 0, .int .i64 0, .int .i64 0] 140) := ⟨_, rfl⟩
  have Xb7 : Hid (w5.heap[b7]? = some (.cells #[.int .i64 0, .int .i64 0, .string ⟨#[]⟩, .slice none 0 0, .int .i64 0, .int .i64 0] 140 (0, 0))) := by show _ = _; rw [hw5, hb7]; exact heap_alloc_new wr _
  have NEb7 : Hid (b7 ≠ b6) := by show _ ≠ _; have := lt_of_heap X6.out; omega
  have hal : Below wr.heap.size wr w5 := by rw [hw5]; exact (Below.refl _ _).alloc (Nat.le_refl _) _
  have Qb7 := Lib.hid hb7
  have Qw5 := Lib.hid hw5
  clear hb7 hw5
  have Y6 := Lib.hid ((hal.block b6 (lt_of_heap X6.out)).trans X6.out)
  clear X6
  have X6 := Y6
  clear Y6
  have HBn := Lib.hid (HB.out.trans (hal.mono HB.out.size))
  clear HB
  have HB := HBn
  clear HBn
  have HBW : Hid (Below wr.heap.size wr w5) := hal
  clear hal
  have hcf := HI1.out (i) w5 (by first | omega | (rw [← HN.out]; omega)) (HP.out.below HB.out)
  obtain ⟨r1, hr1⟩ : ∃ r, r = HI1P (i) := ⟨_, rfl⟩
  rw [← hr1] at hcf
  have HC := Lib.hid hcf
  have HGr1 : Hid (∀ x k, r1 = .ok x k → Gd l (i) x k) := fun x k h => HI1G.out (i) x k (by rw [← hr1]; exact h)
  have HZr1 : Hid (∀ k x, r1 = .bad k x → x ≠ 0) := fun k x h => HI1Z.out (i) k x (by rw [← hr1]; exact h)
  have HRr1 := Lib.hid hr1
  clear hcf hr1
  go_wp2_with fail
  rw [← Qw5.out, ← Qb7.out]
  refine (HC.out).mono ?_
  intro e w6 hq
  rcases r1 with ⟨jb, xb⟩ | ⟨t1, j1⟩
  · obtain ⟨A2, c2, rfl, hV, hb2⟩ := gq_bad.1 hq
    have HRR : Hid (F = GQ w (.bad jb xb)) := by show _ = _; rw [HRE.out, ← HS.out.re, ← HRr1.out]; rfl
    have hx := HZr1.out _ _ rfl
    have hxb : (xb != 0) = true := by simpa using hx
    have HV : Hid (TmVS (fun q => b7 < q) w6 A2 c2 zeroTm) := hV.keep KeepS.refl (fun q _ h => by have := lt_of_heap Xb7.out; omega)
    have NLT : Hid (b6 < b7) := by show _ < _; have := Qb7.out; have := lt_of_heap HS.out.b.x6; omega
    have Y6 := Lib.hid ((hb2.block b6 (lt_of_heap X6.out)).trans X6.out)
    clear X6
    have X6 := Y6
    clear Y6
    have Yb7 := Lib.hid ((hb2.block b7 (lt_of_heap Xb7.out)).trans Xb7.out)
    clear Xb7
    have Xb7 := Yb7
    clear Yb7
    have HBn := Lib.hid (HB.out.trans (hb2.mono HB.out.size))
    clear HB
    have HB := HBn
    clear HBn
    clear hb2 hV hq HC hx
    have nb7 : b7 ≠ b6 := NEb7.out
    obtain ⟨⟨u0, uz0⟩, ⟨u1, uz1⟩, ⟨u2, uz2⟩, ⟨u3, uz3⟩, ⟨u4, uz4⟩, u5, uz5⟩ := cells6 Xb7.out
    have ul : b7 < w6.heap.size := lt_of_heap Xb7.out
    obtain ⟨⟨v0, vz0⟩, ⟨v1, vz1⟩, ⟨v2, vz2⟩, ⟨v3, vz3⟩, ⟨v4, vz4⟩, v5, vz5⟩ := cells6 X6.out
    have vl : b6 < w6.heap.size := lt_of_heap X6.out
    go_wp2_with fail
    clear u0 uz0 u1 uz1 u2 uz2 u3 uz3 u4 uz4 u5 uz5 ul
    clear v0 vz0 v1 vz1 v2 vz2 v3 vz3 v4 vz4 v5 vz5 vl
    refine bodyPost_ret (results_cell_row (t := 140) (fr := (0, 0)) rfl _ _ b6 _ _ rfl (res6 ((sets6_far nb7.symm).trans X6.out)) Tryz.underlying140 rfl (by kernel_rfl)) rfl ?_
    rw [HRR.out]
    exact gq_end2 (r := .bad jb xb) (A' := A2) (c' := c2) _ _ _ _ _ _ _ _ _ _ _ _ HB6.out (by have := HB6.out; have := NLT.out; omega) HV.out HB.out
  · obtain ⟨A1, c1, rfl, hV, hb2⟩ := gq_ok.1 hq
    have HGO : Hid (manyF l 6 HI1P fuel (acc.map TmE.t ++ [t1]) j1 = r) := by show _ = _; rw [← HS.out.re, ← HRr1.out]; rfl
    have HV1 : Hid (TmVS (fun q => b7 < q) w6 A1 c1 t1) := hV.keep KeepS.refl (fun q _ h => by have := lt_of_heap Xb7.out; omega)
    have hgd := HGr1.out _ _ rfl
    have hij_j1 := hgd.ij
    have hjl_j1 := hgd.jl
    rw [← HN.out] at hjl_j1
    clear hgd
    obtain ⟨n1, hn1⟩ : ∃ m, m = t1.kids.length := ⟨_, rfl⟩
    rw [← hn1]
    have HQn1 := Lib.hid hn1
    clear hn1
    have HBW6 : Hid (Below wr.heap.size wr w6) := HBW.out.trans (hb2.mono HBW.out.size)
    have Y6 := Lib.hid ((hb2.block b6 (lt_of_heap X6.out)).trans X6.out)
    clear X6
    have X6 := Y6
    clear Y6
    have Yb7 := Lib.hid ((hb2.block b7 (lt_of_heap Xb7.out)).trans Xb7.out)
    clear Xb7
    have Xb7 := Yb7
    clear Yb7
    have HBn := Lib.hid (HB.out.trans (hb2.mono HB.out.size))
    clear HB
    have HB := HBn
    clear HBn
    clear hb2 hV hq HC
    obtain ⟨w7, hw7⟩ : ∃ x, x = ((((((w6.setCell ⟨b7, 0, none⟩ (.int .i64 t1.op)).setCell ⟨b7, 1, none⟩ (.int .i64 t1.num)).setCell ⟨b7, 2, none⟩ (.string t1.name)).setCell ⟨b7, 3, none⟩ (.slice A1 n1 c1)).setCell ⟨b7, 4, none⟩ (.int .i64 (j1 : Nat))).setCell ⟨b7, 5, none⟩ (.int .i64 0)) := ⟨_, rfl⟩
    have nb7 : b7 ≠ b6 := NEb7.out
    have YX6 : Hid (w7.heap[b6]? = some (.cells #[.int .i64 0, .int .i64 0, .string ⟨#[]⟩, .slice none 0 0, .int .i64 0, .int .i64 0] 140 (0, 0))) := by show _ = _; rw [hw7]; exact (sets6_far nb7.symm).trans X6.out
    have YX7 : Hid (w7.heap[b7]? = some (.cells #[.int .i64 t1.op, .int .i64 t1.num, .string t1.name, .slice A1 n1 c1, .int .i64 (j1 : Nat), .int .i64 0] 140 (0, 0))) := by show _ = _; rw [hw7]; exact res6 Xb7.out
    have YV1 : Hid (TmVS (fun q => b7 < q) w7 A1 c1 t1) := by show TmVS _ _ _ _ _; rw [hw7]; exact HV1.out.keep (keep6 (by simp)) (fun q _ h => h)
    have Qw7 := Lib.hid hw7
    clear hw7
    have HBS : Hid (Below wr.heap.size wr ((((((w6.setCell ⟨b7, 0, none⟩ (.int .i64 t1.op)).setCell ⟨b7, 1, none⟩ (.int .i64 t1.num)).setCell ⟨b7, 2, none⟩ (.string t1.name)).setCell ⟨b7, 3, none⟩ (.slice A1 n1 c1)).setCell ⟨b7, 4, none⟩ (.int .i64 (j1 : Nat))).setCell ⟨b7, 5, none⟩ (.int .i64 0))) := below6 HBW6.out (by have := Qb7.out; omega)
    obtain ⟨n, hnn⟩ : ∃ m, m = acc.length := ⟨_, rfl⟩
    have HNN := Lib.hid hnn
    have HO7 : Hid (((((((w6.setCell ⟨b7, 0, none⟩ (.int .i64 t1.op)).setCell ⟨b7, 1, none⟩ (.int .i64 t1.num)).setCell ⟨b7, 2, none⟩ (.string t1.name)).setCell ⟨b7, 3, none⟩ (.slice A1 n1 c1)).setCell ⟨b7, 4, none⟩ (.int .i64 (j1 : Nat))).setCell ⟨b7, 5, none⟩ (.int .i64 0)).ownsRow (b6 + 1) 25 4 u11 n (flatE acc)) := by show World.ownsRow _ _ _ _ _ _ _; rw [hnn]; exact own_below HS.out.b.own HBS.out
    have hcnt := HS.out.cnt
    rw [← hnn] at hcnt
    have hsz7 : ((((((w6.setCell ⟨b7, 0, none⟩ (.int .i64 t1.op)).setCell ⟨b7, 1, none⟩ (.int .i64 t1.num)).setCell ⟨b7, 2, none⟩ (.string t1.name)).setCell ⟨b7, 3, none⟩ (.slice A1 n1 c1)).setCell ⟨b7, 4, none⟩ (.int .i64 (j1 : Nat))).setCell ⟨b7, 5, none⟩ (.int .i64 0)).heap.size = w6.heap.size := by simp
    clear hnn
    obtain ⟨i0, hi0, hz0, hz1, hz2⟩ := info_parts infoTm
    obtain ⟨⟨u0, uz0⟩, ⟨u1, uz1⟩, ⟨u2, uz2⟩, ⟨u3, uz3⟩, ⟨u4, uz4⟩, u5, uz5⟩ := cells6 Xb7.out
    have ul : b7 < w6.heap.size := lt_of_heap Xb7.out
    go_wp2_with (at_builtin; refine wpList_append_lies _ (by rfl) _ _ _ (by rfl) (b6 + 1) 25 i0 (.agg #[.int .i64 0, .int .i64 0, .string ⟨#[]⟩, .slice none 0 0]) 4 56 Tryz.underlying23 hi0 hz0 hz1 hz2 rfl (by decide) _ n _ (by rfl) (HO7.out.alloc _) ⟨w6.heap.size, 0, none⟩ 1 1 [.int .i64 t1.op, .int .i64 t1.num, .string t1.name, .slice A1 n1 c1] (by rfl) rfl (World.news_of_block (by rw [← hsz7]; exact heap_alloc_new _ _)) (fun u hu => by simp at hu; rcases hu with rfl | rfl | rfl | rfl <;> rfl) (by decide) ?c3 ?c4 ?c5 (w6.heap.size + 1) (by simp) ?_)
    case c3 => unfold maxLen; omega
    case c4 => omega
    case c5 => simp; have := lt_of_heap X6.out; omega
    intro g cap w8 hown8 hgrow8 hat8 hlt8
    clear u0 uz0 u1 uz1 u2 uz2 u3 uz3 u4 uz4 u5 uz5 ul
    have hBb := HS.out.b.next (acc := acc) (t := t1) (A' := A1) (c' := c1) HB6.out HBS.out ((HV1.out.keep (keep6 (by simp)) (fun q _ h => by have := Qb7.out; omega))) (by rw [← HNN.out]; unfold TmE.cells; simp only; rw [← HQn1.out]; exact hown8) hgrow8 (by
     rcases hat8 with h | h
     · exact .inl h.symm
     · refine .inr (fun q hq => ?_)
       have e : g = q := by simpa [Value.ownBlock] using hq
       simp
       omega)
    have hown7 : u11.ownBlock ≠ some b7 := fun e => by have := (HS.out.b.own.lt b7 e).2; have := Qb7.out; omega
    have Yb7 : Hid (w8.heap[b7]? = some (.cells #[.int .i64 t1.op, .int .i64 t1.num, .string t1.name, .slice A1 n1 c1, .int .i64 (j1 : Nat), .int .i64 0] 140 (0, 0))) := by
     show _ = _
     refine (hgrow8.block b7 (by simp; have := lt_of_heap Xb7.out; omega) (fun e => hown7 e.symm)).trans ?_
     exact alloc_keep (res6 Xb7.out)
    clear Xb7 X6 HB HV1 hown8 hgrow8 hat8 hown7 HO7 HBS YX6 YX7 YV1 Qw7 HBW6 HBW
    have Xb7 := Yb7
    have HBb := Lib.hid hBb
    have X6 := Lib.hid hBb.x6
    have HB := Lib.hid hBb.below
    clear Yb7 hBb
    obtain ⟨m, hm⟩ : ∃ m, m = n + 1 := ⟨_, rfl⟩
    rw [← hm]
    rw [← hm] at HBb
    have HM := Lib.hid hm
    clear hm
    have hI := rpsign_any A c j1 l ⟨#[38]⟩ w8 (HP.out.below HB.out) (by omega)
    rw [← HN.out] at hI
    have hw9 : whichOp l j1 [6] = if isTk l j1 4 [38] then 6 else 0 := rfl
    by_cases hcl : isTk l j1 4 [38] = true
    · rw [show isTk l j1 4 (bs ⟨#[38]⟩) = true from hcl] at hI
      rw [if_pos hcl] at hw9
      have HC := Lib.hid hI
      have hjl2 := isTk_lt hcl
      obtain ⟨fu, hfu⟩ : ∃ fu, fuel = fu + 1 := ⟨fuel - 1, by have := HS.out.fu; omega⟩
      have HRN : Hid (((HI1P (j1 + 1)).then fun u j => manyF l 6 HI1P fu ((acc ++ [TmE.mk t1 A1 c1]).map TmE.t ++ [u]) j) = r) := by
       show _ = _
       rw [← HGO.out, hfu, many_go (by rw [hw9]; decide), List.map_append]
       rfl
      have HFU : Hid (l.length ≤ fu + (j1 + 1)) := by show _ ≤ _; have := HS.out.fu; omega
      clear hI hcl hw9 hfu
      obtain ⟨⟨u0, uz0⟩, ⟨u1, uz1⟩, ⟨u2, uz2⟩, ⟨u3, uz3⟩, ⟨u4, uz4⟩, u5, uz5⟩ := cells6 Xb7.out
      have ul : b7 < w8.heap.size := lt_of_heap Xb7.out
      go_wp2_with fail
      refine (HC.out).mono ?_
      rintro e w' ⟨rfl, hww⟩
      rw [hww]
      clear hww HC
      go_wp2_with fail
      clear u0 uz0 u1 uz1 u2 uz2 u3 uz3 u4 uz4 u5 uz5 ul
      go_roundw
      case rel => exact ⟨acc ++ [⟨t1, A1, c1⟩], j1 + 1, fu, by go_num, ⟨HBb.out, by rw [List.length_append, ← HNN.out]; simp; omega, by have := HN.out; omega, HFU.out, HRN.out⟩⟩
      case measure => simp [intOf]; have := HN.out; omega
    · have hcf : isTk l j1 4 [38] = false := by simpa using hcl
      rw [if_neg hcl] at hw9
      rw [show isTk l j1 4 (bs ⟨#[38]⟩) = false from hcf] at hI
      have HC := Lib.hid hI
      have HRR : Hid (F = GQ w (.ok (manyEnd 6 ((acc ++ [TmE.mk t1 A1 c1]).map TmE.t)) j1)) := by show _ = _; rw [HRE.out, ← HGO.out, many_stop hw9, List.map_append]; rfl
      clear hI hcl hcf hw9
      by_cases hm1 : m = 1
      · subst hm1
        obtain rfl : acc = [] := List.eq_nil_of_length_eq_zero (by have := HM.out; have := HNN.out; omega)
        obtain ⟨y0, y1, y2, y3⟩ := HBb.out.one
        obtain ⟨⟨u0, uz0⟩, ⟨u1, uz1⟩, ⟨u2, uz2⟩, ⟨u3, uz3⟩, ⟨u4, uz4⟩, u5, uz5⟩ := cells6 Xb7.out
        have ul : b7 < w8.heap.size := lt_of_heap Xb7.out
        obtain ⟨⟨v0, vz0⟩, ⟨v1, vz1⟩, ⟨v2, vz2⟩, ⟨v3, vz3⟩, ⟨v4, vz4⟩, v5, vz5⟩ := cells6 X6.out
        have vl : b6 < w8.heap.size := lt_of_heap X6.out
        go_wp2_with fail
        refine (HC.out).mono ?_
        rintro e w' ⟨rfl, hww⟩
        rw [hww]
        clear hww HC
        go_wp2_with fail
        clear u0 uz0 u1 uz1 u2 uz2 u3 uz3 u4 uz4 u5 uz5 ul
        clear v0 vz0 v1 vz1 v2 vz2 v3 vz3 v4 vz4 v5 vz5 vl
        clear y0 y1 y2 y3
        refine bodyPost_ret (results_cell_row (t := 140) (fr := (0, 0)) rfl _ _ b6 _ _ rfl (res6 X6.out) Tryz.underlying140 rfl (by kernel_rfl)) rfl ?_
        rw [HRR.out]
        exact gq_end (r := .ok t1 j1) (A' := A1) (c' := c1) _ _ _ _ _ _ HB6.out ((HBb.out.vals ⟨t1, A1, c1⟩ (by simp)).keep KeepS.refl (fun q _ h => by have := h.1; have := HB6.out; omega)) HB.out
      · have hmb : ((m : Int) == 1) = false := by simp; omega
        have HM1 : Hid (m ≠ 1) := hm1
        clear hm1
        have hml : ((acc ++ [TmE.mk t1 A1 c1]).map TmE.t).length = m := by rw [List.length_map, List.length_append, ← HNN.out, HM.out]; rfl
        have HMV := Lib.hid (HBb.out.many (op := 6) HB6.out)
        have HML := Lib.hid hml
        clear hml
        obtain ⟨⟨u0, uz0⟩, ⟨u1, uz1⟩, ⟨u2, uz2⟩, ⟨u3, uz3⟩, ⟨u4, uz4⟩, u5, uz5⟩ := cells6 Xb7.out
        have ul : b7 < w8.heap.size := lt_of_heap Xb7.out
        obtain ⟨⟨v0, vz0⟩, ⟨v1, vz1⟩, ⟨v2, vz2⟩, ⟨v3, vz3⟩, ⟨v4, vz4⟩, v5, vz5⟩ := cells6 X6.out
        have vl : b6 < w8.heap.size := lt_of_heap X6.out
        go_wp2_with fail
        refine (HC.out).mono ?_
        rintro e w' ⟨rfl, hww⟩
        rw [hww]
        clear hww HC
        go_wp2_with fail
        clear u0 uz0 u1 uz1 u2 uz2 u3 uz3 u4 uz4 u5 uz5 ul
        clear v0 vz0 v1 vz1 v2 vz2 v3 vz3 v4 vz4 v5 vz5 vl
        refine bodyPost_ret (results_cell_row (t := 140) (fr := (0, 0)) rfl _ _ b6 _ _ rfl (res6 X6.out) Tryz.underlying140 rfl (by kernel_rfl)) rfl ?_
        rw [HRR.out, manyEnd_two (by rw [HML.out]; exact HM1.out)]
        have hend := gq_end (r := .ok (tmOf 6 ((acc ++ [TmE.mk t1 A1 c1]).map TmE.t)) j1) (A' := some ⟨g, 0, none⟩) (c' := cap) (.int .i64 6) (.int .i64 0) (.string ⟨#[]⟩) (.slice (some ⟨g, 0, none⟩) m cap) (.int .i64 (j1 : Nat)) (.int .i64 0) HB6.out HMV.out HB.out
        have hk : (gotT (.ok (tmOf 6 ((acc ++ [TmE.mk t1 A1 c1]).map TmE.t)) j1)).kids.length = m := HML.out
        rw [hk] at hend
        exact hend
end Go.Proofs.YtnbphgeepnknlaaGreatDoor
namespace Go.Proofs.YtnbphgeepnknlaaGreatDoor
open Go.RowKit
set_option linter.unusedVariables false

set_option maxRecDepth 100000 in
set_option maxHeartbeats 1000000 in
theorem rprow_false (l : List Tok) (d : Nat) (P : Par) (hd : d ≤ 256) (hF : FnRB l d 175 true P) (hG : GdP l P) (hZ : NzP P) : FnRB l d 175 false (many l 7 P) := by
 intro A c i w hi hP
 obtain ⟨n, b6, w1, F, hlen, hlc, hcm, hs1, X6, HB, HP, HP1, HS, HI, HF, HN, HB6, HW1⟩ := rset A c l w hP (GQ w (many l 7 P i))
 rw [← HF.out, ← HN.out]
 rw [← HN.out] at hi
 clear hP
 have HI1 : Hid (∀ (i : Nat) (W : World), i ≤ l.length → TokIn W A c l → Calls Tryz.prog 175 #[.slice A n c, .int .i64 (i : Nat), .int .i64 ((d : Nat) : Int), .bool true] W (GQ W (P i))) := by
  intro i W h1 h2
  have := hF A c i W h1 h2
  rw [← HN.out] at this
  exact this
 obtain ⟨HI1P, hHI1P⟩ : ∃ Q0, Q0 = P := ⟨_, rfl⟩
 rw [← hHI1P] at HI1
 have HI1G : Hid (GdP l HI1P) := by show GdP _ _; rw [hHI1P]; exact hG
 have HI1Z : Hid (NzP HI1P) := by show NzP _; rw [hHI1P]; exact hZ
 have HQHI1 := Lib.hid hHI1P
 clear hHI1P
 clear hF hG hZ
 go_enter Tryz.func175, Tryz.ntmps175
 obtain ⟨r, hr⟩ : ∃ r, r = many l 7 P i := ⟨_, rfl⟩
 have HRE : Hid (F = GQ w r) := by show _ = _; rw [HF.out, hr]
 have HR0 : Hid (((HI1P i).then fun t j => manyF l 7 HI1P l.length ([] ++ [t]) j) = r) := by show _ = _; rw [hr, HQHI1.out]; rfl
 clear hr
 go_wp2_with fail
 rw [← HW1.out]
 try rw [← HB6.out]
 go_loopw [1, 11] (fun si sv wr => ∃ (acc : List TmE) (i fuel : Nat), si = .int .i64 (i : Nat) ∧ RowS w l b6 7 HI1P r wr sv acc i fuel) (fun si _ wr => l.length + 1 - (intOf si).toNat)
 case atStart => exact ⟨[], i, l.length, rfl, ⟨X6.out, World.ownsRow_nil _ _ _ _, fun _ h => by simp at h, HB.out⟩, Nat.zero_le _, by rw [← HN.out]; omega, by omega, HR0.out⟩
 case round =>
  obtain ⟨acc, i, fuel, rfl, hS⟩ := hrel
  have HS := Lib.hid hS
  have hi2 := hS.il
  rw [← HN.out] at hi2
  clear hS X6 HB HP1
  have X6 := Lib.hid HS.out.b.x6
  have HB := Lib.hid HS.out.b.below
  obtain ⟨b7, hb7⟩ : ∃ b, b = wr.heap.size := ⟨_, rfl⟩
  obtain ⟨w5, hw5⟩ : ∃ x, x = wr.alloc (.cells #[.int .i64 0, .int .i64 0, .string ⟨#[]⟩, .slice none 0 0, .int .i64 0, .int .i64 0] 140) := ⟨_, rfl⟩
  have Xb7 : Hid (w5.heap[b7]? = some (.cells #[.int .i64 0, .int .i64 0, .string ⟨#[]⟩, .slice none 0 0, .int .i64 0, .int .i64 0] 140 (0, 0))) := by show _ = _; rw [hw5, hb7]; exact heap_alloc_new wr _
  have NEb7 : Hid (b7 ≠ b6) := by show _ ≠ _; have := lt_of_heap X6.out; omega
  have hal : Below wr.heap.size wr w5 := by rw [hw5]; exact (Below.refl _ _).alloc (Nat.le_refl _) _
  have Qb7 := Lib.hid hb7
  have Qw5 := Lib.hid hw5
  clear hb7 hw5
  have Y6 := Lib.hid ((hal.block b6 (lt_of_heap X6.out)).trans X6.out)
  clear X6
  have X6 := Y6
  clear Y6
  have HBn := Lib.hid (HB.out.trans (hal.mono HB.out.size))
  clear HB
  have HB := HBn
  clear HBn
  have HBW : Hid (Below wr.heap.size wr w5) := hal
  clear hal
  have hcf := HI1.out (i) w5 (by first | omega | (rw [← HN.out]; omega)) (HP.out.below HB.out)
  obtain ⟨r1, hr1⟩ : ∃ r, r = HI1P (i) := ⟨_, rfl⟩
  rw [← hr1] at hcf
  have HC := Lib.hid hcf
  have HGr1 : Hid (∀ x k, r1 = .ok x k → Gd l (i) x k) := fun x k h => HI1G.out (i) x k (by rw [← hr1]; exact h)
  have HZr1 : Hid (∀ k x, r1 = .bad k x → x ≠ 0) := fun k x h => HI1Z.out (i) k x (by rw [← hr1]; exact h)
  have HRr1 := Lib.hid hr1
  clear hcf hr1
  go_wp2_with fail
  rw [← Qw5.out, ← Qb7.out]
  refine (HC.out).mono ?_
  intro e w6 hq
  rcases r1 with ⟨jb, xb⟩ | ⟨t1, j1⟩
  · obtain ⟨A2, c2, rfl, hV, hb2⟩ := gq_bad.1 hq
    have HRR : Hid (F = GQ w (.bad jb xb)) := by show _ = _; rw [HRE.out, ← HS.out.re, ← HRr1.out]; rfl
    have hx := HZr1.out _ _ rfl
    have hxb : (xb != 0) = true := by simpa using hx
    have HV : Hid (TmVS (fun q => b7 < q) w6 A2 c2 zeroTm) := hV.keep KeepS.refl (fun q _ h => by have := lt_of_heap Xb7.out; omega)
    have NLT : Hid (b6 < b7) := by show _ < _; have := Qb7.out; have := lt_of_heap HS.out.b.x6; omega
    have Y6 := Lib.hid ((hb2.block b6 (lt_of_heap X6.out)).trans X6.out)
    clear X6
    have X6 := Y6
    clear Y6
    have Yb7 := Lib.hid ((hb2.block b7 (lt_of_heap Xb7.out)).trans Xb7.out)
    clear Xb7
    have Xb7 := Yb7
    clear Yb7
    have HBn := Lib.hid (HB.out.trans (hb2.mono HB.out.size))
    clear HB
    have HB := HBn
    clear HBn
    clear hb2 hV hq HC hx
    have nb7 : b7 ≠ b6 := NEb7.out
    obtain ⟨⟨u0, uz0⟩, ⟨u1, uz1⟩, ⟨u2, uz2⟩, ⟨u3, uz3⟩, ⟨u4, uz4⟩, u5, uz5⟩ := cells6 Xb7.out
    have ul : b7 < w6.heap.size := lt_of_heap Xb7.out
    obtain ⟨⟨v0, vz0⟩, ⟨v1, vz1⟩, ⟨v2, vz2⟩, ⟨v3, vz3⟩, ⟨v4, vz4⟩, v5, vz5⟩ := cells6 X6.out
    have vl : b6 < w6.heap.size := lt_of_heap X6.out
    go_wp2_with fail
    clear u0 uz0 u1 uz1 u2 uz2 u3 uz3 u4 uz4 u5 uz5 ul
    clear v0 vz0 v1 vz1 v2 vz2 v3 vz3 v4 vz4 v5 vz5 vl
    refine bodyPost_ret (results_cell_row (t := 140) (fr := (0, 0)) rfl _ _ b6 _ _ rfl (res6 ((sets6_far nb7.symm).trans X6.out)) Tryz.underlying140 rfl (by kernel_rfl)) rfl ?_
    rw [HRR.out]
    exact gq_end2 (r := .bad jb xb) (A' := A2) (c' := c2) _ _ _ _ _ _ _ _ _ _ _ _ HB6.out (by have := HB6.out; have := NLT.out; omega) HV.out HB.out
  · obtain ⟨A1, c1, rfl, hV, hb2⟩ := gq_ok.1 hq
    have HGO : Hid (manyF l 7 HI1P fuel (acc.map TmE.t ++ [t1]) j1 = r) := by show _ = _; rw [← HS.out.re, ← HRr1.out]; rfl
    have HV1 : Hid (TmVS (fun q => b7 < q) w6 A1 c1 t1) := hV.keep KeepS.refl (fun q _ h => by have := lt_of_heap Xb7.out; omega)
    have hgd := HGr1.out _ _ rfl
    have hij_j1 := hgd.ij
    have hjl_j1 := hgd.jl
    rw [← HN.out] at hjl_j1
    clear hgd
    obtain ⟨n1, hn1⟩ : ∃ m, m = t1.kids.length := ⟨_, rfl⟩
    rw [← hn1]
    have HQn1 := Lib.hid hn1
    clear hn1
    have HBW6 : Hid (Below wr.heap.size wr w6) := HBW.out.trans (hb2.mono HBW.out.size)
    have Y6 := Lib.hid ((hb2.block b6 (lt_of_heap X6.out)).trans X6.out)
    clear X6
    have X6 := Y6
    clear Y6
    have Yb7 := Lib.hid ((hb2.block b7 (lt_of_heap Xb7.out)).trans Xb7.out)
    clear Xb7
    have Xb7 := Yb7
    clear Yb7
    have HBn := Lib.hid (HB.out.trans (hb2.mono HB.out.size))
    clear HB
    have HB := HBn
    clear HBn
    clear hb2 hV hq HC
    obtain ⟨w7, hw7⟩ : ∃ x, x = ((((((w6.setCell ⟨b7, 0, none⟩ (.int .i64 t1.op)).setCell ⟨b7, 1, none⟩ (.int .i64 t1.num)).setCell ⟨b7, 2, none⟩ (.string t1.name)).setCell ⟨b7, 3, none⟩ (.slice A1 n1 c1)).setCell ⟨b7, 4, none⟩ (.int .i64 (j1 : Nat))).setCell ⟨b7, 5, none⟩ (.int .i64 0)) := ⟨_, rfl⟩
    have nb7 : b7 ≠ b6 := NEb7.out
    have YX6 : Hid (w7.heap[b6]? = some (.cells #[.int .i64 0, .int .i64 0, .string ⟨#[]⟩, .slice none 0 0, .int .i64 0, .int .i64 0] 140 (0, 0))) := by show _ = _; rw [hw7]; exact (sets6_far nb7.symm).trans X6.out
    have YX7 : Hid (w7.heap[b7]? = some (.cells #[.int .i64 t1.op, .int .i64 t1.num, .string t1.name, .slice A1 n1 c1, .int .i64 (j1 : Nat), .int .i64 0] 140 (0, 0))) := by show _ = _; rw [hw7]; exact res6 Xb7.out
    have YV1 : Hid (TmVS (fun q => b7 < q) w7 A1 c1 t1) := by show TmVS _ _ _ _ _; rw [hw7]; exact HV1.out.keep (keep6 (by simp)) (fun q _ h => h)
    have Qw7 := Lib.hid hw7
    clear hw7
    have HBS : Hid (Below wr.heap.size wr ((((((w6.setCell ⟨b7, 0, none⟩ (.int .i64 t1.op)).setCell ⟨b7, 1, none⟩ (.int .i64 t1.num)).setCell ⟨b7, 2, none⟩ (.string t1.name)).setCell ⟨b7, 3, none⟩ (.slice A1 n1 c1)).setCell ⟨b7, 4, none⟩ (.int .i64 (j1 : Nat))).setCell ⟨b7, 5, none⟩ (.int .i64 0))) := below6 HBW6.out (by have := Qb7.out; omega)
    obtain ⟨n, hnn⟩ : ∃ m, m = acc.length := ⟨_, rfl⟩
    have HNN := Lib.hid hnn
    have HO7 : Hid (((((((w6.setCell ⟨b7, 0, none⟩ (.int .i64 t1.op)).setCell ⟨b7, 1, none⟩ (.int .i64 t1.num)).setCell ⟨b7, 2, none⟩ (.string t1.name)).setCell ⟨b7, 3, none⟩ (.slice A1 n1 c1)).setCell ⟨b7, 4, none⟩ (.int .i64 (j1 : Nat))).setCell ⟨b7, 5, none⟩ (.int .i64 0)).ownsRow (b6 + 1) 25 4 u11 n (flatE acc)) := by show World.ownsRow _ _ _ _ _ _ _; rw [hnn]; exact own_below HS.out.b.own HBS.out
    have hcnt := HS.out.cnt
    rw [← hnn] at hcnt
    have hsz7 : ((((((w6.setCell ⟨b7, 0, none⟩ (.int .i64 t1.op)).setCell ⟨b7, 1, none⟩ (.int .i64 t1.num)).setCell ⟨b7, 2, none⟩ (.string t1.name)).setCell ⟨b7, 3, none⟩ (.slice A1 n1 c1)).setCell ⟨b7, 4, none⟩ (.int .i64 (j1 : Nat))).setCell ⟨b7, 5, none⟩ (.int .i64 0)).heap.size = w6.heap.size := by simp
    clear hnn
    obtain ⟨i0, hi0, hz0, hz1, hz2⟩ := info_parts infoTm
    obtain ⟨⟨u0, uz0⟩, ⟨u1, uz1⟩, ⟨u2, uz2⟩, ⟨u3, uz3⟩, ⟨u4, uz4⟩, u5, uz5⟩ := cells6 Xb7.out
    have ul : b7 < w6.heap.size := lt_of_heap Xb7.out
    go_wp2_with (at_builtin; refine wpList_append_lies _ (by rfl) _ _ _ (by rfl) (b6 + 1) 25 i0 (.agg #[.int .i64 0, .int .i64 0, .string ⟨#[]⟩, .slice none 0 0]) 4 56 Tryz.underlying23 hi0 hz0 hz1 hz2 rfl (by decide) _ n _ (by rfl) (HO7.out.alloc _) ⟨w6.heap.size, 0, none⟩ 1 1 [.int .i64 t1.op, .int .i64 t1.num, .string t1.name, .slice A1 n1 c1] (by rfl) rfl (World.news_of_block (by rw [← hsz7]; exact heap_alloc_new _ _)) (fun u hu => by simp at hu; rcases hu with rfl | rfl | rfl | rfl <;> rfl) (by decide) ?c3 ?c4 ?c5 (w6.heap.size + 1) (by simp) ?_)
    case c3 => unfold maxLen; omega
    case c4 => omega
    case c5 => simp; have := lt_of_heap X6.out; omega
    intro g cap w8 hown8 hgrow8 hat8 hlt8
    clear u0 uz0 u1 uz1 u2 uz2 u3 uz3 u4 uz4 u5 uz5 ul
    have hBb := HS.out.b.next (acc := acc) (t := t1) (A' := A1) (c' := c1) HB6.out HBS.out ((HV1.out.keep (keep6 (by simp)) (fun q _ h => by have := Qb7.out; omega))) (by rw [← HNN.out]; unfold TmE.cells; simp only; rw [← HQn1.out]; exact hown8) hgrow8 (by
     rcases hat8 with h | h
     · exact .inl h.symm
     · refine .inr (fun q hq => ?_)
       have e : g = q := by simpa [Value.ownBlock] using hq
       simp
       omega)
    have hown7 : u11.ownBlock ≠ some b7 := fun e => by have := (HS.out.b.own.lt b7 e).2; have := Qb7.out; omega
    have Yb7 : Hid (w8.heap[b7]? = some (.cells #[.int .i64 t1.op, .int .i64 t1.num, .string t1.name, .slice A1 n1 c1, .int .i64 (j1 : Nat), .int .i64 0] 140 (0, 0))) := by
     show _ = _
     refine (hgrow8.block b7 (by simp; have := lt_of_heap Xb7.out; omega) (fun e => hown7 e.symm)).trans ?_
     exact alloc_keep (res6 Xb7.out)
    clear Xb7 X6 HB HV1 hown8 hgrow8 hat8 hown7 HO7 HBS YX6 YX7 YV1 Qw7 HBW6 HBW
    have Xb7 := Yb7
    have HBb := Lib.hid hBb
    have X6 := Lib.hid hBb.x6
    have HB := Lib.hid hBb.below
    clear Yb7 hBb
    obtain ⟨m, hm⟩ : ∃ m, m = n + 1 := ⟨_, rfl⟩
    rw [← hm]
    rw [← hm] at HBb
    have HM := Lib.hid hm
    clear hm
    have hI := rpsign_any A c j1 l ⟨#[124]⟩ w8 (HP.out.below HB.out) (by omega)
    rw [← HN.out] at hI
    have hw9 : whichOp l j1 [7] = if isTk l j1 4 [124] then 7 else 0 := rfl
    by_cases hcl : isTk l j1 4 [124] = true
    · rw [show isTk l j1 4 (bs ⟨#[124]⟩) = true from hcl] at hI
      rw [if_pos hcl] at hw9
      have HC := Lib.hid hI
      have hjl2 := isTk_lt hcl
      obtain ⟨fu, hfu⟩ : ∃ fu, fuel = fu + 1 := ⟨fuel - 1, by have := HS.out.fu; omega⟩
      have HRN : Hid (((HI1P (j1 + 1)).then fun u j => manyF l 7 HI1P fu ((acc ++ [TmE.mk t1 A1 c1]).map TmE.t ++ [u]) j) = r) := by
       show _ = _
       rw [← HGO.out, hfu, many_go (by rw [hw9]; decide), List.map_append]
       rfl
      have HFU : Hid (l.length ≤ fu + (j1 + 1)) := by show _ ≤ _; have := HS.out.fu; omega
      clear hI hcl hw9 hfu
      obtain ⟨⟨u0, uz0⟩, ⟨u1, uz1⟩, ⟨u2, uz2⟩, ⟨u3, uz3⟩, ⟨u4, uz4⟩, u5, uz5⟩ := cells6 Xb7.out
      have ul : b7 < w8.heap.size := lt_of_heap Xb7.out
      go_wp2_with fail
      refine (HC.out).mono ?_
      rintro e w' ⟨rfl, hww⟩
      rw [hww]
      clear hww HC
      go_wp2_with fail
      clear u0 uz0 u1 uz1 u2 uz2 u3 uz3 u4 uz4 u5 uz5 ul
      go_roundw
      case rel => exact ⟨acc ++ [⟨t1, A1, c1⟩], j1 + 1, fu, by go_num, ⟨HBb.out, by rw [List.length_append, ← HNN.out]; simp; omega, by have := HN.out; omega, HFU.out, HRN.out⟩⟩
      case measure => simp [intOf]; have := HN.out; omega
    · have hcf : isTk l j1 4 [124] = false := by simpa using hcl
      rw [if_neg hcl] at hw9
      rw [show isTk l j1 4 (bs ⟨#[124]⟩) = false from hcf] at hI
      have HC := Lib.hid hI
      have HRR : Hid (F = GQ w (.ok (manyEnd 7 ((acc ++ [TmE.mk t1 A1 c1]).map TmE.t)) j1)) := by show _ = _; rw [HRE.out, ← HGO.out, many_stop hw9, List.map_append]; rfl
      clear hI hcl hcf hw9
      by_cases hm1 : m = 1
      · subst hm1
        obtain rfl : acc = [] := List.eq_nil_of_length_eq_zero (by have := HM.out; have := HNN.out; omega)
        obtain ⟨y0, y1, y2, y3⟩ := HBb.out.one
        obtain ⟨⟨u0, uz0⟩, ⟨u1, uz1⟩, ⟨u2, uz2⟩, ⟨u3, uz3⟩, ⟨u4, uz4⟩, u5, uz5⟩ := cells6 Xb7.out
        have ul : b7 < w8.heap.size := lt_of_heap Xb7.out
        obtain ⟨⟨v0, vz0⟩, ⟨v1, vz1⟩, ⟨v2, vz2⟩, ⟨v3, vz3⟩, ⟨v4, vz4⟩, v5, vz5⟩ := cells6 X6.out
        have vl : b6 < w8.heap.size := lt_of_heap X6.out
        go_wp2_with fail
        refine (HC.out).mono ?_
        rintro e w' ⟨rfl, hww⟩
        rw [hww]
        clear hww HC
        go_wp2_with fail
        clear u0 uz0 u1 uz1 u2 uz2 u3 uz3 u4 uz4 u5 uz5 ul
        clear v0 vz0 v1 vz1 v2 vz2 v3 vz3 v4 vz4 v5 vz5 vl
        clear y0 y1 y2 y3
        refine bodyPost_ret (results_cell_row (t := 140) (fr := (0, 0)) rfl _ _ b6 _ _ rfl (res6 X6.out) Tryz.underlying140 rfl (by kernel_rfl)) rfl ?_
        rw [HRR.out]
        exact gq_end (r := .ok t1 j1) (A' := A1) (c' := c1) _ _ _ _ _ _ HB6.out ((HBb.out.vals ⟨t1, A1, c1⟩ (by simp)).keep KeepS.refl (fun q _ h => by have := h.1; have := HB6.out; omega)) HB.out
      · have hmb : ((m : Int) == 1) = false := by simp; omega
        have HM1 : Hid (m ≠ 1) := hm1
        clear hm1
        have hml : ((acc ++ [TmE.mk t1 A1 c1]).map TmE.t).length = m := by rw [List.length_map, List.length_append, ← HNN.out, HM.out]; rfl
        have HMV := Lib.hid (HBb.out.many (op := 7) HB6.out)
        have HML := Lib.hid hml
        clear hml
        obtain ⟨⟨u0, uz0⟩, ⟨u1, uz1⟩, ⟨u2, uz2⟩, ⟨u3, uz3⟩, ⟨u4, uz4⟩, u5, uz5⟩ := cells6 Xb7.out
        have ul : b7 < w8.heap.size := lt_of_heap Xb7.out
        obtain ⟨⟨v0, vz0⟩, ⟨v1, vz1⟩, ⟨v2, vz2⟩, ⟨v3, vz3⟩, ⟨v4, vz4⟩, v5, vz5⟩ := cells6 X6.out
        have vl : b6 < w8.heap.size := lt_of_heap X6.out
        go_wp2_with fail
        refine (HC.out).mono ?_
        rintro e w' ⟨rfl, hww⟩
        rw [hww]
        clear hww HC
        go_wp2_with fail
        clear u0 uz0 u1 uz1 u2 uz2 u3 uz3 u4 uz4 u5 uz5 ul
        clear v0 vz0 v1 vz1 v2 vz2 v3 vz3 v4 vz4 v5 vz5 vl
        refine bodyPost_ret (results_cell_row (t := 140) (fr := (0, 0)) rfl _ _ b6 _ _ rfl (res6 X6.out) Tryz.underlying140 rfl (by kernel_rfl)) rfl ?_
        rw [HRR.out, manyEnd_two (by rw [HML.out]; exact HM1.out)]
        have hend := gq_end (r := .ok (tmOf 7 ((acc ++ [TmE.mk t1 A1 c1]).map TmE.t)) j1) (A' := some ⟨g, 0, none⟩) (c' := cap) (.int .i64 7) (.int .i64 0) (.string ⟨#[]⟩) (.slice (some ⟨g, 0, none⟩) m cap) (.int .i64 (j1 : Nat)) (.int .i64 0) HB6.out HMV.out HB.out
        have hk : (gotT (.ok (tmOf 7 ((acc ++ [TmE.mk t1 A1 c1]).map TmE.t)) j1)).kids.length = m := HML.out
        rw [hk] at hend
        exact hend
end Go.Proofs.YtnbphgeepnknlaaGreatDoor
namespace Go.Proofs.YtnbphgeepnknlaaGreatDoor
open Go.RowKit
set_option linter.unusedVariables false

/-- The reference's parsers at depth d. -/
structure RLvlC (d : Nat) (l : List Tok) (v : Lvl) : Prop where
 term : FnR l d 69 v.term
 imp : FnR l d 136 v.imp
 not : FnR l d 202 v.not
theorem gdS_map {l : List Tok} {s : Option Lvl} (h : ∀ v, s = some v → GdLvl l v) : GdS l (s.map Lvl.term) ∧ GdS l (s.map Lvl.imp) ∧ GdS l (s.map Lvl.not) := by
 refine ⟨fun p hp => ?_, fun p hp => ?_, fun p hp => ?_⟩
 · cases s with
   | none => cases hp
   | some v => simp at hp; subst hp; exact (h v rfl).term
 · cases s with
   | none => cases hp
   | some v => simp at hp; subst hp; exact (h v rfl).imp
 · cases s with
   | none => cases hp
   | some v => simp at hp; subst hp; exact (h v rfl).not
theorem nzS_map {s : Option Lvl} (h : ∀ v, s = some v → NzP v.term ∧ NzP v.imp ∧ NzP v.not) : NzS (s.map Lvl.term) ∧ NzS (s.map Lvl.imp) ∧ NzS (s.map Lvl.not) := by
 refine ⟨fun p hp => ?_, fun p hp => ?_, fun p hp => ?_⟩
 · cases s with
   | none => cases hp
   | some v => simp at hp; subst hp; exact (h v rfl).1
 · cases s with
   | none => cases hp
   | some v => simp at hp; subst hp; exact (h v rfl).2.1
 · cases s with
   | none => cases hp
   | some v => simp at hp; subst hp; exact (h v rfl).2.2
theorem not_nz {l : List Tok} {s : Option Par} {sum : Par} (hn : NzS s) (h : NzP sum) : NzP (notB l s sum) := by
 intro i j e he
 unfold notB at he
 split at he
 · rcases then_bad2 he with h1 | ⟨x, k, -, h1⟩
   · exact inner_nz hn _ _ _ h1
   · cases h1
 · rcases then_bad2 he with h1 | ⟨x, k, -, h1⟩
   · exact h _ _ _ h1
   · split at h1
     · cases h1
     · rcases then_bad2 h1 with h1 | ⟨x, k, -, h1⟩
       · exact h _ _ _ h1
       · cases h1
theorem imp_nz {l : List Tok} {s : Option Par} {or : Par} (hn : NzS s) (h : NzP or) : NzP (impB l s or) := by
 intro i j e he
 unfold impB at he
 rcases then_bad2 he with h1 | ⟨x, k, -, h1⟩
 · exact h _ _ _ h1
 · split at h1
   · cases h1
   · rcases then_bad2 h1 with h1 | ⟨x, k, -, h1⟩
     · exact inner_nz hn _ _ _ h1
     · cases h1
theorem rlvl_step (d : Nat) (l : List Tok) (s : Option Lvl) (v : Lvl) (hd : d ≤ 256) (hs : s = if d = 256 then none else some v) (hv : d < 256 → RLvlC (d + 1) l v) (hg : GdLvl l v) (hz : NzP v.term ∧ NzP v.imp ∧ NzP v.not) : RLvlC d l (lvlB l s) := by
 have ht : s.map Lvl.term = if d = 256 then none else some v.term := by rw [hs]; split <;> rfl
 have hi : s.map Lvl.imp = if d = 256 then none else some v.imp := by rw [hs]; split <;> rfl
 have hn : s.map Lvl.not = if d = 256 then none else some v.not := by rw [hs]; split <;> rfl
 have hsv : ∀ v', s = some v' → v' = v := fun v' h => by
  rw [hs] at h
  split at h
  · cases h
  · cases h; rfl
 obtain ⟨gt, gi, gn⟩ := gdS_map (l := l) (s := s) (fun v' h => by rw [hsv v' h]; exact hg)
 obtain ⟨zt, zi, zn⟩ := nzS_map (s := s) (fun v' h => by rw [hsv v' h]; exact hz)
 have hunit := rpunit_any l d v.term hd (fun h => (hv h).term) hg.term hz.1
 rw [← ht] at hunit
 have gU := unit_gd gt
 have zU := unit_nz (l := l) zt
 have hprod := rpsum_true l d _ hd hunit gU zU
 have gP : GdP l (prodB l (s.map Lvl.term)) := left_gd (fun op ho => by simp at ho; omega) gU
 have zP : NzP (prodB l (s.map Lvl.term)) := left_nz zU
 have hsum := rpsum_false l d _ hd hprod gP zP
 have gS : GdP l (sumB l (s.map Lvl.term)) := left_gd (fun op ho => by simp at ho; omega) gP
 have zS : NzP (sumB l (s.map Lvl.term)) := left_nz zP
 have hcmp := rpcmp_any l d _ hd hsum gS zS
 have hnot := rpnot_any l d _ v.not hd hcmp (fun h => (hv h).not) hg.not hz.2.2
 rw [← hn] at hnot
 have hnot' : FnR l d 202 (notOf l s) := hnot
 have gN : GdP l (notOf l s) := not_gd gn gS
 have zN : NzP (notOf l s) := not_nz zn zS
 have hand : FnRB l d 175 true (andOf l s) := rprow_true l d _ hd hnot' gN zN
 have hor : FnRB l d 175 false (orOf l s) := rprow_false l d _ hd hand (many_gd (.inl rfl) gN) (many_nz zN)
 have gO : GdP l (orOf l s) := many_gd (.inr rfl) (many_gd (.inl rfl) gN)
 have zO : NzP (orOf l s) := many_nz (many_nz zN)
 have himp := rpimp_any l d _ v.imp hd hor gO zO (fun h => (hv h).imp) hg.imp hz.2.1
 rw [← hi] at himp
 have himp' : FnR l d 136 (impOf l s) := himp
 exact ⟨rpterm_any l d _ hd himp' (imp_gd gi gO) (imp_nz zi zO), himp', hnot'⟩
theorem rlevels (l : List Tok) : ∀ r d, d + r = 256 → RLvlC d l (lvl l r)
 | 0, d, h => by
  rw [lvl]
  exact rlvl_step d l none (lvl l 0) (by omega) (by rw [if_pos (by omega)]) (fun h => by omega) (lvl_gd l 0) (lvl_nz l 0)
 | r + 1, d, h => by
  rw [lvl]
  exact rlvl_step d l (some (lvl l r)) (lvl l r) (by omega) (by rw [if_neg (by omega)]) (fun _ => rlevels l r (d + 1) (by omega)) (lvl_gd l r) (lvl_nz l r)
end Go.Proofs.YtnbphgeepnknlaaGreatDoor
