/- The reference's parser of terms: what its functions leave; walks: is, sign, fail, two. Walk: the reference's which. -/
import Derived.Test.YtnbphgeepnknlaaGreatDoorQPrsU
import Derived.Test.YtnbphgeepnknlaaGreatDoorQParS
namespace Go.Proofs.YtnbphgeepnknlaaGreatDoor
open Go.RowKit
set_option linter.unusedVariables false

def gotT : Rs Tm → Tm
 | .bad _ _ => zeroTm
 | .ok t _ => t
def gotI : Rs Tm → Nat
 | .bad j _ => j
 | .ok _ j => j
def gotE : Rs Tm → Int
 | .bad _ e => e
 | .ok _ _ => 0
/-- What a function of the reference's parser leaves. -/
def GQ (w : World) (r : Rs Tm) (e : Ending) (w' : World) : Prop := ∃ A' c', e = .returned (.agg #[.int .i64 (gotT r).op, .int .i64 (gotT r).num, .string (gotT r).name, .slice A' (gotT r).kids.length c', .int .i64 (gotI r : Nat), .int .i64 (gotE r)]) ∧ TmVS (fun q => w.heap.size ≤ q) w' A' c' (gotT r) ∧ Below w.heap.size w w'
theorem TokIn.below {w w' : World} {A : Option Addr} {c : Nat} {l : List Tok} (h : TokIn w A c l) (hb : Below w.heap.size w w') : TokIn w' A c l :=
 ⟨h.toks.belowB hb rfl, h.cap, h.capm, h.len, h.txt, h.rng, fun a ha => Nat.lt_of_lt_of_le (h.old a ha) hb.size⟩
/-- A function of the reference that parses as P, at depth d. -/
def FnR (l : List Tok) (d : Nat) (K : FuncId) (P : Par) : Prop := ∀ (A : Option Addr) (c i : Nat) (w : World), i ≤ l.length → TokIn w A c l → Calls Tryz.prog K #[.slice A l.length c, .int .i64 (i : Nat), .int .i64 (d : Nat)] w (GQ w (P i))
def FnRB (l : List Tok) (d : Nat) (K : FuncId) (b : Bool) (P : Par) : Prop := ∀ (A : Option Addr) (c i : Nat) (w : World), i ≤ l.length → TokIn w A c l → Calls Tryz.prog K #[.slice A l.length c, .int .i64 (i : Nat), .int .i64 (d : Nat), .bool b] w (GQ w (P i))
theorem res6 {W : World} {b : Nat} {u0 u1 u2 u3 u4 u5 v0 v1 v2 v3 v4 v5 : Value} {T : TypeId} (h : W.heap[b]? = some (.cells #[u0, u1, u2, u3, u4, u5] T (0, 0))) :
 ((((((W.setCell ⟨b, 0, none⟩ v0).setCell ⟨b, 1, none⟩ v1).setCell ⟨b, 2, none⟩ v2).setCell ⟨b, 3, none⟩ v3).setCell ⟨b, 4, none⟩ v4).setCell ⟨b, 5, none⟩ v5).heap[b]? = some (.cells #[v0, v1, v2, v3, v4, v5] T (0, 0)) := by
 simp [World.setCell, Array.getElem?_modify, h]
theorem sets6_far {W : World} {b q : Nat} {v0 v1 v2 v3 v4 v5 : Value} (h : q ≠ b) : ((((((W.setCell ⟨b, 0, none⟩ v0).setCell ⟨b, 1, none⟩ v1).setCell ⟨b, 2, none⟩ v2).setCell ⟨b, 3, none⟩ v3).setCell ⟨b, 4, none⟩ v4).setCell ⟨b, 5, none⟩ v5).heap[q]? = W.heap[q]? := by
 rw [heap_setCell_other _ ⟨b, 5, none⟩ q _ h, heap_setCell_other _ ⟨b, 4, none⟩ q _ h, heap_setCell_other _ ⟨b, 3, none⟩ q _ h, heap_setCell_other _ ⟨b, 2, none⟩ q _ h, heap_setCell_other _ ⟨b, 1, none⟩ q _ h, heap_setCell_other _ ⟨b, 0, none⟩ q _ h]
/-- The end of a function of the reference's parser: the result is laid into its block. -/
theorem gq_end {w W : World} {b6 : Nat} {r : Rs Tm} {A' : Option Addr} {c' : Nat} (v0 v1 v2 v3 v4 v5 : Value) (hb : b6 = w.heap.size) (hV : TmVS (fun q => w.heap.size < q) W A' c' (gotT r)) (hB : Below w.heap.size w W) :
 GQ w r (.returned (.agg #[.int .i64 (gotT r).op, .int .i64 (gotT r).num, .string (gotT r).name, .slice A' (gotT r).kids.length c', .int .i64 (gotI r : Nat), .int .i64 (gotE r)])) ((((((W.setCell ⟨b6, 0, none⟩ v0).setCell ⟨b6, 1, none⟩ v1).setCell ⟨b6, 2, none⟩ v2).setCell ⟨b6, 3, none⟩ v3).setCell ⟨b6, 4, none⟩ v4).setCell ⟨b6, 5, none⟩ v5) := by
 subst hb
 have h0 : w.heap.size ≤ w.heap.size := Nat.le_refl _
 refine ⟨A', c', rfl, hV.keep ((((((KeepS.refl.set (by omega) _).set (by omega) _).set (by omega) _).set (by omega) _).set (by omega) _).set (by omega) _) (fun q _ h => Nat.le_of_lt h), ?_⟩
 exact ((((((Only.of_below (F := fun q => w.heap.size ≤ q) hB).setF h0 _).setF h0 _).setF h0 _).setF h0 _).setF h0 _).setF h0 _ |>.below (fun q h => h) (Nat.le_refl _)

set_option maxRecDepth 100000 in
set_option maxHeartbeats 4000000 in
theorem rpis_any (A : Option Addr) (c i : Nat) (l : List Tok) (k : Int) (s : ByteArray) (w : World) (hP : TokIn w A c l) (hi : i ≤ 1000000) :
 Calls Tryz.prog 177 #[.slice A l.length c, .int .i64 (i : Nat), .int .i64 k, .string s] w fun e w' => e = .returned (.bool (isTk l i k (bs s))) ∧ w' = w := by
 obtain ⟨n, hn⟩ : ∃ n, n = l.length := ⟨_, rfl⟩
 rw [← hn]
 have hlen := hP.len
 have hcap := hP.cap
 have hcapm := hP.capm
 unfold maxLen at hcapm
 rw [← hn] at hlen hcap
 obtain ⟨r, hr⟩ : ∃ r, r = isTk l i k (bs s) := ⟨_, rfl⟩
 rw [← hr]
 unfold isTk at hr
 have HR := Lib.hid hr
 have HP := Lib.hid hP
 have HN := Lib.hid hn
 clear hr hP hn
 by_cases hlt : i < n
 · obtain ⟨t, ht⟩ : ∃ t, l[i]? = some t := ⟨_, List.getElem?_eq_getElem (by have := HN.out; omega)⟩
   rcases HP.out.toks with h0 | ⟨b, off, rfl, hb, hc⟩
   · rw [h0] at ht; simp at ht
   have x0 := hc i t ht 0 (by omega)
   have x2 := hc i t ht 2 (by omega)
   simp only [tokV, Nat.add_zero] at x0 x2
   have HR2 : Hid (r = (decide (t.kind = k) && decide (t.text = bs s))) := by show _ = _; rw [HR.out, ht]
   have hk0 : (0 : Int) ≤ (i : Int) := by omega
   have hk1 : (i : Int) < (n : Int) := by omega
   clear ht hc hlt
   by_cases hk : t.kind = k
   · have hkb : (t.kind == k) = true := by simpa using hk
     have HR3 : Hid (r = decide (t.text = bs s)) := by show _ = _; rw [HR2.out, decide_eq_true hk]; rfl
     have hs : ((⟨t.text.toArray⟩ : ByteArray).toList == s.toList) = decide (t.text = bs s) := by rw [bs_eq_iff]; rfl
     obtain ⟨T, hT⟩ : ∃ T : ByteArray, T = ⟨t.text.toArray⟩ := ⟨_, rfl⟩
     rw [← hT] at x2 hs
     rw [← HR3.out] at hs
     clear hk hT
     cases r
     all_goals
      go_enter Tryz.func177, Tryz.ntmps177
      go_wp2_with fail
      go_ret
      exact ⟨rfl, rfl⟩
   · have hkb : (t.kind == k) = false := by simpa using hk
     have HR3 : Hid (r = false) := by show _ = _; rw [HR2.out, decide_eq_false hk]; rfl
     clear hk
     go_enter Tryz.func177, Tryz.ntmps177
     go_wp2_with fail
     go_ret
     rw [HR3.out]
     exact ⟨rfl, rfl⟩
 · have HR3 : Hid (r = false) := by show _ = _; rw [HR.out, List.getElem?_eq_none (by have := HN.out; omega)]
   have hk1 : ¬ (i : Int) < (n : Int) := by omega
   have hd : decide ((i : Int) < (n : Int)) = false := decide_eq_false hk1
   have hd2 : decide (i < n) = false := decide_eq_false hlt
   clear hlt
   go_enter Tryz.func177, Tryz.ntmps177
   go_wp2_with fail
   go_ret
   rw [HR3.out]
   exact ⟨rfl, rfl⟩
set_option maxRecDepth 100000 in
theorem rpsign_any (A : Option Addr) (c i : Nat) (l : List Tok) (s : ByteArray) (w : World) (hP : TokIn w A c l) (hi : i ≤ 1000000) :
 Calls Tryz.prog 137 #[.slice A l.length c, .int .i64 (i : Nat), .string s] w fun e w' => e = .returned (.bool (isTk l i 4 (bs s))) ∧ w' = w := by
 have HI := Lib.hid (rpis_any A c i l 4 s w hP hi)
 clear hP
 go_enter Tryz.func137, Tryz.ntmps137
 go_wp2_with fail
 refine (HI.out).mono ?_
 rintro e w' ⟨rfl, rfl⟩
 go_wp2_with fail
 go_ret
 exact ⟨rfl, rfl⟩
set_option maxRecDepth 100000 in
set_option maxHeartbeats 4000000 in
theorem rpfail_any (i : Nat) (x : Int) (w : World) : Calls Tryz.prog 176 #[.int .i64 (i : Nat), .int .i64 x] w (GQ w (.bad i x)) := by
 obtain ⟨F, hF⟩ : ∃ F, F = GQ w (.bad i x) := ⟨_, rfl⟩
 rw [← hF]
 have HF := Lib.hid hF
 clear hF
 go_enter Tryz.func176, Tryz.ntmps176
 go_wp2_with fail
 refine bodyPost_ret (results_cell_row (t := 140) (fr := (0, 0)) rfl _ _ w.heap.size _ _ rfl (heap_alloc_new w _) Tryz.underlying140 rfl (by kernel_rfl)) rfl ?_
 rw [HF.out]
 exact ⟨none, 0, rfl, TmVS.leaf (Nat.zero_le _), (Below.refl _ _).alloc (Nat.le_refl _) _⟩
set_option maxRecDepth 100000 in
set_option maxHeartbeats 4000000 in
theorem rptwo_any (op : Int) (t u : Tm) (A : Option Addr) (c : Nat) (A2 : Option Addr) (c2 B : Nat) (w : World) (hB : B ≤ w.heap.size) (hV : TmVS (fun q => B ≤ q) w A c t) (hV2 : TmVS (fun q => B ≤ q) w A2 c2 u) :
 Calls Tryz.prog 138 #[.int .i64 op, t.val A c, u.val A2 c2] w fun e w' => ∃ g, e = .returned (.agg #[.int .i64 op, .int .i64 0, .string ⟨#[]⟩, .slice (some ⟨g, 0, none⟩) 2 2]) ∧ TmVS (fun q => B ≤ q) w' (some ⟨g, 0, none⟩) 2 (tmOf op [t, u]) ∧ Below w.heap.size w w' := by
 obtain ⟨n, hn⟩ : ∃ n, n = t.kids.length := ⟨_, rfl⟩
 obtain ⟨n2, hn2⟩ : ∃ n, n = u.kids.length := ⟨_, rfl⟩
 obtain ⟨F, hF⟩ : ∃ F : Ending → World → Prop, F = fun e w' => ∃ g, e = .returned (.agg #[.int .i64 op, .int .i64 0, .string ⟨#[]⟩, .slice (some ⟨g, 0, none⟩) 2 2]) ∧ TmVS (fun q => B ≤ q) w' (some ⟨g, 0, none⟩) 2 (tmOf op [t, u]) ∧ Below w.heap.size w w' := ⟨_, rfl⟩
 rw [← hF]
 have hv : t.val A c = .agg #[.int .i64 t.op, .int .i64 t.num, .string t.name, .slice A n c] := by unfold Tm.val; rw [hn]
 have hv2 : u.val A2 c2 = .agg #[.int .i64 u.op, .int .i64 u.num, .string u.name, .slice A2 n2 c2] := by unfold Tm.val; rw [hn2]
 rw [hv, hv2]
 have HF := Lib.hid hF
 have HN := Lib.hid hn
 have HN2 := Lib.hid hn2
 have HV := Lib.hid hV
 have HV2 := Lib.hid hV2
 clear hF hn hn2 hv hv2 hV hV2
 go_enter Tryz.func138, Tryz.ntmps138
 go_wp2_with fail
 obtain ⟨w2, hw2⟩ : ∃ w2, w2 = (w.alloc (.cells #[.int .i64 t.op, .int .i64 t.num, .string t.name, .slice A n c] 25)).alloc (.cells #[.int .i64 u.op, .int .i64 u.num, .string u.name, .slice A2 n2 c2] 25) := ⟨_, rfl⟩
 have hs2 : w2.heap.size = w.heap.size + 1 + 1 := by rw [hw2]; simp
 have hb2 : Below w.heap.size w w2 := by rw [hw2]; exact ((Below.refl _ _).alloc (Nat.le_refl _) _).alloc (by simp) _
 rw [← hw2, ← hs2]
 obtain ⟨w3, hw3⟩ : ∃ w3, w3 = w2.alloc (.cells #[.int .i64 op, .int .i64 0, .string ⟨#[]⟩, .slice (some ⟨w2.heap.size + 1, 0, none⟩) 2 2] 25) := ⟨_, rfl⟩
 have hs3 : w3.heap.size = w2.heap.size + 1 := by rw [hw3]; simp
 have hb3 : Below w2.heap.size w2 w3 := by rw [hw3]; exact (Below.refl _ _).alloc (Nat.le_refl _) _
 have hx3 : w3.heap[w2.heap.size]? = some (.cells #[.int .i64 op, .int .i64 0, .string ⟨#[]⟩, .slice (some ⟨w2.heap.size + 1, 0, none⟩) 2 2] 25 (0, 0)) := by rw [hw3]; exact heap_alloc_new w2 _
 rw [← hw3]
 refine bodyPost_ret (results_cell_row (t := 25) (fr := (0, 0)) rfl _ _ w2.heap.size _ _ rfl (alloc_keep hx3) Tryz.underlying25 rfl (by kernel_rfl)) rfl ?_
 rw [HF.out]
 obtain ⟨W, hW⟩ : ∃ W, W = w3.alloc (.cells #[.int .i64 t.op, .int .i64 t.num, .string t.name, .slice A n c, .int .i64 u.op, .int .i64 u.num, .string u.name, .slice A2 n2 c2] 25) := ⟨_, rfl⟩
 have hb4 : Below w3.heap.size w3 W := by rw [hW]; exact (Below.refl _ _).alloc (Nat.le_refl _) _
 have hrow : W.heap[w3.heap.size]? = some (.cells (flatE [⟨t, A, c⟩, ⟨u, A2, c2⟩]).toArray 25 (0, 0)) := by
  rw [hW, HN.out, HN2.out]
  exact heap_alloc_new w3 _
 rw [← hW]
 have hbW : Below w.heap.size w W := (hb2.trans (hb3.mono (by omega))).trans (hb4.mono (by omega))
 have hgl := lt_of_heap hrow
 rw [hs3] at hrow hgl
 refine ⟨w2.heap.size + 1, rfl, ⟨Nat.le_refl _, by unfold maxLen; omega, Nat.zero_le _, .inr ⟨w2.heap.size + 1, 0, rfl, by omega, hgl, ?_⟩⟩, hbW⟩
 refine row_of_cells [⟨t, A, c⟩, ⟨u, A2, c2⟩] 0 (fun k v hv => ?_) ?_
 · rw [Nat.zero_add, cell_of_row W _ k _ _ (0, 0) hrow]
   simpa using hv
 · intro e he
   simp only [List.mem_cons, List.not_mem_nil, or_false] at he
   rcases he with rfl | rfl
   · exact HV.out.keep (KeepS.of_below hbW) (fun _ _ h => h)
   · exact HV2.out.keep (KeepS.of_below hbW) (fun _ _ h => h)
end Go.Proofs.YtnbphgeepnknlaaGreatDoor
namespace Go.Proofs.YtnbphgeepnknlaaGreatDoor
open Go.RowKit
set_option linter.unusedVariables false

theorem whichOp_cons (l : List Tok) (i : Nat) (op : Int) (r : List Int) : whichOp l i (op :: r) = if (if op = 17 then isTk l i 3 [109, 111, 100] else isTk l i 4 (signB op)) then op else whichOp l i r := rfl
set_option maxRecDepth 100000 in
set_option maxHeartbeats 8000000 in
theorem rpwhich_any (A : Option Addr) (c i : Nat) (l : List Tok) (ops : List Int) (gt go ct co : Nat) (w : World) (hP : TokIn w A c l) (hi : i ≤ 1000000) (hol : ops.length ≤ 20) (hT : ∀ (k : Nat) (op : Int), ops[k]? = some op → w.cell? ⟨gt, k, none⟩ = some (.string ⟨(signB op).toArray⟩)) (hO : OpsAt w go ops) (hm : ∀ op ∈ ops, op ≠ 17 → signB op ≠ [109, 111, 100]) :
 Calls Tryz.prog 227 #[.slice A l.length c, .int .i64 (i : Nat), .slice (some ⟨gt, 0, none⟩) ops.length ct, .slice (some ⟨go, 0, none⟩) ops.length co] w fun e w' => e = .returned (.int .i64 (whichOp l i ops)) ∧ w' = w := by
 obtain ⟨n, hn⟩ : ∃ n, n = ops.length := ⟨_, rfl⟩
 obtain ⟨nl, hnl⟩ : ∃ nl, nl = l.length := ⟨_, rfl⟩
 obtain ⟨r, hr⟩ : ∃ r, r = whichOp l i ops := ⟨_, rfl⟩
 obtain ⟨F, hF⟩ : ∃ F : Ending → World → Prop, F = fun e w' => e = .returned (.int .i64 r) ∧ w' = w := ⟨_, rfl⟩
 rw [← hn, ← hr, ← hF, ← hnl]
 rw [← hn] at hol
 have HS := Lib.hid (fun (s : ByteArray) => rpsign_any A c i l s w hP hi)
 have HI := Lib.hid (fun (s : ByteArray) => rpis_any A c i l 3 s w hP hi)
 have HN := Lib.hid hn
 have HNL := Lib.hid hnl
 have HR := Lib.hid hr
 have HF := Lib.hid hF
 have HT := Lib.hid hT
 have HO := Lib.hid hO
 have HM := Lib.hid hm
 clear hn hr hF hnl hP hT hO hm
 go_enter Tryz.func227, Tryz.ntmps227
 go_wp2_with fail
 go_loopw [9] (fun sk wr => ∃ k : Nat, k ≤ n ∧ sk = .int .i64 k ∧ wr = w ∧ Hid (whichOp l i (ops.drop k) = r)) (fun k _ => n - (intOf k).toNat)
 case atStart => exact ⟨0, Nat.zero_le _, rfl, rfl, HR.out.symm⟩
 case round =>
  obtain ⟨k, hk, rfl, hwr, HD⟩ := hrel
  rw [hwr]
  clear hwr
  by_cases hlt : k < n
  · obtain ⟨op, hop⟩ : ∃ op, ops[k]? = some op := ⟨_, List.getElem?_eq_getElem (by have := HN.out; omega)⟩
    have t0 := HT.out k op hop
    have o0 := HO.out k op hop
    have hdr : ops.drop k = op :: ops.drop (k + 1) := by
     obtain ⟨h1, h2⟩ := List.getElem?_eq_some_iff.1 hop
     rw [← List.getElem_cons_drop h1, h2]
    have hD := HD.out
    rw [hdr, whichOp_cons] at hD
    have hmem := List.mem_of_getElem? hop
    obtain ⟨T, hTt⟩ : ∃ T : ByteArray, T = ⟨(signB op).toArray⟩ := ⟨_, rfl⟩
    rw [← hTt] at t0
    have hk0 : (0 : Int) ≤ (k : Int) := by omega
    have hk1 : (k : Int) < (n : Int) := by omega
    by_cases h17 : op = 17
    · have hTm : T = ⟨#[109, 111, 100]⟩ := by rw [hTt, h17]; rfl
      rw [if_pos h17] at hD
      rw [hTm] at t0
      have HIX := HI.out ⟨#[109, 111, 100]⟩
      obtain ⟨b, hb⟩ : ∃ b, b = isTk l i 3 [109, 111, 100] := ⟨_, rfl⟩
      rw [show isTk l i 3 (bs ⟨#[109, 111, 100]⟩) = b from hb.symm, ← HNL.out] at HIX
      have HIY := Lib.hid HIX
      rw [← hb] at hD
      have HDD := Lib.hid hD
      clear hTm hTt hdr hmem hop hD HIX hb HD
      cases b with
      | true =>
       have hE : r = op := by have := HDD.out; rw [if_pos rfl] at this; exact this.symm
       have HE := Lib.hid hE
       clear hE h17
       go_wp2_with fail
       refine (HIY.out).mono ?_
       rintro e w' ⟨rfl, rfl⟩
       go_wp2_with fail
       rw [HF.out, HE.out]
       exact ⟨rfl, rfl⟩
      | false =>
       have HE : Hid (whichOp l i (ops.drop (k + 1)) = r) := by have := HDD.out; rw [if_neg (by simp)] at this; exact this
       clear h17
       go_wp2_with fail
       refine (HIY.out).mono ?_
       rintro e w' ⟨rfl, rfl⟩
       go_wp2_with fail
       go_roundw
       case rel => exact ⟨k + 1, by omega, by go_num, (by first | rfl | trivial), HE⟩
       case measure => simp [intOf]; omega
    · rw [if_neg h17] at hD
      have hne : (T.toList == (⟨#[109, 111, 100]⟩ : ByteArray).toList) = false := by
       rw [bs_eq_iff]
       refine decide_eq_false (fun e => HM.out op hmem h17 ?_)
       rw [hTt] at e
       exact e
      have hq : ¬ T.toList = [109, 111, 100] := fun e => by
       have e2 : (⟨#[109, 111, 100]⟩ : ByteArray).toList = [109, 111, 100] := by rw [ByteArray.toList_eq]
       rw [e2] at hne
       simp [e] at hne
      have hq2 : (T.toList == ([109, 111, 100] : List UInt8)) = false := by simpa using hq
      have hq3 : ¬ T = ⟨#[109, 111, 100]⟩ := fun e => by rw [e] at hne; simp at hne
      have hne2 : (T.toList != (⟨#[109, 111, 100]⟩ : ByteArray).toList) = true := by rw [bne, hne]; rfl
      have HSX := HS.out T
      obtain ⟨b, hb⟩ : ∃ b, b = isTk l i 4 (signB op) := ⟨_, rfl⟩
      rw [show isTk l i 4 (bs T) = b from by rw [hb, hTt]; rfl, ← HNL.out] at HSX
      have HSY := Lib.hid HSX
      rw [← hb] at hD
      have HDD := Lib.hid hD
      clear hTt hdr hmem hop hD HSX hb HD h17
      cases b with
      | true =>
       have hE : r = op := by have := HDD.out; rw [if_pos rfl] at this; exact this.symm
       have HE := Lib.hid hE
       clear hE
       go_wp2_with fail
       refine (HSY.out).mono ?_
       rintro e w' ⟨rfl, rfl⟩
       go_wp2_with fail
       rw [HF.out, HE.out]
       exact ⟨rfl, rfl⟩
      | false =>
       have HE : Hid (whichOp l i (ops.drop (k + 1)) = r) := by have := HDD.out; rw [if_neg (by simp)] at this; exact this
       go_wp2_with fail
       refine (HSY.out).mono ?_
       rintro e w' ⟨rfl, rfl⟩
       go_wp2_with fail
       go_roundw
       case rel => exact ⟨k + 1, by omega, by go_num, (by first | rfl | trivial), HE⟩
       case measure => simp [intOf]; omega
  · have hk1 : ¬ (k : Int) < (n : Int) := by omega
    have hE : r = 0 := by
     have h := HD.out
     rw [List.drop_of_length_le (by rw [← HN.out]; omega)] at h
     exact h.symm
    have HE := Lib.hid hE
    clear hE hlt
    go_wp2_with fail
    rw [HF.out, HE.out]
    exact ⟨rfl, rfl⟩
end Go.Proofs.YtnbphgeepnknlaaGreatDoor
