/- Walks: treetext.blanks, kind, State. -/
import Derived.Test.YtcjblbpkjegmiaaDoorTtrA
import Derived.Test.YtcjblbpkjegmiaaDoorFrmG
import Derived.Test.YtcjblbpkjegmiaaDoorTrmI
namespace Go.Proofs.YtcjblbpkjegmiaaDoor
open Go.RowKit
set_option linter.unusedVariables false

set_option maxHeartbeats 2000000 in
theorem kind_any (k : Int) (w : World) :
    Calls Tryd.prog 32 #[.int .i64 k] w fun e w' => e = .returned (.string ⟨(kindS k).toArray⟩) ∧ w = w' := by
  obtain ⟨r, hr⟩ : ∃ r, r = kindS k := ⟨_, rfl⟩
  rw [← hr]
  have HR := Lib.hid hr
  clear hr
  go_enter Tryd.func32, Tryd.ntmps32
  go_wp2
  all_goals
    go_ret
    rw [HR.out]
    refine ⟨?_, rfl⟩
    simp_all [kindS]

theorem blanksS_succ (n : Nat) : blanksS (n + 1) = blanksS n ++ [32, 32] := by
  unfold blanksS
  rw [show ([32, 32] : Bs) = List.replicate 2 32 from rfl, List.replicate_append_replicate]
  rfl
set_option maxHeartbeats 2000000 in
theorem blanks_any (n : Nat) (w : World) (hn : n ≤ 10000000) :
    Calls Tryd.prog 33 #[.int .i64 (n : Nat)] w fun e w' => e = .returned (.string ⟨(blanksS n).toArray⟩) ∧ w = w' := by
  have HN := Lib.hid hn
  go_enter Tryd.func33, Tryd.ntmps33
  go_wp2_with fail
  go_loop [3, 5] (fun sv si => ∃ (k : Nat) (s : ByteArray), k ≤ n ∧ si = .int .i64 k ∧ Value.string s = sv ∧ s.data.toList = blanksS k) (fun _ i => n - (intOf i).toNat)
  case atStart => exact ⟨0, ⟨#[]⟩, Nat.zero_le _, rfl, rfl, rfl⟩
  case round =>
    obtain ⟨k, s, hk, rfl, rfl, hs⟩ := hrel
    have HS := Lib.hid hs
    have hsz : s.size = 2 * k := by
      have h1 := blanksS_len k
      rw [← hs] at h1
      simpa using h1
    have HSZ := Lib.hid hsz
    clear hs hsz
    by_cases hlt : k < n
    · have hk1 : (k : Int) < (n : Int) := by omega
      obtain ⟨S1, hS1⟩ : ∃ S1 : ByteArray, S1 = s ++ (⟨#[32, 32]⟩ : ByteArray) := ⟨_, rfl⟩
      have hcat : ∀ W, (Op.stringOp .add s (⟨#[32, 32]⟩ : ByteArray)).run Tryd.prog W = .ok (.string S1) W := fun W => by rw [hS1]; exact run_string_add_sum W _ _ (by show s.size + 2 ≤ _; have := HSZ.out; have := HN.out; omega)
      have HS1 : Hid (S1.data.toList = blanksS (k + 1)) := by show _ = _; rw [hS1, blanksS_succ, ← HS.out]; simp [ByteArray.data_append]
      clear hS1
      go_wp2_with fail
      go_round
      case rel => exact ⟨k + 1, S1, by omega, by go_num, rfl, HS1.out⟩
      case measure => simp [intOf]; omega
    · have hkn : k = n := by omega
      have hk1 : ¬ (k : Int) < (n : Int) := by omega
      have HR : Hid (s = ⟨(blanksS n).toArray⟩) := by show _ = _; apply bs_ext; rw [← hkn]; exact HS.out
      clear hkn
      go_wp2_with fail
      go_ret
      rw [HR.out]
      exact ⟨rfl, rfl⟩

theorem map_back (L : List Bs) : (L.map fun x => (⟨x.toArray⟩ : ByteArray)).map (·.data.toList) = L := by
  induction L with
  | nil => rfl
  | cons x r ih => rw [List.map_cons, List.map_cons, ih]
/-- Few variables with short names. -/
structure SmallV (vs : List Vr) : Prop where
  len : vs.length ≤ 20
  name : ∀ v ∈ vs, v.name.size ≤ 60
theorem numS_len20 (n : Int) (h1 : -9223372036854775808 ≤ n) (h2 : n ≤ 9223372036854775807) : (numS n).length ≤ 21 := by
  have h3 : n.natAbs < 10 ^ 20 := by
    have : (10 : Nat) ^ 20 = 100000000000000000000 := by decide
    omega
  have h4 := decB_len n.natAbs h3
  unfold numS
  split
  · simp only [List.length_cons]; omega
  · omega
theorem make_str (n : Nat) (h : n ≤ 10000000) (w : World) : (Instr.makeSlice 45 (.int .i64 (n : Int)) (.int .i64 (n : Int))).run Tryd.prog w = .ok (.slice (some ⟨w.heap.size, 0, none⟩) n n) (w.alloc (.cells (madeCells #[.string ⟨#[]⟩] n) 9)) :=
  run_make_row' 45 9 (.string ⟨#[]⟩) 16 Tryd.underlying45 infoStr rfl .i64 .i64 n (by omega) (by omega) w
/-- A row of strings, whole. -/
def RowT (w : World) (g : Nat) (L : List Bs) : Prop := w.heap[g]? = some (.cells (L.map fun x => Value.string ⟨x.toArray⟩).toArray 9 (0, 0))
section
variable {w w' : World} {g : Nat} {L : List Bs}
theorem RowT.lt (h : RowT w g L) : g < w.heap.size := lt_of_heap h
theorem RowT.cell (h : RowT w g L) {i : Nat} {x : Bs} (hd : L[i]? = some x) : w.cell? ⟨g, i, none⟩ = some (.string ⟨x.toArray⟩) := by
  rw [cell_of_row w g i _ 9 (0, 0) h]
  simp [hd]
theorem RowT.frozen (h : RowT w g L) (i : Nat) : w.frozen? ⟨g, i, none⟩ = false := by
  unfold RowT at h
  simp [World.frozen?, h]
theorem RowT.set_ (h : RowT w g L) (i : Nat) (x : Bs) : RowT (w.setCell ⟨g, i, none⟩ (.string ⟨x.toArray⟩)) g (L.set i x) := by
  unfold RowT at h ⊢
  simp [World.setCell, Array.getElem?_modify, h, List.map_set]
theorem RowT.below {B : Nat} (h : RowT w g L) (hb : Below B w w') (hg : g < B) : RowT w' g L := (hb.block g hg).trans h
end
theorem rowT_made (w : World) (n : Nat) : RowT (w.alloc (.cells (madeCells #[.string ⟨#[]⟩] n) 9)) w.heap.size (List.replicate n []) := by
  unfold RowT
  rw [heap_alloc_new]
  congr 2
  apply Array.toList_inj.1
  rw [toList_madeCells_one]
  simp
/-- The first k words, the rest blank. -/
def partL {α : Type} (l : List α) (k n : Nat) (z : α) : List α := l.take k ++ List.replicate (n - k) z
theorem partL_step {α : Type} {l : List α} {k : Nat} {x z : α} (hx : l[k]? = some x) : (partL l k l.length z).set k x = partL l (k + 1) l.length z := by
  obtain ⟨hk, rfl⟩ := List.getElem?_eq_some_iff.1 hx
  unfold partL
  have h1 : (l.take k).length = k := by simp; omega
  rw [List.set_append_right _ _ (by omega), h1, Nat.sub_self, List.take_succ_eq_append_getElem hk, List.append_assoc]
  congr 1
  obtain ⟨m, hm⟩ : ∃ m, l.length - k = m + 1 := ⟨l.length - k - 1, by omega⟩
  rw [hm, List.replicate_succ, List.set_cons_zero, show l.length - (k + 1) = m from by omega]
  rfl
theorem partL_all {α : Type} (l : List α) (z : α) : partL l l.length l.length z = l := by unfold partL; simp
theorem partL_get {α : Type} {l : List α} {k : Nat} {z : α} (hk : k < l.length) : (partL l k l.length z)[k]? = some z := by
  unfold partL
  have h1 : (l.take k).length = k := by simp; omega
  rw [List.getElem?_append_right (by omega), h1, Nat.sub_self]
  rw [List.getElem?_replicate, if_pos (by omega)]

theorem words_len (vs : List Vr) (s : List Int) (h : s.length = vs.length) : (wordsS vs s).length = vs.length := by unfold wordsS; simp; omega
theorem words_get {vs : List Vr} {s : List Int} {k : Nat} {v : Vr} {z : Int} (hv : vs[k]? = some v) (hz : s[k]? = some z) : (wordsS vs s)[k]? = some (wordS v z) := by
  unfold wordsS
  rw [List.getElem?_zipWith, hv, hz]
theorem joinTail_len (sep : Bs) (hs : sep.length = 1) (m : Nat) : ∀ (L : List Bs), (∀ x ∈ L, x.length ≤ m) → (Lib.joinTail sep L).length ≤ L.length * (m + 1)
  | [], _ => by simp [Lib.joinTail]
  | x :: r, h => by
    have h1 := h x (by simp)
    have h2 := joinTail_len sep hs m r (fun z hz => h z (by simp [hz]))
    unfold Lib.joinTail at h2 ⊢
    simp only [List.map_cons, List.flatten_cons, List.length_append, List.length_cons] at h2 ⊢
    rw [Nat.succ_mul]
    omega
theorem join_len (L : List Bs) (sep : Bs) (m : Nat) (h : ∀ x ∈ L, x.length ≤ m) (hs : sep.length = 1) : (Lib.join L sep).length ≤ L.length * (m + 1) := by
  cases L with
  | nil => simp [Lib.join_nil]
  | cons x r =>
    have h1 := h x (by simp)
    have h2 := joinTail_len sep hs m r (fun z hz => h z (by simp [hz]))
    rw [Lib.join_cons, List.length_append, List.length_cons, Nat.succ_mul]
    omega
theorem wordS_len {v : Vr} {z : Int} (hv : v.name.size ≤ 60) (hz : -9223372036854775808 ≤ z ∧ z ≤ 9223372036854775807) : (wordS v z).length ≤ 82 := by
  have h1 := numS_len20 z hz.1 hz.2
  have h2 : v.name.data.toList.length = v.name.size := by simp
  unfold wordS
  simp only [List.length_append, List.length_cons, List.length_nil]
  omega
theorem words_short {vs : List Vr} {s : List Int} (hv : ∀ v ∈ vs, v.name.size ≤ 60) (hz : ∀ z ∈ s, -9223372036854775808 ≤ z ∧ z ≤ 9223372036854775807) : ∀ x ∈ wordsS vs s, x.length ≤ 82 := by
  intro x hx
  unfold wordsS at hx
  rw [List.mem_iff_getElem?] at hx
  obtain ⟨i, hi⟩ := hx
  rw [List.getElem?_zipWith] at hi
  cases hv' : vs[i]? with
  | none => rw [hv'] at hi; simp at hi
  | some v =>
    cases hz' : s[i]? with
    | none => rw [hv', hz'] at hi; simp at hi
    | some z =>
      rw [hv', hz'] at hi
      simp at hi
      subst hi
      exact wordS_len (hv v (List.mem_of_getElem? hv')) (hz z (List.mem_of_getElem? hz'))
theorem state_len {vs : List Vr} {s : List Int} (hv : SmallV vs) (hz : ∀ z ∈ s, -9223372036854775808 ≤ z ∧ z ≤ 9223372036854775807) : (stateT vs s).1.length ≤ 1660 := by
  unfold stateT
  split
  · simp
  · rename_i h
    have h1 := join_len (wordsS vs s) [32] 82 (words_short hv.name hz) rfl
    rw [words_len vs s (by omega)] at h1
    have := hv.len
    have h2 : vs.length * (82 + 1) ≤ 20 * 83 := Nat.mul_le_mul this (by omega)
    show (Lib.join (wordsS vs s) [32]).length ≤ _
    omega

set_option maxRecDepth 100000 in
set_option maxHeartbeats 4000000 in
theorem state_any (vs : List Vr) (s : List Int) (Av As : Option Addr) (cv cs : Nat) (w : World) (hsm : SmallV vs) (hV : VrsV w Av cv vs) (hS : IntsV w As cs s) :
    Calls Tryd.prog 14 #[.slice Av vs.length cv, .slice As s.length cs] w fun e w' => e = .returned (.tuple #[.string ⟨(stateT vs s).1.toArray⟩, .int .i64 (stateT vs s).2]) ∧ Below w.heap.size w w' := by
  obtain ⟨n, hn⟩ : ∃ n, n = vs.length := ⟨_, rfl⟩
  obtain ⟨m, hm⟩ : ∃ m, m = s.length := ⟨_, rfl⟩
  have hcv := hV.cap
  have hcvm := hV.capm
  have hcs := hS.cap
  have hcsm := hS.capm
  unfold maxLen at hcvm hcsm
  have hn20 := hsm.len
  rw [← hn] at hcv hn20 ⊢
  rw [← hm] at hcs ⊢
  obtain ⟨X, hX⟩ : ∃ X, X = stateT vs s := ⟨_, rfl⟩
  rw [← hX]
  unfold stateT at hX
  rw [← hn, ← hm] at hX
  have HX := Lib.hid hX
  have HSM := Lib.hid hsm
  have HV := Lib.hid hV
  have HSS := Lib.hid hS
  have HN := Lib.hid hn
  have HM := Lib.hid hm
  have HMK := Lib.hid (make_str m)
  clear hX hsm hV hS hn hm
  by_cases hne : m = n
  · subst hne
    have HX2 : Hid (X = (Lib.join (wordsS vs s) [32], 0)) := by show _ = _; rw [HX.out, if_neg (by simp)]
    have hmk := HMK.out (by omega)
    obtain ⟨W0, hW0⟩ : ∃ W0, W0 = w.alloc (.cells (madeCells #[.string ⟨#[]⟩] m) 9) := ⟨_, rfl⟩
    have hmk' := hmk w
    rw [← hW0] at hmk'
    have hwl : (wordsS vs s).length = m := by rw [words_len vs s (by rw [← HN.out, ← HM.out]), ← HN.out]
    have hrow0 : RowT W0 w.heap.size (partL (wordsS vs s) 0 m []) := by
      rw [hW0]
      have h := rowT_made w m
      unfold partL
      simpa using h
    have hbel0 : Below w.heap.size w W0 := by rw [hW0]; exact (Below.refl _ _).alloc (Nat.le_refl _) _
    have hlt0 : w.heap.size < W0.heap.size := by rw [hW0]; simp
    have HR0 := Lib.hid hrow0
    have HB0 := Lib.hid hbel0
    have HWL := Lib.hid hwl
    clear hmk hW0 hrow0 hbel0 hwl
    go_enter Tryd.func14, Tryd.ntmps14
    go_wp2_with fail
    go_loopw [7, 8, 19] (fun _ _ si wr => ∃ k : Nat, k ≤ m ∧ si = .int .i64 k ∧ RowT wr w.heap.size (partL (wordsS vs s) k m []) ∧ Below w.heap.size w wr) (fun _ _ i _ => m - (intOf i).toNat)
    case atStart => exact ⟨0, Nat.zero_le _, rfl, HR0.out, HB0.out⟩
    case round =>
      obtain ⟨k, hk, rfl, hrow, hbel⟩ := hrel
      have HR := Lib.hid hrow
      have HB := Lib.hid hbel
      have hszr := hbel.size
      have hltr := hrow.lt
      by_cases hlt : k < m
      · obtain ⟨v, hv⟩ : ∃ v, vs[k]? = some v := ⟨_, List.getElem?_eq_getElem (by have := HN.out; omega)⟩
        obtain ⟨z, hz⟩ : ∃ z, s[k]? = some z := ⟨_, List.getElem?_eq_getElem (by have := HM.out; omega)⟩
        rcases HV.out.row with h9 | ⟨g, o, rfl, hg, hvr⟩
        · rw [h9] at hv; simp at hv
        rcases HSS.out.row with h9 | ⟨g2, o2, rfl, hg2, hir⟩
        · rw [h9] at hz; simp at hz
        obtain ⟨q0, q1, q2, q3⟩ := hvr k v hv
        have p0 := hir k z hz
        rw [← hbel.cell (p := ⟨g, _, none⟩) hg] at q0 q1 q2 q3
        rw [← hbel.cell (p := ⟨g2, _, none⟩) hg2] at p0
        have e1 : o + 4 * k = o + k * 4 := by omega
        rw [e1] at q0 q1 q2 q3
        have hzr := HSS.out.rng z (List.mem_of_getElem? hz)
        have hvn := HSM.out.name v (List.mem_of_getElem? hv)
        have HWG : Hid ((wordsS vs s)[k]? = some (wordS v z)) := words_get hv hz
        have hnl := numS_len20 z hzr.1 hzr.2
        have HNT := Lib.hid (fun W => numtext_any z W hzr.1 hzr.2)
        obtain ⟨NS, hNS⟩ : ∃ NS, NS = numS z := ⟨_, rfl⟩
        rw [← hNS] at HNT hnl
        obtain ⟨S1, hS1⟩ : ∃ S1 : ByteArray, S1 = v.name ++ (⟨#[61]⟩ : ByteArray) := ⟨_, rfl⟩
        obtain ⟨S2, hS2⟩ : ∃ S2 : ByteArray, S2 = S1 ++ (⟨NS.toArray⟩ : ByteArray) := ⟨_, rfl⟩
        have hz1 : S1.size = v.name.size + 1 := by rw [hS1, ByteArray.size_append]; rfl
        have hcat : ∀ W, (Op.stringOp .add v.name (⟨#[61]⟩ : ByteArray)).run Tryd.prog W = .ok (.string S1) W := fun W => by rw [hS1]; exact run_string_add_sum W _ _ (by show v.name.size + 1 ≤ _; omega)
        have hcat2 : ∀ W, (Op.stringOp .add S1 (⟨NS.toArray⟩ : ByteArray)).run Tryd.prog W = .ok (.string S2) W := fun W => by rw [hS2]; exact run_string_add_sum W _ _ (by show S1.size + (⟨NS.toArray⟩ : ByteArray).size ≤ _; rw [bsz' NS]; omega)
        have HSW : Hid (S2 = ⟨(wordS v z).toArray⟩) := by show _ = _; apply bs_ext; unfold bs wordS; rw [hS2, hS1, hNS]; simp [ByteArray.data_append]
        have hrc := hrow.cell (partL_get (z := ([] : Bs)) (show k < (wordsS vs s).length by rw [HWL.out]; exact hlt) |> fun h => by rwa [HWL.out] at h)
        have hrf := hrow.frozen k
        have hk0 : (0 : Int) ≤ (k : Int) := by omega
        have hk1 : (k : Int) < (m : Int) := by omega
        have hgr : g < wr.heap.size := by omega
        have hg2r : g2 < wr.heap.size := by omega
        clear hS1 hS2 hz1 hNS hv hz hvr hir e1 hrow hbel hzr
        go_wp2_with fail
        obtain ⟨Wk, hWk⟩ : ∃ Wk, Wk = wr.alloc (.cells #[.string v.name, .bool v.isB, .int .i64 v.lo, .int .i64 v.hi] 54) := ⟨_, rfl⟩
        rw [← hWk]
        have hbk : Below wr.heap.size wr Wk := by rw [hWk]; exact (Below.refl _ _).alloc (Nat.le_refl _) _
        have kc0 : Wk.cell? ⟨wr.heap.size, 0, none⟩ = some (.string v.name) := by rw [hWk, cell_of_row _ wr.heap.size 0 _ _ (0, 0) (heap_alloc_new wr _)]; rfl
        have kc1 : Wk.cell? ⟨g2, o2 + k, none⟩ = some (.int .i64 z) := by rw [hbk.cell (p := ⟨g2, _, none⟩) hg2r]; exact p0
        have kc2 : Wk.cell? ⟨w.heap.size, k, none⟩ = some (.string ⟨([] : Bs).toArray⟩) := by rw [hbk.cell (p := ⟨w.heap.size, _, none⟩) hltr]; exact hrc
        have kc3 : Wk.frozen? ⟨w.heap.size, k, none⟩ = false := by rw [hbk.frozen (p := ⟨w.heap.size, _, none⟩) hltr]; exact hrf
        have hszk : wr.heap.size < Wk.heap.size := by rw [hWk]; simp
        have HBK := Lib.hid hbk
        have hg2k : g2 < Wk.heap.size := by omega
        have hwk : w.heap.size < Wk.heap.size := by omega
        clear hWk hbk q0 q1 q2 q3 p0 hrc hrf
        have n1 : ¬ wr.heap.size = w.heap.size := by omega
        have n2 : ¬ g2 = w.heap.size := by omega
        go_region_held3 (fun w' => w'.cell? ⟨wr.heap.size, 0, none⟩ = some (.string v.name) ∧ w'.cell? ⟨g2, o2 + k, none⟩ = some (.int .i64 z))
          (first
            | (go_keep; done)
            | (go_split_ands
               refine ⟨?_, ?_⟩
               · (rw [hb5.cell (p := ⟨wr.heap.size, _, none⟩) (by simp; omega)]; simpa using kc0)
               · (rw [hb5.cell (p := ⟨g2, _, none⟩) (by simp; omega)]; simpa using kc1))
            | (go_split_ands
               refine ⟨?_, ?_⟩
               · (rw [World.cell?_of_block (a := ⟨wr.heap.size, 0, none⟩) (heap_setCell_other w5 ⟨w.heap.size, k, none⟩ wr.heap.size _ n1), hb5.cell (p := ⟨wr.heap.size, _, none⟩) (by simp; omega)]; simpa using kc0)
               · (rw [World.cell?_of_block (a := ⟨g2, o2 + k, none⟩) (heap_setCell_other w5 ⟨w.heap.size, k, none⟩ g2 _ n2), hb5.cell (p := ⟨g2, _, none⟩) (by simp; omega)]; simpa using kc1))
            | fail)
          ((go_at_call 35; refine (HNT.out _).mono ?_; rintro e w5 ⟨rfl, hb5⟩; have t2 := (hb5.cell (p := ⟨w.heap.size, k, none⟩) (by simp; omega)).trans kc2; have t3 := (hb5.frozen (p := ⟨w.heap.size, k, none⟩) (by simp; omega)).trans kc3))
        have hb6 : Below wr.heap.size wr w5 := HBK.out.trans (Below.mono (B := Wk.heap.size) (((Below.refl _ _).drew).trans hb5) (by omega))
        have hr6 : RowT w5 w.heap.size (partL (wordsS vs s) k m []) := HR.out.below hb6 hltr
        have hr7 := hr6.set_ k (wordS v z)
        have hst := partL_step (z := ([] : Bs)) HWG.out
        rw [HWL.out] at hst
        rw [hst, ← HSW.out] at hr7
        have hb7 : Below w.heap.size w (w5.setCell ⟨w.heap.size, k, none⟩ (.string S2)) := (HB.out.trans (hb6.mono hszr)).setCell (p := ⟨w.heap.size, k, none⟩) (Nat.le_refl _) _
        have HR7 := Lib.hid hr7
        have HB7 := Lib.hid hb7
        clear hb5 hb6 hr6 hr7 hst hb7 t2 t3 kc0 kc1 kc2 kc3
        go_wp2_with fail
        go_roundw
        case rel => exact ⟨k + 1, by omega, by go_num, HR7.out, HB7.out⟩
        case measure => simp [intOf]; omega
      · have hkn : k = m := by omega
        have hk1 : ¬ (k : Int) < (m : Int) := by omega
        have hr2 : RowT wr w.heap.size (wordsS vs s) := by
          have h := HR.out
          rw [hkn] at h
          have h2 := partL_all (wordsS vs s) ([] : Bs)
          rw [HWL.out] at h2
          rw [h2] at h
          exact h
        have hws := words_short HSM.out.name HSS.out.rng
        have hjl := join_len (wordsS vs s) [32] 82 hws rfl
        rw [HWL.out] at hjl
        have hmm : ((wordsS vs s).map fun x => (⟨x.toArray⟩ : ByteArray)).map (·.data.toList) = wordsS vs s := map_back _
        have hjn := Tryd.strings_Join w.heap.size 0 m ((wordsS vs s).map fun x => (⟨x.toArray⟩ : ByteArray)) ⟨#[32]⟩ wr (fun j x hj => by
          rw [List.getElem?_map] at hj
          cases hx : (wordsS vs s)[j]? with
          | none => rw [hx] at hj; cases hj
          | some y =>
            rw [hx] at hj
            injection hj with hj
            rw [← hj, Nat.zero_add]
            exact hr2.cell hx) hltr (by rw [List.length_map, HWL.out]; omega) (by rw [List.length_map, HWL.out]; exact Nat.le_refl _) (by rw [hmm]; have : m * (82 + 1) ≤ 20 * 83 := Nat.mul_le_mul hn20 (by omega); show (Lib.join (wordsS vs s) [32]).length ≤ _; omega)
        rw [hmm, List.length_map, HWL.out] at hjn
        have HJ := Lib.hid hjn
        clear hrow hbel hr2 hws hjl hmm hjn hkn
        go_wp2_with fail
        refine (HJ.out).mono ?_
        rintro e w5 ⟨rfl, hb5⟩
        have HB5 := Lib.hid (HB.out.trans (hb5.mono hszr))
        clear hb5
        go_wp2_with fail
        go_ret2
        rw [HX2.out]
        exact ⟨rfl, HB5.out⟩
  · have HX2 : Hid (X = ([], 3)) := by show _ = _; rw [HX.out, if_pos hne]
    have h1 : ((m : Int) != (n : Int)) = true := by simp; omega
    clear hne
    go_enter Tryd.func14, Tryd.ntmps14
    go_wp2_with fail
    go_ret2
    rw [HX2.out]
    exact ⟨rfl, Below.refl _ _⟩
end Go.Proofs.YtcjblbpkjegmiaaDoor
