/- Words for a row of digits of the call's own; walk: by. -/
import Derived.Test.YtncdacafdfknnaaDoorCntB
namespace Go.Proofs.YtncdacafdfknnaaDoor
open Go.RowKit
set_option linter.unusedVariables false

/-- The cells of digits. -/
def dv (k : IntKind) (l : List Nat) : Array Value := (l.map fun (d : Nat) => Value.int k (d : Int)).toArray
/-- Block g is just these digits. -/
def Row (w : World) (g : Nat) (T : TypeId) (k : IntKind) (l : List Nat) : Prop := w.heap[g]? = some (.cells (dv k l) T (0, 0))
section
variable {w w' : World} {g : Nat} {T : TypeId} {k : IntKind} {l : List Nat}
theorem Row.lt (h : Row w g T k l) : g < w.heap.size := by
  rcases Nat.lt_or_ge g w.heap.size with hlt | hge
  · exact hlt
  · unfold Row at h; rw [Array.getElem?_eq_none hge] at h; cases h
theorem Row.cell (h : Row w g T k l) {i d : Nat} (hd : l[i]? = some d) : w.cell? ⟨g, i, none⟩ = some (.int k (d : Nat)) := by
  rw [cell_of_row w g i (dv k l) T (0, 0) h]
  simp [dv, hd]
theorem Row.frozen (h : Row w g T k l) (i : Nat) : w.frozen? ⟨g, i, none⟩ = false := by
  unfold Row at h
  simp [World.frozen?, h]
theorem Row.set_ (h : Row w g T k l) (i d : Nat) : Row (w.setCell ⟨g, i, none⟩ (.int k (d : Nat))) g T k (l.set i d) := by
  unfold Row at h ⊢
  simp [World.setCell, Array.getElem?_modify, h, dv, List.map_set]
theorem Row.dat (h : Row w g T k l) : DAt w (some ⟨g, 0, none⟩) k l := .inr ⟨g, 0, rfl, h.lt, fun j z hz => by rw [Nat.zero_add]; exact h.cell hz⟩
theorem Row.below {B : Nat} (h : Row w g T k l) (hb : Below B w w') (hg : g < B) : Row w' g T k l := (hb.block g hg).trans h
theorem Row.drewN (h : Row w g T k l) (n : Nat) : Row (w.drewN n) g T k l := h
theorem Row.made (w : World) (T : TypeId) (k : IntKind) (n : Nat) : Row (w.alloc (.cells (madeCells #[.int k 0] n) T)) w.heap.size T k (List.replicate n 0) := by
  unfold Row
  rw [show dv k (List.replicate n 0) = madeCells #[.int k 0] n from by
    unfold dv
    rw [List.map_replicate]
    exact Array.toList_inj.1 (by rw [toList_madeCells_one]; rfl)]
  exact heap_alloc_new w _
end

/-- The digits of a row without its leading zeros are its first ones. -/
theorem digs_prefix {b : Nat} (hb : 2 ≤ b) : ∀ {l : List Nat}, Dig b l → digs b (val b l) = l.take (digs b (val b l)).length
  | [], _ => rfl
  | d :: r, h => by
    have hd := h d (List.mem_cons_self ..)
    by_cases h0 : val b (d :: r) = 0
    · rw [h0]; rfl
    · rw [digs_pos hb h0]
      have e1 : val b (d :: r) % b = d := by rw [val, Nat.add_mul_mod_self_left, Nat.mod_eq_of_lt hd]
      have e2 : val b (d :: r) / b = val b r := by rw [val, Nat.add_mul_div_left _ _ (by omega), Nat.div_eq_of_lt hd, Nat.zero_add]
      rw [e1, e2, List.length_cons, List.take_succ_cons, ← digs_prefix hb (fun x hx => h x (List.mem_cons_of_mem _ hx))]
theorem dat_digs {w : World} {A : Option Addr} {k : IntKind} {b : Nat} {l : List Nat} (hb : 2 ≤ b) (hd : Dig b l) (h : DAt w A k l) : DAt w A k (digs b (val b l)) := by
  rw [digs_prefix hb hd]
  exact h.take _
theorem digs_len_le {b : Nat} (hb : 2 ≤ b) {l : List Nat} (hd : Dig b l) : (digs b (val b l)).length ≤ l.length := by
  rw [digs_prefix hb hd]
  exact List.length_take_le' _ _

theorem set_take {l : List Nat} {i d : Nat} (h : i < l.length) : (l.set i d).take (i + 1) = l.take i ++ [d] := by
  rw [take_snoc (d := d) (by rw [List.getElem?_set_self h]), List.take_set_of_le (Nat.le_refl _)]
theorem Dig.set_ {b : Nat} {l : List Nat} (h : Dig b l) (i : Nat) {d : Nat} (hd : d < b) : Dig b (l.set i d) := by
  intro x hx
  rcases List.mem_or_eq_of_mem_set hx with hx | rfl
  · exact h x hx
  · exact hd
theorem dig_replicate {b : Nat} (hb : 0 < b) (n : Nat) : Dig b (List.replicate n 0) := by
  intro x hx
  rw [(List.mem_replicate.1 hx).2]
  exact hb

theorem infoU32 : (Tryd.prog.info? 62).map (fun i => (i.zero, i.size, i.bytes)) = some (some (.int .u32 0), 1, 4) := by kernel_rfl
theorem make_u32 (n : Nat) (h : n ≤ 10000000) (w : World) : (Instr.makeSlice 23 (.int .i64 (n : Int)) (.int .i64 (n : Int))).run Tryd.prog w = .ok (.slice (some ⟨w.heap.size, 0, none⟩) n n) (w.alloc (.cells (madeCells #[.int .u32 0] n) 62)) :=
  run_make_row' 23 62 (.int .u32 0) 4 Tryd.underlying23 infoU32 rfl .i64 .i64 n (by omega) (by omega) w

theorem by_step (B k P V c d t m : Nat) (h : P + B ^ k * c = V * t + m) : (P + B ^ k * ((c + d * t) % B)) + B ^ (k + 1) * ((c + d * t) / B) = (V + B ^ k * d) * t + m := by
  have e : B ^ (k + 1) * ((c + d * t) / B) = B ^ k * (B * ((c + d * t) / B)) := by rw [Nat.pow_succ, Nat.mul_assoc]
  rw [e, Nat.add_assoc, ← Nat.mul_add, Nat.mod_add_div, Nat.mul_add, Nat.add_mul, ← Nat.mul_assoc]
  omega

set_option maxHeartbeats 1000000 in
theorem by_any (A : Option Addr) (c0 : Nat) (l : List Nat) (t m : Nat) (w : World) (hl : l.length ≤ 500000) (ht : t < B32) (hm : m < B32) (hA : DAt w A .u32 l) (hD : Dig B32 l) :
    Calls Tryd.prog 34 #[.slice A l.length c0, .int .u32 (t : Nat), .int .u32 (m : Nat)] w fun e w' => ∃ A', e = .returned (.slice A' (digs B32 (val B32 l * t + m)).length (digs B32 (val B32 l * t + m)).length) ∧ DAt w' A' .u32 (digs B32 (val B32 l * t + m)) ∧ Below w.heap.size w w' := by
  have ht' : t < 4294967296 := ht
  have hm' : m < 4294967296 := hm
  have HA := Lib.hid hA
  have HD := Lib.hid hD
  clear hA hD ht hm
  obtain ⟨n, hn⟩ : ∃ n, n = l.length := ⟨_, rfl⟩
  rw [← hn] at hl ⊢
  have HN := Lib.hid hn
  clear hn
  have hmk := make_u32 (n + 1) (by omega)
  rw [show ((n + 1 : Nat) : Int) = (n : Int) + 1 from by omega] at hmk
  go_enter Tryd.func34, Tryd.ntmps34
  go_wp2
  obtain ⟨W, hW⟩ : ∃ W, W = w.alloc (.cells (madeCells #[.int .u32 0] (n + 1)) 62) := ⟨_, rfl⟩
  have hR0 : Hid (Row W w.heap.size 62 .u32 (List.replicate (n + 1) 0)) := by rw [hW]; exact Row.made _ _ _ _
  have hB0 : Hid (Below w.heap.size w W) := by rw [hW]; exact (Below.refl _ _).alloc (Nat.le_refl _) _
  rw [← hW]
  clear hmk hW
  go_loopw [8, 19] (fun sc si wr => ∃ (k c : Nat) (L : List Nat), k ≤ n ∧ si = .int .i64 k ∧ sc = .int .u64 c ∧ c < 4294967296 ∧ L.length = n + 1 ∧ Row wr w.heap.size 62 .u32 L ∧ Dig B32 L ∧ val B32 (L.take k) + B32 ^ k * c = val B32 (l.take k) * t + m ∧ Below w.heap.size w wr) (fun _ i _ => n - (intOf i).toNat)
  case atStart => exact ⟨0, m, _, Nat.zero_le _, rfl, rfl, hm', by simp, hR0.out, dig_replicate (by decide) _, by simp [val], hB0.out⟩
  case round =>
    obtain ⟨k, c, L, hk, rfl, rfl, hc, hL, hrow, hdl, hv, hbel⟩ := hrel
    have HROW := Lib.hid hrow
    have HDL := Lib.hid hdl
    have HV := Lib.hid hv
    have HB := Lib.hid hbel
    have HL := Lib.hid hL
    have hsz := hbel.size
    by_cases hlt : k < n
    · obtain ⟨d, hd⟩ := getE (l := l) (k := k) (by have := HN.out; omega)
      rcases HA.out.belowB hbel rfl with h9 | ⟨b, off, rfl, hb, hcell⟩
      · rw [h9] at hd; simp at hd
      have x0 := hcell _ _ hd
      have hdb : d < 4294967296 := HD.out.at_ hd
      have HTS := Lib.hid (take_snoc hd)
      obtain ⟨e, he⟩ := getE (l := L) (k := k) (by omega)
      have y0 := hrow.cell he
      have y1 := hrow.frozen k
      have hgl := hrow.lt
      have hmul : d * t ≤ 4294967295 * 4294967295 := Nat.mul_le_mul (by omega) (by omega)
      obtain ⟨q, hq⟩ : ∃ q, q = d * t := ⟨_, rfl⟩
      have hq1 : (d : Int) * (t : Int) = (q : Int) := by rw [hq]; exact (Int.natCast_mul d t).symm
      have hqb : q ≤ 18446744065119617025 := by omega
      have HQ := Lib.hid hq
      clear hcell hd he hrow hdl hv hbel hL hmul hq
      have hk0 : (0 : Int) ≤ (k : Int) := by omega
      have hk1 : (k : Int) < (n : Int) := by omega
      have hk2 : (k : Int) < (n : Int) + 1 := by omega
      have e1 : ((c : Int) + (q : Int)) % 4294967296 = (((c + q) % 4294967296 : Nat) : Int) := by omega
      have e2 : ((c : Int) + (q : Int)) / 4294967296 = (((c + q) / 4294967296 : Nat) : Int) := by omega
      have E1 := Lib.hid e1
      have E2 := Lib.hid e2
      clear e1 e2
      go_wp2
      go_roundw
      case rel =>
        rw [E1.out, E2.out]
        refine ⟨k + 1, (c + q) / 4294967296, L.set k ((c + q) % 4294967296), by omega, by go_num, rfl, by omega, by rw [List.length_set]; exact HL.out, HROW.out.set_ _ _, HDL.out.set_ _ (Nat.mod_lt _ (by decide)), ?_, HB.out.setCell (p := ⟨w.heap.size, k, none⟩) (Nat.le_refl _) _⟩
        rw [set_take (by have := HL.out; omega), HTS.out, val_snoc, val_snoc, List.length_take, List.length_take, Nat.min_eq_left (by have := HL.out; omega), Nat.min_eq_left (by have := HN.out; omega), HQ.out]
        exact by_step _ _ _ _ _ _ _ _ HV.out
      case measure => simp [intOf]; omega
    · have hkn : k = n := by omega
      subst hkn
      obtain ⟨e, he⟩ := getE (l := L) (k := k) (by omega)
      have y0 := hrow.cell he
      have y1 := hrow.frozen k
      have hgl := hrow.lt
      have hk0 : (0 : Int) ≤ (k : Int) := by omega
      have hk2 : (k : Int) < (k : Int) + 1 := by omega
      have hk1 : ¬ (k : Int) < (k : Int) := by omega
      have hL2 : L.set k c = L.take k ++ [c] := by
        have := set_take (l := L) (i := k) (d := c) (by omega)
        rw [List.take_of_length_le (by rw [List.length_set]; omega)] at this
        exact this
      have hv2 : val B32 (L.set k c) = val B32 l * t + m := by
        have htl : l.take k = l := List.take_of_length_le (by have := HN.out; omega)
        rw [htl] at hv
        rw [hL2, val_snoc, List.length_take, Nat.min_eq_left (by omega), hv]
      have hrow2 := hrow.set_ k c
      have hdl2 := hdl.set_ k (d := c) hc
      have hlen2 : (L.set k c).length = k + 1 := by rw [List.length_set]; exact hL
      have ht := trim_any (some ⟨w.heap.size, 0, none⟩) (k + 1) (L.set k c) (wr.setCell ⟨w.heap.size, k, none⟩ (.int .u32 (c : Nat))) (by omega) (by omega) (by unfold maxLen; omega) hrow2.dat hdl2
      have hda := dat_digs (by decide) hdl2 hrow2.dat
      rw [hv2, hlen2] at ht
      rw [hv2] at hda
      have HT := Lib.hid ht
      have HDA := Lib.hid hda
      clear he hrow hdl hv hbel hL hL2 hv2 hrow2 hdl2 hlen2 ht hda
      go_wp2_with fail
      refine (HT.out).mono ?_
      rintro e1 w1 ⟨rfl, hw⟩
      rw [← hw]
      clear hw
      go_wp2
      go_ret
      exact ⟨_, rfl, HDA.out, HB.out.setCell (p := ⟨w.heap.size, k, none⟩) (Nat.le_refl _) _⟩
end Go.Proofs.YtncdacafdfknnaaDoor
