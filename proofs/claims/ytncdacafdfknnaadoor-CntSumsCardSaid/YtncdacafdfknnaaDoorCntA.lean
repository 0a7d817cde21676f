/- Words for rows of digits in memory; walks: trim, Of, Right. -/
import Derived.Test.YtncdacafdfknnaaDoorCntP
import Derived.WalkKit
import Derived.WalkSpells
import Derived.WalkLawsBesides
import Derived.OpenShut
import Derived.BigQuiet
import Derived.Lib.Hide
import Derived.IntWalk
import Derived.Deep.RegionHeld3
import Derived.Deep.AppendLies
import Derived.Deep.OwnRows
import Derived.Laws.CopyOwn
namespace Go.Proofs.YtncdacafdfknnaaDoor
open Go.RowKit
set_option linter.unusedVariables false

abbrev B32 : Nat := 4294967296
/-- Digits. -/
def Dig (b : Nat) (l : List Nat) : Prop := ∀ d ∈ l, d < b
theorem Dig.at_ {b : Nat} {l : List Nat} (h : Dig b l) {j z : Nat} (hj : l[j]? = some z) : z < b := h z (List.mem_of_getElem? hj)
theorem Dig.take {b : Nat} {l : List Nat} (h : Dig b l) (k : Nat) : Dig b (l.take k) := fun d hd => h d (List.mem_of_mem_take hd)
theorem dig_digs {b : Nat} (hb : 2 ≤ b) (n : Nat) : Dig b (digs b n) := digs_lt hb n

/-- Numbers of kind k lie at A. -/
def DAt (w : World) (A : Option Addr) (k : IntKind) (l : List Nat) : Prop := l = [] ∨ ∃ g off, A = some ⟨g, off, none⟩ ∧ g < w.heap.size ∧ ∀ j z, l[j]? = some z → w.cell? ⟨g, off + j, none⟩ = some (.int k (z : Nat))
theorem DAt.belowB {w w' : World} {B : Nat} {A : Option Addr} {k : IntKind} {l : List Nat} (h : DAt w A k l) (hb : Below B w w') (hB : B = w.heap.size) : DAt w' A k l := by
  rcases h with h | ⟨b, off, rfl, hlt, hc⟩
  · exact .inl h
  · exact .inr ⟨b, off, rfl, Nat.lt_of_lt_of_le hlt hb.size, fun j z hz => by rw [hb.cell (p := ⟨b, _, none⟩) (by subst hB; exact hlt)]; exact hc j z hz⟩
theorem DAt.take {w : World} {A : Option Addr} {k : IntKind} {l : List Nat} (h : DAt w A k l) (n : Nat) : DAt w A k (l.take n) := by
  rcases h with h | ⟨b, off, rfl, hlt, hc⟩
  · exact .inl (by rw [h]; simp)
  · exact .inr ⟨b, off, rfl, hlt, fun j z hz => hc j z (by rw [List.getElem?_take] at hz; split at hz <;> simp_all)⟩
theorem bdrewN {B : Nat} {a w : World} (h : Below B a w) (n : Nat) : Below B a (w.drewN n) := ⟨h.os, h.tape, h.output, h.size, h.block⟩

theorem norm_of_last {l : List Nat} {d : Nat} (h : l[l.length - 1]? = some d) (hd : d ≠ 0) : Norm l := by
  intro hne
  rw [List.getLast_eq_getElem]
  have hlt : l.length - 1 < l.length := by have := List.length_pos_iff.2 hne; omega
  rw [List.getElem?_eq_getElem hlt] at h
  injection h with h
  rw [h]
  exact hd
theorem take_snoc {l : List Nat} {k d : Nat} (h : l[k]? = some d) : l.take (k + 1) = l.take k ++ [d] := by
  obtain ⟨hj, rfl⟩ := List.getElem?_eq_some_iff.1 h
  exact List.take_succ_eq_append_getElem hj
theorem getE {l : List Nat} {k : Nat} (h : k < l.length) : ∃ d, l[k]? = some d := ⟨_, List.getElem?_eq_getElem h⟩

set_option maxHeartbeats 1000000 in
theorem trim_any (A : Option Addr) (c : Nat) (l : List Nat) (w : World) (hl : l.length ≤ 1000000) (hc : l.length ≤ c) (hc2 : c ≤ maxLen) (hA : DAt w A .u32 l) (hD : Dig B32 l) :
    Calls Tryd.prog 36 #[.slice A l.length c] w fun e w' => e = .returned (.slice A (digs B32 (val B32 l)).length (digs B32 (val B32 l)).length) ∧ w = w' := by
  unfold maxLen at hc2
  have HA := Lib.hid hA
  have HD := Lib.hid hD
  clear hA hD
  obtain ⟨n, hn⟩ : ∃ n, n = l.length := ⟨_, rfl⟩
  rw [← hn] at hl hc ⊢
  have HN := Lib.hid hn
  clear hn
  obtain ⟨r, hr⟩ : ∃ r, r = digs B32 (val B32 l) := ⟨_, rfl⟩
  rw [← hr]
  have HR := Lib.hid hr
  clear hr
  go_enter Tryd.func36, Tryd.ntmps36
  go_wp2
  go_loop [3] (fun v => ∃ k : Nat, k ≤ n ∧ v = .int .i64 k ∧ val B32 l = val B32 (l.take k)) (fun v => (intOf v).toNat)
  case atStart => exact ⟨n, Nat.le_refl _, rfl, by rw [List.take_of_length_le (by rw [HN.out]; exact Nat.le_refl _)]⟩
  case round =>
    obtain ⟨k, hk, rfl, hv⟩ := hrel
    have HV := Lib.hid hv
    clear hv
    by_cases h0 : 0 < k
    · obtain ⟨d, hd⟩ := getE (l := l) (k := k - 1) (by have := HN.out; omega)
      rcases HA.out with h9 | ⟨b, off, rfl, hb, hcell⟩
      · rw [h9] at hd; simp at hd
      have x0 := hcell _ _ hd
      have hts := take_snoc hd
      rw [show k - 1 + 1 = k by omega] at hts
      have HTS := Lib.hid hts
      have hdb := HD.out.at_ hd
      have HDD := Lib.hid hd
      clear hcell hts hd
      have h0' : (0 : Int) < (k : Int) := by omega
      have hk1 : (0 : Int) ≤ (k : Int) - 1 := by omega
      have hk2 : (k : Int) - 1 < (n : Int) := by omega
      by_cases hd0 : d = 0
      · have HV2 := Lib.hid (show val B32 l = val B32 (l.take (k - 1)) from by rw [HV.out, HTS.out, hd0, val_snoc]; simp)
        have hd0' : ((d : Int) == 0) = true := by simp; exact hd0
        have HD0 := Lib.hid hd0
        clear hd0
        go_wp2
        go_round
        case rel => exact ⟨k - 1, by omega, by go_num, HV2.out⟩
        case measure => simp [intOf]; omega
      · have hd0' : ((d : Int) == 0) = false := by simp; exact hd0
        have hr : r = l.take k := by
          rw [HR.out, HV.out]
          have hlen : (l.take k).length = k := by rw [List.length_take]; have := HN.out; omega
          refine digs_val (by decide) (norm_of_last (d := d) ?_ hd0) (HD.out.take k)
          rw [hlen, List.getElem?_take, if_pos (by omega)]
          exact HDD.out
        have hrl : r.length = k := by rw [hr, List.length_take]; have := HN.out; omega
        have HRL := Lib.hid hrl
        clear hr hrl hd0
        have hkc : (k : Int) ≤ (c : Int) := by omega
        go_wp2
        go_ret
        rw [HRL.out]
        exact ⟨rfl, rfl⟩
    · have hk0 : k = 0 := by omega
      have hrl : r.length = 0 := by rw [HR.out, HV.out, hk0]; rfl
      have HRL := Lib.hid hrl
      subst hk0
      clear hrl
      go_wp2
      go_ret
      rw [HRL.out]
      exact ⟨rfl, rfl⟩

/-- Normalized, as a Bool. -/
def normB (l : List Nat) : Bool := !(l.getLast?.getD 1 == 0)
theorem normB_iff (l : List Nat) : normB l = true ↔ Norm l := by
  unfold normB Norm
  cases l with
  | nil => simp
  | cons d r =>
    rw [List.getLast?_eq_some_getLast (by simp : d :: r ≠ [])]
    simp

theorem right_with (f : Nat) (A : Option Addr) (c : Nat) (l : List Nat) (w : World) (hl : l.length ≤ 1000000) (hA : DAt w A .u32 l)
    (hf : f = 29 ∨ f = 30) :
    Calls Tryd.prog f #[.slice A l.length c] w fun e w' => e = .returned (.bool (normB l)) ∧ w = w' := by
  by_cases h0 : l.length = 0
  · have hn : l = [] := List.eq_nil_of_length_eq_zero h0
    subst hn
    rcases hf with rfl | rfl
    · go_enter Tryd.func29, Tryd.ntmps29
      go_wp2
      go_ret
      exact ⟨rfl, rfl⟩
    · go_enter Tryd.func30, Tryd.ntmps30
      go_wp2
      go_ret
      exact ⟨rfl, rfl⟩
  · obtain ⟨d, hd⟩ := getE (l := l) (k := l.length - 1) (by omega)
    rcases hA with h9 | ⟨b, off, rfl, hb, hcell⟩
    · rw [h9] at h0; simp at h0
    have x0 := hcell _ _ hd
    have hv : normB l = !(decide (d = 0)) := by
      unfold normB
      rw [List.getLast?_eq_getElem?, hd]
      by_cases h : d = 0 <;> simp [h]
    have HV := Lib.hid hv
    obtain ⟨n, hn⟩ : ∃ n, n = l.length := ⟨_, rfl⟩
    rw [← hn] at hl h0 x0 ⊢
    clear hcell hv hd hn
    have h1 : ((n : Int) == 0) = false := by simp; exact h0
    have hk1 : (0 : Int) ≤ (n : Int) - 1 := by omega
    have hk2 : (n : Int) - 1 < (n : Int) := by omega
    by_cases hd0 : d = 0
    · have hd0' : ((d : Int) == 0) = true := by simp; exact hd0
      have hd0'' : ((d : Int) != 0) = false := by simp; exact hd0
      rw [HV.out, decide_eq_true hd0]
      clear hd0
      rcases hf with rfl | rfl
      · go_enter Tryd.func29, Tryd.ntmps29
        go_wp2
        go_ret
        exact ⟨rfl, rfl⟩
      · go_enter Tryd.func30, Tryd.ntmps30
        go_wp2
        go_ret
        exact ⟨rfl, rfl⟩
    · have hd0' : ((d : Int) == 0) = false := by simp; exact hd0
      have hd0'' : ((d : Int) != 0) = true := by simp; exact hd0
      rw [HV.out, decide_eq_false hd0]
      clear hd0
      rcases hf with rfl | rfl
      · go_enter Tryd.func29, Tryd.ntmps29
        go_wp2
        go_ret
        exact ⟨rfl, rfl⟩
      · go_enter Tryd.func30, Tryd.ntmps30
        go_wp2
        go_ret
        exact ⟨rfl, rfl⟩
theorem right_any (A : Option Addr) (c : Nat) (l : List Nat) (w : World) (hl : l.length ≤ 1000000) (hA : DAt w A .u32 l) :
    Calls Tryd.prog 29 #[.slice A l.length c] w fun e w' => e = .returned (.bool (normB l)) ∧ w = w' := right_with _ A c l w hl hA (.inl rfl)
theorem rright_any (A : Option Addr) (c : Nat) (l : List Nat) (w : World) (hl : l.length ≤ 1000000) (hA : DAt w A .u32 l) :
    Calls Tryd.prog 30 #[.slice A l.length c] w fun e w' => e = .returned (.bool (normB l)) ∧ w = w' := right_with _ A c l w hl hA (.inr rfl)
end Go.Proofs.YtncdacafdfknnaaDoor
