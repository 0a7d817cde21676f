/- Walks of the law's package: small, plain, the examples. -/
import Derived.Test.YtcjblbpkjegmiaaDoorTtrC
import Derived.Test.YtcjblbpkjegmiaaDoorLexI
namespace Go.Proofs.YtcjblbpkjegmiaaDoor
open Go.RowKit
set_option linter.unusedVariables false

theorem bdrewN {B : Nat} {a w : World} (h : Below B a w) (n : Nat) : Below B a (w.drewN n) := ⟨h.os, h.tape, h.output, h.size, h.block⟩
def SmallQ (vs : List Vr) (w : World) (e : Ending) (w' : World) : Prop := ∃ b, e = .returned (.bool b) ∧ (b = true → SmallV vs) ∧ w = w'
set_option maxRecDepth 100000 in
set_option maxHeartbeats 4000000 in
theorem small_any (vs : List Vr) (A : Option Addr) (c : Nat) (w : World) (hV : VrsV w A c vs) :
    Calls Tryd.prog 9 #[.slice A vs.length c] w (SmallQ vs w) := by
  obtain ⟨n, hn⟩ : ∃ n, n = vs.length := ⟨_, rfl⟩
  have hcv := hV.cap
  have hcvm := hV.capm
  unfold maxLen at hcvm
  rw [← hn] at hcv ⊢
  obtain ⟨F, hF⟩ : ∃ F, F = SmallQ vs w := ⟨_, rfl⟩
  rw [← hF]
  have HF := Lib.hid hF
  have HV := Lib.hid hV
  have HN := Lib.hid hn
  clear hF hV hn
  go_enter Tryd.func9, Tryd.ntmps9
  go_wp2_with fail
  go_loop [3] (fun si => ∃ k : Nat, k ≤ n ∧ k ≤ 30 ∧ si = .int .i64 k ∧ ∀ v ∈ vs.take k, v.name.size ≤ 60) (fun i => n - (intOf i).toNat)
  case atStart => exact ⟨0, by omega, by omega, rfl, fun v hv => by simp at hv⟩
  case round =>
    obtain ⟨k, hk, hk30, rfl, hall⟩ := hrel
    have HALL := Lib.hid hall
    clear hall
    by_cases hlt : k < n ∧ k < 30
    · obtain ⟨hlt, hlt30⟩ := hlt
      obtain ⟨v, hv⟩ : ∃ v, vs[k]? = some v := ⟨_, List.getElem?_eq_getElem (by have := HN.out; omega)⟩
      rcases HV.out.row with h9 | ⟨g, o, rfl, hg, hvr⟩
      · rw [h9] at hv; simp at hv
      obtain ⟨q0, q1, q2, q3⟩ := hvr k v hv
      have e1 : o + 4 * k = o + k * 4 := by omega
      rw [e1] at q0 q1 q2 q3
      have hvn := HV.out.name v (List.mem_of_getElem? hv)
      unfold maxLen at hvn
      have HTK : Hid (vs.take (k + 1) = vs.take k ++ [v]) := by
        obtain ⟨hj, hj2⟩ := List.getElem?_eq_some_iff.1 hv
        show _ = _
        rw [List.take_succ_eq_append_getElem hj, hj2]
      have hk0 : (0 : Int) ≤ (k : Int) := by omega
      have hk1 : (k : Int) < (n : Int) := by omega
      have hk3 : (k : Int) < 30 := by omega
      clear hv hvr e1
      by_cases h60 : 60 < v.name.size
      · have h6' : (60 : Int) < (v.name.size : Int) := by omega
        clear h60
        go_wp2_with fail
        rw [HF.out]
        exact ⟨false, rfl, (fun h => by cases h), rfl⟩
      · have h6' : ¬ (60 : Int) < (v.name.size : Int) := by omega
        have H60 : Hid (v.name.size ≤ 60) := by show _ ≤ _; omega
        clear h60
        go_wp2_with fail
        go_round
        case rel =>
          refine ⟨k + 1, by omega, by omega, by go_num, ?_⟩
          intro x hx
          rw [HTK.out] at hx
          rcases List.mem_append.1 hx with hx | hx
          · exact HALL.out x hx
          · simp at hx; rw [hx]; exact H60.out
        case measure => simp [intOf]; omega
    · by_cases hkn : k < n
      · have hk30' : ¬ (k : Int) < 30 := by omega
        have hk1 : (k : Int) < (n : Int) := by omega
        have hn20 : ¬ (n : Int) ≤ 20 := by omega
        clear hlt hkn
        go_wp2_with fail
        rw [HF.out]
        exact ⟨false, rfl, (fun h => by cases h), rfl⟩
      · have hk1 : ¬ (k : Int) < (n : Int) := by omega
        have HKN : Hid (k = n) := by show k = n; omega
        clear hlt hkn
        by_cases hn20 : n ≤ 20
        · have hn' : (n : Int) ≤ 20 := by omega
          have HN20 := Lib.hid hn20
          clear hn20
          go_wp2_with fail
          rw [HF.out]
          refine ⟨true, rfl, fun _ => ⟨by rw [← HN.out]; exact HN20.out, fun v hv => HALL.out v ?_⟩, rfl⟩
          rw [HKN.out, List.take_of_length_le (by rw [← HN.out]; exact Nat.le_refl _)]
          exact hv
        · have hn' : ¬ (n : Int) ≤ 20 := by omega
          clear hn20
          go_wp2_with fail
          rw [HF.out]
          exact ⟨false, rfl, (fun h => by cases h), rfl⟩

theorem intsV_new (w : World) (T : TypeId) (l : List Int) (hr : ∀ z ∈ l, -9223372036854775808 ≤ z ∧ z ≤ 9223372036854775807) (hm : l.length ≤ maxLen) : IntsV (w.alloc (.cells (l.map fun z => Value.int .i64 z).toArray T)) (some ⟨w.heap.size, 0, none⟩) l.length l :=
  ⟨Nat.le_refl _, hm, hr, .inr ⟨_, _, rfl, by simp, fun j z hj => by
    rw [Nat.zero_add, cell_of_row _ w.heap.size j _ T (0, 0) (heap_alloc_new w _)]
    simp [hj]⟩⟩
def exV : List Vr := [⟨⟨#[110]⟩, false, 0, 3⟩, ⟨⟨#[98]⟩, true, 0, 0⟩]
def exT : Tr := .mk 1 [] (.mk 1 (.mk 3 0 ⟨#[98]⟩ []) []) [] 0 0 []
def exP : TrP := ⟨none, 0, none, 0, none, 0, none, 0, none, 0⟩
theorem ex_state : stateT exV [2, 1] = ([110, 61, 50, 32, 98, 61, 49], 0) := by kernel_rfl
theorem ex_lines : linesT exV [[0, 0], [1, 0]] 1 = ([[32, 32, 110, 61, 48, 32, 98, 61, 48], [42, 32, 110, 61, 49, 32, 98, 61, 48]], 0) := by kernel_rfl
theorem ex_raw : rawT exV exT 0 = [112, 108, 97, 105, 110, 32, 91, 98, 93, 10] := by kernel_rfl
theorem ex_show : showTr exV exT = ([112, 108, 97, 105, 110, 32, 91, 98, 93, 10], 0) := by kernel_rfl
theorem ex_small : SmallV exV := ⟨by decide, by intro v hv; simp [exV] at hv; rcases hv with rfl | rfl <;> decide⟩
theorem exV_new (w : World) (T : TypeId) : VrsV (w.alloc (.cells #[.string ⟨#[110]⟩, .bool false, .int .i64 0, .int .i64 3, .string ⟨#[98]⟩, .bool true, .int .i64 0, .int .i64 0] T)) (some ⟨w.heap.size, 0, none⟩) 2 exV := by
  refine ⟨by decide, by unfold maxLen; omega, fun v hv => Nat.le_trans (ex_small.name v hv) (by unfold maxLen; omega), .inr ⟨_, _, rfl, by simp, fun j v hj => ?_⟩⟩
  have hh := heap_alloc_new w (.cells #[.string ⟨#[110]⟩, .bool false, .int .i64 0, .int .i64 3, .string ⟨#[98]⟩, .bool true, .int .i64 0, .int .i64 0] T)
  match j, hj with
  | 0, hj =>
    obtain rfl := Option.some.inj hj
    refine ⟨?_, ?_, ?_, ?_⟩ <;> (rw [cell_of_row _ w.heap.size _ _ T (0, 0) hh]; rfl)
  | 1, hj =>
    obtain rfl := Option.some.inj hj
    refine ⟨?_, ?_, ?_, ?_⟩ <;> (rw [cell_of_row _ w.heap.size _ _ T (0, 0) hh]; rfl)
theorem exT_v (w : World) : TrV w exP exT :=
  ⟨⟨⟨Nat.le_refl _, by unfold maxLen; show 0 ≤ _; omega, fun z hz => (by cases hz), .inl rfl⟩, ⟨⟨Nat.le_refl _, by unfold maxLen; show 0 ≤ _; omega, by unfold maxLen; show 1 ≤ _; omega, .inl rfl⟩, Nat.le_refl _, by unfold maxLen; show 0 ≤ _; omega, .inl rfl⟩, ⟨Nat.le_refl _, by unfold maxLen; show 0 ≤ _; omega, .inl rfl⟩, Nat.le_refl _, by unfold maxLen; show 0 ≤ _; omega, by constructor <;> (show _ ≤ _; simp [exT, Tr.at_])⟩, .inl rfl⟩

set_option maxRecDepth 100000 in
set_option maxHeartbeats 4000000 in
theorem plain_any (s : ByteArray) (w : World) :
    Calls Tryd.prog 30 #[.string s] w fun e w' => e = .returned (.agg #[.int .i64 1, .slice none 0 0, .int .i64 1, .int .i64 3, .int .i64 0, .string s, .slice none 0 0, .slice none 0 0, .slice none 0 0, .int .i64 0, .int .i64 0, .slice none 0 0]) ∧ Below w.heap.size w w' := by
  go_enter Tryd.func30, Tryd.ntmps30
  go_wp2_with fail
  refine bodyPost_ret (results_cell_row (t := 33) (fr := (0, 0)) rfl _ _ w.heap.size _ _ rfl (heap_alloc_new w _) Tryd.underlying33 rfl (by kernel_rfl)) rfl ?_
  exact ⟨rfl, (Below.refl _ w).alloc (Nat.le_refl _) _⟩
end Go.Proofs.YtcjblbpkjegmiaaDoor
