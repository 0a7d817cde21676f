/- Walk of the reference: Text. -/
import Derived.Test.YtncdacafdfknnaaDoorCntY
namespace Go.Proofs.YtncdacafdfknnaaDoor
open Go.RowKit
set_option linter.unusedVariables false

/-- The decimal text of a number, as numbers: the digits from the top, none for zero. -/
def decL (x : Nat) : List Nat := (digs 10 x).reverse.map fun d => 48 + d
def decS (x : Nat) : ByteArray := if x = 0 then ⟨#[48]⟩ else strOfNums ((decL x).map fun (d : Nat) => (d : Int))

set_option maxRecDepth 100000 in
set_option maxHeartbeats 4000000 in
theorem rtext_num (A1 : Option Addr) (m c : Nat) (x : Nat) (w : World) (h1 : NumAt w A1 m c x) (hm : m ≤ 100000) :
    Calls Tryd.prog 14 #[.slice A1 m c] w fun e w' => e = .returned (.string (decS x)) ∧ Below w.heap.size w w' := by
  have H1 := Lib.hid h1
  have HL := Lib.hid h1.len
  clear h1
  by_cases hx0 : x = 0
  · subst hx0
    have hm0 : m = 0 := by rw [HL.out, digs_zero]; rfl
    subst hm0
    go_enter Tryd.func14, Tryd.ntmps14
    go_wp2
    go_ret
    exact ⟨rfl, Below.refl _ _⟩
  · have hmp : 0 < m := by
      rw [HL.out]
      rcases Nat.eq_zero_or_pos (digs 10 x).length with h | h
      · exact absurd (by rw [← val10 x, List.eq_nil_of_length_eq_zero h]; rfl) hx0
      · exact h
    have HX0 := Lib.hid hx0
    clear hx0
    have hm1 : ¬ (m : Int) = 0 := by omega
    have hm2 : ((m : Int) == 0) = false := by simp; omega
    go_enter Tryd.func14, Tryd.ntmps14
    go_wp2
    go_loopw [3, 4] (fun so si wr => ∃ (i : Int) (k : Nat) (v : Value), v = so ∧ -1 ≤ i ∧ i < m ∧ (k : Int) = m - 1 - i ∧ si = .int .i64 i ∧ wr.ownsRow w.heap.size 5 1 v k (bv ((decL x).take k)) ∧ Below w.heap.size w wr) (fun _ i _ => (intOf i + 1).toNat)
    case atStart => exact ⟨(m : Int) - 1, 0, _, rfl, by omega, by omega, by omega, rfl, World.ownsRow_nil _ _ _ _, Below.refl _ _⟩
    case round =>
      obtain ⟨i, k, v, rfl, hi1, hi2, hk, rfl, how, hbel⟩ := hrel
      have hlen : (decL x).length = m := by rw [decL, List.length_map, List.length_reverse, HL.out]
      have HLEN := Lib.hid hlen
      clear hlen
      by_cases h0 : 0 ≤ i
      · obtain ⟨j, rfl⟩ : ∃ j : Nat, i = j := ⟨i.toNat, by omega⟩
        obtain ⟨d, hd⟩ := getE (l := digs 10 x) (k := j) (by have := HL.out; omega)
        rcases H1.out.dat.belowB hbel rfl with h9 | ⟨g, off, rfl, hg, hcell⟩
        · rw [h9] at hd; simp at hd
        have x1 := hcell _ _ hd
        have hdb : d < 10 := (dig10 x).at_ hd
        have hsz := hbel.size
        have hnx : (decL x)[k]? = some (48 + d) := by
          unfold decL
          rw [List.getElem?_map, List.getElem?_reverse (by have := HL.out; omega), show (digs 10 x).length - 1 - k = j from by have := HL.out; omega, hd]
          rfl
        have HNX := Lib.hid (take_snoc hnx)
        have HOW := Lib.hid (how.alloc (.cells #[.int .u8 (48 + (d : Int))] 5))
        have HB := Lib.hid hbel
        have HLT := Lib.hid how.lt
        have hw8 : IntKind.u8.wrap (48 + (d : Int)) = 48 + (d : Int) := IntWalk.u8_in _ (by omega)
        have hj0 : (0 : Int) ≤ (j : Int) := by omega
        have hj1 : (j : Int) < (m : Int) := by omega
        have hkm : k ≤ 100000 := by omega
        clear hcell hd hnx how hbel
        go_wp2_with (with_reducible refine wpList_append_byte rfl _ _ _ rfl Tryd.underlying66 w.heap.size v k ((decL x).take k) rfl HOW.out _ 1 (48 + d) rfl (by simp) (by omega) (by simp; omega) ?_; intro v' w1 hown1 hgrow1)
        go_wp2
        go_roundw
        case rel => exact ⟨(j : Int) - 1, k + 1, v', rfl, by omega, by omega, by omega, rfl, by rw [HNX.out]; exact hown1, (HB.out.alloc hsz _).grown hgrow1 (by simp; omega) (fun q hq => (HLT.out q hq).1)⟩
        case measure => first | (simp [intOf]; done) | (simp [intOf]; omega)
      · have hi : i = -1 := by omega
        subst hi
        have hkm : k = m := by omega
        subst hkm
        rw [List.take_of_length_le (by rw [HLEN.out]; exact Nat.le_refl _)] at how
        have hcv := string_of_own how 66 9 Tryd.underlying66 Tryd.underlying9
        have HB := Lib.hid hbel
        clear how hbel hk hi1 hi2 h0
        go_wp2
        go_ret
        refine ⟨?_, HB.out⟩
        rw [decS, if_neg HX0.out]
        rfl
end Go.Proofs.YtncdacafdfknnaaDoor
