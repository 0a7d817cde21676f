/- Walk of the law's package: the examples. -/
import Derived.Test.YtnhabokkjmcdoaaDoorLexG
namespace Go.Proofs.YtnhabokkjmcdoaaDoor
open Go.RowKit
set_option linter.unusedVariables false

theorem all_at (s : ByteArray) (ts : List Tok) (a e : Int) (h : all (bs s) = (ts, a, e)) (w : World) (hs : s.size ≤ maxLen) (hT : Tables w) :
    Calls Tryd.prog 20 #[.string s] w fun r w' => ∃ A c, r = .returned (.tuple #[.slice A ts.length c, .int .i64 a, .int .i64 e]) ∧ ToksAt w' A ts ∧ Below w.heap.size w w' := by
  have := all_any s w hs hT
  rw [h] at this
  refine this.mono fun r w' ⟨v, hr, ho, hb⟩ => ?_
  obtain ⟨A, c, hv, ht, _⟩ := toks_of_own ho
  exact ⟨A, c, by rw [hr, hv], ht, hb⟩
theorem rall_at (s : ByteArray) (ts : List Tok) (a e : Int) (h : all (bs s) = (ts, a, e)) (w : World) (hs : s.size ≤ 1000000) :
    Calls Tryd.prog 21 #[.string s] w fun r w' => ∃ A c, r = .returned (.tuple #[.slice A ts.length c, .int .i64 a, .int .i64 e]) ∧ ToksAt w' A ts ∧ Below w.heap.size w w' := by
  have := rall_any s w hs
  rw [h] at this
  refine this.mono fun r w' ⟨v, hr, ho, hb⟩ => ?_
  obtain ⟨A, c, hv, ht, _⟩ := toks_of_own ho
  exact ⟨A, c, by rw [hr, hv], ht, hb⟩
theorem to_at (A : Option Addr) (c : Nat) (l : List Tok) (w : World) (hl : l.length ≤ 1000000) (hA : ToksAt w A l) :
    Calls Tryd.prog 18 #[.slice A l.length c] w fun e w' => ∃ B d, e = .returned (.slice B l.length d) ∧ ToksAt w' B l ∧ Below w.heap.size w w' :=
  (to_any A c l w hl hA).mono fun r w' ⟨v, hr, ho, hb⟩ => by
    obtain ⟨B, d, hv, ht, _⟩ := toks_of_own ho
    exact ⟨B, d, by rw [hr, hv], ht, hb⟩

/-- Tokens in a new block. -/
theorem toks_new (w : World) (C : Array Value) (T : TypeId) (l : List Tok) (h : C.toList = flat l) : ToksAt (w.alloc (.cells C T)) (some ⟨w.heap.size, 0, none⟩) l := by
  refine .inr ⟨w.heap.size, 0, rfl, by simp, fun k z hz j hj => ?_⟩
  rw [World.cell?_alloc_at _ _ _ _ rfl, Nat.zero_add, ← Array.getElem?_toList, h]
  exact flat_get hz hj
theorem toks_newn (w : World) (C : Array Value) (T : TypeId) (l : List Tok) (n : Nat) (hn : n = w.heap.size) (h : C.toList = flat l) : ToksAt (w.alloc (.cells C T)) (some ⟨n, 0, none⟩) l := by
  subst hn
  exact toks_new w C T l h
theorem toks_new1 (w : World) (o : Obj) (C : Array Value) (T : TypeId) (l : List Tok) (h : C.toList = flat l) : ToksAt ((w.alloc o).alloc (.cells C T)) (some ⟨w.heap.size + 1, 0, none⟩) l :=
  toks_newn _ _ _ _ _ (by simp) h
theorem ToksAt.alloc {w : World} {A : Option Addr} {l : List Tok} (h : ToksAt w A l) (o : Obj) : ToksAt (w.alloc o) A l := h.belowB ((Below.refl _ _).alloc (Nat.le_refl _) _) rfl
theorem ToksAt.drewN {w : World} {A : Option Addr} {l : List Tok} (h : ToksAt w A l) (n : Nat) : ToksAt (w.drewN n) A l := by
  rcases h with h | ⟨b, off, rfl, hlt, hc⟩
  · exact .inl h
  · exact .inr ⟨b, off, rfl, by rw [World.heap_drewN]; exact hlt, fun k z hz j hj => by rw [World.cell?_drewN]; exact hc k z hz j hj⟩

theorem bdrewN {B : Nat} {a w : World} (h : Below B a w) (n : Nat) : Below B a (w.drewN n) := ⟨h.os, h.tape, h.output, h.size, h.block⟩
theorem ToksAt.drew {w : World} {A : Option Addr} {l : List Tok} (h : ToksAt w A l) : ToksAt w.drew A l := h.drewN 1

def ex1 : List Tok := [⟨2, 0, [120], 0⟩, ⟨4, 0, [58, 61], 1⟩, ⟨1, 1, [49], 3⟩]
theorem ex1_all : all (bs ⟨#[120, 58, 61, 49, 32, 45, 45, 32, 97]⟩) = (ex1, 0, 0) := by kernel_rfl
theorem ex2_all : all (bs ⟨#[97, 32, 48, 49]⟩) = ([], 2, 15) := by kernel_rfl
theorem ex3_all : all (bs ⟨#[50, 53, 54]⟩) = ([], 0, 2) := by kernel_rfl
theorem ex4_is : isName (bs ⟨#[112]⟩) = true := by kernel_rfl
theorem ex5_is : isName (bs ⟨#[69, 88]⟩) = false := by kernel_rfl

set_option maxRecDepth 100000 in
set_option maxHeartbeats 4000000 in
theorem lives_any (w : World) (hT : Tables w) :
    Calls Tryd.prog 14 #[] w fun e w' => e = .returned (.bool true) ∧ Below w.heap.size w w' := by
  have HT := Lib.hid hT
  have H1 := Lib.hid (fun W (h : Tables W) => all_at _ _ _ _ ex1_all W (by decide) h)
  have H2 := Lib.hid (fun W (h : Tables W) => all_at _ _ _ _ ex2_all W (by decide) h)
  have H3 := Lib.hid (fun W (h : Tables W) => all_at _ _ _ _ ex3_all W (by decide) h)
  clear hT
  go_enter Tryd.func14, Tryd.ntmps14
  go_wp2_with fail
  refine (H1.out _ HT.out).mono ?_
  rintro e w1 ⟨A1, c1, rfl, ha1, hb1⟩
  have HB1 := Lib.hid hb1
  have HA1 := Lib.hid ha1
  have hz1 := hb1.size
  clear hb1 ha1
  go_wp2_with fail
  refine (H2.out _ (HT.out.below HB1.out)).mono ?_
  rintro e w2 ⟨A2, c2, rfl, ha2, hb2⟩
  have HB2 := Lib.hid (HB1.out.trans (hb2.mono hz1))
  have HA2 := Lib.hid (HA1.out.belowB hb2 rfl)
  have hz2 := HB2.out.size
  clear hb2 ha2
  go_wp2_with fail
  refine (H3.out _ (HT.out.below HB2.out)).mono ?_
  rintro e w3 ⟨A3, c3, rfl, ha3, hb3⟩
  have HB3 := Lib.hid (HB2.out.trans (hb3.mono hz2))
  have HA3 := Lib.hid (HA2.out.belowB hb3 rfl)
  have hz3 := HB3.out.size
  clear hb3 ha3
  go_wp2_with fail
  refine (to_at A1 c1 ex1 w3 (by decide) HA3.out).mono ?_
  rintro e w4 ⟨B, d, rfl, ha4, hb4⟩
  have HB4 := Lib.hid (HB3.out.trans (hb4.mono hz3))
  have HA4 := Lib.hid ha4
  have hz4 := HB4.out.size
  clear ha4 hb4
  have HTN := Lib.hid (toks_new w4 #[.int .i64 2, .int .i64 0, .string ⟨#[120]⟩, .int .i64 0, .int .i64 4, .int .i64 0, .string ⟨#[58, 61]⟩, .int .i64 1, .int .i64 1, .int .i64 1, .string ⟨#[49]⟩, .int .i64 3] 28 ex1 rfl)
  have HA5 := Lib.hid (HA4.out.belowB ((Below.refl w4.heap.size w4).alloc (Nat.le_refl _) (.cells #[.int .i64 2, .int .i64 0, .string ⟨#[120]⟩, .int .i64 0, .int .i64 4, .int .i64 0, .string ⟨#[58, 61]⟩, .int .i64 1, .int .i64 1, .int .i64 1, .string ⟨#[49]⟩, .int .i64 3] 28)) rfl)
  have hbn := HB4.out.alloc hz4 (.cells #[.int .i64 2, .int .i64 0, .string ⟨#[120]⟩, .int .i64 0, .int .i64 4, .int .i64 0, .string ⟨#[58, 61]⟩, .int .i64 1, .int .i64 1, .int .i64 1, .string ⟨#[49]⟩, .int .i64 3] 28)
  have HB5 := Lib.hid hbn
  clear hbn
  go_wp2_with fail
  refine (same_any B _ d 3 ex1 ex1 true _ (by decide) rfl HA5.out HTN.out (fun k x y hx hy => by rw [hx] at hy; injection hy with hy; subst hy; exact ⟨rfl, rfl, rfl, fun _ => rfl⟩)).mono ?_
  rintro e w5 ⟨rfl, n5, rfl⟩
  have HB6 := Lib.hid (below_drewN HB5.out n5)
  go_wp2_with fail
  have h4 := is_any ⟨#[112]⟩ ((w4.alloc (.cells #[.int .i64 2, .int .i64 0, .string ⟨#[120]⟩, .int .i64 0, .int .i64 4, .int .i64 0, .string ⟨#[58, 61]⟩, .int .i64 1, .int .i64 1, .int .i64 1, .string ⟨#[49]⟩, .int .i64 3] 28)).drewN n5) (by decide) (HT.out.below HB6.out)
  rw [ex4_is] at h4
  refine h4.mono ?_
  rintro e w6 ⟨rfl, rfl⟩
  clear h4
  go_wp2_with fail
  have h5 := is_any ⟨#[69, 88]⟩ ((w4.alloc (.cells #[.int .i64 2, .int .i64 0, .string ⟨#[120]⟩, .int .i64 0, .int .i64 4, .int .i64 0, .string ⟨#[58, 61]⟩, .int .i64 1, .int .i64 1, .int .i64 1, .string ⟨#[49]⟩, .int .i64 3] 28)).drewN n5) (by decide) (HT.out.below HB6.out)
  rw [ex5_is] at h5
  refine h5.mono ?_
  rintro e w6 ⟨rfl, rfl⟩
  clear h5
  go_wp2
  go_ret
  exact ⟨rfl, HB6.out⟩
end Go.Proofs.YtnhabokkjmcdoaaDoor
