/- Walk: treetext.Show. -/
import Derived.Test.YtcjblbpkjegmiaaDoorTtrD
import Derived.Laws.EntriesVeiled
namespace Go.Proofs.YtcjblbpkjegmiaaDoor
open Go.RowKit
set_option linter.unusedVariables false

theorem isB_base {B B2 b : Nat} {l : List Value} {w : World} (h : IsB B2 b l w) (hB : B ≤ B2) : IsB B b l w := by
  have key : ∀ p, BAtB B2 b p l w → BAtB B b p l w := fun p ⟨h1, v, h2, h3, h4⟩ => by
    refine ⟨by omega, v, h2, ⟨h3.1, ?_⟩, h4⟩
    rcases h3.2 with hn | ⟨g, cap, cur, hv, hbb, rest⟩
    · exact .inl hn
    · exact .inr ⟨g, cap, cur, hv, by omega, rest⟩
  rcases h with h | h
  · exact .inl (key _ h)
  · exact .inr (key _ h)

set_option maxRecDepth 100000 in
set_option maxHeartbeats 8000000 in
theorem tshowtr_any (vs : List Vr) (t : Tr) (Av : Option Addr) (cv : Nat) (p : TrP) (w : World) (hsm : SmallV vs) (hVs : VrsV w Av cv vs) (hV : TrV w p t) (hT : WordsT w) (hws : t.wsize ≤ 900000) (hraw : (rawT vs t 0).length ≤ 1000000000) :
    Calls Tryd.prog 12 #[.slice Av vs.length cv, t.val p] w fun e w' => e = .returned (.tuple #[.string ⟨(showTr vs t).1.toArray⟩, .int .i64 (showTr vs t).2]) ∧ Below w.heap.size w w' := by
  have hmf : ∀ (fn : Fn) (first cap : Array Value) (W : World), (Instr.makeFunc fn first cap).run Tryd.prog W = .ok (.func fn first cap) W := fun _ _ _ _ => rfl
  have hrun : ∀ args W, (callFunc 31 args).run Tryd.prog W = .ok (.enter 31 args) W := fun _ _ => by kernel_rfl
  obtain ⟨w1, hw1⟩ : ∃ w1, w1 = w.alloc (.cells #[.slice Av vs.length cv] 22) := ⟨_, rfl⟩
  obtain ⟨w2, hw2⟩ : ∃ w2, w2 = w1.alloc (.cells #[.int .i64 t.kind, .slice p.aS t.state.length p.cS, .int .i64 t.fm.op, .int .i64 t.fm.tm.op, .int .i64 t.fm.tm.num, .string t.fm.tm.name, .slice p.aE t.fm.tm.kids.length p.cE, .slice p.aF t.fm.kids.length p.cF, .slice p.aP t.path.length p.cP, .int .i64 t.loop, .int .i64 t.at_, .slice p.aK t.kids.length p.cK] 33) := ⟨_, rfl⟩
  obtain ⟨w3, hw3⟩ : ∃ w3, w3 = w2.alloc (.cells #[.pointer none, .slice none 0 0] 73) := ⟨_, rfl⟩
  obtain ⟨w4, hw4⟩ : ∃ w4, w4 = w3.alloc (.cells #[.func (.func 31) #[] #[.pointer (some ⟨w.heap.size + 1 + 1, 0, none⟩), .pointer (some ⟨w.heap.size, 0, none⟩), .pointer (some ⟨w.heap.size + 1 + 1 + 1, 0, none⟩)]] 74) := ⟨_, rfl⟩
  have s1 : w1.heap.size = w.heap.size + 1 := by rw [hw1]; simp
  have s2 : w2.heap.size = w.heap.size + 1 + 1 := by rw [hw2]; simp [s1]
  have s3 : w3.heap.size = w.heap.size + 1 + 1 + 1 := by rw [hw3]; simp [s2]
  have b1 : Below w.heap.size w w1 := by rw [hw1]; exact (Below.refl _ _).alloc (Nat.le_refl _) _
  have b2 : Below w1.heap.size w1 w2 := by rw [hw2]; exact (Below.refl _ _).alloc (Nat.le_refl _) _
  have b3 : Below w2.heap.size w2 w3 := by rw [hw3]; exact (Below.refl _ _).alloc (Nat.le_refl _) _
  have b4 : Below w3.heap.size w3 w4 := by rw [hw4]; exact (Below.refl _ _).alloc (Nat.le_refl _) _
  have h1 : w1.heap[w.heap.size]? = some (.cells #[.slice Av vs.length cv] 22 (0, 0)) := by rw [hw1]; exact heap_alloc_new w _
  have h2 : w2.heap[w.heap.size + 1]? = some (.cells #[.int .i64 t.kind, .slice p.aS t.state.length p.cS, .int .i64 t.fm.op, .int .i64 t.fm.tm.op, .int .i64 t.fm.tm.num, .string t.fm.tm.name, .slice p.aE t.fm.tm.kids.length p.cE, .slice p.aF t.fm.kids.length p.cF, .slice p.aP t.path.length p.cP, .int .i64 t.loop, .int .i64 t.at_, .slice p.aK t.kids.length p.cK] 33 (0, 0)) := by rw [hw2, ← s1]; exact heap_alloc_new w1 _
  have h4 : w4.heap[w.heap.size + 1 + 1 + 1]? = some (.cells #[.func (.func 31) #[] #[.pointer (some ⟨w.heap.size + 1 + 1, 0, none⟩), .pointer (some ⟨w.heap.size, 0, none⟩), .pointer (some ⟨w.heap.size + 1 + 1 + 1, 0, none⟩)]] 74 (0, 0)) := by rw [hw4, ← s3]; exact heap_alloc_new w3 _
  have v4 : w4.heap[w.heap.size]? = some (.cells #[.slice Av vs.length cv] 22 (0, 0)) := by rw [b4.block _ (by omega), b3.block _ (by omega), b2.block _ (by omega)]; exact h1
  have t4 : w4.heap[w.heap.size + 1]? = some (.cells #[.int .i64 t.kind, .slice p.aS t.state.length p.cS, .int .i64 t.fm.op, .int .i64 t.fm.tm.op, .int .i64 t.fm.tm.num, .string t.fm.tm.name, .slice p.aE t.fm.tm.kids.length p.cE, .slice p.aF t.fm.kids.length p.cF, .slice p.aP t.path.length p.cP, .int .i64 t.loop, .int .i64 t.at_, .slice p.aK t.kids.length p.cK] 33 (0, 0)) := by rw [b4.block _ (by omega), b3.block _ (by omega)]; exact h2
  have bw4 : Below w.heap.size w w4 := ((b1.trans (b2.mono (by omega))).trans (b3.mono (by omega))).trans (b4.mono (by omega))
  have hI3 : IsB w2.heap.size w2.heap.size (Lib.byteCells []) w3 := by rw [hw3]; exact Lib.fresh_isBuilder _ _ w2
  have hI0 : IsB w.heap.size (w.heap.size + 1 + 1) (Lib.byteCells []) w4 := by
    have h := IsB.keep hI3 b4
    rw [s2] at h
    exact isB_base h (by omega)
  have hC : ShCtx w.heap.size (w.heap.size + 1 + 1) w.heap.size (w.heap.size + 1 + 1 + 1) Av vs.length cv w4 := ⟨v4, h4, by omega, by omega⟩
  have hcall := show1_any vs Av cv (w.heap.size + 1 + 1) w.heap.size (w.heap.size + 1 + 1 + 1) w.heap.size w rfl (by omega) hsm hVs hT t.size t 0 [] p w4 (Nat.le_refl _) (by omega) hV bw4 hI0 hC (by simpa using hraw)
  rw [List.nil_append] at hcall
  unfold Tr.val at hcall ⊢
  obtain ⟨X, hX⟩ : ∃ X, X = showTr vs t := ⟨_, rfl⟩
  rw [← hX]
  unfold showTr at hX
  obtain ⟨E, hE⟩ : ∃ E, E = errT vs t := ⟨_, rfl⟩
  obtain ⟨RW, hRW⟩ : ∃ RW, RW = rawT vs t 0 := ⟨_, rfl⟩
  rw [← hE, ← hRW] at hcall hX
  rw [← hRW] at hraw
  have HX := Lib.hid hX
  have HW4 := Lib.hid hw4
  rw [hw4, hw3, hw2, hw1] at hcall
  have HCALL := Lib.hid hcall
  have HWX : Hid (w4 = (((w.alloc (.cells #[.slice Av vs.length cv] 22)).alloc (.cells #[.int .i64 t.kind, .slice p.aS t.state.length p.cS, .int .i64 t.fm.op, .int .i64 t.fm.tm.op, .int .i64 t.fm.tm.num, .string t.fm.tm.name, .slice p.aE t.fm.tm.kids.length p.cE, .slice p.aF t.fm.kids.length p.cF, .slice p.aP t.path.length p.cP, .int .i64 t.loop, .int .i64 t.at_, .slice p.aK t.kids.length p.cK] 33)).alloc (.cells #[.pointer none, .slice none 0 0] 73)).alloc (.cells #[.func (.func 31) #[] #[.pointer (some ⟨w.heap.size + 1 + 1, 0, none⟩), .pointer (some ⟨w.heap.size, 0, none⟩), .pointer (some ⟨w.heap.size + 1 + 1 + 1, 0, none⟩)]] 74)) := by show _ = _; rw [hw4, hw3, hw2, hw1]
  have HB4 := Lib.hid bw4
  have HS3 := Lib.hid s3
  have hraw2 := hraw
  clear hw1 hw2 hw3 hw4 s1 s2 s3 b1 b2 b3 b4 h1 h2 h4 v4 t4 bw4 hI3 hI0 hC hcall hX hE hRW hsm hVs hV hT
  go_enter Tryd.func12, Tryd.ntmps12
  go_wp2_with fail
  refine (HCALL.out).mono ?_
  rintro e w5 ⟨rfl, hi5, hk5⟩
  rw [← HWX.out] at hk5
  have hb5 := HB4.out.trans hk5.below
  have HB5 := Lib.hid hb5
  have HI5 := Lib.hid hi5
  have hs5 : w.heap.size ≤ w5.heap.size := hb5.size
  clear hi5 hk5 hb5
  by_cases h0 : E = 0
  · have hi := HI5.out h0
    have hlen := Tryd.Builder_Len w.heap.size (w.heap.size + 1 + 1) (Lib.byteCells RW) w5 hi
    rw [Lib.byteCells_length] at hlen
    have HLEN := Lib.hid hlen
    have hstr := Tryd.Builder_String_any w.heap.size (w.heap.size + 1 + 1) RW w5 hi (by omega)
    have HSTR := Lib.hid hstr
    have HX2 : Hid (X = if 65536 < RW.length then ([], 4) else (RW, 0)) := by show _ = _; rw [HX.out, if_neg (fun h => h h0)]
    have h0' : (E != 0) = false := by simpa using h0
    clear hi hlen hstr h0
    go_wp2_with fail
    refine (HLEN.out).mono ?_
    rintro e w6 ⟨rfl, hw6⟩
    subst hw6
    by_cases h6 : 65536 < RW.length
    · have HR : Hid (X = ([], 4)) := by show _ = _; rw [HX2.out, if_pos h6]
      have h6' : (65536 : Int) < (RW.length : Int) := by omega
      clear h6
      go_wp2_with fail
      go_ret2
      rw [HR.out]
      exact ⟨rfl, HB5.out⟩
    · have HR : Hid (X = (RW, 0)) := by show _ = _; rw [HX2.out, if_neg h6]
      have h6' : ¬ (65536 : Int) < (RW.length : Int) := by omega
      clear h6
      go_wp2_with fail
      refine (HSTR.out).mono ?_
      rintro e w7 ⟨rfl, hb7⟩
      have HB7 := Lib.hid (HB5.out.trans hb7)
      clear hb7
      go_wp2_with fail
      go_ret2
      rw [HR.out]
      exact ⟨rfl, HB7.out⟩
  · have HR : Hid (X = ([], E)) := by show _ = _; rw [HX.out, if_pos h0]
    have h0' : (E != 0) = true := by simpa using h0
    clear h0
    go_wp2_with fail
    go_ret2
    rw [HR.out]
    exact ⟨rfl, HB5.out⟩
end Go.Proofs.YtcjblbpkjegmiaaDoor
