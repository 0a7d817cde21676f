/- Walk: terms.put: a row of strings in, a row of strings out. -/
import Derived.Test.YtnbphgeepnknlaaDoorQTrmD
import Derived.StillTailTactics
namespace Go.Proofs.YtnbphgeepnknlaaDoor
open Go.RowKit
set_option linter.unusedVariables false

theorem infoStr : (Tryd.prog.info? 9).map (fun i => (i.zero, i.size, i.bytes)) = some (some (.string ⟨#[]⟩), 1, 16) := by kernel_rfl

theorem wpList_copy_row {P : Program} {w : World} {ops : Array Oper} {rest : List Oper} {o : Oper} {a : Act} {Q : Exit → Act → World → Prop} (hgd : o.guard = none) (d s : Operand) (dT sT : TypeId)
    (ho : o.op = .call { callee := .builtin .copy, args := #[d, s], argTypes := #[dT, sT] }) (elem : TypeId) (hu : P.underlying dT = some (.slice elem)) (hsz : (P.info? elem).map (·.size) = some 1)
    (dp sp : Option Addr) (dLen dCap sLen sCap : Nat) (hd : a.eval d = .slice dp dLen dCap) (hs : a.eval s = .slice sp sLen sCap)
    (g off : Nat) (cur : List Value) (t : TypeId) (hg : w.heap[g]? = some (.cells cur.toArray t (0, 0))) (cs : List Value) (hn : cs.length = Nat.min sLen dLen)
    (hpos : 0 < cs.length → dp = some ⟨g, off, none⟩ ∧ ∃ ad, sp = some ad ∧ ∀ j v, cs[j]? = some v → w.cell? (ad.add j) = some v)
    (hfit : off + cs.length ≤ cur.length) (h1 : ∀ v ∈ cs, v.oneCell' = true)
    (h : ∀ w', Hid (w'.heap[g]? = some (.cells (splice cur off cs).toArray t (0, 0))) → Only (fun q => q = g) w w' → wpList P ops Q rest (a.put o.dst (goInt cs.length)) w') :
    wpList P ops Q (o :: rest) a w := by
  by_cases h0 : cs.length = 0
  · obtain rfl : cs = [] := List.eq_nil_of_length_eq_zero h0
    refine wpList_copy_nothing hgd d s dT sT ho elem hu hsz dp sp dLen dCap sLen sCap hd hs (by simpa using hn.symm) ?_
    exact h w (show _ = _ by simpa [splice] using hg) Only.refl
  · obtain ⟨rfl, ad, rfl, hsrc⟩ := hpos (by omega)
    refine wpList_copy_own hgd d s dT sT ho elem hu hsz g off dLen dCap ad sLen sCap hd hs cur.toArray t hg cs hn hsrc (by simpa using hfit) h1 ?_
    exact h _ (show _ = _ by simpa [splice] using setRow_heap w g _ _ t _ hg) ⟨rfl, rfl, rfl, by simp [World.setRow], fun k hk hne => setRow_other w g k _ hne⟩

theorem wp_region_still_dr {id : Nat} {Q : Exit → Act → World → Prop} {a : Act} {w : World} {l : List Oper} (n : Nat) (hm : Tryd.prog.follows .mixedOrders = true) (hB : Region.lexTailB .any l.toArray n = true)
    (h : wpStill Tryd.prog l.toArray w.drew (fun a' => wpList Tryd.prog l.toArray Q (l.drop n) a' w.drew) (l.take n) a) : (Code.region id l.toArray true).wp Tryd.prog Q a w := wp_region_still_tail n hm hB h
/-- The cells of a row are strings. -/
def Strs (xs : List Value) : Prop := ∀ v ∈ xs, ∃ s : ByteArray, v = .string s
theorem strs_list : ∀ {xs : List Value}, Strs xs → ∃ ys : List ByteArray, xs = ys.map Value.string
  | [], _ => ⟨[], rfl⟩
  | v :: r, h => by
    obtain ⟨s, rfl⟩ := h v (by simp)
    obtain ⟨ys, hy⟩ := strs_list (xs := r) fun x hx => h x (by simp [hx])
    exact ⟨s :: ys, by rw [hy]; rfl⟩
/-- What put leaves: a row that it owns, with at least one string. -/
def PutQ (B : Nat) (v : Value) (n : Nat) (w : World) (e : Ending) (w' : World) : Prop := ∃ v' xs' m, e = .returned v' ∧ 0 < m ∧ m ≤ n + 1 ∧ Strs xs' ∧ w'.ownsRow B 9 1 v' m xs' ∧ w.grownBy w' v.ownBlock ∧ ∀ q, v'.ownBlock = some q → some q = v.ownBlock ∨ w.heap.size ≤ q

theorem splice_strs {cur : List Value} {k n : Nat} (hk : k ≤ n) (hn : n + 1 ≤ cur.length) (h : Strs (cur.take (n + 1))) : Strs ((splice cur (k + 1) ((cur.drop k).take (n - k))).take (n + 1)) ∧ (splice cur (k + 1) ((cur.drop k).take (n - k))).length = cur.length := by
  have hl : ((cur.drop k).take (n - k)).length = n - k := by simp; omega
  refine ⟨fun v hv => ?_, length_splice _ _ _ (by rw [hl]; omega)⟩
  apply h
  unfold splice at hv
  rw [hl, List.take_append] at hv
  have hl1 : (cur.take (k + 1)).length = k + 1 := by simp; omega
  rw [hl1] at hv
  rcases List.mem_append.1 hv with hv | hv
  · have h1 := List.mem_of_mem_take hv
    exact (List.take_subset_take_left cur (by omega)) h1
  · rw [List.take_append, hl] at hv
    rcases List.mem_append.1 hv with hv | hv
    · have h1 := List.mem_of_mem_take hv
      have h2 : (cur.drop k).take (n - k) = (cur.take n).drop k := by rw [List.drop_take]
      rw [h2] at h1
      exact (List.take_subset_take_left cur (by omega)) (List.mem_of_mem_drop h1)
    · rw [show n + 1 - (k + 1) - (n - k) = 0 from by omega, List.take_zero] at hv
      cases hv

theorem own_set {w : World} {B g n cap k : Nat} {T : TypeId} {cur : List Value} (hg : w.heap[g]? = some (.cells cur.toArray T (0, 0))) (hB : B ≤ g) (hn : n ≤ cap) (hc : cap ≤ maxLen) (hl : cur.length = cap) (hk : k < n) (hs : Strs (cur.take n)) (s : ByteArray) :
    ∃ xs, Strs xs ∧ (w.setCell ⟨g, k, none⟩ (.string s)).ownsRow B T 1 (.slice (some ⟨g, 0, none⟩) n cap) n xs := by
  refine ⟨(cur.set k (.string s)).take n, fun v hv => ?_, by simp; omega, .inr ⟨g, cap, (cur.set k (.string s)).toArray, rfl, hB, ?_, hn, hc, by simp; omega, by simp⟩⟩
  · rw [List.take_set] at hv
    rcases List.mem_or_eq_of_mem_set hv with hv | hv
    · exact hs v hv
    · exact ⟨s, hv⟩
  · simp [World.setCell, Array.getElem?_modify, hg]

theorem put_end {B n k g' cap' : Nat} {a : Option Addr} {cap : Nat} {xs : List Value} {w w1 wd w2 : World} {L : List Value} {o : Obj} {s : ByteArray} (hown : w.ownsRow B 9 1 (.slice a n cap) n xs)
    (hgrow : (w.alloc o).grownBy w1 (Value.slice a n cap).ownBlock) (hat : (Value.slice a n cap).ownBlock = some g' ∨ g' = w.heap.size + 1) (hwd : wd = w1.drew) (hk : k ≤ n) (hBg : B ≤ g') (hnc : n + 1 ≤ cap') (hcm : cap' ≤ maxLen) (hll : L.length = cap') (hls : Strs (L.take (n + 1)))
    (ho2 : Only (fun q => q = g') wd w2) (HG2 : w2.heap[g']? = some (.cells (splice L (k + 1) ((L.drop k).take (n - k))).toArray 9 (0, 0))) :
    PutQ B (.slice a n cap) n w (.returned (.slice (some ⟨g', 0, none⟩) (n + 1) cap')) (w2.setCell ⟨g', k, none⟩ (.string s)) := by
  obtain ⟨h1, h2⟩ := splice_strs (cur := L) (k := k) (n := n) hk (by omega) hls
  obtain ⟨ys, hy1, hy2⟩ := own_set (k := k) HG2 hBg hnc hcm (by rw [h2, hll]) (by omega) h1 s
  refine ⟨_, ys, n + 1, rfl, by omega, Nat.le_refl _, hy1, hy2, ?_, fun q hq => by
    have hq' : g' = q := by simpa [Value.ownBlock] using hq
    subst hq'
    rcases hat with h | h
    · exact .inl h.symm
    · right; omega⟩
  have hs1 := hgrow.size
  simp at hs1
  have hsd : wd.heap.size = w1.heap.size := by rw [hwd]; rfl
  refine ⟨?_, ?_, ?_, ?_, fun q hq hne => ?_⟩
  · show (w2.setCell _ _).os = _
    have := ho2.os
    rw [hwd] at this
    exact this.trans (hgrow.os)
  · have := ho2.tape
    rw [hwd] at this
    exact this.trans (hgrow.tape)
  · have := ho2.output
    rw [hwd] at this
    exact this.trans (hgrow.output)
  · have := ho2.size
    simp
    omega
  · have hqg : q ≠ g' := by
      rcases hat with h | h
      · intro e; subst e; exact hne h.symm
      · omega
    rw [heap_setCell_other w2 ⟨g', k, none⟩ q _ hqg, ho2.block q (by omega) hqg, hwd]
    show w1.heap[q]? = _
    rw [hgrow.block q (by simp; omega) hne]
    exact heap_alloc_old w o hq

end Go.Proofs.YtnbphgeepnknlaaDoor
