/- Walk: terms.put: a row of strings in, a row of strings out. -/
import Derived.Test.YtcjblbpkjegmiaaDoorTrmD
import Derived.StillTailTactics
namespace Go.Proofs.YtcjblbpkjegmiaaDoor
open Go.RowKit
set_option linter.unusedVariables false

theorem infoStr : (Tryd.prog.info? 9).map (fun i => (i.zero, i.size, i.bytes)) = some (some (.string ⟨#[]⟩), 1, 16) := by kernel_rfl

theorem wpList_copy_row {P : Program} {w : World} {ops : Array Oper} {rest : List Oper} {o : Oper} {a : Act} {Q : Exit → Act → World → Prop} (hgd : o.guard = none) (d s : Operand) (dT sT : TypeId)
    (ho : o.op = .call { callee := .builtin .copy, args := #[d, s], argTypes := #[dT, sT] }) (elem : TypeId) (hu : P.underlying dT = some (.slice elem)) (hsz : (P.info? elem).map (·.size) = some 1)
    (dp sp : Option Addr) (dLen dCap sLen sCap : Nat) (hd : a.eval d = .slice dp dLen dCap) (hs : a.eval s = .slice sp sLen sCap)
    (g off : Nat) (cur : List Value) (t : TypeId) (hg : w.heap[g]? = some (.cells cur.toArray t (0, 0))) (cs : List Value) (hn : cs.length = Nat.min sLen dLen)
    (hpos : 0 < cs.length → dp = some ⟨g, off, none⟩ ∧ ∃ ad, sp = some ad ∧ ∀ j v, cs[j]? = some v → w.cell? (ad.add j) = some v)
    (hfit : off + cs.length ≤ cur.length) (h1 : ∀ v ∈ cs, v.oneCell' = true)
    (h : ∀ w', Hid (w'.heap[g]? = some (.cells (splice cur off cs).toArray t (0, 0))) → Only (fun q => q = g) w w' → wpList P ops Q rest (a.put o.dst (goInt cs.length)) w') :
    wpList P ops Q (o :: rest) a w := by
  by_cases h0 : cs.length = 0
  · obtain rfl : cs = [] := List.eq_nil_of_length_eq_zero h0
    refine wpList_copy_nothing hgd d s dT sT ho elem hu hsz dp sp dLen dCap sLen sCap hd hs (by simpa using hn.symm) ?_
    exact h w (show _ = _ by simpa [splice] using hg) Only.refl
  · obtain ⟨rfl, ad, rfl, hsrc⟩ := hpos (by omega)
    refine wpList_copy_own hgd d s dT sT ho elem hu hsz g off dLen dCap ad sLen sCap hd hs cur.toArray t hg cs hn hsrc (by simpa using hfit) h1 ?_
    exact h _ (show _ = _ by simpa [splice] using setRow_heap w g _ _ t _ hg) ⟨rfl, rfl, rfl, by simp [World.setRow], fun k hk hne => setRow_other w g k _ hne⟩

theorem wp_region_still_dr {id : Nat} {Q : Exit → Act → World → Prop} {a : Act} {w : World} {l : List Oper} (n : Nat) (hm : Tryd.prog.follows .mixedOrders = true) (hB : Region.lexTailB .any l.toArray n = true)
    (h : wpStill Tryd.prog l.toArray w.drew (fun a' => wpList Tryd.prog l.toArray Q (l.drop n) a' w.drew) (l.take n) a) : (Code.region id l.toArray true).wp Tryd.prog Q a w := wp_region_still_tail n hm hB h
/-- The cells of a row are strings. -/
def Strs (xs : List Value) : Prop := ∀ v ∈ xs, ∃ s : ByteArray, v = .string s
theorem strs_list : ∀ {xs : List Value}, Strs xs → ∃ ys : List ByteArray, xs = ys.map Value.string
  | [], _ => ⟨[], rfl⟩
  | v :: r, h => by
    obtain ⟨s, rfl⟩ := h v (by simp)
    obtain ⟨ys, hy⟩ := strs_list (xs := r) fun x hx => h x (by simp [hx])
    exact ⟨s :: ys, by rw [hy]; rfl⟩
/-- What put leaves: a row that it owns, with at least one string. -/
def PutQ (B : Nat) (v : Value) (n : Nat) (w : World) (e : Ending) (w' : World) : Prop := ∃ v' xs' m, e = .returned v' ∧ 0 < m ∧ m ≤ n + 1 ∧ Strs xs' ∧ w'.ownsRow B 9 1 v' m xs' ∧ w.grownBy w' v.ownBlock ∧ ∀ q, v'.ownBlock = some q → some q = v.ownBlock ∨ w.heap.size ≤ q

theorem splice_strs {cur : List Value} {k n : Nat} (hk : k ≤ n) (hn : n + 1 ≤ cur.length) (h : Strs (cur.take (n + 1))) : Strs ((splice cur (k + 1) ((cur.drop k).take (n - k))).take (n + 1)) ∧ (splice cur (k + 1) ((cur.drop k).take (n - k))).length = cur.length := by
  have hl : ((cur.drop k).take (n - k)).length = n - k := by simp; omega
  refine ⟨fun v hv => ?_, length_splice _ _ _ (by rw [hl]; omega)⟩
  apply h
  unfold splice at hv
  rw [hl, List.take_append] at hv
  have hl1 : (cur.take (k + 1)).length = k + 1 := by simp; omega
  rw [hl1] at hv
  rcases List.mem_append.1 hv with hv | hv
  · have h1 := List.mem_of_mem_take hv
    exact (List.take_subset_take_left cur (by omega)) h1
  · rw [List.take_append, hl] at hv
    rcases List.mem_append.1 hv with hv | hv
    · have h1 := List.mem_of_mem_take hv
      have h2 : (cur.drop k).take (n - k) = (cur.take n).drop k := by rw [List.drop_take]
      rw [h2] at h1
      exact (List.take_subset_take_left cur (by omega)) (List.mem_of_mem_drop h1)
    · rw [show n + 1 - (k + 1) - (n - k) = 0 from by omega, List.take_zero] at hv
      cases hv

theorem own_set {w : World} {B g n cap k : Nat} {T : TypeId} {cur : List Value} (hg : w.heap[g]? = some (.cells cur.toArray T (0, 0))) (hB : B ≤ g) (hn : n ≤ cap) (hc : cap ≤ maxLen) (hl : cur.length = cap) (hk : k < n) (hs : Strs (cur.take n)) (s : ByteArray) :
    ∃ xs, Strs xs ∧ (w.setCell ⟨g, k, none⟩ (.string s)).ownsRow B T 1 (.slice (some ⟨g, 0, none⟩) n cap) n xs := by
  refine ⟨(cur.set k (.string s)).take n, fun v hv => ?_, by simp; omega, .inr ⟨g, cap, (cur.set k (.string s)).toArray, rfl, hB, ?_, hn, hc, by simp; omega, by simp⟩⟩
  · rw [List.take_set] at hv
    rcases List.mem_or_eq_of_mem_set hv with hv | hv
    · exact hs v hv
    · exact ⟨s, hv⟩
  · simp [World.setCell, Array.getElem?_modify, hg]

theorem put_end {B n k g' cap' : Nat} {a : Option Addr} {cap : Nat} {xs : List Value} {w w1 wd w2 : World} {L : List Value} {o : Obj} {s : ByteArray} (hown : w.ownsRow B 9 1 (.slice a n cap) n xs)
    (hgrow : (w.alloc o).grownBy w1 (Value.slice a n cap).ownBlock) (hat : (Value.slice a n cap).ownBlock = some g' ∨ g' = w.heap.size + 1) (hwd : wd = w1.drew) (hk : k ≤ n) (hBg : B ≤ g') (hnc : n + 1 ≤ cap') (hcm : cap' ≤ maxLen) (hll : L.length = cap') (hls : Strs (L.take (n + 1)))
    (ho2 : Only (fun q => q = g') wd w2) (HG2 : w2.heap[g']? = some (.cells (splice L (k + 1) ((L.drop k).take (n - k))).toArray 9 (0, 0))) :
    PutQ B (.slice a n cap) n w (.returned (.slice (some ⟨g', 0, none⟩) (n + 1) cap')) (w2.setCell ⟨g', k, none⟩ (.string s)) := by
  obtain ⟨h1, h2⟩ := splice_strs (cur := L) (k := k) (n := n) hk (by omega) hls
  obtain ⟨ys, hy1, hy2⟩ := own_set (k := k) HG2 hBg hnc hcm (by rw [h2, hll]) (by omega) h1 s
  refine ⟨_, ys, n + 1, rfl, by omega, Nat.le_refl _, hy1, hy2, ?_, fun q hq => by
    have hq' : g' = q := by simpa [Value.ownBlock] using hq
    subst hq'
    rcases hat with h | h
    · exact .inl h.symm
    · right; omega⟩
  have hs1 := hgrow.size
  simp at hs1
  have hsd : wd.heap.size = w1.heap.size := by rw [hwd]; rfl
  refine ⟨?_, ?_, ?_, ?_, fun q hq hne => ?_⟩
  · show (w2.setCell _ _).os = _
    have := ho2.os
    rw [hwd] at this
    exact this.trans (hgrow.os)
  · have := ho2.tape
    rw [hwd] at this
    exact this.trans (hgrow.tape)
  · have := ho2.output
    rw [hwd] at this
    exact this.trans (hgrow.output)
  · have := ho2.size
    simp
    omega
  · have hqg : q ≠ g' := by
      rcases hat with h | h
      · intro e; subst e; exact hne h.symm
      · omega
    rw [heap_setCell_other w2 ⟨g', k, none⟩ q _ hqg, ho2.block q (by omega) hqg, hwd]
    show w1.heap[q]? = _
    rw [hgrow.block q (by simp; omega) hne]
    exact heap_alloc_old w o hq

set_option maxRecDepth 100000 in
set_option maxHeartbeats 4000000 in
theorem tput_any (B n : Nat) (v : Value) (xs : List Value) (s : ByteArray) (w : World) (hown : w.ownsRow B 9 1 v n xs) (hs : Strs xs) (hn : n ≤ 10000000) (hB : B ≤ w.heap.size) :
    Calls Tryd.prog 127 #[v, .string s] w (PutQ B v n w) := by
  obtain ⟨i0, hi, hz0, hz1, hz2⟩ := info_parts infoStr
  have HOWN := Lib.hid hown
  have HSS := Lib.hid hs
  have HXL := Lib.hid hown.1
  obtain ⟨a, cap, hv, hcap⟩ : ∃ a cap, v = .slice a n cap ∧ n ≤ cap := by
    rcases hown.2 with ⟨hv, h0⟩ | ⟨g, cap, cur, hv, _, _, h1, _⟩
    · exact ⟨none, 0, by rw [h0]; exact hv, by omega⟩
    · exact ⟨_, cap, hv, h1⟩
  have HROW : Hid (∀ k, k < n → ∃ g x, a = some ⟨g, 0, none⟩ ∧ w.cell? ⟨g, k, none⟩ = some (.string x)) := by
    intro k hk
    rcases hown.2 with ⟨_, h0⟩ | ⟨g, cap', cur, hv', _⟩
    · omega
    · rw [hv] at hv'
      injection hv' with ha
      subst ha
      have hlen := hown.1
      have hx : xs[k]? = some (xs[k]'(by omega)) := List.getElem?_eq_getElem (by omega)
      obtain ⟨x, hx2⟩ := hs _ (List.mem_of_getElem? hx)
      have := hown.cells (g := g) (by rw [hv]; rfl) k _ hx
      rw [show (⟨g, 0, none⟩ : Addr).add k = ⟨g, k, none⟩ from by unfold Addr.add; split <;> simp_all, hx2] at this
      exact ⟨g, x, rfl, this⟩
  subst hv
  obtain ⟨F, hF⟩ : ∃ F, F = PutQ B (.slice a n cap) n w := ⟨_, rfl⟩
  rw [← hF]
  have HF := Lib.hid hF
  clear hown hs hF
  go_enter Tryd.func127, Tryd.ntmps127
  go_wp2_with fail
  go_loop [5] (fun si => ∃ k : Nat, k ≤ n ∧ si = .int .i64 k) (fun si => (intOf si).toNat)
  case atStart => exact ⟨n, Nat.le_refl _, rfl⟩
  case round =>
    obtain ⟨k, hk, rfl⟩ := hrel
    have HN := Lib.hid hn
    by_cases hk0 : k = 0
    · have hkz : ¬ (0 : Int) < (k : Int) := by omega
      clear hk0
      go_wp2_with (at_builtin; refine wpList_append_lies _ (by rfl) _ _ _ (by rfl) B 9 i0 (.string ⟨#[]⟩) 1 16 Tryd.underlying45 hi hz0 hz1 hz2 rfl (by decide) _ n xs (by rfl) (HOWN.out.alloc _) ⟨w.heap.size, 0, none⟩ 1 1 [.string ⟨#[]⟩] (by rfl) rfl ?c1 ?c2 (by decide) ?c3 ?c4 ?c5 (w.heap.size + 1) (by simp) ?_)
      case c2 => rfl
      case c3 => have := HN.out; unfold maxLen; omega
      case c4 => have := HN.out; omega
      case c5 => omega
      intro g' cap' w1 hown1 hgrow hat hlt
      obtain ⟨L, hBg, hgg, hnc, hcm, hll, hls⟩ : ∃ L : List Value, B ≤ g' ∧ w1.heap[g']? = some (.cells L.toArray 9 (0, 0)) ∧ n + 1 ≤ cap' ∧ cap' ≤ maxLen ∧ L.length = cap' ∧ Strs (L.take (n + 1)) := by
        rcases hown1.2 with ⟨h, _⟩ | ⟨g2, cap2, cur, hv2, h1, h2, h3, h4, h5, h6⟩
        · cases h
        · injection hv2 with ha1 _ ha2
          injection ha1 with ha1
          injection ha1 with ha1 _ _
          subst ha1 ha2
          refine ⟨cur.toList, h1, by rw [h2], h3, h4, by simpa using h5, ?_⟩
          rw [Nat.mul_one] at h6
          rw [h6]
          intro y hy
          rcases List.mem_append.1 hy with hy | hy
          · exact HSS.out y hy
          · simp at hy; exact ⟨_, hy⟩
      obtain ⟨wd, hwd⟩ : ∃ wd, wd = w1.drew := ⟨_, rfl⟩
      have HWD := Lib.hid hwd
      have HGD : Hid (wd.heap[g']? = some (.cells L.toArray 9 (0, 0))) := by show _ = _; rw [hwd]; exact hgg
      have HEND := Lib.hid (fun w2 ho2 HG2 => put_end (w2 := w2) HOWN.out hgrow hat hwd hk hBg hnc hcm hll hls ho2 HG2 (s := s))
      have HSP := Lib.hid (splice_strs (cur := L) (k := k) (n := n) hk (by omega) hls)
      have hLk : ((L.drop k).take (n - k)).length = n - k := by simp; omega
      have HONE : Hid (∀ v ∈ (L.drop k).take (n - k), v.oneCell' = true) := fun v hv => by
        have h2 : (L.drop k).take (n - k) = (L.take n).drop k := by rw [List.drop_take]
        rw [h2] at hv
        obtain ⟨z, rfl⟩ := hls v ((List.take_subset_take_left L (by omega)) (List.mem_of_mem_drop hv))
        rfl
      have HCEL : Hid (∀ j v, ((L.drop k).take (n - k))[j]? = some v → wd.cell? ((⟨g', k, none⟩ : Addr).add j) = some v) := fun j v hj => by
        rw [show (⟨g', k, none⟩ : Addr).add j = ⟨g', k + j, none⟩ from by unfold Addr.add; split <;> simp_all, cell_of_row wd g' (k + j) _ _ (0, 0) HGD.out]
        rw [List.getElem?_take] at hj
        split at hj
        · rw [List.getElem?_drop] at hj
          simpa using hj
        · cases hj
      have HLK := Lib.hid hLk
      have HLL := Lib.hid hll
      have hsz1 : (Tryd.prog.info? 9).map (·.size) = some 1 := by kernel_rfl
      have d0 : (0 : Int) ≤ (k : Int) + 1 := by omega
      have hwr : IntKind.i64.wrap ((k : Int) + 1) = (k : Int) + 1 := by rw [IntWalk.i64_in _ (by omega)]
      have d1 : (k : Int) + 1 ≤ (n : Int) + 1 := by omega
      have d3 : (0 : Int) ≤ (k : Int) := by omega
      have d4 : (k : Int) ≤ (n : Int) + 1 := by omega
      have d5 : (k : Int) < (n : Int) + 1 := by omega
      have d6 : (n : Int) + 1 ≤ (cap' : Int) := by omega
      have d7 : ¬ cap' = k := by omega
      unfold maxLen at hcm
      clear hLk hwd hown1 hgrow hgg hll hls hat
      by_cases hck : cap' = k + 1
      · have HKN := Lib.hid (show k = n by omega)
        go_wp2_with fail
        refine wp_region_still_dr 7 (by kernel_rfl) (by kernel_rfl) ?_
        rw [← HWD.out]
        simp only [List.take_succ_cons, List.take_zero, List.drop_succ_cons, List.drop_zero]
        repeat still_step
        refine wpStill_nil ?_
        refine wpList_copy_row rfl (.tmp 39) (.tmp 42) 45 45 rfl 9 Tryd.underlying45 hsz1 _ _ _ _ _ _ (by rfl) (by rfl) g' (k + 1) L 9 HGD.out ((L.drop k).take (n - k)) (by rw [HLK.out]; exact (Nat.min_eq_right (by omega)).symm) (fun h => absurd h (by rw [HLK.out]; have := HKN.out; omega)) (by rw [HLK.out]; have := HLL.out; omega) HONE.out ?_
        intro w2 HG2 ho2
        have HO2 := Lib.hid ho2
        have hcl : w2.cell? ⟨g', k, none⟩ = some ((splice L (k + 1) ((L.drop k).take (n - k)))[k]'(by rw [HSP.out.2]; have := HLL.out; omega)) := by
          rw [cell_of_row w2 g' k _ _ (0, 0) HG2.out]; simp
        have hfz : w2.frozen? ⟨g', k, none⟩ = false := Lib.frozen_of_heap HG2.out k
        clear ho2
        go_wp2_with fail
        rw [HF.out]
        have h9 := HEND.out w2 HO2.out HG2.out
        rw [hck] at h9
        exact h9
      · go_wp2_with fail
        refine wp_region_still_dr 7 (by kernel_rfl) (by kernel_rfl) ?_
        rw [← HWD.out]
        simp only [List.take_succ_cons, List.take_zero, List.drop_succ_cons, List.drop_zero]
        repeat still_step
        refine wpStill_nil ?_
        refine wpList_copy_row rfl (.tmp 39) (.tmp 42) 45 45 rfl 9 Tryd.underlying45 hsz1 _ _ _ _ _ _ (by rfl) (by rfl) g' (k + 1) L 9 HGD.out ((L.drop k).take (n - k)) (by rw [HLK.out]; exact (Nat.min_eq_right (by omega)).symm) (fun _ => ⟨rfl, _, rfl, HCEL.out⟩) (by rw [HLK.out]; have := HLL.out; omega) HONE.out ?_
        intro w2 HG2 ho2
        have HO2 := Lib.hid ho2
        have hcl : w2.cell? ⟨g', k, none⟩ = some ((splice L (k + 1) ((L.drop k).take (n - k)))[k]'(by rw [HSP.out.2]; have := HLL.out; omega)) := by
          rw [cell_of_row w2 g' k _ _ (0, 0) HG2.out]; simp
        have hfz : w2.frozen? ⟨g', k, none⟩ = false := Lib.frozen_of_heap HG2.out k
        clear ho2
        go_wp2_with fail
        rw [HF.out]
        exact HEND.out w2 HO2.out HG2.out
    · obtain ⟨k', hk'⟩ : ∃ k', k = k' + 1 := ⟨k - 1, by omega⟩
      have e1 : (k : Int) - 1 = (k' : Int) := by omega
      obtain ⟨g, x, rfl, hx⟩ := HROW.out k' (by omega)
      have b0 : (0 : Int) < (k : Int) := by omega
      have b1 : (0 : Int) ≤ (k' : Int) := by omega
      have b2 : (k' : Int) < (n : Int) := by omega
      have HK' := Lib.hid hk'
      clear hk' hk0
      go_wp2_with (at_builtin; refine wpList_append_lies _ (by rfl) _ _ _ (by rfl) B 9 i0 (.string ⟨#[]⟩) 1 16 Tryd.underlying45 hi hz0 hz1 hz2 rfl (by decide) _ n xs (by rfl) (HOWN.out.alloc _) ⟨w.heap.size, 0, none⟩ 1 1 [.string ⟨#[]⟩] (by rfl) rfl ?e1 ?e2 (by decide) ?e3 ?e4 ?e5 (w.heap.size + 1) (by simp) ?_)
      · go_round
        case rel => exact ⟨k', by have := HK'.out; omega, rfl⟩
        case measure => simp [intOf]; omega
      · rw [HF.out]
        exact ⟨_, xs, n, rfl, by omega, by omega, HSS.out, HOWN.out, World.grownBy.refl _ _, fun q hq => .inl hq.symm⟩
      case e2 => rfl
      case e3 => have := HN.out; unfold maxLen; omega
      case e4 => have := HN.out; omega
      case e5 => omega
      intro g' cap' w1 hown1 hgrow hat hlt
      obtain ⟨L, hBg, hgg, hnc, hcm, hll, hls⟩ : ∃ L : List Value, B ≤ g' ∧ w1.heap[g']? = some (.cells L.toArray 9 (0, 0)) ∧ n + 1 ≤ cap' ∧ cap' ≤ maxLen ∧ L.length = cap' ∧ Strs (L.take (n + 1)) := by
        rcases hown1.2 with ⟨h, _⟩ | ⟨g2, cap2, cur, hv2, h1, h2, h3, h4, h5, h6⟩
        · cases h
        · injection hv2 with ha1 _ ha2
          injection ha1 with ha1
          injection ha1 with ha1 _ _
          subst ha1 ha2
          refine ⟨cur.toList, h1, by rw [h2], h3, h4, by simpa using h5, ?_⟩
          rw [Nat.mul_one] at h6
          rw [h6]
          intro y hy
          rcases List.mem_append.1 hy with hy | hy
          · exact HSS.out y hy
          · simp at hy; exact ⟨_, hy⟩
      obtain ⟨wd, hwd⟩ : ∃ wd, wd = w1.drew := ⟨_, rfl⟩
      have HWD := Lib.hid hwd
      have HGD : Hid (wd.heap[g']? = some (.cells L.toArray 9 (0, 0))) := by show _ = _; rw [hwd]; exact hgg
      have HEND := Lib.hid (fun w2 ho2 HG2 => put_end (w2 := w2) HOWN.out hgrow hat hwd hk hBg hnc hcm hll hls ho2 HG2 (s := s))
      have HSP := Lib.hid (splice_strs (cur := L) (k := k) (n := n) hk (by omega) hls)
      have hLk : ((L.drop k).take (n - k)).length = n - k := by simp; omega
      have HONE : Hid (∀ v ∈ (L.drop k).take (n - k), v.oneCell' = true) := fun v hv => by
        have h2 : (L.drop k).take (n - k) = (L.take n).drop k := by rw [List.drop_take]
        rw [h2] at hv
        obtain ⟨z, rfl⟩ := hls v ((List.take_subset_take_left L (by omega)) (List.mem_of_mem_drop hv))
        rfl
      have HCEL : Hid (∀ j v, ((L.drop k).take (n - k))[j]? = some v → wd.cell? ((⟨g', k, none⟩ : Addr).add j) = some v) := fun j v hj => by
        rw [show (⟨g', k, none⟩ : Addr).add j = ⟨g', k + j, none⟩ from by unfold Addr.add; split <;> simp_all, cell_of_row wd g' (k + j) _ _ (0, 0) HGD.out]
        rw [List.getElem?_take] at hj
        split at hj
        · rw [List.getElem?_drop] at hj
          simpa using hj
        · cases hj
      have HLK := Lib.hid hLk
      have HLL := Lib.hid hll
      have hsz1 : (Tryd.prog.info? 9).map (·.size) = some 1 := by kernel_rfl
      have d0 : (0 : Int) ≤ (k : Int) + 1 := by omega
      have hwr : IntKind.i64.wrap ((k : Int) + 1) = (k : Int) + 1 := by rw [IntWalk.i64_in _ (by omega)]
      have d1 : (k : Int) + 1 ≤ (n : Int) + 1 := by omega
      have d3 : (0 : Int) ≤ (k : Int) := by omega
      have d4 : (k : Int) ≤ (n : Int) + 1 := by omega
      have d5 : (k : Int) < (n : Int) + 1 := by omega
      have d6 : (n : Int) + 1 ≤ (cap' : Int) := by omega
      have d7 : ¬ cap' = k := by omega
      unfold maxLen at hcm
      clear hLk hwd hown1 hgrow hgg hll hls hat
      by_cases hck : cap' = k + 1
      · have HKN := Lib.hid (show k = n by omega)
        go_wp2_with fail
        refine wp_region_still_dr 7 (by kernel_rfl) (by kernel_rfl) ?_
        rw [← HWD.out]
        simp only [List.take_succ_cons, List.take_zero, List.drop_succ_cons, List.drop_zero]
        repeat still_step
        refine wpStill_nil ?_
        refine wpList_copy_row rfl (.tmp 39) (.tmp 42) 45 45 rfl 9 Tryd.underlying45 hsz1 _ _ _ _ _ _ (by rfl) (by rfl) g' (k + 1) L 9 HGD.out ((L.drop k).take (n - k)) (by rw [HLK.out]; exact (Nat.min_eq_right (by omega)).symm) (fun h => absurd h (by rw [HLK.out]; have := HKN.out; omega)) (by rw [HLK.out]; have := HLL.out; omega) HONE.out ?_
        intro w2 HG2 ho2
        have HO2 := Lib.hid ho2
        have hcl : w2.cell? ⟨g', k, none⟩ = some ((splice L (k + 1) ((L.drop k).take (n - k)))[k]'(by rw [HSP.out.2]; have := HLL.out; omega)) := by
          rw [cell_of_row w2 g' k _ _ (0, 0) HG2.out]; simp
        have hfz : w2.frozen? ⟨g', k, none⟩ = false := Lib.frozen_of_heap HG2.out k
        clear ho2
        go_wp2_with fail
        rw [HF.out]
        have h9 := HEND.out w2 HO2.out HG2.out
        rw [hck] at h9
        exact h9
      · go_wp2_with fail
        refine wp_region_still_dr 7 (by kernel_rfl) (by kernel_rfl) ?_
        rw [← HWD.out]
        simp only [List.take_succ_cons, List.take_zero, List.drop_succ_cons, List.drop_zero]
        repeat still_step
        refine wpStill_nil ?_
        refine wpList_copy_row rfl (.tmp 39) (.tmp 42) 45 45 rfl 9 Tryd.underlying45 hsz1 _ _ _ _ _ _ (by rfl) (by rfl) g' (k + 1) L 9 HGD.out ((L.drop k).take (n - k)) (by rw [HLK.out]; exact (Nat.min_eq_right (by omega)).symm) (fun _ => ⟨rfl, _, rfl, HCEL.out⟩) (by rw [HLK.out]; have := HLL.out; omega) HONE.out ?_
        intro w2 HG2 ho2
        have HO2 := Lib.hid ho2
        have hcl : w2.cell? ⟨g', k, none⟩ = some ((splice L (k + 1) ((L.drop k).take (n - k)))[k]'(by rw [HSP.out.2]; have := HLL.out; omega)) := by
          rw [cell_of_row w2 g' k _ _ (0, 0) HG2.out]; simp
        have hfz : w2.frozen? ⟨g', k, none⟩ = false := Lib.frozen_of_heap HG2.out k
        clear ho2
        go_wp2_with fail
        rw [HF.out]
        exact HEND.out w2 HO2.out HG2.out
end Go.Proofs.YtcjblbpkjegmiaaDoor
