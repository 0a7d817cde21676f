/- Walks of the reference: Mul. -/
import Derived.Test.YtncdacafdfknnaaDoorCntV
import Derived.Laws.OwnMore
namespace Go.Proofs.YtncdacafdfknnaaDoor
open Go.RowKit
set_option linter.unusedVariables false

theorem rtimes_own (A1 : Option Addr) (m c : Nat) (x t : Nat) (w : World) (h : NumAt w A1 m c x) (hm : m ≤ 100000) (ht : t ≤ 65536) :
    Calls Tryd.prog 33 #[.slice A1 m c, .int .i64 (t : Nat)] w fun e w' => ∃ A m' c', e = .returned (.slice A m' c') ∧ m' = (digs 10 (x * t)).length ∧ w'.ownsRow w.heap.size 3 1 (.slice A m' c') m' (iv (digs 10 (x * t))) ∧ Below w.heap.size w w' := by
  have h1 := rtimes_any A1 c (digs 10 x) t w (by rw [← h.len]; exact hm) ht h.dat (dig10 x)
  rw [val10, ← h.len] at h1
  refine h1.mono fun e w' ⟨v, he, ho, hb⟩ => ?_
  obtain ⟨A, c', hv, _⟩ := dat_of_own ho
  subst hv
  exact ⟨A, _, c', he, rfl, ho, hb⟩
theorem num_own {w : World} {base : Nat} {A : Option Addr} {m c x : Nat} (h : w.ownsRow base 3 1 (.slice A m c) m (iv (digs 10 x))) (hm : m = (digs 10 x).length) : NumAt w A m c x := by
  subst hm
  obtain ⟨A', m', c', hv, hn⟩ := num_of_own h
  injection hv with h1 h2 h3
  subst h1 h2 h3
  exact hn
theorem own_kept {w w' : World} {base B : Nat} {e : TypeId} {size : Nat} {v : Value} {n : Nat} {xs : List Value} (h : w.ownsRow base e size v n xs) (hg : w.grownBy w' (some B)) (hB : B < base) : w'.ownsRow base e size v n xs := by
  refine h.kept hg ?_
  cases hv : v.ownBlock with
  | none => exact .inl rfl
  | some k => exact .inr (fun hk => by injection hk with hk; have := (h.lt k hv).1; omega)
/-- cut of a zero put below a number. -/
theorem cut_zero {w : World} {base : Nat} {v : Value} {m x : Nat} (h : w.ownsRow base 3 1 v (1 + m) (iv ([0] ++ digs 10 x))) (hm : m = (digs 10 x).length) (hm2 : m ≤ 100000) :
    Calls Tryd.prog 35 #[v] w fun e w' => ∃ A m' c', e = .returned (.slice A m' c') ∧ NumAt w' A m' c' (10 * x) ∧ Below w.heap.size w w' := by
  have hl : 1 + m = ([0] ++ digs 10 x).length := by rw [hm]; simp; omega
  rw [hl] at h
  obtain ⟨A, c, rfl, h1, h2, h3, h4⟩ := dat_of_own h
  have hd : Dig 10 ([0] ++ digs 10 x) := fun d hd => by
    rcases List.mem_append.1 hd with hd | hd
    · rw [List.mem_singleton.1 hd]; decide
    · exact dig10 x d hd
  have hv : val 10 ([0] ++ digs 10 x) = 10 * x := by
    show 0 + 10 * val 10 (digs 10 x) = _
    rw [val10, Nat.zero_add]
  have k := cut_any A c _ w (by rw [← hl]; omega) h2 h3 h1 h4 hd
  rw [hv] at k
  refine k.mono fun e w' ⟨v, he, ho, hb⟩ => ?_
  obtain ⟨A, m', c', hv, hn⟩ := num_of_own ho
  exact ⟨A, m', c', by rw [he, hv], hn, hb⟩

set_option maxRecDepth 100000 in
set_option maxHeartbeats 8000000 in
theorem rmul_num (A1 A2 : Option Addr) (m1 c1 m2 c2 : Nat) (x y : Nat) (w : World) (h1 : NumAt w A1 m1 c1 x) (h2 : NumAt w A2 m2 c2 y) (hm : m1 ≤ 40000) (hm2 : m2 ≤ 40000) :
    Calls Tryd.prog 22 #[.slice A1 m1 c1, .slice A2 m2 c2] w fun e w' => ∃ A m' c', e = .returned (.slice A m' c') ∧ NumAt w' A m' c' (x * y) ∧ Below w.heap.size w w' := by
  have hm2e := h2.len
  have H1 := Lib.hid h1
  have H2 := Lib.hid h2
  have HL := Lib.hid hm2e
  clear h1 h2 hm2e
  go_enter Tryd.func22, Tryd.ntmps22
  go_wp2
  go_loopw [5, 6] (fun so si wr => ∃ (i : Int) (A : Option Addr) (m c : Nat), -1 ≤ i ∧ i < m2 ∧ si = .int .i64 i ∧ so = .slice A m c ∧ NumAt wr A m c (x * val 10 ((digs 10 y).drop (i + 1).toNat)) ∧ Below w.heap.size w wr) (fun _ i _ => (intOf i + 1).toNat)
  case atStart =>
    have e : ((m2 : Int) - 1 + 1).toNat = m2 := by omega
    exact ⟨(m2 : Int) - 1, none, 0, 0, by omega, by omega, rfl, rfl, by rw [e, List.drop_eq_nil_of_le (by rw [← HL.out]; exact Nat.le_refl _)]; exact ⟨rfl, fun _ => rfl, Nat.le_refl _, Nat.zero_le _, .inl rfl⟩, Below.refl _ _⟩
  case round =>
    obtain ⟨i, A, m, c, hi1, hi2, rfl, rfl, hn, hbel⟩ := hrel
    by_cases h0 : 0 ≤ i
    · obtain ⟨j, rfl⟩ : ∃ j : Nat, i = j := ⟨i.toNat, by omega⟩
      rw [show ((j : Int) + 1).toNat = j + 1 from by omega] at hn
      obtain ⟨d, hd⟩ := getE (l := digs 10 y) (k := j) (by have := HL.out; omega)
      rcases (H2.out.dat.belowB hbel rfl) with h9 | ⟨g, off, rfl, hg, hcell⟩
      · rw [h9] at hd; simp at hd
      have x1 := hcell _ _ hd
      have hdb : d < 10 := (dig10 y).at_ hd
      have hsz := hbel.size
      obtain ⟨V, hV⟩ : ∃ V, V = val 10 ((digs 10 y).drop (j + 1)) := ⟨_, rfl⟩
      rw [← hV] at hn
      have hVl : V < 10 ^ m2 := by
        rw [hV]
        refine Nat.lt_of_lt_of_le (val_lt (by decide) fun d hd => dig10 y d (List.mem_of_mem_drop hd)) (Nat.pow_le_pow_right (by decide) ?_)
        rw [List.length_drop, ← HL.out]; exact Nat.sub_le _ _
      have hxl : x < 10 ^ m1 := by rw [H1.out.len]; exact lt_digs_len (by decide) x
      have hPl : x * V < 10 ^ (m1 + m2) := by rw [Nat.pow_add]; exact Nat.mul_lt_mul'' hxl hVl
      obtain ⟨P, hP⟩ : ∃ P, P = x * V := ⟨_, rfl⟩
      rw [← hP] at hPl hn
      have hlm : m ≤ m1 + m2 := by rw [hn.len]; exact digs_len (by decide) _ _ hPl
      have HLP := Lib.hid (show (digs 10 (10 * P)).length ≤ m1 + m2 + 1 from digs_len (by decide) _ _ (by rw [Nat.pow_succ]; omega))
      have HLT := Lib.hid (show (digs 10 (x * d)).length ≤ m1 + 1 from digs_len (by decide) _ _ (by rw [Nat.pow_succ]; exact Nat.mul_lt_mul'' hxl hdb))
      have HSUM : Hid (10 * P + x * d = x * val 10 ((digs 10 y).drop j)) := by
        show _ = _
        rw [drop_get hd, val, ← hV, hP, Nat.mul_add, Nat.mul_left_comm, Nat.add_comm]
      have HNN := Lib.hid hn
      have HB0 := Lib.hid hbel
      have H1r := Lib.hid (H1.out.below hbel rfl)
      have HVV := Lib.hid hV
      have HDD := Lib.hid hd
      have hj0 : (0 : Int) ≤ (j : Int) := by omega
      have hj1 : (j : Int) < (m2 : Int) := by omega
      have HBC := Lib.hid (((Below.refl wr.heap.size wr).alloc (Nat.le_refl _) (.cells #[.int .i64 0] 3)).drew)
      have HOW := Lib.hid ((World.ownsRow_lit (base := wr.heap.size) (size := 1) (e := 3) wr #[.int .i64 ((0 : Nat) : Int)] 1 (Nat.le_refl _) (by decide) rfl).drew)
      have HLB : Hid (∀ w', Below wr.heap.size wr w' → w'.cell? ⟨g, off + j, none⟩ = some (.int .i64 (d : Nat))) := fun w' hb => by rw [hb.cell (p := ⟨g, _, none⟩) hg]; exact x1
      clear hcell hd hV hn hi1 hbel hVl hxl hPl hP
      go_wp2_with fail
      go_region_held3 (fun w' => w'.cell? ⟨g, off + j, none⟩ = some (.int .i64 (d : Nat)))
        (first
          | (exact x1)
          | (exact HLB.out _ HBC.out)
          | (go_keep; done)
          | fail)
        (first
          | (go_at_call 33; with_reducible refine (rtimes_own _ _ _ _ _ _ (H1r.out.below HBC.out rfl) ?_ ?_).mono ?_; (exact (by omega)); (exact (by omega)); rintro e1 w1 ⟨AT, mT, cT, rfl, hmT, hn1, hb1⟩; have HTO := Lib.hid hn1; have HTM := Lib.hid hmT; (try (have HOW := Lib.hid (own_below HOW.out hb1))); (try (have HAP := Lib.hid (own_below HAP.out hb1))); (try (have HCU := Lib.hid (HCU.out.below hb1 rfl))); have HBC := Lib.hid (HBC.out.trans (hb1.mono HBC.out.size)); clear hn1 hb1 hmT)
          | (go_at_call 35; with_reducible refine (cut_zero HAP.out HNN.out.len ?_).mono ?_; (exact (by omega)); rintro e2 w2 ⟨AC, mC, cC, rfl, hn2, hb2⟩; have HCU := Lib.hid hn2; (try (have HTO := Lib.hid (own_below HTO.out hb2))); have HBC := Lib.hid (HBC.out.trans (hb2.mono HBC.out.size)); clear hn2 hb2)
          | (go_at_call 25; with_reducible refine (radd_num _ _ _ _ _ _ _ _ _ HCU.out (num_own HTO.out HTM.out) ?_ ?_).mono ?_; (exact (by have := HCU.out.len; have := HLP.out; omega)); (exact (by have := HTM.out; have := HLT.out; omega)); rintro e5 w5 ⟨A5, m5, c5, rfl, hn5, hb5⟩; have HR5 := Lib.hid hn5; have HBC := Lib.hid (HBC.out.trans (hb5.mono HBC.out.size)); clear hn5 hb5)
          | (refine step_append_dat (by rfl) _ _ _ _ (by rfl) Tryd.underlying27 Tryd.underlying28 wr.heap.size _ 1 [0] (by rfl) HOW.out A m c (digs 10 P) (by rfl) HNN.out.len (HNN.out.dat.belowB HBC.out rfl) HNN.out.nil (by omega) HBC.out.size ?_; intro v1 w1 hown1 hgrow1; have HAP := Lib.hid hown1; (try (have HTO := Lib.hid (own_kept HTO.out hgrow1 (by simp)))); have HBC := Lib.hid (HBC.out.grown hgrow1 HBC.out.size (fun q hq => Nat.le_of_eq (Option.some.inj hq))); clear hown1 hgrow1)
          | fail)
      all_goals
        go_wp2
        go_roundw
        case rel => exact ⟨(j : Int) - 1, _, _, _, by omega, by omega, rfl, rfl, by rw [show ((j : Int) - 1 + 1).toNat = j from by omega, ← HSUM.out]; exact HR5.out, HB0.out.trans (HBC.out.mono hsz)⟩
        case measure => first | (simp [intOf]; done) | (simp [intOf]; omega)
    · have hi : i = -1 := by omega
      subst hi
      rw [show ((-1 : Int) + 1).toNat = 0 from rfl, List.drop_zero, val10] at hn
      have HNN := Lib.hid hn
      have HB := Lib.hid hbel
      clear hn hbel
      go_wp2
      go_ret
      exact ⟨_, _, _, rfl, HNN.out, HB.out⟩
end Go.Proofs.YtncdacafdfknnaaDoor
