/- Walks of the reference: From, Is. -/
import Derived.Test.YtncdacafdfknnaaDoorCntR
namespace Go.Proofs.YtncdacafdfknnaaDoor
open Go.RowKit
set_option linter.unusedVariables false

theorem len_val {l : List Nat} (h : Dig B32 l) : (digs 10 (val B32 l)).length ≤ 10 * l.length := by
  refine digs_len (by decide) _ _ (Nat.lt_of_lt_of_le (val_lt (by decide) h) ?_)
  rw [Nat.pow_mul]
  exact Nat.pow_le_pow_left (by decide) _

theorem len_mul (V t b : Nat) (ht : t < 10 ^ b) : (digs 10 (V * t)).length ≤ (digs 10 V).length + b := by
  refine digs_len (by decide) _ _ ?_
  rw [Nat.pow_add]
  have h1 := lt_digs_len (b := 10) (by decide) V
  rcases Nat.eq_zero_or_pos t with h | h
  · subst h
    rw [Nat.mul_zero]
    exact Nat.mul_pos (Nat.pow_pos (by decide)) (Nat.pow_pos (by decide))
  · exact Nat.lt_of_lt_of_le (Nat.mul_lt_mul_of_pos_right h1 h) (Nat.mul_le_mul_left _ (Nat.le_of_lt ht))

theorem rtimes_64k (A1 : Option Addr) (m c : Nat) (x : Nat) (w : World) (h : NumAt w A1 m c x) (hm : m ≤ 100000) :
    Calls Tryd.prog 33 #[.slice A1 m c, .int .i64 65536] w fun e w' => ∃ A m' c', e = .returned (.slice A m' c') ∧ NumAt w' A m' c' (x * 65536) ∧ Below w.heap.size w w' :=
  rtimes_num A1 m c x 65536 w h hm (Nat.le_refl _)

set_option maxRecDepth 100000 in
set_option maxHeartbeats 8000000 in
theorem from_any (A1 : Option Addr) (c1 : Nat) (l : List Nat) (w : World) (hl : l.length ≤ 1000) (hA : DAt w A1 .u32 l) (hDl : Dig B32 l) :
    Calls Tryd.prog 9 #[.slice A1 l.length c1] w fun e w' => ∃ A m c, e = .returned (.slice A m c) ∧ NumAt w' A m c (val B32 l) ∧ Below w.heap.size w w' := by
  have HA := Lib.hid hA
  have HDL := Lib.hid hDl
  clear hA hDl
  obtain ⟨n, hn⟩ : ∃ n, n = l.length := ⟨_, rfl⟩
  rw [← hn] at hl ⊢
  have HN := Lib.hid hn
  clear hn
  go_enter Tryd.func9, Tryd.ntmps9
  go_wp2
  go_loopw [3, 4] (fun so si wr => ∃ (i : Int) (A : Option Addr) (m c : Nat), -1 ≤ i ∧ i < n ∧ si = .int .i64 i ∧ so = .slice A m c ∧ NumAt wr A m c (val B32 (l.drop (i + 1).toNat)) ∧ Below w.heap.size w wr) (fun _ i _ => (intOf i + 1).toNat)
  case atStart =>
    have e : ((n : Int) - 1 + 1).toNat = n := by omega
    exact ⟨(n : Int) - 1, none, 0, 0, by omega, by omega, rfl, rfl, by rw [e, List.drop_eq_nil_of_le (by rw [← HN.out]; exact Nat.le_refl _)]; exact ⟨rfl, fun _ => rfl, Nat.le_refl _, Nat.zero_le _, .inl rfl⟩, Below.refl _ _⟩
  case round =>
    obtain ⟨i, A, m, c, hi1, hi2, rfl, rfl, hn, hbel⟩ := hrel
    by_cases h0 : 0 ≤ i
    · obtain ⟨j, rfl⟩ : ∃ j : Nat, i = j := ⟨i.toNat, by omega⟩
      rw [show ((j : Int) + 1).toNat = j + 1 from by omega] at hn
      obtain ⟨x, hx⟩ := getE (l := l) (k := j) (by have := HN.out; omega)
      rcases HA.out.belowB hbel rfl with h9 | ⟨g, off, rfl, hg, hcell⟩
      · rw [h9] at hx; simp at hx
      have x1 := hcell _ _ hx
      have hxb : x < 4294967296 := HDL.out.at_ hx
      have hsz := hbel.size
      have hdd : Dig B32 (l.drop (j + 1)) := fun d hd => HDL.out d (List.mem_of_mem_drop hd)
      have hlv := len_val hdd
      rw [← hn.len] at hlv
      have hmb : m ≤ 10000 := by
        have : (l.drop (j + 1)).length ≤ 1000 := by rw [List.length_drop]; have := HN.out; omega
        omega
      obtain ⟨V, hV⟩ : ∃ V, V = val B32 (l.drop (j + 1)) := ⟨_, rfl⟩
      have hVl : (digs 10 (V * 65536)).length ≤ 20000 := by
        have h1 : (digs 10 V).length ≤ 10000 := by rw [hV, ← hn.len]; exact hmb
        have h2 := len_mul V 65536 5 (by decide)
        omega
      rw [← hV] at hn
      have hof := fun W => rof_num x W (by omega)
      have HOF := Lib.hid hof
      have HNN := Lib.hid hn
      have HB0 := Lib.hid hbel
      have HVV := Lib.hid hV
      have HXX := Lib.hid hx
      have HVL := Lib.hid hVl
      have HVL2 := Lib.hid (len_mul (V * 65536) 65536 5 (by decide))
      have HXL := Lib.hid (digs_len (b := 10) (by decide) 10 x (by omega))
      have hsum : Hid (V * 65536 * 65536 + x = val B32 (l.drop j)) := by
        show _ = _
        rw [drop_get HXX.out, val, ← HVV.out]
        show V * 65536 * 65536 + x = x + 4294967296 * V
        omega
      have hwx : IntKind.u64.wrap (x : Int) = (x : Int) := IntWalk.u64_in _ (by omega)
      have hj0 : (0 : Int) ≤ (j : Int) := by omega
      have hj1 : (j : Int) < (n : Int) := by omega
      have HBC := Lib.hid ((Below.refl wr.heap.size wr).drew)
      have HWR := Lib.hid (Nat.le_refl wr.heap.size)
      have HLB : Hid (∀ w', Below wr.heap.size wr w' → w'.cell? ⟨g, off + j, none⟩ = some (.int .u32 (x : Nat))) := fun w' hb => by rw [hb.cell (p := ⟨g, _, none⟩) hg]; exact x1
      clear hcell hx hdd hlv hV hVl hn hof hi1 hbel
      go_wp2_with fail
      go_region_held3 (fun w' => w'.cell? ⟨g, off + j, none⟩ = some (.int .u32 (x : Nat)))
        (first
          | (exact x1)
          | (exact HLB.out _ HBC.out)
          | (go_keep; done)
          | fail)
        (first
          | (go_at_call 33; with_reducible refine (rtimes_64k _ _ _ _ _ HT1.out ?_).mono ?_; (exact (by have := HT1.out.len; have := HVL.out; omega)); rintro e2 w2 ⟨A2, m2, c2, rfl, hn2, hb2⟩; have HT2 := Lib.hid hn2; (try (have HO := Lib.hid (HO.out.below hb2 rfl))); have HBC := Lib.hid (HBC.out.trans (hb2.mono HBC.out.size)); clear hn2 hb2)
          | (go_at_call 33; with_reducible refine (rtimes_64k _ _ _ _ _ (HNN.out.below HBC.out rfl) ?_).mono ?_; (exact (by omega)); rintro e1 w1 ⟨A1, m1, c1, rfl, hn1, hb1⟩; have HT1 := Lib.hid hn1; (try (have HO := Lib.hid (HO.out.below hb1 rfl))); have HBC := Lib.hid (HBC.out.trans (hb1.mono HBC.out.size)); clear hn1 hb1)
          | (go_at_call 16; with_reducible refine (HOF.out _).mono ?_; rintro e3 w3 ⟨A3, m3, c3, rfl, hn3, hb3⟩; have HO := Lib.hid hn3; (try (have HT1 := Lib.hid (HT1.out.below hb3 rfl))); (try (have HT2 := Lib.hid (HT2.out.below hb3 rfl))); have HBC := Lib.hid (HBC.out.trans (hb3.mono HBC.out.size)); clear hn3 hb3)
          | (go_at_call 25; with_reducible refine (radd_num _ _ _ _ _ _ _ _ _ HT2.out HO.out ?_ ?_).mono ?_; (exact (by have := HT2.out.len; have := HVL.out; have := HVL2.out; omega)); (exact (by have := HO.out.len; have := HXL.out; omega)); rintro e5 w5 ⟨A5, m5, c5, rfl, hn5, hb5⟩; have HR5 := Lib.hid hn5; have HBC := Lib.hid (HBC.out.trans (hb5.mono HBC.out.size)); clear hn5 hb5)
          | fail)
      all_goals
        go_wp2
        go_roundw
        case rel => exact ⟨(j : Int) - 1, _, _, _, by omega, by omega, rfl, rfl, by rw [show ((j : Int) - 1 + 1).toNat = j from by omega, ← hsum.out]; exact HR5.out, HB0.out.trans (HBC.out.mono hsz)⟩
        case measure => first | (simp [intOf]; done) | (simp [intOf]; omega)
    · have hi : i = -1 := by omega
      subst hi
      rw [show ((-1 : Int) + 1).toNat = 0 from rfl, List.drop_zero] at hn
      have HNN := Lib.hid hn
      have HB := Lib.hid hbel
      clear hn hbel
      go_wp2
      go_ret
      exact ⟨_, _, _, rfl, HNN.out, HB.out⟩
end Go.Proofs.YtncdacafdfknnaaDoor
