/- Walks of the reference: the next token at any place, all tokens; whether two rows of tokens are the same; the change of one row into the other. -/
import Derived.Test.YtnhabokkjmcdoaaDoorLexE
import Derived.Test.YtnhabokkjmcdoaaDoorLexA
import Derived.StillTailTactics
namespace Go.Proofs.YtnhabokkjmcdoaaDoor
open Go.RowKit
set_option linter.unusedVariables false

set_option maxHeartbeats 1000000 in
theorem rnext_any (s : ByteArray) (p : Int) (w : World) (hs : s.size ≤ 1000000) :
    Calls Tryd.prog 16 #[.string s, .int .i64 p] w fun e w' => e = .returned (nextV (nextAt (bs s) p)) ∧ Below w.heap.size w w' := by
  by_cases ho : p < 0 ∨ ((bs s).length : Int) < p
  · rw [nextAt_out ho]
    rw [bs_length] at ho
    by_cases h0 : p < 0
    · clear ho
      go_enter Tryd.func16, Tryd.ntmps16
      go_wp2
      refine bodyPost_ret (rnext_results _ _ w.heap.size _ _ _ _ _ _ rfl rfl rfl (fun o ho => World.cell?_alloc_at _ _ _ _ rfl)) rfl ⟨?_, ?_⟩
      · rfl
      · exact (Below.refl _ _).alloc (Nat.le_refl _) _
    · have h1 : (s.size : Int) < p := by omega
      clear ho
      go_enter Tryd.func16, Tryd.ntmps16
      go_wp2
      refine bodyPost_ret (rnext_results _ _ w.heap.size _ _ _ _ _ _ rfl rfl rfl (fun o ho => World.cell?_alloc_at _ _ _ _ rfl)) rfl ⟨?_, ?_⟩
      · rfl
      · exact (Below.refl _ _).alloc (Nat.le_refl _) _
  · obtain ⟨n, rfl⟩ : ∃ n : Nat, p = n := ⟨p.toNat, by omega⟩
    rw [nextAt_in (by omega)]
    exact rnext_in s n w hs (by rw [bs_length] at ho; omega)

theorem Tryd.infoR : (Tryd.prog.info? 28).map (fun i => (i.zero, i.size, i.bytes)) = some (some (.agg #[.int .i64 0, .int .i64 0, .string ⟨#[]⟩, .int .i64 0]), 4, 40) := by kernel_rfl

set_option maxRecDepth 100000 in
set_option maxHeartbeats 4000000 in
theorem rall_any (s : ByteArray) (w : World) (hs : s.size ≤ 1000000) :
    Calls Tryd.prog 21 #[.string s] w fun e w' => ∃ v, e = .returned (.tuple #[v, .int .i64 (all (bs s)).2.1, .int .i64 (all (bs s)).2.2]) ∧ w'.ownsRow w.heap.size 28 4 v (all (bs s)).1.length (flat (all (bs s)).1) ∧ Below w.heap.size w w' := by
  by_cases h1 : 65536 < s.size
  · have h1' : (65536 : Int) < (s.size : Int) := by omega
    have HA := Lib.hid (show all (bs s) = ([], 0, 4) from if_pos (by rw [bs_length]; exact h1))
    clear h1
    go_enter Tryd.func21, Tryd.ntmps21
    go_wp2
    go_ret3
    rw [HA.out]
    exact ⟨_, rfl, ⟨rfl, .inl ⟨rfl, rfl⟩⟩, Below.refl _ _⟩
  · have h1' : ¬ (65536 : Int) < (s.size : Int) := by omega
    have HA := Lib.hid (show all (bs s) = allFrom (bs s) 0 [] from if_neg (by rw [bs_length]; exact h1))
    have h65 : s.size ≤ 65536 := by omega
    clear h1
    obtain ⟨i0, hi, hz0, hz1, hz2⟩ := info_parts Tryd.infoR
    go_enter Tryd.func21, Tryd.ntmps21
    go_wp2_with fail
    go_loopw [5, 6] (fun sv si wr => ∃ (p : Nat) (acc : List Tok), p ≤ s.size ∧ si = .int .i64 p ∧ wr.ownsRow w.heap.size 28 4 sv acc.length (flat acc) ∧ acc.length ≤ p ∧ allFrom (bs s) 0 [] = allFrom (bs s) p acc ∧ Below w.heap.size w wr) (fun _ i _ => s.size - (intOf i).toNat)
    case atStart => exact ⟨0, [], Nat.zero_le _, rfl, World.ownsRow_made _ _ 0 (Nat.le_refl _) (Nat.zero_le _) rfl, Nat.zero_le _, rfl, (Below.refl _ _).alloc (Nat.le_refl _) _⟩
    case round =>
      obtain ⟨p, acc, hp, rfl, how, hle, hall, hbel⟩ := hrel
      have HO := Lib.hid how
      have HL := Lib.hid hall
      have HB := Lib.hid hbel
      have hsz := hbel.size
      have HN := Lib.hid (rnext_any s p wr hs)
      clear how hall hbel
      rw [nextAt_in (by rw [bs_length]; exact hp)] at HN
      have hok := next_ok (l := bs s) (p := p) (by rw [bs_length]; exact hp)
      have hend := allFrom_end (l := bs s) (p := p) (acc := acc)
      have herr := allFrom_err (l := bs s) (p := p) (acc := acc)
      have hmore := allFrom_more (l := bs s) (p := p) (acc := acc) (by rw [bs_length]; exact hp)
      rw [bs_length] at hok
      have HOK := Lib.hid hok
      have HEND := Lib.hid hend
      have HERR := Lib.hid herr
      have HMORE := Lib.hid hmore
      clear hok hend herr hmore
      generalize next (bs s) p = x at *
      obtain ⟨⟨tk, tn, tt, ta⟩, q, e⟩ := x
      unfold nextV Tok.val Tok.cells at HN
      dsimp only at HN HOK HEND HERR HMORE
      by_cases he : e = 0
      · subst he
        have hok := HOK.out rfl
        by_cases hk : tk = 5
        · have HE := Lib.hid (HEND.out rfl hk)
          subst hk
          clear hok
          go_wp2_with fail
          refine (HN.out).mono ?_
          rintro e w2 ⟨rfl, hb2⟩
          have HB2 := Lib.hid hb2
          clear hb2
          go_wp2
          go_ret3
          rw [HA.out, HL.out, HE.out]
          exact ⟨_, rfl, ownsRow_below HO.out (HB2.out.alloc HB2.out.size _), HB.out.trans ((HB2.out.alloc HB2.out.size _).mono hsz)⟩
        · have HE := Lib.hid (HMORE.out rfl hk)
          have hk' : (tk == 5) = false := by simpa using hk
          have hq1 : p < q ∧ q ≤ s.size := by
            rcases hok with ⟨h, _⟩ | ⟨_, h1, h2⟩
            · exact absurd h hk
            · exact ⟨h1, h2⟩
          obtain ⟨hq1, hq2⟩ := hq1
          clear hok hk
          go_wp2_with fail
          refine (HN.out).mono ?_
          rintro e w2 ⟨rfl, hb2⟩
          have HB2 := Lib.hid hb2
          have hsz2 := hb2.size
          have hB3 := Lib.hid (hb2.alloc hb2.size (.cells #[.int .i64 tk, .int .i64 tn, .string ⟨tt.toArray⟩, .int .i64 ta] 28))
          have HO2 := Lib.hid (ownsRow_below HO.out hB3.out)
          have hlt := (ownsRow_below HO.out hb2).lt
          have HLT := Lib.hid hlt
          clear hb2 hlt
          go_wp2_with (at_builtin; refine wpList_append_own _ rfl _ _ 32 rfl w.heap.size 28 i0 _ 4 40 Tryd.underlying32 hi hz0 hz1 hz2 rfl (by decide) _ _ _ rfl (HO2.out.alloc _) ⟨w2.heap.size + 1, 0, none⟩ 1 1 (tokL ⟨tk, tn, tt, ta⟩) rfl rfl ?c1 ?c2 ?c3 ?c4 ?c5 ?_)
          case c1 => exact World.news_of_block (cs := #[.int .i64 tk, .int .i64 tn, .string ⟨tt.toArray⟩, .int .i64 ta]) (t := 28) (fr := (0, 0)) (by have := heap_alloc_new (w2.alloc (.cells #[.int .i64 tk, .int .i64 tn, .string ⟨tt.toArray⟩, .int .i64 ta] 28)) (.cells #[.int .i64 tk, .int .i64 tn, .string ⟨tt.toArray⟩, .int .i64 ta] 28); simpa using this)
          case c2 =>
            intro q hq
            simp [tokL] at hq
            rcases hq with rfl | rfl | rfl | rfl <;> rfl
          case c3 => unfold maxLen; omega
          case c4 => omega
          case c5 => simp; omega
          intro v' w3 hown3 hgrow3 _
          have hgr := Lib.hid hgrow3
          have HO3 := Lib.hid hown3
          clear hown3 hgrow3
          go_wp2
          go_roundw
          case rel =>
            refine ⟨q, acc ++ [⟨tk, tn, tt, ta⟩], hq2, rfl, ?_, ?_, ?_, ?_⟩
            · rw [flat_snoc, List.length_append]; exact HO3.out
            · rw [List.length_append]; simp; omega
            · rw [HL.out, HE.out]
            · refine ((HB.out.trans (hB3.out.mono hsz)).alloc (by simp; omega) _).grown hgr.out (by simp; omega) (fun q hq => ?_)
              exact (HO2.out.lt q hq).1
          case measure => simp [intOf]; omega
      · have he' : (e == 0) = false := by simpa using he
        have he'' : (e != 0) = true := by simpa using he
        have HE := Lib.hid (HERR.out he)
        clear he
        go_wp2_with fail
        refine (HN.out).mono ?_
        rintro e w2 ⟨rfl, hb2⟩
        have HB2 := Lib.hid hb2
        clear hb2
        go_wp2
        go_ret3
        rw [HA.out, HL.out, HE.out]
        exact ⟨_, rfl, ⟨rfl, .inl ⟨rfl, rfl⟩⟩, HB.out.trans ((HB2.out.alloc HB2.out.size _).mono hsz)⟩

/-- The same, but for the places where they are not asked. -/
def alike (pl : Bool) (x y : Tok) : Prop := x.kind = y.kind ∧ x.n = y.n ∧ x.text = y.text ∧ (pl = true → x.at_ = y.at_)

set_option maxRecDepth 100000 in
set_option maxHeartbeats 2000000 in
theorem same_any (A B : Option Addr) (ca cb : Nat) (la lb : List Tok) (pl : Bool) (w : World) (hl : la.length ≤ 1000000) (hlen : la.length = lb.length) (hA : ToksAt w A la) (hB : ToksAt w B lb)
    (hall : ∀ (k : Nat) (x y : Tok), la[k]? = some x → lb[k]? = some y → alike pl x y) :
    Calls Tryd.prog 17 #[.slice A la.length ca, .slice B lb.length cb, .bool pl] w fun e w' => e = .returned (.bool true) ∧ ∃ n, w' = w.drewN n := by
  rw [← hlen]
  have HLEN := Lib.hid hlen
  have HAA := Lib.hid hA
  have HBB := Lib.hid hB
  have HALL := Lib.hid hall
  clear hlen hA hB hall
  obtain ⟨n, hn⟩ : ∃ n, n = la.length := ⟨_, rfl⟩
  rw [← hn] at hl ⊢
  have HN := Lib.hid hn
  clear hn
  have hne : ((n : Int) != (n : Int)) = false := by simp
  go_enter Tryd.func17, Tryd.ntmps17
  go_wp2
  go_loopw [7] (fun i wr => ∃ k : Nat, k ≤ n ∧ i = .int .i64 k ∧ ∃ m, wr = w.drewN m) (fun i _ => n - (intOf i).toNat)
  case atStart => exact ⟨0, Nat.zero_le _, rfl, 0, rfl⟩
  case round =>
    obtain ⟨k, hk, rfl, m, rfl⟩ := hrel
    by_cases hlt : k < n
    · obtain ⟨x, hx⟩ : ∃ x, la[k]? = some x := ⟨_, List.getElem?_eq_getElem (by have := HN.out; omega)⟩
      obtain ⟨y, hy⟩ : ∃ y, lb[k]? = some y := ⟨_, List.getElem?_eq_getElem (by have := HN.out; have := HLEN.out; omega)⟩
      have hal := HALL.out k x y hx hy
      rcases HAA.out with h0 | ⟨b, off, rfl, hb, hc⟩
      · rw [h0] at hx; simp at hx
      rcases HBB.out with h0 | ⟨b2, off2, rfl, hb2, hc2⟩
      · rw [h0] at hy; simp at hy
      have x0 := hc k x hx 0 (by omega)
      have x1 := hc k x hx 1 (by omega)
      have x2 := hc k x hx 2 (by omega)
      have x3 := hc k x hx 3 (by omega)
      have y0 := hc2 k y hy 0 (by omega)
      have y1 := hc2 k y hy 1 (by omega)
      have y2 := hc2 k y hy 2 (by omega)
      have y3 := hc2 k y hy 3 (by omega)
      simp only [tokV, Nat.add_zero] at x0 x1 x2 x3 y0 y1 y2 y3
      clear hc hc2 hx hy
      obtain ⟨xk, xn, xt, xa⟩ := x
      obtain ⟨yk, yn, yt, ya⟩ := y
      obtain ⟨e1, e2, e3, e4⟩ := hal
      dsimp only at e1 e2 e3 e4 x0 x1 x2 x3 y0 y1 y2 y3
      subst e1 e2 e3
      have hk0 : (0 : Int) ≤ (k : Int) := by omega
      have hk1 : (k : Int) < (n : Int) := by omega
      have n1 : (xk != xk) = false := by simp
      have n2 : (xn != xn) = false := by simp
      generalize (⟨xt.toArray⟩ : ByteArray) = t at *
      cases pl
      · clear e4
        go_wp2_with fail
        go_quiet (fail)
        go_wp2
        go_roundw
        case rel => exact ⟨k + 1, by omega, by go_num, _, rfl⟩
        case measure => simp [intOf]; omega
      · have e5 := e4 rfl
        clear e4
        subst e5
        have n3 : (xa != xa) = false := by simp
        go_wp2_with fail
        go_quiet (fail)
        go_wp2
        go_roundw
        case rel => exact ⟨k + 1, by omega, by go_num, _, rfl⟩
        case measure => simp [intOf]; omega
    · have hk1 : ¬ (k : Int) < (n : Int) := by omega
      go_wp2
      go_ret
      exact ⟨rfl, _, rfl⟩
end Go.Proofs.YtnhabokkjmcdoaaDoor
