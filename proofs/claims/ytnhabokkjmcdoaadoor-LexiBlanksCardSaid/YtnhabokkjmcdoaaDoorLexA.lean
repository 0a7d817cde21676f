/- Walk: all tokens. -/
import Derived.Test.YtnhabokkjmcdoaaDoorLex9
namespace Go.Proofs.YtnhabokkjmcdoaaDoor
open Go.RowKit
set_option linter.unusedVariables false

theorem Tryd.info24 : (Tryd.prog.info? 24).map (fun i => (i.zero, i.size, i.bytes)) = some (some (.agg #[.int .i64 0, .int .i64 0, .string ⟨#[]⟩, .int .i64 0]), 4, 40) := by kernel_rfl

set_option maxRecDepth 100000 in
set_option maxHeartbeats 4000000 in
theorem all_any (s : ByteArray) (w : World) (hs : s.size ≤ maxLen) (hT : Tables w) :
    Calls Tryd.prog 20 #[.string s] w fun e w' => ∃ v, e = .returned (.tuple #[v, .int .i64 (all (bs s)).2.1, .int .i64 (all (bs s)).2.2]) ∧ w'.ownsRow w.heap.size 24 4 v (all (bs s)).1.length (flat (all (bs s)).1) ∧ Below w.heap.size w w' := by
  have hs' := hs
  unfold maxLen at hs'
  have HT := Lib.hid hT
  clear hT
  by_cases h1 : 65536 < s.size
  · have h1' : (65536 : Int) < (s.size : Int) := by omega
    have HA := Lib.hid (show all (bs s) = ([], 0, 4) from if_pos (by rw [bs_length]; exact h1))
    clear h1
    go_enter Tryd.func20, Tryd.ntmps20
    go_wp2
    go_ret3
    rw [HA.out]
    exact ⟨_, rfl, ⟨rfl, .inl ⟨rfl, rfl⟩⟩, Below.refl _ _⟩
  · have h1' : ¬ (65536 : Int) < (s.size : Int) := by omega
    have HA := Lib.hid (show all (bs s) = allFrom (bs s) 0 [] from if_neg (by rw [bs_length]; exact h1))
    have h65 : s.size ≤ 65536 := by omega
    clear h1
    obtain ⟨i0, hi, hz0, hz1, hz2⟩ := info_parts Tryd.info24
    go_enter Tryd.func20, Tryd.ntmps20
    go_wp2_with fail
    go_loopw [5, 6] (fun sv si wr => ∃ (p : Nat) (acc : List Tok), p ≤ s.size ∧ si = .int .i64 p ∧ wr.ownsRow w.heap.size 24 4 sv acc.length (flat acc) ∧ acc.length ≤ p ∧ allFrom (bs s) 0 [] = allFrom (bs s) p acc ∧ Below w.heap.size w wr) (fun _ i _ => s.size - (intOf i).toNat)
    case atStart => exact ⟨0, [], Nat.zero_le _, rfl, ⟨rfl, .inl ⟨rfl, rfl⟩⟩, Nat.zero_le _, rfl, Below.refl _ _⟩
    case round =>
      obtain ⟨p, acc, hp, rfl, how, hle, hall, hbel⟩ := hrel
      have HO := Lib.hid how
      have HL := Lib.hid hall
      have HB := Lib.hid hbel
      have hsz := hbel.size
      have hT' := HT.out.below hbel
      have HN := Lib.hid (next_any s p wr hs hT')
      clear how hall hbel hT'
      rw [nextAt_in (by rw [bs_length]; exact hp)] at HN
      have hok := next_ok (l := bs s) (p := p) (by rw [bs_length]; exact hp)
      have hend := allFrom_end (l := bs s) (p := p) (acc := acc)
      have herr := allFrom_err (l := bs s) (p := p) (acc := acc)
      have hmore := allFrom_more (l := bs s) (p := p) (acc := acc) (by rw [bs_length]; exact hp)
      rw [bs_length] at hok
      have HOK := Lib.hid hok
      have HEND := Lib.hid hend
      have HERR := Lib.hid herr
      have HMORE := Lib.hid hmore
      clear hok hend herr hmore
      generalize next (bs s) p = x at *
      obtain ⟨⟨tk, tn, tt, ta⟩, q, e⟩ := x
      unfold nextV Tok.val Tok.cells at HN
      dsimp only at HN HOK HEND HERR HMORE
      by_cases he : e = 0
      · subst he
        have hok := HOK.out rfl
        by_cases hk : tk = 5
        · have HE := Lib.hid (HEND.out rfl hk)
          subst hk
          clear hok
          go_wp2_with fail
          refine (HN.out).mono ?_
          rintro e w2 ⟨rfl, hb2⟩
          have HB2 := Lib.hid hb2
          clear hb2
          go_wp2
          go_ret3
          rw [HA.out, HL.out, HE.out]
          exact ⟨_, rfl, ownsRow_below HO.out (HB2.out.alloc HB2.out.size _), HB.out.trans ((HB2.out.alloc HB2.out.size _).mono hsz)⟩
        · have HE := Lib.hid (HMORE.out rfl hk)
          have hk' : (tk == 5) = false := by simpa using hk
          have hq1 : p < q ∧ q ≤ s.size := by
            rcases hok with ⟨h, _⟩ | ⟨_, h1, h2⟩
            · exact absurd h hk
            · exact ⟨h1, h2⟩
          obtain ⟨hq1, hq2⟩ := hq1
          clear hok hk
          go_wp2_with fail
          refine (HN.out).mono ?_
          rintro e w2 ⟨rfl, hb2⟩
          have HB2 := Lib.hid hb2
          have hsz2 := hb2.size
          have hB3 := Lib.hid (hb2.alloc hb2.size (.cells #[.int .i64 tk, .int .i64 tn, .string ⟨tt.toArray⟩, .int .i64 ta] 24))
          have HO2 := Lib.hid (ownsRow_below HO.out hB3.out)
          have hlt := (ownsRow_below HO.out hb2).lt
          have HLT := Lib.hid hlt
          clear hb2 hlt
          go_wp2_with (at_builtin; refine wpList_append_own _ rfl _ _ 34 rfl w.heap.size 24 i0 _ 4 40 Tryd.underlying34 hi hz0 hz1 hz2 rfl (by decide) _ _ _ rfl (HO2.out.alloc _) ⟨w2.heap.size + 1, 0, none⟩ 1 1 (tokL ⟨tk, tn, tt, ta⟩) rfl rfl ?c1 ?c2 ?c3 ?c4 ?c5 ?_)
          case c1 => exact World.news_of_block (cs := #[.int .i64 tk, .int .i64 tn, .string ⟨tt.toArray⟩, .int .i64 ta]) (t := 24) (fr := (0, 0)) (by have := heap_alloc_new (w2.alloc (.cells #[.int .i64 tk, .int .i64 tn, .string ⟨tt.toArray⟩, .int .i64 ta] 24)) (.cells #[.int .i64 tk, .int .i64 tn, .string ⟨tt.toArray⟩, .int .i64 ta] 24); simpa using this)
          case c2 =>
            intro q hq
            simp [tokL] at hq
            rcases hq with rfl | rfl | rfl | rfl <;> rfl
          case c3 => unfold maxLen; omega
          case c4 => omega
          case c5 => simp; omega
          intro v' w3 hown3 hgrow3 _
          have hgr := Lib.hid hgrow3
          have HO3 := Lib.hid hown3
          clear hown3 hgrow3
          go_wp2
          go_roundw
          case rel =>
            refine ⟨q, acc ++ [⟨tk, tn, tt, ta⟩], hq2, rfl, ?_, ?_, ?_, ?_⟩
            · rw [flat_snoc, List.length_append]; exact HO3.out
            · rw [List.length_append]; simp; omega
            · rw [HL.out, HE.out]
            · refine ((HB.out.trans (hB3.out.mono hsz)).alloc (by simp; omega) _).grown hgr.out (by simp; omega) (fun q hq => ?_)
              exact (HO2.out.lt q hq).1
          case measure => simp [intOf]; omega
      · have he' : (e == 0) = false := by simpa using he
        have HE := Lib.hid (HERR.out he)
        clear he
        go_wp2_with fail
        refine (HN.out).mono ?_
        rintro e w2 ⟨rfl, hb2⟩
        have HB2 := Lib.hid hb2
        clear hb2
        go_wp2
        go_ret3
        rw [HA.out, HL.out, HE.out]
        exact ⟨_, rfl, ⟨rfl, .inl ⟨rfl, rfl⟩⟩, HB.out.trans ((HB2.out.alloc HB2.out.size _).mono hsz)⟩
end Go.Proofs.YtnhabokkjmcdoaaDoor
