/- Plain words: what the tokens of a text are: numbers, names, and how long they are all together. Walk: all tokens. -/
import Derived.Test.YtnbphgeepnknlaaGreatDoorQLex6
namespace Go.Proofs.YtnbphgeepnknlaaGreatDoor
set_option linter.unusedVariables false

/-- What a token of a text is. -/
structure TokOk (t : Tok) : Prop where
 pos : 0 < t.text.length
 n0 : 0 ≤ t.n
 n1 : t.n ≤ 255
 name : t.kind = 2 → isName t.text = true
theorem numSpec_le (l : Bs) : (numSpec l).1 ≤ 255 := by
 unfold numSpec
 split
 · exact Nat.zero_le _
 · split
   · exact Nat.zero_le _
   · split
     · exact Nat.zero_le _
     · show valOf _ ≤ 255; omega
theorem rowLen_take_full (p : UInt8 → Bool) : ∀ r : Bs, rowLen p (r.take (rowLen p r)) = rowLen p r ∧ (r.take (rowLen p r)).length = rowLen p r
 | [] => ⟨rfl, rfl⟩
 | c :: r => by
  cases h : p c with
  | true =>
   have ih := rowLen_take_full p r
   rw [rowLen_cons_true h, List.take_succ_cons, rowLen_cons_true h, ih.1, List.length_cons, ih.2]
   exact ⟨rfl, rfl⟩
  | false =>
   rw [rowLen_cons_false h]
   exact ⟨rfl, rfl⟩
theorem scan_tok {l : Bs} {k : Int} {n len : Nat} (h : scan l = (k, n, len, 0)) : n ≤ 255 ∧ (k = 2 → isName (l.take len) = true) := by
 cases l with
 | nil =>
  rw [scan_end] at h
  simp only [Prod.mk.injEq] at h
  obtain ⟨h1, h2, -, -⟩ := h
  exact ⟨by omega, fun h3 => by omega⟩
 | cons c r =>
  cases hl : isLetter c
  · cases hd : isDigit c
    · rw [scan_sign hl hd] at h
      cases hs : signIdx (c :: r) signL 0 with
      | none => rw [hs] at h; simp at h
      | some i =>
       rw [hs] at h
       simp only [Prod.mk.injEq] at h
       obtain ⟨h1, h2, _, _⟩ := h
       exact ⟨by omega, fun h3 => by omega⟩
    · rw [scan_digit hl hd] at h
      split at h
      · simp only [Prod.mk.injEq] at h
        obtain ⟨h1, h2, _, _⟩ := h
        have := numSpec_le (c :: r)
        exact ⟨by omega, fun h3 => by omega⟩
      · rename_i he
        simp only [Prod.mk.injEq] at h
        obtain ⟨-, -, -, h4⟩ := h
        omega
  · rw [scan_letter hl] at h
    have hpos : 0 < rowLen isInside (c :: r) := by rw [rowLen_cons_true (inside_letter hl)]; omega
    have hf := rowLen_take_full isInside (c :: r)
    split at h
    · simp at h
    · rename_i h24
      split at h
      · simp only [Prod.mk.injEq] at h
        obtain ⟨h1, h2, _, _⟩ := h
        exact ⟨by omega, fun h3 => by omega⟩
      · rename_i hw
        simp only [Prod.mk.injEq] at h
        obtain ⟨h1, h2, h3, _⟩ := h
        refine ⟨by omega, fun _ => ?_⟩
        rw [← h3]
        unfold isName
        have e0 : (c :: r).take (rowLen isInside (c :: r)) ≠ [] := fun e => by rw [e] at hf; have := hf.2; simp at this; omega
        have e1 : ((c :: r).take (rowLen isInside (c :: r))).headD 0 = c := by
         cases hr : rowLen isInside (c :: r) with
         | zero => omega
         | succ m => rw [List.take_succ_cons]; rfl
        rw [e1, hl, hf.1, hf.2]
        simp at hw
        simp [e0, hw]
        omega
theorem next_tok {l : Bs} {p : Nat} (hp : p ≤ l.length) (h : (next l p).2.2 = 0) (hk : (next l p).1.kind ≠ 5) : TokOk (next l p).1 ∧ p + (next l p).1.text.length ≤ (next l p).2.1 ∧ (next l p).2.1 ≤ l.length := by
 have hb := blank_len (l.drop p)
 rw [List.length_drop] at hb
 have hs : scan (blank (l.drop p)) = ((scan (blank (l.drop p))).1, (scan (blank (l.drop p))).2.1, (scan (blank (l.drop p))).2.2.1, 0) := by
  unfold next at h
  simp only at h
  split at h
  · rename_i he
    rw [← he]
  · rename_i he
    simp at h
    exact absurd h he
 unfold next at hk ⊢
 simp only at hk ⊢
 rw [if_pos (by rw [hs])] at hk ⊢
 simp only at hk ⊢
 have ht := scan_tok hs
 rcases scan_ok hs with ⟨h1, h2, h3, h4⟩ | ⟨h1, h2, h3⟩
 · exact absurd h1 hk
 · refine ⟨⟨by simp only [List.length_take]; omega, by simp, by simp only; omega, ht.2⟩, ?_, ?_⟩
   · rw [List.length_take]; omega
   · omega
/-- How long the texts of tokens are all together. -/
def txts (l : List Tok) : Nat := (l.map fun t => t.text.length).sum
theorem allF_ok : ∀ (n : Nat) (l : Bs) (p : Nat) (acc : List Tok), p ≤ l.length → (∀ t ∈ acc, TokOk t) → txts acc ≤ p → (∀ t ∈ (allF n l p acc).1, TokOk t) ∧ txts (allF n l p acc).1 ≤ l.length
 | 0, l, p, acc, hp, ha, hs => by
  rw [allF]
  exact ⟨fun t ht => by simp at ht, Nat.zero_le _⟩
 | n + 1, l, p, acc, hp, ha, hs => by
  rw [allF]
  by_cases h : (next l p).2.2 = 0
  · rw [if_pos h]
    by_cases hk : (next l p).1.kind = 5
    · rw [if_pos hk]
      exact ⟨ha, by show txts acc ≤ _; omega⟩
    · rw [if_neg hk]
      obtain ⟨h1, h2, h3⟩ := next_tok hp h hk
      refine allF_ok n l _ _ h3 (fun t ht => ?_) ?_
      · rcases List.mem_append.1 ht with ht | ht
        · exact ha t ht
        · rw [List.mem_singleton.1 ht]; exact h1
      · unfold txts at hs ⊢
        simp
        omega
  · rw [if_neg h]
    exact ⟨fun t ht => by simp at ht, Nat.zero_le _⟩
theorem all_ok (s : Bs) : (∀ t ∈ (all s).1, TokOk t) ∧ txts (all s).1 ≤ s.length ∧ txts (all s).1 ≤ 65536 := by
 unfold all
 by_cases h : 65536 < s.length
 · rw [if_pos h]
   exact ⟨fun t ht => by simp at ht, Nat.zero_le _, Nat.zero_le _⟩
 · rw [if_neg h]
   have hx := allF_ok (s.length + 1) s 0 [] (Nat.zero_le _) (fun t ht => by simp at ht) (Nat.zero_le _)
   exact ⟨hx.1, hx.2, by omega⟩
theorem txts_mem : ∀ {l : List Tok} {t : Tok}, t ∈ l → t.text.length ≤ txts l
 | x :: r, t, h => by
  unfold txts
  rw [List.map_cons, List.sum_cons]
  rcases List.mem_cons.1 h with rfl | h
  · omega
  · have := txts_mem h
    unfold txts at this
    omega
theorem txts_len : ∀ {l : List Tok}, (∀ t ∈ l, TokOk t) → l.length ≤ txts l
 | [], _ => Nat.zero_le _
 | x :: r, h => by
  have h1 := (h x (by simp)).pos
  have h2 := txts_len (l := r) (fun t ht => h t (by simp [ht]))
  unfold txts at h2 ⊢
  rw [List.map_cons, List.sum_cons, List.length_cons]
  omega
end Go.Proofs.YtnbphgeepnknlaaGreatDoor
namespace Go.Proofs.YtnbphgeepnknlaaGreatDoor
open Go.RowKit
set_option linter.unusedVariables false

theorem Tryz.info24 : (Tryz.prog.info? 72).map (fun i => (i.zero, i.size, i.bytes)) = some (some (.agg #[.int .i64 0, .int .i64 0, .string ⟨#[]⟩, .int .i64 0]), 4, 40) := by kernel_rfl

set_option maxRecDepth 100000 in
set_option maxHeartbeats 4000000 in
theorem all_any (s : ByteArray) (w : World) (hs : s.size ≤ maxLen) (hT : Tables w) :
 Calls Tryz.prog 31 #[.string s] w fun e w' => ∃ v, e = .returned (.tuple #[v, .int .i64 (all (bs s)).2.1, .int .i64 (all (bs s)).2.2]) ∧ w'.ownsRow w.heap.size 72 4 v (all (bs s)).1.length (flat (all (bs s)).1) ∧ Below w.heap.size w w' := by
 have hs' := hs
 unfold maxLen at hs'
 have HT := Lib.hid hT
 clear hT
 by_cases h1 : 65536 < s.size
 · have h1' : (65536 : Int) < (s.size : Int) := by omega
   have HA := Lib.hid (show all (bs s) = ([], 0, 4) from if_pos (by rw [bs_length]; exact h1))
   clear h1
   go_enter Tryz.func31, Tryz.ntmps31
   go_wp2
   go_ret3
   rw [HA.out]
   exact ⟨_, rfl, ⟨rfl, .inl ⟨rfl, rfl⟩⟩, Below.refl _ _⟩
 · have h1' : ¬ (65536 : Int) < (s.size : Int) := by omega
   have HA := Lib.hid (show all (bs s) = allFrom (bs s) 0 [] from if_neg (by rw [bs_length]; exact h1))
   have h65 : s.size ≤ 65536 := by omega
   clear h1
   obtain ⟨i0, hi, hz0, hz1, hz2⟩ := info_parts Tryz.info24
   go_enter Tryz.func31, Tryz.ntmps31
   go_wp2_with fail
   go_loopw [5, 6] (fun sv si wr => ∃ (p : Nat) (acc : List Tok), p ≤ s.size ∧ si = .int .i64 p ∧ wr.ownsRow w.heap.size 72 4 sv acc.length (flat acc) ∧ acc.length ≤ p ∧ allFrom (bs s) 0 [] = allFrom (bs s) p acc ∧ Below w.heap.size w wr) (fun _ i _ => s.size - (intOf i).toNat)
   case atStart => exact ⟨0, [], Nat.zero_le _, rfl, ⟨rfl, .inl ⟨rfl, rfl⟩⟩, Nat.zero_le _, rfl, Below.refl _ _⟩
   case round =>
    obtain ⟨p, acc, hp, rfl, how, hle, hall, hbel⟩ := hrel
    have HO := Lib.hid how
    have HL := Lib.hid hall
    have HB := Lib.hid hbel
    have hsz := hbel.size
    have hT' := HT.out.below hbel
    have HN := Lib.hid (next_any s p wr hs hT')
    clear how hall hbel hT'
    rw [nextAt_in (by rw [bs_length]; exact hp)] at HN
    have hok := next_ok (l := bs s) (p := p) (by rw [bs_length]; exact hp)
    have hend := allFrom_end (l := bs s) (p := p) (acc := acc)
    have herr := allFrom_err (l := bs s) (p := p) (acc := acc)
    have hmore := allFrom_more (l := bs s) (p := p) (acc := acc) (by rw [bs_length]; exact hp)
    rw [bs_length] at hok
    have HOK := Lib.hid hok
    have HEND := Lib.hid hend
    have HERR := Lib.hid herr
    have HMORE := Lib.hid hmore
    clear hok hend herr hmore
    generalize next (bs s) p = x at *
    obtain ⟨⟨tk, tn, tt, ta⟩, q, e⟩ := x
    unfold nextV Tok.val Tok.cells at HN
    dsimp only at HN HOK HEND HERR HMORE
    by_cases he : e = 0
    · subst he
      have hok := HOK.out rfl
      by_cases hk : tk = 5
      · have HE := Lib.hid (HEND.out rfl hk)
        subst hk
        clear hok
        go_wp2_with fail
        refine (HN.out).mono ?_
        rintro e w2 ⟨rfl, hb2⟩
        have HB2 := Lib.hid hb2
        clear hb2
        go_wp2
        go_ret3
        rw [HA.out, HL.out, HE.out]
        exact ⟨_, rfl, ownsRow_below HO.out (HB2.out.alloc HB2.out.size _), HB.out.trans ((HB2.out.alloc HB2.out.size _).mono hsz)⟩
      · have HE := Lib.hid (HMORE.out rfl hk)
        have hk' : (tk == 5) = false := by simpa using hk
        have hq1 : p < q ∧ q ≤ s.size := by
         rcases hok with ⟨h, _⟩ | ⟨_, h1, h2⟩
         · exact absurd h hk
         · exact ⟨h1, h2⟩
        obtain ⟨hq1, hq2⟩ := hq1
        clear hok hk
        go_wp2_with fail
        refine (HN.out).mono ?_
        rintro e w2 ⟨rfl, hb2⟩
        have HB2 := Lib.hid hb2
        have hsz2 := hb2.size
        have hB3 := Lib.hid (hb2.alloc hb2.size (.cells #[.int .i64 tk, .int .i64 tn, .string ⟨tt.toArray⟩, .int .i64 ta] 72))
        have HO2 := Lib.hid (ownsRow_below HO.out hB3.out)
        have hlt := (ownsRow_below HO.out hb2).lt
        have HLT := Lib.hid hlt
        clear hb2 hlt
        go_wp2_with (at_builtin; refine wpList_append_own _ rfl _ _ 67 rfl w.heap.size 72 i0 _ 4 40 Tryz.underlying67 hi hz0 hz1 hz2 rfl (by decide) _ _ _ rfl (HO2.out.alloc _) ⟨w2.heap.size + 1, 0, none⟩ 1 1 (tokL ⟨tk, tn, tt, ta⟩) rfl rfl ?c1 ?c2 ?c3 ?c4 ?c5 ?_)
        case c1 => exact World.news_of_block (cs := #[.int .i64 tk, .int .i64 tn, .string ⟨tt.toArray⟩, .int .i64 ta]) (t := 72) (fr := (0, 0)) (by have := heap_alloc_new (w2.alloc (.cells #[.int .i64 tk, .int .i64 tn, .string ⟨tt.toArray⟩, .int .i64 ta] 72)) (.cells #[.int .i64 tk, .int .i64 tn, .string ⟨tt.toArray⟩, .int .i64 ta] 72); simpa using this)
        case c2 =>
         intro q hq
         simp [tokL] at hq
         rcases hq with rfl | rfl | rfl | rfl <;> rfl
        case c3 => unfold maxLen; omega
        case c4 => omega
        case c5 => simp; omega
        intro v' w3 hown3 hgrow3 _
        have hgr := Lib.hid hgrow3
        have HO3 := Lib.hid hown3
        clear hown3 hgrow3
        go_wp2
        go_roundw
        case rel =>
         refine ⟨q, acc ++ [⟨tk, tn, tt, ta⟩], hq2, rfl, ?_, ?_, ?_, ?_⟩
         · rw [flat_snoc, List.length_append]; exact HO3.out
         · rw [List.length_append]; simp; omega
         · rw [HL.out, HE.out]
         · refine ((HB.out.trans (hB3.out.mono hsz)).alloc (by simp; omega) _).grown hgr.out (by simp; omega) (fun q hq => ?_)
           exact (HO2.out.lt q hq).1
        case measure => simp [intOf]; omega
    · have he' : (e == 0) = false := by simpa using he
      have HE := Lib.hid (HERR.out he)
      clear he
      go_wp2_with fail
      refine (HN.out).mono ?_
      rintro e w2 ⟨rfl, hb2⟩
      have HB2 := Lib.hid hb2
      clear hb2
      go_wp2
      go_ret3
      rw [HA.out, HL.out, HE.out]
      exact ⟨_, rfl, ⟨rfl, .inl ⟨rfl, rfl⟩⟩, HB.out.trans ((HB2.out.alloc HB2.out.size _).mono hsz)⟩
end Go.Proofs.YtnbphgeepnknlaaGreatDoor
