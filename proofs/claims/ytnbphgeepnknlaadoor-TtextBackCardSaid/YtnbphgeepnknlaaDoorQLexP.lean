/- Plain words: the tokens of a text, one after another; a token's own text lexes to that token. -/
import Derived.Test.YtnbphgeepnknlaaDoorQLex6
namespace Go.Proofs.YtnbphgeepnknlaaDoor
open Go.RowKit
set_option linter.unusedVariables false

/-- The tokens from place p on. -/
def Toks (l : Bs) : Nat → List Tok → Prop
  | p, [] => (next l p).2.2 = 0 ∧ (next l p).1.kind = 5
  | p, t :: r => (next l p).2.2 = 0 ∧ (next l p).1 = t ∧ t.kind ≠ 5 ∧ Toks l (next l p).2.1 r

theorem allFrom_toks : ∀ (n : Nat) (l : Bs) (p : Nat) (acc : List Tok), p ≤ l.length → l.length + 1 - p ≤ n → ∀ (ts : List Tok) (a : Int), allFrom l p acc = (ts, a, 0) → ∃ r, ts = acc ++ r ∧ Toks l p r
  | 0, l, p, acc, hp, hn, ts, a, h => by omega
  | n + 1, l, p, acc, hp, hn, ts, a, h => by
    by_cases he : (next l p).2.2 = 0
    · by_cases hk : (next l p).1.kind = 5
      · rw [allFrom_end he hk] at h
        simp only [Prod.mk.injEq] at h
        exact ⟨[], by simp [h.1], he, hk⟩
      · rw [allFrom_more hp he hk] at h
        rcases next_ok hp he with ⟨h3, _⟩ | ⟨_, h4, h5⟩
        · exact absurd h3 hk
        · obtain ⟨r, hr, ht⟩ := allFrom_toks n l _ _ h5 (by omega) ts a h
          exact ⟨(next l p).1 :: r, by rw [hr]; simp, he, rfl, hk, ht⟩
    · rw [allFrom_err he] at h
      simp only [Prod.mk.injEq] at h
      exact absurd h.2.2 he

theorem toks_allFrom : ∀ (r : List Tok) (l : Bs) (p : Nat) (acc : List Tok), p ≤ l.length → Toks l p r → allFrom l p acc = (acc ++ r, 0, 0)
  | [], l, p, acc, hp, h => by rw [allFrom_end h.1 h.2, List.append_nil]
  | t :: r, l, p, acc, hp, h => by
    obtain ⟨he, ht, hk, hr⟩ := h
    rw [allFrom_more hp he (by rw [ht]; exact hk)]
    rcases next_ok hp he with ⟨h3, _⟩ | ⟨_, h4, h5⟩
    · rw [ht] at h3; exact absurd h3 hk
    · rw [toks_allFrom r l _ _ h5 hr, ht]
      simp

theorem all_toks {l : Bs} {ts : List Tok} {a : Int} (h : all l = (ts, a, 0)) : Toks l 0 ts ∧ a = 0 ∧ l.length ≤ 65536 := by
  unfold all at h
  by_cases h1 : 65536 < l.length
  · rw [if_pos h1] at h
    simp at h
  · rw [if_neg h1] at h
    obtain ⟨r, hr, ht⟩ := allFrom_toks (l.length + 1) l 0 [] (Nat.zero_le _) (by omega) ts a h
    rw [List.nil_append] at hr
    subst hr
    have := toks_allFrom ts l 0 [] (Nat.zero_le _) ht
    change allF (l.length + 1) l 0 [] = _ at this
    rw [h] at this
    simp only [Prod.mk.injEq] at this
    exact ⟨ht, this.2.1, by omega⟩
theorem toks_all {l : Bs} {ts : List Tok} (hl : l.length ≤ 65536) (h : Toks l 0 ts) : all l = (ts, 0, 0) := by
  unfold all
  rw [if_neg (by omega)]
  exact toks_allFrom ts l 0 [] (Nat.zero_le _) h
theorem all_bad {l : Bs} (h : (all l).2.2 ≠ 0) : (all l).1 = [] := by
  unfold all at h ⊢
  split at h
  · rename_i h1; rw [if_pos h1]
  · rename_i h1
    rw [if_neg h1]
    have : ∀ (n : Nat) (p : Nat) (acc : List Tok), (allF n l p acc).2.2 ≠ 0 → (allF n l p acc).1 = [] := by
      intro n
      induction n with
      | zero => intro p acc h; rfl
      | succ n ih =>
        intro p acc h
        unfold allF at h ⊢
        split at h
        · rename_i h2
          rw [if_pos h2]
          split at h
          · simp at h
          · rename_i h3
            rw [if_neg h3]
            exact ih _ _ h
        · rename_i h2
          rw [if_neg h2]
    exact this _ _ _ h

/-- What begins no white space. -/
def Solid (l : Bs) : Prop := l = [] ∨ ∃ c r, l = c :: r ∧ isWs c = false ∧ dashes l = false
theorem blankF_solid : ∀ (n : Nat) (l : Bs), l.length ≤ n → Solid (blankF n l)
  | 0, l, h => .inl (by have := List.eq_nil_of_length_eq_zero (Nat.le_zero.1 h); subst this; rfl)
  | n + 1, [], h => .inl rfl
  | n + 1, c :: r, h => by
    simp only [List.length_cons] at h
    unfold blankF
    split
    · exact blankF_solid n r (by omega)
    · rename_i h1
      split
      · rename_i h2
        have := comment_len h2
        simp only [List.length_cons] at this
        exact blankF_solid n _ (by omega)
      · rename_i h2
        exact .inr ⟨c, r, rfl, by simpa using h1, by simpa using h2⟩
theorem blank_solid (l : Bs) : Solid (blank l) := blankF_solid _ _ (Nat.le_refl _)
theorem solid_blank {l : Bs} (h : Solid l) : blank l = l := by
  rcases h with rfl | ⟨c, r, rfl, h1, h2⟩
  · rfl
  · exact blank_stop h1 h2
theorem blank_blank (l : Bs) : blank (blank l) = blank l := solid_blank (blank_solid l)

/-- The form of a token that is read. -/
theorem next_form {l : Bs} {p : Nat} (hp : p ≤ l.length) (h : (next l p).2.2 = 0) : ∃ (k : Int) (n len q : Nat) (r : Bs), blank (l.drop p) = r ∧ l.drop q = r ∧ q = l.length - r.length ∧ p ≤ q ∧ q ≤ l.length ∧ scan r = (k, n, len, 0) ∧ len ≤ r.length ∧ next l p = (⟨k, n, r.take len, q⟩, q + len, 0) := by
  have hb := blank_len (l.drop p)
  rw [List.length_drop] at hb
  have hsuf : blank (l.drop p) <:+ l := (blank_suffix _).trans (List.drop_suffix _ _)
  have hd := suffix_drop hsuf
  generalize hr : blank (l.drop p) = r at *
  have hs : scan r = ((scan r).1, (scan r).2.1, (scan r).2.2.1, 0) := by
    unfold next at h
    rw [hr] at h
    simp only at h
    split at h
    · rename_i he
      rw [← he]
    · rename_i he
      simp at h
      exact absurd h he
  refine ⟨(scan r).1, (scan r).2.1, (scan r).2.2.1, l.length - r.length, r, rfl, hd, rfl, by omega, by omega, hs, ?_, ?_⟩
  · rcases scan_ok hs with ⟨_, _, h3, _⟩ | ⟨_, _, h3⟩ <;> omega
  · have := next_eq (p := p) hr hd (by omega) hs
    rw [if_pos rfl] at this
    exact this

/-- Read again at its own place, a token is the same. -/
theorem next_again {l : Bs} {p : Nat} (hp : p ≤ l.length) (h : (next l p).2.2 = 0) : (next l (next l p).1.at_.toNat) = next l p ∧ 0 ≤ (next l p).1.at_ ∧ (next l p).1.at_ = ((l.length - (blank (l.drop p)).length : Nat) : Int) ∧ (next l p).1.at_.toNat + (next l p).1.text.length = (next l p).2.1 ∧ (l.drop (next l p).1.at_.toNat).take (next l p).1.text.length = (next l p).1.text ∧ (next l p).1.at_.toNat ≤ l.length := by
  obtain ⟨k, n, len, q, r, h1, h2, h3, h4, h5, h6, h7, h8⟩ := next_form hp h
  have h9 : next l q = (⟨k, n, r.take len, q⟩, q + len, 0) := by
    have := next_eq (p := q) (t := r) (by rw [h2, ← h1, blank_blank]) h2 h5 h6
    rw [if_pos rfl] at this
    exact this
  rw [h8, h1]
  dsimp only
  rw [Int.toNat_natCast]
  refine ⟨h9, by omega, by rw [h3], ?_, ?_, h5⟩
  · rw [List.length_take, Nat.min_eq_left h7]
  · rw [h2, List.length_take, Nat.min_eq_left h7]

/-- What may stand behind a token's text: nothing, or white space. -/
def Sep (l : Bs) : Prop := ∀ c, l.head? = some c → isWs c = true
theorem sep_nil : Sep [] := fun c h => by cases h
theorem sep_cons {c : UInt8} {r : Bs} (h : isWs c = true) : Sep (c :: r) := fun d hd => by simp at hd; rw [← hd]; exact h

theorem ws_cases {c : UInt8} (h : isWs c = true) : c.toNat = 32 ∨ c.toNat = 9 ∨ c.toNat = 10 ∨ c.toNat = 13 := by
  unfold isWs at h
  simp at h
  omega
theorem ws_not_letter {c : UInt8} (h : isWs c = true) : isLetter c = false := by
  have := ws_cases h
  unfold isLetter
  simp
  omega
theorem ws_not_digit {c : UInt8} (h : isWs c = true) : isDigit c = false := by
  have := ws_cases h
  unfold isDigit
  simp
  omega
theorem ws_not_inside {c : UInt8} (h : isWs c = true) : isInside c = false := by
  unfold isInside
  rw [ws_not_letter h, ws_not_digit h]
  have := ws_cases h
  simp
  omega

theorem rowLen_sep {p : UInt8 → Bool} {sep : Bs} (h : ∀ c, sep.head? = some c → p c = false) : rowLen p sep = 0 := by
  cases sep with
  | nil => rfl
  | cons c r => exact rowLen_cons_false (h c rfl)
theorem rowLen_glue {p : UInt8 → Bool} {sep : Bs} (h : ∀ c, sep.head? = some c → p c = false) : ∀ (r : Bs), rowLen p (r.take (rowLen p r) ++ sep) = rowLen p r
  | [] => rowLen_sep h
  | c :: r => by
    cases hp : p c
    · rw [rowLen_cons_false hp]
      exact rowLen_sep h
    · rw [rowLen_cons_true hp, List.take_succ_cons, List.cons_append, rowLen_cons_true hp, rowLen_glue h r]
theorem rowLen_take_len (p : UInt8 → Bool) (r : Bs) : (r.take (rowLen p r)).length = rowLen p r := by
  rw [List.length_take]
  exact Nat.min_eq_left (rowLen_le p r)
theorem take_glue {r sep : Bs} {m : Nat} (h : (r.take m).length = m) : (r.take m ++ sep).take m = r.take m := by
  rw [List.take_append_of_le_length (by omega), List.take_of_length_le (by omega)]

theorem numSpec_glue {r sep : Bs} (h : Sep sep) : numSpec (r.take (rowLen isDigit r) ++ sep) = numSpec r := by
  have hl := rowLen_take_len isDigit r
  have hm := rowLen_glue (p := isDigit) (fun c hc => ws_not_digit (h c hc)) r
  have ht := take_glue (sep := sep) hl
  unfold numSpec
  rw [hm, ht]
  by_cases h1 : 1 < rowLen isDigit r
  · have : (r.take (rowLen isDigit r) ++ sep)[0]? = r[0]? := by
      rw [List.getElem?_append_left (by omega), List.getElem?_take, if_pos (by omega)]
    rw [this]
  · simp [h1]

theorem sign_solid : ∀ y ∈ signL, ∀ c ∈ bs y, isWs c = false := by decide
theorem signIdx_glue {r sep : Bs} (h : Sep sep) : ∀ (L : List ByteArray) (k i : Nat) (x : ByteArray), (∀ y ∈ L, ∀ c ∈ bs y, isWs c = false) → signIdx r L k = some i → L[i - k]? = some x → signIdx (bs x ++ sep) L k = some i
  | [], k, i, x, hL, hi, hx => by cases hi
  | y :: L, k, i, x, hL, hi, hx => by
    unfold signIdx at hi ⊢
    split at hi
    · injection hi with hi
      subst hi
      simp at hx
      subst hx
      rw [if_pos (List.isPrefixOf_iff_prefix.2 (List.prefix_append _ _))]
    · rename_i hn
      obtain ⟨h1, z, hz, hp⟩ := signIdx_get L (k + 1) i hi
      have hx' : L[i - (k + 1)]? = some x := by
        rw [show i - k = (i - (k + 1)) + 1 by omega] at hx
        simpa using hx
      rw [hx'] at hz
      injection hz with hz
      subst hz
      rw [if_neg, signIdx_glue h L (k + 1) i x (fun y hy => hL y (List.mem_cons_of_mem _ hy)) hi hx']
      intro hy
      apply hn
      rw [List.isPrefixOf_iff_prefix] at hy hp ⊢
      rcases List.prefix_or_prefix_of_prefix hy (List.prefix_append (bs x) sep) with h3 | ⟨z, h3⟩
      · exact h3.trans hp
      · rw [← h3, List.prefix_append_right_inj] at hy
        cases z with
        | nil => rw [List.append_nil] at h3; rw [← h3]; exact hp
        | cons c z =>
          obtain ⟨u, hu⟩ := hy
          have hc := h c (by rw [← hu]; rfl)
          have hc2 := hL y (List.mem_cons_self ..) c (by rw [← h3]; simp)
          rw [hc] at hc2
          cases hc2

/-- A token whose text stands for itself. -/
structure Good (t : Tok) : Prop where
  kind : t.kind ≠ 5
  pos : 0 < t.text.length
  scan : ∀ sep, Sep sep → scan (t.text ++ sep) = (t.kind, t.n.toNat, t.text.length, 0)
  n0 : 0 ≤ t.n
  solid : ∀ sep, Sep sep → Solid (t.text ++ sep)
  name : isName t.text = decide (t.kind = 2)

theorem solid_glue {r sep : Bs} {len : Nat} (hs : Solid r) (hl : 0 < len) (hle : len ≤ r.length) (h : Sep sep) : Solid (r.take len ++ sep) := by
  rcases hs with rfl | ⟨c, r', rfl, h1, h2⟩
  · simp at hle; omega
  · obtain ⟨m, rfl⟩ : ∃ m, len = m + 1 := ⟨len - 1, by omega⟩
    rw [List.take_succ_cons, List.cons_append]
    refine .inr ⟨c, _, rfl, h1, ?_⟩
    cases hd : dashes (c :: (r'.take m ++ sep))
    · rfl
    · obtain ⟨z, hz⟩ := dashes_form hd
      injection hz with hz1 hz2
      cases r' with
      | nil =>
        simp only [List.take_nil, List.nil_append] at hz2
        have := h 45 (by rw [hz2]; rfl)
        revert this; decide
      | cons c2 r'' =>
        cases m with
        | zero =>
          simp only [List.take_zero, List.nil_append] at hz2
          have := h 45 (by rw [hz2]; rfl)
          revert this; decide
        | succ m =>
          rw [List.take_succ_cons, List.cons_append] at hz2
          injection hz2 with hz3 _
          rw [hz1, hz3] at h2
          simp [dashes, Lib.hasPrefix, List.isPrefixOf] at h2

theorem isName_of {c : UInt8} {x : Bs} : isName (c :: x) = (decide ((c :: x).length ≤ 24) && isLetter c && decide (rowLen isInside (c :: x) = (c :: x).length) && !isWord (c :: x)) := by
  unfold isName
  rfl

theorem good_of {r : Bs} {k : Int} {n len : Nat} {q : Int} (hs : Solid r) (hsc : scan r = (k, n, len, 0)) (hk : k ≠ 5) : Good ⟨k, n, r.take len, q⟩ := by
  rcases scan_ok hsc with ⟨h, _⟩ | ⟨_, hpos, hle⟩
  · exact absurd h hk
  have hlen : (r.take len).length = len := by rw [List.length_take]; omega
  have hn : ((n : Nat) : Int).toNat = n := Int.toNat_natCast n
  rcases hs with rfl | ⟨c, r', rfl, h1, h2⟩
  · simp at hle; omega
  obtain ⟨m, rfl⟩ : ∃ m, len = m + 1 := ⟨len - 1, by omega⟩
  have hx : (c :: r').take (m + 1) = c :: r'.take m := List.take_succ_cons
  refine ⟨hk, by dsimp only; omega, fun sep hsep => ?_, by dsimp only; omega, fun sep hsep => solid_glue (.inr ⟨c, r', rfl, h1, h2⟩) hpos hle hsep, ?_⟩
  · dsimp only
    rw [hlen, hn]
    cases hl : isLetter c
    · cases hd : isDigit c
      · have hsc' := scan_sign (r := r'.take m ++ sep) hl hd
        rw [← List.cons_append, ← hx] at hsc'
        rw [scan_sign hl hd] at hsc
        cases hi : signIdx (c :: r') signL 0 with
        | none => rw [hi] at hsc; simp at hsc
        | some i =>
          rw [hi] at hsc
          obtain ⟨_, x, hx', hp⟩ := signIdx_get _ _ _ hi
          rw [Nat.sub_zero] at hx'
          have hxx : signL.getD i ByteArray.empty = x := by simp [List.getD, hx']
          simp only [hxx, Prod.mk.injEq] at hsc
          obtain ⟨k1, k2, k3, _⟩ := hsc
          have hbx : (c :: r').take (m + 1) = bs x := by
            rw [← k3, ← bs_length]
            exact (List.prefix_iff_eq_take.1 (List.isPrefixOf_iff_prefix.1 hp)).symm
          have hg := signIdx_glue hsep signL 0 i x sign_solid hi (by rw [Nat.sub_zero]; exact hx')
          rw [← hbx] at hg
          rw [hsc', hg]
          simp only [hxx, k1, ← k2, k3]
      · have hsc' := scan_digit (r := r'.take m ++ sep) hl hd
        rw [← List.cons_append, ← hx] at hsc'
        rw [scan_digit hl hd] at hsc
        by_cases he : (numSpec (c :: r')).2.2 = 0
        · rw [if_pos he] at hsc
          simp only [Prod.mk.injEq] at hsc
          obtain ⟨k1, k2, k3, _⟩ := hsc
          have hr : (numSpec (c :: r')).2.1 = rowLen isDigit (c :: r') := by
            revert he
            unfold numSpec
            split
            · intro he; simp at he
            · split
              · intro he; simp at he
              · split
                · intro he; simp at he
                · intro _; rfl
          have hg := numSpec_glue (r := c :: r') hsep
          rw [← hr, k3] at hg
          rw [hsc', hg, if_pos he]
          simp only [k1, k2, k3]
        · rw [if_neg he] at hsc
          simp only [Prod.mk.injEq] at hsc
          omega
    · have hsc' := scan_letter (r := r'.take m ++ sep) hl
      rw [← List.cons_append, ← hx] at hsc'
      rw [scan_letter hl] at hsc
      have hg := rowLen_glue (p := isInside) (fun c hc => ws_not_inside (hsep c hc)) (c :: r')
      by_cases h24 : 24 < rowLen isInside (c :: r')
      · rw [if_pos h24] at hsc; simp at hsc
      · have hm : rowLen isInside (c :: r') = m + 1 := by
          rw [if_neg h24] at hsc
          split at hsc <;> (simp only [Prod.mk.injEq] at hsc; exact hsc.2.2.1)
        rw [hm] at hg hsc h24
        rw [hsc', hg, take_glue hlen]
        exact hsc
  · dsimp only
    rw [hx, isName_of]
    cases hl : isLetter c
    · have hk2 : k ≠ 2 := by
        cases hd : isDigit c
        · rw [scan_sign hl hd] at hsc
          cases hi : signIdx (c :: r') signL 0 with
          | none => rw [hi] at hsc; simp at hsc
          | some i => rw [hi] at hsc; simp only [Prod.mk.injEq] at hsc; omega
        · rw [scan_digit hl hd] at hsc
          split at hsc
          · simp only [Prod.mk.injEq] at hsc; omega
          · simp only [Prod.mk.injEq] at hsc; omega
      simp [hk2]
    · rw [scan_letter hl] at hsc
      by_cases h24 : 24 < rowLen isInside (c :: r')
      · rw [if_pos h24] at hsc; simp at hsc
      · rw [if_neg h24] at hsc
        have hm : rowLen isInside (c :: r') = m + 1 := by
          split at hsc <;> (simp only [Prod.mk.injEq] at hsc; exact hsc.2.2.1)
        have hg := rowLen_glue (p := isInside) (sep := []) (fun c hc => by cases hc) (c :: r')
        rw [List.append_nil, hm, hx] at hg
        rw [hm, hx] at hsc
        have hl2 : (c :: r'.take m).length = m + 1 := by rw [← hx]; exact hlen
        rw [hg, hl2]
        rw [hm] at h24
        have h24' : m + 1 ≤ 24 := by omega
        cases hw : isWord (c :: r'.take m)
        · rw [hw, if_neg (by simp)] at hsc
          simp only [Prod.mk.injEq] at hsc
          simp [← hsc.1, h24']
        · rw [hw, if_pos rfl] at hsc
          simp only [Prod.mk.injEq] at hsc
          simp [← hsc.1]

theorem toks_good : ∀ (ts : List Tok) (l : Bs) (p : Nat), p ≤ l.length → Toks l p ts → ∀ t ∈ ts, Good t
  | [], l, p, hp, h, t, ht => by cases ht
  | t :: ts, l, p, hp, h, u, hu => by
    obtain ⟨he, ht, hk, hr⟩ := h
    rcases List.mem_cons.1 hu with rfl | hu
    · obtain ⟨k, n, len, q, r, h1, h2, h3, h4, h5, h6, h7, h8⟩ := next_form hp he
      rw [h8] at ht
      rw [← ht] at hk ⊢
      exact good_of (by rw [← h1]; exact blank_solid _) h6 hk
    · rcases next_ok hp he with ⟨h3, _⟩ | ⟨_, h4, h5⟩
      · rw [ht] at h3; exact absurd h3 hk
      · exact toks_good ts l _ h5 hr u hu
end Go.Proofs.YtnbphgeepnknlaaDoor
