/- Plain words: a term's text lexes to its tokens. -/
import Derived.Test.YtnbphgeepnknlaaDoorQRndR
import Derived.Test.YtnbphgeepnknlaaDoorQLexP
import Derived.Test.YtnbphgeepnknlaaDoorQTrmG
namespace Go.Proofs.YtnbphgeepnknlaaDoor
set_option linter.unusedVariables false
set_option linter.unusedSectionVars false

/-- A text lexes to these tokens, whatever their offsets. -/
def LexTo : List Tok → Bs → Prop
  | [], s => blank s = []
  | t :: r, s => ∃ n len : Nat, scan (blank s) = (t.kind, n, len, 0) ∧ t.n = n ∧ t.text = (blank s).take len ∧ t.kind ≠ 5 ∧ LexTo r ((blank s).drop len)
theorem lexTo_toks : ∀ (ts : List Tok) (l : Bs) (p : Nat), p ≤ l.length → LexTo ts (l.drop p) → ∃ us, Toks l p us ∧ us.length = ts.length ∧ At us 0 ts
  | [], l, p, hp, h => by
    have hb : blank (l.drop p) = [] := h
    have hq : l.drop l.length = [] := by simp
    have hn := next_eq hb hq (Nat.le_refl _) scan_end
    rw [if_pos rfl] at hn
    exact ⟨[], ⟨by rw [hn], by rw [hn]⟩, rfl, fun j t hj => by simp at hj⟩
  | t :: r, l, p, hp, h => by
    obtain ⟨n, len, h1, h2, h3, h4, h5⟩ := h
    have hsuf : blank (l.drop p) <:+ l := (blank_suffix _).trans (List.drop_suffix _ _)
    have hd := suffix_drop hsuf
    have hlen : len ≤ (blank (l.drop p)).length := by rcases scan_ok h1 with ⟨_, _, h6, _⟩ | ⟨_, _, h6⟩ <;> omega
    have hbl := hsuf.length_le
    have hn := next_eq rfl hd (by omega) h1
    rw [if_pos rfl] at hn
    have hdr : (blank (l.drop p)).drop len = l.drop (l.length - (blank (l.drop p)).length + len) := by rw [← List.drop_drop, hd]
    rw [hdr] at h5
    obtain ⟨us, u1, u2, u3⟩ := lexTo_toks r l _ (by omega) h5
    refine ⟨(next l p).1 :: us, ⟨by rw [hn], rfl, by rw [hn]; exact h4, by rw [hn]; exact u1⟩, by simp [u2], fun j x hj => ?_⟩
    cases j with
    | zero =>
      simp at hj
      subst hj
      exact ⟨(next l p).1, rfl, by rw [hn], by rw [hn, h2], by rw [hn, h3]⟩
    | succ j =>
      obtain ⟨u, hu, hx⟩ := u3 j x (by simpa using hj)
      exact ⟨u, by simpa [Nat.add_comm] using hu, hx⟩
theorem lexTo_ws {c : UInt8} {s : Bs} {ts : List Tok} (hc : isWs c = true) (h : LexTo ts s) : LexTo ts (c :: s) := by
  cases ts with
  | nil => show blank (c :: s) = []; rw [blank_ws hc]; exact h
  | cons t r =>
    obtain ⟨n, len, h1, h2, h3, h4, h5⟩ := h
    exact ⟨n, len, by rw [blank_ws hc]; exact h1, h2, by rw [blank_ws hc]; exact h3, h4, by rw [blank_ws hc]; exact h5⟩
theorem lexTo_cons {t : Tok} {x s : Bs} {r : List Tok} {n : Nat} (hs : scan (x ++ s) = (t.kind, n, x.length, 0)) (hn : t.n = n) (hx : t.text = x) (hk : t.kind ≠ 5) (hsol : Solid (x ++ s)) (h : LexTo r s) : LexTo (t :: r) (x ++ s) := by
  have hb := solid_blank hsol
  refine ⟨n, x.length, by rw [hb]; exact hs, hn, by rw [hb, hx]; simp, hk, ?_⟩
  rw [hb]
  simpa using h
theorem solid_head {c : UInt8} {s : Bs} (h1 : isWs c = false) (h2 : c.toNat ≠ 45) : Solid (c :: s) := by
  refine .inr ⟨c, s, rfl, h1, ?_⟩
  unfold dashes
  cases hd : Lib.hasPrefix (c :: s) [45, 45] with
  | false => rfl
  | true =>
    have := dashes_form (l := c :: s) hd
    obtain ⟨r, hr⟩ := this
    injection hr with hr _
    subst hr
    exact absurd rfl h2
/-- A sign that no operator prolongs, whatever follows. -/
theorem lex_open (s : Bs) : scan (40 :: s) = (4, 0, 1, 0) := rfl
theorem lex_close (s : Bs) : scan (41 :: s) = (4, 0, 1, 0) := rfl
theorem lex_lb (s : Bs) : scan (91 :: s) = (4, 0, 1, 0) := rfl
theorem lex_rb (s : Bs) : scan (93 :: s) = (4, 0, 1, 0) := rfl
theorem lex_bang {c : UInt8} {s : Bs} (h : c ≠ 61) : scan (33 :: c :: s) = (4, 0, 1, 0) := by
  have h1 : ¬ (61 : UInt8) = c := fun e => h e.symm
  simp [scan, isLetter, isDigit, signIdx, signL, bs, h1]
  rfl
theorem lex_minus {c : UInt8} {s : Bs} (h : isDigit c = true) : scan (45 :: c :: s) = (4, 0, 1, 0) := by
  have h1 : ¬ (62 : UInt8) = c := by
    intro e
    subst e
    revert h
    decide
  simp [scan, isLetter, isDigit, signIdx, signL, bs, h1]
  rfl
def binSigns : List Int := [6, 7, 8, 9, 10, 11, 12, 13, 14, 15, 16]
theorem lex_bin {op : Int} (h1 : 6 ≤ op) (h2 : op ≤ 16) (s : Bs) : scan (signB op ++ 32 :: s) = (4, 0, (signB op).length, 0) ∧ Solid (signB op ++ 32 :: s) := by
  have : op = 6 ∨ op = 7 ∨ op = 8 ∨ op = 9 ∨ op = 10 ∨ op = 11 ∨ op = 12 ∨ op = 13 ∨ op = 14 ∨ op = 15 ∨ op = 16 := by omega
  rcases this with rfl | rfl | rfl | rfl | rfl | rfl | rfl | rfl | rfl | rfl | rfl
  all_goals refine ⟨rfl, .inr ⟨_, _, rfl, rfl, rfl⟩⟩
theorem rowLen_all_glue {p : UInt8 → Bool} {s : Bs} (h : ∀ c, s.head? = some c → p c = false) : ∀ (x : Bs), (∀ c ∈ x, p c = true) → rowLen p (x ++ s) = x.length
  | [], _ => rowLen_sep h
  | c :: x, hx => by
    rw [List.cons_append, rowLen_cons_true (hx c (by simp)), rowLen_all_glue h x (fun d hd => hx d (by simp [hd]))]
    rfl
/-- What may stand behind a name or a number: nothing, a blank or a closing bracket. -/
def SafeB (s : Bs) : Prop := ∀ c, s.head? = some c → c = 32 ∨ c = 41 ∨ c = 93
theorem safe_not {s : Bs} (h : SafeB s) (p : UInt8 → Bool) (hp : p 32 = false ∧ p 41 = false ∧ p 93 = false) : ∀ c, s.head? = some c → p c = false := fun c hc => by
  rcases h c hc with rfl | rfl | rfl
  · exact hp.1
  · exact hp.2.1
  · exact hp.2.2
theorem letter_facts {c : UInt8} (h : isLetter c = true) : isWs c = false ∧ c.toNat ≠ 45 ∧ c ≠ 61 := by
  have h' := h
  unfold isLetter at h'
  simp at h'
  refine ⟨?_, by omega, fun e => by subst e; revert h; decide⟩
  cases hw : isWs c with
  | false => rfl
  | true =>
    have := ws_cases hw
    omega
theorem lex_letters {c : UInt8} {x s : Bs} (hc : isLetter c = true) (hx : ∀ d ∈ c :: x, isInside d = true) (hl : (c :: x).length ≤ 24) (hs : ∀ d, s.head? = some d → isInside d = false) : scan (c :: x ++ s) = (if isWord (c :: x) then 3 else 2, 0, (c :: x).length, 0) ∧ Solid (c :: x ++ s) := by
  have hr := rowLen_all_glue hs (c :: x) hx
  have hf := letter_facts hc
  refine ⟨?_, solid_head hf.1 hf.2.1⟩
  rw [List.cons_append] at hr ⊢
  rw [scan_letter hc, hr, if_neg (by omega)]
  have ht : (c :: (x ++ s)).take (c :: x).length = c :: x := by rw [← List.cons_append, List.take_left' rfl]
  rw [ht]
  split <;> rfl
theorem name_facts {x : Bs} (h : isName x = true) : ∃ c r, x = c :: r ∧ isLetter c = true ∧ (∀ d ∈ x, isInside d = true) ∧ x.length ≤ 24 ∧ isWord x = false := by
  unfold isName at h
  simp at h
  obtain ⟨⟨⟨⟨h1, h2⟩, h3⟩, h4⟩, h5⟩ := h
  cases x with
  | nil => exact absurd rfl h1
  | cons c r =>
    refine ⟨c, r, rfl, by simpa using h3, fun d hd => ?_, h2, h5⟩
    have := rowLen_all (p := isInside) (l := c :: r) d
    rw [h4] at this
    exact this (by simpa using hd)
theorem lex_name {x s : Bs} (h : isName x = true) (hs : ∀ d, s.head? = some d → isInside d = false) {ts : List Tok} (hl : LexTo ts s) : LexTo (nmTk x :: ts) (x ++ s) := by
  obtain ⟨c, r, rfl, h1, h2, h3, h4⟩ := name_facts h
  obtain ⟨h5, h6⟩ := lex_letters h1 h2 h3 hs
  rw [h4] at h5
  exact lexTo_cons h5 rfl rfl (show (2 : Int) ≠ 5 by decide) h6 hl
theorem lex_word {c : UInt8} {x s : Bs} (hc : isLetter c = true) (hx : ∀ d ∈ c :: x, isInside d = true) (hl : (c :: x).length ≤ 24) (hw : isWord (c :: x) = true) (hs : ∀ d, s.head? = some d → isInside d = false) {ts : List Tok} (h : LexTo ts s) : LexTo (wd (c :: x) :: ts) (c :: x ++ s) := by
  obtain ⟨h5, h6⟩ := lex_letters hc hx hl hs
  rw [hw] at h5
  exact lexTo_cons h5 rfl rfl (show (3 : Int) ≠ 5 by decide) h6 h
theorem decB_small : ∀ n, n < 256 → (decB n) ≠ [] ∧ (∀ c ∈ decB n, isDigit c = true) ∧ numSpec (decB n) = (n, (decB n).length, 0) := by decide +kernel
theorem numSpec_digits {x s : Bs} (hx : ∀ c ∈ x, isDigit c = true) (h0 : x ≠ []) (hs : ∀ d, s.head? = some d → isDigit d = false) : numSpec (x ++ s) = numSpec x := by
  have h1 := rowLen_all_glue hs x hx
  have h2 := rowLen_all_glue (p := isDigit) (s := []) (fun c hc => by cases hc) x hx
  rw [List.append_nil] at h2
  unfold numSpec
  rw [h1, h2, List.take_left' rfl, List.take_of_length_le (Nat.le_refl _)]
  have : (x ++ s)[0]? = x[0]? := by
    cases x with
    | nil => exact absurd rfl h0
    | cons c r => rfl
  rw [this]
theorem lex_num {n : Nat} (hn : n < 256) {s : Bs} (hs : ∀ d, s.head? = some d → isDigit d = false) {ts : List Tok} (h : LexTo ts s) : LexTo (nuTk (n : Int) :: ts) (decB n ++ s) := by
  obtain ⟨h1, h2, h3⟩ := decB_small n hn
  have h4 := numSpec_digits h2 h1 hs
  rw [h3] at h4
  have hsol : ∃ c r, decB n = c :: r ∧ isDigit c = true := by
    cases hd : decB n with
    | nil => exact absurd hd h1
    | cons c r => exact ⟨c, r, rfl, h2 c (by rw [hd]; simp)⟩
  obtain ⟨c, r, hcr, hc⟩ := hsol
  have hc' := hc
  unfold isDigit at hc'
  simp at hc'
  have hlet : isLetter c = false := by
    unfold isLetter
    simp
    omega
  have hws : isWs c = false := by
    cases hw : isWs c with
    | false => rfl
    | true => have := ws_cases hw; omega
  refine lexTo_cons (n := n) ?_ rfl (by show decB _ = _; simp) (show (1 : Int) ≠ 5 by decide) (by rw [hcr]; exact solid_head hws (by omega)) h
  rw [hcr, List.cons_append] at h4 ⊢
  rw [scan_digit hlet hc, h4]
  rw [if_pos rfl]
  rfl
end Go.Proofs.YtnbphgeepnknlaaDoor
