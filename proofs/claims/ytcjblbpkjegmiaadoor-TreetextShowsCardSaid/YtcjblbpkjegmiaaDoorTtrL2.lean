/-Plain words: different states have different lines.  The plain reference's numbers: ref01.size, digits, Text.  The plain reference's state (ref52.State).  The plain reference's lines (ref52.Lines). -/
import Derived.Test.YtcjblbpkjegmiaaDoorTtrB
import Derived.Laws.IdiomStrings
import Derived.Test.YtcjblbpkjegmiaaDoorLexB
import Derived.Test.YtcjblbpkjegmiaaDoorTtrC
import Derived.Test.YtcjblbpkjegmiaaDoorTrmI
import Derived.Test.YtcjblbpkjegmiaaDoorLexI
namespace Go.Proofs.YtcjblbpkjegmiaaDoor
set_option linter.unusedVariables false

theorem decB_step {x : Nat} (h : 10 ≤ x) : decB x = decB (x / 10) ++ [UInt8.ofNat (48 + x % 10)] := by
  have hx : x ≠ 0 := by omega
  have hx2 : x / 10 ≠ 0 := by omega
  unfold decB
  rw [if_neg hx, if_neg hx2, digs_pos (by decide) hx, List.reverse_cons, List.map_append]
  rfl
theorem decB_one {x : Nat} (h : x < 10) : decB x = [UInt8.ofNat (48 + x)] := by
  have : x = 0 ∨ x = 1 ∨ x = 2 ∨ x = 3 ∨ x = 4 ∨ x = 5 ∨ x = 6 ∨ x = 7 ∨ x = 8 ∨ x = 9 := by omega
  rcases this with rfl | rfl | rfl | rfl | rfl | rfl | rfl | rfl | rfl | rfl <;> rfl
theorem dig_toNat (d : Nat) (h : d < 10) : (UInt8.ofNat (48 + d)).toNat = 48 + d := by
  rw [UInt8.toNat_ofNat']
  exact Nat.mod_eq_of_lt (by omega)
theorem valOf_decB : ∀ (n x : Nat), x ≤ n → valOf (decB x) = x
  | 0, x, h => by
    have : x = 0 := by omega
    subst this; rfl
  | n + 1, x, h => by
    by_cases hx : x < 10
    · rw [decB_one hx]
      unfold valOf
      simp only [List.foldl_cons, List.foldl_nil]
      rw [dig_toNat x hx]
      omega
    · rw [decB_step (by omega), valOf_snoc, valOf_decB n (x / 10) (by omega), dig_toNat _ (by omega)]
      omega
theorem decB_digits : ∀ (n x : Nat), x ≤ n → ∀ c ∈ decB x, 48 ≤ c.toNat ∧ c.toNat ≤ 57
  | 0, x, h => by
    have : x = 0 := by omega
    subst this
    decide
  | n + 1, x, h => by
    by_cases hx : x < 10
    · rw [decB_one hx]
      intro c hc
      rw [List.mem_singleton.1 hc]
      rw [dig_toNat x hx]
      omega
    · rw [decB_step (by omega)]
      intro c hc
      rcases List.mem_append.1 hc with hc | hc
      · exact decB_digits n (x / 10) (by omega) c hc
      · rw [List.mem_singleton.1 hc]
        rw [dig_toNat _ (by omega)]
        omega
theorem decB_inj {x y : Nat} (h : decB x = decB y) : x = y := by rw [← valOf_decB x x (Nat.le_refl _), ← valOf_decB y y (Nat.le_refl _), h]
theorem numS_bytes (n : Int) : ∀ c ∈ numS n, c.toNat = 45 ∨ (48 ≤ c.toNat ∧ c.toNat ≤ 57) := by
  intro c hc
  unfold numS at hc
  split at hc
  · rcases List.mem_cons.1 hc with rfl | hc
    · left; rfl
    · right; exact decB_digits _ _ (Nat.le_refl _) c hc
  · right; exact decB_digits _ _ (Nat.le_refl _) c hc
theorem decB_ne_minus {x : Nat} {l : Bs} : decB x ≠ 45 :: l := fun h => by
  have := decB_digits x x (Nat.le_refl _) 45 (by rw [h]; simp)
  revert this
  decide
theorem numS_inj {x y : Int} (h : numS x = numS y) : x = y := by
  unfold numS at h
  by_cases hx : x < 0
  · by_cases hy : y < 0
    · rw [if_pos hx, if_pos hy] at h
      injection h with _ h
      have := decB_inj h
      omega
    · rw [if_pos hx, if_neg hy] at h
      exact absurd h.symm decB_ne_minus
  · by_cases hy : y < 0
    · rw [if_neg hx, if_pos hy] at h
      exact absurd h decB_ne_minus
    · rw [if_neg hx, if_neg hy] at h
      have := decB_inj h
      omega
/-- Without a blank. -/
def NoSp (x : Bs) : Prop := ∀ c ∈ x, c ≠ 32
theorem split_sp : ∀ {x y p q : Bs}, NoSp x → NoSp y → (p = [] ∨ ∃ r, p = 32 :: r) → (q = [] ∨ ∃ r, q = 32 :: r) → x ++ p = y ++ q → x = y ∧ p = q
  | [], [], p, q, _, _, _, _, h => ⟨rfl, h⟩
  | [], d :: y, p, q, _, hy, hp, _, h => by
    rcases hp with rfl | ⟨r, rfl⟩
    · cases h
    · injection h with h _
      exact absurd h.symm (hy d (by simp))
  | c :: x, [], p, q, hx, _, _, hq, h => by
    rcases hq with rfl | ⟨r, rfl⟩
    · cases h
    · injection h with h _
      exact absurd h (hx c (by simp))
  | c :: x, d :: y, p, q, hx, hy, hp, hq, h => by
    injection h with h1 h2
    obtain ⟨a, b⟩ := split_sp (fun z hz => hx z (by simp [hz])) (fun z hz => hy z (by simp [hz])) hp hq h2
    exact ⟨by rw [h1, a], b⟩
theorem joinTail_form (r : List Bs) : Lib.joinTail [32] r = [] ∨ ∃ z, Lib.joinTail [32] r = 32 :: z := by
  cases r with
  | nil => exact .inl rfl
  | cons y s => exact .inr ⟨_, rfl⟩
theorem joinTail_inj : ∀ {r s : List Bs}, r.length = s.length → (∀ x ∈ r, NoSp x) → (∀ x ∈ s, NoSp x) → Lib.joinTail [32] r = Lib.joinTail [32] s → r = s
  | [], [], _, _, _, _ => rfl
  | x :: r, y :: s, hl, hr, hs, h => by
    have h' : [32] ++ x ++ Lib.joinTail [32] r = [32] ++ y ++ Lib.joinTail [32] s := h
    rw [List.append_assoc, List.append_assoc] at h'
    injection h' with _ h'
    obtain ⟨a, b⟩ := split_sp (hr x (by simp)) (hs y (by simp)) (joinTail_form r) (joinTail_form s) h'
    rw [a, joinTail_inj (by simpa using hl) (fun z hz => hr z (by simp [hz])) (fun z hz => hs z (by simp [hz])) b]
theorem join_inj {r s : List Bs} (hl : r.length = s.length) (hr : ∀ x ∈ r, NoSp x) (hs : ∀ x ∈ s, NoSp x) (h : Lib.join r [32] = Lib.join s [32]) : r = s := by
  cases r with
  | nil =>
    cases s with
    | nil => rfl
    | cons _ _ => simp at hl
  | cons x r =>
    cases s with
    | nil => simp at hl
    | cons y s =>
      rw [Lib.join_cons, Lib.join_cons] at h
      obtain ⟨a, b⟩ := split_sp (hr x (by simp)) (hs y (by simp)) (joinTail_form r) (joinTail_form s) h
      rw [a, joinTail_inj (by simpa using hl) (fun z hz => hr z (by simp [hz])) (fun z hz => hs z (by simp [hz])) b]
theorem inside_bytes {c : UInt8} (h : isInside c = true) : c ≠ 32 ∧ c ≠ 61 ∧ c ≠ 10 := by
  refine ⟨fun e => ?_, fun e => ?_, fun e => ?_⟩ <;> (subst e; revert h; decide)
theorem isName_inside {x : Bs} (h : isName x = true) : ∀ c ∈ x, isInside c = true := by
  unfold isName at h
  simp at h
  obtain ⟨⟨⟨⟨h1, h2⟩, h3⟩, h4⟩, h5⟩ := h
  intro d hd
  have := rowLen_all (p := isInside) (l := x) d
  rw [h4] at this
  exact this (by simpa using hd)
theorem wordS_noSp {v : Vr} {z : Int} (h : isName v.name.data.toList = true) : NoSp (wordS v z) := by
  intro c hc
  unfold wordS at hc
  rcases List.mem_append.1 hc with hc | hc
  · rcases List.mem_append.1 hc with hc | hc
    · exact (inside_bytes (isName_inside h c hc)).1
    · simp at hc; subst hc; decide
  · intro e
    subst e
    have := numS_bytes z 32 hc
    revert this
    decide
theorem words_noSp : ∀ {vs : List Vr} {s : List Int}, (∀ v ∈ vs, isName v.name.data.toList = true) → ∀ x ∈ wordsS vs s, NoSp x := by
  intro vs s h x hx
  unfold wordsS at hx
  rw [List.mem_iff_getElem?] at hx
  obtain ⟨i, hi⟩ := hx
  rw [List.getElem?_zipWith] at hi
  cases hv' : vs[i]? with
  | none => rw [hv'] at hi; simp at hi
  | some v =>
    cases hz' : s[i]? with
    | none => rw [hv', hz'] at hi; simp at hi
    | some z =>
      rw [hv', hz'] at hi
      simp at hi
      subst hi
      exact wordS_noSp (h v (List.mem_of_getElem? hv'))
theorem words_inj : ∀ {vs : List Vr} {a b : List Int}, a.length = vs.length → b.length = vs.length → wordsS vs a = wordsS vs b → a = b
  | [], [], [], _, _, _ => rfl
  | v :: vs, x :: a, y :: b, ha, hb, h => by
    have h' : wordS v x :: wordsS vs a = wordS v y :: wordsS vs b := h
    injection h' with h1 h2
    unfold wordS at h1
    have h3 := List.append_cancel_left h1
    rw [numS_inj h3, words_inj (by simpa using ha) (by simpa using hb) h2]
/-- The law: the lines are the same exactly if the states are. -/
theorem state_apart {vs : List Vr} {a b : List Int} (hn : ∀ v ∈ vs, isName v.name.data.toList = true) (ha : a.length = vs.length) (hb : b.length = vs.length) (h : (stateT vs a).1 = (stateT vs b).1) : a = b := by
  unfold stateT at h
  rw [if_neg (by omega), if_neg (by omega)] at h
  refine words_inj ha hb (join_inj ?_ (words_noSp hn) (words_noSp hn) h)
  rw [words_len vs a ha, words_len vs b hb]
end Go.Proofs.YtcjblbpkjegmiaaDoor
namespace Go.Proofs.YtcjblbpkjegmiaaDoor
open Go.RowKit
set_option linter.unusedVariables false

set_option maxRecDepth 100000 in
theorem rsize_any (x : Int) (w : World) (h1 : -9223372036854775808 ≤ x) (h2 : x ≤ 9223372036854775807) :
    Calls Tryd.prog 63 #[.int .i64 x] w fun e w' => e = .returned (.int .u64 (x.natAbs : Int)) ∧ w' = w := by
  go_enter Tryd.func63, Tryd.ntmps63
  by_cases hx : 0 ≤ x
  · have hx' : (x.natAbs : Int) = x := by omega
    go_wp2_with fail
    go_ret
    exact ⟨by rw [hx']; rfl, rfl⟩
  · have hx' : (x.natAbs : Int) = -(x + 1) + 1 := by omega
    go_wp2_with fail
    go_ret
    exact ⟨rfl, rfl⟩
theorem conv1 (w w' : World) (b : UInt8) (z : Int) (hz : z = (b.toNat : Int)) (hw : w' = w.alloc (.cells #[.int .u8 z] 5)) :
    (convert 71 9 (.slice (some ⟨w.heap.size, 0, none⟩) 1 1)).run Tryd.prog w' = .ok (.string ⟨#[b]⟩) w' := by
  subst hw
  refine run_convert_bytes_back (l := [b]) _ 71 9 5 ⟨w.heap.size, 0, none⟩ 1 Tryd.underlying71 Tryd.underlying5 Tryd.underlying9 fun j hj => ?_
  have : j = 0 := by simpa using hj
  subst this
  show World.cell? _ ⟨w.heap.size, 0 + 0, none⟩ = _
  rw [cell_of_row _ w.heap.size _ _ 5 (0, 0) (heap_alloc_new w _), hz]
  rfl
def emp : Value → Nat
  | .string s => if s.size = 0 then 1 else 0
  | _ => 0
theorem emp_pos {s : ByteArray} (h : 0 < s.size) : emp (.string s) = 0 := by
  show (if s.size = 0 then 1 else 0) = 0
  exact if_neg (by omega)
theorem emp_le (v : Value) : emp v ≤ 1 := by
  unfold emp
  split
  · split <;> omega
  · omega
theorem bs_app (a b : ByteArray) : bs (a ++ b) = bs a ++ bs b := by unfold bs; simp
theorem bs_back (a : ByteArray) : (⟨(bs a).toArray⟩ : ByteArray) = a := rfl
set_option maxRecDepth 100000 in
set_option maxHeartbeats 4000000 in
theorem rdigits_any (x : Nat) (w : World) (hx : x < 18446744073709551616) :
    Calls Tryd.prog 62 #[.int .u64 x] w fun e w' => e = .returned (.string ⟨(decB x).toArray⟩) ∧ Below w.heap.size w w' := by
  obtain ⟨F, hF⟩ : ∃ F : Ending → World → Prop, F = fun e w' => e = .returned (.string ⟨(decB x).toArray⟩) ∧ Below w.heap.size w w' := ⟨_, rfl⟩
  rw [← hF]
  have HF := Lib.hid hF
  clear hF
  go_enter Tryd.func62, Tryd.ntmps62
  go_wp2_with fail
  go_loopw [0, 3] (fun sx ss wr => ∃ (n : Nat) (s : ByteArray), sx = .int .u64 n ∧ ss = .string s ∧ n ≤ x ∧ ((s = ⟨#[]⟩ ∧ n = x) ∨ (0 < s.size ∧ ((n = 0 ∧ decB x = bs s) ∨ (10 ≤ n ∧ decB x = decB n ++ bs s)))) ∧ Below w.heap.size w wr) (fun x s _ => (intOf x).toNat + emp s)
  case atStart => exact ⟨x, ⟨#[]⟩, rfl, rfl, Nat.le_refl _, .inl ⟨rfl, rfl⟩, Below.refl _ _⟩
  case round =>
    obtain ⟨n, s, rfl, rfl, hn, hcase, hbel⟩ := hrel
    have HBL := Lib.hid hbel
    have hs := hbel.size
    clear hbel
    have hz : (48 + (n : Int) % 10) = ((UInt8.ofNat (48 + n % 10)).toNat : Int) := by rw [dig_toNat _ (by omega)]; omega
    have HZ := Lib.hid hz
    clear hz
    have hsz : s.size ≤ 20 := by
      have hl := decB_len x (by omega)
      have e : s.size = (bs s).length := by unfold bs; simp
      rcases hcase with ⟨h1, h2⟩ | ⟨h1, ⟨h2, h3⟩ | ⟨h2, h3⟩⟩
      · rw [h1]; decide
      · rw [h3] at hl; omega
      · rw [h3, List.length_append] at hl; omega
    obtain ⟨c, hc⟩ : ∃ c, c = UInt8.ofNat (48 + n % 10) := ⟨_, rfl⟩
    by_cases hgo : 9 < n ∨ s = ⟨#[]⟩
    · have HX : Hid (if n < 10 then decB x = [c] ∧ s = ⟨#[]⟩ else decB x = decB (n / 10) ++ (c :: bs s)) := by
        show ite _ _ _
        by_cases h10 : n < 10
        · rw [if_pos h10]
          have he : s = ⟨#[]⟩ := by rcases hgo with h | h; omega; exact h
          rcases hcase with ⟨h1, h2⟩ | ⟨h1, h2⟩
          · exact ⟨by rw [← h2, decB_one h10, hc, show n % 10 = n by omega], he⟩
          · rw [he] at h1; exact absurd h1 (by decide)
        · rw [if_neg h10]
          rcases hcase with ⟨h1, h2⟩ | ⟨h1, ⟨h2, h3⟩ | ⟨h2, h3⟩⟩
          · rw [← h2, decB_step (by omega), h1, hc]; rfl
          · omega
          · rw [h3, decB_step (by omega), hc]; simp
      have HG : Hid (n < 10 → s = ⟨#[]⟩) := fun h => by rcases hgo with h1 | h1; omega; exact h1
      have HC := Lib.hid hc
      clear hgo hcase hc
      by_cases h10 : n < 10
      · have he := HG.out h10
        subst he
        have HXX : Hid (decB x = [c]) := by have := HX.out; rw [if_pos h10] at this; exact this.1
        have hd0 : (n : Int) / 10 = 0 := by omega
        have h9' : ¬ (9 : Int) < (n : Int) := by omega
        clear HX HG
        go_wp2_with fail
        rw [conv1 wr _ (UInt8.ofNat (48 + n % 10)) _ HZ.out rfl, ← HC.out]
        go_wp2_with fail
        go_roundw
        case rel =>
          exact ⟨0, ⟨#[c]⟩, by go_num, rfl, by omega, .inr ⟨Nat.zero_lt_one, .inl ⟨rfl, HXX.out⟩⟩, HBL.out.alloc hs _⟩
        case measure =>
          simp only [intOf]
          show (0 : Int).toNat + 0 < _ + 1
          omega
      · have HXX : Hid (decB x = decB (n / 10) ++ (c :: bs s)) := by have := HX.out; rw [if_neg h10] at this; exact this
        have h9' : (9 : Int) < (n : Int) := by omega
        have hd0 : 0 < (n : Int) / 10 := by omega
        clear HX HG
        by_cases h100 : n < 100
        · have hd1 : (n : Int) / 10 < 10 := by omega
          have hz2 : (48 + (n : Int) / 10) = ((UInt8.ofNat (48 + n / 10)).toNat : Int) := by rw [dig_toNat _ (by omega)]; omega
          have HZ2 := Lib.hid hz2
          obtain ⟨c2, hc2⟩ : ∃ c2, c2 = UInt8.ofNat (48 + n / 10) := ⟨_, rfl⟩
          have HD2 : Hid (decB (n / 10) = [c2]) := by show _ = _; rw [hc2]; exact decB_one (by omega)
          have HC2 := Lib.hid hc2
          clear hz2 hc2
          go_wp2_with fail
          rw [conv1 wr _ (UInt8.ofNat (48 + n % 10)) _ HZ.out rfl, ← HC.out]
          go_wp2_with fail
          rw [show wr.heap.size + 1 = (wr.alloc (.cells #[.int .u8 (48 + (n : Int) % 10)] 5)).heap.size by simp, conv1 _ _ (UInt8.ofNat (48 + n / 10)) _ HZ2.out rfl, ← HC2.out]
          go_wp2_with fail
          rw [HF.out]
          refine ⟨?_, (HBL.out.alloc hs _).alloc (by simp; omega) _⟩
          show Ending.returned (Value.string (⟨#[c2]⟩ ++ (⟨#[c]⟩ ++ s))) = _
          rw [HXX.out, HD2.out]
          congr 2
        · have hd1 : ¬ (n : Int) / 10 < 10 := by omega
          go_wp2_with fail
          rw [conv1 wr _ (UInt8.ofNat (48 + n % 10)) _ HZ.out rfl, ← HC.out]
          go_wp2_with fail
          go_roundw
          case rel =>
            exact ⟨n / 10, ⟨#[c]⟩ ++ s, by go_num, rfl, by omega, .inr ⟨by rw [ByteArray.size_append]; exact Nat.lt_of_lt_of_le Nat.zero_lt_one (Nat.le_add_right _ _), .inr ⟨by omega, by rw [HXX.out, bs_app]; rfl⟩⟩, HBL.out.alloc hs _⟩
          case measure =>
            have h1 := emp_le (.string (⟨#[c]⟩ ++ s))
            simp only [intOf]
            omega
    · have hne : s.toList.isEmpty = false := by
        rw [ByteArray.toList_eq]
        cases hl : s.data.toList with
        | nil => exact absurd (Or.inr (bs_ext (by show s.data.toList = []; exact hl))) hgo
        | cons _ _ => rfl
      have h9' : ¬ (9 : Int) < (n : Int) := by omega
      have HX : Hid (decB x = bs s) := by
        rcases hcase with ⟨h1, h2⟩ | ⟨h1, ⟨h2, h3⟩ | ⟨h2, h3⟩⟩
        · exact absurd (Or.inr h1) hgo
        · exact h3
        · exact absurd (Or.inl (by omega)) hgo
      clear hcase hgo hc
      go_wp2_with fail
      rw [HF.out]
      exact ⟨by rw [HX.out, bs_back], HBL.out⟩
set_option maxRecDepth 100000 in
theorem rtext1_any (x : Int) (w : World) (h1 : -9223372036854775808 ≤ x) (h2 : x ≤ 9223372036854775807) :
    Calls Tryd.prog 41 #[.int .i64 x] w fun e w' => e = .returned (.string ⟨(numS x).toArray⟩) ∧ Below w.heap.size w w' := by
  have HSZ := Lib.hid (rsize_any x w h1 h2)
  have HDG := Lib.hid (rdigits_any x.natAbs w (by omega))
  have hlen := decB_len x.natAbs (by omega)
  obtain ⟨S, hS⟩ : ∃ S : ByteArray, S = ⟨(decB x.natAbs).toArray⟩ := ⟨_, rfl⟩
  have hsz : S.size ≤ 20 := by rw [hS]; exact hlen
  rw [← hS] at HDG
  have HS := Lib.hid hS
  clear hS hlen
  go_enter Tryd.func41, Tryd.ntmps41
  by_cases hx : x < 0
  · have HR : Hid ((numS x) = 45 :: bs S) := by show _ = _; unfold numS; rw [if_pos hx, HS.out]; simp [bs]
    go_wp2_with fail
    refine HSZ.out.mono ?_
    rintro e w1 ⟨rfl, hw1⟩
    rw [hw1]
    clear hw1
    go_wp2_with fail
    refine HDG.out.mono ?_
    rintro e w2 ⟨rfl, hb2⟩
    have HB2 := Lib.hid hb2
    clear hb2
    go_wp2_with fail
    go_ret
    refine ⟨?_, HB2.out⟩
    show Ending.returned (Value.string (⟨#[45]⟩ ++ S)) = _
    rw [HR.out]
    congr 2
  · have HR : Hid (numS x = bs S) := by show _ = _; unfold numS; rw [if_neg hx, HS.out]; simp [bs]
    go_wp2_with fail
    refine HSZ.out.mono ?_
    rintro e w1 ⟨rfl, hw1⟩
    rw [hw1]
    clear hw1
    go_wp2_with fail
    refine HDG.out.mono ?_
    rintro e w2 ⟨rfl, hb2⟩
    have HB2 := Lib.hid hb2
    clear hb2
    go_wp2_with fail
    go_ret
    refine ⟨?_, HB2.out⟩
    show Ending.returned (Value.string S) = _
    rw [HR.out]
    rfl
end Go.Proofs.YtcjblbpkjegmiaaDoor
namespace Go.Proofs.YtcjblbpkjegmiaaDoor
open Go.RowKit
set_option linter.unusedVariables false

theorem join_take {l : List Bs} {k : Nat} {x : Bs} (hx : l[k]? = some x) : Lib.join (l.take (k + 1)) [32] = (if k = 0 then [] else Lib.join (l.take k) [32] ++ [32]) ++ x := by
  obtain ⟨hk, rfl⟩ := List.getElem?_eq_some_iff.1 hx
  rw [List.take_succ_eq_append_getElem hk]
  by_cases h0 : k = 0
  · rw [if_pos h0]
    subst h0
    simp [Lib.join_cons, Lib.joinTail]
  · rw [if_neg h0]
    cases l with
    | nil => simp at hk
    | cons a r =>
      obtain ⟨j, rfl⟩ : ∃ j, k = j + 1 := ⟨k - 1, by omega⟩
      rw [List.take_succ_cons, List.cons_append, Lib.join_cons, Lib.join_cons]
      generalize (a :: r)[j + 1] = x
      generalize r.take j = t
      simp [Lib.joinTail]

set_option maxRecDepth 100000 in
set_option maxHeartbeats 8000000 in
theorem rstate_any (vs : List Vr) (s : List Int) (Av As : Option Addr) (cv cs : Nat) (w : World) (hsm : SmallV vs) (hV : VrsV w Av cv vs) (hS : IntsV w As cs s) :
    Calls Tryd.prog 15 #[.slice Av vs.length cv, .slice As s.length cs] w fun e w' => e = .returned (.tuple #[.string ⟨(stateT vs s).1.toArray⟩, .int .i64 (stateT vs s).2]) ∧ Below w.heap.size w w' := by
  obtain ⟨n, hn⟩ : ∃ n, n = vs.length := ⟨_, rfl⟩
  obtain ⟨m, hm⟩ : ∃ m, m = s.length := ⟨_, rfl⟩
  have hcv := hV.cap
  have hcvm := hV.capm
  have hcs := hS.cap
  have hcsm := hS.capm
  unfold maxLen at hcvm hcsm
  have hn20 := hsm.len
  rw [← hn] at hcv hn20 ⊢
  rw [← hm] at hcs ⊢
  obtain ⟨X, hX⟩ : ∃ X, X = stateT vs s := ⟨_, rfl⟩
  rw [← hX]
  unfold stateT at hX
  rw [← hn, ← hm] at hX
  have HX := Lib.hid hX
  have HSM := Lib.hid hsm
  have HV := Lib.hid hV
  have HSS := Lib.hid hS
  have HN := Lib.hid hn
  have HM := Lib.hid hm
  clear hX hsm hV hS hn hm
  by_cases hne : m = n
  · subst hne
    have HX2 : Hid (X = (Lib.join (wordsS vs s) [32], 0)) := by show _ = _; rw [HX.out, if_neg (by simp)]
    have hwl : (wordsS vs s).length = m := by rw [words_len vs s (by rw [← HN.out, ← HM.out]), ← HN.out]
    have HWL := Lib.hid hwl
    clear hwl
    have hmm : ((m : Int) != (m : Int)) = false := by simp
    go_enter Tryd.func15, Tryd.ntmps15
    go_wp2_with fail
    go_loopw [6, 7] (fun ss si wr => ∃ (k : Nat) (S : ByteArray), k ≤ m ∧ ss = .string S ∧ si = .int .i64 k ∧ bs S = Lib.join ((wordsS vs s).take k) [32] ∧ Below w.heap.size w wr) (fun _ i _ => m - (intOf i).toNat)
    case atStart => exact ⟨0, ⟨#[]⟩, Nat.zero_le _, rfl, rfl, rfl, Below.refl _ _⟩
    case round =>
      obtain ⟨k, S, hk, rfl, rfl, hS, hbel⟩ := hrel
      have HB := Lib.hid hbel
      have hszr := hbel.size
      have hws := words_short HSM.out.name HSS.out.rng
      have hjl := join_len ((wordsS vs s).take k) [32] 82 (fun x hx => hws x (List.mem_of_mem_take hx)) rfl
      have hjk : ((wordsS vs s).take k).length = k := by rw [List.length_take, HWL.out]; omega
      rw [hjk, ← hS] at hjl
      have hSl : S.size = (bs S).length := by unfold bs; simp
      have hkk : k * (82 + 1) ≤ 20 * 83 := Nat.mul_le_mul (by omega) (by omega)
      have hSz : S.size ≤ 1660 := by omega
      have HS := Lib.hid hS
      clear hS hws hjl hjk hSl hkk
      by_cases hlt : k < m
      · obtain ⟨v, hv⟩ : ∃ v, vs[k]? = some v := ⟨_, List.getElem?_eq_getElem (by have := HN.out; omega)⟩
        obtain ⟨z, hz⟩ : ∃ z, s[k]? = some z := ⟨_, List.getElem?_eq_getElem (by have := HM.out; omega)⟩
        rcases HV.out.row with h9 | ⟨g, o, rfl, hg, hvr⟩
        · rw [h9] at hv; simp at hv
        rcases HSS.out.row with h9 | ⟨g2, o2, rfl, hg2, hir⟩
        · rw [h9] at hz; simp at hz
        obtain ⟨q0, q1, q2, q3⟩ := hvr k v hv
        have p0 := hir k z hz
        rw [← hbel.cell (p := ⟨g, _, none⟩) hg] at q0
        rw [← hbel.cell (p := ⟨g2, _, none⟩) hg2] at p0
        have e1 : o + 4 * k = o + k * 4 := by omega
        rw [e1] at q0
        have hzr := HSS.out.rng z (List.mem_of_getElem? hz)
        have hvn := HSM.out.name v (List.mem_of_getElem? hv)
        have HWG : Hid ((wordsS vs s)[k]? = some (wordS v z)) := words_get hv hz
        have hnl := numS_len20 z hzr.1 hzr.2
        have HNT := Lib.hid (fun W => rtext1_any z W hzr.1 hzr.2)
        obtain ⟨NS, hNS⟩ : ∃ NS, NS = numS z := ⟨_, rfl⟩
        rw [← hNS] at HNT hnl
        obtain ⟨S0, hS0⟩ : ∃ S0 : ByteArray, S0 = if k = 0 then S else S ++ (⟨#[32]⟩ : ByteArray) := ⟨_, rfl⟩
        obtain ⟨S1, hS1⟩ : ∃ S1 : ByteArray, S1 = S0 ++ v.name := ⟨_, rfl⟩
        obtain ⟨S2, hS2⟩ : ∃ S2 : ByteArray, S2 = S1 ++ (⟨#[61]⟩ : ByteArray) := ⟨_, rfl⟩
        obtain ⟨S3, hS3⟩ : ∃ S3 : ByteArray, S3 = S2 ++ (⟨NS.toArray⟩ : ByteArray) := ⟨_, rfl⟩
        have hz0 : S0.size ≤ 1661 := by rw [hS0]; split; omega; rw [ByteArray.size_append]; show S.size + 1 ≤ _; omega
        have hz1 : S1.size ≤ 1721 := by rw [hS1, ByteArray.size_append]; omega
        have hz2 : S2.size ≤ 1722 := by rw [hS2, ByteArray.size_append]; show S1.size + 1 ≤ _; omega
        have hcat1 : ∀ W, (Op.stringOp .add S0 v.name).run Tryd.prog W = .ok (.string S1) W := fun W => by rw [hS1]; exact run_string_add_sum W _ _ (by omega)
        have hcat2 : ∀ W, (Op.stringOp .add S1 (⟨#[61]⟩ : ByteArray)).run Tryd.prog W = .ok (.string S2) W := fun W => by rw [hS2]; exact run_string_add_sum W _ _ (by show S1.size + 1 ≤ _; omega)
        have hcat3 : ∀ W, (Op.stringOp .add S2 (⟨NS.toArray⟩ : ByteArray)).run Tryd.prog W = .ok (.string S3) W := fun W => by rw [hS3]; exact run_string_add_sum W _ _ (by show S2.size + (⟨NS.toArray⟩ : ByteArray).size ≤ _; rw [bsz' NS]; omega)
        have HSW : Hid (bs S3 = Lib.join ((wordsS vs s).take (k + 1)) [32]) := by
          show _ = _
          rw [join_take HWG.out, ← HS.out, hS3, hS2, hS1, hS0, hNS]
          unfold wordS
          by_cases h0 : k = 0
          · rw [if_pos h0, if_pos h0]
            have hSe : bs S = [] := by rw [HS.out, h0]; rfl
            simp [bs] at hSe ⊢
            simp [hSe]
          · rw [if_neg h0, if_neg h0]; simp [bs]
        have hk0 : (0 : Int) ≤ (k : Int) := by omega
        have hk1 : (k : Int) < (m : Int) := by omega
        have hgr : g < wr.heap.size := by omega
        have hg2r : g2 < wr.heap.size := by omega
        clear hS1 hS2 hS3 hz0 hz1 hz2 hNS hv hz hvr hir e1 hbel hzr q1 q2 q3
        by_cases h0 : k = 0
        · rw [if_pos h0] at hS0
          subst hS0
          have hkp : ¬ (0 : Int) < (k : Int) := by omega
          clear h0
          go_wp2_with fail
          go_region_held3 (fun w' => w'.cell? ⟨g, o + k * 4, none⟩ = some (.string v.name) ∧ w'.cell? ⟨g2, o2 + k, none⟩ = some (.int .i64 z))
            (first
              | (go_keep; done)
              | (go_split_ands
                 refine ⟨?_, ?_⟩
                 · (rw [hb5.cell (p := ⟨g, _, none⟩) (by simp; omega)]; simpa using q0)
                 · (rw [hb5.cell (p := ⟨g2, _, none⟩) (by simp; omega)]; simpa using p0))
              | fail)
            ((go_at_call 41; refine (HNT.out _).mono ?_; rintro e w5 ⟨rfl, hb5⟩))
          have hb6 : Below wr.heap.size wr w5 := ((Below.refl _ _).drew).trans hb5
          have HB7 := Lib.hid (HB.out.trans (hb6.mono hszr))
          clear hb5 hb6 q0 p0
          go_wp2_with fail
          go_roundw
          case rel => exact ⟨k + 1, S3, by omega, rfl, by go_num, HSW.out, HB7.out⟩
          case measure => simp [intOf]; omega
        · rw [if_neg h0] at hS0
          have hkp : (0 : Int) < (k : Int) := by omega
          have hcat0 : ∀ W, (Op.stringOp .add S (⟨#[32]⟩ : ByteArray)).run Tryd.prog W = .ok (.string S0) W := fun W => by rw [hS0]; exact run_string_add_sum W _ _ (by show S.size + 1 ≤ _; omega)
          clear h0 hS0
          go_wp2_with fail
          go_region_held3 (fun w' => w'.cell? ⟨g, o + k * 4, none⟩ = some (.string v.name) ∧ w'.cell? ⟨g2, o2 + k, none⟩ = some (.int .i64 z))
            (first
              | (go_keep; done)
              | (go_split_ands
                 refine ⟨?_, ?_⟩
                 · (rw [hb5.cell (p := ⟨g, _, none⟩) (by simp; omega)]; simpa using q0)
                 · (rw [hb5.cell (p := ⟨g2, _, none⟩) (by simp; omega)]; simpa using p0))
              | fail)
            ((go_at_call 41; refine (HNT.out _).mono ?_; rintro e w5 ⟨rfl, hb5⟩))
          have hb6 : Below wr.heap.size wr w5 := ((Below.refl _ _).drew).trans hb5
          have HB7 := Lib.hid (HB.out.trans (hb6.mono hszr))
          clear hb5 hb6 q0 p0
          go_wp2_with fail
          go_roundw
          case rel => exact ⟨k + 1, S3, by omega, rfl, by go_num, HSW.out, HB7.out⟩
          case measure => simp [intOf]; omega
      · have hkn : k = m := by omega
        have hk1 : ¬ (k : Int) < (m : Int) := by omega
        have HE : Hid (bs S = Lib.join (wordsS vs s) [32]) := by show _ = _; rw [HS.out, hkn, List.take_of_length_le (by rw [HWL.out]; exact Nat.le_refl _)]
        clear hlt hkn
        go_wp2_with fail
        go_ret2
        refine ⟨?_, HB.out⟩
        rw [HX2.out, ← HE.out]
        rfl
  · have hmm : ((m : Int) != (n : Int)) = true := by simp; omega
    have HX2 : Hid (X = ([], 3)) := by show _ = _; rw [HX.out, if_pos hne]
    clear hne
    go_enter Tryd.func15, Tryd.ntmps15
    go_wp2_with fail
    go_ret2
    exact ⟨by rw [HX2.out]; rfl, Below.refl _ _⟩
end Go.Proofs.YtcjblbpkjegmiaaDoor
namespace Go.Proofs.YtcjblbpkjegmiaaDoor
open Go.RowKit
set_option linter.unusedVariables false

theorem own_form {w : World} {B : Nat} {T : TypeId} {v : Value} {n : Nat} {xs : List Value} (h : w.ownsRow B T 1 v n xs) : ∃ a cap, v = .slice a n cap := by
  rcases h.2 with ⟨rfl, rfl⟩ | ⟨g, cap, cur, rfl, _⟩
  · exact ⟨_, _, rfl⟩
  · exact ⟨_, _, rfl⟩
theorem own_below {w w' : World} {B : Nat} {T : TypeId} {v : Value} {n : Nat} {xs : List Value} (h : w.ownsRow B T 1 v n xs) (hb : Below w.heap.size w w') : w'.ownsRow B T 1 v n xs :=
  h.kept (row := none) ⟨hb.os, hb.tape, hb.output, hb.size, fun k hk _ => hb.block k hk⟩ (by cases hv : v.ownBlock <;> simp)
/-- What the plain Lines leaves: a row of its own. -/
def RLinesQ (x : List Bs × Int) (w : World) (e : Ending) (w' : World) : Prop := ∃ v, e = .returned (.tuple #[v, .int .i64 x.2]) ∧ w'.ownsRow w.heap.size 9 1 v x.1.length (x.1.map fun l => Value.string ⟨l.toArray⟩) ∧ Below w.heap.size w w'
theorem rlines_below {w w2 w3 : World} {o : Obj} {v : Value} {n : Nat} {xs : List Value} (hb : Below w.heap.size w w2) (ho : w2.ownsRow w.heap.size 9 1 v n xs) (hg : (w2.alloc o).grownBy w3 v.ownBlock) : Below w.heap.size w w3 :=
  (hb.alloc hb.size o).grown hg (by simp; have := hb.size; omega) fun k hk => (ho.lt k hk).1

set_option maxRecDepth 100000 in
set_option maxHeartbeats 8000000 in
theorem rlines_any (vs : List Vr) (path : List (List Int)) (loop : Int) (Av Ap : Option Addr) (cv cp : Nat) (w : World) (hsm : SmallV vs) (hpl : path.length ≤ 1000000) (hV : VrsV w Av cv vs) (hP : RowsV w Ap cp path) :
    Calls Tryd.prog 17 #[.slice Av vs.length cv, .slice Ap path.length cp, .int .i64 loop] w (RLinesQ (linesT vs path loop) w) := by
  obtain ⟨i0, hi, hz0, hz1, hz2⟩ := info_parts infoStr
  obtain ⟨m, hm⟩ : ∃ m, m = path.length := ⟨_, rfl⟩
  have hcp := hP.cap
  have hcpm := hP.capm
  unfold maxLen at hcpm
  rw [← hm] at hcp hpl ⊢
  obtain ⟨X, hX⟩ : ∃ X, X = linesT vs path loop := ⟨_, rfl⟩
  rw [← hX]
  obtain ⟨F, hF⟩ : ∃ F, F = RLinesQ X w := ⟨_, rfl⟩
  rw [← hF]
  have HF := Lib.hid hF
  have HSM := Lib.hid hsm
  have HV := Lib.hid hV
  have HP := Lib.hid hP
  have HM := Lib.hid hm
  obtain ⟨L, hL⟩ : ∃ L, L = linesL vs loop 0 path := ⟨_, rfl⟩
  have hLl : L.length = m := by rw [hL, linesL_len, hm]
  have HLG : Hid (∀ k s, path[k]? = some s → L[k]? = some (markS loop k ++ (stateT vs s).1)) := fun k s hs => by rw [hL, linesL_get, hs, Nat.zero_add]; rfl
  have HLX : Hid (linesOk vs path = true → X = (L, 0)) := fun h => by rw [hX, hL]; unfold linesT; rw [if_pos h]
  have HLX3 : Hid (linesOk vs path = false → X = ([], 3)) := fun h => by rw [hX]; unfold linesT; rw [h]; rfl
  have HLL := Lib.hid hLl
  clear hX hsm hV hP hm hL hLl hF
  go_enter Tryd.func17, Tryd.ntmps17
  go_wp2_with fail
  go_loopw [8, 9, 10, 11] (fun sv si _ _ wr => ∃ k : Nat, k ≤ m ∧ si = .int .i64 k ∧ wr.ownsRow w.heap.size 9 1 sv k ((L.take k).map fun x => Value.string ⟨x.toArray⟩) ∧ Below w.heap.size w wr ∧ ∀ s ∈ path.take k, s.length = vs.length) (fun _ i _ _ _ => m - (intOf i).toNat)
  case atStart => exact ⟨0, Nat.zero_le _, rfl, World.ownsRow_made w #[] 0 (Nat.le_refl _) (Nat.zero_le _) rfl, (Below.refl _ w).alloc (Nat.le_refl _) _, fun s hs => by simp at hs⟩
  case round =>
    obtain ⟨k, hk, rfl, hown, hbel, hall⟩ := hrel
    obtain ⟨sa, scap, hsv⟩ := own_form hown
    subst hsv
    have HB := Lib.hid hbel
    have HALL := Lib.hid hall
    have HO := Lib.hid hown
    have hszr := hbel.size
    by_cases hlt : k < m
    · obtain ⟨s, hs⟩ : ∃ s, path[k]? = some s := ⟨_, List.getElem?_eq_getElem (by have := HM.out; omega)⟩
      rcases HP.out.row with h9 | ⟨g, o, rfl, hg, hpr⟩
      · rw [h9] at hs; simp at hs
      obtain ⟨As, cs, q0, hsv⟩ := hpr k s hs
      rw [← hbel.cell (p := ⟨g, _, none⟩) hg] at q0
      have hst := rstate_any vs s Av As cv cs wr HSM.out (HV.out.below hbel rfl) (hsv.below hbel rfl)
      have hsl := state_len (s := s) HSM.out hsv.rng
      have hlg := HLG.out k s hs
      have HTK : Hid (path.take (k + 1) = path.take k ++ [s]) := by
        obtain ⟨hj, hj2⟩ := List.getElem?_eq_some_iff.1 hs
        show _ = _
        rw [List.take_succ_eq_append_getElem hj, hj2]
      have HMEM : Hid (s ∈ path) := List.mem_of_getElem? hs
      have HSE : Hid ((s.length = vs.length → (stateT vs s).2 = 0) ∧ (s.length ≠ vs.length → (stateT vs s).2 = 3)) := ⟨fun h => by unfold stateT; rw [if_neg (by omega)], fun h => by unfold stateT; rw [if_pos h]⟩
      obtain ⟨ns, hns⟩ : ∃ ns, ns = s.length := ⟨_, rfl⟩
      rw [← hns] at hst q0 HSE
      have HNS := Lib.hid hns
      obtain ⟨ST, hST⟩ : ∃ ST, ST = stateT vs s := ⟨_, rfl⟩
      rw [← hST] at hst hsl hlg HSE
      have HST := Lib.hid hst
      have HLK : Hid (L.take (k + 1) = L.take k ++ [markS loop k ++ ST.1]) := by
        obtain ⟨hj, hj2⟩ := List.getElem?_eq_some_iff.1 hlg
        show _ = _
        rw [List.take_succ_eq_append_getElem hj, hj2]
      have hk0 : (0 : Int) ≤ (k : Int) := by omega
      have hk1 : (k : Int) < (m : Int) := by omega
      have hgr : g < wr.heap.size := by omega
      clear hst hlg hs hpr hsv hns hST hown hall
      go_wp2_with fail
      refine (HST.out).mono ?_
      rintro e w2 ⟨rfl, hb2⟩
      have hb3 := HB.out.trans (hb2.mono hszr)
      have ho2 := own_below HO.out hb2
      have HB3 := Lib.hid hb3
      have HO2 := Lib.hid ho2
      have hs3 := hb3.size
      clear hb2 hb3 ho2 q0
      by_cases hle : ns = vs.length
      · have he0 : (ST.2 != 0) = false := by rw [HSE.out.1 hle]; rfl
        have HLE := Lib.hid hle
        obtain ⟨S0, hS0⟩ : ∃ S0 : ByteArray, S0 = ⟨ST.1.toArray⟩ := ⟨_, rfl⟩
        have hz0' : S0.size = ST.1.length := by rw [hS0]; exact bsz' ST.1
        rw [← hS0]
        have HS0 := Lib.hid hS0
        clear hle hS0
        by_cases hlo : (k : Int) = loop
        · have hl1 : ((k : Int) == loop) = true := by simpa using hlo
          obtain ⟨S1, hS1⟩ : ∃ S1 : ByteArray, S1 = (⟨#[42, 32]⟩ : ByteArray) ++ S0 := ⟨_, rfl⟩
          have hcat : ∀ W, (Op.stringOp .add (⟨#[42, 32]⟩ : ByteArray) S0).run Tryd.prog W = .ok (.string S1) W := fun W => by rw [hS1]; exact run_string_add_sum W _ _ (by show 2 + S0.size ≤ _; omega)
          have HS1 : Hid (S1 = ⟨(markS loop k ++ ST.1).toArray⟩) := by show _ = _; apply bs_ext; unfold bs markS; rw [hS1, HS0.out, if_pos hlo]; simp [ByteArray.data_append]
          clear hS1 hz0' hlo
          go_wp2_with (at_builtin; refine wpList_append_lies _ (by rfl) _ _ _ (by rfl) w.heap.size 9 i0 (.string ⟨#[]⟩) 1 16 Tryd.underlying45 hi hz0 hz1 hz2 rfl (by decide) _ k _ (by rfl) (HO2.out.alloc _) ⟨w2.heap.size, 0, none⟩ 1 1 [.string S1] (by rfl) rfl (World.news_of_block (heap_alloc_new w2 _)) (fun u hu => by rw [List.mem_singleton.1 hu]; rfl) (by decide) ?c3 ?c4 ?c5 (w2.heap.size + 1) (by simp) ?_)
          case c3 => unfold maxLen; omega
          case c4 => omega
          case c5 => simp; omega
          intro g' cap' w3 hown3 hgrow hat hlt3
          have hown4 : w3.ownsRow w.heap.size 9 1 (.slice (some ⟨g', 0, none⟩) (k + 1) cap') (k + 1) ((L.take (k + 1)).map fun x => Value.string ⟨x.toArray⟩) := by
            rw [HLK.out, List.map_append, List.map_singleton, ← HS1.out, List.map_take]
            exact hown3
          have hbw : Below w.heap.size w w3 := rlines_below HB3.out HO2.out hgrow
          have HO4 := Lib.hid hown4
          have HBW := Lib.hid hbw
          clear hown3 hown4 hgrow hat hbw
          go_wp2_with fail
          go_roundw
          case rel => exact ⟨k + 1, by omega, by go_num, HO4.out, HBW.out, lines_all HTK.out HALL.out (by rw [← HNS.out]; exact HLE.out)⟩
          case measure => simp [intOf]; omega
        · have hl1 : ((k : Int) == loop) = false := by simpa using hlo
          obtain ⟨S1, hS1⟩ : ∃ S1 : ByteArray, S1 = (⟨#[32, 32]⟩ : ByteArray) ++ S0 := ⟨_, rfl⟩
          have hcat : ∀ W, (Op.stringOp .add (⟨#[32, 32]⟩ : ByteArray) S0).run Tryd.prog W = .ok (.string S1) W := fun W => by rw [hS1]; exact run_string_add_sum W _ _ (by show 2 + S0.size ≤ _; omega)
          have HS1 : Hid (S1 = ⟨(markS loop k ++ ST.1).toArray⟩) := by show _ = _; apply bs_ext; unfold bs markS; rw [hS1, HS0.out, if_neg hlo]; simp [ByteArray.data_append]
          clear hS1 hz0' hlo
          go_wp2_with (at_builtin; refine wpList_append_lies _ (by rfl) _ _ _ (by rfl) w.heap.size 9 i0 (.string ⟨#[]⟩) 1 16 Tryd.underlying45 hi hz0 hz1 hz2 rfl (by decide) _ k _ (by rfl) (HO2.out.alloc _) ⟨w2.heap.size, 0, none⟩ 1 1 [.string S1] (by rfl) rfl (World.news_of_block (heap_alloc_new w2 _)) (fun u hu => by rw [List.mem_singleton.1 hu]; rfl) (by decide) ?c3 ?c4 ?c5 (w2.heap.size + 1) (by simp) ?_)
          case c3 => unfold maxLen; omega
          case c4 => omega
          case c5 => simp; omega
          intro g' cap' w3 hown3 hgrow hat hlt3
          have hown4 : w3.ownsRow w.heap.size 9 1 (.slice (some ⟨g', 0, none⟩) (k + 1) cap') (k + 1) ((L.take (k + 1)).map fun x => Value.string ⟨x.toArray⟩) := by
            rw [HLK.out, List.map_append, List.map_singleton, ← HS1.out, List.map_take]
            exact hown3
          have hbw : Below w.heap.size w w3 := rlines_below HB3.out HO2.out hgrow
          have HO4 := Lib.hid hown4
          have HBW := Lib.hid hbw
          clear hown3 hown4 hgrow hat hbw
          go_wp2_with fail
          go_roundw
          case rel => exact ⟨k + 1, by omega, by go_num, HO4.out, HBW.out, lines_all HTK.out HALL.out (by rw [← HNS.out]; exact HLE.out)⟩
          case measure => simp [intOf]; omega
      · have he3 := HSE.out.2 hle
        have he0 : (ST.2 != 0) = true := by rw [he3]; rfl
        have HE3 := Lib.hid he3
        have HRES : Hid (X = ([], 3)) := by
          refine HLX3.out ?_
          cases hh : linesOk vs path with
          | false => rfl
          | true => exact absurd ((linesOk_iff.1 hh s HMEM.out)) (by rw [← HNS.out]; exact hle)
        clear hle he3
        go_wp2_with fail
        rw [HF.out, HRES.out, HE3.out]
        exact ⟨_, rfl, World.ownsRow_nil _ _ _ _, HB3.out⟩
    · have hkn : k = m := by omega
      have hk1 : ¬ (k : Int) < (m : Int) := by omega
      have HRES : Hid (X = (L, 0)) := by
        refine HLX.out (linesOk_iff.2 fun s hs => HALL.out s ?_)
        rw [hkn, List.take_of_length_le (by rw [← HM.out]; exact Nat.le_refl _)]
        exact hs
      have HO5 : Hid (wr.ownsRow w.heap.size 9 1 (.slice sa m scap) L.length (L.map fun x => Value.string ⟨x.toArray⟩)) := by
        have h := HO.out
        rw [hkn, List.take_of_length_le (by rw [HLL.out]; exact Nat.le_refl _)] at h
        rw [HLL.out]
        exact h
      subst hkn
      clear hbel hall hown
      go_wp2_with fail
      rw [HF.out, HRES.out]
      exact ⟨_, rfl, HO5.out, HB.out⟩
end Go.Proofs.YtcjblbpkjegmiaaDoor
