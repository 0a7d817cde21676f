/- Walks of the reference: starts, the rows, white space. Walk of the reference: white space. Walks of the reference: the value of digits, the tables, lists of strings. Walks of the reference: whether a text is a name; whether two rows of strings are the same. -/
import Derived.Test.YtnbphgeepnknlaaDoorQLex6
namespace Go.Proofs.YtnbphgeepnknlaaDoor
open Go.RowKit
set_option linter.unusedVariables false

theorem fit_prefix {s x : ByteArray} {p : Nat} (hp : p ≤ s.size) : (bs x).isPrefixOf ((bs s).drop p) = true ↔ p + x.size ≤ s.size ∧ s.extract p (p + x.size) = x := by
  constructor
  · intro h
    have h1 := List.isPrefixOf_iff_prefix.1 h
    have h2 := h1.length_le
    rw [List.length_drop, bs_length, bs_length] at h2
    refine ⟨by omega, bs_ext ?_⟩
    rw [bs_extract]
    have h3 := List.prefix_iff_eq_take.1 h1
    rw [bs_length] at h3
    rw [List.drop_take] at *
    rw [show p + x.size - p = x.size by omega]
    exact h3.symm
  · rintro ⟨h1, h2⟩
    have h3 : bs (s.extract p (p + x.size)) = bs x := by rw [h2]
    rw [bs_extract] at h3
    rw [List.isPrefixOf_iff_prefix, ← h3, List.drop_take]
    exact List.take_prefix _ _

theorem toList_ne {a b : ByteArray} (h : ¬ a = b) : (a.toList == b.toList) = false := by
  rw [ByteArray.toList_eq, ByteArray.toList_eq, beq_eq_false_iff_ne]
  exact fun h' => h (bs_ext h')



/-- The bytes that a row takes. -/
def rowP (digits : Bool) : UInt8 → Bool := if digits then isDigit else isInside

set_option maxRecDepth 100000 in
set_option maxHeartbeats 2000000 in
theorem rrow_any (s : ByteArray) (p : Nat) (d : Bool) (w : World) (hs : s.size ≤ 1000000) (hp : p ≤ s.size) :
    Calls Tryd.prog 49 #[.string s, .int .i64 p, .bool d] w fun e w' => e = .returned (.int .i64 (p + rowLen (rowP d) ((bs s).drop p) : Nat)) ∧ w = w' := by
  obtain ⟨r, hr⟩ : ∃ r, r = p + rowLen (rowP d) ((bs s).drop p) := ⟨_, rfl⟩
  rw [← hr]
  have HR := Lib.hid hr
  clear hr
  go_enter Tryd.func49, Tryd.ntmps49
  go_wp2
  go_loop [1] (fun n => ∃ k : Nat, k ≤ s.size ∧ n = .int .i64 k ∧ r = k + rowLen (rowP d) ((bs s).drop k)) (fun n => s.size - (intOf n).toNat)
  case atStart => exact ⟨p, hp, rfl, HR.out⟩
  case round =>
    obtain ⟨k, hk, rfl, heq⟩ := hrel
    have HE := Lib.hid heq
    clear heq
    by_cases hlt : k < s.size
    · have hlt' : (k : Int) < (s.size : Int) := by omega
      have hd := drop_cons (bs_get hlt)
      have HD := Lib.hid hd
      clear hd
      have HL := Lib.hid (rletter_any s[k])
      have HG := Lib.hid (rdigit_any s[k])
      have stop : Hid (rowP d s[k] = false → r = k) := fun h => by rw [HE.out, HD.out, rowLen_cons_false h]; rfl
      have more : Hid (rowP d s[k] = true → r = k + 1 + rowLen (rowP d) ((bs s).drop (k + 1))) := fun h => by rw [HE.out, HD.out, rowLen_cons_true h]; omega
      have hb : s[k].toNat < 256 := s[k].toNat_lt
      cases hg : isDigit s[k]
      · rw [hg] at HG
        cases d
        · cases hl : isLetter s[k]
          · rw [hl] at HL
            by_cases h95 : s[k].toNat = 95
            · have HM := Lib.hid (more.out (by unfold rowP isInside; simp [h95]))
              have HL9 := Lib.hid (show ∀ w, Calls Tryd.prog 48 #[.int .u8 95] w fun e w' => e = .returned (.bool false) ∧ w = w' from fun w => by have h9 := HL.out w; rw [h95] at h9; exact h9)
              have HG9 := Lib.hid (show ∀ w, Calls Tryd.prog 65 #[.int .u8 95] w fun e w' => e = .returned (.bool false) ∧ w = w' from fun w => by have h9 := HG.out w; rw [h95] at h9; exact h9)
              clear stop more hg hl
              go_wp2_with (first | (go_at_call 48; refine (HL9.out _).mono ?_; rintro e w' ⟨rfl, rfl⟩) | (go_at_call 65; refine (HG9.out _).mono ?_; rintro e w' ⟨rfl, rfl⟩))
              go_round
              case rel => exact ⟨k + 1, by omega, by go_num, HM.out⟩
              case measure => simp [intOf]; omega
            · have HM := Lib.hid (stop.out (by unfold rowP isInside; simp [h95, hg, hl]))
              clear stop more hg hl
              have h95' : ¬ ((s[k].toNat : Int) = 95) := by omega
              go_wp2_with (first | (go_at_call 48; refine (HL.out _).mono ?_; rintro e w' ⟨rfl, rfl⟩) | (go_at_call 65; refine (HG.out _).mono ?_; rintro e w' ⟨rfl, rfl⟩))
              go_ret
              exact ⟨by rw [HM.out]; rfl, rfl⟩
          · rw [hl] at HL
            have HM := Lib.hid (more.out (by unfold rowP; exact inside_letter hl))
            clear stop more hg hl
            go_wp2_with (first | (go_at_call 48; refine (HL.out _).mono ?_; rintro e w' ⟨rfl, rfl⟩) | (go_at_call 65; refine (HG.out _).mono ?_; rintro e w' ⟨rfl, rfl⟩))
            go_round
            case rel => exact ⟨k + 1, by omega, by go_num, HM.out⟩
            case measure => simp [intOf]; omega
        · have HM := Lib.hid (stop.out (by unfold rowP; exact hg))
          clear stop more hg
          go_wp2_with (first | (go_at_call 48; refine (HL.out _).mono ?_; rintro e w' ⟨rfl, rfl⟩) | (go_at_call 65; refine (HG.out _).mono ?_; rintro e w' ⟨rfl, rfl⟩))
          go_ret
          exact ⟨by rw [HM.out]; rfl, rfl⟩
      · rw [hg] at HG
        have HM := Lib.hid (more.out (by cases d <;> unfold rowP isInside <;> simp [hg]))
        clear stop more hg
        go_wp2_with (first | (go_at_call 48; refine (HL.out _).mono ?_; rintro e w' ⟨rfl, rfl⟩) | (go_at_call 65; refine (HG.out _).mono ?_; rintro e w' ⟨rfl, rfl⟩))
        go_round
        case rel => exact ⟨k + 1, by omega, by go_num, HM.out⟩
        case measure => simp [intOf]; omega
    · have hlt' : ¬ (k : Int) < (s.size : Int) := by omega
      have h0 : (bs s).drop k = [] := List.drop_eq_nil_of_le (by rw [bs_length]; omega)
      have HM := Lib.hid (show r = k from by rw [HE.out, h0]; rfl)
      clear h0
      go_wp2
      go_ret
      exact ⟨by rw [HM.out]; rfl, rfl⟩
end Go.Proofs.YtnbphgeepnknlaaDoor
namespace Go.Proofs.YtnbphgeepnknlaaDoor
open Go.RowKit
set_option linter.unusedVariables false

end Go.Proofs.YtnbphgeepnknlaaDoor
namespace Go.Proofs.YtnbphgeepnknlaaDoor
open Go.RowKit
set_option linter.unusedVariables false

def valFrom (n : Nat) (l : Bs) : Nat := l.foldl (fun n c => 10 * n + (c.toNat - 48)) n
def capVal : Nat → Bs → Nat
  | n, [] => n
  | n, c :: r => if n ≤ 255 then capVal (10 * n + (c.toNat - 48)) r else n

theorem valFrom_ge (n : Nat) (l : Bs) : n * 10 ^ l.length ≤ valFrom n l := by
  induction l generalizing n with
  | nil => simp [valFrom]
  | cons c r ih =>
    have h := ih (10 * n + (c.toNat - 48))
    refine Nat.le_trans ?_ h
    rw [List.length_cons, Nat.pow_succ]
    have : n * (10 ^ r.length * 10) = (10 * n) * 10 ^ r.length := by ac_rfl
    rw [this]
    exact Nat.mul_le_mul_right _ (by omega)
theorem valFrom_big {n : Nat} (l : Bs) (h : 255 < n) : 255 < valFrom n l := by
  have h1 := valFrom_ge n l
  have h2 : 1 ≤ 10 ^ l.length := Nat.pow_pos (by omega)
  have h3 : n * 1 ≤ n * 10 ^ l.length := Nat.mul_le_mul_left _ h2
  omega
theorem capVal_eq (n : Nat) (l : Bs) : capVal n l = valFrom n l ∨ (255 < capVal n l ∧ 255 < valFrom n l) := by
  induction l generalizing n with
  | nil => exact .inl rfl
  | cons c r ih =>
    unfold capVal
    split
    · exact ih _
    · exact .inr ⟨by omega, valFrom_big _ (by omega)⟩

/-- The reference's number is the program's number. -/
theorem num_cases {l : Bs} {c : UInt8} {r : Bs} (hl : l = c :: r) (hc : isDigit c = true) :
    numSpec l = if 1 < rowLen isDigit l ∧ c.toNat = 48 then (0, 0, 15) else if 255 < capVal 0 (l.take (rowLen isDigit l)) then (0, 0, 2) else (capVal 0 (l.take (rowLen isDigit l)), rowLen isDigit l, 0) := by
  subst hl
  unfold numSpec
  simp only [List.getElem?_cons_zero, Option.map_some, Option.some.injEq]
  split
  · rfl
  · rename_i hn
    have hv : valOf ((c :: r).take (rowLen isDigit (c :: r))) = valFrom 0 ((c :: r).take (rowLen isDigit (c :: r))) := rfl
    have hcv := capVal_eq 0 ((c :: r).take (rowLen isDigit (c :: r)))
    rw [hv]
    have hle := rowLen_le isDigit (c :: r)
    have hpos : 0 < rowLen isDigit (c :: r) := by rw [rowLen_cons_true hc]; omega
    have hbig : 3 < rowLen isDigit (c :: r) → 255 < valFrom 0 ((c :: r).take (rowLen isDigit (c :: r))) := by
      intro h3
      generalize rowLen isDigit (c :: r) = m at *
      obtain ⟨m, rfl⟩ : ∃ k, m = k + 1 := ⟨m - 1, by omega⟩
      rw [List.take_succ_cons]
      show 255 < valFrom (10 * 0 + (c.toNat - 48)) (r.take m)
      have h1 := valFrom_ge (10 * 0 + (c.toNat - 48)) (r.take m)
      rw [List.length_take] at h1
      simp only [List.length_cons] at hle
      rw [Nat.min_eq_left (by omega)] at h1
      have h48 : 48 < c.toNat := by
        have : 48 ≤ c.toNat := by unfold isDigit at hc; simp at hc; omega
        have : c.toNat ≠ 48 := fun h => hn ⟨by omega, h⟩
        omega
      have h2 : 10 ^ 3 ≤ 10 ^ m := Nat.pow_le_pow_right (by omega) (by omega)
      have h4 : 1 * 10 ^ m ≤ (10 * 0 + (c.toNat - 48)) * 10 ^ m := Nat.mul_le_mul_right _ (by omega)
      omega
    generalize (c :: r).take (rowLen isDigit (c :: r)) = d at *
    by_cases h3 : 3 < rowLen isDigit (c :: r)
    · rw [if_pos h3, if_pos (hcv.elim (fun h => by have := hbig h3; omega) (fun h => h.1))]
    · rw [if_neg h3]
      rcases hcv with h | h
      · rw [h]
      · rw [if_pos h.1, if_pos h.2]



/-- A row of strings lies at A. -/
def StrsAt (w : World) (A : Option Addr) (l : List ByteArray) : Prop := l = [] ∨ ∃ b off, A = some ⟨b, off, none⟩ ∧ b < w.heap.size ∧ ∀ j, j < l.length → w.cell? ⟨b, off + j, none⟩ = some (.string (l.getD j ByteArray.empty))

theorem contains_snoc {zs : List ByteArray} {x : ByteArray} {k : Nat} (hk : k < zs.length) : Lib.containsS (zs.take (k + 1)) x = (Lib.containsS (zs.take k) x || decide (zs.getD k ByteArray.empty = x)) := by
  rw [Bool.eq_iff_iff, Lib.containsS_iff, List.take_succ_eq_append_getElem hk, Bool.or_eq_true, Lib.containsS_iff, List.mem_append, List.mem_singleton, decide_eq_true_eq]
  have : zs.getD k ByteArray.empty = zs[k] := by simp [List.getD, hk]
  rw [this]
  constructor
  · rintro (h | h)
    · exact .inl h
    · exact .inr h.symm
  · rintro (h | h)
    · exact .inl h
    · exact .inr h.symm

set_option maxHeartbeats 1000000 in
theorem ramong_any (b off c : Nat) (zs : List ByteArray) (x : ByteArray) (w : World) (hl : zs.length ≤ 1000000) (hc : ∀ j, j < zs.length → w.cell? ⟨b, off + j, none⟩ = some (.string (zs.getD j ByteArray.empty))) :
    Calls Tryd.prog 50 #[.slice (some ⟨b, off, none⟩) zs.length c, .string x] w fun e w' => e = .returned (.bool (Lib.containsS zs x)) ∧ w = w' := by
  have HC := Lib.hid hc
  clear hc
  obtain ⟨n, hn⟩ : ∃ n, n = zs.length := ⟨_, rfl⟩
  rw [← hn] at hl ⊢
  have HN := Lib.hid hn
  clear hn
  go_enter Tryd.func50, Tryd.ntmps50
  go_wp2
  go_loop [5] (fun i => ∃ k : Nat, k ≤ n ∧ i = .int .i64 k ∧ Lib.containsS (zs.take k) x = false) (fun i => n - (intOf i).toNat)
  case atStart => exact ⟨0, Nat.zero_le _, rfl, rfl⟩
  case round =>
    obtain ⟨k, hk, rfl, hno⟩ := hrel
    have HO := Lib.hid hno
    clear hno
    by_cases hlt : k < n
    · have hk0 : (0 : Int) ≤ (k : Int) := by omega
      have hk1 : (k : Int) < (n : Int) := by omega
      have hck := HC.out k (by rw [← HN.out]; exact hlt)
      have hsn := contains_snoc (x := x) (by rw [← HN.out]; exact hlt)
      rw [HO.out] at hsn
      obtain ⟨y, hy⟩ : ∃ y, y = zs.getD k ByteArray.empty := ⟨_, rfl⟩
      rw [← hy] at hck hsn
      have HS := Lib.hid hsn
      clear hsn
      by_cases hyx : y = x
      · have HM := Lib.hid (show Lib.containsS zs x = true from by rw [Lib.containsS_iff, ← hyx, hy]; simp only [List.getD]; rw [List.getElem?_eq_getElem (by rw [← HN.out]; exact hlt)]; simp)
        subst hyx
        clear hy
        go_wp2
        go_ret
        exact ⟨by rw [HM.out]; rfl, rfl⟩
      · have hyx' := toList_ne hyx
        have HM := Lib.hid (show Lib.containsS (zs.take (k + 1)) x = false from by rw [HS.out]; simp [hyx])
        clear hy hyx
        go_wp2
        go_round
        case rel => exact ⟨k + 1, by omega, by go_num, HM.out⟩
        case measure => simp [intOf]; omega
    · have hk1 : ¬ (k : Int) < (n : Int) := by omega
      have HM := Lib.hid (show Lib.containsS zs x = false from by rw [← HO.out, List.take_of_length_le (by rw [← HN.out]; omega)])
      go_wp2
      go_ret
      exact ⟨by rw [HM.out]; rfl, rfl⟩

theorem rwords_any (w : World) : Calls Tryd.prog 51 #[] w fun e w' => e = .returned (.slice (some ⟨w.heap.size, 0, none⟩) 24 24) ∧ w' = w.alloc (.cells (wordL.map Value.string).toArray 9) := by
  go_enter Tryd.func51, Tryd.ntmps51
  go_wp2
  go_ret
  exact ⟨rfl, rfl⟩
end Go.Proofs.YtnbphgeepnknlaaDoor
namespace Go.Proofs.YtnbphgeepnknlaaDoor
open Go.RowKit
set_option linter.unusedVariables false

theorem StrsAt.belowB {w w' : World} {B : Nat} {A : Option Addr} {l : List ByteArray} (h : StrsAt w A l) (hb : Below B w w') (hB : B = w.heap.size) : StrsAt w' A l := by
  rcases h with h | ⟨b, off, rfl, hlt, hc⟩
  · exact .inl h
  · exact .inr ⟨b, off, rfl, Nat.lt_of_lt_of_le hlt hb.size, fun j hj => by rw [hb.cell (p := ⟨b, _, none⟩) (by subst hB; exact hlt)]; exact hc j hj⟩
theorem strs_of_own {w : World} {base : Nat} {v : Value} {T : TypeId} {l : List ByteArray} (h : w.ownsRow base T 1 v l.length (l.map Value.string)) : ∃ A c, v = .slice A l.length c ∧ StrsAt w A l := by
  rcases h.2 with ⟨rfl, hn⟩ | ⟨g, cap, cur, rfl, hb, hg, _⟩
  · exact ⟨none, 0, by rw [hn], .inl (List.eq_nil_of_length_eq_zero hn)⟩
  · refine ⟨_, _, rfl, .inr ⟨g, 0, rfl, (h.lt g rfl).2, fun j hj => ?_⟩⟩
    have := h.cells (g := g) rfl j (.string (l.getD j ByteArray.empty)) (by rw [List.getElem?_map]; simp [List.getD, hj])
    rw [addr_add] at this
    exact this



set_option maxHeartbeats 4000000 in
theorem ris_any (s : ByteArray) (w : World) (hs : s.size ≤ 1000000) : Calls Tryd.prog 32 #[.string s] w fun e w' => e = .returned (.bool (isName (bs s))) ∧ Below w.heap.size w w' := by
  by_cases h0 : 0 < s.size
  · have hd0 := drop_cons (bs_get h0)
    rw [List.drop_zero] at hd0
    have hnm := isName_form (l := bs s) (by rw [hd0]; simp)
    rw [bs_length, show (bs s).headD 0 = s[0] from by rw [hd0]; rfl] at hnm
    have HN := Lib.hid hnm
    clear hnm hd0
    have h0' : (1 : Int) ≤ (s.size : Int) := by omega
    have hrow := rrow_any s 0 false w hs (Nat.zero_le _)
    rw [show rowP false = isInside from rfl, List.drop_zero, Nat.zero_add] at hrow
    have HROW := Lib.hid hrow
    clear hrow
    by_cases h24 : s.size ≤ 24
    · have h24' : (s.size : Int) ≤ 24 := by omega
      have HL := Lib.hid (rletter_any s[0])
      cases hle : isLetter s[0]
      · rw [hle] at HL
        have HV := Lib.hid (show isName (bs s) = false from by rw [HN.out, hle]; simp)
        clear hle
        go_enter Tryd.func32, Tryd.ntmps32
        go_wp2_with fail
        refine (HL.out _).mono ?_
        rintro e w3 ⟨rfl, hw⟩
        rw [← hw]
        clear hw
        go_wp2
        go_ret
        exact ⟨by rw [HV.out]; rfl, Below.refl _ _⟩
      · rw [hle] at HL
        by_cases hr : rowLen isInside (bs s) = s.size
        · have HV := Lib.hid (show isName (bs s) = !isWord (bs s) from by rw [HN.out, hle, hr]; simp [h24])
          rw [hr] at HROW
          have hwd : Lib.containsS wordL s = isWord (bs s) := by
            unfold isWord
            rw [show (⟨(bs s).toArray⟩ : ByteArray) = s from bs_ext rfl]
          have hcw : ∀ j, j < wordL.length → (w.alloc (.cells (wordL.map Value.string).toArray 9)).cell? ⟨w.heap.size, 0 + j, none⟩ = some (.string (wordL.getD j ByteArray.empty)) := fun j hj => by
            rw [Nat.zero_add, World.cell?_alloc_at _ _ _ _ rfl]
            simp [List.getD, hj]
          have hca := ramong_any w.heap.size 0 24 wordL s (w.alloc (.cells (wordL.map Value.string).toArray 9)) (by decide) hcw
          rw [hwd] at hca
          have HC : Hid (Calls Tryd.prog 50 #[.slice (some ⟨w.heap.size, 0, none⟩) 24 24, .string s] (w.alloc (.cells (wordL.map Value.string).toArray 9)) fun e w' => e = .returned (.bool (isWord (bs s))) ∧ (w.alloc (.cells (wordL.map Value.string).toArray 9)) = w') := hca
          obtain ⟨W, hW⟩ : ∃ W, W = w.alloc (.cells (wordL.map Value.string).toArray 9) := ⟨_, rfl⟩
          have HBW : Hid (Below w.heap.size w W) := by rw [hW]; exact (Below.refl _ _).alloc (Nat.le_refl _) _
          have HRW := Lib.hid (rwords_any w)
          rw [← hW] at HC HRW
          clear hle hr hcw hca hwd hW
          cases hw : isWord (bs s)
          all_goals
            rw [hw] at HC HV
            clear hw
            go_enter Tryd.func32, Tryd.ntmps32
            go_wp2_with fail
            refine (HL.out _).mono ?_
            rintro e w3 ⟨rfl, hw⟩
            rw [← hw]
            clear hw
            go_wp2_with fail
            refine (HROW.out).mono ?_
            rintro e w3 ⟨rfl, hw⟩
            rw [← hw]
            clear hw
            go_wp2_with fail
            refine (HRW.out).mono ?_
            rintro e w3 ⟨rfl, hw⟩
            rw [hw]
            clear hw
            go_wp2_with fail
            refine (HC.out).mono ?_
            rintro e w3 ⟨rfl, hw⟩
            rw [← hw]
            clear hw
            go_wp2
            go_ret
            exact ⟨by rw [HV.out]; rfl, HBW.out⟩
        · have HV := Lib.hid (show isName (bs s) = false from by rw [HN.out]; simp [hr])
          obtain ⟨n, hn⟩ : ∃ n, n = rowLen isInside (bs s) := ⟨_, rfl⟩
          rw [← hn] at HROW hr
          clear hn hle
          have hr' : ¬ (n : Int) = (s.size : Int) := by omega
          go_enter Tryd.func32, Tryd.ntmps32
          go_wp2_with fail
          refine (HL.out _).mono ?_
          rintro e w3 ⟨rfl, hw⟩
          rw [← hw]
          clear hw
          go_wp2_with fail
          refine (HROW.out).mono ?_
          rintro e w3 ⟨rfl, hw⟩
          rw [← hw]
          clear hw
          go_wp2
          go_ret
          exact ⟨by rw [HV.out]; rfl, Below.refl _ _⟩
    · have HV := Lib.hid (show isName (bs s) = false from by rw [HN.out]; simp [h24])
      have h24' : ¬ (s.size : Int) ≤ 24 := by omega
      clear h24
      go_enter Tryd.func32, Tryd.ntmps32
      go_wp2
      go_ret
      exact ⟨by rw [HV.out]; rfl, Below.refl _ _⟩
  · have hnil : bs s = [] := List.eq_nil_of_length_eq_zero (by rw [bs_length]; omega)
    have hte : s = ⟨#[]⟩ := bs_ext hnil
    rw [isName_false1 hnil]
    subst hte
    clear hnil h0 hs
    go_enter Tryd.func32, Tryd.ntmps32
    go_wp2
    go_ret
    exact ⟨rfl, Below.refl _ _⟩

end Go.Proofs.YtnbphgeepnknlaaDoor
