/- Walks of the reference: starts, the rows, white space. Walk of the reference: white space. Walks of the reference: the value of digits, the tables, lists of strings. -/
import Derived.Test.YtnbphgeepnknlaaGreatDoorQLex6
namespace Go.Proofs.YtnbphgeepnknlaaGreatDoor
open Go.RowKit
set_option linter.unusedVariables false

theorem fit_prefix {s x : ByteArray} {p : Nat} (hp : p ≤ s.size) : (bs x).isPrefixOf ((bs s).drop p) = true ↔ p + x.size ≤ s.size ∧ s.extract p (p + x.size) = x := by
 constructor
 · intro h
   have h1 := List.isPrefixOf_iff_prefix.1 h
   have h2 := h1.length_le
   rw [List.length_drop, bs_length, bs_length] at h2
   refine ⟨by omega, bs_ext ?_⟩
   rw [bs_extract]
   have h3 := List.prefix_iff_eq_take.1 h1
   rw [bs_length] at h3
   rw [List.drop_take] at *
   rw [show p + x.size - p = x.size by omega]
   exact h3.symm
 · rintro ⟨h1, h2⟩
   have h3 : bs (s.extract p (p + x.size)) = bs x := by rw [h2]
   rw [bs_extract] at h3
   rw [List.isPrefixOf_iff_prefix, ← h3, List.drop_take]
   exact List.take_prefix _ _

theorem toList_ne {a b : ByteArray} (h : ¬ a = b) : (a.toList == b.toList) = false := by
 rw [ByteArray.toList_eq, ByteArray.toList_eq, beq_eq_false_iff_ne]
 exact fun h' => h (bs_ext h')

set_option maxHeartbeats 1000000 in
theorem starts_any (s x : ByteArray) (p : Nat) (w : World) (hs : s.size ≤ 1000000) (hx : x.size ≤ 1000000) (hp : p ≤ s.size) :
 Calls Tryz.prog 135 #[.string s, .int .i64 p, .string x] w fun e w' => e = .returned (.bool ((bs x).isPrefixOf ((bs s).drop p))) ∧ w = w' := by
 have hfp := fit_prefix (x := x) hp
 have hw : IntKind.i64.wrap ((p : Int) + (x.size : Int)) = ((p + x.size : Nat) : Int) := by rw [IntWalk.i64_in _ (by omega)]; omega
 have HW := Lib.hid hw
 clear hw
 by_cases h1 : p + x.size ≤ s.size
 · have h1' : ((p + x.size : Nat) : Int) ≤ (s.size : Int) := by omega
   by_cases h2 : s.extract p (p + x.size) = x
   · have HV := Lib.hid (hfp.2 ⟨h1, h2⟩)
     clear hfp
     have H2 := Lib.hid h2
     clear h2
     go_enter Tryz.func135, Tryz.ntmps135
     have hw := HW.out
     have h2 := H2.out
     go_wp2
     go_ret
     exact ⟨by rw [HV.out]; rfl, rfl⟩
   · have HV := Lib.hid (show (bs x).isPrefixOf ((bs s).drop p) = false from by
      cases h : (bs x).isPrefixOf ((bs s).drop p)
      · rfl
      · exact absurd (hfp.1 h).2 h2)
     clear hfp
     have h2' := toList_ne h2
     have H2 := Lib.hid h2'
     clear h2 h2'
     go_enter Tryz.func135, Tryz.ntmps135
     have hw := HW.out
     have h2 := H2.out
     go_wp2
     go_ret
     exact ⟨by rw [HV.out]; rfl, rfl⟩
 · have HV := Lib.hid (show (bs x).isPrefixOf ((bs s).drop p) = false from by
    cases h : (bs x).isPrefixOf ((bs s).drop p)
    · rfl
    · exact absurd (hfp.1 h).1 h1)
   have h1' : ¬ ((p + x.size : Nat) : Int) ≤ (s.size : Int) := by omega
   clear hfp
   go_enter Tryz.func135, Tryz.ntmps135
   have hw := HW.out
   go_wp2
   go_ret
   exact ⟨by rw [HV.out]; rfl, rfl⟩

/-- The bytes that a row takes. -/
def rowP (digits : Bool) : UInt8 → Bool := if digits then isDigit else isInside

set_option maxRecDepth 100000 in
set_option maxHeartbeats 2000000 in
theorem rrow_any (s : ByteArray) (p : Nat) (d : Bool) (w : World) (hs : s.size ≤ 1000000) (hp : p ≤ s.size) :
 Calls Tryz.prog 129 #[.string s, .int .i64 p, .bool d] w fun e w' => e = .returned (.int .i64 (p + rowLen (rowP d) ((bs s).drop p) : Nat)) ∧ w = w' := by
 obtain ⟨r, hr⟩ : ∃ r, r = p + rowLen (rowP d) ((bs s).drop p) := ⟨_, rfl⟩
 rw [← hr]
 have HR := Lib.hid hr
 clear hr
 go_enter Tryz.func129, Tryz.ntmps129
 go_wp2
 go_loop [1] (fun n => ∃ k : Nat, k ≤ s.size ∧ n = .int .i64 k ∧ r = k + rowLen (rowP d) ((bs s).drop k)) (fun n => s.size - (intOf n).toNat)
 case atStart => exact ⟨p, hp, rfl, HR.out⟩
 case round =>
  obtain ⟨k, hk, rfl, heq⟩ := hrel
  have HE := Lib.hid heq
  clear heq
  by_cases hlt : k < s.size
  · have hlt' : (k : Int) < (s.size : Int) := by omega
    have hd := drop_cons (bs_get hlt)
    have HD := Lib.hid hd
    clear hd
    have HL := Lib.hid (rletter_any s[k])
    have HG := Lib.hid (rdigit_any s[k])
    have stop : Hid (rowP d s[k] = false → r = k) := fun h => by rw [HE.out, HD.out, rowLen_cons_false h]; rfl
    have more : Hid (rowP d s[k] = true → r = k + 1 + rowLen (rowP d) ((bs s).drop (k + 1))) := fun h => by rw [HE.out, HD.out, rowLen_cons_true h]; omega
    have hb : s[k].toNat < 256 := s[k].toNat_lt
    cases hg : isDigit s[k]
    · rw [hg] at HG
      cases d
      · cases hl : isLetter s[k]
        · rw [hl] at HL
          by_cases h95 : s[k].toNat = 95
          · have HM := Lib.hid (more.out (by unfold rowP isInside; simp [h95]))
            have HL9 := Lib.hid (show ∀ w, Calls Tryz.prog 128 #[.int .u8 95] w fun e w' => e = .returned (.bool false) ∧ w = w' from fun w => by have h9 := HL.out w; rw [h95] at h9; exact h9)
            have HG9 := Lib.hid (show ∀ w, Calls Tryz.prog 132 #[.int .u8 95] w fun e w' => e = .returned (.bool false) ∧ w = w' from fun w => by have h9 := HG.out w; rw [h95] at h9; exact h9)
            clear stop more hg hl
            go_wp2_with (first | (go_at_call 128; refine (HL9.out _).mono ?_; rintro e w' ⟨rfl, rfl⟩) | (go_at_call 132; refine (HG9.out _).mono ?_; rintro e w' ⟨rfl, rfl⟩))
            go_round
            case rel => exact ⟨k + 1, by omega, by go_num, HM.out⟩
            case measure => simp [intOf]; omega
          · have HM := Lib.hid (stop.out (by unfold rowP isInside; simp [h95, hg, hl]))
            clear stop more hg hl
            have h95' : ¬ ((s[k].toNat : Int) = 95) := by omega
            go_wp2_with (first | (go_at_call 128; refine (HL.out _).mono ?_; rintro e w' ⟨rfl, rfl⟩) | (go_at_call 132; refine (HG.out _).mono ?_; rintro e w' ⟨rfl, rfl⟩))
            go_ret
            exact ⟨by rw [HM.out]; rfl, rfl⟩
        · rw [hl] at HL
          have HM := Lib.hid (more.out (by unfold rowP; exact inside_letter hl))
          clear stop more hg hl
          go_wp2_with (first | (go_at_call 128; refine (HL.out _).mono ?_; rintro e w' ⟨rfl, rfl⟩) | (go_at_call 132; refine (HG.out _).mono ?_; rintro e w' ⟨rfl, rfl⟩))
          go_round
          case rel => exact ⟨k + 1, by omega, by go_num, HM.out⟩
          case measure => simp [intOf]; omega
      · have HM := Lib.hid (stop.out (by unfold rowP; exact hg))
        clear stop more hg
        go_wp2_with (first | (go_at_call 128; refine (HL.out _).mono ?_; rintro e w' ⟨rfl, rfl⟩) | (go_at_call 132; refine (HG.out _).mono ?_; rintro e w' ⟨rfl, rfl⟩))
        go_ret
        exact ⟨by rw [HM.out]; rfl, rfl⟩
    · rw [hg] at HG
      have HM := Lib.hid (more.out (by cases d <;> unfold rowP isInside <;> simp [hg]))
      clear stop more hg
      go_wp2_with (first | (go_at_call 128; refine (HL.out _).mono ?_; rintro e w' ⟨rfl, rfl⟩) | (go_at_call 132; refine (HG.out _).mono ?_; rintro e w' ⟨rfl, rfl⟩))
      go_round
      case rel => exact ⟨k + 1, by omega, by go_num, HM.out⟩
      case measure => simp [intOf]; omega
  · have hlt' : ¬ (k : Int) < (s.size : Int) := by omega
    have h0 : (bs s).drop k = [] := List.drop_eq_nil_of_le (by rw [bs_length]; omega)
    have HM := Lib.hid (show r = k from by rw [HE.out, h0]; rfl)
    clear h0
    go_wp2
    go_ret
    exact ⟨by rw [HM.out]; rfl, rfl⟩
end Go.Proofs.YtnbphgeepnknlaaGreatDoor
namespace Go.Proofs.YtnbphgeepnknlaaGreatDoor
open Go.RowKit
set_option linter.unusedVariables false

set_option maxRecDepth 100000 in
set_option maxHeartbeats 2000000 in
theorem rblank_any (s : ByteArray) (p : Nat) (w : World) (hs : s.size ≤ 1000000) (hp : p ≤ s.size) :
 Calls Tryz.prog 127 #[.string s, .int .i64 p] w fun e w' => e = .returned (.int .i64 (s.size - (blank ((bs s).drop p)).length : Nat)) ∧ w = w' := by
 obtain ⟨r, hr⟩ : ∃ r, r = s.size - (blank ((bs s).drop p)).length := ⟨_, rfl⟩
 rw [← hr]
 have HR := Lib.hid hr
 clear hr
 have HST := Lib.hid (fun (k : Nat) (hk : k ≤ s.size) => starts_any s ⟨#[45, 45]⟩ k w hs (by decide) hk)
 go_enter Tryz.func127, Tryz.ntmps127
 go_wp2
 go_loop [1] (fun n => ∃ k : Nat, k ≤ s.size ∧ n = .int .i64 k ∧ blank ((bs s).drop p) = blank ((bs s).drop k)) (fun n => s.size - (intOf n).toNat)
 case atStart => exact ⟨p, hp, rfl, rfl⟩
 case round =>
  obtain ⟨k, hk, rfl, heq⟩ := hrel
  have HE := Lib.hid heq
  clear heq
  by_cases hlt : k < s.size
  · have hlt' : (k : Int) < (s.size : Int) := by omega
    have hd := drop_cons (bs_get hlt)
    have HD := Lib.hid hd
    clear hd
    have HS := Lib.hid (HST.out k hk)
    have hb : s[k].toNat < 256 := s[k].toNat_lt
    cases hds : dashes ((bs s).drop k)
    · have hds' : (bs ⟨#[45, 45]⟩).isPrefixOf ((bs s).drop k) = false := hds
      rw [hds'] at HS
      have HDS := Lib.hid hds
      clear hds hds'
      cases hw : isWs s[k]
      · have hno : blank ((bs s).drop k) = (bs s).drop k := by
         rw [HD.out]
         exact blank_stop hw (by rw [← HD.out]; exact HDS.out)
        have HM := Lib.hid (show r = k from by rw [HR.out, HE.out, hno, List.length_drop, bs_length]; omega)
        unfold isWs at hw
        have h1 : ¬ s[k].toNat = 32 := by intro h; simp [h] at hw
        have h2 : ¬ s[k].toNat = 9 := by intro h; simp [h] at hw
        have h3 : ¬ s[k].toNat = 10 := by intro h; simp [h] at hw
        have h4 : ¬ s[k].toNat = 13 := by intro h; simp [h] at hw
        have i1 : ((s[k].toNat : Int) != 32) = true := by simp; omega
        have i2 : ((s[k].toNat : Int) != 9) = true := by simp; omega
        have i3 : ((s[k].toNat : Int) != 10) = true := by simp; omega
        have i4 : ((s[k].toNat : Int) != 13) = true := by simp; omega
        clear hno hw h1 h2 h3 h4
        go_wp2_with fail
        refine (HS.out).mono ?_
        rintro e w' ⟨rfl, hw⟩
        rw [← hw]
        clear hw
        go_wp2
        go_ret
        exact ⟨by rw [HM.out]; rfl, rfl⟩
      · have HM := Lib.hid (show blank ((bs s).drop p) = blank ((bs s).drop (k + 1)) from by rw [HE.out, HD.out]; exact blank_ws hw)
        unfold isWs at hw
        have hor : s[k].toNat = 32 ∨ s[k].toNat = 9 ∨ s[k].toNat = 10 ∨ s[k].toNat = 13 := by simp at hw; omega
        clear hw
        rcases hor with h | h | h | h
        all_goals
         go_wp2_with fail
         refine (HS.out).mono ?_
         rintro e w' ⟨rfl, hw⟩
         rw [← hw]
         clear hw
         go_wp2
         exact ⟨⟨k + 1, by omega, by go_num, HM.out⟩, by simp [intOf]; omega⟩
    · have hds' : (bs ⟨#[45, 45]⟩).isPrefixOf ((bs s).drop k) = true := hds
      rw [hds'] at HS
      have hcl := comment_len hds
      rw [List.length_drop, bs_length] at hcl
      have HM := Lib.hid (show blank ((bs s).drop p) = blank (((bs s).drop k).dropWhile notNl) from by rw [HE.out]; exact blank_comment hds)
      clear hds hds'
      go_wp2_with fail
      refine (HS.out).mono ?_
      rintro e w' ⟨rfl, hw⟩
      rw [← hw]
      clear hw
      go_wp2
      go_loop [1] (fun n => ∃ j : Nat, k ≤ j ∧ j ≤ s.size ∧ n = .int .i64 j ∧ ((bs s).drop k).dropWhile notNl = ((bs s).drop j).dropWhile notNl) (fun n => s.size - (intOf n).toNat)
      case atStart => exact ⟨k, Nat.le_refl _, hk, rfl, rfl⟩
      case round =>
       obtain ⟨j, hj, hj2, rfl, heq⟩ := hrel
       have HF := Lib.hid heq
       clear heq
       by_cases hjl : j < s.size
       · have hjl' : (j : Int) < (s.size : Int) := by omega
         have hd := drop_cons (bs_get hjl)
         have HDJ := Lib.hid hd
         clear hd
         have hb : s[j].toNat < 256 := s[j].toNat_lt
         by_cases h10 : s[j].toNat = 10
         · have hst : ((bs s).drop j).dropWhile notNl = (bs s).drop j := by
            rw [HDJ.out, List.dropWhile_cons_of_neg (by unfold notNl; simp [h10])]
           have hj3 : k < j := by
            have h9 : (((bs s).drop k).dropWhile notNl).length = s.size - j := by rw [HF.out, hst, List.length_drop, bs_length]
            omega
           have HN := Lib.hid (show blank ((bs s).drop p) = blank ((bs s).drop j) from by rw [HM.out, HF.out, hst])
           clear hst
           go_wp2
           go_round
           case rel => exact ⟨j, by omega, rfl, HN.out⟩
           case measure => simp [intOf]; omega
         · have h10' : ¬ (s[j].toNat : Int) = 10 := by omega
           have HN := Lib.hid (show ((bs s).drop k).dropWhile notNl = ((bs s).drop (j + 1)).dropWhile notNl from by
            rw [HF.out, HDJ.out, List.dropWhile_cons_of_pos (by unfold notNl; simp [h10])])
           clear h10
           go_wp2
           go_round
           case rel => exact ⟨j + 1, by omega, by omega, by go_num, HN.out⟩
           case measure => simp [intOf]; omega
       · have hjl' : ¬ (j : Int) < (s.size : Int) := by omega
         have hje : j = s.size := by omega
         have h0 : (bs s).drop j = [] := List.drop_eq_nil_of_le (by rw [bs_length]; omega)
         have HN := Lib.hid (show blank ((bs s).drop p) = blank ((bs s).drop j) from by rw [HM.out, HF.out, h0]; rfl)
         clear h0 hje
         go_wp2
         go_round
         case rel => exact ⟨j, by omega, rfl, HN.out⟩
         case measure => simp [intOf]; omega
  · have hlt' : ¬ (k : Int) < (s.size : Int) := by omega
    have h0 : (bs s).drop k = [] := List.drop_eq_nil_of_le (by rw [bs_length]; omega)
    have HM := Lib.hid (show r = k from by rw [HR.out, HE.out, h0]; simp [blank_nil]; omega)
    clear h0
    go_wp2
    go_ret
    exact ⟨by rw [HM.out]; rfl, rfl⟩
end Go.Proofs.YtnbphgeepnknlaaGreatDoor
namespace Go.Proofs.YtnbphgeepnknlaaGreatDoor
open Go.RowKit
set_option linter.unusedVariables false

def valFrom (n : Nat) (l : Bs) : Nat := l.foldl (fun n c => 10 * n + (c.toNat - 48)) n
def capVal : Nat → Bs → Nat
 | n, [] => n
 | n, c :: r => if n ≤ 255 then capVal (10 * n + (c.toNat - 48)) r else n

theorem valFrom_ge (n : Nat) (l : Bs) : n * 10 ^ l.length ≤ valFrom n l := by
 induction l generalizing n with
 | nil => simp [valFrom]
 | cons c r ih =>
  have h := ih (10 * n + (c.toNat - 48))
  refine Nat.le_trans ?_ h
  rw [List.length_cons, Nat.pow_succ]
  have : n * (10 ^ r.length * 10) = (10 * n) * 10 ^ r.length := by ac_rfl
  rw [this]
  exact Nat.mul_le_mul_right _ (by omega)
theorem valFrom_big {n : Nat} (l : Bs) (h : 255 < n) : 255 < valFrom n l := by
 have h1 := valFrom_ge n l
 have h2 : 1 ≤ 10 ^ l.length := Nat.pow_pos (by omega)
 have h3 : n * 1 ≤ n * 10 ^ l.length := Nat.mul_le_mul_left _ h2
 omega
theorem capVal_eq (n : Nat) (l : Bs) : capVal n l = valFrom n l ∨ (255 < capVal n l ∧ 255 < valFrom n l) := by
 induction l generalizing n with
 | nil => exact .inl rfl
 | cons c r ih =>
  unfold capVal
  split
  · exact ih _
  · exact .inr ⟨by omega, valFrom_big _ (by omega)⟩

/-- The reference's number is the program's number. -/
theorem num_cases {l : Bs} {c : UInt8} {r : Bs} (hl : l = c :: r) (hc : isDigit c = true) :
 numSpec l = if 1 < rowLen isDigit l ∧ c.toNat = 48 then (0, 0, 15) else if 255 < capVal 0 (l.take (rowLen isDigit l)) then (0, 0, 2) else (capVal 0 (l.take (rowLen isDigit l)), rowLen isDigit l, 0) := by
 subst hl
 unfold numSpec
 simp only [List.getElem?_cons_zero, Option.map_some, Option.some.injEq]
 split
 · rfl
 · rename_i hn
   have hv : valOf ((c :: r).take (rowLen isDigit (c :: r))) = valFrom 0 ((c :: r).take (rowLen isDigit (c :: r))) := rfl
   have hcv := capVal_eq 0 ((c :: r).take (rowLen isDigit (c :: r)))
   rw [hv]
   have hle := rowLen_le isDigit (c :: r)
   have hpos : 0 < rowLen isDigit (c :: r) := by rw [rowLen_cons_true hc]; omega
   have hbig : 3 < rowLen isDigit (c :: r) → 255 < valFrom 0 ((c :: r).take (rowLen isDigit (c :: r))) := by
    intro h3
    generalize rowLen isDigit (c :: r) = m at *
    obtain ⟨m, rfl⟩ : ∃ k, m = k + 1 := ⟨m - 1, by omega⟩
    rw [List.take_succ_cons]
    show 255 < valFrom (10 * 0 + (c.toNat - 48)) (r.take m)
    have h1 := valFrom_ge (10 * 0 + (c.toNat - 48)) (r.take m)
    rw [List.length_take] at h1
    simp only [List.length_cons] at hle
    rw [Nat.min_eq_left (by omega)] at h1
    have h48 : 48 < c.toNat := by
     have : 48 ≤ c.toNat := by unfold isDigit at hc; simp at hc; omega
     have : c.toNat ≠ 48 := fun h => hn ⟨by omega, h⟩
     omega
    have h2 : 10 ^ 3 ≤ 10 ^ m := Nat.pow_le_pow_right (by omega) (by omega)
    have h4 : 1 * 10 ^ m ≤ (10 * 0 + (c.toNat - 48)) * 10 ^ m := Nat.mul_le_mul_right _ (by omega)
    omega
   generalize (c :: r).take (rowLen isDigit (c :: r)) = d at *
   by_cases h3 : 3 < rowLen isDigit (c :: r)
   · rw [if_pos h3, if_pos (hcv.elim (fun h => by have := hbig h3; omega) (fun h => h.1))]
   · rw [if_neg h3]
     rcases hcv with h | h
     · rw [h]
     · rw [if_pos h.1, if_pos h.2]

set_option maxHeartbeats 1000000 in
theorem rvalue_any (s : ByteArray) (w : World) (hs : s.size ≤ 1000000) (hd : ∀ c ∈ bs s, isDigit c = true) :
 Calls Tryz.prog 133 #[.string s] w fun e w' => e = .returned (.int .i64 (capVal 0 (bs s) : Nat)) ∧ w = w' := by
 have HD := Lib.hid hd
 clear hd
 obtain ⟨r, hr⟩ : ∃ r, r = capVal 0 (bs s) := ⟨_, rfl⟩
 rw [← hr]
 have HR := Lib.hid hr
 clear hr
 go_enter Tryz.func133, Tryz.ntmps133
 go_wp2
 go_loop [3, 4] (fun n i => ∃ (v k : Nat), k ≤ s.size ∧ n = .int .i64 v ∧ v ≤ 2559 ∧ i = .int .i64 k ∧ r = capVal v ((bs s).drop k)) (fun n i => s.size - (intOf i).toNat)
 case atStart => exact ⟨0, 0, Nat.zero_le _, rfl, by omega, rfl, HR.out⟩
 case round =>
  obtain ⟨v, k, hk, rfl, hv, rfl, heq⟩ := hrel
  have HE := Lib.hid heq
  clear heq
  by_cases hlt : k < s.size
  · have hlt' : (k : Int) < (s.size : Int) := by omega
    have hc := drop_cons (bs_get hlt)
    by_cases h255 : v ≤ 255
    · have h255' : (v : Int) ≤ 255 := by omega
      have hdg := HD.out s[k] (List.mem_of_getElem? (bs_get hlt))
      have hb : 48 ≤ s[k].toNat ∧ s[k].toNat ≤ 57 := by unfold isDigit at hdg; simp at hdg; omega
      obtain ⟨hb1, hb2⟩ := hb
      have HM := Lib.hid (show r = capVal (10 * v + (s[k].toNat - 48)) ((bs s).drop (k + 1)) from by rw [HE.out, hc, capVal, if_pos h255])
      clear hdg hc
      go_wp2
      go_round
      case rel => exact ⟨10 * v + (s[k].toNat - 48), k + 1, by omega, by (try simp only [IntWalk.i64_in _ _]); go_num, by omega, by go_num, HM.out⟩
      case measure => simp [intOf]; omega
    · have h255' : ¬ (v : Int) ≤ 255 := by omega
      have HM := Lib.hid (show r = v from by rw [HE.out, hc, capVal, if_neg h255])
      clear hc
      go_wp2
      go_ret
      exact ⟨by rw [HM.out]; rfl, rfl⟩
  · have hlt' : ¬ (k : Int) < (s.size : Int) := by omega
    have h0 : (bs s).drop k = [] := List.drop_eq_nil_of_le (by rw [bs_length]; omega)
    have HM := Lib.hid (show r = v from by rw [HE.out, h0]; rfl)
    clear h0
    go_wp2
    go_ret
    exact ⟨by rw [HM.out]; rfl, rfl⟩

/-- A row of strings lies at A. -/
def StrsAt (w : World) (A : Option Addr) (l : List ByteArray) : Prop := l = [] ∨ ∃ b off, A = some ⟨b, off, none⟩ ∧ b < w.heap.size ∧ ∀ j, j < l.length → w.cell? ⟨b, off + j, none⟩ = some (.string (l.getD j ByteArray.empty))

theorem contains_snoc {zs : List ByteArray} {x : ByteArray} {k : Nat} (hk : k < zs.length) : Lib.containsS (zs.take (k + 1)) x = (Lib.containsS (zs.take k) x || decide (zs.getD k ByteArray.empty = x)) := by
 rw [Bool.eq_iff_iff, Lib.containsS_iff, List.take_succ_eq_append_getElem hk, Bool.or_eq_true, Lib.containsS_iff, List.mem_append, List.mem_singleton, decide_eq_true_eq]
 have : zs.getD k ByteArray.empty = zs[k] := by simp [List.getD, hk]
 rw [this]
 constructor
 · rintro (h | h)
   · exact .inl h
   · exact .inr h.symm
 · rintro (h | h)
   · exact .inl h
   · exact .inr h.symm

set_option maxHeartbeats 1000000 in
theorem ramong_any (b off c : Nat) (zs : List ByteArray) (x : ByteArray) (w : World) (hl : zs.length ≤ 1000000) (hc : ∀ j, j < zs.length → w.cell? ⟨b, off + j, none⟩ = some (.string (zs.getD j ByteArray.empty))) :
 Calls Tryz.prog 130 #[.slice (some ⟨b, off, none⟩) zs.length c, .string x] w fun e w' => e = .returned (.bool (Lib.containsS zs x)) ∧ w = w' := by
 have HC := Lib.hid hc
 clear hc
 obtain ⟨n, hn⟩ : ∃ n, n = zs.length := ⟨_, rfl⟩
 rw [← hn] at hl ⊢
 have HN := Lib.hid hn
 clear hn
 go_enter Tryz.func130, Tryz.ntmps130
 go_wp2
 go_loop [5] (fun i => ∃ k : Nat, k ≤ n ∧ i = .int .i64 k ∧ Lib.containsS (zs.take k) x = false) (fun i => n - (intOf i).toNat)
 case atStart => exact ⟨0, Nat.zero_le _, rfl, rfl⟩
 case round =>
  obtain ⟨k, hk, rfl, hno⟩ := hrel
  have HO := Lib.hid hno
  clear hno
  by_cases hlt : k < n
  · have hk0 : (0 : Int) ≤ (k : Int) := by omega
    have hk1 : (k : Int) < (n : Int) := by omega
    have hck := HC.out k (by rw [← HN.out]; exact hlt)
    have hsn := contains_snoc (x := x) (by rw [← HN.out]; exact hlt)
    rw [HO.out] at hsn
    obtain ⟨y, hy⟩ : ∃ y, y = zs.getD k ByteArray.empty := ⟨_, rfl⟩
    rw [← hy] at hck hsn
    have HS := Lib.hid hsn
    clear hsn
    by_cases hyx : y = x
    · have HM := Lib.hid (show Lib.containsS zs x = true from by rw [Lib.containsS_iff, ← hyx, hy]; simp only [List.getD]; rw [List.getElem?_eq_getElem (by rw [← HN.out]; exact hlt)]; simp)
      subst hyx
      clear hy
      go_wp2
      go_ret
      exact ⟨by rw [HM.out]; rfl, rfl⟩
    · have hyx' := toList_ne hyx
      have HM := Lib.hid (show Lib.containsS (zs.take (k + 1)) x = false from by rw [HS.out]; simp [hyx])
      clear hy hyx
      go_wp2
      go_round
      case rel => exact ⟨k + 1, by omega, by go_num, HM.out⟩
      case measure => simp [intOf]; omega
  · have hk1 : ¬ (k : Int) < (n : Int) := by omega
    have HM := Lib.hid (show Lib.containsS zs x = false from by rw [← HO.out, List.take_of_length_le (by rw [← HN.out]; omega)])
    go_wp2
    go_ret
    exact ⟨by rw [HM.out]; rfl, rfl⟩

theorem rwords_any (w : World) : Calls Tryz.prog 131 #[] w fun e w' => e = .returned (.slice (some ⟨w.heap.size, 0, none⟩) 24 24) ∧ w' = w.alloc (.cells (wordL.map Value.string).toArray 9) := by
 go_enter Tryz.func131, Tryz.ntmps131
 go_wp2
 go_ret
 exact ⟨rfl, rfl⟩
theorem rsigns_any (w : World) : Calls Tryz.prog 134 #[] w fun e w' => e = .returned (.slice (some ⟨w.heap.size, 0, none⟩) 21 21) ∧ w' = w.alloc (.cells (signL.map Value.string).toArray 9) := by
 go_enter Tryz.func134, Tryz.ntmps134
 go_wp2
 go_ret
 exact ⟨rfl, rfl⟩
end Go.Proofs.YtnbphgeepnknlaaGreatDoor
