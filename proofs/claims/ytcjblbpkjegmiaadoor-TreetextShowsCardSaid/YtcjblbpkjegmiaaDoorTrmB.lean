/- Walks: terms.kids, wrong. -/
import Derived.Test.YtcjblbpkjegmiaaDoorTrmA
namespace Go.Proofs.YtcjblbpkjegmiaaDoor
open Go.RowKit
set_option linter.unusedVariables false

set_option maxHeartbeats 2000000 in
theorem kids_any (op : Int) (w : World) :
    Calls Tryd.prog 92 #[.int .i64 op] w fun e w' => e = .returned (.tuple #[.int .i64 (kidsOf op).1, .int .i64 (kidsOf op).2]) ∧ w = w' := by
  obtain ⟨r, hr⟩ : ∃ r, r = kidsOf op := ⟨_, rfl⟩
  rw [← hr]
  have HR := Lib.hid hr
  clear hr
  go_enter Tryd.func92, Tryd.ntmps92
  go_wp2
  all_goals
    go_ret2
    rw [HR.out]
    refine ⟨?_, rfl⟩
    simp_all [kidsOf]

/-- A term in a box of its own. -/
def tmC (A : Option Addr) (c : Nat) (t : Tm) : Array Value := #[.int .i64 t.op, .int .i64 t.num, .string t.name, .slice A t.kids.length c]

theorem isEmpty_of_size {s : ByteArray} (h : s.size = 0) : s.toList.isEmpty = true := by
  rw [ByteArray.toList_eq]
  have : s.data.toList.length = 0 := by simpa using h
  rw [List.eq_nil_of_length_eq_zero this]
  rfl
theorem isEmpty_of_pos {s : ByteArray} (h : 0 < s.size) : s.toList.isEmpty = false := by
  rw [ByteArray.toList_eq]
  have : 0 < s.data.toList.length := by simpa using h
  cases hl : s.data.toList with
  | nil => rw [hl] at this; simp at this
  | cons _ _ => rfl
theorem toList_of_size {s : ByteArray} (h : s.size = 0) : s.toList = [] := List.isEmpty_iff.1 (isEmpty_of_size h)

theorem wrongE_cls (op n : Int) (nm k : Nat) (lo hi : Int) (nb : Nat) (hlo : lowE op = lo) (hhi : highE op = hi) (hnb : (if op = 3 ∨ op = 4 then 1 else 0) = nb) :
    wrongE op n nm k = if (kidsOf op).1 < 0 then 11 else if n < lo ∨ hi < n then 2 else if nb = 1 ∧ (nm = 0 ∨ 24 < nm) ∨ nb = 0 ∧ nm ≠ 0 then 12 else if (k : Int) < (kidsOf op).1 ∨ (kidsOf op).2 < k then 3 else 0 := by
  subst hlo hhi hnb
  unfold wrongE
  by_cases h : op = 3 ∨ op = 4
  · simp [h]
  · simp [h]

set_option maxRecDepth 100000 in
set_option maxHeartbeats 4000000 in
theorem wrong_any (op n : Int) (s : ByteArray) (A : Option Addr) (k c : Nat) (w : World) (hs : s.size ≤ maxLen) (hk : k ≤ maxLen) :
    Calls Tryd.prog 67 #[.agg #[.int .i64 op, .int .i64 n, .string s, .slice A k c]] w fun e w' => e = .returned (.int .i64 (wrongE op n s.size k)) ∧ Below w.heap.size w w' := by
  unfold maxLen at hs hk
  obtain ⟨fk, hfk⟩ : ∃ fk, fk = kidsOf op := ⟨_, rfl⟩
  obtain ⟨W, hW⟩ : ∃ W, W = wrongE op n s.size k := ⟨_, rfl⟩
  rw [← hW]
  have HK := Lib.hid (fun W => kids_any op W)
  rw [← hfk] at HK
  have HB := Lib.hid ((Below.refl w.heap.size w).alloc (Nat.le_refl _) (.cells #[.int .i64 op, .int .i64 n, .string s, .slice A k c] 26))
  have HW := Lib.hid hW
  have HFK := Lib.hid hfk
  clear hfk hW
  have hnm : (0 < s.size ∧ s.toList.isEmpty = false) ∨ (s.size = 0 ∧ s.toList.isEmpty = true) := by
    rcases Nat.eq_zero_or_pos s.size with h | h
    · exact .inr ⟨h, isEmpty_of_size h⟩
    · exact .inl ⟨h, isEmpty_of_pos h⟩
  have hcl : op = 1 ∨ op = 2 ∨ op = 3 ∨ op = 4 ∨ (op ≠ 1 ∧ op ≠ 2 ∧ op ≠ 3 ∧ op ≠ 4 ∧ (op == 1) = false ∧ (op == 2) = false ∧ (op == 3) = false ∧ (op == 4) = false) := by
    by_cases h1 : op = 1
    · exact .inl h1
    by_cases h2 : op = 2
    · exact .inr (.inl h2)
    by_cases h3 : op = 3
    · exact .inr (.inr (.inl h3))
    by_cases h4 : op = 4
    · exact .inr (.inr (.inr (.inl h4)))
    exact .inr (.inr (.inr (.inr ⟨h1, h2, h3, h4, by simpa using h1, by simpa using h2, by simpa using h3, by simpa using h4⟩)))
  rcases hnm with ⟨hn1, hn2⟩ | ⟨hn1, hn2⟩
  all_goals
    have HN1 := Lib.hid hn1
    try clear hn1
    rcases hcl with rfl | rfl | rfl | rfl | ⟨h1, h2, h3, h4, b1, b2, b3, b4⟩
    all_goals
      (try have HOP := Lib.hid (And.intro h1 (And.intro h2 (And.intro h3 h4))))
      (try clear h1 h2 h3 h4)
      go_enter Tryd.func67, Tryd.ntmps67
      go_wp2_with fail
      refine (HK.out _).mono ?_
      rintro e w' ⟨rfl, hw⟩
      rw [← hw]
      clear hw
      go_wp2_with fail
      all_goals
        go_ret
        refine ⟨?_, HB.out⟩
        have hn := HN1.out
        refine congrArg (fun x => Ending.returned (.int .i64 x)) ?_
        rw [HW.out]
        first
          | rw [wrongE_cls 1 n _ _ (-255) 255 0 rfl rfl rfl]
          | rw [wrongE_cls 2 n _ _ 0 1 0 rfl rfl rfl]
          | rw [wrongE_cls 3 n _ _ 0 0 1 rfl rfl rfl]
          | rw [wrongE_cls 4 n _ _ 0 0 1 rfl rfl rfl]
          | (obtain ⟨o1, o2, o3, o4⟩ := HOP.out
             rw [wrongE_cls op n _ _ 0 0 0 (if_neg o1) (by unfold highE; rw [if_neg o1, if_neg o2]) (by rw [if_neg (by omega)])])
        rw [← HFK.out]
        repeat' split
        all_goals first | rfl | omega
end Go.Proofs.YtcjblbpkjegmiaaDoor
