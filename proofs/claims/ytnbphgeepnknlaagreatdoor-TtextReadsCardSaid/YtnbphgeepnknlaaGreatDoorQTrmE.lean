/- Walk: ttext.told. -/
import Derived.Test.YtnbphgeepnknlaaGreatDoorQBld
import Derived.Test.YtnbphgeepnknlaaGreatDoorQLex6
namespace Go.Proofs.YtnbphgeepnknlaaGreatDoor
open Go.RowKit
set_option linter.unusedVariables false

mutual
def toldT : Tm → Bool
 | .mk o n s l => if (o = 6 ∨ o = 7) ∧ l.length = 1 then false else if o = 3 ∨ o = 4 then isName s.data.toList else toldL l
def toldL : List Tm → Bool
 | [] => true
 | t :: r => toldT t && toldL r
end
theorem toldT_eq (t : Tm) : toldT t = if (t.op = 6 ∨ t.op = 7) ∧ t.kids.length = 1 then false else if t.op = 3 ∨ t.op = 4 then isName t.name.data.toList else toldL t.kids := by
 cases t; rw [toldT]; rfl
/-- The box of a term. -/
def boxT (A : Option Addr) (c n : Nat) (t : Tm) : Obj := .cells #[.int .i64 t.op, .int .i64 t.num, .string t.name, .slice A n c] 25

set_option maxRecDepth 100000 in
set_option maxHeartbeats 8000000 in
theorem told_any : ∀ (N : Nat) (t : Tm) (A : Option Addr) (c : Nat) (w : World), t.size ≤ N → t.size ≤ 9000000 → TmV w A c t → WordsT w →
 Calls Tryz.prog 63 #[t.val A c] w fun e w' => e = .returned (.bool (toldT t)) ∧ Below w.heap.size w w'
 | 0, t, A, c, w, hN, _, _, _ => by cases t; rw [Tm.size] at hN; omega
 | N + 1, t, A, c, w, hN, hd, hV, hT => by
  obtain ⟨n, hn⟩ : ∃ n, n = t.kids.length := ⟨_, rfl⟩
  have hcap := hV.cap
  have hcapm := hV.capm
  unfold maxLen at hcapm
  have hnl : n ≤ 10000000 := by
   have : t.kids.length ≤ Tm.sizeL t.kids := Tm.len_le t.kids
   cases t with
   | mk o nn ss l => rw [Tm.size] at hd; simp only [Tm.kids] at this hn; omega
  have HSZ : Hid (∀ k ∈ t.kids, k.size ≤ N ∧ k.size ≤ 9000000) := fun k hk => by
   have h1 := Tm.sizeL_mem hk
   cases t with
   | mk o nn ss l => rw [Tm.size] at hN hd; simp only [Tm.kids] at h1; omega
  have hb1 : Below w.heap.size w (w.alloc (.cells #[.int .i64 t.op, .int .i64 t.num, .string t.name, .slice A t.kids.length c] 25)) := (Below.refl _ _).alloc (Nat.le_refl _) _
  have his := isw_any t.name (w.alloc (.cells #[.int .i64 t.op, .int .i64 t.num, .string t.name, .slice A t.kids.length c] 25)) hV.name (hT.below hb1)
  have HB1 := Lib.hid hb1
  have HIS := Lib.hid his
  have HV := Lib.hid hV
  have HT := Lib.hid hT
  have HN := Lib.hid hn
  obtain ⟨r, hr⟩ : ∃ r, r = toldT t := ⟨_, rfl⟩
  rw [← hr]
  have hre := toldT_eq t
  rw [← hr, ← hn] at hre
  have HRE := Lib.hid hre
  unfold Tm.val
  rw [← hn] at HB1 HIS hcap ⊢
  clear hb1 his hV hT hn hr hre hN
  obtain ⟨op, hop⟩ : ∃ op, op = t.op := ⟨_, rfl⟩
  rw [← hop] at HB1 HIS HRE ⊢
  have hcl : ((op = 6 ∨ op = 7) ∧ n = 1) ∨ (op = 3 ∨ op = 4) ∨ (op = 6 ∧ n ≠ 1 ∧ ((n : Int) == 1) = false) ∨ (op = 7 ∧ n ≠ 1 ∧ ((n : Int) == 1) = false) ∨ (op ≠ 6 ∧ op ≠ 7 ∧ op ≠ 3 ∧ op ≠ 4 ∧ (op == 6) = false ∧ (op == 7) = false ∧ (op == 3) = false ∧ (op == 4) = false) := by
   by_cases h6 : op = 6
   · by_cases h1 : n = 1
     · exact .inl ⟨.inl h6, h1⟩
     · exact .inr (.inr (.inl ⟨h6, h1, by simp; omega⟩))
   by_cases h7 : op = 7
   · by_cases h1 : n = 1
     · exact .inl ⟨.inr h7, h1⟩
     · exact .inr (.inr (.inr (.inl ⟨h7, h1, by simp; omega⟩)))
   by_cases h3 : op = 3
   · exact .inr (.inl (.inl h3))
   by_cases h4 : op = 4
   · exact .inr (.inl (.inr h4))
   exact .inr (.inr (.inr (.inr ⟨h6, h7, h3, h4, by simpa using h6, by simpa using h7, by simpa using h3, by simpa using h4⟩)))
  clear hop
  rcases hcl with ⟨h67, h1⟩ | h34 | hrest
  · have HR : Hid (r = false) := by show _ = _; rw [HRE.out, if_pos ⟨h67, h1⟩]
    subst h1
    rcases h67 with rfl | rfl
    all_goals
     go_enter Tryz.func63, Tryz.ntmps63
     go_wp2_with fail
     go_ret
     rw [HR.out]
     exact ⟨rfl, HB1.out⟩
  · have HR : Hid (r = isName t.name.data.toList) := by
     show _ = _
     rw [HRE.out, if_neg (by omega), if_pos h34]
    rcases h34 with rfl | rfl
    all_goals
     go_enter Tryz.func63, Tryz.ntmps63
     go_wp2_with fail
     refine (HIS.out).mono ?_
     rintro e w1 ⟨rfl, hw⟩
     rw [← hw]
     clear hw
     go_wp2_with fail
     go_ret
     rw [HR.out]
     exact ⟨rfl, HB1.out⟩
  · have HR : Hid (r = toldL t.kids) := by
     show _ = _
     rw [HRE.out, if_neg (by omega), if_neg (by omega)]
    rcases hrest with ⟨rfl, h1, h1b⟩ | ⟨rfl, h1, h1b⟩ | ⟨h6, h7, h3, h4, b6, b7, b3, b4⟩
    all_goals
     (try clear h1)
     (try clear h6 h7 h3 h4)
     go_enter Tryz.func63, Tryz.ntmps63
     go_wp2_with fail
     go_loopw [23] (fun si wr => ∃ k : Nat, k ≤ n ∧ si = .int .i64 k ∧ Below w.heap.size w wr ∧ toldL (t.kids.drop k) = r) (fun i _ => n - (intOf i).toNat)
     case atStart => exact ⟨0, Nat.zero_le _, rfl, HB1.out, HR.out.symm⟩
     case round =>
      obtain ⟨k, hk, rfl, hbel, htl⟩ := hrel
      have HBL := Lib.hid hbel
      have HTL := Lib.hid htl
      have hszr := hbel.size
      clear hbel htl
      by_cases hlt : k < n
      · obtain ⟨kd, hkd⟩ : ∃ kd, t.kids[k]? = some kd := ⟨_, List.getElem?_eq_getElem (by have := HN.out; omega)⟩
        have hmem : kd ∈ t.kids := List.mem_of_getElem? hkd
        rcases HV.out.kids with h9 | ⟨g, off, rfl, hg, hrow⟩
        · rw [h9] at hkd; simp at hkd
        obtain ⟨q0, q1, q2, A2, c2, q3, hV2⟩ := (hrow.get hkd).open
        rw [← HBL.out.cell (p := ⟨g, _, none⟩) hg] at q0 q1 q2 q3
        have hgw : g < wr.heap.size := by omega
        obtain ⟨n2, hn2⟩ : ∃ n2, n2 = kd.kids.length := ⟨_, rfl⟩
        rw [← hn2] at q3
        have HN2 := Lib.hid hn2
        have HDR : Hid (t.kids.drop k = kd :: t.kids.drop (k + 1)) := by
         obtain ⟨hj, hj2⟩ := List.getElem?_eq_some_iff.1 hkd
         show _ = _
         rw [List.drop_eq_getElem_cons hj, hj2]
        have hk0 : (0 : Int) ≤ (k : Int) := by omega
        have hk1 : (k : Int) < (n : Int) := by omega
        have e1 : off + 4 * k = off + k * 4 := by omega
        rw [e1] at q0 q1 q2 q3
        have hbk : Below wr.heap.size wr (wr.alloc (.cells #[.int .i64 kd.op, .int .i64 kd.num, .string kd.name, .slice A2 n2 c2] 25)) := (Below.refl _ _).alloc (Nat.le_refl _) _
        have HBK := Lib.hid (HBL.out.trans (hbk.mono hszr))
        have HIH := Lib.hid (told_any N kd A2 c2 (wr.alloc (.cells #[.int .i64 kd.op, .int .i64 kd.num, .string kd.name, .slice A2 n2 c2] 25)) (HSZ.out kd hmem).1 (HSZ.out kd hmem).2 (hV2.below HBK.out rfl) (HT.out.below HBK.out))
        unfold Tm.val at HIH
        rw [← HN2.out] at HIH
        have hszk := HBK.out.size
        obtain ⟨z, hz⟩ : ∃ z, z = toldT kd := ⟨_, rfl⟩
        rw [← hz] at HIH
        have HZ := Lib.hid hz
        clear hkd hmem hrow hn2 hV2 e1 hbk hz
        go_wp2_with fail
        refine (HIH.out).mono ?_
        rintro e w2 ⟨rfl, hb2⟩
        have HB2 := Lib.hid (HBK.out.trans (hb2.mono hszk))
        clear hb2
        have HS : Hid (toldL (t.kids.drop k) = (z && toldL (t.kids.drop (k + 1)))) := by
         show _ = _
         rw [HDR.out, toldL, ← HZ.out]
        cases z with
        | false =>
         have HRF : Hid (r = false) := by show _ = _; rw [← HTL.out, HS.out]; rfl
         go_wp2_with fail
         go_ret
         rw [HRF.out]
         exact ⟨rfl, HB2.out⟩
        | true =>
         go_wp2_with fail
         go_roundw
         case rel => exact ⟨k + 1, by omega, by go_num, HB2.out, by rw [← HTL.out, HS.out]; rfl⟩
         case measure => first | (simp [intOf]; done) | (simp [intOf]; omega)
      · have HRT : Hid (r = true) := by
         show _ = _
         rw [← HTL.out, List.drop_eq_nil_of_le (by have := HN.out; omega)]
         rfl
        have hk1 : ¬ (k : Int) < (n : Int) := by omega
        go_wp2_with fail
        go_ret
        rw [HRT.out]
        exact ⟨rfl, HBL.out⟩
end Go.Proofs.YtnbphgeepnknlaaGreatDoor
