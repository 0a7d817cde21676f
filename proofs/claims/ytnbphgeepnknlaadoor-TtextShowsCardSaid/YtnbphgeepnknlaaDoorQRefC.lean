/- Walks of the reference of term texts: ref31.strong, between, lone, side, none. -/
import Derived.Test.YtnbphgeepnknlaaDoorQRefA
import Derived.Test.YtnbphgeepnknlaaDoorQLexB
import Derived.Test.YtnbphgeepnknlaaDoorQDecQ
import Derived.Test.YtnbphgeepnknlaaDoorQTrmE
namespace Go.Proofs.YtnbphgeepnknlaaDoor
open Go.RowKit
set_option linter.unusedVariables false

set_option maxHeartbeats 4000000 in
theorem rstrong_any (op : Int) (w : World) :
    Calls Tryd.prog 33 #[.int .i64 op] w fun e w' => e = .returned (.int .i64 ((ruleOf op : Nat) + 1 : Int)) ∧ w = w' := by
  obtain ⟨r, hr⟩ : ∃ r, r = ruleOf op := ⟨_, rfl⟩
  rw [← hr]
  have HR := Lib.hid hr
  clear hr
  go_enter Tryd.func33, Tryd.ntmps33
  go_wp2
  all_goals
    go_ret
    rw [HR.out]
    refine ⟨?_, rfl⟩
    simp_all [ruleOf]

set_option maxRecDepth 100000 in
set_option maxHeartbeats 8000000 in
theorem rbetween_any (op : Int) (w : World) (h6 : 6 ≤ op) (h17 : op ≤ 17) :
    Calls Tryd.prog 35 #[.int .i64 op] w fun e w' => e = .returned (.string ⟨(betw op).toArray⟩) ∧ Below w.heap.size w w' := by
  have hc : op = 6 ∨ op = 7 ∨ op = 8 ∨ op = 9 ∨ op = 10 ∨ op = 11 ∨ op = 12 ∨ op = 13 ∨ op = 14 ∨ op = 15 ∨ op = 16 ∨ op = 17 := by omega
  clear h6 h17
  rcases hc with rfl | rfl | rfl | rfl | rfl | rfl | rfl | rfl | rfl | rfl | rfl | rfl
  all_goals
    go_enter Tryd.func35, Tryd.ntmps35
    go_wp2
    go_ret
    exact ⟨rfl, (Below.refl _ _).alloc (Nat.le_refl _) _⟩

set_option maxRecDepth 100000 in
set_option maxHeartbeats 8000000 in
theorem rlone_any (op n : Int) (s : ByteArray) (A : Option Addr) (k c : Nat) (w : World) (hs : s.size ≤ 1000) (hn1 : -9223372036854775808 ≤ n) (hn2 : n ≤ 9223372036854775807) (ho : 1 ≤ op) (ho4 : op ≤ 4) :
    Calls Tryd.prog 34 #[.agg #[.int .i64 op, .int .i64 n, .string s, .slice A k c]] w fun e w' => e = .returned (.string ⟨(loneT numS op n (bs s)).toArray⟩) ∧ Below w.heap.size w w' := by
  obtain ⟨w1, hw1⟩ : ∃ w1, w1 = w.alloc (.cells #[.int .i64 op, .int .i64 n, .string s, .slice A k c] 24) := ⟨_, rfl⟩
  have hb1 : Below w.heap.size w w1 := by rw [hw1]; exact (Below.refl _ _).alloc (Nat.le_refl _) _
  have hs1 : w.heap.size ≤ w1.heap.size := hb1.size
  have HB1 := Lib.hid hb1
  have HT := Lib.hid (rtext1_any n w1 hn1 hn2)
  have HW1 := Lib.hid hw1
  clear hb1 hw1
  have hc : op = 1 ∨ op = 2 ∨ op = 3 ∨ op = 4 := by omega
  clear ho ho4
  rcases hc with rfl | rfl | rfl | rfl
  · obtain ⟨S, hS⟩ : ∃ S, S = numS n := ⟨_, rfl⟩
    have HR : Hid (loneT numS 1 n (bs s) = S) := by show _ = _; rw [hS]; rfl
    rw [← hS] at HT
    clear hS
    go_enter Tryd.func34, Tryd.ntmps34
    go_wp2_with fail
    rw [← HW1.out]
    refine (HT.out).mono ?_
    rintro e w2 ⟨rfl, hb2⟩
    have HB2 := Lib.hid (HB1.out.trans (hb2.mono hs1))
    clear hb2
    go_wp2_with fail
    go_ret
    exact ⟨by rw [HR.out]; rfl, HB2.out⟩
  · by_cases h1 : n = 1
    · subst h1
      go_enter Tryd.func34, Tryd.ntmps34
      go_wp2
      go_ret
      exact ⟨rfl, by rw [← HW1.out]; exact HB1.out⟩
    · have h1' : (n == 1) = false := by simpa using h1
      have HR : Hid (loneT numS 2 n (bs s) = [102, 97, 108, 115, 101]) := by show _ = _; unfold loneT; rw [if_neg (by omega), if_pos rfl, if_neg h1]
      clear h1
      go_enter Tryd.func34, Tryd.ntmps34
      go_wp2
      go_ret
      exact ⟨by rw [HR.out]; rfl, by rw [← HW1.out]; exact HB1.out⟩
  · go_enter Tryd.func34, Tryd.ntmps34
    go_wp2
    go_ret
    exact ⟨rfl, by rw [← HW1.out]; exact HB1.out⟩
  · obtain ⟨S1, hS1⟩ : ∃ S1 : ByteArray, S1 = (⟨#[110, 101, 120, 116, 40]⟩ : ByteArray) ++ s := ⟨_, rfl⟩
    obtain ⟨S2, hS2⟩ : ∃ S2 : ByteArray, S2 = S1 ++ (⟨#[41]⟩ : ByteArray) := ⟨_, rfl⟩
    have hz1 : S1.size ≤ 1005 := by rw [hS1, ByteArray.size_append]; show 5 + s.size ≤ _; omega
    have hcat1 : ∀ W, (Op.stringOp .add (⟨#[110, 101, 120, 116, 40]⟩ : ByteArray) s).run Tryd.prog W = .ok (.string S1) W := fun W => by rw [hS1]; exact run_string_add_sum W _ _ (by show 5 + s.size ≤ _; omega)
    have hcat2 : ∀ W, (Op.stringOp .add S1 (⟨#[41]⟩ : ByteArray)).run Tryd.prog W = .ok (.string S2) W := fun W => by rw [hS2]; exact run_string_add_sum W _ _ (by show S1.size + 1 ≤ _; omega)
    have HR : Hid ((⟨(loneT numS 4 n (bs s)).toArray⟩ : ByteArray) = S2) := by show _ = _; apply bs_ext; rw [hS2, hS1]; unfold loneT; simp [bs]
    clear hS1 hS2 hz1
    go_enter Tryd.func34, Tryd.ntmps34
    go_wp2
    go_ret
    exact ⟨by rw [HR.out]; rfl, by rw [← HW1.out]; exact HB1.out⟩

set_option maxRecDepth 100000 in
set_option maxHeartbeats 8000000 in
theorem rside_any (op : Int) (f : Bool) (w : World) (h6 : 6 ≤ op) (h17 : op ≤ 17) :
    Calls Tryd.prog 36 #[.int .i64 op, .bool f] w fun e w' => e = .returned (.int .i64 ((asksN op (if f then 0 else 1) : Nat) + 1 : Int)) ∧ w = w' := by
  have HS := Lib.hid (rstrong_any op w)
  have hc : op = 6 ∨ op = 7 ∨ op = 8 ∨ op = 9 ∨ op = 10 ∨ op = 11 ∨ op = 12 ∨ op = 13 ∨ op = 14 ∨ op = 15 ∨ op = 16 ∨ op = 17 := by omega
  clear h6 h17
  rcases hc with rfl | rfl | rfl | rfl | rfl | rfl | rfl | rfl | rfl | rfl | rfl | rfl
  all_goals
    cases f
    all_goals
      simp only [ruleOf] at HS
      go_enter Tryd.func36, Tryd.ntmps36
      go_wp2_with fail
      refine (HS.out).mono ?_
      rintro e w1 ⟨rfl, hw⟩
      rw [← hw]
      clear hw
      go_wp2
      go_ret
      exact ⟨rfl, rfl⟩

mutual
/-- Whether the reference finds no text. -/
def noneT : Tm → Bool
  | .mk o n s l => if (o = 3 ∨ o = 4) ∧ isName s.data.toList = false then true else if (o = 6 ∨ o = 7) ∧ l.length = 1 then true else noneL l
def noneL : List Tm → Bool
  | [] => false
  | t :: r => noneT t || noneL r
end
theorem noneT_eq (t : Tm) : noneT t = if (t.op = 3 ∨ t.op = 4) ∧ isName t.name.data.toList = false then true else if (t.op = 6 ∨ t.op = 7) ∧ t.kids.length = 1 then true else noneL t.kids := by
  cases t; rw [noneT]; rfl
mutual
theorem none_told : ∀ (t : Tm) (d : Nat), t.okT d → noneT t = !toldT t
  | .mk o n s l, d, h => by
    rw [Tm.okT] at h
    have hl := noneL_told l (d + 1) h.2.2
    rw [noneT, toldT]
    by_cases h34 : o = 3 ∨ o = 4
    · have hk : (kidsOf o).2 = 0 := by unfold kidsOf; rw [if_pos (by omega)]
      have hw := (wrong_ok h.2.1).2.2.2.2.1
      rw [hk] at hw
      have hl0 : l = [] := List.eq_nil_of_length_eq_zero (by omega)
      rw [if_neg (show ¬ ((o = 6 ∨ o = 7) ∧ l.length = 1) by omega), if_neg (show ¬ ((o = 6 ∨ o = 7) ∧ l.length = 1) by omega), if_pos h34, hl0]
      cases hn : isName s.data.toList
      · rw [if_pos ⟨h34, rfl⟩]; rfl
      · rw [if_neg (fun h => by cases h.2)]; rfl
    · rw [if_neg (fun h => h34 h.1), if_neg h34, hl]
      by_cases h67 : (o = 6 ∨ o = 7) ∧ l.length = 1
      · rw [if_pos h67, if_pos h67]; rfl
      · rw [if_neg h67, if_neg h67]
theorem noneL_told : ∀ (l : List Tm) (d : Nat), Tm.okL l d → noneL l = !toldL l
  | [], _, _ => rfl
  | t :: r, d, h => by
    rw [Tm.okL] at h
    rw [noneL, toldL, none_told t d h.1, noneL_told r d h.2]
    cases toldT t <;> cases toldL r <;> rfl
end

set_option maxRecDepth 100000 in
set_option maxHeartbeats 8000000 in
theorem rnone_any : ∀ (N : Nat) (t : Tm) (A : Option Addr) (c : Nat) (w : World) (d : Nat), t.size ≤ N → t.size ≤ 9000000 → t.okT d → TmV w A c t →
    Calls Tryd.prog 17 #[t.val A c] w fun e w' => e = .returned (.bool (noneT t)) ∧ Below w.heap.size w w' := by
  intro N
  induction N with
  | zero =>
    intro t A c w d hN
    cases t; rw [Tm.size] at hN; omega
  | succ N ih =>
    intro t A c w d hN hd hok hV
    obtain ⟨n, hn⟩ : ∃ n, n = t.kids.length := ⟨_, rfl⟩
    obtain ⟨F, hF⟩ : ∃ F : Ending → World → Prop, F = fun e w' => e = .returned (.bool (noneT t)) ∧ Below w.heap.size w w' := ⟨_, rfl⟩
    rw [← hF]
    have hsz : t.size = 1 + Tm.sizeL t.kids := by cases t; rw [Tm.size]; rfl
    have hnl := Tm.len_le t.kids
    have hcap := hV.cap
    have hcapm := hV.capm
    unfold maxLen at hcapm
    have hnm : t.name.size ≤ 24 := (wrong_ok (okT_open hok).2.1).2.2.1
    obtain ⟨w1, hw1⟩ : ∃ w1, w1 = w.alloc (.cells #[.int .i64 t.op, .int .i64 t.num, .string t.name, .slice A n c] 24) := ⟨_, rfl⟩
    have hb1 : Below w.heap.size w w1 := by rw [hw1]; exact (Below.refl _ _).alloc (Nat.le_refl _) _
    have hs1 : w1.heap.size = w.heap.size + 1 := by rw [hw1]; simp
    have hbx : w1.heap[w.heap.size]? = some (.cells #[.int .i64 t.op, .int .i64 t.num, .string t.name, .slice A n c] 24 (0, 0)) := by rw [hw1]; exact heap_alloc_new w _
    have his := ris_any t.name w1 (by omega)
    have HRE := Lib.hid (noneT_eq t)
    obtain ⟨r, hr⟩ : ∃ r, r = noneT t := ⟨_, rfl⟩
    rw [← hr] at HRE hF
    obtain ⟨nb, hnb⟩ : ∃ nb, nb = isName t.name.data.toList := ⟨_, rfl⟩
    rw [show isName (bs t.name) = isName t.name.data.toList from rfl, ← hnb] at his
    rw [← hnb] at HRE
    have HIS := Lib.hid his
    have HOK : Hid (∀ k ∈ t.kids, k.okT (d + 1)) := (okT_open hok).2.2
    have HSZ : Hid (∀ k ∈ t.kids, k.size ≤ N ∧ k.size ≤ 9000000) := fun k hk => by
      have h1 := Tm.sizeL_mem hk
      omega
    have hkl : t.kids.length ≤ 10000000 := by omega
    rw [← hn] at hcap hkl HRE
    show Calls Tryd.prog 17 #[.agg #[.int .i64 t.op, .int .i64 t.num, .string t.name, .slice A t.kids.length c]] w F
    rw [← hn]
    have HF := Lib.hid hF
    have HIH := Lib.hid ih
    have HN := Lib.hid hn
    have HK := Lib.hid hV.kids
    have HB1 := Lib.hid hb1
    have HS1 := Lib.hid hs1
    have HBX := Lib.hid hbx
    have HW1 := Lib.hid hw1
    obtain ⟨op, hop⟩ : ∃ op, op = t.op := ⟨_, rfl⟩
    have HX3 : ∀ W, Below w1.heap.size w1 W → W.cell? ⟨w.heap.size, 3, none⟩ = some (.slice A n c) ∧ W.cell? ⟨w.heap.size, 0, none⟩ = some (.int .i64 op) ∧ W.cell? ⟨w.heap.size, 2, none⟩ = some (.string t.name) := fun W hb => by
      have hx := (hb.block _ (by rw [HS1.out]; omega)).trans HBX.out
      rw [hop]
      exact ⟨by rw [cell_of_row W w.heap.size 3 _ _ (0, 0) hx]; rfl, by rw [cell_of_row W w.heap.size 0 _ _ (0, 0) hx]; rfl, by rw [cell_of_row W w.heap.size 2 _ _ (0, 0) hx]; rfl⟩
    have HXX := Lib.hid HX3
    rw [← hop] at HRE HW1 ⊢
    clear hF ih hn hsz hnl hb1 hs1 hbx hw1 hV hN hr hnb his hok HX3 hnm hop
    have hcl : (op = 3 ∨ op = 4) ∨ ((op = 6 ∨ op = 7) ∧ n = 1) ∨ (op = 6 ∧ n ≠ 1 ∧ ((n : Int) == 1) = false) ∨ (op = 7 ∧ n ≠ 1 ∧ ((n : Int) == 1) = false) ∨ (op ≠ 6 ∧ op ≠ 7 ∧ op ≠ 3 ∧ op ≠ 4 ∧ (op == 6) = false ∧ (op == 7) = false ∧ (op == 3) = false ∧ (op == 4) = false) := by
      by_cases h3 : op = 3
      · exact .inl (.inl h3)
      by_cases h4 : op = 4
      · exact .inl (.inr h4)
      by_cases h6 : op = 6
      · by_cases h1 : n = 1
        · exact .inr (.inl ⟨.inl h6, h1⟩)
        · exact .inr (.inr (.inl ⟨h6, h1, by simp; omega⟩))
      by_cases h7 : op = 7
      · by_cases h1 : n = 1
        · exact .inr (.inl ⟨.inr h7, h1⟩)
        · exact .inr (.inr (.inr (.inl ⟨h7, h1, by simp; omega⟩)))
      exact .inr (.inr (.inr (.inr ⟨h6, h7, h3, h4, by simpa using h6, by simpa using h7, by simpa using h3, by simpa using h4⟩)))
    rcases hcl with h34 | ⟨h67, h1⟩ | hrest
    · cases nb with
      | false =>
        have HR : Hid (r = true) := by show _ = _; rw [HRE.out, if_pos ⟨h34, rfl⟩]
        rcases h34 with rfl | rfl
        all_goals
          go_enter Tryd.func17, Tryd.ntmps17
          go_wp2_with fail
          rw [← HW1.out]
          refine (HIS.out).mono ?_
          rintro e w2 ⟨rfl, hb2⟩
          have HB2 := Lib.hid (HB1.out.trans (hb2.mono (by have := HS1.out; omega)))
          clear hb2
          go_wp2_with fail
          rw [HF.out, HR.out]
          exact ⟨rfl, HB2.out⟩
      | true =>
        have HR : Hid (r = noneL t.kids) := by show _ = _; rw [HRE.out, if_neg (fun h => by cases h.2), if_neg (by omega)]
        rcases h34 with rfl | rfl
        all_goals
          go_enter Tryd.func17, Tryd.ntmps17
          go_wp2_with fail
          rw [← HW1.out]
          refine (HIS.out).mono ?_
          rintro e w2 ⟨rfl, hb2⟩
          have HST := Lib.hid hb2
          obtain ⟨ks3, ks0, ks2⟩ := HXX.out w2 hb2
          have hbw2 : w.heap.size < w2.heap.size := by have := HS1.out; have := hb2.size; omega
          clear hb2
          go_wp2_with fail
          go_loopw [3] (fun si wr => ∃ k : Nat, k ≤ n ∧ si = .int .i64 k ∧ Below w1.heap.size w1 wr ∧ noneL (t.kids.drop k) = r) (fun i _ => n - (intOf i).toNat)
          case atStart => exact ⟨0, Nat.zero_le _, rfl, HST.out, HR.out.symm⟩
          case round =>
            obtain ⟨k, hk, rfl, hbel, htl⟩ := hrel
            have HBL := Lib.hid hbel
            have HTL := Lib.hid htl
            have hszr := hbel.size
            obtain ⟨kr3, kr0, kr2⟩ := HXX.out wr hbel
            have hbt : Below w.heap.size w wr := HB1.out.trans (hbel.mono (by have := HS1.out; omega))
            have hbwr : w.heap.size < wr.heap.size := by have := HS1.out; omega
            by_cases hlt : k < n
            · obtain ⟨kd, hkd⟩ : ∃ kd, t.kids[k]? = some kd := ⟨_, List.getElem?_eq_getElem (by have := HN.out; omega)⟩
              have hmem : kd ∈ t.kids := List.mem_of_getElem? hkd
              rcases HK.out with h9 | ⟨g, off, rfl, hg, hrow⟩
              · rw [h9] at hkd; simp at hkd
              have hat := (hrow.get hkd).below hbt rfl hg
              obtain ⟨q0, q1, q2, A2, c2, q3, hV2⟩ := hat.open
              have hgw : g < wr.heap.size := by omega
              have hih := HIH.out kd A2 c2 wr (d + 1) (HSZ.out kd hmem).1 (HSZ.out kd hmem).2 (HOK.out kd hmem) hV2
              unfold Tm.val at hih
              obtain ⟨n2, hn2⟩ : ∃ n2, n2 = kd.kids.length := ⟨_, rfl⟩
              rw [← hn2] at q3 hih
              obtain ⟨z, hz⟩ : ∃ z, z = noneT kd := ⟨_, rfl⟩
              rw [← hz] at hih
              have HDR : Hid (noneL (t.kids.drop k) = (z || noneL (t.kids.drop (k + 1)))) := by
                obtain ⟨hj, hj2⟩ := List.getElem?_eq_some_iff.1 hkd
                show _ = _
                rw [List.drop_eq_getElem_cons hj, hj2, noneL, ← hz]
              have HC := Lib.hid hih
              have hk0 : (0 : Int) ≤ (k : Int) := by omega
              have hk1 : (k : Int) < (n : Int) := by omega
              have e1 : off + 4 * k = off + k * 4 := by omega
              rw [e1] at q0 q1 q2 q3
              have HBT := Lib.hid hbt
              clear hih hn2 hz hV2 hat hrow hmem hkd e1 hbel htl hbt kr0 kr2
              go_wp2_with fail
              refine (HC.out).mono ?_
              rintro e w4 ⟨rfl, hb4⟩
              have HB5 := Lib.hid (HBL.out.trans (hb4.mono hszr))
              have HB6 := Lib.hid (HBT.out.trans (hb4.mono (by omega)))
              clear hb4 q0 q1 q2 q3 kr3
              cases z with
              | true =>
                have HR2 : Hid (r = true) := by show _ = _; rw [← HTL.out, HDR.out]; rfl
                go_wp2_with fail
                rw [HF.out, HR2.out]
                exact ⟨rfl, HB6.out⟩
              | false =>
                have HR2 : Hid (noneL (t.kids.drop (k + 1)) = r) := by show _ = _; rw [← HTL.out, HDR.out]; rfl
                go_wp2_with fail
                go_roundw
                case rel => exact ⟨k + 1, by omega, by go_num, HB5.out, HR2.out⟩
                case measure => simp [intOf]; omega
            · have HE : Hid (r = false) := by
                show _ = _
                rw [← HTL.out, List.drop_eq_nil_of_le (by have := HN.out; omega)]
                rfl
              have hk1 : ¬ (k : Int) < (n : Int) := by omega
              have HBE := Lib.hid hbt
              clear hlt hbel htl hbt kr0 kr2
              go_wp2_with fail
              rw [HF.out, HE.out]
              exact ⟨rfl, HBE.out⟩
    · have HR : Hid (r = true) := by show _ = _; rw [HRE.out, if_neg (by omega), if_pos ⟨h67, h1⟩]
      subst h1
      rcases h67 with rfl | rfl
      all_goals
        go_enter Tryd.func17, Tryd.ntmps17
        go_wp2_with fail
        rw [HF.out, HR.out]
        exact ⟨rfl, by rw [← HW1.out]; exact HB1.out⟩
    · have HR : Hid (r = noneL t.kids) := by show _ = _; rw [HRE.out, if_neg (by omega), if_neg (by omega)]
      have HST : Hid (Below w1.heap.size w1 w1) := Below.refl _ _
      rcases hrest with ⟨rfl, h1, h1b⟩ | ⟨rfl, h1, h1b⟩ | ⟨h6, h7, h3, h4, b6, b7, b3, b4⟩
      all_goals
        (try clear h1)
        (try clear h6 h7 h3 h4)
        go_enter Tryd.func17, Tryd.ntmps17
        go_wp2_with fail
        rw [← HW1.out]
        go_loopw [3] (fun si wr => ∃ k : Nat, k ≤ n ∧ si = .int .i64 k ∧ Below w1.heap.size w1 wr ∧ noneL (t.kids.drop k) = r) (fun i _ => n - (intOf i).toNat)
        case atStart => exact ⟨0, Nat.zero_le _, rfl, HST.out, HR.out.symm⟩
        case round =>
          obtain ⟨k, hk, rfl, hbel, htl⟩ := hrel
          have HBL := Lib.hid hbel
          have HTL := Lib.hid htl
          have hszr := hbel.size
          obtain ⟨kr3, kr0, kr2⟩ := HXX.out wr hbel
          have hbt : Below w.heap.size w wr := HB1.out.trans (hbel.mono (by have := HS1.out; omega))
          have hbwr : w.heap.size < wr.heap.size := by have := HS1.out; omega
          by_cases hlt : k < n
          · obtain ⟨kd, hkd⟩ : ∃ kd, t.kids[k]? = some kd := ⟨_, List.getElem?_eq_getElem (by have := HN.out; omega)⟩
            have hmem : kd ∈ t.kids := List.mem_of_getElem? hkd
            rcases HK.out with h9 | ⟨g, off, rfl, hg, hrow⟩
            · rw [h9] at hkd; simp at hkd
            have hat := (hrow.get hkd).below hbt rfl hg
            obtain ⟨q0, q1, q2, A2, c2, q3, hV2⟩ := hat.open
            have hgw : g < wr.heap.size := by omega
            have hih := HIH.out kd A2 c2 wr (d + 1) (HSZ.out kd hmem).1 (HSZ.out kd hmem).2 (HOK.out kd hmem) hV2
            unfold Tm.val at hih
            obtain ⟨n2, hn2⟩ : ∃ n2, n2 = kd.kids.length := ⟨_, rfl⟩
            rw [← hn2] at q3 hih
            obtain ⟨z, hz⟩ : ∃ z, z = noneT kd := ⟨_, rfl⟩
            rw [← hz] at hih
            have HDR : Hid (noneL (t.kids.drop k) = (z || noneL (t.kids.drop (k + 1)))) := by
              obtain ⟨hj, hj2⟩ := List.getElem?_eq_some_iff.1 hkd
              show _ = _
              rw [List.drop_eq_getElem_cons hj, hj2, noneL, ← hz]
            have HC := Lib.hid hih
            have hk0 : (0 : Int) ≤ (k : Int) := by omega
            have hk1 : (k : Int) < (n : Int) := by omega
            have e1 : off + 4 * k = off + k * 4 := by omega
            rw [e1] at q0 q1 q2 q3
            have HBT := Lib.hid hbt
            clear hih hn2 hz hV2 hat hrow hmem hkd e1 hbel htl hbt kr0 kr2
            go_wp2_with fail
            refine (HC.out).mono ?_
            rintro e w4 ⟨rfl, hb4⟩
            have HB5 := Lib.hid (HBL.out.trans (hb4.mono hszr))
            have HB6 := Lib.hid (HBT.out.trans (hb4.mono (by omega)))
            clear hb4 q0 q1 q2 q3 kr3
            cases z with
            | true =>
              have HR2 : Hid (r = true) := by show _ = _; rw [← HTL.out, HDR.out]; rfl
              go_wp2_with fail
              rw [HF.out, HR2.out]
              exact ⟨rfl, HB6.out⟩
            | false =>
              have HR2 : Hid (noneL (t.kids.drop (k + 1)) = r) := by show _ = _; rw [← HTL.out, HDR.out]; rfl
              go_wp2_with fail
              go_roundw
              case rel => exact ⟨k + 1, by omega, by go_num, HB5.out, HR2.out⟩
              case measure => simp [intOf]; omega
          · have HE : Hid (r = false) := by
              show _ = _
              rw [← HTL.out, List.drop_eq_nil_of_le (by have := HN.out; omega)]
              rfl
            have hk1 : ¬ (k : Int) < (n : Int) := by omega
            have HBE := Lib.hid hbt
            clear hlt hbel htl hbt kr0 kr2
            go_wp2_with fail
            rw [HF.out, HE.out]
            exact ⟨rfl, HBE.out⟩
end Go.Proofs.YtnbphgeepnknlaaDoor
