/-Walks of the reference of term texts: ref31.strong, between, lone, side, none.  Plain words for the reference of term texts.  Walks of the reference of term texts: ref31.text, Show.  Walk of the reference of term texts: ref31.Show. -/
import Derived.Test.YtcjblbpkjegmiaaDoorRfA1
import Derived.Test.YtcjblbpkjegmiaaDoorLexI
import Derived.Test.YtcjblbpkjegmiaaDoorTtrL2
import Derived.Test.YtcjblbpkjegmiaaDoorTrmH
namespace Go.Proofs.YtcjblbpkjegmiaaDoor
open Go.RowKit
set_option linter.unusedVariables false

set_option maxHeartbeats 4000000 in
theorem rstrong_any (op : Int) (w : World) :
    Calls Tryd.prog 74 #[.int .i64 op] w fun e w' => e = .returned (.int .i64 ((ruleOf op : Nat) + 1 : Int)) ∧ w = w' := by
  obtain ⟨r, hr⟩ : ∃ r, r = ruleOf op := ⟨_, rfl⟩
  rw [← hr]
  have HR := Lib.hid hr
  clear hr
  go_enter Tryd.func74, Tryd.ntmps74
  go_wp2
  all_goals
    go_ret
    rw [HR.out]
    refine ⟨?_, rfl⟩
    simp_all [ruleOf]

set_option maxRecDepth 100000 in
set_option maxHeartbeats 8000000 in
theorem rbetween_any (op : Int) (w : World) (h6 : 6 ≤ op) (h17 : op ≤ 17) :
    Calls Tryd.prog 76 #[.int .i64 op] w fun e w' => e = .returned (.string ⟨(betw op).toArray⟩) ∧ Below w.heap.size w w' := by
  have hc : op = 6 ∨ op = 7 ∨ op = 8 ∨ op = 9 ∨ op = 10 ∨ op = 11 ∨ op = 12 ∨ op = 13 ∨ op = 14 ∨ op = 15 ∨ op = 16 ∨ op = 17 := by omega
  clear h6 h17
  rcases hc with rfl | rfl | rfl | rfl | rfl | rfl | rfl | rfl | rfl | rfl | rfl | rfl
  all_goals
    go_enter Tryd.func76, Tryd.ntmps76
    go_wp2
    go_ret
    exact ⟨rfl, (Below.refl _ _).alloc (Nat.le_refl _) _⟩

set_option maxRecDepth 100000 in
set_option maxHeartbeats 8000000 in
theorem rlone_any (op n : Int) (s : ByteArray) (A : Option Addr) (k c : Nat) (w : World) (hs : s.size ≤ 1000) (hn1 : -9223372036854775808 ≤ n) (hn2 : n ≤ 9223372036854775807) (ho : 1 ≤ op) (ho4 : op ≤ 4) :
    Calls Tryd.prog 75 #[.agg #[.int .i64 op, .int .i64 n, .string s, .slice A k c]] w fun e w' => e = .returned (.string ⟨(loneT numS op n (bs s)).toArray⟩) ∧ Below w.heap.size w w' := by
  obtain ⟨w1, hw1⟩ : ∃ w1, w1 = w.alloc (.cells #[.int .i64 op, .int .i64 n, .string s, .slice A k c] 26) := ⟨_, rfl⟩
  have hb1 : Below w.heap.size w w1 := by rw [hw1]; exact (Below.refl _ _).alloc (Nat.le_refl _) _
  have hs1 : w.heap.size ≤ w1.heap.size := hb1.size
  have HB1 := Lib.hid hb1
  have HT := Lib.hid (rtext1_any n w1 hn1 hn2)
  have HW1 := Lib.hid hw1
  clear hb1 hw1
  have hc : op = 1 ∨ op = 2 ∨ op = 3 ∨ op = 4 := by omega
  clear ho ho4
  rcases hc with rfl | rfl | rfl | rfl
  · obtain ⟨S, hS⟩ : ∃ S, S = numS n := ⟨_, rfl⟩
    have HR : Hid (loneT numS 1 n (bs s) = S) := by show _ = _; rw [hS]; rfl
    rw [← hS] at HT
    clear hS
    go_enter Tryd.func75, Tryd.ntmps75
    go_wp2_with fail
    rw [← HW1.out]
    refine (HT.out).mono ?_
    rintro e w2 ⟨rfl, hb2⟩
    have HB2 := Lib.hid (HB1.out.trans (hb2.mono hs1))
    clear hb2
    go_wp2_with fail
    go_ret
    exact ⟨by rw [HR.out]; rfl, HB2.out⟩
  · by_cases h1 : n = 1
    · subst h1
      go_enter Tryd.func75, Tryd.ntmps75
      go_wp2
      go_ret
      exact ⟨rfl, by rw [← HW1.out]; exact HB1.out⟩
    · have h1' : (n == 1) = false := by simpa using h1
      have HR : Hid (loneT numS 2 n (bs s) = [102, 97, 108, 115, 101]) := by show _ = _; unfold loneT; rw [if_neg (by omega), if_pos rfl, if_neg h1]
      clear h1
      go_enter Tryd.func75, Tryd.ntmps75
      go_wp2
      go_ret
      exact ⟨by rw [HR.out]; rfl, by rw [← HW1.out]; exact HB1.out⟩
  · go_enter Tryd.func75, Tryd.ntmps75
    go_wp2
    go_ret
    exact ⟨rfl, by rw [← HW1.out]; exact HB1.out⟩
  · obtain ⟨S1, hS1⟩ : ∃ S1 : ByteArray, S1 = (⟨#[110, 101, 120, 116, 40]⟩ : ByteArray) ++ s := ⟨_, rfl⟩
    obtain ⟨S2, hS2⟩ : ∃ S2 : ByteArray, S2 = S1 ++ (⟨#[41]⟩ : ByteArray) := ⟨_, rfl⟩
    have hz1 : S1.size ≤ 1005 := by rw [hS1, ByteArray.size_append]; show 5 + s.size ≤ _; omega
    have hcat1 : ∀ W, (Op.stringOp .add (⟨#[110, 101, 120, 116, 40]⟩ : ByteArray) s).run Tryd.prog W = .ok (.string S1) W := fun W => by rw [hS1]; exact run_string_add_sum W _ _ (by show 5 + s.size ≤ _; omega)
    have hcat2 : ∀ W, (Op.stringOp .add S1 (⟨#[41]⟩ : ByteArray)).run Tryd.prog W = .ok (.string S2) W := fun W => by rw [hS2]; exact run_string_add_sum W _ _ (by show S1.size + 1 ≤ _; omega)
    have HR : Hid ((⟨(loneT numS 4 n (bs s)).toArray⟩ : ByteArray) = S2) := by show _ = _; apply bs_ext; rw [hS2, hS1]; unfold loneT; simp [bs]
    clear hS1 hS2 hz1
    go_enter Tryd.func75, Tryd.ntmps75
    go_wp2
    go_ret
    exact ⟨by rw [HR.out]; rfl, by rw [← HW1.out]; exact HB1.out⟩

set_option maxRecDepth 100000 in
set_option maxHeartbeats 8000000 in
theorem rside_any (op : Int) (f : Bool) (w : World) (h6 : 6 ≤ op) (h17 : op ≤ 17) :
    Calls Tryd.prog 77 #[.int .i64 op, .bool f] w fun e w' => e = .returned (.int .i64 ((asksN op (if f then 0 else 1) : Nat) + 1 : Int)) ∧ w = w' := by
  have HS := Lib.hid (rstrong_any op w)
  have hc : op = 6 ∨ op = 7 ∨ op = 8 ∨ op = 9 ∨ op = 10 ∨ op = 11 ∨ op = 12 ∨ op = 13 ∨ op = 14 ∨ op = 15 ∨ op = 16 ∨ op = 17 := by omega
  clear h6 h17
  rcases hc with rfl | rfl | rfl | rfl | rfl | rfl | rfl | rfl | rfl | rfl | rfl | rfl
  all_goals
    cases f
    all_goals
      simp only [ruleOf] at HS
      go_enter Tryd.func77, Tryd.ntmps77
      go_wp2_with fail
      refine (HS.out).mono ?_
      rintro e w1 ⟨rfl, hw⟩
      rw [← hw]
      clear hw
      go_wp2
      go_ret
      exact ⟨rfl, rfl⟩

mutual
/-- Whether the reference finds no text. -/
def noneT : Tm → Bool
  | .mk o n s l => if (o = 3 ∨ o = 4) ∧ isName s.data.toList = false then true else if (o = 6 ∨ o = 7) ∧ l.length = 1 then true else noneL l
def noneL : List Tm → Bool
  | [] => false
  | t :: r => noneT t || noneL r
end
theorem noneT_eq (t : Tm) : noneT t = if (t.op = 3 ∨ t.op = 4) ∧ isName t.name.data.toList = false then true else if (t.op = 6 ∨ t.op = 7) ∧ t.kids.length = 1 then true else noneL t.kids := by
  cases t; rw [noneT]; rfl
mutual
theorem none_told : ∀ (t : Tm) (d : Nat), t.okT d → noneT t = !toldT t
  | .mk o n s l, d, h => by
    rw [Tm.okT] at h
    have hl := noneL_told l (d + 1) h.2.2
    rw [noneT, toldT]
    by_cases h34 : o = 3 ∨ o = 4
    · have hk : (kidsOf o).2 = 0 := by unfold kidsOf; rw [if_pos (by omega)]
      have hw := (wrong_ok h.2.1).2.2.2.2.1
      rw [hk] at hw
      have hl0 : l = [] := List.eq_nil_of_length_eq_zero (by omega)
      rw [if_neg (show ¬ ((o = 6 ∨ o = 7) ∧ l.length = 1) by omega), if_neg (show ¬ ((o = 6 ∨ o = 7) ∧ l.length = 1) by omega), if_pos h34, hl0]
      cases hn : isName s.data.toList
      · rw [if_pos ⟨h34, rfl⟩]; rfl
      · rw [if_neg (fun h => by cases h.2)]; rfl
    · rw [if_neg (fun h => h34 h.1), if_neg h34, hl]
      by_cases h67 : (o = 6 ∨ o = 7) ∧ l.length = 1
      · rw [if_pos h67, if_pos h67]; rfl
      · rw [if_neg h67, if_neg h67]
theorem noneL_told : ∀ (l : List Tm) (d : Nat), Tm.okL l d → noneL l = !toldL l
  | [], _, _ => rfl
  | t :: r, d, h => by
    rw [Tm.okL] at h
    rw [noneL, toldL, none_told t d h.1, noneL_told r d h.2]
    cases toldT t <;> cases toldL r <;> rfl
end

set_option maxRecDepth 100000 in
set_option maxHeartbeats 8000000 in
theorem rnone_any : ∀ (N : Nat) (t : Tm) (A : Option Addr) (c : Nat) (w : World) (d : Nat), t.size ≤ N → t.size ≤ 9000000 → t.okT d → TmV w A c t →
    Calls Tryd.prog 50 #[t.val A c] w fun e w' => e = .returned (.bool (noneT t)) ∧ Below w.heap.size w w' := by
  intro N
  induction N with
  | zero =>
    intro t A c w d hN
    cases t; rw [Tm.size] at hN; omega
  | succ N ih =>
    intro t A c w d hN hd hok hV
    obtain ⟨n, hn⟩ : ∃ n, n = t.kids.length := ⟨_, rfl⟩
    obtain ⟨F, hF⟩ : ∃ F : Ending → World → Prop, F = fun e w' => e = .returned (.bool (noneT t)) ∧ Below w.heap.size w w' := ⟨_, rfl⟩
    rw [← hF]
    have hsz : t.size = 1 + Tm.sizeL t.kids := by cases t; rw [Tm.size]; rfl
    have hnl := Tm.len_le t.kids
    have hcap := hV.cap
    have hcapm := hV.capm
    unfold maxLen at hcapm
    have hnm : t.name.size ≤ 24 := (wrong_ok (okT_open hok).2.1).2.2.1
    obtain ⟨w1, hw1⟩ : ∃ w1, w1 = w.alloc (.cells #[.int .i64 t.op, .int .i64 t.num, .string t.name, .slice A n c] 26) := ⟨_, rfl⟩
    have hb1 : Below w.heap.size w w1 := by rw [hw1]; exact (Below.refl _ _).alloc (Nat.le_refl _) _
    have hs1 : w1.heap.size = w.heap.size + 1 := by rw [hw1]; simp
    have hbx : w1.heap[w.heap.size]? = some (.cells #[.int .i64 t.op, .int .i64 t.num, .string t.name, .slice A n c] 26 (0, 0)) := by rw [hw1]; exact heap_alloc_new w _
    have his := ris_any t.name w1 (by omega)
    have HRE := Lib.hid (noneT_eq t)
    obtain ⟨r, hr⟩ : ∃ r, r = noneT t := ⟨_, rfl⟩
    rw [← hr] at HRE hF
    obtain ⟨nb, hnb⟩ : ∃ nb, nb = isName t.name.data.toList := ⟨_, rfl⟩
    rw [show isName (bs t.name) = isName t.name.data.toList from rfl, ← hnb] at his
    rw [← hnb] at HRE
    have HIS := Lib.hid his
    have HOK : Hid (∀ k ∈ t.kids, k.okT (d + 1)) := (okT_open hok).2.2
    have HSZ : Hid (∀ k ∈ t.kids, k.size ≤ N ∧ k.size ≤ 9000000) := fun k hk => by
      have h1 := Tm.sizeL_mem hk
      omega
    have hkl : t.kids.length ≤ 10000000 := by omega
    rw [← hn] at hcap hkl HRE
    show Calls Tryd.prog 50 #[.agg #[.int .i64 t.op, .int .i64 t.num, .string t.name, .slice A t.kids.length c]] w F
    rw [← hn]
    have HF := Lib.hid hF
    have HIH := Lib.hid ih
    have HN := Lib.hid hn
    have HK := Lib.hid hV.kids
    have HB1 := Lib.hid hb1
    have HS1 := Lib.hid hs1
    have HBX := Lib.hid hbx
    have HW1 := Lib.hid hw1
    obtain ⟨op, hop⟩ : ∃ op, op = t.op := ⟨_, rfl⟩
    have HX3 : ∀ W, Below w1.heap.size w1 W → W.cell? ⟨w.heap.size, 3, none⟩ = some (.slice A n c) ∧ W.cell? ⟨w.heap.size, 0, none⟩ = some (.int .i64 op) ∧ W.cell? ⟨w.heap.size, 2, none⟩ = some (.string t.name) := fun W hb => by
      have hx := (hb.block _ (by rw [HS1.out]; omega)).trans HBX.out
      rw [hop]
      exact ⟨by rw [cell_of_row W w.heap.size 3 _ _ (0, 0) hx]; rfl, by rw [cell_of_row W w.heap.size 0 _ _ (0, 0) hx]; rfl, by rw [cell_of_row W w.heap.size 2 _ _ (0, 0) hx]; rfl⟩
    have HXX := Lib.hid HX3
    rw [← hop] at HRE HW1 ⊢
    clear hF ih hn hsz hnl hb1 hs1 hbx hw1 hV hN hr hnb his hok HX3 hnm hop
    have hcl : (op = 3 ∨ op = 4) ∨ ((op = 6 ∨ op = 7) ∧ n = 1) ∨ (op = 6 ∧ n ≠ 1 ∧ ((n : Int) == 1) = false) ∨ (op = 7 ∧ n ≠ 1 ∧ ((n : Int) == 1) = false) ∨ (op ≠ 6 ∧ op ≠ 7 ∧ op ≠ 3 ∧ op ≠ 4 ∧ (op == 6) = false ∧ (op == 7) = false ∧ (op == 3) = false ∧ (op == 4) = false) := by
      by_cases h3 : op = 3
      · exact .inl (.inl h3)
      by_cases h4 : op = 4
      · exact .inl (.inr h4)
      by_cases h6 : op = 6
      · by_cases h1 : n = 1
        · exact .inr (.inl ⟨.inl h6, h1⟩)
        · exact .inr (.inr (.inl ⟨h6, h1, by simp; omega⟩))
      by_cases h7 : op = 7
      · by_cases h1 : n = 1
        · exact .inr (.inl ⟨.inr h7, h1⟩)
        · exact .inr (.inr (.inr (.inl ⟨h7, h1, by simp; omega⟩)))
      exact .inr (.inr (.inr (.inr ⟨h6, h7, h3, h4, by simpa using h6, by simpa using h7, by simpa using h3, by simpa using h4⟩)))
    rcases hcl with h34 | ⟨h67, h1⟩ | hrest
    · cases nb with
      | false =>
        have HR : Hid (r = true) := by show _ = _; rw [HRE.out, if_pos ⟨h34, rfl⟩]
        rcases h34 with rfl | rfl
        all_goals
          go_enter Tryd.func50, Tryd.ntmps50
          go_wp2_with fail
          rw [← HW1.out]
          refine (HIS.out).mono ?_
          rintro e w2 ⟨rfl, hb2⟩
          have HB2 := Lib.hid (HB1.out.trans (hb2.mono (by have := HS1.out; omega)))
          clear hb2
          go_wp2_with fail
          rw [HF.out, HR.out]
          exact ⟨rfl, HB2.out⟩
      | true =>
        have HR : Hid (r = noneL t.kids) := by show _ = _; rw [HRE.out, if_neg (fun h => by cases h.2), if_neg (by omega)]
        rcases h34 with rfl | rfl
        all_goals
          go_enter Tryd.func50, Tryd.ntmps50
          go_wp2_with fail
          rw [← HW1.out]
          refine (HIS.out).mono ?_
          rintro e w2 ⟨rfl, hb2⟩
          have HST := Lib.hid hb2
          obtain ⟨ks3, ks0, ks2⟩ := HXX.out w2 hb2
          have hbw2 : w.heap.size < w2.heap.size := by have := HS1.out; have := hb2.size; omega
          clear hb2
          go_wp2_with fail
          go_loopw [3] (fun si wr => ∃ k : Nat, k ≤ n ∧ si = .int .i64 k ∧ Below w1.heap.size w1 wr ∧ noneL (t.kids.drop k) = r) (fun i _ => n - (intOf i).toNat)
          case atStart => exact ⟨0, Nat.zero_le _, rfl, HST.out, HR.out.symm⟩
          case round =>
            obtain ⟨k, hk, rfl, hbel, htl⟩ := hrel
            have HBL := Lib.hid hbel
            have HTL := Lib.hid htl
            have hszr := hbel.size
            obtain ⟨kr3, kr0, kr2⟩ := HXX.out wr hbel
            have hbt : Below w.heap.size w wr := HB1.out.trans (hbel.mono (by have := HS1.out; omega))
            have hbwr : w.heap.size < wr.heap.size := by have := HS1.out; omega
            by_cases hlt : k < n
            · obtain ⟨kd, hkd⟩ : ∃ kd, t.kids[k]? = some kd := ⟨_, List.getElem?_eq_getElem (by have := HN.out; omega)⟩
              have hmem : kd ∈ t.kids := List.mem_of_getElem? hkd
              rcases HK.out with h9 | ⟨g, off, rfl, hg, hrow⟩
              · rw [h9] at hkd; simp at hkd
              have hat := (hrow.get hkd).below hbt rfl hg
              obtain ⟨q0, q1, q2, A2, c2, q3, hV2⟩ := hat.open
              have hgw : g < wr.heap.size := by omega
              have hih := HIH.out kd A2 c2 wr (d + 1) (HSZ.out kd hmem).1 (HSZ.out kd hmem).2 (HOK.out kd hmem) hV2
              unfold Tm.val at hih
              obtain ⟨n2, hn2⟩ : ∃ n2, n2 = kd.kids.length := ⟨_, rfl⟩
              rw [← hn2] at q3 hih
              obtain ⟨z, hz⟩ : ∃ z, z = noneT kd := ⟨_, rfl⟩
              rw [← hz] at hih
              have HDR : Hid (noneL (t.kids.drop k) = (z || noneL (t.kids.drop (k + 1)))) := by
                obtain ⟨hj, hj2⟩ := List.getElem?_eq_some_iff.1 hkd
                show _ = _
                rw [List.drop_eq_getElem_cons hj, hj2, noneL, ← hz]
              have HC := Lib.hid hih
              have hk0 : (0 : Int) ≤ (k : Int) := by omega
              have hk1 : (k : Int) < (n : Int) := by omega
              have e1 : off + 4 * k = off + k * 4 := by omega
              rw [e1] at q0 q1 q2 q3
              have HBT := Lib.hid hbt
              clear hih hn2 hz hV2 hat hrow hmem hkd e1 hbel htl hbt kr0 kr2
              go_wp2_with fail
              refine (HC.out).mono ?_
              rintro e w4 ⟨rfl, hb4⟩
              have HB5 := Lib.hid (HBL.out.trans (hb4.mono hszr))
              have HB6 := Lib.hid (HBT.out.trans (hb4.mono (by omega)))
              clear hb4 q0 q1 q2 q3 kr3
              cases z with
              | true =>
                have HR2 : Hid (r = true) := by show _ = _; rw [← HTL.out, HDR.out]; rfl
                go_wp2_with fail
                rw [HF.out, HR2.out]
                exact ⟨rfl, HB6.out⟩
              | false =>
                have HR2 : Hid (noneL (t.kids.drop (k + 1)) = r) := by show _ = _; rw [← HTL.out, HDR.out]; rfl
                go_wp2_with fail
                go_roundw
                case rel => exact ⟨k + 1, by omega, by go_num, HB5.out, HR2.out⟩
                case measure => simp [intOf]; omega
            · have HE : Hid (r = false) := by
                show _ = _
                rw [← HTL.out, List.drop_eq_nil_of_le (by have := HN.out; omega)]
                rfl
              have hk1 : ¬ (k : Int) < (n : Int) := by omega
              have HBE := Lib.hid hbt
              clear hlt hbel htl hbt kr0 kr2
              go_wp2_with fail
              rw [HF.out, HE.out]
              exact ⟨rfl, HBE.out⟩
    · have HR : Hid (r = true) := by show _ = _; rw [HRE.out, if_neg (by omega), if_pos ⟨h67, h1⟩]
      subst h1
      rcases h67 with rfl | rfl
      all_goals
        go_enter Tryd.func50, Tryd.ntmps50
        go_wp2_with fail
        rw [HF.out, HR.out]
        exact ⟨rfl, by rw [← HW1.out]; exact HB1.out⟩
    · have HR : Hid (r = noneL t.kids) := by show _ = _; rw [HRE.out, if_neg (by omega), if_neg (by omega)]
      have HST : Hid (Below w1.heap.size w1 w1) := Below.refl _ _
      rcases hrest with ⟨rfl, h1, h1b⟩ | ⟨rfl, h1, h1b⟩ | ⟨h6, h7, h3, h4, b6, b7, b3, b4⟩
      all_goals
        (try clear h1)
        (try clear h6 h7 h3 h4)
        go_enter Tryd.func50, Tryd.ntmps50
        go_wp2_with fail
        rw [← HW1.out]
        go_loopw [3] (fun si wr => ∃ k : Nat, k ≤ n ∧ si = .int .i64 k ∧ Below w1.heap.size w1 wr ∧ noneL (t.kids.drop k) = r) (fun i _ => n - (intOf i).toNat)
        case atStart => exact ⟨0, Nat.zero_le _, rfl, HST.out, HR.out.symm⟩
        case round =>
          obtain ⟨k, hk, rfl, hbel, htl⟩ := hrel
          have HBL := Lib.hid hbel
          have HTL := Lib.hid htl
          have hszr := hbel.size
          obtain ⟨kr3, kr0, kr2⟩ := HXX.out wr hbel
          have hbt : Below w.heap.size w wr := HB1.out.trans (hbel.mono (by have := HS1.out; omega))
          have hbwr : w.heap.size < wr.heap.size := by have := HS1.out; omega
          by_cases hlt : k < n
          · obtain ⟨kd, hkd⟩ : ∃ kd, t.kids[k]? = some kd := ⟨_, List.getElem?_eq_getElem (by have := HN.out; omega)⟩
            have hmem : kd ∈ t.kids := List.mem_of_getElem? hkd
            rcases HK.out with h9 | ⟨g, off, rfl, hg, hrow⟩
            · rw [h9] at hkd; simp at hkd
            have hat := (hrow.get hkd).below hbt rfl hg
            obtain ⟨q0, q1, q2, A2, c2, q3, hV2⟩ := hat.open
            have hgw : g < wr.heap.size := by omega
            have hih := HIH.out kd A2 c2 wr (d + 1) (HSZ.out kd hmem).1 (HSZ.out kd hmem).2 (HOK.out kd hmem) hV2
            unfold Tm.val at hih
            obtain ⟨n2, hn2⟩ : ∃ n2, n2 = kd.kids.length := ⟨_, rfl⟩
            rw [← hn2] at q3 hih
            obtain ⟨z, hz⟩ : ∃ z, z = noneT kd := ⟨_, rfl⟩
            rw [← hz] at hih
            have HDR : Hid (noneL (t.kids.drop k) = (z || noneL (t.kids.drop (k + 1)))) := by
              obtain ⟨hj, hj2⟩ := List.getElem?_eq_some_iff.1 hkd
              show _ = _
              rw [List.drop_eq_getElem_cons hj, hj2, noneL, ← hz]
            have HC := Lib.hid hih
            have hk0 : (0 : Int) ≤ (k : Int) := by omega
            have hk1 : (k : Int) < (n : Int) := by omega
            have e1 : off + 4 * k = off + k * 4 := by omega
            rw [e1] at q0 q1 q2 q3
            have HBT := Lib.hid hbt
            clear hih hn2 hz hV2 hat hrow hmem hkd e1 hbel htl hbt kr0 kr2
            go_wp2_with fail
            refine (HC.out).mono ?_
            rintro e w4 ⟨rfl, hb4⟩
            have HB5 := Lib.hid (HBL.out.trans (hb4.mono hszr))
            have HB6 := Lib.hid (HBT.out.trans (hb4.mono (by omega)))
            clear hb4 q0 q1 q2 q3 kr3
            cases z with
            | true =>
              have HR2 : Hid (r = true) := by show _ = _; rw [← HTL.out, HDR.out]; rfl
              go_wp2_with fail
              rw [HF.out, HR2.out]
              exact ⟨rfl, HB6.out⟩
            | false =>
              have HR2 : Hid (noneL (t.kids.drop (k + 1)) = r) := by show _ = _; rw [← HTL.out, HDR.out]; rfl
              go_wp2_with fail
              go_roundw
              case rel => exact ⟨k + 1, by omega, by go_num, HB5.out, HR2.out⟩
              case measure => simp [intOf]; omega
          · have HE : Hid (r = false) := by
              show _ = _
              rw [← HTL.out, List.drop_eq_nil_of_le (by have := HN.out; omega)]
              rfl
            have hk1 : ¬ (k : Int) < (n : Int) := by omega
            have HBE := Lib.hid hbt
            clear hlt hbel htl hbt kr0 kr2
            go_wp2_with fail
            rw [HF.out, HE.out]
            exact ⟨rfl, HBE.out⟩
end Go.Proofs.YtcjblbpkjegmiaaDoor
namespace Go.Proofs.YtcjblbpkjegmiaaDoor
set_option linter.unusedVariables false

theorem asks_first {op : Int} {i : Nat} (h : op = 6 ∨ op = 7 ∨ i ≤ 1) : asksN op i = asksN op (if decide (i = 0) then 0 else 1) := by
  by_cases h0 : i = 0
  · subst h0; rfl
  · have hd : decide (i = 0) = false := decide_eq_false h0
    rw [hd]
    simp only [Bool.false_eq_true, if_false]
    rcases h with rfl | rfl | h
    · rfl
    · rfl
    · rw [show i = 1 by omega]
theorem asks_le (op : Int) (i : Nat) (h : i ≤ 1) : asksN op i ≤ 8 := by
  unfold asksN
  repeat' split
  all_goals omega
/-- The text of an open node: what stands within its brackets. -/
def bodyR (t : Tm) (ends : Bool) : Bs := bodyE numS t.op t.num t.name.data.toList (shwNot numS t.kids ends) (shwIf numS t.kids 0) (shwJoin numS t.op t.kids 0 ends)
theorem shw_body (t : Tm) (rule : Nat) (ends : Bool) : shw numS t rule ends = if pB t rule ends = true then [40] ++ bodyR t true ++ [41] else bodyR t ends := by
  rw [shw_eq]
  unfold wrapP bodyR
  cases h : pB t rule ends
  · simp
  · simp
theorem pB_zero (t : Tm) : pB t 0 true = false := by unfold pB; simp
theorem join_drop {op : Int} {l : List Tm} {k : Nat} {t : Tm} {ends : Bool} (h : l[k]? = some t) : shwJoin numS op (l.drop k) k ends = (if k = 0 then [] else betw op) ++ shw numS t (asksN op k) (ends && decide (k + 1 = l.length)) ++ shwJoin numS op (l.drop (k + 1)) (k + 1) ends := by
  obtain ⟨hj, hj2⟩ := List.getElem?_eq_some_iff.1 h
  rw [List.drop_eq_getElem_cons hj, hj2, shwJoin]
  have he : (l.drop (k + 1)).isEmpty = decide (k + 1 = l.length) := by
    by_cases h2 : k + 1 = l.length
    · rw [decide_eq_true h2, List.drop_eq_nil_of_le (by omega)]; rfl
    · rw [decide_eq_false h2, List.drop_eq_getElem_cons (by omega)]; rfl
  rw [he]
theorem rbody_kinds {t : Tm} {d : Nat} (h : t.okT d) : (1 ≤ t.op ∧ t.op ≤ 4 ∧ t.kids = []) ∨ (t.op = 5 ∧ ∃ a, t.kids = [a]) ∨ (t.op = 18 ∧ ∃ a b c, t.kids = [a, b, c]) ∨ (6 ≤ t.op ∧ t.op ≤ 17 ∧ 0 < t.kids.length ∧ (t.op = 6 ∨ t.op = 7 ∨ t.kids.length = 2)) := by
  obtain ⟨-, hw, -⟩ := okT_open h
  obtain ⟨h1, -, -, h2, h3, -⟩ := wrong_ok hw
  generalize t.kids = l at *
  generalize t.op = op at *
  by_cases c1 : op = 1 ∨ op = 2 ∨ op = 3 ∨ op = 4
  · have hk : kidsOf op = (0, 0) := by unfold kidsOf; rw [if_pos c1]
    rw [hk] at h3
    exact .inl ⟨by omega, by omega, List.eq_nil_of_length_eq_zero (by simp only at h3; omega)⟩
  by_cases c2 : op = 5
  · have hk : kidsOf op = (1, 1) := by unfold kidsOf; rw [if_neg c1, if_pos c2]
    rw [hk] at h2 h3
    simp only at h2 h3
    match l, show l.length = 1 by omega with
    | [a], _ => exact .inr (.inl ⟨c2, a, rfl⟩)
  by_cases c3 : op = 6 ∨ op = 7
  · have hk : kidsOf op = (1, 64) := by unfold kidsOf; rw [if_neg c1, if_neg c2, if_pos c3]
    rw [hk] at h2
    simp only at h2
    exact .inr (.inr (.inr ⟨by omega, by omega, by omega, by omega⟩))
  by_cases c4 : op = 8 ∨ op = 9 ∨ op = 10 ∨ op = 11 ∨ op = 12 ∨ op = 13 ∨ op = 14 ∨ op = 15 ∨ op = 16 ∨ op = 17
  · have hk : kidsOf op = (2, 2) := by unfold kidsOf; rw [if_neg c1, if_neg c2, if_neg c3, if_pos c4]
    rw [hk] at h2 h3
    simp only at h2 h3
    exact .inr (.inr (.inr ⟨by omega, by omega, by omega, .inr (.inr (by omega))⟩))
  by_cases c5 : op = 18
  · have hk : kidsOf op = (3, 3) := by unfold kidsOf; rw [if_neg c1, if_neg c2, if_neg c3, if_neg c4, if_pos c5]
    rw [hk] at h2 h3
    simp only at h2 h3
    match l, show l.length = 3 by omega with
    | [a, b, c], _ => exact .inr (.inr (.inl ⟨c5, a, b, c, rfl⟩))
  exfalso
  have hk : kidsOf op = (-1, -1) := by unfold kidsOf; rw [if_neg c1, if_neg c2, if_neg c3, if_neg c4, if_neg c5]
  rw [hk] at h1
  simp at h1
theorem rbody_lone {t : Tm} {ends : Bool} (h1 : 1 ≤ t.op) (h4 : t.op ≤ 4) : bodyR t ends = loneT numS t.op t.num t.name.data.toList := by
  unfold bodyR bodyE; rw [if_pos (by omega)]
theorem rbody_not {t a : Tm} {ends : Bool} (h : t.op = 5) (hk : t.kids = [a]) : bodyR t ends = [33] ++ shw numS a 4 ends := by
  unfold bodyR bodyE; rw [if_neg (by omega), if_pos h, hk]; rfl
theorem rbody_if {t a b c : Tm} {ends : Bool} (h : t.op = 18) (hk : t.kids = [a, b, c]) : bodyR t ends = ifW 0 ++ shw numS a 0 true ++ ifW 1 ++ shw numS b 0 true ++ ifW 2 ++ shw numS c 0 true := by
  unfold bodyR bodyE; rw [if_neg (by omega), if_neg (by omega), if_pos h, hk]
  simp [shwIf]
theorem rbody_join {t : Tm} {ends : Bool} (h6 : 6 ≤ t.op) (h17 : t.op ≤ 17) : bodyR t ends = shwJoin numS t.op t.kids 0 ends := by
  unfold bodyR bodyE; rw [if_neg (by omega), if_neg (by omega), if_neg (by omega)]
theorem rbody_len {t : Tm} {ends : Bool} {d : Nat} (h : t.okT d) : (bodyR t ends).length ≤ 80 * t.size := by
  unfold bodyR
  have hok := h
  cases t with
  | mk op n s l =>
    rw [Tm.okT] at h
    have hs := (wrong_ok h.2.1).2.2.1
    have hsl : s.data.toList.length = s.size := by simp
    have hb := bodyE_len numS_short op n s.data.toList (shwNot numS l ends) (shwIf numS l 0) (shwJoin numS op l 0 ends) (80 * Tm.sizeL l) (wrong_ok h.2.1).2.1 (shwNot_len numS_short l _ _ h.2.2) (shwIf_len numS_short l _ _ h.2.2) (shwJoin_len numS_short op l _ _ _ h.2.2)
    rw [Tm.size]
    show (bodyE numS op n s.data.toList _ _ _).length ≤ _
    simp only [Tm.kids, Tm.op]
    omega
end Go.Proofs.YtcjblbpkjegmiaaDoor
namespace Go.Proofs.YtcjblbpkjegmiaaDoor
open Go.RowKit
set_option linter.unusedVariables false
set_option linter.unusedSimpArgs false

theorem rle_run {a b S : ByteArray} (hS : S = a ++ b) (h : a.size + b.size ≤ 1000000000) : ∀ W, (Op.stringOp .add a b).run Tryd.prog W = .ok (.string S) W := fun W => by
  rw [hS]; exact run_string_add_sum W _ _ (by omega)
/-- What text does for the parts of a node. -/
def TxtC (N : Nat) : Prop := ∀ (t : Tm) (rule : Nat) (ends : Bool) (d : Nat) (A : Option Addr) (c : Nat) (w : World), t.size ≤ N → t.size ≤ 9000000 → rule ≤ 8 → t.okT d → TmV w A c t →
  Calls Tryd.prog 51 #[t.val A c, .int .i64 ((rule : Int) + 1), .bool (!ends)] w fun e w' => e = .returned (.string ⟨(shw numS t rule ends).toArray⟩) ∧ Below w.heap.size w w'
theorem bsz'' (l : Bs) : (⟨l.toArray⟩ : ByteArray).size = l.length := by simp [ByteArray.size]

set_option maxRecDepth 100000 in
set_option maxHeartbeats 8000000 in
theorem rtext_body (N : Nat) (H : TxtC N) (t : Tm) (rule : Nat) (ends : Bool) (d : Nat) (A : Option Addr) (c : Nat) (w : World) (hN : t.size ≤ N + 1) (hsz : t.size ≤ 9000000) (hr8 : rule ≤ 8) (hok : t.okT d) (hV : TmV w A c t) (hp : pB t rule ends = false) :
    Calls Tryd.prog 51 #[t.val A c, .int .i64 ((rule : Int) + 1), .bool (!ends)] w fun e w' => e = .returned (.string ⟨(bodyR t ends).toArray⟩) ∧ Below w.heap.size w w' := by
  obtain ⟨n, hn⟩ : ∃ n, n = t.kids.length := ⟨_, rfl⟩
  obtain ⟨F, hF⟩ : ∃ F : Ending → World → Prop, F = fun e w' => e = .returned (.string ⟨(bodyR t ends).toArray⟩) ∧ Below w.heap.size w w' := ⟨_, rfl⟩
  rw [← hF]
  have hsum : t.size = 1 + Tm.sizeL t.kids := by cases t; rw [Tm.size]; rfl
  have hnl := Tm.len_le t.kids
  have hcap := hV.cap
  have hcapm := hV.capm
  unfold maxLen at hcapm
  obtain ⟨w1, hw1⟩ : ∃ w1, w1 = w.alloc (.cells #[.int .i64 t.op, .int .i64 t.num, .string t.name, .slice A n c] 26) := ⟨_, rfl⟩
  have hb1 : Below w.heap.size w w1 := by rw [hw1]; exact (Below.refl _ _).alloc (Nat.le_refl _) _
  have hs1 : w.heap.size < w1.heap.size := by rw [hw1]; simp
  have hbx : TBox w1 w.heap.size A n c t := by rw [hw1]; exact heap_alloc_new w _
  have HST := Lib.hid (rstrong_any t.op w1)
  obtain ⟨ro, hro⟩ : ∃ ro, ro = ruleOf t.op := ⟨_, rfl⟩
  have hrl : ¬ ro < rule := by
    intro h
    unfold pB at hp
    rw [hro] at h
    rw [decide_eq_true h] at hp
    cases hp
  have h18 : t.op = 18 → ends = true := fun h => by
    unfold pB at hp
    rw [decide_eq_true h] at hp
    cases ends with
    | true => rfl
    | false => simp at hp
  rw [← hro] at HST
  have hrl' : ¬ ((ro : Int) + 1 < (rule : Int) + 1) := by omega
  have hrl2 : ro ≤ 8 := by rw [hro]; exact ruleOf_le _
  have hrlb : decide (ro < rule) = false := decide_eq_false hrl
  have hkl : t.kids.length ≤ 10000000 := by omega
  rw [← hn] at hcap hkl
  have HSZ : Hid (∀ k ∈ t.kids, k.size ≤ N ∧ k.size ≤ 9000000) := fun k hk => by
    have h1 := Tm.sizeL_mem hk
    omega
  have HOK : Hid (∀ k ∈ t.kids, k.okT (d + 1)) := (okT_open hok).2.2
  have hkinds := rbody_kinds hok
  have hlen := rbody_len (ends := ends) hok
  have hnum := (wrong_ok (okT_open hok).2.1)
  have HXX : Hid (∀ W, Below w1.heap.size w1 W → W.cell? ⟨w.heap.size, 0, none⟩ = some (.int .i64 t.op) ∧ W.cell? ⟨w.heap.size, 1, none⟩ = some (.int .i64 t.num) ∧ W.cell? ⟨w.heap.size, 2, none⟩ = some (.string t.name) ∧ W.cell? ⟨w.heap.size, 3, none⟩ = some (.slice A n c)) := fun W hb => by
    have hx := hbx.below hb hs1
    exact ⟨hx.c0, hx.c1, hx.c2, hx.c3⟩
  obtain ⟨x0, x1, x2, x3⟩ := HXX.out w1 (Below.refl _ _)
  show Calls Tryd.prog 51 #[.agg #[.int .i64 t.op, .int .i64 t.num, .string t.name, .slice A t.kids.length c], .int .i64 ((rule : Int) + 1), .bool (!ends)] w F
  rw [← hn]
  have HF := Lib.hid hF
  have HH := Lib.hid H
  have HN := Lib.hid hn
  have HK := Lib.hid hV.kids
  have HB1 := Lib.hid hb1
  have HW1 := Lib.hid hw1
  have HV1 := Lib.hid (hV.below hb1 rfl)
  have HSE := Lib.hid hsum
  have HTS := Lib.hid hsz
  have hnm24 := hnum.2.2.1
  have hlone : 1 ≤ t.op → t.op ≤ 4 → Calls Tryd.prog 75 #[.agg #[.int .i64 t.op, .int .i64 t.num, .string t.name, .slice A n c]] w1 fun e w' => e = .returned (.string ⟨(loneT numS t.op t.num (bs t.name)).toArray⟩) ∧ Below w1.heap.size w1 w' := fun h1 h4 => by
    refine rlone_any t.op t.num t.name A n c w1 (by omega) ?_ ?_ h1 h4
    · by_cases ho : t.op = 1
      · have := (hnum.2.1 ho).1; omega
      · by_cases ho2 : t.op = 2
        · have := (hnum.2.2.2.2.2.1 ho2).1; omega
        · have := hnum.2.2.2.2.2.2.1 ho ho2; omega
    · by_cases ho : t.op = 1
      · have := (hnum.2.1 ho).2; omega
      · by_cases ho2 : t.op = 2
        · have := (hnum.2.2.2.2.2.1 ho2).2; omega
        · have := hnum.2.2.2.2.2.2.1 ho ho2; omega
  have HLO := Lib.hid hlone
  clear hF H hn hV hb1 hw1 hsum hnl hnum hlone hN hsz hro hp hbx hrl
  rcases hkinds with ⟨h1, h4, hk⟩ | ⟨h5, a, hk⟩ | ⟨hi, a, b, c', hk⟩ | ⟨h6, h17, hpos, htwo⟩
  · have hn0 : n = 0 := by rw [HN.out, hk]; rfl
    have HLO2 := Lib.hid (HLO.out h1 h4)
    have HR : Hid (bodyR t ends = loneT numS t.op t.num (bs t.name)) := by show _ = _; rw [rbody_lone h1 h4]; rfl
    obtain ⟨L, hL⟩ : ∃ L, L = loneT numS t.op t.num (bs t.name) := ⟨_, rfl⟩
    rw [← hL] at HLO2 HR
    have h18b : (t.op == 18) = false := by simp; omega
    subst hn0
    clear hlen hL h18 h1 h4 hk
    go_enter Tryd.func51, Tryd.ntmps51
    go_wp2_with fail
    rw [← HW1.out]
    refine (HST.out).mono ?_
    rintro e w2 ⟨rfl, hw⟩
    rw [← hw]
    clear hw
    go_wp2_with fail
    refine (HLO2.out).mono ?_
    rintro e w3 ⟨rfl, hb3⟩
    have HB3 := Lib.hid (HB1.out.trans (hb3.mono (by omega)))
    clear hb3
    go_wp2_with fail
    rw [HF.out, HR.out]
    exact ⟨rfl, HB3.out⟩
  · have hn1 : n = 1 := by rw [HN.out, hk]; rfl
    have h18b : (t.op == 18) = false := by simp; omega
    have h5b : (t.op == 5) = true := by simp; omega
    have hm : a ∈ t.kids := by rw [hk]; simp
    have hka : t.kids[0]? = some a := by rw [hk]; rfl
    rcases HK.out with h9 | ⟨g, off, rfl, hg, hrow⟩
    · rw [h9] at hk; cases hk
    have hat := (hrow.get hka).below HB1.out rfl hg
    obtain ⟨q0, q1, q2, A2, c2, q3, hV2⟩ := hat.open
    have hgw : g < w1.heap.size := by omega
    have hcl := HH.out a 4 ends (d + 1) A2 c2 w1 (HSZ.out a hm).1 (HSZ.out a hm).2 (by omega) (HOK.out a hm) hV2
    unfold Tm.val at hcl
    rw [show ((4 : Nat) : Int) + 1 = 5 from rfl] at hcl
    obtain ⟨n2, hn2⟩ : ∃ n2, n2 = a.kids.length := ⟨_, rfl⟩
    rw [← hn2] at q3 hcl
    obtain ⟨S, hS⟩ : ∃ S : ByteArray, S = ⟨(shw numS a 4 ends).toArray⟩ := ⟨_, rfl⟩
    rw [← hS] at hcl
    have hzS : S.size ≤ 1000000000 - 1 := by
      rw [hS, bsz'']
      rw [rbody_not h5 hk] at hlen
      simp only [List.length_append, List.length_cons, List.length_nil] at hlen
      have := HSE.out
      have h8 := (HSZ.out a hm).2
      have := shw_len numS_short a 4 ends (d + 1) (HOK.out a hm)
      omega
    obtain ⟨S1, hS1⟩ : ∃ S1 : ByteArray, S1 = (⟨#[33]⟩ : ByteArray) ++ S := ⟨_, rfl⟩
    have hcat := rle_run hS1 (by show 1 + S.size ≤ _; omega)
    have HR : Hid ((⟨(bodyR t ends).toArray⟩ : ByteArray) = S1) := by
      show _ = _
      rw [rbody_not h5 hk, hS1, hS]
      apply bs_ext
      simp [bs]
    have HC := Lib.hid hcl
    have e0 : off + 4 * 0 = off := by omega
    rw [e0] at q0 q1 q2 q3
    subst hn1
    clear hcl hn2 hS hS1 hat hrow hka hm hk hV2 h18 hlen e0 h5 hzS
    go_enter Tryd.func51, Tryd.ntmps51
    go_wp2_with fail
    rw [← HW1.out]
    refine (HST.out).mono ?_
    rintro e w2 ⟨rfl, hw⟩
    rw [← hw]
    clear hw
    go_wp2_with fail
    refine (HC.out).mono ?_
    rintro e w3 ⟨rfl, hb3⟩
    have HB3 := Lib.hid (HB1.out.trans (hb3.mono (by omega)))
    clear hb3 q0 q1 q2 q3 x0 x1 x2 x3
    go_wp2_with fail
    rw [HF.out, HR.out]
    exact ⟨rfl, HB3.out⟩
  -- three parts
  · have hn3 : n = 3 := by rw [HN.out, hk]; rfl
    have h18b : (t.op == 18) = true := by simp; omega
    have h5b : (t.op == 5) = false := by simp; omega
    have hen := h18 hi
    subst hen
    rcases HK.out with h9 | ⟨g, off, rfl, hg, hrow⟩
    · rw [h9] at hk; cases hk
    have hgw : g < w1.heap.size := by omega
    have ham : a ∈ t.kids := by rw [hk]; simp
    have hata := (hrow.get (show t.kids[0]? = some a by rw [hk]; rfl)).below HB1.out rfl hg
    obtain ⟨qa0, qa1, qa2, Aa, ca, qa3, hVa⟩ := hata.open
    obtain ⟨na, hna⟩ : ∃ na, na = a.kids.length := ⟨_, rfl⟩
    obtain ⟨Sa, hSa⟩ : ∃ Sa : ByteArray, Sa = ⟨(shw numS a 0 true).toArray⟩ := ⟨_, rfl⟩
    have HCa : Hid (∀ W, Below w1.heap.size w1 W → Calls Tryd.prog 51 #[.agg #[.int .i64 a.op, .int .i64 a.num, .string a.name, .slice Aa na ca], .int .i64 1, .bool false] W fun e w' => e = .returned (.string Sa) ∧ Below W.heap.size W w') := fun W hb => by
      have h := HH.out a 0 true (d + 1) Aa ca W (HSZ.out a ham).1 (HSZ.out a ham).2 (by omega) (HOK.out a ham) (hVa.below hb rfl)
      unfold Tm.val at h
      rw [← hna, ← hSa] at h
      exact h
    rw [← hna] at qa3
    have hza : Sa.size ≤ 80 * a.size := by
      rw [hSa, bsz'']
      have := shw_len numS_short a 0 true (d + 1) (HOK.out a ham)
      omega
    rw [show off + 4 * 0 = off + 0 * 4 by omega] at qa0 qa1 qa2 qa3
    have hbm : b ∈ t.kids := by rw [hk]; simp
    have hatb := (hrow.get (show t.kids[1]? = some b by rw [hk]; rfl)).below HB1.out rfl hg
    obtain ⟨qb0, qb1, qb2, Ab, cb, qb3, hVb⟩ := hatb.open
    obtain ⟨nb, hnb⟩ : ∃ nb, nb = b.kids.length := ⟨_, rfl⟩
    obtain ⟨Sb, hSb⟩ : ∃ Sb : ByteArray, Sb = ⟨(shw numS b 0 true).toArray⟩ := ⟨_, rfl⟩
    have HCb : Hid (∀ W, Below w1.heap.size w1 W → Calls Tryd.prog 51 #[.agg #[.int .i64 b.op, .int .i64 b.num, .string b.name, .slice Ab nb cb], .int .i64 1, .bool false] W fun e w' => e = .returned (.string Sb) ∧ Below W.heap.size W w') := fun W hb => by
      have h := HH.out b 0 true (d + 1) Ab cb W (HSZ.out b hbm).1 (HSZ.out b hbm).2 (by omega) (HOK.out b hbm) (hVb.below hb rfl)
      unfold Tm.val at h
      rw [← hnb, ← hSb] at h
      exact h
    rw [← hnb] at qb3
    have hzb : Sb.size ≤ 80 * b.size := by
      rw [hSb, bsz'']
      have := shw_len numS_short b 0 true (d + 1) (HOK.out b hbm)
      omega
    rw [show off + 4 * 1 = off + 1 * 4 by omega] at qb0 qb1 qb2 qb3
    have hem : c' ∈ t.kids := by rw [hk]; simp
    have hate := (hrow.get (show t.kids[2]? = some c' by rw [hk]; rfl)).below HB1.out rfl hg
    obtain ⟨qe0, qe1, qe2, Ae, ce, qe3, hVe⟩ := hate.open
    obtain ⟨ne, hne⟩ : ∃ ne, ne = c'.kids.length := ⟨_, rfl⟩
    obtain ⟨Se, hSe⟩ : ∃ Se : ByteArray, Se = ⟨(shw numS c' 0 true).toArray⟩ := ⟨_, rfl⟩
    have HCe : Hid (∀ W, Below w1.heap.size w1 W → Calls Tryd.prog 51 #[.agg #[.int .i64 c'.op, .int .i64 c'.num, .string c'.name, .slice Ae ne ce], .int .i64 1, .bool false] W fun e w' => e = .returned (.string Se) ∧ Below W.heap.size W w') := fun W hb => by
      have h := HH.out c' 0 true (d + 1) Ae ce W (HSZ.out c' hem).1 (HSZ.out c' hem).2 (by omega) (HOK.out c' hem) (hVe.below hb rfl)
      unfold Tm.val at h
      rw [← hne, ← hSe] at h
      exact h
    rw [← hne] at qe3
    have hze : Se.size ≤ 80 * c'.size := by
      rw [hSe, bsz'']
      have := shw_len numS_short c' 0 true (d + 1) (HOK.out c' hem)
      omega
    rw [show off + 4 * 2 = off + 2 * 4 by omega] at qe0 qe1 qe2 qe3
    have hsz3 : a.size + b.size + c'.size ≤ 9000000 := by
      have h1 := HSE.out
      rw [hk] at h1
      simp only [Tm.sizeL] at h1
      have h2 := HTS.out
      omega
    obtain ⟨S1, hS1⟩ : ∃ S1 : ByteArray, S1 = (⟨#[105, 102, 32]⟩ : ByteArray) ++ Sa := ⟨_, rfl⟩
    obtain ⟨S2, hS2⟩ : ∃ S2 : ByteArray, S2 = S1 ++ (⟨#[32, 116, 104, 101, 110, 32]⟩ : ByteArray) := ⟨_, rfl⟩
    obtain ⟨S3, hS3⟩ : ∃ S3 : ByteArray, S3 = S2 ++ Sb := ⟨_, rfl⟩
    obtain ⟨S4, hS4⟩ : ∃ S4 : ByteArray, S4 = S3 ++ (⟨#[32, 101, 108, 115, 101, 32]⟩ : ByteArray) := ⟨_, rfl⟩
    obtain ⟨S5, hS5⟩ : ∃ S5 : ByteArray, S5 = S4 ++ Se := ⟨_, rfl⟩
    have z1 : S1.size = 3 + Sa.size := by rw [hS1, ByteArray.size_append]; rfl
    have z2 : S2.size = S1.size + 6 := by rw [hS2, ByteArray.size_append]; rfl
    have z3 : S3.size = S2.size + Sb.size := by rw [hS3, ByteArray.size_append]
    have z4 : S4.size = S3.size + 6 := by rw [hS4, ByteArray.size_append]; rfl
    have hcat1 := rle_run hS1 (by show 3 + Sa.size ≤ _; omega)
    have hcat2 := rle_run hS2 (by show S1.size + 6 ≤ _; omega)
    have hcat3 := rle_run hS3 (by omega)
    have hcat4 := rle_run hS4 (by show S3.size + 6 ≤ _; omega)
    have hcat5 := rle_run hS5 (by omega)
    have HR : Hid ((⟨(bodyR t true).toArray⟩ : ByteArray) = S5) := by
      show _ = _
      rw [rbody_if hi hk, hS5, hS4, hS3, hS2, hS1, hSa, hSb, hSe]
      apply bs_ext
      simp [bs, ifW]
    have hgo : off + 0 * 4 = off := by omega
    rw [hgo] at qa0 qa1 qa2 qa3
    subst hn3
    clear hna hnb hne hSa hSb hSe hS1 hS2 hS3 hS4 hS5 hata hatb hate hrow ham hbm hem hk hVa hVb hVe h18 hlen hi hgo z1 z2 z3 z4 hza hzb hze hsz3
    go_enter Tryd.func51, Tryd.ntmps51
    go_wp2_with fail
    rw [← HW1.out]
    refine (HST.out).mono ?_
    rintro e w2 ⟨rfl, hw⟩
    rw [← hw]
    clear hw
    go_wp2_with fail
    have hbd : Below w1.heap.size w1 w1.drew := (Below.refl _ _).drew
    go_region_held3 (fun w' => (∀ o, w'.cell? ⟨w.heap.size, o, none⟩ = w1.cell? ⟨w.heap.size, o, none⟩) ∧ (∀ o, w'.cell? ⟨g, o, none⟩ = w1.cell? ⟨g, o, none⟩) ∧ Below w1.heap.size w1 w')
      (first
        | (exact ⟨keep_cells (by assumption) hs1, keep_cells (by assumption) hgw, by assumption⟩)
        | fail)
      (first
        | (go_at_call 51; with_reducible refine (HCa.out _ (by assumption)).mono ?_; rintro e w5 ⟨rfl, hb5⟩; have hk5 := keep_step (by assumption) hb5)
        | (go_at_call 51; with_reducible refine (HCb.out _ (by assumption)).mono ?_; rintro e w5 ⟨rfl, hb5⟩; have hk5 := keep_step (by assumption) hb5)
        | (go_at_call 51; with_reducible refine (HCe.out _ (by assumption)).mono ?_; rintro e w5 ⟨rfl, hb5⟩; have hk5 := keep_step (by assumption) hb5)
        | fail)
    have HB9 := Lib.hid (HB1.out.trans (hk5.mono (by omega)))
    clear x0 x1 x2 x3 qa0 qa1 qa2 qa3 qb0 qb1 qb2 qb3 qe0 qe1 qe2 qe3
    go_wp2_with fail
    rw [HF.out, HR.out]
    exact ⟨rfl, HB9.out⟩
  -- a row
  · have hn0 : ((n : Int) == 0) = false := by have := HN.out; simp; omega
    have h18b : (t.op == 18) = false := by simp; omega
    have h5b : (t.op == 5) = false := by simp; omega
    have HRB : Hid (bodyR t ends = shwJoin numS t.op t.kids 0 ends) := rbody_join h6 h17
    have hJl : (shwJoin numS t.op t.kids 0 ends).length ≤ 720000000 := by rw [← HRB.out]; have := HTS.out; omega
    obtain ⟨J, hJ⟩ : ∃ J, J = shwJoin numS t.op t.kids 0 ends := ⟨_, rfl⟩
    have HJ0 : Hid (J = bs ⟨#[]⟩ ++ shwJoin numS t.op (t.kids.drop 0) 0 ends) := by show _ = _; rw [hJ]; rfl
    have HJ1 := Lib.hid hJ
    rw [← hJ] at hJl
    rw [← HN.out] at htwo hpos
    clear hlen hJ
    cases ends with
    | false =>
      clear h18
      go_enter Tryd.func51, Tryd.ntmps51
      go_wp2_with fail
      rw [← HW1.out]
      refine (HST.out).mono ?_
      rintro e w2 ⟨rfl, hw⟩
      rw [← hw]
      clear hw
      go_wp2_with fail
      go_loopw [7, 8] (fun sv si wr => ∃ (k : Nat) (S : ByteArray), k ≤ n ∧ sv = .string S ∧ si = .int .i64 k ∧ bs S ++ shwJoin numS t.op (t.kids.drop k) k false = J ∧ Below w1.heap.size w1 wr) (fun _ i _ => n - (intOf i).toNat)
      case atStart => exact ⟨0, ⟨#[]⟩, Nat.zero_le _, rfl, rfl, HJ0.out.symm, Below.refl _ _⟩
      case round =>
        obtain ⟨k, S, hk, rfl, rfl, hS, hbel⟩ := hrel
        have HBL := Lib.hid hbel
        have HS := Lib.hid hS
        have hszr := hbel.size
        obtain ⟨kr0, kr1, kr2, kr3⟩ := HXX.out wr hbel
        have hwwr : w.heap.size < wr.heap.size := by omega
        clear kr1 kr2
        by_cases hlt : k < n
        · obtain ⟨kd, hkd⟩ : ∃ kd, t.kids[k]? = some kd := ⟨_, List.getElem?_eq_getElem (by have := HN.out; omega)⟩
          have hmem : kd ∈ t.kids := List.mem_of_getElem? hkd
          have hkN := (HSZ.out kd hmem).1
          have hkS := (HSZ.out kd hmem).2
          have hkO := HOK.out kd hmem
          rcases HV1.out.kids with h9 | ⟨g, off, rfl, hg, hrow⟩
          · rw [h9] at hkd; simp at hkd
          have hat := (hrow.get hkd).below hbel rfl hg
          obtain ⟨q0, q1, q2, A2, c2, q3, hV2⟩ := hat.open
          have hgw : g < wr.heap.size := by omega
          obtain ⟨n2, hn2⟩ : ∃ n2, n2 = kd.kids.length := ⟨_, rfl⟩
          rw [← hn2] at q3
          have e1 : off + 4 * k = off + k * 4 := by omega
          rw [e1] at q0 q1 q2 q3
          obtain ⟨rk, hrk⟩ : ∃ rk, rk = asksN t.op k := ⟨_, rfl⟩
          have hfirst := asks_first (op := t.op) (i := k) (by omega)
          have hasle : asksN t.op k ≤ 8 := by rw [hfirst]; refine asks_le _ _ ?_; split <;> omega
          have HSD0 := rside_any t.op (decide (k = 0))
          have hk0i : (0 : Int) ≤ (k : Int) := by omega
          have hk1 : (k : Int) < (n : Int) := by omega
          have HLT := Lib.hid hlt
          clear hat hrow hmem e1 hbel hS
          by_cases hk0 : k = 0
          · have HSD : Hid (∀ W, Calls Tryd.prog 77 #[.int .i64 t.op, .bool true] W fun e w' => e = .returned (.int .i64 ((rk : Int) + 1)) ∧ w' = W) := fun W => by
              have h := HSD0 W h6 h17
              rw [← hfirst, ← hrk, decide_eq_true hk0] at h
              exact h.mono fun _ _ h => ⟨h.1, h.2.symm⟩
            clear HSD0 hfirst
            subst hk0
            have hka : (0 : Nat) * 4 = 0 := by omega
            rw [hka, Nat.add_zero] at q0 q1 q2 q3
            obtain ⟨e1, he1⟩ : ∃ e1, e1 = (false && decide (0 + 1 = n)) := ⟨_, rfl⟩
            have hB : (!e1) = true := by
              rw [he1]
              rfl
            have HJ : Hid (shwJoin numS t.op (t.kids.drop 0) 0 false = [] ++ shw numS kd rk e1 ++ shwJoin numS t.op (t.kids.drop (0 + 1)) (0 + 1) false) := by
              show _ = _
              rw [join_drop hkd, if_pos rfl, ← HN.out, ← he1, hrk]
            obtain ⟨T, hT⟩ : ∃ T : ByteArray, T = ⟨(shw numS kd rk e1).toArray⟩ := ⟨_, rfl⟩
            have HC : Hid (∀ W, Below wr.heap.size wr W → Calls Tryd.prog 51 #[.agg #[.int .i64 kd.op, .int .i64 kd.num, .string kd.name, .slice A2 n2 c2], .int .i64 ((rk : Int) + 1), .bool (true)] W fun e w' => e = .returned (.string T) ∧ Below W.heap.size W w') := fun W hb => by
              have hih := HH.out kd rk e1 (d + 1) A2 c2 W hkN hkS (by rw [hrk]; exact hasle) hkO (hV2.below hb rfl)
              unfold Tm.val at hih
              rw [← hn2, hB] at hih
              rw [hT]
              exact hih
            obtain ⟨S2, hS2⟩ : ∃ S2 : ByteArray, S2 = S ++ T := ⟨_, rfl⟩
            have HSW : Hid (bs S2 ++ shwJoin numS t.op (t.kids.drop (0 + 1)) (0 + 1) false = J) := by
              show _ = _
              rw [← HS.out, HJ.out, hS2, bs_app, hT]
              simp [bs]
            have hz2 : S2.size ≤ J.length := by
              rw [← HSW.out, List.length_append]
              show (bs S2).length ≤ _
              omega
            have hcat := rle_run hS2 (by rw [← ByteArray.size_append, ← hS2]; omega)
            clear he1 hB hT hS2 hz2 hkd hn2 hV2 hrk hasle
            go_wp2_with fail
            have hbd : Below wr.heap.size wr wr.drew := (Below.refl _ _).drew
            refine wp_region_held_drew (S := (fun w' => (∀ o, w'.cell? ⟨w.heap.size, o, none⟩ = wr.cell? ⟨w.heap.size, o, none⟩) ∧ (∀ o, w'.cell? ⟨g, o, none⟩ = wr.cell? ⟨g, o, none⟩) ∧ Below wr.heap.size wr w')) (by kernel_rfl) (⟨keep_cells (by assumption) hwwr, keep_cells (by assumption) hgw, by assumption⟩) (fun hHeld => ?_)
            refine wpAnyH_take (i := 0) (oi := { dst := some 79, op := Op.move (Operand.tmp 7), type := 9, pos := "ref.go:354", after := #[], guard := none }) (v := ?_) rfl (by kernel_rfl) (by kernel_rfl) (by kernel_rfl) (fun _ _ _ h => h) (Or.inl ⟨by rfl, ?hy⟩) (by assumption) ?_
            case hy => intro w0 hSw; (try dsimp only at hSw); go_simp; (first | done | with_reducible rfl)
            try simp only [Act.put, List.setIfInBounds_toArray, List.set_cons_zero, List.set_cons_succ]
            refine wpAnyH_take (i := 1) (oi := { dst := some 80, op := Op.fieldAddr 26 (Operand.tmp 3) 3, type := 0, pos := "ref.go:354", after := #[], guard := none }) (v := ?_) rfl (by kernel_rfl) (by kernel_rfl) (by kernel_rfl) (fun _ _ _ h => h) (Or.inl ⟨by rfl, ?hy⟩) (by assumption) ?_
            case hy => intro w0 hSw; (try dsimp only at hSw); go_simp; (first | done | with_reducible rfl)
            try simp only [Act.put, List.setIfInBounds_toArray, List.set_cons_zero, List.set_cons_succ]
            refine wpAnyH_take (i := 2) (oi := { dst := some 81, op := Op.load 24 (Operand.tmp 80), type := 24, pos := "ref.go:354", after := #[{ on := 1, ground := Ground.data }], guard := none }) (v := ?_) rfl (by kernel_rfl) (by kernel_rfl) (by kernel_rfl) (fun _ _ _ h => h) (Or.inl ⟨by rfl, ?hy⟩) (by assumption) ?_
            case hy => intro w0 hSw; (try dsimp only at hSw); go_simp; (first | done | with_reducible rfl)
            try simp only [Act.put, List.setIfInBounds_toArray, List.set_cons_zero, List.set_cons_succ]
            refine wpAnyH_take (i := 3) (oi := { dst := some 82, op := Op.move (Operand.tmp 8), type := 3, pos := "ref.go:354", after := #[], guard := none }) (v := ?_) rfl (by kernel_rfl) (by kernel_rfl) (by kernel_rfl) (fun _ _ _ h => h) (Or.inl ⟨by rfl, ?hy⟩) (by assumption) ?_
            case hy => intro w0 hSw; (try dsimp only at hSw); go_simp; (first | done | with_reducible rfl)
            try simp only [Act.put, List.setIfInBounds_toArray, List.set_cons_zero, List.set_cons_succ]
            refine wpAnyH_take (i := 4) (oi := { dst := some 83, op := Op.indexAddr 24 (Operand.tmp 81) (Operand.tmp 82), type := 0, pos := "ref.go:354", after := #[{ on := 2, ground := Ground.data }, { on := 3, ground := Ground.data }], guard := none }) (v := ?_) rfl (by kernel_rfl) (by kernel_rfl) (by kernel_rfl) (fun _ _ _ h => h) (Or.inl ⟨by rfl, ?hy⟩) (by assumption) ?_
            case hy => intro w0 hSw; (try dsimp only at hSw); go_simp; (first | done | with_reducible rfl)
            try simp only [Act.put, List.setIfInBounds_toArray, List.set_cons_zero, List.set_cons_succ]
            refine wpAnyH_take (i := 5) (oi := { dst := some 84, op := Op.load 26 (Operand.tmp 83), type := 26, pos := "ref.go:354", after := #[{ on := 4, ground := Ground.data }], guard := none }) (v := ?_) rfl (by kernel_rfl) (by kernel_rfl) (by kernel_rfl) (fun _ _ _ h => h) (Or.inl ⟨by rfl, ?hy⟩) (by assumption) ?_
            case hy => intro w0 hSw; (try dsimp only at hSw); go_simp; (first | done | with_reducible rfl)
            try simp only [Act.put, List.setIfInBounds_toArray, List.set_cons_zero, List.set_cons_succ]
            refine wpAnyH_take (i := 6) (oi := { dst := some 85, op := Op.fieldAddr 26 (Operand.tmp 3) 0, type := 0, pos := "ref.go:354", after := #[], guard := none }) (v := ?_) rfl (by kernel_rfl) (by kernel_rfl) (by kernel_rfl) (fun _ _ _ h => h) (Or.inl ⟨by rfl, ?hy⟩) (by assumption) ?_
            case hy => intro w0 hSw; (try dsimp only at hSw); go_simp; (first | done | with_reducible rfl)
            try simp only [Act.put, List.setIfInBounds_toArray, List.set_cons_zero, List.set_cons_succ]
            refine wpAnyH_take (i := 7) (oi := { dst := some 86, op := Op.load 3 (Operand.tmp 85), type := 3, pos := "ref.go:354", after := #[{ on := 6, ground := Ground.data }], guard := none }) (v := ?_) rfl (by kernel_rfl) (by kernel_rfl) (by kernel_rfl) (fun _ _ _ h => h) (Or.inl ⟨by rfl, ?hy⟩) (by assumption) ?_
            case hy => intro w0 hSw; (try dsimp only at hSw); go_simp; (first | done | with_reducible rfl)
            try simp only [Act.put, List.setIfInBounds_toArray, List.set_cons_zero, List.set_cons_succ]
            refine wpAnyH_take (i := 8) (oi := { dst := some 87, op := Op.move (Operand.tmp 8), type := 3, pos := "ref.go:354", after := #[], guard := none }) (v := ?_) rfl (by kernel_rfl) (by kernel_rfl) (by kernel_rfl) (fun _ _ _ h => h) (Or.inl ⟨by rfl, ?hy⟩) (by assumption) ?_
            case hy => intro w0 hSw; (try dsimp only at hSw); go_simp; (first | done | with_reducible rfl)
            try simp only [Act.put, List.setIfInBounds_toArray, List.set_cons_zero, List.set_cons_succ]
            refine wpAnyH_take (i := 9) (oi := { dst := some 88, op := Op.binOp BinOp.eql 3 (Operand.tmp 87) (Operand.const (Value.int IntKind.i64 0)) 3, type := 4, pos := "ref.go:354", after := #[{ on := 8, ground := Ground.data }], guard := none }) (v := ?_) rfl (by kernel_rfl) (by kernel_rfl) (by kernel_rfl) (fun _ _ _ h => h) (Or.inl ⟨by rfl, ?hy⟩) (by assumption) ?_
            case hy => intro w0 hSw; (try dsimp only at hSw); go_simp; (first | done | with_reducible rfl)
            try simp only [Act.put, List.setIfInBounds_toArray, List.set_cons_zero, List.set_cons_succ]
            refine wpAnyH_take (i := 11) (oi := { dst := some 90, op := Op.move (Operand.tmp 2), type := 4, pos := "ref.go:354", after := #[], guard := none }) (v := ?_) rfl (by kernel_rfl) (by kernel_rfl) (by kernel_rfl) (fun _ _ _ h => h) (Or.inl ⟨by rfl, ?hy⟩) (by assumption) ?_
            case hy => intro w0 hSw; (try dsimp only at hSw); go_simp; (first | done | with_reducible rfl)
            try simp only [Act.put, List.setIfInBounds_toArray, List.set_cons_zero, List.set_cons_succ]
            refine wpAnyH_ready (rs := [10]) (by kernel_rfl) (by simp) ?_
            refine AllReadyH.cons (o := { dst := some 89, op := Op.call { callee := Callee.value (Operand.func 77), args := #[Operand.tmp 86, Operand.tmp 88], argTypes := #[3, 4] }, type := 3, pos := "ref.go:354", after := #[{ on := 7, ground := Ground.data }, { on := 9, ground := Ground.data }], guard := none }) rfl (fun K hK => ?_) AllReadyH.nil
            go_simp
            (go_at_call 77; with_reducible refine (HSD.out _).mono ?_; rintro e w5 ⟨rfl, hw5⟩; rw [hw5]; clear hw5)
            try go_wp2_with fail
            refine hK.out _ _ (⟨keep_cells (by assumption) hwwr, keep_cells (by assumption) hgw, by assumption⟩) (fun hHeld => ?_)
            clear hK K
            try simp only [Act.put, List.setIfInBounds_toArray, List.set_cons_zero, List.set_cons_succ]
            refine wpAnyH_take (i := 12) (oi := { dst := some 91, op := Op.move (Operand.tmp 90), type := 4, pos := "ref.go:354", after := #[{ on := 11, ground := Ground.data }, { on := 10, ground := Ground.chain }], guard := none }) (v := ?_) rfl (by kernel_rfl) (by kernel_rfl) (by kernel_rfl) (fun _ _ _ h => h) (Or.inl ⟨by rfl, ?hy⟩) (by assumption) ?_
            case hy => intro w0 hSw; (try dsimp only at hSw); go_simp; (first | done | with_reducible rfl)
            try simp only [Act.put, List.setIfInBounds_toArray, List.set_cons_zero, List.set_cons_succ]
            refine wpAnyH_take (i := 13) (oi := { dst := some 92, op := Op.move (Operand.tmp 8), type := 3, pos := "ref.go:354", after := #[{ on := 12, ground := Ground.guard }], guard := some (12, false) }) (v := undef) rfl (by kernel_rfl) (by kernel_rfl) (by kernel_rfl) (fun _ _ _ h => h) (Or.inr ⟨by rfl, rfl⟩) (by assumption) ?_
            try simp only [Act.put, List.setIfInBounds_toArray, List.set_cons_zero, List.set_cons_succ]
            refine wpAnyH_take (i := 14) (oi := { dst := some 93, op := Op.binOp BinOp.add 3 (Operand.tmp 92) (Operand.const (Value.int IntKind.i64 1)) 3, type := 3, pos := "ref.go:354", after := #[{ on := 13, ground := Ground.data }, { on := 12, ground := Ground.guard }], guard := some (12, false) }) (v := undef) rfl (by kernel_rfl) (by kernel_rfl) (by kernel_rfl) (fun _ _ _ h => h) (Or.inr ⟨by rfl, rfl⟩) (by assumption) ?_
            try simp only [Act.put, List.setIfInBounds_toArray, List.set_cons_zero, List.set_cons_succ]
            refine wpAnyH_take (i := 15) (oi := { dst := some 94, op := Op.fieldAddr 26 (Operand.tmp 3) 3, type := 0, pos := "ref.go:354", after := #[{ on := 12, ground := Ground.guard }], guard := some (12, false) }) (v := undef) rfl (by kernel_rfl) (by kernel_rfl) (by kernel_rfl) (fun _ _ _ h => h) (Or.inr ⟨by rfl, rfl⟩) (by assumption) ?_
            try simp only [Act.put, List.setIfInBounds_toArray, List.set_cons_zero, List.set_cons_succ]
            refine wpAnyH_take (i := 16) (oi := { dst := some 95, op := Op.load 24 (Operand.tmp 94), type := 24, pos := "ref.go:354", after := #[{ on := 15, ground := Ground.data }, { on := 12, ground := Ground.guard }], guard := some (12, false) }) (v := undef) rfl (by kernel_rfl) (by kernel_rfl) (by kernel_rfl) (fun _ _ _ h => h) (Or.inr ⟨by rfl, rfl⟩) (by assumption) ?_
            try simp only [Act.put, List.setIfInBounds_toArray, List.set_cons_zero, List.set_cons_succ]
            refine wpAnyH_take (i := 17) (oi := { dst := some 96, op := Op.call { callee := Callee.builtin Builtin.len, args := #[Operand.tmp 95], argTypes := #[24] }, type := 3, pos := "ref.go:354", after := #[{ on := 16, ground := Ground.data }, { on := 12, ground := Ground.guard }], guard := some (12, false) }) (v := undef) rfl (by kernel_rfl) (by kernel_rfl) (by kernel_rfl) (fun _ _ _ h => h) (Or.inr ⟨by rfl, rfl⟩) (by assumption) ?_
            try simp only [Act.put, List.setIfInBounds_toArray, List.set_cons_zero, List.set_cons_succ]
            refine wpAnyH_take (i := 18) (oi := { dst := some 97, op := Op.binOp BinOp.lss 3 (Operand.tmp 93) (Operand.tmp 96) 3, type := 4, pos := "ref.go:354", after := #[{ on := 14, ground := Ground.data }, { on := 17, ground := Ground.data }, { on := 12, ground := Ground.guard }], guard := some (12, false) }) (v := undef) rfl (by kernel_rfl) (by kernel_rfl) (by kernel_rfl) (fun _ _ _ h => h) (Or.inr ⟨by rfl, rfl⟩) (by assumption) ?_
            try simp only [Act.put, List.setIfInBounds_toArray, List.set_cons_zero, List.set_cons_succ]
            refine wpAnyH_take (i := 19) (oi := { dst := some 98, op := Op.pick (Operand.tmp 91) (Operand.const (Value.bool true)) (Operand.tmp 97), type := 4, pos := "ref.go:354", after := #[{ on := 12, ground := Ground.data }, { on := 18, ground := Ground.data }], guard := none }) (v := ?_) rfl (by kernel_rfl) (by kernel_rfl) (by kernel_rfl) (fun _ _ _ h => h) (Or.inl ⟨by rfl, ?hy⟩) (by assumption) ?_
            case hy => intro w0 hSw; (try dsimp only at hSw); go_simp; (first | done | with_reducible rfl)
            try simp only [Act.put, List.setIfInBounds_toArray, List.set_cons_zero, List.set_cons_succ]
            refine wpAnyH_ready (rs := [20]) (by kernel_rfl) (by simp) ?_
            refine AllReadyH.cons (o := { dst := some 99, op := Op.call { callee := Callee.value (Operand.func 51), args := #[Operand.tmp 84, Operand.tmp 89, Operand.tmp 98], argTypes := #[26, 3, 4] }, type := 9, pos := "ref.go:354", after := #[{ on := 5, ground := Ground.data }, { on := 10, ground := Ground.data }, { on := 19, ground := Ground.data }, { on := 12, ground := Ground.chain }], guard := none }) rfl (fun K hK => ?_) AllReadyH.nil
            go_simp
            (go_at_call 51; with_reducible refine (HC.out _ (by assumption)).mono ?_; rintro e w5 ⟨rfl, hb5⟩; have hk5 := keep_step (by assumption) hb5)
            try go_wp2_with fail
            refine hK.out _ _ (⟨keep_cells (by assumption) hwwr, keep_cells (by assumption) hgw, by assumption⟩) (fun hHeld => ?_)
            clear hK K
            try simp only [Act.put, List.setIfInBounds_toArray, List.set_cons_zero, List.set_cons_succ]
            refine wpAnyH_take (i := 21) (oi := { dst := some 100, op := Op.binOp BinOp.add 9 (Operand.tmp 79) (Operand.tmp 99) 9, type := 9, pos := "ref.go:354", after := #[{ on := 0, ground := Ground.data }, { on := 20, ground := Ground.data }], guard := none }) (v := ?_) rfl (by kernel_rfl) (by kernel_rfl) (by kernel_rfl) (fun _ _ _ h => h) (Or.inl ⟨by rfl, ?hy⟩) (by assumption) ?_
            case hy => intro w0 hSw; (try dsimp only at hSw); go_simp; (first | done | with_reducible rfl)
            try simp only [Act.put, List.setIfInBounds_toArray, List.set_cons_zero, List.set_cons_succ]
            refine wpAnyH_take (i := 22) (oi := { dst := some 7, op := Op.assign (Operand.tmp 100), type := 9, pos := "ref.go:354", after := #[{ on := 21, ground := Ground.data }, { on := 20, ground := Ground.chain }, { on := 0, ground := Ground.phase }, { on := 1, ground := Ground.phase }, { on := 2, ground := Ground.phase }, { on := 3, ground := Ground.phase }, { on := 4, ground := Ground.phase }, { on := 5, ground := Ground.phase }, { on := 6, ground := Ground.phase }, { on := 7, ground := Ground.phase }, { on := 8, ground := Ground.phase }, { on := 9, ground := Ground.phase }, { on := 10, ground := Ground.phase }, { on := 11, ground := Ground.phase }, { on := 12, ground := Ground.phase }, { on := 13, ground := Ground.phase }, { on := 14, ground := Ground.phase }, { on := 15, ground := Ground.phase }, { on := 16, ground := Ground.phase }, { on := 17, ground := Ground.phase }, { on := 18, ground := Ground.phase }, { on := 19, ground := Ground.phase }, { on := 20, ground := Ground.phase }, { on := 21, ground := Ground.phase }], guard := none }) (v := ?_) rfl (by kernel_rfl) (by kernel_rfl) (by kernel_rfl) (fun _ _ _ h => h) (Or.inl ⟨by rfl, ?hy⟩) (by assumption) ?_
            case hy => intro w0 hSw; (try dsimp only at hSw); go_simp; (first | done | with_reducible rfl)
            try simp only [Act.put, List.setIfInBounds_toArray, List.set_cons_zero, List.set_cons_succ]
            refine wpAnyH_done (by kernel_rfl) ?_ _
            have HB5 : Hid (Below w1.heap.size w1 w5) := HBL.out.trans (hk5.mono hszr)
            clear hk5 hb5 q0 q1 q2 q3 kr0 kr3
            go_wp2_with fail
            go_roundw
            case rel => exact ⟨0 + 1, S2, by omega, rfl, by go_num, HSW.out, HB5.out⟩
            case measure => simp [intOf]; omega
          · have HSD : Hid (∀ W, Calls Tryd.prog 77 #[.int .i64 t.op, .bool false] W fun e w' => e = .returned (.int .i64 ((rk : Int) + 1)) ∧ w' = W) := fun W => by
              have h := HSD0 W h6 h17
              rw [← hfirst, ← hrk, decide_eq_false hk0] at h
              exact h.mono fun _ _ h => ⟨h.1, h.2.symm⟩
            have hkb : ((k : Int) == 0) = false := by simp; omega
            have hkp : (0 : Int) < (k : Int) := by omega
            have HBT := Lib.hid (rbetween_any t.op wr h6 h17)
            obtain ⟨B, hB0⟩ : ∃ B : ByteArray, B = ⟨(betw t.op).toArray⟩ := ⟨_, rfl⟩
            rw [← hB0] at HBT
            have hBz : B.size ≤ 5 := by rw [hB0, bsz'']; unfold betw; have := signB_len t.op; simp; omega
            have hSz : S.size ≤ J.length := by
              rw [← HS.out, List.length_append]
              show (bs S).length ≤ _
              omega
            obtain ⟨S0, hS0⟩ : ∃ S0 : ByteArray, S0 = S ++ B := ⟨_, rfl⟩
            have hcat0 := rle_run hS0 (by omega)
            rw [hB0] at hS0
            clear HSD0 hfirst hB0
            go_wp2_with fail
            refine (HBT.out).mono ?_
            rintro e wm ⟨rfl, hbm⟩
            have HBM := Lib.hid (HBL.out.trans (hbm.mono hszr))
            have hszm := HBM.out.size
            have qm0 := q0
            have qm1 := q1
            have qm2 := q2
            have qm3 := q3
            rw [← hbm.cell (p := ⟨g, _, none⟩) hgw] at qm0 qm1 qm2 qm3
            clear kr0 kr3
            obtain ⟨kr0, kr1, kr2, kr3⟩ := HXX.out wm HBM.out
            have hgm : g < wm.heap.size := by have := hbm.size; omega
            have hwwm : w.heap.size < wm.heap.size := by have := hbm.size; omega
            clear kr1 kr2
            obtain ⟨e1, he1⟩ : ∃ e1, e1 = (false && decide (k + 1 = n)) := ⟨_, rfl⟩
            have hB : (!e1) = true := by
              rw [he1]
              rfl
            have HJ : Hid (shwJoin numS t.op (t.kids.drop k) k false = betw t.op ++ shw numS kd rk e1 ++ shwJoin numS t.op (t.kids.drop (k + 1)) (k + 1) false) := by
              show _ = _
              rw [join_drop hkd, if_neg hk0, ← HN.out, ← he1, hrk]
            obtain ⟨T, hT⟩ : ∃ T : ByteArray, T = ⟨(shw numS kd rk e1).toArray⟩ := ⟨_, rfl⟩
            have HC : Hid (∀ W, Below wm.heap.size wm W → Calls Tryd.prog 51 #[.agg #[.int .i64 kd.op, .int .i64 kd.num, .string kd.name, .slice A2 n2 c2], .int .i64 ((rk : Int) + 1), .bool (true)] W fun e w' => e = .returned (.string T) ∧ Below W.heap.size W w') := fun W hb => by
              have hih := HH.out kd rk e1 (d + 1) A2 c2 W hkN hkS (by rw [hrk]; exact hasle) hkO ((hV2.below hbm rfl).below hb rfl)
              unfold Tm.val at hih
              rw [← hn2, hB] at hih
              rw [hT]
              exact hih
            obtain ⟨S2, hS2⟩ : ∃ S2 : ByteArray, S2 = S0 ++ T := ⟨_, rfl⟩
            have HSW : Hid (bs S2 ++ shwJoin numS t.op (t.kids.drop (k + 1)) (k + 1) false = J) := by
              show _ = _
              rw [← HS.out, HJ.out, hS2, bs_app, hT, hS0, bs_app]
              simp [bs]
            have hz2 : S2.size ≤ J.length := by
              rw [← HSW.out, List.length_append]
              show (bs S2).length ≤ _
              omega
            have hcat := rle_run hS2 (by rw [← ByteArray.size_append, ← hS2]; omega)
            clear he1 hB hT hS2 hz2 hkd hn2 hV2 hrk hasle hS0
            clear q0 q1 q2 q3
            have q0 := qm0
            have q1 := qm1
            have q2 := qm2
            have q3 := qm3
            clear qm0 qm1 qm2 qm3
            go_wp2_with fail
            have hbd : Below wm.heap.size wm wm.drew := (Below.refl _ _).drew
            refine wp_region_held_drew (S := (fun w' => (∀ o, w'.cell? ⟨w.heap.size, o, none⟩ = wm.cell? ⟨w.heap.size, o, none⟩) ∧ (∀ o, w'.cell? ⟨g, o, none⟩ = wm.cell? ⟨g, o, none⟩) ∧ Below wm.heap.size wm w')) (by kernel_rfl) (⟨keep_cells (by assumption) hwwm, keep_cells (by assumption) hgm, by assumption⟩) (fun hHeld => ?_)
            refine wpAnyH_take (i := 0) (oi := { dst := some 79, op := Op.move (Operand.tmp 7), type := 9, pos := "ref.go:354", after := #[], guard := none }) (v := ?_) rfl (by kernel_rfl) (by kernel_rfl) (by kernel_rfl) (fun _ _ _ h => h) (Or.inl ⟨by rfl, ?hy⟩) (by assumption) ?_
            case hy => intro w0 hSw; (try dsimp only at hSw); go_simp; (first | done | with_reducible rfl)
            try simp only [Act.put, List.setIfInBounds_toArray, List.set_cons_zero, List.set_cons_succ]
            refine wpAnyH_take (i := 1) (oi := { dst := some 80, op := Op.fieldAddr 26 (Operand.tmp 3) 3, type := 0, pos := "ref.go:354", after := #[], guard := none }) (v := ?_) rfl (by kernel_rfl) (by kernel_rfl) (by kernel_rfl) (fun _ _ _ h => h) (Or.inl ⟨by rfl, ?hy⟩) (by assumption) ?_
            case hy => intro w0 hSw; (try dsimp only at hSw); go_simp; (first | done | with_reducible rfl)
            try simp only [Act.put, List.setIfInBounds_toArray, List.set_cons_zero, List.set_cons_succ]
            refine wpAnyH_take (i := 2) (oi := { dst := some 81, op := Op.load 24 (Operand.tmp 80), type := 24, pos := "ref.go:354", after := #[{ on := 1, ground := Ground.data }], guard := none }) (v := ?_) rfl (by kernel_rfl) (by kernel_rfl) (by kernel_rfl) (fun _ _ _ h => h) (Or.inl ⟨by rfl, ?hy⟩) (by assumption) ?_
            case hy => intro w0 hSw; (try dsimp only at hSw); go_simp; (first | done | with_reducible rfl)
            try simp only [Act.put, List.setIfInBounds_toArray, List.set_cons_zero, List.set_cons_succ]
            refine wpAnyH_take (i := 3) (oi := { dst := some 82, op := Op.move (Operand.tmp 8), type := 3, pos := "ref.go:354", after := #[], guard := none }) (v := ?_) rfl (by kernel_rfl) (by kernel_rfl) (by kernel_rfl) (fun _ _ _ h => h) (Or.inl ⟨by rfl, ?hy⟩) (by assumption) ?_
            case hy => intro w0 hSw; (try dsimp only at hSw); go_simp; (first | done | with_reducible rfl)
            try simp only [Act.put, List.setIfInBounds_toArray, List.set_cons_zero, List.set_cons_succ]
            refine wpAnyH_take (i := 4) (oi := { dst := some 83, op := Op.indexAddr 24 (Operand.tmp 81) (Operand.tmp 82), type := 0, pos := "ref.go:354", after := #[{ on := 2, ground := Ground.data }, { on := 3, ground := Ground.data }], guard := none }) (v := ?_) rfl (by kernel_rfl) (by kernel_rfl) (by kernel_rfl) (fun _ _ _ h => h) (Or.inl ⟨by rfl, ?hy⟩) (by assumption) ?_
            case hy => intro w0 hSw; (try dsimp only at hSw); go_simp; (first | done | with_reducible rfl)
            try simp only [Act.put, List.setIfInBounds_toArray, List.set_cons_zero, List.set_cons_succ]
            refine wpAnyH_take (i := 5) (oi := { dst := some 84, op := Op.load 26 (Operand.tmp 83), type := 26, pos := "ref.go:354", after := #[{ on := 4, ground := Ground.data }], guard := none }) (v := ?_) rfl (by kernel_rfl) (by kernel_rfl) (by kernel_rfl) (fun _ _ _ h => h) (Or.inl ⟨by rfl, ?hy⟩) (by assumption) ?_
            case hy => intro w0 hSw; (try dsimp only at hSw); go_simp; (first | done | with_reducible rfl)
            try simp only [Act.put, List.setIfInBounds_toArray, List.set_cons_zero, List.set_cons_succ]
            refine wpAnyH_take (i := 6) (oi := { dst := some 85, op := Op.fieldAddr 26 (Operand.tmp 3) 0, type := 0, pos := "ref.go:354", after := #[], guard := none }) (v := ?_) rfl (by kernel_rfl) (by kernel_rfl) (by kernel_rfl) (fun _ _ _ h => h) (Or.inl ⟨by rfl, ?hy⟩) (by assumption) ?_
            case hy => intro w0 hSw; (try dsimp only at hSw); go_simp; (first | done | with_reducible rfl)
            try simp only [Act.put, List.setIfInBounds_toArray, List.set_cons_zero, List.set_cons_succ]
            refine wpAnyH_take (i := 7) (oi := { dst := some 86, op := Op.load 3 (Operand.tmp 85), type := 3, pos := "ref.go:354", after := #[{ on := 6, ground := Ground.data }], guard := none }) (v := ?_) rfl (by kernel_rfl) (by kernel_rfl) (by kernel_rfl) (fun _ _ _ h => h) (Or.inl ⟨by rfl, ?hy⟩) (by assumption) ?_
            case hy => intro w0 hSw; (try dsimp only at hSw); go_simp; (first | done | with_reducible rfl)
            try simp only [Act.put, List.setIfInBounds_toArray, List.set_cons_zero, List.set_cons_succ]
            refine wpAnyH_take (i := 8) (oi := { dst := some 87, op := Op.move (Operand.tmp 8), type := 3, pos := "ref.go:354", after := #[], guard := none }) (v := ?_) rfl (by kernel_rfl) (by kernel_rfl) (by kernel_rfl) (fun _ _ _ h => h) (Or.inl ⟨by rfl, ?hy⟩) (by assumption) ?_
            case hy => intro w0 hSw; (try dsimp only at hSw); go_simp; (first | done | with_reducible rfl)
            try simp only [Act.put, List.setIfInBounds_toArray, List.set_cons_zero, List.set_cons_succ]
            refine wpAnyH_take (i := 9) (oi := { dst := some 88, op := Op.binOp BinOp.eql 3 (Operand.tmp 87) (Operand.const (Value.int IntKind.i64 0)) 3, type := 4, pos := "ref.go:354", after := #[{ on := 8, ground := Ground.data }], guard := none }) (v := ?_) rfl (by kernel_rfl) (by kernel_rfl) (by kernel_rfl) (fun _ _ _ h => h) (Or.inl ⟨by rfl, ?hy⟩) (by assumption) ?_
            case hy => intro w0 hSw; (try dsimp only at hSw); go_simp; (first | done | with_reducible rfl)
            try simp only [Act.put, List.setIfInBounds_toArray, List.set_cons_zero, List.set_cons_succ]
            refine wpAnyH_take (i := 11) (oi := { dst := some 90, op := Op.move (Operand.tmp 2), type := 4, pos := "ref.go:354", after := #[], guard := none }) (v := ?_) rfl (by kernel_rfl) (by kernel_rfl) (by kernel_rfl) (fun _ _ _ h => h) (Or.inl ⟨by rfl, ?hy⟩) (by assumption) ?_
            case hy => intro w0 hSw; (try dsimp only at hSw); go_simp; (first | done | with_reducible rfl)
            try simp only [Act.put, List.setIfInBounds_toArray, List.set_cons_zero, List.set_cons_succ]
            refine wpAnyH_ready (rs := [10]) (by kernel_rfl) (by simp) ?_
            refine AllReadyH.cons (o := { dst := some 89, op := Op.call { callee := Callee.value (Operand.func 77), args := #[Operand.tmp 86, Operand.tmp 88], argTypes := #[3, 4] }, type := 3, pos := "ref.go:354", after := #[{ on := 7, ground := Ground.data }, { on := 9, ground := Ground.data }], guard := none }) rfl (fun K hK => ?_) AllReadyH.nil
            go_simp
            (go_at_call 77; with_reducible refine (HSD.out _).mono ?_; rintro e w5 ⟨rfl, hw5⟩; rw [hw5]; clear hw5)
            try go_wp2_with fail
            refine hK.out _ _ (⟨keep_cells (by assumption) hwwm, keep_cells (by assumption) hgm, by assumption⟩) (fun hHeld => ?_)
            clear hK K
            try simp only [Act.put, List.setIfInBounds_toArray, List.set_cons_zero, List.set_cons_succ]
            refine wpAnyH_take (i := 12) (oi := { dst := some 91, op := Op.move (Operand.tmp 90), type := 4, pos := "ref.go:354", after := #[{ on := 11, ground := Ground.data }, { on := 10, ground := Ground.chain }], guard := none }) (v := ?_) rfl (by kernel_rfl) (by kernel_rfl) (by kernel_rfl) (fun _ _ _ h => h) (Or.inl ⟨by rfl, ?hy⟩) (by assumption) ?_
            case hy => intro w0 hSw; (try dsimp only at hSw); go_simp; (first | done | with_reducible rfl)
            try simp only [Act.put, List.setIfInBounds_toArray, List.set_cons_zero, List.set_cons_succ]
            refine wpAnyH_take (i := 13) (oi := { dst := some 92, op := Op.move (Operand.tmp 8), type := 3, pos := "ref.go:354", after := #[{ on := 12, ground := Ground.guard }], guard := some (12, false) }) (v := undef) rfl (by kernel_rfl) (by kernel_rfl) (by kernel_rfl) (fun _ _ _ h => h) (Or.inr ⟨by rfl, rfl⟩) (by assumption) ?_
            try simp only [Act.put, List.setIfInBounds_toArray, List.set_cons_zero, List.set_cons_succ]
            refine wpAnyH_take (i := 14) (oi := { dst := some 93, op := Op.binOp BinOp.add 3 (Operand.tmp 92) (Operand.const (Value.int IntKind.i64 1)) 3, type := 3, pos := "ref.go:354", after := #[{ on := 13, ground := Ground.data }, { on := 12, ground := Ground.guard }], guard := some (12, false) }) (v := undef) rfl (by kernel_rfl) (by kernel_rfl) (by kernel_rfl) (fun _ _ _ h => h) (Or.inr ⟨by rfl, rfl⟩) (by assumption) ?_
            try simp only [Act.put, List.setIfInBounds_toArray, List.set_cons_zero, List.set_cons_succ]
            refine wpAnyH_take (i := 15) (oi := { dst := some 94, op := Op.fieldAddr 26 (Operand.tmp 3) 3, type := 0, pos := "ref.go:354", after := #[{ on := 12, ground := Ground.guard }], guard := some (12, false) }) (v := undef) rfl (by kernel_rfl) (by kernel_rfl) (by kernel_rfl) (fun _ _ _ h => h) (Or.inr ⟨by rfl, rfl⟩) (by assumption) ?_
            try simp only [Act.put, List.setIfInBounds_toArray, List.set_cons_zero, List.set_cons_succ]
            refine wpAnyH_take (i := 16) (oi := { dst := some 95, op := Op.load 24 (Operand.tmp 94), type := 24, pos := "ref.go:354", after := #[{ on := 15, ground := Ground.data }, { on := 12, ground := Ground.guard }], guard := some (12, false) }) (v := undef) rfl (by kernel_rfl) (by kernel_rfl) (by kernel_rfl) (fun _ _ _ h => h) (Or.inr ⟨by rfl, rfl⟩) (by assumption) ?_
            try simp only [Act.put, List.setIfInBounds_toArray, List.set_cons_zero, List.set_cons_succ]
            refine wpAnyH_take (i := 17) (oi := { dst := some 96, op := Op.call { callee := Callee.builtin Builtin.len, args := #[Operand.tmp 95], argTypes := #[24] }, type := 3, pos := "ref.go:354", after := #[{ on := 16, ground := Ground.data }, { on := 12, ground := Ground.guard }], guard := some (12, false) }) (v := undef) rfl (by kernel_rfl) (by kernel_rfl) (by kernel_rfl) (fun _ _ _ h => h) (Or.inr ⟨by rfl, rfl⟩) (by assumption) ?_
            try simp only [Act.put, List.setIfInBounds_toArray, List.set_cons_zero, List.set_cons_succ]
            refine wpAnyH_take (i := 18) (oi := { dst := some 97, op := Op.binOp BinOp.lss 3 (Operand.tmp 93) (Operand.tmp 96) 3, type := 4, pos := "ref.go:354", after := #[{ on := 14, ground := Ground.data }, { on := 17, ground := Ground.data }, { on := 12, ground := Ground.guard }], guard := some (12, false) }) (v := undef) rfl (by kernel_rfl) (by kernel_rfl) (by kernel_rfl) (fun _ _ _ h => h) (Or.inr ⟨by rfl, rfl⟩) (by assumption) ?_
            try simp only [Act.put, List.setIfInBounds_toArray, List.set_cons_zero, List.set_cons_succ]
            refine wpAnyH_take (i := 19) (oi := { dst := some 98, op := Op.pick (Operand.tmp 91) (Operand.const (Value.bool true)) (Operand.tmp 97), type := 4, pos := "ref.go:354", after := #[{ on := 12, ground := Ground.data }, { on := 18, ground := Ground.data }], guard := none }) (v := ?_) rfl (by kernel_rfl) (by kernel_rfl) (by kernel_rfl) (fun _ _ _ h => h) (Or.inl ⟨by rfl, ?hy⟩) (by assumption) ?_
            case hy => intro w0 hSw; (try dsimp only at hSw); go_simp; (first | done | with_reducible rfl)
            try simp only [Act.put, List.setIfInBounds_toArray, List.set_cons_zero, List.set_cons_succ]
            refine wpAnyH_ready (rs := [20]) (by kernel_rfl) (by simp) ?_
            refine AllReadyH.cons (o := { dst := some 99, op := Op.call { callee := Callee.value (Operand.func 51), args := #[Operand.tmp 84, Operand.tmp 89, Operand.tmp 98], argTypes := #[26, 3, 4] }, type := 9, pos := "ref.go:354", after := #[{ on := 5, ground := Ground.data }, { on := 10, ground := Ground.data }, { on := 19, ground := Ground.data }, { on := 12, ground := Ground.chain }], guard := none }) rfl (fun K hK => ?_) AllReadyH.nil
            go_simp
            (go_at_call 51; with_reducible refine (HC.out _ (by assumption)).mono ?_; rintro e w5 ⟨rfl, hb5⟩; have hk5 := keep_step (by assumption) hb5)
            try go_wp2_with fail
            refine hK.out _ _ (⟨keep_cells (by assumption) hwwm, keep_cells (by assumption) hgm, by assumption⟩) (fun hHeld => ?_)
            clear hK K
            try simp only [Act.put, List.setIfInBounds_toArray, List.set_cons_zero, List.set_cons_succ]
            refine wpAnyH_take (i := 21) (oi := { dst := some 100, op := Op.binOp BinOp.add 9 (Operand.tmp 79) (Operand.tmp 99) 9, type := 9, pos := "ref.go:354", after := #[{ on := 0, ground := Ground.data }, { on := 20, ground := Ground.data }], guard := none }) (v := ?_) rfl (by kernel_rfl) (by kernel_rfl) (by kernel_rfl) (fun _ _ _ h => h) (Or.inl ⟨by rfl, ?hy⟩) (by assumption) ?_
            case hy => intro w0 hSw; (try dsimp only at hSw); go_simp; (first | done | with_reducible rfl)
            try simp only [Act.put, List.setIfInBounds_toArray, List.set_cons_zero, List.set_cons_succ]
            refine wpAnyH_take (i := 22) (oi := { dst := some 7, op := Op.assign (Operand.tmp 100), type := 9, pos := "ref.go:354", after := #[{ on := 21, ground := Ground.data }, { on := 20, ground := Ground.chain }, { on := 0, ground := Ground.phase }, { on := 1, ground := Ground.phase }, { on := 2, ground := Ground.phase }, { on := 3, ground := Ground.phase }, { on := 4, ground := Ground.phase }, { on := 5, ground := Ground.phase }, { on := 6, ground := Ground.phase }, { on := 7, ground := Ground.phase }, { on := 8, ground := Ground.phase }, { on := 9, ground := Ground.phase }, { on := 10, ground := Ground.phase }, { on := 11, ground := Ground.phase }, { on := 12, ground := Ground.phase }, { on := 13, ground := Ground.phase }, { on := 14, ground := Ground.phase }, { on := 15, ground := Ground.phase }, { on := 16, ground := Ground.phase }, { on := 17, ground := Ground.phase }, { on := 18, ground := Ground.phase }, { on := 19, ground := Ground.phase }, { on := 20, ground := Ground.phase }, { on := 21, ground := Ground.phase }], guard := none }) (v := ?_) rfl (by kernel_rfl) (by kernel_rfl) (by kernel_rfl) (fun _ _ _ h => h) (Or.inl ⟨by rfl, ?hy⟩) (by assumption) ?_
            case hy => intro w0 hSw; (try dsimp only at hSw); go_simp; (first | done | with_reducible rfl)
            try simp only [Act.put, List.setIfInBounds_toArray, List.set_cons_zero, List.set_cons_succ]
            refine wpAnyH_done (by kernel_rfl) ?_ _
            have HB5 : Hid (Below w1.heap.size w1 w5) := HBM.out.trans (hk5.mono hszm)
            clear hk5 hb5 q0 q1 q2 q3 kr0 kr3
            go_wp2_with fail
            go_roundw
            case rel => exact ⟨k + 1, S2, by omega, rfl, by go_num, HSW.out, HB5.out⟩
            case measure => simp [intOf]; omega
        · have hkn : k = n := by omega
          have HE : Hid (bs S = J) := by
            show _ = _
            have h := HS.out
            rw [List.drop_eq_nil_of_le (by have := HN.out; omega)] at h
            simpa [shwJoin] using h
          have hk1 : ¬ (k : Int) < (n : Int) := by omega
          have HBE := Lib.hid (HB1.out.trans (hbel.mono (by omega)))
          clear hlt hbel hS hkn
          go_wp2_with fail
          rw [HF.out]
          exact ⟨by rw [HRB.out, ← HJ1.out, ← HE.out]; rfl, HBE.out⟩
    | true =>
      clear h18
      go_enter Tryd.func51, Tryd.ntmps51
      go_wp2_with fail
      rw [← HW1.out]
      refine (HST.out).mono ?_
      rintro e w2 ⟨rfl, hw⟩
      rw [← hw]
      clear hw
      go_wp2_with fail
      go_loopw [7, 8] (fun sv si wr => ∃ (k : Nat) (S : ByteArray), k ≤ n ∧ sv = .string S ∧ si = .int .i64 k ∧ bs S ++ shwJoin numS t.op (t.kids.drop k) k true = J ∧ Below w1.heap.size w1 wr) (fun _ i _ => n - (intOf i).toNat)
      case atStart => exact ⟨0, ⟨#[]⟩, Nat.zero_le _, rfl, rfl, HJ0.out.symm, Below.refl _ _⟩
      case round =>
        obtain ⟨k, S, hk, rfl, rfl, hS, hbel⟩ := hrel
        have HBL := Lib.hid hbel
        have HS := Lib.hid hS
        have hszr := hbel.size
        obtain ⟨kr0, kr1, kr2, kr3⟩ := HXX.out wr hbel
        have hwwr : w.heap.size < wr.heap.size := by omega
        clear kr1 kr2
        by_cases hlt : k < n
        · obtain ⟨kd, hkd⟩ : ∃ kd, t.kids[k]? = some kd := ⟨_, List.getElem?_eq_getElem (by have := HN.out; omega)⟩
          have hmem : kd ∈ t.kids := List.mem_of_getElem? hkd
          have hkN := (HSZ.out kd hmem).1
          have hkS := (HSZ.out kd hmem).2
          have hkO := HOK.out kd hmem
          rcases HV1.out.kids with h9 | ⟨g, off, rfl, hg, hrow⟩
          · rw [h9] at hkd; simp at hkd
          have hat := (hrow.get hkd).below hbel rfl hg
          obtain ⟨q0, q1, q2, A2, c2, q3, hV2⟩ := hat.open
          have hgw : g < wr.heap.size := by omega
          obtain ⟨n2, hn2⟩ : ∃ n2, n2 = kd.kids.length := ⟨_, rfl⟩
          rw [← hn2] at q3
          have e1 : off + 4 * k = off + k * 4 := by omega
          rw [e1] at q0 q1 q2 q3
          obtain ⟨rk, hrk⟩ : ∃ rk, rk = asksN t.op k := ⟨_, rfl⟩
          have hfirst := asks_first (op := t.op) (i := k) (by omega)
          have hasle : asksN t.op k ≤ 8 := by rw [hfirst]; refine asks_le _ _ ?_; split <;> omega
          have HSD0 := rside_any t.op (decide (k = 0))
          have hk0i : (0 : Int) ≤ (k : Int) := by omega
          have hk1 : (k : Int) < (n : Int) := by omega
          have HLT := Lib.hid hlt
          clear hat hrow hmem e1 hbel hS
          by_cases hk0 : k = 0
          · have HSD : Hid (∀ W, Calls Tryd.prog 77 #[.int .i64 t.op, .bool true] W fun e w' => e = .returned (.int .i64 ((rk : Int) + 1)) ∧ w' = W) := fun W => by
              have h := HSD0 W h6 h17
              rw [← hfirst, ← hrk, decide_eq_true hk0] at h
              exact h.mono fun _ _ h => ⟨h.1, h.2.symm⟩
            clear HSD0 hfirst
            subst hk0
            have hka : (0 : Nat) * 4 = 0 := by omega
            rw [hka, Nat.add_zero] at q0 q1 q2 q3
            obtain ⟨e1, he1⟩ : ∃ e1, e1 = (true && decide (0 + 1 = n)) := ⟨_, rfl⟩
            have hB : (!e1) = decide ((1 : Int) < (n : Int)) := by
              rw [he1]
              rw [Bool.true_and, Bool.eq_iff_iff]; simp; omega
            have HJ : Hid (shwJoin numS t.op (t.kids.drop 0) 0 true = [] ++ shw numS kd rk e1 ++ shwJoin numS t.op (t.kids.drop (0 + 1)) (0 + 1) true) := by
              show _ = _
              rw [join_drop hkd, if_pos rfl, ← HN.out, ← he1, hrk]
            obtain ⟨T, hT⟩ : ∃ T : ByteArray, T = ⟨(shw numS kd rk e1).toArray⟩ := ⟨_, rfl⟩
            have HC : Hid (∀ W, Below wr.heap.size wr W → Calls Tryd.prog 51 #[.agg #[.int .i64 kd.op, .int .i64 kd.num, .string kd.name, .slice A2 n2 c2], .int .i64 ((rk : Int) + 1), .bool (decide ((1 : Int) < (n : Int)))] W fun e w' => e = .returned (.string T) ∧ Below W.heap.size W w') := fun W hb => by
              have hih := HH.out kd rk e1 (d + 1) A2 c2 W hkN hkS (by rw [hrk]; exact hasle) hkO (hV2.below hb rfl)
              unfold Tm.val at hih
              rw [← hn2, hB] at hih
              rw [hT]
              exact hih
            obtain ⟨S2, hS2⟩ : ∃ S2 : ByteArray, S2 = S ++ T := ⟨_, rfl⟩
            have HSW : Hid (bs S2 ++ shwJoin numS t.op (t.kids.drop (0 + 1)) (0 + 1) true = J) := by
              show _ = _
              rw [← HS.out, HJ.out, hS2, bs_app, hT]
              simp [bs]
            have hz2 : S2.size ≤ J.length := by
              rw [← HSW.out, List.length_append]
              show (bs S2).length ≤ _
              omega
            have hcat := rle_run hS2 (by rw [← ByteArray.size_append, ← hS2]; omega)
            clear he1 hB hT hS2 hz2 hkd hn2 hV2 hrk hasle
            go_wp2_with fail
            have hbd : Below wr.heap.size wr wr.drew := (Below.refl _ _).drew
            have hsum : IntKind.i64.wrap 1 = 1 := IntWalk.i64_in _ (by omega)
            go_region_held3 (fun w' => (∀ o, w'.cell? ⟨w.heap.size, o, none⟩ = wr.cell? ⟨w.heap.size, o, none⟩) ∧ (∀ o, w'.cell? ⟨g, o, none⟩ = wr.cell? ⟨g, o, none⟩) ∧ Below wr.heap.size wr w')
              (first | (exact ⟨keep_cells (by assumption) hwwr, keep_cells (by assumption) hgw, by assumption⟩) | fail)
              (first | (go_at_call 77; with_reducible refine (HSD.out _).mono ?_; rintro e w5 ⟨rfl, hw5⟩; rw [hw5]; clear hw5) | (go_at_call 51; with_reducible refine (HC.out _ (by assumption)).mono ?_; rintro e w5 ⟨rfl, hb5⟩; have hk5 := keep_step (by assumption) hb5) | fail)
            have HB5 : Hid (Below w1.heap.size w1 w5) := HBL.out.trans (hk5.mono hszr)
            clear hk5 hb5 q0 q1 q2 q3 kr0 kr3
            go_wp2_with fail
            go_roundw
            case rel => exact ⟨0 + 1, S2, by omega, rfl, by go_num, HSW.out, HB5.out⟩
            case measure => simp [intOf]; omega
          · have HSD : Hid (∀ W, Calls Tryd.prog 77 #[.int .i64 t.op, .bool false] W fun e w' => e = .returned (.int .i64 ((rk : Int) + 1)) ∧ w' = W) := fun W => by
              have h := HSD0 W h6 h17
              rw [← hfirst, ← hrk, decide_eq_false hk0] at h
              exact h.mono fun _ _ h => ⟨h.1, h.2.symm⟩
            have hkb : ((k : Int) == 0) = false := by simp; omega
            have hkp : (0 : Int) < (k : Int) := by omega
            have HBT := Lib.hid (rbetween_any t.op wr h6 h17)
            obtain ⟨B, hB0⟩ : ∃ B : ByteArray, B = ⟨(betw t.op).toArray⟩ := ⟨_, rfl⟩
            rw [← hB0] at HBT
            have hBz : B.size ≤ 5 := by rw [hB0, bsz'']; unfold betw; have := signB_len t.op; simp; omega
            have hSz : S.size ≤ J.length := by
              rw [← HS.out, List.length_append]
              show (bs S).length ≤ _
              omega
            obtain ⟨S0, hS0⟩ : ∃ S0 : ByteArray, S0 = S ++ B := ⟨_, rfl⟩
            have hcat0 := rle_run hS0 (by omega)
            rw [hB0] at hS0
            clear HSD0 hfirst hB0
            go_wp2_with fail
            refine (HBT.out).mono ?_
            rintro e wm ⟨rfl, hbm⟩
            have HBM := Lib.hid (HBL.out.trans (hbm.mono hszr))
            have hszm := HBM.out.size
            have qm0 := q0
            have qm1 := q1
            have qm2 := q2
            have qm3 := q3
            rw [← hbm.cell (p := ⟨g, _, none⟩) hgw] at qm0 qm1 qm2 qm3
            clear kr0 kr3
            obtain ⟨kr0, kr1, kr2, kr3⟩ := HXX.out wm HBM.out
            have hgm : g < wm.heap.size := by have := hbm.size; omega
            have hwwm : w.heap.size < wm.heap.size := by have := hbm.size; omega
            clear kr1 kr2
            obtain ⟨e1, he1⟩ : ∃ e1, e1 = (true && decide (k + 1 = n)) := ⟨_, rfl⟩
            have hB : (!e1) = decide (((k : Int) + 1 : Int) < (n : Int)) := by
              rw [he1]
              rw [Bool.true_and, Bool.eq_iff_iff]; simp; omega
            have HJ : Hid (shwJoin numS t.op (t.kids.drop k) k true = betw t.op ++ shw numS kd rk e1 ++ shwJoin numS t.op (t.kids.drop (k + 1)) (k + 1) true) := by
              show _ = _
              rw [join_drop hkd, if_neg hk0, ← HN.out, ← he1, hrk]
            obtain ⟨T, hT⟩ : ∃ T : ByteArray, T = ⟨(shw numS kd rk e1).toArray⟩ := ⟨_, rfl⟩
            have HC : Hid (∀ W, Below wm.heap.size wm W → Calls Tryd.prog 51 #[.agg #[.int .i64 kd.op, .int .i64 kd.num, .string kd.name, .slice A2 n2 c2], .int .i64 ((rk : Int) + 1), .bool (decide (((k : Int) + 1 : Int) < (n : Int)))] W fun e w' => e = .returned (.string T) ∧ Below W.heap.size W w') := fun W hb => by
              have hih := HH.out kd rk e1 (d + 1) A2 c2 W hkN hkS (by rw [hrk]; exact hasle) hkO ((hV2.below hbm rfl).below hb rfl)
              unfold Tm.val at hih
              rw [← hn2, hB] at hih
              rw [hT]
              exact hih
            obtain ⟨S2, hS2⟩ : ∃ S2 : ByteArray, S2 = S0 ++ T := ⟨_, rfl⟩
            have HSW : Hid (bs S2 ++ shwJoin numS t.op (t.kids.drop (k + 1)) (k + 1) true = J) := by
              show _ = _
              rw [← HS.out, HJ.out, hS2, bs_app, hT, hS0, bs_app]
              simp [bs]
            have hz2 : S2.size ≤ J.length := by
              rw [← HSW.out, List.length_append]
              show (bs S2).length ≤ _
              omega
            have hcat := rle_run hS2 (by rw [← ByteArray.size_append, ← hS2]; omega)
            clear he1 hB hT hS2 hz2 hkd hn2 hV2 hrk hasle hS0
            clear q0 q1 q2 q3
            have q0 := qm0
            have q1 := qm1
            have q2 := qm2
            have q3 := qm3
            clear qm0 qm1 qm2 qm3
            go_wp2_with fail
            have hbd : Below wm.heap.size wm wm.drew := (Below.refl _ _).drew
            have hsum : IntKind.i64.wrap ((k : Int) + 1) = (k : Int) + 1 := IntWalk.i64_in _ (by omega)
            go_region_held3 (fun w' => (∀ o, w'.cell? ⟨w.heap.size, o, none⟩ = wm.cell? ⟨w.heap.size, o, none⟩) ∧ (∀ o, w'.cell? ⟨g, o, none⟩ = wm.cell? ⟨g, o, none⟩) ∧ Below wm.heap.size wm w')
              (first | (exact ⟨keep_cells (by assumption) hwwm, keep_cells (by assumption) hgm, by assumption⟩) | fail)
              (first | (go_at_call 77; with_reducible refine (HSD.out _).mono ?_; rintro e w5 ⟨rfl, hw5⟩; rw [hw5]; clear hw5) | (go_at_call 51; with_reducible refine (HC.out _ (by assumption)).mono ?_; rintro e w5 ⟨rfl, hb5⟩; have hk5 := keep_step (by assumption) hb5) | fail)
            have HB5 : Hid (Below w1.heap.size w1 w5) := HBM.out.trans (hk5.mono hszm)
            clear hk5 hb5 q0 q1 q2 q3 kr0 kr3
            go_wp2_with fail
            go_roundw
            case rel => exact ⟨k + 1, S2, by omega, rfl, by go_num, HSW.out, HB5.out⟩
            case measure => simp [intOf]; omega
        · have hkn : k = n := by omega
          have HE : Hid (bs S = J) := by
            show _ = _
            have h := HS.out
            rw [List.drop_eq_nil_of_le (by have := HN.out; omega)] at h
            simpa [shwJoin] using h
          have hk1 : ¬ (k : Int) < (n : Int) := by omega
          have HBE := Lib.hid (HB1.out.trans (hbel.mono (by omega)))
          clear hlt hbel hS hkn
          go_wp2_with fail
          rw [HF.out]
          exact ⟨by rw [HRB.out, ← HJ1.out, ← HE.out]; rfl, HBE.out⟩

set_option maxRecDepth 100000 in
set_option maxHeartbeats 8000000 in
theorem rtext_wrap (N : Nat) (H : TxtC N) (t : Tm) (rule : Nat) (ends : Bool) (d : Nat) (A : Option Addr) (c : Nat) (w : World) (hN : t.size ≤ N + 1) (hsz : t.size ≤ 9000000) (hr8 : rule ≤ 8) (hok : t.okT d) (hV : TmV w A c t) (hp : pB t rule ends = true) :
    Calls Tryd.prog 51 #[t.val A c, .int .i64 ((rule : Int) + 1), .bool (!ends)] w fun e w' => e = .returned (.string ⟨([40] ++ bodyR t true ++ [41]).toArray⟩) ∧ Below w.heap.size w w' := by
  obtain ⟨n, hn⟩ : ∃ n, n = t.kids.length := ⟨_, rfl⟩
  obtain ⟨F, hF⟩ : ∃ F : Ending → World → Prop, F = fun e w' => e = .returned (.string ⟨([40] ++ bodyR t true ++ [41]).toArray⟩) ∧ Below w.heap.size w w' := ⟨_, rfl⟩
  rw [← hF]
  obtain ⟨w1, hw1⟩ : ∃ w1, w1 = w.alloc (.cells #[.int .i64 t.op, .int .i64 t.num, .string t.name, .slice A n c] 26) := ⟨_, rfl⟩
  have hb1 : Below w.heap.size w w1 := by rw [hw1]; exact (Below.refl _ _).alloc (Nat.le_refl _) _
  have hs1 : w.heap.size < w1.heap.size := by rw [hw1]; simp
  have hbx : TBox w1 w.heap.size A n c t := by rw [hw1]; exact heap_alloc_new w _
  have HST := Lib.hid (rstrong_any t.op w1)
  obtain ⟨ro, hro⟩ : ∃ ro, ro = ruleOf t.op := ⟨_, rfl⟩
  have hcase : ro < rule ∨ (¬ ro < rule ∧ t.op = 18 ∧ ends = false) := by
    by_cases h : ro < rule
    · exact .inl h
    · refine .inr ⟨h, ?_⟩
      unfold pB at hp
      rw [hro] at h
      rw [decide_eq_false h] at hp
      cases ends with
      | true => simp at hp
      | false => simpa using hp
  rw [← hro] at HST
  have hrl2 : ro ≤ 8 := by rw [hro]; exact ruleOf_le _
  have hbody := rtext_body N H t 0 true d A c w1 hN hsz (by omega) hok (hV.below hb1 rfl) (pB_zero t)
  unfold Tm.val at hbody
  rw [← hn] at hbody
  obtain ⟨S, hS⟩ : ∃ S : ByteArray, S = ⟨(bodyR t true).toArray⟩ := ⟨_, rfl⟩
  rw [← hS] at hbody
  have hlen := rbody_len (ends := true) hok
  have hz : S.size ≤ 720000000 := by rw [hS, bsz'']; omega
  obtain ⟨S1, hS1⟩ : ∃ S1 : ByteArray, S1 = (⟨#[40]⟩ : ByteArray) ++ S := ⟨_, rfl⟩
  obtain ⟨S2, hS2⟩ : ∃ S2 : ByteArray, S2 = S1 ++ (⟨#[41]⟩ : ByteArray) := ⟨_, rfl⟩
  have z1 : S1.size = 1 + S.size := by rw [hS1, ByteArray.size_append]; rfl
  have hcat1 := rle_run hS1 (by show 1 + S.size ≤ _; omega)
  have hcat2 := rle_run hS2 (by show S1.size + 1 ≤ _; omega)
  have HR : Hid ((⟨([40] ++ bodyR t true ++ [41]).toArray⟩ : ByteArray) = S2) := by
    show _ = _
    rw [hS2, hS1, hS]
    apply bs_ext
    simp [bs]
  have x0 := hbx.c0
  have x1 := hbx.c1
  have x2 := hbx.c2
  have x3 := hbx.c3
  show Calls Tryd.prog 51 #[.agg #[.int .i64 t.op, .int .i64 t.num, .string t.name, .slice A t.kids.length c], .int .i64 ((rule : Int) + 1), .bool (!ends)] w F
  rw [← hn]
  have HF := Lib.hid hF
  have HB1 := Lib.hid hb1
  have HW1 := Lib.hid hw1
  have HC := Lib.hid hbody
  clear hF hb1 hw1 hbody hn hV hok hbx hro hp hlen hS hS1 hS2 z1 hN H hsz
  rcases hcase with h | ⟨h, h18, rfl⟩
  · have h' : (ro : Int) + 1 < (rule : Int) + 1 := by omega
    clear h
    go_enter Tryd.func51, Tryd.ntmps51
    go_wp2_with fail
    rw [← HW1.out]
    refine (HST.out).mono ?_
    rintro e w2 ⟨rfl, hw⟩
    rw [← hw]
    clear hw
    go_wp2_with fail
    refine (HC.out).mono ?_
    rintro e w3 ⟨rfl, hb3⟩
    have HB3 := Lib.hid (HB1.out.trans (hb3.mono (by omega)))
    clear hb3 x0 x1 x2 x3
    go_wp2_with fail
    rw [HF.out, HR.out]
    exact ⟨rfl, HB3.out⟩
  · have h' : ¬ (ro : Int) + 1 < (rule : Int) + 1 := by omega
    have h18b : (t.op == 18) = true := by simp; omega
    clear h h18
    go_enter Tryd.func51, Tryd.ntmps51
    go_wp2_with fail
    rw [← HW1.out]
    refine (HST.out).mono ?_
    rintro e w2 ⟨rfl, hw⟩
    rw [← hw]
    clear hw
    go_wp2_with fail
    refine (HC.out).mono ?_
    rintro e w3 ⟨rfl, hb3⟩
    have HB3 := Lib.hid (HB1.out.trans (hb3.mono (by omega)))
    clear hb3 x0 x1 x2 x3
    go_wp2_with fail
    rw [HF.out, HR.out]
    exact ⟨rfl, HB3.out⟩

theorem rtext_all : ∀ N, TxtC N := by
  intro N
  induction N with
  | zero =>
    intro t rule ends d A c w hN
    cases t; rw [Tm.size] at hN; omega
  | succ N ih =>
    intro t rule ends d A c w hN hsz hr hok hV
    rw [shw_body]
    cases hp : pB t rule ends with
    | false => exact rtext_body N ih t rule ends d A c w hN hsz hr hok hV hp
    | true => exact rtext_wrap N ih t rule ends d A c w hN hsz hr hok hV hp
end Go.Proofs.YtcjblbpkjegmiaaDoor
namespace Go.Proofs.YtcjblbpkjegmiaaDoor
open Go.RowKit
set_option linter.unusedVariables false

set_option maxRecDepth 100000 in
set_option maxHeartbeats 8000000 in
theorem rtshow_any (t : Tm) (A : Option Addr) (c : Nat) (w : World) (hV : TmV w A c t) (hsz : t.size ≤ 9000000) :
    Calls Tryd.prog 26 #[t.val A c] w fun e w' => e = .returned (.tuple #[.string ⟨(showTm t).1.toArray⟩, .int .i64 (showTm t).2]) ∧ Below w.heap.size w w' := by
  obtain ⟨n, hn⟩ : ∃ n, n = t.kids.length := ⟨_, rfl⟩
  obtain ⟨R, hR⟩ : ∃ R, R = showTm t := ⟨_, rfl⟩
  obtain ⟨F, hF⟩ : ∃ F : Ending → World → Prop, F = fun e w' => e = .returned (.tuple #[.string ⟨R.1.toArray⟩, .int .i64 R.2]) ∧ Below w.heap.size w w' := ⟨_, rfl⟩
  rw [← hR, ← hF]
  unfold showTm at hR
  obtain ⟨w1, hw1⟩ : ∃ w1, w1 = w.alloc (.cells #[.int .i64 t.op, .int .i64 t.num, .string t.name, .slice A n c] 26) := ⟨_, rfl⟩
  have hb1 : Below w.heap.size w w1 := by rw [hw1]; exact (Below.refl _ _).alloc (Nat.le_refl _) _
  have hs1 : w.heap.size < w1.heap.size := by rw [hw1]; simp
  have hbx : TBox w1 w.heap.size A n c t := by rw [hw1]; exact heap_alloc_new w _
  have hV1 := hV.below hb1 rfl
  have hck := rcheck_any t A c w1 hV1 hsz
  have HXX : Hid (∀ W, Below w1.heap.size w1 W → W.cell? ⟨w.heap.size, 0, none⟩ = some (.int .i64 t.op) ∧ W.cell? ⟨w.heap.size, 1, none⟩ = some (.int .i64 t.num) ∧ W.cell? ⟨w.heap.size, 2, none⟩ = some (.string t.name) ∧ W.cell? ⟨w.heap.size, 3, none⟩ = some (.slice A n c)) := fun W hb => by
    have hx := hbx.below hb hs1
    exact ⟨hx.c0, hx.c1, hx.c2, hx.c3⟩
  obtain ⟨x0, x1, x2, x3⟩ := HXX.out w1 (Below.refl _ _)
  have HNO : Hid (t.check = 0 → ∀ W, Below w1.heap.size w1 W → Calls Tryd.prog 50 #[.agg #[.int .i64 t.op, .int .i64 t.num, .string t.name, .slice A n c]] W fun e w' => e = .returned (.bool (!toldT t)) ∧ Below W.heap.size W w') := fun h0 W hb => by
    have h := rnone_any t.size t A c W 1 (Nat.le_refl _) hsz (check_ok h0).1 (hV1.below hb rfl)
    rw [none_told t 1 (check_ok h0).1] at h
    unfold Tm.val at h
    rw [← hn] at h
    exact h
  have HTX : Hid (t.check = 0 → ∀ W, Below w1.heap.size w1 W → Calls Tryd.prog 51 #[.agg #[.int .i64 t.op, .int .i64 t.num, .string t.name, .slice A n c], .int .i64 1, .bool false] W fun e w' => e = .returned (.string ⟨(shw numS t 0 true).toArray⟩) ∧ Below W.heap.size W w') := fun h0 W hb => by
    have h := rtext_all t.size t 0 true 1 A c W (Nat.le_refl _) hsz (by omega) (check_ok h0).1 (hV1.below hb rfl)
    unfold Tm.val at h
    rw [← hn] at h
    exact h
  have HLN : Hid (t.check = 0 → (shw numS t 0 true).length ≤ 80 * t.size) := fun h0 => by
    have := shw_len numS_short t 0 true 1 (check_ok h0).1
    omega
  unfold Tm.val at hck ⊢
  rw [← hn] at hck ⊢
  obtain ⟨ck, hck0⟩ : ∃ ck, ck = t.check := ⟨_, rfl⟩
  rw [← hck0] at hck HNO HTX HLN hR
  obtain ⟨tl, htl⟩ : ∃ tl, tl = toldT t := ⟨_, rfl⟩
  rw [← htl] at HNO hR
  obtain ⟨S, hS⟩ : ∃ S, S = shw numS t 0 true := ⟨_, rfl⟩
  rw [← hS] at HTX hR HLN
  have HR := Lib.hid hR
  have HF := Lib.hid hF
  have HB1 := Lib.hid hb1
  have HW1 := Lib.hid hw1
  have HCK := Lib.hid hck
  clear hR hF hb1 hw1 hck hck0 htl hS hn hV hV1 hbx
  go_enter Tryd.func26, Tryd.ntmps26
  go_wp2_with fail
  rw [← HW1.out]
  go_wp2_with fail
  refine (HCK.out).mono ?_
  rintro e w2 ⟨rfl, hb2⟩
  clear x0 x1 x2 x3
  obtain ⟨x0, x1, x2, x3⟩ := HXX.out w2 hb2
  have hs2 : w.heap.size < w2.heap.size := by have := hb2.size; omega
  have HB2 := Lib.hid hb2
  have HBF := Lib.hid (HB1.out.trans (hb2.mono (by omega)))
  clear hb2
  by_cases h0 : ck = 0
  · have HN2 := Lib.hid (HNO.out h0 w2 HB2.out)
    have HT2 := Lib.hid (HTX.out h0)
    have hl := HLN.out h0
    have HR2 : Hid (R = if tl = false then ([], 3) else if 65536 < S.length then ([], 4) else (S, 0)) := by show _ = _; rw [HR.out, if_neg (fun h => h h0)]
    subst h0
    go_wp2_with fail
    refine (HN2.out).mono ?_
    rintro e w3 ⟨rfl, hb3⟩
    have hb13 := keep_step HB2.out hb3
    clear x0 x1 x2 x3
    obtain ⟨x0, x1, x2, x3⟩ := HXX.out w3 hb13
    have hs3 : w.heap.size < w3.heap.size := by have := hb13.size; omega
    have HB3 := Lib.hid hb13
    have HBF3 := Lib.hid (HB1.out.trans (hb13.mono (by omega)))
    clear hb3 hb13
    cases tl with
    | false =>
      have HR3 : Hid (R = ([], 3)) := by show _ = _; rw [HR2.out, if_pos rfl]
      go_wp2_with fail
      rw [HF.out, HR3.out]
      exact ⟨rfl, HBF3.out⟩
    | true =>
      have HR3 : Hid (R = if 65536 < S.length then ([], 4) else (S, 0)) := by show _ = _; rw [HR2.out, if_neg (by decide)]
      have HT3 := Lib.hid (HT2.out w3 HB3.out)
      obtain ⟨SB, hSB⟩ : ∃ SB : ByteArray, SB = ⟨S.toArray⟩ := ⟨_, rfl⟩
      have hsb : SB.size = S.length := by rw [hSB]; exact bsz'' S
      rw [← hSB] at HT3
      have HSB := Lib.hid hSB
      have HSZ := Lib.hid hsb
      have hsb2 : SB.size ≤ 720000000 := by omega
      clear hSB hsb hl
      go_wp2_with fail
      refine (HT3.out).mono ?_
      rintro e w4 ⟨rfl, hb4⟩
      have HBF4 := Lib.hid (HB1.out.trans ((keep_step HB3.out hb4).mono (by omega)))
      clear hb4 x0 x1 x2 x3
      by_cases h6 : 65536 < SB.size
      · have HR4 : Hid (R = ([], 4)) := by show _ = _; rw [HR3.out, if_pos (by rw [← HSZ.out]; exact h6)]
        have h6' : (65536 : Int) < (SB.size : Int) := by omega
        clear h6
        go_wp2_with fail
        rw [HF.out, HR4.out]
        exact ⟨rfl, HBF4.out⟩
      · have HR4 : Hid (R = (S, 0)) := by show _ = _; rw [HR3.out, if_neg (by rw [← HSZ.out]; exact h6)]
        have h6' : ¬ (65536 : Int) < (SB.size : Int) := by omega
        clear h6
        go_wp2_with fail
        rw [HF.out, HR4.out, HSB.out]
        exact ⟨rfl, HBF4.out⟩
  · have HR2 : Hid (R = ([], ck)) := by show _ = _; rw [HR.out, if_pos h0]
    have h0' : (ck != 0) = true := by simpa using h0
    clear h0
    go_wp2_with fail
    rw [HF.out, HR2.out]
    exact ⟨rfl, HBF.out⟩
end Go.Proofs.YtcjblbpkjegmiaaDoor
