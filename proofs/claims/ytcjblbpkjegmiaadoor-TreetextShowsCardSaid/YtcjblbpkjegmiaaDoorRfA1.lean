/-Walks of the reference of terms: ref30.Kids, Part, check, Check.  Walks of the reference of terms: the names (ref30.In, With, names, Names).  Walks of the reference of formulas: ref32.Kids, nothing, one, walk, Check. -/
import Derived.Test.YtcjblbpkjegmiaaDoorTrmD
import Derived.Test.YtcjblbpkjegmiaaDoorFrmP
import Derived.Test.YtcjblbpkjegmiaaDoorLexI
import Derived.Test.YtcjblbpkjegmiaaDoorTrmI
import Derived.Test.YtcjblbpkjegmiaaDoorFrmB
namespace Go.Proofs.YtcjblbpkjegmiaaDoor
open Go.RowKit
set_option linter.unusedVariables false

set_option maxHeartbeats 4000000 in
theorem rkids_any (op : Int) (w : World) :
    Calls Tryd.prog 114 #[.int .i64 op] w fun e w' => e = .returned (.tuple #[.int .i64 (kidsOf op).1, .int .i64 (kidsOf op).2]) ∧ w = w' := by
  have hc : op = 1 ∨ op = 2 ∨ op = 3 ∨ op = 4 ∨ op = 5 ∨ op = 6 ∨ op = 7 ∨ op = 8 ∨ op = 9 ∨ op = 10 ∨ op = 11 ∨ op = 12 ∨ op = 13 ∨ op = 14 ∨ op = 15 ∨ op = 16 ∨ op = 17 ∨ op = 18 ∨ (op < 1 ∨ 18 < op) := by omega
  rcases hc with rfl | rfl | rfl | rfl | rfl | rfl | rfl | rfl | rfl | rfl | rfl | rfl | rfl | rfl | rfl | rfl | rfl | rfl | hc
  iterate 18
    · go_enter Tryd.func114, Tryd.ntmps114
      go_wp2
      go_ret2
      exact ⟨rfl, rfl⟩
  · have HR : Hid (kidsOf op = (-1, -1)) := by
      show _ = _
      unfold kidsOf
      rw [if_neg (by omega), if_neg (by omega), if_neg (by omega), if_neg (by omega), if_neg (by omega)]
    obtain ⟨r, hr⟩ : ∃ r, r = kidsOf op := ⟨_, rfl⟩
    rw [← hr] at HR ⊢
    clear hr
    have b1 : (op == 1) = false := by simp; omega
    have b2 : (op == 2) = false := by simp; omega
    have b3 : (op == 3) = false := by simp; omega
    have b4 : (op == 4) = false := by simp; omega
    have b5 : (op == 5) = false := by simp; omega
    have b6 : (op == 6) = false := by simp; omega
    have b7 : (op == 7) = false := by simp; omega
    have b8 : (op == 18) = false := by simp; omega
    rcases hc with hc | hc
    · go_enter Tryd.func114, Tryd.ntmps114
      go_wp2
      go_ret2
      rw [HR.out]
      exact ⟨rfl, rfl⟩
    · have hc1 : ¬ op < 1 := by omega
      go_enter Tryd.func114, Tryd.ntmps114
      go_wp2
      go_ret2
      rw [HR.out]
      exact ⟨rfl, rfl⟩

set_option maxRecDepth 100000 in
set_option maxHeartbeats 8000000 in
theorem rpart_any (op n : Int) (s : ByteArray) (A : Option Addr) (k c d : Nat) (w : World) (hs : s.size ≤ maxLen) (hk : k ≤ maxLen) (hd : d ≤ 100000000) :
    Calls Tryd.prog 97 #[.agg #[.int .i64 op, .int .i64 n, .string s, .slice A k c], .int .i64 d] w fun e w' => e = .returned (.int .i64 (if 64 < d then 17 else wrongE op n s.size k)) ∧ Below w.heap.size w w' := by
  unfold maxLen at hs hk
  obtain ⟨fk, hfk⟩ : ∃ fk, fk = kidsOf op := ⟨_, rfl⟩
  obtain ⟨W, hW⟩ : ∃ W, W = wrongE op n s.size k := ⟨_, rfl⟩
  rw [← hW]
  have HK := Lib.hid (fun W => rkids_any op W)
  rw [← hfk] at HK
  have HB := Lib.hid ((Below.refl w.heap.size w).alloc (Nat.le_refl _) (.cells #[.int .i64 op, .int .i64 n, .string s, .slice A k c] 26))
  have HW := Lib.hid hW
  have HFK := Lib.hid hfk
  clear hfk hW
  by_cases hd6 : 64 < d
  · have hd' : (64 : Int) < (d : Int) := by omega
    have HD := Lib.hid hd6
    clear hd6
    go_enter Tryd.func97, Tryd.ntmps97
    go_wp2_with fail
    go_ret
    exact ⟨rfl, HB.out⟩
  have hd' : ¬ (64 : Int) < (d : Int) := by omega
  have HD := Lib.hid hd6
  clear hd6
  have hnm : (0 < s.size ∧ s.toList.isEmpty = false) ∨ (s.size = 0 ∧ s.toList.isEmpty = true) := by
    rcases Nat.eq_zero_or_pos s.size with h | h
    · exact .inr ⟨h, isEmpty_of_size h⟩
    · exact .inl ⟨h, isEmpty_of_pos h⟩
  have hcl : op = 1 ∨ op = 2 ∨ op = 3 ∨ op = 4 ∨ (op ≠ 1 ∧ op ≠ 2 ∧ op ≠ 3 ∧ op ≠ 4 ∧ (op == 1) = false ∧ (op == 2) = false ∧ (op == 3) = false ∧ (op == 4) = false) := by
    by_cases h1 : op = 1
    · exact .inl h1
    by_cases h2 : op = 2
    · exact .inr (.inl h2)
    by_cases h3 : op = 3
    · exact .inr (.inr (.inl h3))
    by_cases h4 : op = 4
    · exact .inr (.inr (.inr (.inl h4)))
    exact .inr (.inr (.inr (.inr ⟨h1, h2, h3, h4, by simpa using h1, by simpa using h2, by simpa using h3, by simpa using h4⟩)))
  rcases hnm with ⟨hn1, hn2⟩ | ⟨hn1, hn2⟩
  all_goals
    have HN1 := Lib.hid hn1
    try clear hn1
    rcases hcl with rfl | rfl | rfl | rfl | ⟨h1, h2, h3, h4, b1, b2, b3, b4⟩
    all_goals
      (try have HOP := Lib.hid (And.intro h1 (And.intro h2 (And.intro h3 h4))))
      (try clear h1 h2 h3 h4)
      go_enter Tryd.func97, Tryd.ntmps97
      go_wp2_with fail
      refine (HK.out _).mono ?_
      rintro e w' ⟨rfl, hw⟩
      rw [← hw]
      clear hw
      go_wp2_with fail
      all_goals
        go_ret
        refine ⟨?_, HB.out⟩
        have hn := HN1.out
        refine congrArg (fun x => Ending.returned (.int .i64 x)) ?_
        rw [HW.out]
        first
          | rw [wrongE_cls 1 n _ _ (-255) 255 0 rfl rfl rfl]
          | rw [wrongE_cls 2 n _ _ 0 1 0 rfl rfl rfl]
          | rw [wrongE_cls 3 n _ _ 0 0 1 rfl rfl rfl]
          | rw [wrongE_cls 4 n _ _ 0 0 1 rfl rfl rfl]
          | (obtain ⟨o1, o2, o3, o4⟩ := HOP.out
             rw [wrongE_cls op n _ _ 0 0 0 (if_neg o1) (by unfold highE; rw [if_neg o1, if_neg o2]) (by rw [if_neg (by omega)])])
        rw [← HFK.out]
        repeat' split
        all_goals first | rfl | omega

set_option maxRecDepth 100000 in
set_option maxHeartbeats 8000000 in
theorem rcheck1_any : ∀ (N : Nat) (t : Tm) (d p : Nat) (A : Option Addr) (c : Nat) (w : World), t.size ≤ N → d + t.size ≤ 10000000 → p ≤ 4096 → TmV w A c t →
    Calls Tryd.prog 73 #[t.val A c, .int .i64 d, .int .i64 p] w fun e w' => e = .returned (.tuple #[.int .i64 (walkF chkStep t d (0, p)).1.1, .int .i64 ((walkF chkStep t d (0, p)).1.2 : Nat)]) ∧ Below w.heap.size w w' := by
  intro N
  induction N with
  | zero =>
    intro t d p A c w hN
    cases t; rw [Tm.size] at hN; omega
  | succ N ih =>
    intro t d p A c w hN hd hp hV
    obtain ⟨n, hn⟩ : ∃ n, n = t.kids.length := ⟨_, rfl⟩
    obtain ⟨X, hX⟩ : ∃ X, X = walkF chkStep t d (0, p) := ⟨_, rfl⟩
    obtain ⟨F, hF⟩ : ∃ F : Ending → World → Prop, F = fun e w' => e = .returned (.tuple #[.int .i64 X.1.1, .int .i64 (X.1.2 : Nat)]) ∧ Below w.heap.size w w' := ⟨_, rfl⟩
    rw [← hX, ← hF]
    have hsz : t.size = 1 + Tm.sizeL t.kids := by cases t; rw [Tm.size]; rfl
    have hnl := Tm.len_le t.kids
    have hcap := hV.cap
    have hcapm := hV.capm
    unfold maxLen at hcapm
    obtain ⟨w1, hw1⟩ : ∃ w1, w1 = w.alloc (.cells #[.int .i64 t.op, .int .i64 t.num, .string t.name, .slice A n c] 26) := ⟨_, rfl⟩
    have hb1 : Below w.heap.size w w1 := by rw [hw1]; exact (Below.refl _ _).alloc (Nat.le_refl _) _
    have hs1 : w1.heap.size = w.heap.size + 1 := by rw [hw1]; simp
    have hbx : w1.heap[w.heap.size]? = some (.cells #[.int .i64 t.op, .int .i64 t.num, .string t.name, .slice A n c] 26 (0, 0)) := by rw [hw1]; exact heap_alloc_new w _
    have hpt := rpart_any t.op t.num t.name A t.kids.length c d w1 hV.name (Nat.le_trans hV.cap hV.capm) (by omega)
    obtain ⟨pe, hpe⟩ : ∃ pe, pe = if 64 < d then 17 else wrongE t.op t.num t.name.size t.kids.length := ⟨_, rfl⟩
    rw [← hpe, ← hn] at hpt
    have HXE : Hid (X = if pe = 0 then (if 4096 < p + 1 then ((4, p + 1), false) else walkL chkStep t.kids (d + 1) (0, p + 1)) else ((pe, p + 1), false)) := by
      show _ = _
      rw [hX, walkF_eq]
      have hst : chkStep (0, p) t d = ((if 64 < d then 17 else if wrongE t.op t.num t.name.size t.kids.length = 0 ∧ 4096 < p + 1 then 4 else wrongE t.op t.num t.name.size t.kids.length, p + 1), decide ((if 64 < d then (17 : Int) else if wrongE t.op t.num t.name.size t.kids.length = 0 ∧ 4096 < p + 1 then 4 else wrongE t.op t.num t.name.size t.kids.length) = 0)) := rfl
      rw [hst, hpe]
      generalize wrongE t.op t.num t.name.size t.kids.length = we
      by_cases h1 : 64 < d
      · simp [h1]
      · by_cases h2 : we = 0
        · by_cases h3 : 4096 < p + 1
          · simp [h1, h2, h3]
          · simp [h1, h2, h3]
        · simp [h1, h2]
    have hkl : t.kids.length ≤ 10000000 := by omega
    rw [← hn] at hcap hkl
    have HSZ : Hid (∀ k ∈ t.kids, k.size ≤ N ∧ d + 1 + k.size ≤ 10000000) := fun k hk => by
      have h1 := Tm.sizeL_mem hk
      omega
    show Calls Tryd.prog 73 #[.agg #[.int .i64 t.op, .int .i64 t.num, .string t.name, .slice A t.kids.length c], .int .i64 d, .int .i64 p] w F
    rw [← hn]
    have HF := Lib.hid hF
    have HIH := Lib.hid ih
    have HN := Lib.hid hn
    have HK := Lib.hid hV.kids
    have HB1 := Lib.hid hb1
    have HS1 := Lib.hid hs1
    have HBX := Lib.hid hbx
    have HW1 := Lib.hid hw1
    have HPT := Lib.hid hpt
    have hd9 : d ≤ 10000000 := by omega
    clear hF ih hn hsz hnl hb1 hs1 hbx hw1 hV hN hX hpt hpe hd
    go_enter Tryd.func73, Tryd.ntmps73
    go_wp2_with fail
    rw [← HW1.out]
    refine (HPT.out).mono ?_
    rintro e w2 ⟨rfl, hb2⟩
    have hb3 := HB1.out.trans (hb2.mono (by have := HS1.out; omega))
    have hx3 := (hb2.block _ (by have := HS1.out; omega)).trans HBX.out
    have kc3 : w2.cell? ⟨w.heap.size, 3, none⟩ = some (.slice A n c) := by rw [cell_of_row w2 w.heap.size 3 _ _ (0, 0) hx3]; rfl
    have hs2 := hb2.size
    have hbw : w.heap.size < w2.heap.size := by have := HS1.out; omega
    have HB3 := Lib.hid hb3
    have HX3 := Lib.hid hx3
    clear hb2 hb3 hx3
    by_cases h0 : pe = 0
    · by_cases h4 : 4096 < p + 1
      · have HR : Hid (X = ((4, p + 1), false)) := by show _ = _; rw [HXE.out, if_pos h0, if_pos h4]
        subst h0
        have h4' : (4096 : Int) < (p : Int) + 1 := by omega
        clear h4
        go_wp2_with fail
        rw [HF.out, HR.out]
        exact ⟨rfl, HB3.out⟩
      · have HR : Hid (walkL chkStep t.kids (d + 1) (0, p + 1) = X) := by show _ = _; rw [HXE.out, if_pos h0, if_neg h4]
        subst h0
        have h4' : ¬ (4096 : Int) < (p : Int) + 1 := by omega
        have h4n : p + 1 ≤ 4096 := by omega
        clear h4
        go_wp2_with fail
        go_loopw [2, 9, 10, 11] (fun sp si _ _ wr => ∃ (k q : Nat), k ≤ n ∧ sp = .int .i64 q ∧ si = .int .i64 k ∧ q ≤ 4096 ∧ Below w2.heap.size w2 wr ∧ walkL chkStep (t.kids.drop k) (d + 1) (0, q) = X) (fun _ i _ _ _ => n - (intOf i).toNat)
        case atStart => exact ⟨0, p + 1, Nat.zero_le _, by go_num, rfl, h4n, Below.refl _ _, HR.out⟩
        case round =>
          obtain ⟨k, q, hk, rfl, rfl, hq, hbel, hwl⟩ := hrel
          have HB := Lib.hid hbel
          have HWL := Lib.hid hwl
          have hszr := hbel.size
          have kr3 : wr.cell? ⟨w.heap.size, 3, none⟩ = some (.slice A n c) := by rw [cell_of_row wr w.heap.size 3 _ _ (0, 0) ((hbel.block _ hbw).trans HX3.out)]; rfl
          have hbt : Below w.heap.size w wr := HB3.out.trans (hbel.mono (by omega))
          have hbwr : w.heap.size < wr.heap.size := by omega
          by_cases hlt : k < n
          · obtain ⟨kd, hkd⟩ : ∃ kd, t.kids[k]? = some kd := ⟨_, List.getElem?_eq_getElem (by have := HN.out; omega)⟩
            have hmem : kd ∈ t.kids := List.mem_of_getElem? hkd
            rcases HK.out with h9 | ⟨g, off, rfl, hg, hrow⟩
            · rw [h9] at hkd; simp at hkd
            have hat := (hrow.get hkd).below hbt rfl hg
            obtain ⟨q0, q1, q2, A2, c2, q3, hV2⟩ := hat.open
            have hgw : g < wr.heap.size := by omega
            have hih := HIH.out kd (d + 1) q A2 c2 wr (HSZ.out kd hmem).1 (HSZ.out kd hmem).2 hq hV2
            rw [show ((d + 1 : Nat) : Int) = (d : Int) + 1 from by omega] at hih
            unfold Tm.val at hih
            obtain ⟨n2, hn2⟩ : ∃ n2, n2 = kd.kids.length := ⟨_, rfl⟩
            rw [← hn2] at q3 hih
            have hsp := chk_spec kd (d + 1) (0, q)
            obtain ⟨z, hz⟩ : ∃ z, z = walkF chkStep kd (d + 1) (0, q) := ⟨_, rfl⟩
            rw [← hz] at hih hsp
            have HDR : Hid (walkL chkStep (t.kids.drop k) (d + 1) (0, q) = if z.2 = true then walkL chkStep (t.kids.drop (k + 1)) (d + 1) z.1 else (z.1, false)) := by
              obtain ⟨hj, hj2⟩ := List.getElem?_eq_some_iff.1 hkd
              show _ = _
              rw [List.drop_eq_getElem_cons hj, hj2, walkL, ← hz]
              obtain ⟨z1, z2⟩ := z
              cases z2 <;> rfl
            have HSP : Hid ((z.2 = true → z.1.1 = 0 ∧ z.1.2 ≤ 4096) ∧ (z.2 = false → z.1.1 ≠ 0)) := ⟨fun h => by
              obtain ⟨_, h2, h3⟩ := hsp.1 h
              simp only at h2 h3
              rw [h2]; exact ⟨rfl, h3⟩, hsp.2⟩
            have HC := Lib.hid hih
            obtain ⟨⟨z1, z2⟩, zb⟩ := z
            have hk0 : (0 : Int) ≤ (k : Int) := by omega
            have hk1 : (k : Int) < (n : Int) := by omega
            have e1 : off + 4 * k = off + k * 4 := by omega
            rw [e1] at q0 q1 q2 q3
            clear hih hn2 hsp hz hV2 hat hrow hmem hkd e1 hbel hwl kc3 hbt
            go_wp2_with fail
            refine (HC.out).mono ?_
            rintro e w4 ⟨rfl, hb4⟩
            have HB5 := Lib.hid (HB.out.trans (hb4.mono hszr))
            have hs4 := hb4.size
            clear hb4 q0 q1 q2 q3 kr3
            cases zb with
            | false =>
              have hz0 := HSP.out.2 rfl
              have hz0' : (z1 != 0) = true := by simpa using hz0
              have HR2 : Hid (X = ((z1, z2), false)) := by show _ = _; rw [← HWL.out, HDR.out]; rfl
              clear hz0
              go_wp2_with fail
              rw [HF.out, HR2.out]
              exact ⟨rfl, HB3.out.trans (HB5.out.mono (by omega))⟩
            | true =>
              obtain ⟨hz0, hz4⟩ := HSP.out.1 rfl
              have HR2 : Hid (walkL chkStep (t.kids.drop (k + 1)) (d + 1) (0, z2) = X) := by
                show _ = _
                rw [← HWL.out, HDR.out]
                rw [hz0]
                rfl
              subst hz0
              go_wp2_with fail
              go_roundw
              case rel => exact ⟨k + 1, z2, by omega, rfl, by go_num, hz4, HB5.out, HR2.out⟩
              case measure => simp [intOf]; omega
          · have HE : Hid (X = ((0, q), true)) := by
              show _ = _
              rw [← HWL.out, List.drop_eq_nil_of_le (by have := HN.out; omega)]
              rfl
            have hk1 : ¬ (k : Int) < (n : Int) := by omega
            have HBE := Lib.hid hbt
            clear hlt hbel hwl kc3 hbt
            go_wp2_with fail
            rw [HF.out, HE.out]
            exact ⟨rfl, HBE.out⟩
    · have HR : Hid (X = ((pe, p + 1), false)) := by show _ = _; rw [HXE.out, if_neg h0]
      have h0' : (pe != 0) = true := by simpa using h0
      clear h0
      go_wp2_with fail
      rw [HF.out, HR.out]
      exact ⟨by go_num, HB3.out⟩

set_option maxRecDepth 100000 in
set_option maxHeartbeats 4000000 in
theorem rcheck_any (t : Tm) (A : Option Addr) (c : Nat) (w : World) (hV : TmV w A c t) (hsz : t.size ≤ 9000000) :
    Calls Tryd.prog 49 #[t.val A c] w fun e w' => e = .returned (.int .i64 t.check) ∧ Below w.heap.size w w' := by
  obtain ⟨w1, hw1⟩ : ∃ w1, w1 = w.alloc (.cells #[.int .i64 t.op, .int .i64 t.num, .string t.name, .slice A t.kids.length c] 26) := ⟨_, rfl⟩
  have hb1 : Below w.heap.size w w1 := by rw [hw1]; exact (Below.refl _ _).alloc (Nat.le_refl _) _
  have hs1 : w1.heap.size = w.heap.size + 1 := by rw [hw1]; simp
  have hc1 := rcheck1_any t.size t 1 0 A c w1 (Nat.le_refl _) (by omega) (by omega) (hV.below hb1 rfl)
  have HRE : Hid ((walkF chkStep t 1 (0, 0)).1.1 = t.check) := rfl
  obtain ⟨X, hX⟩ : ∃ X, X = walkF chkStep t 1 (0, 0) := ⟨_, rfl⟩
  rw [← hX] at hc1 HRE
  unfold Tm.val at hc1 ⊢
  have HC := Lib.hid hc1
  have HB1 := Lib.hid hb1
  have HW1 := Lib.hid hw1
  have HS1 := Lib.hid hs1
  clear hc1 hX hb1 hw1 hs1 hV
  go_enter Tryd.func49, Tryd.ntmps49
  go_wp2_with fail
  rw [← HW1.out]
  refine (HC.out).mono ?_
  rintro e w2 ⟨rfl, hb2⟩
  have HB2 := Lib.hid (HB1.out.trans (hb2.mono (by have := HS1.out; omega)))
  clear hb2
  go_wp2_with fail
  go_ret
  exact ⟨by rw [HRE.out]; rfl, HB2.out⟩
end Go.Proofs.YtcjblbpkjegmiaaDoor
namespace Go.Proofs.YtcjblbpkjegmiaaDoor
open Go.RowKit
set_option linter.unusedVariables false

def InQ (l : List ByteArray) (w : World) (e : Ending) (w' : World) : Prop := ∃ b, e = .returned (.bool b) ∧ (b = true → 0 < l.length) ∧ w = w'
set_option maxRecDepth 100000 in
set_option maxHeartbeats 2000000 in
theorem rin_any (A : Option Addr) (c : Nat) (l : List ByteArray) (s : ByteArray) (w : World) (hl : l.length ≤ 10000000) (hA : StrsAt w A l) :
    Calls Tryd.prog 152 #[.slice A l.length c, .string s] w (InQ l w) := by
  obtain ⟨n, hn⟩ : ∃ n, n = l.length := ⟨_, rfl⟩
  obtain ⟨F, hF⟩ : ∃ F, F = InQ l w := ⟨_, rfl⟩
  rw [← hn] at hl ⊢
  rw [← hF]
  have HF := Lib.hid hF
  have HN := Lib.hid hn
  have HAA := Lib.hid hA
  clear hn hF hA
  go_enter Tryd.func152, Tryd.ntmps152
  go_wp2
  go_loop [5] (fun i => ∃ k : Nat, k ≤ n ∧ i = .int .i64 k) (fun i => n - (intOf i).toNat)
  case atStart => exact ⟨0, Nat.zero_le _, rfl⟩
  case round =>
    obtain ⟨k, hk, rfl⟩ := hrel
    by_cases hlt : k < n
    · rcases HAA.out with h0 | ⟨b, off, rfl, hb, hc⟩
      · exfalso
        have := HN.out
        rw [h0] at this
        simp at this
        omega
      have x0 := hc k (by have := HN.out; omega)
      clear hc
      generalize l.getD k ByteArray.empty = x at *
      have hk0 : (0 : Int) ≤ (k : Int) := by omega
      have hk1 : (k : Int) < (n : Int) := by omega
      have HP : Hid (0 < n) := by show 0 < n; omega
      cases hq : (x.toList == s.toList)
      · go_wp2_with fail
        go_round
        case rel => exact ⟨k + 1, by omega, by go_num⟩
        case measure => simp [intOf]; omega
      · go_wp2_with fail
        rw [HF.out]
        exact ⟨true, rfl, (fun _ => by rw [← HN.out]; exact HP.out), rfl⟩
    · have hk1 : ¬ (k : Int) < (n : Int) := by omega
      go_wp2
      rw [HF.out]
      exact ⟨false, rfl, (fun h => by cases h), rfl⟩

/-- What With leaves: a row of strings, not empty. -/
def WithQ (l : List ByteArray) (w : World) (e : Ending) (w' : World) : Prop := ∃ A' c' L', e = .returned (.slice A' L'.length c') ∧ StrsAt w' A' L' ∧ 0 < L'.length ∧ L'.length ≤ l.length + 1 ∧ Below w.heap.size w w'
theorem own_shape {w : World} {B : Nat} {T : TypeId} {v : Value} {n : Nat} {xs : List Value} (h : w.ownsRow B T 1 v n xs) : ∃ a cap, v = .slice a n cap := by
  rcases h.2 with ⟨rfl, rfl⟩ | ⟨g, cap, cur, rfl, _⟩
  · exact ⟨_, _, rfl⟩
  · exact ⟨_, _, rfl⟩
theorem own_mono {w : World} {B n : Nat} {T : TypeId} {v : Value} {xs ys : List Value} {m : Nat} (h : w.ownsRow B T 1 v n xs) (hn : n = m) (hx : xs = ys) : w.ownsRow B T 1 v m ys := by subst hn; subst hx; exact h
theorem with_below {w w2 w3 : World} {o : Obj} {v : Value} {n : Nat} {xs : List Value} {T : TypeId} (hb : Below w.heap.size w w2) (ho : w2.ownsRow w.heap.size T 1 v n xs) (hg : (w2.alloc o).grownBy w3 v.ownBlock) : Below w.heap.size w w3 :=
  (hb.alloc hb.size o).grown hg (by simp; have := hb.size; omega) fun k hk => (ho.lt k hk).1

set_option maxRecDepth 100000 in
set_option maxHeartbeats 8000000 in
theorem rwith_any (A : Option Addr) (c : Nat) (l : List ByteArray) (s : ByteArray) (w : World) (hl : l.length ≤ 10000000) (hA : StrsAt w A l) :
    Calls Tryd.prog 151 #[.slice A l.length c, .string s] w (WithQ l w) := by
  obtain ⟨i0, hi, hz0, hz1, hz2⟩ := info_parts infoStr
  have hin := rin_any A c l s w hl hA
  obtain ⟨n, hn⟩ : ∃ n, n = l.length := ⟨_, rfl⟩
  obtain ⟨F, hF⟩ : ∃ F, F = WithQ l w := ⟨_, rfl⟩
  rw [← hn] at hl hin ⊢
  rw [← hF]
  have HF := Lib.hid hF
  have HN := Lib.hid hn
  have HAA := Lib.hid hA
  have HIN := Lib.hid hin
  clear hn hF hA hin
  go_enter Tryd.func151, Tryd.ntmps151
  go_wp2_with fail
  refine (HIN.out).mono ?_
  rintro e w1 ⟨b, rfl, hb, hw⟩
  rw [← hw]
  have HBP := Lib.hid hb
  clear hw hb
  cases b with
  | true =>
    go_wp2_with fail
    rw [HF.out]
    exact ⟨A, c, l, by rw [← HN.out]; rfl, HAA.out, HBP.out trivial, by omega, Below.refl _ _⟩
  | false =>
    go_wp2_with fail
    go_loopw [5, 6, 7] (fun so sd si wr => ∃ (k m : Nat) (dn : Bool) (ys : List ByteArray), k ≤ n ∧ si = .int .i64 k ∧ sd = .bool dn ∧ m = k + dn.toNat ∧ ys.length = m ∧ wr.ownsRow w.heap.size 9 1 so m (ys.map Value.string) ∧ Below w.heap.size w wr) (fun _ _ si _ => n - (intOf si).toNat)
    case atStart => exact ⟨0, 0, false, [], Nat.zero_le _, rfl, rfl, rfl, rfl, World.ownsRow_made w #[] 0 (Nat.le_refl _) (Nat.zero_le _) rfl, (Below.refl _ w).alloc (Nat.le_refl _) _⟩
    case round =>
      obtain ⟨k, m, dn, ys, hk, rfl, rfl, hm, hys, hown, hbel⟩ := hrel
      obtain ⟨sa, scap, hsv⟩ := own_shape hown
      subst hsv
      have HB := Lib.hid hbel
      have HO := Lib.hid hown
      have HYS := Lib.hid hys
      have HM := Lib.hid hm
      have hszr := hbel.size
      have hm1 : m ≤ k + 1 := by rw [hm]; cases dn <;> simp
      have hm2 : k ≤ m := by rw [hm]; cases dn <;> simp
      clear hys hm
      by_cases hlt : k < n
      · rcases HAA.out with h0 | ⟨b, off, rfl, hb, hc⟩
        · exfalso
          have := HN.out
          rw [h0] at this
          simp at this
          omega
        have x0 := hc k (by have := HN.out; omega)
        have X0 := Lib.hid x0
        rw [← hbel.cell (p := ⟨b, _, none⟩) hb] at x0
        have hbr : b < wr.heap.size := by omega
        have HBW := Lib.hid hb
        clear hc
        generalize l.getD k ByteArray.empty = x at *
        have hk0 : (0 : Int) ≤ (k : Int) := by omega
        have hk1 : (k : Int) < (n : Int) := by omega
        clear hbel hown
        cases dn with
        | true =>
          have HM2 : Hid (m = k + 1) := HM.out
          go_wp2_with (at_builtin; refine wpList_append_lies _ (by rfl) _ _ _ (by rfl) w.heap.size 9 i0 (.string ⟨#[]⟩) 1 16 Tryd.underlying45 hi hz0 hz1 hz2 rfl (by decide) _ (m) _ (by rfl) (HO.out.alloc _) ⟨wr.heap.size, 0, none⟩ 1 1 [.string x] (by rfl) rfl (World.news_of_block (heap_alloc_new wr _)) (fun u hu => by rw [List.mem_singleton.1 hu]; rfl) (by decide) ?c3 ?c4 ?c5 (wr.heap.size + 1) (by simp) ?_)
          case c3 => unfold maxLen; omega
          case c4 => omega
          case c5 => first | omega | (simp; omega)
          intro g3 cap3 w3 hown3 hgrow3 hat3 hlt3
          have HO3 : Hid (w3.ownsRow w.heap.size 9 1 (.slice (some ⟨g3, 0, none⟩) (m + 1) cap3) (m + 1) ((ys ++ [x]).map Value.string)) := by
            show World.ownsRow _ _ _ _ _ _ _
            rw [List.map_append, List.map_singleton]
            exact hown3
          have hbw3 := with_below HB.out HO.out hgrow3
          have hsz3 := hbw3.size
          have HBW3 := Lib.hid hbw3
          clear hown3 hgrow3 hat3 hbw3
          go_wp2_with fail
          go_roundw
          case rel => exact ⟨k + 1, m + 1, true, ys ++ [x], by omega, by go_num, rfl, by rw [HM2.out]; rfl, by simp [HYS.out], HO3.out, HBW3.out⟩
          case measure => simp [intOf]; omega
        | false =>
          have HM2 : Hid (m = k) := HM.out
          have hgt : (Op.bytesLess x.toList s.toList = false ∧ (x.toList == s.toList) = false) ∨ Op.bytesLess x.toList s.toList = true ∨ (Op.bytesLess x.toList s.toList = false ∧ (x.toList == s.toList) = true) := by
            cases Op.bytesLess x.toList s.toList <;> cases (x.toList == s.toList) <;> simp
          rcases hgt with ⟨g1, g2⟩ | hgt
          · go_wp2_with (at_builtin; refine wpList_append_lies _ (by rfl) _ _ _ (by rfl) w.heap.size 9 i0 (.string ⟨#[]⟩) 1 16 Tryd.underlying45 hi hz0 hz1 hz2 rfl (by decide) _ (m) _ (by rfl) (HO.out.alloc _) ⟨wr.heap.size, 0, none⟩ 1 1 [.string s] (by rfl) rfl (World.news_of_block (heap_alloc_new wr _)) (fun u hu => by rw [List.mem_singleton.1 hu]; rfl) (by decide) ?c3 ?c4 ?c5 (wr.heap.size + 1) (by simp) ?_)
            case c3 => unfold maxLen; omega
            case c4 => omega
            case c5 => first | omega | (simp; omega)
            intro g2 cap2 w2 hown2 hgrow2 hat2 hlt2
            have HO2 : Hid (w2.ownsRow w.heap.size 9 1 (.slice (some ⟨g2, 0, none⟩) (m + 1) cap2) (m + 1) ((ys ++ [s]).map Value.string)) := by
              show World.ownsRow _ _ _ _ _ _ _
              rw [List.map_append, List.map_singleton]
              exact hown2
            have hbw2 := with_below HB.out HO.out hgrow2
            have hsz2 := hbw2.size
            have HBW2 := Lib.hid hbw2
            clear hown2 hgrow2 hat2 hbw2
            have y0 : w2.cell? ⟨b, off + k, none⟩ = some (.string x) := by rw [HBW2.out.cell (p := ⟨b, _, none⟩) HBW.out]; exact X0.out
            have hb2 : b < w2.heap.size := by have := HBW.out; omega
            clear x0
            go_wp2_with (at_builtin; refine wpList_append_lies _ (by rfl) _ _ _ (by rfl) w.heap.size 9 i0 (.string ⟨#[]⟩) 1 16 Tryd.underlying45 hi hz0 hz1 hz2 rfl (by decide) _ (m + 1) _ (by rfl) (HO2.out.alloc _) ⟨w2.heap.size, 0, none⟩ 1 1 [.string x] (by rfl) rfl (World.news_of_block (heap_alloc_new w2 _)) (fun u hu => by rw [List.mem_singleton.1 hu]; rfl) (by decide) ?c3 ?c4 ?c5 (w2.heap.size + 1) (by simp) ?_)
            case c3 => unfold maxLen; omega
            case c4 => omega
            case c5 => first | omega | (simp; omega)
            intro g4 cap4 w4 hown4 hgrow4 hat4 hlt4
            have HO4 : Hid (w4.ownsRow w.heap.size 9 1 (.slice (some ⟨g4, 0, none⟩) (m + 1 + 1) cap4) (m + 1 + 1) (((ys ++ [s]) ++ [x]).map Value.string)) := by
              show World.ownsRow _ _ _ _ _ _ _
              rw [List.map_append, List.map_singleton]
              simpa using hown4
            have hbw4 := with_below HBW2.out HO2.out hgrow4
            have hsz4 := hbw4.size
            have HBW4 := Lib.hid hbw4
            clear hown4 hgrow4 hat4 hbw4
            go_wp2_with fail
            go_roundw
            case rel => exact ⟨k + 1, m + 1 + 1, true, ys ++ [s] ++ [x], by omega, by go_num, rfl, by rw [HM2.out]; rfl, by simp [HYS.out], HO4.out, HBW4.out⟩
            case measure => simp [intOf]; omega
          · rcases hgt with g1 | ⟨g1, g2⟩
            all_goals
              go_wp2_with (at_builtin; refine wpList_append_lies _ (by rfl) _ _ _ (by rfl) w.heap.size 9 i0 (.string ⟨#[]⟩) 1 16 Tryd.underlying45 hi hz0 hz1 hz2 rfl (by decide) _ (m) _ (by rfl) (HO.out.alloc _) ⟨wr.heap.size, 0, none⟩ 1 1 [.string x] (by rfl) rfl (World.news_of_block (heap_alloc_new wr _)) (fun u hu => by rw [List.mem_singleton.1 hu]; rfl) (by decide) ?c3 ?c4 ?c5 (wr.heap.size + 1) (by simp) ?_)
              case c3 => unfold maxLen; omega
              case c4 => omega
              case c5 => first | omega | (simp; omega)
              intro g3 cap3 w3 hown3 hgrow3 hat3 hlt3
              have HO3 : Hid (w3.ownsRow w.heap.size 9 1 (.slice (some ⟨g3, 0, none⟩) (m + 1) cap3) (m + 1) ((ys ++ [x]).map Value.string)) := by
                show World.ownsRow _ _ _ _ _ _ _
                rw [List.map_append, List.map_singleton]
                exact hown3
              have hbw3 := with_below HB.out HO.out hgrow3
              have hsz3 := hbw3.size
              have HBW3 := Lib.hid hbw3
              clear hown3 hgrow3 hat3 hbw3
              go_wp2_with fail
              go_roundw
              case rel => exact ⟨k + 1, m + 1, false, ys ++ [x], by omega, by go_num, rfl, by rw [HM2.out]; rfl, by simp [HYS.out], HO3.out, HBW3.out⟩
              case measure => simp [intOf]; omega
      · have hk1 : ¬ (k : Int) < (n : Int) := by omega
        have hkn : k = n := by omega
        have HKN := Lib.hid hkn
        clear hkn hbel hown
        cases dn with
        | true =>
          have HM2 : Hid (m = k + 1) := HM.out
          go_wp2_with fail
          rw [HF.out]
          obtain ⟨A', c', hv, hs⟩ := strs_of_own (by rw [HYS.out]; exact HO.out)
          rw [HYS.out] at hv
          exact ⟨A', c', ys, by first | (rw [hv, HYS.out]; done) | (rw [hv, HYS.out]; rfl), hs, by rw [HYS.out]; have := HM2.out; omega, by rw [HYS.out, HM2.out, HKN.out, ← HN.out]; exact Nat.le_refl _, HB.out⟩
        | false =>
          have HM2 : Hid (m = k) := HM.out
          go_wp2_with (at_builtin; refine wpList_append_lies _ (by rfl) _ _ _ (by rfl) w.heap.size 9 i0 (.string ⟨#[]⟩) 1 16 Tryd.underlying45 hi hz0 hz1 hz2 rfl (by decide) _ (m) _ (by rfl) (HO.out.alloc _) ⟨wr.heap.size, 0, none⟩ 1 1 [.string s] (by rfl) rfl (World.news_of_block (heap_alloc_new wr _)) (fun u hu => by rw [List.mem_singleton.1 hu]; rfl) (by decide) ?c3 ?c4 ?c5 (wr.heap.size + 1) (by simp) ?_)
          case c3 => unfold maxLen; omega
          case c4 => omega
          case c5 => first | omega | (simp; omega)
          intro g3 cap3 w3 hown3 hgrow3 hat3 hlt3
          have HO3 : Hid (w3.ownsRow w.heap.size 9 1 (.slice (some ⟨g3, 0, none⟩) (m + 1) cap3) (m + 1) ((ys ++ [s]).map Value.string)) := by
            show World.ownsRow _ _ _ _ _ _ _
            rw [List.map_append, List.map_singleton]
            exact hown3
          have hbw3 := with_below HB.out HO.out hgrow3
          have hsz3 := hbw3.size
          have HBW3 := Lib.hid hbw3
          clear hown3 hgrow3 hat3 hbw3
          go_wp2_with fail
          rw [HF.out]
          have hl3 : (ys ++ [s]).length = m + 1 := by simp [HYS.out]
          obtain ⟨A', c', hv, hs⟩ := strs_of_own (by rw [hl3]; exact HO3.out)
          rw [hl3] at hv
          exact ⟨A', c', ys ++ [s], by rw [hv, hl3]; rfl, hs, by rw [hl3]; omega, by rw [hl3, HM2.out, HKN.out, ← HN.out]; exact Nat.le_refl _, HBW3.out⟩

/-- What names leaves. -/
def NmsQ (op : Int) (m : Nat) (t : Tm) (w : World) (e : Ending) (w' : World) : Prop := ∃ A' c' L', e = .returned (.slice A' L'.length c') ∧ StrsAt w' A' L' ∧ L'.length ≤ m + t.size ∧ (op = 4 → (0 < L'.length ↔ 0 < m ∨ hasNext t = true)) ∧ Below w.heap.size w w'
theorem hasNextL_take : ∀ {l : List Tm} {k : Nat} {t : Tm}, l[k]? = some t → hasNextL (l.take (k + 1)) = (hasNextL (l.take k) || hasNext t)
  | x :: r, 0, t, h => by
    simp at h
    subst h
    simp [hasNextL]
  | x :: r, k + 1, t, h => by
    have := hasNextL_take (l := r) (k := k) (by simpa using h)
    simp only [List.take_succ_cons, hasNextL, this, Bool.or_assoc]
theorem hasNext_eq (t : Tm) : hasNext t = (decide (t.op = 4) || hasNextL t.kids) := by cases t; rw [hasNext]; rfl

set_option maxRecDepth 100000 in
set_option maxHeartbeats 8000000 in
theorem rnames1_any (op : Int) : ∀ (N : Nat) (t : Tm) (Al : Option Addr) (cl : Nat) (l : List ByteArray) (A : Option Addr) (c : Nat) (w : World), t.size ≤ N → TmV w A c t → StrsAt w Al l → l.length + t.size ≤ 10000000 →
    Calls Tryd.prog 143 #[t.val A c, .int .i64 op, .slice Al l.length cl] w (NmsQ op l.length t w) := by
  intro N
  induction N with
  | zero =>
    intro t Al cl l A c w hN
    cases t; rw [Tm.size] at hN; omega
  | succ N ih =>
    intro t Al cl l A c w hN hV hl hlm
    obtain ⟨n, hn⟩ : ∃ n, n = t.kids.length := ⟨_, rfl⟩
    obtain ⟨m, hm⟩ : ∃ m, m = l.length := ⟨_, rfl⟩
    obtain ⟨F, hF⟩ : ∃ F, F = NmsQ op m t w := ⟨_, rfl⟩
    rw [← hm] at hlm ⊢
    rw [← hF]
    have hsz : t.size = 1 + Tm.sizeL t.kids := by cases t; rw [Tm.size]; rfl
    have hnl := Tm.len_le t.kids
    have hcap := hV.cap
    have hcapm := hV.capm
    unfold maxLen at hcapm
    obtain ⟨w1, hw1⟩ : ∃ w1, w1 = w.alloc (.cells #[.int .i64 t.op, .int .i64 t.num, .string t.name, .slice A n c] 26) := ⟨_, rfl⟩
    have hb1 : Below w.heap.size w w1 := by rw [hw1]; exact (Below.refl _ _).alloc (Nat.le_refl _) _
    have hs1 : w1.heap.size = w.heap.size + 1 := by rw [hw1]; simp
    have hbx : w1.heap[w.heap.size]? = some (.cells #[.int .i64 t.op, .int .i64 t.num, .string t.name, .slice A n c] 26 (0, 0)) := by rw [hw1]; exact heap_alloc_new w _
    have hwi := rwith_any Al cl l t.name w1 (by omega) (hl.belowB hb1 rfl)
    rw [← hm] at hwi
    have hkl : t.kids.length ≤ 10000000 := by omega
    rw [← hn] at hcap hkl
    have HSZ : Hid (∀ k ∈ t.kids, k.size ≤ N) := fun k hk => by
      have h1 := Tm.sizeL_mem hk
      omega
    have HXX : Hid (∀ W, Below w1.heap.size w1 W → W.cell? ⟨w.heap.size, 3, none⟩ = some (.slice A n c)) := fun W hb => by
      have hx := (hb.block _ (by rw [hs1]; omega)).trans hbx
      rw [cell_of_row W w.heap.size 3 _ _ (0, 0) hx]; rfl
    show Calls Tryd.prog 143 #[.agg #[.int .i64 t.op, .int .i64 t.num, .string t.name, .slice A t.kids.length c], .int .i64 op, .slice Al m cl] w F
    rw [← hn]
    have HF := Lib.hid hF
    have HIH := Lib.hid ih
    have HN := Lib.hid hn
    have HM := Lib.hid hm
    have HK := Lib.hid hV.kids
    have HB1 := Lib.hid hb1
    have HS1 := Lib.hid hs1
    have HW1 := Lib.hid hw1
    have HWI := Lib.hid hwi
    have HL := Lib.hid hl
    have HSE := Lib.hid hsz
    have HNX : Hid ((hasNext t = true) = ((decide (t.op = 4) || hasNextL t.kids) = true)) := by show _ = _; rw [hasNext_eq]
    have HMB := Lib.hid hlm
    clear hF ih hn hm hsz hnl hb1 hs1 hbx hw1 hV hN hwi hl hlm
    by_cases ho : t.op = op
    · have ho' : (t.op == op) = true := by simpa using ho
      have HO := Lib.hid ho
      clear ho
      go_enter Tryd.func143, Tryd.ntmps143
      go_wp2_with fail
      rw [← HW1.out]
      refine (HWI.out).mono ?_
      rintro e w2 ⟨A0, c0, L0, rfl, hs0, hp0, hl0, hb2⟩
      have HS0 := Lib.hid hs0
      have HB2 := Lib.hid hb2
      have HQ0 : Hid (op = 4 → (0 < L0.length ↔ 0 < m ∨ t.op = 4 ∨ hasNextL (t.kids.take 0) = true)) := fun h4 => ⟨fun _ => .inr (.inl (by rw [HO.out, h4])), fun _ => hp0⟩
      have HL0 : Hid (L0.length ≤ m + 1 + Tm.sizeL (t.kids.take 0)) := by show _ ≤ _; have := HM.out; omega
      clear hs0 hp0 hl0 hb2
      go_wp2_with fail
      go_loopw [2, 7] (fun sl si wr => ∃ (k : Nat) (Ak : Option Addr) (ck : Nat) (Lk : List ByteArray), k ≤ n ∧ sl = .slice Ak Lk.length ck ∧ si = .int .i64 k ∧ StrsAt wr Ak Lk ∧ Lk.length ≤ m + 1 + Tm.sizeL (t.kids.take k) ∧ (op = 4 → (0 < Lk.length ↔ 0 < m ∨ t.op = 4 ∨ hasNextL (t.kids.take k) = true)) ∧ Below w1.heap.size w1 wr) (fun _ i _ => n - (intOf i).toNat)
      case atStart => exact ⟨0, A0, c0, L0, Nat.zero_le _, rfl, rfl, HS0.out, HL0.out, HQ0.out, HB2.out⟩
      case round =>
        obtain ⟨k, Ak, ck, Lk, hk, rfl, rfl, hsk, hlk, hqk, hbel⟩ := hrel
        have HBL := Lib.hid hbel
        have HSK := Lib.hid hsk
        have HLK := Lib.hid hlk
        have HQK := Lib.hid hqk
        have hszr := hbel.size
        have kr3 := HXX.out wr hbel
        have hbt : Below w.heap.size w wr := HB1.out.trans (hbel.mono (by have := HS1.out; omega))
        have hbwr : w.heap.size < wr.heap.size := by have := HS1.out; omega
        by_cases hlt : k < n
        · obtain ⟨kd, hkd⟩ : ∃ kd, t.kids[k]? = some kd := ⟨_, List.getElem?_eq_getElem (by have := HN.out; omega)⟩
          have hmem : kd ∈ t.kids := List.mem_of_getElem? hkd
          rcases HK.out with h9 | ⟨g, off, rfl, hg, hrow⟩
          · rw [h9] at hkd; simp at hkd
          have hat := (hrow.get hkd).below hbt rfl hg
          obtain ⟨q0, q1, q2, A2, c2, q3, hV2⟩ := hat.open
          have hgw : g < wr.heap.size := by omega
          have htk := Tm.sizeL_snoc hkd
          have htl := Tm.sizeL_take_le t.kids (k + 1)
          have hih := HIH.out kd Ak ck Lk A2 c2 wr (HSZ.out kd hmem) hV2 hsk (by have := HMB.out; have := HSE.out; omega)
          unfold Tm.val at hih
          obtain ⟨n2, hn2⟩ : ∃ n2, n2 = kd.kids.length := ⟨_, rfl⟩
          rw [← hn2] at q3 hih
          obtain ⟨mk, hmk⟩ : ∃ mk, mk = Lk.length := ⟨_, rfl⟩
          rw [← hmk] at hih ⊢
          have HMK := Lib.hid hmk
          have HTK := Lib.hid htk
          have HHN : Hid (hasNextL (t.kids.take (k + 1)) = (hasNextL (t.kids.take k) || hasNext kd)) := hasNextL_take hkd
          have HC := Lib.hid hih
          have hk0 : (0 : Int) ≤ (k : Int) := by omega
          have hk1 : (k : Int) < (n : Int) := by omega
          have e1 : off + 4 * k = off + k * 4 := by omega
          rw [e1] at q0 q1 q2 q3
          clear hih hn2 hV2 hat hrow hmem hkd e1 hbel hbt htk htl hsk hlk hqk hmk
          go_wp2_with fail
          refine (HC.out).mono ?_
          rintro e w4 ⟨A5, c5, L5, rfl, hs5, hl5, hq5, hb4⟩
          have HB5 := Lib.hid (HBL.out.trans (hb4.mono hszr))
          have HS5 := Lib.hid hs5
          have HL5 : Hid (L5.length ≤ m + 1 + Tm.sizeL (t.kids.take (k + 1))) := by
            show _ ≤ _
            have := HLK.out; have := HTK.out; have := HMK.out
            omega
          have HQ5 : Hid (op = 4 → (0 < L5.length ↔ 0 < m ∨ t.op = 4 ∨ hasNextL (t.kids.take (k + 1)) = true)) := fun ho => by
            rw [hq5 ho, HHN.out, HMK.out, HQK.out ho]
            cases hasNextL (t.kids.take k) <;> cases hasNext kd <;> simp
          clear hb4 hs5 hl5 hq5 q0 q1 q2 q3 kr3
          go_wp2_with fail
          go_roundw
          case rel => exact ⟨k + 1, A5, c5, L5, by omega, rfl, by go_num, HS5.out, HL5.out, HQ5.out, HB5.out⟩
          case measure => simp [intOf]; omega
        · have hkn : k = n := by omega
          have HE : Hid (Lk.length ≤ m + t.size ∧ (op = 4 → (0 < Lk.length ↔ 0 < m ∨ hasNext t = true))) := by
            have h1 := HLK.out
            have h2 := HQK.out
            rw [hkn, List.take_of_length_le (by rw [← HN.out]; exact Nat.le_refl _)] at h1 h2
            refine ⟨by have := HSE.out; omega, fun ho => ?_⟩
            rw [h2 ho, HNX.out]
            cases hasNextL t.kids <;> simp
          have hk1 : ¬ (k : Int) < (n : Int) := by omega
          have HBE := Lib.hid hbt
          clear hlt hbel hbt hkn hsk hlk hqk
          go_wp2_with fail
          rw [HF.out]
          exact ⟨Ak, ck, Lk, rfl, HSK.out, HE.out.1, HE.out.2, HBE.out⟩
    · have ho' : (t.op == op) = false := by simpa using ho
      have HO := Lib.hid ho
      have HL0 : Hid (l.length ≤ m + 1 + Tm.sizeL (t.kids.take 0)) := by show _ ≤ _; have := HM.out; omega
      have HQ0 : Hid (op = 4 → (0 < l.length ↔ 0 < m ∨ t.op = 4 ∨ hasNextL (t.kids.take 0) = true)) := fun h4 => by
        have h1 : ¬ t.op = 4 := fun h => HO.out (by rw [h, h4])
        rw [← HM.out]
        simp [h1, hasNextL]
      have HS0 : Hid (StrsAt w1 Al l) := HL.out.belowB HB1.out rfl
      clear ho
      go_enter Tryd.func143, Tryd.ntmps143
      go_wp2_with fail
      rw [← HW1.out]
      go_loopw [2, 7] (fun sl si wr => ∃ (k : Nat) (Ak : Option Addr) (ck : Nat) (Lk : List ByteArray), k ≤ n ∧ sl = .slice Ak Lk.length ck ∧ si = .int .i64 k ∧ StrsAt wr Ak Lk ∧ Lk.length ≤ m + 1 + Tm.sizeL (t.kids.take k) ∧ (op = 4 → (0 < Lk.length ↔ 0 < m ∨ t.op = 4 ∨ hasNextL (t.kids.take k) = true)) ∧ Below w1.heap.size w1 wr) (fun _ i _ => n - (intOf i).toNat)
      case atStart => exact ⟨0, Al, cl, l, Nat.zero_le _, by rw [HM.out], rfl, HS0.out, HL0.out, HQ0.out, Below.refl _ _⟩
      case round =>
        obtain ⟨k, Ak, ck, Lk, hk, rfl, rfl, hsk, hlk, hqk, hbel⟩ := hrel
        have HBL := Lib.hid hbel
        have HSK := Lib.hid hsk
        have HLK := Lib.hid hlk
        have HQK := Lib.hid hqk
        have hszr := hbel.size
        have kr3 := HXX.out wr hbel
        have hbt : Below w.heap.size w wr := HB1.out.trans (hbel.mono (by have := HS1.out; omega))
        have hbwr : w.heap.size < wr.heap.size := by have := HS1.out; omega
        by_cases hlt : k < n
        · obtain ⟨kd, hkd⟩ : ∃ kd, t.kids[k]? = some kd := ⟨_, List.getElem?_eq_getElem (by have := HN.out; omega)⟩
          have hmem : kd ∈ t.kids := List.mem_of_getElem? hkd
          rcases HK.out with h9 | ⟨g, off, rfl, hg, hrow⟩
          · rw [h9] at hkd; simp at hkd
          have hat := (hrow.get hkd).below hbt rfl hg
          obtain ⟨q0, q1, q2, A2, c2, q3, hV2⟩ := hat.open
          have hgw : g < wr.heap.size := by omega
          have htk := Tm.sizeL_snoc hkd
          have htl := Tm.sizeL_take_le t.kids (k + 1)
          have hih := HIH.out kd Ak ck Lk A2 c2 wr (HSZ.out kd hmem) hV2 hsk (by have := HMB.out; have := HSE.out; omega)
          unfold Tm.val at hih
          obtain ⟨n2, hn2⟩ : ∃ n2, n2 = kd.kids.length := ⟨_, rfl⟩
          rw [← hn2] at q3 hih
          obtain ⟨mk, hmk⟩ : ∃ mk, mk = Lk.length := ⟨_, rfl⟩
          rw [← hmk] at hih ⊢
          have HMK := Lib.hid hmk
          have HTK := Lib.hid htk
          have HHN : Hid (hasNextL (t.kids.take (k + 1)) = (hasNextL (t.kids.take k) || hasNext kd)) := hasNextL_take hkd
          have HC := Lib.hid hih
          have hk0 : (0 : Int) ≤ (k : Int) := by omega
          have hk1 : (k : Int) < (n : Int) := by omega
          have e1 : off + 4 * k = off + k * 4 := by omega
          rw [e1] at q0 q1 q2 q3
          clear hih hn2 hV2 hat hrow hmem hkd e1 hbel hbt htk htl hsk hlk hqk hmk
          go_wp2_with fail
          refine (HC.out).mono ?_
          rintro e w4 ⟨A5, c5, L5, rfl, hs5, hl5, hq5, hb4⟩
          have HB5 := Lib.hid (HBL.out.trans (hb4.mono hszr))
          have HS5 := Lib.hid hs5
          have HL5 : Hid (L5.length ≤ m + 1 + Tm.sizeL (t.kids.take (k + 1))) := by
            show _ ≤ _
            have := HLK.out; have := HTK.out; have := HMK.out
            omega
          have HQ5 : Hid (op = 4 → (0 < L5.length ↔ 0 < m ∨ t.op = 4 ∨ hasNextL (t.kids.take (k + 1)) = true)) := fun ho => by
            rw [hq5 ho, HHN.out, HMK.out, HQK.out ho]
            cases hasNextL (t.kids.take k) <;> cases hasNext kd <;> simp
          clear hb4 hs5 hl5 hq5 q0 q1 q2 q3 kr3
          go_wp2_with fail
          go_roundw
          case rel => exact ⟨k + 1, A5, c5, L5, by omega, rfl, by go_num, HS5.out, HL5.out, HQ5.out, HB5.out⟩
          case measure => simp [intOf]; omega
        · have hkn : k = n := by omega
          have HE : Hid (Lk.length ≤ m + t.size ∧ (op = 4 → (0 < Lk.length ↔ 0 < m ∨ hasNext t = true))) := by
            have h1 := HLK.out
            have h2 := HQK.out
            rw [hkn, List.take_of_length_le (by rw [← HN.out]; exact Nat.le_refl _)] at h1 h2
            refine ⟨by have := HSE.out; omega, fun ho => ?_⟩
            rw [h2 ho, HNX.out]
            cases hasNextL t.kids <;> simp
          have hk1 : ¬ (k : Int) < (n : Int) := by omega
          have HBE := Lib.hid hbt
          clear hlt hbel hbt hkn hsk hlk hqk
          go_wp2_with fail
          rw [HF.out]
          exact ⟨Ak, ck, Lk, rfl, HSK.out, HE.out.1, HE.out.2, HBE.out⟩

/-- What Names leaves: whether the second row is empty. -/
def NextQ (t : Tm) (w : World) (e : Ending) (w' : World) : Prop := ∃ (v1 : Value) (A2 : Option Addr) (n2 c2 : Nat), e = .returned (.tuple #[v1, .slice A2 n2 c2]) ∧ (n2 = 0 ↔ hasNext t = false) ∧ Below w.heap.size w w'
theorem keep_step {w1 W W' : World} (h : Below w1.heap.size w1 W) (hb : Below W.heap.size W W') : Below w1.heap.size w1 W' := h.trans (hb.mono h.size)
theorem keep_cells {w1 W : World} {b : Nat} (h : Below w1.heap.size w1 W) (hb : b < w1.heap.size) : ∀ o, W.cell? ⟨b, o, none⟩ = w1.cell? ⟨b, o, none⟩ := fun o => h.cell (p := ⟨b, o, none⟩) hb
theorem keep_two {w1 W W' : World} {b : Nat} (h : Below w1.heap.size w1 W) (hb : Below W.heap.size W W') (hs : b < w1.heap.size) : (∀ o, W'.cell? ⟨b, o, none⟩ = w1.cell? ⟨b, o, none⟩) ∧ Below w1.heap.size w1 W' := ⟨keep_cells (keep_step h hb) hs, keep_step h hb⟩
set_option maxRecDepth 100000 in
set_option maxHeartbeats 8000000 in
theorem rnames2_any (t : Tm) (A : Option Addr) (c : Nat) (w : World) (hV : TmV w A c t) (hsz : t.size ≤ 9000000) :
    Calls Tryd.prog 136 #[t.val A c] w (NextQ t w) := by
  obtain ⟨n, hn⟩ : ∃ n, n = t.kids.length := ⟨_, rfl⟩
  obtain ⟨F, hF⟩ : ∃ F, F = NextQ t w := ⟨_, rfl⟩
  rw [← hF]
  obtain ⟨w1, hw1⟩ : ∃ w1, w1 = w.alloc (.cells #[.int .i64 t.op, .int .i64 t.num, .string t.name, .slice A n c] 26) := ⟨_, rfl⟩
  have hb1 : Below w.heap.size w w1 := by rw [hw1]; exact (Below.refl _ _).alloc (Nat.le_refl _) _
  have hs1 : w.heap.size < w1.heap.size := by rw [hw1]; simp
  have hbx : w1.heap[w.heap.size]? = some (.cells #[.int .i64 t.op, .int .i64 t.num, .string t.name, .slice A n c] 26 (0, 0)) := by rw [hw1]; exact heap_alloc_new w _
  have x0 : w1.cell? ⟨w.heap.size, 0, none⟩ = some (.int .i64 t.op) := by rw [cell_of_row w1 w.heap.size 0 _ _ (0, 0) hbx]; rfl
  have x1 : w1.cell? ⟨w.heap.size, 1, none⟩ = some (.int .i64 t.num) := by rw [cell_of_row w1 w.heap.size 1 _ _ (0, 0) hbx]; rfl
  have x2 : w1.cell? ⟨w.heap.size, 2, none⟩ = some (.string t.name) := by rw [cell_of_row w1 w.heap.size 2 _ _ (0, 0) hbx]; rfl
  have x3 : w1.cell? ⟨w.heap.size, 3, none⟩ = some (.slice A n c) := by rw [cell_of_row w1 w.heap.size 3 _ _ (0, 0) hbx]; rfl
  have HNM : Hid (∀ (op : Int) (W : World), Below w1.heap.size w1 W → Calls Tryd.prog 143 #[.agg #[.int .i64 t.op, .int .i64 t.num, .string t.name, .slice A n c], .int .i64 op, .slice none 0 0] W (NmsQ op 0 t W)) := fun op W hb => by
    have h := rnames1_any op t.size t none 0 [] A c W (Nat.le_refl _) ((hV.below hb1 rfl).below hb rfl) (.inl rfl) (by simp; omega)
    unfold Tm.val at h
    rw [← hn] at h
    exact h
  show Calls Tryd.prog 136 #[.agg #[.int .i64 t.op, .int .i64 t.num, .string t.name, .slice A t.kids.length c]] w F
  rw [← hn]
  have HF := Lib.hid hF
  have HB1 := Lib.hid hb1
  have HW1 := Lib.hid hw1
  clear hF hb1 hw1 hbx hV hn
  go_enter Tryd.func136, Tryd.ntmps136
  go_wp2_with fail
  rw [← HW1.out]
  have hbd : Below w1.heap.size w1 w1.drew := (Below.refl _ _).drew
  go_region_held3 (fun w' => (∀ o, w'.cell? ⟨w.heap.size, o, none⟩ = w1.cell? ⟨w.heap.size, o, none⟩) ∧ Below w1.heap.size w1 w')
    (first
      | (exact ⟨keep_cells (by assumption) hs1, by assumption⟩)
      | fail)
    ((go_at_call 143; refine (HNM.out _ _ (by assumption)).mono ?_; rintro e w5 ⟨A5, c5, L5, rfl, hs5, hl5, hq5, hb5⟩; have hk5 := keep_step (by assumption) hb5))
  have HQ5 : Hid (L5.length = 0 ↔ hasNext t = false) := by
    have h := hq5 trivial
    constructor
    · intro h0
      cases hh : hasNext t with
      | false => rfl
      | true => have := h.2 (.inr hh); omega
    · intro h0
      rcases Nat.eq_zero_or_pos L5.length with h1 | h1
      · exact h1
      · rcases h.1 h1 with h2 | h2
        · omega
        · rw [h0] at h2; cases h2
  have HBF := Lib.hid (HB1.out.trans (hk5.mono (by omega)))
  clear hq5 hk5 hs5 hl5 hb5 hbd
  go_wp2_with fail
  rw [HF.out]
  exact ⟨_, A5, _, c5, rfl, HQ5.out, HBF.out⟩
end Go.Proofs.YtcjblbpkjegmiaaDoor
namespace Go.Proofs.YtcjblbpkjegmiaaDoor
open Go.RowKit
set_option linter.unusedVariables false

set_option maxHeartbeats 4000000 in
theorem rfkids_any (op : Int) (w : World) :
    Calls Tryd.prog 135 #[.int .i64 op] w fun e w' => e = .returned (.int .i64 (fkids op)) ∧ w = w' := by
  obtain ⟨r, hr⟩ : ∃ r, r = fkids op := ⟨_, rfl⟩
  rw [← hr]
  have HR := Lib.hid hr
  clear hr
  go_enter Tryd.func135, Tryd.ntmps135
  go_wp2
  all_goals
    go_ret
    rw [HR.out]
    refine ⟨?_, rfl⟩
    simp_all [fkids]

set_option maxRecDepth 100000 in
set_option maxHeartbeats 4000000 in
theorem rnothing_any (op n : Int) (s : ByteArray) (A : Option Addr) (k c : Nat) (w : World) (hs : s.size ≤ maxLen) (hk : k ≤ maxLen) :
    Calls Tryd.prog 137 #[.agg #[.int .i64 op, .int .i64 n, .string s, .slice A k c]] w fun e w' => e = .returned (.bool (decide (op = 0) && decide (n = 0) && decide (s.size = 0) && decide (k = 0))) ∧ Below w.heap.size w w' := by
  unfold maxLen at hs hk
  obtain ⟨F, hF⟩ : ∃ F : Ending → World → Prop, F = fun e w' => e = .returned (.bool (decide (op = 0) && decide (n = 0) && decide (s.size = 0) && decide (k = 0))) ∧ Below w.heap.size w w' := ⟨_, rfl⟩
  rw [← hF]
  have HF := Lib.hid hF
  have HB := Lib.hid ((Below.refl w.heap.size w).alloc (Nat.le_refl _) (.cells #[.int .i64 op, .int .i64 n, .string s, .slice A k c] 26))
  clear hF
  by_cases h0 : op = 0
  · subst h0
    by_cases h1 : n = 0
    · subst h1
      rcases Nat.eq_zero_or_pos s.size with h2 | h2
      · have e2 := toList_of_size h2
        have e3 := isEmpty_of_size h2
        have H2 := Lib.hid h2
        clear h2
        by_cases h3 : k = 0
        · subst h3
          go_enter Tryd.func137, Tryd.ntmps137
          go_wp2
          rw [HF.out]
          exact ⟨by rw [H2.out]; rfl, HB.out⟩
        · have h3' : ((k : Int) == 0) = false := by simp; omega
          have H3 := Lib.hid h3
          clear h3
          go_enter Tryd.func137, Tryd.ntmps137
          go_wp2
          rw [HF.out]
          exact ⟨by rw [decide_eq_false H3.out]; simp, HB.out⟩
      · have e3 := isEmpty_of_pos h2
        have H2 := Lib.hid h2
        clear h2
        go_enter Tryd.func137, Tryd.ntmps137
        go_wp2
        rw [HF.out]
        exact ⟨by rw [decide_eq_false (show ¬ s.size = 0 by have := H2.out; omega)]; simp, HB.out⟩
    · have h1' : (n == 0) = false := by simpa using h1
      have H1 := Lib.hid h1
      clear h1
      go_enter Tryd.func137, Tryd.ntmps137
      go_wp2
      rw [HF.out]
      exact ⟨by rw [decide_eq_false H1.out]; simp, HB.out⟩
  · have h1' : (op == 0) = false := by simpa using h0
    have H1 := Lib.hid h0
    clear h0
    go_enter Tryd.func137, Tryd.ntmps137
    go_wp2
    rw [HF.out]
    exact ⟨by rw [decide_eq_false H1.out]; simp, HB.out⟩

theorem bl_drewN {B : Nat} {a w : World} (h : Below B a w) (n : Nat) : Below B a (w.drewN n) := ⟨h.os, h.tape, h.output, h.size, h.block⟩
/-- What walk leaves: the error, and the count where there is none. -/
def FWQ (X : (Int × Nat) × Bool) (w : World) (e : Ending) (w' : World) : Prop := ∃ a : Nat, e = .returned (.tuple #[.int .i64 X.1.1, .int .i64 a]) ∧ (X.1.1 = 0 → a = X.1.2) ∧ a ≤ 5000 ∧ Below w.heap.size w w'
/-- The error of a node by itself. -/
def foneE (f : Fm) : Int := if fkids f.op < 0 then 11 else if ftermE f ≠ 0 then ftermE f else if (f.kids.length : Int) ≠ fkids f.op ∨ (f.op ≠ 1 ∧ bareB f.tm = false) then 3 else 0
theorem fstepE_one (f : Fm) (d n : Nat) : fstepE f d n = if 64 < d then 17 else if foneE f ≠ 0 then foneE f else if 4096 < n + 1 then 4 else 0 := by
  unfold fstepE foneE
  by_cases h1 : 64 < d
  · simp [h1]
  · by_cases h2 : fkids f.op < 0
    · simp [h1, h2]
    · by_cases h3 : ftermE f = 0
      · by_cases h4 : (f.kids.length : Int) ≠ fkids f.op ∨ (f.op ≠ 1 ∧ bareB f.tm = false)
        · simp only [h1, h2, h3, h4, if_true, if_false, ne_eq, not_true_eq_false]
          simp
        · simp only [h1, h2, h3, h4, if_false, ne_eq, not_true_eq_false]
      · simp [h1, h2, h3]
set_option maxRecDepth 100000 in
set_option maxHeartbeats 8000000 in
theorem rone_any (t : Fm) (Ae : Option Addr) (ce : Nat) (A : Option Addr) (c : Nat) (w : World) (hV : FmV w Ae ce A c t) (hsz : t.tm.size ≤ 9000000) :
    Calls Tryd.prog 128 #[t.val Ae ce A c] w fun e w' => e = .returned (.int .i64 (foneE t)) ∧ Below w.heap.size w w' := by
  obtain ⟨n, hn⟩ : ∃ n, n = t.kids.length := ⟨_, rfl⟩
  obtain ⟨ne, hne⟩ : ∃ ne, ne = t.tm.kids.length := ⟨_, rfl⟩
  obtain ⟨wb, hwb⟩ : ∃ wb, wb = w.alloc (.cells #[.int .i64 t.op, .int .i64 t.tm.op, .int .i64 t.tm.num, .string t.tm.name, .slice Ae ne ce, .slice A n c] 29) := ⟨_, rfl⟩
  have hb1 : Below w.heap.size w wb := by rw [hwb]; exact (Below.refl _ _).alloc (Nat.le_refl _) _
  have hbx : FBox wb w.heap.size Ae ne ce A n c t := by rw [hwb]; exact heap_alloc_new w _
  have hsb : w.heap.size < wb.heap.size := by rw [hwb]; simp
  have hcap := hV.cap
  have hcapm := hV.capm
  have hcape := hV.tm.cap
  have hcapem := hV.tm.capm
  have hnm := hV.tm.name
  unfold maxLen at hcapm hcapem hnm
  have HCK : Hid (∀ W, Below wb.heap.size wb W → Calls Tryd.prog 49 #[.agg #[.int .i64 t.tm.op, .int .i64 t.tm.num, .string t.tm.name, .slice Ae ne ce]] W fun e w' => e = .returned (.int .i64 t.tm.check) ∧ Below W.heap.size W w') := fun W hb => by
    have h := rcheck_any t.tm Ae ce W ((hV.tm.below hb1 rfl).below hb rfl) hsz
    unfold Tm.val at h
    rw [← hne] at h
    exact h
  have HNM : Hid (∀ W, Below wb.heap.size wb W → Calls Tryd.prog 136 #[.agg #[.int .i64 t.tm.op, .int .i64 t.tm.num, .string t.tm.name, .slice Ae ne ce]] W (NextQ t.tm W)) := fun W hb => by
    have h := rnames2_any t.tm Ae ce W ((hV.tm.below hb1 rfl).below hb rfl) hsz
    unfold Tm.val at h
    rw [← hne] at h
    exact h
  have HNO : Hid (∀ W, Calls Tryd.prog 137 #[.agg #[.int .i64 t.tm.op, .int .i64 t.tm.num, .string t.tm.name, .slice Ae ne ce]] W fun e w' => e = .returned (.bool (bareB t.tm)) ∧ Below W.heap.size W w') := fun W => by
    have h := rnothing_any t.tm.op t.tm.num t.tm.name Ae t.tm.kids.length ce W hV.tm.name (Nat.le_trans hV.tm.cap hV.tm.capm)
    rw [← hne] at h
    refine h.mono fun e w' ⟨h1, h2⟩ => ⟨?_, h2⟩
    rw [h1, hne]; rfl
  unfold Fm.val
  rw [← hn, ← hne]
  rw [← hn] at hcap
  rw [← hne] at hcape
  obtain ⟨F, hF⟩ : ∃ F : Ending → World → Prop, F = fun e w' => e = .returned (.int .i64 (foneE t)) ∧ Below w.heap.size w w' := ⟨_, rfl⟩
  rw [← hF]
  obtain ⟨ck, hck0⟩ : ∃ ck, ck = t.tm.check := ⟨_, rfl⟩
  obtain ⟨bb, hbb⟩ : ∃ bb, bb = bareB t.tm := ⟨_, rfl⟩
  obtain ⟨r, hr⟩ : ∃ r, r = foneE t := ⟨_, rfl⟩
  rw [← hr] at hF
  unfold foneE ftermE at hr
  rw [← hck0, ← hn, ← hbb] at hr
  rw [← hck0] at HCK
  rw [← hbb] at HNO
  obtain ⟨op, hop⟩ : ∃ op, op = t.op := ⟨_, rfl⟩
  obtain ⟨K, hK⟩ : ∃ K, K = fkids op := ⟨_, rfl⟩
  rw [← hop, ← hK] at hr
  rw [← hop] at hwb ⊢
  have HKI := Lib.hid (fun W => rfkids_any op W)
  rw [← hK] at HKI
  have HKQ : Hid (∀ W, Calls Tryd.prog 135 #[.int .i64 op] W fun e w' => e = .returned (.int .i64 K) ∧ w' = W) := fun W => (HKI.out W).mono fun e w' h => ⟨h.1, h.2.symm⟩
  have HXX : Hid (∀ W, Below wb.heap.size wb W → W.cell? ⟨w.heap.size, 0, none⟩ = some (.int .i64 op) ∧ W.cell? ⟨w.heap.size, 1, none⟩ = some (.int .i64 t.tm.op) ∧ W.cell? ⟨w.heap.size, 2, none⟩ = some (.int .i64 t.tm.num) ∧ W.cell? ⟨w.heap.size, 3, none⟩ = some (.string t.tm.name) ∧ W.cell? ⟨w.heap.size, 4, none⟩ = some (.slice Ae ne ce) ∧ W.cell? ⟨w.heap.size, 5, none⟩ = some (.slice A n c)) := fun W hb => by
    have hx := hbx.below hb hbx.lt
    rw [hop]
    exact ⟨hx.c0, hx.c1, hx.c2, hx.c3, hx.c4, hx.c5⟩
  have HR := Lib.hid hr
  have HF := Lib.hid hF
  have HWB := Lib.hid hwb
  have HB1 := Lib.hid hb1
  clear hn hne hwb hb1 hbx hV hnm hF hck0 hbb hr hop hK
  by_cases hk0 : K < 0
  · have HRE : Hid (r = 11) := by show _ = _; rw [HR.out, if_pos hk0]
    go_enter Tryd.func128, Tryd.ntmps128
    go_wp2_with fail
    refine (HKI.out _).mono ?_
    rintro e w1 ⟨rfl, hw⟩
    rw [← hw]
    clear hw
    go_wp2_with fail
    rw [HF.out, HRE.out]
    exact ⟨rfl, by rw [← HWB.out]; exact HB1.out⟩
  have hk0' : 0 ≤ K := by omega
  by_cases h1 : op = 1
  · subst h1
    have HR2 : Hid (r = if (if ck = 0 then (if hasNext t.tm = true then (24 : Int) else 0) else ck) ≠ 0 then (if ck = 0 then (if hasNext t.tm = true then 24 else 0) else ck) else if (n : Int) ≠ K ∨ ((1 : Int) ≠ 1 ∧ bb = false) then 3 else 0) := by
      show _ = _
      rw [HR.out, if_neg hk0, if_pos rfl]
    clear hk0
    go_enter Tryd.func128, Tryd.ntmps128
    go_wp2_with fail
    refine (HKI.out _).mono ?_
    rintro e w1 ⟨rfl, hw⟩
    rw [← hw, ← HWB.out]
    clear hw
    obtain ⟨x0, x1, x2, x3, x4, x5⟩ := HXX.out wb (Below.refl _ _)
    go_wp2_with fail
    refine (HCK.out wb (Below.refl _ _)).mono ?_
    rintro e w2 ⟨rfl, hb2⟩
    clear x0 x1 x2 x3 x4 x5
    obtain ⟨x0, x1, x2, x3, x4, x5⟩ := HXX.out w2 hb2
    have HN2 := Lib.hid (HNM.out w2 hb2)
    have hs2 : w.heap.size < w2.heap.size := by have := hb2.size; omega
    have HB2 := Lib.hid hb2
    clear hb2
    by_cases hc0 : ck = 0
    · subst hc0
      go_wp2_with fail
      refine (HN2.out).mono ?_
      rintro e w3 ⟨v1, A2, n2, c2, rfl, hz, hb3⟩
      have hb4 := HB2.out.trans (hb3.mono (HB2.out.size))
      clear x0 x1 x2 x3 x4 x5
      obtain ⟨x0, x1, x2, x3, x4, x5⟩ := HXX.out w3 hb4
      have HB4 := Lib.hid (HB1.out.trans (hb4.mono (by omega)))
      have hs3 : w.heap.size < w3.heap.size := by have := hb4.size; omega
      have HZ := Lib.hid hz
      clear hz hb3 hb4
      by_cases h2 : n2 = 0
      · have hh : hasNext t.tm = false := HZ.out.1 h2
        have HRE : Hid (r = if (n : Int) ≠ K then 3 else 0) := by
          show _ = _
          rw [HR2.out, hh]
          simp
        have h2' : ¬ (0 : Int) < (n2 : Int) := by omega
        clear h2 hh
        by_cases hnk : (n : Int) = K
        · have HRE2 : Hid (r = 0) := by show _ = _; rw [HRE.out, if_neg (by omega)]
          have hnk' : ((n : Int) != K) = false := by simpa using hnk
          clear hnk
          go_wp2_with fail
          go_quiet ((go_at_call 135; exact Calls.quiet_of_same (HKQ.out _)))
          go_wp2_with fail
          rw [HF.out, HRE2.out]
          refine ⟨rfl, HB4.out.trans (Below.mono (B := w3.heap.size) (bl_drewN (Below.refl w3.heap.size w3) _) ?_)⟩
          omega
        · have HRE2 : Hid (r = 3) := by show _ = _; rw [HRE.out, if_pos hnk]
          have hnk' : ((n : Int) != K) = true := by simpa using hnk
          clear hnk
          go_wp2_with fail
          go_quiet ((go_at_call 135; exact Calls.quiet_of_same (HKQ.out _)))
          go_wp2_with fail
          rw [HF.out, HRE2.out]
          refine ⟨rfl, HB4.out.trans (Below.mono (B := w3.heap.size) (bl_drewN (Below.refl w3.heap.size w3) _) ?_)⟩
          omega
      · have hh : hasNext t.tm = true := by
          cases hh : hasNext t.tm with
          | false => exact absurd (HZ.out.2 hh) h2
          | true => rfl
        have HRE : Hid (r = 24) := by
          show _ = _
          rw [HR2.out, hh]
          simp
        have h2' : (0 : Int) < (n2 : Int) := by omega
        clear h2 hh
        go_wp2_with fail
        rw [HF.out, HRE.out]
        exact ⟨rfl, HB4.out⟩
    · have HRE : Hid (r = ck) := by
        show _ = _
        rw [HR2.out, if_neg hc0, if_pos hc0]
      have h0' : (ck != 0) = true := by simpa using hc0
      have HB4 := Lib.hid (HB1.out.trans (HB2.out.mono (by omega)))
      clear hc0
      go_wp2_with fail
      rw [HF.out, HRE.out]
      exact ⟨rfl, HB4.out⟩
  · have HR2 : Hid (r = if (n : Int) ≠ K ∨ bb = false then 3 else 0) := by
      show _ = _
      rw [HR.out, if_neg hk0, if_neg h1]
      simp [h1]
    have h1' : (op == 1) = false := by simpa using h1
    have h1n : (op != 1) = true := by simpa using h1
    have hbw : w.heap.size < wb.heap.size := hsb
    have HB1' : Hid (Below w.heap.size w wb) := HB1.out
    clear hk0 h1
    by_cases hnk : (n : Int) = K
    · have hnk' : ((n : Int) != K) = false := by simpa using hnk
      cases bb with
      | false =>
        have HRE2 : Hid (r = 3) := by show _ = _; rw [HR2.out, if_pos (.inr rfl)]
        clear hnk
        go_enter Tryd.func128, Tryd.ntmps128
        go_wp2_with fail
        refine (HKI.out _).mono ?_
        rintro e w1 ⟨rfl, hw⟩
        rw [← hw, ← HWB.out]
        clear hw
        obtain ⟨x0, x1, x2, x3, x4, x5⟩ := HXX.out wb (Below.refl _ _)
        go_wp2_with fail
        have hbd : Below wb.heap.size wb wb.drew := (Below.refl _ _).drew
        have hnot : ∀ (x : Bool) (W : World), (Op.unary .not (.bool x)).run Tryd.prog W = .ok (.bool (!x)) W := fun _ _ => rfl
        (first | (go_region_held3 (fun w' => (∀ o, w'.cell? ⟨w.heap.size, o, none⟩ = wb.cell? ⟨w.heap.size, o, none⟩) ∧ Below wb.heap.size wb w')
          (first
            | (exact ⟨keep_cells (by assumption) hbw, by assumption⟩)
            | fail)
          (first
            | (go_at_call 135; refine (HKI.out _).mono ?_; rintro e w5 ⟨rfl, hw5⟩; rw [← hw5]; clear hw5)
            | (go_at_call 137; refine (HNO.out _).mono ?_; rintro e w5 ⟨rfl, hb5⟩; have hk5 := keep_step (by assumption) hb5)
            | fail)) | fail)
        all_goals
          go_wp2_with fail
          rw [HF.out, HRE2.out]
          refine ⟨rfl, HB1'.out.trans (Below.mono (B := wb.heap.size) (by assumption) ?_)⟩
          omega
      | true =>
        have HRE2 : Hid (r = 0) := by show _ = _; rw [HR2.out, if_neg (fun h => by rcases h with h | h; exact h hnk; cases h)]
        clear hnk
        go_enter Tryd.func128, Tryd.ntmps128
        go_wp2_with fail
        refine (HKI.out _).mono ?_
        rintro e w1 ⟨rfl, hw⟩
        rw [← hw, ← HWB.out]
        clear hw
        obtain ⟨x0, x1, x2, x3, x4, x5⟩ := HXX.out wb (Below.refl _ _)
        go_wp2_with fail
        have hbd : Below wb.heap.size wb wb.drew := (Below.refl _ _).drew
        have hnot : ∀ (x : Bool) (W : World), (Op.unary .not (.bool x)).run Tryd.prog W = .ok (.bool (!x)) W := fun _ _ => rfl
        (first | (go_region_held3 (fun w' => (∀ o, w'.cell? ⟨w.heap.size, o, none⟩ = wb.cell? ⟨w.heap.size, o, none⟩) ∧ Below wb.heap.size wb w')
          (first
            | (exact ⟨keep_cells (by assumption) hbw, by assumption⟩)
            | fail)
          (first
            | (go_at_call 135; refine (HKI.out _).mono ?_; rintro e w5 ⟨rfl, hw5⟩; rw [← hw5]; clear hw5)
            | (go_at_call 137; refine (HNO.out _).mono ?_; rintro e w5 ⟨rfl, hb5⟩; have hk5 := keep_step (by assumption) hb5)
            | fail)) | fail)
        all_goals
          go_wp2_with fail
          rw [HF.out, HRE2.out]
          refine ⟨rfl, HB1'.out.trans (Below.mono (B := wb.heap.size) (by assumption) ?_)⟩
          omega
    · have hnk' : ((n : Int) != K) = true := by simpa using hnk
      have HRE2 : Hid (r = 3) := by show _ = _; rw [HR2.out, if_pos (.inl hnk)]
      clear hnk
      go_enter Tryd.func128, Tryd.ntmps128
      go_wp2_with fail
      refine (HKI.out _).mono ?_
      rintro e w1 ⟨rfl, hw⟩
      rw [← hw, ← HWB.out]
      clear hw
      obtain ⟨x0, x1, x2, x3, x4, x5⟩ := HXX.out wb (Below.refl _ _)
      go_wp2_with fail
      go_quiet ((go_at_call 135; exact Calls.quiet_of_same (HKQ.out _)))
      go_wp2_with fail
      rw [HF.out, HRE2.out]
      refine ⟨rfl, HB1'.out.trans (Below.mono (B := wb.heap.size) (bl_drewN (Below.refl wb.heap.size wb) _) ?_)⟩
      omega

set_option maxRecDepth 100000 in
set_option maxHeartbeats 8000000 in
theorem rfwalk_any : ∀ (N : Nat) (t : Fm) (d p : Nat) (Ae : Option Addr) (ce : Nat) (A : Option Addr) (c : Nat) (w : World), t.size ≤ N → d + t.size ≤ 10000000 → p ≤ 4096 → t.wsize ≤ 9000000 → FmV w Ae ce A c t →
    Calls Tryd.prog 110 #[t.val Ae ce A c, .int .i64 d, .int .i64 p] w (FWQ (eachF fchkStep t d (0, p)) w) := by
  intro N
  induction N with
  | zero =>
    intro t d p Ae ce A c w hN
    cases t; rw [Fm.size] at hN; omega
  | succ N ih =>
    intro t d p Ae ce A c w hN hd hp hws hV
    obtain ⟨n, hn⟩ : ∃ n, n = t.kids.length := ⟨_, rfl⟩
    obtain ⟨ne, hne⟩ : ∃ ne, ne = t.tm.kids.length := ⟨_, rfl⟩
    obtain ⟨X, hX⟩ : ∃ X, X = eachF fchkStep t d (0, p) := ⟨_, rfl⟩
    obtain ⟨F, hF⟩ : ∃ F, F = FWQ X w := ⟨_, rfl⟩
    rw [← hX, ← hF]
    have hsz : t.size = 1 + Fm.sizeL t.kids := by cases t; rw [Fm.size]; rfl
    have hnl := Fm.len_le t.kids
    have hcap := hV.cap
    have hcapm := hV.capm
    unfold maxLen at hcapm
    obtain ⟨w1, hw1⟩ : ∃ w1, w1 = w.alloc (.cells #[.int .i64 t.op, .int .i64 t.tm.op, .int .i64 t.tm.num, .string t.tm.name, .slice Ae ne ce, .slice A n c] 29) := ⟨_, rfl⟩
    have hb1 : Below w.heap.size w w1 := by rw [hw1]; exact (Below.refl _ _).alloc (Nat.le_refl _) _
    have hs1 : w1.heap.size = w.heap.size + 1 := by rw [hw1]; simp
    have hbx : FBox w1 w.heap.size Ae ne ce A n c t := by rw [hw1]; exact heap_alloc_new w _
    have hpt := rone_any t Ae ce A c w1 (hV.below hb1 rfl) (by have := (Fm.wsize_open t).1; omega)
    unfold Fm.val at hpt
    obtain ⟨pe, hpe⟩ : ∃ pe, pe = foneE t := ⟨_, rfl⟩
    rw [← hpe, ← hn, ← hne] at hpt
    have HXE : Hid (X = if 64 < d then ((17, p + 1), false) else if pe ≠ 0 then ((pe, p + 1), false) else if 4096 < p + 1 then ((4, p + 1), false) else eachL fchkStep t.kids (d + 1) (0, p + 1)) := by
      show _ = _
      rw [hX, eachF_eq]
      have hst : fchkStep (0, p) t d = ((fstepE t d p, p + 1), decide (fstepE t d p = 0)) := rfl
      rw [hst, fstepE_one, ← hpe]
      by_cases h1 : 64 < d
      · simp [h1]
      · by_cases h2 : pe = 0
        · by_cases h3 : 4096 < p + 1
          · simp [h1, h2, h3]
          · simp [h1, h2, h3]
        · simp [h1, h2]
    have hkl : t.kids.length ≤ 10000000 := by omega
    rw [← hn] at hcap hkl
    have HSZ : Hid (∀ k ∈ t.kids, k.size ≤ N ∧ d + 1 + k.size ≤ 10000000 ∧ k.wsize ≤ 9000000) := fun k hk => by
      have h1 := Fm.sizeL_mem hk
      have h2 := (Fm.wsize_open t).2 k hk
      omega
    have HXX : Hid (∀ W, Below w1.heap.size w1 W → W.cell? ⟨w.heap.size, 5, none⟩ = some (.slice A n c)) := fun W hb => (hbx.below hb hbx.lt).c5
    unfold Fm.val
    rw [← hn, ← hne]
    have HF := Lib.hid hF
    have HIH := Lib.hid ih
    have HN := Lib.hid hn
    have HK := Lib.hid hV.kids
    have HB1 := Lib.hid hb1
    have HS1 := Lib.hid hs1
    have HW1 := Lib.hid hw1
    have HPT := Lib.hid hpt
    have HP := Lib.hid hp
    have hd9 : d ≤ 10000000 := by omega
    clear hF ih hn hne hsz hnl hb1 hs1 hbx hw1 hV hN hX hpt hpe hd hws
    by_cases h64 : 64 < d
    · have HR : Hid (X = ((17, p + 1), false)) := by show _ = _; rw [HXE.out, if_pos h64]
      have h64' : (64 : Int) < (d : Int) := by omega
      clear h64
      go_enter Tryd.func110, Tryd.ntmps110
      go_wp2_with fail
      rw [HF.out, HR.out]
      exact ⟨p, rfl, (fun h => by cases h), by omega, by rw [← HW1.out]; exact HB1.out⟩
    have h64' : ¬ (64 : Int) < (d : Int) := by omega
    by_cases h0 : pe = 0
    · by_cases h4 : 4096 < p + 1
      · have HR : Hid (X = ((4, p + 1), false)) := by show _ = _; rw [HXE.out, if_neg h64, if_neg (fun h => h h0), if_pos h4]
        subst h0
        have h4' : (4096 : Int) < (p : Int) + 1 := by omega
        clear h4 h64
        go_enter Tryd.func110, Tryd.ntmps110
        go_wp2_with fail
        rw [← HW1.out]
        refine (HPT.out).mono ?_
        rintro e w2 ⟨rfl, hb2⟩
        have HB3 := Lib.hid (HB1.out.trans (hb2.mono (by have := HS1.out; omega)))
        clear hb2
        go_wp2_with fail
        rw [HF.out, HR.out]
        exact ⟨p + 1, by go_num, (fun h => by cases h), by omega, HB3.out⟩
      · have HR : Hid (eachL fchkStep t.kids (d + 1) (0, p + 1) = X) := by show _ = _; rw [HXE.out, if_neg h64, if_neg (fun h => h h0), if_neg h4]
        subst h0
        have h4' : ¬ (4096 : Int) < (p : Int) + 1 := by omega
        have h4n : p + 1 ≤ 4096 := by omega
        clear h4 h64
        go_enter Tryd.func110, Tryd.ntmps110
        go_wp2_with fail
        rw [← HW1.out]
        refine (HPT.out).mono ?_
        rintro e w2 ⟨rfl, hb2⟩
        have kc5 := HXX.out w2 hb2
        have hs2 := hb2.size
        have hbw : w.heap.size < w2.heap.size := by have := HS1.out; omega
        have HB2 := Lib.hid hb2
        have HB3 := Lib.hid (HB1.out.trans (hb2.mono (by have := HS1.out; omega)))
        clear hb2
        go_wp2_with fail
        go_loopw [2, 8, 9] (fun sp _ si wr => ∃ (k q : Nat), k ≤ n ∧ sp = .int .i64 q ∧ si = .int .i64 k ∧ q ≤ 4096 ∧ Below w2.heap.size w2 wr ∧ eachL fchkStep (t.kids.drop k) (d + 1) (0, q) = X) (fun _ _ i _ => n - (intOf i).toNat)
        case atStart => exact ⟨0, p + 1, Nat.zero_le _, by go_num, rfl, h4n, Below.refl _ _, HR.out⟩
        case round =>
          obtain ⟨k, q, hk, rfl, rfl, hq, hbel, hwl⟩ := hrel
          have HB := Lib.hid hbel
          have HWL := Lib.hid hwl
          have hszr := hbel.size
          have kr5 := HXX.out wr (HB2.out.trans (hbel.mono HB2.out.size))
          have hbt : Below w.heap.size w wr := HB3.out.trans (hbel.mono (by omega))
          have hbwr : w.heap.size < wr.heap.size := by omega
          by_cases hlt : k < n
          · obtain ⟨kd, hkd⟩ : ∃ kd, t.kids[k]? = some kd := ⟨_, List.getElem?_eq_getElem (by have := HN.out; omega)⟩
            have hmem : kd ∈ t.kids := List.mem_of_getElem? hkd
            rcases HK.out with h9 | ⟨g, off, rfl, hg, hrow⟩
            · rw [h9] at hkd; simp at hkd
            have hat := (hrow.get hkd).below hbt rfl hg
            obtain ⟨q0, q1, q2, q3, Ae2, ce2, A2, c2, q4, q5, hV2⟩ := hat.open
            have hgw : g < wr.heap.size := by omega
            have hih := HIH.out kd (d + 1) q Ae2 ce2 A2 c2 wr (HSZ.out kd hmem).1 (HSZ.out kd hmem).2.1 hq (HSZ.out kd hmem).2.2 hV2
            rw [show ((d + 1 : Nat) : Int) = (d : Int) + 1 from by omega] at hih
            unfold Fm.val at hih
            obtain ⟨n2, hn2⟩ : ∃ n2, n2 = kd.kids.length := ⟨_, rfl⟩
            obtain ⟨ne2, hne2⟩ : ∃ ne2, ne2 = kd.tm.kids.length := ⟨_, rfl⟩
            rw [← hn2] at q5 hih
            rw [← hne2] at q4 hih
            have hsp := fchk_spec kd (d + 1) (0, q)
            obtain ⟨z, hz⟩ : ∃ z, z = eachF fchkStep kd (d + 1) (0, q) := ⟨_, rfl⟩
            rw [← hz] at hih hsp
            have HDR : Hid (eachL fchkStep (t.kids.drop k) (d + 1) (0, q) = if z.2 = true then eachL fchkStep (t.kids.drop (k + 1)) (d + 1) z.1 else (z.1, false)) := by
              obtain ⟨hj, hj2⟩ := List.getElem?_eq_some_iff.1 hkd
              show _ = _
              rw [List.drop_eq_getElem_cons hj, hj2, eachL, ← hz]
              obtain ⟨z1, z2⟩ := z
              cases z2 <;> rfl
            have HSP : Hid ((z.2 = true → z.1.1 = 0 ∧ z.1.2 ≤ 4096) ∧ (z.2 = false → z.1.1 ≠ 0)) := ⟨fun h => by
              obtain ⟨_, h2, h3⟩ := hsp.1 h
              simp only at h2 h3
              rw [h2]; exact ⟨rfl, h3⟩, hsp.2⟩
            have HC := Lib.hid hih
            obtain ⟨⟨z1, z2⟩, zb⟩ := z
            have hk0 : (0 : Int) ≤ (k : Int) := by omega
            have hk1 : (k : Int) < (n : Int) := by omega
            have e1 : off + 6 * k = off + k * 6 := by omega
            rw [e1] at q0 q1 q2 q3 q4 q5
            clear hih hn2 hne2 hsp hz hV2 hat hrow hmem hkd e1 hbel hwl kc5 hbt
            go_wp2_with fail
            refine (HC.out).mono ?_
            rintro e w4 ⟨a4, rfl, ha4, hb4, hbb4⟩
            have HB5 := Lib.hid (HB.out.trans (hbb4.mono hszr))
            have hs4 := hbb4.size
            have HA4 := Lib.hid ha4
            clear hbb4 q0 q1 q2 q3 q4 q5 kr5 ha4
            cases zb with
            | false =>
              have hz0 := HSP.out.2 rfl
              have hz0' : (z1 != 0) = true := by simpa using hz0
              have HZ0 := Lib.hid hz0
              have HR2 : Hid (X = ((z1, z2), false)) := by show _ = _; rw [← HWL.out, HDR.out]; rfl
              clear hz0
              go_wp2_with fail
              rw [HF.out, HR2.out]
              exact ⟨a4, rfl, fun h => absurd h HZ0.out, hb4, HB3.out.trans (HB5.out.mono (by omega))⟩
            | true =>
              obtain ⟨hz0, hz4⟩ := HSP.out.1 rfl
              have HR2 : Hid (eachL fchkStep (t.kids.drop (k + 1)) (d + 1) (0, z2) = X) := by
                show _ = _
                rw [← HWL.out, HDR.out]
                rw [hz0]
                rfl
              have hae := HA4.out hz0
              subst hz0
              subst hae
              go_wp2_with fail
              go_roundw
              case rel => exact ⟨k + 1, a4, by omega, rfl, by go_num, hz4, HB5.out, HR2.out⟩
              case measure => simp [intOf]; omega
          · have HE : Hid (X = ((0, q), true)) := by
              show _ = _
              rw [← HWL.out, List.drop_eq_nil_of_le (by have := HN.out; omega)]
              rfl
            have hk1 : ¬ (k : Int) < (n : Int) := by omega
            have HBE := Lib.hid hbt
            clear hlt hbel hwl kc5 hbt
            go_wp2_with fail
            rw [HF.out, HE.out]
            exact ⟨q, rfl, fun _ => rfl, by omega, HBE.out⟩
    · have HR : Hid (X = ((pe, p + 1), false)) := by show _ = _; rw [HXE.out, if_neg h64, if_pos h0]
      have h0' : (pe != 0) = true := by simpa using h0
      have H0 := Lib.hid h0
      clear h0 h64
      go_enter Tryd.func110, Tryd.ntmps110
      go_wp2_with fail
      rw [← HW1.out]
      refine (HPT.out).mono ?_
      rintro e w2 ⟨rfl, hb2⟩
      have HB3 := Lib.hid (HB1.out.trans (hb2.mono (by have := HS1.out; omega)))
      clear hb2
      go_wp2_with fail
      rw [HF.out, HR.out]
      exact ⟨p, rfl, fun h => absurd h H0.out, by omega, HB3.out⟩

set_option maxRecDepth 100000 in
set_option maxHeartbeats 4000000 in
theorem rfcheck_any (t : Fm) (Ae : Option Addr) (ce : Nat) (A : Option Addr) (c : Nat) (w : World) (hV : FmV w Ae ce A c t) (hsz : t.wsize ≤ 9000000) :
    Calls Tryd.prog 89 #[t.val Ae ce A c] w fun e w' => e = .returned (.int .i64 t.check) ∧ Below w.heap.size w w' := by
  obtain ⟨w1, hw1⟩ : ∃ w1, w1 = w.alloc (.cells #[.int .i64 t.op, .int .i64 t.tm.op, .int .i64 t.tm.num, .string t.tm.name, .slice Ae t.tm.kids.length ce, .slice A t.kids.length c] 29) := ⟨_, rfl⟩
  have hb1 : Below w.heap.size w w1 := by rw [hw1]; exact (Below.refl _ _).alloc (Nat.le_refl _) _
  have hs1 : w1.heap.size = w.heap.size + 1 := by rw [hw1]; simp
  have hc1 := rfwalk_any t.size t 1 0 Ae ce A c w1 (Nat.le_refl _) (by have := Fm.size_le t; omega) (by omega) hsz (hV.below hb1 rfl)
  have HRE : Hid ((eachF fchkStep t 1 (0, 0)).1.1 = t.check) := rfl
  obtain ⟨ck, hck⟩ : ∃ ck, ck = t.check := ⟨_, rfl⟩
  obtain ⟨X, hX⟩ : ∃ X, X = eachF fchkStep t 1 (0, 0) := ⟨_, rfl⟩
  rw [← hX] at hc1
  rw [← hX, ← hck] at HRE
  rw [← hck]
  unfold Fm.val at hc1 ⊢
  have HC := Lib.hid hc1
  have HB1 := Lib.hid hb1
  have HW1 := Lib.hid hw1
  have HS1 := Lib.hid hs1
  clear hc1 hX hb1 hw1 hs1 hV hck
  go_enter Tryd.func89, Tryd.ntmps89
  go_wp2_with fail
  rw [← HW1.out]
  refine (HC.out).mono ?_
  rintro e w2 ⟨a, rfl, _, _, hb2⟩
  have HB2 := Lib.hid (HB1.out.trans (hb2.mono (by have := HS1.out; omega)))
  rw [HRE.out]
  clear hb2
  go_wp2_with fail
  go_ret
  exact ⟨rfl, HB2.out⟩
end Go.Proofs.YtcjblbpkjegmiaaDoor
