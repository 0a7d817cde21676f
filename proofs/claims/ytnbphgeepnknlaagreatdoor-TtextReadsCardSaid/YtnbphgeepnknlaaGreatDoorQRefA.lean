/- Walks of the reference of terms: ref30.Kids, Part, check, Check. -/
import Derived.Test.YtnbphgeepnknlaaGreatDoorQTrmD
namespace Go.Proofs.YtnbphgeepnknlaaGreatDoor
open Go.RowKit
set_option linter.unusedVariables false

set_option maxHeartbeats 4000000 in
theorem rkids_any (op : Int) (w : World) :
 Calls Tryz.prog 203 #[.int .i64 op] w fun e w' => e = .returned (.tuple #[.int .i64 (kidsOf op).1, .int .i64 (kidsOf op).2]) ∧ w = w' := by
 have hc : op = 1 ∨ op = 2 ∨ op = 3 ∨ op = 4 ∨ op = 5 ∨ op = 6 ∨ op = 7 ∨ op = 8 ∨ op = 9 ∨ op = 10 ∨ op = 11 ∨ op = 12 ∨ op = 13 ∨ op = 14 ∨ op = 15 ∨ op = 16 ∨ op = 17 ∨ op = 18 ∨ (op < 1 ∨ 18 < op) := by omega
 rcases hc with rfl | rfl | rfl | rfl | rfl | rfl | rfl | rfl | rfl | rfl | rfl | rfl | rfl | rfl | rfl | rfl | rfl | rfl | hc
 iterate 18
  · go_enter Tryz.func203, Tryz.ntmps203
    go_wp2
    go_ret2
    exact ⟨rfl, rfl⟩
 · have HR : Hid (kidsOf op = (-1, -1)) := by
    show _ = _
    unfold kidsOf
    rw [if_neg (by omega), if_neg (by omega), if_neg (by omega), if_neg (by omega), if_neg (by omega)]
   obtain ⟨r, hr⟩ : ∃ r, r = kidsOf op := ⟨_, rfl⟩
   rw [← hr] at HR ⊢
   clear hr
   have b1 : (op == 1) = false := by simp; omega
   have b2 : (op == 2) = false := by simp; omega
   have b3 : (op == 3) = false := by simp; omega
   have b4 : (op == 4) = false := by simp; omega
   have b5 : (op == 5) = false := by simp; omega
   have b6 : (op == 6) = false := by simp; omega
   have b7 : (op == 7) = false := by simp; omega
   have b8 : (op == 18) = false := by simp; omega
   rcases hc with hc | hc
   · go_enter Tryz.func203, Tryz.ntmps203
     go_wp2
     go_ret2
     rw [HR.out]
     exact ⟨rfl, rfl⟩
   · have hc1 : ¬ op < 1 := by omega
     go_enter Tryz.func203, Tryz.ntmps203
     go_wp2
     go_ret2
     rw [HR.out]
     exact ⟨rfl, rfl⟩

set_option maxRecDepth 100000 in
set_option maxHeartbeats 8000000 in
theorem rpart_any (op n : Int) (s : ByteArray) (A : Option Addr) (k c d : Nat) (w : World) (hs : s.size ≤ maxLen) (hk : k ≤ maxLen) (hd : d ≤ 100000000) :
 Calls Tryz.prog 178 #[.agg #[.int .i64 op, .int .i64 n, .string s, .slice A k c], .int .i64 d] w fun e w' => e = .returned (.int .i64 (if 64 < d then 17 else wrongE op n s.size k)) ∧ Below w.heap.size w w' := by
 unfold maxLen at hs hk
 obtain ⟨fk, hfk⟩ : ∃ fk, fk = kidsOf op := ⟨_, rfl⟩
 obtain ⟨W, hW⟩ : ∃ W, W = wrongE op n s.size k := ⟨_, rfl⟩
 rw [← hW]
 have HK := Lib.hid (fun W => rkids_any op W)
 rw [← hfk] at HK
 have HB := Lib.hid ((Below.refl w.heap.size w).alloc (Nat.le_refl _) (.cells #[.int .i64 op, .int .i64 n, .string s, .slice A k c] 25))
 have HW := Lib.hid hW
 have HFK := Lib.hid hfk
 clear hfk hW
 by_cases hd6 : 64 < d
 · have hd' : (64 : Int) < (d : Int) := by omega
   have HD := Lib.hid hd6
   clear hd6
   go_enter Tryz.func178, Tryz.ntmps178
   go_wp2_with fail
   go_ret
   exact ⟨rfl, HB.out⟩
 have hd' : ¬ (64 : Int) < (d : Int) := by omega
 have HD := Lib.hid hd6
 clear hd6
 have hnm : (0 < s.size ∧ s.toList.isEmpty = false) ∨ (s.size = 0 ∧ s.toList.isEmpty = true) := by
  rcases Nat.eq_zero_or_pos s.size with h | h
  · exact .inr ⟨h, isEmpty_of_size h⟩
  · exact .inl ⟨h, isEmpty_of_pos h⟩
 have hcl : op = 1 ∨ op = 2 ∨ op = 3 ∨ op = 4 ∨ (op ≠ 1 ∧ op ≠ 2 ∧ op ≠ 3 ∧ op ≠ 4 ∧ (op == 1) = false ∧ (op == 2) = false ∧ (op == 3) = false ∧ (op == 4) = false) := by
  by_cases h1 : op = 1
  · exact .inl h1
  by_cases h2 : op = 2
  · exact .inr (.inl h2)
  by_cases h3 : op = 3
  · exact .inr (.inr (.inl h3))
  by_cases h4 : op = 4
  · exact .inr (.inr (.inr (.inl h4)))
  exact .inr (.inr (.inr (.inr ⟨h1, h2, h3, h4, by simpa using h1, by simpa using h2, by simpa using h3, by simpa using h4⟩)))
 rcases hnm with ⟨hn1, hn2⟩ | ⟨hn1, hn2⟩
 all_goals
  have HN1 := Lib.hid hn1
  try clear hn1
  rcases hcl with rfl | rfl | rfl | rfl | ⟨h1, h2, h3, h4, b1, b2, b3, b4⟩
  all_goals
   (try have HOP := Lib.hid (And.intro h1 (And.intro h2 (And.intro h3 h4))))
   (try clear h1 h2 h3 h4)
   go_enter Tryz.func178, Tryz.ntmps178
   go_wp2_with fail
   refine (HK.out _).mono ?_
   rintro e w' ⟨rfl, hw⟩
   rw [← hw]
   clear hw
   go_wp2_with fail
   all_goals
    go_ret
    refine ⟨?_, HB.out⟩
    have hn := HN1.out
    refine congrArg (fun x => Ending.returned (.int .i64 x)) ?_
    rw [HW.out]
    first
     | rw [wrongE_cls 1 n _ _ (-255) 255 0 rfl rfl rfl]
     | rw [wrongE_cls 2 n _ _ 0 1 0 rfl rfl rfl]
     | rw [wrongE_cls 3 n _ _ 0 0 1 rfl rfl rfl]
     | rw [wrongE_cls 4 n _ _ 0 0 1 rfl rfl rfl]
     | (obtain ⟨o1, o2, o3, o4⟩ := HOP.out
        rw [wrongE_cls op n _ _ 0 0 0 (if_neg o1) (by unfold highE; rw [if_neg o1, if_neg o2]) (by rw [if_neg (by omega)])])
    rw [← HFK.out]
    repeat' split
    all_goals first | rfl | omega

set_option maxRecDepth 100000 in
set_option maxHeartbeats 8000000 in
theorem rcheck1_any : ∀ (N : Nat) (t : Tm) (d p : Nat) (A : Option Addr) (c : Nat) (w : World), t.size ≤ N → d + t.size ≤ 10000000 → p ≤ 4096 → TmV w A c t →
 Calls Tryz.prog 139 #[t.val A c, .int .i64 d, .int .i64 p] w fun e w' => e = .returned (.tuple #[.int .i64 (walkF chkStep t d (0, p)).1.1, .int .i64 ((walkF chkStep t d (0, p)).1.2 : Nat)]) ∧ Below w.heap.size w w' := by
 intro N
 induction N with
 | zero =>
  intro t d p A c w hN
  cases t; rw [Tm.size] at hN; omega
 | succ N ih =>
  intro t d p A c w hN hd hp hV
  obtain ⟨n, hn⟩ : ∃ n, n = t.kids.length := ⟨_, rfl⟩
  obtain ⟨X, hX⟩ : ∃ X, X = walkF chkStep t d (0, p) := ⟨_, rfl⟩
  obtain ⟨F, hF⟩ : ∃ F : Ending → World → Prop, F = fun e w' => e = .returned (.tuple #[.int .i64 X.1.1, .int .i64 (X.1.2 : Nat)]) ∧ Below w.heap.size w w' := ⟨_, rfl⟩
  rw [← hX, ← hF]
  have hsz : t.size = 1 + Tm.sizeL t.kids := by cases t; rw [Tm.size]; rfl
  have hnl := Tm.len_le t.kids
  have hcap := hV.cap
  have hcapm := hV.capm
  unfold maxLen at hcapm
  obtain ⟨w1, hw1⟩ : ∃ w1, w1 = w.alloc (.cells #[.int .i64 t.op, .int .i64 t.num, .string t.name, .slice A n c] 25) := ⟨_, rfl⟩
  have hb1 : Below w.heap.size w w1 := by rw [hw1]; exact (Below.refl _ _).alloc (Nat.le_refl _) _
  have hs1 : w1.heap.size = w.heap.size + 1 := by rw [hw1]; simp
  have hbx : w1.heap[w.heap.size]? = some (.cells #[.int .i64 t.op, .int .i64 t.num, .string t.name, .slice A n c] 25 (0, 0)) := by rw [hw1]; exact heap_alloc_new w _
  have hpt := rpart_any t.op t.num t.name A t.kids.length c d w1 hV.name (Nat.le_trans hV.cap hV.capm) (by omega)
  obtain ⟨pe, hpe⟩ : ∃ pe, pe = if 64 < d then 17 else wrongE t.op t.num t.name.size t.kids.length := ⟨_, rfl⟩
  rw [← hpe, ← hn] at hpt
  have HXE : Hid (X = if pe = 0 then (if 4096 < p + 1 then ((4, p + 1), false) else walkL chkStep t.kids (d + 1) (0, p + 1)) else ((pe, p + 1), false)) := by
   show _ = _
   rw [hX, walkF_eq]
   have hst : chkStep (0, p) t d = ((if 64 < d then 17 else if wrongE t.op t.num t.name.size t.kids.length = 0 ∧ 4096 < p + 1 then 4 else wrongE t.op t.num t.name.size t.kids.length, p + 1), decide ((if 64 < d then (17 : Int) else if wrongE t.op t.num t.name.size t.kids.length = 0 ∧ 4096 < p + 1 then 4 else wrongE t.op t.num t.name.size t.kids.length) = 0)) := rfl
   rw [hst, hpe]
   generalize wrongE t.op t.num t.name.size t.kids.length = we
   by_cases h1 : 64 < d
   · simp [h1]
   · by_cases h2 : we = 0
     · by_cases h3 : 4096 < p + 1
       · simp [h1, h2, h3]
       · simp [h1, h2, h3]
     · simp [h1, h2]
  have hkl : t.kids.length ≤ 10000000 := by omega
  rw [← hn] at hcap hkl
  have HSZ : Hid (∀ k ∈ t.kids, k.size ≤ N ∧ d + 1 + k.size ≤ 10000000) := fun k hk => by
   have h1 := Tm.sizeL_mem hk
   omega
  show Calls Tryz.prog 139 #[.agg #[.int .i64 t.op, .int .i64 t.num, .string t.name, .slice A t.kids.length c], .int .i64 d, .int .i64 p] w F
  rw [← hn]
  have HF := Lib.hid hF
  have HIH := Lib.hid ih
  have HN := Lib.hid hn
  have HK := Lib.hid hV.kids
  have HB1 := Lib.hid hb1
  have HS1 := Lib.hid hs1
  have HBX := Lib.hid hbx
  have HW1 := Lib.hid hw1
  have HPT := Lib.hid hpt
  have hd9 : d ≤ 10000000 := by omega
  clear hF ih hn hsz hnl hb1 hs1 hbx hw1 hV hN hX hpt hpe hd
  go_enter Tryz.func139, Tryz.ntmps139
  go_wp2_with fail
  rw [← HW1.out]
  refine (HPT.out).mono ?_
  rintro e w2 ⟨rfl, hb2⟩
  have hb3 := HB1.out.trans (hb2.mono (by have := HS1.out; omega))
  have hx3 := (hb2.block _ (by have := HS1.out; omega)).trans HBX.out
  have kc3 : w2.cell? ⟨w.heap.size, 3, none⟩ = some (.slice A n c) := by rw [cell_of_row w2 w.heap.size 3 _ _ (0, 0) hx3]; rfl
  have hs2 := hb2.size
  have hbw : w.heap.size < w2.heap.size := by have := HS1.out; omega
  have HB3 := Lib.hid hb3
  have HX3 := Lib.hid hx3
  clear hb2 hb3 hx3
  by_cases h0 : pe = 0
  · by_cases h4 : 4096 < p + 1
    · have HR : Hid (X = ((4, p + 1), false)) := by show _ = _; rw [HXE.out, if_pos h0, if_pos h4]
      subst h0
      have h4' : (4096 : Int) < (p : Int) + 1 := by omega
      clear h4
      go_wp2_with fail
      rw [HF.out, HR.out]
      exact ⟨rfl, HB3.out⟩
    · have HR : Hid (walkL chkStep t.kids (d + 1) (0, p + 1) = X) := by show _ = _; rw [HXE.out, if_pos h0, if_neg h4]
      subst h0
      have h4' : ¬ (4096 : Int) < (p : Int) + 1 := by omega
      have h4n : p + 1 ≤ 4096 := by omega
      clear h4
      go_wp2_with fail
      go_loopw [2, 9, 10, 11] (fun sp si _ _ wr => ∃ (k q : Nat), k ≤ n ∧ sp = .int .i64 q ∧ si = .int .i64 k ∧ q ≤ 4096 ∧ Below w2.heap.size w2 wr ∧ walkL chkStep (t.kids.drop k) (d + 1) (0, q) = X) (fun _ i _ _ _ => n - (intOf i).toNat)
      case atStart => exact ⟨0, p + 1, Nat.zero_le _, by go_num, rfl, h4n, Below.refl _ _, HR.out⟩
      case round =>
       obtain ⟨k, q, hk, rfl, rfl, hq, hbel, hwl⟩ := hrel
       have HB := Lib.hid hbel
       have HWL := Lib.hid hwl
       have hszr := hbel.size
       have kr3 : wr.cell? ⟨w.heap.size, 3, none⟩ = some (.slice A n c) := by rw [cell_of_row wr w.heap.size 3 _ _ (0, 0) ((hbel.block _ hbw).trans HX3.out)]; rfl
       have hbt : Below w.heap.size w wr := HB3.out.trans (hbel.mono (by omega))
       have hbwr : w.heap.size < wr.heap.size := by omega
       by_cases hlt : k < n
       · obtain ⟨kd, hkd⟩ : ∃ kd, t.kids[k]? = some kd := ⟨_, List.getElem?_eq_getElem (by have := HN.out; omega)⟩
         have hmem : kd ∈ t.kids := List.mem_of_getElem? hkd
         rcases HK.out with h9 | ⟨g, off, rfl, hg, hrow⟩
         · rw [h9] at hkd; simp at hkd
         have hat := (hrow.get hkd).below hbt rfl hg
         obtain ⟨q0, q1, q2, A2, c2, q3, hV2⟩ := hat.open
         have hgw : g < wr.heap.size := by omega
         have hih := HIH.out kd (d + 1) q A2 c2 wr (HSZ.out kd hmem).1 (HSZ.out kd hmem).2 hq hV2
         rw [show ((d + 1 : Nat) : Int) = (d : Int) + 1 from by omega] at hih
         unfold Tm.val at hih
         obtain ⟨n2, hn2⟩ : ∃ n2, n2 = kd.kids.length := ⟨_, rfl⟩
         rw [← hn2] at q3 hih
         have hsp := chk_spec kd (d + 1) (0, q)
         obtain ⟨z, hz⟩ : ∃ z, z = walkF chkStep kd (d + 1) (0, q) := ⟨_, rfl⟩
         rw [← hz] at hih hsp
         have HDR : Hid (walkL chkStep (t.kids.drop k) (d + 1) (0, q) = if z.2 = true then walkL chkStep (t.kids.drop (k + 1)) (d + 1) z.1 else (z.1, false)) := by
          obtain ⟨hj, hj2⟩ := List.getElem?_eq_some_iff.1 hkd
          show _ = _
          rw [List.drop_eq_getElem_cons hj, hj2, walkL, ← hz]
          obtain ⟨z1, z2⟩ := z
          cases z2 <;> rfl
         have HSP : Hid ((z.2 = true → z.1.1 = 0 ∧ z.1.2 ≤ 4096) ∧ (z.2 = false → z.1.1 ≠ 0)) := ⟨fun h => by
          obtain ⟨_, h2, h3⟩ := hsp.1 h
          simp only at h2 h3
          rw [h2]; exact ⟨rfl, h3⟩, hsp.2⟩
         have HC := Lib.hid hih
         obtain ⟨⟨z1, z2⟩, zb⟩ := z
         have hk0 : (0 : Int) ≤ (k : Int) := by omega
         have hk1 : (k : Int) < (n : Int) := by omega
         have e1 : off + 4 * k = off + k * 4 := by omega
         rw [e1] at q0 q1 q2 q3
         clear hih hn2 hsp hz hV2 hat hrow hmem hkd e1 hbel hwl kc3 hbt
         go_wp2_with fail
         refine (HC.out).mono ?_
         rintro e w4 ⟨rfl, hb4⟩
         have HB5 := Lib.hid (HB.out.trans (hb4.mono hszr))
         have hs4 := hb4.size
         clear hb4 q0 q1 q2 q3 kr3
         cases zb with
         | false =>
          have hz0 := HSP.out.2 rfl
          have hz0' : (z1 != 0) = true := by simpa using hz0
          have HR2 : Hid (X = ((z1, z2), false)) := by show _ = _; rw [← HWL.out, HDR.out]; rfl
          clear hz0
          go_wp2_with fail
          rw [HF.out, HR2.out]
          exact ⟨rfl, HB3.out.trans (HB5.out.mono (by omega))⟩
         | true =>
          obtain ⟨hz0, hz4⟩ := HSP.out.1 rfl
          have HR2 : Hid (walkL chkStep (t.kids.drop (k + 1)) (d + 1) (0, z2) = X) := by
           show _ = _
           rw [← HWL.out, HDR.out]
           rw [hz0]
           rfl
          subst hz0
          go_wp2_with fail
          go_roundw
          case rel => exact ⟨k + 1, z2, by omega, rfl, by go_num, hz4, HB5.out, HR2.out⟩
          case measure => simp [intOf]; omega
       · have HE : Hid (X = ((0, q), true)) := by
          show _ = _
          rw [← HWL.out, List.drop_eq_nil_of_le (by have := HN.out; omega)]
          rfl
         have hk1 : ¬ (k : Int) < (n : Int) := by omega
         have HBE := Lib.hid hbt
         clear hlt hbel hwl kc3 hbt
         go_wp2_with fail
         rw [HF.out, HE.out]
         exact ⟨rfl, HBE.out⟩
  · have HR : Hid (X = ((pe, p + 1), false)) := by show _ = _; rw [HXE.out, if_neg h0]
    have h0' : (pe != 0) = true := by simpa using h0
    clear h0
    go_wp2_with fail
    rw [HF.out, HR.out]
    exact ⟨by go_num, HB3.out⟩

set_option maxRecDepth 100000 in
set_option maxHeartbeats 4000000 in
theorem rcheck_any (t : Tm) (A : Option Addr) (c : Nat) (w : World) (hV : TmV w A c t) (hsz : t.size ≤ 9000000) :
 Calls Tryz.prog 70 #[t.val A c] w fun e w' => e = .returned (.int .i64 t.check) ∧ Below w.heap.size w w' := by
 obtain ⟨w1, hw1⟩ : ∃ w1, w1 = w.alloc (.cells #[.int .i64 t.op, .int .i64 t.num, .string t.name, .slice A t.kids.length c] 25) := ⟨_, rfl⟩
 have hb1 : Below w.heap.size w w1 := by rw [hw1]; exact (Below.refl _ _).alloc (Nat.le_refl _) _
 have hs1 : w1.heap.size = w.heap.size + 1 := by rw [hw1]; simp
 have hc1 := rcheck1_any t.size t 1 0 A c w1 (Nat.le_refl _) (by omega) (by omega) (hV.below hb1 rfl)
 have HRE : Hid ((walkF chkStep t 1 (0, 0)).1.1 = t.check) := rfl
 obtain ⟨X, hX⟩ : ∃ X, X = walkF chkStep t 1 (0, 0) := ⟨_, rfl⟩
 rw [← hX] at hc1 HRE
 unfold Tm.val at hc1 ⊢
 have HC := Lib.hid hc1
 have HB1 := Lib.hid hb1
 have HW1 := Lib.hid hw1
 have HS1 := Lib.hid hs1
 clear hc1 hX hb1 hw1 hs1 hV
 go_enter Tryz.func70, Tryz.ntmps70
 go_wp2_with fail
 rw [← HW1.out]
 refine (HC.out).mono ?_
 rintro e w2 ⟨rfl, hb2⟩
 have HB2 := Lib.hid (HB1.out.trans (hb2.mono (by have := HS1.out; omega)))
 clear hb2
 go_wp2_with fail
 go_ret
 exact ⟨by rw [HRE.out]; rfl, HB2.out⟩
end Go.Proofs.YtnbphgeepnknlaaGreatDoor
