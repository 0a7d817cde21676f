/- Walks: forms.kids, term, Check. -/
import Derived.Test.YtcjblbpkjegmiaaDoorFrmB
namespace Go.Proofs.YtcjblbpkjegmiaaDoor
open Go.RowKit
set_option linter.unusedVariables false

set_option maxHeartbeats 2000000 in
theorem fkids_any (op : Int) (w : World) :
    Calls Tryd.prog 85 #[.int .i64 op] w fun e w' => e = .returned (.int .i64 (fkids op)) ∧ w = w' := by
  obtain ⟨r, hr⟩ : ∃ r, r = fkids op := ⟨_, rfl⟩
  rw [← hr]
  have HR := Lib.hid hr
  clear hr
  go_enter Tryd.func85, Tryd.ntmps85
  go_wp2
  all_goals
    go_ret
    rw [HR.out]
    refine ⟨?_, rfl⟩
    simp_all [fkids]

set_option maxRecDepth 100000 in
set_option maxHeartbeats 4000000 in
theorem fterm_any (t : Fm) (Ae : Option Addr) (ce : Nat) (A : Option Addr) (c : Nat) (w : World) (hV : FmV w Ae ce A c t) (hsz : t.tm.size ≤ 9000000) :
    Calls Tryd.prog 84 #[t.val Ae ce A c] w fun e w' => e = .returned (.int .i64 (ftermE t)) ∧ Below w.heap.size w w' := by
  obtain ⟨n, hn⟩ : ∃ n, n = t.kids.length := ⟨_, rfl⟩
  obtain ⟨ne, hne⟩ : ∃ ne, ne = t.tm.kids.length := ⟨_, rfl⟩
  obtain ⟨wb, hwb⟩ : ∃ wb, wb = w.alloc (.cells #[.int .i64 t.op, .int .i64 t.tm.op, .int .i64 t.tm.num, .string t.tm.name, .slice Ae ne ce, .slice A n c] 29) := ⟨_, rfl⟩
  have hb1 : Below w.heap.size w wb := by rw [hwb]; exact (Below.refl _ _).alloc (Nat.le_refl _) _
  have hbx : FBox wb w.heap.size Ae ne ce A n c t := by rw [hwb]; exact heap_alloc_new w _
  have hsb : w.heap.size < wb.heap.size := by rw [hwb]; simp
  have hck := check_any t.tm Ae ce wb (hV.tm.below hb1 rfl) hsz
  unfold Tm.val at hck
  unfold Fm.val
  rw [← hn]
  rw [← hne] at hck ⊢
  obtain ⟨ck, hck0⟩ : ∃ ck, ck = t.tm.check := ⟨_, rfl⟩
  rw [← hck0] at hck
  obtain ⟨r, hr⟩ : ∃ r, r = ftermE t := ⟨_, rfl⟩
  rw [← hr]
  unfold ftermE at hr
  rw [← hck0] at hr
  obtain ⟨op, hop⟩ : ∃ op, op = t.op := ⟨_, rfl⟩
  have HBX := Lib.hid hbx
  have HOP := Lib.hid hop
  rw [← hop] at hr hwb ⊢
  have HWB := Lib.hid hwb
  rw [HWB.out] at hck
  have HCK := Lib.hid hck
  have HR := Lib.hid hr
  have HB1 := Lib.hid hb1
  have HV := Lib.hid hV
  have HN := Lib.hid hn
  have HNE := Lib.hid hne
  clear hck hck0 hr hwb hb1 hbx hV hn hne hop
  by_cases h1 : op = 1
  · have HR2 : Hid (r = if ck = 0 then (if hasNext t.tm = true then 24 else 0) else ck) := by show _ = _; rw [HR.out, if_pos h1]
    subst h1
    go_enter Tryd.func84, Tryd.ntmps84
    go_wp2_with fail
    refine (HCK.out).mono ?_
    rintro e w1 ⟨rfl, hb2⟩
    rw [← HWB.out] at hb2
    have hx1 := HBX.out.below hb2 HBX.out.lt
    have HB2 := Lib.hid (HB1.out.trans (hb2.mono (Nat.le_of_lt hsb)))
    have hs1 := hb2.size
    have y1 := hx1.c1
    have y2 := hx1.c2
    have y3 := hx1.c3
    have y4 := hx1.c4
    clear hx1 hb2
    by_cases h0 : ck = 0
    · have hnm := names_any t.tm Ae ce w1 (HV.out.tm.below HB2.out rfl) hsz
      unfold Tm.val at hnm
      rw [← HNE.out] at hnm
      have HNM := Lib.hid hnm
      have HR3 : Hid (r = if hasNext t.tm = true then 24 else 0) := by show _ = _; rw [HR2.out, if_pos h0]
      subst h0
      clear hnm
      go_wp2_with fail
      refine (HNM.out).mono ?_
      rintro e w2 ⟨v1, A2, n2, c2, rfl, hz, hb3⟩
      have HB3 := Lib.hid (HB2.out.trans (hb3.mono HB2.out.size))
      have HZ := Lib.hid hz
      clear hz hb3 y1 y2 y3 y4
      by_cases h2 : n2 = 0
      · have HRE : Hid (r = 0) := by show _ = _; rw [HR3.out, HZ.out.1 h2]; rfl
        have h2' : ¬ (0 : Int) < (n2 : Int) := by omega
        clear h2
        go_wp2_with fail
        go_ret
        rw [HRE.out]
        exact ⟨rfl, HB3.out⟩
      · have HRE : Hid (r = 24) := by
          show _ = _
          rw [HR3.out]
          cases hh : hasNext t.tm with
          | false => exact absurd (HZ.out.2 hh) h2
          | true => rfl
        have h2' : (0 : Int) < (n2 : Int) := by omega
        clear h2
        go_wp2_with fail
        go_ret
        rw [HRE.out]
        exact ⟨rfl, HB3.out⟩
    · have HRE : Hid (r = ck) := by show _ = _; rw [HR2.out, if_neg h0]
      have h0' : (ck != 0) = true := by simpa using h0
      clear h0
      go_wp2_with fail
      go_ret
      rw [HRE.out]
      exact ⟨rfl, HB2.out⟩
  · have HRE : Hid (r = 0) := by show _ = _; rw [HR.out, if_neg h1]
    have h1' : (op != 1) = true := by simpa using h1
    clear h1
    go_enter Tryd.func84, Tryd.ntmps84
    go_wp2_with fail
    go_ret
    rw [HRE.out, ← HWB.out]
    exact ⟨rfl, HB1.out⟩

theorem fstepE_eq (t : Fm) (d n : Nat) : fstepE t d n = if 64 < d then 17 else if fkids t.op < 0 then 11 else if ftermE t ≠ 0 then ftermE t
  else if (t.kids.length : Int) ≠ fkids t.op ∨ (t.op ≠ 1 ∧ bareB t.tm = false) then 3 else if 4096 < n + 1 then 4 else 0 := rfl
set_option maxRecDepth 100000 in
set_option maxHeartbeats 16000000 in
theorem fcheck1_any (bw bn : Nat) (hne : bw ≠ bn) (x : Int × Nat) (t : Fm) (d : Nat) (Ae : Option Addr) (ce : Nat) (A : Option Addr) (c : Nat) (w : World) (w0 : World) (B : Nat) (hB : B = w0.heap.size) (hB1 : B ≤ bw) (hB2 : B ≤ bn) (hbel : Below B w0 w) (hI : ChkInv bw bn x w) (hx0 : x.1 = 0) (hV : FmV w0 Ae ce A c t) (hd : d ≤ 10000000) (hsz : t.tm.size ≤ 9000000) :
    Calls Tryd.prog 83 #[t.val Ae ce A c, .int .i64 d, .pointer (some ⟨bn, 0, none⟩), .pointer (some ⟨bw, 0, none⟩)] w fun e w' => e = .returned (.bool (fchkStep x t d).2) ∧ (ChkFin bw (fchkStep x t d).1 w' ∧ ((fchkStep x t d).2 = true → ChkInv bw bn (fchkStep x t d).1 w')) ∧ Only (fun q => q = bw ∨ q = bn) w w' := by
  obtain ⟨hw1, hn1, hx2⟩ := hI
  obtain ⟨e0, k⟩ := x
  simp only at hw1 hn1 hx2 hx0
  subst hx0
  obtain ⟨n, hn⟩ : ∃ n, n = t.kids.length := ⟨_, rfl⟩
  obtain ⟨ne, hne0⟩ : ∃ ne, ne = t.tm.kids.length := ⟨_, rfl⟩
  obtain ⟨E, hE⟩ : ∃ E, E = fstepE t d k := ⟨_, rfl⟩
  have HST : Hid (fchkStep (0, k) t d = ((E, k + 1), decide (E = 0))) := by show _ = _; rw [hE]; rfl
  obtain ⟨st, hst⟩ : ∃ st, st = fchkStep (0, k) t d := ⟨_, rfl⟩
  rw [← hst] at HST ⊢
  rw [HST.out]
  simp only
  obtain ⟨op, hop⟩ : ∃ op, op = t.op := ⟨_, rfl⟩
  obtain ⟨K, hK⟩ : ∃ K, K = fkids op := ⟨_, rfl⟩
  obtain ⟨W, hW⟩ : ∃ W, W = ftermE t := ⟨_, rfl⟩
  obtain ⟨bb, hbb⟩ : ∃ bb, bb = bareB t.tm := ⟨_, rfl⟩
  rw [fstepE_eq, ← hop, ← hK, ← hW, ← hn, ← hbb] at hE
  obtain ⟨wb, hwb⟩ : ∃ wb, wb = (w.setCell ⟨bn, 0, none⟩ (.int .i64 ((k : Int) + 1))).alloc (.cells #[.int .i64 op, .int .i64 t.tm.op, .int .i64 t.tm.num, .string t.tm.name, .slice Ae ne ce, .slice A n c] 29) := ⟨_, rfl⟩
  have hlw := hw1.lt
  have hln := hn1.lt
  have cw := hw1.cell
  have cn := hn1.cell
  have fw := hw1.frozen
  have fn := hn1.frozen
  have hne' : bn ≠ bw := fun h => hne h.symm
  have hbw2 : Box wb bw 37 0 := by rw [hwb]; exact (hw1.setOther (p := ⟨bn, 0, none⟩) hne _).below ((Below.refl w.heap.size _).alloc (by simp) _) (by simpa using hlw)
  have hbn2 : Box wb bn 3 ((k : Int) + 1) := by rw [hwb]; exact (hn1.set _).below ((Below.refl w.heap.size _).alloc (by simp) _) (by simpa using hln)
  have ho2 : Only (fun q => q = bw ∨ q = bn) w wb := by rw [hwb]; exact ((Only.refl (F := fun q => q = bw ∨ q = bn)).setF (Or.inr rfl) _).thenBelow ((Below.refl w.heap.size _).alloc (by simp) _) (Nat.le_refl _)
  have hbelb : Below B w0 wb := by rw [hwb]; exact (hbel.setCell (p := ⟨bn, 0, none⟩) hB2 _).alloc (by simpa using (by have := hbel.size; omega)) _
  have hx : FBox wb w.heap.size Ae ne ce A n c t := by
    rw [hwb]
    have h := heap_alloc_new (w.setCell ⟨bn, 0, none⟩ (.int .i64 ((k : Int) + 1))) (.cells #[.int .i64 op, .int .i64 t.tm.op, .int .i64 t.tm.num, .string t.tm.name, .slice Ae ne ce, .slice A n c] 29)
    rw [show (w.setCell ⟨bn, 0, none⟩ (.int .i64 ((k : Int) + 1))).heap.size = w.heap.size from by simp] at h
    unfold FBox
    rw [← hop]
    exact h
  have hlt : w.heap.size < wb.heap.size := by rw [hwb]; simp
  have htm := fterm_any t Ae ce A c wb (hV.below hbelb hB) hsz
  unfold Fm.val at htm ⊢
  rw [← hn, ← hne0, ← hop] at htm ⊢
  rw [← hW] at htm
  have HKK := Lib.hid (fun W' => fkids_any op W')
  rw [← hK] at HKK
  have hcap := hV.cap
  have hcapm := hV.capm
  have hecap := hV.tm.cap
  have hecapm := hV.tm.capm
  have hnm := hV.tm.name
  unfold maxLen at hcapm hecapm hnm
  rw [← hn] at hcap
  rw [← hne0] at hecap
  have hkb : k ≤ 4096 := hx2
  have HE := Lib.hid hE
  have HBB := Lib.hid hbb
  have HWB := Lib.hid hwb
  have HBW2 := Lib.hid hbw2
  have HBN2 := Lib.hid hbn2
  have HO2 := Lib.hid ho2
  have HX := Lib.hid hx
  have HNE0 := Lib.hid hne0
  have HOP := Lib.hid hop
  rw [HWB.out] at htm
  have HTM := Lib.hid htm
  have hcl : (t.tm.op ≠ 0 ∧ (t.tm.op == 0) = false ∧ bb = false) ∨ (t.tm.op = 0 ∧ t.tm.num ≠ 0 ∧ (t.tm.num == 0) = false ∧ bb = false) ∨ (t.tm.op = 0 ∧ t.tm.num = 0 ∧ 0 < t.tm.name.size ∧ bb = false) ∨ (t.tm.op = 0 ∧ t.tm.num = 0 ∧ t.tm.name.size = 0 ∧ 0 < ne ∧ ((ne : Int) == 0) = false ∧ bb = false) ∨ (t.tm.op = 0 ∧ t.tm.num = 0 ∧ t.tm.name.size = 0 ∧ ne = 0 ∧ bb = true) := by
    unfold bareB at hbb
    rw [← hne0] at hbb
    by_cases a1 : t.tm.op = 0
    · by_cases a2 : t.tm.num = 0
      · by_cases a3 : t.tm.name.size = 0
        · by_cases a4 : ne = 0
          · exact .inr (.inr (.inr (.inr ⟨a1, a2, a3, a4, by rw [hbb]; simp [a1, a2, a3, a4]⟩)))
          · exact .inr (.inr (.inr (.inl ⟨a1, a2, a3, by omega, by simp; omega, by rw [hbb]; simp [a4]⟩)))
        · exact .inr (.inr (.inl ⟨a1, a2, by omega, by rw [hbb]; simp [a3]⟩))
      · exact .inr (.inl ⟨a1, a2, by simpa using a2, by rw [hbb]; simp [a2]⟩)
    · exact .inl ⟨a1, by simpa using a1, by rw [hbb]; simp [a1]⟩
  clear hE hbb hwb hbw2 hbn2 ho2 hx hne0 htm hK hW hV hbelb hbel hsz hop hn hst
  obtain ⟨eo, heo⟩ : ∃ eo, eo = t.tm.op := ⟨_, rfl⟩
  obtain ⟨en, hen⟩ : ∃ en, en = t.tm.num := ⟨_, rfl⟩
  obtain ⟨es, hes⟩ : ∃ es, es = t.tm.name := ⟨_, rfl⟩
  have HEO := Lib.hid heo
  have HEN := Lib.hid hen
  have HES := Lib.hid hes
  rw [← heo, ← hen, ← hes] at hcl ⊢
  rw [← heo, ← hen, ← hes] at HTM HWB
  clear heo hen hes
  rcases hcl with ⟨a1, a2, hbf⟩ | ⟨rfl, a2, a3, hbf⟩ | ⟨rfl, rfl, a3, hbf⟩ | ⟨rfl, rfl, a3, a4, a5, hbf⟩ | ⟨rfl, rfl, a3, rfl, hbf⟩
  all_goals
    (try have st1 := isEmpty_of_size (by assumption : es.size = 0))
    (try have st2 := isEmpty_of_pos (by assumption : 0 < es.size))
    have HBF := Lib.hid hbf
    clear hbf
    go_enter Tryd.func83, Tryd.ntmps83
    go_wp2_with fail
    refine (HTM.out).mono ?_
    rintro e w3 ⟨rfl, hb3⟩
    rw [← HWB.out] at hb3
    clear cw cn fw fn
    have hbw3 := HBW2.out.below hb3 HBW2.out.lt
    have hbn3 := HBN2.out.below hb3 HBN2.out.lt
    have HO3 := Lib.hid (HO2.out.thenBelow hb3 HO2.out.size)
    have hx3 := HX.out.below hb3 HX.out.lt
    have cw := hbw3.cell
    have cn := hbn3.cell
    have fw := hbw3.frozen
    have fn := hbn3.frozen
    have lw := hbw3.lt
    have ln := hbn3.lt
    have lx := hx3.lt
    have x0 := hx3.c0
    have x5 := hx3.c5
    have HBW3 := Lib.hid hbw3
    have HBN3 := Lib.hid hbn3
    clear hbw3 hbn3 hb3 hx3
    rw [← HOP.out] at x0
    go_wp2_with fail
    refine (HKK.out _).mono ?_
    rintro e w' ⟨rfl, hw⟩
    rw [← hw]
    clear hw
    by_cases hd64 : 64 < d
    · have HEE : Hid (E = 17) := by show _ = _; rw [HE.out, if_pos hd64]
      have hd' : (64 : Int) < (d : Int) := by omega
      clear hd64
      go_wp2_with fail
      go_ret
      rw [HEE.out]
      exact ⟨rfl, ⟨HBW3.out.set _, fun h => absurd h (by decide)⟩, HO3.out.setF (Or.inl rfl) _⟩
    · have hd' : ¬ (64 : Int) < (d : Int) := by omega
      by_cases hK0 : K < 0
      · have HEE : Hid (E = 11) := by show _ = _; rw [HE.out, if_neg hd64, if_pos hK0]
        clear hd64
        go_wp2_with fail
        go_ret
        rw [HEE.out]
        exact ⟨rfl, ⟨HBW3.out.set _, fun h => absurd h (by decide)⟩, HO3.out.setF (Or.inl rfl) _⟩
      · by_cases hW0 : W = 0
        · have hW1 : (W != 0) = false := by simpa using hW0
          have HW0 : Hid (ftermE t = ftermE t ∧ (W ≠ 0 ↔ False)) := ⟨rfl, by simp [hW0]⟩
          by_cases hlen : (n : Int) = K
          · have hl1 : ((n : Int) != K) = false := by simpa using hlen
            by_cases ho1 : op = 1
            · have ho2 : (op != 1) = false := by simpa using ho1
              have HT : Hid (¬ ((n : Int) ≠ K ∨ (op ≠ 1 ∧ bb = false))) := by rintro (h | h); exact h hlen; exact h.1 ho1
              by_cases h4 : 4096 < k + 1
              · have HEE : Hid (E = 4) := by show _ = _; rw [HE.out, if_neg hd64, if_neg hK0, if_neg (by simp [hW0]), if_neg HT.out, if_pos h4]
                have h4' : (4096 : Int) < (k : Int) + 1 := by omega
                clear hd64 h4 hW0 hlen ho1
                go_wp2_with fail
                go_ret
                rw [HEE.out]
                exact ⟨rfl, ⟨HBW3.out.set _, fun h => absurd h (by decide)⟩, HO3.out.setF (Or.inl rfl) _⟩
              · have HEE : Hid (E = 0) := by show _ = _; rw [HE.out, if_neg hd64, if_neg hK0, if_neg (by simp [hW0]), if_neg HT.out, if_neg h4]
                have h4' : ¬ (4096 : Int) < (k : Int) + 1 := by omega
                have hk4 : k + 1 ≤ 4096 := by omega
                clear hd64 h4 hW0 hlen ho1
                go_wp2_with fail
                go_ret
                rw [HEE.out]
                exact ⟨rfl, ⟨HBW3.out, fun _ => ⟨HBW3.out, HBN3.out, hk4⟩⟩, HO3.out⟩
            · have ho2 : (op != 1) = true := by simpa using ho1
              first
              | (have h9 : bb = false := HBF.out
                 have HEE : Hid (E = 3) := by show _ = _; rw [HE.out, if_neg hd64, if_neg hK0, if_neg (by simp [hW0]), if_pos (.inr ⟨ho1, h9⟩)]
                 clear hd64 hW0 hlen ho1 h9
                 go_wp2_with fail
                 go_ret
                 rw [HEE.out]
                 exact ⟨rfl, ⟨HBW3.out.set _, fun h => absurd h (by decide)⟩, HO3.out.setF (Or.inl rfl) _⟩)
              | (have h9 : bb = true := HBF.out
                 have HT : Hid (¬ ((n : Int) ≠ K ∨ (op ≠ 1 ∧ bb = false))) := by rintro (h | h); exact h hlen; rw [h9] at h; exact absurd h.2 (by decide)
                 by_cases h4 : 4096 < k + 1
                 · have HEE : Hid (E = 4) := by show _ = _; rw [HE.out, if_neg hd64, if_neg hK0, if_neg (by simp [hW0]), if_neg HT.out, if_pos h4]
                   have h4' : (4096 : Int) < (k : Int) + 1 := by omega
                   clear hd64 h4 hW0 hlen ho1 h9
                   go_wp2_with fail
                   go_ret
                   rw [HEE.out]
                   exact ⟨rfl, ⟨HBW3.out.set _, fun h => absurd h (by decide)⟩, HO3.out.setF (Or.inl rfl) _⟩
                 · have HEE : Hid (E = 0) := by show _ = _; rw [HE.out, if_neg hd64, if_neg hK0, if_neg (by simp [hW0]), if_neg HT.out, if_neg h4]
                   have h4' : ¬ (4096 : Int) < (k : Int) + 1 := by omega
                   have hk4 : k + 1 ≤ 4096 := by omega
                   clear hd64 h4 hW0 hlen ho1 h9
                   go_wp2_with fail
                   go_ret
                   rw [HEE.out]
                   exact ⟨rfl, ⟨HBW3.out, fun _ => ⟨HBW3.out, HBN3.out, hk4⟩⟩, HO3.out⟩)
              | fail
          · have hl1 : ((n : Int) != K) = true := by simpa using hlen
            have HEE : Hid (E = 3) := by show _ = _; rw [HE.out, if_neg hd64, if_neg hK0, if_neg (by simp [hW0]), if_pos (.inl hlen)]
            clear hd64 hW0 hlen
            go_wp2_with fail
            go_ret
            rw [HEE.out]
            exact ⟨rfl, ⟨HBW3.out.set _, fun h => absurd h (by decide)⟩, HO3.out.setF (Or.inl rfl) _⟩
        · have hW1 : (W != 0) = true := by simpa using hW0
          have hW2 : (W == 0) = false := by simpa using hW0
          have HEE : Hid (E = W ∧ W ≠ 0) := by
            refine ⟨?_, hW0⟩
            rw [HE.out, if_neg hd64, if_neg hK0, if_pos hW0]
          clear hd64 hW0
          go_wp2_with fail
          go_ret
          rw [HEE.out.1, decide_eq_false HEE.out.2]
          exact ⟨rfl, ⟨HBW3.out.set _, fun h => absurd h (by decide)⟩, HO3.out.setF (Or.inl rfl) _⟩
end Go.Proofs.YtcjblbpkjegmiaaDoor
