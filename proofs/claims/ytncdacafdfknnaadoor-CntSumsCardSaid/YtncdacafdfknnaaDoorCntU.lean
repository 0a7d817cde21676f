/- Walks: Parse. -/
import Derived.Test.YtncdacafdfknnaaDoorCntT
namespace Go.Proofs.YtncdacafdfknnaaDoor
open Go.RowKit
set_option linter.unusedVariables false

abbrev Bs := List UInt8
def bs (s : ByteArray) : Bs := s.data.toList
theorem bs_length (s : ByteArray) : (bs s).length = s.size := by unfold bs; rw [Array.length_toList]; rfl
theorem bs_get {s : ByteArray} {k : Nat} (h : k < s.size) : (bs s)[k]? = some s[k] := by
  unfold bs
  rw [Array.getElem?_toList]
  exact Array.getElem?_eq_getElem (by exact h)
theorem take_snocB {l : Bs} {k : Nat} {c : UInt8} (h : l[k]? = some c) : l.take (k + 1) = l.take k ++ [c] := by
  obtain ⟨hj, rfl⟩ := List.getElem?_eq_some_iff.1 h
  exact List.take_succ_eq_append_getElem hj
def isDg (c : UInt8) : Bool := decide (48 ≤ c.toNat) && decide (c.toNat ≤ 57)
def decV (l : Bs) : Nat := l.foldl (fun n c => 10 * n + (c.toNat - 48)) 0
theorem decV_snoc (l : Bs) (c : UInt8) : decV (l ++ [c]) = 10 * decV l + (c.toNat - 48) := by simp [decV, List.foldl_append]
theorem decV_lt : ∀ (k : Nat) (l : Bs), l.length = k → (∀ c ∈ l, isDg c = true) → decV l < 10 ^ k
  | 0, l, h, _ => by rw [List.eq_nil_of_length_eq_zero h]; decide
  | k + 1, l, h, hd => by
    rcases List.eq_nil_or_concat l with rfl | ⟨r, c, rfl⟩
    · simp at h
    · have h1 := decV_lt k r (by simp at h; omega) (fun x hx => hd x (by simp [hx]))
      have h2 := hd c (by simp)
      simp only [isDg, Bool.and_eq_true, decide_eq_true_eq] at h2
      rw [List.concat_eq_append, decV_snoc, Nat.pow_succ]
      omega
/-- What a text says: its number, or an error. -/
def parseS (l : Bs) : Nat × Int :=
  if 2000 < l.length then (0, 4) else if l.length = 0 ∨ (l[0]?.map (·.toNat) = some 48 ∧ 1 < l.length) then (0, 3) else if l.all isDg then (decV l, 0) else (0, 3)
theorem bs_ne {s : ByteArray} (h : 0 < s.size) : s.toList.isEmpty = false := by
  rw [ByteArray.toList_eq]
  have := bs_length s
  cases hl : s.data.toList with
  | nil => unfold bs at this; rw [hl] at this; simp at this; omega
  | cons _ _ => rfl

theorem by_ten (A : Option Addr) (c0 : Nat) (v m n : Nat) (w : World) (hn : n = (digs B32 v).length) (hl : n ≤ 500000) (hm : m < B32) (hA : DAt w A .u32 (digs B32 v)) :
    Calls Tryd.prog 34 #[.slice A n c0, .int .u32 10, .int .u32 (m : Nat)] w fun e w' => ∃ A' k, e = .returned (.slice A' k k) ∧ k = (digs B32 (10 * v + m)).length ∧ DAt w' A' .u32 (digs B32 (10 * v + m)) ∧ Below w.heap.size w w' := by
  have h1 := by_any A c0 (digs B32 v) 10 m w (by rw [← hn]; exact hl) (by decide) hm hA (dig_digs (by decide) v)
  rw [val_digs (by decide), ← hn, Nat.mul_comm v 10] at h1
  exact h1.mono fun e w' ⟨A', he, hd, hb⟩ => ⟨A', _, he, rfl, hd, hb⟩

set_option maxRecDepth 100000 in
set_option maxHeartbeats 4000000 in
theorem parse_any (s : ByteArray) (w : World) (hs : s.size ≤ maxLen) :
    Calls Tryd.prog 10 #[.string s] w fun e w' => ∃ A m c, e = .returned (.tuple #[.slice A m c, .int .i64 (parseS (bs s)).2]) ∧ m = (digs B32 (parseS (bs s)).1).length ∧ m ≤ c ∧ c ≤ maxLen ∧ m ≤ 2000 ∧ DAt w' A .u32 (digs B32 (parseS (bs s)).1) ∧ Below w.heap.size w w' := by
  unfold maxLen at hs
  have hlen := bs_length s
  by_cases h1 : 2000 < s.size
  · have h1' : (2000 : Int) < (s.size : Int) := by omega
    have HV := Lib.hid (show parseS (bs s) = (0, 4) from if_pos (by rw [hlen]; exact h1))
    clear hlen h1
    go_enter Tryd.func10, Tryd.ntmps10
    go_wp2
    go_ret2
    rw [HV.out]
    exact ⟨_, _, _, rfl, rfl, Nat.le_refl _, Nat.zero_le _, Nat.zero_le _, .inl rfl, Below.refl _ _⟩
  · have h1' : ¬ (2000 : Int) < (s.size : Int) := by omega
    by_cases h0 : 0 < s.size
    · have hne := bs_ne h0
      have hg0 := bs_get h0
      by_cases hz : s[0].toNat = 48 ∧ 1 < s.size
      · have HV := Lib.hid (show parseS (bs s) = (0, 3) from by
          unfold parseS
          rw [if_neg (by omega), if_pos (.inr ⟨by rw [hg0]; simp [hz.1], by omega⟩)])
        have hz1 : ((s[0].toNat : Int) == 48) = true := by simp; omega
        have hz2 : (1 : Int) < (s.size : Int) := by omega
        clear hlen hg0 hz
        go_enter Tryd.func10, Tryd.ntmps10
        go_wp2
        go_ret2
        rw [HV.out]
        exact ⟨_, _, _, rfl, rfl, Nat.le_refl _, Nat.zero_le _, Nat.zero_le _, .inl rfl, Below.refl _ _⟩
      · have HPS := Lib.hid (show parseS (bs s) = if (bs s).all isDg then (decV (bs s), 0) else (0, 3) from by
          unfold parseS
          rw [if_neg (by omega), if_neg]
          rintro (h | ⟨h, h2⟩)
          · omega
          · rw [hg0] at h
            simp at h
            exact hz ⟨h, by omega⟩)
        have hzz : ((s[0].toNat : Int) == 48) = false ∨ (((s[0].toNat : Int) == 48) = true ∧ ¬ (1 : Int) < (s.size : Int)) := by
          by_cases h : s[0].toNat = 48
          · exact .inr ⟨by simp; omega, by omega⟩
          · exact .inl (by simp; omega)
        have HLEN := Lib.hid hlen
        clear hlen hg0 hz
        rcases hzz with hz1 | ⟨hz1, hz2⟩
        all_goals
          go_enter Tryd.func10, Tryd.ntmps10
          go_wp2
          clear hz1
          go_loopw [2, 22] (fun sa si wr => ∃ (k : Nat) (A : Option Addr) (m c : Nat), k ≤ s.size ∧ si = .int .i64 k ∧ sa = .slice A m c ∧ m = (digs B32 (decV ((bs s).take k))).length ∧ m ≤ k ∧ m ≤ c ∧ c ≤ 2000 ∧ (∀ x ∈ (bs s).take k, isDg x = true) ∧ DAt wr A .u32 (digs B32 (decV ((bs s).take k))) ∧ Below w.heap.size w wr) (fun _ i _ => s.size - (intOf i).toNat)
          case atStart => exact ⟨0, none, 0, 0, Nat.zero_le _, rfl, rfl, rfl, by omega, by omega, by omega, by simp, .inl rfl, Below.refl _ _⟩
          case round =>
            obtain ⟨k, A, m, c, hk, rfl, rfl, hm, hmk, hmc, hc, hall, hda, hbel⟩ := hrel
            have HALL := Lib.hid hall
            have HB := Lib.hid hbel
            have hsz := hbel.size
            by_cases hlt : k < s.size
            · have hgk := bs_get hlt
              have hts := take_snocB hgk
              have hb : s[k].toNat < 256 := s[k].toNat_lt
              have hk0 : (0 : Int) ≤ (k : Int) := by omega
              have hk1 : (k : Int) < (s.size : Int) := by omega
              cases hdg : isDg s[k]
              · have HV := Lib.hid (show parseS (bs s) = (0, 3) from by
                  rw [HPS.out, if_neg]
                  intro h
                  have := List.all_eq_true.1 h s[k] (List.mem_of_getElem? hgk)
                  rw [hdg] at this
                  cases this)
                have hor : s[k].toNat < 48 ∨ (¬ s[k].toNat < 48 ∧ 57 < s[k].toNat) := by
                  unfold isDg at hdg
                  simp at hdg
                  omega
                clear hdg hts hgk hall hda hbel
                rcases hor with h | ⟨h, h2⟩
                all_goals
                  go_wp2
                  go_ret2
                  rw [HV.out]
                  exact ⟨_, _, _, rfl, rfl, Nat.le_refl _, Nat.zero_le _, Nat.zero_le _, .inl rfl, HB.out⟩
              · have hdd : 48 ≤ s[k].toNat ∧ s[k].toNat ≤ 57 := by unfold isDg at hdg; simp at hdg; omega
                obtain ⟨d1, d2⟩ := hdd
                have hdv : decV ((bs s).take (k + 1)) = 10 * decV ((bs s).take k) + (s[k].toNat - 48) := by rw [hts, decV_snoc]
                have hall2 : ∀ x ∈ (bs s).take (k + 1), isDg x = true := by
                  rw [hts]
                  intro x hx
                  rcases List.mem_append.1 hx with hx | hx
                  · exact hall x hx
                  · simp at hx; rw [hx]; exact hdg
                have hlt2 := decV_lt (k + 1) ((bs s).take (k + 1)) (by rw [List.length_take]; have := HLEN.out; omega) hall2
                have hml : (digs B32 (decV ((bs s).take (k + 1)))).length ≤ k + 1 := digs_len (by decide) _ _ (Nat.lt_of_lt_of_le hlt2 (Nat.pow_le_pow_left (by decide) _))
                have hby := by_ten A c (decV ((bs s).take k)) (s[k].toNat - 48) m wr hm (by omega) (by show _ < 4294967296; omega) hda
                rw [← hdv] at hby
                have HBY := Lib.hid hby
                have HALL2 := Lib.hid hall2
                have HML := Lib.hid hml
                have hcast : ((s[k].toNat - 48 : Nat) : Int) = (s[k].toNat : Int) - 48 := by omega
                rw [hcast] at HBY
                clear hdg hts hgk hall hda hbel hdv hall2 hlt2 hml hby hm hcast
                go_wp2_with fail
                refine (HBY.out).mono ?_
                rintro e w2 ⟨A2, m2, rfl, hm2, hd2, hb2⟩
                have HD2 := Lib.hid hd2
                have HM2 := Lib.hid hm2
                have HB2 := Lib.hid (HB.out.trans (hb2.mono hsz))
                clear hd2 hm2 hb2
                go_wp2_with fail
                go_roundw
                case rel => exact ⟨k + 1, A2, m2, m2, by omega, by go_num, rfl, HM2.out, by rw [HM2.out]; exact HML.out, Nat.le_refl _, by have := HML.out; have := HM2.out; omega, HALL2.out, HD2.out, HB2.out⟩
                case measure => first | (simp [intOf]; done) | (simp [intOf]; omega)
            · have hks : k = s.size := by omega
              have htk : (bs s).take k = bs s := List.take_of_length_le (by have := HLEN.out; omega)
              rw [htk] at hm hall hda
              have HV := Lib.hid (show parseS (bs s) = (decV (bs s), 0) from by rw [HPS.out, if_pos (List.all_eq_true.2 hall)])
              have HM := Lib.hid hm
              have HDA := Lib.hid hda
              have hk1 : ¬ (k : Int) < (s.size : Int) := by omega
              clear htk hm hall hda hbel hks
              go_wp2
              go_ret2
              rw [HV.out]
              exact ⟨_, _, _, rfl, HM.out, hmc, by unfold maxLen; omega, by omega, HDA.out, HB.out⟩
    · have hte : s = ⟨#[]⟩ := by
        have hz : s.data.toList = [] := List.eq_nil_of_length_eq_zero (by have := hlen; unfold bs at this; omega)
        cases s
        simp at hz
        subst hz
        rfl
      have HV := Lib.hid (show parseS (bs s) = (0, 3) from by rw [hte]; rfl)
      subst hte
      clear hlen h0 hs h1 h1'
      go_enter Tryd.func10, Tryd.ntmps10
      go_wp2
      go_ret2
      rw [HV.out]
      exact ⟨_, _, _, rfl, rfl, Nat.le_refl _, Nat.zero_le _, Nat.zero_le _, .inl rfl, Below.refl _ _⟩
end Go.Proofs.YtncdacafdfknnaaDoor
