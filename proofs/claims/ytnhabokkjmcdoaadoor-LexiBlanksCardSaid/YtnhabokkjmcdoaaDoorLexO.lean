/- The law LexiAll: what the lexer's All returns for any string is what the reference returns. -/
import Derived.Test.YtnhabokkjmcdoaaDoorLexW
namespace Go.Proofs.YtnhabokkjmcdoaaDoor
open Go.ChangeShapes Go.WideShapes Go.ChangeAt Go.RowKit
open Go.ChangeMaps (open_string shut_string)
set_option linter.unusedVariables false

theorem allF_len (l : Bs) : ∀ (n p : Nat) (acc : List Tok), p ≤ l.length → acc.length ≤ p → (allF n l p acc).1.length ≤ l.length
  | 0, p, acc, hp, ha => by simp [allF]
  | n + 1, p, acc, hp, ha => by
    unfold allF
    split
    · rename_i he
      split
      · dsimp only; omega
      · rename_i hk
        rcases next_ok hp he with ⟨h3, _⟩ | ⟨_, h4, h5⟩
        · exact absurd h3 hk
        · exact allF_len l n _ _ h5 (by rw [List.length_append]; simp; omega)
    · exact Nat.zero_le _
theorem all_len (l : Bs) : (all l).1.length ≤ l.length := by
  unfold all
  split
  · exact Nat.zero_le _
  · exact allF_len l _ 0 [] (Nat.zero_le _) (Nat.zero_le _)

def longB (n : Nat) : Bool := (decide (1500 < n) && decide (n ≤ 65536)) || decide (65546 < n)
theorem long_any (s : ByteArray) (w : World) (hs : s.size ≤ maxLen) : Calls Tryd.prog 19 #[.string s] w fun e w' => e = .returned (.bool (longB s.size)) ∧ w = w' := by
  unfold maxLen at hs
  unfold longB
  by_cases h1 : 1500 < s.size <;> by_cases h2 : s.size ≤ 65536 <;> by_cases h3 : 65546 < s.size
  all_goals first
    | (exfalso; omega)
    | (go_enter Tryd.func19, Tryd.ntmps19
       go_wp2
       go_ret
       exact ⟨by first | (simp [h1, h2, h3]; done) | (simp [h1, h2, h3]; omega), rfl⟩)

set_option maxRecDepth 100000 in
set_option maxHeartbeats 4000000 in
theorem lexiAll_any (s : ByteArray) (w : World) (hs : s.size ≤ maxLen) (hT : Tables w) :
    Calls Tryd.prog 4 #[.string s] w fun e w' => e = .returned (.bool true) ∧ Below w.heap.size w w' := by
  have HT := Lib.hid hT
  have HLO := Lib.hid (long_any s w hs)
  have HS := Lib.hid hs
  unfold maxLen at hs
  clear hT
  cases hlb : longB s.size
  · have hsz : s.size ≤ 65546 := by
      unfold longB at hlb
      simp at hlb
      omega
    rw [hlb] at HLO
    have hal := all_len (bs s)
    have HN1 := Lib.hid (fun W (h : Tables W) => all_at s (all (bs s)).1 (all (bs s)).2.1 (all (bs s)).2.2 rfl W HS.out h)
    have HN2 := Lib.hid (fun W => rall_at s (all (bs s)).1 (all (bs s)).2.1 (all (bs s)).2.2 rfl W (by omega))
    rw [bs_length] at hal
    generalize (all (bs s)).1 = ts at *
    generalize (all (bs s)).2.1 = a at *
    generalize (all (bs s)).2.2 = e0 at *
    obtain ⟨n, hn⟩ : ∃ n, n = ts.length := ⟨_, rfl⟩
    rw [← hn] at HN1 HN2
    have hto : ∀ A c V, ToksAt V A ts → Calls Tryd.prog 18 #[.slice A n c] V fun e w' => ∃ B d, e = .returned (.slice B n d) ∧ ToksAt w' B ts ∧ Below V.heap.size V w' := by
      rw [hn]
      exact fun A c V h => to_at A c ts V (by omega) h
    have hsame : ∀ A B c d V, ToksAt V A ts → ToksAt V B ts → Calls Tryd.prog 17 #[.slice A n c, .slice B n d, .bool true] V fun e w' => e = .returned (.bool true) ∧ ∃ n, w' = V.drewN n := by
      rw [hn]
      exact fun A B c d V h1 h2 => same_any A B c d ts ts true V (by omega) rfl h1 h2 (fun k x y hx hy => by rw [hx] at hy; injection hy with hy; subst hy; exact ⟨rfl, rfl, rfl, fun _ => rfl⟩)
    have HTO := Lib.hid hto
    have HSM := Lib.hid hsame
    clear hto hsame hn hlb hal
    go_enter Tryd.func4, Tryd.ntmps4
    go_wp2_with fail
    refine (HLO.out).mono ?_
    rintro e w1 ⟨rfl, hw⟩
    rw [← hw]
    clear hw
    go_wp2_with fail
    refine (HN1.out _ HT.out).mono ?_
    rintro e w1 ⟨A1, c1, rfl, ha1, hb1⟩
    have HB1 := Lib.hid hb1
    have HA1 := Lib.hid ha1
    have hz1 := hb1.size
    clear hb1 ha1
    go_wp2_with fail
    refine (HN2.out _).mono ?_
    rintro e w2 ⟨A2, c2, rfl, ha2, hb2⟩
    have HB2 := Lib.hid (HB1.out.trans (hb2.mono hz1))
    have HA2 := Lib.hid ha2
    have HA1' := Lib.hid (HA1.out.belowB hb2 rfl)
    have hz2 := HB2.out.size
    clear hb2 ha2
    go_wp2_with fail
    refine (HTO.out _ _ _ HA1'.out).mono ?_
    rintro e w3 ⟨A3, c3, rfl, ha3, hb3⟩
    have HB3 := Lib.hid (HB2.out.trans (hb3.mono hz2))
    have HA3 := Lib.hid ha3
    have HA2' := Lib.hid (HA2.out.belowB hb3 rfl)
    clear hb3 ha3
    go_wp2_with fail
    refine (HSM.out _ _ _ _ _ HA3.out HA2'.out).mono ?_
    rintro e w4 ⟨rfl, n4, rfl⟩
    have HB4 := Lib.hid (bdrewN HB3.out n4)
    go_wp2_with fail
    refine (lives_any _ (HT.out.below HB4.out)).mono ?_
    rintro e w5 ⟨rfl, hb5⟩
    have HB5 := Lib.hid (HB4.out.trans (hb5.mono HB4.out.size))
    clear hb5
    go_wp2
    go_ret
    exact ⟨rfl, HB5.out⟩
  · have HL := Lib.hid (lives_any w HT.out)
    rw [hlb] at HLO
    clear hlb
    go_enter Tryd.func4, Tryd.ntmps4
    go_wp2_with fail
    refine (HLO.out).mono ?_
    rintro e w1 ⟨rfl, hw⟩
    rw [← hw]
    clear hw
    go_wp2_with fail
    refine (HL.out).mono ?_
    rintro e w1 ⟨rfl, hb⟩
    have HB := Lib.hid hb
    clear hb
    go_wp2
    go_ret
    exact ⟨rfl, HB.out⟩

namespace lawLexiAll
set_option maxRecDepth 100000 in
theorem lifted (os : Os) (started : os.Started) (H : Type) (enc : TypeId × Value → H) :
    ReturnsInHanded {} Tryd.checked os 4 .any (fun w args => (Rows.lexiAllSpec.pre enc Tryd.prog Tryd.f4 Rows.lexiAllRow.domain false w args ∧ laidMetH Tryd.prog Rows.lexiAllRow.laid w) ∧ sizedMet enc Tryd.prog Tryd.f4 (OpenSpec.ofChange Rows.lexiAllSpec) false w args)
      (Rows.lexiAllSpec.post enc Tryd.prog Tryd.f4 false true false false) := by
  refine returnsInHanded_of_change_and (C := Tryd.checked) (X := fun w _ => laidMetH Tryd.prog Rows.lexiAllRow.laid w) (fun _ _ _ hh h => h.of_heap hh) own started (by kernel_rfl) Tryd.func4
    (ChangeSpec.witness_shaped (enc := enc) (C := Tryd.checked) (os := os) (X := fun w _ => laidMetH Tryd.prog Rows.lexiAllRow.laid w) false (World.laidAll Tryd.prog os Rows.lexiAllRow.laid) #[.string ⟨#[]⟩] 8 (World.laidAll_os _ _ _)
      (World.shaped_of_ZipB (by kernel_rfl) (by kernel_rfl)) (by kernel_rfl) (by kernel_rfl) (by kernel_rfl)
      (by rw [MakeChecks.laidMetH_plain _ _ _ (by kernel_rfl)]; exact laidMet_laidAll _ (by kernel_rfl) (by kernel_rfl))) ?_
  intro W base args ds gs before hval0 hW hcnd hsz hL _
  have hval : ∀ (j : Nat) t v, Tryd.f4.params[j]? = some t → args[j]? = some v → Value.okWide Tryd.prog W .any base t v := hval0
  have hW' := hW
  obtain ⟨p, q, hA0, hV, rfl, hfz, hnd⟩ := hW
  have hA : DataW.TrodAll enc Tryd.prog W 0 (fun _ => true) true Tryd.f4.params.toList args.toList ds p := hA0
  rw [Tryd.params4] at hA hval
  obtain ⟨v0, vs0, d0, ds0, p0, q0, hargs, rfl, rfl, h0, r0⟩ := trodAll_cons hA
  obtain ⟨rfl, rfl, rfl⟩ := trodAll_nil r0
  obtain rfl : args = #[v0] := by cases args; simp_all
  obtain ⟨rfl, rfl⟩ := trodVars_none hV
  rw [MakeChecks.laidMetH_plain _ _ _ (by kernel_rfl)] at hL
  have hT : Tables W := tables_of_reads (Lib.laidMet.reads hL (by simp [Rows.lexiAllRow])) (Lib.laidMet.reads hL (by simp [Rows.lexiAllRow]))
  have k0 := h0
  have lt0 : ∀ x ∈ p0, x.block < W.heap.size := by obtain ⟨m, hm⟩ := k0; exact DataW.trod_lt m _ _ _ hm
  obtain ⟨s, rfl, rfl, rfl, ws⟩ := open_string Tryd.underlying9 (hval 0 9 v0 rfl rfl) h0
  clear hA0 hval0
  refine (lexiAll_any s W ws hT).mono fun e W' ⟨he, bel⟩ => ?_
  subst he
  exact ⟨_, rfl, _, _, _, [], _, [], hW', trodAll_mk1 (shut_bool Tryd.underlying4 _), (trodAll_cons_mk (Below.trod laidOut (by kernel_rfl) (of_decide_eq_true (by kernel_rfl)) k0 bel lt0) trodAll_mk0), rfl, bel.frame _, fun h => by cases h⟩

theorem said : Rows.LexiAllSaid :=
  OpenClaim.holds_of_wide 4 Tryd.f4 rfl rfl rfl rfl rfl rfl rfl ⟨rfl, rfl, rfl, rfl, rfl⟩ rfl rfl rfl rfl rfl (by kernel_rfl) Tryd.func4 (by kernel_rfl)
    (of_decide_eq_true (by kernel_rfl)) (by unfold Func.isWrapper; first | (rw [if_pos (by decide +kernel)]; kernel_rfl) | (rw [if_neg (by decide +kernel)]; exact ⟨rfl, rfl⟩))
    (fun os started H enc _ => lifted os started H enc)
theorem card : Rows.LexiAllCardSaid :=
  Claim7.holds_tied_plain_at .later [] _ _ _ _ said (fun _ h => by cases h) (by kernel_rfl) (fun _ h => by cases h) lexiAll_row_tie rfl ⟨rfl, rfl⟩ (by kernel_rfl) rfl
    (fun f fn hf hfn => by
      obtain rfl : f = 4 := Option.some.inj ((show Tryd.prog.funcNamed Rows.lexiAllRow.func = some 4 by kernel_rfl).symm.trans hf) |>.symm
      obtain rfl : fn = Tryd.f4 := (Option.some.inj (Tryd.func4.symm.trans hfn)).symm
      exact ⟨by kernel_rfl, fun j t ht => by
        rw [Tryd.params4] at ht
        have hm : t ∈ [9] := by simpa using Array.mem_of_getElem? ht
        have hall : ([9].all fun u => !Tryd.prog.wantsStandIn u) = true := by kernel_rfl
        exact (show Tryd.prog.wantsStandIn t = false by simpa using List.all_eq_true.1 hall t hm)⟩)
    (by kernel_rfl)
#print axioms card
end lawLexiAll
end Go.Proofs.YtnhabokkjmcdoaaDoor
