/- Every result that a table returns in an arbitrary sequence of operations is the one stored last for exactly that key, or missing, but never missing for the most recent Put; and Count is right: MemoKeeps returns true. No condition. -/
import Derived.Test.YtlcikbegpkaflaaG
namespace Go.Proofs.Ytlcikbegpkaflaa
open Go.ChangeShapes Go.WideShapes Go.ChangeAt Go.RowKit Go.Deep Go.Joins
set_option linter.unusedVariables false

theorem run_take {n : Nat} {l : List Act1} {j : Nat} {z : Act1} (h : l[j]? = some z) : runR n (l.take (j + 1)).reverse = step n (runR n (l.take j).reverse) z := by
  rw [take_rev h]; rfl

theorem HK2toB {w a b : World} (h : Below w.heap.size w a) (hk : Kept (· = w.heap.size) a b) : Below w.heap.size w b :=
  h.trans (hk.below h.size (fun q h => by have h' : q = w.heap.size := h; omega))
theorem held_pos (n : Int) : held n = ((min (max n 1) 65536).toNat : Int) := by unfold held; omega

set_option maxRecDepth 100000 in
set_option maxHeartbeats 2000000 in
theorem memoKeeps_any (n : Int) (A : Option Addr) (c : Nat) (l : List Act1) (w : World) (hl : ActsAt w A l) (hm : l.length ≤ maxLen) :
    Calls Try.prog 3 #[.int .i64 n, .slice A l.length c] w fun e w' => e = .returned (.bool true) ∧ Below w.heap.size w w' := by
  unfold maxLen at hm
  by_cases h80 : 80 < l.length
  · have h80' : (80 : Int) < (l.length : Int) := by omega
    go_enter Try.func3, Try.ntmps3
    go_wp2_with fail
    refine (lives_any w).mono ?_
    rintro e w1 ⟨rfl, hk⟩
    have HK := Lib.hid hk
    clear hk
    go_wp2
    go_ret
    exact ⟨rfl, HK.out.below (Nat.le_refl _) (fun _ h => h.elim)⟩
  · have HL := Lib.hid hl
    have hb0 : ∀ b off, A = some ⟨b, off, none⟩ → True := fun _ _ _ => trivial
    clear hl hm hb0
    have HA := Lib.hid (show ∀ k z, l[k]? = some z → ∃ b off, A = some ⟨b, off, none⟩ ∧ b < w.heap.size ∧ ∀ j, j < 6 → w.cell? ⟨b, off + k * 6 + j, none⟩ = some (actV z j) from by
      intro k z hz
      rcases HL.out with rfl | ⟨b, off, rfl, hb, hc⟩
      · simp at hz
      · exact ⟨b, off, rfl, hb, fun j hj => hc k z hz j hj⟩)
    obtain ⟨m, hmm⟩ : ∃ m, m = l.length := ⟨_, rfl⟩
    rw [← hmm] at h80 ⊢
    have HM := Lib.hid hmm
    clear hmm
    go_enter Try.func3, Try.ntmps3
    go_wp2_with fail
    refine (new_is n w).mono ?_
    rintro e w1 ⟨rfl, hm1, hk1⟩
    have HM1 := Lib.hid hm1
    have HK1 := Lib.hid hk1
    clear hm1 hk1
    go_wp2_with fail
    go_loopw [6, 7, 8] (fun sa sf si wr => ∃ (k x y : Nat) (eo : Option Nat), k ≤ m ∧ x ≤ k ∧ y ≤ k ∧ sa = .int .i64 x ∧ sf = .int .i64 y ∧ si = .int .i64 k ∧
        IsMemo wr w.heap.size eo (min (max n 1) 65536).toNat x y (runR (min (max n 1) 65536).toNat (l.take k).reverse) ∧ (∀ e, eo = some e → w.heap.size ≤ e) ∧ Below w.heap.size w wr) (fun _ _ i _ => m - (intOf i).toNat)
    case atStart => exact ⟨0, 0, 0, none, Nat.zero_le _, Nat.le_refl _, Nat.le_refl _, rfl, rfl, rfl, HM1.out, (fun _ h => by cases h), HK1.out.below (Nat.le_refl _) (fun _ h => h.elim)⟩
    case round =>
      obtain ⟨k, x, y, eo, hk, hx, hy, rfl, rfl, rfl, hme, heo, hbel⟩ := hrel
      have HME := Lib.hid hme
      have HEO := Lib.hid heo
      have HB := Lib.hid hbel
      obtain ⟨bc, bf⟩ := bcell hbel
      have hsz := hbel.size
      clear hme heo hbel
      by_cases hlt : k < m
      · obtain ⟨z, hz⟩ : ∃ z, l[k]? = some z := ⟨_, List.getElem?_eq_getElem (by have := HM.out; omega)⟩
        obtain ⟨b, off, rfl, hb, hc⟩ := HA.out k z hz
        have z0 := hc 0 (by omega)
        have z1 := hc 1 (by omega)
        have z2 := hc 2 (by omega)
        have z3 := hc 3 (by omega)
        have z4 := hc 4 (by omega)
        have z5 := hc 5 (by omega)
        simp only [actV, Nat.add_zero] at z0 z1 z2 z3 z4 z5
        have HZ := Lib.hid hz
        clear hz hc
        have hk0 : (0 : Int) ≤ (k : Int) := by omega
        have hk1 : (k : Int) < (m : Int) := by omega
        by_cases h1 : z.kind = 1
        · have h1' : (z.kind == 1) = true := by simpa using h1
          have HF := Lib.hid (show step (min (max n 1) 65536).toNat (runR (min (max n 1) 65536).toNat (l.take k).reverse) z = putA (min (max n 1) 65536).toNat (runR (min (max n 1) 65536).toNat (l.take k).reverse) z from by unfold step; rw [if_pos h1])
          clear h1
          go_wp2_with fail
          refine (lput w.heap.size eo _ x y _ z _ HME.out).mono ?_
          rintro e w2 ⟨rfl, eo', hme2, hk2, ho⟩
          have HM2 := Lib.hid hme2
          have HK2 := Lib.hid hk2
          have HO2 := Lib.hid ho
          clear hme2 hk2 ho
          go_wp2
          go_roundw
          case rel =>
            refine ⟨k + 1, x, y, eo', by omega, by omega, by omega, rfl, rfl, by go_num, ?_, ?_, ?_⟩
            · rw [run_take HZ.out, HF.out]; exact HM2.out
            · intro e he
              rcases HO2.out with h | ⟨q, h, hq⟩
              · exact HEO.out e (by rw [← h]; exact he)
              · rw [h] at he; injection he with he; omega
            · exact HB.out.trans (HK2.out.below hsz (fun q h => by rcases h with h | h; omega; exact HEO.out q h))
          case measure => simp [intOf]; omega
        · have h1' : (z.kind == 1) = false := by simpa using h1
          by_cases h2 : z.kind = 2
          · have h2' : (z.kind == 2) = true := by simpa using h2
            have HF := Lib.hid (show step (min (max n 1) 65536).toNat (runR (min (max n 1) 65536).toNat (l.take k).reverse) z = fun _ => noEnt from by unfold step; rw [if_neg h1, if_pos h2])
            clear h1 h2
            go_wp2_with fail
            refine (clear_is w.heap.size eo _ x y _ _ HME.out).mono ?_
            rintro e w2 ⟨rfl, hme2, hk2⟩
            have HM2 := Lib.hid hme2
            have HK2 := Lib.hid hk2
            clear hme2 hk2
            go_wp2
            go_roundw
            case rel =>
              refine ⟨k + 1, x, y, eo, by omega, by omega, by omega, rfl, rfl, by go_num, ?_, HEO.out, ?_⟩
              · rw [run_take HZ.out, HF.out]; exact HM2.out
              · exact HB.out.trans (HK2.out.below hsz (fun q h => by rcases h with h | h; omega; exact HEO.out q h))
            case measure => simp [intOf]; omega
          · have h2' : (z.kind == 2) = false := by simpa using h2
            have HF := Lib.hid (show step (min (max n 1) 65536).toNat (runR (min (max n 1) 65536).toNat (l.take k).reverse) z = runR (min (max n 1) 65536).toNat (l.take k).reverse from by unfold step; rw [if_neg h1, if_neg h2])
            clear h1 h2
            have hok := keeps_ok (min (max n 1) 65536).toNat z (l.take k).reverse
            have HOK := Lib.hid hok
            clear hok
            go_wp2_with fail
            refine (lget w.heap.size eo _ x y _ z _ HME.out (by omega) (by omega)).mono ?_
            rintro e w2 ⟨rfl, hme2, hk2⟩
            have hb2 := (HK2toB HB.out hk2)
            have HM2 := Lib.hid hme2
            have HB2 := Lib.hid hb2
            clear hme2 hk2 hb2
            generalize hlk : lookA (min (max n 1) 65536).toNat (runR (min (max n 1) 65536).toNat (l.take k).reverse) z = lk at *
            have HLK := Lib.hid hlk
            clear hlk
            go_wp2_with fail
            have hkp := kept_any (some ⟨b, off, none⟩) c l k z w2 (HL.out.kept HB2.out) HZ.out (by have := HM.out; omega)
            rw [← HM.out] at hkp
            have hkp' := hkp
            unfold keptV at hkp'
            generalize hkr : keptR (l.take k).reverse z true = kr at *
            have HKP := Lib.hid hkp'
            have HKR := Lib.hid hkr
            clear hkr hkp hkp'
            have HOK' : Hid ((lk.2 = true → kr.2.1 = true ∧ lk.1 = kr.1) ∧ (lk.2 = false → lk.1 = 0 ∧ kr.2.2 = false)) := HOK
            clear HOK
            obtain ⟨r1, ok⟩ := lk
            obtain ⟨r2, was, last⟩ := kr
            refine HKP.out.mono ?_
            rintro e w3 ⟨rfl, hb3⟩
            have HB3 := Lib.hid (HB2.out.trans (hb3.mono HB2.out.size))
            have HM3 := Lib.hid (HM2.out.kept (Kept.of_below (S := fun _ => False) hb3) (fun h => h) (fun _ _ h => h))
            clear hb3
            cases ok
            · have h0 : r1 = 0 ∧ last = false := HOK'.out.2 rfl
              obtain ⟨rfl, rfl⟩ := h0
              go_wp2
              go_roundw
              case rel =>
                refine ⟨k + 1, x + 1, y, eo, by omega, by omega, by omega, by go_num, rfl, by go_num, ?_, HEO.out, HB3.out⟩
                rw [run_take HZ.out, HF.out]; exact HM3.out
              case measure => simp [intOf]; omega
            · have h0 : was = true ∧ r1 = r2 := HOK'.out.1 rfl
              obtain ⟨rfl, rfl⟩ := h0
              have hne : (r1 != r1) = false := by simp
              go_wp2
              go_roundw
              case rel =>
                refine ⟨k + 1, x + 1, y + 1, eo, by omega, by omega, by omega, by go_num, by go_num, by go_num, ?_, HEO.out, HB3.out⟩
                rw [run_take HZ.out, HF.out]; exact HM3.out
              case measure => simp [intOf]; omega
      · have hkm : k = m := by omega
        subst hkm
        go_wp2_with fail
        refine (count_is w.heap.size eo _ _ _ _ _ HME.out).mono ?_
        rintro e w2 ⟨rfl, q, rfl⟩
        have HM2 := Lib.hid (HME.out.kept ((Kept.refl (fun _ => False) wr).drewN q) (fun h => h) (fun _ _ h => h))
        go_wp2_with fail
        refine (size_is w.heap.size eo _ _ _ _ _ HM2.out).mono ?_
        rintro e w8 ⟨rfl, rfl⟩
        go_wp2_with fail
        refine (held_any n _).mono ?_
        rintro e w8 ⟨rfl, rfl⟩
        rw [held_pos]
        go_wp2_with fail
        refine (lives_any _).mono ?_
        rintro e w9 ⟨rfl, hk9⟩
        have HB9 := Lib.hid ((below_drewN HB.out q).trans (hk9.below (by exact HB.out.size) (fun _ h => h.elim)))
        clear hk9
        go_wp2
        go_ret
        exact ⟨rfl, HB9.out⟩

namespace lawKeeps
set_option maxRecDepth 100000 in
theorem lifted (os : Os) (started : os.Started) (H : Type) (enc : TypeId × Value → H) :
    ReturnsInHanded {} Try.checked os 3 .any (Rows.memoKeepsSpec.pre6 enc Try.prog Try.f3 Rows.memoKeepsRow.domain false) (Rows.memoKeepsSpec.post enc Try.prog Try.f3 false true false false) := by
  refine returnsInHanded_of_change (C := Try.checked) own started (by kernel_rfl) Try.func3
    (ChangeSpec.witness6 (enc := enc) (C := Try.checked) false ⟨#[], #[.int .i64 0, .slice none 0 0], []⟩ 8 (by kernel_rfl) (by kernel_rfl) (by kernel_rfl) (by kernel_rfl)) ?_
  intro W base args ds gs before hval0 hW hcnd _
  have hval : ∀ (j : Nat) t v, Try.f3.params[j]? = some t → args[j]? = some v → Value.okWide Try.prog W .any base t v := hval0
  have hW' := hW
  obtain ⟨p, q, hA0, hV, rfl, hfz, hnd⟩ := hW
  have hA : DataW.TrodAll enc Try.prog W 0 (fun _ => true) true Try.f3.params.toList args.toList ds p := hA0
  rw [Try.params3] at hA hval
  obtain ⟨v0, vs0, d0, ds0, p0, q0, hargs, rfl, rfl, h0, r0⟩ := trodAll_cons hA
  obtain ⟨v1, vs1, d1, ds1, p1, q1, rfl, rfl, rfl, h1, r1⟩ := trodAll_cons r0
  obtain ⟨rfl, rfl, rfl⟩ := trodAll_nil r1
  obtain rfl : args = #[v0, v1] := by cases args; simp_all
  obtain ⟨rfl, rfl⟩ := trodVars_none hV
  have k0 := h0
  have lt0 : ∀ x ∈ p0, x.block < W.heap.size := by obtain ⟨m, hm⟩ := k0; exact DataW.trod_lt m _ _ _ hm
  have k1 := h1
  have lt1 : ∀ x ∈ p1, x.block < W.heap.size := by obtain ⟨m, hm⟩ := k1; exact DataW.trod_lt m _ _ _ hm
  obtain ⟨n, rfl, rfl, rfl, _⟩ := open_int Try.underlying3 (hval 0 3 v0 rfl rfl) h0
  obtain ⟨A, c, l, rfl, hm, hl⟩ := open_acts (hval 1 22 v1 rfl rfl) h1
  clear hA0 hval0
  refine (memoKeeps_any n A c l W hl hm).mono fun e W' ⟨he, bel⟩ => ?_
  subst he
  exact ⟨_, rfl, _, _, _, [], _, [], hW', trodAll_mk1 (shut_bool Try.underlying4 _), (trodAll_cons_mk (Below.trod laidOut (by kernel_rfl) (of_decide_eq_true (by kernel_rfl)) k0 bel lt0) (trodAll_cons_mk (Below.trod laidOut (by kernel_rfl) (of_decide_eq_true (by kernel_rfl)) k1 bel lt1) trodAll_mk0)), rfl, bel.frame _, fun h => by cases h⟩

theorem proved : Rows.MemoKeepsSaid :=
  OpenClaim.holds_of_wide 3 Try.f3 rfl rfl rfl rfl rfl rfl rfl ⟨rfl, rfl, rfl, rfl, rfl⟩ rfl rfl rfl rfl rfl (by kernel_rfl) Try.func3 (by kernel_rfl)
    (of_decide_eq_true (by kernel_rfl)) (by unfold Func.isWrapper; first | (rw [if_pos (by decide +kernel)]; kernel_rfl) | (rw [if_neg (by decide +kernel)]; exact ⟨rfl, rfl⟩))
    (fun os started H enc _ => lifted os started H enc)
#print axioms proved
end lawKeeps
end Go.Proofs.Ytlcikbegpkaflaa
