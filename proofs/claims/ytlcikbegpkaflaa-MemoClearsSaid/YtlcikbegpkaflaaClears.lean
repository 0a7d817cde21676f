/- Clear removes all entries, new entries are found afterwards, and two tables are independent: MemoClears returns true. No condition. -/
import Derived.Test.YtlcikbegpkaflaaG
namespace Go.Proofs.Ytlcikbegpkaflaa
open Go.ChangeShapes Go.WideShapes Go.ChangeAt Go.RowKit Go.Deep Go.Joins
set_option linter.unusedVariables false

/-- What the law carries through its loops: the table m, the untouched table o, memory as it was. -/
structure Two (w wr : World) (mb ob : Nat) (eo : Option Nat) (n : Nat) (t : Nat → Ent) (x y x' : Nat) : Prop where
  me : IsMemo wr mb eo n x y t
  ot : IsMemo wr ob none n x' 0 (fun _ => noEnt)
  eo : ∀ e, eo = some e → ob < e
  mo : mb < ob
  lo : w.heap.size ≤ mb
  bel : Below w.heap.size w wr

theorem Two.put_ {w wr w' : World} {mb ob : Nat} {eo eo' : Option Nat} {n x y x' : Nat} {t t' : Nat → Ent} (h : Two w wr mb ob eo n t x y x') (hm : IsMemo w' mb eo' n x y t')
    (hk : Kept (fun k => k = mb ∨ eo = some k) wr w') (ho : eo' = eo ∨ ∃ k, eo' = some k ∧ wr.heap.size ≤ k) : Two w w' mb ob eo' n t' x y x' := by
  have hmo := h.mo
  have hlo := h.lo
  refine ⟨hm, h.ot.kept hk ?_ (fun _ h => by cases h), ?_, h.mo, h.lo, h.bel.trans (hk.below h.bel.size ?_)⟩
  · rintro (h1 | h1)
    · omega
    · have := h.eo _ h1; omega
  · intro e he
    rcases ho with rfl | ⟨k, h1, h2⟩
    · exact h.eo e he
    · rw [h1] at he; injection he with he
      have := h.ot.lt
      omega
  · rintro q (h1 | h1)
    · omega
    · have := h.eo _ h1; omega

theorem Two.get_ {w wr w' : World} {mb ob : Nat} {eo : Option Nat} {n x y x' x1 y1 : Nat} {t : Nat → Ent} (h : Two w wr mb ob eo n t x y x') (hm : IsMemo w' mb eo n x1 y1 t)
    (hk : Kept (· = mb) wr w') : Two w w' mb ob eo n t x1 y1 x' := by
  have hmo := h.mo
  have hlo := h.lo
  exact ⟨hm, h.ot.kept hk (fun h1 => by have h2 : ob = mb := h1; omega) (fun _ h => by cases h), h.eo, h.mo, h.lo, h.bel.trans (hk.below h.bel.size (fun q h1 => by have h2 : q = mb := h1; omega))⟩

theorem Two.other {w wr w' : World} {mb ob : Nat} {eo : Option Nat} {n x y x' x1 : Nat} {t : Nat → Ent} (h : Two w wr mb ob eo n t x y x') (hm : IsMemo w' ob none n x1 0 (fun _ => noEnt))
    (hk : Kept (· = ob) wr w') : Two w w' mb ob eo n t x y x1 := by
  have hmo := h.mo
  have hlo := h.lo
  exact ⟨h.me.kept hk (fun h1 => by have h2 : mb = ob := h1; omega) (fun e he h1 => by have h2 : e = ob := h1; have := h.eo e he; omega), hm, h.eo, h.mo, h.lo, h.bel.trans (hk.below h.bel.size (fun q h1 => by have h2 : q = ob := h1; omega))⟩

set_option maxRecDepth 100000 in
set_option maxHeartbeats 2000000 in
theorem memoClears_any (n : Int) (A : Option Addr) (c : Nat) (l : List Act1) (x : Act1) (w : World) (hl : ActsAt w A l) (hm : l.length ≤ maxLen) :
    Calls Try.prog 5 #[.int .i64 n, .slice A l.length c, x.val] w fun e w' => e = .returned (.bool true) ∧ Below w.heap.size w w' := by
  unfold maxLen at hm
  have hxv : Hid (x.val = .agg #[.int .u8 x.kind, .int .i64 x.op, .int .i64 x.a, .int .i64 x.b, .int .i64 x.c, .int .i64 x.r]) := rfl
  rw [hxv.out]
  by_cases h80 : 60 < l.length
  · have h80' : (60 : Int) < (l.length : Int) := by omega
    go_enter Try.func5, Try.ntmps5
    go_wp2_with fail
    refine (lives_any _).mono ?_
    rintro e w1 ⟨rfl, hk⟩
    have HK := Lib.hid hk
    clear hk
    go_wp2
    go_ret
    exact ⟨rfl, ((Kept.refl (fun _ => False) w).alloc _ |>.trans HK.out).below (Nat.le_refl _) (fun _ h => h.elim)⟩
  · have HL := Lib.hid hl
    clear hl hm
    obtain ⟨m, hmm⟩ : ∃ m, m = l.length := ⟨_, rfl⟩
    rw [← hmm] at h80 ⊢
    have HM := Lib.hid hmm
    clear hmm
    go_enter Try.func5, Try.ntmps5
    go_wp2_with fail
    refine (new_is n _).mono ?_
    rintro e w1 ⟨rfl, hm1, hk1⟩
    have hs1 := hm1.lt
    have HM1 := Lib.hid hm1
    have HK1 := Lib.hid hk1
    clear hm1 hk1
    go_wp2_with fail
    refine (new_is n _).mono ?_
    rintro e w2 ⟨rfl, hm2, hk2⟩
    obtain ⟨W0, hW0⟩ : ∃ W0, W0 = w.alloc (.cells #[.int .u8 x.kind, .int .i64 x.op, .int .i64 x.a, .int .i64 x.b, .int .i64 x.c, .int .i64 x.r] 27) := ⟨_, rfl⟩
    have hsz0 : W0.heap.size = w.heap.size + 1 := by rw [hW0]; simp
    have hx : ∀ o, W0.cell? ⟨w.heap.size, o, none⟩ = (#[.int .u8 x.kind, .int .i64 x.op, .int .i64 x.a, .int .i64 x.b, .int .i64 x.c, .int .i64 x.r] : Array Value)[o]? := fun o => by rw [hW0, World.cell?_alloc_at]; rfl
    have B0 : Hid (Below w.heap.size w W0) := by rw [hW0]; exact (Below.refl _ _).alloc (Nat.le_refl _) _
    have HL0 := Lib.hid (HL.out.kept B0.out)
    have HA := Lib.hid (show ∀ k z, l[k]? = some z → ∃ b off, A = some ⟨b, off, none⟩ ∧ b < W0.heap.size ∧ ∀ j, j < 6 → W0.cell? ⟨b, off + k * 6 + j, none⟩ = some (actV z j) from by
      intro k z hz
      rcases HL0.out with rfl | ⟨b, off, rfl, hb, hc⟩
      · simp at hz
      · exact ⟨b, off, rfl, hb, fun j hj => hc k z hz j hj⟩)
    have T0 : Hid (Two W0 w2 (w.heap.size + 1) w1.heap.size none (min (max n 1) 65536).toNat (fun _ => noEnt) 0 0 0) := by
      have e1 := HM1.out
      rw [World.size_alloc] at e1
      have k2 := hk2
      refine ⟨e1.kept k2 (fun h => h) (fun _ _ h => h), hm2, (fun e he => by cases he), ?_, by omega, ?_⟩
      · have := e1.lt; omega
      · rw [hW0]
        exact (HK1.out.trans k2).below (Nat.le_refl _) (fun _ h => h.elim)
    have hlt0 : w.heap.size < W0.heap.size := by omega
    have HSZ := Lib.hid hsz0
    clear hm2 hk2 hW0 hsz0
    go_wp2_with fail
    go_loopw [9] (fun si wr => ∃ (k : Nat) (eo : Option Nat) (t : Nat → Ent), k ≤ m ∧ si = .int .i64 k ∧ Two W0 wr (w.heap.size + 1) w1.heap.size eo (min (max n 1) 65536).toNat t 0 0 0) (fun i _ => m - (intOf i).toNat)
    case atStart => exact ⟨0, none, _, Nat.zero_le _, rfl, T0.out⟩
    case round =>
      obtain ⟨k, eo, t, hk, rfl, hT⟩ := hrel
      obtain ⟨bc, bf⟩ := bcell hT.bel
      have hsz := hT.bel.size
      have HT := Lib.hid hT
      clear hT
      by_cases hlt : k < m
      · obtain ⟨z, hz⟩ : ∃ z, l[k]? = some z := ⟨_, List.getElem?_eq_getElem (by have := HM.out; omega)⟩
        obtain ⟨b, off, rfl, hb, hc⟩ := HA.out k z hz
        have z0 := hc 0 (by omega)
        have z1 := hc 1 (by omega)
        have z2 := hc 2 (by omega)
        have z3 := hc 3 (by omega)
        have z4 := hc 4 (by omega)
        have z5 := hc 5 (by omega)
        simp only [actV, Nat.add_zero] at z0 z1 z2 z3 z4 z5
        have HZ := Lib.hid hz
        clear hz hc
        have hk0 : (0 : Int) ≤ (k : Int) := by omega
        have hk1 : (k : Int) < (m : Int) := by omega
        go_wp2_with fail
        refine (lput _ eo _ _ _ _ z _ HT.out.me).mono ?_
        rintro e w3 ⟨rfl, eo', hm3, hk3, ho⟩
        have HT3 := Lib.hid (HT.out.put_ hm3 hk3 ho)
        clear hm3 hk3 ho
        go_wp2
        go_roundw
        case rel => exact ⟨k + 1, eo', _, by omega, by go_num, HT3.out⟩
        case measure => simp [intOf]; omega
      · have hkm : k = m := by omega
        subst hkm
        go_wp2_with fail
        refine (clear_is _ eo _ _ _ _ _ HT.out.me).mono ?_
        rintro e w3 ⟨rfl, hm3, hk3⟩
        have HT3 := Lib.hid (HT.out.put_ hm3 hk3 (.inl rfl))
        clear hm3 hk3
        go_wp2_with fail
        go_loopw [10] (fun si wr => ∃ (j x y x' : Nat), j ≤ k ∧ x ≤ j ∧ y ≤ j ∧ x' ≤ j ∧ si = .int .i64 j ∧ Two W0 wr (w.heap.size + 1) w1.heap.size eo (min (max n 1) 65536).toNat (fun _ => noEnt) x y x') (fun i _ => k - (intOf i).toNat)
        case atStart => exact ⟨0, 0, 0, 0, Nat.zero_le _, Nat.le_refl _, Nat.le_refl _, Nat.le_refl _, rfl, HT3.out⟩
        case round =>
          obtain ⟨j, x2, y2, x3, hj, hx2, hy2, hx3, rfl, hT⟩ := hrel
          obtain ⟨bc, bf⟩ := bcell hT.bel
          have hsz := hT.bel.size
          have HT := Lib.hid hT
          clear hT
          by_cases hlt : j < k
          · obtain ⟨z, hz⟩ : ∃ z, l[j]? = some z := ⟨_, List.getElem?_eq_getElem (by have := HM.out; omega)⟩
            obtain ⟨b, off, rfl, hb, hc⟩ := HA.out j z hz
            have z0 := hc 0 (by omega)
            have z1 := hc 1 (by omega)
            have z2 := hc 2 (by omega)
            have z3 := hc 3 (by omega)
            have z4 := hc 4 (by omega)
            have z5 := hc 5 (by omega)
            simp only [actV, Nat.add_zero] at z0 z1 z2 z3 z4 z5
            have HZ := Lib.hid hz
            clear hz hc
            have hk0 : (0 : Int) ≤ (j : Int) := by omega
            have hk1 : (j : Int) < (k : Int) := by omega
            go_wp2_with fail
            refine (lget _ eo _ x2 y2 _ z _ HT.out.me (by omega) (by omega)).mono ?_
            rintro e w4 ⟨rfl, hm4, hk4⟩
            rw [lookA_none] at hm4 ⊢
            have hT4 := HT.out.get_ hm4 hk4
            obtain ⟨bc4, bf4⟩ := bcell hT4.bel
            have HT4 := Lib.hid hT4
            clear hT4 hm4 hk4
            go_wp2_with fail
            refine (lget _ none _ x3 0 _ z _ HT4.out.ot (by omega) (by omega)).mono ?_
            rintro e w5 ⟨rfl, hm5, hk5⟩
            rw [lookA_none] at hm5 ⊢
            have hT5 := HT4.out.other hm5 hk5
            have HT5 := Lib.hid hT5
            clear hT5 hm5 hk5
            go_wp2
            go_roundw
            case rel => exact ⟨j + 1, x2 + 1, y2 + 0, x3 + 1, by omega, by omega, by omega, by omega, by go_num, HT5.out⟩
            case measure => simp [intOf]; omega
          · have hjk : j = k := by omega
            subst hjk
            have hex := lookA_same (n := (min (max n 1) 65536).toNat) (t := fun _ => noEnt) (sameKey_refl x)
            have HX := Lib.hid hex
            clear hex
            have hxx : (x.r == x.r) = true := by simp
            go_wp2_with fail
            refine (lput _ eo _ _ _ _ x _ HT.out.me).mono ?_
            rintro e w6 ⟨rfl, eo6, hm6, hk6, ho6⟩
            have hT6 := HT.out.put_ hm6 hk6 ho6
            obtain ⟨bc6, bf6⟩ := bcell hT6.bel
            have HT6 := Lib.hid hT6
            clear hT6 hm6 hk6 ho6
            go_wp2_with fail
            refine (lget _ eo6 _ x2 y2 _ x _ HT6.out.me (by omega) (by omega)).mono ?_
            rintro e w7 ⟨rfl, hm7, hk7⟩
            rw [HX.out] at hm7 ⊢
            have hT7 := HT6.out.get_ hm7 hk7
            obtain ⟨bc7, bf7⟩ := bcell hT7.bel
            have HT7 := Lib.hid hT7
            clear hT7 hm7 hk7
            go_wp2_with fail
            refine (lives_any _).mono ?_
            rintro e w8 ⟨rfl, hk8⟩
            have HB8 := Lib.hid (HT7.out.bel.trans (hk8.below HT7.out.bel.size (fun _ h => h.elim)))
            clear hk8
            go_wp2
            go_ret
            exact ⟨rfl, B0.out.trans (HB8.out.mono (by have := HSZ.out; omega))⟩

namespace lawClears
set_option maxRecDepth 100000 in
theorem lifted (os : Os) (started : os.Started) (H : Type) (enc : TypeId × Value → H) :
    ReturnsInHanded {} Try.checked os 5 .any (Rows.memoClearsSpec.pre6 enc Try.prog Try.f5 Rows.memoClearsRow.domain false) (Rows.memoClearsSpec.post enc Try.prog Try.f5 false true false false) := by
  refine returnsInHanded_of_change (C := Try.checked) own started (by kernel_rfl) Try.func5
    (ChangeSpec.witness6 (enc := enc) (C := Try.checked) false ⟨#[], #[.int .i64 0, .slice none 0 0, .agg #[.int .u8 0, .int .i64 0, .int .i64 0, .int .i64 0, .int .i64 0, .int .i64 0]], []⟩ 8 (by kernel_rfl) (by kernel_rfl) (by kernel_rfl) (by kernel_rfl)) ?_
  intro W base args ds gs before hval0 hW hcnd _
  have hval : ∀ (j : Nat) t v, Try.f5.params[j]? = some t → args[j]? = some v → Value.okWide Try.prog W .any base t v := hval0
  have hW' := hW
  obtain ⟨p, q, hA0, hV, rfl, hfz, hnd⟩ := hW
  have hA : DataW.TrodAll enc Try.prog W 0 (fun _ => true) true Try.f5.params.toList args.toList ds p := hA0
  rw [Try.params5] at hA hval
  obtain ⟨v0, vs0, d0, ds0, p0, q0, hargs, rfl, rfl, h0, r0⟩ := trodAll_cons hA
  obtain ⟨v1, vs1, d1, ds1, p1, q1, rfl, rfl, rfl, h1, r1⟩ := trodAll_cons r0
  obtain ⟨v2, vs2, d2, ds2, p2, q2, rfl, rfl, rfl, h2, r2⟩ := trodAll_cons r1
  obtain ⟨rfl, rfl, rfl⟩ := trodAll_nil r2
  obtain rfl : args = #[v0, v1, v2] := by cases args; simp_all
  obtain ⟨rfl, rfl⟩ := trodVars_none hV
  have k0 := h0
  have lt0 : ∀ x ∈ p0, x.block < W.heap.size := by obtain ⟨m, hm⟩ := k0; exact DataW.trod_lt m _ _ _ hm
  have k1 := h1
  have lt1 : ∀ x ∈ p1, x.block < W.heap.size := by obtain ⟨m, hm⟩ := k1; exact DataW.trod_lt m _ _ _ hm
  have k2 := h2
  have lt2 : ∀ x ∈ p2, x.block < W.heap.size := by obtain ⟨m, hm⟩ := k2; exact DataW.trod_lt m _ _ _ hm
  obtain ⟨n, rfl, rfl, rfl, _⟩ := open_int Try.underlying3 (hval 0 3 v0 rfl rfl) h0
  obtain ⟨A, c, l, rfl, hm, hl⟩ := open_acts (hval 1 22 v1 rfl rfl) h1
  obtain ⟨z, rfl⟩ := open_act (hval 2 27 v2 rfl rfl) h2
  clear hA0 hval0
  refine (memoClears_any n A c l z W hl hm).mono fun e W' ⟨he, bel⟩ => ?_
  subst he
  exact ⟨_, rfl, _, _, _, [], _, [], hW', trodAll_mk1 (shut_bool Try.underlying4 _), (trodAll_cons_mk (Below.trod laidOut (by kernel_rfl) (of_decide_eq_true (by kernel_rfl)) k0 bel lt0) (trodAll_cons_mk (Below.trod laidOut (by kernel_rfl) (of_decide_eq_true (by kernel_rfl)) k1 bel lt1) (trodAll_cons_mk (Below.trod laidOut (by kernel_rfl) (of_decide_eq_true (by kernel_rfl)) k2 bel lt2) trodAll_mk0))), rfl, bel.frame _, fun h => by cases h⟩

theorem proved : Rows.MemoClearsSaid :=
  OpenClaim.holds_of_wide 5 Try.f5 rfl rfl rfl rfl rfl rfl rfl ⟨rfl, rfl, rfl, rfl, rfl⟩ rfl rfl rfl rfl rfl (by kernel_rfl) Try.func5 (by kernel_rfl)
    (of_decide_eq_true (by kernel_rfl)) (by unfold Func.isWrapper; first | (rw [if_pos (by decide +kernel)]; kernel_rfl) | (rw [if_neg (by decide +kernel)]; exact ⟨rfl, rfl⟩))
    (fun os started H enc _ => lifted os started H enc)
#print axioms proved
end lawClears
end Go.Proofs.Ytlcikbegpkaflaa
