/- The law LexiStands: the texts of the tokens stand at their offsets, with white space alone around them, and Next returns each at its offset. -/
import Derived.Test.YtnhabokkjmcdoaaDoorLexO
namespace Go.Proofs.YtnhabokkjmcdoaaDoor
open Go.ChangeShapes Go.WideShapes Go.ChangeAt Go.RowKit
open Go.ChangeMaps (open_string shut_string)
set_option linter.unusedVariables false

/-- A token that is read at place p, in numbers. -/
theorem tok_facts {s : ByteArray} {p : Nat} {t : Tok} {r : List Tok} (hp : p ≤ s.size) (h : Toks (bs s) p (t :: r)) :
    ∃ a m : Nat, t.at_ = a ∧ t.text.length = m ∧ 0 < m ∧ a + m ≤ s.size ∧ a = s.size - (blank ((bs s).drop p)).length ∧ bs (s.extract a (a + m)) = t.text ∧ next (bs s) a = (t, a + m, 0) ∧ Toks (bs s) (a + m) r := by
  have hp' : p ≤ (bs s).length := by rw [bs_length]; exact hp
  have hg := toks_good _ _ _ hp' h t (List.mem_cons_self ..)
  obtain ⟨he, ht, hk, hr⟩ := h
  obtain ⟨n1, n2, n3, n4, n5, n6⟩ := next_again hp' he
  rcases next_ok hp' he with ⟨h3, _⟩ | ⟨_, h4, h5⟩
  · rw [ht] at h3; exact absurd h3 hk
  rw [ht] at n1 n2 n3 n4 n5 n6
  rw [← n4] at h5 hr
  rw [bs_length] at n3 n6 h5
  have ha : t.at_ = (t.at_.toNat : Int) := by omega
  refine ⟨t.at_.toNat, t.text.length, ha, rfl, hg.pos, h5, by omega, ?_, ?_, hr⟩
  · rw [bs_extract, List.drop_take, show t.at_.toNat + t.text.length - t.at_.toNat = t.text.length by omega]
    exact n5
  · rw [n1]
    rw [n4]
    refine Prod.ext ht (Prod.ext rfl he)

set_option maxRecDepth 100000 in
set_option maxHeartbeats 4000000 in
theorem lexiStands_any (s : ByteArray) (w : World) (hs : s.size ≤ maxLen) (hT : Tables w) :
    Calls Tryd.prog 5 #[.string s] w fun e w' => e = .returned (.bool true) ∧ Below w.heap.size w w' := by
  have HT := Lib.hid hT
  have HS := Lib.hid hs
  unfold maxLen at hs
  clear hT
  by_cases h1 : 1500 < s.size
  · have h1' : (1500 : Int) < (s.size : Int) := by omega
    have HL := Lib.hid (lives_any w HT.out)
    go_enter Tryd.func5, Tryd.ntmps5
    go_wp2_with fail
    refine (HL.out).mono ?_
    rintro e w1 ⟨rfl, hb⟩
    have HB := Lib.hid hb
    clear hb
    go_wp2
    go_ret
    exact ⟨rfl, HB.out⟩
  · have h1' : ¬ (1500 : Int) < (s.size : Int) := by omega
    have hal := all_len (bs s)
    rw [bs_length] at hal
    have HN1 := Lib.hid (all_at s (all (bs s)).1 (all (bs s)).2.1 (all (bs s)).2.2 rfl w HS.out HT.out)
    have HBAD := Lib.hid (@all_bad (bs s))
    have HTOK := Lib.hid (fun (h : (all (bs s)).2.2 = 0) => (all_toks (l := bs s) (ts := (all (bs s)).1) (a := (all (bs s)).2.1) (Prod.ext rfl (Prod.ext rfl h))).1)
    generalize (all (bs s)).1 = ts at *
    generalize (all (bs s)).2.1 = a0 at *
    generalize (all (bs s)).2.2 = e0 at *
    by_cases he : e0 = 0
    · subst he
      have htk := HTOK.out rfl
      have HTK := Lib.hid htk
      clear htk HTOK HBAD
      obtain ⟨n, hn⟩ : ∃ n, n = ts.length := ⟨_, rfl⟩
      rw [← hn] at HN1 hal
      have HN := Lib.hid hn
      clear hn
      have HBL := Lib.hid (fun p W (hp : p ≤ s.size) => rblank_any s p W (by omega) hp)
      have HNX := Lib.hid (fun (p : Nat) W (h : Tables W) => next_any s p W HS.out h)
      go_enter Tryd.func5, Tryd.ntmps5
      go_wp2_with fail
      refine (HN1.out).mono ?_
      rintro e w1 ⟨A, c, rfl, ha1, hb1⟩
      have HB1 := Lib.hid hb1
      have HA1 := Lib.hid ha1
      have hz1 := hb1.size
      clear hb1 ha1
      go_wp2_with fail
      go_loopw [6, 7] (fun sa si wr => ∃ p k : Nat, k ≤ n ∧ si = .int .i64 k ∧ sa = .int .i64 p ∧ p ≤ s.size ∧ Toks (bs s) p (ts.drop k) ∧ Below w1.heap.size w1 wr) (fun _ i _ => n - (intOf i).toNat)
      case atStart => exact ⟨0, 0, Nat.zero_le _, rfl, rfl, Nat.zero_le _, HTK.out, Below.refl _ _⟩
      case round =>
        obtain ⟨p, k, hk, rfl, rfl, hp, htk, hbel⟩ := hrel
        have HB := Lib.hid hbel
        have hsz := hbel.size
        by_cases hlt : k < n
        · obtain ⟨z, hz⟩ : ∃ z, ts[k]? = some z := ⟨_, List.getElem?_eq_getElem (by have := HN.out; omega)⟩
          have hdr : ts.drop k = z :: ts.drop (k + 1) := by
            obtain ⟨hj, rfl⟩ := List.getElem?_eq_some_iff.1 hz
            exact List.drop_eq_getElem_cons hj
          rw [hdr] at htk
          obtain ⟨a, m, e1, e2, hm0, ham, hab, hx, hnx, hrest⟩ := tok_facts hp htk
          rcases HA1.out.belowB hbel rfl with h0 | ⟨b, off, rfl, hb, hc⟩
          · rw [h0] at hz; simp at hz
          have x0 := hc k z hz 0 (by omega)
          have x1 := hc k z hz 1 (by omega)
          have x2 := hc k z hz 2 (by omega)
          have x3 := hc k z hz 3 (by omega)
          simp only [tokV, Nat.add_zero] at x0 x1 x2 x3
          obtain ⟨x, hxx⟩ : ∃ x, (⟨z.text.toArray⟩ : ByteArray) = x := ⟨_, rfl⟩
          have hxs : x.size = m := by rw [← hxx, ← bs_length, bs_mk, e2]
          have hex : s.extract a (a + m) = x := by rw [← hxx]; exact bs_ext hx
          have HEX := Lib.hid hex
          have HREST := Lib.hid hrest
          have hnv := HNX.out a
          rw [nextAt_in (by rw [bs_length]; omega), hnx] at hnv
          unfold nextV Tok.val Tok.cells at hnv
          dsimp only at hnv
          rw [hxx, e1] at hnv
          rw [hxx] at x2
          rw [e1] at x3
          obtain ⟨zk, zn, zt, za⟩ := z
          dsimp only at e1 e2 x0 x1 x2 x3 hnv
          have HNV := Lib.hid hnv
          have hblk := fun W => HBL.out p W hp
          rw [← hab] at hblk
          have HBLK := Lib.hid (fun W => (hblk W).mono fun e w' ⟨h1, h2⟩ => And.intro h1 h2.symm)
          clear hblk hab hnv hrest hex hx hxx hc hz hdr htk hbel hnx e1 e2
          have hk0 : (0 : Int) ≤ (k : Int) := by omega
          have hk1 : (k : Int) < (n : Int) := by omega
          have hne := bs_ne (s := x) (by omega)
          have hsum : IntKind.i64.wrap ((a : Int) + (x.size : Int)) = ((a + m : Nat) : Int) := by rw [hxs, IntWalk.i64_in _ (by omega)]; omega
          have haa : ((a : Int) != (a : Int)) = false := by simp
          have hgt : decide (s.size < a + m) = false := by simp; omega
          have hgt2 : decide ((s.size : Int) < (a : Int) + (m : Int)) = false := by simp; omega
          have hcut : ((s.extract a (a + m)).toList == x.toList) = true := by rw [HEX.out]; simp
          have hxs' := Lib.hid hxs
          clear hxs
          go_wp2_with fail
          go_quiet ((go_at_call 22; exact Calls.quiet_of_same (HBLK.out _)))
          obtain ⟨nq1, rfl⟩ : ∃ m, m = nq := ⟨_, rfl⟩
          go_wp2_with fail
          go_quiet (fail)
          obtain ⟨nq2, rfl⟩ : ∃ m, m = nq := ⟨_, rfl⟩
          go_wp2_with fail
          have HBn : Hid (Below w1.heap.size w1 (wr.drewN (nq1 + nq2))) := bdrewN HB.out _
          refine (HNV.out _ ((HT.out.below HB1.out).below HBn.out)).mono ?_
          rintro e w2 ⟨rfl, hb2⟩
          have hsz2 := hb2.size
          rw [World.heap_drewN] at hsz2 hb2
          have y0 : w2.cell? ⟨b, off + k * 4, none⟩ = some (.int .i64 zk) := by rw [hb2.cell (p := ⟨b, _, none⟩) hb, World.cell?_drewN]; exact x0
          have y1 : w2.cell? ⟨b, off + k * 4 + 1, none⟩ = some (.int .i64 zn) := by rw [hb2.cell (p := ⟨b, _, none⟩) hb, World.cell?_drewN]; exact x1
          have y2 : w2.cell? ⟨b, off + k * 4 + 2, none⟩ = some (.string x) := by rw [hb2.cell (p := ⟨b, _, none⟩) hb, World.cell?_drewN]; exact x2
          have y3 : w2.cell? ⟨b, off + k * 4 + 3, none⟩ = some (.int .i64 a) := by rw [hb2.cell (p := ⟨b, _, none⟩) hb, World.cell?_drewN]; exact x3
          have HB2 := Lib.hid (HBn.out.trans (hb2.mono hsz))
          have hbw : b < w2.heap.size := by omega
          clear x0 x1 x2 x3 hb2
          go_wp2_with fail
          go_quiet (fail)
          go_wp2_with fail
          go_roundw
          case rel => exact ⟨a + m, k + 1, by omega, by go_num, by go_num, ham, HREST.out, bdrewN (HB2.out.alloc (by have := HB2.out.size; exact this) _) _⟩
          case measure => simp [intOf]; omega
        · have hkn : k = n := by omega
          subst hkn
          have hdr : ts.drop k = [] := List.drop_eq_nil_of_le (by have := HN.out; omega)
          rw [hdr] at htk
          have hbe : blank ((bs s).drop p) = [] := by
            rcases next_ok (l := bs s) (p := p) (by rw [bs_length]; exact hp) htk.1 with ⟨_, h, _⟩ | ⟨h, _⟩
            · exact h
            · exact absurd htk.2 h
          have hblk := fun W => HBL.out p W hp
          rw [hbe, List.length_nil, Nat.sub_zero] at hblk
          have HBLK := Lib.hid hblk
          clear hblk hbe hdr htk hbel
          have hk1 : ¬ (k : Int) < (k : Int) := by omega
          go_wp2_with fail
          refine (HBLK.out _).mono ?_
          rintro e w2 ⟨rfl, hw⟩
          rw [← hw]
          clear hw
          go_wp2_with fail
          refine (lives_any _ ((HT.out.below HB1.out).below HB.out)).mono ?_
          rintro e w3 ⟨rfl, hb3⟩
          have HB3 := Lib.hid (HB1.out.trans ((HB.out.trans (hb3.mono hsz)).mono hz1))
          clear hb3
          go_wp2
          go_ret
          exact ⟨rfl, HB3.out⟩
    · have hts := HBAD.out he
      subst hts
      have he' : (e0 != 0) = true := by simpa using he
      have he'' : (e0 == 0) = false := by simpa using he
      clear HBAD HTOK he
      go_enter Tryd.func5, Tryd.ntmps5
      go_wp2_with fail
      refine (HN1.out).mono ?_
      rintro e w1 ⟨A, c, rfl, ha1, hb1⟩
      have HB1 := Lib.hid hb1
      have hz1 := hb1.size
      clear hb1 ha1
      go_wp2_with fail
      refine (lives_any _ (HT.out.below HB1.out)).mono ?_
      rintro e w3 ⟨rfl, hb3⟩
      have HB3 := Lib.hid (HB1.out.trans (hb3.mono hz1))
      clear hb3
      go_wp2
      go_ret
      exact ⟨rfl, HB3.out⟩

namespace lawLexiStands
set_option maxRecDepth 100000 in
theorem lifted (os : Os) (started : os.Started) (H : Type) (enc : TypeId × Value → H) :
    ReturnsInHanded {} Tryd.checked os 5 .any (fun w args => (Rows.lexiStandsSpec.pre enc Tryd.prog Tryd.f5 Rows.lexiStandsRow.domain false w args ∧ laidMetH Tryd.prog Rows.lexiStandsRow.laid w) ∧ sizedMet enc Tryd.prog Tryd.f5 (OpenSpec.ofChange Rows.lexiStandsSpec) false w args)
      (Rows.lexiStandsSpec.post enc Tryd.prog Tryd.f5 false true false false) := by
  refine returnsInHanded_of_change_and (C := Tryd.checked) (X := fun w _ => laidMetH Tryd.prog Rows.lexiStandsRow.laid w) (fun _ _ _ hh h => h.of_heap hh) own started (by kernel_rfl) Tryd.func5
    (ChangeSpec.witness_shaped (enc := enc) (C := Tryd.checked) (os := os) (X := fun w _ => laidMetH Tryd.prog Rows.lexiStandsRow.laid w) false (World.laidAll Tryd.prog os Rows.lexiStandsRow.laid) #[.string ⟨#[]⟩] 8 (World.laidAll_os _ _ _)
      (World.shaped_of_ZipB (by kernel_rfl) (by kernel_rfl)) (by kernel_rfl) (by kernel_rfl) (by kernel_rfl)
      (by rw [MakeChecks.laidMetH_plain _ _ _ (by kernel_rfl)]; exact laidMet_laidAll _ (by kernel_rfl) (by kernel_rfl))) ?_
  intro W base args ds gs before hval0 hW hcnd hsz hL _
  have hval : ∀ (j : Nat) t v, Tryd.f5.params[j]? = some t → args[j]? = some v → Value.okWide Tryd.prog W .any base t v := hval0
  have hW' := hW
  obtain ⟨p, q, hA0, hV, rfl, hfz, hnd⟩ := hW
  have hA : DataW.TrodAll enc Tryd.prog W 0 (fun _ => true) true Tryd.f5.params.toList args.toList ds p := hA0
  rw [Tryd.params5] at hA hval
  obtain ⟨v0, vs0, d0, ds0, p0, q0, hargs, rfl, rfl, h0, r0⟩ := trodAll_cons hA
  obtain ⟨rfl, rfl, rfl⟩ := trodAll_nil r0
  obtain rfl : args = #[v0] := by cases args; simp_all
  obtain ⟨rfl, rfl⟩ := trodVars_none hV
  rw [MakeChecks.laidMetH_plain _ _ _ (by kernel_rfl)] at hL
  have hT : Tables W := tables_of_reads (Lib.laidMet.reads hL (by simp [Rows.lexiStandsRow])) (Lib.laidMet.reads hL (by simp [Rows.lexiStandsRow]))
  have k0 := h0
  have lt0 : ∀ x ∈ p0, x.block < W.heap.size := by obtain ⟨m, hm⟩ := k0; exact DataW.trod_lt m _ _ _ hm
  obtain ⟨s, rfl, rfl, rfl, ws⟩ := open_string Tryd.underlying9 (hval 0 9 v0 rfl rfl) h0
  clear hA0 hval0
  refine (lexiStands_any s W ws hT).mono fun e W' ⟨he, bel⟩ => ?_
  subst he
  exact ⟨_, rfl, _, _, _, [], _, [], hW', trodAll_mk1 (shut_bool Tryd.underlying4 _), (trodAll_cons_mk (Below.trod laidOut (by kernel_rfl) (of_decide_eq_true (by kernel_rfl)) k0 bel lt0) trodAll_mk0), rfl, bel.frame _, fun h => by cases h⟩

theorem said : Rows.LexiStandsSaid :=
  OpenClaim.holds_of_wide 5 Tryd.f5 rfl rfl rfl rfl rfl rfl rfl ⟨rfl, rfl, rfl, rfl, rfl⟩ rfl rfl rfl rfl rfl (by kernel_rfl) Tryd.func5 (by kernel_rfl)
    (of_decide_eq_true (by kernel_rfl)) (by unfold Func.isWrapper; first | (rw [if_pos (by decide +kernel)]; kernel_rfl) | (rw [if_neg (by decide +kernel)]; exact ⟨rfl, rfl⟩))
    (fun os started H enc _ => lifted os started H enc)
theorem card : Rows.LexiStandsCardSaid :=
  Claim7.holds_tied_plain_at .later [] _ _ _ _ said (fun _ h => by cases h) (by kernel_rfl) (fun _ h => by cases h) lexiStands_row_tie rfl ⟨rfl, rfl⟩ (by kernel_rfl) rfl
    (fun f fn hf hfn => by
      obtain rfl : f = 5 := Option.some.inj ((show Tryd.prog.funcNamed Rows.lexiStandsRow.func = some 5 by kernel_rfl).symm.trans hf) |>.symm
      obtain rfl : fn = Tryd.f5 := (Option.some.inj (Tryd.func5.symm.trans hfn)).symm
      exact ⟨by kernel_rfl, fun j t ht => by
        rw [Tryd.params5] at ht
        have hm : t ∈ [9] := by simpa using Array.mem_of_getElem? ht
        have hall : ([9].all fun u => !Tryd.prog.wantsStandIn u) = true := by kernel_rfl
        exact (show Tryd.prog.wantsStandIn t = false by simpa using List.all_eq_true.1 hall t hm)⟩)
    (by kernel_rfl)
#print axioms card
end lawLexiStands
end Go.Proofs.YtnhabokkjmcdoaaDoor
