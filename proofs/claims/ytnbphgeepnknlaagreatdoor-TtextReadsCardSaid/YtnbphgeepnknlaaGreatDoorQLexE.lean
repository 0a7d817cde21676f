/- Walk of the reference: the next token. Walks of the reference: the next token at any place, all tokens; whether two rows of tokens are the same; the change of one row into the other. -/
import Derived.Test.YtnbphgeepnknlaaGreatDoorQLexB
import Derived.Test.YtnbphgeepnknlaaGreatDoorQAllP
import Derived.StillTailTactics
namespace Go.Proofs.YtnbphgeepnknlaaGreatDoor
open Go.RowKit
set_option linter.unusedVariables false

theorem rnext_results (tmps : Array Value) (W : World) (b : Nat) (v0 v1 v2 v3 v5 v6 : Value) (h4 : tmps.getD 4 undef = .pointer (some ⟨b, 0, none⟩)) (h5 : tmps.getD 5 undef = v5) (h6 : tmps.getD 6 undef = v6)
 (h : ∀ o, o < 4 → W.cell? ⟨b, o, none⟩ = (#[v0, v1, v2, v3] : Array Value)[o]?) :
 (results Tryz.f68 tmps).run Tryz.prog W = .ok (.tuple #[.agg #[v0, v1, v2, v3], v5, v6]) W := by
 have c0 := h 0 (by omega)
 have c1 := h 1 (by omega)
 have c2 := h 2 (by omega)
 have c3 := h 3 (by omega)
 simp at c0 c1 c2 c3 h4 h5 h6
 simp [results, Tryz.results68, go_sem, h4, h5, h6, c0, c1, c2, c3]

theorem fin4 {B : Nat} {w W : World} (h : Below B w W) (v0 v1 v2 v3 : Value) :
 Below B w ((((W.setCell ⟨B, 0, none⟩ v0).setCell ⟨B, 1, none⟩ v1).setCell ⟨B, 2, none⟩ v2).setCell ⟨B, 3, none⟩ v3) :=
 (((h.setCell (p := ⟨B, 0, none⟩) (Nat.le_refl _) _).setCell (p := ⟨B, 1, none⟩) (Nat.le_refl _) _).setCell (p := ⟨B, 2, none⟩) (Nat.le_refl _) _).setCell (p := ⟨B, 3, none⟩) (Nat.le_refl _) _

theorem far4 (W : World) (b c o : Nat) (v0 v1 v2 v3 : Value) (h : b ≠ c) : ((((W.setCell ⟨b, 0, none⟩ v0).setCell ⟨b, 1, none⟩ v1).setCell ⟨b, 2, none⟩ v2).setCell ⟨b, 3, none⟩ v3).cell? ⟨c, o, none⟩ = W.cell? ⟨c, o, none⟩ := by
 have h' : ∀ j, (⟨b, j, none⟩ : Addr).block ≠ (⟨c, o, none⟩ : Addr).block := fun _ => h
 rw [World.cell?_setCell_far _ _ _ _ (h' _), World.cell?_setCell_far _ _ _ _ (h' _), World.cell?_setCell_far _ _ _ _ (h' _), World.cell?_setCell_far _ _ _ _ (h' _)]

theorem words_short {x : ByteArray} (h : isWord (bs x) = true) : x.size ≤ 24 := by
 unfold isWord at h
 rw [Lib.containsS_iff] at h
 have hall : ∀ y ∈ wordL, y.size ≤ 24 := by decide
 rw [show (⟨(bs x).toArray⟩ : ByteArray) = x from bs_ext rfl] at h
 exact hall x h

theorem signIdx_cons (l : Bs) (x : ByteArray) (r : List ByteArray) (k : Nat) : signIdx l (x :: r) k = if (bs x).isPrefixOf l then some k else signIdx l r (k + 1) := rfl
theorem signIdx_nil (l : Bs) (k : Nat) : signIdx l [] k = none := rfl

set_option maxRecDepth 100000 in
set_option maxHeartbeats 4000000 in
theorem rnext_in (s : ByteArray) (p : Nat) (w : World) (hs : s.size ≤ 1000000) (hp : p ≤ s.size) :
 Calls Tryz.prog 68 #[.string s, .int .i64 p] w fun e w' => e = .returned (nextVal (next (bs s) p)) ∧ Below w.heap.size w w' := by
 have hd1 : decide ((p : Int) < 0) = false := by simp
 have hd2 : decide (s.size < p) = false := by simp; omega
 go_enter Tryz.func68, Tryz.ntmps68
 go_wp2_with fail
 obtain ⟨W0, hW0⟩ : ∃ W0, W0 = w.alloc (.cells #[.int .i64 0, .int .i64 0, .string ⟨#[]⟩, .int .i64 0] 77) := ⟨_, rfl⟩
 have B0 := Lib.hid (show Below w.heap.size w W0 from by rw [hW0]; exact (Below.refl _ _).alloc (Nat.le_refl _) _)
 have hz0 : w.heap.size < W0.heap.size := by rw [hW0]; simp
 have hc0 : ∀ o, W0.cell? ⟨w.heap.size, o, none⟩ = (#[.int .i64 0, .int .i64 0, .string ⟨#[]⟩, .int .i64 0] : Array Value)[o]? := fun o => by rw [hW0, World.cell?_alloc_at]; rfl
 have hf0 : ∀ o, W0.frozen? ⟨w.heap.size, o, none⟩ = false := fun o => by rw [hW0, World.frozen?_alloc_at]; rfl
 rw [← hW0]
 clear hW0
 refine (rblank_any s p _ hs hp).mono ?_
 rintro e w1 ⟨rfl, hw1⟩
 rw [← hw1]
 clear hw1
 obtain ⟨T, hT⟩ : ∃ T, T = blank ((bs s).drop p) := ⟨_, rfl⟩
 rw [← hT]
 have hsuf : T <:+ (bs s) := by rw [hT]; exact (blank_suffix _).trans (List.drop_suffix _ _)
 have hq1 := suffix_drop hsuf
 have hq2 := hsuf.length_le
 rw [bs_length] at hq1 hq2
 obtain ⟨q, hq⟩ : ∃ q, q = s.size - T.length := ⟨_, rfl⟩
 rw [← hq] at hq1 ⊢
 have HNX := Lib.hid (fun (k : Int) (n len : Nat) (e : Int) (h : scan T = (k, n, len, e)) => next_eq (p := p) hT.symm hq1 (by rw [bs_length]; omega) h)
 have hqs : q ≤ s.size := by omega
 have hql : T.length = s.size - q := by omega
 have HQ1 := Lib.hid hq1
 have HB0 := Lib.hid (B0.out)
 clear hT hsuf hq1 hq hd1 hd2
 by_cases hlt : q < s.size
 · have hlt' : ¬ (q : Int) = (s.size : Int) := by omega
   have hT0 := drop_cons (bs_get hlt)
   rw [HQ1.out] at hT0
   have HT0 := Lib.hid hT0
   clear hT0
   have HL := Lib.hid (rletter_any s[q])
   have HG := Lib.hid (rdigit_any s[q])
   have hqI : (q : Int) < (s.size : Int) := by omega
   cases hle : isLetter s[q]
   · rw [hle] at HL
     cases hdg : isDigit s[q]
     · rw [hdg] at HG
       have hsc := scan_sign (r := (bs s).drop (q + 1)) hle hdg
       rw [← HT0.out] at hsc
       have HSC := Lib.hid hsc
       clear hsc hle hdg
       go_wp2_with fail
       refine (HL.out _).mono ?_
       rintro e w3 ⟨rfl, hw⟩
       rw [← hw]
       clear hw
       go_wp2_with fail
       refine (HG.out _).mono ?_
       rintro e w3 ⟨rfl, hw⟩
       rw [← hw]
       clear hw
       go_wp2_with fail
       refine (rsigns_any _).mono ?_
       rintro e w3 ⟨rfl, hw⟩
       have hb3 : Below w.heap.size w w3 := by rw [hw]; exact HB0.out.alloc (Nat.le_of_lt hz0) _
       have hb03 : Below W0.heap.size W0 w3 := by rw [hw]; exact (Below.refl _ _).alloc (Nat.le_refl _) _
       have hc3 : ∀ o, w3.cell? ⟨w.heap.size, o, none⟩ = (#[.int .i64 0, .int .i64 0, .string ⟨#[]⟩, .int .i64 0] : Array Value)[o]? := fun o => by rw [hb03.cell (p := ⟨w.heap.size, o, none⟩) hz0]; exact hc0 o
       have hf3 : ∀ o, w3.frozen? ⟨w.heap.size, o, none⟩ = false := fun o => by rw [hb03.frozen (p := ⟨w.heap.size, o, none⟩) hz0]; exact hf0 o
       have hz3 : w.heap.size < w3.heap.size := Nat.lt_of_lt_of_le hz0 hb03.size
       have HCS := Lib.hid (show ∀ j, j < 21 → w3.cell? ⟨W0.heap.size, j, none⟩ = some (.string (signL.getD j ByteArray.empty)) from fun j hj => by
        rw [hw, World.cell?_alloc_at _ _ _ _ rfl]
        have hj' : j < signL.length := hj
        simp [List.getD, hj'])
       have HB3 := Lib.hid hb3
       clear hw hb3 hb03 hc0 hf0
       go_wp2
       go_loop [10] (fun i => ∃ k : Nat, k ≤ 21 ∧ i = .int .i64 k ∧ signIdx T signL 0 = signIdx T (signL.drop k) k) (fun i => 21 - (intOf i).toNat)
       case atStart => exact ⟨0, Nat.zero_le _, rfl, rfl⟩
       case round =>
        obtain ⟨k, hk, rfl, heq⟩ := hrel
        have HE := Lib.hid heq
        clear heq
        by_cases hk21 : k < 21
        · have hkI : (k : Int) < (21 : Int) := by omega
          have hk0 : (0 : Int) ≤ (k : Int) := by omega
          have hdr : signL.drop k = signL.getD k ByteArray.empty :: signL.drop (k + 1) := by
           have hj' : k < signL.length := hk21
           rw [List.drop_eq_getElem_cons hj']
           simp [List.getD, hj']
          have hck := HCS.out k hk21
          have hsm : (signL.getD k ByteArray.empty).size ≤ 3 := by
           have hall : ∀ y ∈ signL, y.size ≤ 3 := by decide
           have hj' : k < signL.length := hk21
           have h1 : signL.getD k ByteArray.empty = signL[k] := by simp [List.getD, hj']
           rw [h1]
           exact hall _ (List.getElem_mem _)
          have hsc := HSC.out
          have heq := HE.out
          rw [hdr] at heq
          generalize hy : signL.getD k ByteArray.empty = y at *
          have hst := starts_any s y q w3 hs (by omega) hqs
          rw [HQ1.out] at hst
          have HST := Lib.hid hst
          have HY := Lib.hid hy
          clear hst hdr hy
          rw [signIdx_cons] at heq
          cases hp : (bs y).isPrefixOf T
          · rw [hp, if_neg (by simp)] at heq
            have HN := Lib.hid heq
            rw [hp] at HST
            clear hp heq hsc
            go_wp2_with fail
            refine (HST.out).mono ?_
            rintro e w4 ⟨rfl, hw⟩
            rw [← hw]
            clear hw
            go_wp2
            go_round
            case rel => exact ⟨k + 1, by omega, by go_num, HN.out⟩
            case measure => simp [intOf]; omega
          · rw [hp, if_pos rfl] at heq
            rw [heq] at hsc
            change scan T = (4, 0, (signL.getD k ByteArray.empty).size, 0) at hsc
            rw [HY.out] at hsc
            rw [hp] at HST
            have hpre := List.isPrefixOf_iff_prefix.1 hp
            have hxt : T.take y.size = bs y := by
             rw [← bs_length]
             exact (List.prefix_iff_eq_take.1 hpre).symm
            have hyl : y.size ≤ T.length := by rw [← bs_length]; exact hpre.length_le
            have HX' := Lib.hid (show (⟨(T.take y.size).toArray⟩ : ByteArray) = y from bs_ext (by rw [bs_mk, hxt]))
            have HV := Lib.hid (HNX.out 4 0 y.size 0 hsc)
            have hwq : IntKind.i64.wrap ((q : Int) + (y.size : Int)) = ((q + y.size : Nat) : Int) := by rw [IntWalk.i64_in _ (by omega)]; omega
            have hne0 : w.heap.size ≠ W0.heap.size := by omega
            clear hp heq hsc hpre hxt hyl
            go_wp2_with fail
            refine (HST.out).mono ?_
            rintro e w4 ⟨rfl, hw⟩
            rw [← hw]
            clear hw
            go_wp2_with fail
            go_region_held3 (fun w' => w'.cell? ⟨W0.heap.size, k, none⟩ = some (.string y)) (first | exact hck | (rw [World.cell?_drew, far4 _ _ _ _ _ _ _ hne0]; exact hck) | go_keep) (fail)
            go_wp2_with fail
            refine bodyPost_ret (rnext_results _ _ w.heap.size _ _ _ _ _ _ rfl rfl rfl (fun o ho => by
             rw [World.cell?_drew]
             exact set4 rfl hc3 _ _ _ _ o ho)) rfl ⟨?_, ?_⟩
            · rw [nextVal_ok (z := (noTok, q, 0)) HV.out HX'.out]; rfl
            · exact (fin4 HB3.out _ _ _ _).drew
        · have hkI : ¬ (k : Int) < (21 : Int) := by omega
          have hdr : signL.drop k = [] := List.drop_eq_nil_of_le (by show 21 ≤ k; omega)
          have heq := HE.out
          rw [hdr, signIdx_nil] at heq
          have hsc := HSC.out
          rw [heq] at hsc
          change scan T = (0, 0, 0, 15) at hsc
          have HV := Lib.hid (HNX.out 0 0 0 15 hsc)
          clear hdr heq hsc
          go_wp2
          refine bodyPost_ret (rnext_results _ _ w.heap.size _ _ _ _ _ _ rfl rfl rfl (fun o ho => by
           try simp only [World.cell?_drew]
           exact set4 rfl hc3 _ _ _ _ o ho)) rfl ⟨?_, ?_⟩
          · rw [HV.out]; rfl
          · exact fin4 HB3.out _ _ _ _
     · rw [hdg] at HG
       have hsc := scan_digit (r := (bs s).drop (q + 1)) hle hdg
       rw [← HT0.out] at hsc
       have hnm := num_cases HT0.out hdg
       have hall := @rowLen_all isDigit T
       have hrow := rrow_any s q true
       rw [HQ1.out] at hrow
       change ∀ (w : World), s.size ≤ 1000000 → q ≤ s.size → Calls Tryz.prog 129 #[.string s, .int .i64 q, .bool true] w fun e w' => e = .returned (.int .i64 (q + rowLen isDigit T : Nat)) ∧ w = w' at hrow
       have hnT := rowLen_le isDigit T
       have hn0 : 0 < rowLen isDigit T := by rw [HT0.out, rowLen_cons_true hdg]; omega
       generalize rowLen isDigit T = n at *
       have HROW := Lib.hid (fun w => hrow w hs hqs)
       obtain ⟨x, hx⟩ : ∃ x, s.extract q (q + n) = x := ⟨_, rfl⟩
       have hbx : bs x = T.take n := by rw [← hx, bs_extract, List.drop_take, HQ1.out, show q + n - q = n by omega]
       have hxz : x.size = n := by rw [← bs_length, hbx, List.length_take]; omega
       rw [← hbx] at hnm hall
       have hx0 : 0 < x.size := by omega
       have hx0' : x[0] = s[q] := by
        have h1 := bs_get hx0
        rw [hbx, HT0.out] at h1
        obtain ⟨m, rfl⟩ : ∃ m, n = m + 1 := ⟨n - 1, by omega⟩
        simp at h1
        exact h1.symm
       have HVA := Lib.hid (fun w => rvalue_any x w (by omega) hall)
       have hx' : (⟨(T.take n).toArray⟩ : ByteArray) = x := bs_ext (by rw [bs_mk, hbx])
       have HX' := Lib.hid hx'
       have hqn : q + n ≤ s.size := by omega
       have hqq : q ≤ q + n := by omega
       generalize capVal 0 (bs x) = v at *
       have HSC := Lib.hid hsc
       have HNM := Lib.hid hnm
       clear hrow hsc hle hnT hbx hx' hall hnm hdg
       have hwq : IntKind.i64.wrap ((q : Int) + (n : Int)) = ((q + n : Nat) : Int) := by rw [IntWalk.i64_in _ (by omega)]; omega
       have HWQ := Lib.hid hwq
       clear hwq
       have H0 := Lib.hid hx0'
       clear hx0'
       have h00 : (0 : Int) < (x.size : Int) := by omega
       go_wp2_with fail
       refine (HL.out _).mono ?_
       rintro e w3 ⟨rfl, hw⟩
       rw [← hw]
       clear hw
       go_wp2_with fail
       refine (HG.out _).mono ?_
       rintro e w3 ⟨rfl, hw⟩
       rw [← hw]
       clear hw
       go_wp2_with fail
       refine (HROW.out _).mono ?_
       rintro e w3 ⟨rfl, hw⟩
       rw [← hw]
       clear hw
       by_cases hbad : 1 < n ∧ s[q].toNat = 48
       · have hsc := HSC.out
         rw [HNM.out, if_pos hbad] at hsc
         have HV := Lib.hid (HNX.out 0 0 0 15 (by rw [hsc]; rfl))
         have h1' : (1 : Int) < (n : Int) := by omega
         have hb : ((x[0].toNat : Int) == 48) = true := by rw [H0.out, hbad.2]; rfl
         clear hsc hbad
         go_wp2
         refine bodyPost_ret (rnext_results _ _ w.heap.size _ _ _ _ _ _ rfl rfl rfl (fun o ho => by
          try simp only [World.cell?_drew]
          exact set4 rfl hc0 _ _ _ _ o ho)) rfl ⟨?_, ?_⟩
         · rw [HV.out]; rfl
         · exact fin4 HB0.out _ _ _ _
       · have hsc := HSC.out
         rw [HNM.out, if_neg hbad] at hsc
         have hor : ¬ 1 < n ∨ (1 < n ∧ ((x[0].toNat : Int) == 48) = false) := by
          by_cases h1 : 1 < n
          · refine .inr ⟨h1, ?_⟩
            rw [H0.out]
            simp
            omega
          · exact .inl h1
         by_cases hbig : 255 < v
         · rw [if_pos hbig] at hsc
           have HV := Lib.hid (HNX.out 0 0 0 2 (by rw [hsc]; rfl))
           have hbig' : (255 : Int) < (v : Int) := by omega
           clear hsc hbad hbig
           rcases hor with h1 | ⟨h1, hb⟩
           · have h1' : ¬ (1 : Int) < (n : Int) := by omega
             go_wp2_with fail
             refine (HVA.out _).mono ?_
             rintro e w3 ⟨rfl, hw⟩
             rw [← hw]
             clear hw
             go_wp2
             refine bodyPost_ret (rnext_results _ _ w.heap.size _ _ _ _ _ _ rfl rfl rfl (fun o ho => by
              try simp only [World.cell?_drew]
              exact set4 rfl hc0 _ _ _ _ o ho)) rfl ⟨?_, ?_⟩
             · rw [HV.out]; rfl
             · exact fin4 HB0.out _ _ _ _
           · have h1' : (1 : Int) < (n : Int) := by omega
             go_wp2_with fail
             refine (HVA.out _).mono ?_
             rintro e w3 ⟨rfl, hw⟩
             rw [← hw]
             clear hw
             go_wp2
             refine bodyPost_ret (rnext_results _ _ w.heap.size _ _ _ _ _ _ rfl rfl rfl (fun o ho => by
              try simp only [World.cell?_drew]
              exact set4 rfl hc0 _ _ _ _ o ho)) rfl ⟨?_, ?_⟩
             · rw [HV.out]; rfl
             · exact fin4 HB0.out _ _ _ _
         · rw [if_neg hbig] at hsc
           have HV := Lib.hid (HNX.out 1 v n 0 (by rw [hsc]; rfl))
           have hbig' : ¬ (255 : Int) < (v : Int) := by omega
           have hwq := HWQ.out
           clear hsc hbad hbig
           rcases hor with h1 | ⟨h1, hb⟩
           · have h1' : ¬ (1 : Int) < (n : Int) := by omega
             go_wp2_with fail
             refine (HVA.out _).mono ?_
             rintro e w3 ⟨rfl, hw⟩
             rw [← hw]
             clear hw
             go_wp2_with fail
             refine (HVA.out _).mono ?_
             rintro e w3 ⟨rfl, hw⟩
             rw [← hw]
             clear hw
             go_wp2
             refine bodyPost_ret (rnext_results _ _ w.heap.size _ _ _ _ _ _ rfl rfl rfl (fun o ho => by
              try simp only [World.cell?_drew]
              exact set4 rfl hc0 _ _ _ _ o ho)) rfl ⟨?_, ?_⟩
             · rw [nextVal_ok (z := (noTok, q, 0)) HV.out HX'.out]; rfl
             · exact fin4 HB0.out _ _ _ _
           · have h1' : (1 : Int) < (n : Int) := by omega
             go_wp2_with fail
             refine (HVA.out _).mono ?_
             rintro e w3 ⟨rfl, hw⟩
             rw [← hw]
             clear hw
             go_wp2_with fail
             refine (HVA.out _).mono ?_
             rintro e w3 ⟨rfl, hw⟩
             rw [← hw]
             clear hw
             go_wp2
             refine bodyPost_ret (rnext_results _ _ w.heap.size _ _ _ _ _ _ rfl rfl rfl (fun o ho => by
              try simp only [World.cell?_drew]
              exact set4 rfl hc0 _ _ _ _ o ho)) rfl ⟨?_, ?_⟩
             · rw [nextVal_ok (z := (noTok, q, 0)) HV.out HX'.out]; rfl
             · exact fin4 HB0.out _ _ _ _
   · rw [hle] at HL
     have hsc := scan_letter (r := (bs s).drop (q + 1)) hle
     rw [← HT0.out] at hsc
     have hrow := rrow_any s q false
     rw [HQ1.out] at hrow
     change ∀ (w : World), s.size ≤ 1000000 → q ≤ s.size → Calls Tryz.prog 129 #[.string s, .int .i64 q, .bool false] w fun e w' => e = .returned (.int .i64 (q + rowLen isInside T : Nat)) ∧ w = w' at hrow
     have hnT := rowLen_le isInside T
     generalize rowLen isInside T = n at *
     have HROW := Lib.hid (fun w => hrow w hs hqs)
     obtain ⟨x, hx⟩ : ∃ x, s.extract q (q + n) = x := ⟨_, rfl⟩
     have hbx : bs x = T.take n := by rw [← hx, bs_extract, List.drop_take, HQ1.out, show q + n - q = n by omega]
     have hxz : x.size = n := by rw [← bs_length, hbx, List.length_take]; omega
     rw [← hbx] at hsc
     have HSC := Lib.hid hsc
     have hx' : (⟨(T.take n).toArray⟩ : ByteArray) = x := bs_ext (by rw [bs_mk, hbx])
     have HX' := Lib.hid hx'
     have HBX := Lib.hid hbx
     have hqn : q + n ≤ s.size := by omega
     have hqq : q ≤ q + n := by omega
     clear hrow hsc hle hnT hbx hx'
     have hwq : IntKind.i64.wrap ((q : Int) + (n : Int)) = ((q + n : Nat) : Int) := by rw [IntWalk.i64_in _ (by omega)]; omega
     have HWQ := Lib.hid hwq
     clear hwq
     go_wp2_with fail
     refine (HL.out _).mono ?_
     rintro e w3 ⟨rfl, hw⟩
     rw [← hw]
     clear hw
     go_wp2_with fail
     refine (HROW.out _).mono ?_
     rintro e w3 ⟨rfl, hw⟩
     rw [← hw]
     clear hw
     go_wp2_with fail
     refine (rwords_any _).mono ?_
     rintro e w3 ⟨rfl, hw⟩
     have hb3 : Below w.heap.size w w3 := by rw [hw]; exact HB0.out.alloc (Nat.le_of_lt hz0) _
     have hb03 : Below W0.heap.size W0 w3 := by rw [hw]; exact (Below.refl _ _).alloc (Nat.le_refl _) _
     have hc3 : ∀ o, w3.cell? ⟨w.heap.size, o, none⟩ = (#[.int .i64 0, .int .i64 0, .string ⟨#[]⟩, .int .i64 0] : Array Value)[o]? := fun o => by rw [hb03.cell (p := ⟨w.heap.size, o, none⟩) hz0]; exact hc0 o
     have hf3 : ∀ o, w3.frozen? ⟨w.heap.size, o, none⟩ = false := fun o => by rw [hb03.frozen (p := ⟨w.heap.size, o, none⟩) hz0]; exact hf0 o
     have hz3 : w.heap.size < w3.heap.size := Nat.lt_of_lt_of_le hz0 hb03.size
     have hcw : ∀ j, j < wordL.length → w3.cell? ⟨W0.heap.size, 0 + j, none⟩ = some (.string (wordL.getD j ByteArray.empty)) := fun j hj => by
      rw [hw, Nat.zero_add, World.cell?_alloc_at _ _ _ _ rfl]
      simp [List.getD, hj]
     clear hw
     have HAM := Lib.hid (ramong_any W0.heap.size 0 24 wordL x w3 (by decide) hcw)
     have hwd : Lib.containsS wordL x = isWord (bs x) := by
      unfold isWord
      rw [show (⟨(bs x).toArray⟩ : ByteArray) = x from bs_ext rfl]
     rw [hwd] at HAM
     change Hid (Calls Tryz.prog 130 #[.slice (some ⟨W0.heap.size, 0, none⟩) 24 24, .string x] w3 _) at HAM
     have HB3 := Lib.hid hb3
     clear hcw hwd hb3 hc0 hf0 hb03
     cases hiw : isWord (bs x)
     all_goals rw [hiw] at HAM
     · have hsc := HSC.out
       rw [hiw] at hsc
       by_cases h24 : 24 < n
       · have h24' : (24 : Int) < (n : Int) := by omega
         rw [if_pos h24] at hsc
         have HV := Lib.hid (HNX.out _ _ _ _ hsc)
         clear hsc hiw
         go_wp2_with fail
         refine (HAM.out).mono ?_
         rintro e w4 ⟨rfl, hw⟩
         rw [← hw]
         clear hw
         go_wp2
         refine bodyPost_ret (rnext_results _ _ w.heap.size _ _ _ _ _ _ rfl rfl rfl (fun o ho => by
          try simp only [World.cell?_drew]
          exact set4 rfl hc3 _ _ _ _ o ho)) rfl ⟨?_, ?_⟩
         · rw [HV.out]; rfl
         · exact fin4 HB3.out _ _ _ _
       · have h24' : ¬ (24 : Int) < (n : Int) := by omega
         rw [if_neg h24, if_neg (by simp)] at hsc
         have HV := Lib.hid (HNX.out _ _ _ _ hsc)
         clear hsc hiw
         have hwq := HWQ.out
         go_wp2_with fail
         refine (HAM.out).mono ?_
         rintro e w4 ⟨rfl, hw⟩
         rw [← hw]
         clear hw
         go_wp2
         refine bodyPost_ret (rnext_results _ _ w.heap.size _ _ _ _ _ _ rfl rfl rfl (fun o ho => by
          try simp only [World.cell?_drew]
          exact set4 rfl hc3 _ _ _ _ o ho)) rfl ⟨?_, ?_⟩
         · rw [nextVal_ok (z := (noTok, q, 0)) HV.out HX'.out]; rfl
         · exact fin4 HB3.out _ _ _ _
     · have hsc := HSC.out
       have h24 := words_short hiw
       rw [hxz] at h24
       rw [hiw, if_neg (by omega), if_pos rfl] at hsc
       have HV := Lib.hid (HNX.out _ _ _ _ hsc)
       clear hsc hiw
       have hwq := HWQ.out
       go_wp2_with fail
       refine (HAM.out).mono ?_
       rintro e w4 ⟨rfl, hw⟩
       rw [← hw]
       clear hw
       go_wp2
       refine bodyPost_ret (rnext_results _ _ w.heap.size _ _ _ _ _ _ rfl rfl rfl (fun o ho => by
        try simp only [World.cell?_drew]
        exact set4 rfl hc3 _ _ _ _ o ho)) rfl ⟨?_, ?_⟩
       · rw [nextVal_ok (z := (noTok, q, 0)) HV.out HX'.out]; rfl
       · exact fin4 HB3.out _ _ _ _
 · have hlt' : q = s.size := by omega
   have hTn : T = [] := List.eq_nil_of_length_eq_zero (by omega)
   have HV := Lib.hid (HNX.out 5 0 0 0 (by rw [hTn]; rfl))
   rw [hTn] at HV
   clear hTn HNX HQ1 hlt
   subst hlt'
   go_wp2
   refine bodyPost_ret (rnext_results _ _ w.heap.size _ _ _ _ _ _ rfl rfl rfl (fun o ho => by
    try simp only [World.cell?_drew]
    exact set4 rfl hc0 _ _ _ _ o ho)) rfl ⟨?_, ?_⟩
   · rw [HV.out]; rfl
   · exact fin4 HB0.out _ _ _ _
end Go.Proofs.YtnbphgeepnknlaaGreatDoor
namespace Go.Proofs.YtnbphgeepnknlaaGreatDoor
open Go.RowKit
set_option linter.unusedVariables false

set_option maxHeartbeats 1000000 in
theorem rnext_any (s : ByteArray) (p : Int) (w : World) (hs : s.size ≤ 1000000) :
 Calls Tryz.prog 68 #[.string s, .int .i64 p] w fun e w' => e = .returned (nextV (nextAt (bs s) p)) ∧ Below w.heap.size w w' := by
 by_cases ho : p < 0 ∨ ((bs s).length : Int) < p
 · rw [nextAt_out ho]
   rw [bs_length] at ho
   by_cases h0 : p < 0
   · clear ho
     go_enter Tryz.func68, Tryz.ntmps68
     go_wp2
     refine bodyPost_ret (rnext_results _ _ w.heap.size _ _ _ _ _ _ rfl rfl rfl (fun o ho => World.cell?_alloc_at _ _ _ _ rfl)) rfl ⟨?_, ?_⟩
     · rfl
     · exact (Below.refl _ _).alloc (Nat.le_refl _) _
   · have h1 : (s.size : Int) < p := by omega
     clear ho
     go_enter Tryz.func68, Tryz.ntmps68
     go_wp2
     refine bodyPost_ret (rnext_results _ _ w.heap.size _ _ _ _ _ _ rfl rfl rfl (fun o ho => World.cell?_alloc_at _ _ _ _ rfl)) rfl ⟨?_, ?_⟩
     · rfl
     · exact (Below.refl _ _).alloc (Nat.le_refl _) _
 · obtain ⟨n, rfl⟩ : ∃ n : Nat, p = n := ⟨p.toNat, by omega⟩
   rw [nextAt_in (by omega)]
   exact rnext_in s n w hs (by rw [bs_length] at ho; omega)

theorem Tryz.infoR : (Tryz.prog.info? 77).map (fun i => (i.zero, i.size, i.bytes)) = some (some (.agg #[.int .i64 0, .int .i64 0, .string ⟨#[]⟩, .int .i64 0]), 4, 40) := by kernel_rfl

set_option maxRecDepth 100000 in
set_option maxHeartbeats 4000000 in
theorem rall_any (s : ByteArray) (w : World) (hs : s.size ≤ 1000000) :
 Calls Tryz.prog 33 #[.string s] w fun e w' => ∃ v, e = .returned (.tuple #[v, .int .i64 (all (bs s)).2.1, .int .i64 (all (bs s)).2.2]) ∧ w'.ownsRow w.heap.size 77 4 v (all (bs s)).1.length (flat (all (bs s)).1) ∧ Below w.heap.size w w' := by
 by_cases h1 : 65536 < s.size
 · have h1' : (65536 : Int) < (s.size : Int) := by omega
   have HA := Lib.hid (show all (bs s) = ([], 0, 4) from if_pos (by rw [bs_length]; exact h1))
   clear h1
   go_enter Tryz.func33, Tryz.ntmps33
   go_wp2
   go_ret3
   rw [HA.out]
   exact ⟨_, rfl, ⟨rfl, .inl ⟨rfl, rfl⟩⟩, Below.refl _ _⟩
 · have h1' : ¬ (65536 : Int) < (s.size : Int) := by omega
   have HA := Lib.hid (show all (bs s) = allFrom (bs s) 0 [] from if_neg (by rw [bs_length]; exact h1))
   have h65 : s.size ≤ 65536 := by omega
   clear h1
   obtain ⟨i0, hi, hz0, hz1, hz2⟩ := info_parts Tryz.infoR
   go_enter Tryz.func33, Tryz.ntmps33
   go_wp2_with fail
   go_loopw [5, 6] (fun sv si wr => ∃ (p : Nat) (acc : List Tok), p ≤ s.size ∧ si = .int .i64 p ∧ wr.ownsRow w.heap.size 77 4 sv acc.length (flat acc) ∧ acc.length ≤ p ∧ allFrom (bs s) 0 [] = allFrom (bs s) p acc ∧ Below w.heap.size w wr) (fun _ i _ => s.size - (intOf i).toNat)
   case atStart => exact ⟨0, [], Nat.zero_le _, rfl, World.ownsRow_made _ _ 0 (Nat.le_refl _) (Nat.zero_le _) rfl, Nat.zero_le _, rfl, (Below.refl _ _).alloc (Nat.le_refl _) _⟩
   case round =>
    obtain ⟨p, acc, hp, rfl, how, hle, hall, hbel⟩ := hrel
    have HO := Lib.hid how
    have HL := Lib.hid hall
    have HB := Lib.hid hbel
    have hsz := hbel.size
    have HN := Lib.hid (rnext_any s p wr hs)
    clear how hall hbel
    rw [nextAt_in (by rw [bs_length]; exact hp)] at HN
    have hok := next_ok (l := bs s) (p := p) (by rw [bs_length]; exact hp)
    have hend := allFrom_end (l := bs s) (p := p) (acc := acc)
    have herr := allFrom_err (l := bs s) (p := p) (acc := acc)
    have hmore := allFrom_more (l := bs s) (p := p) (acc := acc) (by rw [bs_length]; exact hp)
    rw [bs_length] at hok
    have HOK := Lib.hid hok
    have HEND := Lib.hid hend
    have HERR := Lib.hid herr
    have HMORE := Lib.hid hmore
    clear hok hend herr hmore
    generalize next (bs s) p = x at *
    obtain ⟨⟨tk, tn, tt, ta⟩, q, e⟩ := x
    unfold nextV Tok.val Tok.cells at HN
    dsimp only at HN HOK HEND HERR HMORE
    by_cases he : e = 0
    · subst he
      have hok := HOK.out rfl
      by_cases hk : tk = 5
      · have HE := Lib.hid (HEND.out rfl hk)
        subst hk
        clear hok
        go_wp2_with fail
        refine (HN.out).mono ?_
        rintro e w2 ⟨rfl, hb2⟩
        have HB2 := Lib.hid hb2
        clear hb2
        go_wp2
        go_ret3
        rw [HA.out, HL.out, HE.out]
        exact ⟨_, rfl, ownsRow_below HO.out (HB2.out.alloc HB2.out.size _), HB.out.trans ((HB2.out.alloc HB2.out.size _).mono hsz)⟩
      · have HE := Lib.hid (HMORE.out rfl hk)
        have hk' : (tk == 5) = false := by simpa using hk
        have hq1 : p < q ∧ q ≤ s.size := by
         rcases hok with ⟨h, _⟩ | ⟨_, h1, h2⟩
         · exact absurd h hk
         · exact ⟨h1, h2⟩
        obtain ⟨hq1, hq2⟩ := hq1
        clear hok hk
        go_wp2_with fail
        refine (HN.out).mono ?_
        rintro e w2 ⟨rfl, hb2⟩
        have HB2 := Lib.hid hb2
        have hsz2 := hb2.size
        have hB3 := Lib.hid (hb2.alloc hb2.size (.cells #[.int .i64 tk, .int .i64 tn, .string ⟨tt.toArray⟩, .int .i64 ta] 77))
        have HO2 := Lib.hid (ownsRow_below HO.out hB3.out)
        have hlt := (ownsRow_below HO.out hb2).lt
        have HLT := Lib.hid hlt
        clear hb2 hlt
        go_wp2_with (at_builtin; refine wpList_append_own _ rfl _ _ 73 rfl w.heap.size 77 i0 _ 4 40 Tryz.underlying73 hi hz0 hz1 hz2 rfl (by decide) _ _ _ rfl (HO2.out.alloc _) ⟨w2.heap.size + 1, 0, none⟩ 1 1 (tokL ⟨tk, tn, tt, ta⟩) rfl rfl ?c1 ?c2 ?c3 ?c4 ?c5 ?_)
        case c1 => exact World.news_of_block (cs := #[.int .i64 tk, .int .i64 tn, .string ⟨tt.toArray⟩, .int .i64 ta]) (t := 77) (fr := (0, 0)) (by have := heap_alloc_new (w2.alloc (.cells #[.int .i64 tk, .int .i64 tn, .string ⟨tt.toArray⟩, .int .i64 ta] 77)) (.cells #[.int .i64 tk, .int .i64 tn, .string ⟨tt.toArray⟩, .int .i64 ta] 77); simpa using this)
        case c2 =>
         intro q hq
         simp [tokL] at hq
         rcases hq with rfl | rfl | rfl | rfl <;> rfl
        case c3 => unfold maxLen; omega
        case c4 => omega
        case c5 => simp; omega
        intro v' w3 hown3 hgrow3 _
        have hgr := Lib.hid hgrow3
        have HO3 := Lib.hid hown3
        clear hown3 hgrow3
        go_wp2
        go_roundw
        case rel =>
         refine ⟨q, acc ++ [⟨tk, tn, tt, ta⟩], hq2, rfl, ?_, ?_, ?_, ?_⟩
         · rw [flat_snoc, List.length_append]; exact HO3.out
         · rw [List.length_append]; simp; omega
         · rw [HL.out, HE.out]
         · refine ((HB.out.trans (hB3.out.mono hsz)).alloc (by simp; omega) _).grown hgr.out (by simp; omega) (fun q hq => ?_)
           exact (HO2.out.lt q hq).1
        case measure => simp [intOf]; omega
    · have he' : (e == 0) = false := by simpa using he
      have he'' : (e != 0) = true := by simpa using he
      have HE := Lib.hid (HERR.out he)
      clear he
      go_wp2_with fail
      refine (HN.out).mono ?_
      rintro e w2 ⟨rfl, hb2⟩
      have HB2 := Lib.hid hb2
      clear hb2
      go_wp2
      go_ret3
      rw [HA.out, HL.out, HE.out]
      exact ⟨_, rfl, ⟨rfl, .inl ⟨rfl, rfl⟩⟩, HB.out.trans ((HB2.out.alloc HB2.out.size _).mono hsz)⟩

/-- The same, but for the places where they are not asked. -/
def alike (pl : Bool) (x y : Tok) : Prop := x.kind = y.kind ∧ x.n = y.n ∧ x.text = y.text ∧ (pl = true → x.at_ = y.at_)

end Go.Proofs.YtnbphgeepnknlaaGreatDoor
