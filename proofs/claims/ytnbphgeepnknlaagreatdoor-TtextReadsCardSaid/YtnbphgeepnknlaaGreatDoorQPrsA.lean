/- The parser's state in memory; walks: ttext's tokens.is, fail, must, name. Walk: ttext's reader.sign. Terms apart from the reader's block; what a parser leaves; walk: ttext's reader.inside. -/
import Derived.Test.YtnbphgeepnknlaaGreatDoorQTrmP
import Derived.Test.YtnbphgeepnknlaaGreatDoorQTrmF
import Derived.Test.YtnbphgeepnknlaaGreatDoorQTrmA
namespace Go.Proofs.YtnbphgeepnknlaaGreatDoor
open Go.RowKit
set_option linter.unusedVariables false

/-- The reader, whole: the tokens, the next one, the depth. -/
def Rdr (w : World) (R : Nat) (A : Option Addr) (n c i d : Nat) : Prop := w.heap[R]? = some (.cells #[.slice A n c, .int .i64 (i : Nat), .int .i64 (d : Nat)] 135 (0, 0))
section
variable {w w' : World} {R n c i d : Nat} {A : Option Addr}
theorem Rdr.c0 (h : Rdr w R A n c i d) : w.cell? ⟨R, 0, none⟩ = some (.slice A n c) := by rw [cell_of_row w R 0 _ _ (0, 0) h]; rfl
theorem Rdr.c1 (h : Rdr w R A n c i d) : w.cell? ⟨R, 1, none⟩ = some (.int .i64 (i : Nat)) := by rw [cell_of_row w R 1 _ _ (0, 0) h]; rfl
theorem Rdr.c2 (h : Rdr w R A n c i d) : w.cell? ⟨R, 2, none⟩ = some (.int .i64 (d : Nat)) := by rw [cell_of_row w R 2 _ _ (0, 0) h]; rfl
theorem Rdr.lt (h : Rdr w R A n c i d) : R < w.heap.size := lt_of_heap h
theorem Rdr.frozen (h : Rdr w R A n c i d) (o : Nat) : w.frozen? ⟨R, o, none⟩ = false := by
 unfold Rdr at h
 simp [World.frozen?, h]
theorem Rdr.below {B : Nat} (h : Rdr w R A n c i d) (hb : Below B w w') (hB : R < B) : Rdr w' R A n c i d := (hb.block R hB).trans h
theorem Rdr.at_ (h : Rdr w R A n c i d) (j : Nat) : Rdr (w.setCell ⟨R, 1, none⟩ (.int .i64 (j : Nat))) R A n c j d := by
 unfold Rdr at h ⊢
 simp [World.setCell, Array.getElem?_modify, h]
theorem Rdr.deep (h : Rdr w R A n c i d) (e : Nat) : Rdr (w.setCell ⟨R, 2, none⟩ (.int .i64 (e : Nat))) R A n c i e := by
 unfold Rdr at h ⊢
 simp [World.setCell, Array.getElem?_modify, h]
theorem Rdr.drewN (h : Rdr w R A n c i d) (m : Nat) : Rdr (w.drewN m) R A n c i d := h
end
/-- The tokens that the reader reads: not in its own block. -/
structure PTok (w : World) (R : Nat) (A : Option Addr) (c : Nat) (l : List Tok) : Prop where
 toks : ToksAt w A l
 cap : l.length ≤ c
 capm : c ≤ maxLen
 len : l.length ≤ 100000
 apart : ∀ a, A = some a → a.block ≠ R
 txt : ∀ t ∈ l, t.text.length ≤ 100000
 rng : ∀ t ∈ l, -1000000 ≤ t.n ∧ t.n ≤ 1000000
theorem PTok.only {w w' : World} {R c : Nat} {A : Option Addr} {l : List Tok} (h : PTok w R A c l) (ho : Only (fun q => q = R) w w') : PTok w' R A c l := by
 refine ⟨?_, h.cap, h.capm, h.len, h.apart, h.txt, h.rng⟩
 rcases h.toks with h0 | ⟨b, off, rfl, hb, hc⟩
 · exact .inl h0
 · exact .inr ⟨b, off, rfl, Nat.lt_of_lt_of_le hb ho.size, fun k z hz j hj => by rw [ho.cell hb (h.apart _ rfl)]; exact hc k z hz j hj⟩
theorem Only.drewN {F : Nat → Prop} {w w' : World} (h : Only F w w') (n : Nat) : Only F w (w'.drewN n) := ⟨h.os, h.tape, h.output, h.size, h.block⟩

theorem bs_eq_iff {a b : ByteArray} : (a.toList == b.toList) = decide (bs a = bs b) := by
 rw [ByteArray.toList_eq, ByteArray.toList_eq]
 by_cases h : bs a = bs b
 · rw [decide_eq_true h]
   unfold bs at h
   simp [h]
 · rw [decide_eq_false h]
   unfold bs at h
   simpa using h

set_option maxRecDepth 100000 in
set_option maxHeartbeats 8000000 in
theorem pis_any (R : Nat) (A : Option Addr) (c i d : Nat) (l : List Tok) (k : Int) (s : ByteArray) (w : World) (hR : Rdr w R A l.length c i d) (hP : PTok w R A c l) (hi : i ≤ 1000000) :
 Calls Tryz.prog 174 #[.pointer (some ⟨R, 0, none⟩), .int .i64 k, .string s] w fun e w' => e = .returned (.bool (isTk l i k (bs s))) ∧ ∃ n, w' = w.drewN n := by
 obtain ⟨n, hn⟩ : ∃ n, n = l.length := ⟨_, rfl⟩
 rw [← hn] at hR
 have c0 := hR.c0
 have c1 := hR.c1
 have hlen := hP.len
 have hcap := hP.cap
 have hcapm := hP.capm
 unfold maxLen at hcapm
 rw [← hn] at hlen hcap
 have hRlt := hR.lt
 obtain ⟨r, hr⟩ : ∃ r, r = isTk l i k (bs s) := ⟨_, rfl⟩
 rw [← hr]
 unfold isTk at hr
 have HR := Lib.hid hr
 have HP := Lib.hid hP
 have HN := Lib.hid hn
 clear hr hP hn hR
 by_cases hlt : i < n
 · obtain ⟨t, ht⟩ : ∃ t, l[i]? = some t := ⟨_, List.getElem?_eq_getElem (by have := HN.out; omega)⟩
   rcases HP.out.toks with h0 | ⟨b, off, rfl, hb, hc⟩
   · rw [h0] at ht; simp at ht
   have x0 := hc i t ht 0 (by omega)
   have x2 := hc i t ht 2 (by omega)
   simp only [tokV, Nat.add_zero] at x0 x2
   have HR2 : Hid (r = (decide (t.kind = k) && decide (t.text = bs s))) := by show _ = _; rw [HR.out, ht]
   have hk0 : (0 : Int) ≤ (i : Int) := by omega
   have hk1 : (i : Int) < (n : Int) := by omega
   clear ht hc hlt
   by_cases hk : t.kind = k
   · have hkb : (t.kind == k) = true := by simpa using hk
     have HR3 : Hid (r = decide (t.text = bs s)) := by show _ = _; rw [HR2.out, decide_eq_true hk]; rfl
     have hs : ((⟨t.text.toArray⟩ : ByteArray).toList == s.toList) = decide (t.text = bs s) := by rw [bs_eq_iff]; rfl
     obtain ⟨T, hT⟩ : ∃ T : ByteArray, T = ⟨t.text.toArray⟩ := ⟨_, rfl⟩
     rw [← hT] at x2 hs
     rw [← HR3.out] at hs
     clear hk hT
     cases r
     all_goals
      go_enter Tryz.func174, Tryz.ntmps174
      go_wp2_with fail
      go_quiet (fail)
      go_wp2
      go_ret
      exact ⟨rfl, _, rfl⟩
   · have hkb : (t.kind == k) = false := by simpa using hk
     have HR3 : Hid (r = false) := by show _ = _; rw [HR2.out, decide_eq_false hk]; rfl
     clear hk
     go_enter Tryz.func174, Tryz.ntmps174
     go_wp2_with fail
     go_quiet (fail)
     go_wp2
     go_ret
     rw [HR3.out]
     exact ⟨rfl, _, rfl⟩
 · have HR3 : Hid (r = false) := by show _ = _; rw [HR.out, List.getElem?_eq_none (by have := HN.out; omega)]
   have hk1 : ¬ (i : Int) < (n : Int) := by omega
   have hd : decide ((i : Int) < (n : Int)) = false := decide_eq_false hk1
   have hd2 : decide (i < n) = false := decide_eq_false hlt
   clear hlt
   go_enter Tryz.func174, Tryz.ntmps174
   go_wp2_with fail
   go_quiet (fail)
   go_wp2
   go_ret
   rw [HR3.out]
   exact ⟨rfl, _, rfl⟩

/-- What the parser throws. -/
def thrown (j : Nat) (x : Int) : List PanicEntry := [{ v := .iface 130 (.agg #[.int .i64 (j : Nat), .int .i64 x]), recovered := false }]
set_option maxRecDepth 100000 in
set_option maxHeartbeats 4000000 in
theorem pfail_any (R : Nat) (A : Option Addr) (n c i d : Nat) (x : Int) (w : World) (hR : Rdr w R A n c i d) :
 Calls Tryz.prog 201 #[.pointer (some ⟨R, 0, none⟩), .int .i64 x] w fun e w' => e = .panicked (thrown i x) ∧ w = w' := by
 have c1 := hR.c1
 have hRlt := hR.lt
 obtain ⟨F, hF⟩ : ∃ F : Ending → World → Prop, F = fun e w' => e = .panicked (thrown i x) ∧ w = w' := ⟨_, rfl⟩
 rw [← hF]
 have HF := Lib.hid hF
 clear hR hF
 go_enter Tryz.func201, Tryz.ntmps201
 go_wp2_with fail
 refine (show _ ∧ _ from ⟨rfl, ?_⟩)
 rw [HF.out]
 exact ⟨rfl, rfl⟩
/-- The reader has gone on to token j. -/
def Went (R : Nat) (A : Option Addr) (n c d j : Nat) (w w' : World) : Prop := Rdr w' R A n c j d ∧ Only (fun q => q = R) w w' ∧ w'.heap.size = w.heap.size
theorem went_set {R n c i d j m : Nat} {A : Option Addr} {w : World} (hR : Rdr w R A n c i d) : Went R A n c d j w ((w.drewN m).setCell ⟨R, 1, none⟩ (.int .i64 (j : Nat))) :=
 ⟨(hR.drewN m).at_ j, Only.setF (F := fun q => q = R) ((Only.refl (F := fun q => q = R)).drewN m) rfl _, by simp⟩
theorem went_next {R n c i d m : Nat} {A : Option Addr} {w : World} (hR : Rdr w R A n c i d) : Went R A n c d (i + 1) w ((w.drewN m).setCell ⟨R, 1, none⟩ (.int .i64 ((i : Int) + 1))) := by
 have h := went_set (j := i + 1) (m := m) hR
 rw [show ((i + 1 : Nat) : Int) = (i : Int) + 1 from by omega] at h
 exact h
set_option maxRecDepth 100000 in
set_option maxHeartbeats 4000000 in
theorem pmust_yes (R : Nat) (A : Option Addr) (c i d : Nat) (l : List Tok) (k : Int) (s : ByteArray) (w : World) (hR : Rdr w R A l.length c i d) (hP : PTok w R A c l) (hi : i ≤ 1000000) (h : isTk l i k (bs s) = true) :
 Calls Tryz.prog 223 #[.pointer (some ⟨R, 0, none⟩), .int .i64 k, .string s] w fun e w' => e = .returned (.tuple #[]) ∧ Went R A l.length c d (i + 1) w w' := by
 have his := pis_any R A c i d l k s w hR hP hi
 rw [h] at his
 have hRlt := hR.lt
 obtain ⟨F, hF⟩ : ∃ F : Ending → World → Prop, F = fun e w' => e = .returned (.tuple #[]) ∧ Went R A l.length c d (i + 1) w w' := ⟨_, rfl⟩
 rw [← hF]
 have HF := Lib.hid hF
 have HIS := Lib.hid his
 have HR := Lib.hid hR
 clear hF his hR hP h
 go_enter Tryz.func223, Tryz.ntmps223
 go_wp2_with fail
 refine (HIS.out).mono ?_
 rintro e w' ⟨rfl, m, hw⟩
 rw [hw]
 have c1 := (HR.out.drewN m).c1
 have f1 := (HR.out.drewN m).frozen 1
 have hlt2 : R < (w.drewN m).heap.size := hRlt
 clear hw
 go_wp2_with fail
 refine bodyPost_ret (v := .tuple #[]) (results_none rfl _ _ _) rfl ?_
 rw [HF.out]
 exact ⟨rfl, went_next HR.out⟩
set_option maxRecDepth 100000 in
set_option maxHeartbeats 4000000 in
theorem pmust_no (R : Nat) (A : Option Addr) (c i d : Nat) (l : List Tok) (k : Int) (s : ByteArray) (w : World) (hR : Rdr w R A l.length c i d) (hP : PTok w R A c l) (hi : i ≤ 1000000) (h : isTk l i k (bs s) = false) :
 Calls Tryz.prog 223 #[.pointer (some ⟨R, 0, none⟩), .int .i64 k, .string s] w fun e w' => e = .panicked (thrown i 16) ∧ ∃ m, w' = w.drewN m := by
 have his := pis_any R A c i d l k s w hR hP hi
 rw [h] at his
 have HFA := Lib.hid (fun m => pfail_any R A l.length c i d 16 (w.drewN m) (hR.drewN m))
 obtain ⟨F, hF⟩ : ∃ F : Ending → World → Prop, F = fun e w' => e = .panicked (thrown i 16) ∧ ∃ m, w' = w.drewN m := ⟨_, rfl⟩
 rw [← hF]
 have HF := Lib.hid hF
 have HIS := Lib.hid his
 clear hF his hR hP h
 go_enter Tryz.func223, Tryz.ntmps223
 go_wp2_with fail
 refine (HIS.out).mono ?_
 rintro e w' ⟨rfl, m, hw⟩
 rw [hw]
 clear hw
 go_wp2_with fail
 refine (HFA.out m).mono ?_
 rintro e w' ⟨rfl, hw⟩
 rw [← hw]
 refine (show _ ∧ _ from ⟨rfl, ?_⟩)
 rw [HF.out]
 exact ⟨rfl, _, rfl⟩
theorem went_more {R n c d j m : Nat} {A : Option Addr} {w w' : World} (h : Went R A n c d j w w') : Went R A n c d j w (w'.drewN m) := ⟨h.1.drewN m, h.2.1.drewN m, h.2.2⟩
theorem isKd_some {l : List Tok} {i : Nat} {k : Int} (h : isKd l i k = true) : ∃ t, l[i]? = some t ∧ t.kind = k := by
 unfold isKd at h
 cases ht : l[i]? with
 | none => rw [ht] at h; cases h
 | some t => rw [ht] at h; exact ⟨t, rfl, by simpa using h⟩
theorem isKd_none {l : List Tok} {i : Nat} {k : Int} (h : isKd l i k = false) : l.length ≤ i ∨ ∃ t, l[i]? = some t ∧ t.kind ≠ k := by
 unfold isKd at h
 cases ht : l[i]? with
 | none => exact .inl (List.getElem?_eq_none_iff.1 ht)
 | some t => rw [ht] at h; exact .inr ⟨t, rfl, by simpa using h⟩

set_option maxRecDepth 100000 in
set_option maxHeartbeats 8000000 in
theorem pname_yes (R : Nat) (A : Option Addr) (c i d : Nat) (l : List Tok) (t : Tok) (w : World) (hR : Rdr w R A l.length c i d) (hP : PTok w R A c l) (ht : l[i]? = some t) (hk : t.kind = 2) :
 Calls Tryz.prog 224 #[.pointer (some ⟨R, 0, none⟩)] w fun e w' => e = .returned (.string ⟨t.text.toArray⟩) ∧ Went R A l.length c d (i + 1) w w' := by
 obtain ⟨n, hn⟩ : ∃ n, n = l.length := ⟨_, rfl⟩
 rw [← hn] at hR ⊢
 have hlen := hP.len
 have hcap := hP.cap
 have hcapm := hP.capm
 unfold maxLen at hcapm
 rw [← hn] at hlen hcap
 have hin : i < n := by rw [hn]; exact (List.getElem?_eq_some_iff.1 ht).1
 rcases hP.toks with h0 | ⟨b, off, rfl, hb, hc⟩
 · rw [h0] at ht; simp at ht
 have hbR : b ≠ R := hP.apart _ rfl
 have x0 := hc i t ht 0 (by omega)
 have x2 := hc i t ht 2 (by omega)
 simp only [tokV, Nat.add_zero] at x0 x2
 rw [hk] at x0
 have hRlt := hR.lt
 have c0 := hR.c0
 have c1 := hR.c1
 have f1 := hR.frozen 1
 obtain ⟨F, hF⟩ : ∃ F : Ending → World → Prop, F = fun e w' => e = .returned (.string ⟨t.text.toArray⟩) ∧ Went R (some ⟨b, off, none⟩) n c d (i + 1) w w' := ⟨_, rfl⟩
 rw [← hF]
 have HF := Lib.hid hF
 have HR := Lib.hid hR
 have hk0 : (0 : Int) ≤ (i : Int) := by omega
 have hk1 : (i : Int) < (n : Int) := by omega
 have hge : ¬ (n : Int) ≤ (i : Int) := by omega
 have hged : decide ((n : Int) ≤ (i : Int)) = false := decide_eq_false hge
 have hged2 : decide (n ≤ i) = false := decide_eq_false (by omega)
 have hsub : IntKind.i64.wrap ((i : Int) + 1 - 1) = (i : Int) := by rw [show (i : Int) + 1 - 1 = (i : Int) by omega]; exact IntWalk.i64_in _ (by omega)
 have hsub2 : IntKind.i64.wrap (i : Int) = (i : Int) := IntWalk.i64_in _ (by omega)
 have hbR' : R ≠ b := fun h => hbR h.symm
 clear hF hR hP hc ht hk hn hin
 go_enter Tryz.func224, Tryz.ntmps224
 go_wp2_with fail
 go_quiet (fail)
 go_wp2_with fail
 go_quiet (fail)
 go_wp2_with fail
 rw [HF.out]
 exact ⟨rfl, went_more (went_next HR.out)⟩
set_option maxRecDepth 100000 in
set_option maxHeartbeats 8000000 in
theorem pname_no (R : Nat) (A : Option Addr) (c i d : Nat) (l : List Tok) (w : World) (hR : Rdr w R A l.length c i d) (hP : PTok w R A c l) (hi : i ≤ 1000000) (h : isKd l i 2 = false) :
 Calls Tryz.prog 224 #[.pointer (some ⟨R, 0, none⟩)] w fun e w' => e = .panicked (thrown i 16) ∧ ∃ m, w' = w.drewN m := by
 have HFA := Lib.hid (fun m => pfail_any R A l.length c i d 16 (w.drewN m) (hR.drewN m))
 obtain ⟨n, hn⟩ : ∃ n, n = l.length := ⟨_, rfl⟩
 rw [← hn] at hR
 have hlen := hP.len
 have hcap := hP.cap
 have hcapm := hP.capm
 unfold maxLen at hcapm
 rw [← hn] at hlen hcap
 have hRlt := hR.lt
 have c0 := hR.c0
 have c1 := hR.c1
 obtain ⟨F, hF⟩ : ∃ F : Ending → World → Prop, F = fun e w' => e = .panicked (thrown i 16) ∧ ∃ m, w' = w.drewN m := ⟨_, rfl⟩
 rw [← hF]
 have HF := Lib.hid hF
 have hk0 : (0 : Int) ≤ (i : Int) := by omega
 clear hF
 rcases isKd_none h with hge | ⟨t, ht, hk⟩
 · rw [← hn] at hge
   have hge' : (n : Int) ≤ (i : Int) := by omega
   have hged : decide ((n : Int) ≤ (i : Int)) = true := decide_eq_true hge'
   have hged2 : decide (n ≤ i) = true := decide_eq_true hge
   clear hR hP h hn hge
   go_enter Tryz.func224, Tryz.ntmps224
   go_wp2_with fail
   go_quiet (fail)
   go_wp2_with fail
   refine (HFA.out _).mono ?_
   rintro e w' ⟨rfl, hw⟩
   rw [← hw]
   refine (show _ ∧ _ from ⟨rfl, ?_⟩)
   rw [HF.out]
   exact ⟨rfl, _, rfl⟩
 · have hin : i < n := by rw [hn]; exact (List.getElem?_eq_some_iff.1 ht).1
   rcases hP.toks with h0 | ⟨b, off, rfl, hb, hc⟩
   · rw [h0] at ht; simp at ht
   have x0 := hc i t ht 0 (by omega)
   simp only [tokV, Nat.add_zero] at x0
   have hk1 : (i : Int) < (n : Int) := by omega
   have hged : decide ((n : Int) ≤ (i : Int)) = false := decide_eq_false (by omega)
   have hged2 : decide (n ≤ i) = false := decide_eq_false (by omega)
   have hkb : (t.kind != 2) = true := by simpa using hk
   have hkb2 : (t.kind == 2) = false := by simpa using hk
   clear hR hP h hn hc ht hk hin
   go_enter Tryz.func224, Tryz.ntmps224
   go_wp2_with fail
   go_quiet (fail)
   go_wp2_with fail
   refine (HFA.out _).mono ?_
   rintro e w' ⟨rfl, hw⟩
   rw [← hw]
   refine (show _ ∧ _ from ⟨rfl, ?_⟩)
   rw [HF.out]
   exact ⟨rfl, _, rfl⟩
set_option maxRecDepth 100000 in
set_option maxHeartbeats 8000000 in
theorem pnum_yes (R : Nat) (A : Option Addr) (c i d : Nat) (l : List Tok) (t : Tok) (w : World) (hR : Rdr w R A l.length c i d) (hP : PTok w R A c l) (ht : l[i]? = some t) (hk : t.kind = 1) :
 Calls Tryz.prog 222 #[.pointer (some ⟨R, 0, none⟩)] w fun e w' => e = .returned (.int .i64 t.n) ∧ Went R A l.length c d (i + 1) w w' := by
 obtain ⟨n, hn⟩ : ∃ n, n = l.length := ⟨_, rfl⟩
 rw [← hn] at hR ⊢
 have hlen := hP.len
 have hcap := hP.cap
 have hcapm := hP.capm
 unfold maxLen at hcapm
 rw [← hn] at hlen hcap
 have hin : i < n := by rw [hn]; exact (List.getElem?_eq_some_iff.1 ht).1
 rcases hP.toks with h0 | ⟨b, off, rfl, hb, hc⟩
 · rw [h0] at ht; simp at ht
 have hbR : b ≠ R := hP.apart _ rfl
 have x0 := hc i t ht 0 (by omega)
 have x2 := hc i t ht 1 (by omega)
 simp only [tokV, Nat.add_zero] at x0 x2
 rw [hk] at x0
 have hRlt := hR.lt
 have c0 := hR.c0
 have c1 := hR.c1
 have f1 := hR.frozen 1
 obtain ⟨F, hF⟩ : ∃ F : Ending → World → Prop, F = fun e w' => e = .returned (.int .i64 t.n) ∧ Went R (some ⟨b, off, none⟩) n c d (i + 1) w w' := ⟨_, rfl⟩
 rw [← hF]
 have HF := Lib.hid hF
 have HR := Lib.hid hR
 have hk0 : (0 : Int) ≤ (i : Int) := by omega
 have hk1 : (i : Int) < (n : Int) := by omega
 have hge : ¬ (n : Int) ≤ (i : Int) := by omega
 have hged : decide ((n : Int) ≤ (i : Int)) = false := decide_eq_false hge
 have hged2 : decide (n ≤ i) = false := decide_eq_false (by omega)
 have hsub : IntKind.i64.wrap ((i : Int) + 1 - 1) = (i : Int) := by rw [show (i : Int) + 1 - 1 = (i : Int) by omega]; exact IntWalk.i64_in _ (by omega)
 have hsub2 : IntKind.i64.wrap (i : Int) = (i : Int) := IntWalk.i64_in _ (by omega)
 have hbR' : R ≠ b := fun h => hbR h.symm
 clear hF hR hP hc ht hk hn hin
 go_enter Tryz.func222, Tryz.ntmps222
 go_wp2_with fail
 go_quiet (fail)
 go_wp2_with fail
 go_quiet (fail)
 go_wp2_with fail
 rw [HF.out]
 exact ⟨rfl, went_more (went_next HR.out)⟩
set_option maxRecDepth 100000 in
set_option maxHeartbeats 8000000 in
theorem pnum_no (R : Nat) (A : Option Addr) (c i d : Nat) (l : List Tok) (w : World) (hR : Rdr w R A l.length c i d) (hP : PTok w R A c l) (hi : i ≤ 1000000) (h : isKd l i 1 = false) :
 Calls Tryz.prog 222 #[.pointer (some ⟨R, 0, none⟩)] w fun e w' => e = .panicked (thrown i 16) ∧ ∃ m, w' = w.drewN m := by
 have HFA := Lib.hid (fun m => pfail_any R A l.length c i d 16 (w.drewN m) (hR.drewN m))
 obtain ⟨n, hn⟩ : ∃ n, n = l.length := ⟨_, rfl⟩
 rw [← hn] at hR
 have hlen := hP.len
 have hcap := hP.cap
 have hcapm := hP.capm
 unfold maxLen at hcapm
 rw [← hn] at hlen hcap
 have hRlt := hR.lt
 have c0 := hR.c0
 have c1 := hR.c1
 obtain ⟨F, hF⟩ : ∃ F : Ending → World → Prop, F = fun e w' => e = .panicked (thrown i 16) ∧ ∃ m, w' = w.drewN m := ⟨_, rfl⟩
 rw [← hF]
 have HF := Lib.hid hF
 have hk0 : (0 : Int) ≤ (i : Int) := by omega
 clear hF
 rcases isKd_none h with hge | ⟨t, ht, hk⟩
 · rw [← hn] at hge
   have hge' : (n : Int) ≤ (i : Int) := by omega
   have hged : decide ((n : Int) ≤ (i : Int)) = true := decide_eq_true hge'
   have hged2 : decide (n ≤ i) = true := decide_eq_true hge
   clear hR hP h hn hge
   go_enter Tryz.func222, Tryz.ntmps222
   go_wp2_with fail
   go_quiet (fail)
   go_wp2_with fail
   refine (HFA.out _).mono ?_
   rintro e w' ⟨rfl, hw⟩
   rw [← hw]
   refine (show _ ∧ _ from ⟨rfl, ?_⟩)
   rw [HF.out]
   exact ⟨rfl, _, rfl⟩
 · have hin : i < n := by rw [hn]; exact (List.getElem?_eq_some_iff.1 ht).1
   rcases hP.toks with h0 | ⟨b, off, rfl, hb, hc⟩
   · rw [h0] at ht; simp at ht
   have x0 := hc i t ht 0 (by omega)
   simp only [tokV, Nat.add_zero] at x0
   have hk1 : (i : Int) < (n : Int) := by omega
   have hged : decide ((n : Int) ≤ (i : Int)) = false := decide_eq_false (by omega)
   have hged2 : decide (n ≤ i) = false := decide_eq_false (by omega)
   have hkb : (t.kind != 1) = true := by simpa using hk
   have hkb2 : (t.kind == 1) = false := by simpa using hk
   clear hR hP h hn hc ht hk hin
   go_enter Tryz.func222, Tryz.ntmps222
   go_wp2_with fail
   go_quiet (fail)
   go_wp2_with fail
   refine (HFA.out _).mono ?_
   rintro e w' ⟨rfl, hw⟩
   rw [← hw]
   refine (show _ ∧ _ from ⟨rfl, ?_⟩)
   rw [HF.out]
   exact ⟨rfl, _, rfl⟩
end Go.Proofs.YtnbphgeepnknlaaGreatDoor
namespace Go.Proofs.YtnbphgeepnknlaaGreatDoor
open Go.RowKit
set_option linter.unusedVariables false

/-- A row of operators. -/
def OpsAt (w : World) (b : Nat) (l : List Int) : Prop := ∀ j z, l[j]? = some z → w.cell? ⟨b, j, none⟩ = some (.int .i64 z)
theorem OpsAt.drewN {w : World} {b : Nat} {l : List Int} (h : OpsAt w b l) (m : Nat) : OpsAt (w.drewN m) b l := h
theorem ops_new (w : World) (l : List Int) : OpsAt (w.alloc (.cells (l.map fun z => Value.int .i64 z).toArray 3)) w.heap.size l := fun j z hj => by
 rw [cell_of_row _ w.heap.size j _ _ (0, 0) (heap_alloc_new w _)]
 simp [hj]
theorem which_drop (l : List Tok) (i : Nat) : ∀ (ops : List Int) (k : Nat) (op : Int), ops[k]? = some op → whichOp l i (ops.drop k) = if (if op = 17 then isTk l i 3 [109, 111, 100] else isTk l i 4 (signB op)) = true then op else whichOp l i (ops.drop (k + 1)) := by
 intro ops k op h
 obtain ⟨hj, hj2⟩ := List.getElem?_eq_some_iff.1 h
 rw [List.drop_eq_getElem_cons hj, hj2, whichOp]

set_option maxRecDepth 100000 in
set_option maxHeartbeats 8000000 in
theorem psign_any (R : Nat) (A : Option Addr) (c i d : Nat) (l : List Tok) (bo co : Nat) (ops : List Int) (w : World) (hR : Rdr w R A l.length c i d) (hP : PTok w R A c l) (hi : i ≤ 1000000) (ho : OpsAt w bo ops) (hol : ops.length ≤ 20) (hb : bo < w.heap.size) :
 Calls Tryz.prog 126 #[.pointer (some ⟨R, 0, none⟩), .slice (some ⟨bo, 0, none⟩) ops.length co] w fun e w' => e = .returned (.int .i64 (whichOp l i ops)) ∧ ∃ n, w' = w.drewN n := by
 obtain ⟨n, hn⟩ : ∃ n, n = ops.length := ⟨_, rfl⟩
 obtain ⟨r, hr⟩ : ∃ r, r = whichOp l i ops := ⟨_, rfl⟩
 obtain ⟨F, hF⟩ : ∃ F : Ending → World → Prop, F = fun e w' => e = .returned (.int .i64 r) ∧ ∃ n, w' = w.drewN n := ⟨_, rfl⟩
 rw [← hn] at hol ⊢
 rw [← hr, ← hF]
 have HRD := Lib.hid hR
 have HPD := Lib.hid hP
 have hRlt := hR.lt
 have HF := Lib.hid hF
 have HN := Lib.hid hn
 have HR := Lib.hid hr
 have HO := Lib.hid ho
 clear hF hn hr hR hP ho
 go_enter Tryz.func126, Tryz.ntmps126
 go_wp2_with fail
 go_loopw [6, 9] (fun _ si wr => ∃ k m : Nat, k ≤ n ∧ si = .int .i64 k ∧ wr = w.drewN m ∧ whichOp l i (ops.drop k) = r) (fun _ i _ => n - (intOf i).toNat)
 case atStart => exact ⟨0, 0, Nat.zero_le _, rfl, rfl, HR.out.symm⟩
 case round =>
  obtain ⟨k, m, hk, rfl, hwr, hw⟩ := hrel
  have hRr : Rdr wr R A l.length c i d := by rw [hwr]; exact HRD.out.drewN m
  have hPr : PTok wr R A c l := by rw [hwr]; exact HPD.out.only (Only.refl.drewN m)
  have hOr : OpsAt wr bo ops := by rw [hwr]; exact HO.out.drewN m
  have hbr : bo < wr.heap.size := by rw [hwr]; exact hb
  have HFW : Hid (∀ q, ∃ n, wr.drewN q = w.drewN n) := fun q => ⟨m + q, by rw [hwr, World.drewN_drewN]⟩
  have HW := Lib.hid hw
  clear hw hwr
  by_cases hlt : k < n
  · obtain ⟨op, hop⟩ : ∃ op, ops[k]? = some op := ⟨_, List.getElem?_eq_getElem (by have := HN.out; omega)⟩
    have x0 := hOr k op hop
    have HD := Lib.hid (which_drop l i ops k op hop)
    have hk0 : (0 : Int) ≤ (k : Int) := by omega
    have hk1 : (k : Int) < (n : Int) := by omega
    clear hop
    by_cases h17 : op = 17
    · subst h17
      obtain ⟨bw, hbw⟩ : ∃ bw, bw = isTk l i 3 [109, 111, 100] := ⟨_, rfl⟩
      have HI2 : Hid (∀ q, Calls Tryz.prog 174 #[.pointer (some ⟨R, 0, none⟩), .int .i64 3, .string ⟨#[109, 111, 100]⟩] (wr.drewN q) fun e w' => e = .returned (.bool bw) ∧ ∃ n, w' = (wr.drewN q).drewN n) := fun q => by
       have h := pis_any R A c i d l 3 ⟨#[109, 111, 100]⟩ (wr.drewN q) (hRr.drewN q) (hPr.only (Only.refl.drewN q)) hi
       rw [show isTk l i 3 (bs ⟨#[109, 111, 100]⟩) = bw by rw [hbw]; rfl] at h
       exact h
      have HB := Lib.hid hbw
      clear hbw hRr hPr hOr
      cases bw with
      | true =>
       have HRR : Hid (r = 17) := by show _ = _; rw [← HW.out, HD.out, if_pos rfl, ← HB.out, if_pos rfl]
       go_wp2_with fail
       go_quiet ((go_at_call 174; exact Calls.quiet_of (HI2.out _)))
       go_wp2_with fail
       rw [HF.out, HRR.out]
       exact ⟨rfl, HFW.out _⟩
      | false =>
       have HRR : Hid (whichOp l i (ops.drop (k + 1)) = r) := by show _ = _; rw [← HW.out, HD.out, if_pos rfl, ← HB.out, if_neg (by decide)]
       go_wp2_with fail
       go_quiet ((go_at_call 174; exact Calls.quiet_of (HI2.out _)))
       go_wp2_with fail
       go_roundw
       case rel => exact ⟨k + 1, (HFW.out _).choose, by omega, by go_num, (HFW.out _).choose_spec, HRR.out⟩
       case measure => simp [intOf]; omega
    · obtain ⟨bw, hbw⟩ : ∃ bw, bw = isTk l i 4 (signB op) := ⟨_, rfl⟩
      obtain ⟨S, hS⟩ : ∃ S : ByteArray, S = ⟨(signB op).toArray⟩ := ⟨_, rfl⟩
      have HI2 : Hid (∀ q, Calls Tryz.prog 174 #[.pointer (some ⟨R, 0, none⟩), .int .i64 4, .string S] (wr.drewN q) fun e w' => e = .returned (.bool bw) ∧ ∃ n, w' = (wr.drewN q).drewN n) := fun q => by
       have h := pis_any R A c i d l 4 S (wr.drewN q) (hRr.drewN q) (hPr.only (Only.refl.drewN q)) hi
       rw [show isTk l i 4 (bs S) = bw by rw [hbw, hS]; rfl] at h
       exact h
      have HSG : Hid (∀ q, Calls Tryz.prog 112 #[.int .i64 op] (wr.drewN q) fun e w' => e = .returned (.string S) ∧ w' = wr.drewN q) := fun q => by
       rw [hS]
       exact (signOf_any op (wr.drewN q)).mono fun _ _ h => ⟨h.1, h.2.symm⟩
      have HB := Lib.hid hbw
      have H17 := Lib.hid h17
      have h17a : (op != 17) = true := by simpa using h17
      have h17b : (op == 17) = false := by simpa using h17
      clear hbw hRr hPr hOr h17 hS
      cases bw with
      | true =>
       have HRR : Hid (r = op) := by show _ = _; rw [← HW.out, HD.out, if_neg H17.out, ← HB.out, if_pos rfl]
       go_wp2_with fail
       go_quiet (first | (go_at_call 174; exact Calls.quiet_of (HI2.out _)) | (go_at_call 112; exact Calls.quiet_of_same (HSG.out _)) | fail)
       go_wp2_with fail
       rw [HF.out, HRR.out]
       exact ⟨rfl, HFW.out _⟩
      | false =>
       have HRR : Hid (whichOp l i (ops.drop (k + 1)) = r) := by show _ = _; rw [← HW.out, HD.out, if_neg H17.out, ← HB.out, if_neg (by decide)]
       go_wp2_with fail
       go_quiet (first | (go_at_call 174; exact Calls.quiet_of (HI2.out _)) | (go_at_call 112; exact Calls.quiet_of_same (HSG.out _)) | fail)
       go_wp2_with fail
       go_roundw
       case rel => exact ⟨k + 1, (HFW.out _).choose, by omega, by go_num, (HFW.out _).choose_spec, HRR.out⟩
       case measure => simp [intOf]; omega
  · have hk1 : ¬ (k : Int) < (n : Int) := by omega
    have HRR : Hid (r = 0) := by
     show _ = _
     rw [← HW.out, List.drop_eq_nil_of_le (by have := HN.out; omega)]
     rfl
    clear hRr hPr hOr hlt
    go_wp2_with fail
    rw [HF.out, HRR.out]
    exact ⟨rfl, by have := HFW.out 0; exact this⟩
end Go.Proofs.YtnbphgeepnknlaaGreatDoor
namespace Go.Proofs.YtnbphgeepnknlaaGreatDoor
open Go.RowKit
set_option linter.unusedVariables false

/-- The blocks that S names are kept. -/
structure KeepS (S : Nat → Prop) (w w' : World) : Prop where
 size : w.heap.size ≤ w'.heap.size
 block : ∀ q, S q → q < w.heap.size → w'.heap[q]? = w.heap[q]?
theorem KeepS.cell {S : Nat → Prop} {w w' : World} (h : KeepS S w w') {b o : Nat} (hs : S b) (hb : b < w.heap.size) : w'.cell? ⟨b, o, none⟩ = w.cell? ⟨b, o, none⟩ := World.cell?_of_block (a := ⟨b, o, none⟩) (h.block b hs hb)
theorem KeepS.refl {S : Nat → Prop} {w : World} : KeepS S w w := ⟨Nat.le_refl _, fun _ _ _ => rfl⟩
theorem KeepS.trans {S : Nat → Prop} {w w' w'' : World} (h : KeepS S w w') (k : KeepS S w' w'') : KeepS S w w'' := ⟨Nat.le_trans h.size k.size, fun q hs hq => (k.block q hs (Nat.lt_of_lt_of_le hq h.size)).trans (h.block q hs hq)⟩
theorem KeepS.of_only {S : Nat → Prop} {R : Nat} {w w' : World} (h : Only (fun q => q = R) w w') (hR : ¬ S R) : KeepS S w w' := ⟨h.size, fun q hs hq => h.block q hq (fun e => hR (e ▸ hs))⟩
theorem KeepS.of_below {S : Nat → Prop} {w w' : World} (h : Below w.heap.size w w') : KeepS S w w' := ⟨h.size, fun q _ hq => h.block q hq⟩
theorem KeepS.set {S : Nat → Prop} {w w' : World} (h : KeepS S w w') {b o : Nat} (hb : ¬ S b) (v : Value) : KeepS S w (w'.setCell ⟨b, o, none⟩ v) := ⟨by simpa using h.size, fun q hs hq => (heap_setCell_other w' ⟨b, o, none⟩ q v (fun e => hb (by subst e; exact hs))).trans (h.block q hs hq)⟩
theorem KeepS.alloc {S : Nat → Prop} {w w' : World} (h : KeepS S w w') (o : Obj) : KeepS S w (w'.alloc o) := ⟨by simp; exact Nat.le_succ_of_le h.size, fun q hs hq => (((Below.refl w'.heap.size w').alloc (Nat.le_refl _) o).block q (Nat.lt_of_lt_of_le hq h.size)).trans (h.block q hs hq)⟩
mutual
def TmAtS (S : Nat → Prop) (w : World) (g o : Nat) : Tm → Prop
 | .mk op n s l => w.cell? ⟨g, o, none⟩ = some (.int .i64 op) ∧ w.cell? ⟨g, o + 1, none⟩ = some (.int .i64 n) ∧ w.cell? ⟨g, o + 2, none⟩ = some (.string s) ∧ s.size ≤ maxLen ∧
  ∃ A c, w.cell? ⟨g, o + 3, none⟩ = some (.slice A l.length c) ∧ l.length ≤ c ∧ c ≤ maxLen ∧ (l = [] ∨ ∃ g' o', A = some ⟨g', o', none⟩ ∧ S g' ∧ g' < w.heap.size ∧ TmRowS S w g' o' l)
def TmRowS (S : Nat → Prop) (w : World) (g o : Nat) : List Tm → Prop
 | [] => True
 | t :: r => TmAtS S w g o t ∧ TmRowS S w g (o + 4) r
end
def KidsS (S : Nat → Prop) (w : World) (A : Option Addr) (l : List Tm) : Prop := l = [] ∨ ∃ g' o', A = some ⟨g', o', none⟩ ∧ S g' ∧ g' < w.heap.size ∧ TmRowS S w g' o' l
mutual
theorem TmAtS.toAt {S : Nat → Prop} {w : World} : ∀ {t : Tm} {g o : Nat}, TmAtS S w g o t → TmAt w g o t
 | .mk op n s l, g, o, h => by
  rw [TmAtS] at h
  rw [TmAt]
  obtain ⟨h0, h1, h2, hs, A, c, h3, h4, h5, h6⟩ := h
  refine ⟨h0, h1, h2, hs, A, c, h3, h4, h5, ?_⟩
  rcases h6 with h6 | ⟨g', o', hA, _, hg, h6⟩
  · exact .inl h6
  · exact .inr ⟨g', o', hA, hg, TmRowS.toRow h6⟩
theorem TmRowS.toRow {S : Nat → Prop} {w : World} : ∀ {l : List Tm} {g o : Nat}, TmRowS S w g o l → TmRow w g o l
 | [], g, o, h => by rw [TmRow]; trivial
 | t :: r, g, o, h => by
  rw [TmRowS] at h
  rw [TmRow]
  exact ⟨TmAtS.toAt h.1, TmRowS.toRow h.2⟩
end
mutual
theorem TmAtS.keep {S S' : Nat → Prop} {w w' : World} (ho : KeepS S w w') (hS : ∀ q, q < w.heap.size → S q → S' q) : ∀ {t : Tm} {g o : Nat}, S g → g < w.heap.size → TmAtS S w g o t → TmAtS S' w' g o t
 | .mk op n s l, g, o, hg, hl, h => by
  rw [TmAtS] at h ⊢
  obtain ⟨h0, h1, h2, hs, A, c, h3, h4, h5, h6⟩ := h
  refine ⟨by rw [ho.cell hg hl]; exact h0, by rw [ho.cell hg hl]; exact h1, by rw [ho.cell hg hl]; exact h2, hs, A, c, by rw [ho.cell hg hl]; exact h3, h4, h5, ?_⟩
  rcases h6 with h6 | ⟨g', o', hA, hn, hg', h6⟩
  · exact .inl h6
  · exact .inr ⟨g', o', hA, hS g' hg' hn, Nat.lt_of_lt_of_le hg' ho.size, TmRowS.keep ho hS hn hg' h6⟩
theorem TmRowS.keep {S S' : Nat → Prop} {w w' : World} (ho : KeepS S w w') (hS : ∀ q, q < w.heap.size → S q → S' q) : ∀ {l : List Tm} {g o : Nat}, S g → g < w.heap.size → TmRowS S w g o l → TmRowS S' w' g o l
 | [], g, o, _, _, h => by rw [TmRowS]; trivial
 | t :: r, g, o, hg, hl, h => by
  rw [TmRowS] at h ⊢
  exact ⟨TmAtS.keep ho hS hg hl h.1, TmRowS.keep ho hS hg hl h.2⟩
end
/-- The value of a term whose rows lie in blocks of S. -/
structure TmVS (S : Nat → Prop) (w : World) (A : Option Addr) (c : Nat) (t : Tm) : Prop where
 cap : t.kids.length ≤ c
 capm : c ≤ maxLen
 name : t.name.size ≤ maxLen
 kids : KidsS S w A t.kids
theorem TmVS.toV {S : Nat → Prop} {c : Nat} {w : World} {A : Option Addr} {t : Tm} (h : TmVS S w A c t) : TmV w A c t := ⟨h.cap, h.capm, h.name, by
 rcases h.kids with h | ⟨g', o', hA, _, hg, h⟩
 · exact .inl h
 · exact .inr ⟨g', o', hA, hg, TmRowS.toRow h⟩⟩
theorem TmVS.keep {S S' : Nat → Prop} {c : Nat} {w w' : World} {A : Option Addr} {t : Tm} (h : TmVS S w A c t) (ho : KeepS S w w') (hS : ∀ q, q < w.heap.size → S q → S' q) : TmVS S' w' A c t := ⟨h.cap, h.capm, h.name, by
 rcases h.kids with h | ⟨g', o', hA, hs, hg, h⟩
 · exact .inl h
 · exact .inr ⟨g', o', hA, hS g' hg hs, Nat.lt_of_lt_of_le hg ho.size, TmRowS.keep ho hS hs hg h⟩⟩
theorem TmAtS.mk {S : Nat → Prop} {w : World} {g o : Nat} {t : Tm} {A : Option Addr} {c : Nat} (h0 : w.cell? ⟨g, o, none⟩ = some (.int .i64 t.op)) (h1 : w.cell? ⟨g, o + 1, none⟩ = some (.int .i64 t.num)) (h2 : w.cell? ⟨g, o + 2, none⟩ = some (.string t.name)) (h3 : w.cell? ⟨g, o + 3, none⟩ = some (.slice A t.kids.length c)) (h : TmVS S w A c t) : TmAtS S w g o t := by
 cases t with
 | mk op n s l =>
  rw [TmAtS]
  exact ⟨h0, h1, h2, h.name, A, c, h3, h.cap, h.capm, h.kids⟩
theorem TmVS.leaf {S : Nat → Prop} {w : World} {op n : Int} {s : ByteArray} (hs : s.size ≤ maxLen) : TmVS S w none 0 (.mk op n s []) := ⟨Nat.le_refl _, by unfold maxLen; show 0 ≤ _; omega, hs, .inl rfl⟩
/-- What a parser leaves. -/
def PQ (R : Nat) (A : Option Addr) (c d : Nat) (l : List Tok) (i : Nat) (r : Rs Tm) (w : World) (e : Ending) (w' : World) : Prop := match r with
 | .ok t j => (∃ A' c', e = .returned (t.val A' c') ∧ TmVS (fun q => w.heap.size ≤ q) w' A' c' t) ∧ i < j ∧ j ≤ l.length ∧ Rdr w' R A l.length c j d ∧ Only (fun q => q = R) w w'
 | .bad j x => e = .panicked (thrown j x) ∧ Only (fun q => q = R) w w'
/-- A function that parses as P, at depth d, with the one argument x. -/
def FnC (R : Nat) (A : Option Addr) (c d : Nat) (l : List Tok) (K : FuncId) (x : Value) (Inv : World → Prop) (P : Par) : Prop :=
 ∀ (i : Nat) (w : World), i ≤ l.length → Rdr w R A l.length c i d → PTok w R A c l → Inv w → Calls Tryz.prog K #[x] w (PQ R A c d l i (P i) w)
/-- A function value whose call, with no argument, is a call of K with x. -/
def fvOf (m : Bool) (K : FuncId) (x : Value) : Value := if m then .func (.func K) #[x] #[] else .func (.func K) #[] #[x]
theorem Went.only {R n c d j : Nat} {A : Option Addr} {w w' : World} (h : Went R A n c d j w w') : Only (fun q => q = R) w w' := h.2.1

theorem cells4 {w : World} {b : Nat} {u0 u1 u2 u3 : Value} {T : TypeId} (h : w.heap[b]? = some (.cells #[u0, u1, u2, u3] T (0, 0))) :
 (w.cell? ⟨b, 0, none⟩ = some u0 ∧ w.frozen? ⟨b, 0, none⟩ = false) ∧ (w.cell? ⟨b, 1, none⟩ = some u1 ∧ w.frozen? ⟨b, 1, none⟩ = false) ∧ (w.cell? ⟨b, 2, none⟩ = some u2 ∧ w.frozen? ⟨b, 2, none⟩ = false) ∧ w.cell? ⟨b, 3, none⟩ = some u3 ∧ w.frozen? ⟨b, 3, none⟩ = false :=
 ⟨⟨by rw [cell_of_row w b 0 _ _ (0, 0) h]; rfl, by simp [World.frozen?, h]⟩, ⟨by rw [cell_of_row w b 1 _ _ (0, 0) h]; rfl, by simp [World.frozen?, h]⟩, ⟨by rw [cell_of_row w b 2 _ _ (0, 0) h]; rfl, by simp [World.frozen?, h]⟩, by rw [cell_of_row w b 3 _ _ (0, 0) h]; rfl, by simp [World.frozen?, h]⟩
theorem alloc_keep {W : World} {o : Obj} {b : Nat} {x : Obj} (h : W.heap[b]? = some x) : (W.alloc o).heap[b]? = some x := (((Below.refl W.heap.size W).alloc (Nat.le_refl _) o).block b (lt_of_heap h)).trans h
/-- Stores into a block of one's own are none to the world before. -/
theorem only_new {R : Nat} {w W : World} {o : Obj} {v0 v1 v2 v3 : Value} (h : Only (fun q => q = R) w W) : Only (fun q => q = R) w (((((W.setCell ⟨w.heap.size, 0, none⟩ v0).setCell ⟨w.heap.size, 1, none⟩ v1).setCell ⟨w.heap.size, 2, none⟩ v2).setCell ⟨w.heap.size, 3, none⟩ v3).alloc o) := by
 refine ⟨h.os, h.tape, h.output, by simp; exact Nat.le_succ_of_le h.size, fun q hq hf => ?_⟩
 have hne : q ≠ w.heap.size := by omega
 rw [((Below.refl _ _).alloc (Nat.le_refl _) o).block q (by simp; exact Nat.lt_of_lt_of_le hq h.size), heap_setCell_other _ ⟨w.heap.size, 3, none⟩ q _ hne, heap_setCell_other _ ⟨w.heap.size, 2, none⟩ q _ hne, heap_setCell_other _ ⟨w.heap.size, 1, none⟩ q _ hne, heap_setCell_other _ ⟨w.heap.size, 0, none⟩ q _ hne]
 exact h.block q hq hf
theorem res4 {W : World} {b : Nat} {u0 u1 u2 u3 v0 v1 v2 v3 : Value} {T : TypeId} (h : W.heap[b]? = some (.cells #[u0, u1, u2, u3] T (0, 0))) :
 ((((W.setCell ⟨b, 0, none⟩ v0).setCell ⟨b, 1, none⟩ v1).setCell ⟨b, 2, none⟩ v2).setCell ⟨b, 3, none⟩ v3).heap[b]? = some (.cells #[v0, v1, v2, v3] T (0, 0)) := by
 simp [World.setCell, Array.getElem?_modify, h]
set_option maxRecDepth 100000 in
set_option maxHeartbeats 8000000 in
theorem pinside_any (R : Nat) (A : Option Addr) (c d : Nat) (l : List Tok) (K : FuncId) (x : Value) (m : Bool) (Inv : World → Prop) (P : Par) (i : Nat) (w : World) (hrun : ∀ args W, (callFunc K args).run Tryz.prog W = .ok (.enter K args) W)
 (hInv : ∀ w w', Inv w → Only (fun q => q = R) w w' → Inv w') (hF : d < 256 → FnC R A c (d + 1) l K x Inv P) (hd : d ≤ 256) (hi : i < l.length) (hR : Rdr w R A l.length c i d) (hP : PTok w R A c l) (hw : Inv w) :
 Calls Tryz.prog 173 #[.pointer (some ⟨R, 0, none⟩), fvOf m K x] w (PQ R A c d l i (if d = 256 then .bad i 17 else P (i + 1)) w) := by
 have hlen := hP.len
 obtain ⟨w1, hw1⟩ : ∃ w1, w1 = w.alloc (.cells #[.int .i64 0, .int .i64 0, .string ⟨#[]⟩, .slice none 0 0] 25) := ⟨_, rfl⟩
 have hb1 : Below w.heap.size w w1 := by rw [hw1]; exact (Below.refl _ _).alloc (Nat.le_refl _) _
 have hs1 : w1.heap.size = w.heap.size + 1 := by rw [hw1]; simp
 have hR1 := hR.below hb1 hR.lt
 have hRlt := hR.lt
 have d1 := hR.c1
 have d2 := hR.c2
 have c0 := hR1.c0
 have c1 := hR1.c1
 have c2 := hR1.c2
 have f1 := hR1.frozen 1
 have f2 := hR1.frozen 2
 have e1 := hR.frozen 1
 have e2 := hR.frozen 2
 obtain ⟨F, hF0⟩ : ∃ F, F = PQ R A c d l i (if d = 256 then .bad i 17 else P (i + 1)) w := ⟨_, rfl⟩
 rw [← hF0]
 have HF := Lib.hid hF0
 have HW1 := Lib.hid hw1
 have HB1 := Lib.hid hb1
 have HR1 := Lib.hid hR1
 have HRW := Lib.hid hR
 have HFN := Lib.hid hF
 have HINV := Lib.hid hInv
 have HP := Lib.hid hP
 have HWI := Lib.hid hw
 clear hF0 hw1 hb1 hR hR1 hF hInv hP hw
 by_cases h256 : d = 256
 · have HRE : Hid (F = PQ R A c d l i (.bad i 17) w) := by show _ = _; rw [HF.out, if_pos h256]
   have hd1 : (256 : Int) ≤ (d : Int) := by omega
   have HFA := Lib.hid (pfail_any R A l.length c i d 17 w1 HR1.out)
   clear h256
   go_enter Tryz.func173, Tryz.ntmps173
   go_wp2_with fail
   rw [← HW1.out]
   go_wp2_with fail
   refine (HFA.out).mono ?_
   rintro e w' ⟨rfl, hw'⟩
   rw [← hw']
   refine (show _ ∧ _ from ⟨rfl, ?_⟩)
   rw [HRE.out]
   exact ⟨rfl, Only.of_below HB1.out⟩
 · have HRE : Hid (F = PQ R A c d l i (P (i + 1)) w) := by show _ = _; rw [HF.out, if_neg h256]
   have hd1 : ¬ (256 : Int) ≤ (d : Int) := by omega
   have hd2 : d < 256 := by omega
   obtain ⟨w3, hw3⟩ : ∃ w3, w3 = ((w.setCell ⟨R, 1, none⟩ (.int .i64 ((i : Int) + 1))).setCell ⟨R, 2, none⟩ (.int .i64 ((d : Int) + 1))).alloc (.cells #[.int .i64 0, .int .i64 0, .string ⟨#[]⟩, .slice none 0 0] 25) := ⟨_, rfl⟩
   have ho3 : Only (fun q => q = R) w w3 := by
    rw [hw3]
    exact (((Only.refl (F := fun q => q = R)).setF rfl _).setF rfl _).thenBelow ((Below.refl _ _).alloc (Nat.le_refl _) _) (by simp)
   have hR3 : Rdr w3 R A l.length c (i + 1) (d + 1) := by
    have h := ((HRW.out.at_ (i + 1)).deep (d + 1))
    rw [hw3]
    refine Rdr.below (B := w.heap.size) (w := (w.setCell ⟨R, 1, none⟩ (.int .i64 ((i : Int) + 1))).setCell ⟨R, 2, none⟩ (.int .i64 ((d : Int) + 1))) ?_ ((Below.refl _ _).alloc (by simp) _) hRlt
    rw [show ((i + 1 : Nat) : Int) = (i : Int) + 1 from by omega, show ((d + 1 : Nat) : Int) = (d : Int) + 1 from by omega] at h
    exact h
   have hcall := HFN.out hd2 (i + 1) w3 (by omega) hR3 (HP.out.only ho3) (HINV.out w w3 HWI.out ho3)
   obtain ⟨r, hr⟩ : ∃ r, r = P (i + 1) := ⟨_, rfl⟩
   rw [← hr] at hcall HRE
   have hb3 : w3.heap[w.heap.size]? = some (.cells #[.int .i64 0, .int .i64 0, .string ⟨#[]⟩, .slice none 0 0] 25 (0, 0)) := by
    rw [hw3]
    have h := heap_alloc_new ((w.setCell ⟨R, 1, none⟩ (.int .i64 ((i : Int) + 1))).setCell ⟨R, 2, none⟩ (.int .i64 ((d : Int) + 1))) (.cells #[.int .i64 0, .int .i64 0, .string ⟨#[]⟩, .slice none 0 0] 25)
    simpa using h
   have hs3 : w3.heap.size = w.heap.size + 1 := by rw [hw3]; simp
   have HC := Lib.hid hcall
   have HO3 := Lib.hid ho3
   have HB3 := Lib.hid hb3
   have HW3 := Lib.hid hw3
   clear hcall hr ho3 hR3 hb3 hw3 h256
   cases m
   all_goals
    unfold fvOf
    simp only [if_true, Bool.false_eq_true, if_false]
    go_enter Tryz.func173, Tryz.ntmps173
    go_wp2_with fail
    rw [← HW3.out]
    refine (HC.out).mono ?_
    intro e w4 hq
    cases r with
    | bad j x =>
     obtain ⟨rfl, ho4⟩ := hq
     refine (show _ ∧ _ from ⟨rfl, ?_⟩)
     rw [HRE.out]
     exact ⟨rfl, HO3.out.trans ho4⟩
    | ok t j =>
     obtain ⟨⟨A', c', rfl, hV⟩, hij, hjl, hR4, ho4⟩ := hq
     have HV := Lib.hid hV
     have HR4 := Lib.hid hR4
     have HO4 := Lib.hid (HO3.out.trans ho4)
     have hRw : w.heap.size ≠ R := by omega
     have HB4 := Lib.hid ((ho4.block w.heap.size (by omega) hRw).trans HB3.out)
     have hs4 := ho4.size
     have g2 := hR4.c2
     have k2 := hR4.frozen 2
     have hlt4 := hR4.lt
     have rc : w4.heap.size > w.heap.size := by omega
     obtain ⟨n2, hn2⟩ : ∃ n2, n2 = t.kids.length := ⟨_, rfl⟩
     unfold Tm.val
     rw [← hn2]
     have HN2 := Lib.hid hn2
     obtain ⟨⟨v0, z0⟩, ⟨v1, z1⟩, ⟨v2, z2⟩, v3, z3⟩ := cells4 HB4.out
     clear hV hR4 ho4 hn2
     go_wp2_with fail
     obtain ⟨W5, hW5⟩ : ∃ W5, W5 = w4.setCell ⟨R, 2, none⟩ (.int .i64 (d : Nat)) := ⟨_, rfl⟩
     have hB5 : W5.heap[w.heap.size]? = some (.cells #[.int .i64 0, .int .i64 0, .string ⟨#[]⟩, .slice none 0 0] 25 (0, 0)) := by
      rw [hW5]
      exact (heap_setCell_other w4 ⟨R, 2, none⟩ w.heap.size _ hRw).trans HB4.out
     have hz5 : W5.heap.size = w4.heap.size := by rw [hW5]; simp
     have hR5 : Rdr W5 R A l.length c j d := by rw [hW5]; exact HR4.out.deep d
     have hO5 : Only (fun q => q = R) w W5 := by rw [hW5]; exact HO4.out.setF rfl _
     have hV5 : TmVS (fun q => w3.heap.size ≤ q) W5 A' c' t := by
      rw [hW5]
      exact HV.out.keep (KeepS.refl.set (by omega) _) (fun _ _ h => h)
     rw [← hW5]
     clear hW5
     have hres := alloc_keep (o := .cells #[.int .i64 t.op, .int .i64 t.num, .string t.name, .slice A' n2 c'] 25) (res4 (v0 := .int .i64 t.op) (v1 := .int .i64 t.num) (v2 := .string t.name) (v3 := .slice A' n2 c') hB5)
     refine bodyPost_ret (results_cell_row (t := 25) (fr := (0, 0)) rfl _ _ w.heap.size _ _ rfl hres Tryz.underlying25 rfl (by kernel_rfl)) rfl ?_
     rw [HRE.out]
     refine ⟨⟨A', c', by unfold Tm.val; rw [← HN2.out], ?_⟩, by omega, hjl, ?_, ?_⟩
     · exact hV5.keep (((((KeepS.refl.set (by omega) _).set (by omega) _).set (by omega) _).set (by omega) _).alloc _) (fun q _ h => by omega)
     · have hRne : R ≠ w.heap.size := fun h => hRw h.symm
       refine Rdr.below (B := W5.heap.size) ?_ ((Below.refl _ _).alloc (by simp) _) (by omega)
       unfold Rdr
       rw [heap_setCell_other _ ⟨w.heap.size, 3, none⟩ R _ hRne, heap_setCell_other _ ⟨w.heap.size, 2, none⟩ R _ hRne, heap_setCell_other _ ⟨w.heap.size, 1, none⟩ R _ hRne, heap_setCell_other _ ⟨w.heap.size, 0, none⟩ R _ hRne]
       exact hR5
     · exact only_new hO5
end Go.Proofs.YtnbphgeepnknlaaGreatDoor
