/- The law LexiBlanks: tokens written with white space between them are the same but for their offsets; a name is a single token. -/
import Derived.Test.YtnhabokkjmcdoaaDoorLexO
namespace Go.Proofs.YtnhabokkjmcdoaaDoor
open Go.ChangeShapes Go.WideShapes Go.ChangeAt Go.RowKit
open Go.ChangeMaps (open_string shut_string)
set_option linter.unusedVariables false

theorem blankv_any (k : Nat) (w : World) (hk : k < 256) : Calls Tryd.prog 23 #[.int .u8 (k : Nat)] w fun e w' => e = .returned (.string ⟨(blankOf k).toArray⟩) ∧ Below w.heap.size w w' := by
  have h : k % 5 = 0 ∨ k % 5 = 1 ∨ k % 5 = 2 ∨ k % 5 = 3 ∨ k % 5 = 4 := by omega
  unfold blankOf
  rcases h with h | h | h | h | h
  all_goals
    have hi : (k : Int) % 5 = ((k % 5 : Nat) : Int) := by omega
    rw [h] at hi ⊢
    have h' := Lib.hid h
    clear h
    go_enter Tryd.func23, Tryd.ntmps23
    go_wp2
    go_ret
    exact ⟨rfl, (Below.refl _ _).alloc (Nat.le_refl _) _⟩

/-- A row of bytes lies at A. -/
def BytesAt (w : World) (A : Option Addr) (l : List Nat) : Prop := l = [] ∨ ∃ b off, A = some ⟨b, off, none⟩ ∧ b < w.heap.size ∧ ∀ (j z : Nat), l[j]? = some z → z < 256 ∧ w.cell? ⟨b, off + j, none⟩ = some (.int .u8 (z : Nat))
theorem BytesAt.belowB {w w' : World} {B : Nat} {A : Option Addr} {l : List Nat} (h : BytesAt w A l) (hb : Below B w w') (hB : B = w.heap.size) : BytesAt w' A l := by
  rcases h with h | ⟨b, off, rfl, hlt, hc⟩
  · exact .inl h
  · exact .inr ⟨b, off, rfl, Nat.lt_of_lt_of_le hlt hb.size, fun j z hz => by rw [hb.cell (p := ⟨b, _, none⟩) (by subst hB; exact hlt)]; exact hc j z hz⟩
/-- The pick for token i. -/
def pickOf (l : List Nat) (i : Nat) : Nat := l.getD (i % l.length) 0
theorem pickOf_lt {w : World} {A : Option Addr} {l : List Nat} (h : BytesAt w A l) (i : Nat) : pickOf l i < 256 := by
  unfold pickOf
  rcases h with h | ⟨b, off, _, _, hc⟩
  · subst h; simp
  · cases hz : l[i % l.length]? with
    | none => simp [List.getD, hz]
    | some z => simp only [List.getD, hz, Option.getD_some]; exact (hc _ _ hz).1

theorem sum_take_le (f : Tok → Nat) : ∀ (k : Nat) (l : List Tok), ((l.take k).map f).sum ≤ (l.map f).sum
  | 0, l => by simp
  | k + 1, [] => by simp
  | k + 1, t :: l => by
    have := sum_take_le f k l
    simp only [List.take_succ_cons, List.map_cons, List.sum_cons]
    omega
theorem len_le_sum {l : List Tok} {k : Nat} {t : Tok} (h : l[k]? = some t) : t.text.length ≤ (l.map fun t => t.text.length).sum := by
  induction l generalizing k with
  | nil => simp at h
  | cons a l ih =>
    simp only [List.map_cons, List.sum_cons]
    cases k with
    | zero => simp at h; subst h; omega
    | succ k => have := ih (k := k) (by simpa using h); omega

theorem glue_take_snoc {f : Nat → Bs} {l : List Tok} {k : Nat} {t : Tok} (h : l[k]? = some t) : glue f 0 (l.take (k + 1)) = glue f 0 (l.take k) ++ f k ++ t.text := by
  obtain ⟨hj, rfl⟩ := List.getElem?_eq_some_iff.1 h
  rw [List.take_succ_eq_append_getElem hj, glue_snoc, List.length_take, Nat.min_eq_left (by omega), Nat.zero_add]

theorem bs_append (a b : ByteArray) : bs (a ++ b) = bs a ++ bs b := by
  unfold bs
  rw [show (a ++ b).data = a.data ++ b.data from by simp]
  simp

set_option maxRecDepth 100000 in
set_option maxHeartbeats 4000000 in
theorem lexiBlanks_any (s : ByteArray) (A0 : Option Addr) (c0 : Nat) (zs : List Nat) (w : World) (hs : s.size ≤ maxLen) (hz63 : zs.length ≤ maxLen) (hZ : BytesAt w A0 zs) (hT : Tables w) :
    Calls Tryd.prog 6 #[.string s, .slice A0 zs.length c0] w fun e w' => e = .returned (.bool true) ∧ Below w.heap.size w w' := by
  have HT := Lib.hid hT
  have HS := Lib.hid hs
  have HZ := Lib.hid hZ
  unfold maxLen at hs hz63
  clear hT hZ
  obtain ⟨nz, hnz⟩ : ∃ n, n = zs.length := ⟨_, rfl⟩
  rw [← hnz] at hz63 ⊢
  have HNZ := Lib.hid hnz
  clear hnz
  by_cases hq : 1500 < s.size ∨ 40 < nz
  · have HL := Lib.hid (lives_any w HT.out)
    by_cases h1 : 1500 < s.size
    · have h1' : (1500 : Int) < (s.size : Int) := by omega
      clear hq
      go_enter Tryd.func6, Tryd.ntmps6
      go_wp2_with fail
      refine (HL.out).mono ?_
      rintro e w1 ⟨rfl, hb⟩
      have HB := Lib.hid hb
      clear hb
      go_wp2
      go_ret
      exact ⟨rfl, HB.out⟩
    · have h1' : ¬ (1500 : Int) < (s.size : Int) := by omega
      have h2' : (40 : Int) < (nz : Int) := by omega
      clear hq
      go_enter Tryd.func6, Tryd.ntmps6
      go_wp2_with fail
      refine (HL.out).mono ?_
      rintro e w1 ⟨rfl, hb⟩
      have HB := Lib.hid hb
      clear hb
      go_wp2
      go_ret
      exact ⟨rfl, HB.out⟩
  · have h1' : ¬ (1500 : Int) < (s.size : Int) := by omega
    have h2' : ¬ (40 : Int) < (nz : Int) := by omega
    have hs1 : s.size ≤ 1500 := by omega
    clear hq
    have HN1 := Lib.hid (all_at s (all (bs s)).1 (all (bs s)).2.1 (all (bs s)).2.2 rfl w HS.out HT.out)
    have HTOK := Lib.hid (fun (h : (all (bs s)).2.2 = 0) => (all_toks (l := bs s) (ts := (all (bs s)).1) (a := (all (bs s)).2.1) (Prod.ext rfl (Prod.ext rfl h))).1)
    generalize (all (bs s)).1 = ts at *
    generalize (all (bs s)).2.1 = a0 at *
    generalize (all (bs s)).2.2 = e0 at *
    obtain ⟨n, hn⟩ : ∃ n, n = ts.length := ⟨_, rfl⟩
    rw [← hn] at HN1
    have HN := Lib.hid hn
    clear hn
    by_cases hq : e0 ≠ 0 ∨ 200 < n
    · by_cases he : e0 = 0
      · subst he
        have h3' : (200 : Int) < (n : Int) := by omega
        clear hq
        go_enter Tryd.func6, Tryd.ntmps6
        go_wp2_with fail
        refine (HN1.out).mono ?_
        rintro e w1 ⟨A, c, rfl, ha1, hb1⟩
        have HB1 := Lib.hid hb1
        have hz1 := hb1.size
        clear hb1 ha1
        go_wp2_with fail
        refine (lives_any _ (HT.out.below HB1.out)).mono ?_
        rintro e w3 ⟨rfl, hb3⟩
        have HB3 := Lib.hid (HB1.out.trans (hb3.mono hz1))
        clear hb3
        go_wp2
        go_ret
        exact ⟨rfl, HB3.out⟩
      · have he' : (e0 != 0) = true := by simpa using he
        clear hq he
        go_enter Tryd.func6, Tryd.ntmps6
        go_wp2_with fail
        refine (HN1.out).mono ?_
        rintro e w1 ⟨A, c, rfl, ha1, hb1⟩
        have HB1 := Lib.hid hb1
        have hz1 := hb1.size
        clear hb1 ha1
        go_wp2_with fail
        refine (lives_any _ (HT.out.below HB1.out)).mono ?_
        rintro e w3 ⟨rfl, hb3⟩
        have HB3 := Lib.hid (HB1.out.trans (hb3.mono hz1))
        clear hb3
        go_wp2
        go_ret
        exact ⟨rfl, HB3.out⟩
    · obtain rfl : e0 = 0 := by omega
      have hn200 : n ≤ 200 := by omega
      have h3' : ¬ (200 : Int) < (n : Int) := by omega
      clear hq
      have htk := HTOK.out rfl
      have hgood := toks_good ts (bs s) 0 (Nat.zero_le _) htk
      have hsum := toks_sum ts (bs s) 0 (Nat.zero_le _) htk
      rw [bs_length] at hsum
      have HGOOD := Lib.hid hgood
      have HSUM := Lib.hid hsum
      obtain ⟨f, hf⟩ : ∃ f, f = fun i => blankOf (pickOf zs i) := ⟨_, rfl⟩
      have hf5 : ∀ i, f i ∈ blanks5 := fun i => by rw [hf]; exact blankOf_mem _
      have HF := Lib.hid hf
      have HF5 := Lib.hid hf5
      obtain ⟨us, hu1, hu2, hu3⟩ := glue_toks hf5 ts 0 [] hgood
      rw [List.nil_append, List.length_nil] at hu1
      have HU1 := Lib.hid hu1
      have HU2 := Lib.hid hu2
      have HU3 := Lib.hid hu3
      clear htk hgood hsum hf hf5 hu1 hu2 hu3 HTOK
      go_enter Tryd.func6, Tryd.ntmps6
      go_wp2_with fail
      refine (HN1.out).mono ?_
      rintro e w1 ⟨A, c, rfl, ha1, hb1⟩
      have HB1 := Lib.hid hb1
      have HA1 := Lib.hid ha1
      have hz1 := hb1.size
      clear hb1 ha1
      go_wp2_with fail
      go_loopw [8, 9, 10] (fun st si sk wr => ∃ (k : Nat) (y : ByteArray), k ≤ n ∧ si = .int .i64 k ∧ st = .string y ∧ bs y = glue f 0 (ts.take k) ∧ Below w1.heap.size w1 wr) (fun _ i _ _ => n - (intOf i).toNat)
      case atStart => exact ⟨0, ⟨#[]⟩, Nat.zero_le _, rfl, rfl, rfl, Below.refl _ _⟩
      case round =>
        obtain ⟨k, y, hk, rfl, rfl, hy, hbel⟩ := hrel
        have HB := Lib.hid hbel
        have HY := Lib.hid hy
        have hsz := hbel.size
        have hylen := glue_len HF5.out (ts.take k) 0
        have hsl := sum_take_le (fun t => t.text.length) k ts
        have hysz : y.size ≤ 3700 := by
          have h9 := HSUM.out
          have h8 : (ts.take k).length ≤ 200 := by rw [List.length_take]; omega
          rw [← bs_length, hy]
          omega
        by_cases hlt : k < n
        · obtain ⟨z, hz⟩ : ∃ z, ts[k]? = some z := ⟨_, List.getElem?_eq_getElem (by have := HN.out; omega)⟩
          rcases HA1.out.belowB hbel rfl with h0 | ⟨b, off, rfl, hb, hc⟩
          · rw [h0] at hz; simp at hz
          have x2 := hc k z hz 2 (by omega)
          simp only [tokV] at x2
          have hkz := pickOf_lt HZ.out k
          have HBV := Lib.hid (fun W => blankv_any (pickOf zs k) W hkz)
          have hk0 : (0 : Int) ≤ (k : Int) := by omega
          have hk1 : (k : Int) < (n : Int) := by omega
          have hzl : z.text.length ≤ 1500 := by have h9 := HSUM.out; have := len_le_sum hz; omega
          clear hy hylen hsl hbel hc
          have HZZ := Lib.hid hz
          clear hz
          by_cases hnz : nz = 0
          · have hpq : pickOf zs k = 0 := by
              unfold pickOf
              have h0 : zs = [] := List.eq_nil_of_length_eq_zero (by rw [← HNZ.out]; exact hnz)
              rw [h0]
              rfl
            rw [hpq] at HBV
            have HPQ := Lib.hid hpq
            have hnz' : ¬ (0 : Int) < (nz : Int) := by omega
            clear hpq hnz
            obtain ⟨B, hB⟩ : ∃ B, (⟨(blankOf 0).toArray⟩ : ByteArray) = B := ⟨_, rfl⟩
            have hBs : B.size ≤ 11 := by rw [← hB, ← bs_length, bs_mk]; exact five_len _ (blankOf_mem 0)
            have hBb : bs B = blankOf 0 := by rw [← hB]; rfl
            rw [hB] at HBV
            obtain ⟨x, hx⟩ : ∃ x, (⟨z.text.toArray⟩ : ByteArray) = x := ⟨_, rfl⟩
            have hxs : x.size ≤ 1500 := by rw [← hx, ← bs_length, bs_mk]; exact hzl
            have hxb : bs x = z.text := by rw [← hx]; rfl
            rw [hx] at x2
            have hadd1 : ∀ W, (Op.stringOp .add y B).run Tryd.prog W = .ok (.string (y ++ B)) W := fun W => run_string_add_sum W _ _ (by omega)
            have hadd2 : ∀ W, (Op.stringOp .add (y ++ B) x).run Tryd.prog W = .ok (.string (y ++ B ++ x)) W := fun W => run_string_add_sum W _ _ (by rw [ByteArray.size_append]; omega)
            have HXB := Lib.hid hxb
            have HBB := Lib.hid hBb
            clear hx hB hBb hxb
            go_wp2_with fail
            go_region_held3 (fun w' => w'.cell? ⟨b, off + k * 4 + 2, none⟩ = some (.string x))
              (first | (go_keep; done) | (rw [hb9.cell (p := ⟨b, _, none⟩) (by first | exact hb | (simp; omega))]; first | exact x2 | (rw [World.cell?_drew]; exact x2)) | fail)
              (first | (go_at_call 23; refine (HBV.out _).mono ?_; rintro e9 w9 ⟨rfl, hb9⟩) | fail)
            go_wp2
            go_roundw
            case rel =>
              refine ⟨k + 1, y ++ B ++ x, by omega, by go_num, rfl, ?_, HB.out.drew.trans (hb9.mono hsz)⟩
              rw [glue_take_snoc HZZ.out, bs_append, bs_append, HY.out, HBB.out, HXB.out, HF.out]
              dsimp only
              rw [HPQ.out]
            case measure => simp [intOf]; omega
          · have hnz' : (0 : Int) < (nz : Int) := by omega
            rcases (HZ.out.belowB HB1.out rfl).belowB HB.out rfl with h0 | ⟨bz, oz, rfl, hbz, hcz⟩
            · exfalso
              have := HNZ.out
              rw [h0] at this
              simp at this
              omega
            obtain ⟨q, hq⟩ : ∃ q, zs[k % nz]? = some q := ⟨_, List.getElem?_eq_getElem (by have := HNZ.out; have := Nat.mod_lt k (show 0 < nz by omega); omega)⟩
            obtain ⟨hq1, hq2⟩ := hcz _ _ hq
            have hpq : pickOf zs k = q := by
              unfold pickOf
              rw [← HNZ.out]
              simp [List.getD, hq]
            rw [hpq] at HBV
            have HPQ := Lib.hid hpq
            have hmod : k % nz < nz := Nat.mod_lt _ (by omega)
            have hm0 : (0 : Int) ≤ (k : Int) % (nz : Int) := by omega
            have hm1 : (k : Int) % (nz : Int) < (nz : Int) := by omega
            clear hcz hq hpq
            obtain ⟨B, hB⟩ : ∃ B, (⟨(blankOf q).toArray⟩ : ByteArray) = B := ⟨_, rfl⟩
            have hBs : B.size ≤ 11 := by rw [← hB, ← bs_length, bs_mk]; exact five_len _ (blankOf_mem q)
            have hBb : bs B = blankOf q := by rw [← hB]; rfl
            rw [hB] at HBV
            obtain ⟨x, hx⟩ : ∃ x, (⟨z.text.toArray⟩ : ByteArray) = x := ⟨_, rfl⟩
            have hxs : x.size ≤ 1500 := by rw [← hx, ← bs_length, bs_mk]; exact hzl
            have hxb : bs x = z.text := by rw [← hx]; rfl
            rw [hx] at x2
            have hadd1 : ∀ W, (Op.stringOp .add y B).run Tryd.prog W = .ok (.string (y ++ B)) W := fun W => run_string_add_sum W _ _ (by omega)
            have hadd2 : ∀ W, (Op.stringOp .add (y ++ B) x).run Tryd.prog W = .ok (.string (y ++ B ++ x)) W := fun W => run_string_add_sum W _ _ (by rw [ByteArray.size_append]; omega)
            have HXB := Lib.hid hxb
            have HBB := Lib.hid hBb
            clear hx hB hBb hxb
            go_wp2_with fail
            go_region_held3 (fun w' => w'.cell? ⟨b, off + k * 4 + 2, none⟩ = some (.string x))
              (first | (go_keep; done) | (rw [hb9.cell (p := ⟨b, _, none⟩) (by first | exact hb | (simp; omega))]; first | exact x2 | (rw [World.cell?_drew]; exact x2)) | fail)
              (first | (go_at_call 23; refine (HBV.out _).mono ?_; rintro e9 w9 ⟨rfl, hb9⟩) | fail)
            go_wp2
            go_roundw
            case rel =>
              refine ⟨k + 1, y ++ B ++ x, by omega, by go_num, rfl, ?_, HB.out.drew.trans (hb9.mono hsz)⟩
              rw [glue_take_snoc HZZ.out, bs_append, bs_append, HY.out, HBB.out, HXB.out, HF.out]
              dsimp only
              rw [HPQ.out]
            case measure => simp [intOf]; omega
        · have hkn : k = n := by omega
          subst hkn
          have hall : ts.take k = ts := List.take_of_length_le (by have := HN.out; omega)
          rw [hall] at hy
          have hk1 : ¬ (k : Int) < (k : Int) := by omega
          have hadd1 : ∀ W, (Op.stringOp .add y ⟨#[32]⟩).run Tryd.prog W = .ok (.string (y ++ ⟨#[32]⟩)) W := fun W => run_string_add_sum W _ _ (by have : (ByteArray.mk #[32]).size = 1 := rfl; omega)
          have hy2 : bs (y ++ ⟨#[32]⟩) = glue f 0 ts ++ [32] := by rw [bs_append, hy]; rfl
          have hy3 : (y ++ ⟨#[32]⟩).size ≤ 65536 := by rw [ByteArray.size_append]; have : (ByteArray.mk #[32]).size = 1 := rfl; omega
          generalize y ++ ⟨#[32]⟩ = y2 at *
          have hau := toks_all (l := bs y2) (ts := us) (by rw [bs_length]; omega) (by rw [hy2]; exact HU1.out)
          have HN2 := Lib.hid (fun W (h : Tables W) => all_at y2 us 0 0 hau W (by unfold maxLen; omega) h)
          have hul : us.length = k := by rw [HU2.out, ← HN.out]
          rw [hul] at HN2
          have hto : ∀ A c V (l : List Tok), l.length = k → ToksAt V A l → Calls Tryd.prog 18 #[.slice A k c] V fun e w' => ∃ B d, e = .returned (.slice B k d) ∧ ToksAt w' B l ∧ Below V.heap.size V w' := by
            intro A c V l hl h
            have := to_at A c l V (by omega) h
            rw [hl] at this
            exact this
          have hsame : ∀ A B c d V, ToksAt V A ts → ToksAt V B us → Calls Tryd.prog 17 #[.slice A k c, .slice B k d, .bool false] V fun e w' => e = .returned (.bool true) ∧ ∃ n, w' = V.drewN n := by
            intro A B c d V h1 h2
            have hkl := HN.out
            have := same_any A B c d ts us false V (by omega) (by rw [hul, ← hkl]) h1 h2 (fun j x y hx hy => by
              obtain ⟨q1, q2, q3⟩ := HU3.out j y x hy hx
              exact ⟨q1.symm, q2.symm, q3.symm, fun h => by cases h⟩)
            rw [← hkl, hul] at this
            exact this
          have HUL := Lib.hid hul
          have HTO := Lib.hid hto
          have HSM := Lib.hid hsame
          clear hau hy2 hy3 hy hall hylen hsl hbel hul hto hsame hysz
          go_wp2_with fail
          refine (HN2.out _ ((HT.out.below HB1.out).below HB.out)).mono ?_
          rintro e w2 ⟨A2, c2, rfl, ha2, hb2⟩
          have HB2 := Lib.hid (HB.out.trans (hb2.mono hsz))
          have HA2 := Lib.hid ha2
          have HAA2 := Lib.hid (HA1.out.belowB HB2.out rfl)
          have hz2 := HB2.out.size
          clear ha2 hb2
          go_wp2_with fail
          refine (HTO.out _ _ _ ts HN.out.symm HAA2.out).mono ?_
          rintro e w3 ⟨A3, c3, rfl, ha3, hb3⟩
          have HB3 := Lib.hid (HB2.out.trans (hb3.mono hz2))
          have HA3 := Lib.hid ha3
          have HA23 := Lib.hid (HA2.out.belowB hb3 rfl)
          have hz3 := HB3.out.size
          clear ha3 hb3
          go_wp2_with fail
          refine (HTO.out _ _ _ us HUL.out HA23.out).mono ?_
          rintro e w4 ⟨A4, c4, rfl, ha4, hb4⟩
          have HB4 := Lib.hid (HB3.out.trans (hb4.mono hz3))
          have HA4 := Lib.hid ha4
          have HA34 := Lib.hid (HA3.out.belowB hb4 rfl)
          have hz4 := HB4.out.size
          clear ha4 hb4
          go_wp2_with fail
          refine (HSM.out _ _ _ _ _ HA34.out HA4.out).mono ?_
          rintro e w5 ⟨rfl, n5, rfl⟩
          have HB5 := Lib.hid (bdrewN HB4.out n5)
          go_wp2_with fail
          go_loopw [14] (fun si wr => ∃ (j : Nat), j ≤ k ∧ si = .int .i64 j ∧ Below w1.heap.size w1 wr) (fun i _ => k - (intOf i).toNat)
          case atStart => exact ⟨0, Nat.zero_le _, rfl, HB5.out⟩
          case round =>
            obtain ⟨j, hj, rfl, hbel⟩ := hrel
            have HB6 := Lib.hid hbel
            have hsz6 := hbel.size
            by_cases hlt : j < k
            · obtain ⟨z, hz⟩ : ∃ z, ts[j]? = some z := ⟨_, List.getElem?_eq_getElem (by have := HN.out; omega)⟩
              rcases HA1.out.belowB hbel rfl with h0 | ⟨b, off, rfl, hb, hc⟩
              · rw [h0] at hz; simp at hz
              have g := HGOOD.out z (List.mem_of_getElem? hz)
              have x0 := hc j z hz 0 (by omega)
              have x2 := hc j z hz 2 (by omega)
              simp only [tokV, Nat.add_zero] at x0 x2
              have hzl : z.text.length ≤ 1500 := by have h9 := HSUM.out; have := len_le_sum hz; omega
              obtain ⟨x, hx⟩ : ∃ x, (⟨z.text.toArray⟩ : ByteArray) = x := ⟨_, rfl⟩
              have hxb : bs x = z.text := by rw [← hx]; rfl
              have hxs : x.size = z.text.length := by rw [← bs_length, hxb]
              have hx15 : x.size ≤ 1500 := by omega
              rw [hx] at x2
              have hnx := good_next g
              have hnv := fun W (h : Tables W) => next_any x 0 W (by unfold maxLen; omega) h
              rw [show (0 : Int) = ((0 : Nat) : Int) from rfl, nextAt_in (Nat.zero_le _), hxb, hnx] at hnv
              unfold nextV Tok.val Tok.cells at hnv
              dsimp only at hnv
              rw [hx, ← hxs] at hnv
              have his := fun W (h : Below w1.heap.size w1 W) => (is_any x W (by unfold maxLen; omega) ((HT.out.below HB1.out).below h)).mono fun e w' ⟨h1, h2⟩ => And.intro h1 h2.symm
              rw [hxb, g.name] at his
              obtain ⟨zk, zn, zt, za⟩ := z
              dsimp only at x0 x2 hnv his
              have hne : (zk != zk) = false := by simp
              have HNV := Lib.hid hnv
              have hj0 : (0 : Int) ≤ (j : Int) := by omega
              have hj1 : (j : Int) < (k : Int) := by omega
              clear hnx hnv hxs hxb hx g hc hz hbel hzl
              by_cases hk2 : zk = 2
              all_goals
                have hkb := hk2
                simp only [hk2, decide_true, decide_false] at his
                first
                  | (have hkq : (zk == 2) = true := by simpa using hk2)
                  | (have hkq : (zk == 2) = false := by simpa using hk2)
                have HIS := Lib.hid his
                clear his hk2 hkb
                go_wp2_with fail
                refine (HNV.out _ ((HT.out.below HB1.out).below HB6.out)).mono ?_
                rintro e w7 ⟨rfl, hb7⟩
                have hz7 := hb7.size
                have y0 : w7.cell? ⟨b, off + j * 4, none⟩ = some (.int .i64 zk) := by rw [hb7.cell (p := ⟨b, _, none⟩) hb]; exact x0
                have y2 : w7.cell? ⟨b, off + j * 4 + 2, none⟩ = some (.string x) := by rw [hb7.cell (p := ⟨b, _, none⟩) hb]; exact x2
                have HB7 := Lib.hid (HB6.out.trans (hb7.mono hsz6))
                have hbw : b < w7.heap.size := by omega
                have hz17 := HB7.out.size
                clear x0 x2 hb7
                go_wp2_with fail
                go_quiet ((go_at_call 24; exact Calls.quiet_of_same (HIS.out _ (bdrewN (HB7.out.alloc hz17 _) _))))
                go_wp2_with fail
                go_roundw
                case rel => exact ⟨j + 1, by omega, by go_num, bdrewN (HB7.out.alloc hz17 _) _⟩
                case measure => simp [intOf]; omega
            · have hj1 : ¬ (j : Int) < (k : Int) := by omega
              clear hbel
              go_wp2_with fail
              refine (lives_any _ ((HT.out.below HB1.out).below HB6.out)).mono ?_
              rintro e w8 ⟨rfl, hb8⟩
              have HB8 := Lib.hid (HB1.out.trans ((HB6.out.trans (hb8.mono hsz6)).mono hz1))
              clear hb8
              go_wp2
              go_ret
              exact ⟨rfl, HB8.out⟩

set_option maxRecDepth 100000 in
/-- A slice of bytes that came in. -/
theorem open_bytes {H : Type} {enc : TypeId × Value → H} {W : World} {base : Nat} {v : Value} {d : DataW H} {p : List MemPlace}
    (hv : Value.okWide Tryd.prog W .any base 42 v) (h : DataW.Trod enc Tryd.prog W 0 (fun _ => true) true 42 v d p) : ∃ A c, ∃ l : List Nat, v = .slice A l.length c ∧ l.length ≤ maxLen ∧ BytesAt W A l := by
  obtain ⟨A, len, cap, rfl⟩ := okWide_slice Tryd.underlying42 hv
  obtain ⟨fuel, hf⟩ := h
  rcases open_ints Tryd.underlying42 Tryd.underlying5 (by kernel_rfl) hf with ⟨hcs, -⟩ | ⟨a, len', cap', zs, hcs, _, hl, hm, hz, hx, hcell, hwz⟩
  · simp [Value.cells] at hcs
    obtain ⟨rfl, rfl, rfl⟩ := hcs
    exact ⟨none, 0, [], rfl, Nat.zero_le _, .inl rfl⟩
  · simp [Value.cells] at hcs
    obtain ⟨rfl, rfl, rfl⟩ := hcs
    by_cases h0 : len = 0
    · subst h0
      exact ⟨some a, cap, [], rfl, Nat.zero_le _, .inl rfl⟩
    · have hzl : len ≤ zs.length := by rw [hz]; split <;> omega
      obtain ⟨b, off, rfl, hc⟩ := ints_at hcell (by omega)
      have hlen : ((zs.take len).map Int.toNat).length = len := by simp; omega
      refine ⟨_, cap, (zs.take len).map Int.toNat, by rw [hlen], by rw [hlen]; omega, .inr ⟨b, off, rfl, World.block_lt_of_cell? W _ (hc 0 (by omega)), fun j z hj => ?_⟩⟩
      have hjl : j < len := by
        have := (List.getElem?_eq_some_iff.1 hj).1
        omega
      have hzj : zs[j]? = some zs[j] := List.getElem?_eq_getElem (by omega)
      have hwf := hwz zs[j] (List.mem_of_getElem? hzj)
      have hb : 0 ≤ zs[j] ∧ zs[j] ≤ 255 := by simpa [Lit.wf, IntKind.min, IntKind.max, IntKind.signed, IntKind.bits] using hwf
      rw [List.getElem?_map, List.getElem?_take, if_pos hjl, hzj] at hj
      simp at hj
      have hcj := hc j (by omega)
      rw [show zs.getD j 0 = zs[j] from by simp [List.getD, hzj]] at hcj
      exact ⟨by omega, by rw [hcj]; congr 2; omega⟩

namespace lawLexiBlanks
set_option maxRecDepth 100000 in
theorem lifted (os : Os) (started : os.Started) (H : Type) (enc : TypeId × Value → H) :
    ReturnsInHanded {} Tryd.checked os 6 .any (fun w args => (Rows.lexiBlanksSpec.pre enc Tryd.prog Tryd.f6 Rows.lexiBlanksRow.domain false w args ∧ laidMetH Tryd.prog Rows.lexiBlanksRow.laid w) ∧ sizedMet enc Tryd.prog Tryd.f6 (OpenSpec.ofChange Rows.lexiBlanksSpec) false w args)
      (Rows.lexiBlanksSpec.post enc Tryd.prog Tryd.f6 false true false false) := by
  refine returnsInHanded_of_change_and (C := Tryd.checked) (X := fun w _ => laidMetH Tryd.prog Rows.lexiBlanksRow.laid w) (fun _ _ _ hh h => h.of_heap hh) own started (by kernel_rfl) Tryd.func6
    (ChangeSpec.witness_shaped (enc := enc) (C := Tryd.checked) (os := os) (X := fun w _ => laidMetH Tryd.prog Rows.lexiBlanksRow.laid w) false (World.laidAll Tryd.prog os Rows.lexiBlanksRow.laid) #[.string ⟨#[]⟩, .slice none 0 0] 8 (World.laidAll_os _ _ _)
      (World.shaped_of_ZipB (by kernel_rfl) (by kernel_rfl)) (by kernel_rfl) (by kernel_rfl) (by kernel_rfl)
      (by rw [MakeChecks.laidMetH_plain _ _ _ (by kernel_rfl)]; exact laidMet_laidAll _ (by kernel_rfl) (by kernel_rfl))) ?_
  intro W base args ds gs before hval0 hW hcnd hsz hL _
  have hval : ∀ (j : Nat) t v, Tryd.f6.params[j]? = some t → args[j]? = some v → Value.okWide Tryd.prog W .any base t v := hval0
  have hW' := hW
  obtain ⟨p, q, hA0, hV, rfl, hfz, hnd⟩ := hW
  have hA : DataW.TrodAll enc Tryd.prog W 0 (fun _ => true) true Tryd.f6.params.toList args.toList ds p := hA0
  rw [Tryd.params6] at hA hval
  obtain ⟨v0, vs0, d0, ds0, p0, q0, hargs, rfl, rfl, h0, r0⟩ := trodAll_cons hA
  obtain ⟨v1, vs1, d1, ds1, p1, q1, rfl, rfl, rfl, h1, r1⟩ := trodAll_cons r0
  obtain ⟨rfl, rfl, rfl⟩ := trodAll_nil r1
  obtain rfl : args = #[v0, v1] := by cases args; simp_all
  obtain ⟨rfl, rfl⟩ := trodVars_none hV
  rw [MakeChecks.laidMetH_plain _ _ _ (by kernel_rfl)] at hL
  have hT : Tables W := tables_of_reads (Lib.laidMet.reads hL (by simp [Rows.lexiBlanksRow])) (Lib.laidMet.reads hL (by simp [Rows.lexiBlanksRow]))
  have k0 := h0
  have lt0 : ∀ x ∈ p0, x.block < W.heap.size := by obtain ⟨m, hm⟩ := k0; exact DataW.trod_lt m _ _ _ hm
  have k1 := h1
  have lt1 : ∀ x ∈ p1, x.block < W.heap.size := by obtain ⟨m, hm⟩ := k1; exact DataW.trod_lt m _ _ _ hm
  obtain ⟨s, rfl, rfl, rfl, ws⟩ := open_string Tryd.underlying9 (hval 0 9 v0 rfl rfl) h0
  obtain ⟨A, c, l, rfl, hl, hb⟩ := open_bytes (hval 1 42 v1 rfl rfl) h1
  clear hA0 hval0
  refine (lexiBlanks_any s A c l W ws hl hb hT).mono fun e W' ⟨he, bel⟩ => ?_
  subst he
  exact ⟨_, rfl, _, _, _, [], _, [], hW', trodAll_mk1 (shut_bool Tryd.underlying4 _), (trodAll_cons_mk (Below.trod laidOut (by kernel_rfl) (of_decide_eq_true (by kernel_rfl)) k0 bel lt0) (trodAll_cons_mk (Below.trod laidOut (by kernel_rfl) (of_decide_eq_true (by kernel_rfl)) k1 bel lt1) trodAll_mk0)), rfl, bel.frame _, fun h => by cases h⟩

theorem said : Rows.LexiBlanksSaid :=
  OpenClaim.holds_of_wide 6 Tryd.f6 rfl rfl rfl rfl rfl rfl rfl ⟨rfl, rfl, rfl, rfl, rfl⟩ rfl rfl rfl rfl rfl (by kernel_rfl) Tryd.func6 (by kernel_rfl)
    (of_decide_eq_true (by kernel_rfl)) (by unfold Func.isWrapper; first | (rw [if_pos (by decide +kernel)]; kernel_rfl) | (rw [if_neg (by decide +kernel)]; exact ⟨rfl, rfl⟩))
    (fun os started H enc _ => lifted os started H enc)
theorem card : Rows.LexiBlanksCardSaid :=
  Claim7.holds_tied_plain_at .later [] _ _ _ _ said (fun _ h => by cases h) (by kernel_rfl) (fun _ h => by cases h) lexiBlanks_row_tie rfl ⟨rfl, rfl⟩ (by kernel_rfl) rfl
    (fun f fn hf hfn => by
      obtain rfl : f = 6 := Option.some.inj ((show Tryd.prog.funcNamed Rows.lexiBlanksRow.func = some 6 by kernel_rfl).symm.trans hf) |>.symm
      obtain rfl : fn = Tryd.f6 := (Option.some.inj (Tryd.func6.symm.trans hfn)).symm
      exact ⟨by kernel_rfl, fun j t ht => by
        rw [Tryd.params6] at ht
        have hm : t ∈ [9, 42] := by simpa using Array.mem_of_getElem? ht
        have hall : ([9, 42].all fun u => !Tryd.prog.wantsStandIn u) = true := by kernel_rfl
        exact (show Tryd.prog.wantsStandIn t = false by simpa using List.all_eq_true.1 hall t hm)⟩)
    (by kernel_rfl)
#print axioms card
end lawLexiBlanks
end Go.Proofs.YtnhabokkjmcdoaaDoor
