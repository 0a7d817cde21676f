/- Walks: ftext.bare, text, Show. -/
import Derived.Test.YtcjblbpkjegmiaaDoorFrmE
namespace Go.Proofs.YtcjblbpkjegmiaaDoor
open Go.RowKit
set_option linter.unusedVariables false

/-- The text without brackets, and the error. -/
def barF (f : Fm) : Bs × Int := if f.op = 1 then ([91] ++ (showTm f.tm).1 ++ [93], (showTm f.tm).2) else frmK f.op f.kids
theorem frmT_eq (f : Fm) (least : Nat) : frmT f least = if (barF f).2 ≠ 0 then ([], (barF f).2) else if strongF f.op < least then ([40] ++ (barF f).1 ++ [41], 0) else ((barF f).1, 0) := by
  cases f; rw [frmT]; rfl
theorem barF_len (f : Fm) : (barF f).1.length ≤ 65600 * f.size + 65600 := by
  have hs : f.size = 1 + Fm.sizeL f.kids := by cases f; rw [Fm.size]; rfl
  have h1 := frmK_len f.op f.kids
  have h2 := showTm_len f.tm
  unfold barF
  rw [hs]
  split
  · simp only [List.length_append, List.length_cons, List.length_nil]; omega
  · omega
/-- What bare leaves: the text counts where there is no error. -/
def BareQ (r : Bs × Int) (w : World) (e : Ending) (w' : World) : Prop := ∃ s : ByteArray, e = .returned (.tuple #[.string s, .int .i64 r.2]) ∧ (r.2 = 0 → s.data.toList = r.1) ∧ Below w.heap.size w w'
theorem fop_range {f : Fm} (h : 0 ≤ fkids f.op) : f.op = 1 ∨ f.op = 2 ∨ f.op = 3 ∨ f.op = 4 ∨ f.op = 5 ∨ f.op = 6 ∨ f.op = 7 ∨ f.op = 8 ∨ f.op = 9 ∨ f.op = 10 ∨ f.op = 11 ∨ f.op = 12 ∨ f.op = 13 := by
  unfold fkids at h
  by_cases h1 : f.op = 1
  · omega
  rw [if_neg h1] at h
  by_cases h2 : f.op = 2 ∨ f.op = 6 ∨ f.op = 7 ∨ f.op = 8 ∨ f.op = 10 ∨ f.op = 11 ∨ f.op = 12
  · omega
  rw [if_neg h2] at h
  by_cases h3 : f.op = 3 ∨ f.op = 4 ∨ f.op = 5 ∨ f.op = 9 ∨ f.op = 13
  · omega
  rw [if_neg h3] at h
  simp at h
theorem bar1 {op : Int} {a : Fm} (h : fkids op = 1) : frmK op [a] = aheadF (preF op) a := by
  rw [frmK, frmK2, h]; rfl
theorem bar2 {op : Int} {a b : Fm} (h : fkids op = 2) : frmK op [a, b] = if (frmT a (leftF op)).2 ≠ 0 then ([], (frmT a (leftF op)).2) else (openF op ++ (frmT a (leftF op)).1 ++ inF op ++ (frmT b (rightF op)).1 ++ closeF op, (frmT b (rightF op)).2) := by
  rw [frmK, frmK2, h]; rfl
theorem flen1 {l : List Fm} (h : l.length = 1) : ∃ a, l = [a] := by
  match l, h with
  | [a], _ => exact ⟨a, rfl⟩
theorem flen2 {l : List Fm} (h : l.length = 2) : ∃ a b, l = [a, b] := by
  match l, h with
  | [a, b], _ => exact ⟨a, b, rfl⟩

set_option maxRecDepth 100000 in
set_option maxHeartbeats 16000000 in
theorem bare_any (N : Nat) (H : TextC N) (f : Fm) (d : Nat) (Ae : Option Addr) (ce : Nat) (A : Option Addr) (c : Nat) (w : World) (hN : f.size ≤ N + 1) (hok : f.okT d) (hws : f.wsize ≤ 9000000) (hsz : f.size ≤ 5000) (hV : FmV w Ae ce A c f) (hT : WordsT w) :
    Calls Tryd.prog 86 #[f.val Ae ce A c] w (BareQ (barF f) w) := by
  obtain ⟨-, ⟨hk0, hkl, hk1⟩, hkids⟩ := fokT_open hok
  have hrg := fop_range hk0
  have hszk : ∀ k ∈ f.kids, k.size ≤ N ∧ k.size ≤ 5000 ∧ k.wsize ≤ 9000000 := fun k hk => by
    have h1 := Fm.sizeL_mem hk
    have h2 := (Fm.wsize_open f).2 k hk
    cases f with
    | mk op e l => rw [Fm.size] at hN hsz; simp only [Fm.kids] at h1; omega
  have hts := (Fm.wsize_open f).1
  obtain ⟨n, hn⟩ : ∃ n, n = f.kids.length := ⟨_, rfl⟩
  obtain ⟨ne, hne⟩ : ∃ ne, ne = f.tm.kids.length := ⟨_, rfl⟩
  obtain ⟨op, hop⟩ : ∃ op, op = f.op := ⟨_, rfl⟩
  obtain ⟨wb, hwb⟩ : ∃ wb, wb = w.alloc (.cells #[.int .i64 op, .int .i64 f.tm.op, .int .i64 f.tm.num, .string f.tm.name, .slice Ae ne ce, .slice A n c] 29) := ⟨_, rfl⟩
  have hb1 : Below w.heap.size w wb := by rw [hwb]; exact (Below.refl _ _).alloc (Nat.le_refl _) _
  have hx : FBox wb w.heap.size Ae ne ce A n c f := by unfold FBox; rw [hwb, ← hop]; exact heap_alloc_new w _
  have hVb := hV.below hb1 rfl
  have hTb := hT.below hb1
  have HAH : Hid (∀ a, f.kids = [a] → ∀ word : ByteArray, word.size ≤ 10 → Calls Tryd.prog 109 #[f.val Ae ce A c, .string word] wb fun e w' => e = .returned (.tuple #[.string ⟨(aheadF word.data.toList a).1.toArray⟩, .int .i64 (aheadF word.data.toList a).2]) ∧ Below wb.heap.size wb w') := fun a ha word hwd => by
    have hm : a ∈ f.kids := by rw [ha]; simp
    exact ahead_any N H f a (d + 1) word Ae ce A c wb ha (hszk a hm).1 (hkids a hm) (hszk a hm).2.2 (hszk a hm).2.1 hwd hVb hTb
  have HBT : Hid (∀ a b, f.kids = [a, b] → ∀ (sign : ByteArray) (l r : Nat), sign.size ≤ 10 → l ≤ 10 → r ≤ 10 → Calls Tryd.prog 108 #[f.val Ae ce A c, .string sign, .int .i64 (l : Nat), .int .i64 (r : Nat)] wb fun e w' => e = .returned (.tuple #[.string ⟨(betwF sign.data.toList l r a b).1.toArray⟩, .int .i64 (betwF sign.data.toList l r a b).2]) ∧ Below wb.heap.size wb w') := fun a b hab sign l r h1 h2 h3 => by
    have hma : a ∈ f.kids := by rw [hab]; simp
    have hmb : b ∈ f.kids := by rw [hab]; simp
    exact between_any N H f a b (d + 1) sign l r Ae ce A c wb hab (hszk a hma).1 (hszk b hmb).1 (hkids a hma) (hkids b hmb) (hszk a hma).2.2 (hszk b hmb).2.2 (hszk a hma).2.1 (hszk b hmb).2.1 h1 h2 h3 hVb hTb
  have hsh := tshow_any f.tm Ae ce wb hVb.tm (by omega) hTb
  have HLEN : Hid (∀ a b (l r : Nat), f.kids = [a, b] → (frmT a l).1.length + (frmT b r).1.length ≤ 700000000) := fun a b l r hab => by
    have h1 := frmT_len a l
    have h2 := frmT_len b r
    have h3 := (hszk a (by rw [hab]; simp)).2.1
    have h4 := (hszk b (by rw [hab]; simp)).2.1
    omega
  unfold Fm.val at HAH HBT ⊢
  unfold Tm.val at hsh
  rw [← hn, ← hne, ← hop] at HAH HBT
  rw [← hne] at hsh
  rw [← hn, ← hne, ← hop]
  have HBAR : Hid (barF f = if op = 1 then ([91] ++ (showTm f.tm).1 ++ [93], (showTm f.tm).2) else frmK op f.kids) := by show _ = _; rw [hop]; rfl
  have hsl := showTm_len f.tm
  obtain ⟨ST, hST⟩ : ∃ ST, ST = showTm f.tm := ⟨_, rfl⟩
  rw [← hST] at HBAR hsh hsl
  obtain ⟨BR, hBR⟩ : ∃ BR, BR = barF f := ⟨_, rfl⟩
  rw [← hBR] at HBAR ⊢
  obtain ⟨F, hF⟩ : ∃ F, F = BareQ BR w := ⟨_, rfl⟩
  rw [← hF]
  have HF := Lib.hid hF
  have HWB := Lib.hid hwb
  rw [HWB.out] at hsh
  rw [HWB.out] at HAH HBT
  have HSH := Lib.hid hsh
  have HB1 := Lib.hid hb1
  have HX := Lib.hid hx
  have HKL : Hid ((f.kids.length : Int) = fkids op) := by show _ = _; rw [hkl, hop]
  have hcap := hV.cap
  have hcapm := hV.capm
  have hec := hV.tm.cap
  have hecm := hV.tm.capm
  rw [← hn] at hcap
  rw [← hne] at hec
  unfold maxLen at hcapm hecm
  have hlt : w.heap.size < wb.heap.size := by rw [hwb]; simp
  rw [← hop] at hrg
  have HOP := Lib.hid hop
  clear hwb hb1 hx hVb hTb hsh hF hBR hST hk0 hkl hk1 hkids hszk hn hne hop hV hT hok H
  rcases hrg with rfl | rfl | rfl | rfl | rfl | rfl | rfl | rfl | rfl | rfl | rfl | rfl | rfl
  · have HBR : Hid (BR = ([91] ++ ST.1 ++ [93], ST.2)) := by show _ = _; rw [HBAR.out, if_pos rfl]
    obtain ⟨S1, hS1⟩ : ∃ S1 : ByteArray, S1 = (⟨#[91]⟩ : ByteArray) ++ ⟨ST.1.toArray⟩ := ⟨_, rfl⟩
    obtain ⟨S2, hS2⟩ : ∃ S2 : ByteArray, S2 = S1 ++ (⟨#[93]⟩ : ByteArray) := ⟨_, rfl⟩
    have hz1 : S1.size = 1 + ST.1.length := by rw [hS1, ByteArray.size_append, bsz' ST.1]; rfl
    have hcat : ∀ W, (Op.stringOp .add (⟨#[91]⟩ : ByteArray) ⟨ST.1.toArray⟩).run Tryd.prog W = .ok (.string S1) W := fun W => by rw [hS1]; exact run_string_add_sum W _ _ (by show 1 + (⟨ST.1.toArray⟩ : ByteArray).size ≤ _; rw [bsz' ST.1]; omega)
    have hcat2 : ∀ W, (Op.stringOp .add S1 (⟨#[93]⟩ : ByteArray)).run Tryd.prog W = .ok (.string S2) W := fun W => by rw [hS2]; exact run_string_add_sum W _ _ (by show S1.size + 1 ≤ _; omega)
    have HS : Hid (S2.data.toList = BR.1) := by show _ = _; rw [HBR.out, hS2, hS1]; simp [ByteArray.data_append]
    clear hS1 hS2 hz1
    go_enter Tryd.func86, Tryd.ntmps86
    go_wp2_with fail
    refine (HSH.out).mono ?_
    rintro e w1 ⟨rfl, hb2⟩
    rw [← HWB.out] at hb2
    have HB2 := Lib.hid (HB1.out.trans (hb2.mono HB1.out.size))
    clear hb2
    go_wp2_with fail
    rw [HF.out]
    exact ⟨S2, congrArg (fun z : Int => Ending.returned (.tuple #[.string S2, .int .i64 z])) (congrArg Prod.snd HBR.out).symm, fun _ => HS.out, HB2.out⟩
  · obtain ⟨a, ha⟩ := flen1 (show f.kids.length = 1 by have h1 := HKL.out; rw [show fkids 2 = 1 from rfl] at h1; omega)
    have HBR : Hid (BR = aheadF ((⟨#[33]⟩ : ByteArray)).data.toList a) := by show _ = _; rw [HBAR.out, if_neg (by decide), ha]; exact bar1 rfl
    have hcc := HAH.out a ha (⟨#[33]⟩ : ByteArray) (by decide)
    have HCC := Lib.hid hcc
    clear hcc ha
    go_enter Tryd.func86, Tryd.ntmps86
    go_wp2_with fail
    refine (HCC.out).mono ?_
    rintro e w1 ⟨rfl, hb2⟩
    rw [← HWB.out] at hb2
    have HB2 := Lib.hid (HB1.out.trans (hb2.mono HB1.out.size))
    clear hb2
    go_wp2_with fail
    rw [HF.out, HBR.out]
    exact ⟨_, rfl, fun _ => rfl, HB2.out⟩
  · obtain ⟨a, b, ha⟩ := flen2 (show f.kids.length = 2 by have h1 := HKL.out; rw [show fkids 3 = 2 from rfl] at h1; omega)
    have HBR : Hid (BR = betwF ((⟨#[32, 38, 32]⟩ : ByteArray)).data.toList 3 4 a b) := by
      show _ = _
      rw [HBAR.out, if_neg (by decide), ha, bar2 rfl]
      unfold betwF
      by_cases h : (frmT a 3).2 ≠ 0
      · rw [if_pos h, if_pos (show (frmT a (leftF 3)).2 ≠ 0 from h)]; rfl
      · rw [if_neg h, if_neg (show ¬ (frmT a (leftF 3)).2 ≠ 0 from h)]; simp [openF, closeF, inF, leftF, rightF]
    have hcc := HBT.out a b ha (⟨#[32, 38, 32]⟩ : ByteArray) 3 4 (by decide) (by omega) (by omega)
    have HCC := Lib.hid hcc
    clear hcc ha
    go_enter Tryd.func86, Tryd.ntmps86
    go_wp2_with fail
    refine (HCC.out).mono ?_
    rintro e w1 ⟨rfl, hb2⟩
    rw [← HWB.out] at hb2
    have HB2 := Lib.hid (HB1.out.trans (hb2.mono HB1.out.size))
    clear hb2
    go_wp2_with fail
    rw [HF.out, HBR.out]
    exact ⟨_, rfl, fun _ => rfl, HB2.out⟩
  · obtain ⟨a, b, ha⟩ := flen2 (show f.kids.length = 2 by have h1 := HKL.out; rw [show fkids 4 = 2 from rfl] at h1; omega)
    have HBR : Hid (BR = betwF ((⟨#[32, 124, 32]⟩ : ByteArray)).data.toList 2 3 a b) := by
      show _ = _
      rw [HBAR.out, if_neg (by decide), ha, bar2 rfl]
      unfold betwF
      by_cases h : (frmT a 2).2 ≠ 0
      · rw [if_pos h, if_pos (show (frmT a (leftF 4)).2 ≠ 0 from h)]; rfl
      · rw [if_neg h, if_neg (show ¬ (frmT a (leftF 4)).2 ≠ 0 from h)]; simp [openF, closeF, inF, leftF, rightF]
    have hcc := HBT.out a b ha (⟨#[32, 124, 32]⟩ : ByteArray) 2 3 (by decide) (by omega) (by omega)
    have HCC := Lib.hid hcc
    clear hcc ha
    go_enter Tryd.func86, Tryd.ntmps86
    go_wp2_with fail
    refine (HCC.out).mono ?_
    rintro e w1 ⟨rfl, hb2⟩
    rw [← HWB.out] at hb2
    have HB2 := Lib.hid (HB1.out.trans (hb2.mono HB1.out.size))
    clear hb2
    go_wp2_with fail
    rw [HF.out, HBR.out]
    exact ⟨_, rfl, fun _ => rfl, HB2.out⟩
  · obtain ⟨a, b, ha⟩ := flen2 (show f.kids.length = 2 by have h1 := HKL.out; rw [show fkids 5 = 2 from rfl] at h1; omega)
    have HBR : Hid (BR = betwF ((⟨#[32, 45, 62, 32]⟩ : ByteArray)).data.toList 2 1 a b) := by
      show _ = _
      rw [HBAR.out, if_neg (by decide), ha, bar2 rfl]
      unfold betwF
      by_cases h : (frmT a 2).2 ≠ 0
      · rw [if_pos h, if_pos (show (frmT a (leftF 5)).2 ≠ 0 from h)]; rfl
      · rw [if_neg h, if_neg (show ¬ (frmT a (leftF 5)).2 ≠ 0 from h)]; simp [openF, closeF, inF, leftF, rightF]
    have hcc := HBT.out a b ha (⟨#[32, 45, 62, 32]⟩ : ByteArray) 2 1 (by decide) (by omega) (by omega)
    have HCC := Lib.hid hcc
    clear hcc ha
    go_enter Tryd.func86, Tryd.ntmps86
    go_wp2_with fail
    refine (HCC.out).mono ?_
    rintro e w1 ⟨rfl, hb2⟩
    rw [← HWB.out] at hb2
    have HB2 := Lib.hid (HB1.out.trans (hb2.mono HB1.out.size))
    clear hb2
    go_wp2_with fail
    rw [HF.out, HBR.out]
    exact ⟨_, rfl, fun _ => rfl, HB2.out⟩
  · obtain ⟨a, ha⟩ := flen1 (show f.kids.length = 1 by have h1 := HKL.out; rw [show fkids 6 = 1 from rfl] at h1; omega)
    have HBR : Hid (BR = aheadF ((⟨#[69, 88, 32]⟩ : ByteArray)).data.toList a) := by show _ = _; rw [HBAR.out, if_neg (by decide), ha]; exact bar1 rfl
    have hcc := HAH.out a ha (⟨#[69, 88, 32]⟩ : ByteArray) (by decide)
    have HCC := Lib.hid hcc
    clear hcc ha
    go_enter Tryd.func86, Tryd.ntmps86
    go_wp2_with fail
    refine (HCC.out).mono ?_
    rintro e w1 ⟨rfl, hb2⟩
    rw [← HWB.out] at hb2
    have HB2 := Lib.hid (HB1.out.trans (hb2.mono HB1.out.size))
    clear hb2
    go_wp2_with fail
    rw [HF.out, HBR.out]
    exact ⟨_, rfl, fun _ => rfl, HB2.out⟩
  · obtain ⟨a, ha⟩ := flen1 (show f.kids.length = 1 by have h1 := HKL.out; rw [show fkids 7 = 1 from rfl] at h1; omega)
    have HBR : Hid (BR = aheadF ((⟨#[69, 70, 32]⟩ : ByteArray)).data.toList a) := by show _ = _; rw [HBAR.out, if_neg (by decide), ha]; exact bar1 rfl
    have hcc := HAH.out a ha (⟨#[69, 70, 32]⟩ : ByteArray) (by decide)
    have HCC := Lib.hid hcc
    clear hcc ha
    go_enter Tryd.func86, Tryd.ntmps86
    go_wp2_with fail
    refine (HCC.out).mono ?_
    rintro e w1 ⟨rfl, hb2⟩
    rw [← HWB.out] at hb2
    have HB2 := Lib.hid (HB1.out.trans (hb2.mono HB1.out.size))
    clear hb2
    go_wp2_with fail
    rw [HF.out, HBR.out]
    exact ⟨_, rfl, fun _ => rfl, HB2.out⟩
  · obtain ⟨a, ha⟩ := flen1 (show f.kids.length = 1 by have h1 := HKL.out; rw [show fkids 8 = 1 from rfl] at h1; omega)
    have HBR : Hid (BR = aheadF ((⟨#[69, 71, 32]⟩ : ByteArray)).data.toList a) := by show _ = _; rw [HBAR.out, if_neg (by decide), ha]; exact bar1 rfl
    have hcc := HAH.out a ha (⟨#[69, 71, 32]⟩ : ByteArray) (by decide)
    have HCC := Lib.hid hcc
    clear hcc ha
    go_enter Tryd.func86, Tryd.ntmps86
    go_wp2_with fail
    refine (HCC.out).mono ?_
    rintro e w1 ⟨rfl, hb2⟩
    rw [← HWB.out] at hb2
    have HB2 := Lib.hid (HB1.out.trans (hb2.mono HB1.out.size))
    clear hb2
    go_wp2_with fail
    rw [HF.out, HBR.out]
    exact ⟨_, rfl, fun _ => rfl, HB2.out⟩
  · obtain ⟨a, b, ha⟩ := flen2 (show f.kids.length = 2 by have h1 := HKL.out; rw [show fkids 9 = 2 from rfl] at h1; omega)
    have hlen := HLEN.out a b 1 1 ha
    have HBR : Hid (BR.2 = (betwF ((⟨#[32, 85, 32]⟩ : ByteArray)).data.toList 1 1 a b).2 ∧ (BR.2 = 0 → BR.1 = [69, 91] ++ (betwF ((⟨#[32, 85, 32]⟩ : ByteArray)).data.toList 1 1 a b).1 ++ [93])) := by
      have e1 := HBAR.out
      rw [if_neg (by decide), ha, bar2 rfl] at e1
      unfold betwF
      by_cases h : (frmT a 1).2 ≠ 0
      · rw [if_pos (show (frmT a (leftF 9)).2 ≠ 0 from h)] at e1
        rw [if_pos h, e1]
        exact ⟨rfl, fun h0 => absurd h0 h⟩
      · rw [if_neg (show ¬ (frmT a (leftF 9)).2 ≠ 0 from h)] at e1
        rw [if_neg h, e1]
        exact ⟨rfl, fun _ => by simp [openF, closeF, inF, leftF, rightF]⟩
    have hbl : (betwF ((⟨#[32, 85, 32]⟩ : ByteArray)).data.toList 1 1 a b).1.length ≤ 700000010 := by unfold betwF; split <;> simp <;> omega
    have hcc := HBT.out a b ha (⟨#[32, 85, 32]⟩ : ByteArray) 1 1 (by decide) (by omega) (by omega)
    obtain ⟨X, hX⟩ : ∃ X, X = betwF ((⟨#[32, 85, 32]⟩ : ByteArray)).data.toList 1 1 a b := ⟨_, rfl⟩
    rw [← hX] at hcc HBR hbl
    have HCC := Lib.hid hcc
    obtain ⟨S1, hS1⟩ : ∃ S1 : ByteArray, S1 = (⟨#[69, 91]⟩ : ByteArray) ++ ⟨X.1.toArray⟩ := ⟨_, rfl⟩
    obtain ⟨S2, hS2⟩ : ∃ S2 : ByteArray, S2 = S1 ++ (⟨#[93]⟩ : ByteArray) := ⟨_, rfl⟩
    have hz1 : S1.size = 2 + X.1.length := by rw [hS1, ByteArray.size_append, bsz' X.1]; rfl
    have hcat : ∀ W, (Op.stringOp .add (⟨#[69, 91]⟩ : ByteArray) ⟨X.1.toArray⟩).run Tryd.prog W = .ok (.string S1) W := fun W => by rw [hS1]; exact run_string_add_sum W _ _ (by show 2 + (⟨X.1.toArray⟩ : ByteArray).size ≤ _; rw [bsz' X.1]; omega)
    have hcat2 : ∀ W, (Op.stringOp .add S1 (⟨#[93]⟩ : ByteArray)).run Tryd.prog W = .ok (.string S2) W := fun W => by rw [hS2]; exact run_string_add_sum W _ _ (by show S1.size + 1 ≤ _; omega)
    have HS : Hid (BR.2 = 0 → S2.data.toList = BR.1) := fun h => by rw [HBR.out.2 h, hS2, hS1]; simp [ByteArray.data_append]
    clear hS1 hS2 hz1 hcc hX hbl hlen ha
    go_enter Tryd.func86, Tryd.ntmps86
    go_wp2_with fail
    refine (HCC.out).mono ?_
    rintro e w1 ⟨rfl, hb2⟩
    rw [← HWB.out] at hb2
    have HB2 := Lib.hid (HB1.out.trans (hb2.mono HB1.out.size))
    have hx1 := HX.out.below hb2 HX.out.lt
    have y0 := hx1.c0
    rw [← HOP.out] at y0
    have hs1 := hb2.size
    clear hb2 hx1
    go_wp2_with fail
    rw [HF.out]
    exact ⟨S2, congrArg (fun z : Int => Ending.returned (.tuple #[.string S2, .int .i64 z])) HBR.out.1.symm, HS.out, HB2.out⟩
  · obtain ⟨a, ha⟩ := flen1 (show f.kids.length = 1 by have h1 := HKL.out; rw [show fkids 10 = 1 from rfl] at h1; omega)
    have HBR : Hid (BR = aheadF ((⟨#[65, 88, 32]⟩ : ByteArray)).data.toList a) := by show _ = _; rw [HBAR.out, if_neg (by decide), ha]; exact bar1 rfl
    have hcc := HAH.out a ha (⟨#[65, 88, 32]⟩ : ByteArray) (by decide)
    have HCC := Lib.hid hcc
    clear hcc ha
    go_enter Tryd.func86, Tryd.ntmps86
    go_wp2_with fail
    refine (HCC.out).mono ?_
    rintro e w1 ⟨rfl, hb2⟩
    rw [← HWB.out] at hb2
    have HB2 := Lib.hid (HB1.out.trans (hb2.mono HB1.out.size))
    clear hb2
    go_wp2_with fail
    rw [HF.out, HBR.out]
    exact ⟨_, rfl, fun _ => rfl, HB2.out⟩
  · obtain ⟨a, ha⟩ := flen1 (show f.kids.length = 1 by have h1 := HKL.out; rw [show fkids 11 = 1 from rfl] at h1; omega)
    have HBR : Hid (BR = aheadF ((⟨#[65, 70, 32]⟩ : ByteArray)).data.toList a) := by show _ = _; rw [HBAR.out, if_neg (by decide), ha]; exact bar1 rfl
    have hcc := HAH.out a ha (⟨#[65, 70, 32]⟩ : ByteArray) (by decide)
    have HCC := Lib.hid hcc
    clear hcc ha
    go_enter Tryd.func86, Tryd.ntmps86
    go_wp2_with fail
    refine (HCC.out).mono ?_
    rintro e w1 ⟨rfl, hb2⟩
    rw [← HWB.out] at hb2
    have HB2 := Lib.hid (HB1.out.trans (hb2.mono HB1.out.size))
    clear hb2
    go_wp2_with fail
    rw [HF.out, HBR.out]
    exact ⟨_, rfl, fun _ => rfl, HB2.out⟩
  · obtain ⟨a, ha⟩ := flen1 (show f.kids.length = 1 by have h1 := HKL.out; rw [show fkids 12 = 1 from rfl] at h1; omega)
    have HBR : Hid (BR = aheadF ((⟨#[65, 71, 32]⟩ : ByteArray)).data.toList a) := by show _ = _; rw [HBAR.out, if_neg (by decide), ha]; exact bar1 rfl
    have hcc := HAH.out a ha (⟨#[65, 71, 32]⟩ : ByteArray) (by decide)
    have HCC := Lib.hid hcc
    clear hcc ha
    go_enter Tryd.func86, Tryd.ntmps86
    go_wp2_with fail
    refine (HCC.out).mono ?_
    rintro e w1 ⟨rfl, hb2⟩
    rw [← HWB.out] at hb2
    have HB2 := Lib.hid (HB1.out.trans (hb2.mono HB1.out.size))
    clear hb2
    go_wp2_with fail
    rw [HF.out, HBR.out]
    exact ⟨_, rfl, fun _ => rfl, HB2.out⟩
  · obtain ⟨a, b, ha⟩ := flen2 (show f.kids.length = 2 by have h1 := HKL.out; rw [show fkids 13 = 2 from rfl] at h1; omega)
    have hlen := HLEN.out a b 1 1 ha
    have HBR : Hid (BR.2 = (betwF ((⟨#[32, 85, 32]⟩ : ByteArray)).data.toList 1 1 a b).2 ∧ (BR.2 = 0 → BR.1 = [65, 91] ++ (betwF ((⟨#[32, 85, 32]⟩ : ByteArray)).data.toList 1 1 a b).1 ++ [93])) := by
      have e1 := HBAR.out
      rw [if_neg (by decide), ha, bar2 rfl] at e1
      unfold betwF
      by_cases h : (frmT a 1).2 ≠ 0
      · rw [if_pos (show (frmT a (leftF 13)).2 ≠ 0 from h)] at e1
        rw [if_pos h, e1]
        exact ⟨rfl, fun h0 => absurd h0 h⟩
      · rw [if_neg (show ¬ (frmT a (leftF 13)).2 ≠ 0 from h)] at e1
        rw [if_neg h, e1]
        exact ⟨rfl, fun _ => by simp [openF, closeF, inF, leftF, rightF]⟩
    have hbl : (betwF ((⟨#[32, 85, 32]⟩ : ByteArray)).data.toList 1 1 a b).1.length ≤ 700000010 := by unfold betwF; split <;> simp <;> omega
    have hcc := HBT.out a b ha (⟨#[32, 85, 32]⟩ : ByteArray) 1 1 (by decide) (by omega) (by omega)
    obtain ⟨X, hX⟩ : ∃ X, X = betwF ((⟨#[32, 85, 32]⟩ : ByteArray)).data.toList 1 1 a b := ⟨_, rfl⟩
    rw [← hX] at hcc HBR hbl
    have HCC := Lib.hid hcc
    obtain ⟨S1, hS1⟩ : ∃ S1 : ByteArray, S1 = (⟨#[65, 91]⟩ : ByteArray) ++ ⟨X.1.toArray⟩ := ⟨_, rfl⟩
    obtain ⟨S2, hS2⟩ : ∃ S2 : ByteArray, S2 = S1 ++ (⟨#[93]⟩ : ByteArray) := ⟨_, rfl⟩
    have hz1 : S1.size = 2 + X.1.length := by rw [hS1, ByteArray.size_append, bsz' X.1]; rfl
    have hcat : ∀ W, (Op.stringOp .add (⟨#[65, 91]⟩ : ByteArray) ⟨X.1.toArray⟩).run Tryd.prog W = .ok (.string S1) W := fun W => by rw [hS1]; exact run_string_add_sum W _ _ (by show 2 + (⟨X.1.toArray⟩ : ByteArray).size ≤ _; rw [bsz' X.1]; omega)
    have hcat2 : ∀ W, (Op.stringOp .add S1 (⟨#[93]⟩ : ByteArray)).run Tryd.prog W = .ok (.string S2) W := fun W => by rw [hS2]; exact run_string_add_sum W _ _ (by show S1.size + 1 ≤ _; omega)
    have HS : Hid (BR.2 = 0 → S2.data.toList = BR.1) := fun h => by rw [HBR.out.2 h, hS2, hS1]; simp [ByteArray.data_append]
    clear hS1 hS2 hz1 hcc hX hbl hlen ha
    go_enter Tryd.func86, Tryd.ntmps86
    go_wp2_with fail
    refine (HCC.out).mono ?_
    rintro e w1 ⟨rfl, hb2⟩
    rw [← HWB.out] at hb2
    have HB2 := Lib.hid (HB1.out.trans (hb2.mono HB1.out.size))
    have hx1 := HX.out.below hb2 HX.out.lt
    have y0 := hx1.c0
    rw [← HOP.out] at y0
    have hs1 := hb2.size
    clear hb2 hx1
    go_wp2_with fail
    rw [HF.out]
    exact ⟨S2, congrArg (fun z : Int => Ending.returned (.tuple #[.string S2, .int .i64 z])) HBR.out.1.symm, HS.out, HB2.out⟩

set_option maxRecDepth 100000 in
set_option maxHeartbeats 4000000 in
theorem text_any : ∀ N : Nat, TextC N := by
  intro N
  induction N with
  | zero =>
    intro f least d Ae ce A c w hN
    cases f; rw [Fm.size] at hN; omega
  | succ N ih =>
    intro f least d Ae ce A c w hN hok hws hsz hle hV hT
    obtain ⟨n, hn⟩ : ∃ n, n = f.kids.length := ⟨_, rfl⟩
    obtain ⟨ne, hne⟩ : ∃ ne, ne = f.tm.kids.length := ⟨_, rfl⟩
    obtain ⟨wb, hwb⟩ : ∃ wb, wb = w.alloc (.cells #[.int .i64 f.op, .int .i64 f.tm.op, .int .i64 f.tm.num, .string f.tm.name, .slice Ae ne ce, .slice A n c] 29) := ⟨_, rfl⟩
    have hb1 : Below w.heap.size w wb := by rw [hwb]; exact (Below.refl _ _).alloc (Nat.le_refl _) _
    have hx : FBox wb w.heap.size Ae ne ce A n c f := by rw [hwb]; exact heap_alloc_new w _
    have hcall := bare_any N ih f d Ae ce A c wb hN hok hws hsz (hV.below hb1 rfl) (hT.below hb1)
    unfold Fm.val at hcall ⊢
    rw [← hn, ← hne] at hcall ⊢
    have hlen := barF_len f
    have hft := frmT_eq f least
    obtain ⟨R, hR⟩ : ∃ R, R = barF f := ⟨_, rfl⟩
    rw [← hR] at hcall hlen hft
    rw [hwb] at hcall
    obtain ⟨X, hX⟩ : ∃ X, X = frmT f least := ⟨_, rfl⟩
    rw [← hX] at hft ⊢
    have HC := Lib.hid hcall
    have HB1 := Lib.hid hb1
    have HX := Lib.hid hx
    have HWB := Lib.hid hwb
    have HFT := Lib.hid hft
    have HLE := Lib.hid hlen
    have HSZ := Lib.hid hsz
    have HSTR := Lib.hid (fun W => strong_any f.op W)
    have hlt : w.heap.size < wb.heap.size := by rw [hwb]; simp
    have hst : strongF f.op ≤ 4 := by
      unfold strongF
      iterate 3 (split; · omega)
      omega
    obtain ⟨sf, hsf⟩ : ∃ sf, sf = strongF f.op := ⟨_, rfl⟩
    rw [← hsf] at HFT HSTR hst
    clear hwb hb1 hcall hR hx hft hX hlen hsz hok hws hV hT hn hne hN hsf
    go_enter Tryd.func56, Tryd.ntmps56
    go_wp2_with fail
    refine (HC.out).mono ?_
    rintro e w1 ⟨s, rfl, hs, hb2⟩
    rw [← HWB.out] at hb2
    have hx1 := HX.out.below hb2 HX.out.lt
    have HB2 := Lib.hid (HB1.out.trans (hb2.mono HB1.out.size))
    have y0 := hx1.c0
    have hs1 := hb2.size
    have HS := Lib.hid hs
    clear hb2 hx1 hs
    by_cases h0 : R.2 = 0
    · have hsd := HS.out h0
      have hsl : s.size = R.1.length := by rw [← hsd]; simp
      have HRE : Hid (X = if sf < least then ([40] ++ s.data.toList ++ [41], 0) else (s.data.toList, 0)) := by show _ = _; rw [HFT.out, if_neg (fun h => h h0), hsd]
      have h0' : (R.2 != 0) = false := by simpa using h0
      have hsb : s.size ≤ 700000000 := by have h1 := HLE.out; have h2 := HSZ.out; omega
      have hid : (⟨s.data.toList.toArray⟩ : ByteArray) = s := by apply ByteArray.ext; simp
      have HID := Lib.hid hid
      clear h0 hsd hsl hid
      go_wp2_with fail
      refine (HSTR.out _).mono ?_
      rintro e w' ⟨rfl, hw⟩
      rw [← hw]
      clear hw
      by_cases h4 : sf < least
      · have h4' : (sf : Int) < (least : Int) := by omega
        obtain ⟨S1, hS1⟩ : ∃ S1 : ByteArray, S1 = (⟨#[40]⟩ : ByteArray) ++ s := ⟨_, rfl⟩
        obtain ⟨S2, hS2⟩ : ∃ S2 : ByteArray, S2 = S1 ++ (⟨#[41]⟩ : ByteArray) := ⟨_, rfl⟩
        have hz1 : S1.size = 1 + s.size := by rw [hS1, ByteArray.size_append]; rfl
        have hcat : ∀ W, (Op.stringOp .add (⟨#[40]⟩ : ByteArray) s).run Tryd.prog W = .ok (.string S1) W := fun W => by rw [hS1]; exact run_string_add_sum W _ _ (by show 1 + s.size ≤ _; omega)
        have hcat2 : ∀ W, (Op.stringOp .add S1 (⟨#[41]⟩ : ByteArray)).run Tryd.prog W = .ok (.string S2) W := fun W => by rw [hS2]; exact run_string_add_sum W _ _ (by show S1.size + 1 ≤ _; omega)
        have HRR : Hid (X = (S2.data.toList, 0)) := by show _ = _; rw [HRE.out, if_pos h4, hS2, hS1]; simp [ByteArray.data_append]
        clear hS1 hS2 hz1 h4
        go_wp2_with fail
        go_ret2
        rw [HRR.out]
        exact ⟨rfl, HB2.out⟩
      · have h4' : ¬ (sf : Int) < (least : Int) := by omega
        have HRR : Hid (X = (s.data.toList, 0)) := by show _ = _; rw [HRE.out, if_neg h4]
        clear h4
        go_wp2_with fail
        go_ret2
        rw [HRR.out]
        exact ⟨rfl, HB2.out⟩
    · have HRE : Hid (X = ([], R.2)) := by show _ = _; rw [HFT.out, if_pos h0]
      have h0' : (R.2 != 0) = true := by simpa using h0
      clear h0
      go_wp2_with fail
      go_ret2
      rw [HRE.out]
      exact ⟨rfl, HB2.out⟩

set_option maxRecDepth 100000 in
set_option maxHeartbeats 4000000 in
theorem fshow_any (f : Fm) (Ae : Option Addr) (ce : Nat) (A : Option Addr) (c : Nat) (w : World) (hws : f.wsize ≤ 9000000) (hV : FmV w Ae ce A c f) (hT : WordsT w) :
    Calls Tryd.prog 34 #[f.val Ae ce A c] w fun e w' => e = .returned (.tuple #[.string ⟨(showFm f).1.toArray⟩, .int .i64 (showFm f).2]) ∧ Below w.heap.size w w' := by
  obtain ⟨n, hn⟩ : ∃ n, n = f.kids.length := ⟨_, rfl⟩
  obtain ⟨ne, hne⟩ : ∃ ne, ne = f.tm.kids.length := ⟨_, rfl⟩
  obtain ⟨wb, hwb⟩ : ∃ wb, wb = w.alloc (.cells #[.int .i64 f.op, .int .i64 f.tm.op, .int .i64 f.tm.num, .string f.tm.name, .slice Ae ne ce, .slice A n c] 29) := ⟨_, rfl⟩
  have hb1 : Below w.heap.size w wb := by rw [hwb]; exact (Below.refl _ _).alloc (Nat.le_refl _) _
  have hx : FBox wb w.heap.size Ae ne ce A n c f := by rw [hwb]; exact heap_alloc_new w _
  have hck := fcheck_any f Ae ce A c wb (hV.below hb1 rfl) hws
  unfold Fm.val at hck ⊢
  rw [← hn, ← hne] at hck ⊢
  obtain ⟨ck, hck0⟩ : ∃ ck, ck = f.check := ⟨_, rfl⟩
  rw [← hck0] at hck
  obtain ⟨X, hX⟩ : ∃ X, X = showFm f := ⟨_, rfl⟩
  rw [← hX]
  unfold showFm at hX
  rw [← hck0] at hX
  have HX0 := Lib.hid hX
  rw [hwb] at hck
  have HCK := Lib.hid hck
  have HCK0 := Lib.hid hck0
  have HB1 := Lib.hid hb1
  have HX := Lib.hid hx
  have HWB := Lib.hid hwb
  have HV := Lib.hid hV
  have HT := Lib.hid hT
  have HN := Lib.hid hn
  have HNE := Lib.hid hne
  have hlt : w.heap.size < wb.heap.size := by rw [hwb]; simp
  clear hwb hb1 hck hck0 hx hX hV hT hn hne
  go_enter Tryd.func34, Tryd.ntmps34
  go_wp2_with fail
  refine (HCK.out).mono ?_
  rintro e w1 ⟨rfl, hb2⟩
  rw [← HWB.out] at hb2
  have hx1 := HX.out.below hb2 HX.out.lt
  have hbw := HB1.out.trans (hb2.mono HB1.out.size)
  have HB2 := Lib.hid hbw
  have hs1 := hb2.size
  have y0 := hx1.c0
  have y1 := hx1.c1
  have y2 := hx1.c2
  have y3 := hx1.c3
  have y4 := hx1.c4
  have y5 := hx1.c5
  by_cases h0 : ck = 0
  · have hch : f.check = 0 := by rw [← HCK0.out]; exact h0
    obtain ⟨hok, hsz⟩ := fcheck_ok hch
    have htx := text_any f.size f 1 1 Ae ce A c w1 (Nat.le_refl _) hok hws (by omega) (by omega) (HV.out.below hbw rfl) (HT.out.below hbw)
    unfold Fm.val at htx
    rw [← HN.out, ← HNE.out] at htx
    have hlen := frmT_len f 1
    have HR0 : Hid (X = if (frmT f 1).2 ≠ 0 then ([], (frmT f 1).2) else if 65536 < (frmT f 1).1.length then ([], 4) else ((frmT f 1).1, 0)) := by show _ = _; rw [HX0.out, if_neg (fun h => h h0)]
    obtain ⟨R, hR⟩ : ∃ R, R = frmT f 1 := ⟨_, rfl⟩
    rw [← hR] at htx hlen HR0
    have HTX := Lib.hid htx
    subst h0
    have HLE : Hid (R.1.length ≤ 700000000) := by show _ ≤ _; omega
    clear hx1 hbw hb2 htx hR hok hsz hch hlen
    go_wp2_with fail
    refine (HTX.out).mono ?_
    rintro e w2 ⟨rfl, hb3⟩
    have HB3 := Lib.hid (HB2.out.trans (hb3.mono HB2.out.size))
    have hlr : (⟨R.1.toArray⟩ : ByteArray).size = R.1.length := bsz' R.1
    have HLR := Lib.hid hlr
    obtain ⟨s, hs⟩ : ∃ s : ByteArray, s = ⟨R.1.toArray⟩ := ⟨_, rfl⟩
    rw [← hs] at HLR ⊢
    have HS := Lib.hid hs
    have hsm : s.size ≤ 700000000 := by rw [HLR.out]; exact HLE.out
    clear hb3 y0 y1 y2 y3 y4 y5 hlr hs
    by_cases h2 : R.2 = 0
    · have h2' : (R.2 != 0) = false := by simpa using h2
      by_cases h6 : 65536 < s.size
      · have HRR : Hid (X = ([], 4)) := by show _ = _; rw [HR0.out, if_neg (fun h => h h2), if_pos (by rw [← HLR.out]; exact h6)]
        have h6' : (65536 : Int) < (s.size : Int) := by omega
        clear h2 h6
        go_wp2_with fail
        go_ret2
        rw [HRR.out]
        exact ⟨rfl, HB3.out⟩
      · have HRR : Hid (X = (R.1, 0)) := by show _ = _; rw [HR0.out, if_neg (fun h => h h2), if_neg (by rw [← HLR.out]; exact h6)]
        have h6' : ¬ (65536 : Int) < (s.size : Int) := by omega
        clear h2 h6
        go_wp2_with fail
        go_ret2
        rw [HRR.out, HS.out]
        exact ⟨rfl, HB3.out⟩
    · have HRR : Hid (X = ([], R.2)) := by show _ = _; rw [HR0.out, if_pos h2]
      have h2' : (R.2 != 0) = true := by simpa using h2
      clear h2
      go_wp2_with fail
      go_ret2
      rw [HRR.out]
      exact ⟨rfl, HB3.out⟩
  · have HRR : Hid (X = ([], ck)) := by show _ = _; rw [HX0.out, if_pos h0]
    have h0' : (ck != 0) = true := by simpa using h0
    clear h0 hx1 hbw hb2
    go_wp2_with fail
    go_ret2
    rw [HRR.out]
    exact ⟨rfl, HB2.out⟩
end Go.Proofs.YtcjblbpkjegmiaaDoor
