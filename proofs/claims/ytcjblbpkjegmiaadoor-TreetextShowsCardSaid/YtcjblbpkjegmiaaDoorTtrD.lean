/- Walks: treetext.Show$1, Show. -/
import Derived.Test.YtcjblbpkjegmiaaDoorTtrC
namespace Go.Proofs.YtcjblbpkjegmiaaDoor
open Go.RowKit
set_option linter.unusedVariables false

mutual
/-- The size with the formulas in it. -/
def Tr.wsize : Tr → Nat
  | .mk _ _ f p _ _ l => 1 + f.wsize + p.length + Tr.wsizeL l
def Tr.wsizeL : List Tr → Nat
  | [] => 0
  | t :: r => t.wsize + Tr.wsizeL r
end
theorem Tr.wsizeL_mem : ∀ {l : List Tr} {t : Tr}, t ∈ l → t.wsize ≤ Tr.wsizeL l
  | x :: r, t, h => by
    rcases List.mem_cons.1 h with rfl | h
    · rw [Tr.wsizeL]; omega
    · have := Tr.wsizeL_mem h
      rw [Tr.wsizeL]; omega
theorem Tr.wsize_open (t : Tr) : t.fm.wsize + t.path.length + 1 ≤ t.wsize ∧ ∀ k ∈ t.kids, k.wsize + 1 ≤ t.wsize := by
  cases t with
  | mk a b f p c d l =>
    rw [Tr.wsize]
    refine ⟨by show f.wsize + p.length + 1 ≤ _; omega, fun k hk => ?_⟩
    have := Tr.wsizeL_mem (show k ∈ l from hk)
    omega
theorem Tr.len_w : ∀ (l : List Tr), l.length ≤ Tr.wsizeL l
  | [] => Nat.zero_le _
  | t :: r => by
    have := Tr.len_w r
    cases t
    rw [Tr.wsizeL, Tr.wsize, List.length_cons]
    omega
/-- The box of a tree, whole. -/
def TrBox (w : World) (bx : Nat) (p : TrP) (t : Tr) : Prop := w.heap[bx]? = some (.cells (t.cells p).toArray 33 (0, 0))
theorem TrBox.cell {w : World} {bx : Nat} {p : TrP} {t : Tr} (h : TrBox w bx p t) {j : Nat} {v : Value} (hj : (t.cells p)[j]? = some v) : w.cell? ⟨bx, j, none⟩ = some v := by
  rw [cell_of_row w bx j _ _ (0, 0) h]
  simpa using hj
theorem KB.other {B b : Nat} {w w' : World} (k : KB B b w w') {q : Nat} {cs : Array Value} {T : TypeId} {fz : Nat × Nat} (h : w.heap[q]? = some (.cells cs T fz)) (hT : T ≠ 5) (hb : q ≠ b) : w'.heap[q]? = some (.cells cs T fz) := by
  refine (k.keep q (lt_of_heap h) hb fun cs' fz' h2 => ?_).trans h
  rw [h] at h2
  injection h2 with h2
  injection h2 with _ h3 _
  exact hT h3
theorem TrBox.kb {B b : Nat} {w w' : World} {bx : Nat} {p : TrP} {t : Tr} (h : TrBox w bx p t) (k : KB B b w w') (hb : bx ≠ b) : TrBox w' bx p t := k.other h (by decide) hb
theorem TrBox.below {B : Nat} {w w' : World} {bx : Nat} {p : TrP} {t : Tr} (h : TrBox w bx p t) (k : Below B w w') (hb : bx < B) : TrBox w' bx p t := (k.block bx hb).trans h
/-- The captured variables beside the builder: the variables, the function itself. -/
structure ShCtx (B b bv bf : Nat) (Av : Option Addr) (n cv : Nat) (w : World) : Prop where
  vbox : w.heap[bv]? = some (.cells #[.slice Av n cv] 22 (0, 0))
  fbox : w.heap[bf]? = some (.cells #[.func (.func 31) #[] #[.pointer (some ⟨b, 0, none⟩), .pointer (some ⟨bv, 0, none⟩), .pointer (some ⟨bf, 0, none⟩)]] 74 (0, 0))
  hv : bv ≠ b
  hf : bf ≠ b
section
variable {B b bv bf : Nat} {Av : Option Addr} {n cv : Nat} {w w' : World}
theorem ShCtx.kb (h : ShCtx B b bv bf Av n cv w) (k : KB B b w w') : ShCtx B b bv bf Av n cv w' := ⟨k.other h.vbox (by decide) h.hv, k.other h.fbox (by decide) h.hf, h.hv, h.hf⟩
theorem ShCtx.below (h : ShCtx B b bv bf Av n cv w) (k : Below w.heap.size w w') : ShCtx B b bv bf Av n cv w' := ⟨(k.block bv (lt_of_heap h.vbox)).trans h.vbox, (k.block bf (lt_of_heap h.fbox)).trans h.fbox, h.hv, h.hf⟩
theorem ShCtx.vc (h : ShCtx B b bv bf Av n cv w) : w.cell? ⟨bv, 0, none⟩ = some (.slice Av n cv) := by rw [cell_of_row w bv 0 _ _ (0, 0) h.vbox]; rfl
theorem ShCtx.fc (h : ShCtx B b bv bf Av n cv w) : w.cell? ⟨bf, 0, none⟩ = some (.func (.func 31) #[] #[.pointer (some ⟨b, 0, none⟩), .pointer (some ⟨bv, 0, none⟩), .pointer (some ⟨bf, 0, none⟩)]) := by rw [cell_of_row w bf 0 _ _ (0, 0) h.fbox]; rfl
end
/-- What Show$1 leaves. -/
def ShPost (B b : Nat) (M : Bs) (r : Int) (w : World) (e : Ending) (w' : World) : Prop := e = .returned (.int .i64 r) ∧ (r = 0 → IsB B b (Lib.byteCells M) w') ∧ KB B b w w'
theorem linesS_snoc (d : Nat) : ∀ (L : List Bs) (x : Bs), linesS d (L ++ [x]) = linesS d L ++ (blanksS d ++ x ++ [10])
  | [], x => by simp [linesS]
  | y :: r, x => by
    rw [List.cons_append, linesS, linesS, linesS_snoc d r x]
    simp
theorem linesS_take_len (d : Nat) : ∀ (L : List Bs) (k : Nat), (linesS d (L.take k)).length ≤ (linesS d L).length
  | [], k => by simp
  | y :: r, 0 => by simp [linesS]
  | y :: r, k + 1 => by
    have := linesS_take_len d r k
    simp only [List.take_succ_cons, linesS, List.length_append]
    omega
theorem numtext_b (n : Int) (w : World) (h : -9223372036854775808 ≤ n ∧ n ≤ 9223372036854775807) :
    Calls Tryd.prog 35 #[.int .i64 n] w fun e w' => e = .returned (.string ⟨(numS n).toArray⟩) ∧ Below w.heap.size w w' := numtext_any n w h.1 h.2
theorem add_run {a b S : ByteArray} (hS : S = a ++ b) (h : a.size + b.size ≤ 1000000000) : ∀ W, (Op.stringOp .add a b).run Tryd.prog W = .ok (.string S) W := fun W => by
  rw [hS]; exact run_string_add_sum W _ _ (by show a.size + b.size ≤ _; omega)
theorem app_size {a b S : ByteArray} (hS : S = a ++ b) : S.size = a.size + b.size := by rw [hS, ByteArray.size_append]
theorem app_data {a b S : ByteArray} (hS : S = a ++ b) : S.data.toList = a.data.toList ++ b.data.toList := by rw [hS]; simp [ByteArray.data_append]

set_option maxRecDepth 100000 in
set_option maxHeartbeats 16000000 in
theorem show1_any (vs : List Vr) (Av : Option Addr) (cv b bv bf B : Nat) (w0 : World) (hB : B = w0.heap.size) (hBb : B ≤ b) (hsm : SmallV vs) (hVs : VrsV w0 Av cv vs) (hTab : WordsT w0) :
    ∀ (N : Nat) (t : Tr) (d : Nat) (l : Bs) (p : TrP) (w : World), t.size ≤ N → t.wsize + d ≤ 900000 → TrV w0 p t → Below B w0 w → IsB B b (Lib.byteCells l) w → ShCtx B b bv bf Av vs.length cv w → l.length + (rawT vs t d).length ≤ 1000000000 →
      Calls Tryd.prog 31 #[t.val p, .int .i64 (d : Nat), .pointer (some ⟨b, 0, none⟩), .pointer (some ⟨bv, 0, none⟩), .pointer (some ⟨bf, 0, none⟩)] w (ShPost B b (l ++ rawT vs t d) (errT vs t) w) := by
  intro N
  have HBQ := Lib.hid hB
  have HSM := Lib.hid hsm
  have HVS := Lib.hid hVs
  have HTAB := Lib.hid hTab
  clear hB hsm hVs hTab
  induction N with
  | zero =>
    intro t d l p w hN
    cases t; rw [Tr.size] at hN; omega
  | succ N ih =>
    intro t d l p w hN hws hV hbel hI hC hlen
    have IH := Lib.hid ih
    have HBEL := Lib.hid hbel
    have hbw : B ≤ w.heap.size := by rw [HBQ.out]; have := hbel.size; rw [← HBQ.out] at this ⊢; exact this
    obtain ⟨wb, hwb⟩ : ∃ wb, wb = w.alloc (.cells (t.cells p).toArray 33) := ⟨_, rfl⟩
    have hb1 : Below w.heap.size w wb := by rw [hwb]; exact (Below.refl _ _).alloc (Nat.le_refl _) _
    have hx : TrBox wb w.heap.size p t := by rw [hwb]; exact heap_alloc_new w _
    have hlt : w.heap.size < wb.heap.size := by rw [hwb]; simp
    have hIb : IsB B b (Lib.byteCells l) wb := IsB.keep hI hb1
    have hKb : KB B b w wb := KB.of_below hb1 hbw
    have hCb := hC.below hb1
    have hbelb : Below B w0 wb := hbel.trans (hb1.mono hbw)
    have hbb := IsB.lt hI
    have hbne : w.heap.size ≠ b := by omega
    have hwo := Tr.wsize_open t
    have hfs := fshow_any t.fm p.aE p.cE p.aF p.cF wb (by omega) (hV.own.fm.below hbelb HBQ.out) (HTAB.out.below (by rw [← HBQ.out]; exact hbelb))
    have hfl := showFm_len t.fm
    have HRAW := Lib.hid (rawT_eq vs t d)
    have HERR := Lib.hid (errT_eq vs t)
    obtain ⟨r, hr⟩ : ∃ r, r = errT vs t := ⟨_, rfl⟩
    rw [← hr] at HERR
    obtain ⟨RW, hRW⟩ : ∃ RW, RW = rawT vs t d := ⟨_, rfl⟩
    rw [← hRW] at HRAW hlen
    obtain ⟨F, hF⟩ : ∃ F, F = ShPost B b (l ++ RW) r w := ⟨_, rfl⟩
    rw [← hr, ← hRW, ← hF]
    have HF := Lib.hid hF
    obtain ⟨FS, hFS⟩ : ∃ FS, FS = showFm t.fm := ⟨_, rfl⟩
    rw [← hFS] at hfs hfl HERR
    have HHEAD : Hid (headS t.kind t.fm t.at_ d = blanksS d ++ kindS t.kind ++ [32] ++ FS.1 ++ (if t.kind = 4 ∨ t.kind = 5 then [32] ++ numS t.at_ else []) ++ [10]) := by show _ = _; rw [hFS]; rfl
    obtain ⟨kd, hkd⟩ : ∃ kd, kd = t.kind := ⟨_, rfl⟩
    have HKIND := Lib.hid (fun W => kind_any kd W)
    have hkl := kindS_len kd
    obtain ⟨KS, hKS⟩ : ∃ KS : ByteArray, KS = ⟨(kindS kd).toArray⟩ := ⟨_, rfl⟩
    rw [← hKS] at HKIND
    have HKSD : Hid (KS.data.toList = kindS kd) := by show _ = _; rw [hKS]
    have hksz : KS.size = (kindS kd).length := by rw [hKS]; exact bsz' _
    have HBLK := Lib.hid (fun W => blanks_any d W (by omega))
    have hbl := blanksS_len d
    obtain ⟨BL, hBL⟩ : ∃ BL : ByteArray, BL = ⟨(blanksS d).toArray⟩ := ⟨_, rfl⟩
    rw [← hBL] at HBLK
    have HBLD : Hid (BL.data.toList = blanksS d) := by show _ = _; rw [hBL]
    have hblz : BL.size = 2 * d := by rw [hBL]; exact (bsz' _).trans hbl
    obtain ⟨FB, hFB⟩ : ∃ FB : ByteArray, FB = ⟨FS.1.toArray⟩ := ⟨_, rfl⟩
    rw [← hFB] at hfs
    have HFBD : Hid (FB.data.toList = FS.1) := by show _ = _; rw [hFB]
    have hfbz : FB.size = FS.1.length := by rw [hFB]; exact bsz' _
    unfold Fm.val at hfs
    have HFS := Lib.hid hfs
    have HV := Lib.hid hV
    have HX := Lib.hid hx
    have HIB := Lib.hid hIb
    have HKB := Lib.hid hKb
    have HCB := Lib.hid hCb
    have HBELB := Lib.hid hbelb
    have HB1 := Lib.hid hb1
    have HLEN := Lib.hid hlen
    have HSB : Hid (B ≤ w.heap.size) := hbw
    have HWS := Lib.hid hws
    have HWO := Lib.hid hwo
    have HNN := Lib.hid hN
    have HC := Lib.hid hC
    have hatr := hV.own.at_
    have HATR := Lib.hid hatr
    have hnk := Tr.len_w t.kids
    have hnk2 : t.kids.length ≤ 900000 := by
      cases t with
      | mk a1 a2 a3 a4 a5 a6 a7 => rw [Tr.wsize] at hws; simp only [Tr.kids] at hnk ⊢; omega
    have hcapk := hV.own.cap
    have hcapkm := hV.own.capm
    unfold maxLen at hcapkm
    unfold Tr.cells at hwb
    have HWB := Lib.hid hwb
    unfold Tr.val
    rw [← hkd] at HERR HHEAD HWB ⊢
    have HKD := Lib.hid hkd
    obtain ⟨aK, haK⟩ : ∃ aK, aK = p.aK := ⟨_, rfl⟩
    rw [← haK] at HWB ⊢
    have HAK := Lib.hid haK
    clear haK
    have hdd : d ≤ 900000 := by omega
    rw [HWB.out] at HFS
    clear ih hbel hwb hb1 hx hIb hKb hCb hbelb hwo hfs hr hRW hF hFS hKS hBL hFB hV hlen hbw hws hN hC hatr hnk hkd hI
    have hcl : (kindS kd = [] ∧ KS.size = 0) ∨ (kd = 5 ∧ 0 < KS.size) ∨ (kd = 4 ∧ 0 < KS.size) ∨ (kd ≠ 4 ∧ kd ≠ 5 ∧ kindS kd ≠ [] ∧ 0 < KS.size ∧ (kd == 4) = false ∧ (kd == 5) = false) := by
      by_cases h0 : kindS kd = []
      · exact .inl ⟨h0, by rw [hksz, h0]; rfl⟩
      · have hp : 0 < KS.size := by rw [hksz]; exact List.length_pos_iff.2 h0
        by_cases h5 : kd = 5
        · exact .inr (.inl ⟨h5, hp⟩)
        by_cases h4 : kd = 4
        · exact .inr (.inr (.inl ⟨h4, hp⟩))
        exact .inr (.inr (.inr ⟨h4, h5, h0, hp, by simpa using h4, by simpa using h5⟩))
    have hkz5 : KS.size ≤ 5 := by rw [hksz]; exact hkl
    clear hksz hkl hbl
    rcases hcl with ⟨hk0, hkz⟩ | ⟨rfl, hkz⟩ | ⟨rfl, hkz⟩ | ⟨h4, h5, hk0, hkz, b4, b5⟩
    · have HE : Hid (r = 11) := by show _ = _; rw [HERR.out, if_pos hk0]
      have he0 := isEmpty_of_size hkz
      clear hk0 hkz
      go_enter Tryd.func31, Tryd.ntmps31
      go_wp2_with fail
      refine (HKIND.out _).mono ?_
      rintro e w' ⟨rfl, hw⟩
      rw [← hw]
      clear hw
      go_wp2_with fail
      refine (HBLK.out _).mono ?_
      rintro e w' ⟨rfl, hw⟩
      rw [← hw]
      clear hw
      go_wp2_with fail
      rw [HF.out, HE.out, ← HWB.out]
      exact ⟨rfl, fun h => absurd h (by decide), HKB.out⟩
    · have hkne : kindS 5 ≠ [] := by decide
      have he1 := isEmpty_of_pos hkz
      have HE0 : Hid (r = if FS.2 ≠ 0 then FS.2 else if (linesT vs t.path t.loop).2 ≠ 0 then (linesT vs t.path t.loop).2 else errL vs t.kids) := by show _ = _; rw [HERR.out, if_neg hkne]; by_cases h : FS.2 ≠ 0 <;> by_cases h2 : (linesT vs t.path t.loop).2 ≠ 0 <;> simp [h, h2]
      have HRW0 : Hid (RW = headS 5 t.fm t.at_ d ++ linesS d (linesT vs t.path t.loop).1 ++ rawL vs t.kids (d + 1)) := by show _ = _; rw [HRAW.out, ← HKD.out]; simp
      clear hkz hkne
      go_enter Tryd.func31, Tryd.ntmps31
      go_wp2_with fail
      refine (HKIND.out _).mono ?_
      rintro e w' ⟨rfl, hw⟩
      rw [← hw]
      clear hw
      go_wp2_with fail
      refine (HBLK.out _).mono ?_
      rintro e w' ⟨rfl, hw⟩
      rw [← hw]
      clear hw
      go_wp2_with fail
      refine (HFS.out).mono ?_
      rintro e w2 ⟨rfl, hb2⟩
      rw [← HWB.out] at hb2
      have hx2 := HX.out.below hb2 hlt
      have HK2 := Lib.hid (HKB.out.trans (KB.of_below hb2 (by have := HSB.out; omega)))
      have HI2 := Lib.hid (IsB.keep HIB.out hb2)
      have HX2 := Lib.hid hx2
      have hz2 := HK2.out.below.size
      have y0 := hx2.cell (j := 0) rfl
      have y3 := hx2.cell (j := 8) rfl
      have y4 := hx2.cell (j := 9) rfl
      have y5 := hx2.cell (j := 10) rfl
      have y6 := hx2.cell (j := 11) rfl
      rw [← HKD.out] at y0
      rw [← HAK.out] at y6
      have hs2 := hb2.size
      clear hb2 hx2
      by_cases hf0 : FS.2 = 0
      · have hf1 : (FS.2 != 0) = false := by simpa using hf0
        have HE1 : Hid (r = if (linesT vs t.path t.loop).2 ≠ 0 then (linesT vs t.path t.loop).2 else errL vs t.kids) := by show _ = _; rw [HE0.out, if_neg (fun h => h hf0)]
        clear hf0
        obtain ⟨S1, hS1⟩ : ∃ S1 : ByteArray, S1 = BL ++ KS := ⟨_, rfl⟩
        obtain ⟨S2, hS2⟩ : ∃ S2 : ByteArray, S2 = S1 ++ (⟨#[32]⟩ : ByteArray) := ⟨_, rfl⟩
        obtain ⟨S3, hS3⟩ : ∃ S3 : ByteArray, S3 = S2 ++ FB := ⟨_, rfl⟩
        have z1 := app_size hS1
        have z2 := app_size hS2
        have z3 := app_size hS3
        rw [show (⟨#[32]⟩ : ByteArray).size = 1 from rfl] at z2
        have r1 := add_run hS1 (by omega)
        have r2 := add_run hS2 (by rw [show (⟨#[32]⟩ : ByteArray).size = 1 from rfl]; omega)
        have r3 := add_run hS3 (by omega)
        have hS3d : S3.data.toList = blanksS d ++ kindS 5 ++ [32] ++ FS.1 := by rw [app_data hS3, app_data hS2, app_data hS1, HBLD.out, HKSD.out, HFBD.out]
        have HS3D := Lib.hid hS3d
        have hz3 : S3.size ≤ 2000000 := by omega
        clear hS1 hS2 hS3 z1 z2 z3 hS3d
        have hnl := numS_len20 t.at_ HATR.out.1 HATR.out.2
        have HNT := Lib.hid (fun W => numtext_b t.at_ W HATR.out)
        obtain ⟨NB, hNB⟩ : ∃ NB : ByteArray, NB = ⟨(numS t.at_).toArray⟩ := ⟨_, rfl⟩
        rw [← hNB] at HNT
        have HNBD : Hid (NB.data.toList = numS t.at_) := by show _ = _; rw [hNB]
        have hnbz : NB.size ≤ 21 := by rw [hNB, bsz']; exact hnl
        obtain ⟨S4, hS4⟩ : ∃ S4 : ByteArray, S4 = (⟨#[32]⟩ : ByteArray) ++ NB := ⟨_, rfl⟩
        obtain ⟨S5, hS5⟩ : ∃ S5 : ByteArray, S5 = S3 ++ S4 := ⟨_, rfl⟩
        obtain ⟨S6, hS6⟩ : ∃ S6 : ByteArray, S6 = S5 ++ (⟨#[10]⟩ : ByteArray) := ⟨_, rfl⟩
        have z4 := app_size hS4
        have z5 := app_size hS5
        have z6 := app_size hS6
        rw [show (⟨#[32]⟩ : ByteArray).size = 1 from rfl] at z4
        rw [show (⟨#[10]⟩ : ByteArray).size = 1 from rfl] at z6
        have r4 := add_run hS4 (by rw [show (⟨#[32]⟩ : ByteArray).size = 1 from rfl]; omega)
        have r5 := add_run hS5 (by omega)
        have r6 := add_run hS6 (by rw [show (⟨#[10]⟩ : ByteArray).size = 1 from rfl]; omega)
        have HH : Hid (S6.data.toList = headS 5 t.fm t.at_ d) := by show _ = _; rw [app_data hS6, app_data hS5, app_data hS4, HS3D.out, HNBD.out, HHEAD.out, if_pos (by decide)]
        have hz6 : S6.size ≤ 3000000 := by omega
        clear hS4 hS5 hS6 z4 z5 z6 hnl hNB hnbz
        go_wp2_with fail
        refine (HNT.out _).mono ?_
        rintro e w3 ⟨rfl, hb3⟩
        have hx3 := HX2.out.below hb3 (lt_of_heap HX2.out)
        have HK3 := Lib.hid (HK2.out.trans (KB.of_below hb3 (by have := HSB.out; omega)))
        have HI3 := Lib.hid (IsB.keep HI2.out hb3)
        have HX3 := Lib.hid hx3
        have hz3w := HK3.out.below.size
        clear hb3 hx3 y0 y3 y4 y5 y6
        obtain ⟨HD, hHD⟩ : ∃ HD, HD = headS 5 t.fm t.at_ d := ⟨_, rfl⟩
        rw [← hHD] at HH
        have HRW : Hid (RW = HD ++ linesS d (linesT vs t.path t.loop).1 ++ rawL vs t.kids (d + 1)) := by show _ = _; rw [HRW0.out, hHD]
        have HWS1 := Lib.hid (wstring_any B b l S6 w3 HI3.out (by have := HLEN.out; omega) (by have := HSB.out; omega))
        rw [HH.out] at HWS1
        clear hHD
        go_wp2_with fail
        refine (HWS1.out).mono ?_
        rintro e w4 ⟨rfl, hi4, hk4⟩
        have hx4 := HX3.out.kb hk4 hbne
        have HK4 := Lib.hid (HK3.out.trans hk4)
        have HI4 := Lib.hid hi4
        have HX4 := Lib.hid hx4
        have hz4w := HK4.out.below.size
        have y0 := hx4.cell (j := 0) rfl
        have y3 := hx4.cell (j := 8) rfl
        have y4 := hx4.cell (j := 9) rfl
        have y5 := hx4.cell (j := 10) rfl
        have y6 := hx4.cell (j := 11) rfl
        rw [← HKD.out] at y0
        rw [← HAK.out] at y6
        clear hi4 hk4 hx4
        have hc4 := HC.out.kb HK4.out
        have vc := hc4.vc
        have HC4 := Lib.hid hc4
        have hbel4 : Below B w0 w4 := HBEL.out.trans HK4.out.below
        have hpl : t.path.length ≤ 1000000 := by have h1 := HWO.out.1; have h2 := HWS.out; omega
        have hln := lines_any vs t.path t.loop Av p.aP cv p.cP w4 HSM.out hpl (HVS.out.below hbel4 HBQ.out) (HV.out.own.path.below hbel4 HBQ.out)
        have HLN := Lib.hid hln
        obtain ⟨LT, hLT⟩ : ∃ LT, LT = linesT vs t.path t.loop := ⟨_, rfl⟩
        rw [← hLT] at HLN HE1 HRW
        have HLT := Lib.hid hLT
        clear hc4 hbel4 hln hLT hpl
        go_wp2_with fail
        refine (HLN.out).mono ?_
        rintro e w5 ⟨A5, c5, rfl, hc5, hcm5, hat5, hb5⟩
        unfold maxLen at hcm5
        have HK5 := Lib.hid (HK4.out.trans (KB.of_below hb5 (by have := HSB.out; omega)))
        have HI5 := Lib.hid (IsB.keep HI4.out hb5)
        have HX5 := Lib.hid (HX4.out.below hb5 (lt_of_heap HX4.out))
        have HAT5 := Lib.hid hat5
        have hz5 := hb5.size
        clear hb5 hat5 y0 y3 y4 y5 y6 vc
        by_cases hl0 : LT.2 = 0
        · have hl1 : (LT.2 != 0) = false := by simpa using hl0
          have HEK : Hid (r = errL vs t.kids) := by show _ = _; rw [HE1.out, if_neg (fun h => h hl0)]
          have HRK : Hid (RW = HD ++ linesS d LT.1 ++ rawL vs t.kids (d + 1)) := by show _ = _; rw [HRW.out, List.append_assoc]
          clear hl0
          go_wp2_with fail
          go_loopw [16, 76] (fun _ si wr => ∃ k : Nat, k ≤ LT.1.length ∧ si = .int .i64 k ∧ IsB B b (Lib.byteCells (l ++ HD ++ linesS d (LT.1.take k))) wr ∧ KB B b w wr ∧ KB B b w5 wr) (fun _ i _ => LT.1.length - (intOf i).toNat)
          case atStart => exact ⟨0, Nat.zero_le _, rfl, by rw [List.take_zero]; have h9 := HI5.out; simpa [linesS] using h9, HK5.out, KB.refl⟩
          case round =>
            obtain ⟨k, hk, rfl, hi, hkr, hk5⟩ := hrel
            have HIR := Lib.hid hi
            have HKR := Lib.hid hkr
            have HK5R := Lib.hid hk5
            have hzr := hkr.below.size
            clear hi
            by_cases hlt3 : k < LT.1.length
            · obtain ⟨x, hx⟩ : ∃ x, LT.1[k]? = some x := ⟨_, List.getElem?_eq_getElem hlt3⟩
              rcases HAT5.out with h9 | ⟨g, hAg, hg, hrow⟩
              · rw [h9] at hx; simp at hx
              subst hAg
              have hgb : g ≠ b := by have := (IsB.lt HI4.out).1; omega
              have hrow2 : RowT wr g LT.1 := hk5.other hrow (by decide) hgb
              have c0 := hrow2.cell hx
              have hgl := hrow2.lt
              obtain ⟨hj, hj2⟩ := List.getElem?_eq_some_iff.1 hx
              have HTK : Hid (linesS d (LT.1.take (k + 1)) = linesS d (LT.1.take k) ++ (blanksS d ++ x ++ [10])) := by show _ = _; rw [List.take_succ_eq_append_getElem hj, hj2, linesS_snoc]
              have hll : l.length + HD.length + (linesS d (LT.1.take k)).length + (blanksS d ++ x ++ [10]).length ≤ 1000000000 := by
                have h1 := HLEN.out
                have h2 := linesS_take_len d LT.1 (k + 1)
                rw [HTK.out, List.length_append] at h2
                have h3 := HRK.out
                have h4 : RW.length = HD.length + (linesS d LT.1).length + (rawL vs t.kids (d + 1)).length := by rw [h3, List.length_append, List.length_append]
                omega
              simp only [List.length_append, List.length_cons, List.length_nil] at hll
              rw [blanksS_len d] at hll
              obtain ⟨XB, hXB⟩ : ∃ XB : ByteArray, XB = ⟨x.toArray⟩ := ⟨_, rfl⟩
              rw [← hXB] at c0
              have hxz : XB.size = x.length := by rw [hXB]; exact bsz' _
              obtain ⟨T1, hT1⟩ : ∃ T1 : ByteArray, T1 = BL ++ XB := ⟨_, rfl⟩
              obtain ⟨T2, hT2⟩ : ∃ T2 : ByteArray, T2 = T1 ++ (⟨#[10]⟩ : ByteArray) := ⟨_, rfl⟩
              have s1 := app_size hT1
              have s2 := app_size hT2
              rw [show (⟨#[10]⟩ : ByteArray).size = 1 from rfl] at s2
              have ra := add_run hT1 (by omega)
              have rb := add_run hT2 (by rw [show (⟨#[10]⟩ : ByteArray).size = 1 from rfl]; omega)
              have HT2D : Hid (T2.data.toList = blanksS d ++ x ++ [10]) := by show _ = _; rw [app_data hT2, app_data hT1, HBLD.out, hXB]
              have hws := wstring_any B b (l ++ HD ++ linesS d (LT.1.take k)) T2 wr HIR.out (by simp only [List.length_append]; omega) (by have := HSB.out; omega)
              rw [HT2D.out] at hws
              have HWS2 := Lib.hid hws
              have hk0 : (0 : Int) ≤ (k : Int) := by omega
              have hk1 : (k : Int) < (LT.1.length : Int) := by omega
              clear hT1 hT2 hXB hrow hrow2 hx hj2 hws hk5 hkr s1 s2
              go_wp2_with fail
              refine (HWS2.out).mono ?_
              rintro e w6 ⟨rfl, hi6, hk6⟩
              have HI6 := Lib.hid hi6
              have HK6 := Lib.hid (HKR.out.trans hk6)
              have HK56 := Lib.hid (HK5R.out.trans hk6)
              clear hi6 hk6 c0
              go_wp2_with fail
              go_roundw
              case rel => exact ⟨k + 1, by omega, by go_num, by rw [HTK.out]; have h9 := HI6.out; rw [List.append_assoc (l ++ HD)] at h9; exact h9, HK6.out, HK56.out⟩
              case measure => first | (simp [intOf]; done) | (simp [intOf]; omega)
            · have hkn : k = LT.1.length := by omega
              have hk1 : ¬ (k : Int) < (LT.1.length : Int) := by omega
              have HI7 : Hid (IsB B b (Lib.byteCells (l ++ (HD ++ linesS d LT.1))) wr) := by
                have h9 := HIR.out
                rw [hkn, List.take_of_length_le (Nat.le_refl _)] at h9
                rw [← List.append_assoc]
                exact h9
              have hx7 := HX5.out.kb hk5 hbne
              have y6 := hx7.cell (j := 11) rfl
              rw [← HAK.out] at y6
              have HRK2 : Hid (RW = (HD ++ linesS d LT.1) ++ rawL vs t.kids (d + 1)) := HRK.out
              clear hkn hkr hk5 hx7
              go_wp2_with fail
              go_loopw [18, 19, 89] (fun _ _ si wr => ∃ (k : Nat) (Q : Bs), k ≤ t.kids.length ∧ si = .int .i64 k ∧ IsB B b (Lib.byteCells (l ++ (HD ++ linesS d LT.1) ++ Q)) wr ∧ KB B b w wr ∧ errL vs (t.kids.drop k) = r ∧ rawL vs t.kids (d + 1) = Q ++ rawL vs (t.kids.drop k) (d + 1)) (fun _ _ i _ => t.kids.length - (intOf i).toNat)
              case atStart => exact ⟨0, [], Nat.zero_le _, rfl, by rw [List.append_nil]; exact HI7.out, HKR.out, HEK.out.symm, rfl⟩
              case round =>
                obtain ⟨k, Q, hk, rfl, hi, hkr, her, hra⟩ := hrel
                have HIR := Lib.hid hi
                have HKR := Lib.hid hkr
                have HER := Lib.hid her
                have HRA := Lib.hid hra
                have hcr := HC.out.kb hkr
                have HCR := Lib.hid hcr
                have fc := hcr.fc
                have hbfl := lt_of_heap hcr.fbox
                have hbr : Below B w0 wr := HBEL.out.trans hkr.below
                have HBR := Lib.hid hbr
                have hzr := hkr.below.size
                clear hi hkr her hra hcr hbr
                by_cases hlt2 : k < t.kids.length
                · obtain ⟨q, hq⟩ : ∃ q, t.kids[k]? = some q := ⟨_, List.getElem?_eq_getElem hlt2⟩
                  have hmem : q ∈ t.kids := List.mem_of_getElem? hq
                  rcases HV.out.kids with h9 | ⟨g, off, hpk, hg, hrow⟩
                  · rw [h9] at hq; simp at hq
                  obtain rfl : aK = some ⟨g, off, none⟩ := HAK.out.trans hpk
                  clear hpk
                  obtain ⟨p2, hcells, hV2⟩ := (hrow.get hq).open
                  have hgB : g < B := by rw [HBQ.out]; exact hg
                  have hcw : ∀ j v, (q.cells p2)[j]? = some v → wr.cell? ⟨g, off + k * 12 + j, none⟩ = some v := fun j v hj => by
                    rw [HBR.out.cell (p := ⟨g, _, none⟩) hgB, show off + k * 12 + j = off + 12 * k + j from by omega]
                    exact hcells j v hj
                  have c0 := hcw 0 _ rfl
                  have c1 := hcw 1 _ rfl
                  have c2 := hcw 2 _ rfl
                  have c3 := hcw 3 _ rfl
                  have c4 := hcw 4 _ rfl
                  have c5 := hcw 5 _ rfl
                  have c6 := hcw 6 _ rfl
                  have c7 := hcw 7 _ rfl
                  have c8 := hcw 8 _ rfl
                  have c9 := hcw 9 _ rfl
                  have c10 := hcw 10 _ rfl
                  have c11 := hcw 11 _ rfl
                  rw [Nat.add_zero] at c0
                  have hgw : g < wr.heap.size := by have := HSB.out; omega
                  have HDR : Hid (t.kids.drop k = q :: t.kids.drop (k + 1)) := by
                    obtain ⟨hj, hj2⟩ := List.getElem?_eq_some_iff.1 hq
                    show _ = _
                    rw [List.drop_eq_getElem_cons hj, hj2]
                  have hqs : q.size ≤ N := by
                    have h1 := Tr.sizeL_mem hmem
                    have h2 := HNN.out
                    cases t with
                    | mk a1 a2 a3 a4 a5 a6 a7 => rw [Tr.size] at h2; simp only [Tr.kids] at h1; omega
                  have hqw := HWO.out.2 q hmem
                  obtain ⟨wk, hwk⟩ : ∃ wk, wk = wr.alloc (.cells #[.int .i64 q.kind, .slice p2.aS q.state.length p2.cS, .int .i64 q.fm.op, .int .i64 q.fm.tm.op, .int .i64 q.fm.tm.num, .string q.fm.tm.name, .slice p2.aE q.fm.tm.kids.length p2.cE, .slice p2.aF q.fm.kids.length p2.cF, .slice p2.aP q.path.length p2.cP, .int .i64 q.loop, .int .i64 q.at_, .slice p2.aK q.kids.length p2.cK] 33) := ⟨_, rfl⟩
                  have hbk : Below wr.heap.size wr wk := by rw [hwk]; exact (Below.refl _ _).alloc (Nat.le_refl _) _
                  have hKk : KB B b w wk := HKR.out.trans (KB.of_below hbk (by have := HSB.out; omega))
                  have hRl : RW.length = (HD ++ linesS d LT.1).length + (Q.length + ((rawT vs q (d + 1)).length + (rawL vs (t.kids.drop (k + 1)) (d + 1)).length)) := by have h1 := HRK2.out; rw [HRA.out, HDR.out, rawL] at h1; rw [h1]; simp only [List.length_append]; try omega
                  have hih := IH.out q (d + 1) (l ++ (HD ++ linesS d LT.1) ++ Q) p2 wk hqs (by have := HWS.out; omega) hV2 (HBR.out.trans (hbk.mono (by have := HSB.out; omega))) (IsB.keep HIR.out hbk) (HCR.out.below hbk) (by have := HLEN.out; rw [List.length_append, List.length_append]; omega)
                  rw [show ((d + 1 : Nat) : Int) = (d : Int) + 1 from by omega] at hih
                  unfold Tr.val at hih
                  obtain ⟨z, hz⟩ : ∃ z, z = errT vs q := ⟨_, rfl⟩
                  rw [← hz] at hih
                  have HST : Hid (errL vs (t.kids.drop k) = if z ≠ 0 then z else errL vs (t.kids.drop (k + 1))) := by show _ = _; rw [HDR.out, errL, ← hz]
                  have hcap2 := hV2.own.cap
                  have HIH := Lib.hid hih
                  have HWK := Lib.hid hwk
                  have HKK := Lib.hid hKk
                  rw [HWK.out] at HIH
                  have hk0 : (0 : Int) ≤ (k : Int) := by omega
                  have hk1 : (k : Int) < (t.kids.length : Int) := by omega
                  have hrun : ∀ args W, (callFunc 31 args).run Tryd.prog W = .ok (.enter 31 args) W := fun _ _ => by kernel_rfl
                  clear hih hwk hKk hz hcells hrow hq hmem hcw hV2 hRl hqw hqs
                  go_wp2_with fail
                  refine (HIH.out).mono ?_
                  rintro e w8 ⟨rfl, hi8, hk8⟩
                  rw [← HWK.out] at hk8
                  have HK8 := Lib.hid (HKK.out.trans hk8)
                  have HI8 := Lib.hid hi8
                  clear hi8 hk8 c0 c1 c2 c3 c4 c5 c6 c7 c8 c9 c10 c11
                  by_cases hz0 : z = 0
                  · have HER8 : Hid (errL vs (t.kids.drop (k + 1)) = r) := by show _ = _; rw [← HER.out, HST.out, if_neg (fun h => h hz0)]
                    have HI9 := Lib.hid (HI8.out hz0)
                    subst hz0
                    go_wp2_with fail
                    go_roundw
                    case rel => exact ⟨k + 1, Q ++ rawT vs q (d + 1), by omega, by go_num, by have h9 := HI9.out; rw [List.append_assoc] at h9; exact h9, HK8.out, HER8.out, by rw [HRA.out, HDR.out, rawL, List.append_assoc]⟩
                    case measure => first | (simp [intOf]; done) | (simp [intOf]; omega)
                  · have HRZ : Hid (r = z ∧ z ≠ 0) := ⟨by rw [← HER.out, HST.out, if_pos hz0], hz0⟩
                    have hz1 : (z != 0) = true := by simpa using hz0
                    clear hz0
                    go_wp2_with fail
                    rw [HF.out, HRZ.out.1]
                    exact ⟨rfl, fun h => absurd h HRZ.out.2, HK8.out⟩
                · have hkn : k = t.kids.length := by omega
                  have hk1 : ¬ (k : Int) < (t.kids.length : Int) := by omega
                  have HR0 : Hid (r = 0) := by show _ = _; rw [← HER.out, List.drop_eq_nil_of_le (by omega)]; rfl
                  have HI9 : Hid (IsB B b (Lib.byteCells (l ++ RW)) wr) := by
                    have h9 := HIR.out
                    have h8 := HRA.out
                    rw [List.drop_eq_nil_of_le (by omega)] at h8
                    have h7 : rawL vs [] (d + 1) = [] := rfl
                    rw [h7, List.append_nil] at h8
                    have h6 := HRK2.out
                    rw [h8] at h6
                    rw [h6, ← List.append_assoc]
                    exact h9
                  clear hkn
                  go_wp2_with fail
                  rw [HF.out, HR0.out]
                  exact ⟨rfl, fun _ => HI9.out, HKR.out⟩
        · have hl1 : (LT.2 != 0) = true := by simpa using hl0
          have HRL : Hid (r = LT.2 ∧ LT.2 ≠ 0) := ⟨by rw [HE1.out, if_pos hl0], hl0⟩
          clear hl0
          go_wp2_with fail
          rw [HF.out, HRL.out.1]
          exact ⟨rfl, fun h => absurd h HRL.out.2, HK5.out⟩
      · have hf1 : (FS.2 != 0) = true := by simpa using hf0
        have HE1 : Hid (r = FS.2 ∧ FS.2 ≠ 0) := ⟨by rw [HE0.out, if_pos hf0], hf0⟩
        clear hf0
        go_wp2_with fail
        rw [HF.out, HE1.out.1]
        exact ⟨rfl, fun h => absurd h HE1.out.2, HK2.out⟩
    · have hkne : kindS 4 ≠ [] := by decide
      have he1 := isEmpty_of_pos hkz
      have HE0 : Hid (r = if FS.2 ≠ 0 then FS.2 else errL vs t.kids) := by show _ = _; rw [HERR.out, if_neg hkne]; by_cases h : FS.2 ≠ 0 <;> by_cases h2 : (linesT vs t.path t.loop).2 ≠ 0 <;> simp [h, h2]
      have HRW0 : Hid (RW = headS 4 t.fm t.at_ d ++ rawL vs t.kids (d + 1)) := by show _ = _; rw [HRAW.out, ← HKD.out]; simp
      clear hkz hkne
      go_enter Tryd.func31, Tryd.ntmps31
      go_wp2_with fail
      refine (HKIND.out _).mono ?_
      rintro e w' ⟨rfl, hw⟩
      rw [← hw]
      clear hw
      go_wp2_with fail
      refine (HBLK.out _).mono ?_
      rintro e w' ⟨rfl, hw⟩
      rw [← hw]
      clear hw
      go_wp2_with fail
      refine (HFS.out).mono ?_
      rintro e w2 ⟨rfl, hb2⟩
      rw [← HWB.out] at hb2
      have hx2 := HX.out.below hb2 hlt
      have HK2 := Lib.hid (HKB.out.trans (KB.of_below hb2 (by have := HSB.out; omega)))
      have HI2 := Lib.hid (IsB.keep HIB.out hb2)
      have HX2 := Lib.hid hx2
      have hz2 := HK2.out.below.size
      have y0 := hx2.cell (j := 0) rfl
      have y3 := hx2.cell (j := 8) rfl
      have y4 := hx2.cell (j := 9) rfl
      have y5 := hx2.cell (j := 10) rfl
      have y6 := hx2.cell (j := 11) rfl
      rw [← HKD.out] at y0
      rw [← HAK.out] at y6
      have hs2 := hb2.size
      clear hb2 hx2
      by_cases hf0 : FS.2 = 0
      · have hf1 : (FS.2 != 0) = false := by simpa using hf0
        have HE1 : Hid (r = errL vs t.kids) := by show _ = _; rw [HE0.out, if_neg (fun h => h hf0)]
        clear hf0
        obtain ⟨S1, hS1⟩ : ∃ S1 : ByteArray, S1 = BL ++ KS := ⟨_, rfl⟩
        obtain ⟨S2, hS2⟩ : ∃ S2 : ByteArray, S2 = S1 ++ (⟨#[32]⟩ : ByteArray) := ⟨_, rfl⟩
        obtain ⟨S3, hS3⟩ : ∃ S3 : ByteArray, S3 = S2 ++ FB := ⟨_, rfl⟩
        have z1 := app_size hS1
        have z2 := app_size hS2
        have z3 := app_size hS3
        rw [show (⟨#[32]⟩ : ByteArray).size = 1 from rfl] at z2
        have r1 := add_run hS1 (by omega)
        have r2 := add_run hS2 (by rw [show (⟨#[32]⟩ : ByteArray).size = 1 from rfl]; omega)
        have r3 := add_run hS3 (by omega)
        have hS3d : S3.data.toList = blanksS d ++ kindS 4 ++ [32] ++ FS.1 := by rw [app_data hS3, app_data hS2, app_data hS1, HBLD.out, HKSD.out, HFBD.out]
        have HS3D := Lib.hid hS3d
        have hz3 : S3.size ≤ 2000000 := by omega
        clear hS1 hS2 hS3 z1 z2 z3 hS3d
        have hnl := numS_len20 t.at_ HATR.out.1 HATR.out.2
        have HNT := Lib.hid (fun W => numtext_b t.at_ W HATR.out)
        obtain ⟨NB, hNB⟩ : ∃ NB : ByteArray, NB = ⟨(numS t.at_).toArray⟩ := ⟨_, rfl⟩
        rw [← hNB] at HNT
        have HNBD : Hid (NB.data.toList = numS t.at_) := by show _ = _; rw [hNB]
        have hnbz : NB.size ≤ 21 := by rw [hNB, bsz']; exact hnl
        obtain ⟨S4, hS4⟩ : ∃ S4 : ByteArray, S4 = (⟨#[32]⟩ : ByteArray) ++ NB := ⟨_, rfl⟩
        obtain ⟨S5, hS5⟩ : ∃ S5 : ByteArray, S5 = S3 ++ S4 := ⟨_, rfl⟩
        obtain ⟨S6, hS6⟩ : ∃ S6 : ByteArray, S6 = S5 ++ (⟨#[10]⟩ : ByteArray) := ⟨_, rfl⟩
        have z4 := app_size hS4
        have z5 := app_size hS5
        have z6 := app_size hS6
        rw [show (⟨#[32]⟩ : ByteArray).size = 1 from rfl] at z4
        rw [show (⟨#[10]⟩ : ByteArray).size = 1 from rfl] at z6
        have r4 := add_run hS4 (by rw [show (⟨#[32]⟩ : ByteArray).size = 1 from rfl]; omega)
        have r5 := add_run hS5 (by omega)
        have r6 := add_run hS6 (by rw [show (⟨#[10]⟩ : ByteArray).size = 1 from rfl]; omega)
        have HH : Hid (S6.data.toList = headS 4 t.fm t.at_ d) := by show _ = _; rw [app_data hS6, app_data hS5, app_data hS4, HS3D.out, HNBD.out, HHEAD.out, if_pos (by decide)]
        have hz6 : S6.size ≤ 3000000 := by omega
        clear hS4 hS5 hS6 z4 z5 z6 hnl hNB hnbz
        go_wp2_with fail
        refine (HNT.out _).mono ?_
        rintro e w3 ⟨rfl, hb3⟩
        have hx3 := HX2.out.below hb3 (lt_of_heap HX2.out)
        have HK3 := Lib.hid (HK2.out.trans (KB.of_below hb3 (by have := HSB.out; omega)))
        have HI3 := Lib.hid (IsB.keep HI2.out hb3)
        have HX3 := Lib.hid hx3
        have hz3w := HK3.out.below.size
        clear hb3 hx3 y0 y3 y4 y5 y6
        obtain ⟨HD, hHD⟩ : ∃ HD, HD = headS 4 t.fm t.at_ d := ⟨_, rfl⟩
        rw [← hHD] at HH
        have HRW : Hid (RW = HD ++ rawL vs t.kids (d + 1)) := by show _ = _; rw [HRW0.out, hHD]
        have HWS1 := Lib.hid (wstring_any B b l S6 w3 HI3.out (by have := HLEN.out; omega) (by have := HSB.out; omega))
        rw [HH.out] at HWS1
        clear hHD
        go_wp2_with fail
        refine (HWS1.out).mono ?_
        rintro e w4 ⟨rfl, hi4, hk4⟩
        have hx4 := HX3.out.kb hk4 hbne
        have HK4 := Lib.hid (HK3.out.trans hk4)
        have HI4 := Lib.hid hi4
        have HX4 := Lib.hid hx4
        have hz4w := HK4.out.below.size
        have y0 := hx4.cell (j := 0) rfl
        have y3 := hx4.cell (j := 8) rfl
        have y4 := hx4.cell (j := 9) rfl
        have y5 := hx4.cell (j := 10) rfl
        have y6 := hx4.cell (j := 11) rfl
        rw [← HKD.out] at y0
        rw [← HAK.out] at y6
        clear hi4 hk4 hx4
        have HRK : Hid (RW = HD ++ rawL vs t.kids (d + 1)) := HRW.out
        have HEK : Hid (r = errL vs t.kids) := HE1.out
        go_wp2_with fail
        go_loopw [18, 19, 89] (fun _ _ si wr => ∃ (k : Nat) (Q : Bs), k ≤ t.kids.length ∧ si = .int .i64 k ∧ IsB B b (Lib.byteCells (l ++ HD ++ Q)) wr ∧ KB B b w wr ∧ errL vs (t.kids.drop k) = r ∧ rawL vs t.kids (d + 1) = Q ++ rawL vs (t.kids.drop k) (d + 1)) (fun _ _ i _ => t.kids.length - (intOf i).toNat)
        case atStart => exact ⟨0, [], Nat.zero_le _, rfl, by rw [List.append_nil]; exact HI4.out, HK4.out, HEK.out.symm, rfl⟩
        case round =>
          obtain ⟨k, Q, hk, rfl, hi, hkr, her, hra⟩ := hrel
          have HIR := Lib.hid hi
          have HKR := Lib.hid hkr
          have HER := Lib.hid her
          have HRA := Lib.hid hra
          have hcr := HC.out.kb hkr
          have HCR := Lib.hid hcr
          have fc := hcr.fc
          have hbfl := lt_of_heap hcr.fbox
          have hbr : Below B w0 wr := HBEL.out.trans hkr.below
          have HBR := Lib.hid hbr
          have hzr := hkr.below.size
          clear hi hkr her hra hcr hbr
          by_cases hlt2 : k < t.kids.length
          · obtain ⟨q, hq⟩ : ∃ q, t.kids[k]? = some q := ⟨_, List.getElem?_eq_getElem hlt2⟩
            have hmem : q ∈ t.kids := List.mem_of_getElem? hq
            rcases HV.out.kids with h9 | ⟨g, off, hpk, hg, hrow⟩
            · rw [h9] at hq; simp at hq
            obtain rfl : aK = some ⟨g, off, none⟩ := HAK.out.trans hpk
            clear hpk
            obtain ⟨p2, hcells, hV2⟩ := (hrow.get hq).open
            have hgB : g < B := by rw [HBQ.out]; exact hg
            have hcw : ∀ j v, (q.cells p2)[j]? = some v → wr.cell? ⟨g, off + k * 12 + j, none⟩ = some v := fun j v hj => by
              rw [HBR.out.cell (p := ⟨g, _, none⟩) hgB, show off + k * 12 + j = off + 12 * k + j from by omega]
              exact hcells j v hj
            have c0 := hcw 0 _ rfl
            have c1 := hcw 1 _ rfl
            have c2 := hcw 2 _ rfl
            have c3 := hcw 3 _ rfl
            have c4 := hcw 4 _ rfl
            have c5 := hcw 5 _ rfl
            have c6 := hcw 6 _ rfl
            have c7 := hcw 7 _ rfl
            have c8 := hcw 8 _ rfl
            have c9 := hcw 9 _ rfl
            have c10 := hcw 10 _ rfl
            have c11 := hcw 11 _ rfl
            rw [Nat.add_zero] at c0
            have hgw : g < wr.heap.size := by have := HSB.out; omega
            have HDR : Hid (t.kids.drop k = q :: t.kids.drop (k + 1)) := by
              obtain ⟨hj, hj2⟩ := List.getElem?_eq_some_iff.1 hq
              show _ = _
              rw [List.drop_eq_getElem_cons hj, hj2]
            have hqs : q.size ≤ N := by
              have h1 := Tr.sizeL_mem hmem
              have h2 := HNN.out
              cases t with
              | mk a1 a2 a3 a4 a5 a6 a7 => rw [Tr.size] at h2; simp only [Tr.kids] at h1; omega
            have hqw := HWO.out.2 q hmem
            obtain ⟨wk, hwk⟩ : ∃ wk, wk = wr.alloc (.cells #[.int .i64 q.kind, .slice p2.aS q.state.length p2.cS, .int .i64 q.fm.op, .int .i64 q.fm.tm.op, .int .i64 q.fm.tm.num, .string q.fm.tm.name, .slice p2.aE q.fm.tm.kids.length p2.cE, .slice p2.aF q.fm.kids.length p2.cF, .slice p2.aP q.path.length p2.cP, .int .i64 q.loop, .int .i64 q.at_, .slice p2.aK q.kids.length p2.cK] 33) := ⟨_, rfl⟩
            have hbk : Below wr.heap.size wr wk := by rw [hwk]; exact (Below.refl _ _).alloc (Nat.le_refl _) _
            have hKk : KB B b w wk := HKR.out.trans (KB.of_below hbk (by have := HSB.out; omega))
            have hRl : RW.length = HD.length + (Q.length + ((rawT vs q (d + 1)).length + (rawL vs (t.kids.drop (k + 1)) (d + 1)).length)) := by have h1 := HRK.out; rw [HRA.out, HDR.out, rawL] at h1; rw [h1]; simp only [List.length_append]; try omega
            have hih := IH.out q (d + 1) (l ++ HD ++ Q) p2 wk hqs (by have := HWS.out; omega) hV2 (HBR.out.trans (hbk.mono (by have := HSB.out; omega))) (IsB.keep HIR.out hbk) (HCR.out.below hbk) (by have := HLEN.out; rw [List.length_append, List.length_append]; omega)
            rw [show ((d + 1 : Nat) : Int) = (d : Int) + 1 from by omega] at hih
            unfold Tr.val at hih
            obtain ⟨z, hz⟩ : ∃ z, z = errT vs q := ⟨_, rfl⟩
            rw [← hz] at hih
            have HST : Hid (errL vs (t.kids.drop k) = if z ≠ 0 then z else errL vs (t.kids.drop (k + 1))) := by show _ = _; rw [HDR.out, errL, ← hz]
            have hcap2 := hV2.own.cap
            have HIH := Lib.hid hih
            have HWK := Lib.hid hwk
            have HKK := Lib.hid hKk
            rw [HWK.out] at HIH
            have hk0 : (0 : Int) ≤ (k : Int) := by omega
            have hk1 : (k : Int) < (t.kids.length : Int) := by omega
            have hrun : ∀ args W, (callFunc 31 args).run Tryd.prog W = .ok (.enter 31 args) W := fun _ _ => by kernel_rfl
            clear hih hwk hKk hz hcells hrow hq hmem hcw hV2 hRl hqw hqs
            go_wp2_with fail
            refine (HIH.out).mono ?_
            rintro e w8 ⟨rfl, hi8, hk8⟩
            rw [← HWK.out] at hk8
            have HK8 := Lib.hid (HKK.out.trans hk8)
            have HI8 := Lib.hid hi8
            clear hi8 hk8 c0 c1 c2 c3 c4 c5 c6 c7 c8 c9 c10 c11
            by_cases hz0 : z = 0
            · have HER8 : Hid (errL vs (t.kids.drop (k + 1)) = r) := by show _ = _; rw [← HER.out, HST.out, if_neg (fun h => h hz0)]
              have HI9 := Lib.hid (HI8.out hz0)
              subst hz0
              go_wp2_with fail
              go_roundw
              case rel => exact ⟨k + 1, Q ++ rawT vs q (d + 1), by omega, by go_num, by have h9 := HI9.out; rw [List.append_assoc] at h9; exact h9, HK8.out, HER8.out, by rw [HRA.out, HDR.out, rawL, List.append_assoc]⟩
              case measure => first | (simp [intOf]; done) | (simp [intOf]; omega)
            · have HRZ : Hid (r = z ∧ z ≠ 0) := ⟨by rw [← HER.out, HST.out, if_pos hz0], hz0⟩
              have hz1 : (z != 0) = true := by simpa using hz0
              clear hz0
              go_wp2_with fail
              rw [HF.out, HRZ.out.1]
              exact ⟨rfl, fun h => absurd h HRZ.out.2, HK8.out⟩
          · have hkn : k = t.kids.length := by omega
            have hk1 : ¬ (k : Int) < (t.kids.length : Int) := by omega
            have HR0 : Hid (r = 0) := by show _ = _; rw [← HER.out, List.drop_eq_nil_of_le (by omega)]; rfl
            have HI9 : Hid (IsB B b (Lib.byteCells (l ++ RW)) wr) := by
              have h9 := HIR.out
              have h8 := HRA.out
              rw [List.drop_eq_nil_of_le (by omega)] at h8
              have h7 : rawL vs [] (d + 1) = [] := rfl
              rw [h7, List.append_nil] at h8
              have h6 := HRK.out
              rw [h8] at h6
              rw [h6, ← List.append_assoc]
              exact h9
            clear hkn
            go_wp2_with fail
            rw [HF.out, HR0.out]
            exact ⟨rfl, fun _ => HI9.out, HKR.out⟩
      · have hf1 : (FS.2 != 0) = true := by simpa using hf0
        have HE1 : Hid (r = FS.2 ∧ FS.2 ≠ 0) := ⟨by rw [HE0.out, if_pos hf0], hf0⟩
        clear hf0
        go_wp2_with fail
        rw [HF.out, HE1.out.1]
        exact ⟨rfl, fun h => absurd h HE1.out.2, HK2.out⟩
    · have hkne : kindS kd ≠ [] := hk0
      have he1 := isEmpty_of_pos hkz
      have H45 := Lib.hid (And.intro h4 h5)
      clear h4 h5 hk0
      have HE0 : Hid (r = if FS.2 ≠ 0 then FS.2 else errL vs t.kids) := by show _ = _; rw [HERR.out, if_neg hkne]; by_cases h : FS.2 ≠ 0 <;> by_cases h2 : (linesT vs t.path t.loop).2 ≠ 0 <;> simp [h, h2, H45.out.2]
      have HRW0 : Hid (RW = headS kd t.fm t.at_ d ++ rawL vs t.kids (d + 1)) := by show _ = _; rw [HRAW.out, ← HKD.out]; simp [H45.out.2]
      clear hkz hkne
      go_enter Tryd.func31, Tryd.ntmps31
      go_wp2_with fail
      refine (HKIND.out _).mono ?_
      rintro e w' ⟨rfl, hw⟩
      rw [← hw]
      clear hw
      go_wp2_with fail
      refine (HBLK.out _).mono ?_
      rintro e w' ⟨rfl, hw⟩
      rw [← hw]
      clear hw
      go_wp2_with fail
      refine (HFS.out).mono ?_
      rintro e w2 ⟨rfl, hb2⟩
      rw [← HWB.out] at hb2
      have hx2 := HX.out.below hb2 hlt
      have HK2 := Lib.hid (HKB.out.trans (KB.of_below hb2 (by have := HSB.out; omega)))
      have HI2 := Lib.hid (IsB.keep HIB.out hb2)
      have HX2 := Lib.hid hx2
      have hz2 := HK2.out.below.size
      have y0 := hx2.cell (j := 0) rfl
      have y3 := hx2.cell (j := 8) rfl
      have y4 := hx2.cell (j := 9) rfl
      have y5 := hx2.cell (j := 10) rfl
      have y6 := hx2.cell (j := 11) rfl
      rw [← HKD.out] at y0
      rw [← HAK.out] at y6
      have hs2 := hb2.size
      clear hb2 hx2
      by_cases hf0 : FS.2 = 0
      · have hf1 : (FS.2 != 0) = false := by simpa using hf0
        have HE1 : Hid (r = errL vs t.kids) := by show _ = _; rw [HE0.out, if_neg (fun h => h hf0)]
        clear hf0
        obtain ⟨S1, hS1⟩ : ∃ S1 : ByteArray, S1 = BL ++ KS := ⟨_, rfl⟩
        obtain ⟨S2, hS2⟩ : ∃ S2 : ByteArray, S2 = S1 ++ (⟨#[32]⟩ : ByteArray) := ⟨_, rfl⟩
        obtain ⟨S3, hS3⟩ : ∃ S3 : ByteArray, S3 = S2 ++ FB := ⟨_, rfl⟩
        have z1 := app_size hS1
        have z2 := app_size hS2
        have z3 := app_size hS3
        rw [show (⟨#[32]⟩ : ByteArray).size = 1 from rfl] at z2
        have r1 := add_run hS1 (by omega)
        have r2 := add_run hS2 (by rw [show (⟨#[32]⟩ : ByteArray).size = 1 from rfl]; omega)
        have r3 := add_run hS3 (by omega)
        have hS3d : S3.data.toList = blanksS d ++ kindS kd ++ [32] ++ FS.1 := by rw [app_data hS3, app_data hS2, app_data hS1, HBLD.out, HKSD.out, HFBD.out]
        have HS3D := Lib.hid hS3d
        have hz3 : S3.size ≤ 2000000 := by omega
        clear hS1 hS2 hS3 z1 z2 z3 hS3d
        obtain ⟨S6, hS6⟩ : ∃ S6 : ByteArray, S6 = S3 ++ (⟨#[10]⟩ : ByteArray) := ⟨_, rfl⟩
        have z6 := app_size hS6
        rw [show (⟨#[10]⟩ : ByteArray).size = 1 from rfl] at z6
        have r6 := add_run hS6 (by rw [show (⟨#[10]⟩ : ByteArray).size = 1 from rfl]; omega)
        have HH : Hid (S6.data.toList = headS kd t.fm t.at_ d) := by show _ = _; rw [app_data hS6, HS3D.out, HHEAD.out, if_neg (by have := H45.out; omega), List.append_nil]
        have hz6 : S6.size ≤ 3000000 := by omega
        clear hS6 z6
        obtain ⟨HD, hHD⟩ : ∃ HD, HD = headS kd t.fm t.at_ d := ⟨_, rfl⟩
        rw [← hHD] at HH
        have HRW : Hid (RW = HD ++ rawL vs t.kids (d + 1)) := by show _ = _; rw [HRW0.out, hHD]
        have HWS1 := Lib.hid (wstring_any B b l S6 w2 HI2.out (by have := HLEN.out; omega) (by have := HSB.out; omega))
        rw [HH.out] at HWS1
        clear hHD
        go_wp2_with fail
        refine (HWS1.out).mono ?_
        rintro e w4 ⟨rfl, hi4, hk4⟩
        have hx4 := HX2.out.kb hk4 hbne
        have HK4 := Lib.hid (HK2.out.trans hk4)
        have HI4 := Lib.hid hi4
        have HX4 := Lib.hid hx4
        have hz4w := HK4.out.below.size
        clear y0 y3 y4 y5 y6
        have y0 := hx4.cell (j := 0) rfl
        have y3 := hx4.cell (j := 8) rfl
        have y4 := hx4.cell (j := 9) rfl
        have y5 := hx4.cell (j := 10) rfl
        have y6 := hx4.cell (j := 11) rfl
        rw [← HKD.out] at y0
        rw [← HAK.out] at y6
        clear hi4 hk4 hx4
        have HRK : Hid (RW = HD ++ rawL vs t.kids (d + 1)) := HRW.out
        have HEK : Hid (r = errL vs t.kids) := HE1.out
        go_wp2_with fail
        go_loopw [18, 19, 89] (fun _ _ si wr => ∃ (k : Nat) (Q : Bs), k ≤ t.kids.length ∧ si = .int .i64 k ∧ IsB B b (Lib.byteCells (l ++ HD ++ Q)) wr ∧ KB B b w wr ∧ errL vs (t.kids.drop k) = r ∧ rawL vs t.kids (d + 1) = Q ++ rawL vs (t.kids.drop k) (d + 1)) (fun _ _ i _ => t.kids.length - (intOf i).toNat)
        case atStart => exact ⟨0, [], Nat.zero_le _, rfl, by rw [List.append_nil]; exact HI4.out, HK4.out, HEK.out.symm, rfl⟩
        case round =>
          obtain ⟨k, Q, hk, rfl, hi, hkr, her, hra⟩ := hrel
          have HIR := Lib.hid hi
          have HKR := Lib.hid hkr
          have HER := Lib.hid her
          have HRA := Lib.hid hra
          have hcr := HC.out.kb hkr
          have HCR := Lib.hid hcr
          have fc := hcr.fc
          have hbfl := lt_of_heap hcr.fbox
          have hbr : Below B w0 wr := HBEL.out.trans hkr.below
          have HBR := Lib.hid hbr
          have hzr := hkr.below.size
          clear hi hkr her hra hcr hbr
          by_cases hlt2 : k < t.kids.length
          · obtain ⟨q, hq⟩ : ∃ q, t.kids[k]? = some q := ⟨_, List.getElem?_eq_getElem hlt2⟩
            have hmem : q ∈ t.kids := List.mem_of_getElem? hq
            rcases HV.out.kids with h9 | ⟨g, off, hpk, hg, hrow⟩
            · rw [h9] at hq; simp at hq
            obtain rfl : aK = some ⟨g, off, none⟩ := HAK.out.trans hpk
            clear hpk
            obtain ⟨p2, hcells, hV2⟩ := (hrow.get hq).open
            have hgB : g < B := by rw [HBQ.out]; exact hg
            have hcw : ∀ j v, (q.cells p2)[j]? = some v → wr.cell? ⟨g, off + k * 12 + j, none⟩ = some v := fun j v hj => by
              rw [HBR.out.cell (p := ⟨g, _, none⟩) hgB, show off + k * 12 + j = off + 12 * k + j from by omega]
              exact hcells j v hj
            have c0 := hcw 0 _ rfl
            have c1 := hcw 1 _ rfl
            have c2 := hcw 2 _ rfl
            have c3 := hcw 3 _ rfl
            have c4 := hcw 4 _ rfl
            have c5 := hcw 5 _ rfl
            have c6 := hcw 6 _ rfl
            have c7 := hcw 7 _ rfl
            have c8 := hcw 8 _ rfl
            have c9 := hcw 9 _ rfl
            have c10 := hcw 10 _ rfl
            have c11 := hcw 11 _ rfl
            rw [Nat.add_zero] at c0
            have hgw : g < wr.heap.size := by have := HSB.out; omega
            have HDR : Hid (t.kids.drop k = q :: t.kids.drop (k + 1)) := by
              obtain ⟨hj, hj2⟩ := List.getElem?_eq_some_iff.1 hq
              show _ = _
              rw [List.drop_eq_getElem_cons hj, hj2]
            have hqs : q.size ≤ N := by
              have h1 := Tr.sizeL_mem hmem
              have h2 := HNN.out
              cases t with
              | mk a1 a2 a3 a4 a5 a6 a7 => rw [Tr.size] at h2; simp only [Tr.kids] at h1; omega
            have hqw := HWO.out.2 q hmem
            obtain ⟨wk, hwk⟩ : ∃ wk, wk = wr.alloc (.cells #[.int .i64 q.kind, .slice p2.aS q.state.length p2.cS, .int .i64 q.fm.op, .int .i64 q.fm.tm.op, .int .i64 q.fm.tm.num, .string q.fm.tm.name, .slice p2.aE q.fm.tm.kids.length p2.cE, .slice p2.aF q.fm.kids.length p2.cF, .slice p2.aP q.path.length p2.cP, .int .i64 q.loop, .int .i64 q.at_, .slice p2.aK q.kids.length p2.cK] 33) := ⟨_, rfl⟩
            have hbk : Below wr.heap.size wr wk := by rw [hwk]; exact (Below.refl _ _).alloc (Nat.le_refl _) _
            have hKk : KB B b w wk := HKR.out.trans (KB.of_below hbk (by have := HSB.out; omega))
            have hRl : RW.length = HD.length + (Q.length + ((rawT vs q (d + 1)).length + (rawL vs (t.kids.drop (k + 1)) (d + 1)).length)) := by have h1 := HRK.out; rw [HRA.out, HDR.out, rawL] at h1; rw [h1]; simp only [List.length_append]; try omega
            have hih := IH.out q (d + 1) (l ++ HD ++ Q) p2 wk hqs (by have := HWS.out; omega) hV2 (HBR.out.trans (hbk.mono (by have := HSB.out; omega))) (IsB.keep HIR.out hbk) (HCR.out.below hbk) (by have := HLEN.out; rw [List.length_append, List.length_append]; omega)
            rw [show ((d + 1 : Nat) : Int) = (d : Int) + 1 from by omega] at hih
            unfold Tr.val at hih
            obtain ⟨z, hz⟩ : ∃ z, z = errT vs q := ⟨_, rfl⟩
            rw [← hz] at hih
            have HST : Hid (errL vs (t.kids.drop k) = if z ≠ 0 then z else errL vs (t.kids.drop (k + 1))) := by show _ = _; rw [HDR.out, errL, ← hz]
            have hcap2 := hV2.own.cap
            have HIH := Lib.hid hih
            have HWK := Lib.hid hwk
            have HKK := Lib.hid hKk
            rw [HWK.out] at HIH
            have hk0 : (0 : Int) ≤ (k : Int) := by omega
            have hk1 : (k : Int) < (t.kids.length : Int) := by omega
            have hrun : ∀ args W, (callFunc 31 args).run Tryd.prog W = .ok (.enter 31 args) W := fun _ _ => by kernel_rfl
            clear hih hwk hKk hz hcells hrow hq hmem hcw hV2 hRl hqw hqs
            go_wp2_with fail
            refine (HIH.out).mono ?_
            rintro e w8 ⟨rfl, hi8, hk8⟩
            rw [← HWK.out] at hk8
            have HK8 := Lib.hid (HKK.out.trans hk8)
            have HI8 := Lib.hid hi8
            clear hi8 hk8 c0 c1 c2 c3 c4 c5 c6 c7 c8 c9 c10 c11
            by_cases hz0 : z = 0
            · have HER8 : Hid (errL vs (t.kids.drop (k + 1)) = r) := by show _ = _; rw [← HER.out, HST.out, if_neg (fun h => h hz0)]
              have HI9 := Lib.hid (HI8.out hz0)
              subst hz0
              go_wp2_with fail
              go_roundw
              case rel => exact ⟨k + 1, Q ++ rawT vs q (d + 1), by omega, by go_num, by have h9 := HI9.out; rw [List.append_assoc] at h9; exact h9, HK8.out, HER8.out, by rw [HRA.out, HDR.out, rawL, List.append_assoc]⟩
              case measure => first | (simp [intOf]; done) | (simp [intOf]; omega)
            · have HRZ : Hid (r = z ∧ z ≠ 0) := ⟨by rw [← HER.out, HST.out, if_pos hz0], hz0⟩
              have hz1 : (z != 0) = true := by simpa using hz0
              clear hz0
              go_wp2_with fail
              rw [HF.out, HRZ.out.1]
              exact ⟨rfl, fun h => absurd h HRZ.out.2, HK8.out⟩
          · have hkn : k = t.kids.length := by omega
            have hk1 : ¬ (k : Int) < (t.kids.length : Int) := by omega
            have HR0 : Hid (r = 0) := by show _ = _; rw [← HER.out, List.drop_eq_nil_of_le (by omega)]; rfl
            have HI9 : Hid (IsB B b (Lib.byteCells (l ++ RW)) wr) := by
              have h9 := HIR.out
              have h8 := HRA.out
              rw [List.drop_eq_nil_of_le (by omega)] at h8
              have h7 : rawL vs [] (d + 1) = [] := rfl
              rw [h7, List.append_nil] at h8
              have h6 := HRK.out
              rw [h8] at h6
              rw [h6, ← List.append_assoc]
              exact h9
            clear hkn
            go_wp2_with fail
            rw [HF.out, HR0.out]
            exact ⟨rfl, fun _ => HI9.out, HKR.out⟩
      · have hf1 : (FS.2 != 0) = true := by simpa using hf0
        have HE1 : Hid (r = FS.2 ∧ FS.2 ≠ 0) := ⟨by rw [HE0.out, if_pos hf0], hf0⟩
        clear hf0
        go_wp2_with fail
        rw [HF.out, HE1.out.1]
        exact ⟨rfl, fun h => absurd h HE1.out.2, HK2.out⟩
end Go.Proofs.YtcjblbpkjegmiaaDoor
