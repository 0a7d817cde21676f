/- Walks: terms.Check. -/
import Derived.Test.YtnbphgeepnknlaaGreatDoorQTrmA
namespace Go.Proofs.YtnbphgeepnknlaaGreatDoor
open Go.RowKit
set_option linter.unusedVariables false

/-- One cell of a number in a block of its own. -/
def Box (w : World) (b : Nat) (T : TypeId) (v : Int) : Prop := w.heap[b]? = some (.cells #[.int .i64 v] T (0, 0))
theorem Box.cell {w : World} {b : Nat} {T : TypeId} {v : Int} (h : Box w b T v) : w.cell? ⟨b, 0, none⟩ = some (.int .i64 v) := by
 rw [cell_of_row w b 0 _ T (0, 0) h]; rfl
theorem Box.frozen {w : World} {b : Nat} {T : TypeId} {v : Int} (h : Box w b T v) : w.frozen? ⟨b, 0, none⟩ = false := by
 unfold Box at h
 simp [World.frozen?, h]
theorem Box.lt {w : World} {b : Nat} {T : TypeId} {v : Int} (h : Box w b T v) : b < w.heap.size := by
 rcases Nat.lt_or_ge b w.heap.size with hlt | hge
 · exact hlt
 · unfold Box at h; rw [Array.getElem?_eq_none hge] at h; cases h
theorem Box.set {w : World} {b : Nat} {T : TypeId} {v : Int} (h : Box w b T v) (u : Int) : Box (w.setCell ⟨b, 0, none⟩ (.int .i64 u)) b T u := by
 unfold Box at h ⊢
 simp [World.setCell, Array.getElem?_modify, h]
theorem Box.setOther {w : World} {b : Nat} {T : TypeId} {v : Int} (h : Box w b T v) {p : Addr} (hp : b ≠ p.block) (u : Value) : Box (w.setCell p u) b T v :=
 (heap_setCell_other w p b u hp).trans h
theorem Box.below {w w' : World} {B b : Nat} {T : TypeId} {v : Int} (h : Box w b T v) (hb : Below B w w') (hB : b < B) : Box w' b T v := (hb.block b hB).trans h
theorem Box.only {w w' : World} {F : Nat → Prop} {b : Nat} {T : TypeId} {v : Int} (h : Box w b T v) (hb : Only F w w') (hF : ¬ F b) : Box w' b T v := (hb.block b h.lt hF).trans h
theorem Box.new (w : World) (T : TypeId) (v : Int) : Box (w.alloc (.cells #[.int .i64 v] T)) w.heap.size T v := heap_alloc_new w _

def ChkInv (bw bn : Nat) (x : Int × Nat) (w : World) : Prop := Box w bw 26 x.1 ∧ Box w bn 3 x.2 ∧ x.2 ≤ 4096
def ChkFin (bw : Nat) (x : Int × Nat) (w : World) : Prop := Box w bw 26 x.1

set_option maxRecDepth 100000 in
set_option maxHeartbeats 4000000 in
theorem check1_any (bw bn : Nat) (hne : bw ≠ bn) (x : Int × Nat) (t : Tm) (d : Nat) (A : Option Addr) (c : Nat) (w : World) (hI : ChkInv bw bn x w) (hV : TmV w A c t) (hd : d ≤ 10000000) :
 Calls Tryz.prog 108 #[t.val A c, .int .i64 d, .pointer (some ⟨bn, 0, none⟩), .pointer (some ⟨bw, 0, none⟩)] w fun e w' => e = .returned (.bool (chkStep x t d).2) ∧ (ChkFin bw (chkStep x t d).1 w' ∧ ((chkStep x t d).2 = true → ChkInv bw bn (chkStep x t d).1 w')) ∧ Only (fun q => q = bw ∨ q = bn) w w' := by
 obtain ⟨hw1, hn1, hx2⟩ := hI
 obtain ⟨e0, n⟩ := x
 simp only at hw1 hn1 hx2
 obtain ⟨we, hwe⟩ : ∃ we, we = wrongE t.op t.num t.name.size t.kids.length := ⟨_, rfl⟩
 have hwr := fun W => wrong_any t.op t.num t.name A t.kids.length c W hV.name (Nat.le_trans hV.cap hV.capm)
 rw [← hwe] at hwr
 have HWR := Lib.hid hwr
 obtain ⟨wb, hwb⟩ : ∃ wb, wb = w.alloc (.cells #[.int .i64 t.op, .int .i64 t.num, .string t.name, .slice A t.kids.length c] 25) := ⟨_, rfl⟩
 have hb1 : Below w.heap.size w wb := by rw [hwb]; exact (Below.refl _ _).alloc (Nat.le_refl _) _
 have hlw := hw1.lt
 have hln := hn1.lt
 have cw := hw1.cell
 have cn := hn1.cell
 have fw := hw1.frozen
 have fn := hn1.frozen
 have HW1 := Lib.hid hw1
 have HN1 := Lib.hid hn1
 have HST : Hid (chkStep (e0, n) t d = ((if 64 < d then 17 else if we = 0 ∧ 4096 < n + 1 then 4 else we, n + 1), decide ((if 64 < d then (17 : Int) else if we = 0 ∧ 4096 < n + 1 then 4 else we) = 0))) := by
  show _ = _
  rw [hwe]; rfl
 obtain ⟨st, hst⟩ : ∃ st, st = chkStep (e0, n) t d := ⟨_, rfl⟩
 rw [← hst] at HST ⊢
 obtain ⟨nk, hnk⟩ : ∃ nk, nk = t.kids.length := ⟨_, rfl⟩
 have hne' : bn ≠ bw := fun h => hne h.symm
 unfold Tm.val
 clear hwr hwe hst hV hw1 hn1 hb1 hwb hnk
 by_cases hd64 : 64 < d
 · have hd' : (64 : Int) < (d : Int) := by omega
   go_enter Tryz.func108, Tryz.ntmps108
   go_wp2_with fail
   have hs2 : st = ((17, n + 1), false) := by rw [HST.out, if_pos hd64]; rfl
   rw [hs2]
   clear hs2
   go_ret
   refine ⟨rfl, ⟨?_, fun h => by cases h⟩, ?_⟩
   · exact ((HW1.out.setOther (p := ⟨bn, 0, none⟩) hne _).set _).below ((Below.refl w.heap.size _).alloc (by simp) _) (by simpa using hlw)
   · exact (((Only.refl (F := fun q => q = bw ∨ q = bn)).setF (Or.inr rfl) _).setF (Or.inl rfl) _).thenBelow ((Below.refl w.heap.size _).alloc (by simp) _) (Nat.le_refl _)
 · have hd' : ¬ (64 : Int) < (d : Int) := by omega
   have hs2 : st = ((if we = 0 ∧ 4096 < n + 1 then 4 else we, n + 1), decide ((if we = 0 ∧ 4096 < n + 1 then 4 else we) = 0)) := by rw [HST.out, if_neg hd64]
   have HS2 := Lib.hid hs2
   clear hs2
   obtain ⟨w2, hw2⟩ : ∃ w2, w2 = (w.setCell ⟨bn, 0, none⟩ (.int .i64 ((n : Int) + 1))).alloc (.cells #[.int .i64 t.op, .int .i64 t.num, .string t.name, .slice A t.kids.length c] 25) := ⟨_, rfl⟩
   have hbw2 : Box w2 bw 26 e0 := by rw [hw2]; exact (HW1.out.setOther (p := ⟨bn, 0, none⟩) hne _).below ((Below.refl w.heap.size _).alloc (by simp) _) (by simpa using hlw)
   have hbn2 : Box w2 bn 3 ((n : Int) + 1) := by rw [hw2]; exact (HN1.out.set _).below ((Below.refl w.heap.size _).alloc (by simp) _) (by simpa using hln)
   have ho2 : Only (fun q => q = bw ∨ q = bn) w w2 := by rw [hw2]; exact ((Only.refl (F := fun q => q = bw ∨ q = bn)).setF (Or.inr rfl) _).thenBelow ((Below.refl w.heap.size _).alloc (by simp) _) (Nat.le_refl _)
   have HW2 := Lib.hid hw2
   have HBW2 := Lib.hid hbw2
   have HBN2 := Lib.hid hbn2
   have HO2 := Lib.hid ho2
   clear hw2 hbw2 hbn2 ho2
   go_enter Tryz.func108, Tryz.ntmps108
   go_wp2_with fail
   rw [← HW2.out]
   refine (HWR.out w2).mono ?_
   rintro e w3 ⟨rfl, hb3⟩
   clear cw cn fw fn
   have hbw3 := HBW2.out.below hb3 HBW2.out.lt
   have hbn3 := HBN2.out.below hb3 HBN2.out.lt
   have HO3 := Lib.hid (HO2.out.thenBelow hb3 HO2.out.size)
   have cw := hbw3.cell
   have cn := hbn3.cell
   have fw := hbw3.frozen
   have fn := hbn3.frozen
   have lw := hbw3.lt
   have ln := hbn3.lt
   have HBW3 := Lib.hid hbw3
   have HBN3 := Lib.hid hbn3
   clear hbw3 hbn3 hb3
   by_cases h0 : we = 0
   · by_cases h4 : 4096 < n + 1
     · have hs2 : st = ((4, n + 1), false) := by rw [HS2.out, if_pos ⟨h0, h4⟩]; rfl
       have HSS := Lib.hid hs2
       subst h0
       have h4' : (4096 : Int) < (n : Int) + 1 := by omega
       clear hs2
       go_wp2_with fail
       go_ret
       rw [HSS.out]
       refine ⟨rfl, ⟨?_, fun h => by cases h⟩, ?_⟩
       · exact (HBW3.out.set _).set _
       · exact (HO3.out.setF (Or.inl rfl) _).setF (Or.inl rfl) _
     · have hs2 : st = ((0, n + 1), true) := by rw [HS2.out, if_neg (by omega), h0]; rfl
       have HSS := Lib.hid hs2
       subst h0
       have h4' : ¬ (4096 : Int) < (n : Int) + 1 := by omega
       clear hs2
       go_wp2_with fail
       go_ret
       rw [HSS.out]
       refine ⟨rfl, ⟨HBW3.out.set _, fun _ => ⟨HBW3.out.set _, ?_, (by show n + 1 ≤ 4096; omega)⟩⟩, HO3.out.setF (Or.inl rfl) _⟩
       exact HBN3.out.setOther (p := ⟨bw, 0, none⟩) hne' _
   · have hs2 : st = ((we, n + 1), false) := by rw [HS2.out, if_neg (fun h => h0 h.1), decide_eq_false h0]
     have HSS := Lib.hid hs2
     have h0' : (we == 0) = false := by simpa using h0
     clear hs2 h0
     go_wp2_with fail
     go_ret
     rw [HSS.out]
     exact ⟨rfl, ⟨HBW3.out.set _, fun h => by cases h⟩, HO3.out.setF (Or.inl rfl) _⟩

set_option maxRecDepth 100000 in
set_option maxHeartbeats 4000000 in
theorem check_any (t : Tm) (A : Option Addr) (c : Nat) (w : World) (hV : TmV w A c t) (hsz : t.size ≤ 9000000) :
 Calls Tryz.prog 62 #[t.val A c] w fun e w' => e = .returned (.int .i64 t.check) ∧ Below w.heap.size w w' := by
 obtain ⟨wb, hwb⟩ : ∃ wb, wb = ((w.alloc (.cells #[.int .i64 t.op, .int .i64 t.num, .string t.name, .slice A t.kids.length c] 25)).alloc (.cells #[.int .i64 0] 26)).alloc (.cells #[.int .i64 0] 3) := ⟨_, rfl⟩
 have hb1 : Below w.heap.size w wb := by rw [hwb]; exact (((Below.refl _ _).alloc (Nat.le_refl _) _).alloc (by simp) _).alloc (by simp; omega) _
 have hbw : Box wb (w.heap.size + 1) 26 0 := by
  rw [hwb]
  have h := Box.new (w.alloc (.cells #[.int .i64 t.op, .int .i64 t.num, .string t.name, .slice A t.kids.length c] 25)) 26 0
  rw [show (w.alloc (.cells #[.int .i64 t.op, .int .i64 t.num, .string t.name, .slice A t.kids.length c] 25)).heap.size = w.heap.size + 1 from by simp] at h
  exact h.below ((Below.refl (w.heap.size + 2) _).alloc (by simp) _) (by omega)
 have hbn : Box wb (w.heap.size + 2) 3 0 := by
  rw [hwb]
  have h := Box.new ((w.alloc (.cells #[.int .i64 t.op, .int .i64 t.num, .string t.name, .slice A t.kids.length c] 25)).alloc (.cells #[.int .i64 0] 26)) 3 0
  rw [show ((w.alloc (.cells #[.int .i64 t.op, .int .i64 t.num, .string t.name, .slice A t.kids.length c] 25)).alloc (.cells #[.int .i64 0] 26)).heap.size = w.heap.size + 2 from by simp] at h
  exact h
 have V : Visitor 108 #[.pointer (some ⟨w.heap.size + 2, 0, none⟩), .pointer (some ⟨w.heap.size + 1, 0, none⟩)] w.heap.size w (ChkInv (w.heap.size + 1) (w.heap.size + 2)) (ChkFin (w.heap.size + 1)) chkStep (fun _ => 10000000) :=
  { enter := fun args w => by kernel_rfl
    fin := fun s w h => h.1
    keep := fun s w w' h hb => ⟨h.1.below hb h.1.lt, h.2.1.below hb h.2.1.lt, h.2.2⟩
    lose := fun s t d => Nat.le_succ _
    call := fun s t d A c w' hI hbl hV hd _ => (check1_any _ _ (by omega) s t d A c w' hI hV hd).mono fun e w2 ⟨h1, h2, h3⟩ => ⟨h1, h2, KT.of_only h3 (fun q hq => by omega) hbl.size (fun q hq cs fz he => by
     rcases hq with rfl | rfl
     · have h4 := hI.1
       unfold Box at h4
       rw [he] at h4
       injection h4 with h4
       injection h4 with _ h4 _
       exact absurd h4 (by decide)
     · have h4 := hI.2.1
       unfold Box at h4
       rw [he] at h4
       injection h4 with h4
       injection h4 with _ h4 _
       exact absurd h4 (by decide))⟩ }
 have hwalk := walk_any V rfl t.size t 1 A c (0, 0) wb (Nat.le_refl _) (by omega) (by omega) hV ⟨hbw, hbn, Nat.zero_le _⟩ hb1
 rw [hwb] at hwalk
 have HWK := Lib.hid hwalk
 have HB1 := Lib.hid hb1
 have HWB := Lib.hid hwb
 unfold Tm.val at HWK ⊢
 clear hb1 hbw hbn V hwalk hwb hV hsz
 go_enter Tryz.func62, Tryz.ntmps62
 go_wp2_with fail
 refine (HWK.out).mono ?_
 rintro e w1 ⟨rfl, hfin, ho⟩
 rw [← HWB.out] at ho
 have hbx : Box w1 (w.heap.size + 1) 26 t.check := hfin.1
 have HO := Lib.hid (HB1.out.trans ho.below)
 have cw := hbx.cell
 clear hfin ho
 go_wp2_with fail
 go_ret
 exact ⟨rfl, HO.out⟩
end Go.Proofs.YtnbphgeepnknlaaGreatDoor
