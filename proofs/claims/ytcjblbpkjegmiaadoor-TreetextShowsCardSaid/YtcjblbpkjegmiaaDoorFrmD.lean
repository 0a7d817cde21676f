/- Walk: forms.Check. -/
import Derived.Test.YtcjblbpkjegmiaaDoorFrmC
namespace Go.Proofs.YtcjblbpkjegmiaaDoor
open Go.RowKit
set_option linter.unusedVariables false

set_option maxRecDepth 100000 in
set_option maxHeartbeats 4000000 in
theorem fcheck_any (t : Fm) (Ae : Option Addr) (ce : Nat) (A : Option Addr) (c : Nat) (w : World) (hV : FmV w Ae ce A c t) (hsz : t.wsize ≤ 9000000) :
    Calls Tryd.prog 55 #[t.val Ae ce A c] w fun e w' => e = .returned (.int .i64 t.check) ∧ Below w.heap.size w w' := by
  obtain ⟨wb, hwb⟩ : ∃ wb, wb = ((w.alloc (.cells #[.int .i64 t.op, .int .i64 t.tm.op, .int .i64 t.tm.num, .string t.tm.name, .slice Ae t.tm.kids.length ce, .slice A t.kids.length c] 29)).alloc (.cells #[.int .i64 0] 37)).alloc (.cells #[.int .i64 0] 3) := ⟨_, rfl⟩
  have hb1 : Below w.heap.size w wb := by rw [hwb]; exact (((Below.refl _ _).alloc (Nat.le_refl _) _).alloc (by simp) _).alloc (by simp; omega) _
  have hbw : Box wb (w.heap.size + 1) 37 0 := by
    rw [hwb]
    have h := Box.new (w.alloc (.cells #[.int .i64 t.op, .int .i64 t.tm.op, .int .i64 t.tm.num, .string t.tm.name, .slice Ae t.tm.kids.length ce, .slice A t.kids.length c] 29)) 37 0
    rw [show (w.alloc (.cells #[.int .i64 t.op, .int .i64 t.tm.op, .int .i64 t.tm.num, .string t.tm.name, .slice Ae t.tm.kids.length ce, .slice A t.kids.length c] 29)).heap.size = w.heap.size + 1 from by simp] at h
    exact h.below ((Below.refl (w.heap.size + 2) _).alloc (by simp) _) (by omega)
  have hbn : Box wb (w.heap.size + 2) 3 0 := by
    rw [hwb]
    have h := Box.new ((w.alloc (.cells #[.int .i64 t.op, .int .i64 t.tm.op, .int .i64 t.tm.num, .string t.tm.name, .slice Ae t.tm.kids.length ce, .slice A t.kids.length c] 29)).alloc (.cells #[.int .i64 0] 37)) 3 0
    rw [show ((w.alloc (.cells #[.int .i64 t.op, .int .i64 t.tm.op, .int .i64 t.tm.num, .string t.tm.name, .slice Ae t.tm.kids.length ce, .slice A t.kids.length c] 29)).alloc (.cells #[.int .i64 0] 37)).heap.size = w.heap.size + 2 from by simp] at h
    exact h
  have V : FVisitor 83 #[.pointer (some ⟨w.heap.size + 2, 0, none⟩), .pointer (some ⟨w.heap.size + 1, 0, none⟩)] w.heap.size w (fun x W => ChkInv (w.heap.size + 1) (w.heap.size + 2) x W ∧ x.1 = 0) (ChkFin (w.heap.size + 1)) fchkStep (fun _ => 10000000) :=
    { enter := fun args w => by kernel_rfl
      fin := fun s w h => h.1.1
      keep := fun s w w' h hb => ⟨⟨h.1.1.below hb h.1.1.lt, h.1.2.1.below hb h.1.2.1.lt, h.1.2.2⟩, h.2⟩
      lose := fun s t d => Nat.le_succ _
      call := fun s t d Ae ce A c w' hI hbl hV hd _ hws => (fcheck1_any _ _ (by omega) s t d Ae ce A c w' w w.heap.size rfl (by omega) (by omega) hbl hI.1 hI.2 hV hd (by have := (Fm.wsize_open t).1; omega)).mono fun e w2 ⟨h1, h2, h3⟩ => ⟨h1, ⟨h2.1, fun h => ⟨h2.2 h, by
        have h' : decide (fstepE t d s.2 = 0) = true := h
        show fstepE t d s.2 = 0
        simpa using h'⟩⟩, KT.of_only h3 (fun q hq => by omega) hbl.size (fun q hq cs fz he => by
        rcases hq with rfl | rfl
        · have h4 := hI.1.1
          unfold Box at h4
          rw [he] at h4
          injection h4 with h4
          injection h4 with _ h4 _
          exact absurd h4 (by decide)
        · have h4 := hI.1.2.1
          unfold Box at h4
          rw [he] at h4
          injection h4 with h4
          injection h4 with _ h4 _
          exact absurd h4 (by decide))⟩ }
  have hss := Fm.size_le t
  have hwalk := each_any V rfl t.size t 1 Ae ce A c (0, 0) wb (Nat.le_refl _) (by omega) hsz (by omega) hV ⟨⟨hbw, hbn, Nat.zero_le _⟩, rfl⟩ hb1
  rw [hwb] at hwalk
  have HWK := Lib.hid hwalk
  have HB1 := Lib.hid hb1
  have HWB := Lib.hid hwb
  unfold Fm.val at HWK ⊢
  clear hb1 hbw hbn V hwalk hwb hV hsz hss
  go_enter Tryd.func55, Tryd.ntmps55
  go_wp2_with fail
  refine (HWK.out).mono ?_
  rintro e w1 ⟨rfl, hfin, ho⟩
  rw [← HWB.out] at ho
  have hbx : Box w1 (w.heap.size + 1) 37 t.check := hfin.1
  have HO := Lib.hid (HB1.out.trans ho.below)
  have cw := hbx.cell
  clear hfin ho
  go_wp2_with fail
  go_ret
  exact ⟨rfl, HO.out⟩
end Go.Proofs.YtcjblbpkjegmiaaDoor
