/- Walk: ttext.Show. -/
import Derived.Test.YtnbphgeepnknlaaGreatDoorQTrmG
namespace Go.Proofs.YtnbphgeepnknlaaGreatDoor
open Go.RowKit
set_option linter.unusedVariables false

/-- The text of a term, and the error. -/
def showTm (t : Tm) : Bs × Int := if t.check ≠ 0 then ([], t.check) else if toldT t = false then ([], 3) else if 65536 < (shw numS t 0 true).length then ([], 4) else (shw numS t 0 true, 0)

set_option maxRecDepth 100000 in
set_option maxHeartbeats 8000000 in
theorem tshow_any (t : Tm) (A : Option Addr) (c : Nat) (w : World) (hV : TmV w A c t) (hsz : t.size ≤ 9000000) (hT : WordsT w) :
 Calls Tryz.prog 30 #[t.val A c] w fun e w' => e = .returned (.tuple #[.string ⟨(showTm t).1.toArray⟩, .int .i64 (showTm t).2]) ∧ Below w.heap.size w w' := by
 obtain ⟨n, hn⟩ : ∃ n, n = t.kids.length := ⟨_, rfl⟩
 obtain ⟨wb, hwb⟩ : ∃ wb, wb = w.alloc (.cells #[.int .i64 t.op, .int .i64 t.num, .string t.name, .slice A n c] 25) := ⟨_, rfl⟩
 have hb1 : Below w.heap.size w wb := by rw [hwb]; exact (Below.refl _ _).alloc (Nat.le_refl _) _
 have hbx : TBox wb w.heap.size A n c t := by rw [hwb]; exact heap_alloc_new w _
 have hsb : w.heap.size < wb.heap.size := by rw [hwb]; simp
 have hck := check_any t A c wb (hV.below hb1 rfl) hsz
 unfold Tm.val at hck ⊢
 rw [← hn] at hck ⊢
 obtain ⟨ck, hck0⟩ : ∃ ck, ck = t.check := ⟨_, rfl⟩
 rw [← hck0] at hck
 obtain ⟨R, hR⟩ : ∃ R, R = showTm t := ⟨_, rfl⟩
 rw [← hR]
 unfold showTm at hR
 rw [← hck0] at hR
 have HR := Lib.hid hR
 have HCK := Lib.hid hck
 have HCK0 := Lib.hid hck0
 have HWB := Lib.hid hwb
 have HB1 := Lib.hid hb1
 have HBX := Lib.hid hbx
 have HV := Lib.hid hV
 have HT := Lib.hid hT
 have HN := Lib.hid hn
 clear hck hck0 hR hwb hb1 hbx hV hT hn
 go_enter Tryz.func30, Tryz.ntmps30
 go_wp2_with fail
 rw [← HWB.out]
 refine (HCK.out).mono ?_
 rintro e w1 ⟨rfl, hb2⟩
 have hx1 := HBX.out.below hb2 HBX.out.lt
 have HB2 := Lib.hid (HB1.out.trans (hb2.mono (Nat.le_of_lt hsb)))
 have hs1 := hb2.size
 have y0 := hx1.c0
 have y1 := hx1.c1
 have y2 := hx1.c2
 have y3 := hx1.c3
 have HX1 := Lib.hid hx1
 clear hx1 hb2
 by_cases h0 : ck = 0
 · have hck : t.check = 0 := by rw [← HCK0.out]; exact h0
   have htl := told_any t.size t A c w1 (Nat.le_refl _) hsz (HV.out.below HB2.out rfl) (HT.out.below HB2.out)
   unfold Tm.val at htl
   rw [← HN.out] at htl
   obtain ⟨tl, htl0⟩ : ∃ tl, tl = toldT t := ⟨_, rfl⟩
   rw [← htl0] at htl
   have hr2 := HR.out
   rw [if_neg (fun h => h h0), ← htl0] at hr2
   have HR2 := Lib.hid hr2
   have HTL := Lib.hid htl
   have HOK := Lib.hid (check_ok hck)
   subst h0
   clear hck htl htl0 hr2
   go_wp2_with fail
   refine (HTL.out).mono ?_
   rintro e w2 ⟨rfl, hb3⟩
   have hx2 := HX1.out.below hb3 HX1.out.lt
   have hs2 := hb3.size
   have hs1w := HB2.out.size
   have HB3 := Lib.hid (HB2.out.trans (hb3.mono hs1w))
   clear y0 y1 y2 y3 hb3
   have y0 := hx2.c0
   have y1 := hx2.c1
   have y2 := hx2.c2
   have y3 := hx2.c3
   have HX2 := Lib.hid hx2
   have hlx := hx2.lt
   clear hx2
   cases tl with
   | false =>
    have HRE : Hid (R = ([], 3)) := by show _ = _; rw [HR2.out, if_pos rfl]
    go_wp2_with fail
    go_ret2
    rw [HRE.out]
    exact ⟨rfl, HB3.out⟩
   | true =>
    obtain ⟨w3, hw3⟩ : ∃ w3, w3 = w2.alloc (.cells #[.pointer none, .slice none 0 0] 106) := ⟨_, rfl⟩
    have hb4 : Below w2.heap.size w2 w3 := by rw [hw3]; exact (Below.refl _ _).alloc (Nat.le_refl _) _
    have hI : IsB w2.heap.size w2.heap.size (Lib.byteCells []) w3 := by rw [hw3]; exact Lib.fresh_isBuilder _ _ w2
    have hput := put_any w2.heap.size w2.heap.size w2 rfl t.size t 0 true 1 [] A c w3 (Nat.le_refl _) HOK.out.1 (HV.out.below HB3.out rfl) hb4 hI (by have := HOK.out.2; simp; omega) (by omega)
    unfold Tm.val at hput
    rw [← HN.out, List.nil_append] at hput
    have HW3 := Lib.hid hw3
    have HPUT := Lib.hid hput
    have hlen := shw_len numS_short t 0 true 1 HOK.out.1
    have hsz4 := HOK.out.2
    obtain ⟨S, hS⟩ : ∃ S, S = shw numS t 0 true := ⟨_, rfl⟩
    rw [← hS] at HPUT hlen
    have hr3 := HR2.out
    rw [if_neg (by decide), ← hS] at hr3
    have HR3 := Lib.hid hr3
    clear hw3 hb4 hI hput hS hr3
    go_wp2_with fail
    rw [← HW3.out]
    refine (HPUT.out).mono ?_
    rintro e w4 ⟨rfl, hi4, hk4⟩
    have HI4 := Lib.hid hi4
    have hbw4 := hk4.below
    have HB4 : Hid (Below w.heap.size w w4) := by
     refine HB3.out.trans (Below.mono (B := w2.heap.size) ?_ (HB3.out.size))
     rw [HW3.out] at hbw4
     exact (((Below.refl _ _).alloc (Nat.le_refl _) _).trans hbw4)
    have hs4 := hbw4.size
    have hlen4 := Tryz.Builder_Len w2.heap.size w2.heap.size (Lib.byteCells S) w4 hi4
    rw [Lib.byteCells_length] at hlen4
    have HLEN4 := Lib.hid hlen4
    have hstr := Tryz.Builder_String_any w2.heap.size w2.heap.size S w4 hi4 (by have := (IsB.lt hi4).1; omega)
    have HSTR := Lib.hid hstr
    have hs24 : w.heap.size ≤ w2.heap.size := HB3.out.size
    clear hi4 hk4 hbw4 hlen4 hstr y0 y1 y2 y3
    go_wp2_with fail
    refine (HLEN4.out).mono ?_
    rintro e w5 ⟨rfl, hw5⟩
    subst hw5
    by_cases h6 : 65536 < S.length
    · have HRE : Hid (R = ([], 4)) := by show _ = _; rw [HR3.out, if_pos h6]
      have h6' : (65536 : Int) < (S.length : Int) := by omega
      go_wp2_with fail
      go_ret2
      rw [HRE.out]
      exact ⟨rfl, HB4.out⟩
    · have HRE : Hid (R = (S, 0)) := by show _ = _; rw [HR3.out, if_neg h6]
      have h6' : ¬ (65536 : Int) < (S.length : Int) := by omega
      go_wp2_with fail
      refine (HSTR.out).mono ?_
      rintro e w6 ⟨rfl, hb6⟩
      have HB6 := Lib.hid (HB4.out.trans (hb6.mono hs24))
      clear hb6
      go_wp2_with fail
      go_ret2
      rw [HRE.out]
      exact ⟨rfl, HB6.out⟩
 · have HRE : Hid (R = ([], ck)) := by show _ = _; rw [HR.out, if_pos h0]
   have h0' : (ck != 0) = true := by simpa using h0
   clear h0
   go_wp2_with fail
   go_ret2
   rw [HRE.out]
   exact ⟨rfl, HB2.out⟩
end Go.Proofs.YtnbphgeepnknlaaGreatDoor
