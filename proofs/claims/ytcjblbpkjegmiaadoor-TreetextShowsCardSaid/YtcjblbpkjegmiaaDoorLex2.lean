/- Walks: strings.TrimLeft at the lexer's blanks. -/
import Derived.Test.YtcjblbpkjegmiaaDoorLex1
import Derived.Test.YtcjblbpkjegmiaaDoorShelf
import Derived.Lib.AsciiSet
namespace Go.Proofs.YtcjblbpkjegmiaaDoor
open Go.RowKit
set_option linter.unusedVariables false

/-- White space. -/
def wsSet : Bs := [32, 9, 10, 13]
theorem wsSet_has (c : UInt8) : wsSet.contains c = isWs c := by
  unfold wsSet isWs
  rw [Bool.eq_iff_iff]
  simp [← UInt8.toNat_inj]
  omega

theorem ascii_of_all {l : List UInt8} (h : l.all (fun b => decide (b.toNat < 128)) = true) : ∀ (j : Nat) b, l[j]? = some b → b.toNat < 128 := by
  intro j b hb
  have := List.all_eq_true.1 h b (List.mem_of_getElem? hb)
  simpa using this
theorem bs_ne {s : ByteArray} (h : 0 < s.size) : s.toList.isEmpty = false := by
  rw [ByteArray.toList_eq]
  have := bs_length s
  cases hl : s.data.toList with
  | nil => unfold bs at this; rw [hl] at this; simp at this; omega
  | cons _ _ => rfl

theorem bs_tail {t : ByteArray} : bs (t.extract 1 t.size) = (bs t).drop 1 := by
  rw [bs_extract, ← bs_length, List.take_length]

set_option maxHeartbeats 1000000 in
theorem trimASCII_any (s : ByteArray) (b : Nat) (w : World) (hs : s.size ≤ maxLen) (hset : ∀ x : UInt8, w.cell? ⟨b, x.toNat, none⟩ = some (.bool (isWs x))) :
    Calls Tryd.prog 117 #[.string s, .pointer (some ⟨b, 0, none⟩)] w fun e w' => (∃ t : ByteArray, e = .returned (.string t) ∧ bs t = (bs s).dropWhile isWs) ∧ w = w' := by
  unfold maxLen at hs
  have HS := Lib.hid hset
  clear hset
  go_enter Tryd.func117, Tryd.ntmps117
  go_wp2
  go_loop [0] (fun v => ∃ t : ByteArray, v = .string t ∧ t.size ≤ s.size ∧ (bs t).dropWhile isWs = (bs s).dropWhile isWs) (fun v => match v with | .string t => t.size | _ => 0)
  case atStart => exact ⟨s, rfl, Nat.le_refl _, rfl⟩
  case round =>
    obtain ⟨t, rfl, hle, heq⟩ := hrel
    have HE := Lib.hid heq
    clear heq
    by_cases h0 : 0 < t.size
    · have hd := drop_cons (bs_get h0)
      rw [List.drop_zero] at hd
      have HD := Lib.hid hd
      clear hd
      cases hw : isWs t[0]
      · have HW := Lib.hid hw
        clear hw
        go_wp2_with fail
        refine (Tryd.asciiSet_contains b t[0] _ _ (HS.out t[0])).mono ?_
        rw [HW.out]
        rintro e w' ⟨rfl, rfl⟩
        go_wp2
        go_ret
        exact ⟨⟨t, rfl, by rw [← HE.out, HD.out, List.dropWhile_cons_of_neg (by rw [HW.out]; simp)]⟩, rfl⟩
      · have HW := Lib.hid hw
        clear hw
        go_wp2_with fail
        refine (Tryd.asciiSet_contains b t[0] _ _ (HS.out t[0])).mono ?_
        rw [HW.out]
        rintro e w' ⟨rfl, rfl⟩
        go_wp2
        go_round
        case rel =>
          refine ⟨t.extract 1 t.size, rfl, by simp; omega, ?_⟩
          rw [← HE.out, bs_tail, HD.out, List.dropWhile_cons_of_pos HW.out]
          rfl
        case measure => simp; omega
    · go_wp2
      go_ret
      have hn : bs t = [] := List.eq_nil_of_length_eq_zero (by rw [bs_length]; omega)
      exact ⟨⟨t, rfl, by rw [← HE.out, hn]; rfl⟩, rfl⟩

theorem zero127 : ∀ w, (zeroValue 155).run Tryd.prog w = .ok (.agg (Array.replicate 256 (.bool false))) w := fun w => by kernel_rfl

set_option maxHeartbeats 4000000 in
set_option maxRecDepth 1000000 in
theorem trimLeft_any (s : ByteArray) (w : World) (hs : s.size ≤ maxLen) :
    Calls Tryd.prog 98 #[.string s, .string ⟨#[32, 9, 10, 13]⟩] w fun e w' => (∃ t : ByteArray, e = .returned (.string t) ∧ bs t = (bs s).dropWhile isWs) ∧ Below w.heap.size w w' := by
  by_cases h0 : 0 < s.size
  · have hM := Tryd.strings_makeASCIISet zero127 ⟨#[32, 9, 10, 13]⟩ w (by decide) (ascii_of_all (by decide))
    obtain ⟨C, hC⟩ : ∃ C, C = Lib.setCells (ByteArray.mk #[32, 9, 10, 13]).data.toList := ⟨_, rfl⟩
    rw [← hC] at hM
    have hsz : C.size = 256 := by rw [hC]; exact Lib.setCells_size _
    have hone : C.all (·.oneCell') = true := by rw [hC]; exact Lib.setCells_one _
    have hsc : (storeCells ⟨w.heap.size + 1, 0, none⟩ C.toList 0).run Tryd.prog ((w.alloc (.cells C 155)).alloc (.cells Tryd.zeroCells155 155)) = .ok () ((w.alloc (.cells C 155)).alloc (.cells C 155)) := by
      have := run_storeCells_new (P := Tryd.prog) (w.alloc (.cells C 155)) 155 Tryd.zeroCells155 C (by rw [hsz]; kernel_rfl) (by rw [hsz]; kernel_rfl) hone
      simpa using this
    have hcell : Hid (∀ x : UInt8, ((w.alloc (.cells C 155)).alloc (.cells C 155)).cell? ⟨w.heap.size + 1, x.toNat, none⟩ = some (.bool (isWs x))) := fun x => by
      rw [World.cell?_alloc_at _ _ _ _ (by simp), hC, Lib.setCells_at, ← wsSet_has]
      rfl
    have hne := bs_ne h0
    have HM := Lib.hid hM
    have HSC := Lib.hid hsc
    clear hM hC hsc hone
    go_enter Tryd.func98, Tryd.ntmps98
    go_wp2_with fail
    refine HM.out.mono ?_
    rintro e w' ⟨rfl, rfl⟩
    go_wp2_with fail
    rw [HSC.out]
    simp only [Result.andThen]
    rw [Oper.upon_skip]
    go_wp2_with fail
    refine (trimASCII_any s _ _ hs hcell.out).mono ?_
    rintro e w' ⟨⟨t, rfl, ht⟩, rfl⟩
    have HT := Lib.hid ht
    clear ht
    go_wp2
    go_ret
    exact ⟨⟨t, rfl, HT.out⟩, ((Below.refl _ _).alloc (Nat.le_refl _) _).alloc (by simp) _⟩
  · have hn : bs s = [] := List.eq_nil_of_length_eq_zero (by rw [bs_length]; omega)
    obtain rfl : s = ⟨#[]⟩ := bs_ext hn
    go_enter Tryd.func98, Tryd.ntmps98
    go_wp2
    go_ret
    exact ⟨⟨_, rfl, rfl⟩, Below.refl _ _⟩
end Go.Proofs.YtcjblbpkjegmiaaDoor
