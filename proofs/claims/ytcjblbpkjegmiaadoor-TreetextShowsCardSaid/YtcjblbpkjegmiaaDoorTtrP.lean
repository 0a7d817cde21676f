/- Plain words: variables, states, witness trees and their text. -/
import Derived.Test.YtcjblbpkjegmiaaDoorFrmQ
import Derived.Lib.Strings
namespace Go.Proofs.YtcjblbpkjegmiaaDoor
set_option linter.unusedVariables false
set_option linter.unusedSectionVars false

structure Vr where
  name : ByteArray
  isB : Bool
  lo : Int
  hi : Int
inductive Tr where
  | mk (kind : Int) (state : List Int) (f : Fm) (path : List (List Int)) (loop at_ : Int) (kids : List Tr) : Tr
namespace Tr
def kind : Tr → Int | mk k _ _ _ _ _ _ => k
def state : Tr → List Int | mk _ s _ _ _ _ _ => s
def fm : Tr → Fm | mk _ _ f _ _ _ _ => f
def path : Tr → List (List Int) | mk _ _ _ p _ _ _ => p
def loop : Tr → Int | mk _ _ _ _ l _ _ => l
def at_ : Tr → Int | mk _ _ _ _ _ a _ => a
def kids : Tr → List Tr | mk _ _ _ _ _ _ l => l
end Tr
mutual
def Tr.size : Tr → Nat
  | .mk _ _ _ p _ _ l => 1 + p.length + Tr.sizeL l
def Tr.sizeL : List Tr → Nat
  | [] => 0
  | t :: r => t.size + Tr.sizeL r
end
theorem Tr.sizeL_mem : ∀ {l : List Tr} {t : Tr}, t ∈ l → t.size ≤ Tr.sizeL l
  | x :: r, t, h => by
    rcases List.mem_cons.1 h with rfl | h
    · rw [Tr.sizeL]; omega
    · have := Tr.sizeL_mem h
      rw [Tr.sizeL]; omega
theorem Tr.len_le : ∀ (l : List Tr), l.length ≤ Tr.sizeL l
  | [] => Nat.zero_le _
  | t :: r => by
    have := Tr.len_le r
    cases t
    rw [Tr.sizeL, Tr.size, List.length_cons]
    omega

def wordS (v : Vr) (n : Int) : Bs := v.name.data.toList ++ [61] ++ numS n
def wordsS (vs : List Vr) (s : List Int) : List Bs := List.zipWith wordS vs s
/-- The line of a state, and the error. -/
def stateT (vs : List Vr) (s : List Int) : Bs × Int := if s.length ≠ vs.length then ([], 3) else (Lib.join (wordsS vs s) [32], 0)
def markS (loop : Int) (i : Nat) : Bs := if (i : Int) = loop then [42, 32] else [32, 32]
def linesL (vs : List Vr) (loop : Int) : Nat → List (List Int) → List Bs
  | _, [] => []
  | i, s :: r => (markS loop i ++ (stateT vs s).1) :: linesL vs loop (i + 1) r
def linesOk (vs : List Vr) (path : List (List Int)) : Bool := path.all fun s => s.length == vs.length
/-- The lines of a path, and the error. -/
def linesT (vs : List Vr) (path : List (List Int)) (loop : Int) : List Bs × Int := if linesOk vs path then (linesL vs loop 0 path, 0) else ([], 3)
def blanksS (n : Nat) : Bs := List.replicate (2 * n) 32
def kindS (k : Int) : Bs :=
  if k = 1 then [112, 108, 97, 105, 110] else if k = 2 then [116, 111, 108, 100] else if k = 3 then [98, 111, 116, 104] else if k = 4 then [111, 110, 101] else if k = 5 then [112, 97, 116, 104] else []
def headS (k : Int) (f : Fm) (at_ : Int) (d : Nat) : Bs := blanksS d ++ kindS k ++ [32] ++ (showFm f).1 ++ (if k = 4 ∨ k = 5 then [32] ++ numS at_ else []) ++ [10]
def linesS (d : Nat) : List Bs → Bs
  | [] => []
  | l :: r => blanksS d ++ l ++ [10] ++ linesS d r
section
variable (vs : List Vr)
mutual
/-- The text of a tree, errors apart. -/
def rawT : Tr → Nat → Bs
  | .mk k st f p loop at_ kids, d => headS k f at_ d ++ (if k = 5 then linesS d (linesT vs p loop).1 else []) ++ rawL kids (d + 1)
def rawL : List Tr → Nat → Bs
  | [], _ => []
  | t :: r, d => rawT t d ++ rawL r d
end
mutual
/-- The first error of a tree. -/
def errT : Tr → Int
  | .mk k st f p loop at_ kids => if kindS k = [] then 11 else if (showFm f).2 ≠ 0 then (showFm f).2 else if k = 5 ∧ (linesT vs p loop).2 ≠ 0 then (linesT vs p loop).2 else errL kids
def errL : List Tr → Int
  | [] => 0
  | t :: r => if errT t ≠ 0 then errT t else errL r
end
end
/-- The text of a tree, and the error. -/
def showTr (vs : List Vr) (t : Tr) : Bs × Int := if errT vs t ≠ 0 then ([], errT vs t) else if 65536 < (rawT vs t 0).length then ([], 4) else (rawT vs t 0, 0)
theorem rawT_eq (vs : List Vr) (t : Tr) (d : Nat) : rawT vs t d = headS t.kind t.fm t.at_ d ++ (if t.kind = 5 then linesS d (linesT vs t.path t.loop).1 else []) ++ rawL vs t.kids (d + 1) := by cases t; rw [rawT]; rfl
theorem errT_eq (vs : List Vr) (t : Tr) : errT vs t = if kindS t.kind = [] then 11 else if (showFm t.fm).2 ≠ 0 then (showFm t.fm).2 else if t.kind = 5 ∧ (linesT vs t.path t.loop).2 ≠ 0 then (linesT vs t.path t.loop).2 else errL vs t.kids := by cases t; rw [errT]; rfl
theorem showFm_len (f : Fm) : (showFm f).1.length ≤ 65536 := by
  unfold showFm
  split
  · simp
  · split
    · simp
    · split
      · simp
      · show (frmT f 1).1.length ≤ 65536
        omega
theorem kindS_len (k : Int) : (kindS k).length ≤ 5 := by
  unfold kindS
  iterate 5 (split; · simp)
  simp
theorem blanksS_len (n : Nat) : (blanksS n).length = 2 * n := by simp [blanksS]
end Go.Proofs.YtcjblbpkjegmiaaDoor
