/- Plain words: the text of a formula. -/
import Derived.Test.YtcjblbpkjegmiaaDoorFrmP
import Derived.Test.YtcjblbpkjegmiaaDoorTrmH
namespace Go.Proofs.YtcjblbpkjegmiaaDoor
set_option linter.unusedVariables false

def strongF (op : Int) : Nat := if op = 5 then 1 else if op = 4 then 2 else if op = 3 then 3 else 4
def leftF (op : Int) : Nat := if op = 5 then 2 else if op = 4 then 2 else if op = 3 then 3 else 1
def rightF (op : Int) : Nat := if op = 5 then 1 else if op = 4 then 3 else if op = 3 then 4 else 1
def inF (op : Int) : Bs := if op = 5 then [32, 45, 62, 32] else if op = 4 then [32, 124, 32] else if op = 3 then [32, 38, 32] else [32, 85, 32]
def preF (op : Int) : Bs := if op = 2 then [33] else if op = 6 then [69, 88, 32] else if op = 7 then [69, 70, 32] else if op = 8 then [69, 71, 32] else if op = 10 then [65, 88, 32] else if op = 11 then [65, 70, 32] else [65, 71, 32]
def openF (op : Int) : Bs := if op = 9 then [69, 91] else if op = 13 then [65, 91] else []
def closeF (op : Int) : Bs := if op = 9 ∨ op = 13 then [93] else []
mutual
/-- The text of a formula at a place that asks for a strength, and the error. -/
def frmT : Fm → Nat → Bs × Int
  | .mk o e l, least =>
    let r := if o = 1 then ([91] ++ (showTm e).1 ++ [93], (showTm e).2) else frmK o l
    if r.2 ≠ 0 then ([], r.2) else if strongF o < least then ([40] ++ r.1 ++ [41], 0) else (r.1, 0)
def frmK (o : Int) : List Fm → Bs × Int
  | [] => ([], 0)
  | a :: r => frmK2 o (frmT a (if fkids o = 2 then leftF o else 4)) r
def frmK2 (o : Int) (x : Bs × Int) : List Fm → Bs × Int
  | [] => (preF o ++ x.1, x.2)
  | b :: _ => if x.2 ≠ 0 then ([], x.2) else
    let y := frmT b (rightF o)
    (openF o ++ x.1 ++ inF o ++ y.1 ++ closeF o, y.2)
end
def showFm (f : Fm) : Bs × Int :=
  if f.check ≠ 0 then ([], f.check) else
  if (frmT f 1).2 ≠ 0 then ([], (frmT f 1).2) else if 65536 < (frmT f 1).1.length then ([], 4) else ((frmT f 1).1, 0)
theorem showTm_len (t : Tm) : (showTm t).1.length ≤ 65536 := by
  unfold showTm
  split
  · simp
  · split
    · simp
    · split
      · simp
      · show (shw numS t 0 true).length ≤ 65536
        omega
theorem preF_len (op : Int) : (preF op).length ≤ 3 := by
  unfold preF
  iterate 6 (split; · simp)
  simp
theorem inF_len (op : Int) : (inF op).length ≤ 4 := by
  unfold inF
  iterate 3 (split; · simp)
  simp
theorem openF_len (op : Int) : (openF op).length ≤ 2 := by
  unfold openF
  iterate 2 (split; · simp)
  simp
theorem closeF_len (op : Int) : (closeF op).length ≤ 1 := by
  unfold closeF
  split <;> simp
mutual
theorem frmT_len : ∀ (f : Fm) (least : Nat), (frmT f least).1.length ≤ 65600 * f.size
  | .mk o e l, least => by
    have h1 := frmK_len o l
    have h2 := showTm_len e
    rw [frmT, Fm.size]
    have h3 : (if o = 1 then ([91] ++ (showTm e).1 ++ [93], (showTm e).2) else frmK o l).1.length ≤ 65600 * Fm.sizeL l + 65540 := by
      split
      · simp only [List.length_append, List.length_cons, List.length_nil]; omega
      · omega
    generalize (if o = 1 then ([91] ++ (showTm e).1 ++ [93], (showTm e).2) else frmK o l) = r at h3 ⊢
    split
    · simp
    · split
      · simp only [List.length_append, List.length_cons, List.length_nil]; omega
      · show r.1.length ≤ _
        omega
theorem frmK_len : ∀ (o : Int) (l : List Fm), (frmK o l).1.length ≤ 65600 * Fm.sizeL l + 10
  | o, [] => by rw [frmK]; simp
  | o, a :: r => by
    rw [frmK, Fm.sizeL]
    have h1 := frmT_len a (if fkids o = 2 then leftF o else 4)
    have h2 := frmK2_len o (frmT a (if fkids o = 2 then leftF o else 4)) r
    omega
theorem frmK2_len : ∀ (o : Int) (x : Bs × Int) (l : List Fm), (frmK2 o x l).1.length ≤ x.1.length + 65600 * Fm.sizeL l + 10
  | o, x, [] => by
    have := preF_len o
    rw [frmK2, Fm.sizeL]; simp only [List.length_append]; omega
  | o, x, b :: r => by
    have h1 := frmT_len b (rightF o)
    have h2 := inF_len o
    have h3 := openF_len o
    have h4 := closeF_len o
    rw [frmK2, Fm.sizeL]
    split
    · simp
    · simp only [List.length_append]
      generalize 65600 * Fm.sizeL r = z at *
      omega
end
end Go.Proofs.YtcjblbpkjegmiaaDoor
