/- Walk: ttext's reader.unit$1: the three parts of an if. -/
import Derived.Test.YtnbphgeepnknlaaGreatDoorQPrsJ
import Derived.Deep.Cut
namespace Go.Proofs.YtnbphgeepnknlaaGreatDoor
open Go.RowKit
set_option linter.unusedVariables false

/-- The box of an if's term while its kids are read: the kids so far, the next token. -/
structure IfS (R : Nat) (A : Option Addr) (c d : Nat) (l : List Tok) (i tb rb rs B0 : Nat) (w0 wE wr : World) (v : Value) (acc : List TmE) (j : Nat) : Prop where
 own : wr.ownsRow B0 25 4 v acc.length (flatE acc)
 vals : ∀ e ∈ acc, TmVS (fun q => B0 ≤ q ∧ v.ownBlock ≠ some q) wr e.A e.c e.t
 rdr : Rdr wr R A l.length c j d
 only : Only (fun q => q = R) w0 wr
 box : BoxR R rb wr
 tbx : wr.heap[tb]? = some (.cells #[.int .i64 18, .int .i64 0, .string ⟨#[]⟩, v] 25 (0, 0))
 res : wr.heap[rs]? = some (.cells #[.int .i64 0, .int .i64 0, .string ⟨#[]⟩, .slice none 0 0] 25 (0, 0))
 ij : i ≤ j
 jl : j ≤ l.length
 big : B0 ≤ wr.heap.size
 two : Only (fun q => q = R ∨ q = tb) wE wr
 eB : wE.heap.size ≤ B0
 rsE : wE.heap.size ≤ rs
/-- Numbers of blocks. -/
structure IfN (R tb rb rs B0 : Nat) (w0 : World) : Prop where
 r0 : R < w0.heap.size
 tb0 : w0.heap.size ≤ tb
 rb0 : w0.heap.size ≤ rb
 rs0 : w0.heap.size ≤ rs
 tbB : tb < B0
 rbB : rb < B0
 rsB : rs < B0
 ne1 : tb ≠ rb
 ne2 : tb ≠ rs
 ne3 : rb ≠ rs
section
variable {R c d i tb rb rs B0 j j2 : Nat} {A : Option Addr} {l : List Tok} {w0 wE wr w' : World} {v : Value} {acc : List TmE}
theorem IfS.onw (h : IfS R A c d l i tb rb rs B0 w0 wE wr v acc j) (hn : IfN R tb rb rs B0 w0) (ho : Only (fun q => q = R) wr w') (hr : Rdr w' R A l.length c j2 d) (hj : j ≤ j2) (hjl : j2 ≤ l.length) : IfS R A c d l i tb rb rs B0 w0 wE w' v acc j2 := by
 have hRB : R < B0 := by have := hn.r0; have := hn.tb0; have := hn.tbB; omega
 have h1 := hn.r0; have h2 := hn.tb0; have h3 := hn.rs0; have h4 := hn.tbB; have h5 := hn.rsB; have h6 := h.big
 refine ⟨own_only h.own ho hRB, fun e he => (h.vals e he).keep (KeepS.of_only ho (fun hq => by have := hq.1; omega)) (fun _ _ h => h), hr, h.only.trans ho, h.box.only ho, (ho.block tb (by omega) (by omega)).trans h.tbx, (ho.block rs (by omega) (by omega)).trans h.res, Nat.le_trans h.ij hj, hjl, Nat.le_trans h.big ho.size, h.two.trans (ho.mono fun q h => .inl h), h.eB, h.rsE⟩
theorem IfS.alloc (h : IfS R A c d l i tb rb rs B0 w0 wE wr v acc j) (hn : IfN R tb rb rs B0 w0) (o : Obj) : IfS R A c d l i tb rb rs B0 w0 wE (wr.alloc o) v acc j :=
 h.onw hn (Only.of_below ((Below.refl _ _).alloc (Nat.le_refl _) _)) (h.rdr.below ((Below.refl _ _).alloc (Nat.le_refl _) _) h.rdr.lt) (Nat.le_refl _) h.jl
theorem IfS.drew (h : IfS R A c d l i tb rb rs B0 w0 wE wr v acc j) (hn : IfN R tb rb rs B0 w0) : IfS R A c d l i tb rb rs B0 w0 wE wr.drew v acc j :=
 h.onw hn ((Only.refl (F := fun q => q = R)).drewN 1) (h.rdr.drewN 1) (Nat.le_refl _) h.jl
/-- A kid is appended: a row of zeros is laid behind, the kid's cells are stored there, the row is stored in the box. -/
theorem IfS.put {W7 : World} {A2 : Option Addr} {c2 g cap o : Nat} {t2 : Tm} (h : IfS R A c d l i tb rb rs B0 w0 wE wr v acc j) (hn : IfN R tb rb rs B0 w0) (hV : TmVS (fun q => B0 ≤ q ∧ v.ownBlock ≠ some q) wr A2 c2 t2)
 (hown : W7.ownsRow B0 25 4 (.slice (some ⟨g, 0, none⟩) (acc.length + 1) cap) (acc.length + 1) (flatE acc ++ [.int .i64 0, .int .i64 0, .string ⟨#[]⟩, .slice none 0 0])) (hg : wr.grownBy W7 v.ownBlock) (hat : v.ownBlock = some g ∨ g = wr.heap.size) (ho : o = acc.length * 4) :
 IfS R A c d l i tb rb rs B0 w0 wE (((((W7.setCell ⟨g, o, none⟩ (.int .i64 t2.op)).setCell ⟨g, o + 1, none⟩ (.int .i64 t2.num)).setCell ⟨g, o + 2, none⟩ (.string t2.name)).setCell ⟨g, o + 3, none⟩ (.slice A2 t2.kids.length c2)).setCell ⟨tb, 3, none⟩ (.slice (some ⟨g, 0, none⟩) (acc.length + 1) cap)) (.slice (some ⟨g, 0, none⟩) (acc.length + 1) cap) (acc ++ [⟨t2, A2, c2⟩]) j := by
 have h1 := hn.r0; have h2 := hn.tb0; have h3 := hn.rs0; have h4 := hn.tbB; have h5 := hn.rsB; have h6 := h.big; have h7 := hn.rbB; have h8 := hn.rb0
 have hlt : ∀ q, v.ownBlock = some q → B0 ≤ q ∧ q < wr.heap.size := fun q hq => h.own.lt q hq
 have hgB : B0 ≤ g := by
  rcases hat with hat | hat
  · exact (hlt g hat).1
  · omega
 have hk : ∀ q, v.ownBlock ≠ some q → q < wr.heap.size → W7.heap[q]? = wr.heap[q]? := fun q hq hl => hg.block q hl (fun e => hq e.symm)
 have hkg : ∀ q, v.ownBlock ≠ some q → q < wr.heap.size → q ≠ g := fun q hq hl e => by
  rcases hat with hat | hat
  · exact hq (e ▸ hat)
  · omega
 have hold : ∀ q, q < B0 → v.ownBlock ≠ some q := fun q hq e => by have := (hlt q e).1; omega
 obtain ⟨WS, hWS⟩ : ∃ WS, WS = (((W7.setCell ⟨g, o, none⟩ (.int .i64 t2.op)).setCell ⟨g, o + 1, none⟩ (.int .i64 t2.num)).setCell ⟨g, o + 2, none⟩ (.string t2.name)).setCell ⟨g, o + 3, none⟩ (.slice A2 t2.kids.length c2) := ⟨_, rfl⟩
 rw [← hWS]
 have hS : ∀ q, q ≠ g → WS.heap[q]? = W7.heap[q]? := fun q hq => by
  rw [hWS, heap_setCell_other _ ⟨g, o + 3, none⟩ q _ hq, heap_setCell_other _ ⟨g, o + 2, none⟩ q _ hq, heap_setCell_other _ ⟨g, o + 1, none⟩ q _ hq, heap_setCell_other _ ⟨g, o, none⟩ q _ hq]
 have hSs : WS.heap.size = W7.heap.size := by rw [hWS]; simp
 have hs7 := hg.size
 have hownS : WS.ownsRow B0 25 4 (.slice (some ⟨g, 0, none⟩) (acc.length + 1) cap) (acc.length + 1) (flatE (acc ++ [⟨t2, A2, c2⟩])) := by
  have x := ((((hown.stored o (.int .i64 t2.op)).1.stored (o + 1) (.int .i64 t2.num)).1.stored (o + 2) (.string t2.name)).1.stored (o + 3) (.slice A2 t2.kids.length c2)).1
  rw [← hWS] at x
  have hl : (flatE acc).length = o := by rw [flatE_len, ho]
  have e : ((((flatE acc ++ ([.int .i64 0, .int .i64 0, .string ⟨#[]⟩, .slice none 0 0] : List Value)).set o (.int .i64 t2.op)).set (o + 1) (.int .i64 t2.num)).set (o + 2) (.string t2.name)).set (o + 3) (.slice A2 t2.kids.length c2) = flatE (acc ++ [⟨t2, A2, c2⟩]) := by
   rw [flatE_snoc, ← hl]
   simp [TmE.cells, List.set_append_right]
  rw [e] at x
  exact x
 have hall : ∀ q, v.ownBlock ≠ some q → q < wr.heap.size → q ≠ tb → (WS.setCell ⟨tb, 3, none⟩ (.slice (some ⟨g, 0, none⟩) (acc.length + 1) cap)).heap[q]? = wr.heap[q]? := fun q hq hl hne => by
  rw [heap_setCell_other _ ⟨tb, 3, none⟩ q _ hne, hS q (hkg q hq hl)]
  exact hk q hq hl
 have hsF : (WS.setCell ⟨tb, 3, none⟩ (.slice (some ⟨g, 0, none⟩) (acc.length + 1) cap)).heap.size = W7.heap.size := by simp [hSs]
 have hkeep : KeepS (fun q => B0 ≤ q ∧ v.ownBlock ≠ some q) wr (WS.setCell ⟨tb, 3, none⟩ (.slice (some ⟨g, 0, none⟩) (acc.length + 1) cap)) := ⟨by rw [hsF]; exact hs7, fun q hq hl => hall q hq.2 hl (by have := hq.1; omega)⟩
 have hfin : ∀ q, q < wr.heap.size → (B0 ≤ q ∧ v.ownBlock ≠ some q) → (B0 ≤ q ∧ (Value.slice (some ⟨g, 0, none⟩) (acc.length + 1) cap).ownBlock ≠ some q) := fun q hq hh => ⟨hh.1, fun e => by
  have e2 : g = q := by simpa [Value.ownBlock] using e
  exact hkg q hh.2 hq e2.symm⟩
 refine ⟨?_, ?_, ?_, ?_, ?_, ?_, ?_, h.ij, h.jl, by rw [hsF]; omega, ?_, h.eB, h.rsE⟩
 · rw [List.length_append]
   have hgl := (hownS.lt g rfl).2
   exact hownS.kept (row := some tb) ⟨rfl, rfl, rfl, by simp, fun k hk hne => heap_setCell_other _ ⟨tb, 3, none⟩ k _ (fun e => hne (by rw [e]))⟩ (.inr (fun e => by
    have e2 : g = tb := by simpa [Value.ownBlock] using e
    omega))
 · intro e he
   rcases List.mem_append.1 he with he | he
   · exact (h.vals e he).keep hkeep hfin
   · rw [List.mem_singleton.1 he]
     exact hV.keep hkeep hfin
 · exact (hall R (hold R (by omega)) (by omega) (by omega)).trans h.rdr
 · have hO := h.only
   have e1 : WS.os = W7.os := by rw [hWS]; rfl
   have e2 : WS.tape = W7.tape := by rw [hWS]; rfl
   have e3 : WS.output = W7.output := by rw [hWS]; rfl
   refine ⟨e1.trans (hg.os.trans hO.os), e2.trans (hg.tape.trans hO.tape), e3.trans (hg.output.trans hO.output), by rw [hsF]; exact Nat.le_trans hO.size hs7, fun q hq hf => ?_⟩
   rw [hall q (hold q (by omega)) (Nat.lt_of_lt_of_le hq hO.size) (by omega)]
   exact hO.block q hq hf
 · exact h.box.block (hall rb (hold rb h7) (by omega) (fun e => hn.ne1 e.symm)) (by rw [hsF]; exact hs7)
 · have hx : WS.heap[tb]? = some (.cells #[.int .i64 18, .int .i64 0, .string ⟨#[]⟩, v] 25 (0, 0)) := (hS tb (by omega)).trans ((hk tb (hold tb h4) (by omega)).trans h.tbx)
   simp [World.setCell, Array.getElem?_modify, hx]
 · exact (hall rs (hold rs h5) (by omega) (fun e => hn.ne2 e.symm)).trans h.res
 · have hO := h.two
   have h9 := h.eB
   have e1 : WS.os = W7.os := by rw [hWS]; rfl
   have e2 : WS.tape = W7.tape := by rw [hWS]; rfl
   have e3 : WS.output = W7.output := by rw [hWS]; rfl
   refine ⟨e1.trans (hg.os.trans hO.os), e2.trans (hg.tape.trans hO.tape), e3.trans (hg.output.trans hO.output), by rw [hsF]; exact Nat.le_trans hO.size hs7, fun q hq hf => ?_⟩
   rw [hall q (hold q (by omega)) (Nat.lt_of_lt_of_le hq hO.size) (fun e => hf (.inr e))]
   exact hO.block q hq hf
end
end Go.Proofs.YtnbphgeepnknlaaGreatDoor
