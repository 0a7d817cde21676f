/- Walks and plain words: Tsm RwA OnA KrA. -/
import Derived.Test.YtpijlhlpejlhhaaGreatProg
import Derived.WalkKit
import Derived.WalkLawsBesides
import Derived.OpenShut
import Derived.Lib.Hide
import Derived.Deep.RegionHeld3
import Derived.Deep.RegionHeld
import Derived.Deep.OwnRows
import Derived.Test.YtpijlhlpejlhhaaGreatVBdF
namespace Go.Proofs.YtpijlhlpejlhhaaGreat
open Go.RowKit
set_option linter.unusedVariables false
theorem wX{α:Sort _}(a:α):∃x,x=a:=⟨a,rfl⟩
theorem aJ{α:Sort _}(a:α):∃x,Hid (x=a):=⟨a,rfl⟩
theorem aV{w:World}{q:Nat}{o:Obj}(h:w.heap[q]?=some o):q<w.heap.size:=by
 rcases Nat.lt_or_ge q w.heap.size with h'|h'
 ·exact h'
 ·rw[Array.getElem?_eq_none h']at h;cases h
theorem jv{w:World}{b:Nat}{vs:Array Value}{T:TypeId}(h:w.heap[b]?=some (.cells vs T (0,0)))(j:Nat):w.frozen? ⟨b,j,none⟩=false:=by simp[World.frozen?,h]
theorem au{w:World}{b:Nat}{vs:Array Value}{T:TypeId}{v:Value}(h:w.heap[b]?=some (.cells vs T (0,0)))(j:Nat)(hj:vs[j]?=some v):w.cell? ⟨b,j,none⟩=some v:=by simp[World.cell?,h,hj]
theorem Cw(e:Nat):e ^^^ 1=Bd.neg e:=by
 unfold Bd.neg Bd.flip;simp only[if_true];have h3:(e ^^^ 1)/2=e/2:=by rw[Nat.xor_div_two];simp
 have h4:(e ^^^ 1)%2=(e+1)%2:=by
  have:=Nat.xor_mod_two_pow (a:=e) (b:=1) (n:=1);simp only[Nat.pow_one]at this;rw[this]
  rcases Nat.mod_two_eq_zero_or_one e with h|h
  ·rw[h];show 1=_;omega
  ·rw[h];show 0=_;omega
 split<;>omega
theorem Ua{e:Nat}:Bd.neg e≤e+1:=by unfold Bd.neg Bd.flip;simp only[if_true];split<;>omega
theorem MP{e:Nat}(h:e<9223372036854775807):bits .xor .i64 (e:Int) 1=(Bd.neg e:Nat):=by
 have h1:(BitVec.ofInt 64 (e:Int)).toNat=e:=by simp;omega
 have h2:(BitVec.ofInt 64 (e:Int) ^^^ BitVec.ofInt 64 1).toNat=Bd.neg e:=by
  rw[BitVec.toNat_xor,h1,←Cw]
  rfl
 show IntKind.i64.wrap ((BitVec.ofInt 64 (e:Int) ^^^ BitVec.ofInt 64 1).toNat:Int)=_;rw[h2];have h3:=Ua (e:=e);exact IntWalk.i64_in _ (by omega)
section
/-- Block g holds n elements of k cells;there is room for cap. -/
structure Rw(w:World)(T k n cap g:Nat)(E:Nat→List Value):Prop where
 ex:∃cur:Array Value,w.heap[g]?=some (.cells cur T (0,0))∧cap*k≤cur.size∧∀i,i<n→∀j,j<k→cur[i*k+j]?=(E i)[j]?
 le:n≤cap
section
variable {w w':World} {T k n cap g:Nat} {E:Nat→List Value}
theorem Rw.kept(h:Rw w T k n cap g E)(hb:w'.heap[g]?=w.heap[g]?):Rw w' T k n cap g E:=by
 obtain⟨⟨cur,h1,h2,h3⟩,h4⟩:=h;exact⟨⟨cur,hb.trans h1,h2,h3⟩,h4⟩
theorem Rw.lt(h:Rw w T k n cap g E):g<w.heap.size:=by
 obtain⟨⟨cur,h1,-,-⟩,-⟩:=h;exact aV h1
theorem Rw.cell(h:Rw w T k n cap g E){i j:Nat}(hi:i<n)(hj:j<k):w.cell? ⟨g,i*k+j,none⟩=(E i)[j]?:=by
 obtain⟨⟨cur,h1,h2,h3⟩,h4⟩:=h;rw[←h3 i hi j hj];simp[World.cell?,h1]
theorem Rw.frozen(h:Rw w T k n cap g E)(o:Nat):w.frozen? ⟨g,o,none⟩=false:=by
 obtain⟨⟨cur,h1,-,-⟩,-⟩:=h;exact jv h1 o
/-- Fewer of them. -/
theorem Rw.cut(h:Rw w T k n cap g E){m:Nat}(hm:m≤n):Rw w T k m m g E:=by
 obtain⟨⟨cur,h1,h2,h3⟩,h4⟩:=h;refine⟨⟨cur,h1,?_,fun i hi=>h3 i (by omega)⟩,Nat.le_refl _⟩;exact Nat.le_trans (Nat.mul_le_mul_right k (by omega)) h2
/-- One cell is written: an element of one cell. -/
theorem Rw.set1{F:Nat→Value}(h:Rw w T 1 n cap g (fun i=>[F i])){i:Nat}(hi:i<n)(v:Value):Rw (w.setCell ⟨g,i,none⟩ v) T 1 n cap g (fun q=>[if q=i then v else F q]):=by
 obtain⟨⟨cur,h1,h2,h3⟩,h4⟩:=h;have hs:i<cur.size:=by omega
 refine⟨⟨cur.setIfInBounds i v,by simp[World.setCell,Array.getElem?_modify,h1],by simpa using h2,fun q hq j hj=>?_⟩,h4⟩;obtain rfl:j=0:=by omega
 have:=h3 q hq 0 (by omega);simp only[Nat.mul_one,Nat.add_zero,List.getElem?_cons_zero]at this⊢;rw[Array.getElem?_setIfInBounds]
 by_cases e:q=i
 ·subst e;simp[hs]
 ·rw[if_neg (fun h9=>e h9.symm),if_neg e];exact this
end
end
section
/-- Of the old blocks only those of F may have been written. -/
structure Only(F:Nat→Prop)(w w':World):Prop where
 os:w'.os=w.os
 tape:w'.tape=w.tape
 output:w'.output=w.output
 size:w.heap.size≤w'.heap.size
 block:∀q,q<w.heap.size→¬F q→w'.heap[q]?=w.heap[q]?
section
variable {F:Nat→Prop} {w w' w'':World}
theorem Only.refl:Only F w w:=⟨rfl,rfl,rfl,Nat.le_refl _,fun _ _ _=>rfl⟩
theorem Only.trans(h:Only F w w')(k:Only F w' w''):Only F w w'':=⟨k.os.trans h.os,k.tape.trans h.tape,k.output.trans h.output,Nat.le_trans h.size k.size,fun q hq hf=>(k.block q (Nat.lt_of_lt_of_le hq h.size) hf).trans (h.block q hq hf)⟩
theorem Only.of_below(h:Below w.heap.size w w'):Only F w w':=⟨h.os,h.tape,h.output,h.size,fun q hq _=>h.block q hq⟩
theorem Only.oq{B:Nat}(h:Only F w w')(k:Below B w' w'')(hB:w.heap.size≤B):Only F w w'':=⟨k.os.trans h.os,k.tape.trans h.tape,k.output.trans h.output,Nat.le_trans h.size k.size,fun q hq hf=>(k.block q (Nat.lt_of_lt_of_le hq hB)).trans (h.block q hq hf)⟩
theorem Only.below{B:Nat}(h:Only F w w')(hF:∀q,F q→B≤q)(hB:B≤w.heap.size):Below B w w':=⟨h.os,h.tape,h.output,h.size,fun q hq=>h.block q (Nat.lt_of_lt_of_le hq hB) fun hf=>by have:=hF q hf;omega⟩
theorem Only.cell(h:Only F w w'){b o:Nat}(hb:b<w.heap.size)(hf:¬F b):w'.cell? ⟨b,o,none⟩=w.cell? ⟨b,o,none⟩:=World.cell?_of_block (a:=⟨b,o,none⟩) (h.block b hb hf)
theorem Only.mono{G:Nat→Prop}(h:Only F w w')(hG:∀q,F q→G q):Only G w w':=⟨h.os,h.tape,h.output,h.size,fun q hq hg=>h.block q hq fun hf=>hg (hG q hf)⟩
theorem Only.iC(h:Only F w w'){b o:Nat}(hF:F b)(v:Value):Only F w (w'.setCell ⟨b,o,none⟩ v):=
 ⟨h.os,h.tape,h.output,by simpa using h.size,fun q hq hf=>(heap_setCell_other w' ⟨b,o,none⟩ q v (fun e=>hf (by subst e;exact hF))).trans (h.block q hq hf)⟩
theorem Only.drewN{F:Nat→Prop}{w w':World}(h:Only F w w')(n:Nat):Only F w (w'.drewN n):=⟨h.os,h.tape,h.output,h.size,h.block⟩
end
theorem Only.h_{F:Nat→Prop}{w W:World}{b o:Nat}(h:Only F w W)(hb:w.heap.size≤b)(v:Value):Only F w (W.setCell ⟨b,o,none⟩ v):=by
 have h1:=(h.mono (G:=fun q=>F q∨q=b) (fun q hq=>.inl hq)).iC (o:=o) (show F b∨b=b from .inr rfl) v;exact⟨h1.os,h1.tape,h1.output,h1.size,fun q hq hf=>h1.block q hq (fun h9=>h9.elim hf (fun e=>by omega))⟩
theorem Only.alloc{F:Nat→Prop}{w W:World}(h:Only F w W)(o:Obj):Only F w (W.alloc o):=h.oq ((Below.refl _ _).alloc (Nat.le_refl _) o) h.size
end
section
/-- Of the old blocks only those whose role is in R may have been written;new blocks may have a role. -/
structure aj(R:Nat→Prop)(K:Nat→Nat)(w:World)(K':Nat→Nat)(w':World):Prop where
 only:Only (fun q=>R (K q)) w w'
 ext:∀q,q<w.heap.size→K' q=K q
section
variable {R R':Nat→Prop} {K K' K'':Nat→Nat} {w w' w'':World}
theorem aj.refl:aj R K w K w:=⟨Only.refl,fun _ _=>rfl⟩
theorem aj.trans(h:aj R K w K' w')(k:aj R K' w' K'' w''):aj R K w K'' w'':=by
 refine⟨⟨k.only.os.trans h.only.os,k.only.tape.trans h.only.tape,k.only.output.trans h.only.output,Nat.le_trans h.only.size k.only.size,fun q hq hf=>?_⟩,fun q hq=>(k.ext q (Nat.lt_of_lt_of_le hq h.only.size)).trans (h.ext q hq)⟩;exact(k.only.block q (Nat.lt_of_lt_of_le hq h.only.size) (by rw[h.ext q hq];exact hf)).trans (h.only.block q hq hf)
theorem aj.mono(h:aj R K w K' w')(hR:∀r,R r→R' r):aj R' K w K' w':=⟨h.only.mono (fun q=>hR (K q)),h.ext⟩
theorem aj.of_below(h:Below w.heap.size w w'):aj R K w K w':=⟨Only.of_below h,fun _ _=>rfl⟩
theorem aj.block(h:aj R K w K' w'){q:Nat}(hq:q<w.heap.size)(hR:¬R (K q)):w'.heap[q]?=w.heap[q]?:=h.only.block q hq hR
theorem aj.size(h:aj R K w K' w'):w.heap.size≤w'.heap.size:=h.only.size
theorem aj.drewN(h:aj R K w K' w')(n:Nat):aj R K w K' (w'.drewN n):=⟨h.only.drewN n,h.ext⟩
theorem aj.iI(h:aj R K w K' w'){b o:Nat}(hR:R (K' b))(hb:b<w'.heap.size)(v:Value):aj R K w K' (w'.setCell ⟨b,o,none⟩ v):=by
 rcases Nat.lt_or_ge b w.heap.size with hq|hq
 ·exact⟨h.only.iC (by rw[←h.ext b hq];exact hR) v,h.ext⟩
 ·exact⟨h.only.h_ hq v,h.ext⟩
theorem aj.h_(h:aj R K w K' w'){b o:Nat}(hb:w.heap.size≤b)(v:Value):aj R K w K' (w'.setCell ⟨b,o,none⟩ v):=⟨h.only.h_ hb v,h.ext⟩
theorem aj.alloc(h:aj R K w K' w')(o:Obj):aj R K w K' (w'.alloc o):=⟨h.only.alloc o,h.ext⟩
/-- A block known whole stays. -/
theorem aj.obj(h:aj R K w K' w'){q:Nat}{o:Obj}(hq:w.heap[q]?=some o)(hR:¬R (K q)):w'.heap[q]?=some o:=(h.block (aV hq) hR).trans hq
theorem aj.role(h:aj R K w K' w'){q:Nat}{o:Obj}(hq:w.heap[q]?=some o):K' q=K q:=h.ext q (aV hq)
/-- A new block gets a role. -/
def bJ(K:Nat→Nat)(g r:Nat):Nat→Nat:=fun q=>if q=g then r else K q
theorem aW(K:Nat→Nat)(g r:Nat):bJ K g r g=r:=if_pos rfl
theorem bP{K:Nat→Nat}{g r q:Nat}(h:q≠g):bJ K g r q=K q:=if_neg h
theorem aj.new(h:aj R K w K' w'){g r:Nat}(hg:w.heap.size≤g):aj R K w (bJ K' g r) w':=⟨h.only,fun q hq=>(bP (by omega)).trans (h.ext q hq)⟩
end
end
end Go.Proofs.YtpijlhlpejlhhaaGreat
