/- Walks and plain words: FsM FsA FsB FsC. -/
import Derived.Test.YtkhoeoilamddaaaGreatDoorYPrsO
namespace Go.Proofs.YtkhoeoilamddaaaGreatDoor
open Go.RowKit
set_option linter.unusedVariables false
mutual
def yG(S:Nat→Prop)(w:World)(g o:Nat):Fm→Prop
 |.mk op e l=>w.cell? ⟨g,o,none⟩=some (.int .i64 op)∧uG S w g (o+1) e ∧
  ∃A c,w.cell? ⟨g,o+5,none⟩=some (.slice A l.length c)∧l.length≤c∧c≤maxLen∧(l=[]∨∃g' o',A=some ⟨g',o',none⟩∧S g'∧g'<w.heap.size∧lU S w g' o' l)
def lU(S:Nat→Prop)(w:World)(g o:Nat):List Fm→Prop
 |[]=>True
 |t::r=>yG S w g o t∧lU S w g (o+6) r
end
def ahJ(S:Nat→Prop)(w:World)(A:Option Addr)(l:List Fm):Prop:=l=[]∨∃g' o',A=some ⟨g',o',none⟩∧S g'∧g'<w.heap.size∧lU S w g' o' l
mutual
theorem yG.afX{S:Nat→Prop}{w:World}:∀{t:Fm}{g o:Nat},yG S w g o t→xS w g o t
 |.mk op e l,g,o,h=>by
  rw[yG]at h;rw[xS];obtain⟨h0,h1,A,c,h3,h4,h5,h6⟩:=h;refine⟨h0,h1.afX,A,c,h3,h4,h5,?_⟩
  rcases h6 with h6|⟨g',o',hA,_,hg,h6⟩
  ·exact .inl h6
  ·exact .inr ⟨g',o',hA,hg,lU.Mr h6⟩
theorem lU.Mr{S:Nat→Prop}{w:World}:∀{l:List Fm}{g o:Nat},lU S w g o l→mZ w g o l
 |[],g,o,h=>by rw[mZ];trivial
 |t::r,g,o,h=>by
  rw[lU]at h;rw[mZ];exact⟨yG.afX h.1,lU.Mr h.2⟩
end
mutual
theorem yG.keep{S S':Nat→Prop}{w w':World}(ho:aR S w w')(hS:∀q,q<w.heap.size→S q→S' q):∀{t:Fm}{g o:Nat},S g→g<w.heap.size→yG S w g o t→yG S' w' g o t
 |.mk op e l,g,o,hg,hl,h=>by
  rw[yG]at h⊢;obtain⟨h0,h1,A,c,h3,h4,h5,h6⟩:=h;refine⟨by rw[ho.cell hg hl];exact h0,uG.keep ho hS hg hl h1,A,c,by rw[ho.cell hg hl];exact h3,h4,h5,?_⟩
  rcases h6 with h6|⟨g',o',hA,hn,hg',h6⟩
  ·exact .inl h6
  ·exact .inr ⟨g',o',hA,hS g' hg' hn,lL hg' ho.size,lU.keep ho hS hn hg' h6⟩
theorem lU.keep{S S':Nat→Prop}{w w':World}(ho:aR S w w')(hS:∀q,q<w.heap.size→S q→S' q):∀{l:List Fm}{g o:Nat},S g→g<w.heap.size→lU S w g o l→lU S' w' g o l
 |[],g,o,_,_,h=>by rw[lU];trivial
 |t::r,g,o,hg,hl,h=>by
  rw[lU]at h⊢;exact⟨yG.keep ho hS hg hl h.1,lU.keep ho hS hg hl h.2⟩
end
structure XK(S:Nat→Prop)(w:World)(Ae:Option Addr)(ce:Nat)(A:Option Addr)(c:Nat)(t:Fm):Prop where
 tm:aD S w Ae ce t.tm
 cap:t.kids.length≤c
 bU:c≤maxLen
 kids:ahJ S w A t.kids
theorem XK.toV{S:Nat→Prop}{w:World}{Ae A:Option Addr}{ce c:Nat}{t:Fm}(h:XK S w Ae ce A c t):pO w Ae ce A c t:=⟨h.tm.toV,h.cap,h.bU,by
 rcases h.kids with h|⟨g',o',hA,_,hg,h⟩
 ·exact .inl h
 ·exact .inr ⟨g',o',hA,hg,lU.Mr h⟩⟩
theorem XK.keep{S S':Nat→Prop}{w w':World}{Ae A:Option Addr}{ce c:Nat}{t:Fm}(h:XK S w Ae ce A c t)(ho:aR S w w')(hS:∀q,q<w.heap.size→S q→S' q):XK S' w' Ae ce A c t:=⟨h.tm.keep ho hS,h.cap,h.bU,by
 rcases h.kids with h|⟨g',o',hA,hs,hg,h⟩
 ·exact .inl h
 ·exact .inr ⟨g',o',hA,hS g' hg hs,lL hg ho.size,lU.keep ho hS hs hg h⟩⟩
theorem yG.mk'{S:Nat→Prop}{w:World}{g o:Nat}{t:Fm}{Ae A:Option Addr}{ce c:Nat}(h0:w.cell? ⟨g,o,none⟩=some (.int .i64 t.op))(h1:w.cell? ⟨g,o+1,none⟩=some (.int .i64 t.tm.op))(h2:w.cell? ⟨g,o+2,none⟩=some (.int .i64 t.tm.num))(h3:w.cell? ⟨g,o+3,none⟩=some (.string t.tm.name))
 (h4:w.cell? ⟨g,o+4,none⟩=some (.slice Ae t.tm.kids.length ce)) (h5:w.cell? ⟨g,o+5,none⟩=some (.slice A t.kids.length c)) (h:XK S w Ae ce A c t):yG S w g o t:=by
 cases t with
 |mk op e l=>
  rw[yG];exact⟨h0,uG.mk h1 h2 h3 h4 h.tm,A,c,h5,h.cap,h.bU,h.kids⟩
structure FV where
 o:Int
 tn:Int
 tm:Int
 s:ByteArray
 Ae:Option Addr
 ne:Nat
 ce:Nat
 A:Option Addr
 n:Nat
 c:Nat
def FV.cells(x:FV):List Value:=[.int .i64 x.o,.int .i64 x.tn,.int .i64 x.tm,.string x.s,.slice x.Ae x.ne x.ce,.slice x.A x.n x.c]
def FV.val(x:FV):Value:=.agg #[.int .i64 x.o,.int .i64 x.tn,.int .i64 x.tm,.string x.s,.slice x.Ae x.ne x.ce,.slice x.A x.n x.c]
def FV.row(x:FV):Obj:=.cells #[.int .i64 x.o,.int .i64 x.tn,.int .i64 x.tm,.string x.s,.slice x.Ae x.ne x.ce,.slice x.A x.n x.c] 67
def FV.zero:FV:=⟨0,0,0,⟨#[]⟩,none,0,0,none,0,0⟩
structure FV.Is(S:Nat→Prop)(w:World)(x:FV)(f:Fm):Prop where
 o:x.o=f.op
 tn:x.tn=f.tm.op
 tm:x.tm=f.tm.num
 s:x.s=f.tm.name
 ne:x.ne=f.tm.kids.length
 n:x.n=f.kids.length
 v:XK S w x.Ae x.ce x.A x.c f
theorem FV.Is.keep{S S':Nat→Prop}{w w':World}{x:FV}{f:Fm}(h:x.Is S w f)(ho:aR S w w')(hS:∀q,q<w.heap.size→S q→S' q):x.Is S' w' f:=⟨h.o,h.tn,h.tm,h.s,h.ne,h.n,h.v.keep ho hS⟩
theorem FV.Is.val{S:Nat→Prop}{w:World}{x:FV}{f:Fm}(h:x.Is S w f):x.val=f.val x.Ae x.ce x.A x.c:=by
 unfold FV.val Fm.val;rw[h.o,h.tn,h.tm,h.s,h.ne,h.n]
theorem FV.G9{S:Nat→Prop}{w:World}:FV.zero.Is S w vg:=⟨rfl,rfl,rfl,rfl,rfl,rfl,aD.leaf (zl _),lr _,zl _,.inl rfl⟩
def FV.All(S:Nat→Prop)(w:World):List FV→List Fm→Prop
 |[],[]=>True
 |x::xs,f::fs=>x.Is S w f∧FV.All S w xs fs
 |_,_=>False
theorem yZ{S:Nat→Prop}{w:World}{g:Nat}:∀(xs:List FV)(fs:List Fm)(o:Nat),(∀j v,(xs.flatMap FV.cells)[j]?=some v→w.cell? ⟨g,o+j,none⟩=some v)→FV.All S w xs fs→lU S w g o fs
 |[],[],o,_,_=>by rw[lU];trivial
 |[],_::_,_,_,h=>h.elim
 |_::_,[],_,_,h=>h.elim
 |x::xs,f::fs,o,h,⟨hx,hr⟩=>by
  rw[lU];rw[List.flatMap_cons]at h;have hc:∀j,j<6→(x.cells++xs.flatMap FV.cells)[j]?=x.cells[j]?:=fun j hj=>List.getElem?_append_left (by show j<6;exact hj);have g0:=h 0 _ ((hc 0 (by omega)).trans rfl);have g1:=h 1 _ ((hc 1 (by omega)).trans rfl);have g2:=h 2 _ ((hc 2 (by omega)).trans rfl);have g3:=h 3 _ ((hc 3 (by omega)).trans rfl);have g4:=h 4 _ ((hc 4 (by omega)).trans rfl);have g5:=h 5 _ ((hc 5 (by omega)).trans rfl);rw[hx.o]at g0;rw[hx.tn]at g1;rw[hx.tm]at g2;rw[hx.s]at g3;rw[hx.ne]at g4;rw[hx.n]at g5;refine⟨yG.mk' g0 g1 g2 g3 g4 g5 hx.v,yZ xs fs (o+6) (fun j v hj=>?_) hr⟩;have:=h (6+j) v (by rw[List.getElem?_append_right (by show 6≤6+j;omega)];show(xs.flatMap FV.cells)[6+j-6]?=some v;rw[Nat.add_sub_cancel_left];exact hj);rw[show o+6+j=o+(6+j) by omega];exact this
theorem FV.FH{S:Nat→Prop}{w:World}{op:Int}{x y:FV}{f g:Fm}{b:Nat}(hx:x.Is S w f)(hy:y.Is S w g)(hS:S b)(hb:w.heap[b]?=some (.cells (x.cells++y.cells).toArray 67 (0,0))):(FV.mk op 0 0 ⟨#[]⟩ none 0 0 (some ⟨b,0,none⟩) 2 2).Is S w (fT op [f,g]):=by
 refine⟨rfl,rfl,rfl,rfl,rfl,rfl,aD.leaf (zl _),lr _,by unfold maxLen;show _≤_;simp,.inr ⟨b,0,rfl,hS,lH hb,?_⟩⟩;refine yZ [x,y] [f,g] 0 (fun j v hj=>?_) ⟨hx,hy,trivial⟩;rw[Nat.zero_add,cR w b j _ _ (0,0) hb]
 simpa[FV.cells]using hj
theorem FV.XL{S:Nat→Prop}{w:World}{op:Int}{x:FV}{f:Fm}{b:Nat}(hx:x.Is S w f)(hS:S b)(hb:w.heap[b]?=some (.cells x.cells.toArray 67 (0,0))):(FV.mk op 0 0 ⟨#[]⟩ none 0 0 (some ⟨b,0,none⟩) 1 1).Is S w (fT op [f]):=by
 refine⟨rfl,rfl,rfl,rfl,rfl,rfl,aD.leaf (zl _),lr _,by unfold maxLen;show _≤_;simp,.inr ⟨b,0,rfl,hS,lH hb,?_⟩⟩;refine yZ [x] [f] 0 (fun j v hj=>?_) ⟨hx,trivial⟩;rw[Nat.zero_add,cR w b j _ _ (0,0) hb]
 simpa[FV.cells]using hj
def Rs.at_{α:Type}:Rs α→Nat
 |.bad i _=>i
 |.ok _ i=>i
def Rs.err{α:Type}:Rs α→Int
 |.bad _ e=>e
 |.ok _ _=>0
def kK(w:World)(R:Nat)(A:Option Addr)(n c i d:Nat)(x:Int):Prop:=w.heap[R]?=some (.cells #[.slice A n c,.int .i64 (i:Nat),.int .i64 (d:Nat),.int .i64 x] 192 (0,0))
section
variable {w w':World} {R n c i d:Nat} {x:Int} {A:Option Addr}
theorem kK.lt(h:kK w R A n c i d x):R<w.heap.size:=lH h
theorem kK.below{B:Nat}(h:kK w R A n c i d x)(hb:Below B w w')(hB:R<B):kK w' R A n c i d x:=(hb.block R hB).trans h
theorem kK.at_(h:kK w R A n c i d x)(j:Nat):kK (w.setCell ⟨R,1,none⟩ (.int .i64 (j:Nat))) R A n c j d x:=by
 unfold kK at h⊢;simp[World.setCell,Array.getElem?_modify,h]
theorem kK.deep(h:kK w R A n c i d x)(e:Nat):kK (w.setCell ⟨R,2,none⟩ (.int .i64 (e:Nat))) R A n c i e x:=by
 unfold kK at h⊢;simp[World.setCell,Array.getElem?_modify,h]
theorem kK.wrong(h:kK w R A n c i d x)(y:Int):kK (w.setCell ⟨R,3,none⟩ (.int .i64 y)) R A n c i d y:=by
 unfold kK at h⊢;simp[World.setCell,Array.getElem?_modify,h]
theorem kK.drewN(h:kK w R A n c i d x)(m:Nat):kK (w.drewN m) R A n c i d x:=h
end
def xY(R:Nat)(A:Option Addr)(c d:Nat)(l:List Tok)(r:Rs Fm)(w:World)(e:Ending)(w':World):Prop:=∃x:FV,e=.returned x.val∧(∀f j,r=.ok f j→x.Is (fun q=>w.heap.size≤q) w' f)∧kK w' R A l.length c r.at_ d r.err∧Only (fun q=>q=R) w w'
def FnF(R:Nat)(A:Option Addr)(c d:Nat)(l:List Tok)(K:FuncId)(P:gK):Prop:=
 ∀(i:Nat)(w:World),i≤l.length→kK w R A l.length c i d 0→iI w R A c l→Calls Tryz.prog K #[.pointer (some ⟨R,0,none⟩)] w (xY R A c d l (P i) w)
theorem aj4{w:World}{b:Nat}{u0 u1 u2 u3 u4 u5:Value}{T:TypeId}(h:w.heap[b]?=some (.cells #[u0,u1,u2,u3,u4,u5] T (0,0))) :
 (w.cell? ⟨b,0,none⟩=some u0∧w.frozen? ⟨b,0,none⟩=false)∧(w.cell? ⟨b,1,none⟩=some u1∧w.frozen? ⟨b,1,none⟩=false)∧(w.cell? ⟨b,2,none⟩=some u2∧w.frozen? ⟨b,2,none⟩=false)∧(w.cell? ⟨b,3,none⟩=some u3∧w.frozen? ⟨b,3,none⟩=false)∧(w.cell? ⟨b,4,none⟩=some u4∧w.frozen? ⟨b,4,none⟩=false)∧w.cell? ⟨b,5,none⟩=some u5∧w.frozen? ⟨b,5,none⟩=false:=
 ⟨⟨by rw[cR w b 0 _ _ (0,0) h];rfl,by simp[World.frozen?,h]⟩,⟨by rw[cR w b 1 _ _ (0,0) h];rfl,by simp[World.frozen?,h]⟩,⟨by rw[cR w b 2 _ _ (0,0) h];rfl,by simp[World.frozen?,h]⟩,⟨by rw[cR w b 3 _ _ (0,0) h];rfl,by simp[World.frozen?,h]⟩,⟨by rw[cR w b 4 _ _ (0,0) h];rfl,by simp[World.frozen?,h]⟩,by rw[cR w b 5 _ _ (0,0) h];rfl,by simp[World.frozen?,h]⟩
section
variable {W w:World} {b q:Nat} {u0 u1 u2 u3 u4 u5 v0 v1 v2 v3 v4 v5:Value} {T:TypeId}
theorem jD(h:W.heap[b]?=some (.cells #[u0,u1,u2,u3,u4,u5] T (0,0))) :
 ((((((W.setCell ⟨b,0,none⟩ v0).setCell ⟨b,1,none⟩ v1).setCell ⟨b,2,none⟩ v2).setCell ⟨b,3,none⟩ v3).setCell ⟨b,4,none⟩ v4).setCell ⟨b,5,none⟩ v5).heap[b]?=some (.cells #[v0,v1,v2,v3,v4,v5] T (0,0)):=by
 simp[World.setCell,Array.getElem?_modify,h]
theorem jH(h:q≠b):((((((W.setCell ⟨b,0,none⟩ v0).setCell ⟨b,1,none⟩ v1).setCell ⟨b,2,none⟩ v2).setCell ⟨b,3,none⟩ v3).setCell ⟨b,4,none⟩ v4).setCell ⟨b,5,none⟩ v5).heap[q]?=W.heap[q]?:=by
 rw[iw _ ⟨b,5,none⟩ q _ h,iw _ ⟨b,4,none⟩ q _ h,iw _ ⟨b,3,none⟩ q _ h,iw _ ⟨b,2,none⟩ q _ h,iw _ ⟨b,1,none⟩ q _ h,iw _ ⟨b,0,none⟩ q _ h]
theorem mO{S:Nat→Prop}(h:aR S w W)(hb:¬S b):aR S w ((((((W.setCell ⟨b,0,none⟩ v0).setCell ⟨b,1,none⟩ v1).setCell ⟨b,2,none⟩ v2).setCell ⟨b,3,none⟩ v3).setCell ⟨b,4,none⟩ v4).setCell ⟨b,5,none⟩ v5):=(((((h.set hb _).set hb _).set hb _).set hb _).set hb _).set hb _
theorem dZ{F:Nat→Prop}{o:Nat}(h:Only F w W)(hb:w.heap.size≤b)(v:Value):Only F w (W.setCell ⟨b,o,none⟩ v):=
 ⟨h.os,h.tape,h.output,by simpa using h.size,fun k hk hf=>(iw W ⟨b,o,none⟩ k v (by show k≠b;omega)).trans (h.block k hk hf)⟩
theorem o9{F:Nat→Prop}(h:Only F w W)(hb:w.heap.size≤b):Only F w ((((((W.setCell ⟨b,0,none⟩ v0).setCell ⟨b,1,none⟩ v1).setCell ⟨b,2,none⟩ v2).setCell ⟨b,3,none⟩ v3).setCell ⟨b,4,none⟩ v4).setCell ⟨b,5,none⟩ v5):=dZ (dZ (dZ (dZ (dZ (dZ h hb _) hb _) hb _) hb _) hb _) hb _
end
theorem mP{F:Nat→Prop}{w W:World}(h:Only F w W)(o:Obj):Only F w (W.alloc o):=h.jV ((Br _ _).alloc (lr _) o) h.size
set_option maxRecDepth 100000
set_option maxHeartbeats 4000000
theorem wF.ES{w:World}{A:Option Addr}{l:List Tok}(h:wF w A l):wF w.drew A l:=h
theorem G_(A:Option Addr)(c i:Nat)(l:List Tok)(k:Int)(s:ByteArray)(w:World)(hT:wF w A l)(hlen:l.length≤100000)(hcap:l.length≤c)(aQ:c≤maxLen)(hi:i≤1000000) :
 Calls Tryz.prog 179 #[.agg #[.slice A l.length c],.int .i64 (i:Nat),.int .i64 k,.string s] w fun e w'=>e=.returned (.bool (ah l i k (bs s)))∧Below w.heap.size w w':=by
 obtain⟨n,HN⟩:=ak l.length;unfold maxLen at aQ;rw[←HN]at hlen hcap⊢;obtain⟨r,hr⟩:=aj (ah l i k (bs s));rw[←hr];unfold ah at hr;have kH:Hid (∀o,Below w.heap.size w (w.alloc o)):=fun o=>(Br _ _).alloc (lr _) _;have HR:=Hd hr;have HT:=Hd hT;clear hr hT
 by_cases hlt:i<n
 ·obtain⟨t,ht⟩:∃t,l[i]?=some t:=⟨_,gG (by have:=HN.out;omega)⟩
  rcases HT.out with h0|⟨b,off,rfl,hb,hc⟩
  ·rw[h0]at ht;simp at ht
  have x0:=hc i t ht 0 (by omega);have x2:=hc i t ht 2 (by omega);simp only[fZ,Nat.add_zero]at x0 x2;have HR2:Hid (r=(decide (t.kind=k)&&decide (t.text=bs s))):=by show _=_;rw[HR,ht]
  have hk0:(0:Int)≤(i:Int):=by omega
  have hk1:(i:Int)<(n:Int):=by omega
  clear ht hc hlt
  by_cases hk:t.kind=k
  ·have hkb:(t.kind==k)=true:=by simpa using hk
   have HR3:Hid (r=decide (t.text=bs s)):=by show _=_;rw[HR2,decide_eq_true hk];rfl
   have hs:((⟨t.text.toArray⟩:ByteArray).toList==s.toList)=decide (t.text=bs s):=by rw[vY];rfl
   obtain⟨T,hT⟩:∃T:ByteArray,T=⟨t.text.toArray⟩:=⟨_,rfl⟩;rw[←hT]at x2 hs;rw[←HR3]at hs;clear hk hT;cases r
   all_goals
    go_in;go_wp2_with fail;go_ret;exact⟨rfl,kH _⟩
  ·have hkb:(t.kind==k)=false:=by simpa using hk
   have HR3:Hid (r=false):=by show _=_;rw[HR2,dF hk];rfl
   clear hk;go_in;go_wp2_with fail;go_ret;rw[HR3];exact⟨rfl,kH _⟩
 ·have HR3:Hid (r=false):=by show _=_;rw[HR,List.getElem?_eq_none (by have:=HN.out;omega)]
  have hk1:¬(i:Int)<(n:Int):=by omega
  have hd:decide ((i:Int)<(n:Int))=false:=dF hk1;have hd2:decide (i<n)=false:=dF hlt;clear hlt;go_in;go_wp2_with fail;go_ret;rw[HR3];exact⟨rfl,kH _⟩
theorem wB(A:Option Addr)(c i:Nat)(l:List Tok)(s:ByteArray)(w:World)(hT:wF w A l)(hlen:l.length≤100000)(hcap:l.length≤c)(aQ:c≤maxLen)(hi:i≤1000000) :
 Calls Tryz.prog 151 #[.agg #[.slice A l.length c],.int .i64 (i:Nat),.string s] w fun e w'=>e=.returned (.bool (ah l i 4 (bs s)))∧Below w.heap.size w w':=by
 obtain⟨n,hn⟩:=aj l.length;obtain⟨w1,HW1⟩:=ak (w.alloc (.cells #[.slice A n c] 190));have hb1:=dz HW1;have hI:=G_ A c i l 4 s w1 (hT.Aq hb1 rfl) hlen hcap aQ hi;rw[←hn]at hI⊢;have HI:=Hd hI;have HB1:=Hd hb1;clear hn hb1 hT hI hlen hcap aQ;go_in;go_wp2_with fail;rw[←HW1];refine HI.mono ?_;rintro e w' ⟨rfl,hb⟩;have HB:=kB HB1 hb;clear hb;go_wp2_with fail;go_ret;exact⟨rfl,HB⟩
theorem DX(R:Nat)(A:Option Addr)(n c i d:Nat)(x:Int)(w:World)(hR:kK w R A n c i d 0) :
 Calls Tryz.prog 180 #[.pointer (some ⟨R,0,none⟩),.int .i64 x] w fun e w'=>e=.returned FV.zero.val∧kK w' R A n c i d x∧Only (fun q=>q=R) w w':=by
 obtain⟨F,hF⟩:∃F:Ending→World→Prop,F=fun e w'=>e=.returned FV.zero.val∧kK w' R A n c i d x∧Only (fun q=>q=R) w w':=⟨_,rfl⟩;rw[←hF];obtain⟨w2,hw2⟩:=aj ((w.setCell ⟨R,3,none⟩ (.int .i64 x)).alloc FV.zero.row);have hal:Below w.heap.size (w.setCell ⟨R,3,none⟩ (.int .i64 x)) w2:=by rw[hw2];exact(Br _ _).alloc (by simp) _
 have hR2:kK w2 R A n c i d x:=(hR.wrong x).below hal hR.lt
 have x2:w2.heap[w.heap.size]?=some FV.zero.row:=by
  have h:=eu (w.setCell ⟨R,3,none⟩ (.int .i64 x)) FV.zero.row;rw[hw2]
  simpa using h
 have ho2:Only (fun q=>q=R) w w2:=((Only.refl (F:=fun q=>q=R)).bq rfl _).jV hal (lr _);obtain⟨-,-,-,e3,fq⟩:=q4 hR;have hRl:=hR.lt;unfold FV.row FV.zero at hw2 x2;have HF:=Hd hF;have HW2:=Hd hw2;have HR2:=Hd hR2;have Ah:=Hd ho2;have X2:=Hd x2;clear hF hw2 hR2 ho2 x2 hR hal;go_in;go_wp2_with fail;rw[←HW2];refine bR (results_cell_row (t:=67) (fr:=(0,0)) rfl _ _ w.heap.size _ _ rfl X2 Tryz.underlying67 rfl (by kernel_rfl)) rfl ?_;rw[HF];exact⟨rfl,HR2,Ah⟩
theorem abR(R:Nat)(A:Option Addr)(n c i d:Nat)(x k:Int)(s:ByteArray)(w:World)(hR:kK w R A n c i d x)(hx:x≠0) :
 Calls Tryz.prog 196 #[.pointer (some ⟨R,0,none⟩),.int .i64 k,.string s] w fun e w'=>e=.returned (.tuple #[])∧w'=w:=by
 obtain⟨-,-,-,e3,-⟩:=q4 hR;have hxb:(x != 0)=true:=by simpa using hx
 clear hR hx;go_in;go_wp2_with fail;refine bR (v:=.tuple #[]) (results_none rfl _ _ _) rfl ?_;exact⟨rfl,rfl⟩
theorem abS(R:Nat)(A:Option Addr)(c i d:Nat)(l:List Tok)(k:Int)(s:ByteArray)(w:World)(hR:kK w R A l.length c i d 0)(hP:iI w R A c l)(hi:i≤1000000) :
 Calls Tryz.prog 196 #[.pointer (some ⟨R,0,none⟩),.int .i64 k,.string s] w fun e w'=>e=.returned (.tuple #[])∧kK w' R A l.length c (if ah l i k (bs s)=true then i+1 else i) d (if ah l i k (bs s)=true then 0 else 16)∧Only (fun q=>q=R) w w':=by
 obtain⟨n,hn⟩:=aj l.length;obtain⟨r,hr⟩:=aj (ah l i k (bs s));have hI:=G_ A c i l k s w.drew (wF.ES hP.toks) hP.len hP.cap hP.bU hi;rw[←hn]at hI hR⊢;rw[←hr]at hI⊢;have hl:=hP.len;rw[←hn]at hl;obtain⟨c0,c1,-,c3,-⟩:=q4 hR;have hRl:=hR.lt;have HI:=Hd hI;have HR:=Hd hR;clear hn hr hI hR hP;cases r
 ·go_in;go_wp2_with fail
  go_region_held3 (fun w'=>w'.cell? ⟨R,0,none⟩=some (.slice A n c)∧w'.cell? ⟨R,1,none⟩=some (.int .i64 (i:Nat)))
   (first
     |(go_keep;done)
     |(go_split_ands
       refine⟨?_,?_⟩
       ·(rw[hb5.cell (p:=⟨R,_,none⟩) (by simp;omega)];simpa using c0)
       ·(rw[hb5.cell (p:=⟨R,_,none⟩) (by simp;omega)];simpa using c1))
     |fail)
   ((go_at_call 179;refine HI.mono ?_;rintro e w5 ⟨rfl,hb5⟩))
  have hb6:Below w.heap.size w w5:=((Br _ _).drew).trans hb5;have bZ:=Hd hb6;have HST:=Hd (DX R A n c i d 16 w5 (HR.below hb6 hRl));clear hb5 hb6 c0 c1 c3 HI;go_wp2_with fail;refine HST.mono ?_;rintro e w7 ⟨rfl,hR7,ho7⟩;have HR7:=Hd hR7;have HO7:=Hd ((Ob bZ).trans ho7);clear hR7 ho7;go_wp2_with fail;refine bR (v:=.tuple #[]) (results_none rfl _ _ _) rfl ?_;exact⟨rfl,HR7,HO7⟩
 ·go_in;go_wp2_with fail
  go_region_held3 (fun w'=>w'.cell? ⟨R,0,none⟩=some (.slice A n c)∧w'.cell? ⟨R,1,none⟩=some (.int .i64 (i:Nat)))
   (first
     |(go_keep;done)
     |(go_split_ands
       refine⟨?_,?_⟩
       ·(rw[hb5.cell (p:=⟨R,_,none⟩) (by simp;omega)];simpa using c0)
       ·(rw[hb5.cell (p:=⟨R,_,none⟩) (by simp;omega)];simpa using c1))
     |fail)
   ((go_at_call 179;refine HI.mono ?_;rintro e w5 ⟨rfl,hb5⟩))
  have hb6:Below w.heap.size w w5:=((Br _ _).drew).trans hb5;have bZ:=Hd hb6;have OL:=Hd (HR.below hb6 hRl);clear hb5 hb6 c0 c1 c3 HI;obtain⟨-,c1,-,-,fq⟩:=q4 OL;have alU:=OL.lt;go_wp2_with fail;refine bodyPost_end (v:=.tuple #[]) (results_none rfl _ _ _) rfl ?_;have h:=OL.at_ (i+1);rw[show((i+1:Nat):Int)=(i:Int)+1 from by omega]at h;exact⟨rfl,h,(Ob (F:=fun q=>q=R) bZ).bq (show R=R from rfl) _⟩
set_option maxHeartbeats 8000000
theorem ou{R:Nat}{A:Option Addr}{c d:Nat}{l:List Tok}{r:Rs Fm}{w w1 w2:World}{x:FV}{v0 v1 v2 v3 v4 v5:Value}(hx:∀f j,r=.ok f j→x.Is (fun q=>w1.heap.size≤q) w2 f)(h1:w.heap.size<w1.heap.size)(hRl:R<w.heap.size)(hR:kK w2 R A l.length c r.at_ d r.err)(hO:Only (fun q=>q=R) w w2) :
 xY R A c d l r w (.returned x.val) ((((((w2.setCell ⟨w.heap.size,0,none⟩ (v0)).setCell ⟨w.heap.size,1,none⟩ (v1)).setCell ⟨w.heap.size,2,none⟩ (v2)).setCell ⟨w.heap.size,3,none⟩ (v3)).setCell ⟨w.heap.size,4,none⟩ (v4)).setCell ⟨w.heap.size,5,none⟩ (v5)):=
 ⟨x,rfl,fun f j h=>(hx f j h).keep (mO Kr (by omega)) (fun q _ h=>by omega),(jH (by omega)).trans hR,o9 hO (lr _)⟩
theorem abT{R:Nat}{A:Option Addr}{c d:Nat}{l:List Tok}{r:Rs Fm}{w W:World}{e:Ending}(h:xY R A c d l r w e W)(o:Obj):xY R A c d l r w e (W.alloc o):=by
 obtain⟨x,he,hx,hR,hO⟩:=h;exact⟨x,he,fun f j h=>(hx f j h).keep (aR.refl.alloc o) (fun _ _ h=>h),hR.below ((Br _ _).alloc (lr _) o) hR.lt,mP hO o⟩
theorem uK(R:Nat)(A:Option Addr)(c d:Nat)(l:List Tok)(K:FuncId)(P:gK)(i:Nat)(w:World)(hrun:∀args W,(callFunc K args).run Tryz.prog W=.ok (.enter K args) W)(hF:d<256→FnF R A c (d+1) l K P)(hd:d≤256)(hi:i<l.length)
 (hR:kK w R A l.length c i d 0) (hP:iI w R A c l):Calls Tryz.prog 152 #[.pointer (some ⟨R,0,none⟩),.func (.func K) #[.pointer (some ⟨R,0,none⟩)] #[]] w (xY R A c d l (if d=256 then .bad i 17 else P (i+1)) w):=by
 obtain⟨w1,hw1⟩:=aj (w.alloc (.cells #[.int .i64 0,.int .i64 0,.int .i64 0,.string ⟨#[]⟩,.slice none 0 0,.slice none 0 0] 67));have hb1:=dz hw1;have hs1:w1.heap.size=w.heap.size+1:=by rw[hw1];simp
 have x1:w1.heap[w.heap.size]?=some (.cells #[.int .i64 0,.int .i64 0,.int .i64 0,.string ⟨#[]⟩,.slice none 0 0,.slice none 0 0] 67 (0,0)):=by rw[hw1];exact eu w _
 have sQ:=hR.below hb1 hR.lt;have hRl:=hR.lt;have hlen:=hP.len;obtain⟨F,HF⟩:=ak (xY R A c d l (if d=256 then .bad i 17 else P (i+1)) w);rw[←HF];obtain⟨c0,c1,c2,c3,fq⟩:=q4 hR;have HW1:=Hd hw1;have HB1:=Hd hb1;have HR1:=Hd sQ;have HR:=Hd hR;have Am:=Hd hF;have HP:=Hd hP;have X1:=Hd x1;clear hw1 hb1 hR sQ hF hP x1
 by_cases gq:d=256
 ·have bE:Hid (F=xY R A c d l (.bad i 17) w):=by show _=_;rw[HF,iP gq]
  have hdb:((d:Int)==256)=true:=by simp;omega
  have HST:=Hd (DX R A l.length c i d 17 w1 HR1);clear gq HF;go_in;go_wp2_with fail;rw[←HW1];(try go_wp2_with fail);refine HST.mono ?_;rintro e w2 ⟨rfl,hR2,ho2⟩;unfold FV.val FV.zero;simp only;have X2:=Hd ((ho2.block w.heap.size (by omega) (by omega)).trans X1);have HR2:=Hd hR2;have Ah:=Hd ((Ob HB1).trans ho2);have hl2:w.heap.size<w2.heap.size:=lH X2;clear hR2 ho2 c0 c1 fq c2 c3;obtain⟨v0,v1,v2,v3,v4,v5,bW⟩:=q6 X2;go_wp2_with fail;clear v0 bW v1 v2 v3 v4 v5;refine bR (Ki (jD X2)) rfl ?_;rw[bE];exact ou (x:=FV.zero) (r:=.bad i 17) (w1:=w1) (fun f j h=>nomatch h) (by omega) hRl HR2 Ah
 ·have bE:Hid (F=xY R A c d l (P (i+1)) w):=by show _=_;rw[HF,iN gq]
  have hdb:((d:Int)==256)=false:=by simp;omega
  have hd2:d<256:=by omega
  obtain⟨w3,hw3⟩:=aj (((w.setCell ⟨R,1,none⟩ (.int .i64 ((i:Int)+1))).setCell ⟨R,2,none⟩ (.int .i64 ((d:Int)+1))).alloc (.cells #[.int .i64 0,.int .i64 0,.int .i64 0,.string ⟨#[]⟩,.slice none 0 0,.slice none 0 0] 67));have ho3:Only (fun q=>q=R) w w3:=by rw[hw3];exact mP (((Only.refl (F:=fun q=>q=R)).bq (show R=R from rfl) _).bq (show R=R from rfl) _) _
  have VU:kK w3 R A l.length c (i+1) (d+1) 0:=by
   have h:=((HR.at_ (i+1)).deep (d+1)).below (B:=w.heap.size) ((Br _ _).alloc (by simp) (.cells #[.int .i64 0,.int .i64 0,.int .i64 0,.string ⟨#[]⟩,.slice none 0 0,.slice none 0 0] 67)) hRl;rw[show((i+1:Nat):Int)=(i:Int)+1 from by omega,show((d+1:Nat):Int)=(d:Int)+1 from by omega]at h;rw[hw3];exact h
  have x3:w3.heap[w.heap.size]?=some (.cells #[.int .i64 0,.int .i64 0,.int .i64 0,.string ⟨#[]⟩,.slice none 0 0,.slice none 0 0] 67 (0,0)):=by
   have h:=eu ((w.setCell ⟨R,1,none⟩ (.int .i64 ((i:Int)+1))).setCell ⟨R,2,none⟩ (.int .i64 ((d:Int)+1))) (.cells #[.int .i64 0,.int .i64 0,.int .i64 0,.string ⟨#[]⟩,.slice none 0 0,.slice none 0 0] 67);rw[hw3]
   simpa using h
  have hcall:=Am hd2 (i+1) w3 (by omega) VU (HP.only ho3);obtain⟨r,hr⟩:=aj (P (i+1));rw[←hr]at hcall bE;have HC:=Hd hcall;have Ai:=Hd ho3;have X3:=Hd x3;have HW3:=Hd hw3;clear hcall hr ho3 VU x3 hw3 gq HF;go_in;go_wp2_with fail;rw[←HW3];refine HC.mono ?_;rintro e w4 ⟨x,rfl,hx,vD,iC⟩;unfold FV.val;obtain⟨j,hj⟩:=aj r.at_;obtain⟨y,hy⟩:=aj r.err;rw[←hj,←hy]at vD;have hs3:w.heap.size<w3.heap.size:=lH X3;have HX:=Hd hx;have HR4:=Hd vD;have uX:=Hd (Ai.trans iC);have X4:=Hd ((iC.block w.heap.size hs3 (by omega)).trans X3);have HJ:=Hd hj;have HY:=Hd hy;have hs4:=iC.size;clear hx vD iC hj hy c0 c1 fq c2 c3;obtain⟨-,-,c2,-,fq⟩:=q4 HR4;have aji:=HR4.lt;have hl4:w.heap.size<w4.heap.size:=by omega
  obtain⟨v0,v1,v2,v3,v4,v5,bW⟩:=q6 X4;go_wp2_with fail;clear c2 fq v0 bW v1 v2 v3 v4 v5;obtain⟨w5,gH⟩:=aj (w4.setCell ⟨R,2,none⟩ (.int .i64 (d:Nat)));have hR5:kK w5 R A l.length c j d y:=by rw[gH];exact HR4.deep d
  have Ug:Only (fun q=>q=R) w w5:=by rw[gH];exact uX.bq (show R=R from rfl) _
  have x5:w5.heap[w.heap.size]?=some (.cells #[.int .i64 0,.int .i64 0,.int .i64 0,.string ⟨#[]⟩,.slice none 0 0,.slice none 0 0] 67 (0,0)):=by rw[gH];exact(iw w4 ⟨R,2,none⟩ w.heap.size _ (by show w.heap.size≠R;omega)).trans X4
  have hk5:aR (fun q=>w3.heap.size≤q) w4 w5:=by rw[gH];exact aR.refl.set (by omega) _
  rw[←gH];clear gH;obtain⟨WW,nT⟩:=aj (((((((w5.setCell ⟨w.heap.size,0,none⟩ (.int .i64 x.o)).setCell ⟨w.heap.size,1,none⟩ (.int .i64 x.tn)).setCell ⟨w.heap.size,2,none⟩ (.int .i64 x.tm)).setCell ⟨w.heap.size,3,none⟩ (.string x.s)).setCell ⟨w.heap.size,4,none⟩ (.slice x.Ae x.ne x.ce)).setCell ⟨w.heap.size,5,none⟩ (.slice x.A x.n x.c)));have xW:WW.heap[w.heap.size]?=some (.cells #[.int .i64 x.o,.int .i64 x.tn,.int .i64 x.tm,.string x.s,.slice x.Ae x.ne x.ce,.slice x.A x.n x.c] 67 (0,0)):=by rw[nT];exact jD x5
  have hQ:xY R A c d l r w (.returned x.val) WW:=by
   rw[nT];exact ou (w1:=w3) (fun f k h=>(HX f k h).keep hk5 (fun _ _ h=>h)) hs3 hRl (by rw[←HJ,←HY];exact hR5) Ug
  rw[←nT];refine bR (Ki (aK xW)) rfl ?_;rw[bE];exact abT hQ _
def jQ(l:List Tok)(j:Nat)(y k:Int)(s:Bs):Nat×Int:=if y≠0 then(j,y)else if ah l j k s=true then(j+1,0)else(j,16)
theorem zV(R:Nat)(A:Option Addr)(c i d:Nat)(l:List Tok)(y k:Int)(s:ByteArray)(w:World)(hR:kK w R A l.length c i d y)(hP:iI w R A c l)(hi:y=0→i≤1000000) :
 Calls Tryz.prog 196 #[.pointer (some ⟨R,0,none⟩),.int .i64 k,.string s] w fun e w'=>e=.returned (.tuple #[])∧kK w' R A l.length c (jQ l i y k (bs s)).1 d (jQ l i y k (bs s)).2∧Only (fun q=>q=R) w w':=by
 by_cases hy:y=0
 ·subst hy;refine(abS R A c i d l k s w hR hP (hi rfl)).mono ?_;rintro e w' ⟨rfl,h1,h2⟩;refine⟨rfl,?_,h2⟩;unfold jQ;rw[iN (by simp)]
  split at h1<;>rename_i hc<;>simp only[hc]at h1⊢
  ·exact h1
  ·simpa[hc]using h1
 ·refine(abR R A l.length c i d y k s w hR hy).mono ?_;rintro e w' ⟨rfl,rfl⟩;unfold jQ;rw[iP hy];exact⟨rfl,hR,Only.refl⟩
def thenTk(l:List Tok)(r:Rs Fm)(k:Int)(s:Bs)(F:Fm→Fm):Rs Fm:=r.then fun g j=>if ah l j k s=true then .ok (F g) (j+1)else .bad j 16
theorem Pz{l:List Tok}{r:Rs Fm}{k:Int}{s:Bs}{F:Fm→Fm}(hz:∀j e,r=.bad j e→e≠0) :
 (thenTk l r k s F).at_=(jQ l r.at_ r.err k s).1∧(thenTk l r k s F).err=(jQ l r.at_ r.err k s).2∧∀f m,thenTk l r k s F=.ok f m→∃g j,r=.ok g j∧f=F g:=by
 unfold thenTk jQ
 cases r with
 |bad j e=>
  have:=hz j e rfl;simp[Rs.at_,Rs.err,this]
 |ok g j=>
  by_cases hc:ah l j k s=true
  ·simp only[Rs.then_ok,Rs.err,Rs.at_,hc,if_true];exact⟨by simp,by simp,fun f m h=>⟨g,j,rfl,(bH h).1.symm⟩⟩
  ·simp only[Rs.then_ok,Rs.err,Rs.at_,iN hc];exact⟨by simp[hc],by simp[hc],fun f m h=>nomatch h⟩
theorem aaU{R:Nat}{A:Option Addr}{c d:Nat}{l:List Tok}{r:Rs Fm}{w W:World}{op:Int}{x y:FV}{g:Nat}(hg:w.heap.size≤g)(hrow:W.heap[g]?=some (.cells (x.cells++y.cells).toArray 67 (0,0)))
 (hok:∀q m,r=.ok q m→∃f h,q=fT op [f,h]∧x.Is (fun q=>w.heap.size≤q) W f∧y.Is (fun q=>w.heap.size≤q) W h) (hR:kK W R A l.length c r.at_ d r.err) (hO:Only (fun q=>q=R) w W) :
 xY R A c d l r w (.returned (.agg #[.int .i64 op,.int .i64 0,.int .i64 0,.string ⟨#[]⟩,.slice none 0 0,.slice (some ⟨g,0,none⟩) 2 2])) W:=
 ⟨⟨op,0,0,⟨#[]⟩,none,0,0,some ⟨g,0,none⟩,2,2⟩,rfl,fun q m h=>by
   obtain⟨f,k,rfl,h1,h2⟩:=hok q m h
   exact FV.FH h1 h2 hg hrow,hR,hO⟩
theorem aga{R:Nat}{A:Option Addr}{c d:Nat}{l:List Tok}{r:Rs Fm}{w W:World}{op:Int}{x:FV}{g:Nat}(hg:w.heap.size≤g)(hrow:W.heap[g]?=some (.cells x.cells.toArray 67 (0,0)))
 (hok:∀q m,r=.ok q m→∃f,q=fT op [f]∧x.Is (fun q=>w.heap.size≤q) W f) (hR:kK W R A l.length c r.at_ d r.err) (hO:Only (fun q=>q=R) w W) :
 xY R A c d l r w (.returned (.agg #[.int .i64 op,.int .i64 0,.int .i64 0,.string ⟨#[]⟩,.slice none 0 0,.slice (some ⟨g,0,none⟩) 1 1])) W:=
 ⟨⟨op,0,0,⟨#[]⟩,none,0,0,some ⟨g,0,none⟩,1,1⟩,rfl,fun q m h=>by
   obtain⟨f,rfl,h1⟩:=hok q m h
   exact FV.XL h1 hg hrow,hR,hO⟩
theorem CJ{R:Nat}{A:Option Addr}{c d:Nat}{l:List Tok}{w w2:World}{r:Rs Fm}(hr:∀f j,r≠.ok f j)(hRl:R<w.heap.size)(hR:kK w2 R A l.length c r.at_ d r.err)(hO:Only (fun q=>q=R) w w2)(v0 v1 v2 v3 v4 v5:Value) :
 xY R A c d l r w (.returned (.agg #[.int .i64 0,.int .i64 0,.int .i64 0,.string ⟨#[]⟩,.slice none 0 0,.slice none 0 0])) ((((((w2.setCell ⟨w.heap.size,0,none⟩ (v0)).setCell ⟨w.heap.size,1,none⟩ (v1)).setCell ⟨w.heap.size,2,none⟩ (v2)).setCell ⟨w.heap.size,3,none⟩ (v3)).setCell ⟨w.heap.size,4,none⟩ (v4)).setCell ⟨w.heap.size,5,none⟩ (v5)):=
 ⟨FV.zero,rfl,fun f j h=>absurd h (hr f j),(jH (by omega)).trans hR,o9 hO (lr _)⟩
def FnO(R:Nat)(A:Option Addr)(c d:Nat)(l:List Tok)(op:Int)(P:gK):Prop:=
 ∀(i:Nat)(w:World),i≤l.length→kK w R A l.length c i d 0→iI w R A c l→Calls Tryz.prog 150 #[.pointer (some ⟨R,0,none⟩),.int .i64 op] w (xY R A c d l (P i) w)
theorem abU(R:Nat)(A:Option Addr)(c d:Nat)(l:List Tok)(P:gK)(hF:FnO R A c d l 3 P):FnF R A c d l 178 P:=by
 intro i w hi hR hP;obtain⟨w1,hw1⟩:=aj (w.alloc (.cells #[.int .i64 0,.int .i64 0,.int .i64 0,.string ⟨#[]⟩,.slice none 0 0,.slice none 0 0] 67));have hb1:=dz hw1;have hs1:w1.heap.size=w.heap.size+1:=by rw[hw1];simp
 have x1:w1.heap[w.heap.size]?=some (.cells #[.int .i64 0,.int .i64 0,.int .i64 0,.string ⟨#[]⟩,.slice none 0 0,.slice none 0 0] 67 (0,0)):=by rw[hw1];exact eu w _
 have sQ:=hR.below hb1 hR.lt;have hRl:=hR.lt;have hlen:=hP.len;have hcall:=hF i w1 hi sQ (hP.only (Ob hb1));obtain⟨r,hr⟩:=aj (P i);rw[←hr]at hcall⊢;obtain⟨F,HF⟩:=ak (xY R A c d l r w);rw[←HF];have HC:=Hd hcall;have HW1:=Hd hw1;have HB1:=Hd hb1;have X1:=Hd x1;clear hw1 hb1 hR sQ hF hP x1 hcall hr;go_in;go_wp2_with fail;rw[←HW1];refine HC.mono ?_;rintro e w2 ⟨x,rfl,hx,hR2,ho2⟩;unfold FV.val;have HX:=Hd hx;have HR2:=Hd hR2;have Ah:=Hd ((Ob HB1).trans ho2);have X2:=Hd ((ho2.block w.heap.size (by omega) (by omega)).trans X1);have hl2:w.heap.size<w2.heap.size:=lH X2;clear hx hR2 ho2;obtain⟨v0,v1,v2,v3,v4,v5,bW⟩:=q6 X2;go_wp2_with fail;clear v0 bW v1 v2 v3 v4 v5;refine bR (Ki (jD X2)) rfl ?_;rw[HF];exact ou (w1:=w1) HX (by omega) hRl HR2 Ah
def AY(l:List Tok)(P:gK):gK:=fun i=>if ah l i 4 [91]=true then(P (i+1)).then fun f j=>if ah l j 3 [85]=true then thenTk l (P (j+1)) 4 [93] fun g=>fT 0 [f,g]else .bad j 16 else .bad i 16
theorem XM(R:Nat)(A:Option Addr)(c d:Nat)(l:List Tok)(P:gK)(hF:FnF R A c d l 124 P)(hG:xV l P)(hZ:vw P):FnF R A c d l 195 (AY l P):=by
 intro i w hi hR hP;obtain⟨w1,hw1⟩:=aj (w.alloc (.cells #[.int .i64 0,.int .i64 0,.int .i64 0,.string ⟨#[]⟩,.slice none 0 0,.slice none 0 0] 67));have hb1:=dz hw1;have hs1:w1.heap.size=w.heap.size+1:=by rw[hw1];simp
 have x1:w1.heap[w.heap.size]?=some (.cells #[.int .i64 0,.int .i64 0,.int .i64 0,.string ⟨#[]⟩,.slice none 0 0,.slice none 0 0] 67 (0,0)):=by rw[hw1];exact eu w _
 have sQ:=hR.below hb1 hR.lt;have hRl:=hR.lt;have hlen:=hP.len;obtain⟨F,HF⟩:=ak (xY R A c d l (AY l P i) w);rw[←HF];have HW1:=Hd hw1;have HO:Hid (Only (fun q=>q=R) w w1):=Ob hb1;have dQ:=Hd sQ;have Am:=Hd hF;have HP:=Hd hP;have XB:=Hd x1;have HG:=Hd hG;have HZ:=Hd hZ;clear hw1 hb1 hR sQ hF hP x1 hG hZ hs1;go_in;have hwn:=zV R A c i d l 0 4 ⟨#[91]⟩ w1 dQ (HP.only HO) (by first|(intro _;omega)|(intro h;have:=zD h;omega));obtain⟨jw,hjw⟩:=aj (jQ l (i) (0) 4 [91]);rw[show jQ l (i) (0) 4 (bs ⟨#[91]⟩)=jw from hjw.symm]at hwn;have HC:=Hd hwn;have VY:=Hd hjw;clear hwn hjw;go_wp2_with fail;rw[←HW1];refine HC.mono ?_;rintro e w2 ⟨rfl,hR2,ho2⟩;replace XB:=Hd ((ho2.block w.heap.size (lH XB) (by omega)).trans XB);replace HO:=Hd (HO.trans ho2);replace dQ:=Hd hR2;clear HC hR2 ho2
 by_cases h1:ah l i 4 [91]=true
 ·have hw:jw=(i+1,0):=by rw[VY];unfold jQ;rw[iN (by simp),iP h1]
  have bE:Hid (F=xY R A c d l ((P (i+1)).then fun f j=>if ah l j 3 [85]=true then thenTk l (P (j+1)) 4 [93] fun g=>fT 0 [f,g]else .bad j 16) w):=by show _=_;rw[HF];unfold AY;rw[iP h1]
  have hil:=dL h1;subst hw;simp only at dQ;clear h1;obtain⟨-,-,-,e3,-⟩:=q4 dQ;have hrl2:=dQ.lt;have hcall:=Am (i+1) w2 (by omega) dQ (HP.only HO);obtain⟨r1,hr1⟩:=aj (P (i+1));rw[←hr1]at hcall;have HC:=Hd hcall;have dx:=Hd hr1;clear hcall hr1;go_wp2_with fail;clear e3;refine HC.mono ?_;rintro e w3 ⟨x,rfl,hx,hR2,ho2⟩;unfold FV.val;obtain⟨b3,hb3⟩:=aj w3.heap.size;obtain⟨w4,hw4⟩:=aj (w3.alloc (.cells #[.int .i64 x.o,.int .i64 x.tn,.int .i64 x.tm,.string x.s,.slice x.Ae x.ne x.ce,.slice x.A x.n x.c] 67));have hal:=dz hw4;have Xb3:=jZ hw4 hb3;have FI:Hid (∀f j,r1=.ok f j→x.Is (fun q=>w.heap.size<q) w4 f):=fun f j h=>(hx f j h).keep (Kb hal) (fun q _ h=>by have:=HO.size;have:=lH XB;omega);have hn2:=Ob (F:=fun q=>q=R) hal;have YB:=Hd ((hal.block w.heap.size (lL (lH XB) ho2.size)).trans ((ho2.block w.heap.size (lH XB) (by omega)).trans XB));have YO:=Hd (HO.trans (ho2.trans hn2));have BF:=Hd (hR2.below hal hR2.lt);have ahK:b3≠R:=by have:=hR2.lt;omega
  have alV:w.heap.size<b3:=by have:=lL (lH XB) ho2.size;omega
  have Uq:=Hd hw4;have Qb3:=Hd hb3;clear HC hx hR2 ho2 hal hn2 hb3 hw4 XB HO dQ;have XB:=YB;have HO:=YO;have dQ:=BF;clear YB YO BF;obtain⟨j1,hj1⟩:=aj r1.at_;obtain⟨y1,hy1⟩:=aj r1.err;rw[←hj1,←hy1]at dQ
  have zD:Hid (y1=0→j1≤l.length∧∃f,r1=.ok f j1):=by
   intro h
   cases hr1:r1 with
   |bad a b=>
    rw[hr1]at hy1;exact absurd (show b=0 from hy1.symm.trans h) (HZ (i+1) a b (by rw[←dx,hr1]))
   |ok f j=>rw[hr1]at hj1;have hg:=HG (i+1) f j (by rw[←dx,hr1]);rw[show j1=j from hj1];exact⟨hg.jl,f,rfl⟩
  have HY1:=Hd hy1;have HJ1:=Hd hj1;clear hj1 hy1;have hwn:=zV R A c j1 d l y1 3 ⟨#[85]⟩ w4 dQ (HP.only HO) (by first|(intro _;omega)|(intro h;have:=(zD h).1;omega));obtain⟨jw,hjw⟩:=aj (jQ l (j1) (y1) 3 [85]);rw[show jQ l (j1) (y1) 3 (bs ⟨#[85]⟩)=jw from hjw.symm]at hwn;have HC:=Hd hwn;have VY:=Hd hjw;clear hwn hjw;go_wp2_with fail;rw[←Uq,←Qb3];refine HC.mono ?_;rintro e w5 ⟨rfl,hR2,ho2⟩;have YB:=Hd ((ho2.block w.heap.size (lH XB) (by omega)).trans XB);have YO:=Hd (HO.trans ho2);have BF:=Hd hR2;replace Xb3:=Hd ((ho2.block b3 (lH Xb3) ahK).trans Xb3);replace FI:Hid (∀f j,r1=.ok f j→x.Is (fun q=>w.heap.size<q) w5 f):=fun f j h=>(FI f j h).keep (aR.cO ho2 (by omega)) (fun _ _ h=>h);clear HC hR2 ho2 XB HO dQ;have XB:=YB;have HO:=YO;have dQ:=BF;clear YB YO BF
  by_cases hy:y1=0
  ·obtain⟨hjl,f1,hf1⟩:=zD hy;have dJ:Hid (F=xY R A c d l (if ah l j1 3 [85]=true then thenTk l (P (j1+1)) 4 [93] fun g=>fT 0 [f1,g]else .bad j1 16) w):=by show _=_;rw[bE,←dx,hf1];rfl
   have HXF:Hid (x.Is (fun q=>w.heap.size<q) w5 f1):=FI f1 j1 hf1;subst hy;clear hf1 FI zD
   by_cases h2:ah l j1 3 [85]=true
   ·have hw:jw=(j1+1,0):=by rw[VY];unfold jQ;rw[iN (by simp),iP h2]
    have pR:Hid (F=xY R A c d l (thenTk l (P (j1+1)) 4 [93] fun g=>fT 0 [f1,g]) w):=by show _=_;rw[dJ,iP h2]
    have vE:=dL h2;clear VY;subst hw;simp only at dQ;clear h2;obtain⟨-,-,-,e3,-⟩:=q4 dQ;have ajs:=dQ.lt;have hcall:=Am (j1+1) w5 (by omega) dQ (HP.only HO);obtain⟨r2,hr2⟩:=aj (P (j1+1));rw[←hr2]at hcall;have HC:=Hd hcall;have jR:=Hd hr2;clear hcall hr2;go_wp2_with fail;clear e3;refine HC.mono ?_;rintro e w6 ⟨y,rfl,hx,hR2,ho2⟩;unfold FV.val;obtain⟨b4,hb4⟩:=aj w6.heap.size;obtain⟨w7,hw7⟩:=aj (w6.alloc (.cells #[.int .i64 y.o,.int .i64 y.tn,.int .i64 y.tm,.string y.s,.slice y.Ae y.ne y.ce,.slice y.A y.n y.c] 67));have hal:=dz hw7;have Xb4:=jZ hw7 hb4;have Ko:Hid (∀f j,r2=.ok f j→y.Is (fun q=>w.heap.size<q) w7 f):=fun f j h=>(hx f j h).keep (Kb hal) (fun q _ h=>by have:=HO.size;have:=lH XB;omega);have hn2:=Ob (F:=fun q=>q=R) hal;have YB:=Hd ((hal.block w.heap.size (lL (lH XB) ho2.size)).trans ((ho2.block w.heap.size (lH XB) (by omega)).trans XB));have YO:=Hd (HO.trans (ho2.trans hn2));have BF:=Hd (hR2.below hal hR2.lt);have akz:b4≠R:=by have:=hR2.lt;omega
    have alW:w.heap.size<b4:=by have:=lL (lH XB) ho2.size;omega
    replace Xb3:=Hd ((hal.block b3 (lL (lH Xb3) ho2.size)).trans ((ho2.block b3 (lH Xb3) ahK).trans Xb3));replace HXF:Hid (x.Is (fun q=>w.heap.size<q) w7 f1):=(HXF.keep (aR.cO ho2 (by omega)) (fun _ _ h=>h)).keep (Kb hal) (fun _ _ h=>h);have Qw7:=Hd hw7;have Qb4:=Hd hb4;clear HC hx hR2 ho2 hal hn2 hb4 hw7 XB HO dQ;have XB:=YB;have HO:=YO;have dQ:=BF;clear YB YO BF;have hZ2:∀j e,r2=.bad j e→e≠0:=fun j e h=>HZ _ _ _ (by rw[←jR,h]);obtain⟨hq1,hq2,hq3⟩:=Pz (l:=l) (k:=4) (s:=[93]) (F:=fun g=>fT 0 [f1,g]) hZ2;rw[←jR]at pR;obtain⟨q,hq⟩:=aj (thenTk l r2 4 [93] fun g=>fT 0 [f1,g]);rw[←hq]at hq1 hq2 hq3 pR
    have zD:Hid (r2.err=0→r2.at_≤l.length):=by
     intro h
     cases hr2:r2 with
     |bad a b=>rw[hr2]at h;exact absurd h (hZ2 a b hr2)
     |ok f j=>have hg:=HG (j1+1) f j (by rw[←jR,hr2]);exact hg.jl
    obtain⟨j2,hj2⟩:=aj r2.at_;obtain⟨y2,hy2⟩:=aj r2.err;rw[←hj2,←hy2]at dQ zD hq1 hq2;have HQ1:=Hd hq1;have HQ2:=Hd hq2;have HQ3:=Hd hq3;clear hj2 hy2 hZ2 hq hq1 hq2 hq3;have hwn:=zV R A c j2 d l y2 4 ⟨#[93]⟩ w7 dQ (HP.only HO) (by first|(intro _;omega)|(intro h;have:=zD h;omega));obtain⟨jw,VY⟩:=ak (jQ l (j2) (y2) 4 [93]);rw[show jQ l (j2) (y2) 4 (bs ⟨#[93]⟩)=jw from VY.symm]at hwn;have HC:=Hd hwn;clear hwn;go_wp2_with fail;rw[←Qw7,←Qb4];refine HC.mono ?_;rintro e w8 ⟨rfl,hR2,ho2⟩;have YB:=Hd ((ho2.block w.heap.size (lH XB) (by omega)).trans XB);have YO:=Hd (HO.trans ho2);have BF:=Hd hR2;replace Xb3:=Hd ((ho2.block b3 (lH Xb3) ahK).trans Xb3);replace Xb4:=Hd ((ho2.block b4 (lH Xb4) akz).trans Xb4);replace HXF:Hid (x.Is (fun q=>w.heap.size<q) w8 f1):=HXF.keep (aR.cO ho2 (by omega)) (fun _ _ h=>h);replace Ko:Hid (∀f j,r2=.ok f j→y.Is (fun q=>w.heap.size<q) w8 f):=fun f j h=>(Ko f j h).keep (aR.cO ho2 (by omega)) (fun _ _ h=>h);clear HC hR2 ho2 XB HO dQ;have XB:=YB;have HO:=YO;have dQ:=BF;clear YB YO BF;rw[←VY]at HQ1 HQ2;obtain⟨v0,v1,v2,v3,v4,v5,bW⟩:=q6 XB;obtain⟨a0,a1,a2,a3,a4,a5,azq⟩:=q6 Xb3;obtain⟨b0,b1,b2,b3,b4,b5,bzq⟩:=q6 Xb4;have hvl:=lH XB;have ajt:=lH Xb3
    have alX:=lH Xb4;go_wp2_with fail;clear v0 bW v1 v2 v3 v4 v5 a0 azq a1 a2 a3 a4 a5;clear b0 bzq b1 b2 b3 b4 b5;obtain⟨W0,hW0⟩:=aj (((((((w8.setCell ⟨w.heap.size,0,none⟩ (.int .i64 0)).setCell ⟨w.heap.size,1,none⟩ (.int .i64 0)).setCell ⟨w.heap.size,2,none⟩ (.int .i64 0)).setCell ⟨w.heap.size,3,none⟩ (.string ⟨#[]⟩)).setCell ⟨w.heap.size,4,none⟩ (.slice none 0 0)).setCell ⟨w.heap.size,5,none⟩ (.slice (some ⟨w8.heap.size,0,none⟩) 2 2)));have hz0:W0.heap.size=w8.heap.size:=by rw[hW0];simp
    have xb0:=jD (v0:=.int .i64 0) (v1:=.int .i64 0) (v2:=.int .i64 0) (v3:=.string ⟨#[]⟩) (v4:=.slice none 0 0) (v5:=.slice (some ⟨w8.heap.size,0,none⟩) 2 2) XB;rw[←hW0]at xb0;have hR0:kK W0 R A l.length c q.at_ d q.err:=by rw[hW0,HQ1,HQ2];exact(jH (by omega)).trans dQ
    have hO0:Only (fun q=>q=R) w W0:=by rw[hW0];exact o9 HO (lr _)
    have hk0:aR (fun q=>w.heap.size<q) w8 W0:=by rw[hW0];exact mO Kr (by omega)
    rw[←hW0];clear hW0;refine bR (Ki (aK xb0)) rfl ?_;rw[pR];have hnew:=eu W0 (.cells (x.cells++y.cells).toArray 67);rw[hz0]at hnew;refine aaU (x:=x) (y:=y) (op:=0) (by omega) hnew (fun q' m h=>?_) (hR0.below ((Br _ _).alloc (lr _) _) hR0.lt) (mP hO0 _);obtain⟨g,j,hr2,rfl⟩:=HQ3 q' m h;exact⟨f1,g,rfl,HXF.keep (hk0.alloc _) (fun _ _ h=>Nat.le_of_lt h),(Ko g j hr2).keep (hk0.alloc _) (fun _ _ h=>Nat.le_of_lt h)⟩
   ·have hw:jw=(j1,16):=by rw[VY];unfold jQ;rw[iN (by simp),iN h2]
    have pR:Hid (F=xY R A c d l (.bad j1 16) w):=by show _=_;rw[dJ,iN h2]
    subst hw;simp only at dQ;clear h2;obtain⟨v0,v1,v2,v3,v4,v5,bW⟩:=q6 XB;obtain⟨-,-,-,e3,-⟩:=q4 dQ;have hvl:=lH XB;have hrl2:=dQ.lt;go_wp2_with fail;clear v0 bW v1 v2 v3 v4 v5 e3;refine bR (Ki (jD XB)) rfl ?_;rw[pR];exact CJ (r:=.bad j1 16) (fun f j h=>nomatch h) hRl dQ HO _ _ _ _ _ _
  ·have hw:jw=(j1,y1):=by rw[VY];unfold jQ;rw[iP hy]
   have hrb:r1=.bad j1 y1:=by
    cases hr1:r1 with
    |bad a b=>
     have h1:j1=a:=by have h:=HJ1.out;rw[hr1]at h;exact h
     have h2:y1=b:=by have h:=HY1.out;rw[hr1]at h;exact h
     rw[h1,h2]
    |ok f j=>have h2:=HY1.out;rw[hr1]at h2;exact absurd h2 hy
   have dJ:Hid (F=xY R A c d l (.bad j1 y1) w):=by show _=_;rw[bE,←dx,hrb];rfl
   subst hw;simp only at dQ;have hyb:(y1 != 0)=true:=by simpa using hy
   clear hy hrb;obtain⟨v0,v1,v2,v3,v4,v5,bW⟩:=q6 XB;obtain⟨-,-,-,e3,-⟩:=q4 dQ;have hvl:=lH XB;have hrl2:=dQ.lt;go_wp2_with fail;clear v0 bW v1 v2 v3 v4 v5 e3;refine bR (Ki (jD XB)) rfl ?_;rw[dJ];exact CJ (r:=.bad j1 y1) (fun f j h=>nomatch h) hRl dQ HO _ _ _ _ _ _
 ·have hw:jw=(i,16):=by rw[VY];unfold jQ;rw[iN (by simp),iN h1]
  have bE:Hid (F=xY R A c d l (.bad i 16) w):=by show _=_;rw[HF];unfold AY;rw[iN h1]
  subst hw;simp only at dQ;clear h1;obtain⟨v0,v1,v2,v3,v4,v5,bW⟩:=q6 XB;obtain⟨-,-,-,e3,-⟩:=q4 dQ;have hvl:=lH XB;have hrl2:=dQ.lt;go_wp2_with fail;clear v0 bW v1 v2 v3 v4 v5 e3;refine bR (Ki (jD XB)) rfl ?_;rw[bE];exact CJ (r:=.bad i 16) (fun f j h=>nomatch h) hRl dQ HO _ _ _ _ _ _
end Go.Proofs.YtkhoeoilamddaaaGreatDoor
