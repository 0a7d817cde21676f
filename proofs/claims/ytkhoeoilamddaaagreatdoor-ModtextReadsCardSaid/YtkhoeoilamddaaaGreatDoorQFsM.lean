/- Walks and plain words: FsM FsA FsB FsC. -/
import Derived.Test.YtkhoeoilamddaaaGreatDoorQPrsT
namespace Go.Proofs.YtkhoeoilamddaaaGreatDoor
open Go.RowKit
set_option linter.unusedVariables false
mutual
def yG(S:Nat→Prop)(w:World)(g o:Nat):Fm→Prop
 |.mk op e l=>w.cell? ⟨g,o,none⟩=some (.int .i64 op)∧uG S w g (o+1) e ∧
  ∃A c,w.cell? ⟨g,o+5,none⟩=some (.slice A l.length c)∧l.length≤c∧c≤maxLen∧(l=[]∨∃g' o',A=some ⟨g',o',none⟩∧S g'∧g'<w.heap.size∧lU S w g' o' l)
def lU(S:Nat→Prop)(w:World)(g o:Nat):List Fm→Prop
 |[]=>True
 |t::r=>yG S w g o t∧lU S w g (o+6) r
end
def ahJ(S:Nat→Prop)(w:World)(A:Option Addr)(l:List Fm):Prop:=l=[]∨∃g' o',A=some ⟨g',o',none⟩∧S g'∧g'<w.heap.size∧lU S w g' o' l
mutual
theorem yG.afX{S:Nat→Prop}{w:World}:∀{t:Fm}{g o:Nat},yG S w g o t→xS w g o t
 |.mk op e l,g,o,h=>by
  rw[yG]at h;rw[xS];obtain⟨h0,h1,A,c,h3,G,h5,D⟩:=h;refine⟨h0,h1.afX,A,c,h3,G,h5,?_⟩
  rcases D with D|⟨g',J,hA,_,I,D⟩
  ·exact .inl D
  ·exact .inr ⟨g',J,hA,I,lU.Mr D⟩
theorem lU.Mr{S:Nat→Prop}{w:World}:∀{l:List Fm}{g o:Nat},lU S w g o l→mZ w g o l
 |[],g,o,h=>by rw[mZ];trivial
 |t::r,g,o,h=>by
  rw[lU]at h;rw[mZ];exact⟨yG.afX h.1,lU.Mr h.2⟩
end
mutual
theorem yG.keep{S S':Nat→Prop}{w w':World}(I:aR S w w')(hS:∀q,q<w.heap.size→S q→S' q):∀{t:Fm}{g o:Nat},S g→g<w.heap.size→yG S w g o t→yG S' w' g o t
 |.mk op e l,g,o,hg,hl,h=>by
  rw[yG]at h⊢;obtain⟨h0,h1,A,c,h3,J,h5,G⟩:=h;refine⟨by rw[I.cell hg hl];exact h0,uG.keep I hS hg hl h1,A,c,by rw[I.cell hg hl];exact h3,J,h5,?_⟩
  rcases G with G|⟨g',O,hA,hn,D,G⟩
  ·exact .inl G
  ·exact .inr ⟨g',O,hA,hS g' D hn,lL D I.size,lU.keep I hS hn D G⟩
theorem lU.keep{S S':Nat→Prop}{w w':World}(D:aR S w w')(hS:∀q,q<w.heap.size→S q→S' q):∀{l:List Fm}{g o:Nat},S g→g<w.heap.size→lU S w g o l→lU S' w' g o l
 |[],g,o,_,_,h=>by rw[lU];trivial
 |t::r,g,o,hg,hl,h=>by
  rw[lU]at h⊢;exact⟨yG.keep D hS hg hl h.1,lU.keep D hS hg hl h.2⟩
end
structure XK(S:Nat→Prop)(w:World)(Ae:Option Addr)(ce:Nat)(A:Option Addr)(c:Nat)(t:Fm):Prop where
 tm:aD S w Ae ce t.tm
 cap:t.kids.length≤c
 bU:c≤maxLen
 kids:ahJ S w A t.kids
theorem XK.toV{S:Nat→Prop}{w:World}{Ae A:Option Addr}{ce c:Nat}{t:Fm}(h:XK S w Ae ce A c t):pO w Ae ce A c t:=⟨h.tm.toV,h.cap,h.bU,by
 rcases h.kids with h|⟨g',G,hA,_,D,h⟩
 ·exact .inl h
 ·exact .inr ⟨g',G,hA,D,lU.Mr h⟩⟩
theorem XK.keep{S S':Nat→Prop}{w w':World}{Ae A:Option Addr}{ce c:Nat}{t:Fm}(h:XK S w Ae ce A c t)(G:aR S w w')(hS:∀q,q<w.heap.size→S q→S' q):XK S' w' Ae ce A c t:=⟨h.tm.keep G hS,h.cap,h.bU,by
 rcases h.kids with h|⟨g',I,hA,hs,D,h⟩
 ·exact .inl h
 ·exact .inr ⟨g',I,hA,hS g' D hs,lL D G.size,lU.keep G hS hs D h⟩⟩
theorem yG.mk'{S:Nat→Prop}{w:World}{g o:Nat}{t:Fm}{Ae A:Option Addr}{ce c:Nat}(h0:w.cell? ⟨g,o,none⟩=some (.int .i64 t.op))(h1:w.cell? ⟨g,o+1,none⟩=some (.int .i64 t.tm.op))(h2:w.cell? ⟨g,o+2,none⟩=some (.int .i64 t.tm.num))(h3:w.cell? ⟨g,o+3,none⟩=some (.string t.tm.name))
 (h4:w.cell? ⟨g,o+4,none⟩=some (.slice Ae t.tm.kids.length ce)) (h5:w.cell? ⟨g,o+5,none⟩=some (.slice A t.kids.length c)) (h:XK S w Ae ce A c t):yG S w g o t:=by
 cases t with
 |mk op e l=>
  rw[yG];exact⟨h0,uG.mk h1 h2 h3 h4 h.tm,A,c,h5,h.cap,h.bU,h.kids⟩
structure FV where
 o:Int
 tn:Int
 tm:Int
 s:ByteArray
 Ae:Option Addr
 ne:Nat
 ce:Nat
 A:Option Addr
 n:Nat
 c:Nat
def FV.cells(x:FV):List Value:=[.int .i64 x.o,.int .i64 x.tn,.int .i64 x.tm,.string x.s,.slice x.Ae x.ne x.ce,.slice x.A x.n x.c]
def FV.val(x:FV):Value:=.agg #[.int .i64 x.o,.int .i64 x.tn,.int .i64 x.tm,.string x.s,.slice x.Ae x.ne x.ce,.slice x.A x.n x.c]
def FV.row(x:FV):Obj:=.cells #[.int .i64 x.o,.int .i64 x.tn,.int .i64 x.tm,.string x.s,.slice x.Ae x.ne x.ce,.slice x.A x.n x.c] 67
def FV.zero:FV:=⟨0,0,0,⟨#[]⟩,none,0,0,none,0,0⟩
structure FV.Is(S:Nat→Prop)(w:World)(x:FV)(f:Fm):Prop where
 o:x.o=f.op
 tn:x.tn=f.tm.op
 tm:x.tm=f.tm.num
 s:x.s=f.tm.name
 ne:x.ne=f.tm.kids.length
 n:x.n=f.kids.length
 v:XK S w x.Ae x.ce x.A x.c f
theorem FV.Is.keep{S S':Nat→Prop}{w w':World}{x:FV}{f:Fm}(h:x.Is S w f)(D:aR S w w')(hS:∀q,q<w.heap.size→S q→S' q):x.Is S' w' f:=⟨h.o,h.tn,h.tm,h.s,h.ne,h.n,h.v.keep D hS⟩
theorem FV.Is.val{S:Nat→Prop}{w:World}{x:FV}{f:Fm}(h:x.Is S w f):x.val=f.val x.Ae x.ce x.A x.c:=by
 unfold FV.val Fm.val;rw[h.o,h.tn,h.tm,h.s,h.ne,h.n]
theorem FV.G9{S:Nat→Prop}{w:World}:FV.zero.Is S w vg:=⟨rfl,rfl,rfl,rfl,rfl,rfl,aD.leaf (zl _),lr _,zl _,.inl rfl⟩
def FV.All(S:Nat→Prop)(w:World):List FV→List Fm→Prop
 |[],[]=>True
 |x::xs,f::fs=>x.Is S w f∧FV.All S w xs fs
 |_,_=>False
theorem yZ{S:Nat→Prop}{w:World}{g:Nat}:∀(xs:List FV)(fs:List Fm)(o:Nat),(∀j v,(xs.flatMap FV.cells)[j]?=some v→w.cell? ⟨g,o+j,none⟩=some v)→FV.All S w xs fs→lU S w g o fs
 |[],[],o,_,_=>by rw[lU];trivial
 |[],_::_,_,_,h=>h.elim
 |_::_,[],_,_,h=>h.elim
 |x::xs,f::fs,o,h,⟨hx,hr⟩=>by
  rw[lU];rw[List.flatMap_cons]at h;have hc:∀j,j<6→(x.cells++xs.flatMap FV.cells)[j]?=x.cells[j]?:=fun j D=>List.getElem?_append_left (by show j<6;exact D);have g0:=h 0 _ ((hc 0 (by omega)).trans rfl);have g1:=h 1 _ ((hc 1 (by omega)).trans rfl);have g2:=h 2 _ ((hc 2 (by omega)).trans rfl);have G:=h 3 _ ((hc 3 (by omega)).trans rfl);have I:=h 4 _ ((hc 4 (by omega)).trans rfl);have J:=h 5 _ ((hc 5 (by omega)).trans rfl);rw[hx.o]at g0;rw[hx.tn]at g1;rw[hx.tm]at g2;rw[hx.s]at G;rw[hx.ne]at I;rw[hx.n]at J;refine⟨yG.mk' g0 g1 g2 G I J hx.v,yZ xs fs (o+6) (fun j v D=>?_) hr⟩;have:=h (6+j) v (by rw[List.getElem?_append_right (by show 6≤6+j;omega)];show(xs.flatMap FV.cells)[6+j-6]?=some v;rw[Nat.add_sub_cancel_left];exact D);rw[show o+6+j=o+(6+j) by omega];exact this
theorem FV.FH{S:Nat→Prop}{w:World}{op:Int}{x y:FV}{f g:Fm}{b:Nat}(hx:x.Is S w f)(hy:y.Is S w g)(hS:S b)(hb:w.heap[b]?=some (.cells (x.cells++y.cells).toArray 67 (0,0))):(FV.mk op 0 0 ⟨#[]⟩ none 0 0 (some ⟨b,0,none⟩) 2 2).Is S w (fT op [f,g]):=by
 refine⟨rfl,rfl,rfl,rfl,rfl,rfl,aD.leaf (zl _),lr _,by unfold maxLen;show _≤_;simp,.inr ⟨b,0,rfl,hS,lH hb,?_⟩⟩;refine yZ [x,y] [f,g] 0 (fun j v D=>?_) ⟨hx,hy,trivial⟩;rw[Nat.zero_add,cR w b j _ _ (0,0) hb]
 simpa[FV.cells]using D
theorem FV.XL{S:Nat→Prop}{w:World}{op:Int}{x:FV}{f:Fm}{b:Nat}(hx:x.Is S w f)(hS:S b)(hb:w.heap[b]?=some (.cells x.cells.toArray 67 (0,0))):(FV.mk op 0 0 ⟨#[]⟩ none 0 0 (some ⟨b,0,none⟩) 1 1).Is S w (fT op [f]):=by
 refine⟨rfl,rfl,rfl,rfl,rfl,rfl,aD.leaf (zl _),lr _,by unfold maxLen;show _≤_;simp,.inr ⟨b,0,rfl,hS,lH hb,?_⟩⟩;refine yZ [x] [f] 0 (fun j v D=>?_) ⟨hx,trivial⟩;rw[Nat.zero_add,cR w b j _ _ (0,0) hb]
 simpa[FV.cells]using D
def Rs.at_{α:Type}:Rs α→Nat
 |.bad i _=>i
 |.ok _ i=>i
def Rs.err{α:Type}:Rs α→Int
 |.bad _ e=>e
 |.ok _ _=>0
def kK(w:World)(R:Nat)(A:Option Addr)(n c i d:Nat)(x:Int):Prop:=w.heap[R]?=some (.cells #[.slice A n c,.int .i64 (i:Nat),.int .i64 (d:Nat),.int .i64 x] 192 (0,0))
section
variable {w w':World} {R n c i d:Nat} {x:Int} {A:Option Addr}
theorem kK.lt(h:kK w R A n c i d x):R<w.heap.size:=lH h
theorem kK.below{B:Nat}(h:kK w R A n c i d x)(hb:Below B w w')(D:R<B):kK w' R A n c i d x:=(hb.block R D).trans h
theorem kK.at_(h:kK w R A n c i d x)(j:Nat):kK (w.setCell ⟨R,1,none⟩ (.int .i64 (j:Nat))) R A n c j d x:=by
 unfold kK at h⊢;simp[World.setCell,Array.getElem?_modify,h]
theorem kK.deep(h:kK w R A n c i d x)(e:Nat):kK (w.setCell ⟨R,2,none⟩ (.int .i64 (e:Nat))) R A n c i e x:=by
 unfold kK at h⊢;simp[World.setCell,Array.getElem?_modify,h]
theorem kK.wrong(h:kK w R A n c i d x)(y:Int):kK (w.setCell ⟨R,3,none⟩ (.int .i64 y)) R A n c i d y:=by
 unfold kK at h⊢;simp[World.setCell,Array.getElem?_modify,h]
theorem kK.drewN(h:kK w R A n c i d x)(m:Nat):kK (w.drewN m) R A n c i d x:=h
end
def xY(R:Nat)(A:Option Addr)(c d:Nat)(l:List Tok)(r:Rs Fm)(w:World)(e:Ending)(w':World):Prop:=∃x:FV,e=.returned x.val∧(∀f j,r=.ok f j→x.Is (fun q=>w.heap.size≤q) w' f)∧kK w' R A l.length c r.at_ d r.err∧Only (fun q=>q=R) w w'
def FnF(R:Nat)(A:Option Addr)(c d:Nat)(l:List Tok)(K:FuncId)(P:gK):Prop:=
 ∀(i:Nat)(w:World),i≤l.length→kK w R A l.length c i d 0→iI w R A c l→Calls Tryz.prog K #[.pointer (some ⟨R,0,none⟩)] w (xY R A c d l (P i) w)
theorem aj4{w:World}{b:Nat}{u0 u1 u2 u3 u4 u5:Value}{T:TypeId}(h:w.heap[b]?=some (.cells #[u0,u1,u2,u3,u4,u5] T (0,0))) :
 (w.cell? ⟨b,0,none⟩=some u0∧w.frozen? ⟨b,0,none⟩=false)∧(w.cell? ⟨b,1,none⟩=some u1∧w.frozen? ⟨b,1,none⟩=false)∧(w.cell? ⟨b,2,none⟩=some u2∧w.frozen? ⟨b,2,none⟩=false)∧(w.cell? ⟨b,3,none⟩=some u3∧w.frozen? ⟨b,3,none⟩=false)∧(w.cell? ⟨b,4,none⟩=some u4∧w.frozen? ⟨b,4,none⟩=false)∧w.cell? ⟨b,5,none⟩=some u5∧w.frozen? ⟨b,5,none⟩=false:=
 ⟨⟨by rw[cR w b 0 _ _ (0,0) h];rfl,by simp[World.frozen?,h]⟩,⟨by rw[cR w b 1 _ _ (0,0) h];rfl,by simp[World.frozen?,h]⟩,⟨by rw[cR w b 2 _ _ (0,0) h];rfl,by simp[World.frozen?,h]⟩,⟨by rw[cR w b 3 _ _ (0,0) h];rfl,by simp[World.frozen?,h]⟩,⟨by rw[cR w b 4 _ _ (0,0) h];rfl,by simp[World.frozen?,h]⟩,by rw[cR w b 5 _ _ (0,0) h];rfl,by simp[World.frozen?,h]⟩
section
variable {W w:World} {b q:Nat} {u0 u1 u2 u3 u4 u5 v0 v1 v2 v3 v4 v5:Value} {T:TypeId}
theorem jD(h:W.heap[b]?=some (.cells #[u0,u1,u2,u3,u4,u5] T (0,0))) :
 ((((((W.setCell ⟨b,0,none⟩ v0).setCell ⟨b,1,none⟩ v1).setCell ⟨b,2,none⟩ v2).setCell ⟨b,3,none⟩ v3).setCell ⟨b,4,none⟩ v4).setCell ⟨b,5,none⟩ v5).heap[b]?=some (.cells #[v0,v1,v2,v3,v4,v5] T (0,0)):=by
 simp[World.setCell,Array.getElem?_modify,h]
theorem jH(h:q≠b):((((((W.setCell ⟨b,0,none⟩ v0).setCell ⟨b,1,none⟩ v1).setCell ⟨b,2,none⟩ v2).setCell ⟨b,3,none⟩ v3).setCell ⟨b,4,none⟩ v4).setCell ⟨b,5,none⟩ v5).heap[q]?=W.heap[q]?:=by
 rw[iw _ ⟨b,5,none⟩ q _ h,iw _ ⟨b,4,none⟩ q _ h,iw _ ⟨b,3,none⟩ q _ h,iw _ ⟨b,2,none⟩ q _ h,iw _ ⟨b,1,none⟩ q _ h,iw _ ⟨b,0,none⟩ q _ h]
theorem mO{S:Nat→Prop}(h:aR S w W)(hb:¬S b):aR S w ((((((W.setCell ⟨b,0,none⟩ v0).setCell ⟨b,1,none⟩ v1).setCell ⟨b,2,none⟩ v2).setCell ⟨b,3,none⟩ v3).setCell ⟨b,4,none⟩ v4).setCell ⟨b,5,none⟩ v5):=(((((h.set hb _).set hb _).set hb _).set hb _).set hb _).set hb _
theorem dZ{F:Nat→Prop}{o:Nat}(h:Only F w W)(hb:w.heap.size≤b)(v:Value):Only F w (W.setCell ⟨b,o,none⟩ v):=
 ⟨h.os,h.tape,h.output,by simpa using h.size,fun k D hf=>(iw W ⟨b,o,none⟩ k v (by show k≠b;omega)).trans (h.block k D hf)⟩
theorem o9{F:Nat→Prop}(h:Only F w W)(hb:w.heap.size≤b):Only F w ((((((W.setCell ⟨b,0,none⟩ v0).setCell ⟨b,1,none⟩ v1).setCell ⟨b,2,none⟩ v2).setCell ⟨b,3,none⟩ v3).setCell ⟨b,4,none⟩ v4).setCell ⟨b,5,none⟩ v5):=dZ (dZ (dZ (dZ (dZ (dZ h hb _) hb _) hb _) hb _) hb _) hb _
end
theorem mP{F:Nat→Prop}{w W:World}(h:Only F w W)(o:Obj):Only F w (W.alloc o):=h.jV ((Br _ _).alloc (lr _) o) h.size
set_option maxRecDepth 100000
set_option maxHeartbeats 4000000
theorem wF.ES{w:World}{A:Option Addr}{l:List Tok}(h:wF w A l):wF w.drew A l:=h
theorem G_(A:Option Addr)(c i:Nat)(l:List Tok)(k:Int)(s:ByteArray)(w:World)(O:wF w A l)(hlen:l.length≤100000)(Y:l.length≤c)(aQ:c≤maxLen)(hi:i≤1000000) :
 Calls Tryz.prog 179 #[.agg #[.slice A l.length c],.int .i64 (i:Nat),.int .i64 k,.string s] w fun e w'=>e=.returned (.bool (ah l i k (bs s)))∧Below w.heap.size w w':=by
 obtain⟨n,HN⟩:=ak l.length;unfold maxLen at aQ;rw[←HN]at hlen Y⊢;obtain⟨r,hr⟩:=aj (ah l i k (bs s));rw[←hr];unfold ah at hr;have kH:Hid (∀o,Below w.heap.size w (w.alloc o)):=fun o=>(Br _ _).alloc (lr _) _;have HR:=Hd hr;have HT:=Hd O;clear hr O
 by_cases G:i<n
 ·obtain⟨t,ht⟩:∃t,l[i]?=some t:=⟨_,gG (by have:=HN.out;omega)⟩
  rcases HT.out with h0|⟨b,off,rfl,hb,hc⟩
  ·rw[h0]at ht;simp at ht
  have x0:=hc i t ht 0 (by omega);have x2:=hc i t ht 2 (by omega);simp only[fZ,Nat.add_zero]at x0 x2;have J:Hid (r=(decide (t.kind=k)&&decide (t.text=bs s))):=by show _=_;rw[HR,ht]
  have af:(0:Int)≤(i:Int):=by omega
  have aa:(i:Int)<(n:Int):=by omega
  clear ht hc G
  by_cases I:t.kind=k
  ·have ab:(t.kind==k)=true:=by simpa using I
   have D:Hid (r=decide (t.text=bs s)):=by show _=_;rw[J,decide_eq_true I];rfl
   have hs:((⟨t.text.toArray⟩:ByteArray).toList==s.toList)=decide (t.text=bs s):=by rw[vY];rfl
   obtain⟨T,O⟩:∃T:ByteArray,T=⟨t.text.toArray⟩:=⟨_,rfl⟩;rw[←O]at x2 hs;rw[←D]at hs;clear I O;cases r
   all_goals
    go_in;go_wp2_with fail;go_ret;exact⟨rfl,kH _⟩
  ·have ab:(t.kind==k)=false:=by simpa using I
   have D:Hid (r=false):=by show _=_;rw[J,dF I];rfl
   clear I;go_in;go_wp2_with fail;go_ret;rw[D];exact⟨rfl,kH _⟩
 ·have D:Hid (r=false):=by show _=_;rw[HR,List.getElem?_eq_none (by have:=HN.out;omega)]
  have aa:¬(i:Int)<(n:Int):=by omega
  have hd:decide ((i:Int)<(n:Int))=false:=dF aa;have ae:decide (i<n)=false:=dF G;clear G;go_in;go_wp2_with fail;go_ret;rw[D];exact⟨rfl,kH _⟩
theorem wB(A:Option Addr)(c i:Nat)(l:List Tok)(s:ByteArray)(w:World)(O:wF w A l)(hlen:l.length≤100000)(D:l.length≤c)(J:c≤maxLen)(hi:i≤1000000) :
 Calls Tryz.prog 151 #[.agg #[.slice A l.length c],.int .i64 (i:Nat),.string s] w fun e w'=>e=.returned (.bool (ah l i 4 (bs s)))∧Below w.heap.size w w':=by
 obtain⟨n,hn⟩:=aj l.length;obtain⟨w1,G⟩:=ak (w.alloc (.cells #[.slice A n c] 190));have hb1:=dz G;have hI:=G_ A c i l 4 s w1 (O.Aq hb1 rfl) hlen D J hi;rw[←hn]at hI⊢;have HI:=Hd hI;have I:=Hd hb1;clear hn hb1 O hI hlen D J;go_in;go_wp2_with fail;rw[←G];refine HI.mono ?_;rintro e w' ⟨rfl,hb⟩;have Y:=kB I hb;clear hb;go_wp2_with fail;go_ret;exact⟨rfl,Y⟩
theorem DX(R:Nat)(A:Option Addr)(n c i d:Nat)(x:Int)(w:World)(hR:kK w R A n c i d 0) :
 Calls Tryz.prog 180 #[.pointer (some ⟨R,0,none⟩),.int .i64 x] w fun e w'=>e=.returned FV.zero.val∧kK w' R A n c i d x∧Only (fun q=>q=R) w w':=by
 obtain⟨F,hF⟩:∃F:Ending→World→Prop,F=fun e w'=>e=.returned FV.zero.val∧kK w' R A n c i d x∧Only (fun q=>q=R) w w':=⟨_,rfl⟩;rw[←hF];obtain⟨w2,D⟩:=aj ((w.setCell ⟨R,3,none⟩ (.int .i64 x)).alloc FV.zero.row);have G:Below w.heap.size (w.setCell ⟨R,3,none⟩ (.int .i64 x)) w2:=by rw[D];exact(Br _ _).alloc (by simp) _
 have I:kK w2 R A n c i d x:=(hR.wrong x).below G hR.lt
 have x2:w2.heap[w.heap.size]?=some FV.zero.row:=by
  have h:=eu (w.setCell ⟨R,3,none⟩ (.int .i64 x)) FV.zero.row;rw[D]
  simpa using h
 have J:Only (fun q=>q=R) w w2:=((Only.refl (F:=fun q=>q=R)).bq rfl _).jV G (lr _);obtain⟨-,-,-,e3,fq⟩:=q4 hR;have aa:=hR.lt;unfold FV.row FV.zero at D x2;have HF:=Hd hF;have Y:=Hd D;have O:=Hd I;have Ah:=Hd J;have X2:=Hd x2;clear hF D I J x2 hR G;go_in;go_wp2_with fail;rw[←Y];refine bR (results_cell_row (t:=67) (fr:=(0,0)) rfl _ _ w.heap.size _ _ rfl X2 Tryz.underlying67 rfl (by kernel_rfl)) rfl ?_;rw[HF];exact⟨rfl,O,Ah⟩
theorem abR(R:Nat)(A:Option Addr)(n c i d:Nat)(x k:Int)(s:ByteArray)(w:World)(hR:kK w R A n c i d x)(hx:x≠0) :
 Calls Tryz.prog 196 #[.pointer (some ⟨R,0,none⟩),.int .i64 k,.string s] w fun e w'=>e=.returned (.tuple #[])∧w'=w:=by
 obtain⟨-,-,-,e3,-⟩:=q4 hR;have D:(x != 0)=true:=by simpa using hx
 clear hR hx;go_in;go_wp2_with fail;refine bR (v:=.tuple #[]) (results_none rfl _ _ _) rfl ?_;exact⟨rfl,rfl⟩
theorem abS(R:Nat)(A:Option Addr)(c i d:Nat)(l:List Tok)(k:Int)(s:ByteArray)(w:World)(hR:kK w R A l.length c i d 0)(hP:iI w R A c l)(hi:i≤1000000) :
 Calls Tryz.prog 196 #[.pointer (some ⟨R,0,none⟩),.int .i64 k,.string s] w fun e w'=>e=.returned (.tuple #[])∧kK w' R A l.length c (if ah l i k (bs s)=true then i+1 else i) d (if ah l i k (bs s)=true then 0 else 16)∧Only (fun q=>q=R) w w':=by
 obtain⟨n,hn⟩:=aj l.length;obtain⟨r,hr⟩:=aj (ah l i k (bs s));have hI:=G_ A c i l k s w.drew (wF.ES hP.toks) hP.len hP.cap hP.bU hi;rw[←hn]at hI hR⊢;rw[←hr]at hI⊢;have hl:=hP.len;rw[←hn]at hl;obtain⟨c0,c1,-,c3,-⟩:=q4 hR;have J:=hR.lt;have Y:=Hd hI;have HR:=Hd hR;clear hn hr hI hR hP;cases r
 ·go_in;go_wp2_with fail
  go_region_held3 (fun w'=>w'.cell? ⟨R,0,none⟩=some (.slice A n c)∧w'.cell? ⟨R,1,none⟩=some (.int .i64 (i:Nat)))
   (first
     |(go_keep;done)
     |(go_split_ands
       refine⟨?_,?_⟩
       ·(rw[D.cell (p:=⟨R,_,none⟩) (by simp;omega)];simpa using c0)
       ·(rw[D.cell (p:=⟨R,_,none⟩) (by simp;omega)];simpa using c1))
     |fail)
   ((go_at_call 179;refine Y.mono ?_;rintro e w5 ⟨rfl,D⟩))
  have G:Below w.heap.size w w5:=((Br _ _).drew).trans D;have bZ:=Hd G;have ae:=Hd (DX R A n c i d 16 w5 (HR.below G J));clear D G c0 c1 c3 Y;go_wp2_with fail;refine ae.mono ?_;rintro e w7 ⟨rfl,I,O⟩;have ab:=Hd I;have aa:=Hd ((Ob bZ).trans O);clear I O;go_wp2_with fail;refine bR (v:=.tuple #[]) (results_none rfl _ _ _) rfl ?_;exact⟨rfl,ab,aa⟩
 ·go_in;go_wp2_with fail
  go_region_held3 (fun w'=>w'.cell? ⟨R,0,none⟩=some (.slice A n c)∧w'.cell? ⟨R,1,none⟩=some (.int .i64 (i:Nat)))
   (first
     |(go_keep;done)
     |(go_split_ands
       refine⟨?_,?_⟩
       ·(rw[D.cell (p:=⟨R,_,none⟩) (by simp;omega)];simpa using c0)
       ·(rw[D.cell (p:=⟨R,_,none⟩) (by simp;omega)];simpa using c1))
     |fail)
   ((go_at_call 179;refine Y.mono ?_;rintro e w5 ⟨rfl,D⟩))
  have G:Below w.heap.size w w5:=((Br _ _).drew).trans D;have bZ:=Hd G;have OL:=Hd (HR.below G J);clear D G c0 c1 c3 Y;obtain⟨-,c1,-,-,fq⟩:=q4 OL;have af:=OL.lt;go_wp2_with fail;refine bodyPost_end (v:=.tuple #[]) (results_none rfl _ _ _) rfl ?_;have h:=OL.at_ (i+1);rw[show((i+1:Nat):Int)=(i:Int)+1 from by omega]at h;exact⟨rfl,h,(Ob (F:=fun q=>q=R) bZ).bq (show R=R from rfl) _⟩
set_option maxHeartbeats 8000000
theorem ou{R:Nat}{A:Option Addr}{c d:Nat}{l:List Tok}{r:Rs Fm}{w w1 w2:World}{x:FV}{v0 v1 v2 v3 v4 v5:Value}(hx:∀f j,r=.ok f j→x.Is (fun q=>w1.heap.size≤q) w2 f)(h1:w.heap.size<w1.heap.size)(G:R<w.heap.size)(hR:kK w2 R A l.length c r.at_ d r.err)(D:Only (fun q=>q=R) w w2) :
 xY R A c d l r w (.returned x.val) ((((((w2.setCell ⟨w.heap.size,0,none⟩ (v0)).setCell ⟨w.heap.size,1,none⟩ (v1)).setCell ⟨w.heap.size,2,none⟩ (v2)).setCell ⟨w.heap.size,3,none⟩ (v3)).setCell ⟨w.heap.size,4,none⟩ (v4)).setCell ⟨w.heap.size,5,none⟩ (v5)):=
 ⟨x,rfl,fun f j h=>(hx f j h).keep (mO Kr (by omega)) (fun q _ h=>by omega),(jH (by omega)).trans hR,o9 D (lr _)⟩
theorem abT{R:Nat}{A:Option Addr}{c d:Nat}{l:List Tok}{r:Rs Fm}{w W:World}{e:Ending}(h:xY R A c d l r w e W)(o:Obj):xY R A c d l r w e (W.alloc o):=by
 obtain⟨x,he,hx,hR,D⟩:=h;exact⟨x,he,fun f j h=>(hx f j h).keep (aR.refl.alloc o) (fun _ _ h=>h),hR.below ((Br _ _).alloc (lr _) o) hR.lt,mP D o⟩
theorem uK(R:Nat)(A:Option Addr)(c d:Nat)(l:List Tok)(K:FuncId)(P:gK)(i:Nat)(w:World)(az:∀args W,(callFunc K args).run Tryz.prog W=.ok (.enter K args) W)(hF:d<256→FnF R A c (d+1) l K P)(hd:d≤256)(hi:i<l.length)
 (hR:kK w R A l.length c i d 0) (hP:iI w R A c l):Calls Tryz.prog 152 #[.pointer (some ⟨R,0,none⟩),.func (.func K) #[.pointer (some ⟨R,0,none⟩)] #[]] w (xY R A c d l (if d=256 then .bad i 17 else P (i+1)) w):=by
 obtain⟨w1,hw1⟩:=aj (w.alloc (.cells #[.int .i64 0,.int .i64 0,.int .i64 0,.string ⟨#[]⟩,.slice none 0 0,.slice none 0 0] 67));have hb1:=dz hw1;have aP:w1.heap.size=w.heap.size+1:=by rw[hw1];simp
 have x1:w1.heap[w.heap.size]?=some (.cells #[.int .i64 0,.int .i64 0,.int .i64 0,.string ⟨#[]⟩,.slice none 0 0,.slice none 0 0] 67 (0,0)):=by rw[hw1];exact eu w _
 have sQ:=hR.below hb1 hR.lt;have J:=hR.lt;have hlen:=hP.len;obtain⟨F,HF⟩:=ak (xY R A c d l (if d=256 then .bad i 17 else P (i+1)) w);rw[←HF];obtain⟨c0,c1,c2,c3,fq⟩:=q4 hR;have ao:=Hd hw1;have ae:=Hd hb1;have af:=Hd sQ;have HR:=Hd hR;have Am:=Hd hF;have HP:=Hd hP;have X1:=Hd x1;clear hw1 hb1 hR sQ hF hP x1
 by_cases gq:d=256
 ·have bE:Hid (F=xY R A c d l (.bad i 17) w):=by show _=_;rw[HF,iP gq]
  have ax:((d:Int)==256)=true:=by simp;omega
  have ai:=Hd (DX R A l.length c i d 17 w1 af);clear gq HF;go_in;go_wp2_with fail;rw[←ao];(try go_wp2_with fail);refine ai.mono ?_;rintro e w2 ⟨rfl,aa,O⟩;unfold FV.val FV.zero;simp only;have X2:=Hd ((O.block w.heap.size (by omega) (by omega)).trans X1);have ag:=Hd aa;have Ah:=Hd ((Ob ae).trans O);have aF:w.heap.size<w2.heap.size:=lH X2;clear aa O c0 c1 fq c2 c3;obtain⟨v0,v1,v2,v3,v4,v5,bW⟩:=q6 X2;go_wp2_with fail;clear v0 bW v1 v2 v3 v4 v5;refine bR (Ki (jD X2)) rfl ?_;rw[bE];exact ou (x:=FV.zero) (r:=.bad i 17) (w1:=w1) (fun f j h=>nomatch h) (by omega) J ag Ah
 ·have bE:Hid (F=xY R A c d l (P (i+1)) w):=by show _=_;rw[HF,iN gq]
  have ax:((d:Int)==256)=false:=by simp;omega
  have aw:d<256:=by omega
  obtain⟨w3,G⟩:=aj (((w.setCell ⟨R,1,none⟩ (.int .i64 ((i:Int)+1))).setCell ⟨R,2,none⟩ (.int .i64 ((d:Int)+1))).alloc (.cells #[.int .i64 0,.int .i64 0,.int .i64 0,.string ⟨#[]⟩,.slice none 0 0,.slice none 0 0] 67));have Y:Only (fun q=>q=R) w w3:=by rw[G];exact mP (((Only.refl (F:=fun q=>q=R)).bq (show R=R from rfl) _).bq (show R=R from rfl) _) _
  have VU:kK w3 R A l.length c (i+1) (d+1) 0:=by
   have h:=((HR.at_ (i+1)).deep (d+1)).below (B:=w.heap.size) ((Br _ _).alloc (by simp) (.cells #[.int .i64 0,.int .i64 0,.int .i64 0,.string ⟨#[]⟩,.slice none 0 0,.slice none 0 0] 67)) J;rw[show((i+1:Nat):Int)=(i:Int)+1 from by omega,show((d+1:Nat):Int)=(d:Int)+1 from by omega]at h;rw[G];exact h
  have x3:w3.heap[w.heap.size]?=some (.cells #[.int .i64 0,.int .i64 0,.int .i64 0,.string ⟨#[]⟩,.slice none 0 0,.slice none 0 0] 67 (0,0)):=by
   have h:=eu ((w.setCell ⟨R,1,none⟩ (.int .i64 ((i:Int)+1))).setCell ⟨R,2,none⟩ (.int .i64 ((d:Int)+1))) (.cells #[.int .i64 0,.int .i64 0,.int .i64 0,.string ⟨#[]⟩,.slice none 0 0,.slice none 0 0] 67);rw[G]
   simpa using h
  have D:=Am aw (i+1) w3 (by omega) VU (HP.only Y);obtain⟨r,hr⟩:=aj (P (i+1));rw[←hr]at D bE;have HC:=Hd D;have Ai:=Hd Y;have X3:=Hd x3;have ar:=Hd G;clear D hr Y VU x3 G gq HF;go_in;go_wp2_with fail;rw[←ar];refine HC.mono ?_;rintro e w4 ⟨x,rfl,hx,vD,iC⟩;unfold FV.val;obtain⟨j,hj⟩:=aj r.at_;obtain⟨y,hy⟩:=aj r.err;rw[←hj,←hy]at vD;have ab:w.heap.size<w3.heap.size:=lH X3;have HX:=Hd hx;have I:=Hd vD;have uX:=Hd (Ai.trans iC);have X4:=Hd ((iC.block w.heap.size ab (by omega)).trans X3);have HJ:=Hd hj;have HY:=Hd hy;have aQ:=iC.size;clear hx vD iC hj hy c0 c1 fq c2 c3;obtain⟨-,-,c2,-,fq⟩:=q4 I;have aE:=I.lt;have aJ:w.heap.size<w4.heap.size:=by omega
  obtain⟨v0,v1,v2,v3,v4,v5,bW⟩:=q6 X4;go_wp2_with fail;clear c2 fq v0 bW v1 v2 v3 v4 v5;obtain⟨w5,gH⟩:=aj (w4.setCell ⟨R,2,none⟩ (.int .i64 (d:Nat)));have av:kK w5 R A l.length c j d y:=by rw[gH];exact I.deep d
  have Ug:Only (fun q=>q=R) w w5:=by rw[gH];exact uX.bq (show R=R from rfl) _
  have x5:w5.heap[w.heap.size]?=some (.cells #[.int .i64 0,.int .i64 0,.int .i64 0,.string ⟨#[]⟩,.slice none 0 0,.slice none 0 0] 67 (0,0)):=by rw[gH];exact(iw w4 ⟨R,2,none⟩ w.heap.size _ (by show w.heap.size≠R;omega)).trans X4
  have ay:aR (fun q=>w3.heap.size≤q) w4 w5:=by rw[gH];exact aR.refl.set (by omega) _
  rw[←gH];clear gH;obtain⟨WW,nT⟩:=aj (((((((w5.setCell ⟨w.heap.size,0,none⟩ (.int .i64 x.o)).setCell ⟨w.heap.size,1,none⟩ (.int .i64 x.tn)).setCell ⟨w.heap.size,2,none⟩ (.int .i64 x.tm)).setCell ⟨w.heap.size,3,none⟩ (.string x.s)).setCell ⟨w.heap.size,4,none⟩ (.slice x.Ae x.ne x.ce)).setCell ⟨w.heap.size,5,none⟩ (.slice x.A x.n x.c)));have xW:WW.heap[w.heap.size]?=some (.cells #[.int .i64 x.o,.int .i64 x.tn,.int .i64 x.tm,.string x.s,.slice x.Ae x.ne x.ce,.slice x.A x.n x.c] 67 (0,0)):=by rw[nT];exact jD x5
  have hQ:xY R A c d l r w (.returned x.val) WW:=by
   rw[nT];exact ou (w1:=w3) (fun f k h=>(HX f k h).keep ay (fun _ _ h=>h)) ab J (by rw[←HJ,←HY];exact av) Ug
  rw[←nT];refine bR (Ki (aK xW)) rfl ?_;rw[bE];exact abT hQ _
def jQ(l:List Tok)(j:Nat)(y k:Int)(s:Bs):Nat×Int:=if y≠0 then(j,y)else if ah l j k s=true then(j+1,0)else(j,16)
theorem zV(R:Nat)(A:Option Addr)(c i d:Nat)(l:List Tok)(y k:Int)(s:ByteArray)(w:World)(hR:kK w R A l.length c i d y)(hP:iI w R A c l)(hi:y=0→i≤1000000) :
 Calls Tryz.prog 196 #[.pointer (some ⟨R,0,none⟩),.int .i64 k,.string s] w fun e w'=>e=.returned (.tuple #[])∧kK w' R A l.length c (jQ l i y k (bs s)).1 d (jQ l i y k (bs s)).2∧Only (fun q=>q=R) w w':=by
 by_cases hy:y=0
 ·subst hy;refine(abS R A c i d l k s w hR hP (hi rfl)).mono ?_;rintro e w' ⟨rfl,h1,h2⟩;refine⟨rfl,?_,h2⟩;unfold jQ;rw[iN (by simp)]
  split at h1<;>rename_i hc<;>simp only[hc]at h1⊢
  ·exact h1
  ·simpa[hc]using h1
 ·refine(abR R A l.length c i d y k s w hR hy).mono ?_;rintro e w' ⟨rfl,rfl⟩;unfold jQ;rw[iP hy];exact⟨rfl,hR,Only.refl⟩
def thenTk(l:List Tok)(r:Rs Fm)(k:Int)(s:Bs)(F:Fm→Fm):Rs Fm:=r.then fun g j=>if ah l j k s=true then .ok (F g) (j+1)else .bad j 16
theorem Pz{l:List Tok}{r:Rs Fm}{k:Int}{s:Bs}{F:Fm→Fm}(D:∀j e,r=.bad j e→e≠0) :
 (thenTk l r k s F).at_=(jQ l r.at_ r.err k s).1∧(thenTk l r k s F).err=(jQ l r.at_ r.err k s).2∧∀f m,thenTk l r k s F=.ok f m→∃g j,r=.ok g j∧f=F g:=by
 unfold thenTk jQ
 cases r with
 |bad j e=>
  have:=D j e rfl;simp[Rs.at_,Rs.err,this]
 |ok g j=>
  by_cases hc:ah l j k s=true
  ·simp only[Rs.then_ok,Rs.err,Rs.at_,hc,if_true];exact⟨by simp,by simp,fun f m h=>⟨g,j,rfl,(bH h).1.symm⟩⟩
  ·simp only[Rs.then_ok,Rs.err,Rs.at_,iN hc];exact⟨by simp[hc],by simp[hc],fun f m h=>nomatch h⟩
theorem aaU{R:Nat}{A:Option Addr}{c d:Nat}{l:List Tok}{r:Rs Fm}{w W:World}{op:Int}{x y:FV}{g:Nat}(D:w.heap.size≤g)(hrow:W.heap[g]?=some (.cells (x.cells++y.cells).toArray 67 (0,0)))
 (hok:∀q m,r=.ok q m→∃f h,q=fT op [f,h]∧x.Is (fun q=>w.heap.size≤q) W f∧y.Is (fun q=>w.heap.size≤q) W h) (hR:kK W R A l.length c r.at_ d r.err) (hO:Only (fun q=>q=R) w W) :
 xY R A c d l r w (.returned (.agg #[.int .i64 op,.int .i64 0,.int .i64 0,.string ⟨#[]⟩,.slice none 0 0,.slice (some ⟨g,0,none⟩) 2 2])) W:=
 ⟨⟨op,0,0,⟨#[]⟩,none,0,0,some ⟨g,0,none⟩,2,2⟩,rfl,fun q m h=>by
   obtain⟨f,k,rfl,h1,h2⟩:=hok q m h
   exact FV.FH h1 h2 D hrow,hR,hO⟩
theorem aga{R:Nat}{A:Option Addr}{c d:Nat}{l:List Tok}{r:Rs Fm}{w W:World}{op:Int}{x:FV}{g:Nat}(D:w.heap.size≤g)(hrow:W.heap[g]?=some (.cells x.cells.toArray 67 (0,0)))
 (hok:∀q m,r=.ok q m→∃f,q=fT op [f]∧x.Is (fun q=>w.heap.size≤q) W f) (hR:kK W R A l.length c r.at_ d r.err) (hO:Only (fun q=>q=R) w W) :
 xY R A c d l r w (.returned (.agg #[.int .i64 op,.int .i64 0,.int .i64 0,.string ⟨#[]⟩,.slice none 0 0,.slice (some ⟨g,0,none⟩) 1 1])) W:=
 ⟨⟨op,0,0,⟨#[]⟩,none,0,0,some ⟨g,0,none⟩,1,1⟩,rfl,fun q m h=>by
   obtain⟨f,rfl,h1⟩:=hok q m h
   exact FV.XL h1 D hrow,hR,hO⟩
theorem CJ{R:Nat}{A:Option Addr}{c d:Nat}{l:List Tok}{w w2:World}{r:Rs Fm}(hr:∀f j,r≠.ok f j)(G:R<w.heap.size)(hR:kK w2 R A l.length c r.at_ d r.err)(D:Only (fun q=>q=R) w w2)(v0 v1 v2 v3 v4 v5:Value) :
 xY R A c d l r w (.returned (.agg #[.int .i64 0,.int .i64 0,.int .i64 0,.string ⟨#[]⟩,.slice none 0 0,.slice none 0 0])) ((((((w2.setCell ⟨w.heap.size,0,none⟩ (v0)).setCell ⟨w.heap.size,1,none⟩ (v1)).setCell ⟨w.heap.size,2,none⟩ (v2)).setCell ⟨w.heap.size,3,none⟩ (v3)).setCell ⟨w.heap.size,4,none⟩ (v4)).setCell ⟨w.heap.size,5,none⟩ (v5)):=
 ⟨FV.zero,rfl,fun f j h=>absurd h (hr f j),(jH (by omega)).trans hR,o9 D (lr _)⟩
def FnO(R:Nat)(A:Option Addr)(c d:Nat)(l:List Tok)(op:Int)(P:gK):Prop:=
 ∀(i:Nat)(w:World),i≤l.length→kK w R A l.length c i d 0→iI w R A c l→Calls Tryz.prog 150 #[.pointer (some ⟨R,0,none⟩),.int .i64 op] w (xY R A c d l (P i) w)
theorem abU(R:Nat)(A:Option Addr)(c d:Nat)(l:List Tok)(P:gK)(hF:FnO R A c d l 3 P):FnF R A c d l 178 P:=by
 intro i w hi hR hP;obtain⟨w1,hw1⟩:=aj (w.alloc (.cells #[.int .i64 0,.int .i64 0,.int .i64 0,.string ⟨#[]⟩,.slice none 0 0,.slice none 0 0] 67));have hb1:=dz hw1;have ae:w1.heap.size=w.heap.size+1:=by rw[hw1];simp
 have x1:w1.heap[w.heap.size]?=some (.cells #[.int .i64 0,.int .i64 0,.int .i64 0,.string ⟨#[]⟩,.slice none 0 0,.slice none 0 0] 67 (0,0)):=by rw[hw1];exact eu w _
 have sQ:=hR.below hb1 hR.lt;have aa:=hR.lt;have hlen:=hP.len;have D:=hF i w1 hi sQ (hP.only (Ob hb1));obtain⟨r,hr⟩:=aj (P i);rw[←hr]at D⊢;obtain⟨F,HF⟩:=ak (xY R A c d l r w);rw[←HF];have HC:=Hd D;have Y:=Hd hw1;have J:=Hd hb1;have X1:=Hd x1;clear hw1 hb1 hR sQ hF hP x1 D hr;go_in;go_wp2_with fail;rw[←Y];refine HC.mono ?_;rintro e w2 ⟨x,rfl,hx,I,G⟩;unfold FV.val;have HX:=Hd hx;have O:=Hd I;have Ah:=Hd ((Ob J).trans G);have X2:=Hd ((G.block w.heap.size (by omega) (by omega)).trans X1);have ab:w.heap.size<w2.heap.size:=lH X2;clear hx I G;obtain⟨v0,v1,v2,v3,v4,v5,bW⟩:=q6 X2;go_wp2_with fail;clear v0 bW v1 v2 v3 v4 v5;refine bR (Ki (jD X2)) rfl ?_;rw[HF];exact ou (w1:=w1) HX (by omega) aa O Ah
def AY(l:List Tok)(P:gK):gK:=fun i=>if ah l i 4 [91]=true then(P (i+1)).then fun f j=>if ah l j 3 [85]=true then thenTk l (P (j+1)) 4 [93] fun g=>fT 0 [f,g]else .bad j 16 else .bad i 16
theorem XM(R:Nat)(A:Option Addr)(c d:Nat)(l:List Tok)(P:gK)(hF:FnF R A c d l 124 P)(hG:xV l P)(hZ:vw P):FnF R A c d l 195 (AY l P):=by
 intro i w hi hR hP;obtain⟨w1,hw1⟩:=aj (w.alloc (.cells #[.int .i64 0,.int .i64 0,.int .i64 0,.string ⟨#[]⟩,.slice none 0 0,.slice none 0 0] 67));have hb1:=dz hw1;have bL:w1.heap.size=w.heap.size+1:=by rw[hw1];simp
 have x1:w1.heap[w.heap.size]?=some (.cells #[.int .i64 0,.int .i64 0,.int .i64 0,.string ⟨#[]⟩,.slice none 0 0,.slice none 0 0] 67 (0,0)):=by rw[hw1];exact eu w _
 have sQ:=hR.below hb1 hR.lt;have aQ:=hR.lt;have hlen:=hP.len;obtain⟨F,HF⟩:=ak (xY R A c d l (AY l P i) w);rw[←HF];have bp:=Hd hw1;have HO:Hid (Only (fun q=>q=R) w w1):=Ob hb1;have J:=Hd sQ;have Am:=Hd hF;have HP:=Hd hP;have G:=Hd x1;have HG:=Hd hG;have HZ:=Hd hZ;clear hw1 hb1 hR sQ hF hP x1 hG hZ bL;go_in;have hwn:=zV R A c i d l 0 4 ⟨#[91]⟩ w1 J (HP.only HO) (by first|(intro _;omega)|(intro h;have:=zD h;omega));obtain⟨jw,ag⟩:=aj (jQ l (i) (0) 4 [91]);rw[show jQ l (i) (0) 4 (bs ⟨#[91]⟩)=jw from ag.symm]at hwn;have HC:=Hd hwn;have VY:=Hd ag;clear hwn ag;go_wp2_with fail;rw[←bp];refine HC.mono ?_;rintro e w2 ⟨rfl,I,D⟩;replace G:=Hd ((D.block w.heap.size (lH G) (by omega)).trans G);replace HO:=Hd (HO.trans D);replace J:=Hd I;clear HC I D
 by_cases h1:ah l i 4 [91]=true
 ·have hw:jw=(i+1,0):=by rw[VY];unfold jQ;rw[iN (by simp),iP h1]
  have bE:Hid (F=xY R A c d l ((P (i+1)).then fun f j=>if ah l j 3 [85]=true then thenTk l (P (j+1)) 4 [93] fun g=>fT 0 [f,g]else .bad j 16) w):=by show _=_;rw[HF];unfold AY;rw[iP h1]
  have cb:=dL h1;subst hw;simp only at J;clear h1;obtain⟨-,-,-,e3,-⟩:=q4 J;have ai:=J.lt;have O:=Am (i+1) w2 (by omega) J (HP.only HO);obtain⟨r1,ab⟩:=aj (P (i+1));rw[←ab]at O;have HC:=Hd O;have dx:=Hd ab;clear O ab;go_wp2_with fail;clear e3;refine HC.mono ?_;rintro e w3 ⟨x,rfl,hx,I,D⟩;unfold FV.val;obtain⟨b3,a6⟩:=aj w3.heap.size;obtain⟨w4,aF⟩:=aj (w3.alloc (.cells #[.int .i64 x.o,.int .i64 x.tn,.int .i64 x.tm,.string x.s,.slice x.Ae x.ne x.ce,.slice x.A x.n x.c] 67));have Y:=dz aF;have aa:=jZ aF a6;have FI:Hid (∀f j,r1=.ok f j→x.Is (fun q=>w.heap.size<q) w4 f):=fun f j h=>(hx f j h).keep (Kb Y) (fun q _ h=>by have:=HO.size;have:=lH G;omega);have aw:=Ob (F:=fun q=>q=R) Y;have YB:=Hd ((Y.block w.heap.size (lL (lH G) D.size)).trans ((D.block w.heap.size (lH G) (by omega)).trans G));have YO:=Hd (HO.trans (D.trans aw));have BF:=Hd (I.below Y I.lt);have aP:b3≠R:=by have:=I.lt;omega
  have b7:w.heap.size<b3:=by have:=lL (lH G) D.size;omega
  have Uq:=Hd aF;have br:=Hd a6;clear HC hx I D Y aw a6 aF G HO J;have G:=YB;have HO:=YO;have J:=BF;clear YB YO BF;obtain⟨j1,av⟩:=aj r1.at_;obtain⟨y1,ay⟩:=aj r1.err;rw[←av,←ay]at J
  have zD:Hid (y1=0→j1≤l.length∧∃f,r1=.ok f j1):=by
   intro h
   cases ab:r1 with
   |bad a b=>
    rw[ab]at ay;exact absurd (show b=0 from ay.symm.trans h) (HZ (i+1) a b (by rw[←dx,ab]))
   |ok f j=>rw[ab]at av;have hg:=HG (i+1) f j (by rw[←dx,ab]);rw[show j1=j from av];exact⟨hg.jl,f,rfl⟩
  have bg:=Hd ay;have bn:=Hd av;clear av ay;have hwn:=zV R A c j1 d l y1 3 ⟨#[85]⟩ w4 J (HP.only HO) (by first|(intro _;omega)|(intro h;have:=(zD h).1;omega));obtain⟨jw,ag⟩:=aj (jQ l (j1) (y1) 3 [85]);rw[show jQ l (j1) (y1) 3 (bs ⟨#[85]⟩)=jw from ag.symm]at hwn;have HC:=Hd hwn;have VY:=Hd ag;clear hwn ag;go_wp2_with fail;rw[←Uq,←br];refine HC.mono ?_;rintro e w5 ⟨rfl,I,D⟩;have YB:=Hd ((D.block w.heap.size (lH G) (by omega)).trans G);have YO:=Hd (HO.trans D);have BF:=Hd I;replace aa:=Hd ((D.block b3 (lH aa) aP).trans aa);replace FI:Hid (∀f j,r1=.ok f j→x.Is (fun q=>w.heap.size<q) w5 f):=fun f j h=>(FI f j h).keep (aR.cO D (by omega)) (fun _ _ h=>h);clear HC I D G HO J;have G:=YB;have HO:=YO;have J:=BF;clear YB YO BF
  by_cases hy:y1=0
  ·obtain⟨cc,f1,a8⟩:=zD hy;have dJ:Hid (F=xY R A c d l (if ah l j1 3 [85]=true then thenTk l (P (j1+1)) 4 [93] fun g=>fT 0 [f1,g]else .bad j1 16) w):=by show _=_;rw[bE,←dx,a8];rfl
   have ao:Hid (x.Is (fun q=>w.heap.size<q) w5 f1):=FI f1 j1 a8;subst hy;clear a8 FI zD
   by_cases h2:ah l j1 3 [85]=true
   ·have hw:jw=(j1+1,0):=by rw[VY];unfold jQ;rw[iN (by simp),iP h2]
    have pR:Hid (F=xY R A c d l (thenTk l (P (j1+1)) 4 [93] fun g=>fT 0 [f1,g]) w):=by show _=_;rw[dJ,iP h2]
    have vE:=dL h2;clear VY;subst hw;simp only at J;clear h2;obtain⟨-,-,-,e3,-⟩:=q4 J;have bZ:=J.lt;have O:=Am (j1+1) w5 (by omega) J (HP.only HO);obtain⟨r2,ae⟩:=aj (P (j1+1));rw[←ae]at O;have HC:=Hd O;have jR:=Hd ae;clear O ae;go_wp2_with fail;clear e3;refine HC.mono ?_;rintro e w6 ⟨y,rfl,hx,I,D⟩;unfold FV.val;obtain⟨b4,a7⟩:=aj w6.heap.size;obtain⟨w7,aJ⟩:=aj (w6.alloc (.cells #[.int .i64 y.o,.int .i64 y.tn,.int .i64 y.tm,.string y.s,.slice y.Ae y.ne y.ce,.slice y.A y.n y.c] 67));have Y:=dz aJ;have ar:=jZ aJ a7;have Ko:Hid (∀f j,r2=.ok f j→y.Is (fun q=>w.heap.size<q) w7 f):=fun f j h=>(hx f j h).keep (Kb Y) (fun q _ h=>by have:=HO.size;have:=lH G;omega);have aw:=Ob (F:=fun q=>q=R) Y;have YB:=Hd ((Y.block w.heap.size (lL (lH G) D.size)).trans ((D.block w.heap.size (lH G) (by omega)).trans G));have YO:=Hd (HO.trans (D.trans aw));have BF:=Hd (I.below Y I.lt);have bw:b4≠R:=by have:=I.lt;omega
    have b8:w.heap.size<b4:=by have:=lL (lH G) D.size;omega
    replace aa:=Hd ((Y.block b3 (lL (lH aa) D.size)).trans ((D.block b3 (lH aa) aP).trans aa));replace ao:Hid (x.Is (fun q=>w.heap.size<q) w7 f1):=(ao.keep (aR.cO D (by omega)) (fun _ _ h=>h)).keep (Kb Y) (fun _ _ h=>h);have bv:=Hd aJ;have bu:=Hd a7;clear HC hx I D Y aw a7 aJ G HO J;have G:=YB;have HO:=YO;have J:=BF;clear YB YO BF;have aS:∀j e,r2=.bad j e→e≠0:=fun j e h=>HZ _ _ _ (by rw[←jR,h]);obtain⟨az,aE,ba⟩:=Pz (l:=l) (k:=4) (s:=[93]) (F:=fun g=>fT 0 [f1,g]) aS;rw[←jR]at pR;obtain⟨q,hq⟩:=aj (thenTk l r2 4 [93] fun g=>fT 0 [f1,g]);rw[←hq]at az aE ba pR
    have zD:Hid (r2.err=0→r2.at_≤l.length):=by
     intro h
     cases ae:r2 with
     |bad a b=>rw[ae]at h;exact absurd h (aS a b ae)
     |ok f j=>have hg:=HG (j1+1) f j (by rw[←jR,ae]);exact hg.jl
    obtain⟨j2,bi⟩:=aj r2.at_;obtain⟨y2,bl⟩:=aj r2.err;rw[←bi,←bl]at J zD az aE;have bd:=Hd az;have bf:=Hd aE;have bo:=Hd ba;clear bi bl aS hq az aE ba;have hwn:=zV R A c j2 d l y2 4 ⟨#[93]⟩ w7 J (HP.only HO) (by first|(intro _;omega)|(intro h;have:=zD h;omega));obtain⟨jw,VY⟩:=ak (jQ l (j2) (y2) 4 [93]);rw[show jQ l (j2) (y2) 4 (bs ⟨#[93]⟩)=jw from VY.symm]at hwn;have HC:=Hd hwn;clear hwn;go_wp2_with fail;rw[←bv,←bu];refine HC.mono ?_;rintro e w8 ⟨rfl,I,D⟩;have YB:=Hd ((D.block w.heap.size (lH G) (by omega)).trans G);have YO:=Hd (HO.trans D);have BF:=Hd I;replace aa:=Hd ((D.block b3 (lH aa) aP).trans aa);replace ar:=Hd ((D.block b4 (lH ar) bw).trans ar);replace ao:Hid (x.Is (fun q=>w.heap.size<q) w8 f1):=ao.keep (aR.cO D (by omega)) (fun _ _ h=>h);replace Ko:Hid (∀f j,r2=.ok f j→y.Is (fun q=>w.heap.size<q) w8 f):=fun f j h=>(Ko f j h).keep (aR.cO D (by omega)) (fun _ _ h=>h);clear HC I D G HO J;have G:=YB;have HO:=YO;have J:=BF;clear YB YO BF;rw[←VY]at bd bf;obtain⟨v0,v1,v2,v3,v4,v5,bW⟩:=q6 G;obtain⟨a0,a1,a2,a3,a4,a5,bz⟩:=q6 aa;obtain⟨b0,b1,b2,b3,b4,b5,bC⟩:=q6 ar;have bb:=lH G;have b6:=lH aa
    have b9:=lH ar;go_wp2_with fail;clear v0 bW v1 v2 v3 v4 v5 a0 bz a1 a2 a3 a4 a5;clear b0 bC b1 b2 b3 b4 b5;obtain⟨W0,af⟩:=aj (((((((w8.setCell ⟨w.heap.size,0,none⟩ (.int .i64 0)).setCell ⟨w.heap.size,1,none⟩ (.int .i64 0)).setCell ⟨w.heap.size,2,none⟩ (.int .i64 0)).setCell ⟨w.heap.size,3,none⟩ (.string ⟨#[]⟩)).setCell ⟨w.heap.size,4,none⟩ (.slice none 0 0)).setCell ⟨w.heap.size,5,none⟩ (.slice (some ⟨w8.heap.size,0,none⟩) 2 2)));have bP:W0.heap.size=w8.heap.size:=by rw[af];simp
    have bm:=jD (v0:=.int .i64 0) (v1:=.int .i64 0) (v2:=.int .i64 0) (v3:=.string ⟨#[]⟩) (v4:=.slice none 0 0) (v5:=.slice (some ⟨w8.heap.size,0,none⟩) 2 2) G;rw[←af]at bm;have bh:kK W0 R A l.length c q.at_ d q.err:=by rw[af,bd,bf];exact(jH (by omega)).trans J
    have bJ:Only (fun q=>q=R) w W0:=by rw[af];exact o9 HO (lr _)
    have bj:aR (fun q=>w.heap.size<q) w8 W0:=by rw[af];exact mO Kr (by omega)
    rw[←af];clear af;refine bR (Ki (aK bm)) rfl ?_;rw[pR];have ax:=eu W0 (.cells (x.cells++y.cells).toArray 67);rw[bP]at ax;refine aaU (x:=x) (y:=y) (op:=0) (by omega) ax (fun q' m h=>?_) (bh.below ((Br _ _).alloc (lr _) _) bh.lt) (mP bJ _);obtain⟨g,j,ae,rfl⟩:=bo q' m h;exact⟨f1,g,rfl,ao.keep (bj.alloc _) (fun _ _ h=>Nat.le_of_lt h),(Ko g j ae).keep (bj.alloc _) (fun _ _ h=>Nat.le_of_lt h)⟩
   ·have hw:jw=(j1,16):=by rw[VY];unfold jQ;rw[iN (by simp),iN h2]
    have pR:Hid (F=xY R A c d l (.bad j1 16) w):=by show _=_;rw[dJ,iN h2]
    subst hw;simp only at J;clear h2;obtain⟨v0,v1,v2,v3,v4,v5,bW⟩:=q6 G;obtain⟨-,-,-,e3,-⟩:=q4 J;have bb:=lH G;have ai:=J.lt;go_wp2_with fail;clear v0 bW v1 v2 v3 v4 v5 e3;refine bR (Ki (jD G)) rfl ?_;rw[pR];exact CJ (r:=.bad j1 16) (fun f j h=>nomatch h) aQ J HO _ _ _ _ _ _
  ·have hw:jw=(j1,y1):=by rw[VY];unfold jQ;rw[iP hy]
   have bk:r1=.bad j1 y1:=by
    cases ab:r1 with
    |bad a b=>
     have h1:j1=a:=by have h:=bn.out;rw[ab]at h;exact h
     have h2:y1=b:=by have h:=bg.out;rw[ab]at h;exact h
     rw[h1,h2]
    |ok f j=>have h2:=bg.out;rw[ab]at h2;exact absurd h2 hy
   have dJ:Hid (F=xY R A c d l (.bad j1 y1) w):=by show _=_;rw[bE,←dx,bk];rfl
   subst hw;simp only at J;have cd:(y1 != 0)=true:=by simpa using hy
   clear hy bk;obtain⟨v0,v1,v2,v3,v4,v5,bW⟩:=q6 G;obtain⟨-,-,-,e3,-⟩:=q4 J;have bb:=lH G;have ai:=J.lt;go_wp2_with fail;clear v0 bW v1 v2 v3 v4 v5 e3;refine bR (Ki (jD G)) rfl ?_;rw[dJ];exact CJ (r:=.bad j1 y1) (fun f j h=>nomatch h) aQ J HO _ _ _ _ _ _
 ·have hw:jw=(i,16):=by rw[VY];unfold jQ;rw[iN (by simp),iN h1]
  have bE:Hid (F=xY R A c d l (.bad i 16) w):=by show _=_;rw[HF];unfold AY;rw[iN h1]
  subst hw;simp only at J;clear h1;obtain⟨v0,v1,v2,v3,v4,v5,bW⟩:=q6 G;obtain⟨-,-,-,e3,-⟩:=q4 J;have bb:=lH G;have ai:=J.lt;go_wp2_with fail;clear v0 bW v1 v2 v3 v4 v5 e3;refine bR (Ki (jD G)) rfl ?_;rw[bE];exact CJ (r:=.bad i 16) (fun f j h=>nomatch h) aQ J HO _ _ _ _ _ _
end Go.Proofs.YtkhoeoilamddaaaGreatDoor
