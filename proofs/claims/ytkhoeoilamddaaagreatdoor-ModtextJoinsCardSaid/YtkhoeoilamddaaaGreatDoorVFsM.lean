/- Walks and plain words: FsM FsA FsB FsC. -/
import Derived.Test.YtkhoeoilamddaaaGreatDoorVPrsO
namespace Go.Proofs.YtkhoeoilamddaaaGreatDoor
open Go.RowKit
set_option linter.unusedVariables false
mutual
def FmAtS (S:Nat→Prop) (w:World) (g o:Nat):Fm→Prop
 | .mk op e l=>w.cell? ⟨g,o,none⟩=some (.int .i64 op)∧TmAtS S w g (o+1) e ∧
  ∃ A c,w.cell? ⟨g,o+5,none⟩=some (.slice A l.length c)∧l.length≤c∧c≤maxLen∧(l=[]∨∃ g' o',A=some ⟨g',o',none⟩∧S g'∧g'<w.heap.size∧FmRowS S w g' o' l)
def FmRowS (S:Nat→Prop) (w:World) (g o:Nat):List Fm→Prop
 | []=>True
 | t :: r=>FmAtS S w g o t∧FmRowS S w g (o+6) r
end
def FKidsS (S:Nat→Prop) (w:World) (A:Option Addr) (l:List Fm):Prop:=l=[]∨∃ g' o',A=some ⟨g',o',none⟩∧S g'∧g'<w.heap.size∧FmRowS S w g' o' l
mutual
theorem FmAtS.toAt {S:Nat→Prop} {w:World}:∀ {t:Fm} {g o:Nat},FmAtS S w g o t→FmAt w g o t
 | .mk op e l,g,o,h=>by
  rw [FmAtS] at h;rw [FmAt];obtain ⟨h0,h1,A,c,h3,h4,h5,h6⟩:=h;refine ⟨h0,h1.toAt,A,c,h3,h4,h5,?_⟩
  rcases h6 with h6 | ⟨g',o',hA,_,hg,h6⟩
  · exact .inl h6
  · exact .inr ⟨g',o',hA,hg,FmRowS.toRow h6⟩
theorem FmRowS.toRow {S:Nat→Prop} {w:World}:∀ {l:List Fm} {g o:Nat},FmRowS S w g o l→FmRow w g o l
 | [],g,o,h=>by rw [FmRow];trivial
 | t :: r,g,o,h=>by
  rw [FmRowS] at h;rw [FmRow];exact ⟨FmAtS.toAt h.1,FmRowS.toRow h.2⟩
end
mutual
theorem FmAtS.keep {S S':Nat→Prop} {w w':World} (ho:KeepS S w w') (hS:∀ q,q<w.heap.size→S q→S' q):∀ {t:Fm} {g o:Nat},S g→g<w.heap.size→FmAtS S w g o t→FmAtS S' w' g o t
 | .mk op e l,g,o,hg,hl,h=>by
  rw [FmAtS] at h ⊢;obtain ⟨h0,h1,A,c,h3,h4,h5,h6⟩:=h;refine ⟨by rw [ho.cell hg hl];exact h0,TmAtS.keep ho hS hg hl h1,A,c,by rw [ho.cell hg hl];exact h3,h4,h5,?_⟩
  rcases h6 with h6 | ⟨g',o',hA,hn,hg',h6⟩
  · exact .inl h6
  · exact .inr ⟨g',o',hA,hS g' hg' hn,lL hg' ho.size,FmRowS.keep ho hS hn hg' h6⟩
theorem FmRowS.keep {S S':Nat→Prop} {w w':World} (ho:KeepS S w w') (hS:∀ q,q<w.heap.size→S q→S' q):∀ {l:List Fm} {g o:Nat},S g→g<w.heap.size→FmRowS S w g o l→FmRowS S' w' g o l
 | [],g,o,_,_,h=>by rw [FmRowS];trivial
 | t :: r,g,o,hg,hl,h=>by
  rw [FmRowS] at h ⊢;exact ⟨FmAtS.keep ho hS hg hl h.1,FmRowS.keep ho hS hg hl h.2⟩
end
structure FmVS (S:Nat→Prop) (w:World) (Ae:Option Addr) (ce:Nat) (A:Option Addr) (c:Nat) (t:Fm):Prop where
 tm:TmVS S w Ae ce t.tm
 cap:t.kids.length≤c
 capm:c≤maxLen
 kids:FKidsS S w A t.kids
theorem FmVS.toV {S:Nat→Prop} {w:World} {Ae A:Option Addr} {ce c:Nat} {t:Fm} (h:FmVS S w Ae ce A c t):FmV w Ae ce A c t:=⟨h.tm.toV,h.cap,h.capm,by
 rcases h.kids with h | ⟨g',o',hA,_,hg,h⟩
 · exact .inl h
 · exact .inr ⟨g',o',hA,hg,FmRowS.toRow h⟩⟩
theorem FmVS.keep {S S':Nat→Prop} {w w':World} {Ae A:Option Addr} {ce c:Nat} {t:Fm} (h:FmVS S w Ae ce A c t) (ho:KeepS S w w') (hS:∀ q,q<w.heap.size→S q→S' q):FmVS S' w' Ae ce A c t:=⟨h.tm.keep ho hS,h.cap,h.capm,by
 rcases h.kids with h | ⟨g',o',hA,hs,hg,h⟩
 · exact .inl h
 · exact .inr ⟨g',o',hA,hS g' hg hs,lL hg ho.size,FmRowS.keep ho hS hs hg h⟩⟩
theorem FmAtS.mk' {S:Nat→Prop} {w:World} {g o:Nat} {t:Fm} {Ae A:Option Addr} {ce c:Nat} (h0:w.cell? ⟨g,o,none⟩=some (.int .i64 t.op)) (h1:w.cell? ⟨g,o+1,none⟩=some (.int .i64 t.tm.op)) (h2:w.cell? ⟨g,o+2,none⟩=some (.int .i64 t.tm.num)) (h3:w.cell? ⟨g,o+3,none⟩=some (.string t.tm.name))
 (h4:w.cell? ⟨g,o+4,none⟩=some (.slice Ae t.tm.kids.length ce)) (h5:w.cell? ⟨g,o+5,none⟩=some (.slice A t.kids.length c)) (h:FmVS S w Ae ce A c t):FmAtS S w g o t:=by
 cases t with
 | mk op e l=>
  rw [FmAtS];exact ⟨h0,TmAtS.mk h1 h2 h3 h4 h.tm,A,c,h5,h.cap,h.capm,h.kids⟩
structure FV where
 o:Int
 tn:Int
 tm:Int
 s:ByteArray
 Ae:Option Addr
 ne:Nat
 ce:Nat
 A:Option Addr
 n:Nat
 c:Nat
def FV.cells (x:FV):List Value:=[.int .i64 x.o,.int .i64 x.tn,.int .i64 x.tm,.string x.s,.slice x.Ae x.ne x.ce,.slice x.A x.n x.c]
def FV.val (x:FV):Value:=.agg #[.int .i64 x.o,.int .i64 x.tn,.int .i64 x.tm,.string x.s,.slice x.Ae x.ne x.ce,.slice x.A x.n x.c]
def FV.row (x:FV):Obj:=.cells #[.int .i64 x.o,.int .i64 x.tn,.int .i64 x.tm,.string x.s,.slice x.Ae x.ne x.ce,.slice x.A x.n x.c] 67
def FV.zero:FV:=⟨0,0,0,⟨#[]⟩,none,0,0,none,0,0⟩
structure FV.Is (S:Nat→Prop) (w:World) (x:FV) (f:Fm):Prop where
 o:x.o=f.op
 tn:x.tn=f.tm.op
 tm:x.tm=f.tm.num
 s:x.s=f.tm.name
 ne:x.ne=f.tm.kids.length
 n:x.n=f.kids.length
 v:FmVS S w x.Ae x.ce x.A x.c f
theorem FV.Is.keep {S S':Nat→Prop} {w w':World} {x:FV} {f:Fm} (h:x.Is S w f) (ho:KeepS S w w') (hS:∀ q,q<w.heap.size→S q→S' q):x.Is S' w' f:=⟨h.o,h.tn,h.tm,h.s,h.ne,h.n,h.v.keep ho hS⟩
theorem FV.Is.val {S:Nat→Prop} {w:World} {x:FV} {f:Fm} (h:x.Is S w f):x.val=f.val x.Ae x.ce x.A x.c:=by
 unfold FV.val Fm.val;rw [h.o,h.tn,h.tm,h.s,h.ne,h.n]
theorem FV.zero_is {S:Nat→Prop} {w:World}:FV.zero.Is S w zeroFm:=⟨rfl,rfl,rfl,rfl,rfl,rfl,TmVS.leaf (zl _),lr _,zl _,.inl rfl⟩
def FV.All (S:Nat→Prop) (w:World):List FV→List Fm→Prop
 | [],[]=>True
 | x :: xs,f :: fs=>x.Is S w f∧FV.All S w xs fs
 | _,_=>False
theorem frow_of_cells {S:Nat→Prop} {w:World} {g:Nat}:∀ (xs:List FV) (fs:List Fm) (o:Nat),(∀ j v,(xs.flatMap FV.cells)[j]?=some v→w.cell? ⟨g,o+j,none⟩=some v)→FV.All S w xs fs→FmRowS S w g o fs
 | [],[],o,_,_=>by rw [FmRowS];trivial
 | [],_ :: _,_,_,h=>h.elim
 | _ :: _,[],_,_,h=>h.elim
 | x :: xs,f :: fs,o,h,⟨hx,hr⟩=>by
  rw [FmRowS];rw [List.flatMap_cons] at h;have hc:∀ j,j<6→(x.cells++xs.flatMap FV.cells)[j]?=x.cells[j]?:=fun j hj=>List.getElem?_append_left (by show j<6;exact hj);have g0:=h 0 _ ((hc 0 (by omega)).trans rfl);have g1:=h 1 _ ((hc 1 (by omega)).trans rfl);have g2:=h 2 _ ((hc 2 (by omega)).trans rfl);have g3:=h 3 _ ((hc 3 (by omega)).trans rfl);have g4:=h 4 _ ((hc 4 (by omega)).trans rfl);have g5:=h 5 _ ((hc 5 (by omega)).trans rfl);rw [hx.o] at g0;rw [hx.tn] at g1;rw [hx.tm] at g2;rw [hx.s] at g3;rw [hx.ne] at g4;rw [hx.n] at g5;refine ⟨FmAtS.mk' g0 g1 g2 g3 g4 g5 hx.v,frow_of_cells xs fs (o+6) (fun j v hj=>?_) hr⟩;have:=h (6+j) v (by rw [List.getElem?_append_right (by show 6≤6+j;omega)];show (xs.flatMap FV.cells)[6+j - 6]?=some v;rw [Nat.add_sub_cancel_left];exact hj);rw [show o+6+j=o+(6+j) by omega];exact this
theorem FV.two_is {S:Nat→Prop} {w:World} {op:Int} {x y:FV} {f g:Fm} {b:Nat} (hx:x.Is S w f) (hy:y.Is S w g) (hS:S b) (hb:w.heap[b]?=some (.cells (x.cells++y.cells).toArray 67 (0,0))):(FV.mk op 0 0 ⟨#[]⟩ none 0 0 (some ⟨b,0,none⟩) 2 2).Is S w (fmOf op [f,g]):=by
 refine ⟨rfl,rfl,rfl,rfl,rfl,rfl,TmVS.leaf (zl _),lr _,by unfold maxLen;show _≤_;simp,.inr ⟨b,0,rfl,hS,lH hb,?_⟩⟩;refine frow_of_cells [x,y] [f,g] 0 (fun j v hj=>?_) ⟨hx,hy,trivial⟩;rw [Nat.zero_add,cR w b j _ _ (0,0) hb]
 simpa [FV.cells] using hj
theorem FV.one_is {S:Nat→Prop} {w:World} {op:Int} {x:FV} {f:Fm} {b:Nat} (hx:x.Is S w f) (hS:S b) (hb:w.heap[b]?=some (.cells x.cells.toArray 67 (0,0))):(FV.mk op 0 0 ⟨#[]⟩ none 0 0 (some ⟨b,0,none⟩) 1 1).Is S w (fmOf op [f]):=by
 refine ⟨rfl,rfl,rfl,rfl,rfl,rfl,TmVS.leaf (zl _),lr _,by unfold maxLen;show _≤_;simp,.inr ⟨b,0,rfl,hS,lH hb,?_⟩⟩;refine frow_of_cells [x] [f] 0 (fun j v hj=>?_) ⟨hx,trivial⟩;rw [Nat.zero_add,cR w b j _ _ (0,0) hb]
 simpa [FV.cells] using hj
def Rs.at_ {α:Type}:Rs α→Nat
 | .bad i _=>i
 | .ok _ i=>i
def Rs.err {α:Type}:Rs α→Int
 | .bad _ e=>e
 | .ok _ _=>0
def FRd (w:World) (R:Nat) (A:Option Addr) (n c i d:Nat) (x:Int):Prop:=w.heap[R]?=some (.cells #[.slice A n c,.int .i64 (i:Nat),.int .i64 (d:Nat),.int .i64 x] 192 (0,0))
section
variable {w w':World} {R n c i d:Nat} {x:Int} {A:Option Addr}
theorem FRd.lt (h:FRd w R A n c i d x):R<w.heap.size:=lH h
theorem FRd.below {B:Nat} (h:FRd w R A n c i d x) (hb:Below B w w') (hB:R<B):FRd w' R A n c i d x:=(hb.block R hB).trans h
theorem FRd.at_ (h:FRd w R A n c i d x) (j:Nat):FRd (w.setCell ⟨R,1,none⟩ (.int .i64 (j:Nat))) R A n c j d x:=by
 unfold FRd at h ⊢;simp [World.setCell,Array.getElem?_modify,h]
theorem FRd.deep (h:FRd w R A n c i d x) (e:Nat):FRd (w.setCell ⟨R,2,none⟩ (.int .i64 (e:Nat))) R A n c i e x:=by
 unfold FRd at h ⊢;simp [World.setCell,Array.getElem?_modify,h]
theorem FRd.wrong (h:FRd w R A n c i d x) (y:Int):FRd (w.setCell ⟨R,3,none⟩ (.int .i64 y)) R A n c i d y:=by
 unfold FRd at h ⊢;simp [World.setCell,Array.getElem?_modify,h]
theorem FRd.drewN (h:FRd w R A n c i d x) (m:Nat):FRd (w.drewN m) R A n c i d x:=h
end
def FPQ (R:Nat) (A:Option Addr) (c d:Nat) (l:List Tok) (r:Rs Fm) (w:World) (e:Ending) (w':World):Prop:=∃ x:FV,e=.returned x.val∧(∀ f j,r=.ok f j→x.Is (fun q=>w.heap.size≤q) w' f)∧FRd w' R A l.length c r.at_ d r.err∧Only (fun q=>q=R) w w'
def FnF (R:Nat) (A:Option Addr) (c d:Nat) (l:List Tok) (K:FuncId) (P:FPar):Prop:=
 ∀ (i:Nat) (w:World),i≤l.length→FRd w R A l.length c i d 0→PTok w R A c l→Calls Tryz.prog K #[.pointer (some ⟨R,0,none⟩)] w (FPQ R A c d l (P i) w)
theorem cells6f {w:World} {b:Nat} {u0 u1 u2 u3 u4 u5:Value} {T:TypeId} (h:w.heap[b]?=some (.cells #[u0,u1,u2,u3,u4,u5] T (0,0))) :
 (w.cell? ⟨b,0,none⟩=some u0∧w.frozen? ⟨b,0,none⟩=false)∧(w.cell? ⟨b,1,none⟩=some u1∧w.frozen? ⟨b,1,none⟩=false)∧(w.cell? ⟨b,2,none⟩=some u2∧w.frozen? ⟨b,2,none⟩=false)∧(w.cell? ⟨b,3,none⟩=some u3∧w.frozen? ⟨b,3,none⟩=false)∧(w.cell? ⟨b,4,none⟩=some u4∧w.frozen? ⟨b,4,none⟩=false)∧w.cell? ⟨b,5,none⟩=some u5∧w.frozen? ⟨b,5,none⟩=false:=
 ⟨⟨by rw [cR w b 0 _ _ (0,0) h];rfl,by simp [World.frozen?,h]⟩,⟨by rw [cR w b 1 _ _ (0,0) h];rfl,by simp [World.frozen?,h]⟩,⟨by rw [cR w b 2 _ _ (0,0) h];rfl,by simp [World.frozen?,h]⟩,⟨by rw [cR w b 3 _ _ (0,0) h];rfl,by simp [World.frozen?,h]⟩,⟨by rw [cR w b 4 _ _ (0,0) h];rfl,by simp [World.frozen?,h]⟩,by rw [cR w b 5 _ _ (0,0) h];rfl,by simp [World.frozen?,h]⟩
section
variable {W w:World} {b q:Nat} {u0 u1 u2 u3 u4 u5 v0 v1 v2 v3 v4 v5:Value} {T:TypeId}
theorem s6_at (h:W.heap[b]?=some (.cells #[u0,u1,u2,u3,u4,u5] T (0,0))) :
 ((((((W.setCell ⟨b,0,none⟩ v0).setCell ⟨b,1,none⟩ v1).setCell ⟨b,2,none⟩ v2).setCell ⟨b,3,none⟩ v3).setCell ⟨b,4,none⟩ v4).setCell ⟨b,5,none⟩ v5).heap[b]?=some (.cells #[v0,v1,v2,v3,v4,v5] T (0,0)):=by
 simp [World.setCell,Array.getElem?_modify,h]
theorem s6_far (h:q≠b):((((((W.setCell ⟨b,0,none⟩ v0).setCell ⟨b,1,none⟩ v1).setCell ⟨b,2,none⟩ v2).setCell ⟨b,3,none⟩ v3).setCell ⟨b,4,none⟩ v4).setCell ⟨b,5,none⟩ v5).heap[q]?=W.heap[q]?:=by
 rw [hO_ _ ⟨b,5,none⟩ q _ h,hO_ _ ⟨b,4,none⟩ q _ h,hO_ _ ⟨b,3,none⟩ q _ h,hO_ _ ⟨b,2,none⟩ q _ h,hO_ _ ⟨b,1,none⟩ q _ h,hO_ _ ⟨b,0,none⟩ q _ h]
theorem s6_keep {S:Nat→Prop} (h:KeepS S w W) (hb:¬S b):KeepS S w ((((((W.setCell ⟨b,0,none⟩ v0).setCell ⟨b,1,none⟩ v1).setCell ⟨b,2,none⟩ v2).setCell ⟨b,3,none⟩ v3).setCell ⟨b,4,none⟩ v4).setCell ⟨b,5,none⟩ v5):=(((((h.set hb _).set hb _).set hb _).set hb _).set hb _).set hb _
theorem only_setNew {F:Nat→Prop} {o:Nat} (h:Only F w W) (hb:w.heap.size≤b) (v:Value):Only F w (W.setCell ⟨b,o,none⟩ v):=
 ⟨h.os,h.tape,h.output,by simpa using h.size,fun k hk hf=>(hO_ W ⟨b,o,none⟩ k v (by show k≠b;omega)).trans (h.block k hk hf)⟩
theorem s6_only {F:Nat→Prop} (h:Only F w W) (hb:w.heap.size≤b):Only F w ((((((W.setCell ⟨b,0,none⟩ v0).setCell ⟨b,1,none⟩ v1).setCell ⟨b,2,none⟩ v2).setCell ⟨b,3,none⟩ v3).setCell ⟨b,4,none⟩ v4).setCell ⟨b,5,none⟩ v5):=only_setNew (only_setNew (only_setNew (only_setNew (only_setNew (only_setNew h hb _) hb _) hb _) hb _) hb _) hb _
end
theorem only_alloc {F:Nat→Prop} {w W:World} (h:Only F w W) (o:Obj):Only F w (W.alloc o):=h.thenBelow ((Br _ _).alloc (lr _) o) h.size
set_option maxRecDepth 100000
set_option maxHeartbeats 4000000
theorem ToksAt.drew1 {w:World} {A:Option Addr} {l:List Tok} (h:ToksAt w A l):ToksAt w.drew A l:=h
theorem fis_any (A:Option Addr) (c i:Nat) (l:List Tok) (k:Int) (s:ByteArray) (w:World) (hT:ToksAt w A l) (hlen:l.length≤100000) (hcap:l.length≤c) (hcapm:c≤maxLen) (hi:i≤1000000) :
 Calls Tryz.prog 179 #[.agg #[.slice A l.length c],.int .i64 (i:Nat),.int .i64 k,.string s] w fun e w'=>e=.returned (.bool (isTk l i k (bs s)))∧Below w.heap.size w w':=by
 obtain ⟨n,HN⟩:=exh_ l.length;unfold maxLen at hcapm;rw [←HN.out] at hlen hcap ⊢;obtain ⟨r,hr⟩:=ex_ (isTk l i k (bs s));rw [←hr];unfold isTk at hr;have HBW:Hid (∀ o,Below w.heap.size w (w.alloc o)):=fun o=>(Br _ _).alloc (lr _) _;have HR:=Hd hr;have HT:=Hd hT;clear hr hT
 by_cases hlt:i<n
 · obtain ⟨t,ht⟩:∃ t,l[i]?=some t:=⟨_,gG (by have:=HN.out;omega)⟩
   rcases HT.out with h0 | ⟨b,off,rfl,hb,hc⟩
   · rw [h0] at ht;simp at ht
   have x0:=hc i t ht 0 (by omega);have x2:=hc i t ht 2 (by omega);simp only [tokV,Nat.add_zero] at x0 x2;have HR2:Hid (r=(decide (t.kind=k) && decide (t.text=bs s))):=by show _=_;rw [HR.out,ht]
   have hk0:(0:Int)≤(i:Int):=by omega
   have hk1:(i:Int)<(n:Int):=by omega
   clear ht hc hlt
   by_cases hk:t.kind=k
   · have hkb:(t.kind == k)=true:=by simpa using hk
     have HR3:Hid (r=decide (t.text=bs s)):=by show _=_;rw [HR2.out,decide_eq_true hk];rfl
     have hs:((⟨t.text.toArray⟩:ByteArray).toList == s.toList)=decide (t.text=bs s):=by rw [bs_eq_iff];rfl
     obtain ⟨T,hT⟩:∃ T:ByteArray,T=⟨t.text.toArray⟩:=⟨_,rfl⟩;rw [←hT] at x2 hs;rw [←HR3.out] at hs;clear hk hT;cases r
     all_goals
      go_enter Tryz.func179,Tryz.ntmps179;go_wp2_with fail;go_ret;exact ⟨rfl,HBW.out _⟩
   · have hkb:(t.kind == k)=false:=by simpa using hk
     have HR3:Hid (r=false):=by show _=_;rw [HR2.out,dF hk];rfl
     clear hk;go_enter Tryz.func179,Tryz.ntmps179;go_wp2_with fail;go_ret;rw [HR3.out];exact ⟨rfl,HBW.out _⟩
 · have HR3:Hid (r=false):=by show _=_;rw [HR.out,List.getElem?_eq_none (by have:=HN.out;omega)]
   have hk1:¬(i:Int)<(n:Int):=by omega
   have hd:decide ((i:Int)<(n:Int))=false:=dF hk1;have hd2:decide (i<n)=false:=dF hlt;clear hlt;go_enter Tryz.func179,Tryz.ntmps179;go_wp2_with fail;go_ret;rw [HR3.out];exact ⟨rfl,HBW.out _⟩
theorem fsign_any (A:Option Addr) (c i:Nat) (l:List Tok) (s:ByteArray) (w:World) (hT:ToksAt w A l) (hlen:l.length≤100000) (hcap:l.length≤c) (hcapm:c≤maxLen) (hi:i≤1000000) :
 Calls Tryz.prog 151 #[.agg #[.slice A l.length c],.int .i64 (i:Nat),.string s] w fun e w'=>e=.returned (.bool (isTk l i 4 (bs s)))∧Below w.heap.size w w':=by
 obtain ⟨n,hn⟩:=ex_ l.length;obtain ⟨w1,HW1⟩:=exh_ (w.alloc (.cells #[.slice A n c] 190));have hb1:=bAl HW1.out;have hI:=fis_any A c i l 4 s w1 (hT.belowB hb1 rfl) hlen hcap hcapm hi;rw [←hn] at hI ⊢;have HI:=Hd hI;have HB1:=Hd hb1;clear hn hb1 hT hI hlen hcap hcapm;go_enter Tryz.func151,Tryz.ntmps151;go_wp2_with fail;rw [←HW1.out];refine (HI.out).mono ?_;rintro e w' ⟨rfl,hb⟩;have HB:=kB HB1 hb;clear hb;go_wp2_with fail;go_ret;exact ⟨rfl,HB.out⟩
theorem fstop_any (R:Nat) (A:Option Addr) (n c i d:Nat) (x:Int) (w:World) (hR:FRd w R A n c i d 0) :
 Calls Tryz.prog 180 #[.pointer (some ⟨R,0,none⟩),.int .i64 x] w fun e w'=>e=.returned FV.zero.val∧FRd w' R A n c i d x∧Only (fun q=>q=R) w w':=by
 obtain ⟨F,hF⟩:∃ F:Ending→World→Prop,F=fun e w'=>e=.returned FV.zero.val∧FRd w' R A n c i d x∧Only (fun q=>q=R) w w':=⟨_,rfl⟩;rw [←hF];obtain ⟨w2,hw2⟩:=ex_ ((w.setCell ⟨R,3,none⟩ (.int .i64 x)).alloc FV.zero.row);have hal:Below w.heap.size (w.setCell ⟨R,3,none⟩ (.int .i64 x)) w2:=by rw [hw2];exact (Br _ _).alloc (by simp) _
 have hR2:FRd w2 R A n c i d x:=(hR.wrong x).below hal hR.lt
 have x2:w2.heap[w.heap.size]?=some FV.zero.row:=by
  have h:=hA_ (w.setCell ⟨R,3,none⟩ (.int .i64 x)) FV.zero.row;rw [hw2]
  simpa using h
 have ho2:Only (fun q=>q=R) w w2:=((Only.refl (F:=fun q=>q=R)).setF rfl _).thenBelow hal (lr _);obtain ⟨-,-,-,e3,fq⟩:=q4 hR;have hRl:=hR.lt;unfold FV.row FV.zero at hw2 x2;have HF:=Hd hF;have HW2:=Hd hw2;have HR2:=Hd hR2;have HO2:=Hd ho2;have X2:=Hd x2;clear hF hw2 hR2 ho2 x2 hR hal;go_enter Tryz.func180,Tryz.ntmps180;go_wp2_with fail;rw [←HW2.out];refine bR (results_cell_row (t:=67) (fr:=(0,0)) rfl _ _ w.heap.size _ _ rfl X2.out Tryz.underlying67 rfl (by kernel_rfl)) rfl ?_;rw [HF.out];exact ⟨rfl,HR2.out,HO2.out⟩
theorem fwant_bad (R:Nat) (A:Option Addr) (n c i d:Nat) (x k:Int) (s:ByteArray) (w:World) (hR:FRd w R A n c i d x) (hx:x≠0) :
 Calls Tryz.prog 196 #[.pointer (some ⟨R,0,none⟩),.int .i64 k,.string s] w fun e w'=>e=.returned (.tuple #[])∧w'=w:=by
 obtain ⟨-,-,-,e3,-⟩:=q4 hR;have hxb:(x != 0)=true:=by simpa using hx
 clear hR hx;go_enter Tryz.func196,Tryz.ntmps196;go_wp2_with fail;refine bR (v:=.tuple #[]) (results_none rfl _ _ _) rfl ?_;exact ⟨rfl,rfl⟩
theorem fwant_any (R:Nat) (A:Option Addr) (c i d:Nat) (l:List Tok) (k:Int) (s:ByteArray) (w:World) (hR:FRd w R A l.length c i d 0) (hP:PTok w R A c l) (hi:i≤1000000) :
 Calls Tryz.prog 196 #[.pointer (some ⟨R,0,none⟩),.int .i64 k,.string s] w fun e w'=>e=.returned (.tuple #[])∧FRd w' R A l.length c (if isTk l i k (bs s)=true then i+1 else i) d (if isTk l i k (bs s)=true then 0 else 16)∧Only (fun q=>q=R) w w':=by
 obtain ⟨n,hn⟩:=ex_ l.length;obtain ⟨r,hr⟩:=ex_ (isTk l i k (bs s));have hI:=fis_any A c i l k s w.drew (ToksAt.drew1 hP.toks) hP.len hP.cap hP.capm hi;rw [←hn] at hI hR ⊢;rw [←hr] at hI ⊢;have hl:=hP.len;rw [←hn] at hl;obtain ⟨c0,c1,-,c3,-⟩:=q4 hR;have hRl:=hR.lt;have HI:=Hd hI;have HR:=Hd hR;clear hn hr hI hR hP;cases r
 · go_enter Tryz.func196,Tryz.ntmps196;go_wp2_with fail
   go_region_held3 (fun w'=>w'.cell? ⟨R,0,none⟩=some (.slice A n c)∧w'.cell? ⟨R,1,none⟩=some (.int .i64 (i:Nat)))
    (first
      | (go_keep;done)
      | (go_split_ands
         refine ⟨?_,?_⟩
         · (rw [hb5.cell (p:=⟨R,_,none⟩) (by simp;omega)];simpa using c0)
         · (rw [hb5.cell (p:=⟨R,_,none⟩) (by simp;omega)];simpa using c1))
      | fail)
    ((go_at_call 179;refine (HI.out).mono ?_;rintro e w5 ⟨rfl,hb5⟩))
   have hb6:Below w.heap.size w w5:=((Br _ _).drew).trans hb5;have HB6:=Hd hb6;have HST:=Hd (fstop_any R A n c i d 16 w5 (HR.out.below hb6 hRl));clear hb5 hb6 c0 c1 c3 HI;go_wp2_with fail;refine (HST.out).mono ?_;rintro e w7 ⟨rfl,hR7,ho7⟩;have HR7:=Hd hR7;have HO7:=Hd ((Ob HB6.out).trans ho7);clear hR7 ho7;go_wp2_with fail;refine bR (v:=.tuple #[]) (results_none rfl _ _ _) rfl ?_;exact ⟨rfl,HR7.out,HO7.out⟩
 · go_enter Tryz.func196,Tryz.ntmps196;go_wp2_with fail
   go_region_held3 (fun w'=>w'.cell? ⟨R,0,none⟩=some (.slice A n c)∧w'.cell? ⟨R,1,none⟩=some (.int .i64 (i:Nat)))
    (first
      | (go_keep;done)
      | (go_split_ands
         refine ⟨?_,?_⟩
         · (rw [hb5.cell (p:=⟨R,_,none⟩) (by simp;omega)];simpa using c0)
         · (rw [hb5.cell (p:=⟨R,_,none⟩) (by simp;omega)];simpa using c1))
      | fail)
    ((go_at_call 179;refine (HI.out).mono ?_;rintro e w5 ⟨rfl,hb5⟩))
   have hb6:Below w.heap.size w w5:=((Br _ _).drew).trans hb5;have HB6:=Hd hb6;have HR5:=Hd (HR.out.below hb6 hRl);clear hb5 hb6 c0 c1 c3 HI;obtain ⟨-,c1,-,-,fq⟩:=q4 HR5.out;have hRl5:=HR5.out.lt;go_wp2_with fail;refine bodyPost_end (v:=.tuple #[]) (results_none rfl _ _ _) rfl ?_;have h:=HR5.out.at_ (i+1);rw [show ((i+1:Nat):Int)=(i:Int)+1 from by omega] at h;exact ⟨rfl,h,(Ob (F:=fun q=>q=R) HB6.out).setF (show R=R from rfl) _⟩
set_option maxHeartbeats 8000000
theorem fpq_sets {R:Nat} {A:Option Addr} {c d:Nat} {l:List Tok} {r:Rs Fm} {w w1 w2:World} {x:FV} {v0 v1 v2 v3 v4 v5:Value} (hx:∀ f j,r=.ok f j→x.Is (fun q=>w1.heap.size≤q) w2 f) (h1:w.heap.size<w1.heap.size) (hRl:R<w.heap.size) (hR:FRd w2 R A l.length c r.at_ d r.err) (hO:Only (fun q=>q=R) w w2) :
 FPQ R A c d l r w (.returned x.val) ((((((w2.setCell ⟨w.heap.size,0,none⟩ (v0)).setCell ⟨w.heap.size,1,none⟩ (v1)).setCell ⟨w.heap.size,2,none⟩ (v2)).setCell ⟨w.heap.size,3,none⟩ (v3)).setCell ⟨w.heap.size,4,none⟩ (v4)).setCell ⟨w.heap.size,5,none⟩ (v5)):=
 ⟨x,rfl,fun f j h=>(hx f j h).keep (s6_keep Kr (by omega)) (fun q _ h=>by omega),(s6_far (by omega)).trans hR,s6_only hO (lr _)⟩
theorem fpq_alloc {R:Nat} {A:Option Addr} {c d:Nat} {l:List Tok} {r:Rs Fm} {w W:World} {e:Ending} (h:FPQ R A c d l r w e W) (o:Obj):FPQ R A c d l r w e (W.alloc o):=by
 obtain ⟨x,he,hx,hR,hO⟩:=h;exact ⟨x,he,fun f j h=>(hx f j h).keep (KeepS.refl.alloc o) (fun _ _ h=>h),hR.below ((Br _ _).alloc (lr _) o) hR.lt,only_alloc hO o⟩
theorem fwithin_any (R:Nat) (A:Option Addr) (c d:Nat) (l:List Tok) (K:FuncId) (P:FPar) (i:Nat) (w:World) (hrun:∀ args W,(callFunc K args).run Tryz.prog W=.ok (.enter K args) W) (hF:d<256→FnF R A c (d+1) l K P) (hd:d≤256) (hi:i<l.length)
 (hR:FRd w R A l.length c i d 0) (hP:PTok w R A c l):Calls Tryz.prog 152 #[.pointer (some ⟨R,0,none⟩),.func (.func K) #[.pointer (some ⟨R,0,none⟩)] #[]] w (FPQ R A c d l (if d=256 then .bad i 17 else P (i+1)) w):=by
 obtain ⟨w1,hw1⟩:=ex_ (w.alloc (.cells #[.int .i64 0,.int .i64 0,.int .i64 0,.string ⟨#[]⟩,.slice none 0 0,.slice none 0 0] 67));have hb1:=bAl hw1;have hs1:w1.heap.size=w.heap.size+1:=by rw [hw1];simp
 have x1:w1.heap[w.heap.size]?=some (.cells #[.int .i64 0,.int .i64 0,.int .i64 0,.string ⟨#[]⟩,.slice none 0 0,.slice none 0 0] 67 (0,0)):=by rw [hw1];exact hA_ w _
 have hR1:=hR.below hb1 hR.lt;have hRl:=hR.lt;have hlen:=hP.len;obtain ⟨F,HF⟩:=exh_ (FPQ R A c d l (if d=256 then .bad i 17 else P (i+1)) w);rw [←HF.out];obtain ⟨c0,c1,c2,c3,fq⟩:=q4 hR;have HW1:=Hd hw1;have HB1:=Hd hb1;have HR1:=Hd hR1;have HR:=Hd hR;have HFN:=Hd hF;have HP:=Hd hP;have X1:=Hd x1;clear hw1 hb1 hR hR1 hF hP x1
 by_cases h256:d=256
 · have HRE:Hid (F=FPQ R A c d l (.bad i 17) w):=by show _=_;rw [HF.out,iP h256]
   have hdb:((d:Int) == 256)=true:=by simp;omega
   have HST:=Hd (fstop_any R A l.length c i d 17 w1 HR1.out);clear h256 HF;go_enter Tryz.func152,Tryz.ntmps152;go_wp2_with fail;rw [←HW1.out];(try go_wp2_with fail);refine (HST.out).mono ?_;rintro e w2 ⟨rfl,hR2,ho2⟩;unfold FV.val FV.zero;simp only;have X2:=Hd ((ho2.block w.heap.size (by omega) (by omega)).trans X1.out);have HR2:=Hd hR2;have HO2:=Hd ((Ob HB1.out).trans ho2);have hl2:w.heap.size<w2.heap.size:=lH X2.out;clear hR2 ho2 c0 c1 fq c2 c3;obtain ⟨v0,v1,v2,v3,v4,v5,vzq⟩:=q6 X2.out;go_wp2_with fail;clear v0 vzq v1 v2 v3 v4 v5;refine bR (results_cell_row (t:=67) (fr:=(0,0)) rfl _ _ w.heap.size _ _ rfl (s6_at X2.out) Tryz.underlying67 rfl (by kernel_rfl)) rfl ?_;rw [HRE.out];exact fpq_sets (x:=FV.zero) (r:=.bad i 17) (w1:=w1) (fun f j h=>nomatch h) (by omega) hRl HR2.out HO2.out
 · have HRE:Hid (F=FPQ R A c d l (P (i+1)) w):=by show _=_;rw [HF.out,iN h256]
   have hdb:((d:Int) == 256)=false:=by simp;omega
   have hd2:d<256:=by omega
   obtain ⟨w3,hw3⟩:=ex_ (((w.setCell ⟨R,1,none⟩ (.int .i64 ((i:Int)+1))).setCell ⟨R,2,none⟩ (.int .i64 ((d:Int)+1))).alloc (.cells #[.int .i64 0,.int .i64 0,.int .i64 0,.string ⟨#[]⟩,.slice none 0 0,.slice none 0 0] 67));have ho3:Only (fun q=>q=R) w w3:=by rw [hw3];exact only_alloc (((Only.refl (F:=fun q=>q=R)).setF (show R=R from rfl) _).setF (show R=R from rfl) _) _
   have hR3:FRd w3 R A l.length c (i+1) (d+1) 0:=by
    have h:=((HR.out.at_ (i+1)).deep (d+1)).below (B:=w.heap.size) ((Br _ _).alloc (by simp) (.cells #[.int .i64 0,.int .i64 0,.int .i64 0,.string ⟨#[]⟩,.slice none 0 0,.slice none 0 0] 67)) hRl;rw [show ((i+1:Nat):Int)=(i:Int)+1 from by omega,show ((d+1:Nat):Int)=(d:Int)+1 from by omega] at h;rw [hw3];exact h
   have x3:w3.heap[w.heap.size]?=some (.cells #[.int .i64 0,.int .i64 0,.int .i64 0,.string ⟨#[]⟩,.slice none 0 0,.slice none 0 0] 67 (0,0)):=by
    have h:=hA_ ((w.setCell ⟨R,1,none⟩ (.int .i64 ((i:Int)+1))).setCell ⟨R,2,none⟩ (.int .i64 ((d:Int)+1))) (.cells #[.int .i64 0,.int .i64 0,.int .i64 0,.string ⟨#[]⟩,.slice none 0 0,.slice none 0 0] 67);rw [hw3]
    simpa using h
   have hcall:=HFN.out hd2 (i+1) w3 (by omega) hR3 (HP.out.only ho3);obtain ⟨r,hr⟩:=ex_ (P (i+1));rw [←hr] at hcall HRE;have HC:=Hd hcall;have HO3:=Hd ho3;have X3:=Hd x3;have HW3:=Hd hw3;clear hcall hr ho3 hR3 x3 hw3 h256 HF;go_enter Tryz.func152,Tryz.ntmps152;go_wp2_with fail;rw [←HW3.out];refine (HC.out).mono ?_;rintro e w4 ⟨x,rfl,hx,hR4,ho4⟩;unfold FV.val;obtain ⟨j,hj⟩:=ex_ r.at_;obtain ⟨y,hy⟩:=ex_ r.err;rw [←hj,←hy] at hR4;have hs3:w.heap.size<w3.heap.size:=lH X3.out;have HX:=Hd hx;have HR4:=Hd hR4;have HO4:=Hd (HO3.out.trans ho4);have X4:=Hd ((ho4.block w.heap.size hs3 (by omega)).trans X3.out);have HJ:=Hd hj;have HY:=Hd hy;have hs4:=ho4.size;clear hx hR4 ho4 hj hy c0 c1 fq c2 c3;obtain ⟨-,-,c2,-,fq⟩:=q4 HR4.out;have hRl4:=HR4.out.lt;have hl4:w.heap.size<w4.heap.size:=by omega
   obtain ⟨v0,v1,v2,v3,v4,v5,vzq⟩:=q6 X4.out;go_wp2_with fail;clear c2 fq v0 vzq v1 v2 v3 v4 v5;obtain ⟨w5,hw5⟩:=ex_ (w4.setCell ⟨R,2,none⟩ (.int .i64 (d:Nat)));have hR5:FRd w5 R A l.length c j d y:=by rw [hw5];exact HR4.out.deep d
   have hO5:Only (fun q=>q=R) w w5:=by rw [hw5];exact HO4.out.setF (show R=R from rfl) _
   have x5:w5.heap[w.heap.size]?=some (.cells #[.int .i64 0,.int .i64 0,.int .i64 0,.string ⟨#[]⟩,.slice none 0 0,.slice none 0 0] 67 (0,0)):=by rw [hw5];exact (hO_ w4 ⟨R,2,none⟩ w.heap.size _ (by show w.heap.size≠R;omega)).trans X4.out
   have hk5:KeepS (fun q=>w3.heap.size≤q) w4 w5:=by rw [hw5];exact KeepS.refl.set (by omega) _
   rw [←hw5];clear hw5;obtain ⟨WW,hWW⟩:=ex_ (((((((w5.setCell ⟨w.heap.size,0,none⟩ (.int .i64 x.o)).setCell ⟨w.heap.size,1,none⟩ (.int .i64 x.tn)).setCell ⟨w.heap.size,2,none⟩ (.int .i64 x.tm)).setCell ⟨w.heap.size,3,none⟩ (.string x.s)).setCell ⟨w.heap.size,4,none⟩ (.slice x.Ae x.ne x.ce)).setCell ⟨w.heap.size,5,none⟩ (.slice x.A x.n x.c)));have xW:WW.heap[w.heap.size]?=some (.cells #[.int .i64 x.o,.int .i64 x.tn,.int .i64 x.tm,.string x.s,.slice x.Ae x.ne x.ce,.slice x.A x.n x.c] 67 (0,0)):=by rw [hWW];exact s6_at x5
   have hQ:FPQ R A c d l r w (.returned x.val) WW:=by
    rw [hWW];exact fpq_sets (w1:=w3) (fun f k h=>(HX.out f k h).keep hk5 (fun _ _ h=>h)) hs3 hRl (by rw [←HJ.out,←HY.out];exact hR5) hO5
   rw [←hWW];refine bR (results_cell_row (t:=67) (fr:=(0,0)) rfl _ _ w.heap.size _ _ rfl (aK xW) Tryz.underlying67 rfl (by kernel_rfl)) rfl ?_;rw [HRE.out];exact fpq_alloc hQ _
def wantAt (l:List Tok) (j:Nat) (y k:Int) (s:Bs):Nat×Int:=if y≠0 then (j,y) else if isTk l j k s=true then (j+1,0) else (j,16)
theorem fwant_all (R:Nat) (A:Option Addr) (c i d:Nat) (l:List Tok) (y k:Int) (s:ByteArray) (w:World) (hR:FRd w R A l.length c i d y) (hP:PTok w R A c l) (hi:y=0→i≤1000000) :
 Calls Tryz.prog 196 #[.pointer (some ⟨R,0,none⟩),.int .i64 k,.string s] w fun e w'=>e=.returned (.tuple #[])∧FRd w' R A l.length c (wantAt l i y k (bs s)).1 d (wantAt l i y k (bs s)).2∧Only (fun q=>q=R) w w':=by
 by_cases hy:y=0
 · subst hy;refine (fwant_any R A c i d l k s w hR hP (hi rfl)).mono ?_;rintro e w' ⟨rfl,h1,h2⟩;refine ⟨rfl,?_,h2⟩;unfold wantAt;rw [iN (by simp)]
   split at h1 <;> rename_i hc <;> simp only [hc] at h1 ⊢
   · exact h1
   · simpa [hc] using h1
 · refine (fwant_bad R A l.length c i d y k s w hR hy).mono ?_;rintro e w' ⟨rfl,rfl⟩;unfold wantAt;rw [iP hy];exact ⟨rfl,hR,Only.refl⟩
def thenTk (l:List Tok) (r:Rs Fm) (k:Int) (s:Bs) (F:Fm→Fm):Rs Fm:=r.then fun g j=>if isTk l j k s=true then .ok (F g) (j+1) else .bad j 16
theorem then_want {l:List Tok} {r:Rs Fm} {k:Int} {s:Bs} {F:Fm→Fm} (hz:∀ j e,r=.bad j e→e≠0) :
 (thenTk l r k s F).at_=(wantAt l r.at_ r.err k s).1∧(thenTk l r k s F).err=(wantAt l r.at_ r.err k s).2∧∀ f m,thenTk l r k s F=.ok f m→∃ g j,r=.ok g j∧f=F g:=by
 unfold thenTk wantAt
 cases r with
 | bad j e=>
  have:=hz j e rfl;simp [Rs.at_,Rs.err,this]
 | ok g j=>
  by_cases hc:isTk l j k s=true
  · simp only [Rs.then_ok,Rs.err,Rs.at_,hc,if_true];exact ⟨by simp,by simp,fun f m h=>⟨g,j,rfl,(ok_inj h).1.symm⟩⟩
  · simp only [Rs.then_ok,Rs.err,Rs.at_,iN hc];exact ⟨by simp [hc],by simp [hc],fun f m h=>nomatch h⟩
theorem fpq_mk2 {R:Nat} {A:Option Addr} {c d:Nat} {l:List Tok} {r:Rs Fm} {w W:World} {op:Int} {x y:FV} {g:Nat} (hg:w.heap.size≤g) (hrow:W.heap[g]?=some (.cells (x.cells++y.cells).toArray 67 (0,0)))
 (hok:∀ q m,r=.ok q m→∃ f h,q=fmOf op [f,h]∧x.Is (fun q=>w.heap.size≤q) W f∧y.Is (fun q=>w.heap.size≤q) W h) (hR:FRd W R A l.length c r.at_ d r.err) (hO:Only (fun q=>q=R) w W) :
 FPQ R A c d l r w (.returned (.agg #[.int .i64 op,.int .i64 0,.int .i64 0,.string ⟨#[]⟩,.slice none 0 0,.slice (some ⟨g,0,none⟩) 2 2])) W:=
 ⟨⟨op,0,0,⟨#[]⟩,none,0,0,some ⟨g,0,none⟩,2,2⟩,rfl,fun q m h=>by
   obtain ⟨f,k,rfl,h1,h2⟩:=hok q m h
   exact FV.two_is h1 h2 hg hrow,hR,hO⟩
theorem fpq_mk1 {R:Nat} {A:Option Addr} {c d:Nat} {l:List Tok} {r:Rs Fm} {w W:World} {op:Int} {x:FV} {g:Nat} (hg:w.heap.size≤g) (hrow:W.heap[g]?=some (.cells x.cells.toArray 67 (0,0)))
 (hok:∀ q m,r=.ok q m→∃ f,q=fmOf op [f]∧x.Is (fun q=>w.heap.size≤q) W f) (hR:FRd W R A l.length c r.at_ d r.err) (hO:Only (fun q=>q=R) w W) :
 FPQ R A c d l r w (.returned (.agg #[.int .i64 op,.int .i64 0,.int .i64 0,.string ⟨#[]⟩,.slice none 0 0,.slice (some ⟨g,0,none⟩) 1 1])) W:=
 ⟨⟨op,0,0,⟨#[]⟩,none,0,0,some ⟨g,0,none⟩,1,1⟩,rfl,fun q m h=>by
   obtain ⟨f,rfl,h1⟩:=hok q m h
   exact FV.one_is h1 hg hrow,hR,hO⟩
theorem fpq_zero {R:Nat} {A:Option Addr} {c d:Nat} {l:List Tok} {w w2:World} {r:Rs Fm} (hr:∀ f j,r≠.ok f j) (hRl:R<w.heap.size) (hR:FRd w2 R A l.length c r.at_ d r.err) (hO:Only (fun q=>q=R) w w2) (v0 v1 v2 v3 v4 v5:Value) :
 FPQ R A c d l r w (.returned (.agg #[.int .i64 0,.int .i64 0,.int .i64 0,.string ⟨#[]⟩,.slice none 0 0,.slice none 0 0])) ((((((w2.setCell ⟨w.heap.size,0,none⟩ (v0)).setCell ⟨w.heap.size,1,none⟩ (v1)).setCell ⟨w.heap.size,2,none⟩ (v2)).setCell ⟨w.heap.size,3,none⟩ (v3)).setCell ⟨w.heap.size,4,none⟩ (v4)).setCell ⟨w.heap.size,5,none⟩ (v5)):=
 ⟨FV.zero,rfl,fun f j h=>absurd h (hr f j),(s6_far (by omega)).trans hR,s6_only hO (lr _)⟩
def FnO (R:Nat) (A:Option Addr) (c d:Nat) (l:List Tok) (op:Int) (P:FPar):Prop:=
 ∀ (i:Nat) (w:World),i≤l.length→FRd w R A l.length c i d 0→PTok w R A c l→Calls Tryz.prog 150 #[.pointer (some ⟨R,0,none⟩),.int .i64 op] w (FPQ R A c d l (P i) w)
theorem fands_any (R:Nat) (A:Option Addr) (c d:Nat) (l:List Tok) (P:FPar) (hF:FnO R A c d l 3 P):FnF R A c d l 178 P:=by
 intro i w hi hR hP;obtain ⟨w1,hw1⟩:=ex_ (w.alloc (.cells #[.int .i64 0,.int .i64 0,.int .i64 0,.string ⟨#[]⟩,.slice none 0 0,.slice none 0 0] 67));have hb1:=bAl hw1;have hs1:w1.heap.size=w.heap.size+1:=by rw [hw1];simp
 have x1:w1.heap[w.heap.size]?=some (.cells #[.int .i64 0,.int .i64 0,.int .i64 0,.string ⟨#[]⟩,.slice none 0 0,.slice none 0 0] 67 (0,0)):=by rw [hw1];exact hA_ w _
 have hR1:=hR.below hb1 hR.lt;have hRl:=hR.lt;have hlen:=hP.len;have hcall:=hF i w1 hi hR1 (hP.only (Ob hb1));obtain ⟨r,hr⟩:=ex_ (P i);rw [←hr] at hcall ⊢;obtain ⟨F,HF⟩:=exh_ (FPQ R A c d l r w);rw [←HF.out];have HC:=Hd hcall;have HW1:=Hd hw1;have HB1:=Hd hb1;have X1:=Hd x1;clear hw1 hb1 hR hR1 hF hP x1 hcall hr;go_enter Tryz.func178,Tryz.ntmps178;go_wp2_with fail;rw [←HW1.out];refine (HC.out).mono ?_;rintro e w2 ⟨x,rfl,hx,hR2,ho2⟩;unfold FV.val;have HX:=Hd hx;have HR2:=Hd hR2;have HO2:=Hd ((Ob HB1.out).trans ho2);have X2:=Hd ((ho2.block w.heap.size (by omega) (by omega)).trans X1.out);have hl2:w.heap.size<w2.heap.size:=lH X2.out;clear hx hR2 ho2;obtain ⟨v0,v1,v2,v3,v4,v5,vzq⟩:=q6 X2.out;go_wp2_with fail;clear v0 vzq v1 v2 v3 v4 v5;refine bR (results_cell_row (t:=67) (fr:=(0,0)) rfl _ _ w.heap.size _ _ rfl (s6_at X2.out) Tryz.underlying67 rfl (by kernel_rfl)) rfl ?_;rw [HF.out];exact fpq_sets (w1:=w1) HX.out (by omega) hRl HR2.out HO2.out
def untP (l:List Tok) (P:FPar):FPar:=fun i=>if isTk l i 4 [91]=true then (P (i+1)).then fun f j=>if isTk l j 3 [85]=true then thenTk l (P (j+1)) 4 [93] fun g=>fmOf 0 [f,g] else .bad j 16 else .bad i 16
theorem funtil_any (R:Nat) (A:Option Addr) (c d:Nat) (l:List Tok) (P:FPar) (hF:FnF R A c d l 124 P) (hG:FGdP l P) (hZ:FNzP P):FnF R A c d l 195 (untP l P):=by
 intro i w hi hR hP;obtain ⟨w1,hw1⟩:=ex_ (w.alloc (.cells #[.int .i64 0,.int .i64 0,.int .i64 0,.string ⟨#[]⟩,.slice none 0 0,.slice none 0 0] 67));have hb1:=bAl hw1;have hs1:w1.heap.size=w.heap.size+1:=by rw [hw1];simp
 have x1:w1.heap[w.heap.size]?=some (.cells #[.int .i64 0,.int .i64 0,.int .i64 0,.string ⟨#[]⟩,.slice none 0 0,.slice none 0 0] 67 (0,0)):=by rw [hw1];exact hA_ w _
 have hR1:=hR.below hb1 hR.lt;have hRl:=hR.lt;have hlen:=hP.len;obtain ⟨F,HF⟩:=exh_ (FPQ R A c d l (untP l P i) w);rw [←HF.out];have HW1:=Hd hw1;have HO:Hid (Only (fun q=>q=R) w w1):=Ob hb1;have HRD:=Hd hR1;have HFN:=Hd hF;have HP:=Hd hP;have XB:=Hd x1;have HG:=Hd hG;have HZ:=Hd hZ;clear hw1 hb1 hR hR1 hF hP x1 hG hZ hs1;go_enter Tryz.func195,Tryz.ntmps195;have hwn:=fwant_all R A c i d l 0 4 ⟨#[91]⟩ w1 HRD.out (HP.out.only HO.out) (by first | (intro _;omega) | (intro h;have:=HLE.out h;omega));obtain ⟨jw,hjw⟩:=ex_ (wantAt l (i) (0) 4 [91]);rw [show wantAt l (i) (0) 4 (bs ⟨#[91]⟩)=jw from hjw.symm] at hwn;have HC:=Hd hwn;have HJW:=Hd hjw;clear hwn hjw;go_wp2_with fail;rw [←HW1.out];refine (HC.out).mono ?_;rintro e w2 ⟨rfl,hR2,ho2⟩;replace XB:=Hd ((ho2.block w.heap.size (lH XB.out) (by omega)).trans XB.out);replace HO:=Hd (HO.out.trans ho2);replace HRD:=Hd hR2;clear HC hR2 ho2
 by_cases h1:isTk l i 4 [91]=true
 · have hw:jw=(i+1,0):=by rw [HJW.out];unfold wantAt;rw [iN (by simp),iP h1]
   have HRE:Hid (F=FPQ R A c d l ((P (i+1)).then fun f j=>if isTk l j 3 [85]=true then thenTk l (P (j+1)) 4 [93] fun g=>fmOf 0 [f,g] else .bad j 16) w):=by show _=_;rw [HF.out];unfold untP;rw [iP h1]
   have hil:=isTk_lt h1;subst hw;simp only at HRD;clear h1;obtain ⟨-,-,-,e3,-⟩:=q4 HRD.out;have hrl2:=HRD.out.lt;have hcall:=HFN.out (i+1) w2 (by omega) HRD.out (HP.out.only HO.out);obtain ⟨r1,hr1⟩:=ex_ (P (i+1));rw [←hr1] at hcall;have HC:=Hd hcall;have HRr1:=Hd hr1;clear hcall hr1;go_wp2_with fail;clear e3;refine (HC.out).mono ?_;rintro e w3 ⟨x,rfl,hx,hR2,ho2⟩;unfold FV.val;obtain ⟨b3,hb3⟩:=ex_ w3.heap.size;obtain ⟨w4,hw4⟩:=ex_ (w3.alloc (.cells #[.int .i64 x.o,.int .i64 x.tn,.int .i64 x.tm,.string x.s,.slice x.Ae x.ne x.ce,.slice x.A x.n x.c] 67));have hal:=bAl hw4;have Xb3:=nAl hw4 hb3;have HXx:Hid (∀ f j,r1=.ok f j→x.Is (fun q=>w.heap.size<q) w4 f):=fun f j h=>(hx f j h).keep (Kb hal) (fun q _ h=>by have:=HO.out.size;have:=lH XB.out;omega);have hn2:=Ob (F:=fun q=>q=R) hal;have YB:=Hd ((hal.block w.heap.size (lL (lH XB.out) ho2.size)).trans ((ho2.block w.heap.size (lH XB.out) (by omega)).trans XB.out));have YO:=Hd (HO.out.trans (ho2.trans hn2));have YRD:=Hd (hR2.below hal hR2.lt);have NEb3:b3≠R:=by have:=hR2.lt;omega
   have GTb3:w.heap.size<b3:=by have:=lL (lH XB.out) ho2.size;omega
   have Qw4:=Hd hw4;have Qb3:=Hd hb3;clear HC hx hR2 ho2 hal hn2 hb3 hw4 XB HO HRD;have XB:=YB;have HO:=YO;have HRD:=YRD;clear YB YO YRD;obtain ⟨j1,hj1⟩:=ex_ r1.at_;obtain ⟨y1,hy1⟩:=ex_ r1.err;rw [←hj1,←hy1] at HRD
   have HLE:Hid (y1=0→j1≤l.length∧∃ f,r1=.ok f j1):=by
    intro h
    cases hr1:r1 with
    | bad a b=>
     rw [hr1] at hy1;exact absurd (show b=0 from hy1.symm.trans h) (HZ.out (i+1) a b (by rw [←HRr1.out,hr1]))
    | ok f j=>rw [hr1] at hj1;have hg:=HG.out (i+1) f j (by rw [←HRr1.out,hr1]);rw [show j1=j from hj1];exact ⟨hg.jl,f,rfl⟩
   have HY1:=Hd hy1;have HJ1:=Hd hj1;clear hj1 hy1;have hwn:=fwant_all R A c j1 d l y1 3 ⟨#[85]⟩ w4 HRD.out (HP.out.only HO.out) (by first | (intro _;omega) | (intro h;have:=(HLE.out h).1;omega));obtain ⟨jw,hjw⟩:=ex_ (wantAt l (j1) (y1) 3 [85]);rw [show wantAt l (j1) (y1) 3 (bs ⟨#[85]⟩)=jw from hjw.symm] at hwn;have HC:=Hd hwn;have HJW:=Hd hjw;clear hwn hjw;go_wp2_with fail;rw [←Qw4.out,←Qb3.out];refine (HC.out).mono ?_;rintro e w5 ⟨rfl,hR2,ho2⟩;have YB:=Hd ((ho2.block w.heap.size (lH XB.out) (by omega)).trans XB.out);have YO:=Hd (HO.out.trans ho2);have YRD:=Hd hR2;replace Xb3:=Hd ((ho2.block b3 (lH Xb3.out) NEb3).trans Xb3.out);replace HXx:Hid (∀ f j,r1=.ok f j→x.Is (fun q=>w.heap.size<q) w5 f):=fun f j h=>(HXx.out f j h).keep (KeepS.of_only ho2 (by omega)) (fun _ _ h=>h);clear HC hR2 ho2 XB HO HRD;have XB:=YB;have HO:=YO;have HRD:=YRD;clear YB YO YRD
   by_cases hy:y1=0
   · obtain ⟨hjl,f1,hf1⟩:=HLE.out hy;have HRE2:Hid (F=FPQ R A c d l (if isTk l j1 3 [85]=true then thenTk l (P (j1+1)) 4 [93] fun g=>fmOf 0 [f1,g] else .bad j1 16) w):=by show _=_;rw [HRE.out,←HRr1.out,hf1];rfl
     have HXF:Hid (x.Is (fun q=>w.heap.size<q) w5 f1):=HXx.out f1 j1 hf1;subst hy;clear hf1 HXx HLE
     by_cases h2:isTk l j1 3 [85]=true
     · have hw:jw=(j1+1,0):=by rw [HJW.out];unfold wantAt;rw [iN (by simp),iP h2]
       have HRE3:Hid (F=FPQ R A c d l (thenTk l (P (j1+1)) 4 [93] fun g=>fmOf 0 [f1,g]) w):=by show _=_;rw [HRE2.out,iP h2]
       have hjl2:=isTk_lt h2;clear HJW;subst hw;simp only at HRD;clear h2;obtain ⟨-,-,-,e3,-⟩:=q4 HRD.out;have hrl5:=HRD.out.lt;have hcall:=HFN.out (j1+1) w5 (by omega) HRD.out (HP.out.only HO.out);obtain ⟨r2,hr2⟩:=ex_ (P (j1+1));rw [←hr2] at hcall;have HC:=Hd hcall;have HRr2:=Hd hr2;clear hcall hr2;go_wp2_with fail;clear e3;refine (HC.out).mono ?_;rintro e w6 ⟨y,rfl,hx,hR2,ho2⟩;unfold FV.val;obtain ⟨b4,hb4⟩:=ex_ w6.heap.size;obtain ⟨w7,hw7⟩:=ex_ (w6.alloc (.cells #[.int .i64 y.o,.int .i64 y.tn,.int .i64 y.tm,.string y.s,.slice y.Ae y.ne y.ce,.slice y.A y.n y.c] 67));have hal:=bAl hw7;have Xb4:=nAl hw7 hb4;have HXy:Hid (∀ f j,r2=.ok f j→y.Is (fun q=>w.heap.size<q) w7 f):=fun f j h=>(hx f j h).keep (Kb hal) (fun q _ h=>by have:=HO.out.size;have:=lH XB.out;omega);have hn2:=Ob (F:=fun q=>q=R) hal;have YB:=Hd ((hal.block w.heap.size (lL (lH XB.out) ho2.size)).trans ((ho2.block w.heap.size (lH XB.out) (by omega)).trans XB.out));have YO:=Hd (HO.out.trans (ho2.trans hn2));have YRD:=Hd (hR2.below hal hR2.lt);have NEb4:b4≠R:=by have:=hR2.lt;omega
       have GTb4:w.heap.size<b4:=by have:=lL (lH XB.out) ho2.size;omega
       replace Xb3:=Hd ((hal.block b3 (lL (lH Xb3.out) ho2.size)).trans ((ho2.block b3 (lH Xb3.out) NEb3).trans Xb3.out));replace HXF:Hid (x.Is (fun q=>w.heap.size<q) w7 f1):=(HXF.out.keep (KeepS.of_only ho2 (by omega)) (fun _ _ h=>h)).keep (Kb hal) (fun _ _ h=>h);have Qw7:=Hd hw7;have Qb4:=Hd hb4;clear HC hx hR2 ho2 hal hn2 hb4 hw7 XB HO HRD;have XB:=YB;have HO:=YO;have HRD:=YRD;clear YB YO YRD;have hZ2:∀ j e,r2=.bad j e→e≠0:=fun j e h=>HZ.out _ _ _ (by rw [←HRr2.out,h]);obtain ⟨hq1,hq2,hq3⟩:=then_want (l:=l) (k:=4) (s:=[93]) (F:=fun g=>fmOf 0 [f1,g]) hZ2;rw [←HRr2.out] at HRE3;obtain ⟨q,hq⟩:=ex_ (thenTk l r2 4 [93] fun g=>fmOf 0 [f1,g]);rw [←hq] at hq1 hq2 hq3 HRE3
       have HLE:Hid (r2.err=0→r2.at_≤l.length):=by
        intro h
        cases hr2:r2 with
        | bad a b=>rw [hr2] at h;exact absurd h (hZ2 a b hr2)
        | ok f j=>have hg:=HG.out (j1+1) f j (by rw [←HRr2.out,hr2]);exact hg.jl
       obtain ⟨j2,hj2⟩:=ex_ r2.at_;obtain ⟨y2,hy2⟩:=ex_ r2.err;rw [←hj2,←hy2] at HRD HLE hq1 hq2;have HQ1:=Hd hq1;have HQ2:=Hd hq2;have HQ3:=Hd hq3;clear hj2 hy2 hZ2 hq hq1 hq2 hq3;have hwn:=fwant_all R A c j2 d l y2 4 ⟨#[93]⟩ w7 HRD.out (HP.out.only HO.out) (by first | (intro _;omega) | (intro h;have:=HLE.out h;omega));obtain ⟨jw,HJW⟩:=exh_ (wantAt l (j2) (y2) 4 [93]);rw [show wantAt l (j2) (y2) 4 (bs ⟨#[93]⟩)=jw from HJW.out.symm] at hwn;have HC:=Hd hwn;clear hwn;go_wp2_with fail;rw [←Qw7.out,←Qb4.out];refine (HC.out).mono ?_;rintro e w8 ⟨rfl,hR2,ho2⟩;have YB:=Hd ((ho2.block w.heap.size (lH XB.out) (by omega)).trans XB.out);have YO:=Hd (HO.out.trans ho2);have YRD:=Hd hR2;replace Xb3:=Hd ((ho2.block b3 (lH Xb3.out) NEb3).trans Xb3.out);replace Xb4:=Hd ((ho2.block b4 (lH Xb4.out) NEb4).trans Xb4.out);replace HXF:Hid (x.Is (fun q=>w.heap.size<q) w8 f1):=HXF.out.keep (KeepS.of_only ho2 (by omega)) (fun _ _ h=>h);replace HXy:Hid (∀ f j,r2=.ok f j→y.Is (fun q=>w.heap.size<q) w8 f):=fun f j h=>(HXy.out f j h).keep (KeepS.of_only ho2 (by omega)) (fun _ _ h=>h);clear HC hR2 ho2 XB HO HRD;have XB:=YB;have HO:=YO;have HRD:=YRD;clear YB YO YRD;rw [←HJW.out] at HQ1 HQ2;obtain ⟨v0,v1,v2,v3,v4,v5,vzq⟩:=q6 XB.out;obtain ⟨a0,a1,a2,a3,a4,a5,azq⟩:=q6 Xb3.out;obtain ⟨b0,b1,b2,b3,b4,b5,bzq⟩:=q6 Xb4.out;have hvl:=lH XB.out;have hal3:=lH Xb3.out
       have hal4:=lH Xb4.out;go_wp2_with fail;clear v0 vzq v1 v2 v3 v4 v5 a0 azq a1 a2 a3 a4 a5;clear b0 bzq b1 b2 b3 b4 b5;obtain ⟨W0,hW0⟩:=ex_ (((((((w8.setCell ⟨w.heap.size,0,none⟩ (.int .i64 0)).setCell ⟨w.heap.size,1,none⟩ (.int .i64 0)).setCell ⟨w.heap.size,2,none⟩ (.int .i64 0)).setCell ⟨w.heap.size,3,none⟩ (.string ⟨#[]⟩)).setCell ⟨w.heap.size,4,none⟩ (.slice none 0 0)).setCell ⟨w.heap.size,5,none⟩ (.slice (some ⟨w8.heap.size,0,none⟩) 2 2)));have hz0:W0.heap.size=w8.heap.size:=by rw [hW0];simp
       have xb0:=s6_at (v0:=.int .i64 0) (v1:=.int .i64 0) (v2:=.int .i64 0) (v3:=.string ⟨#[]⟩) (v4:=.slice none 0 0) (v5:=.slice (some ⟨w8.heap.size,0,none⟩) 2 2) XB.out;rw [←hW0] at xb0;have hR0:FRd W0 R A l.length c q.at_ d q.err:=by rw [hW0,HQ1.out,HQ2.out];exact (s6_far (by omega)).trans HRD.out
       have hO0:Only (fun q=>q=R) w W0:=by rw [hW0];exact s6_only HO.out (lr _)
       have hk0:KeepS (fun q=>w.heap.size<q) w8 W0:=by rw [hW0];exact s6_keep Kr (by omega)
       rw [←hW0];clear hW0;refine bR (results_cell_row (t:=67) (fr:=(0,0)) rfl _ _ w.heap.size _ _ rfl (aK xb0) Tryz.underlying67 rfl (by kernel_rfl)) rfl ?_;rw [HRE3.out];have hnew:=hA_ W0 (.cells (x.cells++y.cells).toArray 67);rw [hz0] at hnew;refine fpq_mk2 (x:=x) (y:=y) (op:=0) (by omega) hnew (fun q' m h=>?_) (hR0.below ((Br _ _).alloc (lr _) _) hR0.lt) (only_alloc hO0 _);obtain ⟨g,j,hr2,rfl⟩:=HQ3.out q' m h;exact ⟨f1,g,rfl,HXF.out.keep (hk0.alloc _) (fun _ _ h=>Nat.le_of_lt h),(HXy.out g j hr2).keep (hk0.alloc _) (fun _ _ h=>Nat.le_of_lt h)⟩
     · have hw:jw=(j1,16):=by rw [HJW.out];unfold wantAt;rw [iN (by simp),iN h2]
       have HRE3:Hid (F=FPQ R A c d l (.bad j1 16) w):=by show _=_;rw [HRE2.out,iN h2]
       subst hw;simp only at HRD;clear h2;obtain ⟨v0,v1,v2,v3,v4,v5,vzq⟩:=q6 XB.out;obtain ⟨-,-,-,e3,-⟩:=q4 HRD.out;have hvl:=lH XB.out;have hrl2:=HRD.out.lt;go_wp2_with fail;clear v0 vzq v1 v2 v3 v4 v5 e3;refine bR (results_cell_row (t:=67) (fr:=(0,0)) rfl _ _ w.heap.size _ _ rfl (s6_at XB.out) Tryz.underlying67 rfl (by kernel_rfl)) rfl ?_;rw [HRE3.out];exact fpq_zero (r:=.bad j1 16) (fun f j h=>nomatch h) hRl HRD.out HO.out _ _ _ _ _ _
   · have hw:jw=(j1,y1):=by rw [HJW.out];unfold wantAt;rw [iP hy]
     have hrb:r1=.bad j1 y1:=by
      cases hr1:r1 with
      | bad a b=>
       have h1:j1=a:=by have h:=HJ1.out;rw [hr1] at h;exact h
       have h2:y1=b:=by have h:=HY1.out;rw [hr1] at h;exact h
       rw [h1,h2]
      | ok f j=>have h2:=HY1.out;rw [hr1] at h2;exact absurd h2 hy
     have HRE2:Hid (F=FPQ R A c d l (.bad j1 y1) w):=by show _=_;rw [HRE.out,←HRr1.out,hrb];rfl
     subst hw;simp only at HRD;have hyb:(y1 != 0)=true:=by simpa using hy
     clear hy hrb;obtain ⟨v0,v1,v2,v3,v4,v5,vzq⟩:=q6 XB.out;obtain ⟨-,-,-,e3,-⟩:=q4 HRD.out;have hvl:=lH XB.out;have hrl2:=HRD.out.lt;go_wp2_with fail;clear v0 vzq v1 v2 v3 v4 v5 e3;refine bR (results_cell_row (t:=67) (fr:=(0,0)) rfl _ _ w.heap.size _ _ rfl (s6_at XB.out) Tryz.underlying67 rfl (by kernel_rfl)) rfl ?_;rw [HRE2.out];exact fpq_zero (r:=.bad j1 y1) (fun f j h=>nomatch h) hRl HRD.out HO.out _ _ _ _ _ _
 · have hw:jw=(i,16):=by rw [HJW.out];unfold wantAt;rw [iN (by simp),iN h1]
   have HRE:Hid (F=FPQ R A c d l (.bad i 16) w):=by show _=_;rw [HF.out];unfold untP;rw [iN h1]
   subst hw;simp only at HRD;clear h1;obtain ⟨v0,v1,v2,v3,v4,v5,vzq⟩:=q6 XB.out;obtain ⟨-,-,-,e3,-⟩:=q4 HRD.out;have hvl:=lH XB.out;have hrl2:=HRD.out.lt;go_wp2_with fail;clear v0 vzq v1 v2 v3 v4 v5 e3;refine bR (results_cell_row (t:=67) (fr:=(0,0)) rfl _ _ w.heap.size _ _ rfl (s6_at XB.out) Tryz.underlying67 rfl (by kernel_rfl)) rfl ?_;rw [HRE.out];exact fpq_zero (r:=.bad i 16) (fun f j h=>nomatch h) hRl HRD.out HO.out _ _ _ _ _ _
end Go.Proofs.YtkhoeoilamddaaaGreatDoor
