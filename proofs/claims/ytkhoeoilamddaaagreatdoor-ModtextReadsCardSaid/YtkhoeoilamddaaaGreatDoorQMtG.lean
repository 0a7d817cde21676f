/- Walks and plain words: MtG MtGk. -/
import Derived.Test.YtkhoeoilamddaaaGreatDoorQMtC
namespace Go.Proofs.YtkhoeoilamddaaaGreatDoor
open Go.RowKit
set_option linter.unusedVariables false
set_option maxRecDepth 100000
set_option maxHeartbeats 8000000
theorem agh(u:FrameMode)(R:Nat)(A:Option Addr)(c i:Nat)(l:List Tok)(x:Int)(V:Nat→Value)(k:Int)(s:ByteArray)(w:World)(hR:kF w R A l.length c i x V)(hP:iI w R A c l)(hi:x=0→i≤1000000) :
 CallsD Tryz.prog 38 #[.pointer (some ⟨R,0,none⟩),.int .i64 k,.string s] u w fun e u' w'=>u'=u∧(e=.returned (.tuple #[])∧Ct R A l.length c V (bO l k (bs s) i x).1 (bO l k (bs s) i x).2 w w'):=by
 have c2:=hR.c2;have fC:=hR.lt;obtain⟨F,D⟩:=ak (fun(e:Ending)(w':World)=>e=.returned (.tuple #[])∧Ct R A l.length c V (bO l k (bs s) i x).1 (bO l k (bs s) i x).2 w w');show CallsD _ _ _ _ _ (fun e u' w'=>u'=u∧(fun(e:Ending)(w':World)=>e=.returned (.tuple #[])∧Ct R A l.length c V (bO l k (bs s) i x).1 (bO l k (bs s) i x).2 w w') e w');rw[←D];have HR:=Hd hR;unfold bO at D
 by_cases hx:x=0
 ·subst hx;have O:=DT R A c i l 0 V k s w hR hP (hi rfl);rw[iN (fun h=>h rfl)]at D;have vN:=Hd (fun(w':World)(h:kF w' R A l.length c i 0 V)=>qK R A l.length c i 0 16 V w' h);obtain⟨r,hr⟩:=aj (ah l i k (bs s));rw[←hr]at O D;have Y:=Hd O;clear O hr hR hP;cases r
  ·go_enter_d Tryz.func38,Tryz.ntmps38
   go_wp2_with fail;refine Y.mono ?_;rintro e w' ⟨rfl,G⟩;have I:=Hd G;clear G;go_wp2_with fail;refine(vN w' I.1).mono ?_;rintro e w2 ⟨rfl,G⟩;have J:=Hd (I.trans G);clear G;go_wp2_with fail;refine bR (v:=.tuple #[]) (results_none rfl _ _ _) rfl ?_;rw[D];exact⟨rfl,J⟩
  ·go_enter_d Tryz.func38,Tryz.ntmps38
   go_wp2_with fail;refine Y.mono ?_;rintro e w' ⟨rfl,G⟩;have I:=Hd G;clear G;go_wp2_with fail;refine bR (v:=.tuple #[]) (results_none rfl _ _ _) rfl ?_;rw[D];exact⟨rfl,I⟩
 ·have hb:(x==0)=false:=by simpa using hx
  rw[iP hx]at D;clear hx hR hP
  go_enter_d Tryz.func38,Tryz.ntmps38
  go_wp2_with fail;refine bR (v:=.tuple #[]) (results_none rfl _ _ _) rfl ?_;rw[D];exact⟨rfl,ng (m:=0) HR⟩
def qg(R:Nat)(A:Option Addr)(c:Nat)(l:List Tok)(B:Nat)(w:World)(s:Nat×Int)(G:Nat→List El)(e:Ending)(w':World):Prop:=
 e=.returned (.tuple #[])∧∃V' X',kF w' R A l.length c s.1 s.2 V'∧BJ w' B R V' X' G∧Below B w w'
def ajx(R:Nat):Deferred:={target:=.fn (.func 38) #[],args:=#[.pointer (some ⟨R,0,none⟩),.int .i64 4,.string ⟨#[59]⟩]}
theorem b_{B R:Nat}{w w':World}(h:Only (fun q=>q=R) w w')(D:B≤R)(hw:B≤w.heap.size):Below B w w':=⟨h.os,h.tape,h.output,h.size,fun q hq=>h.block q (by omega) (by omega)⟩
theorem gI{R c j B:Nat}{A:Option Addr}{l:List Tok}{y:Int}{V:Nat→Value}{X:Nat→List (List Value)}{G:Nat→List El}{w w2:World}{tmps:Array Value}{F:Ending→World→Prop}(hF:F=qg R A c l B w (bO l 4 [59] j y) G)
 (hR:kF w2 R A l.length c j y V) (hM:BJ w2 B R V X G) (hb:Below B w w2) (hP:iI w2 R A c l) (jU:B≤R) (hBw:B≤w2.heap.size) (hj:y=0→j≤1000000) (ex:Exit) (hex:ex=.normal∨ex=.ret):bodyPostD Tryz.prog Tryz.f15 F ex {tmps:=tmps,defers:=[ajx R]} w2:=by
 subst hF
 have key:Leaves Tryz.prog Tryz.f15 tmps (qg R A c l B w (bO l 4 [59] j y) G) [ajx R] .returning w2:=by
  refine leaves_cons (f:=38) (args:=#[.pointer (some ⟨R,0,none⟩),.int .i64 4,.string ⟨#[59]⟩]) (by simp) (by simp[go_sem]) ?_;refine(agh .returning R A c j l y V 4 ⟨#[59]⟩ w2 hR hP hj).mono ?_;rintro e u' I ⟨rfl,rfl,D⟩;exact⟨_,results_none rfl _ _ _,rfl,V,X,D.1,hM.only D.2.1,hb.trans (b_ D.2.1 jU hBw)⟩
 rcases hex with rfl|rfl
 ·exact key
 ·exact key
theorem uL{w:World}{R:Nat}{A:Option Addr}{c i:Nat}{l:List Tok}{k:Int}{s:Bs}(hP:iI w R A c l)(h:ah l i k s=true):∃b off,A=some ⟨b,off,none⟩∧b≠R∧b<w.heap.size∧i<l.length∧w.cell? ⟨b,off+i*4,none⟩=some (.int .i64 k)∧w.cell? ⟨b,off+i*4+2,none⟩=some (.string ⟨s.toArray⟩):=by
 have hi:=Ck h;unfold ah at h
 cases ht:l[i]? with
 |none=>rw[ht]at h;cases h
 |some t=>
  rw[ht]at h;simp only[Bool.and_eq_true,decide_eq_true_iff]at h
  rcases hP.toks with h0|⟨b,off,rfl,hb,hc⟩
  ·rw[h0]at ht;simp at ht
  have D:=hc i t ht 0 (by omega);have G:=hc i t ht 2 (by omega);simp only[fZ,Nat.add_zero]at D G;rw[h.1]at D;rw[h.2]at G;exact⟨b,off,rfl,hP.apart _ rfl,hb,hi,D,G⟩
def ji:Nat→Bs
 |0=>kV
 |1=>kW
 |2=>iA
 |3=>eZ
 |4=>fE
 |5=>fP
 |6=>jL
 |_=>pI
def kC(l:List Tok)(k i:Nat):El×Nat×Int:=
 match k with
 |0=>(.var ⟨(nJ l i 0).1.1,(nJ l i 0).1.2.1,(nJ l i 0).1.2.2.1,(nJ l i 0).1.2.2.2⟩,(nJ l i 0).2)
 |1=>(.defs ⟨(lq l i 0).1.1,(lq l i 0).1.2⟩,(lq l i 0).2)
 |2=>(.init (dK l i 0).1,(dK l i 0).2)
 |3=>(.bF (dK l i 0).1,(dK l i 0).2)
 |4=>(.next ⟨(lq l i 0).1.1,(lq l i 0).1.2⟩,(lq l i 0).2)
 |5=>(.trans (dK l i 0).1,(dK l i 0).2)
 |6=>(.fair (dK l i 0).1,(dK l i 0).2)
 |_=>(.spec ⟨(bX l i 0).1,(ow l (bO l 4 [58] (bX l i 0).2.1 (bX l i 0).2.2).1 (bO l 4 [58] (bX l i 0).2.1 (bX l i 0).2.2).2).1⟩,(ow l (bO l 4 [58] (bX l i 0).2.1 (bX l i 0).2.2).1 (bO l 4 [58] (bX l i 0).2.1 (bX l i 0).2.2).2).2)
theorem qZ.shape{w:World}{B R k:Nat}{V:Nat→Value}{X:Nat→List (List Value)}{G:Nat→List El}(h:BJ w B R V X G)(I:k<8):∃a D,V k=.slice a (G k).length D∧(G k).length≤D∧D≤maxLen:=by
 rcases(h.own k I trivial).2 with⟨h1,h2⟩|⟨g,cap,cur,h1,-,-,h2,h3,-⟩
 ·exact⟨none,0,by rw[h1,h2],by omega,zl _⟩
 ·exact⟨_,cap,h1,h2,h3⟩
theorem iI.below{w w':World}{R c B:Nat}{A:Option Addr}{l:List Tok}(h:iI w R A c l)(hb:Below B w w')(hA:∀a,A=some a→a.block<B):iI w' R A c l:=by
 refine⟨?_,h.cap,h.bU,h.len,h.apart,h.txt,h.rng⟩
 rcases h.toks with h0|⟨b,off,rfl,G,hc⟩
 ·exact .inl h0
 ·exact .inr ⟨b,off,rfl,lL G hb.size,fun k z I j D=>(hb.cell (p:=⟨b,off+k*4+j,none⟩) (show b<B from hA _ rfl)).trans (hc k z I j D)⟩
structure DS(w:World)(B R:Nat)(A:Option Addr)(n c:Nat)(V:Nat→Value)(X:Nat→List (List Value))(G:Nat→List El)(i:Nat)(x:Int)(D S:Nat→Prop)(W:World):Prop where
 bN:kF W R A n c i x V
 own:qZ W B R V X G D S
 mW:Below B w W
 bR:B≤R
 big:B≤W.heap.size
section
variable {w W W':World} {B R n c i j k:Nat} {A:Option Addr} {x y:Int} {V:Nat→Value} {X:Nat→List (List Value)} {G:Nat→List El} {D S:Nat→Prop}
theorem DS.only(h:DS w B R A n c V X G i x D S W)(hr:kF W' R A n c j y V)(I:Only (fun q=>q=R) W W'):DS w B R A n c V X G j y D S W':=⟨hr,h.own.only I,h.mW.trans (b_ I h.bR h.big),h.bR,Nat.le_trans h.big I.size⟩
theorem DS.below(h:DS w B R A n c V X G i x D S W)(hb:Below W.heap.size W W'):DS w B R A n c V X G i x D S W':=h.only (h.bN.below hb h.bN.lt) (Ob hb)
theorem DS.grown{g:Nat}(h:DS w B R A n c V X G i x D S W)(O:k<8)(I:W.grownBy W' (V k).ownBlock)(J:(V k).ownBlock=some g∨g=W.heap.size):DS w B R A n c V X G i x (fun j=>j≠k∧D j) (fun q=>S q∧q≠g) W':=
 ⟨(I.block R h.bN.lt (fun e=>(h.own.lt k O R e.symm).2.2 rfl)).trans h.bN,h.own.grown O I J,h.mW.grown I h.big (fun q hq=>(h.own.lt k O q hq).1),h.bR,Nat.le_trans h.big I.size⟩
theorem DS.aside{b:Nat}(h:DS w B R A n c V X G i x (fun j=>j≠k∧D j) S W)(I:Only (fun q=>q=b) W W')(hb:∀q,S q→q≠b)(Y:∀j,j<8→j≠k→(V j).ownBlock≠some b)(J:b≠R)(O:B≤b):DS w B R A n c V X G i x (fun j=>j≠k∧D j) S W':=
 ⟨(I.block R h.bN.lt (fun e=>J e.symm)).trans h.bN,h.own.aside (fun e=>e.1 rfl) I hb Y,h.mW.trans ⟨I.os,I.tape,I.output,I.size,fun q hq=>I.block q (by have:=h.big;omega) (by omega)⟩,h.bR,Nat.le_trans h.big I.size⟩
end
theorem qO{W:World}{B n g cap o:Nat}{T:TypeId}{xs:List Value}{z0 D z2 z3 v0 v1 v2 v3:Value}(h:W.ownsRow B T 4 (.slice (some ⟨g,0,none⟩) n cap) n (xs++[z0,D,z2,z3]))(G:xs.length=o):((((W.setCell ⟨g,o,none⟩ v0).setCell ⟨g,o+1,none⟩ v1).setCell ⟨g,o+2,none⟩ v2).setCell ⟨g,o+3,none⟩ v3).ownsRow B T 4 (.slice (some ⟨g,0,none⟩) n cap) n (xs++[v0,v1,v2,v3]):=by
 have x:=((((h.stored o v0).1.stored (o+1) v1).1.stored (o+2) v2).1.stored (o+3) v3).1
 have e:((((xs++([z0,D,z2,z3]:List Value)).set o v0).set (o+1) v1).set (o+2) v2).set (o+3) v3=xs++[v0,v1,v2,v3]:=by
  rw[←G];simp[List.set_append_right]
 rw[e]at x;exact x
theorem CP{W:World}{b o:Nat}(v0 v1 v2 v3:Value):Only (fun q=>q=b) W ((((W.setCell ⟨b,o,none⟩ v0).setCell ⟨b,o+1,none⟩ v1).setCell ⟨b,o+2,none⟩ v2).setCell ⟨b,o+3,none⟩ v3):=((setAt _).trans (setAt _)).trans ((setAt _).trans (setAt _))
def cT:Nat→Tm→El
 |2=>.init|3=>.bF|5=>.trans|_=>.fair
def cD:Nat→Df→El
 |1=>.defs|_=>.next
end Go.Proofs.YtkhoeoilamddaaaGreatDoor
