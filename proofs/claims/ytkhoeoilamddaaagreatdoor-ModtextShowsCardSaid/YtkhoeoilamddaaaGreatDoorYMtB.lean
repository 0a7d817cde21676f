/- Walks and plain words: MtB MtS PrsB PrsC. -/
import Derived.Test.YtkhoeoilamddaaaGreatDoorYMwE
namespace Go.Proofs.YtkhoeoilamddaaaGreatDoor
open Go.RowKit
set_option linter.unusedVariables false
set_option maxRecDepth 100000
set_option maxHeartbeats 8000000
theorem Ud{w:World}{R:Nat}{A:Option Addr}{c i:Nat}{l:List Tok}{k:Int}(hP:iI w R A c l)(h:jd l i k=true):∃t b off,l[i]?=some t∧A=some ⟨b,off,none⟩∧b≠R∧b<w.heap.size∧i<l.length∧(pJ l i=t.text)∧rC l i=t.n∧-1000000≤t.n∧t.n≤1000000 ∧
 w.cell? ⟨b,off+i*4,none⟩=some (.int .i64 k)∧w.cell? ⟨b,off+i*4+1,none⟩=some (.int .i64 t.n)∧w.cell? ⟨b,off+i*4+2,none⟩=some (.string ⟨t.text.toArray⟩):=by
 obtain⟨t,ht,hk⟩:=wh h
 rcases hP.toks with h0|⟨b,off,rfl,hb,hc⟩
 ·rw[h0]at ht;simp at ht
 have x0:=hc i t ht 0 (by omega);have x1:=hc i t ht 1 (by omega);have x2:=hc i t ht 2 (by omega);simp only[fZ,Nat.add_zero]at x0 x1 x2;rw[hk]at x0;exact⟨t,b,off,ht,rfl,hP.apart _ rfl,hb,(gE.1 ht).1,by unfold pJ;rw[ht],by unfold rC;rw[ht],(hP.rng t (mG ht)).1,(hP.rng t (mG ht)).2,x0,x1,x2⟩
theorem Ue{w:World}{R:Nat}{A:Option Addr}{c i:Nat}{l:List Tok}{k:Int}(hP:iI w R A c l)(h:jd l i k=false):l.length≤i∨∃(t:Tok)(b off:Nat),A=some ⟨b,off,none⟩∧b≠R∧b<w.heap.size∧i<l.length∧t.kind≠k∧w.cell? ⟨b,off+i*4,none⟩=some (.int .i64 t.kind):=by
 rcases DJ h with h|⟨t,ht,hk⟩
 ·exact .inl h
 rcases hP.toks with h0|⟨b,off,rfl,hb,hc⟩
 ·rw[h0]at ht;simp at ht
 have x0:=hc i t ht 0 (by omega);simp only[fZ,Nat.add_zero]at x0;exact .inr ⟨t,b,off,rfl,hP.apart _ rfl,hb,(gE.1 ht).1,hk,x0⟩
theorem I9(R:Nat)(A:Option Addr)(c i:Nat)(l:List Tok)(x:Int)(V:Nat→Value)(w:World)(hR:kF w R A l.length c i x V)(hP:iI w R A c l)(hi:i≤l.length) :
 Calls Tryz.prog 43 #[.pointer (some ⟨R,0,none⟩)] w fun e w'=>e=.returned (.string (bX l i x).1)∧Ct R A l.length c V (bX l i x).2.1 (bX l i x).2.2 w w':=by
 obtain⟨F,HF⟩:=ak (fun(e:Ending)(w':World)=>e=.returned (.string (bX l i x).1)∧Ct R A l.length c V (bX l i x).2.1 (bX l i x).2.2 w w');rw[←HF];have HR:=Hd hR;unfold bX at HF;have c2:=hR.c2;have fC:=hR.lt
 by_cases hx:x=0
 ·subst hx;rw[iN (fun h=>h rfl)]at HF;have c0:=hR.c0;have c1:=hR.c1;have f1:=hR.frozen 1;have hlen:=hP.len;have hcap:=hP.cap;have aQ:=hP.bU;unfold maxLen at aQ;have hk0:(0:Int)≤(i:Int):=by omega
  by_cases hk:jd l i 2=true
  ·rw[iP hk]at HF;obtain⟨t,b,off,-,rfl,hbR,hb,hin,htx,-,-,-,x0,-,x2⟩:=Ud hP hk;rw[htx]at HF;obtain⟨n,hn⟩:=aj l.length;rw[←hn]at HR HF c0 hlen hcap hin hi;have hk1:(i:Int)<(n:Int):=by omega
   have L8:decide ((n:Int)≤(i:Int))=false:=dF (by omega);have Cj:decide (n≤i)=false:=dF (by omega);have hsub:IntKind.i64.wrap ((i:Int)+1-1)=(i:Int):=by rw[show(i:Int)+1-1=(i:Int) by omega];exact IntWalk.i64_in _ (by omega)
   have hsub2:IntKind.i64.wrap (i:Int)=(i:Int):=IntWalk.i64_in _ (by omega);have Tg:R≠b:=fun h=>hbR h.symm;clear hR hP hk hn hin htx;go_in;go_wp2_with fail
   go_quiet (fail)
   go_wp2_with fail
   go_quiet (fail)
   go_wp2_with fail;rw[HF];exact⟨rfl,((ng HR).next).drewN _⟩
  ·have sF:jd l i 2=false:=by simpa using hk
   rw[iN hk]at HF;have vN:=Hd (fun m=>qK R A l.length c i 0 16 V (w.drewN m) (hR.drewN m));obtain⟨n,hn⟩:=aj l.length
   have hcl:∃u:Bool,(u=true→n≤i)∧(u=false→∃(t:Tok)(b off:Nat),A=some ⟨b,off,none⟩∧b≠R∧b<w.heap.size∧i<n∧t.kind≠2∧w.cell? ⟨b,off+i*4,none⟩=some (.int .i64 t.kind)):=by
    rcases Ue hP sF with h|h
    ·exact⟨true,fun _=>by rw[hn];exact h,fun h=>nomatch h⟩
    ·exact⟨false,fun h=>(nomatch h),fun _=>by rw[hn];exact h⟩
   rw[←hn]at HR HF vN c0 hlen hcap hi;clear hR hP hk sF hn;obtain⟨u,hu1,hu2⟩:=hcl;cases u
   ·obtain⟨t,b,off,rfl,hbR,hb,hin,hk,x0⟩:=hu2 rfl;have hk1:(i:Int)<(n:Int):=by omega
    have L8:decide ((n:Int)≤(i:Int))=false:=dF (by omega);have Cj:decide (n≤i)=false:=dF (by omega);have hkb:(t.kind != 2)=true:=by simpa using hk
    have hkb2:(t.kind==2)=false:=by simpa using hk
    clear hu1 hu2 hk hin;go_in;go_wp2_with fail
    go_quiet (fail)
    go_wp2_with fail;refine(vN _).mono ?_;rintro e w' ⟨rfl,hg⟩;have HG:=Hd ((ng HR).trans hg);clear hg;go_wp2_with fail;rw[HF];exact⟨rfl,HG⟩
   ·have hge:=hu1 rfl;have L8:decide ((n:Int)≤(i:Int))=true:=decide_eq_true (by omega);have Cj:decide (n≤i)=true:=decide_eq_true hge;have hge':(n:Int)≤(i:Int):=by omega
    clear hu1 hu2 hge;go_in;go_wp2_with fail
    go_quiet (fail)
    go_wp2_with fail;refine(vN _).mono ?_;rintro e w' ⟨rfl,hg⟩;have HG:=Hd ((ng HR).trans hg);clear hg;go_wp2_with fail;rw[HF];exact⟨rfl,HG⟩
 ·have hb:(x != 0)=true:=by simpa using hx
  rw[iP hx]at HF;clear hx hR hP;go_in;go_wp2_with fail;rw[HF];exact⟨rfl,ng (m:=0) HR⟩
theorem Uf(R:Nat)(A:Option Addr)(c i:Nat)(l:List Tok)(x:Int)(V:Nat→Value)(w:World)(hR:kF w R A l.length c i x V)(hP:iI w R A c l)(hi:i≤l.length) :
 Calls Tryz.prog 80 #[.pointer (some ⟨R,0,none⟩)] w fun e w'=>e=.returned (.int .i64 (I8 l i x).1)∧Ct R A l.length c V (I8 l i x).2.1 (I8 l i x).2.2 w w':=by
 obtain⟨F,HF⟩:=ak (fun(e:Ending)(w':World)=>e=.returned (.int .i64 (I8 l i x).1)∧Ct R A l.length c V (I8 l i x).2.1 (I8 l i x).2.2 w w');rw[←HF];have HR:=Hd hR;unfold I8 at HF;have c2:=hR.c2;have fC:=hR.lt
 by_cases hx:x=0
 ·subst hx;rw[iN (fun h=>h rfl)]at HF;have hlen:=hP.len;have hcap:=hP.cap;have aQ:=hP.bU;unfold maxLen at aQ;have lM:=DT R A c i l 0 V 4 ⟨#[45]⟩ w hR hP (by omega);have hjl:BD l i≤l.length+1:=by unfold BD;split<;>omega
  obtain⟨j,hj⟩:=aj (BD l i);obtain⟨r,hr⟩:=aj (ah l i 4 [45]);rw[show bs ⟨#[45]⟩=[45]from rfl,show(if ah l i 4 [45]=true then i+1 else i)=j by rw[hj];rfl,←hr]at lM;rw[←hj,←hr]at HF;rw[←hj]at hjl;have Uc:=Hd lM;have HP:=Hd hP;have hk0:(0:Int)≤(j:Int):=by omega
  clear lM hj hr hR hP
  by_cases hk:jd l j 1=true
  ·rw[iP hk]at HF;obtain⟨t,b,off,-,hA,hbR,hb,hin,-,hnn,hr1,hr2,x0,x1,-⟩:=Ud HP hk;rw[hnn]at HF;obtain⟨tn,htn⟩:=aj t.n;rw[←htn]at HF hr1 hr2 x1;subst hA;obtain⟨n,hn⟩:=aj l.length;rw[←hn]at HR HF Uc hlen hcap hin hi;have hk1:(j:Int)<(n:Int):=by omega
   have L8:decide ((n:Int)≤(j:Int))=false:=dF (by omega);have Cj:decide (n≤j)=false:=dF (by omega);have hneg:IntKind.i64.wrap (- tn)=- tn:=IntWalk.i64_in _ (by omega);have Tg:R≠b:=fun h=>hbR h.symm;have X0:=Hd x0;have X1:=Hd x1;clear hk hn hin hnn htn x0 x1 hjl;cases r
   all_goals
    go_in;go_wp2_with fail;refine Uc.mono ?_;rintro e w1 ⟨rfl,hg⟩;have c0:=hg.1.c0;have c1:=hg.1.c1;have f1:=hg.1.frozen 1;have sQ:=hg.1.lt;have hb1:b<w1.heap.size:=by rw[hg.2.2];exact hb
    have x0:w1.cell? ⟨b,off+j*4,none⟩=some (.int .i64 1):=by rw[hg.2.1.cell hb hbR];exact X0
    have x1:w1.cell? ⟨b,off+j*4+1,none⟩=some (.int .i64 tn):=by rw[hg.2.1.cell hb hbR];exact X1
    have HG:=Hd hg;clear hg c2 fC;go_wp2_with fail
    go_quiet (fail)
    go_wp2_with fail
    go_quiet (fail)
    go_wp2_with fail;rw[HF];exact⟨rfl,((HG.drewN _).next)⟩
  ·have sF:jd l j 1=false:=by simpa using hk
   rw[iN hk]at HF;have vN:=Hd (fun w' m (h:kF w' R A l.length c j 0 V)=>qK R A l.length c j 0 16 V (w'.drewN m) (h.drewN m));obtain⟨n,hn⟩:=aj l.length
   have hcl:∃u:Bool,(u=true→n≤j)∧(u=false→∃(t:Tok)(b off:Nat),A=some ⟨b,off,none⟩∧b≠R∧b<w.heap.size∧j<n∧t.kind≠1∧w.cell? ⟨b,off+j*4,none⟩=some (.int .i64 t.kind)):=by
    rcases Ue HP sF with h|h
    ·exact⟨true,fun _=>by rw[hn];exact h,fun h=>nomatch h⟩
    ·exact⟨false,fun h=>(nomatch h),fun _=>by rw[hn];exact h⟩
   rw[←hn]at HR HF vN Uc hlen hcap hi hjl;clear hk sF hn HP;obtain⟨u,hu1,hu2⟩:=hcl;cases u
   ·obtain⟨t,b,off,rfl,hbR,hb,hin,hk,hx0⟩:=hu2 rfl;have hk1:(j:Int)<(n:Int):=by omega
    have L8:decide ((n:Int)≤(j:Int))=false:=dF (by omega);have Cj:decide (n≤j)=false:=dF (by omega);have hkb:(t.kind != 1)=true:=by simpa using hk
    have hkb2:(t.kind==1)=false:=by simpa using hk
    have X0:=Hd hx0;clear hu1 hu2 hk hin hx0;cases r
    all_goals
     go_in;go_wp2_with fail;refine Uc.mono ?_;rintro e w1 ⟨rfl,hg⟩;have c0:=hg.1.c0;have c1:=hg.1.c1;have sQ:=hg.1.lt;have hb1:b<w1.heap.size:=by rw[hg.2.2];exact hb
     have x0:w1.cell? ⟨b,off+j*4,none⟩=some (.int .i64 t.kind):=by rw[hg.2.1.cell hb hbR];exact X0
     have HG:=Hd hg;clear hg c2 fC;go_wp2_with fail
     go_quiet (fail)
     go_wp2_with fail;refine(vN w1 _ HG.1).mono ?_;rintro e w2 ⟨rfl,hg⟩;have HG2:=Hd ((HG.drewN _).trans hg);clear hg;go_wp2_with fail;rw[HF];exact⟨rfl,HG2⟩
   ·have hge:=hu1 rfl;have L8:decide ((n:Int)≤(j:Int))=true:=decide_eq_true (by omega);have Cj:decide (n≤j)=true:=decide_eq_true hge;have hge':(n:Int)≤(j:Int):=by omega
    clear hu1 hu2 hge;cases r
    all_goals
     go_in;go_wp2_with fail;refine Uc.mono ?_;rintro e w1 ⟨rfl,hg⟩;have c0:=hg.1.c0;have c1:=hg.1.c1;have sQ:=hg.1.lt;have HG:=Hd hg;clear hg c2 fC;go_wp2_with fail
     go_quiet (fail)
     go_wp2_with fail;refine(vN w1 _ HG.1).mono ?_;rintro e w2 ⟨rfl,hg⟩;have HG2:=Hd ((HG.drewN _).trans hg);clear hg;go_wp2_with fail;rw[HF];exact⟨rfl,HG2⟩
 ·have hb:(x != 0)=true:=by simpa using hx
  rw[iP hx]at HF;clear hx hR hP;go_in;go_wp2_with fail;rw[HF];exact⟨rfl,ng (m:=0) HR⟩
set_option maxHeartbeats 16000000
theorem afW{W:World}{b:Nat}{vs:Array Value}{T:TypeId}{z:Nat×Nat}(h:W.heap[b]?=some (.cells vs T z))(o:Nat)(v:Value):(W.setCell ⟨b,o,none⟩ v).heap[b]?=some (.cells (vs.setIfInBounds o v) T z):=by
 simp[World.setCell,Array.getElem?_modify,h]
structure Od(w:World)(R:Nat)(A:Option Addr)(n c i:Nat)(x:Int)(V:Nat→Value)(bx:Nat)(OB:Obj)(W:World):Prop where
 bN:kF W R A n c i x V
 only:Only (fun q=>q=R) w W
 box:W.heap[bx]?=some OB
section
variable {w W W':World} {R n c i b bx j:Nat} {A:Option Addr} {x y:Int} {V:Nat→Value} {OB:Obj}
theorem Od.below(h:Od w R A n c i x V bx OB W)(hb:Below W.heap.size W W'):Od w R A n c i x V bx OB W':=⟨h.bN.below hb h.bN.lt,h.only.trans (Ob hb),(hb.block bx (lH h.box)).trans h.box⟩
theorem Od.aside(h:Od w R A n c i x V bx OB W)(ho:Only (fun q=>q=b) W W')(hw:w.heap.size≤b)(hb:b≠bx)(hR:b≠R):Od w R A n c i x V bx OB W':=⟨(ho.block R h.bN.lt (fun e=>hR e.symm)).trans h.bN,⟨ho.os.trans h.only.os,ho.tape.trans h.only.tape,ho.output.trans h.only.output,Nat.le_trans h.only.size ho.size,fun q hq hf=>(ho.block q (lL hq h.only.size) (by omega)).trans (h.only.block q hq hf)⟩,(ho.block bx (lH h.box) (fun e=>hb e.symm)).trans h.box⟩
theorem Od.go(h:Od w R A n c i x V bx OB W)(hg:kF W' R A n c j y V∧Only (fun q=>q=R) W W')(hR:bx≠R):Od w R A n c j y V bx OB W':=⟨hg.1,h.only.trans hg.2,(hg.2.block bx (lH h.box) hR).trans h.box⟩
end
theorem Ct.two{R n c j:Nat}{A:Option Addr}{x:Int}{V:Nat→Value}{w w':World}(h:Ct R A n c V j x w w'):kF w' R A n c j x V∧Only (fun q=>q=R) w w':=⟨h.1,h.2.1⟩
def Er(R:Nat)(A:Option Addr)(n c:Nat)(V:Nat→Value)(j:Nat)(x:Int)(w w':World):Prop:=kF w' R A n c j x V∧Only (fun q=>q=R) w w'
theorem AU{W:World}{b:Nat}(v0 v1 v2 v3:Value):Only (fun q=>q=b) W ((((W.setCell ⟨b,0,none⟩ v0).setCell ⟨b,1,none⟩ v1).setCell ⟨b,2,none⟩ v2).setCell ⟨b,3,none⟩ v3):=((((((((Only.refl (F:=fun q=>q=b)).bq (show b=b from rfl) _)).bq (show b=b from rfl) _)).bq (show b=b from rfl) _)).bq (show b=b from rfl) _)
theorem GU{W:World}{b:Nat}(v0 v1 v2 v3 v4 v5:Value):Only (fun q=>q=b) W ((((((W.setCell ⟨b,0,none⟩ v0).setCell ⟨b,1,none⟩ v1).setCell ⟨b,2,none⟩ v2).setCell ⟨b,3,none⟩ v3).setCell ⟨b,4,none⟩ v4).setCell ⟨b,5,none⟩ v5):=((((((((((((Only.refl (F:=fun q=>q=b)).bq (show b=b from rfl) _)).bq (show b=b from rfl) _)).bq (show b=b from rfl) _)).bq (show b=b from rfl) _)).bq (show b=b from rfl) _)).bq (show b=b from rfl) _)
theorem GV{w W W':World}{R n c i bx:Nat}{A:Option Addr}{x:Int}{V:Nat→Value}{OB:Obj}(h:Od w R A n c i x V bx OB W)(ho:Only (fun q=>q=bx) W W')(hw:w.heap.size≤bx)(hR:bx≠R):Er R A n c V i x w W':=⟨(ho.block R h.bN.lt (fun e=>hR e.symm)).trans h.bN,⟨ho.os.trans h.only.os,ho.tape.trans h.only.tape,ho.output.trans h.only.output,Nat.le_trans h.only.size ho.size,fun q hq hf=>(ho.block q (lL hq h.only.size) (by omega)).trans (h.only.block q hq hf)⟩⟩
theorem s4A{W:World}{b:Nat}{v0 v1 v2 v3 u0 u1 u2 u3:Value}{T:TypeId}(h:W.heap[b]?=some (.cells #[u0,u1,u2,u3] T (0,0))):((((W.setCell ⟨b,0,none⟩ v0).setCell ⟨b,1,none⟩ v1).setCell ⟨b,2,none⟩ v2).setCell ⟨b,3,none⟩ v3).heap[b]?=some (.cells #[v0,v1,v2,v3] T (0,0)):=by
 simp[World.setCell,Array.getElem?_modify,h]
theorem s5A{W:World}{b:Nat}{v0 v1 v2 v3 v4 u0 u1 u2 u3 u4:Value}{T:TypeId}(h:W.heap[b]?=some (.cells #[u0,u1,u2,u3,u4] T (0,0))):(((((W.setCell ⟨b,0,none⟩ v0).setCell ⟨b,1,none⟩ v1).setCell ⟨b,2,none⟩ v2).setCell ⟨b,3,none⟩ v3).setCell ⟨b,4,none⟩ v4).heap[b]?=some (.cells #[v0,v1,v2,v3,v4] T (0,0)):=by
 simp[World.setCell,Array.getElem?_modify,h]
theorem aaQ{W:World}{b:Nat}(v0 v1 v2 v3 v4:Value):Only (fun q=>q=b) W (((((W.setCell ⟨b,0,none⟩ v0).setCell ⟨b,1,none⟩ v1).setCell ⟨b,2,none⟩ v2).setCell ⟨b,3,none⟩ v3).setCell ⟨b,4,none⟩ v4):=((((((((((Only.refl (F:=fun q=>q=b)).bq (show b=b from rfl) _)).bq (show b=b from rfl) _)).bq (show b=b from rfl) _)).bq (show b=b from rfl) _)).bq (show b=b from rfl) _)
theorem q5{w:World}{b:Nat}{T:TypeId}{u0 u1 u2 u3 u4:Value}(h:w.heap[b]?=some (.cells #[u0,u1,u2,u3,u4] T (0,0))):w.cell? ⟨b,0,none⟩=some u0∧w.cell? ⟨b,1,none⟩=some u1∧w.cell? ⟨b,2,none⟩=some u2∧w.cell? ⟨b,3,none⟩=some u3∧w.cell? ⟨b,4,none⟩=some u4∧∀j,w.frozen? ⟨b,j,none⟩=false:=
 ⟨pG h 0 rfl,pG h 1 rfl,pG h 2 rfl,pG h 3 rfl,pG h 4 rfl,frz h⟩
theorem q7{w:World}{b:Nat}{T:TypeId}{u0 u1 u2 u3 u4 u5 u6:Value}(h:w.heap[b]?=some (.cells #[u0,u1,u2,u3,u4,u5,u6] T (0,0))):w.cell? ⟨b,0,none⟩=some u0∧w.cell? ⟨b,1,none⟩=some u1∧w.cell? ⟨b,2,none⟩=some u2∧w.cell? ⟨b,3,none⟩=some u3∧w.cell? ⟨b,4,none⟩=some u4∧w.cell? ⟨b,5,none⟩=some u5∧w.cell? ⟨b,6,none⟩=some u6∧∀j,w.frozen? ⟨b,j,none⟩=false:=
 ⟨pG h 0 rfl,pG h 1 rfl,pG h 2 rfl,pG h 3 rfl,pG h 4 rfl,pG h 5 rfl,pG h 6 rfl,frz h⟩
def uF(w:World)(b:Nat)(l:List Int):Prop:=∀j z,l[j]?=some z→w.cell? ⟨b,j,none⟩=some (.int .i64 z)
theorem uF.drewN{w:World}{b:Nat}{l:List Int}(h:uF w b l)(m:Nat):uF (w.drewN m) b l:=h
theorem tY(w:World)(l:List Int):uF (w.alloc (.cells (l.map fun z=>Value.int .i64 z).toArray 3)) w.heap.size l:=fun j z hj=>by
 rw[cR _ w.heap.size j _ _ (0,0) (eu w _)];simp[hj]
theorem Xa(l:List Tok)(i:Nat):∀(ops:List Int)(k:Nat)(op:Int),ops[k]?=some op→au l i (ops.drop k)=if (if op=17 then ah l i 3 [109,111,100]else ah l i 4 (iy op))=true then op else au l i (ops.drop (k+1)):=by
 intro ops k op h;obtain⟨hj,hj2⟩:=gE.1 h;rw[List.drop_eq_getElem_cons hj,hj2,au]
theorem zR(R:Nat)(A:Option Addr)(c i d:Nat)(l:List Tok)(bo co:Nat)(ops:List Int)(w:World)(hR:iZ w R A l.length c i d)(hP:iI w R A c l)(hi:i≤1000000)(ho:uF w bo ops)(hol:ops.length≤20)(hb:bo<w.heap.size) :
 Calls Tryz.prog 146 #[.pointer (some ⟨R,0,none⟩),.slice (some ⟨bo,0,none⟩) ops.length co] w fun e w'=>e=.returned (.int .i64 (au l i ops))∧∃n,w'=w.drewN n:=by
 obtain⟨n,HN⟩:=ak ops.length;obtain⟨r,HR⟩:=ak (au l i ops);obtain⟨F,hF⟩:∃F:Ending→World→Prop,F=fun e w'=>e=.returned (.int .i64 r)∧∃n,w'=w.drewN n:=⟨_,rfl⟩;rw[←HN]at hol⊢;rw[←HR,←hF];have dQ:=Hd hR;have HPD:=Hd hP;have fC:=hR.lt;have HF:=Hd hF;have HO:=Hd ho;clear hF hR hP ho;go_in;go_wp2_with fail
 go_loopw [6,9] (fun _ si wr=>∃k m:Nat,k≤n∧si=.int .i64 k∧wr=w.drewN m∧au l i (ops.drop k)=r) (fun _ i _=>n-(intOf i).toNat)
 case atStart=>exact⟨0,0,zl _,rfl,rfl,HR.symm⟩
 case round=>
  obtain⟨k,m,hk,rfl,hwr,hw⟩:=hrel;have hRr:iZ wr R A l.length c i d:=by rw[hwr];exact dQ.drewN m
  have hPr:iI wr R A c l:=by rw[hwr];exact HPD.only (Only.refl.drewN m)
  have hOr:uF wr bo ops:=by rw[hwr];exact HO.drewN m
  have hbr:bo<wr.heap.size:=by rw[hwr];exact hb
  have HFW:Hid (∀q,∃n,wr.drewN q=w.drewN n):=fun q=>⟨m+q,by rw[hwr,World.drewN_drewN]⟩;have HW:=Hd hw;clear hw hwr
  by_cases hlt:k<n
  ·obtain⟨op,hop⟩:∃op,ops[k]?=some op:=⟨_,gG (by have:=HN.out;omega)⟩;have x0:=hOr k op hop;have HD:=Hd (Xa l i ops k op hop);have hk0:(0:Int)≤(k:Int):=by omega
   have hk1:(k:Int)<(n:Int):=by omega
   clear hop
   by_cases Aj:op=17
   ·subst Aj;obtain⟨bw,HB⟩:=ak (ah l i 3 [109,111,100])
    have HI2:Hid (∀q,Calls Tryz.prog 175 #[.pointer (some ⟨R,0,none⟩),.int .i64 3,.string ⟨#[109,111,100]⟩] (wr.drewN q) fun e w'=>e=.returned (.bool bw)∧∃n,w'=(wr.drewN q).drewN n):=fun q=>by
     have h:=DI R A c i d l 3 ⟨#[109,111,100]⟩ (wr.drewN q) (hRr.drewN q) (hPr.only (Only.refl.drewN q)) hi;rw[show ah l i 3 (bs ⟨#[109,111,100]⟩)=bw by rw[HB];rfl]at h;exact h
    clear hRr hPr hOr
    cases bw with
    |true=>
     have HRR:Hid (r=17):=by show _=_;rw[←HW,HD,iP rfl,←HB,iP rfl]
     go_wp2_with fail
     go_quiet ((go_at_call 175;exact Calls.quiet_of (HI2 _)))
     go_wp2_with fail;rw[HF,HRR];exact⟨rfl,HFW _⟩
    |false=>
     have HRR:Hid (au l i (ops.drop (k+1))=r):=by show _=_;rw[←HW,HD,iP rfl,←HB,iN (by decide)]
     go_wp2_with fail
     go_quiet ((go_at_call 175;exact Calls.quiet_of (HI2 _)))
     go_wp2_with fail
     go_roundw
     case rel=>exact⟨k+1,(HFW _).choose,by omega,by go_num,(HFW _).choose_spec,HRR⟩
     case measure=>simp[intOf];omega
   ·obtain⟨bw,HB⟩:=ak (ah l i 4 (iy op));obtain⟨S,hS⟩:∃S:ByteArray,S=⟨(iy op).toArray⟩:=⟨_,rfl⟩
    have HI2:Hid (∀q,Calls Tryz.prog 175 #[.pointer (some ⟨R,0,none⟩),.int .i64 4,.string S] (wr.drewN q) fun e w'=>e=.returned (.bool bw)∧∃n,w'=(wr.drewN q).drewN n):=fun q=>by
     have h:=DI R A c i d l 4 S (wr.drewN q) (hRr.drewN q) (hPr.only (Only.refl.drewN q)) hi;rw[show ah l i 4 (bs S)=bw by rw[HB,hS];rfl]at h;exact h
    have qj:Hid (∀q,Calls Tryz.prog 162 #[.int .i64 op] (wr.drewN q) fun e w'=>e=.returned (.string S)∧w'=wr.drewN q):=fun q=>by
     rw[hS];exact(sS op (wr.drewN q)).mono fun _ _ h=>⟨h.1,h.2.symm⟩
    have H17:=Hd Aj;have aly:(op != 17)=true:=by simpa using Aj
    have alz:(op==17)=false:=by simpa using Aj
    clear hRr hPr hOr Aj hS
    cases bw with
    |true=>
     have HRR:Hid (r=op):=by show _=_;rw[←HW,HD,iN H17.out,←HB,iP rfl]
     go_wp2_with fail
     go_quiet (first|(go_at_call 175;exact Calls.quiet_of (HI2 _))|(go_at_call 162;exact Calls.quiet_of_same (qj _))|fail)
     go_wp2_with fail;rw[HF,HRR];exact⟨rfl,HFW _⟩
    |false=>
     have HRR:Hid (au l i (ops.drop (k+1))=r):=by show _=_;rw[←HW,HD,iN H17.out,←HB,iN (by decide)]
     go_wp2_with fail
     go_quiet (first|(go_at_call 175;exact Calls.quiet_of (HI2 _))|(go_at_call 162;exact Calls.quiet_of_same (qj _))|fail)
     go_wp2_with fail
     go_roundw
     case rel=>exact⟨k+1,(HFW _).choose,by omega,by go_num,(HFW _).choose_spec,HRR⟩
     case measure=>simp[intOf];omega
  ·have hk1:¬(k:Int)<(n:Int):=by omega
   have HRR:Hid (r=0):=by
    show _=_;rw[←HW,List.drop_eq_nil_of_le (by have:=HN.out;omega)]
    rfl
   clear hRr hPr hOr hlt;go_wp2_with fail;rw[HF,HRR];exact⟨rfl,by have:=HFW 0;exact this⟩
structure aR(S:Nat→Prop)(w w':World):Prop where
 size:w.heap.size≤w'.heap.size
 block:∀q,S q→q<w.heap.size→w'.heap[q]?=w.heap[q]?
theorem aR.cell{S:Nat→Prop}{w w':World}(h:aR S w w'){b o:Nat}(hs:S b)(hb:b<w.heap.size):w'.cell? ⟨b,o,none⟩=w.cell? ⟨b,o,none⟩:=World.cell?_of_block (a:=⟨b,o,none⟩) (h.block b hs hb)
theorem aR.refl{S:Nat→Prop}{w:World}:aR S w w:=⟨lr _,fun _ _ _=>rfl⟩
theorem aR.trans{S:Nat→Prop}{w w' w'':World}(h:aR S w w')(k:aR S w' w''):aR S w w'':=⟨Nat.le_trans h.size k.size,fun q hs hq=>(k.block q hs (lL hq h.size)).trans (h.block q hs hq)⟩
theorem aR.cO{S:Nat→Prop}{R:Nat}{w w':World}(h:Only (fun q=>q=R) w w')(hR:¬S R):aR S w w':=⟨h.size,fun q hs hq=>h.block q hq (fun e=>hR (e ▸ hs))⟩
theorem aR.of_below{S:Nat→Prop}{w w':World}(h:Below w.heap.size w w'):aR S w w':=⟨h.size,fun q _ hq=>h.block q hq⟩
theorem aR.set{S:Nat→Prop}{w w':World}(h:aR S w w'){b o:Nat}(hb:¬S b)(v:Value):aR S w (w'.setCell ⟨b,o,none⟩ v):=⟨by simpa using h.size,fun q hs hq=>(iw w' ⟨b,o,none⟩ q v (fun e=>hb (by subst e;exact hs))).trans (h.block q hs hq)⟩
theorem aR.alloc{S:Nat→Prop}{w w':World}(h:aR S w w')(o:Obj):aR S w (w'.alloc o):=⟨by simp;exact Nat.le_succ_of_le h.size,fun q hs hq=>(((Br w'.heap.size w').alloc (lr _) o).block q (lL hq h.size)).trans (h.block q hs hq)⟩
mutual
def uG(S:Nat→Prop)(w:World)(g o:Nat):Tm→Prop
 |.mk op n s l=>w.cell? ⟨g,o,none⟩=some (.int .i64 op)∧w.cell? ⟨g,o+1,none⟩=some (.int .i64 n)∧w.cell? ⟨g,o+2,none⟩=some (.string s)∧s.size≤maxLen ∧
  ∃A c,w.cell? ⟨g,o+3,none⟩=some (.slice A l.length c)∧l.length≤c∧c≤maxLen∧(l=[]∨∃g' o',A=some ⟨g',o',none⟩∧S g'∧g'<w.heap.size∧kZ S w g' o' l)
def kZ(S:Nat→Prop)(w:World)(g o:Nat):List Tm→Prop
 |[]=>True
 |t::r=>uG S w g o t∧kZ S w g (o+4) r
end
def ai8(S:Nat→Prop)(w:World)(A:Option Addr)(l:List Tm):Prop:=l=[]∨∃g' o',A=some ⟨g',o',none⟩∧S g'∧g'<w.heap.size∧kZ S w g' o' l
mutual
theorem uG.afX{S:Nat→Prop}{w:World}:∀{t:Tm}{g o:Nat},uG S w g o t→gB w g o t
 |.mk op n s l,g,o,h=>by
  rw[uG]at h;rw[gB];obtain⟨h0,h1,h2,hs,A,c,h3,h4,h5,h6⟩:=h;refine⟨h0,h1,h2,hs,A,c,h3,h4,h5,?_⟩
  rcases h6 with h6|⟨g',o',hA,_,hg,h6⟩
  ·exact .inl h6
  ·exact .inr ⟨g',o',hA,hg,kZ.Mr h6⟩
theorem kZ.Mr{S:Nat→Prop}{w:World}:∀{l:List Tm}{g o:Nat},kZ S w g o l→mX w g o l
 |[],g,o,h=>by rw[mX];trivial
 |t::r,g,o,h=>by
  rw[kZ]at h;rw[mX];exact⟨uG.afX h.1,kZ.Mr h.2⟩
end
mutual
theorem uG.keep{S S':Nat→Prop}{w w':World}(ho:aR S w w')(hS:∀q,q<w.heap.size→S q→S' q):∀{t:Tm}{g o:Nat},S g→g<w.heap.size→uG S w g o t→uG S' w' g o t
 |.mk op n s l,g,o,hg,hl,h=>by
  rw[uG]at h⊢;obtain⟨h0,h1,h2,hs,A,c,h3,h4,h5,h6⟩:=h;refine⟨by rw[ho.cell hg hl];exact h0,by rw[ho.cell hg hl];exact h1,by rw[ho.cell hg hl];exact h2,hs,A,c,by rw[ho.cell hg hl];exact h3,h4,h5,?_⟩
  rcases h6 with h6|⟨g',o',hA,hn,hg',h6⟩
  ·exact .inl h6
  ·exact .inr ⟨g',o',hA,hS g' hg' hn,lL hg' ho.size,kZ.keep ho hS hn hg' h6⟩
theorem kZ.keep{S S':Nat→Prop}{w w':World}(ho:aR S w w')(hS:∀q,q<w.heap.size→S q→S' q):∀{l:List Tm}{g o:Nat},S g→g<w.heap.size→kZ S w g o l→kZ S' w' g o l
 |[],g,o,_,_,h=>by rw[kZ];trivial
 |t::r,g,o,hg,hl,h=>by
  rw[kZ]at h⊢;exact⟨uG.keep ho hS hg hl h.1,kZ.keep ho hS hg hl h.2⟩
end
structure aD(S:Nat→Prop)(w:World)(A:Option Addr)(c:Nat)(t:Tm):Prop where
 cap:t.kids.length≤c
 bU:c≤maxLen
 name:t.name.size≤maxLen
 kids:ai8 S w A t.kids
theorem aD.toV{S:Nat→Prop}{c:Nat}{w:World}{A:Option Addr}{t:Tm}(h:aD S w A c t):zx w A c t:=⟨h.cap,h.bU,h.name,by
 rcases h.kids with h|⟨g',o',hA,_,hg,h⟩
 ·exact .inl h
 ·exact .inr ⟨g',o',hA,hg,kZ.Mr h⟩⟩
theorem aD.keep{S S':Nat→Prop}{c:Nat}{w w':World}{A:Option Addr}{t:Tm}(h:aD S w A c t)(ho:aR S w w')(hS:∀q,q<w.heap.size→S q→S' q):aD S' w' A c t:=⟨h.cap,h.bU,h.name,by
 rcases h.kids with h|⟨g',o',hA,hs,hg,h⟩
 ·exact .inl h
 ·exact .inr ⟨g',o',hA,hS g' hg hs,lL hg ho.size,kZ.keep ho hS hs hg h⟩⟩
theorem uG.mk{S:Nat→Prop}{w:World}{g o:Nat}{t:Tm}{A:Option Addr}{c:Nat}(h0:w.cell? ⟨g,o,none⟩=some (.int .i64 t.op))(h1:w.cell? ⟨g,o+1,none⟩=some (.int .i64 t.num))(h2:w.cell? ⟨g,o+2,none⟩=some (.string t.name))(h3:w.cell? ⟨g,o+3,none⟩=some (.slice A t.kids.length c))(h:aD S w A c t):uG S w g o t:=by
 cases t with
 |mk op n s l=>
  rw[uG];exact⟨h0,h1,h2,h.name,A,c,h3,h.cap,h.bU,h.kids⟩
theorem aD.leaf{S:Nat→Prop}{w:World}{op n:Int}{s:ByteArray}(hs:s.size≤maxLen):aD S w none 0 (.mk op n s []):=⟨lr _,by unfold maxLen;show 0≤_;omega,hs,.inl rfl⟩
def PQ(R:Nat)(A:Option Addr)(c d:Nat)(l:List Tok)(i:Nat)(r:Rs Tm)(w:World)(e:Ending)(w':World):Prop:=match r with
 |.ok t j=>(∃A' c',e=.returned (t.val A' c')∧aD (fun q=>w.heap.size≤q) w' A' c' t)∧i<j∧j≤l.length∧iZ w' R A l.length c j d∧Only (fun q=>q=R) w w'
 |.bad j x=>e=.panicked (thrown j x)∧Only (fun q=>q=R) w w'
def KR(R:Nat)(A:Option Addr)(c d:Nat)(l:List Tok)(K:FuncId)(x:Value)(Inv:World→Prop)(P:jN):Prop:=
 ∀(i:Nat)(w:World),i≤l.length→iZ w R A l.length c i d→iI w R A c l→Inv w→Calls Tryz.prog K #[x] w (PQ R A c d l i (P i) w)
def abI(m:Bool)(K:FuncId)(x:Value):Value:=if m then .func (.func K) #[x] #[]else .func (.func K) #[] #[x]
theorem yU.only{R n c d j:Nat}{A:Option Addr}{w w':World}(h:yU R A n c d j w w'):Only (fun q=>q=R) w w':=h.2.1
theorem kr{w:World}{b:Nat}{u0 u1 u2 u3:Value}{T:TypeId}(h:w.heap[b]?=some (.cells #[u0,u1,u2,u3] T (0,0))) :
 (w.cell? ⟨b,0,none⟩=some u0∧w.frozen? ⟨b,0,none⟩=false)∧(w.cell? ⟨b,1,none⟩=some u1∧w.frozen? ⟨b,1,none⟩=false)∧(w.cell? ⟨b,2,none⟩=some u2∧w.frozen? ⟨b,2,none⟩=false)∧w.cell? ⟨b,3,none⟩=some u3∧w.frozen? ⟨b,3,none⟩=false:=
 ⟨⟨by rw[cR w b 0 _ _ (0,0) h];rfl,by simp[World.frozen?,h]⟩,⟨by rw[cR w b 1 _ _ (0,0) h];rfl,by simp[World.frozen?,h]⟩,⟨by rw[cR w b 2 _ _ (0,0) h];rfl,by simp[World.frozen?,h]⟩,by rw[cR w b 3 _ _ (0,0) h];rfl,by simp[World.frozen?,h]⟩
theorem sZ{W:World}{o:Obj}{b:Nat}{x:Obj}(h:W.heap[b]?=some x):(W.alloc o).heap[b]?=some x:=(((Br W.heap.size W).alloc (lr _) o).block b (lH h)).trans h
theorem ads{R:Nat}{w W:World}{o:Obj}{v0 v1 v2 v3:Value}(h:Only (fun q=>q=R) w W):Only (fun q=>q=R) w (((((W.setCell ⟨w.heap.size,0,none⟩ v0).setCell ⟨w.heap.size,1,none⟩ v1).setCell ⟨w.heap.size,2,none⟩ v2).setCell ⟨w.heap.size,3,none⟩ v3).alloc o):=by
 refine⟨h.os,h.tape,h.output,by simp;exact Nat.le_succ_of_le h.size,fun q hq hf=>?_⟩;have hne:q≠w.heap.size:=by omega
 rw[((Br _ _).alloc (lr _) o).block q (by simp;exact lL hq h.size),iw _ ⟨w.heap.size,3,none⟩ q _ hne,iw _ ⟨w.heap.size,2,none⟩ q _ hne,iw _ ⟨w.heap.size,1,none⟩ q _ hne,iw _ ⟨w.heap.size,0,none⟩ q _ hne];exact h.block q hq hf
theorem ni{W:World}{b:Nat}{u0 u1 u2 u3 v0 v1 v2 v3:Value}{T:TypeId}(h:W.heap[b]?=some (.cells #[u0,u1,u2,u3] T (0,0))) :
 ((((W.setCell ⟨b,0,none⟩ v0).setCell ⟨b,1,none⟩ v1).setCell ⟨b,2,none⟩ v2).setCell ⟨b,3,none⟩ v3).heap[b]?=some (.cells #[v0,v1,v2,v3] T (0,0)):=by
 simp[World.setCell,Array.getElem?_modify,h]
theorem Cu(R:Nat)(A:Option Addr)(c d:Nat)(l:List Tok)(K:FuncId)(x:Value)(m:Bool)(Inv:World→Prop)(P:jN)(i:Nat)(w:World)(hrun:∀args W,(callFunc K args).run Tryz.prog W=.ok (.enter K args) W)
 (hInv:∀w w',Inv w→Only (fun q=>q=R) w w'→Inv w') (hF:d<256→KR R A c (d+1) l K x Inv P) (hd:d≤256) (hi:i<l.length) (hR:iZ w R A l.length c i d) (hP:iI w R A c l) (hw:Inv w) :
 Calls Tryz.prog 174 #[.pointer (some ⟨R,0,none⟩),abI m K x] w (PQ R A c d l i (if d=256 then .bad i 17 else P (i+1)) w):=by
 have hlen:=hP.len;obtain⟨w1,hw1⟩:=aj (w.alloc (.cells #[.int .i64 0,.int .i64 0,.string ⟨#[]⟩,.slice none 0 0] 64));have hb1:=dz hw1;have hs1:w1.heap.size=w.heap.size+1:=by rw[hw1];simp
 have sQ:=hR.below hb1 hR.lt;have fC:=hR.lt;have d1:=hR.c1;have d2:=hR.c2;have c0:=sQ.c0;have c1:=sQ.c1;have c2:=sQ.c2;have f1:=sQ.frozen 1;have f2:=sQ.frozen 2;have e1:=hR.frozen 1;have e2:=hR.frozen 2;obtain⟨F,HF⟩:=ak (PQ R A c d l i (if d=256 then .bad i 17 else P (i+1)) w);rw[←HF];have HW1:=Hd hw1;have HB1:=Hd hb1;have HR1:=Hd sQ;have HRW:=Hd hR;have Am:=Hd hF;have adt:=Hd hInv;have HP:=Hd hP;have Oe:=Hd hw;clear hw1 hb1 hR sQ hF hInv hP hw
 by_cases gq:d=256
 ·have bE:Hid (F=PQ R A c d l i (.bad i 17) w):=by show _=_;rw[HF,iP gq]
  have hd1:(256:Int)≤(d:Int):=by omega
  have vN:=Hd (zF R A l.length c i d 17 w1 HR1);clear gq;go_in;go_wp2_with fail;rw[←HW1];go_wp2_with fail;refine vN.mono ?_;rintro e w' ⟨rfl,hw'⟩;rw[←hw'];refine(show _∧_ from⟨rfl,?_⟩);rw[bE];exact⟨rfl,Ob HB1⟩
 ·have bE:Hid (F=PQ R A c d l i (P (i+1)) w):=by show _=_;rw[HF,iN gq]
  have hd1:¬(256:Int)≤(d:Int):=by omega
  have hd2:d<256:=by omega
  obtain⟨w3,hw3⟩:=aj (((w.setCell ⟨R,1,none⟩ (.int .i64 ((i:Int)+1))).setCell ⟨R,2,none⟩ (.int .i64 ((d:Int)+1))).alloc (.cells #[.int .i64 0,.int .i64 0,.string ⟨#[]⟩,.slice none 0 0] 64))
  have ho3:Only (fun q=>q=R) w w3:=by
   rw[hw3];exact(((Only.refl (F:=fun q=>q=R)).bq rfl _).bq rfl _).jV ((Br _ _).alloc (lr _) _) (by simp)
  have VU:iZ w3 R A l.length c (i+1) (d+1):=by
   have h:=((HRW.at_ (i+1)).deep (d+1));rw[hw3];refine iZ.below (B:=w.heap.size) (w:=(w.setCell ⟨R,1,none⟩ (.int .i64 ((i:Int)+1))).setCell ⟨R,2,none⟩ (.int .i64 ((d:Int)+1))) ?_ ((Br _ _).alloc (by simp) _) fC;rw[show((i+1:Nat):Int)=(i:Int)+1 from by omega,show((d+1:Nat):Int)=(d:Int)+1 from by omega]at h;exact h
  have hcall:=Am hd2 (i+1) w3 (by omega) VU (HP.only ho3) (adt w w3 Oe ho3);obtain⟨r,hr⟩:=aj (P (i+1));rw[←hr]at hcall bE
  have hb3:w3.heap[w.heap.size]?=some (.cells #[.int .i64 0,.int .i64 0,.string ⟨#[]⟩,.slice none 0 0] 64 (0,0)):=by
   rw[hw3];have h:=eu ((w.setCell ⟨R,1,none⟩ (.int .i64 ((i:Int)+1))).setCell ⟨R,2,none⟩ (.int .i64 ((d:Int)+1))) (.cells #[.int .i64 0,.int .i64 0,.string ⟨#[]⟩,.slice none 0 0] 64)
   simpa using h
  have hs3:w3.heap.size=w.heap.size+1:=by rw[hw3];simp
  have HC:=Hd hcall;have Ai:=Hd ho3;have HB3:=Hd hb3;have HW3:=Hd hw3;clear hcall hr ho3 VU hb3 hw3 gq;cases m
  all_goals
   unfold abI;simp only[if_true,Bool.false_eq_true,if_false];go_in;go_wp2_with fail;rw[←HW3];refine HC.mono ?_;intro e w4 hq
   cases r with
   |bad j x=>
    obtain⟨rfl,iC⟩:=hq;refine(show _∧_ from⟨rfl,?_⟩);rw[bE];exact⟨rfl,Ai.trans iC⟩
   |ok t j=>
    obtain⟨⟨A',c',rfl,hV⟩,hij,hjl,vD,iC⟩:=hq;have HV:=Hd hV;have HR4:=Hd vD;have uX:=Hd (Ai.trans iC);have Og:w.heap.size≠R:=by omega
    have BS:=Hd ((iC.block w.heap.size (by omega) Og).trans HB3);have hs4:=iC.size;have g2:=vD.c2;have k2:=vD.frozen 2;have afD:=vD.lt;have rc:w4.heap.size>w.heap.size:=by omega
    obtain⟨n2,kU⟩:=ak t.kids.length;unfold Tm.val;rw[←kU];obtain⟨v0,v1,v2,v3,zq⟩:=q4 BS;clear hV vD iC;go_wp2_with fail;obtain⟨W5,Es⟩:=aj (w4.setCell ⟨R,2,none⟩ (.int .i64 (d:Nat)))
    have hB5:W5.heap[w.heap.size]?=some (.cells #[.int .i64 0,.int .i64 0,.string ⟨#[]⟩,.slice none 0 0] 64 (0,0)):=by
     rw[Es];exact(iw w4 ⟨R,2,none⟩ w.heap.size _ Og).trans BS
    have hz5:W5.heap.size=w4.heap.size:=by rw[Es];simp
    have hR5:iZ W5 R A l.length c j d:=by rw[Es];exact HR4.deep d
    have Ug:Only (fun q=>q=R) w W5:=by rw[Es];exact uX.bq rfl _
    have Uh:aD (fun q=>w3.heap.size≤q) W5 A' c' t:=by
     rw[Es];exact HV.keep (aR.refl.set (by omega) _) (fun _ _ h=>h)
    rw[←Es];clear Es;have hres:=sZ (o:=.cells #[.int .i64 t.op,.int .i64 t.num,.string t.name,.slice A' n2 c'] 64) (ni (v0:=.int .i64 t.op) (v1:=.int .i64 t.num) (v2:=.string t.name) (v3:=.slice A' n2 c') hB5);refine bR (Gg hres) rfl ?_;rw[bE];refine⟨⟨A',c',by unfold Tm.val;rw[←kU],?_⟩,by omega,hjl,?_,?_⟩
    ·exact Uh.keep (((((aR.refl.set (by omega) _).set (by omega) _).set (by omega) _).set (by omega) _).alloc _) (fun q _ h=>by omega)
    ·have QY:R≠w.heap.size:=fun h=>Og h.symm;refine iZ.below (B:=W5.heap.size) ?_ ((Br _ _).alloc (by simp) _) (by omega);unfold iZ;rw[iw _ ⟨w.heap.size,3,none⟩ R _ QY,iw _ ⟨w.heap.size,2,none⟩ R _ QY,iw _ ⟨w.heap.size,1,none⟩ R _ QY,iw _ ⟨w.heap.size,0,none⟩ R _ QY];exact hR5
    ·exact ads Ug
abbrev Kb:=@aR.of_below
abbrev Kr:=@aR.refl
abbrev aK:=@sZ
end Go.Proofs.YtkhoeoilamddaaaGreatDoor
