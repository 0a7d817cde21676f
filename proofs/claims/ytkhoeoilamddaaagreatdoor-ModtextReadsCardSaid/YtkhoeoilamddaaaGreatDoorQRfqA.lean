/- Walks and plain words: RfqA RfqB. -/
import Derived.Test.YtkhoeoilamddaaaGreatDoorQFrmEs
namespace Go.Proofs.YtkhoeoilamddaaaGreatDoor
open Go.RowKit
set_option linter.unusedVariables false
set_option maxRecDepth 100000
set_option maxHeartbeats 4000000
def uZ(w:World)(r:Rs Fm)(e:Ending)(w':World):Prop:=∃x:FV,e=.returned (.agg #[.int .i64 x.o,.int .i64 x.tn,.int .i64 x.tm,.string x.s,.slice x.Ae x.ne x.ce,.slice x.A x.n x.c,.int .i64 (r.at_:Nat),.int .i64 r.err])∧(∀f j,r=.ok f j→x.Is (fun q=>w.heap.size≤q) w' f)∧Below w.heap.size w w'
def Vp(l:List Tok)(d:Nat)(K:FuncId)(P:gK):Prop:=∀(A:Option Addr)(c i:Nat)(w:World),i≤l.length→dP w A c l→Calls Tryz.prog K #[.slice A l.length c,.int .i64 (i:Nat),.int .i64 (d:Nat)] w (uZ w (P i))
def acS(l:List Tok)(d:Nat)(K:FuncId)(b:Bool)(P:gK):Prop:=∀(A:Option Addr)(c i:Nat)(w:World),i≤l.length→dP w A c l→Calls Tryz.prog K #[.slice A l.length c,.int .i64 (i:Nat),.int .i64 (d:Nat),.bool b] w (uZ w (P i))
theorem ak4{w:World}{b:Nat}{u0 u1 u2 u3 u4 u5 u6 u7:Value}{T:TypeId}(h:w.heap[b]?=some (.cells #[u0,u1,u2,u3,u4,u5,u6,u7] T (0,0))):(w.cell? ⟨b,0,none⟩=some u0∧w.frozen? ⟨b,0,none⟩=false)∧(w.cell? ⟨b,1,none⟩=some u1∧w.frozen? ⟨b,1,none⟩=false)∧(w.cell? ⟨b,2,none⟩=some u2∧w.frozen? ⟨b,2,none⟩=false)∧(w.cell? ⟨b,3,none⟩=some u3∧w.frozen? ⟨b,3,none⟩=false)∧(w.cell? ⟨b,4,none⟩=some u4∧w.frozen? ⟨b,4,none⟩=false)∧(w.cell? ⟨b,5,none⟩=some u5∧w.frozen? ⟨b,5,none⟩=false)∧(w.cell? ⟨b,6,none⟩=some u6∧w.frozen? ⟨b,6,none⟩=false)∧w.cell? ⟨b,7,none⟩=some u7∧w.frozen? ⟨b,7,none⟩=false:=
 ⟨⟨by rw[cR w b 0 _ _ (0,0) h];rfl,by simp[World.frozen?,h]⟩,⟨by rw[cR w b 1 _ _ (0,0) h];rfl,by simp[World.frozen?,h]⟩,⟨by rw[cR w b 2 _ _ (0,0) h];rfl,by simp[World.frozen?,h]⟩,⟨by rw[cR w b 3 _ _ (0,0) h];rfl,by simp[World.frozen?,h]⟩,⟨by rw[cR w b 4 _ _ (0,0) h];rfl,by simp[World.frozen?,h]⟩,⟨by rw[cR w b 5 _ _ (0,0) h];rfl,by simp[World.frozen?,h]⟩,⟨by rw[cR w b 6 _ _ (0,0) h];rfl,by simp[World.frozen?,h]⟩,by rw[cR w b 7 _ _ (0,0) h];rfl,by simp[World.frozen?,h]⟩
section
variable {W w:World} {b q:Nat} {u0 u1 u2 u3 u4 u5 u6 u7 v0 v1 v2 v3 v4 v5 v6 v7:Value} {T:TypeId}
theorem gu(h:W.heap[b]?=some (.cells #[u0,u1,u2,u3,u4,u5,u6,u7] T (0,0))):((((((((W.setCell ⟨b,0,none⟩ (v0)).setCell ⟨b,1,none⟩ (v1)).setCell ⟨b,2,none⟩ (v2)).setCell ⟨b,3,none⟩ (v3)).setCell ⟨b,4,none⟩ (v4)).setCell ⟨b,5,none⟩ (v5)).setCell ⟨b,6,none⟩ (v6)).setCell ⟨b,7,none⟩ (v7)).heap[b]?=some (.cells #[v0,v1,v2,v3,v4,v5,v6,v7] T (0,0)):=by
 simp[World.setCell,Array.getElem?_modify,h]
theorem pX(h:q≠b):((((((((W.setCell ⟨b,0,none⟩ (v0)).setCell ⟨b,1,none⟩ (v1)).setCell ⟨b,2,none⟩ (v2)).setCell ⟨b,3,none⟩ (v3)).setCell ⟨b,4,none⟩ (v4)).setCell ⟨b,5,none⟩ (v5)).setCell ⟨b,6,none⟩ (v6)).setCell ⟨b,7,none⟩ (v7)).heap[q]?=W.heap[q]?:=by
 rw[iw _ ⟨b,7,none⟩ q _ h,iw _ ⟨b,6,none⟩ q _ h,iw _ ⟨b,5,none⟩ q _ h,iw _ ⟨b,4,none⟩ q _ h,iw _ ⟨b,3,none⟩ q _ h,iw _ ⟨b,2,none⟩ q _ h,iw _ ⟨b,1,none⟩ q _ h,iw _ ⟨b,0,none⟩ q _ h]
theorem pF{S:Nat→Prop}(h:aR S w W)(hb:¬S b):aR S w ((((((((W.setCell ⟨b,0,none⟩ (v0)).setCell ⟨b,1,none⟩ (v1)).setCell ⟨b,2,none⟩ (v2)).setCell ⟨b,3,none⟩ (v3)).setCell ⟨b,4,none⟩ (v4)).setCell ⟨b,5,none⟩ (v5)).setCell ⟨b,6,none⟩ (v6)).setCell ⟨b,7,none⟩ (v7)):=(((((((h.set hb _).set hb _).set hb _).set hb _).set hb _).set hb _).set hb _).set hb _
theorem oN(h:Below w.heap.size w W)(hb:w.heap.size≤b):Below w.heap.size w ((((((((W.setCell ⟨b,0,none⟩ (v0)).setCell ⟨b,1,none⟩ (v1)).setCell ⟨b,2,none⟩ (v2)).setCell ⟨b,3,none⟩ (v3)).setCell ⟨b,4,none⟩ (v4)).setCell ⟨b,5,none⟩ (v5)).setCell ⟨b,6,none⟩ (v6)).setCell ⟨b,7,none⟩ (v7)):=(afk (Ob (F:=fun _=>False) h) hb).below (fun q h=>h.elim) (lr _)
where afk {F:Nat→Prop} (h:Only F w W) (hb:w.heap.size≤b):Only F w ((((((((W.setCell ⟨b,0,none⟩ (v0)).setCell ⟨b,1,none⟩ (v1)).setCell ⟨b,2,none⟩ (v2)).setCell ⟨b,3,none⟩ (v3)).setCell ⟨b,4,none⟩ (v4)).setCell ⟨b,5,none⟩ (v5)).setCell ⟨b,6,none⟩ (v6)).setCell ⟨b,7,none⟩ (v7)):=dZ (dZ (dZ (dZ (dZ (dZ (dZ (dZ h hb _) hb _) hb _) hb _) hb _) hb _) hb _) hb _
end
theorem dw{r:Rs Fm}{w W:World}{x:FV}{v0 v1 v2 v3 v4 v5 v6 v7:Value}(hx:∀f j,r=.ok f j→x.Is (fun q=>w.heap.size<q) W f)(D:Below w.heap.size w W) :
 uZ w r (.returned (.agg #[.int .i64 x.o,.int .i64 x.tn,.int .i64 x.tm,.string x.s,.slice x.Ae x.ne x.ce,.slice x.A x.n x.c,.int .i64 (r.at_:Nat),.int .i64 r.err])) ((((((((W.setCell ⟨w.heap.size,0,none⟩ (v0)).setCell ⟨w.heap.size,1,none⟩ (v1)).setCell ⟨w.heap.size,2,none⟩ (v2)).setCell ⟨w.heap.size,3,none⟩ (v3)).setCell ⟨w.heap.size,4,none⟩ (v4)).setCell ⟨w.heap.size,5,none⟩ (v5)).setCell ⟨w.heap.size,6,none⟩ (v6)).setCell ⟨w.heap.size,7,none⟩ (v7)):=
 ⟨x,rfl,fun f j h=>(hx f j h).keep (pF Kr (by omega)) (fun q _ h=>Nat.le_of_lt h),oN D (lr _)⟩
theorem qV{r:Rs Fm}{w W:World}{e:Ending}(h:uZ w r e W)(o:Obj):uZ w r e (W.alloc o):=by
 obtain⟨x,he,hx,D⟩:=h;exact⟨x,he,fun f j h=>(hx f j h).keep (aR.refl.alloc o) (fun _ _ h=>h),D.alloc D.size o⟩
theorem aZ(A:Option Addr)(c i:Nat)(l:List Tok)(k:Int)(s:ByteArray)(w:World)(hP:dP w A c l)(hi:i≤1000000) :
 Calls Tryz.prog 157 #[.slice A l.length c,.int .i64 (i:Nat),.int .i64 k,.string s] w fun e w'=>e=.returned (.bool (ah l i k (bs s)))∧w'=w:=by
 obtain⟨n,HN⟩:=ak l.length;rw[←HN];have hlen:=hP.len;have O:=hP.cap;have aQ:=hP.bU;unfold maxLen at aQ;rw[←HN]at hlen O;obtain⟨r,hr⟩:=aj (ah l i k (bs s));rw[←hr];unfold ah at hr;have HR:=Hd hr;have HP:=Hd hP;clear hr hP
 by_cases G:i<n
 ·obtain⟨t,ht⟩:∃t,l[i]?=some t:=⟨_,gG (by have:=HN.out;omega)⟩
  rcases HP.toks with h0|⟨b,off,rfl,hb,hc⟩
  ·rw[h0]at ht;simp at ht
  have x0:=hc i t ht 0 (by omega);have x2:=hc i t ht 2 (by omega);simp only[fZ,Nat.add_zero]at x0 x2;have J:Hid (r=(decide (t.kind=k)&&decide (t.text=bs s))):=by show _=_;rw[HR,ht]
  have ae:(0:Int)≤(i:Int):=by omega
  have Y:(i:Int)<(n:Int):=by omega
  clear ht hc G
  by_cases I:t.kind=k
  ·have aa:(t.kind==k)=true:=by simpa using I
   have D:Hid (r=decide (t.text=bs s)):=by show _=_;rw[J,decide_eq_true I];rfl
   have hs:((⟨t.text.toArray⟩:ByteArray).toList==s.toList)=decide (t.text=bs s):=by rw[vY];rfl
   obtain⟨T,hT⟩:∃T:ByteArray,T=⟨t.text.toArray⟩:=⟨_,rfl⟩;rw[←hT]at x2 hs;rw[←D]at hs;clear I hT;cases r
   all_goals
    go_in;go_wp2_with fail;go_ret;exact⟨rfl,rfl⟩
  ·have aa:(t.kind==k)=false:=by simpa using I
   have D:Hid (r=false):=by show _=_;rw[J,dF I];rfl
   clear I;go_in;go_wp2_with fail;go_ret;rw[D];exact⟨rfl,rfl⟩
 ·have D:Hid (r=false):=by show _=_;rw[HR,List.getElem?_eq_none (by have:=HN.out;omega)]
  have Y:¬(i:Int)<(n:Int):=by omega
  have hd:decide ((i:Int)<(n:Int))=false:=dF Y;have ab:decide (i<n)=false:=dF G;clear G;go_in;go_wp2_with fail;go_ret;rw[D];exact⟨rfl,rfl⟩
theorem iQ(i:Nat)(x:Int)(w:World)(hx:-1000≤x∧x≤1000):Calls Tryz.prog 158 #[.int .i64 (i:Nat),.int .i64 x] w (uZ w (.bad i x)):=by
 obtain⟨F,D⟩:=ak (uZ w (.bad i x));rw[←D];have G:IntKind.i64.wrap x=x:=IntWalk.i64_in _ (by omega);go_in;go_wp2_with fail;refine bR (Bt (eu w _)) rfl ?_;rw[D];exact⟨FV.zero,rfl,(fun f j h=>nomatch h),(Br _ _).alloc (lr _) _⟩
theorem En(op:Int)(x y:FV)(w:World) :
 Calls Tryz.prog 159 #[.int .i64 op,x.val,y.val] w fun e w'=>∃g,e=.returned (.agg #[.int .i64 op,.int .i64 0,.int .i64 0,.string ⟨#[]⟩,.slice none 0 0,.slice (some ⟨g,0,none⟩) 2 2])∧w'.heap[g]?=some (.cells (x.cells++y.cells).toArray 67 (0,0))∧w.heap.size≤g∧Below w.heap.size w w':=by
 obtain⟨F,hF⟩:∃F:Ending→World→Prop,F=fun e w'=>∃g,e=.returned (.agg #[.int .i64 op,.int .i64 0,.int .i64 0,.string ⟨#[]⟩,.slice none 0 0,.slice (some ⟨g,0,none⟩) 2 2])∧w'.heap[g]?=some (.cells (x.cells++y.cells).toArray 67 (0,0))∧w.heap.size≤g∧Below w.heap.size w w':=⟨_,rfl⟩;rw[←hF];have HF:=Hd hF;clear hF;unfold FV.val;go_in;go_wp2_with fail;obtain⟨w2,G⟩:=aj ((w.alloc (.cells #[.int .i64 x.o,.int .i64 x.tn,.int .i64 x.tm,.string x.s,.slice x.Ae x.ne x.ce,.slice x.A x.n x.c] 67)).alloc (.cells #[.int .i64 y.o,.int .i64 y.tn,.int .i64 y.tm,.string y.s,.slice y.Ae y.ne y.ce,.slice y.A y.n y.c] 67));have O:w2.heap.size=w.heap.size+1+1:=by rw[G];simp
 have I:Below w.heap.size w w2:=by rw[G];exact((Br _ _).alloc (lr _) _).alloc (by simp) _
 rw[←G,←O];obtain⟨w3,D⟩:=aj (w2.alloc (.cells #[.int .i64 op,.int .i64 0,.int .i64 0,.string ⟨#[]⟩,.slice none 0 0,.slice (some ⟨w2.heap.size+1,0,none⟩) 2 2] 67));have Y:w3.heap.size=w2.heap.size+1:=by rw[D];simp
 have J:=dz D;have aa:w3.heap[w2.heap.size]?=some (.cells #[.int .i64 op,.int .i64 0,.int .i64 0,.string ⟨#[]⟩,.slice none 0 0,.slice (some ⟨w2.heap.size+1,0,none⟩) 2 2] 67 (0,0)):=by rw[D];exact eu w2 _
 rw[←D];refine bR (Ki (aK aa)) rfl ?_;rw[HF];have hrow:=eu w3 (.cells (x.cells++y.cells).toArray 67);rw[Y]at hrow;exact⟨w2.heap.size+1,rfl,hrow,by omega,(I.trans (J.mono (by omega))).alloc (by omega) _⟩
set_option linter.unusedSimpArgs false
set_option maxHeartbeats 8000000
theorem Bl{o:Array Oper}{i:Nat}{x:Oper}(h:o.toList[i]?=some x):o[i]?=some x:=by simpa using h
theorem vL{r:Rs Fm}{j:Nat}{y:Int}(D:j=r.at_)(hy:y=r.err)(h:y≠0):r=.bad j y:=by
 cases r with
 |bad a b=>rw[D,hy];rfl
 |ok f k=>exact absurd hy h
theorem BG{r:Rs Fm}{j:Nat}{y:Int}(D:j=r.at_)(hy:y=r.err)(h:y=0)(G:∀j e,r=.bad j e→e≠0):∃f,r=.ok f j:=by
 cases hc:r with
 |bad a b=>rw[hc]at hy;exact absurd (show b=0 from hy.symm.trans h) (G a b hc)
 |ok f k=>rw[hc]at D;exact⟨f,by rw[D];rfl⟩
def xI(d:Nat)(P:gK)(i:Nat):Rs Fm:=if d=256 then .bad i 17 else P (i+1)
theorem ZY(l:List Tok)(d:Nat)(P PF:gK)(hd:d≤256)(hF:acS l d 156 false P)(hG:xV l P)(hZ:vw P)(aF:d<256→Vp l (d+1) 126 PF)(aP:vw PF) :
 Vp l d 126 (fun i=>(P i).then fun f j=>if ah l j 4 [45,62]=true then(xI d PF j).then fun g k=>.ok (fT 5 [f,g]) k else .ok f j):=by
 intro A c i w hi hP;have aE:=hF A c i;obtain⟨w1,hw1⟩:=aj (w.alloc (.cells #[.int .i64 0,.int .i64 0,.int .i64 0,.string ⟨#[]⟩,.slice none 0 0,.slice none 0 0,.int .i64 0,.int .i64 0] 197));have hb1:=dz hw1;have bo:w1.heap.size=w.heap.size+1:=by rw[hw1];simp
 have I:=jZ hw1 rfl;have HB:=Hd hb1;have a7:=Hd hw1;have HP:=Hd hP;have hlen:=hP.len;have av:=hP.cap;have aQ:=hP.bU;unfold maxLen at aQ;obtain⟨n,hn⟩:=aj l.length;have HN:=Hd hn;rw[←hn]at hi hlen av;obtain⟨F,HF⟩:=ak (uZ w ((P i).then fun f j=>if ah l j 4 [45,62]=true then(xI d PF j).then fun g k=>.ok (fT 5 [f,g]) k else .ok f j));show Calls _ _ _ _ (uZ w ((P i).then fun f j=>if ah l j 4 [45,62]=true then(xI d PF j).then fun g k=>.ok (fT 5 [f,g]) k else .ok f j));rw[←HF];have a6:=Hd aF;have HG:=Hd hG;have HZ:=Hd hZ;have a8:=Hd aP;rw[←hn];clear hF aF hG hZ aP hw1 hP hn;go_in;have ae:=aE w1 (by rw[←HN];exact hi) (HP.below HB);obtain⟨r1,dx⟩:=ak (P (i));rw[←dx,←HN]at ae;have HC:=Hd ae;clear ae;go_wp2_with fail;rw[←a7];refine HC.mono ?_;rintro e w2 ⟨x,rfl,hx,G⟩;obtain⟨J,oO⟩:=ak r1.at_;obtain⟨qW,oP⟩:=ak r1.err;rw[←oO,←oP];have FI:Hid (∀f j,r1=.ok f j→x.Is (fun q=>w.heap.size<q) w2 f):=fun f j h=>(hx f j h).keep Kr (fun q _ h=>by have:=lH I;omega);clear hx HC;replace I:=kX G I;replace HB:=kB HB G;clear G;have Z0:=I;have ba:=HB;obtain⟨b7,iY⟩:=aj w2.heap.size
 obtain⟨w3,ar⟩:=aj (w2.alloc (.cells #[.int .i64 x.o,.int .i64 x.tn,.int .i64 x.tm,.string x.s,.slice x.Ae x.ne x.ce,.slice x.A x.n x.c,.int .i64 (J:Nat),.int .i64 qW] 197));have bP:=jZ ar iY;have aa:=dz ar;have bd:w.heap.size<b7:=by have:=lH I;omega
 have qM:=Hd iY;have Ao:=Hd ar;clear iY ar;replace I:=kX aa I;replace HB:=kB HB aa;replace FI:Hid (∀f j,r1=.ok f j→x.Is (fun q=>w.heap.size<q) w3 f):=fun f j h=>(FI f j h).keep (Kb aa) (fun _ _ h=>h);clear aa aE hb1
 by_cases hy:qW=0
 ·obtain⟨f,hf⟩:=BG oO oP hy (fun j e h=>HZ i j e (by rw[←dx];exact h));have aS:=HG i f J (by rw[←dx];exact hf);have bi:=aS.jl;rw[←HN]at bi;have bE:Hid (F=uZ w (if ah l J 4 [45,62]=true then(xI d PF J).then fun g k=>.ok (fT 5 [f,g]) k else .ok f J)):=by show _=_;rw[HF,←dx,hf];rfl
  have Y:Hid (x.Is (fun q=>w.heap.size<q) w3 f):=FI f J hf;subst hy;clear aS hf FI;have hI:=aZ A c J l 4 ⟨#[45,62]⟩ w3 (HP.below HB) (by omega);rw[show ah l J 4 (bs ⟨#[45,62]⟩)=ah l J 4 [45,62]from rfl,←HN]at hI
  by_cases hk:ah l J 4 [45,62]=true
  ·rw[hk]at hI;have HI:=Hd hI;have bj:J<n:=by rw[HN];exact dL hk
   have ay:Hid (F=uZ w ((xI d PF J).then fun g k=>.ok (fT 5 [f,g]) k)):=by show _=_;rw[bE,iP hk]
   clear hI hk;obtain⟨u0,u1,u2,u3,u4,u5,u6,u7,eG⟩:=q8 bP;have sG:=lH bP
   by_cases gq:d=256
   ·have bg:((d:Int)==256)=true:=by simp;omega
    have ab:Hid (F=uZ w (.bad J 17)):=by show _=_;rw[ay];unfold xI;rw[iP gq];rfl
    have wz:=Hd (iQ J 17 w3 (by decide));clear gq;go_wp2_with fail;rw[←Ao,←qM];(try go_wp2_with fail);refine HI.mono ?_;rintro e w' ⟨rfl,aJ⟩;rw[aJ];clear aJ HI;go_wp2_with fail;refine wz.mono ?_;rintro e w4 ⟨z,rfl,-,G⟩;clear sG u0 eG u1 u2 u3 u4 u5 u6 u7;replace I:=kX G I;replace HB:=kB HB G;clear G bP Y wz;simp only[Rs.at_,Rs.err];obtain⟨v0,v1,v2,v3,v4,v5,v6,v7,bW⟩:=q8 I;have ax:=lH I;go_wp2_with fail;clear v0 bW v1 v2 v3 v4 v5 v6 v7;refine bR (Bt (gu I)) rfl ?_;rw[ab];exact dw (r:=.bad J 17) (x:=z) (fun f j h=>nomatch h) HB
   ·have bg:((d:Int)==256)=false:=by simp;omega
    have az:Hid (F=uZ w ((PF (J+1)).then fun g k=>.ok (fT 5 [f,g]) k)):=by show _=_;rw[ay];unfold xI;rw[iN gq]
    have bf:d<256:=by omega
    clear gq;go_wp2_with fail;rw[←Ao,←qM];(try go_wp2_with fail);refine HI.mono ?_;rintro e w' ⟨rfl,aJ⟩;rw[aJ];clear aJ HI;have ae:=a6 bf A c (J+1) w3 (by rw[←HN];omega) (HP.below HB);rw[show((J+1:Nat):Int)=(J:Int)+1 from by omega]at ae;rw[show((d+1:Nat):Int)=(d:Int)+1 from by omega]at ae;obtain⟨r2,jR⟩:=ak (PF (J+1));rw[←jR,←HN]at ae;have HC:=Hd ae;clear ae;go_wp2_with fail;refine HC.mono ?_;rintro e w4 ⟨y,rfl,hx,G⟩;obtain⟨JA,Z5⟩:=ak r2.at_;obtain⟨ag,Z7⟩:=ak r2.err;rw[←Z5,←Z7];have Ko:Hid (∀f j,r2=.ok f j→y.Is (fun q=>w.heap.size<q) w4 f):=fun f j h=>(hx f j h).keep Kr (fun q _ h=>by have:=lH I;omega);clear hx HC;replace I:=kX G I;replace bP:=kX G bP;replace HB:=kB HB G;replace Y:Hid (x.Is (fun q=>w.heap.size<q) w4 f):=Y.keep (Kb G) (fun _ _ h=>h);clear G sG u0 eG u1 u2 u3 u4 u5 u6 u7;have Z9:=I;have bb:=HB;obtain⟨b8,Gb⟩:=aj w4.heap.size;obtain⟨w5,gH⟩:=aj (w4.alloc (.cells #[.int .i64 y.o,.int .i64 y.tn,.int .i64 y.tm,.string y.s,.slice y.Ae y.ne y.ce,.slice y.A y.n y.c,.int .i64 (JA:Nat),.int .i64 ag] 197));have lQ:=jZ gH Gb;have aa:=dz gH;have bm:w.heap.size<b8:=by have:=lH I;omega
    have NT:=Hd Gb;have O4:=Hd gH;clear Gb gH;replace I:=kX aa I;replace bP:=kX aa bP;replace HB:=kB HB aa;replace Y:Hid (x.Is (fun q=>w.heap.size<q) w5 f):=Y.keep (Kb aa) (fun _ _ h=>h);replace Ko:Hid (∀f j,r2=.ok f j→y.Is (fun q=>w.heap.size<q) w5 f):=fun f j h=>(Ko f j h).keep (Kb aa) (fun _ _ h=>h);clear aa
    by_cases hy:ag=0
    ·obtain⟨g2,aw⟩:=BG Z5 Z7 hy (fun j e h=>a8 _ j e (by rw[←jR];exact h));have ab:Hid (F=uZ w (.ok (fT 5 [f,g2]) JA)):=by show _=_;rw[az,←jR,aw];rfl
     have ai:Hid (y.Is (fun q=>w.heap.size<q) w5 g2):=Ko g2 JA aw;subst hy;clear aw Ko;obtain⟨u0,u1,u2,u3,u4,u5,u6,u7,eG⟩:=q8 lQ;have sG:=lH lQ;go_wp2_with fail;rw[←O4,←NT];(try go_wp2_with fail);clear sG u0 eG u1 u2 u3 u4 u5 u6 u7;obtain⟨wd,hwd⟩:=aj w5.drew;have af:Below w5.heap.size w5 wd:=by rw[hwd];exact(Br _ _).drew
     replace I:=kX af I;replace bP:=kX af bP;replace lQ:=kX af lQ;replace HB:=kB HB af;replace Y:Hid (x.Is (fun q=>w.heap.size<q) wd f):=Y.keep (Kb af) (fun _ _ h=>h);replace ai:Hid (y.Is (fun q=>w.heap.size<q) wd g2):=ai.keep (Kb af) (fun _ _ h=>h);have Pw:=En 5 x y wd;unfold FV.val at Pw;have qb:=Hd Pw;refine wp_region_held_drew (S:=fun w'=>w'.heap[b7]?=some (.cells #[.int .i64 x.o,.int .i64 x.tn,.int .i64 x.tm,.string x.s,.slice x.Ae x.ne x.ce,.slice x.A x.n x.c,.int .i64 (J:Nat),.int .i64 0] 197 (0,0))∧w'.heap[b8]?=some (.cells #[.int .i64 y.o,.int .i64 y.tn,.int .i64 y.tm,.string y.s,.slice y.Ae y.ne y.ce,.slice y.A y.n y.c,.int .i64 (JA:Nat),.int .i64 0] 197 (0,0))) (by kernel_rfl) (by rw[←hwd];exact⟨bP,lQ⟩) (fun O=>?_);rw[←hwd]at O⊢;clear hwd af Pw;refine gJ 0 (v:=?_) (Bl rfl) (Or.inl ⟨by rfl,?hy⟩) (by assumption) ?_
     case hy=>
      intro w0 D;obtain⟨h0,h1,h2,h3,h4,h5,h6,h7,-⟩:=q8 D.1;obtain⟨k0,k1,k2,k3,k4,k5,k6,k7,-⟩:=q8 D.2;clear D;go_simp
      (first|done|with_reducible rfl)
     (try simp only[Act.put,aT,aU,aV]);refine gJ 1 (v:=?_) (Bl rfl) (Or.inl ⟨by rfl,?hy⟩) (by assumption) ?_
     case hy=>
      intro w0 D;obtain⟨h0,h1,h2,h3,h4,h5,h6,h7,-⟩:=q8 D.1;obtain⟨k0,k1,k2,k3,k4,k5,k6,k7,-⟩:=q8 D.2;clear D;go_simp
      (first|done|with_reducible rfl)
     (try simp only[Act.put,aT,aU,aV]);refine gJ 2 (v:=?_) (Bl rfl) (Or.inl ⟨by rfl,?hy⟩) (by assumption) ?_
     case hy=>
      intro w0 D;obtain⟨h0,h1,h2,h3,h4,h5,h6,h7,-⟩:=q8 D.1;obtain⟨k0,k1,k2,k3,k4,k5,k6,k7,-⟩:=q8 D.2;clear D;go_simp
      (first|done|with_reducible rfl)
     (try simp only[Act.put,aT,aU,aV]);refine gJ 3 (v:=?_) (Bl rfl) (Or.inl ⟨by rfl,?hy⟩) (by assumption) ?_
     case hy=>
      intro w0 D;obtain⟨h0,h1,h2,h3,h4,h5,h6,h7,-⟩:=q8 D.1;obtain⟨k0,k1,k2,k3,k4,k5,k6,k7,-⟩:=q8 D.2;clear D;go_simp
      (first|done|with_reducible rfl)
     (try simp only[Act.put,aT,aU,aV]);refine gJ 5 (v:=?_) (Bl rfl) (Or.inl ⟨by rfl,?hy⟩) (by assumption) ?_
     case hy=>
      intro w0 D;obtain⟨h0,h1,h2,h3,h4,h5,h6,h7,-⟩:=q8 D.1;obtain⟨k0,k1,k2,k3,k4,k5,k6,k7,-⟩:=q8 D.2;clear D;go_simp
      (first|done|with_reducible rfl)
     (try simp only[Act.put,aT,aU,aV]);refine gJ 6 (v:=?_) (Bl rfl) (Or.inl ⟨by rfl,?hy⟩) (by assumption) ?_
     case hy=>
      intro w0 D;obtain⟨h0,h1,h2,h3,h4,h5,h6,h7,-⟩:=q8 D.1;obtain⟨k0,k1,k2,k3,k4,k5,k6,k7,-⟩:=q8 D.2;clear D;go_simp
      (first|done|with_reducible rfl)
     (try simp only[Act.put,aT,aU,aV]);refine Rd (rs:=[4]) (by kernel_rfl) (by simp) ?_;refine Rc (Bl rfl) (fun K hK=>?_) Rn;go_simp;(with_reducible refine(qb.out).mono ?_);rintro e w8 ⟨g,rfl,hrow,bn,G⟩;refine hK.out _ _ ⟨(G.block b7 (lH bP)).trans bP,(G.block b8 (lH lQ)).trans lQ⟩ (fun O=>?_);clear hK K;(try simp only[Act.put,aT,aU,aV]);replace I:=kX G I;replace HB:=kB HB G;replace Y:Hid (x.Is (fun q=>w.heap.size<q) w8 f):=Y.keep (Kb G) (fun _ _ h=>h);replace ai:Hid (y.Is (fun q=>w.heap.size<q) w8 g2):=ai.keep (Kb G) (fun _ _ h=>h);have iF:=Hd hrow;have bh:w.heap.size<g:=by have:=bd;have:=G.size;have:=lH bP;omega
     clear G hrow;refine gJ 7 (v:=?_) (Bl rfl) (Or.inl ⟨by rfl,?hy⟩) (by assumption) ?_
     case hy=>
      intro w0 D;obtain⟨h0,h1,h2,h3,h4,h5,h6,h7,-⟩:=q8 D.1;obtain⟨k0,k1,k2,k3,k4,k5,k6,k7,-⟩:=q8 D.2;clear D;go_simp
      (first|done|with_reducible rfl)
     (try simp only[Act.put,aT,aU,aV]);refine Rd (rs:=[8]) (by kernel_rfl) (by simp) ?_;refine Rc (Bl rfl) (fun K hK=>?_) Rn;obtain⟨v0,v1,v2,v3,v4,v5,v6,v7,bW⟩:=q8 I;go_simp;clear v0 bW v1 v2 v3 v4 v5 v6 v7;refine hK.out _ _ ⟨(pX (by omega)).trans O.1,(pX (by omega)).trans O.2⟩ (fun O=>?_);clear hK K;(try simp only[Act.put,aT,aU,aV]);refine wpAnyH_done (by kernel_rfl) ?_ _;clear O;go_wp2_with fail;have bk:=gu (v0:=.int .i64 5) (v1:=.int .i64 0) (v2:=.int .i64 0) (v3:=.string ⟨#[]⟩) (v4:=.slice none 0 0) (v5:=.slice (some ⟨g,0,none⟩) 2 2) (v6:=.int .i64 (JA:Nat)) (v7:=.int .i64 0) I;refine bR (Bt bk) rfl ?_;rw[ab]
     exact dw (r:=.ok (fT 5 [f,g2]) JA) (x:=FV.mk 5 0 0 ⟨#[]⟩ none 0 0 (some ⟨g,0,none⟩) 2 2) (fun f' j' h=>by
      obtain⟨rfl,rfl⟩:=bH h
      exact FV.FH Y ai bh iF) HB
    ·have bl:(ag != 0)=true:=by simpa using hy
     have ao:r2=.bad JA ag:=vL Z5 Z7 hy;have ab:Hid (F=uZ w (.bad JA ag)):=by show _=_;rw[az,←jR,ao];rfl
     clear hy ao;obtain⟨v0,v1,v2,v3,v4,v5,v6,v7,bW⟩:=q8 Z9;have ax:=lH Z9;go_wp2_with fail;clear v0 bW v1 v2 v3 v4 v5 v6 v7;refine bR (Bt (aK (gu Z9))) rfl ?_;rw[ab];exact qV (dw (r:=.bad JA ag) (x:=y) (fun f j h=>nomatch h) bb) _
  ·have sF:ah l J 4 [45,62]=false:=by simpa using hk
   rw[sF]at hI;have HI:=Hd hI;have ab:Hid (F=uZ w (.ok f J)):=by show _=_;rw[bE,iN hk]
   clear hI hk sF;obtain⟨u0,u1,u2,u3,u4,u5,u6,u7,eG⟩:=q8 bP;obtain⟨v0,v1,v2,v3,v4,v5,v6,v7,bW⟩:=q8 I;have sG:=lH bP;have ax:=lH I;go_wp2_with fail;rw[←Ao,←qM];(try go_wp2_with fail);refine HI.mono ?_;rintro e w' ⟨rfl,aJ⟩;rw[aJ];clear aJ HI;go_wp2_with fail;clear u0 eG u1 u2 u3 u4 u5 u6 u7 v0 bW v1 v2 v3 v4 v5 v6 v7;refine bR (Bt (gu I)) rfl ?_;rw[ab]
   exact dw (r:=.ok f J) (x:=x) (fun f' j' h=>by
    obtain⟨rfl,rfl⟩:=bH h
    exact Y) HB
 ·have bl:(qW != 0)=true:=by simpa using hy
  have ao:r1=.bad J qW:=vL oO oP hy;have ab:Hid (F=uZ w (.bad J qW)):=by show _=_;rw[HF,←dx,ao];rfl
  clear hy ao;obtain⟨v0,v1,v2,v3,v4,v5,v6,v7,bW⟩:=q8 Z0;have ax:=lH Z0;go_wp2_with fail;clear v0 bW v1 v2 v3 v4 v5 v6 v7;refine bR (Bt (aK (gu Z0))) rfl ?_;rw[ab];exact qV (dw (r:=.bad J qW) (x:=x) (fun f j h=>nomatch h) ba) _
end Go.Proofs.YtkhoeoilamddaaaGreatDoor
