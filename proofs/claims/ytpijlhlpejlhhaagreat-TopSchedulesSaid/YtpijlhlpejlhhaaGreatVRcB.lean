/- Walks and plain words: RcB RcC RcD RcE RdA RdB. -/
import Derived.Test.YtpijlhlpejlhhaaGreatVAcA
import Derived.Test.YtpijlhlpejlhhaaGreatVExC
namespace Go.Proofs.YtpijlhlpejlhhaaGreat
open Go.RowKit
set_option linter.unusedVariables false
set_option maxRecDepth 100000
set_option maxHeartbeats 16000000
/-- The variables of an expression as numbers. -/
def rC(e:Ex):List Nat:=e.vars.map Int.toNat
theorem wP(e:Ex):(rC e).length≤e.size:=by unfold rC;rw[List.length_map];exact e.Cu
theorem OI{e:Ex}(he:e.o_)(ho:e.op=3):e.kids=[]:=by
 obtain⟨h1,h2⟩:=Bd.Ex.dW.1 he;have h3:=h1.2.2.2.2;rw[ho]at h3;have h4:(Bd.iQ 3).2=0:=by decide
 rw[h4]at h3;exact List.eq_nil_of_length_eq_zero (by omega)
theorem Bl:∀(s:Nat) (e:Ex),e.size≤s→e.o_→∀v∈e.vars,0≤v∧v<64
 |0,e,h,_=>by have:=e.size_pos;omega
 |s+1,e,h,he=>fun v hv=>by
  obtain⟨h1,h2⟩:=Bd.Ex.dW.1 he;rw[e.qF,List.mem_append]at hv
  rcases hv with hv|hv
  ·split at hv
   ·rename_i ho
    rw[List.mem_singleton]at hv;have:=h1.2.1 ho;omega
   ·cases hv
  ·obtain⟨t,ht,hv⟩:=Bd.Ex.r9.1 hv;exact Bl s t (by have:=Bd.Ex.fJ ht;omega) (h2 t ht) v hv
theorem Ru{e:Ex}(he:e.o_):∀v∈rC e,v<64:=fun v hv=>by
 obtain⟨z,hz,rfl⟩:=List.mem_map.1 hv;have:=Bl e.size e (Nat.le_refl _) he z hz;omega
theorem Ga:∀(s:Nat) (A:Option Addr) (c:Nat) (e:Ex) (w:World),e.size≤s→s≤100→e.o_→BK w A c e →
 Calls Tryz.prog 93 #[dz A c e] w fun r w'=>∃o,r=.returned o∧aQ w.heap.size w' 3 1 nE o (rC e)∧Below w.heap.size w w':=by
 intro s
 induction s with
 |zero=>intro A c e w h;have:=e.size_pos;omega
 |succ s ih=>
  intro A c e w hs hsb hok he;obtain⟨F,HF⟩:=aJ (fun(r:Ending)(w':World)=>∃o,r=.returned o∧aQ w.heap.size w' 3 1 nE o (rC e)∧Below w.heap.size w w');rw[←HF.out];have hkl:=Bd.Ex.iR e.kids;have hse:=e.size_eq;obtain⟨m,hm⟩:∃m,m=e.kids.length:=⟨_,rfl⟩;obtain⟨op,hop⟩:∃op,op=e.op:=⟨_,rfl⟩;obtain⟨vr,mK⟩:∃vr,vr=e.var:=⟨_,rfl⟩;have hval:dz A c e=.agg #[.int .i64 op,.int .i64 vr,.slice A m c]:=by unfold dz bN;rw[hm,hop,mK]
  rw[hval];have hml:m≤100:=by omega
  obtain⟨W1,hW1⟩:∃W1,W1=w.alloc (.cells #[.int .i64 op,.int .i64 vr,.slice A m c] 75):=⟨_,rfl⟩;obtain⟨bx,hbx⟩:∃bx,bx=w.heap.size:=⟨_,rfl⟩;have hx1:W1.heap[bx]?=some (.cells #[.int .i64 op,.int .i64 vr,.slice A m c] 75 (0,0)):=by rw[hW1,hbx];exact heap_alloc_new _ _
  have oV:=aV hx1
  have mW:∀W,Below W1.heap.size W1 W→W.cell? ⟨bx,0,none⟩=some (.int .i64 op)∧W.cell? ⟨bx,1,none⟩=some (.int .i64 vr)∧W.cell? ⟨bx,2,none⟩=some (.slice A m c)∧bx<W.heap.size:=fun W hb=>by
   have q:=(hb.block bx oV).trans hx1;exact⟨au q 0 rfl,au q 1 rfl,au q 2 rfl,aV q⟩
  have dJ:=Lib.hid mW;have H1:=Lib.hid (show Below w.heap.size w W1 from jU hW1);have HE:=Lib.hid he;have pW:=Lib.hid ih;have HM:=Lib.hid hm;have HS:=Lib.hid hse;have Au:=Lib.hid hok;have F9:=Lib.hid (And.intro hop mK);have gK:=Lib.hid (And.intro hs hsb);obtain⟨b2,hb2⟩:∃b2,b2=w.heap.size+1:=⟨_,rfl⟩;obtain⟨W2,hW2⟩:∃W2,W2=W1.alloc (.cells #[] 3):=⟨_,rfl⟩;have ha2:aQ W1.heap.size W2 3 1 nE (.slice (some ⟨b2,0,none⟩) 0 0) []:=by rw[hW2,show b2=W1.heap.size by rw[hb2,hW1];simp];exact aQ.fresh W1
  have hbw2:Below W1.heap.size W1 W2:=jU hW2;have H2:=Lib.hid (And.intro ha2 hbw2);obtain⟨z0,z1,z2,zl⟩:=dJ.out W2 hbw2;clear ih he hval hm hx1 hok hse hkl hop mK hs hsb ha2 hbw2 mW oV;go_in
  go_upto_region 2 with fail
  rw[←hb2,←hW1,←hbx,←hW2];clear hW1 hbx hb2 hW2
  by_cases ho:op=3
  ·subst ho;have hk0:e.kids=[]:=OI Au.out F9.out.1.symm;have hm0:m=0:=by rw[HM.out,hk0];rfl
   subst hm0;have hv0:=(Bd.Ex.dW.1 Au.out).1.2.1 F9.out.1.symm;rw[←F9.out.2]at hv0;obtain⟨vn,rfl⟩:∃vn:Nat,vr=(vn:Int):=⟨vr.toNat,by omega⟩
   have HV0:=Lib.hid (show rC e=[vn] by
    unfold rC;rw[e.qF,if_pos F9.out.1.symm,hk0,←F9.out.2]
    simp[Bd.Ex.iH])
   have lU:=Lib.hid (show ∀o,Sl (W2.alloc o) 3 1 (.slice (some ⟨b2,0,none⟩) 0 0) 0 (fC nE [])from fun o=>(H2.out.1.alloc o).1);clear hk0 hv0
   go_wp2_with (at_builtin;refine aA _ rfl _ _ _ rfl jq rfl (lU.out _) rfl (aL (by simp)) rfl (by simp[Value.oneCell']) (by omega) ?_;intro g2 c2 w5 hq2;have HQ:=Lib.hid hq2;clear hq2)
   have HA:=Lib.hid (show aQ W1.heap.size w5 3 1 nE (.slice (some ⟨g2,0,none⟩) 1 c2) [vn]∧Below W1.heap.size W1 w5 from by
    have hq:bY _ 3 1 (.slice (some ⟨b2,0,none⟩) 0 0) 0 1 _ g2 c2 w5:=HQ.out;obtain⟨r1,r2⟩:=(H2.out.1.alloc _).push (e:=vn) rfl hq (by have:=H2.out.2.size;simp;omega) rfl
    exact⟨r1,(H2.out.2.alloc H2.out.2.size _).trans r2⟩)
   clear HQ lU z0 z1 z2 zl
   go_loopg [3,4,14,15,16,17,18,19,20,21,22,23,24,25,26,27,28] 0 (fun q v3 v4 v14 v15 v16 v17 v18 v19 v20 v21 v22 v23 v24 v25 v26 v27 v28 wr=>v4=.int .i64 0∧v3=.slice (some ⟨g2,0,none⟩) 1 c2∧wr=w5)
   case atStart=>exact⟨rfl,rfl,rfl⟩
   case round=>
    obtain⟨rfl,rfl,hw⟩:=hrel;rw[hw];obtain⟨z0,z1,z2,zl⟩:=dJ.out w5 HA.out.2;clear hw
    go_wp2
    rw[HF.out,HV0.out];exact⟨_,rfl,HA.out.1.mono H1.out.size,H1.out.trans (HA.out.2.mono H1.out.size)⟩
  ·have hoe:(op==3)=false:=beq_false_of_ne ho
   have HVE:=Lib.hid (show rC e=(Bd.Ex.iH e.kids).map Int.toNat by
    unfold rC
    rw[e.qF,if_neg (by rw[←F9.out.1];exact ho),List.nil_append])
   have abd:=Lib.hid (Bd.Ex.dW.1 Au.out).2;clear ho;go_wp2_with fail;clear z0 z1 z2 zl
   go_loopg [3,4,14,15,16,17,18,19,20,21,22,23,24,25,26,27,28] m (fun q v3 v4 v14 v15 v16 v17 v18 v19 v20 v21 v22 v23 v24 v25 v26 v27 v28 wr=>∃j:Nat,q=m-j∧j≤m∧v4=.int .i64 (j:Nat)∧aQ W1.heap.size wr 3 1 nE v3 ((Bd.Ex.iH (e.kids.take j)).map Int.toNat)∧Below W1.heap.size W1 wr)
   case atStart=>exact⟨0,rfl,Nat.zero_le _,rfl,H2.out.1,H2.out.2⟩
   case round=>
    obtain⟨j,rfl,hj,rfl,hacc,hb⟩:=hrel;obtain⟨pa,ca,hsh⟩:=hacc.shape;obtain⟨na,hna⟩:∃na,na=((Bd.Ex.iH (e.kids.take j)).map Int.toNat).length:=⟨_,rfl⟩;rw[←hna]at hsh;subst hsh
    have abe:na≤100:=by
     rw[hna,List.length_map];have h1:=Bd.Ex.r_ (e.kids.take j);have h2:=Bd.Ex.aR e.kids j;have h3:=gK.out;have h4:=HS.out;omega
    obtain⟨z0,z1,z2,zl⟩:=dJ.out wr hb;have HK:=Lib.hid (And.intro hacc (And.intro hb hna));clear hacc hna
    by_cases hlt:j<m
    ·have hji:(j:Int)<(m:Int):=by omega
     obtain⟨x,hxk⟩:∃x,e.kids[j]?=some x:=⟨_,List.getElem?_eq_getElem (by rw[←HM.out];exact hlt)⟩;obtain⟨g,o,A',c',hA,hg,k0,k1,k2,hV⟩:=(HE.out.below (H1.out.trans (hb.mono H1.out.size))).kid hxk;have hxm:=List.mem_of_getElem? hxk;have hxs:=Bd.Ex.fJ hxm;have hlx:x.kids.length≤9223372036854775807:=by have:=hV.cap;have:=hV.kY;unfold maxLen at this;omega
     have cP:=pW.out A' c' x wr (by have:=gK.out;omega) (by have:=gK.out;omega) (abd.out x hxm) hV;unfold dz bN at cP;have hsn:(Bd.Ex.iH (e.kids.take (j+1))).map Int.toNat=(Bd.Ex.iH (e.kids.take j)).map Int.toNat++rC x:=by rw[Bd.Ex.vL hxk,List.map_append];rfl
     have hlen:(rC x).length≤100:=by have:=wP x;have:=gK.out;omega
     have HC:=Lib.hid cP;have Ee:=Lib.hid (And.intro hsn hlen);subst hA;clear hV hxm hxs cP hxk hb hsn hlen;go_wp2_with fail;refine(HC.out).mono ?_;rintro r w2 ⟨o2,rfl,ho2,hb2⟩;obtain⟨p2,c2,hs2⟩:=ho2.shape;obtain⟨n2,hn2⟩:∃n2,n2=(rC x).length:=⟨_,rfl⟩;rw[←hn2]at hs2;subst hs2;obtain⟨v',w3,hrun,OJ,hb3⟩:=tY (P:=Tryz.prog) (t:=22) (g:=fun(x:Nat)=>Value.int .i64 (x:Nat)) rfl (fun _=>rfl) jq (HK.out.1.below hb2) ho2.1 (by have:=HK.out.2.1.size;have:=hb2.size;omega) (by have:=HK.out.2.2;have:=Ee.out.2;omega) 22;rw[←Ee.out.1]at OJ;have HR:=Lib.hid (show aQ W1.heap.size w3 3 1 nE v' ((Bd.Ex.iH (e.kids.take (j+1))).map Int.toNat)∧Below W1.heap.size W1 w3 from⟨OJ,(HK.out.2.1.trans (hb2.mono HK.out.2.1.size)).trans hb3⟩);have OC:=Lib.hid hrun;clear ho2 hb2 hn2 hrun OJ hb3 k0 k1 k2 z0 z1 z2
     go_wp2_with (at_builtin;refine wpList_append_run rfl (.tmp 21) (.tmp 27) _ rfl rfl rfl OC.out ?_)
     go_roundg (m-(j+1))
     case rel=>exact⟨j+1,rfl,by omega,by go_num,HR.out⟩
     case measure=>omega
    ·obtain rfl:j=m:=by omega
     have hall:e.kids.take j=e.kids:=List.take_of_length_le (by rw[←HM.out];exact Nat.le_refl _);clear hb;go_wp2_with fail;rw[HF.out,HVE.out,←hall];exact⟨_,rfl,HK.out.1.mono H1.out.size,H1.out.trans (HK.out.2.1.mono H1.out.size)⟩
theorem Gb(A:Option Addr)(c:Nat)(e:Ex)(w:World)(hs:e.size≤60)(hok:e.o_)(he:BK w A c e):Calls Tryz.prog 33 #[dz A c e] w fun r w'=>∃o l,r=.returned o∧bO w.heap.size w' o l∧l.length≤60∧(∀a,a∈l↔a∈rC e)∧Below w.heap.size w w':=by
 obtain⟨F,HF⟩:=aJ (fun(r:Ending)(w':World)=>∃o l,r=.returned o∧bO w.heap.size w' o l∧l.length≤60∧(∀a,a∈l↔a∈rC e)∧Below w.heap.size w w');rw[←HF.out];obtain⟨W0,hW0⟩:∃W0,W0=w.alloc (.cells (bN A c e) 75):=⟨_,rfl⟩;have hb0:Below w.heap.size w W0:=by rw[hW0];exact(Below.refl _ _).alloc (Nat.le_refl _) _
 have cC:=p8 A c e W0 hs (he.below hb0);obtain⟨bx,hbx⟩:∃bx,bx=w.heap.size:=⟨_,rfl⟩;have hx0:W0.heap[bx]?=some (.cells (bN A c e) 75 (0,0)):=by rw[hW0,hbx];exact heap_alloc_new _ _
 unfold dz at cC⊢;unfold bN at cC hx0 hW0⊢;have z0:=au hx0 0 rfl;have z1:=au hx0 1 rfl;have z2:=au hx0 2 rfl;have zl:=aV hx0;have hlx:e.kids.length≤9223372036854775807:=by have:=he.cap;have:=he.kY;unfold maxLen at this;omega
 have HC:=Lib.hid cC;have H0:=Lib.hid (And.intro hb0 (And.intro hx0 (And.intro he (And.intro hs hok))));clear cC hb0 hx0 he hok hs;go_in
 go_wp2_with (rw[←hW0,←hbx];clear hW0 hbx;refine(HC.out).mono ?_)
 rintro r w2 ⟨x,rfl,hx,hb2⟩;obtain rfl:x=0:=hx.2 H0.out.2.2.2.2;have q2:=(hb2.block bx zl).trans H0.out.2.1;have z0:=au q2 0 rfl;have z1:=au q2 1 rfl;have z2:=au q2 2 rfl;have zl:=aV q2;have hbw:Below w.heap.size w w2:=H0.out.1.trans (hb2.mono H0.out.1.size);have cV:=Ga 60 A c e w2 H0.out.2.2.2.1 (by omega) H0.out.2.2.2.2 (H0.out.2.2.1.below hbw);unfold dz bN at cV;have HV:=Lib.hid cV;have HB:=Lib.hid hbw;clear hx hb2 q2 hbw cV HC;go_wp2_with fail;refine(HV.out).mono ?_;rintro r w3 ⟨o3,rfl,ho3,hb3⟩;have cO:=OE ho3.dM (by have:=wP e;have:=H0.out.2.2.2.1;omega) (fun x hx=>by have:=Ru H0.out.2.2.2.2 x hx;omega);have HO:=Lib.hid cO;have HB3:=Lib.hid (HB.out.trans (hb3.mono HB.out.size));clear ho3 hb3 cO HV;go_wp2_with fail;refine(HO.out).mono ?_;rintro r w4 ⟨o4,l4,rfl,LD,hl4,oG,hb4⟩;have H4:=Lib.hid (And.intro LD (And.intro hl4 (And.intro oG hb4)));clear LD hl4 oG hb4;go_wp2_with fail;rw[HF.out];obtain⟨LD,hl4,oG,hb4⟩:=H4.out;obtain⟨g,cc,e1,e2,e3⟩:=LD.ex;exact⟨_,l4,rfl,⟨g,cc,e1,Nat.le_trans HB3.out.size e2,e3⟩,by have:=wP e;have:=H0.out.2.2.2.1;omega,oG,HB3.out.trans (hb4.mono HB3.out.size)⟩
section
/-- Truth values,one cell each. -/
def bE(x:Bool):List Value:=[.bool x]
section
variable {w w':World} {v u:Value} {l:List Bool} {B n:Nat}
theorem zm:gB w v l↔Sl w 4 1 v l.length (fC bE l):=by
 have he:∀i,i<l.length→fC bE l i=[.bool (l.getD i false)]:=fun i hi=>by
  unfold fC;rw[List.getD_eq_getElem?_getD,List.getElem?_eq_getElem hi];rfl
 constructor
 ·exact fun h=>Sl.congr h (fun i hi j hj=>by rw[he i hi])
 ·exact fun h=>Sl.congr h (fun i hi j hj=>by rw[he i hi])
theorem aQ.bools(h:aQ B w 4 1 bE v l):gB w v l:=zm.2 h.1
theorem gB.below(h:gB w v l)(hb:Below w.heap.size w w'):gB w' v l:=Sl.kept h (fun g m c e hg=>hb.block g hg)
theorem gB.shape(h:gB w v l):∃p c,v=.slice p l.length c:=by
 rcases h with⟨h1,h2⟩|⟨g,c,h1,-⟩
 ·exact⟨none,0,by rw[h1,h2]⟩
 ·exact⟨_,c,h1⟩
theorem gB.wN{p:Option Addr}{n c:Nat}(h:gB w (.slice p n c) l)(hn:n=l.length){j:Nat}(hj:j<n):∃g,p=some ⟨g,0,none⟩∧g<w.heap.size∧w.cell? ⟨g,j,none⟩=some (.bool (l.getD j false)):=by
 rcases h with⟨h1,h2⟩|⟨g,c',h1,hr⟩
 ·omega
 ·injection h1 with h1 _ _
  refine⟨g,h1,hr.lt,?_⟩;have:=hr.cell (i:=j) (j:=0) (by omega) (by omega)
  simpa using this
theorem aQ.tb{m:Nat}{g:Nat→Bool}(h:aQ B w 4 1 bE v l)(hm:l.length=m)(h0:0<m)(hg:∀i,i<m→g i=l.getD i false):qh B w v m g:=by
 subst hm
 rcases zm.2 h.1 with⟨h1,h2⟩|⟨b,c,h1,hr⟩
 ·omega
 ·exact⟨b,c,h1,h.2 _ _ _ h1,hr.congr (fun i hi j hj=>by rw[hg i hi])⟩
/-- The bits of a number. -/
def gZ(x k:Nat):List Bool:=(List.range k).map (Bd.iy x)
theorem d_(x k:Nat):(gZ x k).length=k:=by simp[gZ]
theorem DK{x k i:Nat}(h:i<k):(gZ x k).getD i false=Bd.iy x i:=by
 unfold gZ;rw[List.getD_eq_getElem?_getD,List.getElem?_map,List.getElem?_range h];rfl
theorem wQ(x k:Nat):gZ x (k+1)=gZ x k++[Bd.iy x k]:=by
 unfold gZ;rw[List.range_succ,List.map_append];rfl
theorem II(x j:Nat):((((x/2^j:Nat):Int))%2==1)=Bd.iy x j:=by
 unfold Bd.iy;rw[Bool.eq_iff_iff];simp only[beq_iff_eq];omega
theorem DL(x j:Nat):x/2^j/2=x/2^(j+1):=by rw[Nat.div_div_eq_div_mul,Nat.pow_succ]
theorem Gc(x k:Nat)(hx:x≤1000000)(hk:k≤20)(w:World) :
 Calls Tryz.prog 103 #[.int .i64 (x:Nat),.int .i64 (k:Nat)] w fun r w'=>∃o,r=.returned o∧aQ w.heap.size w' 4 1 bE o (gZ x k)∧Below w.heap.size w w':=by
 obtain⟨F,HF⟩:=aJ (fun(r:Ending)(w':World)=>∃o,r=.returned o∧aQ w.heap.size w' 4 1 bE o (gZ x k)∧Below w.heap.size w w');rw[←HF.out];obtain⟨W1,hW1⟩:∃W1,W1=w.alloc (.cells #[] 4):=⟨_,rfl⟩;obtain⟨b1,hb1⟩:∃b1,b1=w.heap.size:=⟨_,rfl⟩;have H1:=Lib.hid (show aQ w.heap.size W1 4 1 bE (.slice (some ⟨b1,0,none⟩) 0 0) []∧Below w.heap.size w W1 from⟨by rw[hW1,hb1];exact aQ.fresh w,jU hW1⟩);go_in;go_wp2_with fail;rw[←hW1,←hb1];clear hW1 hb1
 go_loopg [0,5,6,8,9,10,11,12,13,14,15,16,17,18,19,20] k (fun q v0 v5 v6 v8 v9 v10 v11 v12 v13 v14 v15 v16 v17 v18 v19 v20 wr=>∃j y:Nat,q=k-j∧j≤k∧v6=.int .i64 (j:Nat)∧v0=.int .i64 (y:Nat)∧y=x/2^j∧aQ w.heap.size wr 4 1 bE v5 (gZ x j)∧Below w.heap.size w wr)
 case atStart=>exact⟨0,x,rfl,Nat.zero_le _,rfl,rfl,by simp,H1.out.1,H1.out.2⟩
 case round=>
  clear H1;obtain⟨j,y,rfl,hj,rfl,rfl,hy,hacc,hb⟩:=hrel;obtain⟨pa,ca,hsh⟩:=hacc.shape;rw[d_]at hsh;subst hsh;have hyb:y≤1000000:=by rw[hy];exact Nat.le_trans (Nat.div_le_self _ _) hx
  have HY:=Lib.hid hy;clear hy
  by_cases hlt:j<k
  ·have hji:(j:Int)<(k:Int):=by omega
   obtain⟨d,hd⟩:∃d,d=(((y:Nat):Int)%2==1):=⟨_,rfl⟩;have HD:=Lib.hid (show d=Bd.iy x j by rw[hd,HY.out];exact II x j)
   have lU:=Lib.hid (show ∀o,Sl (wr.alloc o) 4 1 (.slice pa j ca) j (fC bE (gZ x j))from fun o=>by
    have:=(hacc.alloc o).1;rw[d_]at this
    exact this)
   have HA:=Lib.hid (And.intro hacc hb);clear hacc hb
   go_wp2_with (at_builtin;rw[←hd];refine aA _ rfl _ _ _ rfl Jo rfl (lU.out _) rfl (aL (by simp)) rfl (by simp[Value.oneCell']) (by omega) ?_;intro g2 c2 w5 hq2;have HQ:=Lib.hid hq2;clear hq2)
   go_roundg (k-(j+1))
   case rel=>
    obtain⟨hacc,hb⟩:=HA.out;have hq:bY _ 4 1 (.slice pa j ca) j 1 _ g2 c2 w5:=HQ.out;obtain⟨r1,r2⟩:=(hacc.alloc _).push (e:=d) (d_ x j) hq (by have:=hb.size;simp;omega) rfl;refine⟨j+1,y/2,rfl,by omega,by go_num,by go_num,by rw[HY.out,DL],?_,(hb.alloc hb.size _).trans r2⟩;rw[wQ,←HD.out];exact r1
   case measure=>omega
  ·obtain rfl:j=k:=by omega
   have HA:=Lib.hid (And.intro hacc hb);clear hacc hb;go_wp2_with fail;rw[HF.out];exact⟨_,rfl,HA.out.1,HA.out.2⟩
theorem Gf(k:Nat)(hk:k≤64)(w:World) :
 Calls Tryz.prog 127 #[.int .i64 (k:Nat),.int .i64 0,.int .i64 64] w fun r w'=>r=.returned (.int .i64 (k:Nat))∧w'=w:=by
 obtain⟨F,HF⟩:=aJ (fun(r:Ending)(w':World)=>r=.returned (.int .i64 (k:Nat))∧w'=w);rw[←HF.out];have h1:¬(k:Int)<0:=by omega
 have h2:¬(64:Int)<(k:Int):=by omega
 go_in
 go_wp2
 rw[HF.out];exact⟨rfl,rfl⟩
theorem OM(x k:Nat)(hx:x≤1000000)(hk:k≤20)(w:World) :
 Calls Tryz.prog 63 #[.int .u64 (x:Nat),.int .i64 (k:Nat)] w fun r w'=>∃o,r=.returned o∧aQ w.heap.size w' 4 1 bE o (gZ x k)∧Below w.heap.size w w':=by
 obtain⟨F,HF⟩:=aJ (fun(r:Ending)(w':World)=>∃o,r=.returned o∧aQ w.heap.size w' 4 1 bE o (gZ x k)∧Below w.heap.size w w');rw[←HF.out];obtain⟨W1,hW1⟩:∃W1,W1=w.alloc (.cells #[] 4):=⟨_,rfl⟩;obtain⟨b1,hb1⟩:∃b1,b1=w.heap.size:=⟨_,rfl⟩;have H1:=Lib.hid (show aQ w.heap.size W1 4 1 bE (.slice (some ⟨b1,0,none⟩) 0 0) []∧Below w.heap.size w W1 from⟨by rw[hW1,hb1];exact aQ.fresh w,jU hW1⟩);have HH:=Lib.hid (Gf k (by omega));go_in;go_wp2_with fail;rw[←hW1,←hb1];clear hW1 hb1
 go_loopg [0,5,6,8,9,10,11,12,13,14,15,16,17,18,19,20,21] k (fun q v0 v5 v6 v8 v9 v10 v11 v12 v13 v14 v15 v16 v17 v18 v19 v20 v21 wr=>∃j y:Nat,q=k-j∧j≤k∧v6=.int .i64 (j:Nat)∧v0=.int .u64 (y:Nat)∧y=x/2^j∧aQ w.heap.size wr 4 1 bE v5 (gZ x j)∧Below w.heap.size w wr)
 case atStart=>exact⟨0,x,rfl,Nat.zero_le _,rfl,rfl,by simp,H1.out.1,H1.out.2⟩
 case round=>
  clear H1;obtain⟨j,y,rfl,hj,rfl,rfl,hy,hacc,hb⟩:=hrel;obtain⟨pa,ca,hsh⟩:=hacc.shape;rw[d_]at hsh;subst hsh;have hyb:y≤1000000:=by rw[hy];exact Nat.le_trans (Nat.div_le_self _ _) hx
  have HY:=Lib.hid hy;clear hy
  by_cases hlt:j<k
  ·have hji:(j:Int)<(k:Int):=by omega
   obtain⟨d,hd⟩:∃d,d=(((y:Nat):Int)%2==1):=⟨_,rfl⟩;have HD:=Lib.hid (show d=Bd.iy x j by rw[hd,HY.out];exact II x j)
   have lU:=Lib.hid (show ∀o,Sl (wr.alloc o) 4 1 (.slice pa j ca) j (fC bE (gZ x j))from fun o=>by
    have:=(hacc.alloc o).1;rw[d_]at this
    exact this)
   have HA:=Lib.hid (And.intro hacc hb);clear hacc hb
   go_wp2_with (first|(go_at_call 127;with_reducible refine(HH.out _).mono ?_;rintro r w' ⟨rfl,hw⟩;rw[hw];clear hw)|(at_builtin;rw[←hd];refine aA _ rfl _ _ _ rfl Jo rfl (lU.out _) rfl (aL (by simp)) rfl (by simp[Value.oneCell']) (by omega) ?_;intro g2 c2 w5 hq2;have HQ:=Lib.hid hq2;clear hq2))
   go_roundg (k-(j+1))
   case rel=>
    obtain⟨hacc,hb⟩:=HA.out;have hq:bY _ 4 1 (.slice pa j ca) j 1 _ g2 c2 w5:=HQ.out;obtain⟨r1,r2⟩:=(hacc.alloc _).push (e:=d) (d_ x j) hq (by have:=hb.size;simp;omega) rfl;refine⟨j+1,y/2,rfl,by omega,by go_num,by go_num,by rw[HY.out,DL],?_,(hb.alloc hb.size _).trans r2⟩;rw[wQ,←HD.out];exact r1
   case measure=>omega
  ·obtain rfl:j=k:=by omega
   have HA:=Lib.hid (And.intro hacc hb);clear hacc hb
   go_wp2_with (go_at_call 127;with_reducible refine(HH.out _).mono ?_;rintro r w' ⟨rfl,hw⟩;rw[hw];clear hw)
   rw[HF.out];exact⟨_,rfl,HA.out.1,HA.out.2⟩
end
end
/-- The values of the first kids. -/
def sW(e:Ex)(a:Nat→Bool)(j:Nat):List Bool:=(e.kids.take j).map (fun k=>k.val a)
theorem OO{e:Ex}{a:Nat→Bool}{j:Nat}(h:j≤e.kids.length):(sW e a j).length=j:=by
 unfold sW;rw[List.length_map,List.length_take];omega
theorem KU{e x:Ex}{a:Nat→Bool}{j:Nat}(h:e.kids[j]?=some x):sW e a (j+1)=sW e a j++[x.val a]:=by
 unfold sW;rw[List.take_add_one,h,List.map_append];rfl
theorem zo(l:List Bool)(b:Bool):Bd.eU (l++[b])=Bd.eU l+(if b=true then 1 else 0):=by
 unfold Bd.eU;rw[List.filter_append,List.length_append];cases b<;>rfl
theorem uN(n k:Nat):(n==k)=((n:Int)==(k:Int)):=by
 rw[Bool.eq_iff_iff];simp only[beq_iff_eq];omega
theorem DN(l:List Bool)(hll:l.length≤1000)(pu:Option Addr)(cu:Nat):∀(s:Nat)(A:Option Addr)(c:Nat)(e:Ex)(w:World),e.size≤s→s≤100→e.o_→e.Cv l.length→BK w A c e→gB w (.slice pu l.length cu) l →
 Calls Tryz.prog 102 #[dz A c e,.slice pu l.length cu] w fun r w'=>r=.returned (.bool (e.val (fun i=>l.getD i false)))∧Below w.heap.size w w':=by
 intro s
 induction s with
 |zero=>intro A c e w h;have:=e.size_pos;omega
 |succ s ih=>
  intro A c e w hs hsb hok oQ he hl;obtain⟨a,ha⟩:∃a:Nat→Bool,a=fun i=>l.getD i false:=⟨_,rfl⟩;rw[←ha]at ih⊢;obtain⟨F,HF⟩:=aJ (fun(r:Ending)(w':World)=>r=.returned (.bool (e.val a))∧Below w.heap.size w w');rw[←HF.out];have hkl:=Bd.Ex.iR e.kids;have hse:=e.size_eq;obtain⟨nl,hnl⟩:∃nl,nl=l.length:=⟨_,rfl⟩;rw[←hnl]at ih hl oQ hll⊢;obtain⟨m,hm⟩:∃m,m=e.kids.length:=⟨_,rfl⟩;obtain⟨op,hop⟩:∃op,op=e.op:=⟨_,rfl⟩;obtain⟨vr,mK⟩:∃vr,vr=e.var:=⟨_,rfl⟩;have hval:dz A c e=.agg #[.int .i64 op,.int .i64 vr,.slice A m c]:=by unfold dz bN;rw[hm,hop,mK]
  rw[hval];have hml:m≤100:=by omega
  obtain⟨W1,hW1⟩:∃W1,W1=w.alloc (.cells #[.int .i64 op,.int .i64 vr,.slice A m c] 75):=⟨_,rfl⟩;obtain⟨bx,hbx⟩:∃bx,bx=w.heap.size:=⟨_,rfl⟩;have hx1:W1.heap[bx]?=some (.cells #[.int .i64 op,.int .i64 vr,.slice A m c] 75 (0,0)):=by rw[hW1,hbx];exact heap_alloc_new _ _
  have oV:=aV hx1
  have mW:∀W,Below W1.heap.size W1 W→W.cell? ⟨bx,0,none⟩=some (.int .i64 op)∧W.cell? ⟨bx,1,none⟩=some (.int .i64 vr)∧W.cell? ⟨bx,2,none⟩=some (.slice A m c)∧bx<W.heap.size:=fun W hb=>by
   have q:=(hb.block bx oV).trans hx1;exact⟨au q 0 rfl,au q 1 rfl,au q 2 rfl,aV q⟩
  have dJ:=Lib.hid mW;have H1:=Lib.hid (show Below w.heap.size w W1 from jU hW1);have HE:=Lib.hid (And.intro he hl);have pW:=Lib.hid ih;have HM:=Lib.hid hm;have HS:=Lib.hid hse;have Au:=Lib.hid (And.intro hok oQ);have F9:=Lib.hid (And.intro hop mK);have gK:=Lib.hid (And.intro hs hsb);have HLN:=Lib.hid (And.intro ha hnl);obtain⟨b2,hb2⟩:∃b2,b2=w.heap.size+1:=⟨_,rfl⟩;obtain⟨W2,hW2⟩:∃W2,W2=W1.alloc (.cells #[] 4):=⟨_,rfl⟩;have ha2:aQ W1.heap.size W2 4 1 bE (.slice (some ⟨b2,0,none⟩) 0 0) []:=by rw[hW2,show b2=W1.heap.size by rw[hb2,hW1];simp];exact aQ.fresh W1
  have hbw2:Below W1.heap.size W1 W2:=jU hW2;have H2:=Lib.hid (And.intro ha2 hbw2);clear ih he hl hval hm hx1 hok oQ hse hkl hop mK hs hsb ha2 hbw2 mW oV ha hnl;go_in;go_wp2_with fail;rw[←hb2,←hW1,←hbx,←hW2];clear hW1 hbx hb2 hW2
  go_loopg [5,6,7,8,10,11,12,13,14,15,16,17,18,19,20,21,22,23,24,25,26,27,28,29,30] m (fun q v5 v6 v7 v8 v10 v11 v12 v13 v14 v15 v16 v17 v18 v19 v20 v21 v22 v23 v24 v25 v26 v27 v28 v29 v30 wr=>∃j n:Nat,q=m-j∧j≤m∧v7=.int .i64 (j:Nat)∧v5=.int .i64 (n:Nat)∧n=Bd.eU (sW e a j)∧aQ W1.heap.size wr 4 1 bE v6 (sW e a j)∧Below W1.heap.size W1 wr)
  case atStart=>exact⟨0,0,rfl,Nat.zero_le _,rfl,rfl,rfl,H2.out.1,H2.out.2⟩
  case round=>
   clear H2;obtain⟨j,n,rfl,hj,rfl,rfl,hn,hacc,hb⟩:=hrel;obtain⟨pa,ca,hsh⟩:=hacc.shape;have hlj:(sW e a j).length=j:=OO (by rw[←HM.out];exact hj);rw[hlj]at hsh;subst hsh;have hnj:n≤j:=by rw[hn];have:=Bd.vC (sW e a j);omega
   obtain⟨z0,z1,z2,zl⟩:=dJ.out wr hb;have HK:=Lib.hid (And.intro hacc (And.intro hb (And.intro hn hlj)));clear hacc hn hlj
   by_cases hlt:j<m
   ·have hji:(j:Int)<(m:Int):=by omega
    obtain⟨x,hxk⟩:∃x,e.kids[j]?=some x:=⟨_,List.getElem?_eq_getElem (by rw[←HM.out];exact hlt)⟩;have hbw:Below w.heap.size w wr:=H1.out.trans (hb.mono H1.out.size);obtain⟨g,o,A',c',hA,hg,k0,k1,k2,hV⟩:=(HE.out.1.below hbw).kid hxk;have hxm:=List.mem_of_getElem? hxk;have hxs:=Bd.Ex.fJ hxm;have hlx:x.kids.length≤9223372036854775807:=by have:=hV.cap;have:=hV.kY;unfold maxLen at this;omega
    have cP:=pW.out A' c' x wr (by have:=gK.out;omega) (by have:=gK.out;omega) ((Bd.Ex.dW.1 Au.out.1).2 x hxm) (Bd.Ex.jy Au.out.2 hxm) hV (HE.out.2.below hbw);unfold dz bN at cP;obtain⟨bv,hbv⟩:∃bv,bv=x.val a:=⟨_,rfl⟩;rw[←hbv]at cP;have hsn:=KU (a:=a) hxk;rw[←hbv]at hsn;have HC:=Lib.hid cP;have Ee:=Lib.hid hsn;subst hA;clear hV hxm hxs cP hxk hb hbw hsn hbv;go_wp2_with fail;refine(HC.out).mono ?_;rintro r w2 ⟨rfl,hb2⟩
    have lU:=Lib.hid (show ∀o,Sl (w2.alloc o) 4 1 (.slice pa j ca) j (fC bE (sW e a j))from fun o=>by
     have:=((HK.out.1.below hb2).alloc o).1;rw[HK.out.2.2.2]at this
     exact this)
    have HB2:=Lib.hid hb2;clear hb2 k0 k1 k2 z0 z1 z2
    cases bv with
    |true=>
     go_wp2_with (at_builtin;refine aA _ rfl _ _ _ rfl Jo rfl (lU.out _) rfl (aL (by simp)) rfl (by simp[Value.oneCell']) (by omega) ?_;intro g2 c2 w5 hq2;have HQ:=Lib.hid hq2;clear hq2)
     go_roundg (m-(j+1))
     case rel=>
      obtain⟨hacc,hb,hn,hlj⟩:=HK.out;have hq:bY _ 4 1 (.slice pa j ca) j 1 _ g2 c2 w5:=HQ.out;have hbb:=hb.trans (HB2.out.mono hb.size);obtain⟨r1,r2⟩:=((hacc.below HB2.out).alloc _).push (e:=true) hlj hq (by have:=hbb.size;simp;omega) rfl;refine⟨j+1,n+1,rfl,by omega,by go_num,by go_num,by rw[Ee.out,zo,hn];rfl,?_,(hbb.alloc hbb.size _).trans r2⟩;rw[Ee.out];exact r1
     case measure=>omega
    |false=>
     go_wp2_with (at_builtin;refine aA _ rfl _ _ _ rfl Jo rfl (lU.out _) rfl (aL (by simp)) rfl (by simp[Value.oneCell']) (by omega) ?_;intro g2 c2 w5 hq2;have HQ:=Lib.hid hq2;clear hq2)
     go_roundg (m-(j+1))
     case rel=>
      obtain⟨hacc,hb,hn,hlj⟩:=HK.out;have hq:bY _ 4 1 (.slice pa j ca) j 1 _ g2 c2 w5:=HQ.out;have hbb:=hb.trans (HB2.out.mono hb.size);obtain⟨r1,r2⟩:=((hacc.below HB2.out).alloc _).push (e:=false) hlj hq (by have:=hbb.size;simp;omega) rfl;refine⟨j+1,n,rfl,by omega,by go_num,by go_num,by rw[Ee.out,zo,hn];rfl,?_,(hbb.alloc hbb.size _).trans r2⟩;rw[Ee.out];exact r1
     case measure=>omega
   ·obtain rfl:j=m:=by omega
    obtain⟨w6,rP⟩:∃w6,w6=wr:=⟨_,rfl⟩;subst rP
    have hall:sW e a j=e.kids.map (fun k=>k.val a):=by
     unfold sW;rw[List.take_of_length_le (by rw[←HM.out];exact Nat.le_refl _)]
    obtain⟨vs,hvs⟩:∃vs,vs=sW e a j:=⟨_,rfl⟩;rw[←hvs]at HK hall;have hev:e.val a=Bd.fO op (a vr.toNat) vs:=by rw[e.zX,F9.out.1,F9.out.2,hall]
    have hsh:=Bd.qG (Bd.Ex.dW.1 Au.out.1).1;rw[←F9.out.1,←HM.out]at hsh;have Gg:=(Bd.Ex.dW.1 Au.out.1).1.2.1;rw[←F9.out.1,←F9.out.2]at Gg;have hu3:=Bd.Ex.zY Au.out.2;rw[←F9.out.1,←F9.out.2]at hu3;have IJ:=Lib.hid (show Below w.heap.size w w6 from H1.out.trans (hb.mono H1.out.size));have hvb:gB w6 (.slice pa j ca) vs:=HK.out.1.bools;have hvc:∀i,i<j→∃g,pa=some ⟨g,0,none⟩∧g<w6.heap.size∧w6.cell? ⟨g,i,none⟩=some (.bool (vs.getD i false)):=fun i hi=>hvb.wN HK.out.2.2.2.symm hi;have YZ:=Lib.hid hvc;have wR:=Lib.hid hev;clear hvs hall hb hvb hvc hev
    rcases hsh with⟨ho,hj0⟩|⟨ho,hj0⟩|⟨ho,hj0⟩|⟨ho,hj0⟩|ho|ho|ho|⟨ho,hj0⟩|⟨ho,hj0⟩|⟨ho,hj0⟩
    ·clear Gg hu3;subst ho
     go_wp2
     rw[HF.out,wR.out];exact⟨rfl,IJ.out⟩
    ·clear Gg hu3;subst ho
     go_wp2
     rw[HF.out,wR.out];exact⟨rfl,IJ.out⟩
    ·have h3:=Gg ho;have h4:=hu3 ho;clear Gg hu3;subst ho;obtain⟨vn,rfl⟩:∃vn:Nat,vr=(vn:Int):=⟨vr.toNat,by omega⟩;obtain⟨gl,hpp,hgl,hcl⟩:=(HE.out.2.below IJ.out).wN HLN.out.2 (j:=vn) (by omega);subst hpp;have hd:decide ((vn:Int)<(nl:Int))=true:=decide_eq_true (by omega)
     go_wp2
     rw[HF.out,wR.out,HLN.out.1];exact⟨rfl,IJ.out⟩
    ·clear Gg hu3;subst ho
     have hX:Bd.fO 4 (a vr.toNat) vs=((n:Int)==0):=by
      show(Bd.eU vs==0)=_;rw[←HK.out.2.2.1,uN];rfl
     have HX:=Lib.hid hX;clear hX
     go_wp2
     rw[HF.out,wR.out,HX.out];exact⟨rfl,IJ.out⟩
    ·clear Gg hu3;subst ho
     have hX:Bd.fO 5 (a vr.toNat) vs=((n:Int)==(j:Int)):=by
      show(Bd.eU vs==vs.length)=_;rw[←HK.out.2.2.1,HK.out.2.2.2,uN]
     have HX:=Lib.hid hX;clear hX
     go_wp2
     rw[HF.out,wR.out,HX.out];exact⟨rfl,IJ.out⟩
    ·clear Gg hu3;subst ho
     have hX:Bd.fO 6 (a vr.toNat) vs=decide (0<n):=by
      show decide (0<Bd.eU vs)=_;rw[←HK.out.2.2.1]
     have HX:=Lib.hid hX;clear hX
     go_wp2
     rw[HF.out,wR.out,HX.out];exact⟨rfl,IJ.out⟩
    ·clear Gg hu3;subst ho
     have hX:Bd.fO 7 (a vr.toNat) vs=((n:Int)%2==1):=by
      show(Bd.eU vs%2==1)=_;rw[←HK.out.2.2.1,uN];rfl
     have HX:=Lib.hid hX;clear hX
     go_wp2
     rw[HF.out,wR.out,HX.out];exact⟨rfl,IJ.out⟩
    ·clear Gg hu3;subst ho hj0;obtain⟨g0,hp0,hg0,hc0⟩:=YZ.out 0 (by omega);obtain⟨g1,hp1,hg1,hc1⟩:=YZ.out 1 (by omega);subst hp0;obtain rfl:g0=g1:=by injection hp1 with h;injection h
     have hX:Bd.fO 8 (a vr.toNat) vs=(!vs.getD 0 false||vs.getD 1 false):=rfl;obtain⟨x0,hx0⟩:∃x0,x0=vs.getD 0 false:=⟨_,rfl⟩;obtain⟨x1,hx1⟩:∃x1,x1=vs.getD 1 false:=⟨_,rfl⟩;rw[←hx0]at hc0 hX;rw[←hx1]at hc1 hX;have HX:=Lib.hid hX;clear hX hx0 hx1 hp1 hg1;cases x0<;>(go_wp2;rw[HF.out,wR.out,HX.out];exact⟨rfl,IJ.out⟩)
    ·clear Gg hu3;subst ho
     have hX:Bd.fO 9 (a vr.toNat) vs=((n:Int) != 1):=by
      show(Bd.eU vs != 1)=_;rw[←HK.out.2.2.1];show(!(n==1))=(!((n:Int)==1));rw[uN];rfl
     have HX:=Lib.hid hX;clear hX
     go_wp2
     rw[HF.out,wR.out,HX.out];exact⟨rfl,IJ.out⟩
    ·clear Gg hu3;subst ho hj0;obtain⟨g0,hp0,hg0,hc0⟩:=YZ.out 0 (by omega);obtain⟨g1,hp1,hg1,hc1⟩:=YZ.out 1 (by omega);obtain⟨g2,hp2,hg2,hc2⟩:=YZ.out 2 (by omega);subst hp0;obtain rfl:g0=g1:=by injection hp1 with h;injection h
     obtain rfl:g0=g2:=by injection hp2 with h;injection h
     have hX:Bd.fO 10 (a vr.toNat) vs=(if vs.getD 0 false=true then vs.getD 1 false else vs.getD 2 false):=rfl;obtain⟨x0,hx0⟩:∃x0,x0=vs.getD 0 false:=⟨_,rfl⟩;obtain⟨x1,hx1⟩:∃x1,x1=vs.getD 1 false:=⟨_,rfl⟩;obtain⟨x2,hx2⟩:∃x2,x2=vs.getD 2 false:=⟨_,rfl⟩;rw[←hx0]at hc0 hX;rw[←hx1]at hc1 hX;rw[←hx2]at hc2 hX;have HX:=Lib.hid hX;clear hX hx0 hx1 hx2 hp1 hg1 hp2 hg2;cases x0<;>(go_wp2;rw[HF.out,wR.out,HX.out];exact⟨rfl,IJ.out⟩)
/-- The first values of a table. -/
def sZ(e:Ex)(j:Nat):List Bool:=(List.range j).map (fun i=>e.val (Bd.iy i))
theorem rE(e:Ex)(j:Nat):(sZ e j).length=j:=by simp[sZ]
theorem KV(e:Ex)(j:Nat):sZ e (j+1)=sZ e j++[e.val (Bd.iy j)]:=by
 unfold sZ;rw[List.range_succ,List.map_append];rfl
theorem Rv{e:Ex}{j i:Nat}(h:i<j):(sZ e j).getD i false=e.val (Bd.iy i):=by
 unfold sZ;rw[List.getD_eq_getElem?_getD,List.getElem?_map,List.getElem?_range h];rfl
theorem DR(A:Option Addr)(c:Nat)(e:Ex)(n:Nat)(w:World)(hs:e.size≤60)(hok:e.o_)(oQ:e.Cv n)(hn:n≤12)(he:BK w A c e) :
 Calls Tryz.prog 38 #[dz A c e,.int .i64 (n:Nat)] w fun r w'=>∃v,r=.returned v∧qh w.heap.size w' v (2^n) (fun i=>e.val (Bd.iy i))∧Below w.heap.size w w':=by
 obtain⟨F,HF⟩:=aJ (fun(r:Ending)(w':World)=>∃v,r=.returned v∧qh w.heap.size w' v (2^n) (fun i=>e.val (Bd.iy i))∧Below w.heap.size w w');rw[←HF.out];obtain⟨m,hm⟩:∃m,m=e.kids.length:=⟨_,rfl⟩;obtain⟨op,hop⟩:∃op,op=e.op:=⟨_,rfl⟩;obtain⟨vr,mK⟩:∃vr,vr=e.var:=⟨_,rfl⟩;have hval:dz A c e=.agg #[.int .i64 op,.int .i64 vr,.slice A m c]:=by unfold dz bN;rw[hm,hop,mK]
 have hml:m≤100:=by
  have h1:=Bd.Ex.iR e.kids;have h2:=e.size_eq;omega
 obtain⟨W1,hW1⟩:∃W1,W1=w.alloc (.cells #[.int .i64 op,.int .i64 vr,.slice A m c] 75):=⟨_,rfl⟩;obtain⟨bx,hbx⟩:∃bx,bx=w.heap.size:=⟨_,rfl⟩;have hx1:W1.heap[bx]?=some (.cells #[.int .i64 op,.int .i64 vr,.slice A m c] 75 (0,0)):=by rw[hW1,hbx];exact heap_alloc_new _ _
 have oV:=aV hx1
 have mW:∀W,Below W1.heap.size W1 W→W.cell? ⟨bx,0,none⟩=some (.int .i64 op)∧W.cell? ⟨bx,1,none⟩=some (.int .i64 vr)∧W.cell? ⟨bx,2,none⟩=some (.slice A m c):=fun W hb=>by
  have q:=(hb.block bx oV).trans hx1;exact⟨au q 0 rfl,au q 1 rfl,au q 2 rfl⟩
 have dJ:=Lib.hid mW;have H1:=Lib.hid (show Below w.heap.size w W1 from jU hW1);have HE:=Lib.hid (And.intro he (And.intro hs (And.intro hok oQ)));have cC:=p8 A c e W1 hs (he.below H1.out);rw[hval]at cC⊢;have qg:=Lib.hid cC;have abf:=Lib.hid hval;obtain⟨z0,z1,z2⟩:=dJ.out W1 (Below.refl _ _);have hg1:decide ((n:Int)<0)=false:=decide_eq_false (by omega);have hg2:decide ((12:Int)<(n:Int))=false:=decide_eq_false (by omega);clear cC hval hm hop mK hx1 mW he hs hok oQ;go_in
 go_wp2_with (rw[←hW1,←hbx];clear hW1 hbx;refine(qg.out).mono ?_)
 rintro r w2 ⟨x,rfl,hx,hb2⟩;obtain rfl:x=0:=hx.2 HE.out.2.2.1;obtain⟨b3,hb3⟩:∃b3,b3=w2.heap.size:=⟨_,rfl⟩;obtain⟨w3,hw3⟩:∃w3,w3=w2.alloc (.cells #[] 4):=⟨_,rfl⟩;have H3:=Lib.hid (show aQ W1.heap.size w3 4 1 bE (.slice (some ⟨b3,0,none⟩) 0 0) []∧Below W1.heap.size W1 w3 from⟨by rw[hw3,hb3];exact(aQ.fresh w2).mono hb2.size,hb2.trans ((jU hw3).mono hb2.size)⟩);clear hx hb2 qg z0 z1 z2 hg1 hg2 oV;go_wp2_with fail
 go_loopg [5,6,20,21,22,23,24,25,26] n (fun q v5 v6 v20 v21 v22 v23 v24 v25 v26 wr=>∃j y:Nat,q=n-j∧j≤n∧v6=.int .i64 (j:Nat)∧v5=.int .i64 (y:Nat)∧y=2^j∧wr=w2)
 case atStart=>exact⟨0,1,rfl,Nat.zero_le _,rfl,rfl,rfl,rfl⟩
 case round=>
  obtain⟨j,y,rfl,hj,rfl,rfl,hy,hw⟩:=hrel;have HY:=Lib.hid hy;have hyb:y≤4096:=by rw[hy];exact Nat.pow_le_pow_right (n:=2) (by decide) (show j≤12 by omega)
  clear hy
  by_cases hlt:j<n
  ·have hji:(j:Int)<(n:Int):=by omega
   have HW:=Lib.hid hw;clear hw
   go_wp2
   go_roundg (n-(j+1))
   case rel=>exact⟨j+1,2*y,rfl,by omega,by go_num,by go_num,by rw[HY.out,Nat.pow_succ,Nat.mul_comm],HW.out⟩
   case measure=>omega
  ·obtain rfl:j=n:=by omega
   rw[hw];clear hw;go_wp2_with fail;rw[←hw3,←hb3];clear hw3 hb3
   go_loopg [7,8,28,29,30,31,32,33,34,35,36,37,38,39,40] y (fun q v7 v8 v28 v29 v30 v31 v32 v33 v34 v35 v36 v37 v38 v39 v40 wr=>∃i:Nat,q=y-i∧i≤y∧v8=.int .i64 (i:Nat)∧aQ W1.heap.size wr 4 1 bE v7 (sZ e i)∧Below W1.heap.size W1 wr)
   case atStart=>exact⟨0,rfl,Nat.zero_le _,rfl,H3.out.1,H3.out.2⟩
   case round=>
    clear H3;obtain⟨i,rfl,hi,rfl,hacc,hb⟩:=hrel;obtain⟨pa,ca,hsh⟩:=hacc.shape;rw[rE]at hsh;subst hsh
    by_cases hlt2:i<y
    ·have hii:(i:Int)<(y:Int):=by omega
     obtain⟨w4,hw4⟩:∃w4,w4=wr:=⟨_,rfl⟩;subst hw4;have hbd:Below W1.heap.size W1 w4.drew:=hb.drew;obtain⟨w5,jS⟩:∃w5,w5=w4.drew:=⟨_,rfl⟩;rw[←jS]at hbd;have cL:=Gc i j (by omega) (by omega) w5;have lH:=Lib.hid cL;have H4:=Lib.hid (show aQ W1.heap.size w5 4 1 bE (.slice pa i ca) (sZ e i)∧Below W1.heap.size W1 w5 from⟨by rw[jS];exact hacc.below (Below.refl _ _).drew,hbd⟩);clear hacc hb hbd cL;go_wp2_with fail;refine wp_region_held_drew (S:=fun W=>W.cell? ⟨bx,0,none⟩=some (.int .i64 op)∧W.cell? ⟨bx,1,none⟩=some (.int .i64 vr)∧W.cell? ⟨bx,2,none⟩=some (.slice A m c)) (by kernel_rfl) (dJ.out _ (by rw[←jS];exact H4.out.2)) (fun hHeld=>?_)
     repeat
      (first|refine aD 0 (v:=?_) rfl ?hy ?_|refine aD 1 (v:=?_) rfl ?hy ?_|refine aD 2 (v:=?_) rfl ?hy ?_|refine aD 3 (v:=?_) rfl ?hy ?_
       case hy=>
        intro w0 hS;obtain⟨c0,c1,c2⟩:=hS;go_simp
        (first|done|with_reducible rfl)
       try simp only[Act.put,aZ,bq,bA])
     rw[←jS];clear jS;refine wpAnyH_ready (rs:=[4]) (by decide +kernel) (by simp) (AllReadyH.cons (dA rfl) (fun KC aO=>?_) AllReadyH.nil);refine bW 103 ?_;go_simp;clear hHeld;refine(lH.out).mono ?_;rintro r w6 ⟨o6,rfl,ho6,hb6⟩;obtain⟨p6,c6,hs6⟩:=ho6.shape;rw[d_]at hs6;subst hs6;have Vm:Below W1.heap.size W1 w6:=H4.out.2.trans (hb6.mono H4.out.2.size);have Y0:gB w6 (.slice p6 (gZ i j).length c6) (gZ i j):=by rw[d_];exact ho6.bools
     have cV:=DN (gZ i j) (by rw[d_];omega) p6 c6 60 A c e w6 HE.out.2.1 (by omega) HE.out.2.2.1 (by rw[d_];exact HE.out.2.2.2) (HE.out.1.below (H1.out.trans (Vm.mono H1.out.size))) Y0;rw[d_,abf.out,show e.val (fun q=>(gZ i j).getD q false)=e.val (Bd.iy i)from Bd.Ex.hangs e.size e (Nat.le_refl _) HE.out.2.2.1 HE.out.2.2.2 _ _ (fun v hv=>DK hv)]at cV;obtain⟨bv,hbv⟩:∃bv,bv=e.val (Bd.iy i):=⟨_,rfl⟩;rw[←hbv]at cV;have HBV:=Lib.hid hbv;have BD:=Lib.hid cV;have H6:=Lib.hid (show aQ W1.heap.size w6 4 1 bE (.slice pa i ca) (sZ e i)∧Below W1.heap.size W1 w6 from⟨H4.out.1.below hb6,Vm⟩);clear ho6 hb6 Vm Y0 cV hbv;refine aO.out _ _ (dJ.out _ H6.out.2) (fun hHeld=>?_);clear aO KC;(try simp only[Act.put,aZ,bq,bA]);refine wpAnyH_ready (rs:=[5]) (by decide +kernel) (by simp) (AllReadyH.cons (dA rfl) (fun KC aO=>?_) AllReadyH.nil);refine bW 102 ?_;go_simp;clear hHeld;refine(BD.out).mono ?_;rintro r w7 ⟨rfl,kH⟩;have H7:=Lib.hid (show aQ W1.heap.size w7 4 1 bE (.slice pa i ca) (sZ e i)∧Below W1.heap.size W1 w7 from⟨H6.out.1.below kH,H6.out.2.trans (kH.mono H6.out.2.size)⟩);clear kH;refine aO.out _ _ (dJ.out _ H7.out.2) (fun hHeld=>?_);clear aO KC;(try simp only[Act.put,aZ,bq,bA]);refine wpAnyH_ready (rs:=[6]) (by decide +kernel) (by simp) (AllReadyH.cons (dA rfl) (fun KC aO=>?_) AllReadyH.nil);refine isAny ?_;go_simp;clear hHeld
     obtain⟨b8,gY⟩:∃b8,b8=w7.heap.size:=⟨_,rfl⟩;obtain⟨w8,hw8⟩:∃w8,w8=w7.alloc (.cells #[.bool bv] 4):=⟨_,rfl⟩;have IK:w8.heap[b8]?=some (.cells #[.bool bv] 4 (0,0)):=by rw[hw8,gY];exact heap_alloc_new _ _
     have H8:=Lib.hid (show aQ W1.heap.size w8 4 1 bE (.slice pa i ca) (sZ e i)∧Below W1.heap.size W1 w8∧w8.heap[b8]?=some (.cells #[.bool bv] 4 (0,0))from⟨H7.out.1.below (jU hw8),H7.out.2.trans ((jU hw8).mono H7.out.2.size),IK⟩);rw[←hw8,←gY];clear hw8 gY IK;refine aO.out _ _ (dJ.out _ H8.out.2.1) (fun hHeld=>?_);clear aO KC;(try simp only[Act.put,aZ,bq,bA]);refine wpAnyH_ready (rs:=[7]) (by decide +kernel) (by simp) (AllReadyH.cons (dA rfl) (fun KC aO=>?_) AllReadyH.nil);refine isAny ?_;clear hHeld;have Y5:Sl w8 4 1 (.slice pa i ca) i (fC bE (sZ e i)):=by have:=H8.out.1.1;rw[rE]at this;exact this
     refine lY w8 _ _ rfl Jo rfl Y5 rfl H8.out.2.2 rfl (by simp[Value.oneCell']) (by omega) ?_;intro g9 c9 w9 hq9;have hq:bY w8 4 1 (.slice pa i ca) i 1 _ g9 c9 w9:=hq9;obtain⟨r1,r2⟩:=H8.out.1.push (e:=bv) (rE e i) hq H8.out.2.1.size rfl;rw[HBV.out,←KV]at r1;have H9:=Lib.hid (And.intro r1 (H8.out.2.1.trans r2));clear hq hq9 r1 r2 Y5;refine aO.out _ _ (dJ.out _ H9.out.2) (fun hHeld=>?_);clear aO KC;try simp only[Act.put,aZ,bq,bA]
     repeat
      (first|refine aD 8 (v:=?_) rfl ?hy ?_
       case hy=>
        intro w0 hS;obtain⟨c0,c1,c2⟩:=hS;go_simp
        (first|done|with_reducible rfl)
       try simp only[Act.put,aZ,bq,bA])
     refine wpAnyH_done (by decide +kernel) ?_ _;clear hHeld;go_wp2_with fail
     go_roundg (y-(i+1))
     case rel=>exact⟨i+1,rfl,by omega,by go_num,H9.out⟩
     case measure=>omega
    ·obtain rfl:i=y:=by omega
     have HA:=Lib.hid (And.intro hacc hb);clear hacc hb;go_wp2_with fail;rw[HF.out];exact⟨_,rfl,(HA.out.1.mono H1.out.size).tb (by rw[rE,HY.out]) (Nat.two_pow_pos _) (fun q hq=>(Rv (by rw[HY.out];exact hq)).symm),H1.out.trans (HA.out.2.mono H1.out.size)⟩
theorem DU(n h:Nat)(hn:n≤8)(hh:h≤1000)(w:World):Calls Tryz.prog 96 #[.int .i64 (n:Nat),.int .i64 (h:Nat)] w fun r w'=>r=.returned (.int .i64 ((4*2^(2*n)+4*(h+8)*2^n:Nat):Int))∧w'=w:=by
 obtain⟨F,HF⟩:=aJ (fun(r:Ending)(w':World)=>r=.returned (.int .i64 ((4*2^(2*n)+4*(h+8)*2^n:Nat):Int))∧w'=w);rw[←HF.out];have c1:=oM (2*n) (by omega) w;have c2:=oM n (by omega) w;obtain⟨q,hq⟩:∃q,q=2^n:=⟨_,rfl⟩;obtain⟨q2,hq2⟩:∃q2,q2=2^(2*n):=⟨_,rfl⟩;have XG:q≤256:=by rw[hq];exact Nat.pow_le_pow_right (n:=2) (by decide) (show n≤8 by omega)
 have ab1:q2≤65536:=by rw[hq2];exact Nat.pow_le_pow_right (n:=2) (by decide) (show 2*n≤16 by omega)
 rw[←hq2,show((2*n:Nat):Int)=2*(n:Int) by omega]at c1;rw[←hq]at c2;obtain⟨p,hp⟩:∃p,p=4*(h+8)*q:=⟨_,rfl⟩
 have hpb:p≤1200000:=by
  rw[hp];have:=Nat.mul_le_mul (show 4*(h+8)≤4032 by omega) XG;omega
 rw[←hq2,←hq,←hp]at HF;have hpi:(4*((h:Int)+8))*(q:Int)=(p:Int):=by rw[hp];push_cast;rfl
 have HC:=Lib.hid (And.intro c1 c2);clear c1 c2 hq hq2 hp;go_in
 go_wp2_with (first|(go_at_call 85;with_reducible refine(HC.out.1).mono ?_;rintro r w' ⟨rfl,hw⟩;rw[hw];clear hw)|(go_at_call 85;with_reducible refine(HC.out.2).mono ?_;rintro r w' ⟨rfl,hw⟩;rw[hw];clear hw))
 rw[HF.out];refine⟨?_,rfl⟩;have e1:(4*((h:Int)+8))*(q:Int)=(p:Int):=hpi
 go_num
theorem KW(n h:Nat)(hn:n≤8)(hh:h≤1000)(w:World):Calls Tryz.prog 35 #[.int .i64 (n:Nat),.int .i64 (h:Nat)] w fun r w'=>r=.returned (.int .i64 ((4*2^(2*n)+4*(h+8)*2^n:Nat):Int))∧w'=w:=by
 obtain⟨z,hz⟩:∃z:Int,z=((4*2^(2*n)+4*(h+8)*2^n:Nat):Int):=⟨_,rfl⟩;have cE:=DU n h hn hh w;rw[←hz]at cE⊢;obtain⟨F,HF⟩:=aJ (fun(r:Ending)(w':World)=>r=.returned (.int .i64 z)∧w'=w);rw[←HF.out];have HC:=Lib.hid cE;clear cE hz;go_in
 go_wp2_with (go_at_call 96;with_reducible refine(HC.out).mono ?_;rintro r w' ⟨rfl,hw⟩;rw[hw];clear hw)
 rw[HF.out];exact⟨rfl,rfl⟩
/-- How often a number stands in a list,so far. -/
def KX(l:List Int)(v:Int)(i:Nat):Nat:=(l.take i).count v
theorem KY{l:List Int}{v x:Int}{i:Nat}(h:l[i]?=some x):KX l v (i+1)=KX l v i+(if x=v then 1 else 0):=by
 unfold KX;rw[List.take_add_one,h,List.count_append]
 congr 1
 simp only[Option.toList_some,List.count_singleton,beq_iff_eq]
theorem Gh{A:Option Addr}{c n:Nat}{l:List Int}{w:World}(h:kZ w A c l)(hn:n≤100) :
 Calls Tryz.prog 29 #[.slice A l.length c,.int .i64 (n:Nat)] w fun r w'=>∃b:Bool,r=.returned (.bool b)∧(b=true→l.length=n∧∀v:Nat,v<n→l.count (v:Int)=1)∧w'=w:=by
 obtain⟨F,HF⟩:=aJ (fun(r:Ending)(w':World)=>∃b:Bool,r=.returned (.bool b)∧(b=true→l.length=n∧∀v:Nat,v<n→l.count (v:Int)=1)∧w'=w);rw[←HF.out];obtain⟨m,hm⟩:∃m,m=l.length:=⟨_,rfl⟩;rw[←hm];have hmb:m≤9223372036854775807:=by have h1:=h.1;have h2:=h.2.1;unfold maxLen at h2;omega
 have HH:=Lib.hid (And.intro h hm);clear h hm;go_in
 by_cases hmn:m=n
 ·subst hmn;go_wp2_with fail
  go_loopg [5,6,7,12,13,14,15,16,17,18,19,20,21,22,23,24,25,26,27,28,29,30,31] m (fun q v5 v6 v7 v12 v13 v14 v15 v16 v17 v18 v19 v20 v21 v22 v23 v24 v25 v26 v27 v28 v29 v30 v31 wr=>∃j:Nat,q=m-j∧j≤m∧v5=.int .i64 (j:Nat)∧(∀v:Nat,v<j→l.count (v:Int)=1)∧wr=w)
  case atStart=>exact⟨0,rfl,Nat.zero_le _,rfl,fun v hv=>absurd hv (Nat.not_lt_zero _),rfl⟩
  case round=>
   obtain⟨j,rfl,hj,rfl,hc,rfl⟩:=hrel;have Tq:=Lib.hid hc;clear hc
   by_cases hlt:j<m
   ·have hji:(j:Int)<(m:Int):=by omega
    go_wp2_with fail
    go_loopg [6,7,17,18,19,20,21,22,23,24,25,26,27,28,29] m (fun q v6 v7 v17 v18 v19 v20 v21 v22 v23 v24 v25 v26 v27 v28 v29 wx=>∃i k:Nat,q=m-i∧i≤m∧v7=.int .i64 (i:Nat)∧v6=.int .i64 (k:Nat)∧k=KX l (j:Int) i∧k≤i∧wx=wr)
    case atStart=>exact⟨0,0,rfl,Nat.zero_le _,rfl,rfl,rfl,Nat.zero_le _,rfl⟩
    case round=>
     obtain⟨i,k,rfl,hi,rfl,rfl,hk,hki,hw⟩:=hrel;rw[hw];have HW:=Lib.hid hw;have HKK:=Lib.hid hk;clear hk hw
     by_cases hlt2:i<m
     ·have hii:(i:Int)<(m:Int):=by omega
      obtain⟨x,hx⟩:∃x,l[i]?=some x:=⟨_,List.getElem?_eq_getElem (by rw[←HH.out.2];exact hlt2)⟩;obtain⟨b,o,hA,hb,hcell⟩:=HH.out.1.get hx;have hsz:=HH.out.1.2.2.1 x (List.mem_of_getElem? hx);have HS:=Lib.hid (KY (v:=(j:Int)) hx);subst hA;clear hx
      by_cases hxj:x=(j:Int)
      ·rw[if_pos hxj]at HS;subst hxj
       go_wp2
       go_roundg (m-(i+1))
       case rel=>exact⟨i+1,k+1,rfl,by omega,by go_num,by go_num,by rw[HS.out,HKK.out],by omega,rfl⟩
       case measure=>omega
      ·rw[if_neg hxj]at HS;have hxe:(x==(j:Int))=false:=beq_false_of_ne hxj;clear hxj
       go_wp2
       go_roundg (m-(i+1))
       case rel=>exact⟨i+1,k,rfl,by omega,by go_num,by go_num,by rw[HS.out,HKK.out];rfl,by omega,rfl⟩
       case measure=>omega
     ·obtain rfl:i=m:=by omega
      have hall:KX l (j:Int) i=l.count (j:Int):=by
       unfold KX;rw[List.take_of_length_le (by rw[←HH.out.2];exact Nat.le_refl _)]
      by_cases hk1:k=1
      ·have EP:=Lib.hid (show l.count (j:Int)=1 by rw[←hall,←HKK.out,hk1]);subst hk1;clear hall
       go_wp2
       go_roundg (i-(j+1))
       case rel=>
        refine⟨j+1,rfl,by omega,by go_num,fun v hv=>?_,rfl⟩
        by_cases e:v=j
        ·rw[e];exact EP.out
        ·exact Tq.out v (by omega)
       case measure=>omega
      ·have hke:((k:Int) != 1)=true:=bne_iff_ne.2 (by omega);clear hall hk1
       go_wp2
       rw[HF.out];exact⟨false,rfl,(fun h=>by cases h),rfl⟩
   ·obtain rfl:j=m:=by omega
    go_wp2
    rw[HF.out];exact⟨true,rfl,fun _=>⟨HH.out.2.symm,Tq.out⟩,rfl⟩
 ·have hme:((m:Int) != (n:Int))=true:=bne_iff_ne.2 (by omega);clear hmn
  go_wp2
  rw[HF.out];exact⟨false,rfl,(fun h=>by cases h),rfl⟩
/-- What the reference asks of an event. -/
def t_(n:Nat)(x:Int×Int×Int):Prop:=1≤x.2.1∧x.2.1≤3∧1≤x.1∧(x.2.1=2→0≤x.2.2∧x.2.2≤(n:Int)-2)
theorem KZ{A:Option Addr}{c n:Nat}{l:List (Int×Int×Int)}{w:World}(h:xL w A c l)(hz:∀x∈l,(-9223372036854775808≤x.1∧x.1≤9223372036854775807)∧(-9223372036854775808≤x.2.1∧x.2.1≤9223372036854775807)∧(-9223372036854775808≤x.2.2∧x.2.2≤9223372036854775807))(hn:n≤100) :
 Calls Tryz.prog 30 #[.int .i64 (n:Nat),.int .i64 0,.slice A l.length c] w fun r w'=>∃z:Int,r=.returned (.int .i64 z)∧(z=0→∀x∈l,t_ n x)∧w'=w:=by
 obtain⟨F,HF⟩:=aJ (fun(r:Ending)(w':World)=>∃z:Int,r=.returned (.int .i64 z)∧(z=0→∀x∈l,t_ n x)∧w'=w);rw[←HF.out];obtain⟨m,hm⟩:∃m,m=l.length:=⟨_,rfl⟩;rw[←hm];have hmb:m≤9223372036854775807:=by have h1:=h.1;have h2:=h.2.1;unfold maxLen at h2;omega
 have HH:=Lib.hid (And.intro h (And.intro hm hz));clear h hm hz;go_in
 by_cases hmn:256<m
 ·have wz:(256:Int)<(m:Int):=by omega
  clear hmn
  go_wp2
  rw[HF.out];exact⟨_,rfl,(fun h=>absurd h (by decide)),rfl⟩
 ·have wz:¬(256:Int)<(m:Int):=by omega
  clear hmn;go_wp2_with fail
  go_loopg [7,13,14,15,16,17,18,19,20,21,22,23,24,25,26,27,28,29,30,31,32,33,34,35,36,37,38,39,40,41,42,43,44,45,46,47,48,49,50,51,52,53,54,55,56,57,58,59,60,61,62,63,64] m (fun q v7 v13 v14 v15 v16 v17 v18 v19 v20 v21 v22 v23 v24 v25 v26 v27 v28 v29 v30 v31 v32 v33 v34 v35 v36 v37 v38 v39 v40 v41 v42 v43 v44 v45 v46 v47 v48 v49 v50 v51 v52 v53 v54 v55 v56 v57 v58 v59 v60 v61 v62 v63 v64 wr=>∃j:Nat,q=m-j∧j≤m∧v7=.int .i64 (j:Nat)∧(∀x∈l.take j,t_ n x)∧wr=w)
  case atStart=>exact⟨0,rfl,Nat.zero_le _,rfl,(fun x hx=>by simp at hx),rfl⟩
  case round=>
   obtain⟨j,rfl,hj,rfl,hc,hw⟩:=hrel;rw[hw];have Tq:=Lib.hid hc;have HW:=Lib.hid hw;clear hc hw
   by_cases hlt:j<m
   ·have hji:(j:Int)<(m:Int):=by omega
    obtain⟨x,hx⟩:∃x,l[j]?=some x:=⟨_,List.getElem?_eq_getElem (by rw[←HH.out.2.1];exact hlt)⟩;obtain⟨b,o,hA,hb,hc0,hc1,hc2⟩:=HH.out.1.get hx;have hz:=HH.out.2.2 x (List.mem_of_getElem? hx);have htk:∀y,y∈l.take (j+1)↔y∈l.take j∨y=x:=fun y=>by rw[List.take_add_one,hx];simp
    have uK:=Lib.hid htk;subst hA;clear hx htk;obtain⟨x0,x1,x2⟩:=x;obtain⟨⟨hz1,hz2⟩,⟨hz3,hz4⟩,hz5,hz6⟩:=hz;simp only at hc0 hc1 hc2 hz1 hz2 hz3 hz4 hz5 hz6
    by_cases k1:x1<1
    ·go_wp2
     rw[HF.out];exact⟨_,rfl,(fun h=>absurd h (by decide)),rfl⟩
    have k1d:decide (x1<1)=false:=decide_eq_false k1
    by_cases k3:3<x1
    ·go_wp2
     rw[HF.out];exact⟨_,rfl,(fun h=>absurd h (by decide)),rfl⟩
    have k3d:decide (3<x1)=false:=decide_eq_false k3
    by_cases ka:x0<1
    ·go_wp2
     rw[HF.out];exact⟨_,rfl,(fun h=>absurd h (by decide)),rfl⟩
    have kad:decide (x0<1)=false:=decide_eq_false ka
    by_cases k2:x1=2
    ·subst k2
     by_cases kb:x2<0
     ·go_wp2
      rw[HF.out];exact⟨_,rfl,(fun h=>absurd h (by decide)),rfl⟩
     have kbd:decide (x2<0)=false:=decide_eq_false kb
     by_cases kc:(n:Int)-2<x2
     ·go_wp2
      rw[HF.out];exact⟨_,rfl,(fun h=>absurd h (by decide)),rfl⟩
     have kcd:decide ((n:Int)-2<x2)=false:=decide_eq_false kc;have OP:=Lib.hid (show t_ n (x0,2,x2)from⟨show(1:Int)≤2 by decide,show(2:Int)≤3 by decide,by simp only;omega,fun _=>by simp only;omega⟩);clear ka kb kc
     go_wp2
     go_roundg (m-(j+1))
     case rel=>
      refine⟨j+1,rfl,by omega,by go_num,fun y hy=>?_,rfl⟩
      rcases(uK.out y).1 hy with h|h
      ·exact Tq.out y h
      ·rw[h];exact OP.out
     case measure=>omega
    ·have k2d:(x1==2)=false:=beq_false_of_ne k2;have OP:=Lib.hid (show t_ n (x0,x1,x2)from⟨by simp only;omega,by simp only;omega,by simp only;omega,fun h=>absurd h k2⟩);clear ka k2
     go_wp2
     go_roundg (m-(j+1))
     case rel=>
      refine⟨j+1,rfl,by omega,by go_num,fun y hy=>?_,rfl⟩
      rcases(uK.out y).1 hy with h|h
      ·exact Tq.out y h
      ·rw[h];exact OP.out
     case measure=>omega
   ·obtain rfl:j=m:=by omega
    have hall:l.take j=l:=List.take_of_length_le (by rw[←HH.out.2.1];exact Nat.le_refl _);have Rt:=Lib.hid (show ∀x∈l,t_ n x by rw[←hall];exact Tq.out);clear hall
    go_wp2
    rw[HF.out];exact⟨_,rfl,(fun _=>Rt.out),rfl⟩
section
/-- An expression that the law takes. -/
def IL(n:Nat)(e:Ex):Prop:=e.size≤40∧e.o_∧e.Cv n
/-- A question in memory. -/
structure Bn(w:World)(lo:List Int)(le:List Ex)(lp:List (Int×Int×Int))(Ao Ae Ap:Option Addr)(co ce cp:Nat):Prop where
 ord:kZ w Ao co lo
 exs:BK w Ae ce (.mk 0 0 le)
 evs:xL w Ap cp lp
 evz:∀x∈lp,(-9223372036854775808≤x.1∧x.1≤9223372036854775807)∧(-9223372036854775808≤x.2.1∧x.2.1≤9223372036854775807)∧(-9223372036854775808≤x.2.2∧x.2.2≤9223372036854775807)
theorem Bn.below{w w':World}{lo:List Int}{le:List Ex}{lp:List (Int×Int×Int)}{Ao Ae Ap:Option Addr}{co ce cp:Nat}(h:Bn w lo le lp Ao Ae Ap co ce cp)(hb:Below w.heap.size w w'):Bn w' lo le lp Ao Ae Ap co ce cp:=⟨h.ord.below hb,h.exs.below hb,h.evs.below hb,h.evz⟩
/-- The law's question is small. -/
structure uO(n:Int)(lo:List Int)(le:List Ex)(lp:List (Int×Int×Int)):Prop where
 n1:1≤n
 n6:n≤6
 el:le.length≤5
 pl:lp.length≤6
 perm:lo=[]∨((lo.length:Int)=n∧∀v:Nat,(v:Int)<n→lo.count (v:Int)=1)
 ev:∀x∈lp,t_ n.toNat x∧x.1≤300
 ex:∀e∈le,IL n.toNat e
def nT(n:Int)(lo:List Int)(le:List Ex)(lp:List (Int×Int×Int))(Ao Ae Ap:Option Addr)(co ce cp:Nat):Value:=.agg #[.int .i64 n,.slice Ao lo.length co,.slice Ae le.length ce,.slice Ap lp.length cp]
theorem IQ(z:Int):z=0∨(z != 0)=true:=by
 by_cases h:z=0
 ·exact .inl h
 ·exact .inr (bne_iff_ne.2 h)
theorem Rx(b:Bool):b=false∨b=true:=by cases b<;>simp
section
variable {w:World} {n:Int} {lo:List Int} {le:List Ex} {lp:List (Int×Int×Int)} {Ao Ae Ap:Option Addr} {co ce cp:Nat}
theorem Gi(h:Bn w lo le lp Ao Ae Ap co ce cp) :
 Calls Tryz.prog 5 #[nT n lo le lp Ao Ae Ap co ce cp] w fun r w'=>∃b:Bool,r=.returned (.bool b)∧(b=true→uO n lo le lp)∧Below w.heap.size w w':=by
 obtain⟨F,HF⟩:=aJ (fun(r:Ending)(w':World)=>∃b:Bool,r=.returned (.bool b)∧(b=true→uO n lo le lp)∧Below w.heap.size w w');rw[←HF.out];unfold nT;obtain⟨mo,hmo⟩:∃m,m=lo.length:=⟨_,rfl⟩;obtain⟨me,hme⟩:∃m,m=le.length:=⟨_,rfl⟩;obtain⟨mp,hmp⟩:∃m,m=lp.length:=⟨_,rfl⟩;rw[←hmo,←hme,←hmp];have xK:mo≤9223372036854775807:=by have h1:=h.ord.1;have h2:=h.ord.2.1;unfold maxLen at h2;omega
 have hbe:me≤9223372036854775807:=by have h1:=h.exs.cap;have h2:=h.exs.kY;unfold maxLen at h2;have h3:me≤ce:=(by rw[hme];exact h1);omega
 have hbp:mp≤9223372036854775807:=by have h1:=h.evs.1;have h2:=h.evs.2.1;unfold maxLen at h2;omega
 obtain⟨W1,hW1⟩:∃W1,W1=w.alloc (.cells #[.int .i64 n,.slice Ao mo co,.slice Ae me ce,.slice Ap mp cp] 26):=⟨_,rfl⟩;obtain⟨bx,hbx⟩:∃bx,bx=w.heap.size:=⟨_,rfl⟩;have hx1:W1.heap[bx]?=some (.cells #[.int .i64 n,.slice Ao mo co,.slice Ae me ce,.slice Ap mp cp] 26 (0,0)):=by rw[hW1,hbx];exact heap_alloc_new _ _
 have oV:=aV hx1
 have mW:∀W,Below W1.heap.size W1 W→W.cell? ⟨bx,0,none⟩=some (.int .i64 n)∧W.cell? ⟨bx,1,none⟩=some (.slice Ao mo co)∧W.cell? ⟨bx,2,none⟩=some (.slice Ae me ce)∧W.cell? ⟨bx,3,none⟩=some (.slice Ap mp cp)∧bx<W.heap.size:=fun W hb=>by
  have q:=(hb.block bx oV).trans hx1;exact⟨au q 0 rfl,au q 1 rfl,au q 2 rfl,au q 3 rfl,aV q⟩
 have dJ:=Lib.hid mW;have H1:=Lib.hid (show Below w.heap.size w W1∧Bn W1 lo le lp Ao Ae Ap co ce cp from⟨jU hW1,h.below (jU hW1)⟩);have HM:=Lib.hid (And.intro hmo (And.intro hme hmp));obtain⟨z0,z1,z2,z3,zl⟩:=dJ.out W1 (Below.refl _ _);have wY:Hid (∀w',Below w.heap.size w w'→F (.returned (.bool false)) w'):=fun w' hb=>by rw[HF.out];exact⟨false,rfl,(fun h=>by cases h),hb⟩
 clear h hmo hme hmp hx1 oV mW;go_in
 by_cases k1:n<1
 ·go_wp2_with fail;rw[←hW1];exact wY.out _ H1.out.1
 have k1d:decide (n<1)=false:=decide_eq_false k1
 by_cases k2:6<n
 ·go_wp2_with fail;rw[←hW1];exact wY.out _ H1.out.1
 have k2d:decide (6<n)=false:=decide_eq_false k2;obtain⟨nn,rfl⟩:∃nn:Nat,n=(nn:Int):=⟨n.toNat,by omega⟩
 by_cases k3:5<me
 ·have k3i:(5:Int)<(me:Int):=by omega
  have k3t:decide ((5:Int)<(me:Int))=true:=decide_eq_true k3i;go_wp2_with fail;rw[←hW1];exact wY.out _ H1.out.1
 have k3d:decide ((5:Int)<(me:Int))=false:=decide_eq_false (by omega)
 by_cases k4:6<mp
 ·have k4i:(6:Int)<(mp:Int):=by omega
  have k4t:decide ((6:Int)<(mp:Int))=true:=decide_eq_true k4i;go_wp2_with fail;rw[←hW1];exact wY.out _ H1.out.1
 have k4d:decide ((6:Int)<(mp:Int))=false:=decide_eq_false (by omega);have HB:=Lib.hid (show nn≤6∧1≤nn∧me≤5∧mp≤6 by omega);have cR:=Gh (n:=nn) H1.out.2.ord (by omega);have cP:=KZ (n:=nn) H1.out.2.evs H1.out.2.evz (by omega);rw[←HM.out.1]at cR;rw[←HM.out.2.2]at cP;have QS:=Lib.hid cR;have Ro:=Lib.hid cP;clear cR cP
 rcases Nat.eq_zero_or_pos mo with k5|k5
 all_goals
  first
   |(have k50:mo=0:=k5
     have k5d:decide ((0:Int)<(mo:Int))=false:=decide_eq_false (by omega);have k5n:decide (0<mo)=false:=decide_eq_false (by omega);have k5m:¬0<mo:=by omega
     have HPO:Hid (lo=[]∨((lo.length:Int)=(nn:Int)∧∀v:Nat,(v:Int)<(nn:Int)→lo.count (v:Int)=1)):=.inl (List.eq_nil_of_length_eq_zero (by rw[←HM.out.1];exact k5));clear k5 k50 QS
     go_wp2_with (rw[←hW1,←hbx];clear hW1 hbx;refine(Ro.out).mono ?_;rintro r w2 ⟨z,rfl,hz,hw⟩;rw[hw];have HZ:=Lib.hid hz;clear hw hz;rcases IQ z with rfl|hz1))
   |(have k5i:(0:Int)<(mo:Int):=by omega
     have k5d:decide ((0:Int)<(mo:Int))=true:=decide_eq_true k5i;have k5n:decide (0<mo)=true:=decide_eq_true k5
     go_wp2_with (rw[←hW1,←hbx];clear hW1 hbx;refine(QS.out).mono ?_;rintro r w2 ⟨b,rfl,hb,hw⟩;rw[hw];have abg:=Lib.hid hb;clear hw hb;obtain rfl|rfl:=Rx b)
     ·exact wY.out _ H1.out.1
     have HPO:Hid (lo=[]∨((lo.length:Int)=(nn:Int)∧∀v:Nat,(v:Int)<(nn:Int)→lo.count (v:Int)=1)):=.inr (by
      obtain⟨h1,h2⟩:=abg.out trivial
      exact⟨by have h9:=HM.out.1;omega,fun v hv=>h2 v (by omega)⟩)
     clear k5 QS k5i
     go_wp2_with (refine(Ro.out).mono ?_;rintro r w2 ⟨z,rfl,hz,hw⟩;rw[hw];have HZ:=Lib.hid hz;clear hw hz;rcases IQ z with rfl|hz1))
 all_goals
  first
  |(have hz2:=hz1
    exact wY.out _ H1.out.1)
  |skip
 all_goals
  have wR:Hid (∀x∈lp,t_ nn x):=by
   first
    |exact HZ.out trivial
    |exact HZ.out rfl
  clear Ro k1 k1d k2 k2d k3 k3d k4 k4d k5d;have ab2:mp≤6:=HB.out.2.2.2
  go_loopg [4,54,55,56,57,58,59,60,61] mp (fun q v4 v54 v55 v56 v57 v58 v59 v60 v61 wr=>∃j:Nat,q=mp-j∧j≤mp∧v54=.int .i64 (j:Nat)∧Below W1.heap.size W1 wr∧∀x∈lp.take j,x.1≤300)
  case atStart=>exact⟨0,rfl,Nat.zero_le _,rfl,Below.refl _ _,(fun x hx=>by simp at hx)⟩
  case round=>
   clear z0 z1 z2 z3 zl;obtain⟨j,rfl,hj,rfl,hb,h3⟩:=hrel;obtain⟨z0,z1,z2,z3,zl⟩:=dJ.out wr hb
   by_cases hlt:j<mp
   ·have hji:(j:Int)<(mp:Int):=by omega
    obtain⟨x,hx⟩:∃x,lp[j]?=some x:=⟨_,List.getElem?_eq_getElem (by rw[←HM.out.2.2];exact hlt)⟩;obtain⟨b,o,hA,hbl,hc0,hc1,hc2⟩:=(H1.out.2.evs.below hb).get hx;have htk:∀y,y∈lp.take (j+1)↔y∈lp.take j∨y=x:=fun y=>by rw[List.take_add_one,hx];simp
    have uK:=Lib.hid htk;have mU:=Lib.hid (And.intro hb h3);subst hA;clear hx htk hb h3;obtain⟨x0,x1,x2⟩:=x;simp only at hc0 hc1 hc2
    by_cases k6:300<x0
    ·go_wp2_with fail;exact wY.out _ (H1.out.1.trans ((mU.out.1.alloc mU.out.1.size _).mono H1.out.1.size))
    ·go_wp2_with fail
     go_roundg (mp-(j+1))
     case rel=>
      refine⟨j+1,rfl,by omega,by go_num,mU.out.1.alloc mU.out.1.size _,fun y hy=>?_⟩
      rcases(uK.out y).1 hy with h|h
      ·exact mU.out.2 y h
      ·rw[h];simp only;omega
     case measure=>omega
   ·obtain rfl:j=mp:=by omega
    have HEA:=Lib.hid (show ∀x∈lp,x.1≤300 by
     have:=h3
     rwa [List.take_of_length_le (by rw[←HM.out.2.2];exact Nat.le_refl _)]at this)
    obtain⟨w4,hw4⟩:∃w4,w4=wr:=⟨_,rfl⟩;subst hw4;have mU:=Lib.hid hb;clear h3 hb;go_wp2_with fail;clear z0 z1 z2 z3 zl;have ab3:me≤5:=HB.out.2.2.1
    go_loopg [6,8,65,66,67,68,69,70,71,72,73,74,75,76,77,78,79,80,81,82,83,84,85,86,87,88,89] me (fun q v6 v8 v65 v66 v67 v68 v69 v70 v71 v72 v73 v74 v75 v76 v77 v78 v79 v80 v81 v82 v83 v84 v85 v86 v87 NV v89 wr=>∃i:Nat,q=me-i∧i≤me∧v65=.int .i64 (i:Nat)∧Below W1.heap.size W1 wr∧∀e∈le.take i,IL nn e)
    case atStart=>exact⟨0,rfl,Nat.zero_le _,rfl,mU.out,(fun x hx=>by simp at hx)⟩
    case round=>
     obtain⟨i,rfl,hi,rfl,hb,h3⟩:=hrel
     by_cases hlt2:i<me
     ·have hii:(i:Int)<(me:Int):=by omega
      obtain⟨e,hek⟩:∃e,le[i]?=some e:=⟨_,List.getElem?_eq_getElem (by rw[←HM.out.2.1];exact hlt2)⟩;obtain⟨g,o,A',c',hA,hg,k0,k1,k2,hV⟩:=(H1.out.2.exs.below hb).kid (x:=e) hek;have htk:∀y,y∈le.take (i+1)↔y∈le.take i∨y=e:=fun y=>by rw[List.take_add_one,hek];simp
      subst hA;obtain⟨op,hop⟩:∃op,op=e.op:=⟨_,rfl⟩;obtain⟨vr,mK⟩:∃vr,vr=e.var:=⟨_,rfl⟩;obtain⟨m,hm⟩:∃m,m=e.kids.length:=⟨_,rfl⟩;have hval:dz A' c' e=.agg #[.int .i64 op,.int .i64 vr,.slice A' m c']:=by unfold dz bN;rw[hm,hop,mK]
      rw[←hop]at k0;rw[←mK]at k1;rw[←hm]at k2;have hlx:m≤9223372036854775807:=by rw[hm];have:=hV.cap;have:=hV.kY;unfold maxLen at this;omega
      obtain⟨W5,mV⟩:∃W5,W5=wr.alloc (.cells #[.int .i64 op,.int .i64 vr,.slice A' m c'] 75):=⟨_,rfl⟩;obtain⟨b6,hb6⟩:∃b6,b6=wr.heap.size:=⟨_,rfl⟩;have hx6:W5.heap[b6]?=some (.cells #[.int .i64 op,.int .i64 vr,.slice A' m c'] 75 (0,0)):=by rw[mV,hb6];exact heap_alloc_new _ _
      have hl6:=aV hx6;have hb5:Below W1.heap.size W1 W5:=hb.trans ((jU mV).mono hb.size)
      have hB6:∀W,Below W5.heap.size W5 W→W.cell? ⟨b6,0,none⟩=some (.int .i64 op)∧W.cell? ⟨b6,1,none⟩=some (.int .i64 vr)∧W.cell? ⟨b6,2,none⟩=some (.slice A' m c')∧b6<W.heap.size:=fun W hb=>by
       have q:=(hb.block b6 hl6).trans hx6;exact⟨au q 0 rfl,au q 1 rfl,au q 2 rfl,aV q⟩
      have hV5:=hV.below (jU mV);have cPa:=F7 40 A' c' e W5 (by omega) hV5;rw[hval]at cPa;obtain⟨sz,hsz⟩:∃sz,sz=min e.size 41:=⟨_,rfl⟩;rw[show min e.size (40+1)=sz from hsz.symm]at cPa;have ab4:sz≤41:=by omega
      have HPA:=Lib.hid cPa;have HV:=Lib.hid (And.intro hV5 (And.intro hval (And.intro hsz hb5)));have BH:=Lib.hid hB6;have HT:=Lib.hid (And.intro htk h3);clear hek hV hV5 htk h3 hop mK hm hval hx6 hb5 hB6 cPa hsz hb
      go_wp2_with (rw[←mV,←hb6];clear mV hb6;refine(HPA.out).mono ?_)
      rintro r w6 ⟨rfl,kH⟩;have Vn:Below W1.heap.size W1 w6:=HV.out.2.2.2.trans (kH.mono HV.out.2.2.2.size);obtain⟨y0,y1,y2,yl⟩:=BH.out w6 kH
      by_cases k7:40<sz
      ·have k7i:(40:Int)<(sz:Int):=by omega
       have k7d:decide ((40:Int)<(sz:Int))=true:=decide_eq_true k7i;go_wp2_with fail;exact wY.out _ (H1.out.1.trans (Vn.mono H1.out.1.size))
      have k7d:decide ((40:Int)<(sz:Int))=false:=decide_eq_false (by omega);have hes:e.size≤40:=by have:=HV.out.2.2.1;omega
      have cCh:=p8 A' c' e w6 (by omega) (HV.out.1.below kH);rw[HV.out.2.1]at cCh;have HCH:=Lib.hid cCh;have H6:=Lib.hid (And.intro Vn (And.intro kH hes));clear Vn kH cCh hes k7 k0 k1 k2 hg HPA
      go_wp2_with (refine(HCH.out).mono ?_)
      rintro r w7 ⟨y,rfl,hy,gY⟩;have Vo:Below W1.heap.size W1 w7:=H6.out.1.trans (gY.mono H6.out.1.size);have Vp:=H6.out.2.1.trans (gY.mono H6.out.2.1.size);clear y0 y1 y2 yl;obtain⟨y0,y1,y2,yl⟩:=BH.out w7 Vp
      by_cases hy0:y=0
      case neg=>
       have hy1:(y != 0)=true:=bne_iff_ne.2 hy0;clear hy hy0;go_wp2_with fail;exact wY.out _ (H1.out.1.trans (Vo.mono H1.out.1.size))
      case pos=>
       have hok:=hy.1 hy0;subst hy0;have cV:=Gb A' c' e w7 (by have:=H6.out.2.2;omega) hok (HV.out.1.below Vp);rw[HV.out.2.1]at cV;have BD:=Lib.hid cV;have H7:=Lib.hid (And.intro Vo hok);clear hy gY Vo Vp hok cV HCH
       go_wp2_with (refine(BD.out).mono ?_)
       rintro r w8 ⟨o8,l8,rfl,WJ,hl8,rF,tX⟩;obtain⟨g8,c8,Y9,-,-⟩:=WJ.ex;obtain⟨n8,hn8⟩:∃n8,n8=l8.length:=⟨_,rfl⟩;rw[←hn8]at Y9;subst Y9;have Vq:Below W1.heap.size W1 w8:=H7.out.1.trans (tX.mono H7.out.1.size);obtain⟨z0,z1,z2,z3,zl⟩:=dJ.out w8 Vq;have H8:=Lib.hid (And.intro WJ.dM (And.intro hn8 (And.intro rF Vq)));have ab5:n8≤60:=by omega
       clear WJ hn8 rF tX Vq hl8 y0 y1 y2 yl;go_wp2_with fail
       go_loopg [8,80,81,82,83,84,85,86,87,88] n8 (fun q v8 v80 v81 v82 v83 v84 v85 v86 v87 NV wx=>∃k:Nat,q=n8-k∧k≤n8∧v80=.int .i64 (k:Nat)∧(∀v∈l8.take k,v<nn)∧wx=w8)
       case atStart=>exact⟨0,rfl,Nat.zero_le _,rfl,(fun x hx=>by simp at hx),rfl⟩
       case round=>
        obtain⟨k,rfl,hk,rfl,hkv,hw⟩:=hrel;rw[hw];have HKV:=Lib.hid (And.intro hkv hw);clear hkv hw
        by_cases hlt3:k<n8
        ·have hki:(k:Int)<(n8:Int):=by omega
         obtain⟨g9,a,hpp,hg9,ha,xM⟩:=H8.out.1.wN H8.out.2.1 hlt3;obtain rfl:g8=g9:=by injection hpp with h;injection h
         have Y_:∀y,y∈l8.take (k+1)↔y∈l8.take k∨y=a:=fun y=>by rw[List.take_add_one,ha];simp
         have abh:=Lib.hid Y_;clear ha Y_ hpp
         by_cases k8:nn≤a
         ·have k8i:(nn:Int)≤(a:Int):=by omega
          go_wp2_with fail;exact wY.out _ (H1.out.1.trans (H8.out.2.2.2.mono H1.out.1.size))
         ·have k8i:¬(nn:Int)≤(a:Int):=by omega
          go_wp2_with fail
          go_roundg (n8-(k+1))
          case rel=>
           refine⟨k+1,rfl,by omega,by go_num,fun y hy=>?_,rfl⟩
           rcases(abh.out y).1 hy with h|h
           ·exact HKV.out.1 y h
           ·rw[h];omega
          case measure=>omega
        ·obtain rfl:k=n8:=by omega
         have hall:l8.take k=l8:=List.take_of_length_le (by rw[←H8.out.2.1];exact Nat.le_refl _)
         have OP:=Lib.hid (show IL nn e from⟨H6.out.2.2,H7.out.2,fun v hv=>by
          have h1:v.toNat∈l8:=(H8.out.2.2.1 _).2 (List.mem_map.2 ⟨v,hv,rfl⟩);have h2:=HKV.out.1 v.toNat (by rw[hall];exact h1);have h3:=Bl e.size e (Nat.le_refl _) H7.out.2 v hv
          omega⟩)
         clear hall;go_wp2_with fail
         go_roundg (me-(i+1))
         case rel=>
          refine⟨i+1,rfl,by omega,by go_num,H8.out.2.2.2,fun y hy=>?_⟩
          rcases(HT.out.1 y).1 hy with h|h
          ·exact HT.out.2 y h
          ·rw[h];exact OP.out
         case measure=>omega
     ·obtain rfl:i=me:=by omega
      have SY:=Lib.hid (show ∀e∈le,IL nn e by
       have:=h3
       rwa [List.take_of_length_le (by rw[←HM.out.2.1];exact Nat.le_refl _)]at this)
      have HBC:=Lib.hid hb;clear h3 hb;go_wp2_with fail;rw[HF.out];exact⟨true,rfl,fun _=>⟨by have:=HB.out;omega,by have:=HB.out;omega,by rw[←HM.out.2.1];exact HB.out.2.2.1,by rw[←HM.out.2.2];exact HB.out.2.2.2,HPO.out,fun x hx=>⟨wR.out x hx,HEA.out x hx⟩,SY.out⟩,H1.out.1.trans (HBC.out.mono H1.out.1.size)⟩
end
end
end Go.Proofs.YtpijlhlpejlhhaaGreat
