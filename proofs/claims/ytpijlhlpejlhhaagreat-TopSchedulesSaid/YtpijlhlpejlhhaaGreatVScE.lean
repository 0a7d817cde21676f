/- Walk: sched.Plan. -/
import Derived.Test.YtpijlhlpejlhhaaGreatVAcA
namespace Go.Proofs.YtpijlhlpejlhhaaGreat
open Go.RowKit
set_option linter.unusedVariables false
set_option maxRecDepth 100000
set_option maxHeartbeats 16000000
/-- A step's cells. -/
def Zp(x:Int×Value):List Value:=[.int .i64 x.1,x.2]
theorem Zq:dS Tryz.prog 41 46 2 32:=dS.mk (z:=.agg #[.int .i64 0,.slice none 0 0]) (by kernel_rfl) (by kernel_rfl) (by decide) (by decide) rfl
theorem Zr:dS Tryz.prog 95 98 3 40:=dS.mk (z:=.agg #[.int .i64 0,.slice none 0 0,.int .i64 0]) (by kernel_rfl) (by kernel_rfl) (by decide) (by decide) rfl
/-- A schedule in memory. -/
def bK(B:Nat)(w:World)(v:Value)(ds:List Bd.Stp):Prop:=∃xs:List (Int×Value),xs.length=ds.length∧aQ B w 46 2 Zp v xs∧∀(i:Nat)(x:Int×Value)(s:Bd.Stp),xs[i]?=some x→ds[i]?=some s→x.1=(s.part:Int)∧bO B w x.2 s.out∧s.out.length≤128
section
variable {w w':World} {u x:Value} {l G0:List Nat} {ls:List (List Nat)} {B m:Nat}
theorem bK.shape{B:Nat}{w:World}{v:Value}{ds:List Bd.Stp}(h:bK B w v ds):∃p c,v=.slice p ds.length c:=by
 obtain⟨xs,h1,h2,h3⟩:=h;rw[←h1];exact h2.shape
theorem bK.kp{B:Nat}{w w':World}{v:Value}{ds:List Bd.Stp}{X:TypeId}(h:bK B w v ds)(kp:kK X w w')(h1:3≠X)(h2:46≠X):bK B w' v ds:=by
 obtain⟨xs,e1,e2,e3⟩:=h;exact⟨xs,e1,e2.kp kp h2,fun i x s hx hs=>⟨(e3 i x s hx hs).1,(e3 i x s hx hs).2.1.kp kp h1,(e3 i x s hx hs).2.2⟩⟩
theorem bK.below{B:Nat}{w w':World}{v:Value}{ds:List Bd.Stp}(h:bK B w v ds)(hb:Below w.heap.size w w'):bK B w' v ds:=h.kp (X:=98) (kK.below hb) (by decide) (by decide)
theorem bK.map{B bm:Nat}{w w':World}{v:Value}{ds:List Bd.Stp}{g:Nat→Int}(h:bK B w v ds)(hc:dB w bm g)(o:Only (fun q=>q=bm) w w'):bK B w' v ds:=by
 obtain⟨xs,e1,e2,e3⟩:=h;exact⟨xs,e1,hc.acc e2 o,fun i x s hx hs=>⟨(e3 i x s hx hs).1,hc.YT (e3 i x s hx hs).2.1 o,(e3 i x s hx hs).2.2⟩⟩
theorem oP{w:World}{p:Option Addr}{n c j:Nat}{ls:List (List Nat)}(h:fD w (.slice p n c) ls)(hj:j<ls.length):∃g x q,p=some ⟨g,0,none⟩∧g<w.heap.size∧w.cell? ⟨g,j,none⟩=some x∧ls[j]?=some q∧av w x q:=by
 obtain⟨q,hq⟩:∃q,ls[j]?=some q:=⟨_,List.getElem?_eq_getElem hj⟩;obtain⟨g,x,h1,h2,h3,h4⟩:=h.get hq;exact⟨g,x,q,h1,h2,h3,hq,h4⟩
theorem Gv{w:World}{b:Nat}{x y:Value}{l1 l2:List Nat}(h:w.heap[b]?=some (.cells #[x,y] 22 (0,0)))(h1:av w x l1)(h2:av w y l2):fD w (.slice (some ⟨b,0,none⟩) 2 2) [l1,l2]:=by
 refine⟨[x,y],rfl,.inr ⟨b,2,rfl,⟨_,h,by simp,fun i hi j hj=>?_⟩,Nat.le_refl _⟩,fun i z l hz hl=>?_⟩
 ·obtain rfl:j=0:=by omega
  simp only[List.length_cons,List.length_nil,Nat.zero_add,Nat.reduceAdd]at hi
  rcases(show i=0∨i=1 by omega)with rfl|rfl<;>rfl
 ·match i,hz,hl with
  |0,hz,hl=>
   simp only[List.getElem?_cons_zero,Option.some.injEq]at hz hl;subst hz hl;exact h1
  |1,hz,hl=>
   simp only[List.getElem?_cons_succ,List.getElem?_cons_zero,Option.some.injEq]at hz hl;subst hz hl;exact h2
  |n+2,hz,hl=>simp at hz
theorem dB.RS{w w':World}{bm b T:Nat}{g:Nat→Int}{cs:Array Value}{fr:Nat×Nat}(h:dB w bm g)(hr:w.heap[b]?=some (.cells cs T fr))(o:Only (fun q=>q=bm) w w'):w'.heap[b]?=some (.cells cs T fr):=by
 refine(o.block b (aV hr) (fun e=>?_)).trans hr;obtain⟨F,c,⟨⟨D,⟨es,cl,h1,h2⟩,h3⟩,hg,hf⟩,-⟩:=h.ex;rw[e,h1]at hr;cases hr
theorem D_{w:World}{b x:Nat}(h:w.heap[b]?=some (.cells #[.int .i64 (x:Nat)] 3 (0,0))):av w (.slice (some ⟨b,0,none⟩) 1 1) [x]:=by
 refine .inr ⟨b,1,rfl,⟨_,h,by simp,fun i hi j hj=>?_⟩,Nat.le_refl _⟩;obtain rfl:j=0:=by omega
 simp only[List.length_cons,List.length_nil,Nat.zero_add]at hi;obtain rfl:i=0:=by omega
 rfl
theorem Gw{B:Nat}{w':World}{v':Value}{xs:List (Int×Value)}{ds:List Bd.Stp}{e:Int×Value}{st:Bd.Stp}(hxs:xs.length=ds.length)(ha:aQ B w' 46 2 Zp v' (xs++[e]))(hxe:∀(i:Nat) (x:Int×Value) (s:Bd.Stp),xs[i]?=some x→ds[i]?=some s→x.1=(s.part:Int)∧bO B w' x.2 s.out∧s.out.length≤128)(h1:e.1=(st.part:Int))(h2:bO B w' e.2 st.out∧st.out.length≤128):bK B w' v' (ds++[st]):=by
 refine⟨xs++[e],by simp[hxs],ha,fun i x s hx hs=>?_⟩
 by_cases hin:i<xs.length
 ·rw[List.getElem?_append_left hin]at hx;rw[List.getElem?_append_left (by omega)]at hs;exact hxe i x s hx hs
 ·rw[List.getElem?_append_right (by omega)]at hx hs
  have h0:i-xs.length=0:=by
   rcases Nat.eq_zero_or_pos (i-xs.length)with h|h
   ·exact h
   ·rw[List.getElem?_eq_none (by simp;omega)]at hx;cases hx
  rw[h0]at hx;rw[←hxs,h0]at hs;simp only[List.getElem?_cons_zero,Option.some.injEq]at hx hs;subst hx hs;exact⟨h1,h2⟩
theorem uS{ls:List (List Nat)}{j:Nat}{q:List Nat}(h:ls[j]?=some q):ls.getD j []=q:=by rw[List.getD_eq_getElem?_getD,h];rfl
theorem Lf(h:fD w u ls)(hm:ls.length≤64)(hl:∀l∈ls,l.length≤1000∧∀v∈l,v<64)(hg:av w x G0)(hgl:G0.length≤1000)(O8:∀v∈G0,v<64) :
 Calls Tryz.prog 12 #[u,x] w fun r w'=>∃o ds,r=.returned o∧bK w.heap.size w' o ds∧Below w.heap.size w w'∧Bd.m_ (ls.map Bd.f_) (Bd.f_ G0) (List.range ls.length) ((Bd.f_ G0).filter (fun v=>Bd.aU (ls.map Bd.f_) (List.range ls.length) v==0)) ds:=by
 obtain⟨F,HF⟩:=aJ (fun(r:Ending)(w':World)=>∃o ds,r=.returned o∧bK w.heap.size w' o ds∧Below w.heap.size w w'∧Bd.m_ (ls.map Bd.f_) (Bd.f_ G0) (List.range ls.length) ((Bd.f_ G0).filter (fun v=>Bd.aU (ls.map Bd.f_) (List.range ls.length) v==0)) ds);rw[←HF.out];have cS:=y9 h (by omega) (fun l h=>(hl l h).1);obtain⟨pu,cu,rfl⟩:=h.shape;obtain⟨px,cx,rfl⟩:=hg.shape;obtain⟨L,hL⟩:∃L,L=ls.map Bd.f_:=⟨_,rfl⟩;obtain⟨G,hG⟩:∃G,G=Bd.f_ G0:=⟨_,rfl⟩;obtain⟨m,hm0⟩:∃m,m=ls.length:=⟨_,rfl⟩;obtain⟨nx,hnx⟩:∃nx,nx=G0.length:=⟨_,rfl⟩;have cO:=fun W (hb:Below w.heap.size w W)=>lZ (hg.below hb) hgl;rw[←hL,←hG,←hm0]at HF;rw[←hL,←hm0]at cS;rw[←hnx,←hG]at cO;rw[←hm0,←hnx];have Zt:L.length=m:=by rw[hL,List.length_map,hm0]
 have Zw:∀q∈L,Bd.Inc q∧q.length≤64∧∀v∈q,v<64:=fun q hq=>by
  rw[hL]at hq;obtain⟨l,hl1,rfl⟩:=List.mem_map.1 hq;have h64:∀v∈Bd.f_ l,v<64:=fun v hv=>(hl l hl1).2 v ((Bd.dV l v).1 hv);exact⟨Bd.fP l,Bd.jd (Bd.fP l) h64,h64⟩
 have Zz:Bd.Inc G∧G.length≤64∧∀v∈G,v<64:=by
  have h64:∀v∈G,v<64:=fun v hv=>O8 v (by rw[hG]at hv;exact(Bd.dV G0 v).1 hv);have hi:Bd.Inc G:=by rw[hG];exact Bd.fP G0
  exact⟨hi,Bd.jd hi h64,h64⟩
 have HS:=Lib.hid cS;have HO:=Lib.hid cO;have xP:=Lib.hid (And.intro Zt (And.intro Zw Zz));have Va:m≤64:=by omega
 clear cS cO Zt Zw Zz h hg hm hl hgl O8 hL hG hm0 hnx;go_in;have Zn:∀W:World,(Instr.makeMap 87 none).run Tryz.prog W=.ok (.map (some W.heap.size)) (W.alloc (.map #[] 0)):=fun W=>by kernel_rfl
 go_wp2_with fail;refine(HS.out).mono ?_;rintro r w1 ⟨o1,rfl,ho1,hb1⟩;have hc2:=HO.out w1 hb1;obtain⟨pL,cL,hsh⟩:=ho1.Rm.shape;rw[xP.out.1]at hsh;subst hsh;have H1:=Lib.hid (And.intro ho1 hb1);have um:=Lib.hid hc2;clear ho1 hb1 hc2;go_wp2_with fail;refine(um.out).mono ?_;rintro r w2 ⟨o2,rfl,ho2,hb2⟩;obtain⟨gG,cG,ZA,-,-⟩:=ho2.ex;obtain⟨nG,RU⟩:∃nG,nG=G.length:=⟨_,rfl⟩;rw[←RU]at ZA;subst ZA;have hbw2:Below w.heap.size w w2:=H1.out.2.trans (hb2.mono H1.out.2.size);obtain⟨bm,RV⟩:∃bm,bm=w2.heap.size:=⟨_,rfl⟩;obtain⟨w3,hw3⟩:∃w3,w3=w2.alloc (.map #[] 0):=⟨_,rfl⟩;have hb3:=jU hw3;have hcm:dB w3 bm (fun _=>0):=by rw[hw3,RV];exact dB.made w2
 have H3:=Lib.hid (show Below w.heap.size w w3∧fD w3 (.slice pL m cL) L∧av w3 (.slice (some ⟨gG,0,none⟩) nG cG) G∧dB w3 bm (fun _=>0)from⟨hbw2.trans (hb3.mono hbw2.size),(H1.out.1.Rm.below hb2).below hb3,ho2.dM.below hb3,hcm⟩);have XD:=Lib.hid RU;have ZC:nG≤64:=by rw[RU];exact xP.out.2.2.2.1
 have O9:w.heap.size≤bm:=by rw[RV];exact hbw2.size
 have HBM:=Lib.hid O9;clear H1 ho2 hb2 hbw2 hb3 hcm RU;go_wp2_with fail;rw[←hw3,←RV];clear hw3 RV O9
 go_loopg [9,11,35,36,37,38,39,40,41,42,43,44,45,46,47,48,49,50] m (fun q v9 v11 v35 v36 v37 v38 v39 v40 v41 v42 v43 v44 v45 v46 v47 v48 v49 v50 wr=>∃j:Nat,q=m-j∧j≤m∧v35=.int .i64 (j:Nat)∧Below w.heap.size w wr∧fD wr (.slice pL m cL) L∧av wr (.slice (some ⟨gG,0,none⟩) nG cG) G∧dB wr bm (fun v=>(Bd.aU L (List.range j) v:Nat)))
 case atStart=>exact⟨0,rfl,Nat.zero_le _,rfl,H3.out.1,H3.out.2.1,H3.out.2.2.1,H3.out.2.2.2.congr (fun v=>by simp[Bd.aU])⟩
 case round=>
  clear H3;obtain⟨j,rfl,hj,rfl,hb,hls,mP,hcm⟩:=hrel
  by_cases hlt:j<m
  ·have hji:(j:Int)<(m:Int):=by omega
   obtain⟨g,y,p,hpp,hgl,hcell,hp,hny⟩:=oP hls (j:=j) (by rw[xP.out.1];exact hlt);subst hpp;obtain⟨pp,cp,Ea⟩:=hny.shape;obtain⟨np,hnp⟩:∃np,np=p.length:=⟨_,rfl⟩;rw[←hnp]at Ea;subst Ea;obtain⟨hpi,hpl,uw⟩:=xP.out.2.1 p (List.mem_of_getElem? hp);have ZE:np≤64:=by omega
   have HP:=Lib.hid (And.intro hp (And.intro hnp (And.intro hpi uw)));have H4:=Lib.hid (And.intro hb (And.intro hls (And.intro mP (And.intro hny hcm))));clear hb hls mP hcm hp hny hnp hpi hpl uw;go_wp2_with fail
   go_loopg [11,41,42,43,44,45,46,47,48,49] np (fun q v11 v41 v42 v43 v44 v45 v46 v47 v48 v49 wx=>∃i:Nat,q=np-i∧i≤np∧v41=.int .i64 (i:Nat)∧Below w.heap.size w wx∧fD wx (.slice (some ⟨g,0,none⟩) m cL) L∧av wx (.slice (some ⟨gG,0,none⟩) nG cG) G∧av wx (.slice pp np cp) p∧dB wx bm (fun v=>(Bd.aU L (List.range j) v+Bd.aD p i v:Nat)))
   case atStart=>exact⟨0,rfl,Nat.zero_le _,rfl,H4.out.1,H4.out.2.1,H4.out.2.2.1,H4.out.2.2.2.1,H4.out.2.2.2.2.congr (fun v=>by rw[Bd.Ct];rfl)⟩
   case round=>
    clear H4;obtain⟨i,rfl,hi,rfl,hb,hls,mP,hny,hcm⟩:=hrel
    by_cases hlt2:i<np
    ·have hii:(i:Int)<(np:Int):=by omega
     obtain⟨gp,hpp,abn,hcp⟩:=hny.get (j:=i) (by rw[←HP.out.2.1];exact hlt2);subst hpp;obtain⟨a,ha⟩:∃a,p[i]?=some a:=⟨_,List.getElem?_eq_getElem (by rw[←HP.out.2.1];exact hlt2)⟩;have hga:p.getD i 0=a:=by rw[List.getD_eq_getElem?_getD,ha];rfl
     rw[hga]at hcp;have O_:=HP.out.2.2.2 a (List.mem_of_getElem? ha);have hlk:=hcm.look (v:=a) (by omega);obtain⟨y,hy⟩:∃y,y=Bd.aU L (List.range j) a+Bd.aD p i a:=⟨_,rfl⟩;rw[←hy]at hlk
     have hyb:y≤100:=by
      rw[hy];have h1:=Bd.Cq (L:=L) (left:=List.range j) (v:=a);rw[List.length_range]at h1;have h2:Bd.aD p i a≤1:=by unfold Bd.aD;split<;>omega
      omega
     obtain⟨W',hrun,hcm2,ho⟩:=hcm.set (v:=a) O_ (y:=(y:Int)+1) (by omega)
     have H5:=Lib.hid (show Below w.heap.size w W'∧fD W' (.slice (some ⟨g,0,none⟩) m cL) L∧av W' (.slice (some ⟨gG,0,none⟩) nG cG) G∧av W' (.slice (some ⟨gp,0,none⟩) np cp) p∧dB W' bm (fun v=>(Bd.aU L (List.range j) v+Bd.aD p (i+1) v:Nat))from
      ⟨hb.trans (ho.below (fun q e=>by rw[e];exact HBM.out) hb.size),hcm.lists hls ho,hcm.dM mP ho,hcm.dM hny ho,hcm2.congr (fun v=>by
        rw[Bd.Cr (Bd.jE HP.out.2.2.1) ha]
        by_cases e:v=a
        ·rw[e,if_pos rfl,if_pos rfl,hy];omega
        ·rw[if_neg e,if_neg e];rfl)⟩)
     clear hb hls mP hny hcm ha hga hy hcm2 ho;go_wp2_with fail
     go_roundg (np-(i+1))
     case rel=>exact⟨i+1,rfl,by omega,by go_num,H5.out⟩
     case measure=>omega
    ·obtain rfl:i=np:=by omega
     have H5:=Lib.hid (And.intro hb (And.intro hls (And.intro mP hcm)));clear hb hls mP hny hcm;go_wp2_with fail
     go_roundg (m-(j+1))
     case rel=>exact⟨j+1,rfl,by omega,by go_num,H5.out.1,H5.out.2.1,H5.out.2.2.1,H5.out.2.2.2.congr (fun v=>by
      rw[Bd.EG,uS HP.out.1,HP.out.2.1,Bd.Hl])⟩
     case measure=>omega
  ·obtain rfl:j=m:=by omega
   obtain⟨w4,hw4⟩:∃w4,w4=wr:=⟨_,rfl⟩;subst hw4;have H4:=Lib.hid (And.intro hb (And.intro hls (And.intro mP hcm)));clear hb hls mP hcm;go_wp2_with fail
   go_loopg [12,13,53,54,55,56,57,58,59,60] j (fun q v12 v13 v53 v54 v55 v56 v57 v58 v59 v60 wx=>∃i:Nat,q=j-i∧i≤j∧v53=.int .i64 (i:Nat)∧aQ w4.heap.size wx 3 1 nE v12 (List.range i)∧Below w4.heap.size w4 wx)
   case atStart=>exact⟨0,rfl,Nat.zero_le _,rfl,aQ.nil,Below.refl _ _⟩
   case round=>
    obtain⟨i,rfl,hi,rfl,hacc,hb⟩:=hrel;obtain⟨pa,ca,hsh⟩:=hacc.shape;rw[List.length_range]at hsh;subst hsh
    by_cases hlt2:i<j
    ·have hii:(i:Int)<(j:Int):=by omega
     have hS0:∀o,Sl (wr.alloc o) 3 1 (.slice pa i ca) i (fC nE (List.range i)):=fun o=>by
      have:=(hacc.alloc o).1;rw[List.length_range]at this;exact this
     have lU:=Lib.hid hS0;have HA:=Lib.hid (And.intro hacc hb);clear hacc hb hS0
     go_wp2_with (at_builtin;refine aA _ rfl _ _ _ rfl jq rfl (lU.out _) rfl (aL (by simp)) rfl (by simp[Value.oneCell']) (by omega) ?_;intro g2 c2 w5 hq2;have HQ:=Lib.hid hq2;clear hq2)
     go_roundg (j-(i+1))
     case rel=>
      obtain⟨hacc,hb⟩:=HA.out;have hq:bY _ 3 1 (.slice pa i ca) i 1 _ g2 c2 w5:=HQ.out;obtain⟨r1,r2⟩:=(hacc.alloc _).push (e:=i) (List.length_range ..) hq (by have:=hb.size;simp;omega) rfl;refine⟨i+1,rfl,by omega,by go_num,?_,(hb.alloc hb.size _).trans r2⟩;rw[List.range_succ];exact r1
     case measure=>omega
    ·obtain rfl:i=j:=by omega
     have HA:=Lib.hid (And.intro hacc.dM (And.intro (H4.out.1.trans (hb.mono H4.out.1.size)) (And.intro (H4.out.2.1.below hb) (And.intro (H4.out.2.2.1.below hb) (H4.out.2.2.2.below hb)))));obtain⟨w5,jS⟩:∃w5,w5=wr:=⟨_,rfl⟩;subst jS;clear hacc hb;go_wp2_with fail
     go_loopg [14,16,63,64,65,66,67,68,69,70,71,72,73,74,75] nG (fun q v14 v16 v63 v64 v65 v66 v67 v68 v69 v70 v71 v72 v73 v74 v75 wx=>∃k:Nat,q=nG-k∧k≤nG∧v63=.int .i64 (k:Nat)∧aQ w5.heap.size wx 3 1 nE v14 ((G.take k).filter (fun v=>Bd.aU L (List.range i) v==0))∧Below w5.heap.size w5 wx)
     case atStart=>exact⟨0,rfl,Nat.zero_le _,rfl,aQ.nil,Below.refl _ _⟩
     case round=>
      obtain⟨k,rfl,hk,rfl,hacc,hb⟩:=hrel;obtain⟨pw,cw,ZF⟩:=hacc.shape;obtain⟨nw,hnw⟩:∃nw,nw=((G.take k).filter (fun v=>Bd.aU L (List.range i) v==0)).length:=⟨_,rfl⟩;rw[←hnw]at ZF;subst ZF
      have acd:nw≤k:=by
       rw[hnw];exact Nat.le_trans (List.length_filter_le _ _) (by rw[List.length_take];omega)
      by_cases hlt3:k<nG
      ·have hki:(k:Int)<(nG:Int):=by omega
       obtain⟨gg,hpp,abo,hcg⟩:=(HA.out.2.2.2.1.below hb).get (j:=k) (by rw[←XD.out];exact hlt3);obtain rfl:gG=gg:=by injection hpp with h;injection h
       obtain⟨a,ha⟩:∃a,G[k]?=some a:=⟨_,List.getElem?_eq_getElem (by rw[←XD.out];exact hlt3)⟩;have hga:G.getD k 0=a:=by rw[List.getD_eq_getElem?_getD,ha];rfl
       rw[hga]at hcg;have O_:=xP.out.2.2.2.2 a (List.mem_of_getElem? ha);have hlk:=(HA.out.2.2.2.2.below hb).look (v:=a) (by omega)
       have htk:(G.take (k+1)).filter (fun v=>Bd.aU L (List.range i) v==0)=(G.take k).filter (fun v=>Bd.aU L (List.range i) v==0)++(if Bd.aU L (List.range i) a=0 then[a]else[]):=by
        rw[List.take_add_one,ha,List.filter_append]
        congr 1
        by_cases e:Bd.aU L (List.range i) a=0
        ·rw[if_pos e];exact List.filter_cons_of_pos (by simp[e])
        ·rw[if_neg e];exact List.filter_cons_of_neg (by simp[e])
       obtain⟨y,hy⟩:∃y,y=Bd.aU L (List.range i) a:=⟨_,rfl⟩;rw[←hy]at hlk htk;have NM:=Lib.hid hnw
       have hS0:∀o,Sl (wr.alloc o) 3 1 (.slice pw nw cw) nw (fC nE ((G.take k).filter (fun v=>Bd.aU L (List.range i) v==0))):=fun o=>by
        have:=(hacc.alloc o).1;rw[←hnw]at this;exact this
       have lU:=Lib.hid hS0;have HK:=Lib.hid (And.intro hacc hb);clear hacc hb ha hga hy hnw hS0
       by_cases h0:y=0
       ·rw[if_pos h0]at htk;have uK:=Lib.hid htk;clear htk;subst h0
        go_wp2_with (at_builtin;refine aA _ rfl _ _ _ rfl jq rfl (lU.out _) rfl (aL (by simp)) rfl (by simp[Value.oneCell']) (by omega) ?_;intro g2 c2 w6 hq2;have HQ:=Lib.hid hq2;clear hq2)
        go_roundg (nG-(k+1))
        case rel=>
         obtain⟨hacc,hb⟩:=HK.out;have hq:bY _ 3 1 (.slice pw nw cw) nw 1 _ g2 c2 w6:=HQ.out;obtain⟨r1,r2⟩:=(hacc.alloc _).push (e:=a) NM.out.symm hq (by have:=hb.size;simp;omega) rfl;refine⟨k+1,rfl,by omega,by go_num,?_,(hb.alloc hb.size _).trans r2⟩;rw[uK.out];exact r1
        case measure=>omega
       ·rw[if_neg h0,List.append_nil]at htk;have uK:=Lib.hid htk;clear htk;have hne:((y:Int)==0)=false:=beq_false_of_ne (by omega);clear h0
        go_wp2
        go_roundg (nG-(k+1))
        case rel=>
         obtain⟨hacc,hb⟩:=HK.out;refine⟨k+1,rfl,by omega,by go_num,?_,hb⟩;rw[uK.out];exact hacc
        case measure=>omega
      ·obtain rfl:k=nG:=by omega
       have hall:G.take k=G:=List.take_of_length_le (by rw[←XD.out];exact Nat.le_refl _);rw[hall]at hacc hnw
       have HW:=Lib.hid (show av wr (.slice pw nw cw) (G.filter (fun v=>Bd.aU L (List.range i) v==0))∧Below w.heap.size w wr∧fD wr (.slice pL i cL) L∧av wr (.slice (some ⟨gG,0,none⟩) k cG) G∧dB wr bm (fun v=>(Bd.aU L (List.range i) v:Nat))∧av wr (.slice pa i ca) (List.range i)from
        ⟨hacc.dM,HA.out.2.1.trans (hb.mono HA.out.2.1.size),HA.out.2.2.1.below hb,HA.out.2.2.2.1.below hb,HA.out.2.2.2.2.below hb,HA.out.1.below hb⟩)
       clear hacc hb hall hnw HA H4;go_wp2_with fail;obtain⟨WL,VP⟩:∃WL,WL=G.filter (fun v=>Bd.aU L (List.range i) v==0):=⟨_,rfl⟩;rw[←VP]at HW HF;have ZG:WL.length≤64:=by rw[VP];exact Nat.le_trans (List.length_filter_le _ _) xP.out.2.2.2.1
       clear VP
       go_loopg [12,14,17,18,19,21,22,24,25,27,76,77,78,79,80,81,82,83,84,85,86,87,88,89,90,91,92,93,94,95,96,97,98,99,100,101,102,103,104,105,106,107,108,109,110,111,112,113,114,115,116,117,118,119,120,121,122,123,124,125,126,127,128,129,130,131,132,133,134,135,136,137,138,139,140,141,142,143,144,145,146,147,148,149,150,151,152,153,154,155,156,157,158,159,160,161] i (fun q v12 v14 v17 v18 v19 v21 v22 v24 v25 v27 v76 v77 v78 v79 v80 v81 v82 v83 v84 v85 v86 v87 NV v89 QK v91 SK v93 SN SQ VA VB QL SS NW Fx J8 J9 J_ v105 sQ v107 Aw v109 Ay Dl Dm Dn Dp Dq Fy v117 Fz FC FD Kc Ke XU v124 XV XW v127 aaB aaC v130 v131 aaD aaE aaF aaG aaH aaI v138 v139 aaJ v141 aaK v143 aaL v145 v146 aaM v148 XY X_ Ya v152 Yb v154 Yd Ye v157 aaN v159 v160 aaO wr=>∃(left wl sl:List Nat)(ds:List Bd.Stp),q=left.length∧Below w.heap.size w wr∧fD wr (.slice pL i cL) L∧av wr (.slice (some ⟨gG,0,none⟩) k cG) G∧dB wr bm (fun v=>(Bd.aU L left v:Nat))∧av wr v12 left∧Bd.Inc left∧(∀x∈left,x<i)∧av wr v14 wl∧wl.length≤64∧av wr v17 sl∧(∀v∈sl,v<64)∧sl.length≤64∧bK w.heap.size wr v18 ds∧ds.length+left.length≤i∧Bd.kC L G (List.range i) WL left wl ds)
       case atStart=>exact⟨List.range i,WL,[],[],(List.length_range ..).symm,HW.out.2.1,HW.out.2.2.1,HW.out.2.2.2.1,HW.out.2.2.2.2.1,HW.out.2.2.2.2.2,Bd.Jf i,fun x hx=>List.mem_range.1 hx,HW.out.1,ZG,.inl ⟨rfl,rfl⟩,(fun v hv=>by cases hv),Nat.zero_le _,⟨[],rfl,aQ.nil,(fun i x s hx=>by simp at hx)⟩,(by simp),Bd.kC.start⟩
       case round=>
        clear HW;obtain⟨left,wl,sl,ds,rfl,hb,hls,mP,hcm,hlf,hinc,hlt,hwl,ZH,hsl,hsl2,Dh,hst,hdl,hpl⟩:=hrel;obtain⟨wA,hwA⟩:∃wA,wA=wr:=⟨_,rfl⟩;subst hwA;obtain⟨pl,cl,ZI⟩:=hlf.shape;obtain⟨nl,hnl⟩:∃nl,nl=left.length:=⟨_,rfl⟩;obtain⟨pw2,cw2,ZJ⟩:=hwl.shape;obtain⟨nw2,VQ⟩:∃nw2,nw2=wl.length:=⟨_,rfl⟩;obtain⟨ps,cs,ZK⟩:=hsl.shape;obtain⟨ns,hns⟩:∃ns,ns=sl.length:=⟨_,rfl⟩;obtain⟨pt,ct,ZL⟩:=hst.shape;obtain⟨nt,hnt⟩:∃nt,nt=ds.length:=⟨_,rfl⟩;rw[←hnl]at ZI;rw[←VQ]at ZJ;rw[←hns]at ZK;rw[←hnt]at ZL;subst ZI ZJ ZK ZL
        have abE:nl≤64:=by
         rw[hnl];have:=Bd.jd hinc hlt;omega
        have HA:=Lib.hid (And.intro hb (And.intro hls (And.intro mP (And.intro hcm (And.intro hlf (And.intro hwl (And.intro hsl hst)))))));have HDL:=Lib.hid hdl;have ace:nt≤64:=by omega
        clear hdl;have HN:=Lib.hid (And.intro hnl (And.intro VQ (And.intro hns hnt)));have HP:=Lib.hid (And.intro hinc (And.intro hlt (And.intro ZH (And.intro hsl2 (And.intro Dh hpl)))));clear hb hls mP hcm hlf hinc hlt hwl ZH hsl hsl2 Dh hst hpl hnl VQ hns hnt
        by_cases hl0:0<nl
        ·have acf:(0:Int)<(nl:Int):=by omega
         go_wp2_with fail
         go_loopg [19,21,22,24,81,82,83,84,85,86,87,88,89,90,91,92,93,94,95,96,97,98,99,100,101,102,103,104,105,106,107,108,109,110,111,112,113,114,115,116,117,118,119,120] nl (fun q v19 v21 v22 v24 v81 v82 v83 v84 v85 v86 v87 NV v89 QK v91 SK v93 SN SQ VA VB QL SS NW Fx J8 J9 J_ v105 sQ v107 Aw v109 Ay Dl Dm Dn Dp Dq Fy v117 Fz FC FD wx=>∃(e:Nat)(ml:List (Int×Value×Int)),q=nl-e∧e≤nl∧v81=.int .i64 (e:Nat)∧ml.length=e∧aQ wA.heap.size wx 98 3 Vd v19 ml∧kK 98 wA wx∧Below wA.heap.size wA wx∧∀(i':Nat)(x:Int×Value×Int),ml[i']?=some x→∃(ix:Nat)(o:List Nat),ix∈left∧x.1=(ix:Int)∧av wx x.2.1 o∧o.length≤64∧∀v,v∈o↔(v∈L.getD ix []∧v∈G∧Bd.aU L left v=1))
         case atStart=>exact⟨0,[],rfl,Nat.zero_le _,rfl,rfl,aQ.nil,kK.refl,Below.refl _ _,fun i' x hx=>by simp at hx⟩
         case round=>
          obtain⟨e,ml,rfl,he,rfl,hml,hacc,hkp,hbw,hel⟩:=hrel;obtain⟨pm,cm,hsm⟩:=hacc.shape;rw[hml]at hsm;subst hsm
          by_cases hlt:e<nl
          ·have hei:(e:Int)<(nl:Int):=by omega
           obtain⟨gl,hpp,acg,hcl⟩:=(HA.out.2.2.2.2.1.kp hkp (by decide)).get (j:=e) (by rw[←HN.out.1];exact hlt);subst hpp;obtain⟨ix,hix⟩:∃ix,left[e]?=some ix:=⟨_,List.getElem?_eq_getElem (by rw[←HN.out.1];exact hlt)⟩;have hga:left.getD e 0=ix:=by rw[List.getD_eq_getElem?_getD,hix];rfl
           rw[hga]at hcl;have VR:=List.mem_of_getElem? hix;have VT:=HP.out.2.1 ix VR;have hls:=HA.out.2.1.kp hkp (by decide) (by decide);obtain⟨gL,y,p,hpp,Gx,hcell,hp,hny⟩:=oP hls (j:=ix) (by rw[xP.out.1];exact VT);subst hpp;obtain⟨pp,cp,Ea⟩:=hny.shape;obtain⟨np,hnp⟩:∃np,np=p.length:=⟨_,rfl⟩;rw[←hnp]at Ea;subst Ea;obtain⟨hpi,hpl,uw⟩:=xP.out.2.1 p (List.mem_of_getElem? hp);have ZM:(ix:Int)<(i:Int):=by omega
           have YG:=oK hny (HA.out.2.2.2.2.2.2.1.kp hkp (by decide)).o (by omega) (by have:=HP.out.2.2.2.2.1;omega);have YH:=Lib.hid YG;have HR:=Lib.hid (And.intro hml (And.intro hacc (And.intro hkp (And.intro hbw hel))));have LH:=Lib.hid (And.intro VR (And.intro hp (And.intro hnp (And.intro hpi (And.intro hpl uw)))));have HNY:=Lib.hid (And.intro hny hls);clear hacc hkp hbw hel hml hix hga VR hls hp hny hnp hpi hpl uw YG;go_wp2_with fail;refine(YH.out).mono ?_;rintro r w5 ⟨o3,rfl,ho3,hb5⟩;obtain⟨g3,c3,hs3,-,-⟩:=ho3.ex;obtain⟨n3,Gg⟩:∃n3,n3=(Bd.f_ (dU p sl false)).length:=⟨_,rfl⟩;rw[←Gg]at hs3;subst hs3;obtain⟨En,RX⟩:∃En,En=w5.heap.size:=⟨_,rfl⟩;obtain⟨W6,E_⟩:∃W6,W6=w5.alloc (.cells #[.int .i64 (ix:Nat),.slice none 0 0,.int .i64 (n3:Nat)] 98):=⟨_,rfl⟩;have hb6:Below wr.heap.size wr W6:=hb5.trans ((jU E_).mono hb5.size);have q22:W6.heap[En]?=some (.cells #[.int .i64 (ix:Nat),.slice none 0 0,.int .i64 (n3:Nat)] 98 (0,0)):=by rw[E_,RX];exact heap_alloc_new _ _
           have TG:wr.heap.size≤En:=by rw[RX];exact hb5.size
           have cMe:=sU (HNY.out.1.below hb6) ((HA.out.2.2.1.kp HR.out.2.2.1 (by decide)).below hb6).o (by have:=LH.out.2.2.2.2.1;omega) (by have:=xP.out.2.2.2.1;omega);have OT:w5.cell? ⟨gL,ix,none⟩=some (.slice pp np cp):=(hb5.cell (p:=⟨gL,ix,none⟩) Gx).trans hcell;have hME:=Lib.hid cMe;have H6:=Lib.hid (And.intro hb6 (And.intro q22 TG));have abp:gL<w5.heap.size:=Nat.lt_of_lt_of_le Gx hb5.size;clear ho3 hb5 Gg hb6 q22 cMe;go_wp2_with fail;rw[←E_,←RX];clear E_ RX TG;refine(hME.out).mono ?_;rintro r w7 ⟨o4,rfl,LD,kH⟩;obtain⟨g4,c4,hs4,-,-⟩:=LD.ex;obtain⟨ME,Pb⟩:∃ME,ME=Bd.f_ (dU p G true):=⟨_,rfl⟩;rw[←Pb]at LD hs4;obtain⟨n4,hn4⟩:∃n4,n4=ME.length:=⟨_,rfl⟩;rw[←hn4]at hs4;subst hs4
           have VU:∀v,v∈ME↔v∈p∧v∈G:=fun v=>by
            rw[Pb,Bd.dV];unfold dU;rw[List.mem_filter];simp
           have ZN:ME.length≤64:=by
            rw[Pb];exact Bd.jd (Bd.fP _) (fun v hv=>LH.out.2.2.2.2.2 v (by rw[←Pb]at hv;exact((VU v).1 hv).1))
           have abF:n4≤64:=by omega
           have q7:w7.heap[En]?=some (.cells #[.int .i64 (ix:Nat),.slice none 0 0,.int .i64 (n3:Nat)] 98 (0,0)):=(kH.block En (aV H6.out.2.1)).trans H6.out.2.1;have ZO:Below wr.heap.size wr w7:=H6.out.1.trans (kH.mono H6.out.1.size);have H7:=Lib.hid (And.intro LD (And.intro q7 ZO));have Rf:=Lib.hid (And.intro hn4 (And.intro VU ZN));have ZP:En<w7.heap.size:=aV q7;clear LD kH Pb hn4 VU ZN q7 ZO OT abp hcell hcl;go_wp2_with fail
           go_loopg [24,101,102,103,104,105,106,107,108,109,110,111,112,113,114,115] n4 (fun q v24 Fx J8 J9 J_ v105 sQ v107 Aw v109 Ay Dl Dm Dn Dp Dq wx=>∃(h:Nat)(VW:Value),q=n4-h∧h≤n4∧Fx=.int .i64 (h:Nat)∧wx.heap[En]?=some (.cells #[.int .i64 (ix:Nat),VW,.int .i64 (n3:Nat)] 98 (0,0))∧aQ w7.heap.size wx 3 1 nE VW ((ME.take h).filter (fun v=>Bd.aU L left v==1))∧Only (fun q=>q=En) w7 wx)
           case atStart=>exact⟨0,_,rfl,Nat.zero_le _,rfl,H7.out.2.1,aQ.nil,Only.refl⟩
           case round=>
            obtain⟨h,VW,rfl,hh,rfl,q22,hacc,ho⟩:=hrel;obtain⟨po,co,hso⟩:=hacc.shape;obtain⟨no,hno⟩:∃no,no=((ME.take h).filter (fun v=>Bd.aU L left v==1)).length:=⟨_,rfl⟩;rw[←hno]at hso;subst hso
            have ach:no≤h:=by
             rw[hno];exact Nat.le_trans (List.length_filter_le _ _) (by rw[List.length_take];omega)
            have VX:kK 98 w7 wr:=kK.box H7.out.2.1 ho;have LJ:=HR.out.2.2.1.trans ((kK.below H7.out.2.2).trans VX)
            by_cases hlt2:h<n4
            ·have hhi:(h:Int)<(n4:Int):=by omega
             obtain⟨gg,hpp,abo,hcg⟩:=(H7.out.1.dM.kp VX (by decide)).get (j:=h) (by rw[←Rf.out.1];exact hlt2);obtain rfl:g4=gg:=by injection hpp with h;injection h
             obtain⟨a,ha⟩:∃a,ME[h]?=some a:=⟨_,List.getElem?_eq_getElem (by rw[←Rf.out.1];exact hlt2)⟩;have hga:ME.getD h 0=a:=by rw[List.getD_eq_getElem?_getD,ha];rfl
             rw[hga]at hcg;have O_:=xP.out.2.2.2.2 a ((Rf.out.2.1 a).1 (List.mem_of_getElem? ha)).2;have hlk:=(HA.out.2.2.2.1.kp LJ).look (v:=a) (by omega)
             have htk:(ME.take (h+1)).filter (fun v=>Bd.aU L left v==1)=(ME.take h).filter (fun v=>Bd.aU L left v==1)++(if Bd.aU L left a=1 then[a]else[]):=by
              rw[List.take_add_one,ha,List.filter_append]
              congr 1
              by_cases e:Bd.aU L left a=1
              ·rw[if_pos e];exact List.filter_cons_of_pos (by simp[e])
              ·rw[if_neg e];exact List.filter_cons_of_neg (by simp[e])
             obtain⟨y,hy⟩:∃y,y=Bd.aU L left a:=⟨_,rfl⟩;rw[←hy]at hlk htk;have hlb:=aV q22;have z1:wr.cell? ⟨En,1,none⟩=some (.slice po no co):=au q22 1 rfl;have wY:=Lib.hid hno;have HK:=Lib.hid (And.intro q22 (And.intro hacc ho))
             by_cases h1:y=1
             ·rw[if_pos h1]at htk;have uK:=Lib.hid htk
              have hS0:∀o,Sl (wr.alloc o) 3 1 (.slice po no co) no (fC nE ((ME.take h).filter (fun v=>Bd.aU L left v==1))):=fun o=>by
               have:=(hacc.alloc o).1;rw[←hno]at this;exact this
              have lU:=Lib.hid hS0;clear htk hno hacc ho ha hga hy hS0 VX LJ q22;subst h1
              go_wp2_with (at_builtin;refine aA _ rfl _ _ _ rfl jq rfl (lU.out _) rfl (aL (by simp)) rfl (by simp[Value.oneCell']) (by omega) ?_;intro g2 c2 w8 hq2;have q8:w8.heap[En]?=some (.cells #[.int .i64 (ix:Nat),.slice po no co,.int .i64 (n3:Nat)] 98 (0,0)):=((HK.out.2.1.alloc _).Rn hq2 ZP (by simp;omega)).trans ((heap_alloc_old _ _ _ hlb).trans HK.out.1);have z8:w8.cell? ⟨En,1,none⟩=some (.slice po no co):=au q8 1 rfl;have zf:∀o,w8.frozen? ⟨En,o,none⟩=false:=jv q8;have zl:=aV q8;have HQ:=Lib.hid hq2;have HQ8:=Lib.hid q8;clear hq2 q8)
              go_roundg (n4-(h+1))
              case rel=>
               obtain⟨q22,hacc,ho⟩:=HK.out;have hq:bY _ 3 1 (.slice po no co) no 1 _ g2 c2 w8:=HQ.out;obtain⟨r1,r2⟩:=(hacc.alloc _).push (e:=a) wY.out.symm hq (by have:=ho.size;simp;omega) rfl;refine⟨h+1,.slice (some ⟨g2,0,none⟩) (no+1) c2,rfl,by omega,by go_num,aH HQ8.out _,?_,((ho.alloc _).oq r2 (Nat.le_refl _)).iC rfl _⟩;rw[uK.out];exact r1.Vh ZP
              case measure=>omega
             ·rw[if_neg h1,List.append_nil]at htk;have uK:=Lib.hid htk;have hne:((y:Int)==1)=false:=beq_false_of_ne (by omega);clear htk hno hacc ho ha hga hy VX LJ q22 h1
              go_wp2
              go_roundg (n4-(h+1))
              case rel=>exact⟨h+1,_,rfl,by omega,by go_num,HK.out.1,by rw[uK.out];exact HK.out.2.1,HK.out.2.2⟩
              case measure=>omega
            ·obtain rfl:h=n4:=by omega
             have hall:ME.take h=ME:=List.take_of_length_le (by rw[←Rf.out.1];exact Nat.le_refl _);rw[hall]at hacc hno;have z0:wr.cell? ⟨En,0,none⟩=some (.int .i64 (ix:Nat)):=au q22 0 rfl;have z1:wr.cell? ⟨En,1,none⟩=some (.slice po no co):=au q22 1 rfl;have z2:wr.cell? ⟨En,2,none⟩=some (.int .i64 (n3:Nat)):=au q22 2 rfl;have hlb:=aV q22;have ko:=HR.out.2.1.below H7.out.2.2;have hmr:=ko.Vi ho (fun g m c e9=>by have h1:=HR.out.2.1.blk e9;have h2:=H6.out.2.2;omega);have VX:kK 98 w7 wr:=kK.box H7.out.2.1 ho;have ZQ:=(kK.below (X:=98) H7.out.2.2).trans VX
             have Lg:Below wA.heap.size wA wr:=by
              have h1:=HR.out.2.2.2.1;have h2:=h1.trans (H7.out.2.2.mono h1.size);exact⟨ho.os.trans h2.os,ho.tape.trans h2.tape,ho.output.trans h2.output,Nat.le_trans h2.size ho.size,fun q hq=>(ho.block q (Nat.lt_of_lt_of_le hq h2.size) (fun e9=>by have h3:=h1.size;have h4:=H6.out.2.2;omega)).trans (h2.block q hq)⟩
             have hS0:∀o,Sl (wr.alloc o) 98 3 (.slice pm e cm) e (fC Vd ml):=fun o=>by
              have:=(hmr.alloc o).1;rw[HR.out.1]at this;exact this
             have lU:=Lib.hid hS0;have HK:=Lib.hid (And.intro hacc (And.intro hmr (And.intro ZQ (And.intro Lg hno))));clear hall hacc ho q22 ko hmr VX ZQ Lg hS0 hno
             go_wp2_with (at_builtin;refine aA _ rfl _ _ _ rfl Zr rfl (lU.out _) rfl (aL (by simp)) rfl (by simp[Value.oneCell']) (by omega) ?_;intro g2 c2 w9 hq2;have HQ:=Lib.hid hq2;clear hq2)
             go_roundg (nl-(e+1))
             case rel=>
              obtain⟨hacc,hmr,ZQ,Lg,hno⟩:=HK.out;have hq:bY _ 98 3 (.slice pm e cm) e 1 _ g2 c2 w9:=HQ.out;have hma:=hmr.alloc (.cells #[.int .i64 (ix:Nat),.slice po no co,.int .i64 (n3:Nat)] 98);have hba:Below wr.heap.size wr (wr.alloc (.cells #[.int .i64 (ix:Nat),.slice po no co,.int .i64 (n3:Nat)] 98)):=(Below.refl _ _).alloc (Nat.le_refl _) _;obtain⟨r1,r2⟩:=hma.push (e:=((ix:Int),.slice po no co,(n3:Int))) HR.out.1 hq (by have:=Lg.size;simp;omega) rfl;have kp9:=(kK.below (X:=98) hba).trans (kK.app hma hq);refine⟨e+1,ml++[((ix:Int),.slice po no co,(n3:Int))],rfl,by omega,by go_num,by simp[HR.out.1],r1,HR.out.2.2.1.trans (ZQ.trans kp9),(Lg.trans (hba.mono Lg.size)).trans r2,fun i' x hx=>?_⟩
              by_cases hin:i'<ml.length
              ·rw[List.getElem?_append_left hin]at hx;obtain⟨ix',o,h1,h2,h3,h4,h5⟩:=HR.out.2.2.2.2 i' x hx;exact⟨ix',o,h1,h2,(h3.kp ZQ (by decide)).kp kp9 (by decide),h4,h5⟩
              ·rw[List.getElem?_append_right (by omega)]at hx
               have h0:i'-ml.length=0:=by
                rcases Nat.eq_zero_or_pos (i'-ml.length)with h|h
                ·exact h
                ·rw[List.getElem?_eq_none (by simp;omega)]at hx;cases hx
               rw[h0]at hx;simp only[List.getElem?_cons_zero,Option.some.injEq]at hx;subst hx;refine⟨ix,ME.filter (fun v=>Bd.aU L left v==1),LH.out.1,rfl,hacc.dM.kp kp9 (by decide),Nat.le_trans (List.length_filter_le _ _) Rf.out.2.2,fun v=>?_⟩;rw[List.mem_filter,Rf.out.2.1 v,uS LH.out.2.1];simp[and_assoc]
             case measure=>omega
          ·obtain rfl:e=nl:=by omega
           obtain⟨w6,rP⟩:∃w6,w6=wr:=⟨_,rfl⟩;subst rP
           have cF:=F5 (w:=w6) (u:=.slice pm e cm) (l:=ml) hacc.1 (by omega) (by omega) (fun x hx=>by
            obtain⟨q,hq⟩:=List.mem_iff_getElem?.1 hx;obtain⟨ix,o,-,-,h3,h4,-⟩:=hel q x hq;obtain⟨p1,c1,h5⟩:=h3.shape
            exact⟨p1,_,c1,h5,by omega⟩)
           have Sy:=Lib.hid cF;have HR:=Lib.hid (And.intro hkp (And.intro hbw hel));clear hacc hkp hbw hel hml cF;go_wp2_with fail;refine(Sy.out).mono ?_;rintro r Zf ⟨x,hxm,rfl,Gy⟩;obtain⟨q,hq⟩:=List.mem_iff_getElem?.1 hxm;obtain⟨ix,o,hix,ZR,hno,hol,hov⟩:=HR.out.2.2 q x hq;obtain⟨x1,x2,x3⟩:=x;simp only at ZR hno;subst ZR;obtain⟨po,co,hso⟩:=hno.shape;obtain⟨no,VY⟩:∃no,no=o.length:=⟨_,rfl⟩;rw[←VY]at hso;subst hso;obtain⟨wW,VZ⟩:∃wW,wW=Zf.heap.size:=⟨_,rfl⟩;obtain⟨tL,Pd⟩:∃tL,tL=Zf.alloc (.cells #[.int .i64 (ix:Int),.slice po no co,.int .i64 x3] 98):=⟨_,rfl⟩;have V8:kK 98 w6 tL:=(kK.below Gy).trans (kK.below (jU Pd));have q25:tL.heap[wW]?=some (.cells #[.int .i64 (ix:Int),.slice po no co,.int .i64 x3] 98 (0,0)):=by rw[Pd,VZ];exact heap_alloc_new _ _
           have hbA:Below wA.heap.size wA tL:=by
            have h1:=HR.out.2.1;have h2:=h1.trans (Gy.mono h1.size);exact h2.trans ((jU Pd).mono h2.size)
           have LJ:=HR.out.1.trans V8;have VT:=HP.out.2.1 ix hix
           have LK:=Lib.hid (show Below w.heap.size w tL∧fD tL (.slice pL i cL) L∧av tL (.slice (some ⟨gG,0,none⟩) k cG) G∧dB tL bm (fun v=>(Bd.aU L left v:Nat))∧av tL (.slice pl e cl) left∧av tL (.slice pw2 nw2 cw2) wl∧av tL (.slice ps ns cs) sl∧bK w.heap.size tL (.slice pt nt ct) ds∧av tL (.slice po no co) o from
            ⟨HA.out.1.trans (hbA.mono HA.out.1.size),HA.out.2.1.kp LJ (by decide) (by decide),HA.out.2.2.1.kp LJ (by decide),HA.out.2.2.2.1.kp LJ,HA.out.2.2.2.2.1.kp LJ (by decide),HA.out.2.2.2.2.2.1.kp LJ (by decide),HA.out.2.2.2.2.2.2.1.kp LJ (by decide),HA.out.2.2.2.2.2.2.2.kp LJ (by decide) (by decide),hno.kp V8 (by decide)⟩)
           have HO:=Lib.hid (And.intro hix (And.intro hol (And.intro hov (And.intro VY q25))));have ZM:((ix:Nat):Int)<(i:Int):=by omega
           have abG:no≤64:=by omega
           clear Gy hxm hq hix hno hol hov VY V8 hbA LJ Sy HR;go_wp2_with fail;rw[←Pd,←VZ];clear Pd VZ;have mW:∀W,Below tL.heap.size tL W→W.cell? ⟨wW,0,none⟩=some (.int .i64 (ix:Int))∧W.cell? ⟨wW,1,none⟩=some (.slice po no co):=fun W h=>⟨au ((h.block wW (aV HO.out.2.2.2.2)).trans HO.out.2.2.2.2) 0 rfl,au ((h.block wW (aV HO.out.2.2.2.2)).trans HO.out.2.2.2.2) 1 rfl⟩;have dJ:=Lib.hid mW;have HD:=Lib.hid (show Below tL.heap.size tL tL.drew from(Below.refl _ _).drew);clear mW;refine wp_region_held_drew (S:=fun W=>W.cell? ⟨wW,0,none⟩=some (.int .i64 (ix:Int))∧W.cell? ⟨wW,1,none⟩=some (.slice po no co)) (by kernel_rfl) (dJ.out _ HD.out) (fun hHeld=>?_)
           repeat
            (first|refine aD 0 (v:=?_) rfl ?hy ?_|refine aD 1 (v:=?_) rfl ?hy ?_|refine aD 2 (v:=?_) rfl ?hy ?_|refine aD 3 (v:=?_) rfl ?hy ?_|refine aD 4 (v:=?_) rfl ?hy ?_|refine aD 5 (v:=?_) rfl ?hy ?_
             case hy=>
              intro w0 hS;obtain⟨c0,c1⟩:=hS;go_simp
              (first|done|with_reducible rfl)
             try simp only[Act.put,aZ,bq,bA])
           refine wpAnyH_ready (rs:=[6]) (by decide +kernel) (by simp) (AllReadyH.cons (dA rfl) (fun KC aO=>?_) AllReadyH.nil);refine isAny ?_;go_simp;clear hHeld;obtain⟨bs,hbs⟩:∃bs,bs=tL.heap.size:=⟨_,rfl⟩;obtain⟨W12,RY⟩:∃W12,W12=(tL.alloc (.cells #[.slice po no co,.slice pw2 nw2 cw2] 22)).drew:=⟨_,rfl⟩;have Gz:Below tL.heap.size tL W12:=by rw[RY];exact((Below.refl _ _).alloc (Nat.le_refl _) _).drew
           have cU:=pY (w:=W12) (u:=.slice (some ⟨bs,0,none⟩) 2 2) (ls:=[o,wl]) (Gv (by rw[RY,hbs];exact heap_alloc_new _ _) (LK.out.2.2.2.2.2.2.2.2.below Gz) (LK.out.2.2.2.2.2.1.below Gz)) (by simp) (by
            have h1:=HO.out.2.1;have h2:=HP.out.2.2.1
            simp;omega)
           obtain⟨U,hU⟩:∃U,U=Bd.f_ [o,wl].flatten:=⟨_,rfl⟩;rw[←hU]at cU;have WM:∀v,v∈U↔v∈o∨v∈wl:=fun v=>by rw[hU,Bd.dV];simp
           have HU:=Lib.hid (And.intro cU WM)
           have Iy:=Lib.hid (show U.length≤128 by
            have h1:=Bd.zT [o,wl].flatten;have h2:=HO.out.2.1;have h3:=HP.out.2.2.1;rw[hU]
            simp at h1⊢;omega)
           have Lh:=Lib.hid Gz;rw[←RY,←hbs];clear RY hbs Gz cU WM hU;refine aO.out _ _ (dJ.out _ Lh.out) (fun hHeld=>?_);clear aO KC;(try simp only[Act.put,aZ,bq,bA]);refine wpAnyH_ready (rs:=[7]) (by decide +kernel) (by simp) (AllReadyH.cons (dA rfl) (fun KC aO=>?_) AllReadyH.nil);refine bW 52 ?_;go_simp;clear hHeld;refine(HU.out.1).mono ?_;rintro r WO ⟨o13,rfl,V9,Li⟩;obtain⟨gU,cU,hsU,-,-⟩:=V9.ex;obtain⟨nU,hnU⟩:∃nU,nU=U.length:=⟨_,rfl⟩;rw[←hnU]at hsU;subst hsU;have TH:Below tL.heap.size tL WO:=Lh.out.trans (Li.mono Lh.out.size);have WR:=Lib.hid (show bO w.heap.size WO (.slice (some ⟨gU,0,none⟩) nU cU) U∧Below tL.heap.size tL WO from⟨V9.mono (by have h1:=LK.out.1.size;have h2:=Lh.out.size;omega),TH⟩);clear V9 Li hnU TH;refine aO.out _ _ (dJ.out _ WR.out.2) (fun hHeld=>?_);clear aO KC;try simp only[Act.put,aZ,bq,bA]
           repeat
            (first|refine aD 8 (v:=?_) rfl ?hy ?_
             case hy=>
              intro w0 hS;obtain⟨c0,c1⟩:=hS;go_simp
              (first|done|with_reducible rfl)
             try simp only[Act.put,aZ,bq,bA])
           refine wpAnyH_ready (rs:=[9]) (by decide +kernel) (by simp) (AllReadyH.cons (dA rfl) (fun KC aO=>?_) AllReadyH.nil);refine isAny ?_;go_simp;clear hHeld;obtain⟨bt,hbt⟩:∃bt,bt=WO.heap.size:=⟨_,rfl⟩;obtain⟨WU,RZ⟩:∃WU,WU=WO.alloc (.cells #[.int .i64 (ix:Int),.slice (some ⟨gU,0,none⟩) nU cU] 46):=⟨_,rfl⟩;have V_:=jU RZ;have q14:WU.heap[bt]?=some (.cells #[.int .i64 (ix:Int),.slice (some ⟨gU,0,none⟩) nU cU] 46 (0,0)):=by rw[RZ,hbt];exact heap_alloc_new _ _
           have Wh:=Lib.hid (And.intro q14 (And.intro (WR.out.2.trans (V_.mono WR.out.2.size)) (WR.out.1.below V_)));rw[←RZ,←hbt];clear RZ hbt V_ q14;refine aO.out _ _ (dJ.out _ Wh.out.2.1) (fun hHeld=>?_);clear aO KC;(try simp only[Act.put,aZ,bq,bA]);refine wpAnyH_ready (rs:=[10]) (by decide +kernel) (by simp) (AllReadyH.cons (dA rfl) (fun KC aO=>?_) AllReadyH.nil);refine isAny ?_;clear hHeld;obtain⟨xs,hxs,hxa,hxe⟩:=LK.out.2.2.2.2.2.2.2.1.below Wh.out.2.1;have hxn:xs.length=nt:=by rw[hxs,←HN.out.2.2.2]
           have Y5:Sl WU 46 2 (.slice pt nt ct) nt (fC Zp xs):=by rw[←hxn];rw[hxn];have:=hxa.1;rw[hxn]at this;exact this
           refine lY WU _ _ rfl Zq rfl Y5 rfl Wh.out.1 rfl (by simp[Value.oneCell']) (by omega) ?_;intro g15 c15 zH ZT;have hq:bY WU 46 2 (.slice pt nt ct) nt 1 _ g15 c15 zH:=ZT;obtain⟨r1,r2⟩:=hxa.push (e:=((ix:Int),.slice (some ⟨gU,0,none⟩) nU cU)) hxn hq (by have h1:=LK.out.1.size;have h2:=Wh.out.2.1.size;omega) rfl;have kpS:=kK.app hxa hq;have GA:=(kK.below (X:=46) Wh.out.2.1).trans kpS;have R8:zH.heap[wW]?=some (.cells #[.int .i64 (ix:Int),.slice po no co,.int .i64 x3] 98 (0,0)):=GA.row wW _ 98 (by decide) HO.out.2.2.2.2
           have LM:=Lib.hid (show Below w.heap.size w zH∧fD zH (.slice pL i cL) L∧av zH (.slice (some ⟨gG,0,none⟩) k cG) G∧dB zH bm (fun v=>(Bd.aU L left v:Nat))∧av zH (.slice pl e cl) left∧av zH (.slice ps ns cs) sl∧bK w.heap.size zH (.slice (some ⟨g15,0,none⟩) (nt+1) c15) (ds++[⟨ix,U⟩])∧zH.heap[wW]?=some (.cells #[.int .i64 (ix:Int),.slice po no co,.int .i64 x3] 98 (0,0))from
            ⟨(LK.out.1.trans (Wh.out.2.1.mono LK.out.1.size)).trans r2,LK.out.2.1.kp GA (by decide) (by decide),LK.out.2.2.1.kp GA (by decide),LK.out.2.2.2.1.kp GA,LK.out.2.2.2.2.1.kp GA (by decide),LK.out.2.2.2.2.2.2.1.kp GA (by decide),Gw hxs r1 (fun i' x s h1 h2=>⟨(hxe i' x s h1 h2).1,(hxe i' x s h1 h2).2.1.kp kpS (by decide),(hxe i' x s h1 h2).2.2⟩) rfl ⟨Wh.out.2.2.kp kpS (by decide),Iy.out⟩,R8⟩)
           have zs:zH.cell? ⟨wW,0,none⟩=some (.int .i64 (ix:Int))∧zH.cell? ⟨wW,1,none⟩=some (.slice po no co):=⟨au R8 0 rfl,au R8 1 rfl⟩;clear hq ZT r1 r2 kpS GA Y5 hxs hxa hxe hxn R8;refine aO.out _ _ zs (fun hHeld=>?_);clear aO KC;try simp only[Act.put,aZ,bq,bA]
           repeat
            (first|refine aD 11 (v:=?_) rfl ?hy ?_
             case hy=>
              intro w0 hS;obtain⟨c0,c1⟩:=hS;go_simp
              (first|done|with_reducible rfl)
             try simp only[Act.put,aZ,bq,bA])
           refine wpAnyH_done (by decide +kernel) ?_ _;clear hHeld;clear zs;obtain⟨gL,y,p,hpp,Gx,hcell,hp,hny⟩:=oP LM.out.2.1 (j:=ix) (by rw[xP.out.1];exact VT);subst hpp;obtain⟨pp,cp,Ea⟩:=hny.shape;obtain⟨np,hnp⟩:∃np,np=p.length:=⟨_,rfl⟩;rw[←hnp]at Ea;subst Ea;obtain⟨hpi,hpl,uw⟩:=xP.out.2.1 p (List.mem_of_getElem? hp);have ZE:np≤64:=by omega
           have z0:zH.cell? ⟨wW,0,none⟩=some (.int .i64 (ix:Int)):=au LM.out.2.2.2.2.2.2.2 0 rfl;have l25:wW<zH.heap.size:=aV LM.out.2.2.2.2.2.2.2;obtain⟨b16,GD⟩:∃b16,b16=zH.heap.size:=⟨_,rfl⟩;obtain⟨W16,R9⟩:∃W16,W16=zH.alloc (.cells #[.slice ps ns cs,.slice pp np cp] 22):=⟨_,rfl⟩;have IV:Below zH.heap.size zH W16:=jU R9
           have cU2:=pY (w:=W16) (u:=.slice (some ⟨b16,0,none⟩) 2 2) (ls:=[sl,p]) (Gv (by rw[R9,GD];exact heap_alloc_new _ _) (LM.out.2.2.2.2.2.1.below IV) (hny.below IV)) (by simp) (by
            have h2:=HP.out.2.2.2.2.1
            simp;omega)
           obtain⟨U2,hU2⟩:∃U2,U2=Bd.f_ [sl,p].flatten:=⟨_,rfl⟩;rw[←hU2]at cU2
           have Wi:∀v∈U2,v<64:=fun v hv=>by
            rw[hU2,Bd.dV]at hv;simp only[List.flatten_cons,List.flatten_nil,List.append_nil,List.mem_append]at hv
            rcases hv with h|h
            ·exact HP.out.2.2.2.1 v h
            ·exact uw v h
           have ZU:U2.length≤64:=Bd.jd (by rw[hU2];exact Bd.fP _) Wi;have Lr:=Lib.hid (And.intro cU2 (And.intro Wi ZU));have LH:=Lib.hid (And.intro hp (And.intro hnp (And.intro hpi (And.intro uw hny))));have ZV:=Lib.hid IV;clear cU2 Wi ZU hU2 hp hnp hpi hpl uw hny IV;go_wp2_with fail;rw[←R9,←GD];clear R9 GD;refine(Lr.out.1).mono ?_;rintro r Eo ⟨o17,rfl,Wj,rH⟩;have jR:Below zH.heap.size zH Eo:=ZV.out.trans (rH.mono ZV.out.size);obtain⟨p17,c17,ZW⟩:=Wj.dM.shape;obtain⟨n17,ZX⟩:∃n17,n17=U2.length:=⟨_,rfl⟩;rw[←ZX]at ZW;subst ZW;have q17:=(jR.block wW l25).trans LM.out.2.2.2.2.2.2.2;have z0:Eo.cell? ⟨wW,0,none⟩=some (.int .i64 (ix:Int)):=au q17 0 rfl;have l25:wW<Eo.heap.size:=aV q17;have hcell:Eo.cell? ⟨gL,ix,none⟩=some (.slice pp np cp):=(jR.cell (p:=⟨gL,ix,none⟩) Gx).trans hcell;have Gx:gL<Eo.heap.size:=Nat.lt_of_lt_of_le Gx jR.size
           have LP:=Lib.hid (show Below w.heap.size w Eo∧fD Eo (.slice (some ⟨gL,0,none⟩) i cL) L∧av Eo (.slice (some ⟨gG,0,none⟩) k cG) G∧dB Eo bm (fun v=>(Bd.aU L left v:Nat))∧av Eo (.slice pl e cl) left∧av Eo (.slice p17 n17 c17) U2∧bK w.heap.size Eo (.slice (some ⟨g15,0,none⟩) (nt+1) c15) (ds++[⟨ix,U⟩])∧Eo.heap[wW]?=some (.cells #[.int .i64 (ix:Int),.slice po no co,.int .i64 x3] 98 (0,0))∧av Eo (.slice pp np cp) p from
            ⟨LM.out.1.trans (jR.mono LM.out.1.size),LM.out.2.1.below jR,LM.out.2.2.1.below jR,LM.out.2.2.2.1.below jR,LM.out.2.2.2.2.1.below jR,Wj.dM,LM.out.2.2.2.2.2.2.1.below jR,q17,LH.out.2.2.2.2.below jR⟩)
           clear Wj rH jR q17 ZX;go_wp2_with fail
           go_loopg [27,148,149,150,151,152,153,154,155,156] np (fun q v27 v148 XY X_ Ya v152 Yb v154 Yd Ye wx=>∃h:Nat,q=np-h∧h≤np∧v148=.int .i64 (h:Nat)∧dB wx bm (fun v=>(Bd.aU L left v:Int)-(Bd.aD p h v:Int))∧Only (fun q=>q=bm) Eo wx)
           case atStart=>exact⟨0,rfl,Nat.zero_le _,rfl,LP.out.2.2.2.1.congr (fun v=>by rw[Bd.Ct];simp),Only.refl⟩
           case round=>
            obtain⟨h,rfl,hh,rfl,hcm,ho⟩:=hrel
            by_cases hlt2:h<np
            ·have hhi:(h:Int)<(np:Int):=by omega
             obtain⟨gp,hpp,abn,hcp⟩:=(LP.out.2.2.2.1.dM LP.out.2.2.2.2.2.2.2.2 ho).get (j:=h) (by rw[←LH.out.2.1];exact hlt2);subst hpp;obtain⟨a,ha⟩:∃a,p[h]?=some a:=⟨_,List.getElem?_eq_getElem (by rw[←LH.out.2.1];exact hlt2)⟩;have hga:p.getD h 0=a:=by rw[List.getD_eq_getElem?_getD,ha];rfl
             rw[hga]at hcp;have O_:=LH.out.2.2.2.1 a (List.mem_of_getElem? ha);have hlk:=hcm.look (v:=a) (by omega);obtain⟨y,hy⟩:∃y:Int,y=(Bd.aU L left a:Int)-(Bd.aD p h a:Int):=⟨_,rfl⟩;rw[←hy]at hlk
             have hyb:-1≤y∧y≤64:=by
              have h1:=Bd.Cq (L:=L) (left:=left) (v:=a);have h3:=HN.out.1;have h2:Bd.aD p h a≤1:=by unfold Bd.aD;split<;>omega
              omega
             obtain⟨aci,acj⟩:=hyb;obtain⟨W',hrun,hcm2,ho2⟩:=hcm.set (v:=a) O_ (y:=y-1) (by omega)
             have H5:=Lib.hid (show dB W' bm (fun v=>(Bd.aU L left v:Int)-(Bd.aD p (h+1) v:Int))∧Only (fun q=>q=bm) Eo W' from
              ⟨hcm2.congr (fun v=>by
                rw[Bd.Cr (Bd.jE LH.out.2.2.1) ha]
                by_cases e:v=a
                ·rw[e,if_pos rfl,if_pos rfl,hy];omega
                ·rw[if_neg e,if_neg e];rfl),ho.trans ho2⟩)
             clear hcm ho ha hga hy hcm2 ho2;go_wp2_with fail
             go_roundg (np-(h+1))
             case rel=>exact⟨h+1,rfl,by omega,by go_num,H5.out⟩
             case measure=>omega
            ·obtain rfl:h=np:=by omega
             obtain⟨Bv,abq⟩:∃Bv,Bv=wr:=⟨_,rfl⟩;subst abq;have hM:=LP.out.2.2.2.1
             have hcm2:dB Bv bm (fun v=>(Bd.aU L (left.filter (fun k=>k != ix)) v:Nat)):=hcm.congr (fun v=>by
              have h1:=Bd.lS (l:=L) (Bd.jE HP.out.1) HO.out.1 v;rw[uS LH.out.1]at h1;rw[LH.out.2.1,Bd.Hl]
              omega)
             have TI:=Lib.hid (show Below w.heap.size w Bv∧fD Bv (.slice (some ⟨gL,0,none⟩) i cL) L∧av Bv (.slice (some ⟨gG,0,none⟩) k cG) G∧dB Bv bm (fun v=>(Bd.aU L (left.filter (fun k=>k != ix)) v:Nat))∧av Bv (.slice pl e cl) left∧av Bv (.slice p17 n17 c17) U2∧bK w.heap.size Bv (.slice (some ⟨g15,0,none⟩) (nt+1) c15) (ds++[⟨ix,U⟩])from
              ⟨LP.out.1.trans (ho.below (fun q e=>by rw[e];exact HBM.out) LP.out.1.size),hM.lists LP.out.2.1 ho,hM.dM LP.out.2.2.1 ho,hcm2,hM.dM LP.out.2.2.2.2.1 ho,hM.dM LP.out.2.2.2.2.2.1 ho,LP.out.2.2.2.2.2.2.1.map hM ho⟩)
             have q18:Bv.heap[wW]?=some (.cells #[.int .i64 (ix:Int),.slice po no co,.int .i64 x3] 98 (0,0)):=hM.RS LP.out.2.2.2.2.2.2.2.1 ho;have z0:Bv.cell? ⟨wW,0,none⟩=some (.int .i64 (ix:Int)):=au q18 0 rfl;have l25:wW<Bv.heap.size:=aV q18;obtain⟨b19,Wm⟩:∃b19,b19=Bv.heap.size:=⟨_,rfl⟩;obtain⟨W19,R_⟩:∃W19,W19=Bv.alloc (.cells #[.int .i64 (ix:Int)] 3):=⟨_,rfl⟩;have Pe:Below Bv.heap.size Bv W19:=jU R_;have cL9:=oK (w:=W19) (u:=.slice (some ⟨b19,0,none⟩) 1 1) (m:=[ix]) (TI.out.2.2.2.2.1.below Pe) (D_ (by rw[R_,Wm];exact heap_alloc_new _ _)).o (by have:=HN.out.1;omega) (by simp);rw[show dU left [ix] false=left.filter (fun x=>decide (x∈[ix])==false)from rfl,Bd.MJ HP.out.1 ix]at cL9;have HL9:=Lib.hid cL9;have ZY:=Lib.hid Pe;clear hcm ho hM hcm2 q18 Pe cL9;go_wp2_with fail;rw[←R_,←Wm];clear R_ Wm;refine(HL9.out).mono ?_;rintro r w20 ⟨o20,rfl,abr,abt⟩;have tN:Below Bv.heap.size Bv w20:=ZY.out.trans (abt.mono ZY.out.size)
             have hless:(left.filter (fun k=>k != ix)).length+1≤left.length:=by
              have h1:=Bd.tO HO.out.1
              have h2:left.filter (fun x=>decide (x∈[ix])==false)=left.filter (fun k=>k != ix):=by
               apply List.filter_congr
               intro x _
               by_cases h:x=ix<;>simp[h]
              rw[h2]at h1;exact h1
             have abu:Bd.kC L G (List.range i) WL (left.filter (fun k=>k != ix)) [] (ds++[⟨ix,U⟩]):=HP.out.2.2.2.2.2.step HO.out.1 (fun v=>by rw[HU.out.2 v,HO.out.2.2.1 v]);go_wp2_with fail
             go_roundg (left.filter (fun k=>k != ix)).length
             case rel=>exact⟨left.filter (fun k=>k != ix),[],U2,ds++[⟨ix,U⟩],rfl,TI.out.1.trans (tN.mono TI.out.1.size),TI.out.2.1.below tN,TI.out.2.2.1.below tN,TI.out.2.2.2.1.below tN,abr.dM,HP.out.1.filter _,fun x hx=>HP.out.2.1 x (List.mem_filter.1 hx).1,.inl ⟨rfl,rfl⟩,Nat.zero_le _,TI.out.2.2.2.2.2.1.below tN,Lr.out.2.1,Lr.out.2.2,TI.out.2.2.2.2.2.2.below tN,by have:=HDL.out;simp only[List.length_append,List.length_cons,List.length_nil];omega,abu⟩
             case measure=>omega
        ·obtain rfl:nl=0:=by omega
         obtain rfl:left=[]:=List.eq_nil_of_length_eq_zero HN.out.1.symm;go_wp2_with fail;rw[HF.out];exact⟨_,ds,rfl,HA.out.2.2.2.2.2.2.2,HA.out.1,HP.out.2.2.2.2.2.done⟩
end
end Go.Proofs.YtpijlhlpejlhhaaGreat
