/- Walks and plain words: ScF TsA TsB. -/
import Derived.Test.YtpijlhlpejlhhaaGreatVScE
import Derived.Test.YtpijlhlpejlhhaaGreatVRdH
import Derived.Test.YtpijlhlpejlhhaaGreatVSuA
namespace Go.Proofs.YtpijlhlpejlhhaaGreat
open Go.RowKit
set_option linter.unusedVariables false
set_option maxRecDepth 100000
set_option maxHeartbeats 16000000
section
/-- A map of numbers,entry by entry. -/
structure jr(w:World)(bm:Nat)(F:Nat→Option Int):Prop where
 ex:∃c,bV jJ w bm c F∧∀v,F v≠none→v<64
section
variable {w w':World} {bm b B m n:Nat} {F:Nat→Option Int} {u x v:Value} {l G0:List Nat} {ls:List (List Nat)} {ds:List Bd.Stp}
theorem jr.cnt(h:jr w bm F):dB w bm (fun v=>(F v).getD 0):=by
 obtain⟨c,h1,h2⟩:=h.ex;exact⟨⟨F,c,h1,h2,fun v=>rfl⟩⟩
theorem jr.below(h:jr w bm F)(hb:Below w.heap.size w w'):jr w' bm F:=by
 obtain⟨c,h1,h2⟩:=h.ex;exact⟨⟨c,h1.kept (hb.block bm h1.lt),h2⟩⟩
theorem jr.congr{F':Nat→Option Int}(h:jr w bm F)(he:∀v,F v=F' v):jr w bm F':=by
 rw[←funext he];exact h
theorem jr.pq(h:jr w bm F){v:Nat}(hv:v<4611686018427387904):(Instr.lookup 87 (.map (some bm)) (.int .i64 (v:Nat)) true).run Tryz.prog w=.ok (.tuple #[.int .i64 ((F v).getD 0),.bool (F v).isSome]) w:=by
 obtain⟨c,h1,h2⟩:=h.ex;exact h1.pq (x:=v) hv
theorem jr.set(h:jr w bm F){v:Nat}(hv:v<64){y:Int}(hy:-1000000≤y∧y≤1000000):∃w',(Instr.mapUpdate 87 (.map (some bm)) (.int .i64 (v:Nat)) (.int .i64 y)).run Tryz.prog w=.ok () w'∧jr w' bm (fun u=>if u=v then some y else F u)∧Only (fun q=>q=bm) w w':=by
 obtain⟨c,h1,h2⟩:=h.ex
 have hc:c≤64:=by
  obtain⟨l,e1,e2,e3⟩:=h1.list;rw[←e2];exact Bd.eZ 64 l e1 (fun x hx=>h2 x ((e3 x).1 hx))
 obtain⟨w',u1,u2,u3⟩:=h1.store (x:=v) (show v<4611686018427387904 by omega) (y:=y) (show(Lit.int .i64 y).wf=true from WalkArith.wf_i64 (by omega)) (by unfold maxLen;omega);refine⟨w',u1,⟨_,u2,fun u hu=>?_⟩,u3⟩
 by_cases e:u=v
 ·omega
 ·rw[if_neg e]at hu;exact h2 u hu
theorem jr.made(w:World):jr (w.alloc (.map #[] 0)) w.heap.size (fun _=>none):=⟨0,bV.made (t:=jJ) w,fun v h=>absurd rfl h⟩
theorem bK.get{j:Nat}{s:Bd.Stp}(h:bK B w v ds)(hj:ds[j]?=some s):∃g c x,v=.slice (some ⟨g,0,none⟩) ds.length c∧g<w.heap.size∧w.cell? ⟨g,j*2,none⟩=some (.int .i64 (s.part:Nat))∧w.cell? ⟨g,j*2+1,none⟩=some x∧bO B w x s.out∧s.out.length≤128:=by
 obtain⟨xs,h1,h2,h3⟩:=h;have hjl:j<ds.length:=(List.getElem?_eq_some_iff.1 hj).1;have hx:xs[j]?=some xs[j]:=List.getElem?_eq_getElem (by omega);obtain⟨h4,h5,h6⟩:=h3 j _ s hx hj
 rcases h2.1 with⟨e1,e2⟩|⟨g,c,e1,hr⟩
 ·omega
 ·refine⟨g,c,xs[j].2,by rw[e1,h1],hr.lt,?_,?_,h5,h6⟩
  ·have:=hr.cell (i:=j) (j:=0) (by omega) (by omega);rw[kg hx]at this;simp only[Zp,h4]at this
   simpa using this
  ·have:=hr.cell (i:=j) (j:=1) (by omega) (by omega);rw[kg hx]at this
   simpa[Zp]using this
theorem Eb(h:fD w u ls)(hm:ls.length≤64)(hl:∀l∈ls,l.length≤1000∧∀v∈l,v<64)(hg:av w x G0)(hgl:G0.length≤1000)(O8:∀v∈G0,v<64)(hst:bK B w v ds)(hrt:Bd.Xj (ls.map Bd.f_) (Bd.f_ G0) ls.length ds) :
 Calls Tryz.prog 13 #[u,x,v] w fun r w'=>r=.returned (.bool true)∧Below w.heap.size w w':=by
 obtain⟨Q,HF⟩:=aJ (fun(r:Ending)(w':World)=>r=.returned (.bool true)∧Below w.heap.size w w');rw[←HF.out];have cS:=y9 h (by omega) (fun l h=>(hl l h).1);obtain⟨pu,cu,rfl⟩:=h.shape;obtain⟨px,cx,rfl⟩:=hg.shape;obtain⟨pv,cv,rfl⟩:=hst.shape;obtain⟨L,hL⟩:∃L,L=ls.map Bd.f_:=⟨_,rfl⟩;obtain⟨G,hG⟩:∃G,G=Bd.f_ G0:=⟨_,rfl⟩;obtain⟨m,hm0⟩:∃m,m=ls.length:=⟨_,rfl⟩;obtain⟨nx,hnx⟩:∃nx,nx=G0.length:=⟨_,rfl⟩;have cO:=fun W (hb:Below w.heap.size w W)=>lZ (hg.below hb) hgl;rw[←hL,←hG,←hm0]at hrt;rw[←hL,←hm0]at cS;rw[←hnx,←hG]at cO;have hdl:ds.length=m:=hrt.len;rw[←hm0,←hnx,hdl];rw[hdl]at hst;have Zt:L.length=m:=by rw[hL,List.length_map,hm0]
 have Zw:∀q∈L,Bd.Inc q∧q.length≤64∧∀v∈q,v<64:=fun q hq=>by
  rw[hL]at hq;obtain⟨l,hl1,rfl⟩:=List.mem_map.1 hq;have h64:∀v∈Bd.f_ l,v<64:=fun v hv=>(hl l hl1).2 v ((Bd.dV l v).1 hv);exact⟨Bd.fP l,Bd.jd (Bd.fP l) h64,h64⟩
 have Zz:Bd.Inc G∧G.length≤64∧∀v∈G,v<64:=by
  have h64:∀v∈G,v<64:=fun v hv=>O8 v (by rw[hG]at hv;exact(Bd.dV G0 v).1 hv);have hi:Bd.Inc G:=by rw[hG];exact Bd.fP G0
  exact⟨hi,Bd.jd hi h64,h64⟩
 have HS:=Lib.hid cS;have HO:=Lib.hid cO;have xP:=Lib.hid (And.intro Zt (And.intro Zw Zz));have Ec:=Lib.hid hrt;have HST:=Lib.hid hst;have Va:m≤64:=by omega
 clear cS cO Zt Zw Zz h hg hm hl hgl O8 hL hG hm0 hnx hrt hst hdl;go_in;have Zn:∀W:World,(Instr.makeMap 87 none).run Tryz.prog W=.ok (.map (some W.heap.size)) (W.alloc (.map #[] 0)):=fun W=>by kernel_rfl
 go_wp2_with fail;refine(HS.out).mono ?_;rintro r w1 ⟨o1,rfl,ho1,hb1⟩;have hc2:=HO.out w1 hb1;obtain⟨pL,cL,hsh⟩:=ho1.Rm.shape;rw[xP.out.1]at hsh;subst hsh;have H1:=Lib.hid (And.intro ho1 hb1);have um:=Lib.hid hc2;clear ho1 hb1 hc2;go_wp2_with fail;refine(um.out).mono ?_;rintro r w2 ⟨o2,rfl,ho2,hb2⟩;obtain⟨gG,cG,ZA,-,-⟩:=ho2.ex;obtain⟨nG,RU⟩:∃nG,nG=G.length:=⟨_,rfl⟩;rw[←RU]at ZA;subst ZA;have hbw2:Below w.heap.size w w2:=H1.out.2.trans (hb2.mono H1.out.2.size);obtain⟨bm,RV⟩:∃bm,bm=w2.heap.size:=⟨_,rfl⟩;obtain⟨w3,hw3⟩:∃w3,w3=w2.alloc (.map #[] 0):=⟨_,rfl⟩;have hb3:=jU hw3;have hcm:jr w3 bm (Bd.pQ []):=by rw[hw3,RV];exact(jr.made w2).congr (fun v=>rfl)
 have H3:=Lib.hid (show Below w.heap.size w w3∧fD w3 (.slice pL m cL) L∧av w3 (.slice (some ⟨gG,0,none⟩) nG cG) G∧bK B w3 (.slice pv m cv) ds∧jr w3 bm (Bd.pQ [])from⟨hbw2.trans (hb3.mono hbw2.size),(H1.out.1.Rm.below hb2).below hb3,ho2.dM.below hb3,(HST.out.below hbw2).below hb3,hcm⟩);have XD:=Lib.hid RU;have ZC:nG≤64:=by rw[RU];exact xP.out.2.2.2.1
 have O9:w.heap.size≤bm:=by rw[RV];exact hbw2.size
 have HBM:=Lib.hid O9;clear H1 ho2 hb2 hbw2 hb3 hcm RU;go_wp2_with fail;rw[←hw3,←RV];clear hw3 RV O9
 go_loopg [10,11,12,13,32,33,34,35,36,37,38,39,40,41,42,43,44,45,46,47,48,49,50,51,52,53,54,55,56,57,58,59,60,61] m (fun q v10 v11 v12 v13 v32 v33 v34 v35 v36 v37 v38 v39 v40 v41 v42 v43 v44 v45 v46 v47 v48 v49 v50 v51 v52 v53 v54 v55 v56 v57 v58 v59 v60 v61 wr=>∃j:Nat,q=m-j∧j≤m∧v32=.int .i64 (j:Nat)∧Below w.heap.size w wr∧fD wr (.slice pL m cL) L∧av wr (.slice (some ⟨gG,0,none⟩) nG cG) G∧bK B wr (.slice pv m cv) ds∧jr wr bm (Bd.pQ ((ds.take j).map (·.part))))
 case atStart=>exact⟨0,rfl,Nat.zero_le _,rfl,H3.out⟩
 case round=>
  clear H3;obtain⟨j,rfl,hj,rfl,hb,hls,mP,hst,hcm⟩:=hrel
  by_cases hlt:j<m
  ·have hji:(j:Int)<(m:Int):=by omega
   obtain⟨s,hs⟩:∃s,ds[j]?=some s:=⟨_,List.getElem?_eq_getElem (by rw[Ec.out.len];exact hlt)⟩;obtain⟨g,c,y,hpp,hgl,hc0,hc1,hny,hsl⟩:=hst.get hs;rw[Ec.out.len]at hpp
   injection hpp with hp1 hp2 hp3
   subst hp1;obtain⟨gy,cy,Ea,-,-⟩:=hny.ex;obtain⟨ny,Pf⟩:∃ny,ny=s.out.length:=⟨_,rfl⟩;rw[←Pf]at Ea;subst Ea;obtain⟨pt,hpt⟩:∃pt,pt=s.part:=⟨_,rfl⟩;rw[←hpt]at hc0;have acn:pt<m:=by rw[hpt];exact Ec.out.part s (List.mem_of_getElem? hs)
   have hfr:pt∉(ds.take j).map (·.part):=by rw[hpt];exact Ec.out.fresh j s hs
   have hg1:decide ((pt:Int)<0)=false:=decide_eq_false (by omega);have hg2:decide ((m:Int)≤(pt:Int))=false:=decide_eq_false (by omega);have hg3:¬(m:Int)≤(pt:Int):=by omega
   have hg4:¬(pt:Int)<0:=by omega
   obtain⟨W4,kW⟩:∃W4,W4=wr.alloc (.cells #[.int .i64 (pt:Nat),.slice (some ⟨gy,0,none⟩) ny cy] 46):=⟨_,rfl⟩;have hb4:=jU kW;have hlk:=(hcm.below hb4).pq (v:=pt) (by omega);rw[Bd.Ji hfr]at hlk;simp only[Option.getD_none,Option.isSome_none]at hlk;obtain⟨W',hrun,hcm2,ho⟩:=(hcm.below hb4).set (v:=pt) (by omega) (y:=(j:Nat)) (by omega);have hM:=(hcm.below hb4).cnt
   have H5:=Lib.hid (show Below w.heap.size w W'∧fD W' (.slice pL m cL) L∧av W' (.slice (some ⟨gG,0,none⟩) nG cG) G∧bK B W' (.slice (some ⟨g,0,none⟩) m cv) ds∧jr W' bm (Bd.pQ ((ds.take (j+1)).map (·.part)))from
    ⟨(hb.trans (hb4.mono hb.size)).trans (ho.below (fun q e=>by rw[e];exact HBM.out) (by have:=hb4.size;have:=hb.size;omega)),hM.lists (hls.below hb4) ho,hM.dM (mP.below hb4) ho,(hst.below hb4).map hM ho,hcm2.congr (fun v=>by
      have h1:((ds.take j).map (·.part)).length=j:=by rw[List.length_map,List.length_take,Ec.out.len];omega
      rw[Bd.sw hs,List.map_append,List.map_cons,List.map_nil,←hpt,←Bd.Jh hfr v,h1])⟩)
   rw[kW]at hlk hrun;clear hb hls mP hst hcm hs hny hsl Pf hpt hfr hb4 hcm2 ho hM kW hp2 hp3;go_wp2_with fail
   go_roundg (m-(j+1))
   case rel=>exact⟨j+1,rfl,by omega,by go_num,H5.out⟩
   case measure=>omega
  ·obtain rfl:j=m:=by omega
   obtain⟨w6,rP⟩:∃w6,w6=wr:=⟨_,rfl⟩;subst rP;have htk:ds.take j=ds:=List.take_of_length_le (by rw[Ec.out.len];exact Nat.le_refl _);rw[htk]at hcm;have H6:=Lib.hid (And.intro hb (And.intro hls (And.intro mP (And.intro hst hcm))));clear hb hls mP hst hcm htk
   by_cases h0:j=0
   ·subst h0;go_wp2_with fail;rw[HF.out];exact⟨rfl,H6.out.1⟩
   ·have hne:((j:Int)==0)=false:=beq_false_of_ne (by omega);have hne2:¬(j:Int)=0:=by omega
    go_wp2_with fail
    go_loopg [14,15,16,17,18,19,67,68,69,70,71,72,73,74,75,76,77,78,79,80,81,82,83,84,85,86,87,88,89,90,91,92,93,94,95,96,97,98,99,100,101,102,103,104,105,106,107,108,109,110] j (fun q v14 v15 v16 v17 v18 v19 v67 v68 v69 v70 v71 v72 v73 v74 v75 v76 v77 v78 v79 v80 v81 v82 v83 v84 v85 v86 v87 NV v89 QK v91 SK v93 SN SQ VA VB QL SS NW Fx J8 J9 J_ v105 sQ v107 Aw v109 Ay wr=>∃(k:Nat)(sn:List Nat),q=j-k∧k≤j∧v67=.int .i64 (k:Nat)∧Below w.heap.size w wr∧fD wr (.slice pL j cL) L∧av wr (.slice (some ⟨gG,0,none⟩) nG cG) G∧bK B wr (.slice pv j cv) ds∧jr wr bm (Bd.pQ (ds.map (·.part)))∧av wr v14 sn∧sn.length≤64∧(∀v,v∈sn↔∃s∈ds.take k,v∈s.out))
    case atStart=>exact⟨0,[],rfl,Nat.zero_le _,rfl,H6.out.1,H6.out.2.1,H6.out.2.2.1,H6.out.2.2.2.1,H6.out.2.2.2.2,.inl ⟨rfl,rfl⟩,Nat.zero_le _,fun v=>by simp⟩
    case round=>
     clear H6;obtain⟨k,sn,rfl,hk,rfl,hb,hls,mP,hst,hcm,hsn,Wn,Lj⟩:=hrel;obtain⟨ps,cs,hsh⟩:=hsn.shape;obtain⟨ns,hns⟩:∃ns,ns=sn.length:=⟨_,rfl⟩;rw[←hns]at hsh;subst hsh;have abH:ns≤64:=by omega
     by_cases hlt:k<j
     ·have hki:(k:Int)<(j:Int):=by omega
      obtain⟨s,hs⟩:∃s,ds[k]?=some s:=⟨_,List.getElem?_eq_getElem (by rw[Ec.out.len];exact hlt)⟩;obtain⟨g,c,y,hpp,hgl,hc0,hc1,hny,hsl⟩:=hst.get hs;rw[Ec.out.len]at hpp
      injection hpp with hp1 hp2 hp3
      subst hp1;obtain⟨gy,cy,Ea,-,-⟩:=hny.ex;obtain⟨ny,Pf⟩:∃ny,ny=s.out.length:=⟨_,rfl⟩;rw[←Pf]at Ea;subst Ea;have abI:ny≤128:=by omega
      obtain⟨b16,GD⟩:∃b16,b16=wr.heap.size:=⟨_,rfl⟩;obtain⟨W4,kW⟩:∃W4,W4=wr.alloc (.cells #[.int .i64 (s.part:Nat),.slice (some ⟨gy,0,none⟩) ny cy] 46):=⟨_,rfl⟩;have hb4:=jU kW;have cOf:=lZ (w:=W4) (hny.dM.below hb4) (by omega);have hso:=Ec.out.out s (List.mem_of_getElem? hs);obtain⟨O,hO⟩:∃O,O=Bd.f_ s.out:=⟨_,rfl⟩;rw[←hO]at cOf;have hOm:∀v,v∈O↔v∈s.out:=fun v=>by rw[hO];exact Bd.dV _ v
      have hOl:O.length≤64:=by
       rw[hO];exact Bd.jd (Bd.fP _) (fun v hv=>xP.out.2.2.2.2 v (hso v ((Bd.dV _ v).1 hv)))
      have HCO:=Lib.hid cOf;have H4:=Lib.hid (show Below w.heap.size w W4∧fD W4 (.slice pL j cL) L∧av W4 (.slice (some ⟨gG,0,none⟩) nG cG) G∧bK B W4 (.slice (some ⟨g,0,none⟩) j cv) ds∧jr W4 bm (Bd.pQ (ds.map (·.part)))∧av W4 (.slice ps ns cs) sn from⟨hb.trans (hb4.mono hb.size),hls.below hb4,mP.below hb4,hst.below hb4,hcm.below hb4,hsn.below hb4⟩);have Ee:=Lib.hid (And.intro hns (And.intro Wn Lj));have Ll:=Lib.hid (And.intro hs (And.intro hso (And.intro hOm hOl)));clear hb hls mP hst hcm hsn hns Wn Lj hs hny hsl Pf hb4 cOf hso hOm hOl hO hp2 hp3;have z1:W4.cell? ⟨b16,1,none⟩=some (.slice (some ⟨gy,0,none⟩) ny cy):=by rw[kW,GD];exact au (heap_alloc_new _ _) 1 rfl
      go_wp2_with (rw[←kW,←GD];clear kW GD;refine(HCO.out).mono ?_)
      rintro r w5 ⟨o5,rfl,Ls,hb5⟩;obtain⟨gO,cO,hsO,-,-⟩:=Ls.ex;obtain⟨nO,hnO⟩:∃nO,nO=O.length:=⟨_,rfl⟩;rw[←hnO]at hsO;subst hsO;have abJ:nO≤64:=by have:=Ll.out.2.2.2;omega
      have abv:=hb5;have cW:=nP (w:=w5) Ls.dM (H4.out.2.2.1.below hb5) (by have:=Ll.out.2.2.2;omega) (by have:=xP.out.2.2.2.1;omega) (b:=true) ⟨fun _ v hv=>Ll.out.2.1 v ((Ll.out.2.2.1 v).1 hv),fun _=>rfl⟩;have H5:=Lib.hid (show Below w.heap.size w w5∧fD w5 (.slice pL j cL) L∧av w5 (.slice (some ⟨gG,0,none⟩) nG cG) G∧bK B w5 (.slice (some ⟨g,0,none⟩) j cv) ds∧jr w5 bm (Bd.pQ (ds.map (·.part)))∧av w5 (.slice ps ns cs) sn∧av w5 (.slice (some ⟨gO,0,none⟩) nO cO) O from⟨H4.out.1.trans (hb5.mono H4.out.1.size),H4.out.2.1.below hb5,H4.out.2.2.1.below hb5,H4.out.2.2.2.1.below hb5,H4.out.2.2.2.2.1.below hb5,H4.out.2.2.2.2.2.below hb5,Ls.dM⟩);have HCW:=Lib.hid cW;have wY:=Lib.hid hnO;clear Ls hb5 abv cW hnO z1 H4 HCO;go_wp2_with fail;refine(HCW.out).mono ?_;rintro r w6 ⟨rfl,hb6⟩
      have hk0:dU O sn true=[]:=by
       unfold dU;rw[List.filter_eq_nil_iff];intro v hv hd;have h1:=(Ll.out.2.2.1 v).1 hv;obtain⟨t,ht,h2⟩:=(Ee.out.2.2 v).1 (by simpa using hd);obtain⟨q,hq⟩:=List.mem_iff_getElem?.1 ht
       have hqk:q<k:=by
        have:=(List.getElem?_eq_some_iff.1 hq).1;rw[List.length_take]at this;omega
       rw[List.getElem?_take_of_lt hqk]at hq;exact(Ec.out.far q k t s hqk hq Ll.out.1 v h2).1 h1
      have cM:=sU (w:=w6) (H5.out.2.2.2.2.2.2.below hb6) (H5.out.2.2.2.2.2.1.below hb6).o (by have:=Ll.out.2.2.2;omega) (by have:=Ee.out.2.1;omega);rw[hk0,show Bd.f_ []=[]from rfl]at cM;have HCM:=Lib.hid cM;have H6:=Lib.hid (show Below w.heap.size w w6∧fD w6 (.slice pL j cL) L∧av w6 (.slice (some ⟨gG,0,none⟩) nG cG) G∧bK B w6 (.slice (some ⟨g,0,none⟩) j cv) ds∧jr w6 bm (Bd.pQ (ds.map (·.part)))∧av w6 (.slice ps ns cs) sn∧av w6 (.slice (some ⟨gO,0,none⟩) nO cO) O from⟨H5.out.1.trans (hb6.mono H5.out.1.size),H5.out.2.1.below hb6,H5.out.2.2.1.below hb6,H5.out.2.2.2.1.below hb6,H5.out.2.2.2.2.1.below hb6,H5.out.2.2.2.2.2.1.below hb6,H5.out.2.2.2.2.2.2.below hb6⟩);clear hb6 hk0 cM H5 HCW;go_wp2_with fail;refine(HCM.out).mono ?_;rintro r w7 ⟨o7,rfl,ho7,kH⟩;obtain⟨g7,c7,hs7,-,-⟩:=ho7.ex;rw[List.length_nil]at hs7;subst hs7;have H7:=Lib.hid (show Below w.heap.size w w7∧fD w7 (.slice pL j cL) L∧av w7 (.slice (some ⟨gG,0,none⟩) nG cG) G∧bK B w7 (.slice (some ⟨g,0,none⟩) j cv) ds∧jr w7 bm (Bd.pQ (ds.map (·.part)))∧av w7 (.slice ps ns cs) sn∧av w7 (.slice (some ⟨gO,0,none⟩) nO cO) O from⟨H6.out.1.trans (kH.mono H6.out.1.size),H6.out.2.1.below kH,H6.out.2.2.1.below kH,H6.out.2.2.2.1.below kH,H6.out.2.2.2.2.1.below kH,H6.out.2.2.2.2.2.1.below kH,H6.out.2.2.2.2.2.2.below kH⟩);clear ho7 kH H6 HCM;go_wp2_with fail
      go_loopg [18,19,88,89,90,91,92,93,94,95,96,97,98,99,100,101,102,103,104,105] j (fun q v18 v19 NV v89 QK v91 SK v93 SN SQ VA VB QL SS NW Fx J8 J9 J_ v105 wx=>∃p:Nat,q=j-p∧p≤j∧NV=.int .i64 (p:Nat)∧Below w7.heap.size w7 wx)
      case atStart=>exact⟨0,rfl,Nat.zero_le _,rfl,Below.refl _ _⟩
      case round=>
       obtain⟨p,rfl,hp,rfl,hb⟩:=hrel
       by_cases hlt2:p<j
       ·have Bw:(p:Int)<(j:Int):=by omega
        obtain⟨gL,y,lp,hpp,Gx,hcell,hlp,hny⟩:=oP (H7.out.2.1.below hb) (j:=p) (by rw[xP.out.1];exact hlt2);subst hpp;obtain⟨pp,cp,Ea⟩:=hny.shape;obtain⟨np,hnp⟩:∃np,np=lp.length:=⟨_,rfl⟩;rw[←hnp]at Ea;subst Ea;obtain⟨hpi,hpl,uw⟩:=xP.out.2.1 lp (List.mem_of_getElem? hlp);obtain⟨hmem,t,ht,htp⟩:=Ec.out.pos p hlt2;obtain⟨ix,hix⟩:∃ix,ix=(ds.map (·.part)).idxOf p:=⟨_,rfl⟩;rw[←hix]at ht;have hlk:=(H7.out.2.2.2.2.1.below hb).cnt.look (v:=p) (by omega);rw[show((Bd.pQ (ds.map (·.part)) p).getD 0)=((ix:Nat):Int) by unfold Bd.pQ;rw[if_pos hmem,hix];rfl]at hlk
        have aco:ix<j:=by
         have:=(List.getElem?_eq_some_iff.1 ht).1;rw[Ec.out.len]at this;exact this
        by_cases hgt:k<ix
        ·have hgi:(k:Int)<(ix:Int):=by omega
         have hgd:decide ((k:Int)<(ix:Int))=true:=decide_eq_true hgi
         have hk0:dU lp O true=[]:=by
          unfold dU;rw[List.filter_eq_nil_iff];intro v hv hd;have h1:=(Ll.out.2.2.1 v).1 (by simpa using hd);have h2:=(Ec.out.far k ix s t hgt Ll.out.1 ht v h1).2;rw[htp,uS hlp]at h2;exact h2 hv
         have cM:=sU (w:=wr) hny (H7.out.2.2.2.2.2.2.below hb).o (by omega) (by have:=Ll.out.2.2.2;omega);rw[hk0,show Bd.f_ []=[]from rfl]at cM;have HCM:=Lib.hid cM;have mU:=Lib.hid hb;clear hb hny hnp hpi hpl uw hmem ht htp hix hk0 cM hlp;go_wp2_with fail;refine(HCM.out).mono ?_;rintro r w8 ⟨o8,rfl,WJ,gY⟩;obtain⟨g8,c8,Y9,-,-⟩:=WJ.ex;rw[List.length_nil]at Y9;subst Y9;have UC:=Lib.hid (mU.out.trans (gY.mono mU.out.size));clear WJ gY HCM hcell hlk;go_wp2_with fail
         go_roundg (j-(p+1))
         case rel=>exact⟨p+1,rfl,by omega,by go_num,UC.out⟩
         case measure=>omega
        ·have hgd:decide ((k:Int)<(ix:Int))=false:=decide_eq_false (by omega);have hgi:¬(k:Int)<(ix:Int):=by omega
         have mU:=Lib.hid hb;clear hb hny hnp hpi hpl uw hmem ht htp hix hlp;go_wp2_with fail
         go_roundg (j-(p+1))
         case rel=>exact⟨p+1,rfl,by omega,by go_num,mU.out⟩
         case measure=>omega
       ·obtain rfl:p=j:=by omega
        obtain⟨w9,tH⟩:∃w9,w9=wr:=⟨_,rfl⟩;subst tH;obtain⟨b10,Gy⟩:∃b10,b10=w9.heap.size:=⟨_,rfl⟩;obtain⟨W10,Sc⟩:∃W10,W10=w9.alloc (.cells #[.slice ps ns cs,.slice (some ⟨gO,0,none⟩) nO cO] 22):=⟨_,rfl⟩;have hbe:Below w7.heap.size w7 W10:=hb.trans ((jU Sc).mono hb.size)
        have cU:=pY (w:=W10) (u:=.slice (some ⟨b10,0,none⟩) 2 2) (ls:=[sn,O]) (Gv (by rw[Sc,Gy];exact heap_alloc_new _ _) (H7.out.2.2.2.2.2.1.below hbe) (H7.out.2.2.2.2.2.2.below hbe)) (by simp) (by
         have h1:=Ll.out.2.2.2;have h2:=Ee.out.2.1
         simp;omega)
        obtain⟨U,hU⟩:∃U,U=Bd.f_ [sn,O].flatten:=⟨_,rfl⟩;rw[←hU]at cU
        have WM:∀v,v∈U↔∃t∈ds.take (k+1),v∈t.out:=fun v=>by
         rw[hU,Bd.dV,Bd.sw Ll.out.1];simp only[List.flatten_cons,List.flatten_nil,List.append_nil,List.mem_append,List.mem_singleton];rw[Ee.out.2.2 v,Ll.out.2.2.1 v]
         constructor
         ·rintro(⟨t,h1,h2⟩|h)
          ·exact⟨t,.inl h1,h2⟩
          ·exact⟨s,.inr rfl,h⟩
         ·rintro⟨t,h1|rfl,h2⟩
          ·exact .inl ⟨t,h1,h2⟩
          ·exact .inr h2
        have hUl:U.length≤64:=Bd.jd (by rw[hU];exact Bd.fP _) (fun v hv=>by
         obtain⟨t,h1,h2⟩:=(WM v).1 hv
         exact xP.out.2.2.2.2 v (Ec.out.out t (List.mem_of_mem_take h1) v h2))
        have HU:=Lib.hid (And.intro cU (And.intro WM hUl));have IJ:=Lib.hid hbe;clear hb hbe cU WM hUl hU;go_wp2_with fail;rw[←Sc,←Gy];clear Sc Gy;refine(HU.out.1).mono ?_;rintro r w11 ⟨o11,rfl,Z0,Oo⟩;have hbb:Below w7.heap.size w7 w11:=IJ.out.trans (Oo.mono IJ.out.size);have A_:=Lib.hid (And.intro Z0.dM hbb);clear Z0 Oo hbb;go_wp2_with fail
        go_roundg (p-(k+1))
        case rel=>exact⟨k+1,U,rfl,by omega,by go_num,H7.out.1.trans (A_.out.2.mono H7.out.1.size),H7.out.2.1.below A_.out.2,H7.out.2.2.1.below A_.out.2,H7.out.2.2.2.1.below A_.out.2,H7.out.2.2.2.2.1.below A_.out.2,A_.out.1,HU.out.2.2,HU.out.2.1⟩
        case measure=>omega
     ·obtain rfl:k=j:=by omega
      have htk:ds.take k=ds:=List.take_of_length_le (by rw[Ec.out.len];exact Nat.le_refl _);rw[htk]at Lj
      have cSa:=KI (w:=wr) hsn mP (by omega) (by have:=xP.out.2.2.2.1;omega) (b:=true) ⟨fun _ v=>⟨fun h=>by
       obtain⟨t,h1,h2⟩:=(Lj v).1 h
       exact Ec.out.out t h1 v h2,fun h=>(Lj v).2 (Ec.out.all (by omega) v h)⟩,fun _=>rfl⟩
      have HSA:=Lib.hid cSa;have mU:=Lib.hid hb;clear hb hls mP hst hcm hsn hns Wn Lj htk cSa;go_wp2_with fail;refine(HSA.out).mono ?_;rintro r w12 ⟨rfl,Gz⟩;have Lh:=Lib.hid (mU.out.trans (Gz.mono mU.out.size));clear Gz mU;go_wp2_with fail;rw[HF.out];exact⟨rfl,Lh.out⟩
end
end
section
section
variable {B B' n room p j:Nat} {K K':Nat→Nat} {w w' w0:World} {M M':Bd.MS} {l:List (Nat×Bd.BF)} {vs us:List Value} {vl vx v x:Value} {le:List Ex} {ds:List Bd.Stp} {ls:List (List Nat)} {ls':List Nat}
theorem RL.step(h:RL B w0 n room p le K w M l vs vl vx)(t:aj mX K w K' w'):jo B K' w' vl (l.map (·.1))∧Zi B (2^n) K' w' vx vs (l.map (fun q i=>q.2 (Bd.iy i)))∧aj mX (fun _=>0) w0 K' w':=⟨h.ol.aG t,fE.aG h.tb t (fun x g hx=>hx.aG t),h.aG.trans t⟩
theorem pI.mx(h:pI K w v ls')(t:aj mX K w K' w'):pI K' w' v ls':=h.aG t Kn
/-- What Small answers. -/
def SmQ(w:World)(nz:Int)(lo:List Int)(le:List Ex)(lp:List (Int×Int×Int))(r:Ending)(w':World):Prop:=∃b:Bool,r=.returned (.bool b)∧(b=true→uO nz lo le lp)∧Below w.heap.size w w'
/-- A list of lists of numbers,as the client keeps it. -/
def Pg(B:Nat)(K:Nat→Nat)(w:World)(v:Value)(vs:List Value)(ls:List (List Nat)):Prop:=fE 22 pI B K w v vs ls
theorem Pg.Z4(h:Pg B K w v us ls):fD w v ls:=⟨us,h.len,by have:=h.acc.1;exact this,fun i x l hx hl=>(h.at' i x l hx hl).1⟩
/-- A schedule stays. -/
theorem bK.mx(h:bK B' w v ds)(hk:∀q,B'≤q→q<w.heap.size→K q=0)(t:aj mX K w K' w'):bK B' w' v ds:=by
 obtain⟨xs,h1,h2,h3⟩:=h;refine⟨xs,h1,⟨h2.1.kept (fun g m c e hg=>t.block hg (by rw[hk g (h2.2 g m c e) hg];exact Kn)),h2.2⟩,fun i x s hx hs=>?_⟩;obtain⟨h4,⟨g,cap,h5,h6,h7⟩,h8⟩:=h3 i x s hx hs;exact⟨h4,⟨g,cap,h5,h6,h7.kept (t.block h7.lt (by rw[hk g h6 h7.lt];exact Kn))⟩,h8⟩
theorem fQ.mx{v:Value}{l:List Nat}(h:fQ K w v l)(t:aj mX K w K' w'):fQ K' w' v l:=h.aG t Kn
theorem bK.abw{i:Nat}{s:Bd.Stp}(h:bK B' w v ds)(hk:∀q,B'≤q→q<w.heap.size→K q=0)(t:aj mX K w K' w')(hs:ds[i]?=some s):∃g c x,v=.slice (some ⟨g,0,none⟩) ds.length c∧g<w'.heap.size∧w'.cell? ⟨g,i*2,none⟩=some (.int .i64 (s.part:Nat))∧w'.cell? ⟨g,i*2+1,none⟩=some x∧fQ K' w' x s.out∧s.out.length≤128:=by
 obtain⟨g,c,x,e1,e2,e3,e4,-,e6⟩:=(h.mx hk t).get hs;obtain⟨g2,c2,x2,f1,f2,f3,f4,⟨gn,cn,f5,f6,f7⟩,-⟩:=h.get hs;obtain rfl:g=g2:=by rw[e1]at f1;injection f1 with f1;injection f1 with f1;injection f1
 have hx:x=x2:=by
  have h9:=(h.mx hk t).get hs
  have hxe:w'.cell? ⟨g,i*2+1,none⟩=w.cell? ⟨g,i*2+1,none⟩:=by
   obtain⟨xs,-,h2,-⟩:=h;have hg:K g=0:=hk g (h2.2 _ _ _ f1) f2;exact World.cell?_of_block (a:=⟨g,_,none⟩) (t.block f2 (by rw[hg];exact Kn))
  rw[e4,f4]at hxe
  injection hxe
 subst hx;refine⟨g,c,x,e1,e2,e3,e4,?_,e6⟩;exact fQ.mx ⟨gn,cn,f5,hk gn f6 f7.lt,f7⟩ t
theorem Cli.ran{hs:List (Nat×Bd.BF)}(h:Cli n room M hs)(r:fF M M')(hi:Bd.Inv n room M'):Cli n room M' hs:=by
 refine⟨hi,fun q hq=>?_,fun a e ha=>h.all a e (by rw[←r.H];exact ha),h.big,h.nd⟩;obtain⟨e,h1,h2⟩:=h.fn q hq;exact⟨e,by rw[r.H];exact h1,(r.fn _ _ h1).trans h2⟩
/-- What a support tells of a function. -/
def Z5(n:Nat)(f:Bd.BF)(q:List Nat):Prop:=q.length≤n∧(∀v∈q,v<n)∧∀a b:Nat→Bool,(∀v∈q,a v=b v)→f a=f b
/-- The handle in hand: none yet,or one. -/
def Hold(n room:Nat)(M:Bd.MS)(l:List (Nat×Bd.BF))(h:Nat)(φ:Bd.BF)(k:Nat):Prop:=(k=0∧h=1∧φ=(fun _=>true)∧Cli n room M l)∨(k=1∧Cli n room M ((h,φ)::l))
theorem Hold.inv{h k:Nat}{φ:Bd.BF}(c:Hold n room M l h φ k):Bd.Inv n room M:=by
 rcases c with⟨-,-,-,c⟩|⟨-,c⟩<;>exact c.inv
theorem Hold.hn{h k:Nat}{φ:Bd.BF}(c:Hold n room M l h φ k):Hn M h φ:=by
 rcases c with⟨-,rfl,rfl,c⟩|⟨-,c⟩
 ·exact c.wS
 ·exact c.fn (h,φ) (List.mem_cons_self ..)
theorem Hold.fn{h k:Nat}{φ:Bd.BF}{q:Nat×Bd.BF}(c:Hold n room M l h φ k)(hq:q∈l):Hn M q.1 q.2:=by
 rcases c with⟨-,rfl,rfl,c⟩|⟨-,c⟩
 ·exact c.fn q hq
 ·exact c.fn q (List.mem_cons_of_mem _ hq)
theorem Hold.len{h k:Nat}{φ:Bd.BF}(c:Hold n room M l h φ k):M.H.length=l.length+k+2:=by
 rcases c with⟨rfl,-,-,c⟩|⟨rfl,c⟩
 ·rw[c.len]
 ·rw[c.len];rfl
/-- The next handle is had,then the one in hand is dropped. -/
theorem Lm{h h' k:Nat}{φ ψ:Bd.BF}(c:Hold n room M l h φ k)(g:Gets n room M M' ψ)(hn:n≤1000000)(hrm:room≤1048576)(hx:M'.next≤1000000000)(hm:aX K w p n room M'){v:Value}(hv:av w v [h])(mK:j4 K 0 v) :
 Calls Tryz.prog 16 #[.pointer (some ⟨p,0,none⟩),v] w fun r w'=>r=.returned (.int .i64 0)∧∃M2 K',Hold n room M2 l M.next ψ 1∧aX K' w' p n room M2∧aj mX K w K' w'∧M2.next=M'.next:=by
 rcases c with⟨-,rfl,rfl,c⟩|⟨-,c⟩
 ·have c2:=c.get g;obtain⟨t,hm,hg⟩:=hm
  refine(yQ c2.inv hn hrm hx (by simp) (fun a ha=>by
   obtain rfl:a=1:=by simpa using ha
   exact⟨_,c2.inv.h1⟩) (by simp) hm hv mK).mono ?_
  rintro r w' ⟨rfl,K',hm',tt⟩;exact⟨rfl,M',K',.inr ⟨rfl,c2⟩,⟨t,hm',hg⟩,tt.mX,rfl⟩
 ·have c2:=(c.get g).perm (List.Perm.swap _ _ _);refine(eO (l:=[(h,φ)]) (hs:=(M.next,ψ)::l) c2 hn hrm hx (by simp) hm hv mK).mono ?_;rintro r w' ⟨rfl,M2,K',hc,hm',tt,hx',-⟩;exact⟨rfl,M2,K',.inr ⟨rfl,hc⟩,hm',tt,hx'⟩
end
end
section
section
variable {w:World} {lo out:List Int} {le:List Ex} {lp:List (Int×Int×Int)} {Ao Ae Ap Bo:Option Addr} {co ce cp bo:Nat} {nz:Int}
theorem GH(h:Bn w lo le lp Ao Ae Ap co ce cp)(ho:kZ w Bo bo out) :
 Calls Tryz.prog 3 #[nT nz lo le lp Ao Ae Ap co ce cp,.slice Bo out.length bo] w fun r w'=>r=.returned (.bool true)∧Below w.heap.size w w':=by
 obtain⟨F,HF⟩:=aJ (fun(r:Ending)(w':World)=>r=.returned (.bool true)∧Below w.heap.size w w');rw[←HF.out];obtain⟨mo,hmo⟩:∃m,m=lo.length:=⟨_,rfl⟩;obtain⟨m,hme⟩:∃m,m=le.length:=⟨_,rfl⟩;obtain⟨mp,hmp⟩:∃m,m=lp.length:=⟨_,rfl⟩;obtain⟨mu,hmu⟩:∃m,m=out.length:=⟨_,rfl⟩;have hub:mu≤9223372036854775807:=by have h1:=ho.1;have h2:=ho.2.1;unfold maxLen at h2;omega
 obtain⟨W1,hW1⟩:∃W1,W1=w.alloc (.cells #[.int .i64 nz,.slice Ao mo co,.slice Ae m ce,.slice Ap mp cp] 26):=⟨_,rfl⟩;obtain⟨bx,hbx⟩:∃bx,bx=w.heap.size:=⟨_,rfl⟩;have hx1:W1.heap[bx]?=some (.cells #[.int .i64 nz,.slice Ao mo co,.slice Ae m ce,.slice Ap mp cp] 26 (0,0)):=by rw[hW1,hbx];exact heap_alloc_new _ _
 have oV:=aV hx1
 have mW:∀W,Below W1.heap.size W1 W→W.cell? ⟨bx,0,none⟩=some (.int .i64 nz)∧W.cell? ⟨bx,1,none⟩=some (.slice Ao mo co)∧W.cell? ⟨bx,2,none⟩=some (.slice Ae m ce)∧W.cell? ⟨bx,3,none⟩=some (.slice Ap mp cp)∧bx<W.heap.size:=fun W hb=>by
  have q:=(hb.block bx oV).trans hx1;exact⟨au q 0 rfl,au q 1 rfl,au q 2 rfl,au q 3 rfl,aV q⟩
 have dJ:=Lib.hid mW;have DZ:Below w.heap.size w W1:=jU hW1;have HS:Hid (∀W,Below W1.heap.size W1 W→Bn W lo le lp Ao Ae Ap co ce cp):=fun W hb=>(h.below DZ).below hb;have cS:=Gi (n:=nz) (h.below DZ);have e0:nT nz lo le lp Ao Ae Ap co ce cp=.agg #[.int .i64 nz,.slice Ao mo co,.slice Ae m ce,.slice Ap mp cp]:=by unfold nT;rw[←hmo,←hme,←hmp]
 rw[e0]at cS⊢;rw[←hmu];have HO:Hid (∀W,Below W1.heap.size W1 W→kZ W Bo bo out):=fun W hb=>(ho.below DZ).below hb;have Pq:=Lib.hid (show Calls Tryz.prog 5 #[.agg #[.int .i64 nz,.slice Ao mo co,.slice Ae m ce,.slice Ap mp cp]] W1 (SmQ W1 nz lo le lp)from cS);have HM:=Lib.hid (And.intro hme (And.intro hmu e0));have xO:=Lib.hid DZ;have HAW:Hid (∀W,Below w.heap.size w W→Calls Tryz.prog 6 #[] W fun r w'=>r=.returned (.bool true)∧Below w.heap.size w w'):=fun W hb=>(Gt W).mono (fun r w' ⟨h1,h2⟩=>⟨h1,hb.trans (h2.mono hb.size)⟩);obtain⟨z0,z1,z2,z3,zl⟩:=dJ.out W1 (Below.refl _ _);clear h ho hmo hme hmp hmu hx1 oV mW DZ cS e0;go_in
 by_cases Bz:(20:Int)<(mu:Int)
 ·have hd1:decide ((20:Int)<(mu:Int))=true:=decide_eq_true Bz
  go_wp2_with (rw[←hbx,←hW1];clear hbx hW1;refine(Pq.out).mono ?_)
  rintro r w2 ⟨b,rfl,-,hb2⟩;have HB2:=Lib.hid (xO.out.trans (hb2.mono xO.out.size));clear hb2;cases b
  all_goals
   go_wp2_with (refine(HAW.out _ HB2.out).mono ?_)
   rintro r w3 ⟨rfl,h3⟩;have H3:=Lib.hid h3;clear h3;go_wp2_with fail;rw[HF.out];exact⟨rfl,H3.out⟩
 ·have hd1:decide ((20:Int)<(mu:Int))=false:=decide_eq_false Bz
  go_wp2_with (rw[←hbx,←hW1];clear hbx hW1;refine(Pq.out).mono ?_)
  rintro r w2 ⟨b,rfl,hsm,hb2⟩;have HB2:=Lib.hid (And.intro hb2 (xO.out.trans (hb2.mono xO.out.size)));cases b
  ·clear hb2 hsm
   go_wp2_with (refine(HAW.out _ HB2.out.2).mono ?_)
   rintro r w3 ⟨rfl,h3⟩;have H3:=Lib.hid h3;clear h3;go_wp2_with fail;rw[HF.out];exact⟨rfl,H3.out⟩
  ·have hsm:=hsm rfl;obtain⟨n,hnz⟩:∃n:Nat,nz=(n:Int):=⟨nz.toNat,by have:=hsm.n1;omega⟩;subst hnz;obtain⟨z0,z1,z2,z3,zl⟩:=dJ.out w2 hb2;have cU:=Gs (HS.out w2 hb2) hsm;rw[HM.out.2.2]at cU;have xI:=Lib.hid cU;have HSM:=Lib.hid hsm;clear hb2 hsm cU Pq
   go_wp2_with (refine(xI.out).mono ?_)
   rintro r w3 ⟨wb,p,M3,K3,l,vs,vl,vx,rfl,hbb,hst,hws⟩;have mU:=Lib.hid hbb;have hlm:l.length=m:=by have:=congrArg List.length hst.fs;simp only[List.length_map]at this;rw[this,HM.out.1]
   have hvm:vs.length=m:=by have:=hst.tb.len;rw[List.length_map]at this;rw[this,hlm]
   obtain⟨pl,cl,hvl⟩:=hst.ol.acc.shape;obtain⟨px,cx,hvx⟩:=hst.tb.acc.shape;rw[List.length_map,hlm]at hvl;rw[hvm]at hvx;subst hvl hvx;have hb3:=hbb.trans ((lD hst.aG).mono hbb.size);have Li:=HB2.out.1.trans (hb3.mono HB2.out.1.size);clear z0 z1 z2 z3 zl;obtain⟨z0,z1,z2,z3,zl⟩:=dJ.out w3 Li;have h0:0<n:=by have:=HSM.out.n1;omega
   have h6:n≤6:=by have:=HSM.out.n6;omega
   have hp1:2^n≤64:=Nat.pow_le_pow_right (n:=2) (by decide) h6;have hp2:2^(2*n)≤4096:=Nat.pow_le_pow_right (n:=2) (by decide) (show 2*n≤12 by omega);have hp3:1≤2^n:=Nat.one_le_two_pow;have uQ:m≤5:=by rw[HM.out.1];exact HSM.out.el
   obtain⟨room,hroom⟩:∃room,room=nY n:=⟨_,rfl⟩;rw[←hroom]at hst;have hrm:room≤1048576:=by rw[hroom];unfold nY;omega
   have Tw:192*2^n≤room:=by rw[hroom];unfold nY;omega
   have HG:=Lib.hid (And.intro h0 (And.intro h6 (And.intro hrm (And.intro Tw (And.intro hp1 uQ)))));have HL:=Lib.hid (And.intro hlm hvm);have HST:=Lib.hid hst;have acp:=Lib.hid Li;have qg:=Lib.hid (tZ true n (by omega) w3);obtain⟨fs,hfs⟩:∃fs:List Bd.BF,fs=l.map (·.2):=⟨_,rfl⟩;have HFS:=Lib.hid hfs;clear hbb hst hlm hvm hb3 Li h0 h6 hp1 hp2 hp3 hroom hrm Tw hws hfs
   go_wp2_with (refine(qg.out).mono ?_)
   rintro r w4 ⟨va,rfl,hta,hb4⟩;obtain⟨K4,hK4⟩:∃K4,K4=Gp K3 w3.heap.size:=⟨_,rfl⟩;have t34:∀R:Nat→Prop,aj R K3 w3 K4 w4:=fun R=>by rw[hK4];exact aj.WK hb4
   have Z7:LG w3.heap.size K4 w4 va (2^n) (fun i=>(fs.take 0).all (fun f=>f (Bd.iy i))):=by
    obtain⟨b,c,e1,e2,e3⟩:=hta;exact⟨⟨b,c,e1,e2,e3⟩,by rw[e1];exact j4.of (by rw[hK4];exact uR e2)⟩
   have oG:aX K4 w4 p n room M3:=HST.out.mg.aG (R:=fun _=>False) (t34 _) (fun _ h=>h.elim);have H4:=Lib.hid (And.intro Z7 (And.intro oG (And.intro (HST.out.step (t34 _)) trivial)));have HZ4:=Lib.hid hb4.size;clear hta hb4 Z7 oG hK4 t34 z0 z1 z2 z3 zl;go_wp2_with fail
   go_loopg [9,10,11,12,13,14,44,45,46,47,48,49,50,51,52,53,54,55,56,57,58,59,60,61,62,63,64,65,66,67] m (fun q v9 v10 v11 v12 v13 v14 v44 v45 v46 v47 v48 v49 v50 v51 v52 v53 v54 v55 v56 v57 v58 v59 v60 v61 v62 v63 v64 v65 v66 v67 wr=>∃(j cs:Nat)(ps:Option Addr)(M:Bd.MS)(K:Nat→Nat)(us:List Value)(ls:List (List Nat))(vb:Value),q=m-j∧j≤m∧v44=.int .i64 (j:Nat)∧vb=v9∧v10=.slice ps j cs∧Cli n room M l.reverse∧aX K wr p n room M∧M.next=M3.next∧aj mX K4 w4 K wr∧Pg w4.heap.size K wr (.slice ps j cs) us ls∧us.length=j∧LG w3.heap.size K wr vb (2^n) (fun i=>(fs.take j).all (fun f=>f (Bd.iy i)))∧(∀(i:Nat)(f:Bd.BF)(q:List Nat),fs[i]?=some f→ls[i]?=some q→Z5 n f q))
   case atStart=>exact⟨0,0,none,M3,K4,[],[],va,rfl,Nat.zero_le _,rfl,rfl,rfl,HST.out.cli,H4.out.2.1,rfl,aj.refl,fE.nil,rfl,H4.out.1,fun i f q _ h=>by cases h⟩
   case round=>
    obtain⟨j,cs,ps,M,K,us,ls,vb,rfl,hj,rfl,rfl,rfl,hcl,RI,hnx,ht,hls,mG,htb,hso⟩:=hrel;have HR:=Lib.hid (And.intro hcl (And.intro RI (And.intro hnx (And.intro ht (And.intro hls (And.intro mG (And.intro htb hso)))))));clear hcl RI hnx ht hls mG htb hso
    by_cases hlt:j<m
    ·have hji:(j:Int)<(m:Int):=by omega
     have hjd:decide ((j:Int)<(m:Int))=true:=decide_eq_true hji;obtain⟨⟨hj1,fj⟩,hlj⟩:∃q,l[j]?=some q:=⟨_,List.getElem?_eq_getElem (by rw[HL.out.1];exact hlt)⟩;have hol:=H4.out.2.2.1.1.aG HR.out.2.2.2.1;have htl:=fE.aG H4.out.2.2.1.2.1 HR.out.2.2.2.1 (fun x g hx=>hx.aG HR.out.2.2.2.1);obtain⟨gl,al,hpl,hgl,hal,z5⟩:=hol.acc.dM.wN (j:=j) (by rw[List.length_map,HL.out.1]) hlt;obtain rfl:hj1=al:=by rw[List.getElem?_map,hlj]at hal;simpa using hal
     subst hpl;obtain⟨gx,xx,hpx,hgx,-,-⟩:=htl.get (j:=j) (g:=fun i=>fj (Bd.iy i)) (by rw[List.getElem?_map,hlj];rfl);subst hpx;have hfj:fs[j]?=some fj:=by rw[HFS.out,List.getElem?_map,hlj];rfl
     have cS:=Bu HR.out.1.inv HG.out.1 (by have:=HG.out;omega) HG.out.2.2.1 (by have:=HST.out.nx;have:=HL.out;have:=HR.out.2.2.1;have:=HG.out;omega) (by rw[HR.out.1.len,List.length_reverse];exact Nat.le_trans (Nat.mul_le_mul (by have:=HL.out;have:=HG.out;omega) (Nat.sub_le _ _)) HG.out.2.2.2.1) (HR.out.1.fn (hj1,fj) (List.mem_reverse.2 (List.mem_of_getElem? hlj))) HR.out.2.1;have Z8:=Lib.hid cS;have HJ:=Lib.hid (And.intro hlj hfj);clear hol htl hal cS hlj hfj
     go_wp2_with (refine(Z8.out).mono ?_)
     rintro r w5 ⟨M5,K5,o5,lq,rfl,tJ,hi5,uQ,t5,hq5,hl5,Z9,TJ,-⟩;obtain⟨po,Z_,Ls⟩:=hq5.1.shape;subst Ls;have hlq:lq.length≤64:=by have:=HG.out;omega
     obtain⟨ko,gH⟩:=bG (o:=.cells #[.slice po lq.length Z_] 22) uQ rfl;have t57:=t5.trans gH;have Wo:=fE.aG HR.out.2.2.2.2.1 t57 (fun x g hx=>hx.mx t57);have hq7:=hq5.mx gH;have lU:=Lib.hid (show Sl _ 22 1 (.slice ps j cs) j (fC vE us)from by have:=Wo.acc.1;rw[HR.out.2.2.2.2.2.1]at this;exact this);have H5:=Lib.hid (And.intro ko (And.intro (HR.out.2.2.2.1.trans t57) (And.intro Wo (And.intro hq7 (And.intro (HR.out.2.2.2.2.2.2.1.aG t57) (And.intro (HR.out.1.ran tJ hi5) (And.intro (tJ.next.trans HR.out.2.2.1) (show Z5 n fj lq from⟨hl5,Z9,TJ⟩))))))));have HQ7:=Lib.hid (And.intro hq7 trivial);clear tJ hi5 uQ t5 hq5 hl5 Z9 TJ ko gH t57 Wo hq7 Z8 z5 hgl
     have hZ:∀g2 c2 w8,bY (w5.alloc (.cells #[.slice po lq.length Z_] 22)) 22 1 (.slice ps j cs) j 1 (fun q=>if q=j then[.slice po lq.length Z_]else fC vE us q) g2 c2 w8→∃xy,w8.cell? ⟨gx,j,none⟩=some xy∧gx<w8.heap.size∧aX (bJ (bJ K5 w5.heap.size 0) g2 0) w8 p n room M5∧aj mX K4 w4 (bJ (bJ K5 w5.heap.size 0) g2 0) w8∧Pg w4.heap.size (bJ (bJ K5 w5.heap.size 0) g2 0) w8 (.slice (some ⟨g2,0,none⟩) (j+1) c2) (us++[.slice po lq.length Z_]) (ls++[lq])∧Calls Tryz.prog 10 #[vb,xy] w8 fun r w'=>∃u,r=.returned u∧qh w8.heap.size w' u (2^n) (fun i=>(fs.take j).all (fun f=>f (Bd.iy i))&&fj (Bd.iy i))∧Below w8.heap.size w8 w':=fun g2 c2 w8 hq2=>by
      obtain⟨q1,q2,q3,q4⟩:=fE.push (g:=lq) H5.out.2.2.1 HR.out.2.2.2.2.2.1 H5.out.2.1.size HQ7.out.1 hq2 (fun kp x g hx=>⟨hx.1.kp kp (by decide),hx.2.bJ⟩);have t8:=q3 K4 w4 (Nat.le_refl _) H5.out.2.1;have htl:=fE.aG H4.out.2.2.1.2.1 t8 (fun x g hx=>hx.aG t8);obtain⟨gy,xy,hpy,hgy,z6,htx⟩:=htl.get (j:=j) (g:=fun i=>fj (Bd.iy i)) (by rw[List.getElem?_map,HJ.out.1];rfl);obtain rfl:gx=gy:=by injection hpy with hpy;injection hpy
      exact⟨xy,z6,hgy,q2 _ _ _ _ H5.out.1,t8,q1,ze (LG.kp (g2:=g2) H5.out.2.2.2.2.1 q4 (by decide)).tb.tb htx.tb.tb (by have:=HG.out;omega)⟩
     have HZ:=Lib.hid hZ;clear hZ
     go_wp2_with (at_builtin;refine aA _ rfl _ _ _ rfl Ti rfl lU.out rfl (aL (by simp)) rfl (by simp[Value.oneCell']) (by omega) ?_;intro g2 c2 w8 hq2;obtain⟨xy,z6,hgy,rF,t8,hl8,cA⟩:=HZ.out g2 c2 w8 hq2;have Vg:=Lib.hid cA;have H8:=Lib.hid (And.intro rF (And.intro t8 hl8));clear rF t8 hl8 cA hq2)
     refine(Vg.out).mono ?_;rintro r w9 ⟨vc,rfl,htc,tX⟩;have t9:aj mX _ w8 _ w9:=aj.WK (K:=bJ (bJ K5 w5.heap.size 0) g2 0) tX
     have aac:LG w3.heap.size (Gp (bJ (bJ K5 w5.heap.size 0) g2 0) w8.heap.size) w9 vc (2^n) (fun i=>(fs.take (j+1)).all (fun f=>f (Bd.iy i))):=by
      obtain⟨b,c,e1,e2,e3⟩:=htc;refine⟨⟨b,c,e1,Nat.le_trans ?_ e2,?_⟩,by rw[e1];exact j4.of (uR e2)⟩
      ·exact Nat.le_trans HZ4.out H8.out.2.1.size
      ·exact e3.congr (fun i hi k hk=>by
        show([Value.bool ((fs.take (j+1)).all (fun f=>f (Bd.iy i)))]:List Value)[k]?=_
        rw[Bd.MO HJ.out.2])
     have H9:=Lib.hid (And.intro aac (And.intro (H8.out.1.aG (R:=fun _=>False) (aj.WK tX) (fun _ h=>h.elim)) (And.intro (H8.out.2.1.trans t9) (show Pg w4.heap.size _ w9 _ _ _ from fE.aG H8.out.2.2 t9 (fun x g hx=>hx.mx t9)))));clear htc tX t9 aac z6 hgy;go_wp2_with fail
     go_roundg (m-(j+1))
     case rel=>
      refine⟨j+1,c2,_,M5,_,us++[Value.slice po lq.length Z_],ls++[lq],vc,rfl,by omega,by go_num,rfl,rfl,H5.out.2.2.2.2.2.1,H9.out.2.1,H5.out.2.2.2.2.2.2.1,H9.out.2.2.1,H9.out.2.2.2,by rw[List.length_append,HR.out.2.2.2.2.2.1];rfl,H9.out.1,fun i f q hf hq=>?_⟩;have hll:=HR.out.2.2.2.2.1.len;rw[HR.out.2.2.2.2.2.1]at hll
      rcases Nat.lt_or_ge i ls.length with h9|h9
      ·rw[List.getElem?_append_left h9]at hq;exact HR.out.2.2.2.2.2.2.2 i f q hf hq
      ·have hi2:=(List.getElem?_eq_some_iff.1 hq).1;simp only[List.length_append,List.length_cons,List.length_nil]at hi2;obtain rfl:i=ls.length:=by omega
       rw[List.getElem?_append_right (Nat.le_refl _),Nat.sub_self]at hq;simp only[List.getElem?_cons_zero,Option.some.injEq]at hq;rw[←hll,HJ.out.2]at hf
       injection hf with hf
       rw[←hf,←hq];exact H5.out.2.2.2.2.2.2.2
     case measure=>omega
    ·obtain rfl:j=m:=by omega
     have hjd:decide ((j:Int)<(j:Int))=false:=decide_eq_false (by omega);have hbw:=mU.out.trans ((lD (H4.out.2.2.1.2.2.trans HR.out.2.2.2.1)).mono mU.out.size);have Sd:=HB2.out.1.trans (hbw.mono HB2.out.1.size);obtain⟨z0,z1,z2,z3,zl⟩:=dJ.out wr Sd;have cI:=DW (n:=n) (HO.out wr Sd) (by have:=HG.out;omega);rw[←HM.out.2.1]at cI;have Sz:=Lib.hid cI;have hfl:fs.length=j:=by rw[HFS.out,List.length_map,HL.out.1]
     have hsl:ls.length=j:=by have:=HR.out.2.2.2.2.1.len;rw[HR.out.2.2.2.2.2.1]at this;exact this.symm
     have hso:∀q∈ls,q.length≤1000∧∀v∈q,v<64:=fun q hq=>by
      obtain⟨i,hi⟩:=List.mem_iff_getElem?.1 hq;have hil:=(List.getElem?_eq_some_iff.1 hi).1;have h9:=HR.out.2.2.2.2.2.2.2 i _ q (List.getElem?_eq_getElem (by omega)) hi;have:=HG.out;exact⟨by have:=h9.1;omega,fun v hv=>by have:=h9.2.1 v hv;omega⟩
     have HW:=Lib.hid (And.intro Sd (And.intro hfl (And.intro hsl hso)));obtain⟨G0,hG0⟩:∃G0,G0=nW n out:=⟨_,rfl⟩;rw[←hG0]at cI;have hgl:G0.length≤n:=by rw[hG0];exact DV n out
     have hgt:∀v∈G0,v<n:=fun v hv=>by rw[hG0]at hv;exact Ry hv
     have Wp:=Lib.hid (And.intro hgl hgt);have Sz:=Lib.hid cI;clear hbw Sd cI hfl hsl hso hgl hgt hG0
     go_wp2_with (refine(Sz.out).mono ?_)
     rintro r wi ⟨oi,rfl,hoi,hbi⟩;have cP:=Lf (HR.out.2.2.2.2.1.Z4.below hbi) (by rw[HW.out.2.2.1];have:=HG.out;omega) HW.out.2.2.2 hoi.dM (by have:=Wp.out.1;have:=HG.out;omega) (fun v hv=>by have:=Wp.out.2 v hv;have:=HG.out;omega);have Ro:=Lib.hid cP;have HI:=Lib.hid (And.intro hoi hbi);clear cP hoi hbi z0 z1 z2 z3 zl
     go_wp2_with (refine(Ro.out).mono ?_)
     rintro r wp ⟨os,ds,rfl,hst,hbp,hpr⟩;have hpk:=Bd.P9 hpr List.nodup_range (fun v hv=>by have:=(List.mem_filter.1 hv).2;simpa using this);have hrt:=Bd.Xk hpk;have aad:=Bd.Jk (fs:=fs) (by rw[HW.out.2.1,HW.out.2.2.1]) (fun i f q hf hq=>(HR.out.2.2.2.2.2.2.2 i f q hf hq).2.2) hpr;have cR:=Eb ((HR.out.2.2.2.2.1.Z4.below HI.out.2).below hbp) (by rw[HW.out.2.2.1];have:=HG.out;omega) HW.out.2.2.2 (HI.out.1.dM.below hbp) (by have:=Wp.out.1;have:=HG.out;omega) (fun v hv=>by have:=Wp.out.2 v hv;have:=HG.out;omega) hst hrt;obtain⟨pd,cd,hos⟩:=hst.shape;obtain⟨md,hmd⟩:∃md,md=ds.length:=⟨_,rfl⟩;rw[←hmd]at hos;subst hos;have QS:=Lib.hid cR;have HP:=Lib.hid (And.intro hst (And.intro hbp (And.intro hrt (And.intro aad hmd))));clear hpk hrt aad hpr cR hst hbp hmd
     go_wp2_with (refine(QS.out).mono ?_)
     rintro r wq ⟨rfl,hbq⟩;have aae:md=j:=by have:=HP.out.2.2.1.len;rw[←HP.out.2.2.2.2,HW.out.2.2.1]at this;exact this
     have HBQ:=Lib.hid (And.intro hbq ((HI.out.2.trans (HP.out.2.1.mono HI.out.2.size)).trans (hbq.mono (HI.out.2.trans (HP.out.2.1.mono HI.out.2.size)).size)));have cK:Calls Tryz.prog 14 #[.pointer (some ⟨p,0,none⟩),.bool true] wq fun r w'=>r=.returned (.int .i64 ((1:Nat):Int))∧w'=wq:=iX true wq;have OW:=Lib.hid cK;have HMD:=Lib.hid aae;have acr:md≤5:=by have:=HG.out;omega
     clear hbq cK aae
     go_wp2_with (refine(OW.out).mono ?_;rintro r wk ⟨rfl,hwk⟩;rw[hwk];clear hwk)
     obtain⟨Kq,F4⟩:∃Kq,Kq=Gp K wr.heap.size:=⟨_,rfl⟩;have tq:∀R:Nat→Prop,aj R K wr Kq wq:=fun R=>by rw[F4];exact aj.WK HBQ.out.2
     have hz0:∀q,wr.heap.size≤q→Kq q=0:=fun q h=>by rw[F4];exact uR h
     have hz:∀q,wi.heap.size≤q→q<wq.heap.size→Kq q=0:=fun q h _=>hz0 q (Nat.le_trans HI.out.2.size h);have HQ:=Lib.hid (And.intro ((H4.out.2.2.1.1.aG HR.out.2.2.2.1).aG (tq _)) (And.intro (HR.out.2.1.aG (R:=fun _=>False) (tq _) (fun _ h=>h.elim)) (And.intro ((H4.out.2.2.1.2.2.trans HR.out.2.2.2.1).trans (tq _)) (And.intro (HP.out.1.below HBQ.out.1) (And.intro hz (And.intro (show pI Kq wq oi G0 from((HI.out.1.below HP.out.2.1).below HBQ.out.1).YJ hz0) (HR.out.2.2.2.2.2.2.1.aG (tq _))))))));clear tq hz hz0 F4
     go_loopg [16,18,19,20,89,90,91,92,93,94,95,96,97,98,99,100,101,102,103,104,105,106,107,108,109,110,111,112,113,114,115,116,117,118,119,120,121,122,123,124,125,126] md (fun q v16 v18 v19 v20 v89 QK v91 SK v93 SN SQ VA VB QL SS NW Fx J8 J9 J_ v105 sQ v107 Aw v109 Ay Dl Dm Dn Dp Dq Fy v117 Fz FC FD Kc Ke XU v124 XV XW wx=>∃(i h:Nat)(φ:Bd.BF)(M2:Bd.MS)(K2:Nat→Nat),q=md-i∧i≤md∧v89=.int .i64 (i:Nat)∧v16=.int .i64 (h:Nat)∧Hold n room M2 l.reverse h φ (min i 1)∧φ=Bd.Cg (fun i=>fs.getD i (fun _=>true)) (fun _=>true) (ds.take i)∧aX K2 wx p n room M2∧aj mX Kq wq K2 wx∧M2.next≤M3.next+i)
     case atStart=>exact⟨0,1,_,M,Kq,rfl,Nat.zero_le _,rfl,rfl,.inl ⟨rfl,rfl,rfl,HR.out.1⟩,rfl,HQ.out.2.1,aj.refl,by rw[HR.out.2.2.1];exact Nat.le_refl _⟩
     case round=>
      obtain⟨wx,hwx⟩:∃x,x=wr:=⟨_,rfl⟩;subst hwx;obtain⟨i,h,φ,M2,K2,rfl,hi,rfl,rfl,hho,hφ,RI,ht,hnx⟩:=hrel;have HT:=Lib.hid (And.intro hho (And.intro hφ (And.intro RI (And.intro ht hnx))));clear hho hφ RI ht hnx
      by_cases hlt:i<md
      ·have hii:(i:Int)<(md:Int):=by omega
       have hid:decide ((i:Int)<(md:Int))=true:=decide_eq_true hii;obtain⟨s,hs⟩:∃s,ds[i]?=some s:=⟨_,List.getElem?_eq_getElem (by rw[←HP.out.2.2.2.2];exact hlt)⟩;obtain⟨gd,cd2,x,hpd,hgd,y0,y1,hxn,hxl⟩:=HQ.out.2.2.2.1.abw HQ.out.2.2.2.2.1 HT.out.2.2.2.1 hs;have abx:=hxn;obtain⟨gn,cn,rfl,-,-⟩:=abx;obtain rfl:pd=some ⟨gd,0,none⟩:=by injection hpd
       obtain⟨pt,hpt⟩:∃pt,pt=s.part:=⟨_,rfl⟩;obtain⟨no,hno⟩:∃no,no=s.out.length:=⟨_,rfl⟩;rw[←hpt]at y0;rw[←hno]at y1;have Bw:pt<j:=by rw[hpt,←HW.out.2.2.1];exact HP.out.2.2.1.part s (List.mem_of_getElem? hs)
       have hp0:decide ((pt:Int)<0)=false:=decide_eq_false (by omega);have hp1:decide ((j:Int)≤(pt:Int))=false:=decide_eq_false (by omega);have hpi:(pt:Int)<(j:Int):=by omega
       obtain⟨⟨hq,fq⟩,hlq⟩:∃q,l[pt]?=some q:=⟨_,List.getElem?_eq_getElem (by rw[HL.out.1];exact Bw)⟩
       have aby:∃gl,pl=some ⟨gl,0,none⟩:=by
        obtain⟨gl,al,hpl,-⟩:=HQ.out.1.acc.dM.wN (j:=pt) (by rw[List.length_map,HL.out.1]) Bw;exact⟨gl,hpl⟩
       obtain⟨gl,hpl⟩:=aby;subst hpl;obtain⟨W7,xD⟩:∃W7,W7=wx.alloc (.cells #[.int .i64 (pt:Nat),.slice (some ⟨gn,0,none⟩) no cn] 46):=⟨_,rfl⟩;obtain⟨b8,gY⟩:∃b8,b8=wx.heap.size:=⟨_,rfl⟩;obtain⟨ko,gH⟩:=bG HT.out.2.2.1 xD;rw[←gY]at ko gH;have q8:W7.heap[b8]?=some (.cells #[.int .i64 (pt:Nat),.slice (some ⟨gn,0,none⟩) no cn] 46 (0,0)):=by rw[xD,gY];exact heap_alloc_new _ _
       have hS:∀K' W',aj mX (bJ K2 b8 0) W7 K' W'→W'.cell? ⟨b8,0,none⟩=some (.int .i64 (pt:Nat))∧W'.cell? ⟨b8,1,none⟩=some (.slice (some ⟨gn,0,none⟩) no cn)∧W'.cell? ⟨gl,pt,none⟩=some (.int .i64 (hq:Nat)):=fun K' W' t=>by
        have e:=(uP q8 (aW _ _ _) t).1;obtain⟨gl2,al,hpl,-,hal,hc⟩:=(((HQ.out.1.aG HT.out.2.2.2.1).aG gH).aG t).acc.dM.wN (j:=pt) (by rw[List.length_map,HL.out.1]) Bw;obtain rfl:gl=gl2:=by injection hpl with hpl;injection hpl
        obtain rfl:hq=al:=by rw[List.getElem?_map,hlq]at hal;simpa using hal
        exact⟨au e 0 rfl,au e 1 rfl,hc⟩
       have HS2:=Lib.hid hS;obtain⟨w5,jS⟩:∃w5,w5=W7.drew:=⟨_,rfl⟩;have hbd:Below W7.heap.size W7 w5:=by rw[jS];exact(Below.refl _ _).drew
       have htd:aj mX (bJ K2 b8 0) W7 (bJ K2 b8 0) w5:=aj.of_below hbd;have hnk:=(hxn.mx gH).mx htd;rw[←hno]at hnk;have hin:=HT.out.1.inv;have hpw:=HG.out.2.2.2.1;have hH:=HT.out.1.len
       have cE:=nQ hin HG.out.1 (by have:=HG.out;omega) HG.out.2.2.1 (by have:=HMD.out;have:=HT.out.2.2.2.2;have:=HST.out.nx;have:=HL.out;have:=HG.out;omega) (by
        rw[hH,List.length_reverse,HL.out.1];have h1:(j+min i 1+2)*(2^n-1)≤8*2^n:=Nat.mul_le_mul (by have:=HG.out;omega) (Nat.sub_le _ _);have h2:(n+1)*2^n≤7*2^n:=Nat.mul_le_mul_right _ (by have:=HG.out;omega);have h3:=Nat.one_le_two_pow (n:=n);have:=HG.out.2.1
        omega) HT.out.1.hn (HT.out.1.fn (List.mem_reverse.2 (List.mem_of_getElem? hlq))) (fun v hv=>by have h9:=HP.out.2.2.1.out s (List.mem_of_getElem? hs) v hv;exact Wp.out.2 v ((Bd.dV _ _).1 h9)) (by omega) hnk (ko.below hbd)
       have Qv:=Lib.hid cE;have HE:=Lib.hid (And.intro hs (And.intro hlq (And.intro hpt (And.intro (HT.out.2.2.2.1.trans (gH.trans htd)) htd))));clear hs hpd hgd hxn hxl hpt hno hlq ko gH q8 hS hbd htd hnk hin hpw hH cE;go_wp2_with fail;rw[←gY,←xD];clear gY xD;refine wp_region_held_drew (S:=fun W=>W.cell? ⟨b8,0,none⟩=some (.int .i64 (pt:Nat))∧W.cell? ⟨b8,1,none⟩=some (.slice (some ⟨gn,0,none⟩) no cn)∧W.cell? ⟨gl,pt,none⟩=some (.int .i64 (hq:Nat))) (by kernel_rfl) (HS2.out _ _ (by rw[←jS];exact HE.out.2.2.2.2)) (fun hHeld=>?_)
       repeat
        (first|refine aD 0 (v:=?_) rfl ?hy ?_|refine aD 1 (v:=?_) rfl ?hy ?_|refine aD 2 (v:=?_) rfl ?hy ?_|refine aD 3 (v:=?_) rfl ?hy ?_|refine aD 4 (v:=?_) rfl ?hy ?_|refine aD 5 (v:=?_) rfl ?hy ?_|refine aD 6 (v:=?_) rfl ?hy ?_|refine aD 7 (v:=?_) rfl ?hy ?_|refine aD 8 (v:=?_) rfl ?hy ?_
         case hy=>
          intro w0 hS;obtain⟨c0,c1,c2⟩:=hS;go_simp
          (first|done|with_reducible rfl)
         try simp only[Act.put,aZ,bq,bA])
       rw[←jS];clear jS;refine wpAnyH_ready (rs:=[9]) (by decide +kernel) (by simp) (AllReadyH.cons (dA rfl) (fun KC aO=>?_) AllReadyH.nil);refine bW 15 ?_;go_simp;clear hHeld;refine(Qv.out).mono ?_;rintro r w6 ⟨rfl,M6,K6,hg6,zD,ow⟩;have H6:=Lib.hid (And.intro hg6 (And.intro zD (And.intro (HE.out.2.2.2.1.trans ow) (HE.out.2.2.2.2.trans ow))));clear hg6 zD ow;refine aO.out _ _ (HS2.out _ _ H6.out.2.2.2) (fun hHeld=>?_);clear aO KC;try simp only[Act.put,aZ,bq,bA]
       repeat
        (first|refine aD 10 (v:=?_) rfl ?hy ?_|refine aD 11 (v:=?_) rfl ?hy ?_|refine aD 12 (v:=?_) rfl ?hy ?_|refine aD 13 (v:=?_) rfl ?hy ?_|refine aD 14 (v:=?_) rfl ?hy ?_
         case hy=>
          intro w0 hS;obtain⟨c0,c1,c2⟩:=hS;go_simp
          (first|done|with_reducible rfl)
         try simp only[Act.put,aZ,bq,bA])
       refine wpAnyH_done (by decide +kernel) ?_ _;clear hHeld;obtain⟨rF,zy⟩:=bG (o:=.cells #[.int .i64 (h:Nat)] 3) H6.out.2.1 rfl;have cD:=Lm (h':=0) HT.out.1 H6.out.1 (by have:=HG.out;omega) HG.out.2.2.1 (by rw[H6.out.1.next];have:=HMD.out;have:=HT.out.2.2.2.2;have:=HST.out.nx;have:=HL.out;have:=HG.out;omega) rF (oN (heap_alloc_new _ _)) (j4.of (aW _ _ _));have HCD:=Lib.hid cD;have H8:=Lib.hid (H6.out.2.2.1.trans zy);clear cD rF zy
       go_wp2_with (refine(HCD.out).mono ?_)
       rintro r w9 ⟨rfl,M9,K9,hh9,rG,tF,wZ⟩;have H9:=Lib.hid (And.intro hh9 (And.intro rG (And.intro (H8.out.trans tF) (wZ.trans H6.out.1.next))));clear hh9 rG tF wZ;go_wp2_with fail
       go_roundg (md-(i+1))
       case rel=>
        refine⟨i+1,M2.next,_,M9,K9,rfl,by omega,by go_num,rfl,by rw[show min (i+1) 1=1 from by omega];exact H9.out.1,?_,H9.out.2.1,H9.out.2.2.1,by have:=H9.out.2.2.2;have:=HT.out.2.2.2.2;omega⟩;rw[Bd.sw HE.out.1,Bd.yw,←HT.out.2.1]
        have e:fs.getD s.part (fun _=>true)=fq:=by
         rw[HFS.out,List.getD_eq_getElem?_getD,List.getElem?_map,←HE.out.2.2.1,HE.out.2.1];rfl
        rw[e]
       case measure=>omega
      ·obtain rfl:i=md:=by omega
       have hid:decide ((i:Int)<(i:Int))=false:=decide_eq_false (by omega)
       have hφ:φ=Bd.eP G0 (fun a=>fs.all (fun f=>f a)):=by
        rw[HT.out.2.1,List.take_of_length_le (by rw[←HP.out.2.2.2.2];exact Nat.le_refl _)];exact HP.out.2.2.2.1
       have htb:Tb wx vb (2^n) (fun k=>(fun a:Nat→Bool=>fs.all (fun f=>f a)) (Bd.iy k)):=by
        have h9:=(HQ.out.2.2.2.2.2.2.aG HT.out.2.2.2.1).tb.tb;rw[List.take_of_length_le (by rw[HW.out.2.1];exact Nat.le_refl _)]at h9;exact h9
       have hoi:=HQ.out.2.2.2.2.2.1.mx HT.out.2.2.2.1;have cG:=K_ (φ:=fun a=>fs.all (fun f=>f a)) htb (by have:=HG.out;omega) hoi.1 Wp.out.2 (by have:=Wp.out.1;have:=HG.out;omega)
       have hha:Bd.pK n φ:=by
        rw[hφ];refine Bd.yA _ _ (Bd.Jl (fun f hf=>?_));rw[HFS.out,HST.out.fs]at hf;obtain⟨e,he,rfl⟩:=List.mem_map.1 hf;have h9:=HSM.out.ex e he;rw[Int.toNat_natCast]at h9;exact Bd.Ex.hangs e.size e (Nat.le_refl _) h9.2.1 h9.2.2
       have HCG:=Lib.hid cG;have SE:=Lib.hid (And.intro hφ hha);have hbw:=mU.out.trans ((lD (HQ.out.2.2.1.trans HT.out.2.2.2.1)).mono mU.out.size);have Dz:=Lib.hid (HB2.out.2.trans (hbw.mono HB2.out.2.size));have xB:M2.next≤1000000000:=by have:=HMD.out;have:=HT.out.2.2.2.2;have:=HST.out.nx;have:=HL.out;have:=HG.out;omega
       have qQ:=Lib.hid xB;clear hφ htb hoi cG hha hbw xB;go_wp2_with fail;refine(HCG.out).mono ?_;rintro r wg ⟨og,rfl,hog,hbg⟩;have cIs:=RA HT.out.1.inv (by have:=HG.out;omega) HG.out.2.2.1 qQ.out HT.out.1.hn (HT.out.2.2.1.below hbg) hog (fun k hk=>by rw[SE.out.1]) SE.out.2;have abz:=Lib.hid cIs;have HBG:=Lib.hid hbg;clear hog hbg cIs;go_wp2_with fail;refine(abz.out).mono ?_;rintro r wh ⟨rfl,hbh⟩;have Wq:=HBG.out.trans (hbh.mono HBG.out.size);have hHl:=HT.out.1.len;rw[List.length_reverse,HL.out.1]at hHl;have cL:=La (HT.out.2.2.1.below Wq) (k:=j+min i 1) (by have:=HG.out;omega) (by have:=HG.out;omega);rw[hHl,decide_eq_true (rfl)]at cL;rw[show((j+min i 1:Nat):Int)=(j:Int)+min (i:Int) 1 from by omega]at cL;have lH:=Lib.hid cL;have HBH:=Lib.hid (Dz.out.trans (Wq.mono Dz.out.size));have hj5:=HG.out.2.2.2.2.2;clear Wq hbh hHl cL;go_wp2_with fail;refine(lH.out).mono ?_;rintro r w12 ⟨rfl,hw⟩;rw[hw];clear hw;go_wp2_with fail;refine(HAW.out _ HBH.out).mono ?_;rintro r WO ⟨rfl,h13⟩;have WR:=Lib.hid h13;clear h13;go_wp2_with fail;rw[HF.out];exact⟨rfl,WR.out⟩
end
end
end Go.Proofs.YtpijlhlpejlhhaaGreat
