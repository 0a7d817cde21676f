/- Walks and plain words: StV StZ. -/
import Derived.Test.YtpijlhlpejlhhaaGreatVStX
namespace Go.Proofs.YtpijlhlpejlhhaaGreat
open Go.RowKit
set_option linter.unusedVariables false
set_option maxRecDepth 100000
set_option maxHeartbeats 8000000
section
section
variable {sb n room:Nat} {S:Bd.St} {ah:Nat→Nat} {ord:List Nat} {ext:Nat→Int} {D:Nat→Bd.BF} {x y k:Nat}
theorem J7(hg:Bd.GI n ah S.nd D)(hs:Bd.SI n room (fun _=>false) ext S)(hrm:room≤1048576)(hnn:n≤1000000)(hx:x<n)(hy:y<n)(hxy:x≠y)(hk:k+1<n)(hox:ord[k]?=some x)(hoy:ord[k+1]?=some y)(hlx:ah x=k)(SA:ah y=k+1)(hol:ord.length=n)
 (K:Nat→Nat) (w:World) (h:dG K w sb n room S ah ord) (hxb:∀i,ext i≤1000000000) :
 Calls Tryz.prog 148 #[.pointer (some ⟨sb,0,none⟩),.int .i64 (k:Nat)] w fun r w'=>
  if S.fits room x y then r=.returned (.int .i64 0)∧∃K',dG K' w' sb n room (S.swap n room x y) (Bd.gJ ah x y) (Bd.swo ord k x y)∧aj sR K w K' w'
  else r=.returned (.int .i64 7)∧∃K',dG K' w' sb n room (S.swap n room x y) ah ord∧aj sR K w K' w':=by
 obtain⟨F,HF⟩:=aJ (fun(r:Ending)(w':World)=>if S.fits room x y then r=.returned (.int .i64 0)∧∃K',dG K' w' sb n room (S.swap n room x y) (Bd.gJ ah x y) (Bd.swo ord k x y)∧aj sR K w K' w' else r=.returned (.int .i64 7)∧∃K',dG K' w' sb n room (S.swap n room x y) ah ord∧aj sR K w K' w');have he:∀i d,S.nd i=some d→d.v<n∧d.lo<4611686018427387904∧d.hi<4611686018427387904:=eF hg hs hrm;have cC:=jA hs hrm he hnn K w h;rw[←HF.out];obtain⟨L,h⟩:=h;have y0:w.cell? ⟨sb,0,none⟩=some (.pointer (some ⟨L.lb,0,none⟩)):=au h.row 0 rfl;have y1:w.cell? ⟨L.lb,0,none⟩=some (.slice (some ⟨L.gv,0,none⟩) n L.cvv):=au h.iE 0 rfl;have hki:(k:Int)<(n:Int)-1:=by omega
 have HXB:=Lib.hid hxb;clear hxb;have HG:=Lib.hid hg;have HS:=Lib.hid hs;have HE:=Lib.hid he;have HH:=Lib.hid h;clear h hg hs he;go_in
 go_wp2_with (go_at_call 163;refine cC.mono ?_;rintro r w1 ⟨⟨kc,rfl⟩,K1,h1,t1⟩;have H1:=Lib.hid h1;have T1:=Lib.hid t1;clear h1 t1 cC)
 obtain⟨L1,h1⟩:=H1.out;obtain⟨KA,Uz⟩:∃KA:Nat→Nat,KA=fun q=>if q<w1.heap.size then K1 q else 0:=⟨_,rfl⟩;have tA:∀R:Nat→Prop,aj R K1 w1 KA w1:=fun R=>⟨Only.refl,fun q hq=>by rw[Uz];exact if_pos hq⟩;have kA:∀q,w1.heap.size≤q→KA q=0:=fun q hq=>by rw[Uz];exact if_neg (by omega)
 have h1:=h1.aG (tA (fun _=>False)) (fun r h=>h.elim);have TA:=Lib.hid (T1.out.trans (tA sR));have HKA:=Lib.hid kA;clear tA kA Uz;have v0:w1.cell? ⟨sb,0,none⟩=some (.pointer (some ⟨L1.lb,0,none⟩)):=au h1.row 0 rfl;have v1:w1.cell? ⟨L1.lb,0,none⟩=some (.slice (some ⟨L1.gv,0,none⟩) n L1.cvv):=au h1.iE 0 rfl;have v2:=h1.vars.cell (i:=k) (j:=0) (by omega) (by omega);have v3:=h1.vars.cell (i:=k+1) (j:=0) hk (by omega);have ex:ord.getD k 0=x:=by simp[List.getD,hox]
 have ey:ord.getD (k+1) 0=y:=by simp[List.getD,hoy]
 rw[ex]at v2;rw[ey]at v3;simp only[Nat.mul_one,Nat.add_zero,List.getElem?_cons_zero]at v2 v3;have hk1:(k:Int)+1<(n:Int):=by omega
 have hk0:(k:Int)<(n:Int):=by omega
 have hsg:=Bd.BU HS.out;have CK:=Lib.hid hsg;have Pv:=Lib.hid (Bd.BZ HG.out HS.out);have JH:=(show dG KA w1 sb n room S.gc ah ord from⟨L1,h1⟩);have Ii:=Lib.hid h1;have he1:∀i d,S.gc.nd i=some d→d.v<n∧d.lo<4611686018427387904∧d.hi<4611686018427387904:=eF Pv.out hsg hrm;have hcf:∀e y,e<4611686018427387904→Bd.aB S.gc.nd e y<4611686018427387904∧Bd.aI S.gc.nd e y<4611686018427387904:=yN Pv.out hsg hrm;have hml:S.gc.many≤room:=Bd.G5 hsg;have cT:=JW hsg hrm he1 hnn (fun v hv=>Fq hsg hrm hv) KA w1.drew ⟨L1,Ii.out.below (Below.refl _ _).drew⟩ x y hx hy;have cW:=fun w3 v hb hsl=>Fp hsg hrm he1 hnn hcf KA w3 ⟨L1,Ii.out.below hb⟩ x y hx (v:=v) hsl;have HCW:=Lib.hid cW;have LB:=Lib.hid hml;have HFT:=Lib.hid (show S.fits room x y↔(S.gc.wants x y).length≤room-S.gc.many from Iff.rfl);clear h1 hsg JH cW
 go_region
 go_wp2_with (go_at_call 164;refine cT.mono ?_;rintro r w3 ⟨hb3,v,rfl,hsl,hnew⟩;have HB3:=Lib.hid hb3;have HSL:=Lib.hid hsl;have NM:=Lib.hid hnew;clear hb3 hsl hnew cT)
 have cW:=HCW.out w3 v ((Below.refl w1.heap.size w1).drew.trans HB3.out) HSL.out;have hfit:S.fits room x y↔(S.gc.wants x y).length≤room-S.gc.many:=HFT.out;refine cW.mono ?_;rintro r w4 ⟨rfl,hb4⟩;have hB4:Below w1.heap.size w1 w4:=((Below.refl w1.heap.size w1).drew.trans HB3.out).trans (hb4.mono HB3.out.size);have cR:=JE (Ii.out.below hB4);have cL:=Nk (Ii.out.below hB4);have mM:=Lib.hid hB4;have QJ:=Lib.hid hb4;clear hb4 hB4 cW
 by_cases hf:S.fits room x y
 ·have hle:=hfit.1 hf;have hml:=LB.out;have hci:((S.gc.wants x y).length:Int)≤(room:Int)-(S.gc.many:Int):=by omega
  clear hfit hle;have cV:=ES (Ii.out.below mM.out).toStJ k x y hk hnn hox hoy hx hy hxy hlx SA hol;have y0':w4.cell? ⟨sb,0,none⟩=some (.pointer (some ⟨L1.lb,0,none⟩)):=au (Ii.out.below mM.out).row 0 rfl;obtain⟨N,hN⟩:∃N,N=(S.gc.turned x y).length:=⟨_,rfl⟩;have hsl:=HSL.out;rw[←hN]at hsl
  obtain⟨pp,cc,hvv,hrw⟩:∃(pp:Option Addr)(cc:Nat),v=.slice pp N cc∧(0<N→∃g,pp=some ⟨g,0,none⟩∧Rw w3 233 9 N cc g (fun j=>iA S.gc y ((S.gc.turned x y).getD j 0))):=by
   rcases hsl with⟨f1,f2⟩|⟨g,c,f1,f2⟩
   ·exact⟨none,0,by rw[f1,f2],fun h=>by omega⟩
   ·exact⟨_,c,f1,fun _=>⟨g,rfl,f2⟩⟩
  subst hvv;have HRW:=Lib.hid hrw;have Ej:=Lib.hid hN
  have hNb:N≤1048577:=by
   have h1:(S.gc.turned x y).length≤S.gc.N:=by unfold Bd.St.turned;exact Nat.le_trans (List.length_filter_le _ _) (by simp)
   have:=CK.out.Nr;omega
  clear hsl hrw hN
  go_wp2_with (first|(go_at_call 166;refine cR.mono ?_;rintro r w' ⟨rfl,hw'⟩;rw[hw'];clear hw')|(go_at_call 167;refine cL.mono ?_;rintro r w' ⟨rfl,hw'⟩;rw[hw'];clear hw')|(go_at_call 168;refine cV.mono ?_;rintro r w5 ⟨rfl,h5,t5⟩;have H5:=Lib.hid h5;have T5:=Lib.hid t5;clear h5 t5 cV))
  go_loopg [9,77,78,79,80,81,82,83,84,85,86,87,88,89,90,91,92,93,94,95] N (fun q v9 v77 v78 v79 v80 v81 v82 v83 v84 v85 v86 v87 NV v89 QK v91 SK v93 SN SQ wr=>∃j:Nat,q=N-j∧j≤N∧v77=.int .i64 (j:Nat)∧∃K',StJ K' wr sb L1 n room S.gc (yL S.gc ((S.gc.turned x y).take j)) S.gc.cn S.gc.dead (Bd.gJ ah x y) (Bd.swo ord k x y)∧aj sR KA w5 K' wr)
  case atStart=>exact⟨0,rfl,Nat.zero_le _,rfl,KA,by rw[List.take_zero,Im];exact H5.out,aj.refl⟩
  case round=>
   obtain⟨j,rfl,hj,rfl,K',hj0,ht⟩:=hrel;have HJ:=Lib.hid hj0;have HT:=Lib.hid ht;clear hj0 ht
   by_cases hlt:j<N
   ·obtain⟨g,hpp,hrw⟩:=HRW.out (by omega);subst hpp;have hgw:w1.heap.size≤g:=NM.out g _ _ rfl;have hg3:=hrw.lt;have hg4:g<w4.heap.size:=Nat.lt_of_lt_of_le hg3 QJ.out.size
    have hgr:wr.heap[g]?=w3.heap[g]?:=by
     have e1:=HT.out.block (q:=g) (Nat.lt_of_lt_of_le hg4 T5.out.size) (by rw[T5.out.ext g hg4,HKA.out g hgw];unfold sR;omega);have e2:=T5.out.block (q:=g) hg4 (by rw[HKA.out g hgw];unfold sR;omega);exact e1.trans (e2.trans (QJ.out.block g hg3))
    have hr2:=hrw.kept hgr;obtain⟨z,hz⟩:∃z,z=(S.gc.turned x y).getD j 0:=⟨_,rfl⟩
    have hzj:(S.gc.turned x y)[j]?=some z:=by
     have:j<(S.gc.turned x y).length:=by rw[←Ej.out];exact hlt
     rw[hz];simp[List.getD,this]
    have htp:=(vZ CK.out z).1 (List.mem_of_getElem? hzj)
    obtain⟨d,hd,hdx⟩:∃d,S.gc.nd z=some d∧d.v=x:=by
     unfold Bd.tp at htp
     cases hd:S.gc.nd z with
     |none=>rw[hd]at htp;cases htp
     |some d=>rw[hd]at htp;simp at htp;exact⟨d,rfl,htp.1⟩
    obtain⟨ev,Lu,Lv⟩:=eF Pv.out CK.out hrm z d hd
    have Lx:iA S.gc y z=[.int .i64 (z:Nat),.int .i64 (d.v:Nat),.int .i64 (d.lo:Nat),.int .i64 (d.hi:Nat),.int .i64 (S.gc.refs z:Nat),.int .i64 (Bd.aB S.gc.nd d.lo y:Nat),.int .i64 (Bd.aI S.gc.nd d.lo y:Nat),.int .i64 (Bd.aB S.gc.nd d.hi y:Nat),.int .i64 (Bd.aI S.gc.nd d.hi y:Nat)]:=by
     unfold iA bC;rw[hd]
     rfl
    have z0:=hr2.cell (i:=j) (j:=0) hlt (by omega);have z1:=hr2.cell (i:=j) (j:=1) hlt (by omega);have z2:=hr2.cell (i:=j) (j:=2) hlt (by omega);have z3:=hr2.cell (i:=j) (j:=3) hlt (by omega);have z4:=hr2.cell (i:=j) (j:=4) hlt (by omega);have z5:=hr2.cell (i:=j) (j:=5) hlt (by omega);have z6:=hr2.cell (i:=j) (j:=6) hlt (by omega);have z7:=hr2.cell (i:=j) (j:=7) hlt (by omega);have z8:=hr2.cell (i:=j) (j:=8) hlt (by omega);rw[←hz,Lx]at z0 z1 z2 z3 z4 z5 z6 z7 z8;simp only[List.getElem?_cons_zero,List.getElem?_cons_succ,Nat.add_zero]at z0 z1 z2 z3 z4 z5 z6 z7 z8;have hji:(j:Int)<(N:Int):=by omega
    have HD:=Lib.hid (And.intro hzj (And.intro hd (And.intro hdx (And.intro ev (And.intro Lu Lv)))));clear hr2 hrw hgr htp hz hd hzj Lx
    have hzn:z∉(S.gc.turned x y).take j:=by
     have hnd:(S.gc.turned x y).Nodup:=(List.nodup_range).filter _;rw[←List.take_append_drop j (S.gc.turned x y),List.nodup_append]at hnd;intro hm;refine hnd.2.2 z hm z (List.mem_of_getElem? (i:=0) ?_) rfl;rw[List.getElem?_drop];exact HD.out.1
    have hsucc:(S.gc.turned x y).take (j+1)=(S.gc.turned x y).take j++[z]:=by rw[List.take_add_one,HD.out.1];rfl
    have hf2:yL S.gc ((S.gc.turned x y).take j) d.v d.lo d.hi=some z:=by
     unfold yL;rw[(CK.out.tb d.v d.lo d.hi z ev).2 ⟨HD.out.2.1,rfl⟩];exact if_neg hzn
    obtain⟨bx,BX⟩:∃o:Obj,o=.cells #[.int .i64 (z:Nat),.int .i64 (d.v:Nat),.int .i64 (d.lo:Nat),.int .i64 (d.hi:Nat),.int .i64 (S.gc.refs z:Nat),.int .i64 (Bd.aB S.gc.nd d.lo y:Nat),.int .i64 (Bd.aI S.gc.nd d.lo y:Nat),.int .i64 (Bd.aB S.gc.nd d.hi y:Nat),.int .i64 (Bd.aI S.gc.nd d.hi y:Nat)] 233:=⟨_,rfl⟩;obtain⟨KB,Wy⟩:∃KB,KB=bJ K' wr.heap.size 0:=⟨_,rfl⟩
    have tB:∀R:Nat→Prop,aj R K' wr KB (wr.alloc bx).drew:=fun R=>by
     rw[Wy];exact((aj.refl.alloc bx).drewN 1).new (Nat.le_refl _)
    have NI:=HJ.out.aG (tB (fun _=>False)) (fun r h=>h.elim);have p2:(wr.alloc bx).drew.cell? ⟨sb,2,none⟩=some (.slice (some ⟨L1.kE,0,none⟩) n L1.qM):=au NI.row 2 rfl;have p3:=NI.tabs.cell (i:=x) (j:=0) hx (by omega);simp only[Nat.mul_one,Nat.add_zero,List.getElem?_cons_zero]at p3;have cK:=CF (NI.tab d.v ev) d.lo d.hi z Lu Lv hf2;rw[hdx]at cK;have hxn:(x:Int)<(n:Int):=by omega
    have UA:=Lib.hid (And.intro NI tB);have HSU:=Lib.hid hsucc;clear NI tB hsucc hzn hf2 Wy hdx;subst BX
    go_wp2
    refine aM 13 (by kernel_rfl) (by kernel_rfl) ?_;simp only[List.take_succ_cons,List.take_zero,List.drop_succ_cons,List.drop_zero]
    repeat still_step
    refine wpStill_nil ?_
    go_wp2_with (go_at_call 169;refine cK.mono ?_;rintro r w7 ⟨rfl,h7,t7⟩;have H7:=Lib.hid h7;have T7:=Lib.hid t7;clear h7 t7 cK)
    go_roundg (N-(j+1))
    case rel=>
     have XK:=(UA.out.1.Qs hx H7.out T7.out).Io (NG:=yL S.gc ((S.gc.turned x y).take j++[z])) (fun u hu=>by
      have:=Dc (S:=S.gc) (ds:=(S.gc.turned x y).take j) (n:=n) (i:=z) (d:=d) (fun v lo hi i hv=>by rw[CK.out.tb v lo hi i hv];simp) HD.out.2.1 HD.out.2.2.2.1 u hu;rw[HD.out.2.2.1]at this
      rw[←this])
     rw[←HSU.out]at XK;exact⟨j+1,rfl,by omega,by simp,KB,XK,(HT.out.trans (UA.out.2 sR)).trans (T7.out.mono (R':=sR) (fun r hr=>by unfold sR;omega))⟩
    case measure=>omega
   ·obtain rfl:j=N:=by omega
    have htk:(S.gc.turned x y).take j=S.gc.turned x y:=List.take_of_length_le (by rw[←Ej.out];exact Nat.le_refl _);have hJ:=HJ.out;rw[htk,NP CK.out]at hJ;have hI0:=QI hJ (Ii.out.Jr);have HI0:=Lib.hid (show dG K' wr sb n room (S.gc.cuts (Bd.tp S.gc.nd x y)) (Bd.gJ ah x y) (Bd.swo ord k x y)from⟨L1,hI0⟩);clear hJ hI0 htk;have HL0:=Lib.hid (Bd.Pk.start (ext:=ext) Pv.out CK.out hx hy (by rw[hlx,SA]) (Bd.uF HS.out))
    go_wp2
    go_loopg [11,12,13,14,98,99,100,101,102,103,104,105,106,107,108,109,110,111,112,113,114,115,116,117,118,119,120,121,122,123,124,125,126,127,128,129,130,131,132,133,134,135,136,137,138,139,140,141,142,143,144,145,146,147,148,149,150,151,152,153,154,155,156,157,158,159,160,161] j (fun q v11 v12 v13 v14 QL SS NW Fx J8 J9 J_ v105 sQ v107 Aw v109 Ay Dl Dm Dn Dp Dq Fy v117 Fz FC FD Kc Ke XU v124 XV XW v127 aaB aaC v130 v131 aaD aaE aaF aaG aaH aaI v138 v139 aaJ v141 aaK v143 aaL v145 v146 aaM v148 XY X_ Ya v152 Yb v154 Yd Ye v157 aaN v159 v160 aaO wr=>∃i:Nat,q=j-i∧i≤j∧QL=.int .i64 (i:Nat)∧∃K2 S2,S2=((S.gc.turned x y).take i).foldl (Bd.St.jg S.gc.nd n x y) (S.gc.cuts (Bd.tp S.gc.nd x y))∧Bd.Pk n room ah x y S.gc D ext (S.gc.wants x y) S.gc.many ((S.gc.turned x y).drop i) S2∧dG K2 wr sb n room S2 (Bd.gJ ah x y) (Bd.swo ord k x y)∧aj sR KA w5 K2 wr)
    case atStart=>exact⟨0,rfl,Nat.zero_le _,rfl,K',_,rfl,HL0.out,HI0.out,HT.out⟩
    case round=>
     clear HJ HT HI0 HL0;obtain⟨i,rfl,hi,rfl,K2,S2,hS2,hL2,hI2,ht2⟩:=hrel;have HS2:=Lib.hid hS2;have HL2:=Lib.hid hL2;have HI2:=Lib.hid hI2;have HT2:=Lib.hid ht2;clear hS2 hL2 hI2 ht2
     by_cases hlt:i<j
     ·obtain⟨g,hpp,hrw⟩:=HRW.out (by omega);subst hpp;have hgw:w1.heap.size≤g:=NM.out g _ _ rfl;have hg3:=hrw.lt;have hg4:g<w4.heap.size:=Nat.lt_of_lt_of_le hg3 QJ.out.size
      have hgr:wr.heap[g]?=w3.heap[g]?:=by
       have e1:=HT2.out.block (q:=g) (Nat.lt_of_lt_of_le hg4 T5.out.size) (by rw[T5.out.ext g hg4,HKA.out g hgw];unfold sR;omega);have e2:=T5.out.block (q:=g) hg4 (by rw[HKA.out g hgw];unfold sR;omega);exact e1.trans (e2.trans (QJ.out.block g hg3))
      have hr2:=hrw.kept hgr;obtain⟨z,hz⟩:∃z,z=(S.gc.turned x y).getD i 0:=⟨_,rfl⟩;have hiL:i<(S.gc.turned x y).length:=by rw[←Ej.out];exact hlt
      have hzj:(S.gc.turned x y)[i]?=some z:=by
       rw[hz];simp[List.getD,hiL]
      have hnd:(S.gc.turned x y).Nodup:=(List.nodup_range).filter _
      have hdrop:(S.gc.turned x y).drop i=z::(S.gc.turned x y).drop (i+1):=by
       rw[List.drop_eq_getElem_cons hiL]
       congr 1
       rw[List.getElem?_eq_getElem hiL]at hzj;exact Option.some.inj hzj
      have hsucc:(S.gc.turned x y).take (i+1)=(S.gc.turned x y).take i++[z]:=by rw[List.take_add_one,hzj];rfl
      have hL3:=HL2.out;rw[hdrop]at hL3;obtain⟨d,pend,hd,hsi,HR⟩:=Bd.Pk.round Pv.out hx hy (by rw[hlx,SA]) (Bd.Pk.Cj) (by show S.gc.many+_≤room;have:=LB.out;have:=(HFT.out.1 hf);omega) z _ (by rw[←hdrop];exact(List.drop_sublist i _).nodup hnd) hL3;obtain⟨r1,hr1⟩:∃r1,r1=S2.mk' x (Bd.aB S.gc.nd d.lo y) (Bd.aB S.gc.nd d.hi y):=⟨_,rfl⟩;obtain⟨r2,UE⟩:∃r2,r2=r1.1.mk' x (Bd.aI S.gc.nd d.lo y) (Bd.aI S.gc.nd d.hi y):=⟨_,rfl⟩;obtain⟨f1,f2,hLn,HR2⟩:=HR r1 hr1 r2 UE;obtain⟨c1,hc1⟩:∃c1,c1=Bd.bD r2.1.nd n r2.1.cnt r2.1.dead r1.2:=⟨_,rfl⟩;obtain⟨c2,hc2⟩:∃c2,c2=Bd.bD r2.1.nd n c1.1 c1.2 r2.2:=⟨_,rfl⟩;obtain⟨nd',hnd'⟩:∃nd',nd'=Bd.set1 r2.1.nd z (some ⟨y,r1.2,r2.2⟩):=⟨_,rfl⟩;obtain⟨c3,hc3⟩:∃c3,c3=Bd.bU nd' n c2.1 c2.2 d.lo:=⟨_,rfl⟩;obtain⟨c4,hc4⟩:∃c4,c4=Bd.bU nd' n c3.1 c3.2 d.hi:=⟨_,rfl⟩;obtain⟨BI,WB⟩:=HR2 c1 hc1 c2 hc2 nd' hnd' c3 hc3 c4 hc4;obtain⟨ev,Lu,Lv⟩:=eF Pv.out CK.out hrm z d hd
      have Lx:iA S.gc y z=[.int .i64 (z:Nat),.int .i64 (d.v:Nat),.int .i64 (d.lo:Nat),.int .i64 (d.hi:Nat),.int .i64 (S.gc.refs z:Nat),.int .i64 (Bd.aB S.gc.nd d.lo y:Nat),.int .i64 (Bd.aI S.gc.nd d.lo y:Nat),.int .i64 (Bd.aB S.gc.nd d.hi y:Nat),.int .i64 (Bd.aI S.gc.nd d.hi y:Nat)]:=by
       unfold iA bC;rw[hd]
       rfl
      have hcs:=yN Pv.out CK.out hrm;obtain⟨m1,m2⟩:=hcs d.lo y Lu;obtain⟨m3,m4⟩:=hcs d.hi y Lv;have z0:=hr2.cell (i:=i) (j:=0) hlt (by omega);have z1:=hr2.cell (i:=i) (j:=1) hlt (by omega);have z2:=hr2.cell (i:=i) (j:=2) hlt (by omega);have z3:=hr2.cell (i:=i) (j:=3) hlt (by omega);have z4:=hr2.cell (i:=i) (j:=4) hlt (by omega);have z5:=hr2.cell (i:=i) (j:=5) hlt (by omega);have z6:=hr2.cell (i:=i) (j:=6) hlt (by omega);have z7:=hr2.cell (i:=i) (j:=7) hlt (by omega);have z8:=hr2.cell (i:=i) (j:=8) hlt (by omega);rw[←hz,Lx]at z0 z1 z2 z3 z4 z5 z6 z7 z8;simp only[List.getElem?_cons_zero,List.getElem?_cons_succ,Nat.add_zero]at z0 z1 z2 z3 z4 z5 z6 z7 z8;clear Lx HR HR2 hcs
      generalize (Bd.aB S.gc.nd d.lo y)=a1 at *
      generalize (Bd.aI S.gc.nd d.lo y)=a2 at *
      generalize (Bd.aB S.gc.nd d.hi y)=a3 at *
      generalize (Bd.aI S.gc.nd d.hi y)=a4 at *
      have hji:(i:Int)<(j:Int):=by omega
      obtain⟨bx,BX⟩:∃o:Obj,o=.cells #[.int .i64 (z:Nat),.int .i64 (d.v:Nat),.int .i64 (d.lo:Nat),.int .i64 (d.hi:Nat),.int .i64 (S.gc.refs z:Nat),.int .i64 (a1:Nat),.int .i64 (a2:Nat),.int .i64 (a3:Nat),.int .i64 (a4:Nat)] 233:=⟨_,rfl⟩;obtain⟨KB,Wy⟩:∃KB,KB=bJ K2 wr.heap.size 0:=⟨_,rfl⟩
      have tB:∀R:Nat→Prop,aj R K2 wr KB (wr.alloc bx).drew:=fun R=>by
       rw[Wy];exact((aj.refl.alloc bx).drewN 1).new (Nat.le_refl _)
      have X0:(wr.alloc bx).drew.heap[wr.heap.size]?=some bx∧KB wr.heap.size=0:=⟨heap_alloc_new _ _,by rw[Wy];exact aW _ _ _⟩;obtain⟨L6,h6⟩:=HI2.out.aG (tB (fun _=>False)) (fun r h=>h.elim);obtain⟨b1,b2⟩:=yR hsi hrm hx m1 m3 f1;have cB1:=vW h6 x a1 a3 hx hnn m1 m3 b2 b1;rw[←hr1]at cB1;obtain⟨b3,b4⟩:=yR BI.s1 hrm hx m2 m4 f2;have cB2:=fun(K3:Nat→Nat)(W3:World)(h:dG K3 W3 sb n room r1.1 (Bd.gJ ah x y) (Bd.swo ord k x y))=>h.elim fun L3 h3=>vW h3 x a2 a4 hx hnn m2 m4 b4 b3;rw[←UE]at cB2;have HX0:=Lib.hid (And.intro X0 tB);have Em:=Lib.hid BI;have HE:=Lib.hid (And.intro WB (And.intro hLn (And.intro hsucc (And.intro hd hnd'))));have HC:=Lib.hid (And.intro hc1 (And.intro hc2 (And.intro hc3 hc4)));have aaP:=Lib.hid cB2;have XB:(wr.alloc bx).drew.heap[wr.heap.size]?=some (.cells #[.int .i64 (z:Nat),.int .i64 (d.v:Nat),.int .i64 (d.lo:Nat),.int .i64 (d.hi:Nat),.int .i64 (S.gc.refs z:Nat),.int .i64 (a1:Nat),.int .i64 (a2:Nat),.int .i64 (a3:Nat),.int .i64 (a4:Nat)] 233 (0,0)):=X0.1.trans (congrArg some BX);have e5:(wr.alloc bx).drew.cell? ⟨wr.heap.size,5,none⟩=some (.int .i64 (a1:Nat)):=au XB 5 rfl;have e6:(wr.alloc bx).drew.cell? ⟨wr.heap.size,6,none⟩=some (.int .i64 (a2:Nat)):=au XB 6 rfl;have e7:(wr.alloc bx).drew.cell? ⟨wr.heap.size,7,none⟩=some (.int .i64 (a3:Nat)):=au XB 7 rfl
      have e8:(wr.alloc bx).drew.cell? ⟨wr.heap.size,8,none⟩=some (.int .i64 (a4:Nat)):=au XB 8 rfl;clear BI WB hLn hsucc hd hnd' hc1 hc2 hc3 hc4 cB2 X0 tB XB hr2 hrw hgr hzj hnd hdrop hL3 hsi hr1 UE f1 f2 hz Wy b1 b2 b3 b4 h6 hiL;subst BX
      go_wp2
      go_region_held3 (fun w'=>w'.cell? ⟨wr.heap.size,5,none⟩=some (.int .i64 (a1:Nat))∧w'.cell? ⟨wr.heap.size,6,none⟩=some (.int .i64 (a2:Nat))∧w'.cell? ⟨wr.heap.size,7,none⟩=some (.int .i64 (a3:Nat))∧w'.cell? ⟨wr.heap.size,8,none⟩=some (.int .i64 (a4:Nat)))
       (first|(refine⟨?_,?_,?_,?_⟩<;>assumption)|fail)
       (first|(go_at_call 170;with_reducible refine cB1.mono ?_;rintro r w2 ⟨rfl,K3,h3,t3⟩;have X3:=NT t3 HX0.out.1;have H3:=Lib.hid h3;have T3:=Lib.hid t3;have HX3:=Lib.hid X3;clear h3 t3;have e5:w2.cell? ⟨wr.heap.size,5,none⟩=some (.int .i64 (a1:Nat)):=au X3.1 5 rfl;have e6:w2.cell? ⟨wr.heap.size,6,none⟩=some (.int .i64 (a2:Nat)):=au X3.1 6 rfl;have e7:w2.cell? ⟨wr.heap.size,7,none⟩=some (.int .i64 (a3:Nat)):=au X3.1 7 rfl;have e8:w2.cell? ⟨wr.heap.size,8,none⟩=some (.int .i64 (a4:Nat)):=au X3.1 8 rfl;clear X3)|(go_at_call 170;with_reducible refine(aaP.out K3 _ H3.out).mono ?_;rintro r QM ⟨rfl,K4,h4,t4⟩;have X4:=NT t4 HX3.out;have H4:=Lib.hid h4;have T4:=Lib.hid t4;have HX4:=Lib.hid X4;clear h4 t4;have e5:QM.cell? ⟨wr.heap.size,5,none⟩=some (.int .i64 (a1:Nat)):=au X4.1 5 rfl;have e6:QM.cell? ⟨wr.heap.size,6,none⟩=some (.int .i64 (a2:Nat)):=au X4.1 6 rfl;have e7:QM.cell? ⟨wr.heap.size,7,none⟩=some (.int .i64 (a3:Nat)):=au X4.1 7 rfl;have e8:QM.cell? ⟨wr.heap.size,8,none⟩=some (.int .i64 (a4:Nat)):=au X4.1 8 rfl;clear X4)|fail)
      have BI:=Em.out;obtain⟨WB,hLn,hsucc,hd,hnd'⟩:=HE.out;obtain⟨hc1,hc2,hc3,hc4⟩:=HC.out;have D2:=XT BI hrm;have D3:=NU BI hrm hnd';have o1:=bF BI.s2 hrm BI.o1;have o2:=bF BI.s2 hrm BI.o2
      have cM1:Calls Tryz.prog 171 #[.pointer (some ⟨sb,0,none⟩),.int .i64 (r1.2:Nat)] QM (fun r w'=>r=.returned (.tuple #[])∧∃K',dG K' w' sb n room (gV r2.1 c1.1 c1.2) (Bd.gJ ah x y) (Bd.swo ord k x y)∧aj sR K4 QM K' w'):=by
       rw[hc1];exact sI (B:=1000000000000) D2 (Nat.le_refl _) n r1.2 r2.1.cnt r2.1.dead ext K4 QM BI.a1 BI.s2.ci (fun i=>by have:=HXB.out i;omega) o1 H4.out
      have cM2:∀Ka wa,dG Ka wa sb n room (gV r2.1 c1.1 c1.2) (Bd.gJ ah x y) (Bd.swo ord k x y)→Calls Tryz.prog 171 #[.pointer (some ⟨sb,0,none⟩),.int .i64 (r2.2:Nat)] wa (fun r w'=>r=.returned (.tuple #[])∧∃K',dG K' w' sb n room (gV r2.1 c2.1 c2.2) (Bd.gJ ah x y) (Bd.swo ord k x y)∧aj sR Ka wa K' w'):=fun Ka wa h=>by
       rw[hc2];exact sI (B:=1000000000000) D2 (Nat.le_refl _) n r2.2 c1.1 c1.2 _ Ka wa BI.a2 BI.c1 (fun i=>by have:=HXB.out i;have:=Bd.one_le r1.2 i;show ext i+Bd.one r1.2 i+_≤_;omega) o2 h
      have aaQ:=Lib.hid cM2;have hzs:z≤1048577:=by have:=(BI.s2.nz z (by rw[BI.rt];simp)).2;have:=BI.s2.Nr;omega
      have Lu:=(eF Pv.out CK.out hrm z d hd).2.1;have Lv:=(eF Pv.out CK.out hrm z d hd).2.2;clear cM2 BI WB hLn hsucc hd hnd' hc1 hc2 hc3 hc4 D2 D3 e5 e6 e7 e8 z0 z1 z2 z3 z4 z5 z6 z7 z8
      go_wp2_with (first|(go_at_call 171;with_reducible refine cM1.mono ?_;rintro r wa ⟨rfl,Ka,ha,ta⟩;have HA:=Lib.hid ha;have TAA:=Lib.hid ta;clear ha ta cM1)|(go_at_call 171;with_reducible refine(aaQ.out Ka _ HA.out).mono ?_;rintro r wb ⟨rfl,Kb,hb,tb⟩;have XB:=NT tb (NT TAA.out HX4.out);have mU:=Lib.hid hb;have TBB:=Lib.hid tb;have Yf:=Lib.hid XB;clear hb tb;have q0:wb.cell? ⟨wr.heap.size,0,none⟩=some (.int .i64 (z:Nat)):=au XB.1 0 rfl;have q1:wb.cell? ⟨wr.heap.size,1,none⟩=some (.int .i64 (d.v:Nat)):=au XB.1 1 rfl;have q2:wb.cell? ⟨wr.heap.size,2,none⟩=some (.int .i64 (d.lo:Nat)):=au XB.1 2 rfl;have q3:wb.cell? ⟨wr.heap.size,3,none⟩=some (.int .i64 (d.hi:Nat)):=au XB.1 3 rfl;have q4:wb.cell? ⟨wr.heap.size,4,none⟩=some (.int .i64 (S.gc.refs z:Nat)):=au XB.1 4 rfl;have qf:∀o,wb.frozen? ⟨wr.heap.size,o,none⟩=false:=jv XB.1;have ql:=aV XB.1;clear XB))
      obtain⟨W6,E_⟩:∃W6,W6=(((wb.setCell ⟨wr.heap.size,1,none⟩ (.int .i64 (y:Nat))).setCell ⟨wr.heap.size,2,none⟩ (.int .i64 (r1.2:Nat))).setCell ⟨wr.heap.size,3,none⟩ (.int .i64 (r2.2:Nat))).alloc (.cells #[.int .i64 (z:Nat),.int .i64 (d.v:Nat),.int .i64 (d.lo:Nat),.int .i64 (d.hi:Nat),.int .i64 (S.gc.refs z:Nat)] 171):=⟨_,rfl⟩;rw[←E_];obtain⟨KC,aO⟩:∃KC,KC=bJ Kb wb.heap.size 0:=⟨_,rfl⟩;have Yg:Kb wr.heap.size=0:=Yf.out.2
      have tC:aj (fun r=>r=0) Kb wb KC W6:=by
       rw[E_,aO];exact((((aj.refl.iI (R:=fun r=>r=0) Yg ql _).iI Yg (by simpa using ql) _).iI Yg (by simpa using ql) _).alloc _).new (Nat.le_refl _)
      have tR:aj sR K2 wr KC W6:=by
       have t1:=((((HX0.out.2 sR).trans T3.out).trans T4.out).trans TAA.out).trans TBB.out;rw[E_,aO];exact((((t1.h_ (Nat.le_refl _) _).h_ (Nat.le_refl _) _).h_ (Nat.le_refl _) _).alloc _).new (by have:=t1.size;omega)
      have XA:W6.heap[wr.heap.size]?=some (.cells #[.int .i64 (z:Nat),.int .i64 (y:Nat),.int .i64 (r1.2:Nat),.int .i64 (r2.2:Nat),.int .i64 (S.gc.refs z:Nat),.int .i64 (a1:Nat),.int .i64 (a2:Nat),.int .i64 (a3:Nat),.int .i64 (a4:Nat)] 233 (0,0)):=by
       rw[E_];exact(Below.heap_alloc _ _ _ (by simpa using ql)).trans (aH (aH (aH Yf.out.1 _) _) _)
      have XO:W6.heap[wb.heap.size]?=some (.cells #[.int .i64 (z:Nat),.int .i64 (d.v:Nat),.int .i64 (d.lo:Nat),.int .i64 (d.hi:Nat),.int .i64 (S.gc.refs z:Nat)] 171 (0,0)):=by rw[E_];exact aL (by simp)
      have kA:KC wr.heap.size=0:=by rw[aO];exact(bP (by omega)).trans Yg
      have kO:KC wb.heap.size=0:=by rw[aO];exact aW _ _ _
      obtain⟨L7,h7⟩:=mU.out.aG (w':=W6.drew) (tC.drewN 1) (fun r h=>by unfold sR;omega);have cS:=vO h7.pool z d ⟨y,r1.2,r2.2⟩ (S.gc.refs z) Em.out.rt;have u0:W6.drew.cell? ⟨sb,1,none⟩=some (.pointer (some ⟨L7.pb,0,none⟩)):=au h7.row 1 rfl;have g0:W6.drew.cell? ⟨wr.heap.size,0,none⟩=some (.int .i64 (z:Nat)):=au XA 0 rfl;have g1:W6.drew.cell? ⟨wr.heap.size,1,none⟩=some (.int .i64 (y:Nat)):=au XA 1 rfl;have g2:W6.drew.cell? ⟨wr.heap.size,2,none⟩=some (.int .i64 (r1.2:Nat)):=au XA 2 rfl;have g3:W6.drew.cell? ⟨wr.heap.size,3,none⟩=some (.int .i64 (r2.2:Nat)):=au XA 3 rfl;have g4:W6.drew.cell? ⟨wr.heap.size,4,none⟩=some (.int .i64 (S.gc.refs z:Nat)):=au XA 4 rfl;have H7:=Lib.hid h7;have HT6:=Lib.hid (And.intro tR (And.intro kA kO));have UF:=Lib.hid (And.intro XA XO);clear h7 tC tR XA XO kA kO aO E_ Yg q0 q1 q2 q3 q4 qf;refine aM 6 (by kernel_rfl) (by kernel_rfl) ?_;simp only[List.take_succ_cons,List.take_zero,List.drop_succ_cons,List.drop_zero]
      repeat still_step
      refine wpStill_nil ?_
      go_wp2_with (go_at_call 124;refine cS.mono ?_;rintro r w7 ⟨rfl,hp7,t7⟩;have HP7:=Lib.hid hp7;have T7:=Lib.hid t7;clear hp7 t7 cS)
      have h8:=(UD H7.out Em.out HE.out.2.2.2.2 hy HP7.out T7.out).drew;obtain⟨XA,XO⟩:=UF.out;obtain⟨tR,kA,kO⟩:=HT6.out;have XA7:w7.drew.heap[wr.heap.size]?=_:=T7.out.obj (w:=W6.drew) XA (by show ¬KC wr.heap.size=7;rw[kA];omega);have XO7:w7.drew.heap[wb.heap.size]?=_:=T7.out.obj (w:=W6.drew) XO (by show ¬KC wb.heap.size=7;rw[kO];omega);have u2:w7.drew.cell? ⟨sb,2,none⟩=some (.slice (some ⟨L7.kE,0,none⟩) n L7.qM):=au h8.row 2 rfl;have u3:=h8.tabs.cell (i:=y) (j:=0) hy (by omega);simp only[Nat.mul_one,Nat.add_zero,List.getElem?_cons_zero]at u3;have g7:w7.drew.cell? ⟨wr.heap.size,0,none⟩=some (.int .i64 (z:Nat)):=au XA7 0 rfl;have hyi:(y:Int)<(n:Int):=by omega
      have cP:=CB (h8.tab y hy) r1.2 r2.2 z o1 o2 (by omega) Em.out.tn (Fq Em.out.s2 hrm hy);have H8:=Lib.hid h8;have aaR:=Lib.hid XO7;have TR:=Lib.hid (And.intro tR kO);clear h8 XA XO tR kA kO XA7 XO7 u0 g0 g1 g2 g3 g4;refine aM 12 (by kernel_rfl) (by kernel_rfl) ?_;simp only[List.take_succ_cons,List.take_zero,List.drop_succ_cons,List.drop_zero]
      repeat still_step
      refine wpStill_nil ?_
      have cL2:∀Ka wa,dG Ka wa sb n room (gV (mid r2 nd' c2 y r1.2 z) c3.1 c3.2) (Bd.gJ ah x y) (Bd.swo ord k x y)→Calls Tryz.prog 125 #[.pointer (some ⟨sb,0,none⟩),.int .i64 (d.hi:Nat)] wa (fun r w'=>r=.returned (.tuple #[])∧∃K',dG K' w' sb n room (gV (mid r2 nd' c2 y r1.2 z) c4.1 c4.2) (Bd.gJ ah x y) (Bd.swo ord k x y)∧aj sR Ka wa K' w'):=fun Ka wa h=>by
       rw[HC.out.2.2.2];exact sJ (B:=1000000000000) (NU Em.out hrm HE.out.2.2.2.2) (Nat.le_refl _) n d.hi c3.1 c3.2 _ Ka wa Em.out.a4 Em.out.c3 (fun i=>by have:=HXB.out i;have:=Bd.one_le d.lo i;have:=Bd.one_le d.hi i;have:=Bd.one_nonneg d.lo i;show ext i+Bd.one d.lo i+Bd.one d.hi i-Bd.one d.lo i+_≤_;omega) Em.out.p3 (fun _=>Em.out.p4) Lv h
      have aaS:=Lib.hid cL2;clear cL2
      go_wp2_with (first|(go_at_call 172;refine cP.mono ?_;rintro r w8 ⟨rfl,hp8,t8⟩;have h9:=QH H8.out H7.out.Jr Em.out HE.out.2.2.2.2 hy hp8 t8;have T8:=Lib.hid t8;have XO8:w8.heap[wb.heap.size]?=_:=t8.obj aaR.out (by rw[TR.out.2];omega);have m2:w8.cell? ⟨wb.heap.size,2,none⟩=some (.int .i64 (d.lo:Nat)):=au XO8 2 rfl;have cL1:Calls Tryz.prog 125 #[.pointer (some ⟨sb,0,none⟩),.int .i64 (d.lo:Nat)] w8 (fun r w'=>r=.returned (.tuple #[])∧∃K',dG K' w' sb n room (gV (mid r2 nd' c2 y r1.2 z) c3.1 c3.2) (Bd.gJ ah x y) (Bd.swo ord k x y)∧aj sR KC w8 K' w'):=(by rw[HC.out.2.2.1];exact sJ (B:=1000000000000) (NU Em.out hrm HE.out.2.2.2.2) (Nat.le_refl _) n d.lo c2.1 c2.2 _ KC w8 Em.out.a3 Em.out.c2 (fun i=>by have:=HXB.out i;have:=Bd.one_le d.lo i;have:=Bd.one_le d.hi i;show ext i+Bd.one d.lo i+Bd.one d.hi i+_≤_;omega) Em.out.p1 (fun _=>Em.out.p2) Lu ⟨_,h9⟩);have aaT:=Lib.hid XO8;clear h9 t8 hp8 XO8 cP)|(go_at_call 125;with_reducible refine cL1.mono ?_;rintro r w9 ⟨rfl,K9,h9,t9⟩;have X9:=NT t9 (And.intro aaT.out TR.out.2);have H9:=Lib.hid h9;have T9:=Lib.hid t9;clear h9 t9 cL1;have m3:w9.cell? ⟨wb.heap.size,3,none⟩=some (.int .i64 (d.hi:Nat)):=au X9.1 3 rfl;clear X9)|(go_at_call 125;with_reducible refine(aaS.out K9 _ H9.out).mono ?_;rintro r wt ⟨rfl,Kt,ht,tt⟩;have Ht:=Lib.hid ht;have Tt:=Lib.hid tt;clear ht tt))
      go_roundg (j-(i+1))
      case rel=>
       obtain⟨WB,hLn,hsucc,hd,hnd'⟩:=HE.out;have htot:=((((TR.out.1.drewN 1).trans (T7.out.mono (R':=sR) (fun r hr=>by unfold sR;omega))).drewN 1).trans (T8.out.mono (R':=sR) (fun r hr=>by unfold sR;omega))).trans (T9.out.trans Tt.out);refine⟨i+1,rfl,by omega,by simp,Kt,_,?_,hLn,?_,HT2.out.trans htot⟩
       ·rw[hsucc,List.foldl_append,←HS2.out];rfl
       ·rw[WB];exact Ht.out
      case measure=>omega
     ·obtain rfl:i=j:=by omega
      have hsw:S2=S.gc.mY n x y:=by
       rw[HS2.out,List.take_of_length_le (by rw[←Ej.out];exact Nat.le_refl _)];rfl
      obtain⟨D',g1,s1,-,-,-⟩:=Bd.BS Pv.out CK.out hx hy (by rw[hlx,SA]) (Bd.uF HS.out) (HFT.out.1 hf) LB.out;have hI:=HI2.out;rw[hsw]at hI;have cE:=jA s1 hrm (eF g1 s1 hrm) hnn K2 wr hI;clear g1 s1 hI
      go_wp2_with (go_at_call 163;refine cE.mono ?_;rintro r we ⟨⟨kc2,rfl⟩,K9,h9,t9⟩;have H9:=Lib.hid h9;have T9:=Lib.hid t9;clear h9 t9 cE)
      rw[HF.out]
      dsimp only
      rw[if_pos hf];refine⟨rfl,K9,?_,(((TA.out.trans (aj.of_below mM.out)).trans T5.out).trans HT2.out).trans T9.out⟩;rw[show S.swap n room x y=(S.gc.mY n x y).gc from by unfold Bd.St.swap;rw[if_pos hf]];exact H9.out
 ·have hgt:¬(S.gc.wants x y).length≤room-S.gc.many:=fun h=>hf (hfit.2 h);have hml:=LB.out;have hci:(room:Int)-(S.gc.many:Int)<((S.gc.wants x y).length:Int):=by omega
  clear hfit hgt
  go_wp2_with (first|(go_at_call 166;refine cR.mono ?_;rintro r w' ⟨rfl,rfl⟩)|(go_at_call 167;refine cL.mono ?_;rintro r w' ⟨rfl,rfl⟩))
  rw[HF.out]
  dsimp only
  rw[if_neg hf];refine⟨rfl,KA,?_,TA.out.trans (aj.of_below mM.out)⟩;rw[show S.swap n room x y=S.gc from by unfold Bd.St.swap;rw[if_neg hf]];exact⟨L1,Ii.out.below mM.out⟩
end
end
section
section
variable {sb n room:Nat} {S:Bd.St} {ah:Nat→Nat} {ord:List Nat}
theorem Az(k:Int)(hk:k<0∨(n:Int)-1≤k)(hn:n≤1000000)(h0:0<n)(K:Nat→Nat)(w:World)(h:dG K w sb n room S ah ord) :
 Calls Tryz.prog 148 #[.pointer (some ⟨sb,0,none⟩),.int .i64 k] w fun r w'=>r=.returned (.int .i64 2)∧w'=w:=by
 obtain⟨F,HF⟩:=aJ (fun(r:Ending)(w':World)=>r=.returned (.int .i64 2)∧w'=w);rw[←HF.out];obtain⟨L,h⟩:=h;have y0:w.cell? ⟨sb,0,none⟩=some (.pointer (some ⟨L.lb,0,none⟩)):=au h.row 0 rfl;have y1:w.cell? ⟨L.lb,0,none⟩=some (.slice (some ⟨L.gv,0,none⟩) n L.cvv):=au h.iE 0 rfl;have hni:(n:Int)≤1000000:=by omega
 have hn0:(0:Int)<n:=by omega
 clear h
 by_cases h1:k<0
 ·clear hk;go_in
  go_wp2
  rw[HF.out];exact⟨rfl,rfl⟩
 ·have h2:(n:Int)-1≤k:=by omega
  clear hk;go_in
  go_wp2
  rw[HF.out];exact⟨rfl,rfl⟩
end
end
end Go.Proofs.YtpijlhlpejlhhaaGreat
