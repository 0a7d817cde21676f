/- Walks and plain words: ExC RbB RbC. -/
import Derived.Test.YtpijlhlpejlhhaaGreatVPmA
namespace Go.Proofs.YtpijlhlpejlhhaaGreat
open Go.RowKit
set_option linter.unusedVariables false
set_option maxRecDepth 100000
set_option maxHeartbeats 8000000
def wO(parts:Nat)(e:Ex)(w:World)(r:Ending)(w':World):Prop:=∃(x:Int)(m:Nat),r=.returned (.tuple #[.int .i64 x,.int .i64 (m:Nat)])∧(x=0↔e.o_)∧(x=0→m=parts+e.size)∧Below w.heap.size w w'
theorem wO.bad{parts:Nat}{e:Ex}{w w':World}{x:Int}{m:Nat}(hx:x≠0)(he:¬e.o_)(hb:Below w.heap.size w w'):wO parts e w (.returned (.tuple #[.int .i64 x,.int .i64 (m:Nat)])) w':=
 ⟨x,m,rfl,⟨fun h=>absurd h hx,fun h=>absurd h he⟩,fun h=>absurd h hx,hb⟩
theorem F8:∀(s:Nat) (A:Option Addr) (c deep parts:Nat) (e:Ex) (w:World),e.size≤s→deep+e.size≤65→parts+e.size≤4096→BK w A c e →
 Calls Tryz.prog 91 #[dz A c e,.int .i64 (deep:Nat),.int .i64 (parts:Nat)] w (wO parts e w):=by
 intro s
 induction s with
 |zero=>intro A c deep parts e w h;have:=e.size_pos;omega
 |succ s ih=>
  intro A c deep parts e w hs Tn hparts he;obtain⟨F,HF⟩:=aJ (wO parts e w);rw[←HF.out];have hsp:=e.size_pos;have hkl:=Bd.Ex.iR e.kids;have hse:=e.size_eq;obtain⟨m,hm⟩:∃m,m=e.kids.length:=⟨_,rfl⟩;obtain⟨op,hop⟩:∃op,op=e.op:=⟨_,rfl⟩;obtain⟨vr,mK⟩:∃vr,vr=e.var:=⟨_,rfl⟩;have hval:dz A c e=.agg #[.int .i64 op,.int .i64 vr,.slice A m c]:=by unfold dz bN;rw[hm,hop,mK]
  rw[hval];have hml:m≤64:=by omega
  have hok:e.o_↔Bd.pO op vr m∧∀t∈e.kids,t.o_:=by rw[hop,mK,hm];exact Bd.Ex.dW
  obtain⟨a,ha⟩:∃a,a=(Bd.iQ op).1:=⟨_,rfl⟩;obtain⟨b,hb⟩:∃b,b=(Bd.iQ op).2:=⟨_,rfl⟩;have hno:Bd.pO op vr m↔0≤a∧(op=3→0≤vr∧vr<64)∧(op≠3→vr=0)∧a≤m∧(m:Int)≤b:=by rw[ha,hb];rfl
  have cK:=fun W=>KQ op W;rw[←ha,←hb]at cK;have Au:=Lib.hid hok;have wY:=Lib.hid hno;have HK:=Lib.hid cK;obtain⟨W0,hW0⟩:∃W0,W0=w.alloc (.cells #[.int .i64 op,.int .i64 vr,.slice A m c] 75):=⟨_,rfl⟩;have HB0:=Lib.hid (show Below w.heap.size w W0 by rw[hW0];exact(Below.refl _ _).alloc (Nat.le_refl _) _);obtain⟨bx,hbx⟩:∃bx,bx=w.heap.size:=⟨_,rfl⟩;have hx0:W0.heap[bx]?=some (.cells #[.int .i64 op,.int .i64 vr,.slice A m c] 75 (0,0)):=by rw[hW0,hbx];exact heap_alloc_new _ _
  have HX:=Lib.hid hx0;have z0:W0.cell? ⟨bx,0,none⟩=some (.int .i64 op):=au hx0 0 rfl;have z1:W0.cell? ⟨bx,1,none⟩=some (.int .i64 vr):=au hx0 1 rfl;have z2:W0.cell? ⟨bx,2,none⟩=some (.slice A m c):=au hx0 2 rfl;have HE:=Lib.hid he;have pW:=Lib.hid ih;have HM:=Lib.hid hm;have HS:=Lib.hid hse;have F9:=Lib.hid (And.intro hop mK);have ab0:¬(64:Int)<(deep:Int):=by omega
  have abC:((deep:Nat):Int)≤64:=by omega
  have hpb:parts+1≤4096:=by omega
  have gK:=Lib.hid (And.intro hs (And.intro Tn hparts));clear ih he hval hm hx0 hok hno cK ha hb hse hkl hop mK hs Tn hparts hsp;go_in;go_wp2_with fail;rw[←hW0,←hbx];clear hW0 hbx
  by_cases ha0:a<0
  ·have HBAD:Hid (¬e.o_):=fun h=>by have:=(wY.out.1 (Au.out.1 h).1).1;omega
   go_wp2_with (go_at_call 140;with_reducible refine(HK.out _).mono ?_;rintro r w2 ⟨rfl,hw⟩;rw[hw];clear hw)
   rw[HF.out];exact wO.bad (m:=parts+1) (by decide) HBAD.out HB0.out
  have ha1:0≤a:=by omega
  -- the variable's test
  have hcs:(op=3∧vr<0)∨(op=3∧0≤vr∧¬vr<64)∨(op≠3∧vr≠0)∨(op=3∧0≤vr∧vr<64)∨(op≠3∧vr=0):=by omega
  rcases hcs with⟨e3,hv⟩|⟨e3,hv,hv2⟩|⟨e3,hv⟩|⟨e3,hv,hv2⟩|⟨e3,hv⟩
  ·have HBAD:Hid (¬e.o_):=fun h=>by have:=((wY.out.1 (Au.out.1 h).1).2.1 e3).1;omega
   subst e3
   go_wp2_with (go_at_call 140;with_reducible refine(HK.out _).mono ?_;rintro r w2 ⟨rfl,hw⟩;rw[hw];clear hw)
   rw[HF.out];exact wO.bad (m:=parts+1) (by decide) HBAD.out HB0.out
  ·have HBAD:Hid (¬e.o_):=fun h=>by have:=((wY.out.1 (Au.out.1 h).1).2.1 e3).2;omega
   subst e3;have hv3:¬vr<0:=by omega
   have hv4:(64:Int)≤vr:=by omega
   go_wp2_with (go_at_call 140;with_reducible refine(HK.out _).mono ?_;rintro r w2 ⟨rfl,hw⟩;rw[hw];clear hw)
   rw[HF.out];exact wO.bad (m:=parts+1) (by decide) HBAD.out HB0.out
  ·have HBAD:Hid (¬e.o_):=fun h=>hv ((wY.out.1 (Au.out.1 h).1).2.2.1 e3);have e4:(op==3)=false:=by simp[e3]
   have e5:(op != 3)=true:=by simp[e3]
   have e6:(vr != 0)=true:=by simp[hv]
   clear e3 hv
   go_wp2_with (go_at_call 140;with_reducible refine(HK.out _).mono ?_;rintro r w2 ⟨rfl,hw⟩;rw[hw];clear hw)
   rw[HF.out];exact wO.bad (m:=parts+1) (by decide) HBAD.out HB0.out
  all_goals
   have Yn:Hid (Bd.pO op vr m↔a≤m∧(m:Int)≤b):=wY.out.trans ⟨fun h=>h.2.2.2,fun h=>⟨ha1,fun h9=>by omega,fun h9=>by omega,h⟩⟩
   first
    |(have e4:(op==3)=false:=beq_false_of_ne e3
      have e5:(op != 3)=true:=bne_iff_ne.2 e3;clear e3
      subst hv)
    |(subst e3
      have hv3:decide (vr<0)=false:=decide_eq_false (by omega);have hv4:decide ((64:Int)≤vr)=false:=decide_eq_false (by omega)
      clear hv hv2)
   by_cases hma:(m:Int)<a
   ·have HBAD:Hid (¬e.o_):=fun h=>by have:=(Yn.out.1 (Au.out.1 h).1).1;omega
    go_wp2_with (go_at_call 140;with_reducible refine(HK.out _).mono ?_;rintro r w2 ⟨rfl,hw⟩;rw[hw];clear hw)
    rw[HF.out];exact wO.bad (m:=parts+1) (by decide) HBAD.out HB0.out
   have aa_:decide ((m:Int)<a)=false:=decide_eq_false hma
   by_cases hmb:b<(m:Int)
   ·have HBAD:Hid (¬e.o_):=fun h=>by have:=(Yn.out.1 (Au.out.1 h).1).2;omega
    go_wp2_with (go_at_call 140;with_reducible refine(HK.out _).mono ?_;rintro r w2 ⟨rfl,hw⟩;rw[hw];clear hw)
    rw[HF.out];exact wO.bad (m:=parts+1) (by decide) HBAD.out HB0.out
   have abb:decide (b<(m:Int))=false:=decide_eq_false hmb;have Tp:Hid (e.o_↔∀t∈e.kids,t.o_):=Au.out.trans ⟨fun h=>h.2,fun h=>⟨Yn.out.2 ⟨by omega,by omega⟩,h⟩⟩
   go_wp2_with (go_at_call 140;with_reducible refine(HK.out _).mono ?_;rintro r w2 ⟨rfl,hw⟩;rw[hw];clear hw)
   clear z0 z1 z2 hma hmb aa_ abb
   go_loopg [2,10,11,12,67,68,69,70,71,72,73,74,75,76,77,78,79,80,81,82,83,84,85,86,87,88,89,90] m (fun q v2 v10 v11 v12 v67 v68 v69 v70 v71 v72 v73 v74 v75 v76 v77 v78 v79 v80 v81 v82 v83 v84 v85 v86 v87 NV v89 QK wr=>∃j n:Nat,q=m-j∧j≤m∧v10=.int .i64 (j:Nat)∧v2=.int .i64 (n:Nat)∧n=parts+1+Bd.Ex.dw (e.kids.take j)∧(∀t∈e.kids.take j,t.o_)∧Below w.heap.size w wr∧∃v0 v1,wr.heap[bx]?=some (.cells #[v0,v1,.slice A m c] 75 (0,0)))
   case atStart=>exact⟨0,parts+1,rfl,Nat.zero_le _,rfl,by go_num,by simp[Bd.Ex.dw],fun t ht=>by simp at ht,HB0.out,_,_,HX.out⟩
   case round=>
    obtain⟨j,n,rfl,hj,rfl,rfl,hn,hks,tX,v0,v1,hx⟩:=hrel;have z2:wr.cell? ⟨bx,2,none⟩=some (.slice A m c):=au hx 2 rfl;have HN:=Lib.hid hn;have HB:=Lib.hid tX;have qQ:=Lib.hid hx;have HKS:=Lib.hid hks
    have hnb:n≤4096:=by
     have h1:=Bd.Ex.aR e.kids j;have h2:=gK.out;have h3:=HS.out;omega
    clear hn tX hx hks
    by_cases hlt:j<m
    ·have hji:(j:Int)<(m:Int):=by omega
     obtain⟨x,hxk⟩:∃x,e.kids[j]?=some x:=⟨_,List.getElem?_eq_getElem (by rw[←HM.out];exact hlt)⟩;obtain⟨g,o,A',c',hA,hg,k0,k1,k2,hV⟩:=(HE.out.below HB.out).kid hxk;have hsz:=Bd.Ex.eG hxk;have hxm:=List.mem_of_getElem? hxk;have hxs:=Bd.Ex.fJ hxm;have h9:=Bd.Ex.aR e.kids (j+1);have hlx:x.kids.length≤9223372036854775807:=by have:=hV.cap;have:=hV.kY;unfold maxLen at this;omega
     have cP:=pW.out A' c' (deep+1) n x wr (by have:=gK.out;omega) (by have:=gK.out;omega) (by have:=gK.out;have:=HN.out;have:=HS.out;omega) hV;unfold dz bN at cP;rw[show((deep+1:Nat):Int)=(deep:Int)+1 from by omega]at cP;have HC:=Lib.hid cP
     have htk:∀t,t∈e.kids.take (j+1)↔t∈e.kids.take j∨t=x:=fun t=>by
      rw[List.take_add_one,hxk];simp
     have HK2:=Lib.hid (And.intro hsz (And.intro htk hxm));subst hA;clear hV hsz hxm hxs h9 htk cP hxk;go_wp2_with fail;refine(HC.out).mono ?_;rintro r w2 ⟨x',m',rfl,hxo,Rq,hb2⟩;have HB2:=Lib.hid hb2;have UF:=Lib.hid (And.intro hxo Rq);clear hb2 hxo Rq
     by_cases hx0:x'=0
     ·subst hx0;have hm':=UF.out.2 rfl;have HM':=Lib.hid hm';clear hm';go_wp2_with fail
      go_roundg (m-(j+1))
      case rel=>
       obtain⟨hsz,htk,-⟩:=HK2.out;refine⟨j+1,m',rfl,by omega,by go_num,rfl,by rw[HM'.out,HN.out,hsz];omega,fun t ht=>?_,HB.out.trans (HB2.out.mono HB.out.size),v0,v1,(HB2.out.block bx (aV qQ.out)).trans qQ.out⟩
       rcases(htk t).1 ht with h|rfl
       ·exact HKS.out t h
       ·exact UF.out.1.1 (by simp)
      case measure=>omega
     ·have hx1:(x' != 0)=true:=bne_iff_ne.2 hx0;have HX0:=Lib.hid hx0;clear hx0;go_wp2_with fail;rw[HF.out];exact wO.bad HX0.out (fun h=>HX0.out (UF.out.1.2 ((Tp.out.1 h) _ HK2.out.2.2))) (HB.out.trans (HB2.out.mono HB.out.size))
    ·obtain rfl:j=m:=by omega
     have hall:e.kids.take j=e.kids:=List.take_of_length_le (by rw[←HM.out];exact Nat.le_refl _);have Rt:=Lib.hid hall;clear hall
     go_wp2
     rw[HF.out];refine⟨0,n,rfl,⟨fun _=>?_,fun _=>rfl⟩,fun _=>?_,HB.out⟩
     ·exact Tp.out.2 (by have:=HKS.out;rw[Rt.out]at this;exact this)
     ·have:=HN.out;rw[Rt.out]at this;have h2:=HS.out;omega
theorem p8(A:Option Addr)(c:Nat)(e:Ex)(w:World)(hs:e.size≤60)(he:BK w A c e):Calls Tryz.prog 32 #[dz A c e] w fun r w'=>∃x:Int,r=.returned (.int .i64 x)∧(x=0↔e.o_)∧Below w.heap.size w w':=by
 obtain⟨F,HF⟩:=aJ (fun(r:Ending)(w':World)=>∃x:Int,r=.returned (.int .i64 x)∧(x=0↔e.o_)∧Below w.heap.size w w');rw[←HF.out];obtain⟨W0,hW0⟩:∃W0,W0=w.alloc (.cells (bN A c e) 75):=⟨_,rfl⟩;have hb0:Below w.heap.size w W0:=by rw[hW0];exact(Below.refl _ _).alloc (Nat.le_refl _) _
 have cP:=F8 60 A c 1 0 e W0 hs (by omega) (by omega) (he.below hb0);have hx0:W0.heap[w.heap.size]?=some (.cells (bN A c e) 75 (0,0)):=by rw[hW0];exact heap_alloc_new _ _
 unfold dz at cP⊢;unfold bN at cP hx0 hW0⊢;have z0:=au hx0 0 rfl;have z1:=au hx0 1 rfl;have z2:=au hx0 2 rfl;have hlx:e.kids.length≤9223372036854775807:=by have:=he.cap;have:=he.kY;unfold maxLen at this;omega
 have HC:=Lib.hid cP;have HB:=Lib.hid hb0;clear cP hb0 hx0 he;go_in;go_wp2_with fail;rw[←hW0];clear hW0;go_wp2_with fail;refine(HC.out).mono ?_;rintro r w2 ⟨x',m',rfl,hxo,Rq,hb2⟩;have HB2:=Lib.hid hb2;have UF:=Lib.hid hxo;clear hb2 hxo Rq;go_wp2_with fail;rw[HF.out];exact⟨x',rfl,UF.out,HB.out.trans (HB2.out.mono HB.out.size)⟩
section
section
variable {w w':World} {v u x:Value} {m B n:Nat} {g f h:Nat→Bool}
theorem sV(h:Tb w v m g)(hm:m≤100000):Calls Tryz.prog 128 #[v] w fun r w'=>∃u,r=.returned u∧qh w.heap.size w' u m (fun i=>!g i)∧Below w.heap.size w w':=by
 obtain⟨F,HF⟩:=aJ (fun(r:Ending)(w':World)=>∃u,r=.returned u∧qh w.heap.size w' u m (fun i=>!g i)∧Below w.heap.size w w');rw[←HF.out];obtain⟨b,c,rfl⟩:=h.shape;have hmk:=OG m hm;have HT:=Lib.hid h;have hbl:=h.lt;have KF:=Lib.hid (nS w m);obtain⟨W0,hW0⟩:∃W0,W0=w.alloc (.cells (madeCells #[.bool false] m) 4):=⟨_,rfl⟩;have HB0:=Lib.hid (show Below w.heap.size w W0 by rw[hW0];exact(Below.refl _ _).alloc (Nat.le_refl _) _);rw[←hW0]at KF;clear h;go_in
 go_wp2
 rw[←hW0];clear hW0
 go_loopg [4,8,9,10,11,12,13,14,15,16,17,18,19,20,21] m (fun q v4 v8 v9 v10 v11 v12 v13 v14 v15 v16 v17 v18 v19 v20 v21 wx=>∃k:Nat,q=m-k∧k≤m∧v4=.int .i64 (k:Nat)∧Rw wx 4 1 m m w.heap.size (fun i=>[.bool (if i<k then !g i else false)])∧Below w.heap.size w wx)
 case atStart=>exact⟨0,rfl,Nat.zero_le _,rfl,KF.out.congr (fun i hi j hj=>by simp),HB0.out⟩
 case round=>
  obtain⟨k,rfl,hk,rfl,hr,hb⟩:=hrel;have HR:=Lib.hid hr;have HB:=Lib.hid hb
  by_cases hlt:k<m
  ·have hki:(k:Int)<(m:Int):=by omega
   have z:=hr.cell (i:=k) (j:=0) hlt (by omega);have zf:=hr.frozen k;simp only[Nat.mul_one,Nat.add_zero,List.getElem?_cons_zero]at z;have x0:=(HT.out.below hb).cell hlt;clear hr hb
   go_wp2
   go_roundg (m-(k+1))
   case rel=>
    refine⟨k+1,rfl,by omega,by go_num,(HR.out.set1 hlt (.bool (!g k))).congr (fun i hi k' hk'=>?_),HB.out.setCell (p:=⟨w.heap.size,k,none⟩) (Nat.le_refl _) _⟩
    by_cases e:i=k
    ·subst e;simp
    ·by_cases e2:i<k
     ·rw[if_neg e,if_pos e2,if_pos (by omega)]
     ·rw[if_neg e,if_neg e2,if_neg (by omega)]
   case measure=>omega
  ·obtain rfl:k=m:=by omega
   clear hr hb
   go_wp2
   rw[HF.out];exact⟨_,rfl,⟨_,_,rfl,Nat.le_refl _,HR.out.congr (fun i hi j hj=>by rw[if_pos hi])⟩,HB.out⟩
theorem KR(hf:Tb w v m f)(hg:Tb w u m g)(hh:Tb w x m h)(hm:m≤100000):Calls Tryz.prog 42 #[v,u,x] w fun r w'=>∃u,r=.returned u∧qh w.heap.size w' u m (fun i=>if f i then g i else h i)∧Below w.heap.size w w':=by
 obtain⟨F,HF⟩:=aJ (fun(r:Ending)(w':World)=>∃u,r=.returned u∧qh w.heap.size w' u m (fun i=>if f i then g i else h i)∧Below w.heap.size w w');rw[←HF.out];obtain⟨bf,cf,rfl⟩:=hf.shape;obtain⟨bg,cg,rfl⟩:=hg.shape;obtain⟨bh,ch,rfl⟩:=hh.shape;have hmk:=OG m hm;have HTF:=Lib.hid hf;have HTG:=Lib.hid hg;have HTH:=Lib.hid hh;have lf:=hf.lt;have lg:=hg.lt;have lh:=hh.lt;have KF:=Lib.hid (nS w m);obtain⟨W0,hW0⟩:∃W0,W0=w.alloc (.cells (madeCells #[.bool false] m) 4):=⟨_,rfl⟩;have HB0:=Lib.hid (show Below w.heap.size w W0 by rw[hW0];exact(Below.refl _ _).alloc (Nat.le_refl _) _);obtain⟨bo,xK⟩:∃bo,bo=w.heap.size:=⟨_,rfl⟩;rw[←hW0,←xK]at KF;have nf:¬bf=bo:=by omega
 have ng:¬bg=bo:=by omega
 have nh:¬bh=bo:=by omega
 have hle:w.heap.size≤bo:=by omega
 have Vk:=Lib.hid hle;clear hf hg hh;go_in
 go_wp2
 rw[←hW0,←xK];clear hW0 xK hle
 go_loopg [8,12,13,14,15,16,17,18,19,20,21,22,23,24,25,26,27,28,29,30,31,32,33,34,35] m (fun q v8 v12 v13 v14 v15 v16 v17 v18 v19 v20 v21 v22 v23 v24 v25 v26 v27 v28 v29 v30 v31 v32 v33 v34 v35 wx=>∃k:Nat,q=m-k∧k≤m∧v8=.int .i64 (k:Nat)∧Rw wx 4 1 m m bo (fun i=>[.bool (if i<k then(if f i then g i else h i)else false)])∧Below w.heap.size w wx)
 case atStart=>exact⟨0,rfl,Nat.zero_le _,rfl,KF.out.congr (fun i hi j hj=>by simp),HB0.out⟩
 case round=>
  obtain⟨k,rfl,hk,rfl,hr,hb⟩:=hrel;have HR:=Lib.hid hr;have HB:=Lib.hid hb
  by_cases hlt:k<m
  ·have hki:(k:Int)<(m:Int):=by omega
   have z:=hr.cell (i:=k) (j:=0) hlt (by omega);have zf:=hr.frozen k;have zl:=hr.lt;simp only[Nat.mul_one,Nat.add_zero,List.getElem?_cons_zero]at z;have x0:=(HTF.out.below hb).cell hlt;have x1:=(HTG.out.below hb).cell hlt;have x2:=(HTH.out.below hb).cell hlt;clear hr hb
   cases WI:f k with
   |false=>
    rw[WI]at x0;have HFK:=Lib.hid WI;clear WI
    go_wp2
    go_roundg (m-(k+1))
    case rel=>
     refine⟨k+1,rfl,by omega,by go_num,(HR.out.set1 hlt (.bool (h k))).congr (fun i hi k' hk'=>?_),HB.out.setCell (p:=⟨bo,k,none⟩) Vk.out _⟩
     by_cases e:i=k
     ·subst e;rw[HFK.out];simp
     ·by_cases e2:i<k
      ·rw[if_neg e,if_pos e2,if_pos (by omega)]
      ·rw[if_neg e,if_neg e2,if_neg (by omega)]
    case measure=>omega
   |true=>
    rw[WI]at x0;have HFK:=Lib.hid WI;clear WI
    go_wp2
    go_roundg (m-(k+1))
    case rel=>
     refine⟨k+1,rfl,by omega,by go_num,((HR.out.set1 hlt (.bool (h k))).set1 hlt (.bool (g k))).congr (fun i hi k' hk'=>?_),(HB.out.setCell (p:=⟨bo,k,none⟩) Vk.out _).setCell (p:=⟨bo,k,none⟩) Vk.out _⟩
     by_cases e:i=k
     ·subst e;rw[HFK.out];simp
     ·by_cases e2:i<k
      ·rw[if_neg e,if_neg e,if_pos e2,if_pos (by omega)]
      ·rw[if_neg e,if_neg e,if_neg e2,if_neg (by omega)]
    case measure=>omega
  ·obtain rfl:k=m:=by omega
   clear hr hb
   go_wp2
   rw[HF.out];exact⟨_,rfl,⟨_,_,rfl,Vk.out,HR.out.congr (fun i hi j hj=>by rw[if_pos hi])⟩,HB.out⟩
theorem ze(hf:Tb w v m f)(hg:Tb w u m g)(hm:m≤100000):Calls Tryz.prog 10 #[v,u] w fun r w'=>∃u,r=.returned u∧qh w.heap.size w' u m (fun i=>f i&&g i)∧Below w.heap.size w w':=by
 obtain⟨F,HF⟩:=aJ (fun(r:Ending)(w':World)=>∃u,r=.returned u∧qh w.heap.size w' u m (fun i=>f i&&g i)∧Below w.heap.size w w');rw[←HF.out];have HC:=Lib.hid (Bh hf hm);have HFG:=Lib.hid (And.intro hf hg);clear hf hg;go_in;go_wp2_with fail;refine(HC.out).mono ?_;rintro r w1 ⟨y,rfl,ht,hb⟩;have c2:=KR (HFG.out.1.below hb) (HFG.out.2.below hb) ht.tb hm;have HD:=Lib.hid (And.intro c2 hb);clear c2 hb ht;go_wp2_with fail;refine(HD.out.1).mono ?_;rintro r w2 ⟨z,rfl,ht,hb⟩;have HE:=Lib.hid (And.intro ht hb);clear ht hb;go_wp2_with fail;rw[HF.out];refine⟨z,rfl,(HE.out.1.mono HD.out.2.size).congr (fun i hi=>?_),HD.out.2.trans (HE.out.2.mono HD.out.2.size)⟩;cases f i<;>rfl
theorem OL(hf:Tb w v m f)(hg:Tb w u m g)(hm:m≤100000):Calls Tryz.prog 64 #[v,u] w fun r w'=>∃u,r=.returned u∧qh w.heap.size w' u m (fun i=>f i||g i)∧Below w.heap.size w w':=by
 obtain⟨F,HF⟩:=aJ (fun(r:Ending)(w':World)=>∃u,r=.returned u∧qh w.heap.size w' u m (fun i=>f i||g i)∧Below w.heap.size w w');rw[←HF.out];have HC:=Lib.hid (sV hf hm);have HG:=Lib.hid hg;clear hf hg;go_in;go_wp2_with fail;refine(HC.out).mono ?_;rintro r w1 ⟨y,rfl,ht,hb⟩;have HD:=Lib.hid (And.intro (sV (HG.out.below hb) hm) (And.intro ht hb));clear hb ht;go_wp2_with fail;refine(HD.out.1).mono ?_;rintro r w2 ⟨z,rfl,ht,hb⟩;have HE:=Lib.hid (And.intro (ze (HD.out.2.1.tb.below hb) ht.tb hm) (HD.out.2.2.trans (hb.mono HD.out.2.2.size)));clear ht hb;go_wp2_with fail;refine(HE.out.1).mono ?_;rintro r w3 ⟨z3,rfl,ht,hb⟩;have HE3:=Lib.hid (And.intro (sV ht.tb hm) (HE.out.2.trans (hb.mono HE.out.2.size)));clear ht hb;go_wp2_with fail;refine(HE3.out.1).mono ?_;rintro r w4 ⟨z4,rfl,ht,hb⟩;have HE4:=Lib.hid (And.intro ht hb);clear ht hb;go_wp2_with fail;rw[HF.out];refine⟨z4,rfl,(HE4.out.1.mono HE3.out.2.size).congr (fun i hi=>?_),HE3.out.2.trans (HE4.out.2.mono HE3.out.2.size)⟩;cases f i<;>cases g i<;>rfl
end
end
section
section
variable {w w':World} {v u x:Value} {m B n:Nat} {g f h:Nat→Bool}
theorem Vl{i v:Nat}(h:Bd.iy i v=true):2^v≤i:=by
 unfold Bd.iy at h
 rcases Nat.lt_or_ge i (2^v)with h1|h1
 ·rw[Nat.div_eq_of_lt h1]at h;cases h
 ·exact h1
theorem zh(hf:Tb w u m f)(hm:m≤100000)(v:Nat)(hv:v≤16)(yes:Bool)(hin:∀i,i<m→Bd.jX i v yes<m):Calls Tryz.prog 23 #[u,.int .i64 (v:Nat),.bool yes] w fun r w'=>∃u,r=.returned u∧qh w.heap.size w' u m (fun i=>f (Bd.jX i v yes))∧Below w.heap.size w w':=by
 obtain⟨F,HF⟩:=aJ (fun(r:Ending)(w':World)=>∃u,r=.returned u∧qh w.heap.size w' u m (fun i=>f (Bd.jX i v yes))∧Below w.heap.size w w');rw[←HF.out];obtain⟨bf,cf,rfl⟩:=hf.shape;have hmk:=OG m hm;have HTF:=Lib.hid hf;have lf:=hf.lt;have S_:=Lib.hid hin;have KF:=Lib.hid (nS w m);obtain⟨W0,hW0⟩:∃W0,W0=w.alloc (.cells (madeCells #[.bool false] m) 4):=⟨_,rfl⟩;have HB0:=Lib.hid (show Below w.heap.size w W0 by rw[hW0];exact(Below.refl _ _).alloc (Nat.le_refl _) _);obtain⟨bo,xK⟩:∃bo,bo=w.heap.size:=⟨_,rfl⟩;rw[←hW0,←xK]at KF;have nf:¬bf=bo:=by omega
 have hle:w.heap.size≤bo:=by omega
 have Vk:=Lib.hid hle;clear hf hin;go_in
 go_wp2
 rw[←hW0,←xK];clear hW0 xK hle
 go_loopg [8,9,13,14,15,16,17,18,19,20,21,22,23,24,25,26,27,28,29,30,31,32,33,34,35,36,37,38,39,40,41,42,43,44,45,46,47,48] m (fun q v8 v9 v13 v14 v15 v16 v17 v18 v19 v20 v21 v22 v23 v24 v25 v26 v27 v28 v29 v30 v31 v32 v33 v34 v35 v36 v37 v38 v39 v40 v41 v42 v43 v44 v45 v46 v47 v48 wx=>∃k:Nat,q=m-k∧k≤m∧v8=.int .i64 (k:Nat)∧Rw wx 4 1 m m bo (fun i=>[.bool (if i<k then f (Bd.jX i v yes)else false)])∧Below w.heap.size w wx)
 case atStart=>exact⟨0,rfl,Nat.zero_le _,rfl,KF.out.congr (fun i hi j hj=>by simp),HB0.out⟩
 case round=>
  obtain⟨k,rfl,hk,rfl,hr,hb⟩:=hrel;have HR:=Lib.hid hr;have HB:=Lib.hid hb
  by_cases hlt:k<m
  ·have hki:(k:Int)<(m:Int):=by omega
   have z:=hr.cell (i:=k) (j:=0) hlt (by omega);have zf:=hr.frozen k;have zl:=hr.lt;simp only[Nat.mul_one,Nat.add_zero,List.getElem?_cons_zero]at z;have cT:=fun W=>DJ k v (by omega) (by omega) W;have cB:=fun W=>oM v (show v≤20 by omega) W;have hkk:=S_.out k hlt;have x0:=(HTF.out.below hb).cell hkk;obtain⟨kk,hq⟩:∃kk,kk=Bd.jX k v yes:=⟨_,rfl⟩;rw[←hq]at x0 hkk;have ge:=Vl (i:=k) (v:=v);obtain⟨q,hqq⟩:∃q,q=2^v:=⟨_,rfl⟩;have XG:q≤1048576:=by rw[hqq];exact OH (by omega)
   have hdef:kk=if Bd.iy k v=yes then k else if yes then k+q else k-q:=by rw[hq,hqq];rfl
   rw[←hqq]at ge cB;have HQ:=Lib.hid hq;have lI:=Lib.hid cB;clear hr hb hq hqq cB;obtain⟨y,hy⟩:∃y,y=yes:=⟨_,rfl⟩;rw[←hy]at hdef⊢;have HY:=Lib.hid hy;clear hy;cases ha:Bd.iy k v<;>cases y<;>rw[ha]at cT hdef ge<;>have HCT:=Lib.hid cT<;>clear cT ha<;>simp only[if_true,if_false,Bool.true_eq_false,Bool.false_eq_true]at hdef
   all_goals try have hge:=ge rfl
   all_goals clear ge
   all_goals rw[hdef]at x0 hkk
   all_goals rw[hdef]at HQ
   all_goals
    try have hs1:((k:Nat):Int)+((q:Nat):Int)<((m:Nat):Int):=by omega
    try have hs2:(((k:Nat):Int)+((q:Nat):Int)).toNat=k+q:=by omega
    try have hs3:(0:Int)≤((k:Nat):Int)-((q:Nat):Int):=by omega
    try have hs4:((k:Nat):Int)-((q:Nat):Int)<((m:Nat):Int):=by omega
    try have hs5:(((k:Nat):Int)-((q:Nat):Int)).toNat=k-q:=by omega
   all_goals clear hdef
   all_goals
    go_wp2_with (first|(go_at_call 84;with_reducible refine(HCT.out _).mono ?_;rintro r w' ⟨rfl,hw⟩;rw[hw];clear hw)|(go_at_call 85;with_reducible refine(lI.out _).mono ?_;rintro r w' ⟨rfl,hw⟩;rw[hw];clear hw))
    have e9:=HY.out;subst e9
    go_roundg (m-(k+1))
    case rel=>
     refine⟨k+1,rfl,by omega,by go_num,(HR.out.set1 hlt _).congr (fun i hi k' hk'=>?_),HB.out.setCell (p:=⟨bo,k,none⟩) Vk.out _⟩
     by_cases e:i=k
     ·subst e;rw[if_pos rfl,if_pos (by omega),←HQ.out]
     ·by_cases e2:i<k
      ·rw[if_neg e,if_pos e2,if_pos (by omega)]
      ·rw[if_neg e,if_neg e2,if_neg (by omega)]
    case measure=>omega
  ·obtain rfl:k=m:=by omega
   clear hr hb
   go_wp2
   rw[HF.out];exact⟨_,rfl,⟨_,_,rfl,Vk.out,HR.out.congr (fun i hi j hj=>by rw[if_pos hi])⟩,HB.out⟩
end
end
end Go.Proofs.YtpijlhlpejlhhaaGreat
