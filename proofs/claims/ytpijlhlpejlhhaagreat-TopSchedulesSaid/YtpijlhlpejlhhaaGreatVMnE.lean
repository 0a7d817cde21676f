/- Walks and plain words: MnE MnF MnG MnH. -/
import Derived.Test.YtpijlhlpejlhhaaGreatVMnB
import Derived.Test.YtpijlhlpejlhhaaGreatVStV
import Derived.Test.YtpijlhlpejlhhaaGreatVPmA
namespace Go.Proofs.YtpijlhlpejlhhaaGreat
open Go.RowKit
set_option linter.unusedVariables false
set_option maxRecDepth 100000
set_option maxHeartbeats 8000000
section
section
variable {K:Nat→Nat} {w:World} {p n room:Nat} {A:ML} {M:Bd.MS} {t:Nat→iN} {sb:Nat}
/-- New memory has role 0. -/
theorem bX(K:Nat→Nat){w w':World}(hb:Below w.heap.size w w'):∃K',(∀R,aj R K w K' w')∧∀q,w.heap.size≤q→K' q=0:=
 ⟨fun q=>if q<w.heap.size then K q else 0,fun R=>⟨Only.of_below hb,fun q hq=>if_pos hq⟩,fun q hq=>if_neg (by omega)⟩
theorem jT.clear(h:jT K w p A n room M t){w':World}(hm:iq K w' A.mb (fun _=>fZ))(tt:aj (fun r=>r=12∨r=13) K w K w'):jT K w' p A n room M (fun _=>fZ)∧aj mR K w K w':=⟨h.EN hm tt,tt.mono (fun r hr=>by unfold mR;omega)⟩
theorem Inv.edges(hi:Bd.Inv n room M)(hrm:room≤1048576):∀i d,M.S.nd i=some d→d.v<n∧d.lo<4611686018427387904∧d.hi<4611686018427387904:=eF hi.gi hi.si hrm
theorem yS{r:Nat}(h:sR r):mR r:=by unfold sR at h;unfold mR;omega
theorem AB(hi:Bd.Inv n room M)(hn:n≤1000000)(hrm:room≤1048576)(h:bB K w p n room M t) :
 Calls Tryz.prog 151 #[.pointer (some ⟨p,0,none⟩)] w fun r w'=>(∃k:Nat,r=.returned (.int .i64 (k:Nat)))∧∃K',bB K' w' p n room M.Lp (fun _=>fZ)∧aj mR K w K' w':=by
 obtain⟨F,HF⟩:=aJ (fun(r:Ending)(w':World)=>(∃k:Nat,r=.returned (.int .i64 (k:Nat)))∧∃K',bB K' w' p n room M.Lp (fun _=>fZ)∧aj mR K w K' w');rw[←HF.out];obtain⟨A,h⟩:=h;have y1:w.cell? ⟨p,1,none⟩=some (.pointer (some ⟨A.mb,0,none⟩)):=au h.row 1 rfl;have cM:=pU h.memo;have HH:=Lib.hid h;have HI:=Lib.hid hi;clear h hi;go_in
 go_wp2_with (first|(go_at_call 147;with_reducible refine cM.mono ?_;rintro r w1 ⟨rfl,hm1,t1⟩;obtain⟨h1,t1⟩:=HH.out.clear hm1 t1;have y0:w1.cell? ⟨p,0,none⟩=some (.pointer (some ⟨A.sb,0,none⟩)):=au h1.row 0 rfl;have cC:=jA HI.out.si hrm (Inv.edges HI.out hrm) hn K w1 h1.store;have H1:=Lib.hid (And.intro h1 t1);clear h1 t1 hm1 cM)|(go_at_call 163;with_reducible refine cC.mono ?_;rintro r w2 ⟨⟨kc,rfl⟩,K2,h2,t2⟩;have H2:=Lib.hid (And.intro h2 t2);clear h2 t2 cC))
 rw[HF.out];exact⟨⟨kc,rfl⟩,K2,⟨A,H1.out.1.CV (D':=M.D) H2.out.1 H2.out.2⟩,H1.out.2.trans (H2.out.2.mono (fun r=>yS))⟩
theorem FK(hi:Bd.Inv n room M)(hn:n≤1000000)(h0:0<n)(h:bB K w p n room M t) :
 Calls Tryz.prog 97 #[.pointer (some ⟨p,0,none⟩)] w fun r w'=>∃v,r=.returned v∧sK w v M.ord w':=by
 obtain⟨F,HF⟩:=aJ (fun(r:Ending)(w':World)=>∃v,r=.returned v∧sK w v M.ord w');rw[←HF.out];obtain⟨A,h⟩:=h;obtain⟨L,hs⟩:=h.store;have c:=vY hs.toStJ hn h0 hi.od.len;have y0:w.cell? ⟨p,0,none⟩=some (.pointer (some ⟨A.sb,0,none⟩)):=au h.row 0 rfl;clear h hs hi;go_in
 go_wp2_with (go_at_call 146;with_reducible refine c.mono ?_;rintro r w' ⟨v,rfl,hv⟩;have HV:=Lib.hid hv;clear hv)
 rw[HF.out];exact⟨_,rfl,HV.out⟩
/-- The store's exchange at any level. -/
theorem wC(hi:Bd.Inv n room M)(h0:0<n)(hn:n≤1000000)(hrm:room≤1048576)(hx:M.next≤1000000000)(k:Int)(h:dG K w sb n room M.S M.ah M.ord) :
 Calls Tryz.prog 148 #[.pointer (some ⟨sb,0,none⟩),.int .i64 k] w fun r w'=>∃(e:Int)(S':Bd.St)(fV:Nat→Nat)(ji:List Nat)(D':Nat→Bd.BF)(K':Nat→Nat),r=.returned (.int .i64 e)∧Bd.Inv n room {M with S:=S',ah:=fV,ord:=ji,D:=D'}∧Bd.Still M {M with S:=S',ah:=fV,ord:=ji,D:=D'}∧dG K' w' sb n room S' fV ji∧aj sR K w K' w' ∧
  (∀k0 x y,k=(k0:Nat)→M.ord[k0]?=some x→M.ord[k0+1]?=some y→M.S.fits room x y→e=0∧ji=Bd.swo M.ord k0 x y∧S'=M.S.swap n room x y):=by
 by_cases hk:0≤k∧k<(n:Int)-1
 ·obtain⟨k0,rfl⟩:∃k0:Nat,k=(k0:Int):=⟨k.toNat,by omega⟩;have hk0:k0+1<n:=by omega
  have hol:=hi.od.len;obtain⟨x,hox⟩:∃x,M.ord[k0]?=some x:=⟨_,List.getElem?_eq_getElem (by omega)⟩;obtain⟨y,hoy⟩:∃y,M.ord[k0+1]?=some y:=⟨_,List.getElem?_eq_getElem (by omega)⟩;obtain⟨hk1,ey⟩:=List.getElem?_eq_some_iff.1 hoy;obtain⟨hk0',ex⟩:=List.getElem?_eq_some_iff.1 hox;have lx:M.ah x=k0:=by rw[←ex];exact hi.od.at' k0 hk0'
  have ly:M.ah y=k0+1:=by rw[←ey];exact hi.od.at' (k0+1) hk1
  have xn:x<n:=by rw[←ex];exact hi.od.lt _ _
  have yn:y<n:=by rw[←ey];exact hi.od.lt _ _
  have hxy:x≠y:=fun e=>by rw[e,ly]at lx;omega
  obtain⟨D',hI,hS⟩:=hi.swap (k:=k0) hox hoy;refine(J7 hi.gi hi.si hrm hn xn yn hxy hk0 hox hoy lx ly hol K w h (fun i=>Inv.hxb hi hx i)).mono ?_;intro r w' hq
  by_cases hf:M.S.fits room x y
  ·rw[if_pos hf]at hq;obtain⟨hr,K',h1,h2⟩:=hq;unfold Bd.MS.Hf at hI hS;rw[if_pos hf,if_pos hf]at hI hS;refine⟨0,_,_,_,D',K',hr,hI,hS,h1,h2,fun k1 x1 y1 e1 e2 e3 e4=>?_⟩;obtain rfl:k1=k0:=by omega
   rw[hox]at e2;rw[hoy]at e3;obtain rfl:=Option.some.inj e2;obtain rfl:=Option.some.inj e3;exact⟨rfl,rfl,rfl⟩
  ·rw[if_neg hf]at hq;obtain⟨hr,K',h1,h2⟩:=hq;unfold Bd.MS.Hf at hI hS;rw[if_neg hf,if_neg hf]at hI hS;refine⟨7,_,_,_,D',K',hr,hI,hS,h1,h2,fun k1 x1 y1 e1 e2 e3 e4=>?_⟩;obtain rfl:k1=k0:=by omega
   rw[hox]at e2;rw[hoy]at e3;obtain rfl:=Option.some.inj e2;obtain rfl:=Option.some.inj e3;exact absurd e4 hf
 ·refine(Az k (by omega) hn h0 K w h).mono ?_;rintro r w' ⟨hr,rfl⟩;refine⟨2,M.S,M.ah,M.ord,M.D,K,hr,hi,Bd.Still.refl,h,aj.refl,fun k1 x1 y1 e1 e2 e3 e4=>?_⟩;obtain⟨h3,-⟩:=List.getElem?_eq_some_iff.1 e3;have:=hi.od.len;omega
theorem Kh(hi:Bd.Inv n room M)(h0:0<n)(hn:n≤1000000)(hrm:room≤1048576)(hx:M.next≤1000000000)(k:Int)(h:bB K w p n room M t) :
 Calls Tryz.prog 98 #[.pointer (some ⟨p,0,none⟩),.int .i64 k] w fun r w'=>∃(e:Int)(S':Bd.St)(fV:Nat→Nat)(ji:List Nat)(D':Nat→Bd.BF)(K':Nat→Nat),r=.returned (.int .i64 e)∧Bd.Inv n room {M with S:=S',ah:=fV,ord:=ji,D:=D'}∧Bd.Still M {M with S:=S',ah:=fV,ord:=ji,D:=D'}∧bB K' w' p n room {M with S:=S',ah:=fV,ord:=ji,D:=D'} (fun _=>fZ)∧aj mR K w K' w' ∧
  (∀k0 x y,k=(k0:Nat)→M.ord[k0]?=some x→M.ord[k0+1]?=some y→M.S.fits room x y→e=0∧ji=Bd.swo M.ord k0 x y∧S'=M.S.swap n room x y):=by
 obtain⟨F,HF⟩:=aJ (fun(r:Ending)(w':World)=>∃(e:Int)(S':Bd.St)(fV:Nat→Nat)(ji:List Nat)(D':Nat→Bd.BF)(K':Nat→Nat),r=.returned (.int .i64 e)∧Bd.Inv n room {M with S:=S',ah:=fV,ord:=ji,D:=D'}∧Bd.Still M {M with S:=S',ah:=fV,ord:=ji,D:=D'}∧bB K' w' p n room {M with S:=S',ah:=fV,ord:=ji,D:=D'} (fun _=>fZ)∧aj mR K w K' w' ∧
  (∀k0 x y,k=(k0:Nat)→M.ord[k0]?=some x→M.ord[k0+1]?=some y→M.S.fits room x y→e=0∧ji=Bd.swo M.ord k0 x y∧S'=M.S.swap n room x y))
 rw[←HF.out];obtain⟨A,h⟩:=h;have y1:w.cell? ⟨p,1,none⟩=some (.pointer (some ⟨A.mb,0,none⟩)):=au h.row 1 rfl;have cM:=pU h.memo;have HH:=Lib.hid h;have HI:=Lib.hid hi;clear h hi;go_in
 go_wp2_with (first|(go_at_call 147;with_reducible refine cM.mono ?_;rintro r w1 ⟨rfl,hm1,t1⟩;obtain⟨h1,t1⟩:=HH.out.clear hm1 t1;have y0:w1.cell? ⟨p,0,none⟩=some (.pointer (some ⟨A.sb,0,none⟩)):=au h1.row 0 rfl;have cC:=wC HI.out h0 hn hrm hx k h1.store;have H1:=Lib.hid (And.intro h1 t1);clear h1 t1 hm1 cM)|(go_at_call 148;with_reducible refine cC.mono ?_;rintro r w2 ⟨e,S',fV,ji,D',K2,rfl,i2,s2,h2,t2,f2⟩;have H2:=Lib.hid (And.intro h2 t2);have I2:=Lib.hid (And.intro i2 (And.intro s2 f2));clear h2 t2 i2 s2 f2 cC))
 rw[HF.out];exact⟨e,S',fV,ji,D',K2,rfl,I2.out.1,I2.out.2.1,⟨A,H1.out.1.CV H2.out.1 H2.out.2⟩,H1.out.2.trans (H2.out.2.mono (fun r=>yS)),I2.out.2.2⟩
end
end
section
section
variable {K:Nat→Nat} {w:World} {p n room:Nat} {A:ML} {M:Bd.MS} {t:Nat→iN}
theorem dG.ex{sb:Nat}{S:Bd.St}{ah:Nat→Nat}{ord:List Nat}(h:dG K w sb n room S ah ord):∃L,pF K w sb L n room S ah ord:=h
theorem Sl.shape{T k:Nat}{v:Value}{E:Nat→List Value}(h:Sl w T k v n E):∃p c,v=.slice p n c:=by
 rcases h with⟨h1,h2⟩|⟨g,c,h1,-⟩
 ·exact⟨none,0,by rw[h1,h2]⟩
 ·exact⟨_,_,h1⟩
theorem Dr(hi:Bd.Inv n room M)(h0:0<n)(hn:n≤64)(hrm:room≤1048576)(hx:M.next≤1000000000)(ev:Bd.Ev)(h:bB K w p n room M t) :
 Calls Tryz.prog 150 #[.pointer (some ⟨p,0,none⟩),.agg #[.int .i64 ev.after,.int .i64 ev.kind,.int .i64 ev.level]] w fun r w'=>r=.returned (.tuple #[])∧∃M' K',Bd.Inv n room M'∧Bd.Still M M'∧bB K' w' p n room M' (fun _=>fZ)∧aj mR K w K' w':=by
 obtain⟨F,HF⟩:=aJ (fun(r:Ending)(w':World)=>r=.returned (.tuple #[])∧∃M' K',Bd.Inv n room M'∧Bd.Still M M'∧bB K' w' p n room M' (fun _=>fZ)∧aj mR K w K' w');rw[←HF.out];have hn2:n≤1000000:=by omega
 obtain⟨A,h⟩:=h;obtain⟨W0,hW0⟩:∃W0,W0=w.alloc (.cells #[.int .i64 ev.after,.int .i64 ev.kind,.int .i64 ev.level] 73):=⟨_,rfl⟩;obtain⟨K0,t0,k0⟩:=bX K (show Below w.heap.size w W0 by rw[hW0];exact(Below.refl _ _).alloc (Nat.le_refl _) _);have hA:=h.aG (t0 (fun _=>False)) (fun r h=>h.elim);have hbx:W0.heap[w.heap.size]?=some (.cells #[.int .i64 ev.after,.int .i64 ev.kind,.int .i64 ev.level] 73 (0,0))∧K0 w.heap.size=0:=⟨by rw[hW0];exact heap_alloc_new _ _,k0 _ (Nat.le_refl _)⟩;have bx1:∀{K1:Nat→Nat}{w1:World},aj mR K0 W0 K1 w1→w1.heap[w.heap.size]?=some (.cells #[.int .i64 ev.after,.int .i64 ev.kind,.int .i64 ev.level] 73 (0,0))∧K1 w.heap.size=0:=fun tt=>⟨tt.obj hbx.1 (by rw[hbx.2];unfold mR;omega),(tt.role hbx.1).trans hbx.2⟩;have y1:W0.cell? ⟨p,1,none⟩=some (.pointer (some ⟨A.mb,0,none⟩)):=au hA.row 1 rfl;have cM:=pU hA.memo;have HH:=Lib.hid hA;have HI:=Lib.hid hi;have HT0:=Lib.hid t0;clear h hi hA t0 k0 hbx
 by_cases hk1:ev.kind=1
 ·have aaV:(ev.kind==1)=true:=by simp[hk1]
  have HK:=Lib.hid hk1;clear hk1;go_in
  go_upto_region 1 with fail
  rw[←hW0];clear hW0
  go_wp2_with (first|(go_at_call 147;with_reducible refine cM.mono ?_;rintro r w1 ⟨rfl,hm1,t1⟩;obtain⟨h1,t1⟩:=(HH.out).clear hm1 t1;have y0:w1.cell? ⟨p,0,none⟩=some (.pointer (some ⟨A.sb,0,none⟩)):=au h1.row 0 rfl;have hb1:=bx1 t1;have v1:w1.cell? ⟨w.heap.size,1,none⟩=some (.int .i64 ev.kind):=au hb1.1 1 rfl;have v2:w1.cell? ⟨w.heap.size,2,none⟩=some (.int .i64 ev.level):=au hb1.1 2 rfl;have cC:=jA HI.out.si hrm (Inv.edges HI.out hrm) hn2 K0 w1 h1.store;have H1:=Lib.hid (And.intro h1 t1);clear h1 t1 hm1 hb1 cM)|(go_at_call 163;with_reducible refine cC.mono ?_;rintro r w2 ⟨⟨kc,rfl⟩,K2,h2,t2⟩;have H2:=Lib.hid (And.intro h2 t2);clear h2 t2 cC))
  refine bodyPost_ret (results_none rfl _ _ _) rfl ?_;rw[HF.out];exact⟨rfl,M.Lp,K2,HI.out.Lp,Bd.xZ,⟨A,H1.out.1.CV (D':=M.D) H2.out.1 H2.out.2⟩,(HT0.out mR).trans (H1.out.2.trans (H2.out.2.mono (fun r=>yS)))⟩
 have aaV:(ev.kind==1)=false:=by simp[hk1]
 by_cases hk2:ev.kind=2
 ·have aaW:(ev.kind==2)=true:=by simp[hk2]
  have HK:=Lib.hid hk2;clear hk1 hk2;go_in
  go_upto_region 1 with fail
  rw[←hW0];clear hW0
  go_wp2_with (go_at_call 147;with_reducible refine cM.mono ?_;rintro r w1 ⟨rfl,hm1,t1⟩;obtain⟨h1,t1⟩:=(HH.out).clear hm1 t1;have y0:w1.cell? ⟨p,0,none⟩=some (.pointer (some ⟨A.sb,0,none⟩)):=au h1.row 0 rfl;have hb1:=bx1 t1;have v1:w1.cell? ⟨w.heap.size,1,none⟩=some (.int .i64 ev.kind):=au hb1.1 1 rfl;have v2:w1.cell? ⟨w.heap.size,2,none⟩=some (.int .i64 ev.level):=au hb1.1 2 rfl;skip;have H1:=Lib.hid (And.intro h1 t1);clear h1 t1 hm1 hb1 cM)
  have cC:=wC (K:=K0) (w:=w1.drew) HI.out h0 hn2 hrm hx ev.level (H1.out.1.store.below (Below.refl _ _).drew);have y0d:w1.drew.cell? ⟨p,0,none⟩=some (.pointer (some ⟨A.sb,0,none⟩)):=y0;have v2d:w1.drew.cell? ⟨w.heap.size,2,none⟩=some (.int .i64 ev.level):=v2;refine aM 6 (by kernel_rfl) (by kernel_rfl) ?_;simp only[List.take_succ_cons,List.take_zero,List.drop_succ_cons,List.drop_zero]
  repeat still_step
  refine wpStill_nil ?_
  go_wp2_with (go_at_call 148;with_reducible refine cC.mono ?_;rintro r w2 ⟨e,S',fV,ji,D',K2,rfl,i2,s2,h2,t2,f2⟩;have H2:=Lib.hid (And.intro h2 t2);have I2:=Lib.hid (And.intro i2 s2);clear h2 t2 i2 s2 f2 cC)
  refine bodyPost_ret (results_none rfl _ _ _) rfl ?_;rw[HF.out];have hd:=H1.out.1.aG (w':=w1.drew) (R:=fun _=>False) (aj.refl.drewN 1) (fun _ h=>h.elim);exact⟨rfl,_,K2,I2.out.1,I2.out.2,⟨A,hd.CV H2.out.1 H2.out.2⟩,(HT0.out mR).trans ((H1.out.2.drewN 1).trans (H2.out.2.mono (fun r=>yS)))⟩
 have aaW:(ev.kind==2)=false:=by simp[hk2]
 clear hk1 hk2;go_in
 go_upto_region 1 with fail
 rw[←hW0];clear hW0
 go_wp2_with (first|(go_at_call 147;with_reducible refine cM.mono ?_;rintro r w1 ⟨rfl,hm1,t1⟩;obtain⟨h1,t1⟩:=(HH.out).clear hm1 t1;have y0:w1.cell? ⟨p,0,none⟩=some (.pointer (some ⟨A.sb,0,none⟩)):=au h1.row 0 rfl;have hb1:=bx1 t1;have v1:w1.cell? ⟨w.heap.size,1,none⟩=some (.int .i64 ev.kind):=au hb1.1 1 rfl;have v2:w1.cell? ⟨w.heap.size,2,none⟩=some (.int .i64 ev.level):=au hb1.1 2 rfl;obtain⟨L1,hs1⟩:=h1.store.ex;have cO:=vY hs1.toStJ hn2 h0 HI.out.od.len;clear hs1;have H1:=Lib.hid (And.intro h1 t1);clear h1 t1 hm1 hb1 cM)|(go_at_call 146;with_reducible refine cO.mono ?_;rintro r w2 ⟨v,rfl,hv⟩;have hb2:=hv.Yh;have hw2:=hv.ints;rw[HI.out.od.len]at hw2;have cT:=Kg hw2 h0 hn;have HB2:=Lib.hid hb2;have HW2:=Lib.hid hw2;clear hv hb2 hw2 cO)|(go_at_call 175;with_reducible refine cT.mono ?_;rintro r w3 ⟨u,rfl,hu,hb3⟩;have cS:=FJ (HW2.out.below hb3) hu.ints h0 hn;have HB3:=Lib.hid (HB2.out.trans (hb3.mono HB2.out.size));clear hu hb3 cT)|(go_at_call 174;with_reducible refine cS.mono ?_;rintro r w4 ⟨⟨l,e,m,f,rfl,hl,hm,hnw⟩,hb4⟩;have hl0:=(fun g n c e=>Nat.le_trans HB3.out.size (hnw g n c e));obtain⟨pl,kl,hsl⟩:=hl.shape;have HSL:=Lib.hid hsl;have NM:=Lib.hid hl0;subst hsl;clear hnw hl0;have mM:=Lib.hid (HB3.out.trans (hb4.mono HB3.out.size));have HL:=Lib.hid hl;clear hl hb4 cS))
 obtain⟨K4,t4,k4⟩:=bX K0 mM.out;have HA4:=Lib.hid (H1.out.1.aG (t4 (fun _=>False)) (fun r h=>h.elim));have HT4:=Lib.hid (H1.out.2.trans (t4 mR));have HK4:=Lib.hid k4;have hKl:∀g n c,Value.slice pl m kl=.slice (some ⟨g,0,none⟩) n c→K4 g=0:=fun g n c e=>k4 g (NM.out g n c e);have HKL:=Lib.hid hKl;clear t4 k4 hKl y0 v1 v2
 go_loopg [8,30,31,32,33,34,35,36,37,38,39,40] m (fun q v8 v30 v31 v32 v33 v34 v35 v36 v37 v38 v39 v40 wr=>∃(j:Nat)(K':Nat→Nat)(M':Bd.MS),q=m-j∧j≤m∧v30=.int .i64 (j:Nat)∧Bd.Inv n room M'∧Bd.Still M M'∧(∃A',jT K' wr p A' n room M' (fun _=>fZ))∧aj mR K4 w4 K' wr)
 case atStart=>exact⟨0,K4,M,rfl,Nat.zero_le _,rfl,HI.out,Bd.Still.refl,⟨A,HA4.out⟩,aj.refl⟩
 case round=>
  obtain⟨j,K',M',rfl,hj,rfl,hI,hS,⟨A',hA'⟩,ht⟩:=hrel
  by_cases hlt:j<m
  ·have hji:(j:Int)<(m:Int):=by omega
   obtain⟨g,c,hpl,hrw⟩:∃g c,pl=some ⟨g,0,none⟩∧Rw w4 3 1 m c g (fun i=>[.int .i64 (f i)]):=by
    rcases HL.out with⟨h1,h2⟩|⟨g,c,h1,h2⟩
    ·omega
    ·injection h1 with h3;exact⟨g,c,h3,h2⟩
   subst hpl;have hkg:=HKL.out g m kl rfl;have z0:=(hrw.kept (ht.block hrw.lt (by rw[hkg];unfold mR;omega))).cell (i:=j) (j:=0) hlt (by omega);simp only[Nat.mul_one,Nat.add_zero,List.getElem?_cons_zero]at z0;have y0:wr.cell? ⟨p,0,none⟩=some (.pointer (some ⟨A'.sb,0,none⟩)):=au hA'.row 0 rfl;have cC:=wC hI h0 hn2 hrm (by rw[hS.next];exact hx) (f j) hA'.store;have HA':=Lib.hid hA';have HS:=Lib.hid hS;have HT:=Lib.hid ht;clear hA' hI hS ht hrw hkg
   go_wp2_with (go_at_call 148;with_reducible refine cC.mono ?_;rintro r w5 ⟨e5,S',fV,ji,D',K5,rfl,i5,s5,h5,t5,f5⟩;have H5:=Lib.hid (And.intro h5 t5);have I5:=Lib.hid (And.intro i5 s5);clear h5 t5 i5 s5 f5 cC)
   go_roundg (m-(j+1))
   case rel=>exact⟨j+1,K5,_,rfl,by omega,by simp,I5.out.1,HS.out.trans I5.out.2,⟨A',HA'.out.CV H5.out.1 H5.out.2⟩,HT.out.trans (H5.out.2.mono (fun r=>yS))⟩
   case measure=>omega
  ·obtain rfl:j=m:=by omega
   have HX:=Lib.hid (And.intro hI (And.intro hS (And.intro hA' ht)));clear hI hS hA' ht
   go_wp2
   refine bodyPost_ret (results_none rfl _ _ _) rfl ?_;rw[HF.out];exact⟨rfl,M',K',HX.out.1,HX.out.2.1,⟨A',HX.out.2.2.1⟩,(HT0.out mR).trans (HT4.out.trans HX.out.2.2.2)⟩
end
end
section
/-- An operation's view of the manager. -/
def dL(K:Nat→Nat)(w:World)(xb p:Nat):Prop:=w.heap[xb]?=some (.cells #[.pointer (some ⟨p,0,none⟩)] 167 (0,0))∧K xb=0
/-- A list of edges in memory. -/
def qW(w:World)(v:Value)(l:List Nat):Prop:=Sl w 107 1 v l.length (fun i=>[.int .i64 (l.getD i 0:Nat)])
section
variable {K K':Nat→Nat} {w w':World} {p xb n room:Nat} {A:ML} {M:Bd.MS} {t:Nat→iN} {a e v:Nat}
theorem gM:¬mR 0:=by unfold mR;omega
theorem dL.aG{R:Nat→Prop}(h:dL K w xb p)(tt:aj R K w K' w')(hR:¬R 0):dL K' w' xb p:=⟨tt.obj h.1 (by rw[h.2];exact hR),(tt.role h.1).trans h.2⟩
theorem dL.below(h:dL K w xb p)(hb:Below w.heap.size w w'):dL K w' xb p:=h.aG (R:=fun _=>False) (aj.of_below hb) id
theorem dL.cell(h:dL K w xb p):w.cell? ⟨xb,0,none⟩=some (.pointer (some ⟨p,0,none⟩)):=au h.1 0 rfl
theorem jT.c0(h:jT K w p A n room M t):w.cell? ⟨p,0,none⟩=some (.pointer (some ⟨A.sb,0,none⟩)):=au h.row 0 rfl
theorem jT.c1(h:jT K w p A n room M t):w.cell? ⟨p,1,none⟩=some (.pointer (some ⟨A.mb,0,none⟩)):=au h.row 1 rfl
theorem jT.c2(h:jT K w p A n room M t):w.cell? ⟨p,2,none⟩=some (.map (some A.hb)):=au h.row 2 rfl
theorem bB.ex(h:bB K w p n room M t):∃A,jT K w p A n room M t:=h
theorem jF(hi:Bd.Inv n room M)(hx:M.next≤1000000000)(hm:(a,e)∈M.H)(hc:dL K w xb p)(h:bB K w p n room M t) :
 Calls Tryz.prog 59 #[.pointer (some ⟨xb,0,none⟩),.int .i64 (a:Nat)] w fun r w'=>r=.returned (.int .i64 (e:Nat))∧w'=w:=by
 obtain⟨F,HF⟩:=aJ (fun(r:Ending)(w':World)=>r=.returned (.int .i64 (e:Nat))∧w'=w);rw[←HF.out];obtain⟨A,h⟩:=h;have hl:=h.iW (show a<4611686018427387904 by have:=hi.hn _ _ hm;omega) (Inv.look hi hm);have y2:=h.c2;have yx:=hc.cell;clear h hi hm hc;go_in
 go_wp2
 rw[HF.out];exact⟨rfl,rfl⟩
theorem jN(hn:n≤1000000)(hv:v<n)(hc:dL K w xb p)(h:bB K w p n room M t) :
 Calls Tryz.prog 118 #[.pointer (some ⟨xb,0,none⟩),.int .i64 (v:Nat)] w fun r w'=>r=.returned (.int .i64 (M.ah v:Nat))∧w'=w:=by
 obtain⟨F,HF⟩:=aJ (fun(r:Ending)(w':World)=>r=.returned (.int .i64 (M.ah v:Nat))∧w'=w);rw[←HF.out];obtain⟨A,h⟩:=h;obtain⟨L,hs⟩:=h.store;have c:=lV hs v hv hn;have y0:=h.c0;have yx:=hc.cell;clear h hs hc;go_in
 go_wp2_with (go_at_call 87;refine c.mono ?_;rintro r w' ⟨rfl,hw⟩;rw[hw];clear hw)
 rw[HF.out];exact⟨rfl,rfl⟩
theorem iZ(hi:Bd.Inv n room M)(hrm:room≤1048576)(he:e<4611686018427387904)(hc:dL K w xb p)(h:bB K w p n room M t)(v:Nat) :
 Calls Tryz.prog 72 #[.pointer (some ⟨xb,0,none⟩),.int .i64 (e:Nat),.int .i64 (v:Nat)] w fun r w'=>r=.returned (.tuple #[.int .i64 (Bd.aB M.S.nd e v:Nat),.int .i64 (Bd.aI M.S.nd e v:Nat)])∧Below w.heap.size w w':=by
 obtain⟨F,HF⟩:=aJ (fun(r:Ending)(w':World)=>r=.returned (.tuple #[.int .i64 (Bd.aB M.S.nd e v:Nat),.int .i64 (Bd.aI M.S.nd e v:Nat)])∧Below w.heap.size w w');rw[←HF.out];obtain⟨A,h⟩:=h;obtain⟨L,hs⟩:=h.store;have c:=uJ hs (fun i d h=>⟨((Inv.down hi hrm).ed i d h).1,((Inv.down hi hrm).ed i d h).2⟩) e he;have y0:=h.c0;have yx:=hc.cell;clear h hs hc hi
 cases hd:M.S.nd (e/2)with
 |none=>
  rw[hd]at c;simp only at c;have HL:Hid (Bd.aB M.S.nd e v=e):=by show _=_;unfold Bd.aB;rw[hd]
  have HH:Hid (Bd.aI M.S.nd e v=e):=by show _=_;unfold Bd.aI;rw[hd]
  clear hd;go_in
  go_wp2_with (go_at_call 126;refine c.mono ?_;rintro r w2 ⟨rfl,hb2⟩;have HB2:=Lib.hid hb2;clear hb2 c)
  rw[HF.out,HL.out,HH.out];exact⟨rfl,HB2.out⟩
 |some d=>
  rw[hd]at c;simp only at c
  by_cases hv:d.v=v
  ·have HL:Hid (Bd.aB M.S.nd e v=Bd.flip d.lo (Bd.odd e)):=by show _=_;unfold Bd.aB;rw[hd];simp only;rw[if_pos hv]
   have HH:Hid (Bd.aI M.S.nd e v=Bd.flip d.hi (Bd.odd e)):=by show _=_;unfold Bd.aI;rw[hd];simp only;rw[if_pos hv]
   have hv2:(((d.v:Nat):Int) != (v:Int))=false:=by rw[hv];simp
   clear hd hv;go_in
   go_wp2_with (go_at_call 126;refine c.mono ?_;rintro r w2 ⟨rfl,hb2⟩;have HB2:=Lib.hid hb2;clear hb2 c)
   rw[HF.out,HL.out,HH.out];exact⟨rfl,HB2.out⟩
  ·have HL:Hid (Bd.aB M.S.nd e v=e):=by show _=_;unfold Bd.aB;rw[hd];simp only;rw[if_neg hv]
   have HH:Hid (Bd.aI M.S.nd e v=e):=by show _=_;unfold Bd.aI;rw[hd];simp only;rw[if_neg hv]
   have hv2:(((d.v:Nat):Int) != (v:Int))=true:=by simp;omega
   clear hd hv;go_in
   go_wp2_with (go_at_call 126;refine c.mono ?_;rintro r w2 ⟨rfl,hb2⟩;have HB2:=Lib.hid hb2;clear hb2 c)
   rw[HF.out,HL.out,HH.out];exact⟨rfl,HB2.out⟩
/-- The topmost variable so far,as a number,and its level. -/
def Ki(o:Option Nat):Int:=match o with|some v=>(v:Int)|none=>-1
def UJ(ah:Nat→Nat)(o:Option Nat):Int:=match o with|some v=>(ah v:Int)|none=>0
theorem AJ{nd:Nat→Option Bd.Nd}{ah:Nat→Nat}{o:Option Nat}{f:Nat}{d:Bd.Nd}(hd:nd (f/2)=some d):Bd.fI nd ah o f=match o with|none=>some d.v|some v=>if ah d.v<ah v then some d.v else some v:=by
 unfold Bd.fI;rw[hd];cases o<;>rfl
theorem AO{nd:Nat→Option Bd.Nd}{ah:Nat→Nat}{o:Option Nat}{f:Nat}(hd:nd (f/2)=none):Bd.fI nd ah o f=o:=by
 unfold Bd.fI;rw[hd]
theorem qX(hi:Bd.Inv n room M)(hn:n≤1000000)(hrm:room≤1048576){l:List Nat}(hl:∀f∈l,f<4611686018427387904)(hll:l.length≤1000){sv:Value}(hv:qW w sv l)(hc:dL K w xb p)(h:bB K w p n room M t) :
 Calls Tryz.prog 71 #[.pointer (some ⟨xb,0,none⟩),sv] w fun r w'=>r=.returned (.int .i64 (Ki (Bd.mI M.S.nd M.ah l)))∧Below w.heap.size w w':=by
 obtain⟨F,HF⟩:=aJ (fun(r:Ending)(w':World)=>r=.returned (.int .i64 (Ki (Bd.mI M.S.nd M.ah l)))∧Below w.heap.size w w');rw[←HF.out];obtain⟨A,h⟩:=h;obtain⟨m,hm0⟩:∃m,m=l.length:=⟨_,rfl⟩;have hmb:m≤1000:=by omega
 obtain⟨pv,kv,hsv⟩:=hv.shape;rw[←hm0]at hsv;subst hsv;have HH:=Lib.hid h;have HC:=Lib.hid hc;have HV:=Lib.hid hv;have HI:=Lib.hid hi;have yG:=Lib.hid hm0;have HL:=Lib.hid hl;clear h hc hv hi hm0 hl hll;go_in
 go_wp2
 go_loopg [5,6,8,9,10,11,12,15,16,17,18,19,20,21,22,23,24,25,26,27,28,29,30,31,32,33,34,35,36,37,38,39,40,41,42,43,44,45,46,47,48,49] m (fun q v5 v6 v8 v9 v10 v11 v12 v15 v16 v17 v18 v19 v20 v21 v22 v23 v24 v25 v26 v27 v28 v29 v30 v31 v32 v33 v34 v35 v36 v37 v38 v39 v40 v41 v42 v43 v44 v45 v46 v47 v48 v49 wr=>∃(j:Nat)(o:Option Nat),q=m-j∧j≤m∧v15=.int .i64 (j:Nat)∧o=(l.take j).foldl (Bd.fI M.S.nd M.ah) none∧v5=.int .i64 (Ki o)∧v6=.int .i64 (UJ M.ah o)∧(∀v,o=some v→v<n)∧Below w.heap.size w wr)
 case atStart=>exact⟨0,none,rfl,Nat.zero_le _,rfl,rfl,rfl,rfl,fun v h=>(by cases h),Below.refl _ _⟩
 case round=>
  obtain⟨j,o,rfl,hj,rfl,ho,rfl,rfl,hon,hb⟩:=hrel;have HB:=Lib.hid hb;have HO:=Lib.hid ho;clear hb ho
  by_cases hlt:j<m
  ·have hji:(j:Int)<(m:Int):=by omega
   obtain⟨g,c,hpv,hrw⟩:∃g c,pv=some ⟨g,0,none⟩∧Rw w 107 1 m c g (fun i=>[.int .i64 (l.getD i 0:Nat)]):=by
    rcases HV.out with⟨h1,h2⟩|⟨g,c,h1,h2⟩
    ·have:=yG.out;omega
    ·rw[←yG.out]at h2;injection h1 with h3;exact⟨g,c,h3,h2⟩
   subst hpv;have z0:=(hrw.kept (HB.out.block g hrw.lt)).cell (i:=j) (j:=0) hlt (by omega);simp only[Nat.mul_one,Nat.add_zero,List.getElem?_cons_zero]at z0;obtain⟨f,hf⟩:∃f,l[j]?=some f:=⟨_,List.getElem?_eq_getElem (by have:=yG.out;omega)⟩;have hgd:l.getD j 0=f:=by rw[List.getD_eq_getElem?_getD,hf];rfl
   rw[hgd]at z0;have hfs:=HL.out f (List.mem_of_getElem? hf)
   have hnext:(l.take (j+1)).foldl (Bd.fI M.S.nd M.ah) none=Bd.fI M.S.nd M.ah o f:=by
    rw[List.take_add_one,hf,List.foldl_append,HO.out];rfl
   have hA:=HH.out.aG (R:=fun _=>False) (aj.of_below HB.out) (fun _ h=>h.elim);obtain⟨L,hs⟩:=hA.store;have y0:=hA.c0;have yx:=(HC.out.below HB.out).cell;have cA:=uJ hs (fun i d h=>⟨((Inv.down HI.out hrm).ed i d h).1,((Inv.down HI.out hrm).ed i d h).2⟩) f hfs;have HN:=Lib.hid hnext;clear hs hA hrw hf hgd hnext
   cases hd:M.S.nd (f/2)with
   |none=>
    rw[hd]at cA;simp only at cA;have UK:=Lib.hid (AO (ah:=M.ah) (o:=o) hd);clear hd
    go_wp2_with (go_at_call 126;refine cA.mono ?_;rintro r w2 ⟨rfl,hb2⟩;have HB2:=Lib.hid (HB.out.trans (hb2.mono HB.out.size));clear hb2 cA)
    go_roundg (m-(j+1))
    case rel=>exact⟨j+1,o,rfl,by omega,by simp,by rw[HN.out,UK.out],rfl,rfl,hon,HB2.out⟩
    case measure=>omega
   |some d=>
    rw[hd]at cA;simp only at cA;have kL:=HI.out.gi.lt _ _ hd;have cL:=fun w' (hb:Below w.heap.size w w')=>jN hn kL (HC.out.below hb) ⟨A,HH.out.aG (R:=fun _=>False) (aj.of_below hb) (fun _ h=>h.elim)⟩;have lH:=Lib.hid cL;have UK:=Lib.hid (AJ (ah:=M.ah) (o:=o) hd);clear hd cL
    cases o with
    |none=>
     simp only[Ki,UJ]
     go_wp2_with (first|(go_at_call 126;refine cA.mono ?_;rintro r w2 ⟨rfl,hb2⟩;have HB2:=Lib.hid (HB.out.trans (hb2.mono HB.out.size));clear hb2 cA)|(go_at_call 118;refine(lH.out _ HB2.out).mono ?_;rintro r w3 ⟨rfl,hw3⟩;rw[hw3];clear hw3))
     go_roundg (m-(j+1))
     case rel=>exact⟨j+1,some d.v,rfl,by omega,by simp,by rw[HN.out,UK.out],rfl,rfl,fun v h=>by cases h;exact kL,HB2.out⟩
     case measure=>omega
    |some u=>
     simp only[Ki,UJ];have hun:=hon u rfl
     by_cases hlv:M.ah d.v<M.ah u
     ·have Yi:((M.ah d.v:Nat):Int)<((M.ah u:Nat):Int):=by omega
      have hst:Bd.fI M.S.nd M.ah (some u) f=some d.v:=by rw[UK.out];simp only;rw[if_pos hlv]
      have HST:=Lib.hid hst;clear hst hlv UK
      go_wp2_with (first|(go_at_call 126;refine cA.mono ?_;rintro r w2 ⟨rfl,hb2⟩;have HB2:=Lib.hid (HB.out.trans (hb2.mono HB.out.size));clear hb2 cA)|(go_at_call 118;refine(lH.out _ HB2.out).mono ?_;rintro r w3 ⟨rfl,hw3⟩;rw[hw3];clear hw3))
      go_roundg (m-(j+1))
      case rel=>exact⟨j+1,some d.v,rfl,by omega,by simp,by rw[HN.out,HST.out],rfl,rfl,fun v h=>by cases h;exact kL,HB2.out⟩
      case measure=>omega
     ·have Yi:¬((M.ah d.v:Nat):Int)<((M.ah u:Nat):Int):=by omega
      have hst:Bd.fI M.S.nd M.ah (some u) f=some u:=by rw[UK.out];simp only;rw[if_neg hlv]
      have HST:=Lib.hid hst;clear hst hlv UK
      go_wp2_with (first|(go_at_call 126;refine cA.mono ?_;rintro r w2 ⟨rfl,hb2⟩;have HB2:=Lib.hid (HB.out.trans (hb2.mono HB.out.size));clear hb2 cA)|(go_at_call 118;refine(lH.out _ HB2.out).mono ?_;rintro r w3 ⟨rfl,hw3⟩;rw[hw3];clear hw3))
      go_roundg (m-(j+1))
      case rel=>exact⟨j+1,some u,rfl,by omega,by simp,by rw[HN.out,HST.out],rfl,rfl,fun v h=>by cases h;exact hun,HB2.out⟩
      case measure=>omega
  ·obtain rfl:j=m:=by omega
   have hfin:o=Bd.mI M.S.nd M.ah l:=by rw[HO.out,List.take_of_length_le (by rw[←yG.out];exact Nat.le_refl _)];rfl
   have HX:=Lib.hid hfin;clear hfin hon
   go_wp2
   rw[HF.out,HX.out];exact⟨rfl,HB.out⟩
end
end
section
/-- The panic value of an event,and of a lack of room. -/
def SV(ev:Bd.Ev):List PanicEntry:=[{v:=.iface 169 (.agg #[.int .i64 0,.bool true,.int .i64 ev.after,.int .i64 ev.kind,.int .i64 ev.level]),recovered:=false}]
def Yj:List PanicEntry:=[{v:=.iface 169 (.agg #[.int .i64 7,.bool false,.int .i64 0,.int .i64 0,.int .i64 0]),recovered:=false}]
/-- All entries of the computed table are right. -/
def fB(M:Bd.MS)(t:Nat→iN):Prop:=∀i,(t i).full=true→∃op a b c r:Nat,t i=⟨op,a,b,c,r,true⟩∧Bd.Good M op a b c r
/-- The manager in memory,its computed table right. -/
def aX(K:Nat→Nat)(w:World)(p n room:Nat)(M:Bd.MS):Prop:=∃t,bB K w p n room M t∧fB M t
/-- An operation was interrupted. -/
def Iw(K:Nat→Nat)(w:World)(p n room:Nat)(M:Bd.MS)(k:Nat)(r:Ending)(w':World):Prop:=
 (∃ev M' K',r=.panicked (SV ev)∧Bd.Inv n room M'∧Bd.I6 M M' ev∧aX K' w' p n room M'∧aj mR K w K' w') ∨
 (∃M' K',r=.panicked Yj∧Bd.Inv n room M'∧Bd.lQ room k M M'∧aX K' w' p n room M'∧aj mR K w K' w')
/-- An operation came to its end with an edge,or was interrupted. -/
def oF(K:Nat→Nat)(w:World)(p n room:Nat)(M:Bd.MS)(k:Nat)(P:Bd.MS→Nat→Prop)(r:Ending)(w':World):Prop:=
 (∃e M' K',r=.returned (.int .i64 (e:Nat))∧P M' e∧Bd.Inv n room M'∧Bd.Grow M M' k∧aX K' w' p n room M'∧aj mR K w K' w')∨Iw K w p n room M k r w'
section
variable {K K':Nat→Nat} {w w':World} {p xb n room k l m:Nat} {A:ML} {M M':Bd.MS} {t:Nat→iN} {r:Ending}
theorem fB.grow(hi:Bd.Inv n room M)(hi':Bd.Inv n room M')(h:fB M t)(g:Bd.Grow M M' k):fB M' t:=fun i hf=>by
 obtain⟨op,a,b,c,r,h1,h2⟩:=h i hf;exact⟨op,a,b,c,r,h1,h2.grow hi hi' g⟩
theorem fB.none:fB M (fun _=>fZ):=fun i h=>by cases h
theorem aX.aG{R:Nat→Prop}(h:aX K w p n room M)(tt:aj R K w K' w')(hR:∀r,R r→¬mR r):aX K' w' p n room M:=by
 obtain⟨t,h1,h2⟩:=h;exact⟨t,h1.aG tt hR,h2⟩
theorem aX.below(h:aX K w p n room M)(hb:Below w.heap.size w w'):aX K w' p n room M:=h.aG (R:=fun _=>False) (aj.of_below hb) (fun _ h=>h.elim)
theorem aX.ex(h:aX K w p n room M):∃t A,jT K w p A n room M t∧fB M t:=by
 obtain⟨t,⟨A,h1⟩,h2⟩:=h;exact⟨t,A,h1,h2⟩
theorem Iw.mono(h:Iw K w p n room M k r w')(hk:k≤l):Iw K w p n room M l r w':=by
 rcases h with h|⟨M',K',h1,h2,h3,h4⟩
 ·exact .inl h
 ·exact .inr ⟨M',K',h1,h2,h3.mono hk,h4⟩
/-- Interrupted behind a first part. -/
theorem Iw.pre{w1:World}(hi:Bd.Inv n room M)(hi':Bd.Inv n room M')(g:Bd.Grow M M' k)(tt:aj mR K w K' w1)(h:Iw K' w1 p n room M' l r w')(hm:k+l≤m):Iw K w p n room M m r w':=by
 rcases h with⟨ev,M2,K2,h1,h2,h3,h4,h5⟩|⟨M2,K2,h1,h2,h3,h4,h5⟩
 ·exact .inl ⟨ev,M2,K2,h1,h2,h3.pre hi hi' g,h4,tt.trans h5⟩
 ·exact .inr ⟨M2,K2,h1,h2,h3.pre hi hi' g hm,h4,tt.trans h5⟩
/-- Interrupted behind a part that turned nothing. -/
theorem Iw.AP{w1:World}(tt:aj mR K w K' w1)(h:Iw K' w1 p n room M k r w'):Iw K w p n room M k r w':=by
 rcases h with⟨ev,M2,K2,h1,h2,h3,h4,h5⟩|⟨M2,K2,h1,h2,h3,h4,h5⟩
 ·exact .inl ⟨ev,M2,K2,h1,h2,h3,h4,tt.trans h5⟩
 ·exact .inr ⟨M2,K2,h1,h2,h3,h4,tt.trans h5⟩
theorem Iw.panics(h:Iw K w p n room M k r w'):∃c,r=.panicked c:=by
 rcases h with⟨ev,M2,K2,h1,-⟩|⟨M2,K2,h1,-⟩
 ·exact⟨_,h1⟩
 ·exact⟨_,h1⟩
theorem oF.ex{P:Bd.MS→Nat→Prop}(h:oF K w p n room M k P r w'):(∃e M' K',r=.returned (.int .i64 (e:Nat))∧P M' e∧Bd.Inv n room M'∧Bd.Grow M M' k∧aX K' w' p n room M'∧aj mR K w K' w')∨(∃c,r=.panicked c∧Iw K w p n room M k (.panicked c) w'):=by
 rcases h with h|h
 ·exact .inl h
 ·obtain⟨c,rfl⟩:=h.panics;exact .inr ⟨c,rfl,h⟩
/-- What Mk makes. -/
def MkP(n:Nat)(M:Bd.MS)(v lo hi:Nat)(M':Bd.MS)(r:Nat):Prop:=Bd.qo n M.ah M.S.nd M.D v lo hi r M'.S.nd M'.D∧r=(M.S.mk' v lo hi).2∧M'.S=(M.S.mk' v lo hi).1
theorem qY(hi:Bd.Inv n room M)(hn:n≤1000000)(hrm:room≤1048576){v lo hi':Nat}(hv:v<n)(mG:Bd.und M.S.nd M.ah (M.ah v+1) lo)(qc:Bd.und M.S.nd M.ah (M.ah v+1) hi')(hc:dL K w xb p)(h:aX K w p n room M) :
 Calls Tryz.prog 79 #[.pointer (some ⟨xb,0,none⟩),.int .i64 (v:Nat),.int .i64 (lo:Nat),.int .i64 (hi':Nat)] w (oF K w p n room M 1 (MkP n M v lo hi')):=by
 obtain⟨F,HF⟩:=aJ (oF K w p n room M 1 (MkP n M v lo hi'));rw[←HF.out];obtain⟨t,A,h,hg⟩:=h.ex;have yx:=hc.cell;have lxb:=aV hc.1;obtain⟨c',hcw2⟩:∃c',wrap64 (A.calls+1)=c':=⟨_,rfl⟩;have y5:w.cell? ⟨p,5,none⟩=some (.int .i64 A.calls):=au h.row 5 rfl;have f5:∀o,w.frozen? ⟨p,o,none⟩=false:=jv h.row;have h1:=h.JC c';have t1:=(h.CW 5 (.int .i64 c')).mono (R':=mR) (fun r hr=>by unfold mR;omega);obtain⟨W1,hW1⟩:∃W1,W1=w.setCell ⟨p,5,none⟩ (.int .i64 c'):=⟨_,rfl⟩;rw[←hW1]at h1 t1;have y4:W1.drew.cell? ⟨p,4,none⟩=some A.wv:=au h1.row 4 rfl;have HH:=Lib.hid h1;have HT:=Lib.hid t1;have HI:=Lib.hid hi;have HG:=Lib.hid hg;have Iy:=Lib.hid mG;have LC:=Lib.hid qc;clear h hg hi h1 t1 mG qc hc;go_in
 go_wp2
 rw[←hW1];clear hW1 y5 f5;have hwt:=HH.out.wait
 -- Mk of the store,where no event comes
 obtain⟨m,pv,kv,hwv,hml⟩:∃m pv kv,A.wv=.slice pv m kv∧m=M.waits.length:=by
  rcases hwt with⟨h1,h2⟩|⟨g,off,cap,h1,-⟩
  ·exact⟨0,none,0,h1,by rw[show M.waits=[]from h2];rfl⟩
  ·exact⟨_,_,_,h1,rfl⟩
 rw[hwv]at y4
 by_cases hev:∃ev l g off,M.waits=ev::l∧pv=some ⟨g,off,none⟩∧ev.after≤c'
 ·obtain⟨ev,l,g,off,hwl,rfl,hle⟩:=hev
  obtain⟨cap,UL,hcap,hkg,hgl,hcell⟩:∃cap,A.wv=.slice (some ⟨g,off,none⟩) (l.length+1) cap∧l.length+1≤cap∧K g=15∧(∃(cs:Array Value)(T:TypeId),W1.heap[g]?=some (.cells cs T (0,0))∧off+cap*3≤cs.size)∧∀i e,(ev::l)[i]?=some e→∀j,j<3→W1.cell? ⟨g,off+(i*3+j),none⟩=(EM e)[j]?:=by
   rcases hwt with⟨h1,h2⟩|⟨g',off',cap,h1,h2,h3,h4,h5⟩
   ·rw[show M.waits=[]from h2]at hwl;cases hwl
   ·rw[show A.wv=_ from h1]at hwv
    injection hwv with e1 e2 e3
    injection e1 with e1
    injection e1 with e4 e5
    subst e4 e5;have hlen:M.waits.length=l.length+1:=by rw[hwl];rfl
    rw[show({A with calls:=c'}:ML).wv=A.wv from rfl]at h1;rw[hlen]at h1;refine⟨cap,h1,by rw[←hlen];exact h2,h3,h4,fun i e hi j hj=>?_⟩;exact h5 i e (by show M.waits[i]?=_;rw[hwl];exact hi) j hj
  have z0:W1.drew.cell? ⟨g,off,none⟩=some (.int .i64 ev.after):=by simpa[EM]using hcell 0 ev rfl 0 (by omega)
  have z1:W1.drew.cell? ⟨g,off+1,none⟩=some (.int .i64 ev.kind):=by simpa[EM]using hcell 0 ev rfl 1 (by omega)
  have z2:W1.drew.cell? ⟨g,off+2,none⟩=some (.int .i64 ev.level):=by simpa[EM]using hcell 0 ev rfl 2 (by omega)
  rw[hwv]at UL;obtain⟨rfl,rfl⟩:m=l.length+1∧kv=cap:=by injection UL with _ e2 e3;exact⟨e2,e3⟩
  obtain⟨m,hm⟩:∃m,m=l.length:=⟨_,rfl⟩;rw[←hm]at y4 hcap;have wz:(0:Int)<((m+1:Nat):Int):=by omega
  have y5:W1.drew.cell? ⟨p,5,none⟩=some (.int .i64 c'):=au HH.out.row 5 rfl;have yf:∀o,W1.drew.frozen? ⟨p,o,none⟩=false:=jv HH.out.row;have lp:p<W1.drew.heap.size:=aV HH.out.row;have hgp:g≠p:=fun e=>by have:=HH.out.kp;rw[←e,hkg]at this;omega
  have HX:=Lib.hid (And.intro hwl (And.intro hkg (And.intro hgl (And.intro hcell hm))));clear hwl hkg hgl hcell hwv hwt UL hml hm;have x0:W1.cell? ⟨g,off,none⟩=some (.int .i64 ev.after):=z0;have x1:W1.cell? ⟨g,off+1,none⟩=some (.int .i64 ev.kind):=z1;have x2:W1.cell? ⟨g,off+2,none⟩=some (.int .i64 ev.level):=z2;have x4:W1.cell? ⟨p,4,none⟩=some (.slice (some ⟨g,off,none⟩) (m+1) kv):=y4;have x5:W1.cell? ⟨p,5,none⟩=some (.int .i64 c'):=y5;have xf:∀o,W1.frozen? ⟨p,o,none⟩=false:=yf;have xl:p<W1.heap.size:=lp;have gl:g<W1.heap.size:=by obtain⟨cs,T,h6,h7⟩:=HX.out.2.2.1;exact aV h6
  have fin:∀v':Value,Wt K W1 v' l→oF K w p n room M 1 (MkP n M v lo hi') (.panicked (SV ev)) (((W1.setCell ⟨p,4,none⟩ v').setCell ⟨p,5,none⟩ (.int .i64 0)).alloc (.cells #[.int .i64 ev.after,.int .i64 ev.kind,.int .i64 ev.level] 73)).drew:=fun v' hW=>by
   have h2:=HH.out.setW hW;have h3:=h2.JC 0;have hb:Below ((W1.setCell ⟨p,4,none⟩ v').setCell ⟨p,5,none⟩ (.int .i64 0)).heap.size ((W1.setCell ⟨p,4,none⟩ v').setCell ⟨p,5,none⟩ (.int .i64 0)) (((W1.setCell ⟨p,4,none⟩ v').setCell ⟨p,5,none⟩ (.int .i64 0)).alloc (.cells #[.int .i64 ev.after,.int .i64 ev.kind,.int .i64 ev.level] 73)).drew:=((Below.refl _ _).alloc (Nat.le_refl _) _).drew;have tt:aj mR K W1 K _:=(((HH.out.CW 4 v').mono (R':=mR) (fun r hr=>by unfold mR;omega)).trans ((h2.CW 5 (.int .i64 0)).mono (R':=mR) (fun r hr=>by unfold mR;omega))).trans (aj.of_below hb);have hi:=HI.out;refine .inr (.inl ⟨ev,{M with waits:=l},K,rfl,⟨hi.gi,hi.si,hi.od,hi.rf,hi.ho,hi.hd,hi.h0,hi.h1,hi.hn⟩,⟨rfl,rfl,HX.out.1,fun _ _ _=>rfl⟩,⟨t,⟨_,h3.aG (R:=fun _=>False) (aj.of_below hb) (fun _ h=>h.elim)⟩,fun i hf=>?_⟩,HT.out.trans tt⟩);obtain⟨op,a,b,c,r,g1,g2⟩:=HG.out i hf;exact⟨op,a,b,c,r,g1,⟨g2.oa,g2.ob,g2.oc,g2.or,g2.ite,g2.ex,g2.and,g2.cof⟩⟩
  have kI:=Lib.hid fin;clear fin
  go_region
  clear y4 y5 yf lp z0 z1 z2;go_wp2_with fail
  all_goals
   refine(show _∧_ from⟨rfl,?_⟩);rw[HF.out];obtain⟨hwl,hkg,hgl,hcell,hm⟩:=HX.out;refine kI.out _ ?_
  ·have hl0:l=[]:=by
    cases l with
    |nil=>rfl
    |cons a b=>simp at hm;omega
   subst hl0;obtain⟨cs,T,h6,h7⟩:=hgl;exact .inr ⟨g,off,0,by rw[hm],Nat.le_refl _,hkg,⟨cs,T,h6,by omega⟩,fun i e h=>by cases h⟩
  ·have hW:=Wt.rest (K:=K) (w:=W1) (cap:=kv) (v:=.slice (some ⟨g,off,none⟩) (l.length+1) kv) rfl (by omega) hkg hgl hcell;rw[←hm]at hW;exact hW
 ·have hquiet:m=0∨∃g off a,pv=some ⟨g,off,none⟩∧0<m∧W1.drew.cell? ⟨g,off,none⟩=some (.int .i64 a)∧¬a≤c':=by
   rcases hwt with⟨h1,h2⟩|⟨g,off,cap,h1,h2,h3,h4,h5⟩
   ·left;rw[hml,show M.waits=[]from h2];rfl
   ·cases hw:M.waits with
    |nil=>left;rw[hml,hw];rfl
    |cons ev l=>
     right
     rw[hwv]at h1
     injection h1 with h6
     refine⟨g,off,ev.after,h6,by rw[hml,hw];simp,?_,fun h9=>hev ⟨ev,l,g,off,hw,h6,h9⟩⟩;have:=h5 0 ev (by show M.waits[0]?=_;rw[hw];rfl) 0 (by omega)
     simpa[EM]using this
  clear hev hwt hml hwv;obtain⟨L,hs⟩:=HH.out.store.below (Below.refl _ _).drew;have los:=bF HI.out.si hrm Iy.out.ok;have his:=bF HI.out.si hrm LC.out.ok
  have cM:=Qx hs v lo hi' hv hn HI.out.gi.lt (fun u hu=>by have:=HI.out.gi.ll u hu;omega) ⟨los,Iy.out⟩ ⟨his,LC.out⟩ (fun a b i h=>by
   have h3:=((HI.out.si.tb v a b i hv).1 h).1;have h4:=(HI.out.si.nz i (by rw[h3];simp)).2
   have:=HI.out.si.Nr;omega) (fun h=>Dk HI.out.si hrm hv h.2 (by have:=Bd.bH lo (Bd.odd hi');show Bd.flip lo (Bd.odd hi')<_;omega) (by have:=Bd.bH hi' (Bd.odd hi');show Bd.flip hi' (Bd.odd hi')<_;omega))
  have y0:W1.drew.cell? ⟨p,0,none⟩=some (.pointer (some ⟨A.sb,0,none⟩)):=HH.out.c0;have y5:W1.drew.cell? ⟨p,5,none⟩=some (.int .i64 c'):=au HH.out.row 5 rfl;have HD:=Lib.hid (HH.out.aG (w':=W1.drew) (R:=fun _=>False) (aj.refl.drewN 1) (fun _ h=>h.elim));have HTD:=Lib.hid (HT.out.drewN 1);have wz:∀m:Nat,0<m→(0:Int)<(m:Int):=fun m h=>by omega
  clear hs los his
  rcases hquiet with rfl|⟨g,off,a,rfl,hm,z0,hna⟩
  all_goals try have UM:=wz _ hm
  all_goals clear wz
  all_goals go_region
  all_goals go_wp2_with fail
  all_goals
   refine cM.mono ?_;intro r w2 hq
   rcases hq with⟨htk,hfull,rfl,hb⟩|⟨hnf,rfl,K2,h2,t2⟩
   ·have X:=Lib.hid (And.intro hfull hb);clear hb htk hfull;go_wp2_with fail;refine(show _∧_ from⟨rfl,?_⟩);rw[HF.out];exact .inr (.inr ⟨M,K,rfl,HI.out,Bd.I7 HI.out X.out.1,⟨t,⟨_,HD.out.aG (R:=fun _=>False) (aj.of_below X.out.2) (fun _ h=>h.elim)⟩,HG.out⟩,HTD.out.trans (aj.of_below X.out.2)⟩)
   ·obtain⟨D',g1,g2,g3⟩:=HI.out.mk1 hv Iy.out LC.out hnf;have X:=Lib.hid (And.intro (HD.out.CV (D':=D') h2 t2) (And.intro g1 (And.intro g2 (And.intro g3 t2))));clear g1 g2 g3 h2 t2 hnf;go_wp2_with fail;rw[HF.out];obtain⟨h3,g1,g2,g3,t2⟩:=X.out;exact .inl ⟨_,M.mk1 v lo hi' D',K2,rfl,⟨g1,rfl,rfl⟩,g2,g3,⟨t,⟨_,h3⟩,HG.out.grow HI.out g2 g3⟩,HTD.out.trans (t2.mono (fun r=>yS))⟩
end
end
end Go.Proofs.YtpijlhlpejlhhaaGreat
