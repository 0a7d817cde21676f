/- Walks and plain words: SuA SuB SuC SuD. -/
import Derived.Test.YtpijlhlpejlhhaaGreatVQuE
namespace Go.Proofs.YtpijlhlpejlhhaaGreat
open Go.RowKit
set_option linter.unusedVariables false
set_option maxRecDepth 100000
set_option maxHeartbeats 8000000
section
def mE(W:Nat→Bool):Nat→Option Bool:=fun i=>if W i then some true else none
def mF(N:Nat→Nat):Nat→Option Int:=fun v=>if N v=0 then none else some (N v:Int)
theorem O4(W:Nat→Bool)(i:Nat):mE (Bd.set1 W i true)=iC (mE W) i (some true):=by
 funext j
 unfold mE iC Bd.set1
 by_cases e:j=i
 ·simp[e]
 ·simp[e]
theorem O5(N:Nat→Nat)(v:Nat):mF (Bd.Jg N v)=iC (mF N) v (some ((N v:Int)+1)):=by
 funext u
 unfold mF iC Bd.Jg
 by_cases e:u=v
 ·subst e;simp
 ·simp[e]
def rJ(nZ bx g_ bd:Nat):Array Value:=#[.pointer (some ⟨nZ,0,none⟩),.pointer (some ⟨bx,0,none⟩),.pointer (some ⟨g_,0,none⟩),.pointer (some ⟨bd,0,none⟩)]
/-- What the search finds in memory,but for the two maps. -/
structure Tx(K:Nat→Nat)(w:World)(n room p xb bx nZ g_ bd bw bn:Nat)(M:Bd.MS)(t:Nat→iN):Prop where
 cx:dL K w xb p
 mn:bB K w p n room M t
 xx:Bx K w bx 106 (.pointer (some ⟨xb,0,none⟩))
 xw:Bx K w nZ 155 (.map (some bw))
 xd:Bx K w bd 156 (.func (.func 106) #[] (rJ nZ bx g_ bd))
 xn:w.heap[g_]?=some (.cells #[.map (some bn)] 87 (0,0))
 kw:K bw=50
 kn:K bn=50
 n1:bw≠bn
 n2:g_≠bw
 n3:g_≠bn
section
variable {K K':Nat→Nat} {w w':World} {p xb n room k b B f g bx nZ g_ bd bw bn cw cn:Nat} {M M':Bd.MS} {t:Nat→iN} {W:Nat→Bool} {N:Nat→Nat}
theorem Tx.only(h:Tx K w n room p xb bx nZ g_ bd bw bn M t)(o:Only (fun q=>q=bw∨q=bn) w w'):Tx K w' n room p xb bx nZ g_ bd bw bn M t:=by
 have tt:aj (fun r=>r=50) K w K w':=⟨o.mono (fun q e=>e.elim (fun e=>e ▸ h.kw) (fun e=>e ▸ h.kn)),fun _ _=>rfl⟩;exact⟨h.cx.aG tt (by omega),h.mn.aG tt (fun r hr=>by rw[hr];exact FN),h.xx.aG tt (by omega),h.xw.aG tt (by omega),h.xd.aG tt (by omega),(o.block g_ (aV h.xn) (fun e=>e.elim h.n2 h.n3)).trans h.xn,h.kw,h.kn,h.n1,h.n2,h.n3⟩
theorem Tx.below(h:Tx K w n room p xb bx nZ g_ bd bw bn M t)(hb:Below w.heap.size w w'):Tx K w' n room p xb bx nZ g_ bd bw bn M t:=h.only (Only.of_below hb)
/-- What the search leaves. -/
def DnQ(n room:Nat)(M:Bd.MS)(L f:Nat)(W:Nat→Bool)(bw bn:Nat)(w:World)(r:Ending)(w':World):Prop:=
 r=.returned (.tuple #[])∧∃(W':Nat→Bool)(N':Nat→Nat)(VL CZ:Nat),Bd.vD M.S.nd M.ah L f W W'∧Bd.uj M.S.nd W' N' VL∧bV qK w' bw VL (mE W')∧bV jJ w' bn CZ (mF N')∧Only (fun q=>q=bw∨q=bn) w w'
def O6(n room k:Nat):Prop:=∀(p xb bx nZ g_ bd bw bn L f cw cn:Nat)(W:Nat→Bool)(N:Nat→Nat)(M:Bd.MS)(t:Nat→iN)(K:Nat→Nat)(w:World),n≤L+k→Bd.Inv n room M→Bd.und M.S.nd M.ah L f→Bd.jH M.S.nd M.ah W L→Bd.uj M.S.nd W N cw→Tx K w n room p xb bx nZ g_ bd bw bn M t→bV qK w bw cw (mE W)→bV jJ w bn cn (mF N) →
 Calls Tryz.prog 106 (#[.int .i64 (f:Nat)]++rJ nZ bx g_ bd) w (DnQ n room M L f W bw bn w)
theorem RP(hi:Bd.Inv n room M)(hn:Bd.uj M.S.nd W N cw)(hrm:room≤1048576)(h:bV qK w bw cw (mE W)):cw≤2000000:=by
 obtain⟨l,h1,h2,h3⟩:=h.list;rw[←h2]
 have:=Bd.eZ 2000000 l h1 (fun i hx=>by
  have h4:=(h3 i).1 hx
  have h5:W i=true:=by
   unfold mE at h4
   by_cases e:W i=true
   ·exact e
   ·rw[if_neg e]at h4;exact absurd rfl h4
  have h6:=(hi.si.nz i (hn.has i h5)).2;have:=hi.si.Nr
  omega)
 exact this
theorem RQ(hi:Bd.Inv n room M)(hn:Bd.uj M.S.nd W N cw)(h:bV jJ w bn cn (mF N)):cn≤n:=by
 obtain⟨l,h1,h2,h3⟩:=h.list;rw[←h2];refine Bd.eZ n l h1 (fun v hx=>?_);have h4:=(h3 v).1 hx
 have h5:0<N v:=by
  unfold mF at h4
  by_cases e:N v=0
  ·rw[if_pos e]at h4;exact absurd rfl h4
  ·omega
 obtain⟨i,d,-,h6,rfl⟩:=(hn.pos v).1 h5;exact hi.gi.lt _ _ h6
theorem wV(hn:n≤64)(hrm:room≤1048576)(k:Nat)(Dy:∀k',k=k'+1→O6 n room k'):O6 n room k:=by
 intro p xb bx nZ g_ bd bw bn L f cw cn W N M t K w hL hi hu hcl Zk hd hw hni;obtain⟨F,HF⟩:=aJ (DnQ n room M L f W bw bn w);rw[←HF.out];have sf:=Inv.small hi hrm hu.ok;have cC:=fun W=>iU f W sf;have cN:=fun W=>fA f W sf;have hlk:=hw.qI (x:=f/2) (show f/2<4611686018427387904 by omega);have hlk2:(Instr.lookup 155 (.map (some bw)) (.int .i64 ((f/2:Nat):Int)) false).run Tryz.prog w=.ok (.bool ((mE W (f/2)).getD false)) w:=hlk;have hbd:Below w.heap.size w w.drew:=(Below.refl _ _).drew;have hwd:bV qK w.drew bw cw (mE W):=hw.kept (hbd.block bw hw.lt);have D9:(Instr.lookup 155 (.map (some bw)) (.int .i64 ((f/2:Nat):Int)) false).run Tryz.prog w.drew=.ok (.bool ((mE W (f/2)).getD false)) w.drew:=hwd.qI (x:=f/2) (show f/2<4611686018427387904 by omega);have z1:w.drew.cell? ⟨nZ,0,none⟩=some (.map (some bw)):=hd.xw.bM hbd;obtain⟨i,hi2⟩:∃i,i=f/2:=⟨_,rfl⟩;rw[←hi2]at cC cN D9;have HN:=Lib.hid cN;have HI:=Lib.hid hi;have HU:=Lib.hid (And.intro hu (And.intro hcl Zk));have HD:=Lib.hid hd;have HM:=Lib.hid (And.intro hw hni);have pW:=Lib.hid Dy;have HL:=Lib.hid hL;have HI2:=Lib.hid hi2;have gK:=Lib.hid hbd;obtain⟨sn,hsn⟩:∃sn,sn=(mE W i).getD false:=⟨_,rfl⟩;rw[←hsn]at D9;have Ee:=Lib.hid hsn;clear cN hi hu hcl Zk hd hw hni hlk hlk2 Dy hwd hL hi2 hsn hbd
 show Calls Tryz.prog 106 #[.int .i64 (f:Nat),.pointer (some ⟨nZ,0,none⟩),.pointer (some ⟨bx,0,none⟩),.pointer (some ⟨g_,0,none⟩),.pointer (some ⟨bd,0,none⟩)] w F;have Tz:Hid ((i=0∨W i=true)→∀w',Below w.heap.size w w'→DnQ n room M L f W bw bn w (.returned (.tuple #[])) w'):=fun h w' hb=>⟨rfl,W,N,cw,cn,Bd.EB HU.out.2.1 (by rw[←HI2.out];exact h),HU.out.2.2,HM.out.1.kept (hb.block _ HM.out.1.lt),HM.out.2.kept (hb.block _ HM.out.2.lt),Only.of_below hb⟩;go_in;go_wp2_with fail
 by_cases h0:i=0
 ·have e0:(i==0)=true:=by simp[h0]
  rw[e0]at cC;have qg:=Lib.hid cC;have HE:=Lib.hid (Tz.out (.inl h0));clear cC e0 h0;refine wp_region_held_drew (S:=fun W'=>W'.cell? ⟨nZ,0,none⟩=some (.map (some bw))∧(Instr.lookup 155 (.map (some bw)) (.int .i64 ((i:Nat):Int)) false).run Tryz.prog W'=.ok (.bool sn) W') (by kernel_rfl) ⟨z1,D9⟩ (fun hHeld=>?_)
  repeat
   (first|refine aD 0 (v:=?_) rfl ?hy ?_
    case hy=>
     intro w0 hS;obtain⟨c0,c1⟩:=hS;go_simp
     (first|done|with_reducible rfl)
    try simp only[Act.put,aZ,bq,bA])
  refine wpAnyH_ready (rs:=[1]) (by decide +kernel) (by simp) (AllReadyH.cons (dA rfl) (fun KC aO=>?_) AllReadyH.nil);refine bW 107 ?_;go_simp;clear hHeld;refine(qg.out _).mono ?_;rintro r w4 ⟨rfl,hw4⟩;rw[hw4];clear hw4;refine aO.out _ _ ⟨z1,D9⟩ (fun hHeld=>?_);clear aO KC;try simp only[Act.put,aZ,bq,bA]
  repeat
   (first|refine aD 2 (v:=?_) rfl ?hy ?_
    case hy=>
     intro w0 hS;obtain⟨c0,c1⟩:=hS;go_simp
     (first|done|with_reducible rfl)
    try simp only[Act.put,aZ,bq,bA])
  repeat
   (first|refine ru 3 rfl ?_|refine ru 4 rfl ?_|refine ru 6 rfl ?_
    try simp only[Act.put,aZ,bq,bA])
  refine wpAnyH_ready (rs:=[5]) (by decide +kernel) (by simp) (AllReadyH.cons (dA rfl) (fun KC aO=>?_) AllReadyH.nil);refine Q9 ?_;refine aO.out _ _ (by assumption) (fun hHeld=>?_);clear aO KC;try simp only[Act.put,aZ,bq,bA]
  repeat
   (first|refine ru 3 rfl ?_|refine ru 4 rfl ?_|refine ru 6 rfl ?_
    try simp only[Act.put,aZ,bq,bA])
  repeat
   (first|refine aD 7 (v:=?_) rfl ?hy ?_
    case hy=>
     intro w0 hS;obtain⟨c0,c1⟩:=hS;go_simp
     (first|done|with_reducible rfl)
    try simp only[Act.put,aZ,bq,bA])
  refine wpAnyH_done (by decide +kernel) ?_ _;clear hHeld;go_wp2_with fail;refine bodyPost_ret (results_none rfl _ _ _) rfl ?_;rw[HF.out];exact HE.out _ gK.out
 ·have e0:(i==0)=false:=by simp[h0]
  rw[e0]at cC;have qg:=Lib.hid cC;have HH0:=Lib.hid h0;clear cC e0 h0;refine wp_region_held_drew (S:=fun W'=>W'.cell? ⟨nZ,0,none⟩=some (.map (some bw))∧(Instr.lookup 155 (.map (some bw)) (.int .i64 ((i:Nat):Int)) false).run Tryz.prog W'=.ok (.bool sn) W') (by kernel_rfl) ⟨z1,D9⟩ (fun hHeld=>?_)
  repeat
   (first|refine aD 0 (v:=?_) rfl ?hy ?_
    case hy=>
     intro w0 hS;obtain⟨c0,c1⟩:=hS;go_simp
     (first|done|with_reducible rfl)
    try simp only[Act.put,aZ,bq,bA])
  refine wpAnyH_ready (rs:=[1]) (by decide +kernel) (by simp) (AllReadyH.cons (dA rfl) (fun KC aO=>?_) AllReadyH.nil);refine bW 107 ?_;go_simp;clear hHeld;refine(qg.out _).mono ?_;rintro r w4 ⟨rfl,hw4⟩;rw[hw4];clear hw4;refine aO.out _ _ ⟨z1,D9⟩ (fun hHeld=>?_);clear aO KC;try simp only[Act.put,aZ,bq,bA]
  repeat
   (first|refine aD 2 (v:=?_) rfl ?hy ?_|refine aD 3 (v:=?_) rfl ?hy ?_|refine aD 4 (v:=?_) rfl ?hy ?_
    case hy=>
     intro w0 hS;obtain⟨c0,c1⟩:=hS;go_simp
     (first|done|with_reducible rfl)
    try simp only[Act.put,aZ,bq,bA])
  refine wpAnyH_ready (rs:=[5]) (by decide +kernel) (by simp) (AllReadyH.cons (dA rfl) (fun KC aO=>?_) AllReadyH.nil);refine bW 108 ?_;go_simp;clear hHeld;refine(HN.out _).mono ?_;rintro r w4 ⟨rfl,hw4⟩;rw[hw4];clear hw4;refine aO.out _ _ ⟨z1,D9⟩ (fun hHeld=>?_);clear aO KC;try simp only[Act.put,aZ,bq,bA]
  repeat
   (first|refine aD 6 (v:=?_) rfl ?hy ?_|refine aD 7 (v:=?_) rfl ?hy ?_
    case hy=>
     intro w0 hS;obtain⟨c0,c1⟩:=hS;go_simp
     (first|done|with_reducible rfl)
    try simp only[Act.put,aZ,bq,bA])
  refine wpAnyH_done (by decide +kernel) ?_ _;clear hHeld
  cases sn with
  |true=>
   have hwi:W i=true:=by
    have:=Ee.out;unfold mE at this
    by_cases e:W i=true
    ·exact e
    ·rw[if_neg e]at this;cases this
   have HE:=Lib.hid (Tz.out (.inr hwi));clear hwi;go_wp2_with fail;refine bodyPost_ret (results_none rfl _ _ _) rfl ?_;rw[HF.out];exact HE.out _ gK.out
  |false=>
   have hwi:W i=false:=by
    have:=Ee.out;unfold mE at this
    by_cases e:W i=true
    ·rw[if_pos e]at this;cases this
    ·simpa using e
   obtain⟨d,hnd⟩:∃d,M.S.nd i=some d:=by
    rcases HU.out.1 with h1|⟨d,h1,-⟩
    ·rw[←HI2.out]at h1;exact absurd h1 HH0.out
    ·rw[←HI2.out]at h1;exact⟨d,h1⟩
   clear z1 D9;have kL:=HI.out.gi.lt _ _ hnd;have Zl:mE W i=none:=by unfold mE;rw[hwi];rfl
   have his:i<4611686018427387904:=by have:=HI2.out;omega
   have hcw:=RP HI.out HU.out.2.2 hrm HM.out.1;have hcn:=RQ HI.out HU.out.2.2 HM.out.2;have hNv:N d.v≤cw:=HU.out.2.2.le d.v;obtain⟨wq,hwq⟩:∃wq,wq=w.drew.drew:=⟨_,rfl⟩;have hbq:Below w.heap.size w wq:=by rw[hwq];exact gK.out.drew
   have dq:=HD.out.below hbq;have mwq:bV qK wq bw cw (mE W):=HM.out.1.kept (hbq.block bw HM.out.1.lt);obtain⟨W5,u1,u2,u3⟩:=mwq.store (x:=i) his (y:=true) trivial (by unfold maxLen;omega);have e2:(Instr.mapUpdate 155 (.map (some bw)) (.int .i64 ((i:Nat):Int)) (.bool true)).run Tryz.prog wq=.ok () W5:=u1;rw[Zl,←O4]at u2;have u2':bV qK W5 bw (cw+1) (mE (Bd.set1 W i true)):=u2;have o5:Only (fun q=>q=bw∨q=bn) w W5:=(Only.of_below hbq).trans (u3.mono (fun q e=>.inl e));have d5:=HD.out.only o5;have n5:bV jJ W5 bn cn (mF N):=HM.out.2.kept ((u3.block bn (by have:=(HM.out.2.kept (hbq.block bn HM.out.2.lt)).lt;exact this) (fun e=>HD.out.n1 e.symm)).trans (hbq.block bn HM.out.2.lt));have zw:wq.cell? ⟨nZ,0,none⟩=some (.map (some bw)):=dq.xw.cell;have zx:W5.cell? ⟨bx,0,none⟩=some (.pointer (some ⟨xb,0,none⟩)):=d5.xx.cell;have VN:M.S.nd (f/2)=some d:=by rw[←HI2.out];exact hnd
   have cT:=oH HI.out hn hrm VN d5.cx d5.mn;have HT:=Lib.hid cT;have H5:=Lib.hid (And.intro u2' (And.intro n5 (And.intro o5 d5)));have Fv:=Lib.hid (And.intro VN (And.intro kL (And.intro hwi hnd)));have HV:=Lib.hid (And.intro hcw (And.intro hcn hNv));have zx2:∀W,Below W5.heap.size W5 W→W.cell? ⟨bx,0,none⟩=some (.pointer (some ⟨xb,0,none⟩))∧W.cell? ⟨g_,0,none⟩=some (.map (some bn))∧W.cell? ⟨bd,0,none⟩=some (.func (.func 106) #[] (rJ nZ bx g_ bd)):=fun W h=>⟨d5.xx.bM h,au ((d5.below h).xn) 0 rfl,d5.xd.bM h⟩;have HZ:=Lib.hid zx2;clear Zl his mwq u1 u2 u2' u3 n5 o5 d5 dq hbq cT VN zx2 kL hnd hwi hcw hcn hNv;go_wp2_with fail;refine aM 3 (by kernel_rfl) (by kernel_rfl) ?_;simp only[List.take_succ_cons,List.take_zero,List.drop_succ_cons,List.drop_zero];rw[←hwq];clear hwq
   still_step
   still_step
   still_call (HN.out _)
   refine wpStill_nil ?_;go_wp2_with fail;clear e2 zw;refine(HT.out).mono ?_;rintro x w6 ⟨rfl,hb6⟩;obtain⟨u5,n5,o5,d5⟩:=H5.out;have n6:bV jJ w6 bn cn (mF N):=n5.kept (hb6.block bn n5.lt);have hvs:d.v<4611686018427387904:=by have:=Fv.out.2.1;omega
   have hlk:=n6.qI (x:=d.v) hvs;have hgd:(mF N d.v).getD 0=(N d.v:Int):=by unfold mF;by_cases e:N d.v=0<;>simp[e]
   have hlk2:(Instr.lookup 87 (.map (some bn)) (.int .i64 ((d.v:Nat):Int)) false).run Tryz.prog w6=.ok (.int .i64 ((N d.v:Nat):Int)) w6:=by rw[←hgd];exact hlk
   obtain⟨W7,u1,u2,u3⟩:=n6.store (x:=d.v) hvs (y:=(N d.v:Int)+1) (by
    have h9:=HV.out;show(Lit.int .i64 ((N d.v:Int)+1)).wf=true
    exact WalkArith.wf_i64 (by omega)) (by have:=HV.out.2.1;unfold maxLen;omega)
   have e2:(Instr.mapUpdate 87 (.map (some bn)) (.int .i64 ((d.v:Nat):Int)) (.int .i64 ((N d.v:Nat)+1:Int))).run Tryz.prog w6=.ok () W7:=u1;rw[←O5]at u2;have o7:Only (fun q=>q=bw∨q=bn) W5 W7:=(Only.of_below hb6).trans (u3.mono (fun q e=>.inr e));have d7:=d5.only o7;have w7:bV qK W7 bw (cw+1) (mE (Bd.set1 W i true)):=u5.kept ((u3.block bw (u5.kept (hb6.block bw u5.lt)).lt (fun e=>d5.n1 e)).trans (hb6.block bw u5.lt));have hNb:N d.v≤2000000:=by have:=HV.out;omega
   obtain⟨y6,y7,-⟩:=HZ.out w6 hb6;have cS:=iZ HI.out hrm (e:=f) sf d7.cx d7.mn d.v;have huv:Bd.und M.S.nd M.ah (M.ah d.v) f:=.inr ⟨d,Fv.out.1,Nat.le_refl _⟩;obtain⟨ul,uh⟩:=Bd.bQ HI.out.gi Fv.out.2.1 huv;obtain⟨lo,hlo⟩:∃lo,lo=Bd.aB M.S.nd f d.v:=⟨_,rfl⟩;obtain⟨hh,IB⟩:∃hh,hh=Bd.aI M.S.nd f d.v:=⟨_,rfl⟩;rw[←hlo,←IB]at cS;rw[←hlo]at ul;rw[←IB]at uh;have HS:=Lib.hid cS;have H7:=Lib.hid (And.intro u2 (And.intro w7 (And.intro (o5.trans o7) d7)));have Uk:=Lib.hid (And.intro ul (And.intro uh (And.intro hlo IB)));have zx7:W7.cell? ⟨bx,0,none⟩=some (.pointer (some ⟨xb,0,none⟩)):=d7.xx.cell;obtain⟨cv,hcv⟩:∃cv,cv=d.v:=⟨_,rfl⟩;clear n6 hlk hgd u1 u2 u3 o7 d7 w7 u5 n5 o5 d5 cS huv ul uh hlo IB hvs hb6 hcv cv;go_wp2_with fail;have hLd:L≤M.ah d.v:=Bd.qD HI.out.gi Fv.out.1 rfl HU.out.1;have Zm:=HI.out.gi.ll _ Fv.out.2.1;obtain⟨k',rfl⟩:∃k',k=k'+1:=⟨k-1,by have:=HL.out;omega⟩;have HLD:=Lib.hid (And.intro hLd Zm);clear hLd Zm;refine(HS.out).mono ?_;rintro x w8 ⟨rfl,gY⟩;have d8:=H7.out.2.2.2.below gY
   have cD1:=pW.out k' rfl p xb bx nZ g_ bd bw bn (M.ah d.v+1) lo (cw+1) (if (mF N d.v).isSome then cn else cn+1) (Bd.set1 W i true) (Bd.Jg N d.v) M t K w8 (by have:=HL.out;have:=HLD.out;omega) HI.out Uk.out.1 (Bd.Ci HU.out.2.1 Fv.out.2.2.2 HLD.out.1) (HU.out.2.2.step Fv.out.2.2.2) d8 (H7.out.2.1.kept (gY.block _ H7.out.2.1.lt)) (H7.out.1.kept (gY.block _ H7.out.1.lt));unfold rJ at cD1;have z8:w8.cell? ⟨bd,0,none⟩=some (.func (.func 106) #[] #[.pointer (some ⟨nZ,0,none⟩),.pointer (some ⟨bx,0,none⟩),.pointer (some ⟨g_,0,none⟩),.pointer (some ⟨bd,0,none⟩)]):=d8.xd.cell;have HD1:=Lib.hid cD1;have H8:=Lib.hid (And.intro d8 ((H7.out.2.2.1).trans (Only.of_below gY)));clear cD1 d8 gY;go_wp2_with fail;refine(HD1.out).mono ?_;rintro x w9 ⟨rfl,W1,N1,cw1,cn1,s1,q1,m1,m2,o9⟩;have d9:=H8.out.1.only o9;have cD2:=pW.out k' rfl p xb bx nZ g_ bd bw bn (M.ah d.v+1) hh cw1 cn1 W1 N1 M t K w9 (by have:=HL.out;have:=HLD.out;omega) HI.out Uk.out.2.1 s1.cl q1 d9 m1 m2;unfold rJ at cD2;have z9:w9.cell? ⟨bd,0,none⟩=some (.func (.func 106) #[] #[.pointer (some ⟨nZ,0,none⟩),.pointer (some ⟨bx,0,none⟩),.pointer (some ⟨g_,0,none⟩),.pointer (some ⟨bd,0,none⟩)]):=d9.xd.cell;have HD2:=Lib.hid cD2;have H9:=Lib.hid (And.intro s1 (H8.out.2.trans o9));clear cD2 d9 s1 q1 m1 m2 o9 z8;go_wp2_with fail;refine(HD2.out).mono ?_;rintro x Zf ⟨rfl,W2,N2,cw2,Ef,s2,q2,m3,m4,o10⟩
   have Px:=Lib.hid (And.intro s2 (And.intro q2 (And.intro m3 (And.intro m4 (H9.out.2.trans o10)))));clear s2 q2 m3 m4 o10 z9;go_wp2_with fail;refine bodyPost_ret (results_none rfl _ _ _) rfl ?_;rw[HF.out];obtain⟨s2,q2,m3,m4,o10⟩:=Px.out;have s1:=H9.out.1;rw[HI2.out]at s1;refine⟨rfl,W2,N2,cw2,Ef,?_,q2,m3,m4,o10⟩;refine Bd.Jc HI.out.gi HU.out.2.1 Fv.out.1 HLD.out.1 ?_ ?_ s1 s2
   ·rw[Uk.out.2.2.1];unfold Bd.aB;rw[Fv.out.1];simp[Bd.bH]
   ·rw[Uk.out.2.2.2];unfold Bd.aI;rw[Fv.out.1];simp[Bd.bH]
theorem Lc(hn:n≤64)(hrm:room≤1048576):∀k,O6 n room k:=by
 intro k
 induction k with
 |zero=>exact wV hn hrm 0 (fun k' e=>by omega)
 |succ k ih=>exact wV hn hrm (k+1) (fun k' e=>by
  obtain rfl:k=k':=by omega
  exact ih)
end
end
section
/-- The map of counts in the box of the result. -/
def zF(n g_:Nat)(ψ:Bd.BF)(K:Nat→Nat)(w:World)(M:Bd.MS):Prop:=∃(bn cn:Nat)(N:Nat→Nat),K g_=50∧w.heap[g_]?=some (.cells #[.map (some bn)] 87 (0,0))∧K bn=50∧bV jJ w bn cn (mF N)∧Bd.T_ n N ψ
section
variable {K K':Nat→Nat} {w w':World} {p xb n room k b B f g a g_ bl:Nat} {M M':Bd.MS} {t:Nat→iN} {ψ:Bd.BF} {u:Value} {v0:Value}
theorem zF.aG(h:zF n g_ ψ K w M)(tt:aj (fun r=>r=0) K w K' w'):zF n g_ ψ K' w' M':=by
 obtain⟨bn,cn,N,h1,h2,h3,h4,h5⟩:=h;exact⟨bn,cn,N,(tt.role h2).trans h1,tt.obj h2 (by rw[h1];omega),(tt.ext bn h4.lt).trans h3,h4.kept (tt.block h4.lt (by rw[h3];omega)),h5⟩
theorem Gu(hi:Bd.Inv n room M)(hn:n≤64)(hrm:room≤1048576)(hx:M.next≤1000000000)(ha:Hn M a ψ)(hb:K g_=50∧w.heap[g_]?=some (.cells #[v0] 87 (0,0)))(xl:Bx K w bl 22 u)(hl:fQ K w u [a])(hc:dL K w xb p)(hm:aX K w p n room M) :
 Calls Tryz.prog 105 #[.pointer (some ⟨xb,0,none⟩),.pointer (some ⟨g_,0,none⟩),.pointer (some ⟨bl,0,none⟩)] w (Dv K w p n room M 0 (zF n g_ ψ)):=by
 obtain⟨F,HF⟩:=aJ (Dv K w p n room M 0 (zF n g_ ψ));rw[←HF.out];have Ob:∀(fn:Fn)(first cap:Array Value)(w:World),(Instr.makeFunc fn first cap).run Tryz.prog w=.ok (.func fn first cap) w:=fun _ _ _ _=>rfl;have Zn:∀W:World,(Instr.makeMap 87 none).run Tryz.prog W=.ok (.map (some W.heap.size)) (W.alloc (.map #[] 0)):=fun W=>by kernel_rfl
 have ab_:∀W:World,(Instr.makeMap 155 none).run Tryz.prog W=.ok (.map (some W.heap.size)) (W.alloc (.map #[] 0)):=fun W=>by kernel_rfl
 obtain⟨g,cap,hu,hkg,hrw⟩:=hl.ex;simp only[List.length_cons,List.length_nil,Nat.zero_add]at hu hrw;subst hu;obtain⟨e,hae,hψ⟩:=ha;obtain⟨t,hmn,hgd⟩:=hm;obtain⟨bx,hbx⟩:∃bx,bx=w.heap.size:=⟨_,rfl⟩;obtain⟨bn,hbn⟩:∃bn,bn=w.heap.size+1:=⟨_,rfl⟩;obtain⟨bw,hbw⟩:∃bw,bw=w.heap.size+1+1:=⟨_,rfl⟩;obtain⟨nZ,Zo⟩:∃nZ,nZ=w.heap.size+1+1+1:=⟨_,rfl⟩;obtain⟨bd,hbd⟩:∃bd,bd=w.heap.size+1+1+1+1:=⟨_,rfl⟩;obtain⟨W0,hW0⟩:∃W0,W0=w.setCell ⟨g_,0,none⟩ (.map (some bn)):=⟨_,rfl⟩;obtain⟨W4,kW⟩:∃W4,W4=((((W0.alloc (.cells #[.pointer (some ⟨xb,0,none⟩)] 106)).alloc (.map #[] 0)).alloc (.map #[] 0)).alloc (.cells #[.map (some bw)] 155)).alloc (.cells #[.func (.func 106) #[] (rJ nZ bx g_ bd)] 156):=⟨_,rfl⟩;have s0:W0.heap.size=w.heap.size:=by rw[hW0];simp
 have lb:=aV hb.2;have yb:w.cell? ⟨g_,0,none⟩=some v0:=au hb.2 0 rfl;have yf:∀o,w.frozen? ⟨g_,o,none⟩=false:=jv hb.2;have q0:W0.heap[g_]?=some (.cells #[.map (some bn)] 87 (0,0)):=by rw[hW0];exact aH (o:=0) (vs:=#[v0]) hb.2 _
 have qn:W4.heap[g_]?=some (.cells #[.map (some bn)] 87 (0,0)):=by rw[kW];exact(Below.heap_alloc _ _ _ (by simp;omega)).trans ((Below.heap_alloc _ _ _ (by simp;omega)).trans ((Below.heap_alloc _ _ _ (by simp;omega)).trans ((Below.heap_alloc _ _ _ (by simp;omega)).trans ((Below.heap_alloc _ _ _ (by omega)).trans q0))))
 have qx:W4.heap[bx]?=some (.cells #[.pointer (some ⟨xb,0,none⟩)] 106 (0,0)):=by rw[kW];exact(Below.heap_alloc _ _ _ (by simp;omega)).trans ((Below.heap_alloc _ _ _ (by simp;omega)).trans ((Below.heap_alloc _ _ _ (by simp;omega)).trans ((Below.heap_alloc _ _ _ (by simp;omega)).trans (aL (by omega)))))
 have qm:W4.heap[bn]?=some (.map #[] 0):=by rw[kW];exact(Below.heap_alloc _ _ _ (by simp;omega)).trans ((Below.heap_alloc _ _ _ (by simp;omega)).trans ((Below.heap_alloc _ _ _ (by simp;omega)).trans (aL (by simp;omega))))
 have qw:W4.heap[bw]?=some (.map #[] 0):=by rw[kW];exact(Below.heap_alloc _ _ _ (by simp;omega)).trans ((Below.heap_alloc _ _ _ (by simp;omega)).trans (aL (by simp;omega)))
 have qwb:W4.heap[nZ]?=some (.cells #[.map (some bw)] 155 (0,0)):=by rw[kW];exact(Below.heap_alloc _ _ _ (by simp;omega)).trans (aL (by simp;omega))
 have qd:W4.heap[bd]?=some (.cells #[.func (.func 106) #[] (rJ nZ bx g_ bd)] 156 (0,0)):=by rw[kW];exact aL (by simp;omega)
 obtain⟨K4,hK4⟩:∃K4,K4=bJ (bJ (bJ (bJ (bJ K bx 0) bn 50) bw 50) nZ 0) bd 0:=⟨_,rfl⟩
 have t0:aj (fun r=>r=50) K w K4 W4:=by
  rw[hK4,kW,hW0];exact(((((((((aj.refl.iI (R:=fun r=>r=50) hb.1 lb _).alloc _).alloc _).alloc _).alloc _).alloc _).new (by omega)).new (by omega)).new (by omega)).new (by omega)|>.new (by omega)
 have kx:K4 bx=0:=by rw[hK4];exact(bP (by omega)).trans ((bP (by omega)).trans ((bP (by omega)).trans ((bP (by omega)).trans (aW _ _ _))))
 have kn:K4 bn=50:=by rw[hK4];exact(bP (by omega)).trans ((bP (by omega)).trans ((bP (by omega)).trans (aW _ _ _)))
 have kw:K4 bw=50:=by rw[hK4];exact(bP (by omega)).trans ((bP (by omega)).trans (aW _ _ _))
 have kwb:K4 nZ=0:=by rw[hK4];exact(bP (by omega)).trans (aW _ _ _)
 have kd:K4 bd=0:=by rw[hK4];exact aW _ _ _
 have d4:Tx K4 W4 n room p xb bx nZ g_ bd bw bn M t:=⟨hc.aG t0 (by omega),hmn.aG t0 (fun r hr=>by rw[hr];exact FN),⟨kx,qx⟩,⟨kwb,qwb⟩,⟨kd,qd⟩,qn,kw,kn,by omega,by omega,by omega⟩
 have m1:bV qK W4 bw 0 (mE (fun _=>false)):=(bV.made (t:=qK) ((W0.alloc (.cells #[.pointer (some ⟨xb,0,none⟩)] 106)).alloc (.map #[] 0)))|> fun h=>by
  have e:((W0.alloc (.cells #[.pointer (some ⟨xb,0,none⟩)] 106)).alloc (.map #[] 0)).heap.size=bw:=by simp;omega
  rw[e]at h;exact h.kept (qw.trans (by rw[←e];exact(heap_alloc_new _ _).symm))
 have m2:bV jJ W4 bn 0 (mF (fun _=>0)):=(bV.made (t:=jJ) (W0.alloc (.cells #[.pointer (some ⟨xb,0,none⟩)] 106)))|> fun h=>by
  have e:(W0.alloc (.cells #[.pointer (some ⟨xb,0,none⟩)] 106)).heap.size=bn:=by simp;omega
  rw[e]at h;exact h.kept (qm.trans (by rw[←e];exact(heap_alloc_new _ _).symm))
 have x4:=xl.aG t0 (by omega);have l4:=hl.aG t0 (by omega);have kb4:K4 g_=50:=(t0.ext g_ lb).trans hb.1;have HD:=Lib.hid (And.intro d4 (And.intro m1 m2));have HI:=Lib.hid hi;have HE:=Lib.hid (And.intro hae hψ);have HT:=Lib.hid (And.intro t0 kb4);have HX:=Lib.hid (And.intro x4 l4);have HG:=Lib.hid hgd;have y2:W4.cell? ⟨bl,0,none⟩=_:=x4.cell;clear hi hae hψ hgd hmn hc hb xl hl hkg hrw q0 qn qx qm qw qwb qd hK4 t0 kx kn kw kwb kd d4 m1 m2 x4 l4 kb4 s0;go_in
 go_upto_region 5 with fail
 unfold rJ at kW;rw[←hbd,←Zo,←hbw,←hbn,←hbx,←hW0,←kW];clear kW hW0 hbd Zo hbw hbn hbx yb yf;go_wp2_with fail
 go_loopg [7,13,14,15,16,17,18,19,20,21,22] 1 (fun q v7 v13 v14 v15 v16 v17 v18 v19 v20 v21 v22 wr=>(q=1∧v13=.int .i64 0∧wr=W4)∨(q=0∧v13=.int .i64 1∧∃(W':Nat→Bool)(N':Nat→Nat)(VL CZ:Nat),Bd.vD M.S.nd M.ah 0 e (fun _=>false) W'∧Bd.uj M.S.nd W' N' VL∧bV jJ wr bn CZ (mF N')∧Only (fun q=>q=bw∨q=bn) W4 wr))
 case atStart=>exact .inl ⟨rfl,rfl,rfl⟩
 case round=>
  rcases hrel with⟨rfl,rfl,hw⟩|⟨rfl,rfl,W',N',VL,CZ,s1,q1,m1,o1⟩
  ·rw[hw];clear hw
   have hgl:g<W4.heap.size:=by
    obtain⟨g',c',e1,-,hr⟩:=HX.out.2.ex
    injection e1 with e1;injection e1 with e1;injection e1 with e1;subst e1
    exact hr.lt
   have z0:W4.cell? ⟨g,0,none⟩=some (.int .i64 (a:Nat)):=by
    obtain⟨g',c',e1,-,hr⟩:=HX.out.2.ex
    injection e1 with e1;injection e1 with e1;injection e1 with e1;subst e1
    exact jm hr (show 0<1 by omega) rfl
   have hbd:Below W4.heap.size W4 W4.drew:=(Below.refl _ _).drew;have d1:=HD.out.1.below hbd;have cE:=jF HI.out hx HE.out.1 d1.cx d1.mn;have hu:=(HI.out.ho _ _ HE.out.1).und (ah:=M.ah);have cD:=Lc hn hrm n p xb bx nZ g_ bd bw bn 0 e 0 0 (fun _=>false) (fun _=>0) M t K4 W4.drew (by omega) HI.out hu (fun i d h=>by cases h) Bd.uj.none d1 (HD.out.2.1.kept (hbd.block _ HD.out.2.1.lt)) (HD.out.2.2.kept (hbd.block _ HD.out.2.2.lt));unfold rJ at cD;have zd:W4.drew.cell? ⟨bd,0,none⟩=some (.func (.func 106) #[] #[.pointer (some ⟨nZ,0,none⟩),.pointer (some ⟨bx,0,none⟩),.pointer (some ⟨g_,0,none⟩),.pointer (some ⟨bd,0,none⟩)]):=d1.xd.cell;have zx:W4.drew.cell? ⟨bx,0,none⟩=some (.pointer (some ⟨xb,0,none⟩)):=d1.xx.cell;have Qv:=Lib.hid cE;have HCD:=Lib.hid cD;have H1:=Lib.hid d1;have gK:=Lib.hid hbd;clear cE cD d1 hbd hu;go_wp2_with fail;clear z0 y2;refine wp_region_held_drew (S:=fun W'=>W'.cell? ⟨bd,0,none⟩=some (.func (.func 106) #[] #[.pointer (some ⟨nZ,0,none⟩),.pointer (some ⟨bx,0,none⟩),.pointer (some ⟨g_,0,none⟩),.pointer (some ⟨bd,0,none⟩)])∧W'.cell? ⟨bx,0,none⟩=some (.pointer (some ⟨xb,0,none⟩))) (by kernel_rfl) ⟨zd,zx⟩ (fun hHeld=>?_)
   repeat
    (first|refine aD 0 (v:=?_) rfl ?hy ?_|refine aD 1 (v:=?_) rfl ?hy ?_|refine aD 2 (v:=?_) rfl ?hy ?_
     case hy=>
      intro w0 hS;obtain⟨c0,c1⟩:=hS;go_simp
      (first|done|with_reducible rfl)
     try simp only[Act.put,aZ,bq,bA])
   refine wpAnyH_ready (rs:=[3]) (by decide +kernel) (by simp) (AllReadyH.cons (dA rfl) (fun KC aO=>?_) AllReadyH.nil);refine bW 59 ?_;go_simp;clear hHeld;refine(Qv.out).mono ?_;rintro r w4 ⟨rfl,hw4⟩;rw[hw4];clear hw4;refine aO.out _ _ ⟨zd,zx⟩ (fun hHeld=>?_);clear aO KC;(try simp only[Act.put,aZ,bq,bA]);refine wpAnyH_ready (rs:=[4]) (by decide +kernel) (by simp) (AllReadyH.cons (dA rfl) (fun KC aO=>?_) AllReadyH.nil);refine isAny ?_;clear zd zx hHeld;go_simp;refine(HCD.out).mono ?_;rintro r w5 ⟨rfl,W',N',VL,CZ,s1,q1,m1,m2,o5⟩;have HR:=Lib.hid (And.intro s1 (And.intro q1 (And.intro m2 ((Only.of_below gK.out).trans o5))));have d5:=H1.out.only o5;refine aO.out _ _ ⟨d5.xd.cell,d5.xx.cell⟩ (fun hHeld=>?_);clear aO KC s1 q1 m1 m2 o5;(try simp only[Act.put,aZ,bq,bA]);refine wpAnyH_done (by decide +kernel) ?_ _;clear hHeld d5;go_wp2_with fail
   go_roundg 0
   case rel=>exact .inr ⟨rfl,rfl,W',N',VL,CZ,HR.out⟩
   case measure=>omega
  ·have HR:=Lib.hid (And.intro s1 (And.intro q1 (And.intro m1 o1)));clear s1 q1 m1 o1 y2;go_wp2_with fail;refine bodyPost_ret (results_none rfl _ _ _) rfl ?_;rw[HF.out];obtain⟨s1,q1,m1,o1⟩:=HR.out;have d5:=HD.out.1.only o1;have t5:aj (fun r=>r=50) K4 W4 K4 wr:=⟨o1.mono (fun q e=>e.elim (fun e=>e ▸ HD.out.1.kw) (fun e=>e ▸ HD.out.1.kn)),fun _ _=>rfl⟩;refine .inl ⟨M,K4,rfl,⟨bn,CZ,N',HT.out.2,d5.xn,d5.kn,m1,?_⟩,HI.out,Bd.Grow.refl,⟨t,d5.mn,HG.out⟩,(HT.out.1.trans t5).mono (fun r h=>.inr h)⟩;rw[←HE.out.2];exact Bd.Qh HI.out.gi (HI.out.ho _ _ HE.out.1) s1 q1
end
end
section
/-- What seen leaves. -/
def TD(K:Nat→Nat)(w:World)(p n room:Nat)(M:Bd.MS)(ψ:Bd.BF)(r:Ending)(w':World):Prop:=
 ∃(M':Bd.MS)(K':Nat→Nat)(bn cn:Nat)(N:Nat→Nat),r=.returned (.tuple #[.map (some bn),.int .i64 0])∧fF M M'∧Bd.Inv n room M'∧aX K' w' p n room M'∧aj mX K w K' w'∧bV jJ w' bn cn (mF N)∧Bd.T_ n N ψ
section
variable {K K':Nat→Nat} {w w':World} {p xb n room k b B f g a g_ bl:Nat} {M M':Bd.MS} {t:Nat→iN} {ψ:Bd.BF} {u:Value} {v0:Value}
theorem Ld(hi:Bd.Inv n room M)(h0:0<n)(hn:n≤64)(hrm:room≤1048576)(hx:M.next≤1000000000)(hroom:M.H.length*(2^n-1)≤room)(ha:Hn M a ψ)(hl:fQ K w u [a])(hm:aX K w p n room M) :
 Calls Tryz.prog 40 #[.pointer (some ⟨p,0,none⟩),u] w (TD K w p n room M ψ):=by
 obtain⟨F,HF⟩:=aJ (TD K w p n room M ψ);rw[←HF.out];have Ob:∀(fn:Fn)(first cap:Array Value)(w:World),(Instr.makeFunc fn first cap).run Tryz.prog w=.ok (.func fn first cap) w:=fun _ _ _ _=>rfl;obtain⟨g,cap,hu,hkg,hrw⟩:=hl.ex;simp only[List.length_cons,List.length_nil,Nat.zero_add]at hu hrw;subst hu;obtain⟨bl,hbl⟩:∃bl,bl=w.heap.size:=⟨_,rfl⟩;obtain⟨g_,VO⟩:∃g_,g_=w.heap.size+1:=⟨_,rfl⟩;obtain⟨W1,hW1⟩:∃W1,W1=(w.alloc (.cells #[.slice (some ⟨g,0,none⟩) 1 cap] 22)).alloc (.cells #[.map none] 87):=⟨_,rfl⟩;have hb1:Below w.heap.size w W1:=by rw[hW1];exact((Below.refl _ _).alloc (Nat.le_refl _) _).alloc (by simp) _
 have ql:W1.heap[bl]?=some (.cells #[.slice (some ⟨g,0,none⟩) 1 cap] 22 (0,0)):=by rw[hW1,hbl];exact(Below.heap_alloc _ _ _ (by simp)).trans (heap_alloc_new _ _)
 have qn:W1.heap[g_]?=some (.cells #[.map none] 87 (0,0)):=by rw[hW1,VO];exact aL (by simp)
 obtain⟨K0,t0,k0⟩:=bX K hb1;obtain⟨K1,hK1⟩:∃K1,K1=bJ K0 g_ 50:=⟨_,rfl⟩;have t1:∀R,aj R K w K1 W1:=fun R=>by rw[hK1];exact(t0 R).new (by omega)
 have kl:K1 bl=0:=by rw[hK1];exact(bP (by omega)).trans (k0 _ (by omega))
 have kn:K1 g_=50:=by rw[hK1];exact aW _ _ _
 have l1:=hl.aG (t1 (fun _=>False)) id;have m1:=hm.aG (t1 (fun _=>False)) (fun r h=>h.elim);obtain⟨e,hae,hψ⟩:=ha;obtain⟨tm,hmm,hgd⟩:=m1;have cI:=Iu (a:=a) (by have:=hi.hn _ _ hae;omega) hmm;rw[Inv.look hi hae]at cI
 have cL:=Kr (K:=K1) (w:=W1) (fid:=105) (cap:=#[.pointer (some ⟨g_,0,none⟩),.pointer (some ⟨bl,0,none⟩)]) (k:=0) (Z:=zF n g_ ψ)
  (J:=fun K1 w1=>(K1 g_=50∧∃v0,w1.heap[g_]?=some (.cells #[v0] 87 (0,0)))∧Bx K1 w1 bl 22 (.slice (some ⟨g,0,none⟩) 1 cap)∧fQ K1 w1 (.slice (some ⟨g,0,none⟩) 1 cap) [a])
  hi h0 hn hrm hx (by omega) (fun _ _=>rfl) (fun K1 w1 K2 w2 h tt=>by
   obtain⟨⟨h1,v0,h2⟩,h3,h4⟩:=h
   exact⟨⟨(tt.role h2).trans h1,v0,tt.obj h2 (by rw[h1];exact FN)⟩,h3.aG tt gM,h4.aG tt gM⟩)
  (fun M1 K1 w1 ra i1 j K2 w2 xb tt hc hm2=>by
    obtain⟨⟨h1,v0,h2⟩,h3,h4⟩:=j
    exact Gu i1 hn hrm (by rw[ra.next];exact hx) (Hn.ran ra ⟨e,hae,hψ⟩) ⟨((tt (fun _=>False)).role h2).trans h1,(tt (fun _=>False)).obj h2 id⟩ (h3.aG (tt (fun _=>False)) id) (h4.aG (tt (fun _=>False)) id) hc hm2)
  (fun K1 w1 K2 w2 M' h tt=>h.aG tt) ⟨⟨kn,_,qn⟩,⟨kl,ql⟩,l1⟩ ⟨tm,hmm,hgd⟩
 have z0:W1.cell? ⟨g,0,none⟩=some (.int .i64 (a:Nat)):=by
  obtain⟨g',c',e1,-,hr⟩:=l1.ex
  injection e1 with e1;injection e1 with e1;injection e1 with e1;subst e1
  exact jm hr (show 0<1 by omega) rfl
 have yl:W1.cell? ⟨bl,0,none⟩=_:=au ql 0 rfl;have HI:=Lib.hid cI;have HL:=Lib.hid cL;have HT:=Lib.hid (t1 mX);clear hi hm hl hkg hrw hb1 ql qn t0 k0 hK1 t1 kl kn l1 hae hψ hmm hgd cI cL hroom hx h0 hn hrm;go_in
 go_upto_region 3 with fail
 rw[←hW1,←VO,←hbl];clear hW1 hbl VO;go_wp2_with fail
 go_loopg [7,12,13,14,15,16,17,18,19,20] 1 (fun q v7 v12 v13 v14 v15 v16 v17 v18 v19 v20 wr=>((q=1∧v12=.int .i64 0)∨(q=0∧v12=.int .i64 1))∧wr=W1)
 case atStart=>exact⟨.inl ⟨rfl,rfl⟩,rfl⟩
 case round=>
  obtain⟨hq,hw⟩:=hrel;rw[hw];clear hw
  rcases hq with⟨rfl,rfl⟩|⟨rfl,rfl⟩
  ·go_wp2_with (go_at_call 104;with_reducible refine(HI.out).mono ?_;rintro r w' ⟨rfl,hw⟩;rw[hw];clear hw)
   go_roundg 0
   case rel=>exact⟨.inr ⟨rfl,rfl⟩,rfl⟩
   case measure=>omega
  ·clear z0 yl;go_wp2_with fail;refine(HL.out).mono ?_;rintro x w2 hq;obtain⟨rfl,M',K2,ra,⟨bn,cn,N,z1,z2,z3,z4,z5⟩,i2,m2,t2⟩:=hq.ran;have y4:w2.cell? ⟨g_,0,none⟩=some (.map (some bn)):=au z2 0 rfl;have yf:∀o,w2.frozen? ⟨g_,o,none⟩=false:=jv z2;have lb:=aV z2;obtain⟨W3,hW3⟩:∃W3,W3=w2.setCell ⟨g_,0,none⟩ (.map (some bn)):=⟨_,rfl⟩;have z2':W3.heap[g_]?=some (.cells #[.map (some bn)] 87 (0,0)):=by rw[hW3];exact aH (o:=0) (vs:=#[.map (some bn)]) z2 _
   have y5:W3.cell? ⟨g_,0,none⟩=some (.map (some bn)):=au z2' 0 rfl;have tS:aj (fun r=>r=50) K2 w2 K2 W3:=by rw[hW3];exact aj.refl.iI z1 lb _
   have hne:bn≠g_:=fun e9=>by
    obtain⟨⟨D,⟨es,cl,h1,h2⟩,h3⟩,hg,hf⟩:=z4;rw[e9,z2]at h1;cases h1
   have z4':bV jJ W3 bn cn (mF N):=z4.kept (by rw[hW3];exact heap_setCell_other _ _ _ _ hne);have kI:=Lib.hid (And.intro ra (And.intro i2 (And.intro (m2.aG tS (fun r h=>by rw[h];exact FN)) (And.intro (HT.out.trans (t2.trans (tS.mono (fun r h=>.inr h)))) (And.intro z4' z5)))));clear hq ra z1 z2 z2' z3 z4 z4' z5 i2 m2 t2 tS hne;go_wp2_with fail;rw[←hW3];refine bodyPost_ret (v:=.tuple #[.map (some bn),.int .i64 0]) (by simp[results,Tryz.results40,asAddr,go_sem,y5]) rfl ?_;rw[HF.out];exact⟨M',K2,bn,cn,N,rfl,kI.out⟩
end
end
section
/-- A list of numbers,nil or in a block of role 0. -/
def pI(K:Nat→Nat)(w:World)(v:Value)(l:List Nat):Prop:=av w v l∧j4 K 0 v
/-- What Support leaves. -/
def TF(K:Nat→Nat)(w:World)(p n room:Nat)(M:Bd.MS)(ψ:Bd.BF)(r:Ending)(w':World):Prop:=
 ∃(M':Bd.MS)(K':Nat→Nat)(o:Value)(l:List Nat),r=.returned (.tuple #[o,.int .i64 0])∧fF M M'∧Bd.Inv n room M'∧aX K' w' p n room M'∧aj mX K w K' w'∧pI K' w' o l∧l.length≤n∧(∀v∈l,v<n)∧(∀a b:Nat→Bool,(∀v∈l,a v=b v)→ψ a=ψ b)∧∀v∈l,¬∀a b,ψ (Bd.upd a v b)=ψ a
section
variable {K K':Nat→Nat} {w w':World} {p xb n room k b B f g a g_ bl:Nat} {M M':Bd.MS} {t:Nat→iN} {ψ:Bd.BF} {u:Value} {v0:Value} {l:List Nat}
theorem pI.aG{R:Nat→Prop}(h:pI K w u l)(tt:aj R K w K' w')(hR:¬R 0):pI K' w' u l:=Sl.aG h.1 h.2 tt hR
theorem fQ.r(h:fQ K w u l):pI K w u l:=by
 obtain⟨g,cap,h1,h2,h3⟩:=h;exact⟨.inr ⟨g,cap,h1,h3⟩,by rw[h1];exact j4.of h2⟩
/-- The variables so far whose count is not 0. -/
def lF(N:Nat→Nat)(j:Nat):List Nat:=(List.range j).filter (fun v=>decide (0<N v))
theorem zG(N:Nat→Nat)(j:Nat):(lF N j).length≤j:=by
 have:=List.length_filter_le (fun v=>decide (0<N v)) (List.range j);rw[List.length_range]at this;exact this
theorem tK{N:Nat→Nat}{j v:Nat}:v∈lF N j↔v<j∧0<N v:=by
 unfold lF;rw[List.mem_filter,List.mem_range];simp
theorem Le{N:Nat→Nat}{j:Nat}(h:0<N j):lF N (j+1)=lF N j++[j]:=by
 unfold lF;rw[List.range_succ,List.filter_append];congr 1;exact List.filter_cons_of_pos (by simpa using h)
theorem O7{N:Nat→Nat}{j:Nat}(h:N j=0):lF N (j+1)=lF N j:=by
 unfold lF;rw[List.range_succ,List.filter_append];rw[List.filter_cons_of_neg (by simp[h])];simp
theorem Bu(hi:Bd.Inv n room M)(h0:0<n)(hn:n≤64)(hrm:room≤1048576)(hx:M.next≤1000000000)(hroom:M.H.length*(2^n-1)≤room)(ha:Hn M a ψ)(hm:aX K w p n room M) :
 Calls Tryz.prog 9 #[.pointer (some ⟨p,0,none⟩),.int .i64 (a:Nat)] w (TF K w p n room M ψ):=by
 obtain⟨F,HF⟩:=aJ (TF K w p n room M ψ);rw[←HF.out];obtain⟨W1,hW1⟩:∃W1,W1=w.alloc (.cells #[.int .i64 (a:Nat)] 3):=⟨_,rfl⟩;have hb1:=jU hW1;obtain⟨K1,t1,k1⟩:=bX K hb1;obtain⟨g,hg⟩:∃g,g=w.heap.size:=⟨_,rfl⟩
 have l1:fQ K1 W1 (.slice (some ⟨g,0,none⟩) 1 1) [a]:=by
  refine⟨g,1,rfl,k1 _ (by omega),⟨_,by rw[hW1,hg];exact heap_alloc_new _ _,by simp,fun i hi j hj=>?_⟩,Nat.le_refl _⟩;obtain rfl:j=0:=by omega
  obtain rfl:i=0:=by simpa using hi
  rfl
 have m1:=hm.aG (t1 (fun _=>False)) (fun r h=>h.elim);have cS:=Ld hi h0 hn hrm hx hroom ha l1 m1;have HS:=Lib.hid cS;have HT:=Lib.hid (t1 mX);clear hi hm ha hb1 t1 k1 l1 m1 cS hroom hx;go_in;go_wp2_with fail;rw[←hW1,←hg];clear hW1 hg;refine(HS.out).mono ?_;rintro x w2 ⟨M2,K2,bn,cn,N,rfl,ra,i2,m2,t2,mp,sp⟩;obtain⟨tm,hmm,hgd⟩:=m2;have cV:=oD hmm;have HV:=Lib.hid cV;have HM:=Lib.hid (And.intro ra (And.intro i2 (And.intro (show aX K2 w2 p n room M2 from⟨tm,hmm,hgd⟩) (HT.out.trans t2))));have HP:=Lib.hid mp;have HSP:=Lib.hid sp;clear ra i2 t2 mp sp cV hmm hgd
 go_wp2_with (go_at_call 41;with_reducible refine(HV.out).mono ?_;rintro r w' ⟨rfl,hw⟩;rw[hw];clear hw)
 go_loopg [4,7,20,21,22,23,24,25,26,27,28,29,30,31] n (fun q v4 v7 v20 v21 v22 v23 v24 v25 v26 v27 v28 v29 v30 v31 wr=>∃(j c:Nat)(po:Option Addr)(co:Nat),q=n-j∧j≤n∧v20=.int .i64 (j:Nat)∧v4=.slice po c co∧c=(lF N j).length∧Sl wr 3 1 (.slice po c co) c (fun i=>[.int .i64 ((lF N j).getD i 0:Nat)])∧(∀a,po=some a→w2.heap.size≤a.block)∧Below w2.heap.size w2 wr)
 case atStart=>exact⟨0,0,none,0,rfl,Nat.zero_le _,rfl,rfl,rfl,Sl.nil,(fun a h=>by cases h),Below.refl _ _⟩
 case round=>
  obtain⟨j,c,po,co,rfl,hj,rfl,rfl,hc,hsl,hpo,hb⟩:=hrel
  by_cases hlt:j<n
  ·have hji:(j:Int)<(n:Int):=by omega
   have mpr:=HP.out.kept (hb.block bn HP.out.lt);have hlk:=mpr.qI (x:=j) (show j<4611686018427387904 by omega);have hgd:(mF N j).getD 0=(N j:Int):=by unfold mF;by_cases e:N j=0<;>simp[e]
   have hlk2:(Instr.lookup 87 (.map (some bn)) (.int .i64 ((j:Nat):Int)) false).run Tryz.prog wr=.ok (.int .i64 ((N j:Nat):Int)) wr:=by rw[←hgd];exact hlk
   have hcj:c≤j:=by rw[hc];exact zG N j
   have HX:=Lib.hid (And.intro hc (And.intro hsl (And.intro hpo hb)));clear mpr hlk hgd hc hpo
   by_cases hN:0<N j
   ·have Xv:(0:Int)<((N j:Nat):Int):=by omega
    have hS0:∀o,Sl (wr.alloc o) 3 1 (.slice po c co) c (fun i=>[.int .i64 ((lF N j).getD i 0:Nat)]):=fun o=>hsl.kept (fun g n c e hg=>heap_alloc_old _ _ _ hg);have lU:=Lib.hid hS0;have Ej:=Lib.hid hN;clear hS0 hsl hb hN
    go_wp2_with (at_builtin;refine aA _ rfl _ _ _ rfl jq rfl (lU.out _) rfl (aL (by simp)) rfl (by simp[Value.oneCell']) (by omega) ?_;intro g2 c2 w3 hq2;have HQ:=Lib.hid hq2;clear hq2)
    go_roundg (n-(j+1))
    case rel=>
     obtain⟨hc,hsl,hpo,hb⟩:=HX.out;have hyes:=Le Ej.out;have hrow:=HQ.out.row
     have hg2:w2.heap.size≤g2:=by
      rcases HQ.out.at' with e|e
      ·cases po with
       |none=>cases e
       |some a0=>
        have e:some a0.block=some g2:=e
        injection e with e
        rw[←e];exact hpo a0 rfl
      ·have:=hb.size;simp at e;omega
     have hb2:Below w2.heap.size w2 w3:=(hb.alloc hb.size _).trans (HQ.out.only.below (fun q e=>by
      cases po with
      |none=>cases e
      |some a0=>
       have e:some a0.block=some q:=e
       injection e with e
       rw[←e];exact hpo a0 rfl) (by have:=hb.size;simp;omega))
     refine⟨j+1,c+1,some ⟨g2,0,none⟩,c2,rfl,by omega,by go_num,rfl,by rw[hyes,List.length_append,←hc];rfl,.inr ⟨g2,c2,rfl,hrow.congr (fun i hi k hk=>?_)⟩,fun a0 h=>by injection h with h;rw[←h];exact hg2,hb2⟩;obtain rfl:k=0:=by omega
     rw[hyes]
     by_cases hin:i=c
     ·rw[if_pos hin,hin,hc,List.getD_eq_getElem?_getD,List.getElem?_append_right (Nat.le_refl _)];simp
     ·rw[if_neg hin,List.getD_eq_getElem?_getD,List.getElem?_append_left (by omega),←List.getD_eq_getElem?_getD]
    case measure=>omega
   ·have Xv:¬(0:Int)<((N j:Nat):Int):=by omega
    have Ej:=Lib.hid hN;clear hsl hb hN
    go_wp2
    go_roundg (n-(j+1))
    case rel=>
     obtain⟨hc,hsl,hpo,hb⟩:=HX.out;have hno:=O7 (N:=N) (j:=j) (by have:=Ej.out;omega);exact⟨j+1,c,po,co,rfl,by omega,by go_num,rfl,by rw[hno];exact hc,by rw[hno];exact hsl,hpo,hb⟩
    case measure=>omega
  ·obtain rfl:j=n:=by omega
   have HX:=Lib.hid (And.intro hc (And.intro hsl (And.intro hpo hb)));clear hc hsl hpo hb
   go_wp2
   rw[HF.out];obtain⟨hc,hsl,hpo,hb⟩:=HX.out;obtain⟨ra,i2,m2,t2⟩:=HM.out;obtain⟨K3,t3,k3⟩:=bX K2 hb;refine⟨M2,K3,_,lF N j,rfl,ra,i2,m2.aG (t3 (fun _=>False)) (fun r h=>h.elim),t2.trans (t3 mX),⟨?_,fun g m c e=>?_⟩,zG N j,fun v hv=>(tK.1 hv).1,fun a b hab=>?_,fun v hv=>HSP.out.hang v (tK.1 hv).2⟩
   ·unfold av;rw[←hc];exact hsl
   ·injection e with e
    exact k3 g (hpo _ e)
   ·exact HSP.out.only a b (fun v hv=>hab v (tK.2 ⟨HSP.out.lt v hv,hv⟩))
end
end
end Go.Proofs.YtpijlhlpejlhhaaGreat
