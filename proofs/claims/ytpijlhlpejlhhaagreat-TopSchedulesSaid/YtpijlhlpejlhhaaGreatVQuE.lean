/- Walks and plain words: QuE QuF MnQ MnR QuG. -/
import Derived.Test.YtpijlhlpejlhhaaGreatVQuC
import Derived.Test.YtpijlhlpejlhhaaGreatVVsB
namespace Go.Proofs.YtpijlhlpejlhhaaGreat
open Go.RowKit
set_option linter.unusedVariables false
set_option maxRecDepth 100000
set_option maxHeartbeats 8000000
section
section
variable {K K':Nat→Nat} {w w':World} {p xb n room k b:Nat} {M M':Bd.MS} {t:Nat→iN} {e f g v:Nat} {d:Bd.Nd}
theorem Rc(h:w.heap[b]?=some (.cells #[.int .i64 (e:Nat),.int .i64 (f:Nat)] 107 (0,0))):qW w (.slice (some ⟨b,0,none⟩) 2 2) [e,f]:=by
 refine .inr ⟨b,2,rfl,⟨_,h,by simp,fun i hi j hj=>?_⟩,Nat.le_refl _⟩;obtain rfl:j=0:=by omega
 simp only[List.length_cons,List.length_nil,Nat.zero_add,Nat.reduceAdd]at hi
 rcases(show i=0∨i=1 by omega)with rfl|rfl<;>rfl
/-- The new box of a level. -/
def UZ(w0:World)(x:Int)(v:Value)(W:World):Prop:=∃b,v=.pointer (some ⟨b,0,none⟩)∧w0.heap.size≤b∧Below w0.heap.size w0 W∧W.heap[b]?=some (.cells #[.int .i64 x] 3 (0,0))
theorem wJ(hn:n≤64)(hrm:room≤1048576)(k:Nat)(Dy:∀k',k=k'+1→IC n room k'):IC n room k:=by
 intro xb p L f g c l M K w hL hi hu Kz kM hc hm;obtain⟨F,HF⟩:=aJ (oF K w p n room M ((k+1)*2^k) (Bd.Pn M f g l));rw[←HF.out];have hok:=hu.ok;have Yr:=Kz.ok;have sf:=Inv.small hi hrm hok;have sg:=Inv.small hi hrm Yr;obtain⟨t,hm1,hg⟩:∃t,bB K w p n room M t∧fB M t:=hm;obtain⟨b4,hb4⟩:∃b4,b4=w.heap.size:=⟨_,rfl⟩;obtain⟨b5,hb5⟩:∃b5,b5=w.heap.size+1:=⟨_,rfl⟩;obtain⟨b6,hb6⟩:∃b6,b6=w.heap.size+1+1:=⟨_,rfl⟩;obtain⟨b7,kH⟩:∃b7,b7=w.heap.size+1+1+1:=⟨_,rfl⟩;obtain⟨W0,hW0⟩:∃W0,W0=(((w.alloc (.cells #[.pointer (some ⟨xb,0,none⟩)] 106)).alloc (.cells #[.int .i64 (f:Nat)] 107)).alloc (.cells #[.int .i64 (g:Nat)] 107)).alloc (.cells #[.int .i64 (c:Nat)] 107):=⟨_,rfl⟩;have HB0:=Lib.hid (show Below w.heap.size w W0 by rw[hW0];exact((((Below.refl _ _).alloc (Nat.le_refl _) _).alloc (by simp) _).alloc (by first|(simp;done)|(simp;omega)) _).alloc (by first|(simp;done)|(simp;omega)) _);have q4:W0.heap[b4]?=some (.cells #[.pointer (some ⟨xb,0,none⟩)] 106 (0,0)):=by rw[hW0,hb4];exact(Below.heap_alloc _ _ _ (by first|(simp;done)|(simp;omega))).trans ((Below.heap_alloc _ _ _ (by first|(simp;done)|(simp;omega))).trans ((Below.heap_alloc _ _ _ (by simp)).trans (heap_alloc_new _ _)))
 have q5:W0.heap[b5]?=some (.cells #[.int .i64 (f:Nat)] 107 (0,0)):=by rw[hW0,hb5];exact(Below.heap_alloc _ _ _ (by first|(simp;done)|(simp;omega))).trans ((Below.heap_alloc _ _ _ (by simp)).trans (aL (by simp)))
 have q6:W0.heap[b6]?=some (.cells #[.int .i64 (g:Nat)] 107 (0,0)):=by rw[hW0,hb6];exact(Below.heap_alloc _ _ _ (by simp)).trans (aL (by simp))
 have q7:W0.heap[b7]?=some (.cells #[.int .i64 (c:Nat)] 107 (0,0)):=by rw[hW0,kH];exact aL (by simp)
 have hn47:¬b4=b7:=by omega
 have Yt:¬b5=b7:=by omega
 have Yu:¬b6=b7:=by omega
 have hge:w.heap.size≤b4∧w.heap.size≤b5∧w.heap.size≤b6∧w.heap.size≤b7:=by omega
 have Yv:b7<W0.heap.size:=aV q7;have FU:=Lib.hid (And.intro hge (And.intro hn47 (And.intro Yt (And.intro Yu Yv))));have y5:W0.cell? ⟨b5,0,none⟩=_:=au q5 0 rfl;have y6:W0.cell? ⟨b6,0,none⟩=_:=au q6 0 rfl;have cM:=Kk f g W0 sf sg;have HI:=Lib.hid hi;have HU:=Lib.hid (And.intro hu Kz);have xI:=Lib.hid kM;have HC:=Lib.hid hc;have HM:=Lib.hid hm1;have HG:=Lib.hid hg;have pW:=Lib.hid Dy;have HL:=Lib.hid hL;have SX:=Lib.hid (And.intro q4 (And.intro q5 (And.intro q6 q7)));clear hi hu Kz hok Yr kM hc hm1 hg Dy q4 q5 q6 q7 hn47 Yt Yu hge hL Yv;go_in;go_wp2_with fail;rw[←hW0,←kH,←hb6,←hb5,←hb4];clear hW0 hb4 hb5 hb6 kH
 cases hme:Bd.meet f g with
 |some r=>
  have hmv:j_ f g=.tuple #[.int .i64 (r:Nat),.bool true]:=by unfold j_;rw[hme]
  rw[hmv]at cM;obtain⟨Ob,hmu⟩:=Bd.Mh HI.out.gi hme;have Rf:=Lib.hid (And.intro Ob hmu);have y4:W0.cell? ⟨b4,0,none⟩=_:=au SX.out.1 0 rfl;have y7:W0.cell? ⟨b7,0,none⟩=_:=au SX.out.2.2.2 0 rfl;have cE:=DC hn hrm k xb p L r c l M K W0 HL.out HI.out (hmu L HU.out.1 HU.out.2) xI.out (HC.out.below HB0.out) ⟨_,HM.out.below HB0.out,HG.out⟩;have HE:=Lib.hid cE;clear hmv hme Ob hmu cE
  go_wp2_with (go_at_call 116;with_reducible refine cM.mono ?_;rintro x w1 ⟨rfl,hw1⟩;rw[hw1];clear hw1 cM)
  refine(HE.out).mono ?_;rintro x w6 hq;have hfr:=hq.fresh (P':=Bd.Pn M f g l) (l:=(k+1)*2^k) (aj.of_below HB0.out) (Nat.mul_le_mul_right _ (Nat.le_succ k)) (fun M' e i' g' h'=>⟨by rw[h'.1,Rf.out.1],fun L' h1 h2=>h'.2 L' (Rf.out.2 L' h1 h2)⟩);have Oj:=Lib.hid hfr
  rcases hq.ex.symm with⟨cp,rfl,hx⟩|⟨e,M1,K2,rfl,-⟩
  ·clear hq hfr hx;go_wp2_with fail;refine(show _∧_ from⟨rfl,?_⟩);rw[HF.out];exact Oj.out
  ·clear hq hfr;go_wp2_with fail;rw[HF.out];exact Oj.out
 |none=>
  have hmv:j_ f g=.tuple #[.int .i64 0,.bool false]:=by unfold j_;rw[hme]
  rw[hmv]at cM;obtain⟨hf0,hg0⟩:=Bd.I_ hme
  have FX:=Bd.vw HI.out.gi (l:=[f,g]) (by
   intro x hx;simp only[List.mem_cons,List.not_mem_nil,or_false]at hx
   rcases hx with rfl|rfl
   ·exact HU.out.1.ok
   ·exact HU.out.2.ok)
  obtain⟨v,hv⟩:∃v,Bd.mI M.S.nd M.ah [f,g]=some v:=by
   cases ht:Bd.mI M.S.nd M.ah [f,g]with
   |some v=>exact⟨v,rfl⟩
   |none=>rw[ht]at FX;exact absurd (FX f (by simp)) hf0
  rw[hv]at FX;have kL:=FX.1;have hll:=HI.out.gi.ll _ kL;have huv:Bd.und M.S.nd M.ah (M.ah v) f:=FX.2.2 f (by simp);have uo:Bd.und M.S.nd M.ah (M.ah v) g:=FX.2.2 g (by simp)
  have N9:L≤M.ah v:=Bd.qB HI.out.gi FX (by
   intro x hx;simp only[List.mem_cons,List.not_mem_nil,or_false]at hx
   rcases hx with rfl|rfl
   ·exact HU.out.1
   ·exact HU.out.2)
  have cT:=fun W b (hb:Below w.heap.size w W) (he:W.heap[b]?=_)=>qX (n:=n) (room:=room) (M:=M) (K:=K) (t:=t) (p:=p) (xb:=xb) HI.out (by omega) hrm (l:=[f,g]) (fun x hx=>by
   simp only[List.mem_cons,List.not_mem_nil,or_false]at hx
   rcases hx with rfl|rfl<;>assumption) (by simp) (Rc (w:=W) (b:=b) (e:=f) (f:=g) he) (HC.out.below hb) (HM.out.below hb)
  rw[hv]at cT;have cT2:∀W b,Below w.heap.size w W→W.heap[b]?=some (.cells #[.int .i64 (f:Nat),.int .i64 (g:Nat)] 107 (0,0))→Calls Tryz.prog 71 #[.pointer (some ⟨xb,0,none⟩),.slice (some ⟨b,0,none⟩) 2 2] W (fun r w'=>r=.returned (.int .i64 (v:Nat))∧Below W.heap.size W w'):=cT;have WE:=fun W (hb:Below w.heap.size w W)=>jN (n:=n) (room:=room) (M:=M) (K:=K) (t:=t) (p:=p) (xb:=xb) (by omega) kL (HC.out.below hb) (HM.out.below hb);obtain⟨lv,hlv⟩:∃lv,lv=M.ah v:=⟨_,rfl⟩;rw[←hlv]at WE;have HT:=Lib.hid cT2;have lH:=Lib.hid WE;have HTV:=Lib.hid (And.intro hv (And.intro kL (And.intro hll (And.intro huv (And.intro uo (And.intro N9 (And.intro hlv hf0)))))));clear hmv hme hf0 hg0 FX hv kL hll huv uo N9 cT cT2 WE hlv
  go_wp2_with (go_at_call 116;with_reducible refine cM.mono ?_;rintro x w1 ⟨rfl,hw1⟩;rw[hw1];clear hw1 cM)
  clear y5 y6
  go_cut [11]from 12 (fun v W=>UZ W0 lv v W)
  case first=>
   have mW:∀W,Below W0.heap.size W0 W→W.cell? ⟨b4,0,none⟩=some (.pointer (some ⟨xb,0,none⟩))∧W.cell? ⟨b5,0,none⟩=some (.int .i64 (f:Nat))∧W.cell? ⟨b6,0,none⟩=some (.int .i64 (g:Nat)):=fun W h=>by
    obtain⟨q4,q5,q6,q7⟩:=SX.out;exact⟨au ((h.block b4 (aV q4)).trans q4) 0 rfl,au ((h.block b5 (aV q5)).trans q5) 0 rfl,au ((h.block b6 (aV q6)).trans q6) 0 rfl⟩
   have dJ:=Lib.hid mW;have hbd:Below W0.heap.size W0 W0.drew:=(Below.refl _ _).drew;refine wp_region_held_drew (S:=fun W=>W.cell? ⟨b4,0,none⟩=some (.pointer (some ⟨xb,0,none⟩))∧W.cell? ⟨b5,0,none⟩=some (.int .i64 (f:Nat))∧W.cell? ⟨b6,0,none⟩=some (.int .i64 (g:Nat))) (by kernel_rfl) (mW _ hbd) (fun hHeld=>?_);obtain⟨Wc,hWc⟩:∃Wc,Wc=W0.drew:=⟨_,rfl⟩;have HB:Hid (Below W0.heap.size W0 Wc):=by show Below _ _ _;rw[hWc];exact hbd
   rw[←hWc]at hHeld⊢;clear hWc mW hbd
   repeat
    (first|refine aD 0 (v:=?_) rfl ?hy ?_|refine aD 1 (v:=?_) rfl ?hy ?_|refine aD 2 (v:=?_) rfl ?hy ?_|refine aD 3 (v:=?_) rfl ?hy ?_
     case hy=>
      intro w0 hS;obtain⟨c0,c1,c2⟩:=hS;go_simp
      (first|done|with_reducible rfl)
     try simp only[Act.put,aZ,bq,bA])
   refine wpAnyH_ready (rs:=[4,7]) (by decide +kernel) (by simp) (AllReadyH.cons (dA rfl) (fun KC aO=>?_) (AllReadyH.cons (dA rfl) (fun KC aO=>?_) AllReadyH.nil))
   ·refine isAny ?_;go_simp;clear hHeld;obtain⟨bs,hbs⟩:∃bs,bs=Wc.heap.size:=⟨_,rfl⟩;obtain⟨Wd,hV⟩:∃Wd,Wd=Wc.alloc (.cells #[.int .i64 (f:Nat),.int .i64 (g:Nat)] 107):=⟨_,rfl⟩;have hb5:=jU hV;have XS:=JF hV hbs;rw[←hV,←hbs];replace HB:=Lib.hid (HB.out.trans (hb5.mono HB.out.size));clear hV hbs hb5;refine aO.out _ _ (dJ.out _ HB.out) (fun hHeld=>?_);clear aO KC;(try simp only[Act.put,aZ,bq,bA]);clear Wc;rename World=>Wc;refine wpAnyH_ready (rs:=[5,7]) (by decide +kernel) (by simp) (AllReadyH.cons (dA rfl) (fun KC aO=>?_) (AllReadyH.cons (dA rfl) (fun KC aO=>?_) AllReadyH.nil))
    ·refine bW 71 ?_;go_simp;clear hHeld;refine(HT.out Wc bs (HB0.out.trans (HB.out.mono HB0.out.size)) XS.out).mono ?_;rintro x Wd ⟨rfl,hb5⟩;replace HB:=Lib.hid (HB.out.trans (hb5.mono HB.out.size));clear hb5 XS;refine aO.out _ _ (dJ.out _ HB.out) (fun hHeld=>?_);clear aO KC;(try simp only[Act.put,aZ,bq,bA]);clear Wc;rename World=>Wc;refine wpAnyH_ready (rs:=[6,7]) (by decide +kernel) (by simp) (AllReadyH.cons (dA rfl) (fun KC aO=>?_) (AllReadyH.cons (dA rfl) (fun KC aO=>?_) AllReadyH.nil))
     ·refine bW 118 ?_;go_simp;clear hHeld;refine(lH.out Wc (HB0.out.trans (HB.out.mono HB0.out.size))).mono ?_;rintro x Wd ⟨rfl,jS⟩;subst jS;refine aO.out _ _ (dJ.out _ HB.out) (fun hHeld=>?_);clear aO KC;(try simp only[Act.put,aZ,bq,bA]);rename World=>Wc;refine wpAnyH_ready (rs:=[7]) (by decide +kernel) (by simp) (AllReadyH.cons (dA rfl) (fun KC aO=>?_) AllReadyH.nil);refine isAny ?_;go_simp;clear hHeld;obtain⟨bn,hbn⟩:∃bn,bn=Wc.heap.size:=⟨_,rfl⟩;obtain⟨Wd,hV⟩:∃Wd,Wd=Wc.alloc (.cells #[.int .i64 0] 3):=⟨_,rfl⟩;have wK:W0.heap.size≤bn:=by rw[hbn];exact HB.out.size
      have hb5:=jU hV;have XN:=JF hV hbn;rw[←hV,←hbn];replace HB:=Lib.hid (HB.out.trans (hb5.mono HB.out.size));clear hV hbn hb5;refine aO.out _ _ (dJ.out _ HB.out) (fun hHeld=>?_);clear aO KC;(try simp only[Act.put,aZ,bq,bA]);clear Wc;rename World=>Wc;refine wpAnyH_ready (rs:=[8]) (by decide +kernel) (by simp) (AllReadyH.cons (dA rfl) (fun KC aO=>?_) AllReadyH.nil);refine isAny ?_;have v0:=au XN.out 0 rfl;have vz:=jv XN.out;have vl:=aV XN.out;go_simp;clear hHeld v0 vz vl;obtain⟨Wd,hV⟩:∃Wd,Wd=Wc.setCell ⟨bn,0,none⟩ (.int .i64 (lv:Nat)):=⟨_,rfl⟩;rw[←hV];have HN:=Lib.hid (show Wd.heap[bn]?=some (.cells #[.int .i64 (lv:Nat)] 3 (0,0)) by rw[hV];exact aH (o:=0) (vs:=#[.int .i64 0]) XN.out _);replace HB:=Lib.hid (show Below W0.heap.size W0 Wd by rw[hV];exact HB.out.setCell (p:=⟨bn,0,none⟩) wK _);clear hV XN;refine aO.out _ _ (dJ.out _ HB.out) (fun hHeld=>?_);clear aO KC;(try simp only[Act.put,aZ,bq,bA]);clear Wc;rename World=>Wc;refine wpAnyH_done (by decide +kernel) ?_ _;clear hHeld;go_wp2_with fail
      go_meet
      case rel=>exact⟨bn,rfl,wK,HB.out,HN.out⟩
     ·refine isAny ?_;go_simp;clear hHeld;obtain⟨bn,hbn⟩:∃bn,bn=Wc.heap.size:=⟨_,rfl⟩;obtain⟨Wd,hV⟩:∃Wd,Wd=Wc.alloc (.cells #[.int .i64 0] 3):=⟨_,rfl⟩;have wK:W0.heap.size≤bn:=by rw[hbn];exact HB.out.size
      have hb5:=jU hV;have XN:=JF hV hbn;rw[←hV,←hbn];replace HB:=Lib.hid (HB.out.trans (hb5.mono HB.out.size));clear hV hbn hb5;refine aO.out _ _ (dJ.out _ HB.out) (fun hHeld=>?_);clear aO KC;(try simp only[Act.put,aZ,bq,bA]);clear Wc;rename World=>Wc;refine wpAnyH_ready (rs:=[6]) (by decide +kernel) (by simp) (AllReadyH.cons (dA rfl) (fun KC aO=>?_) AllReadyH.nil);refine bW 118 ?_;go_simp;clear hHeld;refine(lH.out Wc (HB0.out.trans (HB.out.mono HB0.out.size))).mono ?_;rintro x Wd ⟨rfl,jS⟩;subst jS;refine aO.out _ _ (dJ.out _ HB.out) (fun hHeld=>?_);clear aO KC;(try simp only[Act.put,aZ,bq,bA]);rename World=>Wc;refine wpAnyH_ready (rs:=[8]) (by decide +kernel) (by simp) (AllReadyH.cons (dA rfl) (fun KC aO=>?_) AllReadyH.nil);refine isAny ?_;have v0:=au XN.out 0 rfl;have vz:=jv XN.out;have vl:=aV XN.out;go_simp;clear hHeld v0 vz vl;obtain⟨Wd,hV⟩:∃Wd,Wd=Wc.setCell ⟨bn,0,none⟩ (.int .i64 (lv:Nat)):=⟨_,rfl⟩;rw[←hV];have HN:=Lib.hid (show Wd.heap[bn]?=some (.cells #[.int .i64 (lv:Nat)] 3 (0,0)) by rw[hV];exact aH (o:=0) (vs:=#[.int .i64 0]) XN.out _);replace HB:=Lib.hid (show Below W0.heap.size W0 Wd by rw[hV];exact HB.out.setCell (p:=⟨bn,0,none⟩) wK _);clear hV XN;refine aO.out _ _ (dJ.out _ HB.out) (fun hHeld=>?_);clear aO KC;(try simp only[Act.put,aZ,bq,bA]);clear Wc;rename World=>Wc;refine wpAnyH_done (by decide +kernel) ?_ _;clear hHeld;go_wp2_with fail
      go_meet
      case rel=>exact⟨bn,rfl,wK,HB.out,HN.out⟩
    ·refine isAny ?_;go_simp;clear hHeld;obtain⟨bn,hbn⟩:∃bn,bn=Wc.heap.size:=⟨_,rfl⟩;obtain⟨Wd,hV⟩:∃Wd,Wd=Wc.alloc (.cells #[.int .i64 0] 3):=⟨_,rfl⟩;have wK:W0.heap.size≤bn:=by rw[hbn];exact HB.out.size
     have hb5:=jU hV;have XN:=JF hV hbn;rw[←hV,←hbn];replace XS:=kX hb5 XS;replace HB:=Lib.hid (HB.out.trans (hb5.mono HB.out.size));clear hV hbn hb5;refine aO.out _ _ (dJ.out _ HB.out) (fun hHeld=>?_);clear aO KC;(try simp only[Act.put,aZ,bq,bA]);clear Wc;rename World=>Wc;refine wpAnyH_ready (rs:=[5]) (by decide +kernel) (by simp) (AllReadyH.cons (dA rfl) (fun KC aO=>?_) AllReadyH.nil);refine bW 71 ?_;go_simp;clear hHeld;refine(HT.out Wc bs (HB0.out.trans (HB.out.mono HB0.out.size)) XS.out).mono ?_;rintro x Wd ⟨rfl,hb5⟩;replace XN:=kX hb5 XN;replace HB:=Lib.hid (HB.out.trans (hb5.mono HB.out.size));clear hb5 XS;refine aO.out _ _ (dJ.out _ HB.out) (fun hHeld=>?_);clear aO KC;(try simp only[Act.put,aZ,bq,bA]);clear Wc;rename World=>Wc;refine wpAnyH_ready (rs:=[6]) (by decide +kernel) (by simp) (AllReadyH.cons (dA rfl) (fun KC aO=>?_) AllReadyH.nil);refine bW 118 ?_;go_simp;clear hHeld;refine(lH.out Wc (HB0.out.trans (HB.out.mono HB0.out.size))).mono ?_;rintro x Wd ⟨rfl,jS⟩;subst jS;refine aO.out _ _ (dJ.out _ HB.out) (fun hHeld=>?_);clear aO KC;(try simp only[Act.put,aZ,bq,bA]);rename World=>Wc;refine wpAnyH_ready (rs:=[8]) (by decide +kernel) (by simp) (AllReadyH.cons (dA rfl) (fun KC aO=>?_) AllReadyH.nil);refine isAny ?_;have v0:=au XN.out 0 rfl;have vz:=jv XN.out;have vl:=aV XN.out;go_simp;clear hHeld v0 vz vl;obtain⟨Wd,hV⟩:∃Wd,Wd=Wc.setCell ⟨bn,0,none⟩ (.int .i64 (lv:Nat)):=⟨_,rfl⟩;rw[←hV]
     have HN:=Lib.hid (show Wd.heap[bn]?=some (.cells #[.int .i64 (lv:Nat)] 3 (0,0)) by rw[hV];exact aH (o:=0) (vs:=#[.int .i64 0]) XN.out _);replace HB:=Lib.hid (show Below W0.heap.size W0 Wd by rw[hV];exact HB.out.setCell (p:=⟨bn,0,none⟩) wK _);clear hV XN;refine aO.out _ _ (dJ.out _ HB.out) (fun hHeld=>?_);clear aO KC;(try simp only[Act.put,aZ,bq,bA]);clear Wc;rename World=>Wc;refine wpAnyH_done (by decide +kernel) ?_ _;clear hHeld;go_wp2_with fail
     go_meet
     case rel=>exact⟨bn,rfl,wK,HB.out,HN.out⟩
   ·refine isAny ?_;go_simp;clear hHeld;obtain⟨bn,hbn⟩:∃bn,bn=Wc.heap.size:=⟨_,rfl⟩;obtain⟨Wd,hV⟩:∃Wd,Wd=Wc.alloc (.cells #[.int .i64 0] 3):=⟨_,rfl⟩;have wK:W0.heap.size≤bn:=by rw[hbn];exact HB.out.size
    have hb5:=jU hV;have XN:=JF hV hbn;rw[←hV,←hbn];replace HB:=Lib.hid (HB.out.trans (hb5.mono HB.out.size));clear hV hbn hb5;refine aO.out _ _ (dJ.out _ HB.out) (fun hHeld=>?_);clear aO KC;(try simp only[Act.put,aZ,bq,bA]);clear Wc;rename World=>Wc;refine wpAnyH_ready (rs:=[4]) (by decide +kernel) (by simp) (AllReadyH.cons (dA rfl) (fun KC aO=>?_) AllReadyH.nil);refine isAny ?_;go_simp;clear hHeld;obtain⟨bs,hbs⟩:∃bs,bs=Wc.heap.size:=⟨_,rfl⟩;obtain⟨Wd,hV⟩:∃Wd,Wd=Wc.alloc (.cells #[.int .i64 (f:Nat),.int .i64 (g:Nat)] 107):=⟨_,rfl⟩;have hb5:=jU hV;have XS:=JF hV hbs;rw[←hV,←hbs];replace XN:=kX hb5 XN;replace HB:=Lib.hid (HB.out.trans (hb5.mono HB.out.size));clear hV hbs hb5;refine aO.out _ _ (dJ.out _ HB.out) (fun hHeld=>?_);clear aO KC;(try simp only[Act.put,aZ,bq,bA]);clear Wc;rename World=>Wc;refine wpAnyH_ready (rs:=[5]) (by decide +kernel) (by simp) (AllReadyH.cons (dA rfl) (fun KC aO=>?_) AllReadyH.nil);refine bW 71 ?_;go_simp;clear hHeld;refine(HT.out Wc bs (HB0.out.trans (HB.out.mono HB0.out.size)) XS.out).mono ?_;rintro x Wd ⟨rfl,hb5⟩;replace XN:=kX hb5 XN;replace HB:=Lib.hid (HB.out.trans (hb5.mono HB.out.size));clear hb5 XS;refine aO.out _ _ (dJ.out _ HB.out) (fun hHeld=>?_);clear aO KC;(try simp only[Act.put,aZ,bq,bA]);clear Wc;rename World=>Wc;refine wpAnyH_ready (rs:=[6]) (by decide +kernel) (by simp) (AllReadyH.cons (dA rfl) (fun KC aO=>?_) AllReadyH.nil);refine bW 118 ?_;go_simp;clear hHeld
    refine(lH.out Wc (HB0.out.trans (HB.out.mono HB0.out.size))).mono ?_;rintro x Wd ⟨rfl,jS⟩;subst jS;refine aO.out _ _ (dJ.out _ HB.out) (fun hHeld=>?_);clear aO KC;(try simp only[Act.put,aZ,bq,bA]);rename World=>Wc;refine wpAnyH_ready (rs:=[8]) (by decide +kernel) (by simp) (AllReadyH.cons (dA rfl) (fun KC aO=>?_) AllReadyH.nil);refine isAny ?_;have v0:=au XN.out 0 rfl;have vz:=jv XN.out;have vl:=aV XN.out;go_simp;clear hHeld v0 vz vl;obtain⟨Wd,hV⟩:∃Wd,Wd=Wc.setCell ⟨bn,0,none⟩ (.int .i64 (lv:Nat)):=⟨_,rfl⟩;rw[←hV];have HN:=Lib.hid (show Wd.heap[bn]?=some (.cells #[.int .i64 (lv:Nat)] 3 (0,0)) by rw[hV];exact aH (o:=0) (vs:=#[.int .i64 0]) XN.out _);replace HB:=Lib.hid (show Below W0.heap.size W0 Wd by rw[hV];exact HB.out.setCell (p:=⟨bn,0,none⟩) wK _);clear hV XN;refine aO.out _ _ (dJ.out _ HB.out) (fun hHeld=>?_);clear aO KC;(try simp only[Act.put,aZ,bq,bA]);clear Wc;rename World=>Wc;refine wpAnyH_done (by decide +kernel) ?_ _;clear hHeld;go_wp2_with fail
    go_meet
    case rel=>exact⟨bn,rfl,wK,HB.out,HN.out⟩
  case rest=>
   obtain⟨b11,rfl,Oo,hB,Yw⟩:=hcut;go_wp2_with fail;obtain⟨hv,kL,hll,huv,uo,N9,hlv,hf0⟩:=HTV.out;obtain⟨φ,hφ⟩:∃φ:Bd.BF,φ=fun s=>Bd.De M.D f s&&Bd.De M.D g s:=⟨_,rfl⟩;have hφi:∀a b:Nat→Bool,(∀u,u<n→M.ah v≤M.ah u→a u=b u)→φ a=φ b:=by rw[hφ];exact fun a b hab=>Bd.Mg HI.out.gi huv uo a b hab
   rw[←hlv]at hφi;have U8:=Lib.hid (And.intro hφ hφi);have A_:=Lib.hid (And.intro Oo (show ¬b11=b7 by have:=FU.out.2.2.2.2;omega));obtain⟨q4,q5,q6,q7⟩:=SX.out
   have KF:=Lib.hid (show Below w.heap.size w wc∧wc.heap[b4]?=some (.cells #[.pointer (some ⟨xb,0,none⟩)] 106 (0,0))∧wc.heap[b5]?=some (.cells #[.int .i64 (f:Nat)] 107 (0,0))∧wc.heap[b6]?=some (.cells #[.int .i64 (g:Nat)] 107 (0,0))∧wc.heap[b7]?=some (.cells #[.int .i64 (c:Nat)] 107 (0,0))∧wc.heap[b11]?=some (.cells #[.int .i64 (lv:Nat)] 3 (0,0))from
    ⟨HB0.out.trans (hB.mono HB0.out.size),(hB.block b4 (aV q4)).trans q4,(hB.block b5 (aV q5)).trans q5,(hB.block b6 (aV q6)).trans q6,(hB.block b7 (aV q7)).trans q7,Yw⟩)
   clear hv kL hll huv uo N9 hlv hf0 hφ hφi q4 q5 q6 q7 Oo hB Yw
   go_loopg [30,31,32,33,34,35,36,37,38,39,40,41,42] l.length (fun q v30 v31 v32 v33 v34 v35 v36 v37 v38 v39 v40 v41 v42 wr=>∃(c':Nat)(l':List Nat),q=l'.length∧Bd.dP M.S.nd c' l'∧Bd.eP l φ=Bd.eP l' φ∧Below w.heap.size w wr∧wr.heap[b4]?=some (.cells #[.pointer (some ⟨xb,0,none⟩)] 106 (0,0))∧wr.heap[b5]?=some (.cells #[.int .i64 (f:Nat)] 107 (0,0))∧wr.heap[b6]?=some (.cells #[.int .i64 (g:Nat)] 107 (0,0))∧wr.heap[b7]?=some (.cells #[.int .i64 (c':Nat)] 107 (0,0))∧wr.heap[b11]?=some (.cells #[.int .i64 (lv:Nat)] 3 (0,0)))
   case atStart=>exact⟨c,l,rfl,xI.out,rfl,KF.out⟩
   case round=>
    obtain⟨c',l',rfl,kM,hex,hb,q4,q5,q6,q7,Rh⟩:=hrel;have sc:=Inv.small HI.out hrm kM.ok;have cC:=fun W=>iU c' W sc;have HB:=Lib.hid hb;have HQ:=Lib.hid (And.intro q4 (And.intro q5 (And.intro q6 (And.intro q7 Rh))));have SY:=Lib.hid hex;have lI:=Lib.hid kM;have mW:∀W,Below wr.heap.size wr W→W.cell? ⟨b4,0,none⟩=some (.pointer (some ⟨xb,0,none⟩))∧W.cell? ⟨b7,0,none⟩=some (.int .i64 (c':Nat))∧W.cell? ⟨b11,0,none⟩=some (.int .i64 (lv:Nat)):=fun W h=>⟨au ((h.block b4 (aV q4)).trans q4) 0 rfl,au ((h.block b7 (aV q7)).trans q7) 0 rfl,au ((h.block b11 (aV Rh)).trans Rh) 0 rfl⟩;have dJ:=Lib.hid mW;have HD:=Lib.hid (show Below wr.heap.size wr wr.drew from(Below.refl _ _).drew);clear hb kM hex q4 q5 q6 q7 Rh mW
    by_cases h0:c'/2=0
    ·have e0:(c'/2==0)=true:=by simp[h0]
     rw[e0]at cC;have qg:=Lib.hid cC;have H0:=Lib.hid h0;clear cC h0 e0;go_wp2_with fail;refine wp_region_held_drew (S:=fun W=>W.cell? ⟨b4,0,none⟩=some (.pointer (some ⟨xb,0,none⟩))∧W.cell? ⟨b7,0,none⟩=some (.int .i64 (c':Nat))∧W.cell? ⟨b11,0,none⟩=some (.int .i64 (lv:Nat))) (by kernel_rfl) (dJ.out _ HD.out) (fun hHeld=>?_)
     repeat
      (first|refine aD 0 (v:=?_) rfl ?hy ?_|refine aD 2 (v:=?_) rfl ?hy ?_|refine aD 3 (v:=?_) rfl ?hy ?_
       case hy=>
        intro w0 hS;obtain⟨c0,c1,c2⟩:=hS;go_simp
        (first|done|with_reducible rfl)
       try simp only[Act.put,aZ,bq,bA])
     refine wpAnyH_ready (rs:=[1]) (by decide +kernel) (by simp) (AllReadyH.cons (dA rfl) (fun KC aO=>?_) AllReadyH.nil);refine bW 107 ?_;go_simp;clear hHeld;refine(qg.out _).mono ?_;rintro r w4 ⟨rfl,hw4⟩;rw[hw4];clear hw4;refine aO.out _ _ (dJ.out _ HD.out) (fun hHeld=>?_);clear aO KC;try simp only[Act.put,aZ,bq,bA]
     repeat
      (first|refine aD 2 (v:=?_) rfl ?hy ?_|refine aD 3 (v:=?_) rfl ?hy ?_
       case hy=>
        intro w0 hS;obtain⟨c0,c1,c2⟩:=hS;go_simp
        (first|done|with_reducible rfl)
       try simp only[Act.put,aZ,bq,bA])
     repeat
      (first|refine ru 4 rfl ?_|refine ru 5 rfl ?_|refine ru 7 rfl ?_|refine ru 8 rfl ?_
       try simp only[Act.put,aZ,bq,bA])
     refine wpAnyH_ready (rs:=[6]) (by decide +kernel) (by simp) (AllReadyH.cons (dA rfl) (fun KC aO=>?_) AllReadyH.nil);refine Q9 ?_;refine aO.out _ _ (by assumption) (fun hHeld=>?_);clear aO KC;try simp only[Act.put,aZ,bq,bA]
     repeat
      (first|refine ru 4 rfl ?_|refine ru 5 rfl ?_|refine ru 7 rfl ?_|refine ru 8 rfl ?_
       try simp only[Act.put,aZ,bq,bA])
     repeat
      (first|refine aD 9 (v:=?_) rfl ?hy ?_
       case hy=>
        intro w0 hS;obtain⟨c0,c1,c2⟩:=hS;go_simp
        (first|done|with_reducible rfl)
       try simp only[Act.put,aZ,bq,bA])
     refine wpAnyH_done (by decide +kernel) ?_ _;clear hHeld;obtain⟨y4,y7,y11⟩:=dJ.out _ HD.out;have hbw:=HB.out.trans (HD.out.mono HB.out.size);have y5:wr.drew.cell? ⟨b5,0,none⟩=_:=au HQ.out.2.1 0 rfl;have y6:wr.drew.cell? ⟨b6,0,none⟩=_:=au HQ.out.2.2.1 0 rfl;have cI:=qZ (n:=n) (room:=room) (p:=p) (xb:=xb) (by omega) hrm k L f g 1 M K wr.drew HL.out HI.out HU.out.1 HU.out.2 (.inl rfl) (HC.out.below hbw) ⟨_,HM.out.below hbw,HG.out⟩;have HII:=Lib.hid cI;have Dz:=Lib.hid hbw;clear cI hbw
     go_wp2_with (go_at_call 107;with_reducible refine(qg.out _).mono ?_;rintro r w' ⟨rfl,hw⟩;rw[hw];clear hw)
     refine(HII.out).mono ?_;rintro x w6 hq
     have hfr:=hq.fresh (P':=Bd.Pn M f g l) (l:=(k+1)*2^k) (aj.of_below Dz.out) (by rw[Nat.add_mul];omega) (fun M' e i' g' h'=>by
      refine⟨?_,fun L' h1 h2=>h'.2 L' h1 h2 (.inl rfl)⟩;have e1:=SY.out;rw[U8.out.1]at e1;rw[h'.1,Bd.P8 HI.out.gi,e1,(lI.out.const HI.out.gi H0.out).1]
      rfl)
     have Oj:=Lib.hid hfr
     rcases hq.ex.symm with⟨cp,rfl,hx⟩|⟨e,M1,K2,rfl,-⟩
     ·clear hq hfr hx;go_wp2_with fail;refine(show _∧_ from⟨rfl,?_⟩);rw[HF.out];exact Oj.out
     ·clear hq hfr;go_wp2_with fail;rw[HF.out];exact Oj.out
    ·have e0:(c'/2==0)=false:=by simp[h0]
     rw[e0]at cC;have qg:=Lib.hid cC;have H0:=Lib.hid h0;have cQ:=fun W (hb:Below wr.heap.size wr W)=>jO HI.out hn hrm lI.out.ok (HC.out.below (HB.out.trans (hb.mono HB.out.size))) (HM.out.below (HB.out.trans (hb.mono HB.out.size)));obtain⟨lc,hlc⟩:∃lc,lc=Bd.fT M.S.nd M.ah c':=⟨_,rfl⟩;rw[←hlc]at cQ;have HQC:=Lib.hid cQ;have Yp:=Lib.hid hlc;clear cC h0 e0 cQ hlc;go_wp2_with fail;refine wp_region_held_drew (S:=fun W=>W.cell? ⟨b4,0,none⟩=some (.pointer (some ⟨xb,0,none⟩))∧W.cell? ⟨b7,0,none⟩=some (.int .i64 (c':Nat))∧W.cell? ⟨b11,0,none⟩=some (.int .i64 (lv:Nat))) (by kernel_rfl) (dJ.out _ HD.out) (fun hHeld=>?_)
     repeat
      (first|refine aD 0 (v:=?_) rfl ?hy ?_|refine aD 2 (v:=?_) rfl ?hy ?_|refine aD 3 (v:=?_) rfl ?hy ?_
       case hy=>
        intro w0 hS;obtain⟨c0,c1,c2⟩:=hS;go_simp
        (first|done|with_reducible rfl)
       try simp only[Act.put,aZ,bq,bA])
     refine wpAnyH_ready (rs:=[1]) (by decide +kernel) (by simp) (AllReadyH.cons (dA rfl) (fun KC aO=>?_) AllReadyH.nil);refine bW 107 ?_;go_simp;clear hHeld;refine(qg.out _).mono ?_;rintro r w4 ⟨rfl,hw4⟩;rw[hw4];clear hw4;refine aO.out _ _ (dJ.out _ HD.out) (fun hHeld=>?_);clear aO KC;try simp only[Act.put,aZ,bq,bA]
     repeat
      (first|refine aD 2 (v:=?_) rfl ?hy ?_|refine aD 3 (v:=?_) rfl ?hy ?_|refine aD 4 (v:=?_) rfl ?hy ?_|refine aD 5 (v:=?_) rfl ?hy ?_|refine aD 7 (v:=?_) rfl ?hy ?_
       case hy=>
        intro w0 hS;obtain⟨c0,c1,c2⟩:=hS;go_simp
        (first|done|with_reducible rfl)
       try simp only[Act.put,aZ,bq,bA])
     refine wpAnyH_ready (rs:=[6]) (by decide +kernel) (by simp) (AllReadyH.cons (dA rfl) (fun KC aO=>?_) AllReadyH.nil);refine bW 119 ?_;go_simp;clear hHeld;refine(HQC.out _ HD.out).mono ?_;rintro r w5 ⟨rfl,hb4⟩;have pG:=Lib.hid (HD.out.trans (hb4.mono HD.out.size));clear hb4;refine aO.out _ _ (dJ.out _ pG.out) (fun hHeld=>?_);clear aO KC;try simp only[Act.put,aZ,bq,bA]
     repeat
      (first|refine aD 7 (v:=?_) rfl ?hy ?_|refine aD 8 (v:=?_) rfl ?hy ?_|refine aD 9 (v:=?_) rfl ?hy ?_
       case hy=>
        intro w0 hS;obtain⟨c0,c1,c2⟩:=hS;go_simp
        (first|done|with_reducible rfl)
       try simp only[Act.put,aZ,bq,bA])
     refine wpAnyH_done (by decide +kernel) ?_ _;clear hHeld;have Dz:=Lib.hid (HB.out.trans (pG.out.mono HB.out.size));obtain⟨y4,y7,y11⟩:=dJ.out _ pG.out;obtain⟨q4,q5,q6,q7,Rh⟩:=HQ.out;have l4:b4<w5.heap.size:=Nat.lt_of_lt_of_le (aV q4) pG.out.size;have l5:b5<w5.heap.size:=Nat.lt_of_lt_of_le (aV q5) pG.out.size;have l6:b6<w5.heap.size:=Nat.lt_of_lt_of_le (aV q6) pG.out.size;have l7:b7<w5.heap.size:=Nat.lt_of_lt_of_le (aV q7) pG.out.size;have l11:b11<w5.heap.size:=Nat.lt_of_lt_of_le (aV Rh) pG.out.size;have p4:w5.heap[b4]?=_:=(pG.out.block b4 (aV q4)).trans q4;have p5:w5.heap[b5]?=_:=(pG.out.block b5 (aV q5)).trans q5;have p6:w5.heap[b6]?=_:=(pG.out.block b6 (aV q6)).trans q6;have p7:w5.heap[b7]?=_:=(pG.out.block b7 (aV q7)).trans q7;have p11:w5.heap[b11]?=_:=(pG.out.block b11 (aV Rh)).trans Rh;have HP:=Lib.hid (And.intro p4 (And.intro p5 (And.intro p6 (And.intro p7 p11))));have y5:w5.cell? ⟨b5,0,none⟩=_:=au p5 0 rfl;have y6:w5.cell? ⟨b6,0,none⟩=_:=au p6 0 rfl;clear p4 p5 p6 p7 p11 q4 q5 q6 q7 Rh
     by_cases hlt:lc<lv
     ·have Yi:(lc:Int)<(lv:Int):=by omega
      obtain⟨v',l2,hl2,aa2,hnd,FW,Oi⟩:=Bd.MH HI.out.gi hn lI.out H0.out U8.out.2 (by rw[←Yp.out];exact hlt);have cR:=oI HI.out hn hrm hnd (HC.out.below Dz.out) (HM.out.below Dz.out);obtain⟨c2,hc2⟩:∃c2,c2=Bd.aI M.S.nd c' v':=⟨_,rfl⟩;simp only at cR;rw[←hc2]at cR FW;have HR:=Lib.hid cR;have H2:=Lib.hid (And.intro hl2 (And.intro FW Oi));clear hl2 aa2 hnd FW Oi cR hc2 hlt
      go_wp2_with (go_at_call 120;with_reducible refine(HR.out).mono ?_;rintro r w6 ⟨rfl,hb6⟩;have BH:=Lib.hid hb6;have r7:w6.heap[b7]?=_:=(hb6.block b7 l7).trans HP.out.2.2.2.1;have z7:w6.cell? ⟨b7,0,none⟩=_:=au r7 0 rfl;have zf:∀o,w6.frozen? ⟨b7,o,none⟩=false:=jv r7;have zl:=aV r7;have HR7:=Lib.hid r7;clear hb6 r7)
      go_roundg l2.length
      case rel=>
       obtain⟨⟨g4,g5,g6,g7⟩,n1,n2,n3,n4⟩:=FU.out;refine⟨c2,l2,rfl,H2.out.2.1,SY.out.trans H2.out.2.2,(Dz.out.trans (BH.out.mono Dz.out.size)).setCell (p:=⟨b7,0,none⟩) g7 _,?_,?_,?_,aH (o:=0) (vs:=#[.int .i64 (c':Nat)]) HR7.out _,?_⟩
       ·exact(heap_setCell_other _ _ _ _ n1).trans ((BH.out.block b4 l4).trans HP.out.1)
       ·exact(heap_setCell_other _ _ _ _ n2).trans ((BH.out.block b5 l5).trans HP.out.2.1)
       ·exact(heap_setCell_other _ _ _ _ n3).trans ((BH.out.block b6 l6).trans HP.out.2.2.1)
       ·exact(heap_setCell_other _ _ _ _ A_.out.2).trans ((BH.out.block b11 l11).trans HP.out.2.2.2.2)
      case measure=>rw[H2.out.1];simp
     ·have Yi:¬(lc:Int)<(lv:Int):=by omega
      obtain⟨hv,kL,hll,huv,uo,N9,hlv,hf0⟩:=HTV.out
      obtain⟨k',rfl⟩:∃k',k=k'+1:=by
       have h6:=HL.out;exact⟨k-1,by omega⟩
      obtain⟨K1,t1,k1⟩:=bX K Dz.out;obtain⟨⟨g4,g5,g6,g7⟩,-,-,-,-⟩:=FU.out;have g11:w.heap.size≤b11:=Nat.le_trans HB0.out.size A_.out.1;have x4:Bx K1 w5 b4 106 (.pointer (some ⟨xb,0,none⟩)):=⟨k1 _ g4,HP.out.1⟩;have x5:Bx K1 w5 b5 107 (.int .i64 (f:Nat)):=⟨k1 _ g5,HP.out.2.1⟩;have x6:Bx K1 w5 b6 107 (.int .i64 (g:Nat)):=⟨k1 _ g6,HP.out.2.2.1⟩;have x7:Bx K1 w5 b7 107 (.int .i64 (c':Nat)):=⟨k1 _ g7,HP.out.2.2.2.1⟩;have UU:Bx K1 w5 b11 3 (.int .i64 (M.ah v:Nat)):=⟨k1 _ g11,by rw[←hlv];exact HP.out.2.2.2.2⟩;have c1:=HC.out.aG (t1 (fun _=>False)) id;have m1:aX K1 w5 p n room M:=⟨_,HM.out.aG (t1 (fun _=>False)) (fun r h=>h.elim),HG.out⟩;have hle:M.ah v≤Bd.fT M.S.nd M.ah c':=by rw[←Yp.out,←hlv];omega
      have cMM:=yV (K:=K1) (w:=w5) (op:=1501) (a:=f) (b:=g) (c:=c') (fid:=122) (cap:=#[.pointer (some ⟨b4,0,none⟩),.pointer (some ⟨b5,0,none⟩),.pointer (some ⟨b6,0,none⟩),.pointer (some ⟨b7,0,none⟩),.pointer (some ⟨b11,0,none⟩)]) (k:=(k'+1+1)*2^(k'+1)) HI.out hrm (fun _ _=>rfl)
       (fun w1 tt m2=>Ol hn hrm (pW.out k' rfl) (by have:=HL.out;omega) HI.out HU.out.1 HU.out.2 lI.out hv H0.out hle (x4.aG tt (by omega)) (x5.aG tt (by omega)) (x6.aG tt (by omega)) (x7.aG tt (by omega)) (UU.aG tt (by omega)) (c1.aG tt (by omega)) m2) c1 m1
      have Ob:∀(fn:Fn)(first cap:Array Value)(w:World),(Instr.makeFunc fn first cap).run Tryz.prog w=.ok (.func fn first cap) w:=fun _ _ _ _=>rfl;have XR:=Lib.hid cMM;have HT1:=Lib.hid (t1 mR);clear t1 k1 x4 x5 x6 x7 UU c1 m1 hle cMM hlt hv kL hll huv uo N9 hlv hf0 g4 g5 g6 g7 g11
      go_wp2_with (go_at_call 107;with_reducible refine(qg.out _).mono ?_;rintro r w' ⟨rfl,hw⟩;rw[hw];clear hw)
      refine(XR.out).mono ?_;rintro x w6 hq
      have hfr:=hq.fresh (P':=Bd.Pn M f g l) HT1.out (Nat.le_refl _) (fun M' e i' g' h'=>by
       have h9:=Bd.Good.boP HI.out i' g' HU.out.1.ok HU.out.2.ok lI.out h';have e1:=SY.out;rw[U8.out.1]at e1
       exact⟨h9.1.trans e1.symm,h9.2⟩)
      have Oj:=Lib.hid hfr
      rcases hq.ex.symm with⟨cp,rfl,hx⟩|⟨e,M1,K2,rfl,-⟩
      ·clear hq hfr hx;go_wp2_with fail;refine(show _∧_ from⟨rfl,?_⟩);rw[HF.out];exact Oj.out
      ·clear hq hfr;go_wp2_with fail;rw[HF.out];exact Oj.out
theorem KG(hn:n≤64)(hrm:room≤1048576):∀k,IC n room k:=by
 intro k
 induction k with
 |zero=>exact wJ hn hrm 0 (fun k' e=>by omega)
 |succ k ih=>exact wJ hn hrm (k+1) (fun k' e=>by
  obtain rfl:k=k':=by omega
  exact ih)
end
end
section
/-- A list of numbers in a block of role 0. -/
def fQ(K:Nat→Nat)(w:World)(v:Value)(l:List Nat):Prop:=∃g cap,v=.slice (some ⟨g,0,none⟩) l.length cap∧K g=0∧Rw w 3 1 l.length cap g (fun i=>[.int .i64 (l.getD i 0:Nat)])
section
variable {K K':Nat→Nat} {w w':World} {p xb n room k b B:Nat} {M M':Bd.MS} {t:Nat→iN} {e f g v:Nat} {d:Bd.Nd} {u:Value} {l:List Nat}
theorem bO.toK(h:bO B w u l)(hk:∀q,B≤q→K q=0):fQ K w u l:=by
 obtain⟨g,cap,h1,h2,h3⟩:=h;exact⟨g,cap,h1,hk g h2,h3⟩
theorem fQ.aG{R:Nat→Prop}(h:fQ K w u l)(tt:aj R K w K' w')(hR:¬R 0):fQ K' w' u l:=by
 obtain⟨g,cap,h1,h2,h3⟩:=h;exact⟨g,cap,h1,(tt.ext g h3.lt).trans h2,h3.kept (tt.block h3.lt (by rw[h2];exact hR))⟩
theorem fQ.dM(h:fQ K w u l):av w u l:=by
 obtain⟨g,cap,h1,h2,h3⟩:=h;exact .inr ⟨g,cap,h1,h3⟩
theorem fQ.ex(h:fQ K w u l):∃g cap,u=.slice (some ⟨g,0,none⟩) l.length cap∧K g=0∧Rw w 3 1 l.length cap g (fun i=>[.int .i64 (l.getD i 0:Nat)]):=h
theorem jm{n c g j x:Nat}(h:Rw w 3 1 n c g (fun i=>[.int .i64 (l.getD i 0:Nat)]))(hj:j<n)(hx:l.getD j 0=x):w.cell? ⟨g,j,none⟩=some (.int .i64 (x:Nat)):=by
 have:=h.cell (i:=j) (j:=0) hj (by omega);simp only[Nat.mul_one,Nat.add_zero,List.getElem?_cons_zero]at this;rw[this,hx]
/-- One element of a row,as a slice. -/
theorem Ot{n c g j x:Nat}(h:Rw w 3 1 n c g (fun i=>[.int .i64 (l.getD i 0:Nat)]))(hj:j<n)(hx:l.getD j 0=x)(c':Nat):nN w (.slice (some ⟨g,j,none⟩) 1 c') [x]:=by
 refine⟨_,c',rfl,fun i hi=>⟨g,j,rfl,h.lt,?_⟩⟩;obtain rfl:i=0:=by simpa using hi
 exact jm h hj hx
theorem U_(W:World)(g len cap j:Nat)(h:j<len)(hc:len≤cap):(Instr.slice 22 (.slice (some ⟨g,0,none⟩) len cap) (some (.int .i64 (j:Nat))) (some (.int .i64 ((j:Int)+1))) none).run Tryz.prog W=.ok (.slice (some ⟨g,j,none⟩) 1 (cap-j)) W:=by
 have hu:Tryz.prog.underlying 22=some (.slice (Tryz.prog.elem 22)):=by kernel_rfl
 have hs:(sizeOf (Tryz.prog.elem 22)).run Tryz.prog W=.ok 1 W:=by kernel_rfl
 rw[run_slice_lh W 22 (some ⟨g,0,none⟩) len cap hu .i64 .i64 (j:Nat) ((j:Int)+1) (by omega) (by omega) (by omega),hs];have e:¬cap=j:=by omega
 have e1:((j:Int)+1-(j:Int)).toNat=1:=by omega
 simp[Result.andThen,sliced,Addr.add,e]
 try (intro h;omega)
/-- What cube leaves. -/
def S9(vars:List Nat)(M':Bd.MS)(r:Nat):Prop:=∃l,Bd.dP M'.S.nd r l∧∀v,v∈l↔v∈vars
theorem KJ(hn:n≤64)(hrm:room≤1048576)(hi:Bd.Inv n room M){vars:List Nat}(hvars:∀v∈vars,v<n)(hvl:vars.length≤1000)(hsv:av w u vars)(hc:dL K w xb p)(hm:aX K w p n room M) :
 Calls Tryz.prog 60 #[.pointer (some ⟨xb,0,none⟩),u] w (oF K w p n room M n (S9 vars)):=by
 obtain⟨F,HF⟩:=aJ (oF K w p n room M n (S9 vars));rw[←HF.out];have cO:=lZ hsv hvl;obtain⟨pu,cu,hu,-⟩:=hsv.form;obtain⟨ul,mG⟩:∃ul,ul=vars.length:=⟨_,rfl⟩;rw[←mG]at hu hvl;subst hu;have hlen:=Bd.jd (Bd.fP vars) (fun v hv=>hvars v ((Bd.dV vars v).1 hv));have HO:=Lib.hid cO;have HI:=Lib.hid hi;have HC:=Lib.hid hc;have HM:=Lib.hid hm;have HV:=Lib.hid hvars;have HLEN:=Lib.hid hlen;clear cO hi hc hm hvars hsv mG hlen;go_in;go_wp2_with fail;refine(HO.out).mono ?_;rintro x w1 ⟨o,rfl,ho,hb1⟩;obtain⟨K1,t1,k1⟩:=bX K hb1;have hk:=ho.toK k1;have c1:=HC.out.aG (t1 (fun _=>False)) id;have m1:=HM.out.aG (t1 (fun _=>False)) (fun r h=>h.elim);have HS:=Lib.hid (And.intro hk (And.intro c1 (And.intro m1 (t1 mR))));clear ho hb1 t1 k1 hk c1 m1;go_wp2_with fail
 go_loopg [5,6,7,8,9,12,13,14,15,16,17,18,19,20,21,22,23,24,25,26,27,28,29,30,31,32,33,34,35,36,37,38,39,40,41,42,43,44,45,46,47] (Bd.f_ vars).length (fun q v5 v6 v7 v8 v9 v12 v13 v14 v15 v16 v17 v18 v19 v20 v21 v22 v23 v24 v25 v26 v27 v28 v29 v30 v31 v32 v33 v34 v35 v36 v37 v38 v39 v40 v41 v42 v43 v44 v45 v46 v47 wr=>∃(cur done:List Nat)(r j:Nat)(M1:Bd.MS)(K1:Nat→Nat),q=cur.length∧v6=.int .i64 (r:Nat)∧fQ K1 wr v5 cur∧dL K1 wr xb p∧aX K1 wr p n room M1∧aj mR K w K1 wr∧Bd.Inv n room M1∧Bd.Grow M M1 j∧j+cur.length≤(Bd.f_ vars).length∧Bd.dP M1.S.nd r done∧(∀v,v∈vars↔v∈cur∨v∈done)∧(∀v∈cur,Bd.und M1.S.nd M1.ah (M1.ah v+1) r)∧cur.Nodup)
 case atStart=>exact⟨_,[],0,0,M,K1,rfl,rfl,HS.out.1,HS.out.2.1,HS.out.2.2.1,HS.out.2.2.2,HI.out,Bd.Grow.refl,by omega,.nil,fun v=>by rw[Bd.dV];simp,fun v hv=>.inl rfl,Bd.jE (Bd.fP vars)⟩
 case round=>
  clear HS;obtain⟨cur,dn,r,j,M1,K1,rfl,rfl,hk,hc1,hm1,ht1,hi1,hg1,hj,kM,hmem,hun,hnd⟩:=hrel;obtain⟨wo,hwo⟩:∃wo,wo=wr:=⟨_,rfl⟩;subst hwo;obtain⟨g,cap,rfl,hkg,hrw⟩:=hk.ex;obtain⟨m,hml⟩:∃m,m=cur.length:=⟨_,rfl⟩;obtain⟨tm,hmm,hgd⟩:=hm1;have hcap:=hrw.le;rw[←hml]at hk hrw hcap;rw[←hml];have HK:=Lib.hid (And.intro hk hrw);have EP:=Lib.hid hc1;have Yz:=Lib.hid (And.intro hmm hgd);have HT1:=Lib.hid ht1;have HI1:=Lib.hid (And.intro hi1 (And.intro hg1 hj));have xI:=Lib.hid (And.intro kM (And.intro hmem (And.intro hun hnd)));have LB:=Lib.hid hml;have S_:Hid (∀v∈cur,v<n):=fun v hv=>HV.out v ((hmem v).2 (.inl hv))
  have Va:m≤64:=by
   have:=HLEN.out;omega
  have hgl:=hrw.lt;clear hk hkg hrw hc1 hmm hgd ht1 hi1 hg1 hj kM hmem hun hnd hml
  by_cases h0:0<m
  ·have TP:(0:Int)<(m:Int):=by omega
   go_wp2_with fail
   have hget:∀x,x<m→∃a,cur.getD x 0=a∧a<n∧a∈cur:=fun x hx=>by
    have hl:x<cur.length:=by rw[←LB.out];exact hx
    have hmm:cur.getD x 0∈cur:=by
     rw[List.getD_eq_getElem?_getD,List.getElem?_eq_getElem hl];exact List.getElem_mem hl
    exact⟨_,rfl,S_.out _ hmm,hmm⟩
   have YA:=Lib.hid hget;have WE:=fun(a:Nat)(ha:a<n) W (hb:Below wo.heap.size wo W)=>jN (n:=n) (room:=room) (M:=M1) (K:=K1) (t:=tm) (p:=p) (xb:=xb) (by omega) ha (EP.out.below hb) (Yz.out.1.below hb);have lH:=Lib.hid WE;clear hget WE
   go_loopg [7,8,9,17,18,19,20,21,22,23,24,25,26,27,28,29,30,31,32,33] m (fun q v7 v8 v9 v17 v18 v19 v20 v21 v22 v23 v24 v25 v26 v27 v28 v29 v30 v31 v32 v33 wx=>∃i last:Nat,q=m-i∧i≤m∧v17=.int .i64 (i:Nat)∧v7=.int .i64 (last:Nat)∧last<m∧(∀x,x<i→M1.ah (cur.getD x 0)≤M1.ah (cur.getD last 0))∧Below wo.heap.size wo wx)
   case atStart=>exact⟨0,0,rfl,Nat.zero_le _,rfl,rfl,h0,fun x hx=>by omega,Below.refl _ _⟩
   case round=>
    obtain⟨i,last,rfl,hiq,rfl,rfl,hlast,hmax,hb⟩:=hrel;have HB:=Lib.hid hb;have Vb:=Lib.hid hmax;obtain⟨al,hal,YC,YE⟩:=YA.out last hlast;have abW:(last:Int)<(m:Int):=by omega
    have z1:wr.cell? ⟨g,last,none⟩=some (.int .i64 (al:Nat)):=jm (HK.out.2.kept (hb.block g hgl)) hlast hal;have Ah:=Lib.hid (And.intro hal (And.intro YC YE));clear hmax hal YC YE
    by_cases hlt:i<m
    ·have hji:(i:Int)<(m:Int):=by omega
     obtain⟨a,ha,han,Ta⟩:=YA.out i hlt;have z0:wr.cell? ⟨g,i,none⟩=some (.int .i64 (a:Nat)):=jm (HK.out.2.kept (hb.block g hgl)) hlt ha;have HA:=Lib.hid (And.intro ha (And.intro han Ta));have gK:=Lib.hid (show Below wo.heap.size wo wr.drew from hb.drew);clear ha han Ta hb;go_wp2_with fail;refine wp_region_held_drew (S:=fun W=>W.cell? ⟨g,last,none⟩=some (.int .i64 (al:Nat))) (by kernel_rfl) z1 (fun hHeld=>?_);clear z1 z0
     repeat
      (first|refine aD 0 (v:=?_) rfl ?hy ?_|refine aD 1 (v:=?_) rfl ?hy ?_|refine aD 3 (v:=?_) rfl ?hy ?_|refine aD 4 (v:=?_) rfl ?hy ?_|refine aD 5 (v:=?_) rfl ?hy ?_|refine aD 6 (v:=?_) rfl ?hy ?_|refine aD 7 (v:=?_) rfl ?hy ?_
       case hy=>
        intro w0 hS;have c0:=hS;go_simp
        (first|done|with_reducible rfl)
       try simp only[Act.put,aZ,bq,bA])
     refine wpAnyH_ready (rs:=[2]) (by decide +kernel) (by simp) (AllReadyH.cons (dA rfl) (fun KC aO=>?_) AllReadyH.nil);refine bW 118 ?_;go_simp;clear hHeld;refine(lH.out a HA.out.2.1 _ gK.out).mono ?_;rintro r w4 ⟨rfl,hw4⟩;rw[hw4];clear hw4;refine aO.out _ _ (jm (HK.out.2.kept (gK.out.block g hgl)) hlast Ah.out.1) (fun hHeld=>?_);clear aO KC;try simp only[Act.put,aZ,bq,bA]
     repeat
      (first|refine aD 3 (v:=?_) rfl ?hy ?_|refine aD 4 (v:=?_) rfl ?hy ?_|refine aD 5 (v:=?_) rfl ?hy ?_|refine aD 6 (v:=?_) rfl ?hy ?_|refine aD 7 (v:=?_) rfl ?hy ?_
       case hy=>
        intro w0 hS;have c0:=hS;go_simp
        (first|done|with_reducible rfl)
       try simp only[Act.put,aZ,bq,bA])
     refine wpAnyH_ready (rs:=[8]) (by decide +kernel) (by simp) (AllReadyH.cons (dA rfl) (fun KC aO=>?_) AllReadyH.nil);refine bW 118 ?_;go_simp;clear hHeld;refine(lH.out al Ah.out.2.1 _ gK.out).mono ?_;rintro r w4 ⟨rfl,hw4⟩;rw[hw4];clear hw4;refine aO.out _ _ (jm (HK.out.2.kept (gK.out.block g hgl)) hlast Ah.out.1) (fun hHeld=>?_);clear aO KC;try simp only[Act.put,aZ,bq,bA]
     repeat
      (first|refine aD 9 (v:=?_) rfl ?hy ?_
       case hy=>
        intro w0 hS;have c0:=hS;go_simp
        (first|done|with_reducible rfl)
       try simp only[Act.put,aZ,bq,bA])
     refine wpAnyH_done (by decide +kernel) ?_ _;clear hHeld
     by_cases hgt:M1.ah al<M1.ah a
     ·have hgi:((M1.ah al:Nat):Int)<((M1.ah a:Nat):Int):=by omega
      have HGT:=Lib.hid hgt;clear hgt;go_wp2_with fail
      go_roundg (m-(i+1))
      case rel=>
       refine⟨i+1,i,rfl,by omega,by go_num,rfl,hlt,fun x hx=>?_,gK.out⟩;rw[HA.out.1]
       by_cases e:x=i
       ·rw[e,HA.out.1];exact Nat.le_refl _
       ·have:=Vb.out x (by omega);rw[Ah.out.1]at this;have:=HGT.out;omega
      case measure=>omega
     ·have hgi:¬((M1.ah al:Nat):Int)<((M1.ah a:Nat):Int):=by omega
      have HGT:=Lib.hid hgt;clear hgt;go_wp2_with fail
      go_roundg (m-(i+1))
      case rel=>
       refine⟨i+1,last,rfl,by omega,by go_num,rfl,hlast,fun x hx=>?_,gK.out⟩
       by_cases e:x=i
       ·rw[e,HA.out.1,Ah.out.1];have:=HGT.out;omega
       ·exact Vb.out x (by omega)
      case measure=>omega
    ·obtain rfl:i=m:=by omega
     have hcx:=EP.out.below hb;have hmx:aX K1 wr p n room M1:=⟨_,Yz.out.1.below hb,Yz.out.2⟩;have cK:=qY HI1.out.1 (by omega) hrm Ah.out.2.1 (lo:=1) (hi':=r) (.inl rfl) (xI.out.2.2.1 al Ah.out.2.2) hcx hmx;have HKK:=Lib.hid cK;have T1:=Lib.hid (HT1.out.trans (aj.of_below hb));have HNK:=Lib.hid (HK.out.1.aG (R:=fun _=>False) (aj.of_below hb) id);have HCX:=Lib.hid hcx;clear cK hcx hmx hb;go_wp2_with fail;refine(HKK.out).mono ?_;rintro x w5 hq
     rcases hq.ex.symm with⟨cp,rfl,hx⟩|⟨r',M2,K2,rfl,⟨p2,e1,e2⟩,i2,g2,m2,t2⟩
     ·have h9:=hx.pre HI.out HI1.out.1 HI1.out.2.1 T1.out (m:=n) (by have:=HI1.out.2.2;have:=HLEN.out;have:=LB.out;omega);have qQ:=Lib.hid h9;clear hq hx h9;go_wp2_with fail;refine(show _∧_ from⟨rfl,?_⟩);rw[HF.out];exact .inr qQ.out
     have hk2:=HNK.out.aG t2 gM
     have hrw2:Rw w5 3 1 i cap g (fun i=>[.int .i64 (cur.getD i 0:Nat)]):=by
      obtain⟨g',cap',e,-,hr'⟩:=hk2.ex
      injection e with e e3 e4
      injection e with e
      injection e with e
      subst e e4;rw[←LB.out]at hr';exact hr'
     have cS:=fun W=>U_ W g i cap last hlast hcap;have YG:=oK hk2.dM (Ot hrw2 hlast Ah.out.1 (cap-last)) (by rw[←LB.out];omega) (by simp);have YH:=Lib.hid YG;have HP:=Lib.hid (And.intro p2 (And.intro e1 (And.intro e2 (And.intro i2 (And.intro g2 m2)))));have T2:=Lib.hid (T1.out.trans t2);have um:=Lib.hid (HCX.out.aG t2 gM);clear hq p2 e1 e2 i2 g2 m2 t2 hk2 hrw2 YG;go_wp2_with fail;refine(YH.out).mono ?_;rintro x w6 ⟨o2,rfl,ho2,hb6⟩;obtain⟨K3,t3,k3⟩:=bX K2 hb6;have hk3:=ho2.toK k3;have HR:=Lib.hid (And.intro hk3 (And.intro (t3 (fun _=>False)) (t3 mR)))
     have hlen3:(Bd.f_ (dU cur [al] false)).length+1≤cur.length:=by
      have:=Bd.zT (dU cur [al] false);have:=Bd.tO Ah.out.2.2;unfold dU at *;omega
     have HL3:=Lib.hid hlen3;clear ho2 hb6 t3 k3 hk3 hlen3 cS;go_wp2_with fail
     go_roundg (Bd.f_ (dU cur [al] false)).length
     case rel=>
      obtain⟨p2,e1,e2,i2,g2,m2⟩:=HP.out;obtain⟨hk3,tf,t3⟩:=HR.out;obtain⟨kM,hmem,hun,hnd⟩:=xI.out;have g12:=HI1.out.2.1.trans g2
      have Tc:∀v,v∈Bd.f_ (dU cur [al] false)↔v∈cur∧v≠al:=fun v=>by
       rw[Bd.dV];unfold dU;rw[List.mem_filter];simp
      refine⟨_,al::dn,r',j+1,M2,K3,rfl,rfl,hk3,um.out.aG tf id,m2.aG tf (fun r h=>h.elim),T2.out.trans t3,i2,g12,by have:=HI1.out.2.2;have:=HL3.out;omega,?_,fun v=>?_,fun v hv=>?_,Bd.jE (Bd.fP _)⟩
      ·exact Bd.Je HI1.out.1 Ah.out.2.1 kM e1 e2 (fun i d h=>(g2.up i d h).1)
      ·rw[hmem v,Tc v,List.mem_cons]
       by_cases e:v=al
       ·subst e;exact⟨fun _=>.inr (.inl rfl),fun _=>.inl Ah.out.2.2⟩
       ·constructor
        ·rintro(h|h)
         ·exact .inl ⟨h,e⟩
         ·exact .inr (.inr h)
        ·rintro(h|h|h)
         ·exact .inl h.1
         ·exact absurd h e
         ·exact .inr h
      ·obtain⟨hv1,hv2⟩:=(Tc v).1 hv
       have hlv:M1.ah v<M1.ah al:=by
        have hvi:=S_.out v hv1;obtain⟨q,hq,hqe⟩:=(Bd.Cm).1 hv1;have h1:=Vb.out q (by rw[LB.out];exact hq);rw[hqe,Ah.out.1]at h1
        rcases Nat.lt_or_eq_of_le h1 with h2|h2
        ·exact h2
        ·exact absurd (Bd.zW HI1.out.1 hvi Ah.out.2.1 h2) hv2
       have h3:=p2.und;rw[g2.ah];exact h3.mono (by omega)
     case measure=>have:=HL3.out;have:=LB.out;omega
  ·obtain rfl:m=0:=by omega
   go_wp2_with fail;rw[HF.out];obtain⟨kM,hmem,hun,hnd⟩:=xI.out;have hce:cur=[]:=List.eq_nil_of_length_eq_zero LB.out.symm;refine .inl ⟨r,M1,K1,rfl,⟨dn,kM,fun v=>?_⟩,HI1.out.1,HI1.out.2.1.mono (by have:=HI1.out.2.2;have:=HLEN.out;omega),⟨_,Yz.out.1,Yz.out.2⟩,HT1.out⟩;rw[hmem v,hce];simp
end
end
section
section
variable {K K':Nat→Nat} {w w':World} {p n room:Nat} {M M':Bd.MS}
theorem aa4:iC (iC (fun _=>none) 0 (some (1:Int))) 1 (some 0)=nJ [(1,0),(0,1)]:=by
 funext h
 unfold iC nJ hgt
 by_cases h1:h=1
 ·subst h1;rfl
 ·by_cases h0:h=0
  ·subst h0;rfl
  ·have e1:((1:Nat)==h)=false:=by simp;omega
   have e0:((0:Nat)==h)=false:=by simp;omega
   simp[h1,h0,e1,e0]
theorem y8(h0:0<n)(hn:n≤64)(hr1:1≤room)(hr2:room≤1048576)(K:Nat→Nat)(w:World) :
 Calls Tryz.prog 34 #[.int .i64 (n:Nat),.int .i64 (room:Nat)] w fun r w'=>∃K' p,r=.returned (.tuple #[.pointer (some ⟨p,0,none⟩),.int .i64 0])∧Bd.Inv n room (Bd.rZ n)∧aX K' w' p n room (Bd.rZ n)∧aj mR K w K' w'∧w.heap.size≤p:=by
 obtain⟨F,HF⟩:=aJ (fun(r:Ending)(w':World)=>∃K' p,r=.returned (.tuple #[.pointer (some ⟨p,0,none⟩),.int .i64 0])∧Bd.Inv n room (Bd.rZ n)∧aX K' w' p n room (Bd.rZ n)∧aj mR K w K' w'∧w.heap.size≤p);rw[←HF.out];have HC:=Lib.hid (Oz n room h0 hn hr1 hr2 K w);have hmm:=@run_makeMap Tryz.prog;clear h0 hn hr1 hr2;go_in;go_wp2_with fail;refine(HC.out).mono ?_;rintro x w1 ⟨K1,sb,rfl,s1,t1,hsb⟩;have m0:=bV.made (t:=MU) w1;obtain⟨Wa,ua,ma,oa⟩:=m0.store (x:=0) (show 0<4611686018427387904 by omega) (y:=(1:Int)) (sD (n:=1) (by omega)) (by decide);obtain⟨Wb,ub,mb,ob⟩:=ma.store (x:=1) (show 1<4611686018427387904 by omega) (y:=(0:Int)) (sD (n:=0) (by omega)) (by decide);have ua':(Instr.mapUpdate 115 (.map (some w1.heap.size)) (.int .i64 0) (.int .i64 1)).run Tryz.prog (w1.alloc (.map #[] 0))=.ok () Wa:=ua;have ub':(Instr.mapUpdate 115 (.map (some w1.heap.size)) (.int .i64 1) (.int .i64 0)).run Tryz.prog Wa=.ok () Wb:=ub;have b0:Below w1.heap.size w1 (w1.alloc (.map #[] 0)):=(Below.refl _ _).alloc (Nat.le_refl _) _;have b1:Below w1.heap.size w1 Wa:=b0.trans (oa.below (fun q e=>by omega) (by simp));have b2:Below w1.heap.size w1 Wb:=b1.trans (ob.below (fun q e=>by omega) b1.size);have tb:∀R,aj R K1 w1 (bJ K1 w1.heap.size 14) Wb:=fun R=>(aj.of_below b2).new (Nat.le_refl _);rw[aa4]at mb
 have HM:=Lib.hid (And.intro s1 (And.intro t1 (And.intro hsb (And.intro mb tb))));have cM:=Nj (bJ K1 w1.heap.size 14) Wb;have um:=Lib.hid cM;clear m0 ua ub ma mb oa ob b0 b1 b2 tb s1 t1 hsb cM;go_wp2_with fail;refine(um.out).mono ?_;rintro x w3 ⟨rfl,K3,m3,t3⟩;have HM3:=Lib.hid (And.intro m3 t3);clear m3 t3;go_wp2_with fail;rw[HF.out];obtain⟨s1,t1,hsb,mb,tb⟩:=HM.out;obtain⟨m3,t3⟩:=HM3.out;have l1:=mb.lt;have l2:Wb.heap.size≤w3.heap.size:=t3.size;have l3:w1.heap.size≤Wb.heap.size:=(tb (fun _=>False)).size;have l4:w.heap.size≤w1.heap.size:=t1.size;obtain⟨W,hW⟩:∃W,W=w3.alloc (.cells #[.pointer (some ⟨sb,0,none⟩),.pointer (some ⟨Wb.heap.size,0,none⟩),.map (some w1.heap.size),.int .i64 2,.slice none 0 0,.int .i64 0] 117):=⟨_,rfl⟩;have t4:∀R,aj R K3 w3 (bJ K3 w3.heap.size 1) W:=fun R=>by rw[hW];exact(aj.refl.alloc _).new (Nat.le_refl _)
 have tf:∀R,aj R K1 w1 (bJ K3 w3.heap.size 1) W:=fun R=>((tb R).trans (t3.mono (fun r h=>h.elim))).trans (t4 R);rw[←hW];refine⟨bJ K3 w3.heap.size 1,w3.heap.size,by first|rfl|simp,Bd.MG n room,?_,(t1.mono (fun r h=>by unfold mR;omega)).trans (tf mR),by omega⟩;have t34:∀R,aj R (bJ K1 w1.heap.size 14) Wb (bJ K3 w3.heap.size 1) W:=fun R=>(t3.mono (fun r h=>h.elim)).trans (t4 R);refine⟨fun _=>fZ,⟨⟨sb,Wb.heap.size,w1.heap.size,.slice none 0 0,0⟩,?_,s1.aG (tf (fun _=>False)) (fun r h _=>h),m3.aG (t4 (fun _=>False)) (fun r h=>⟨fun _=>h,fun _=>h⟩),?_,.inl ⟨rfl,rfl⟩,aW _ _ _,?_⟩,fB.none⟩
 ·rw[hW];exact heap_alloc_new _ _
 ·exact mb.kept ((t34 (fun _=>False)).block l1 (fun h=>h))
 ·exact((t34 (fun _=>False)).ext _ l1).trans (aW _ _ _)
end
end
section
def Te(l:List Bd.Ev)(i:Nat):List Value:=match l[i]? with|some e=>EM e|none=>[]
theorem Tf:dS Tryz.prog 24 73 3 24:=dS.mk (z:=.agg #[.int .i64 0,.int .i64 0,.int .i64 0]) (by kernel_rfl) (by kernel_rfl) (by decide) (by decide) rfl
section
variable {K:Nat→Nat} {w w':World}
theorem Bb{l:List Bd.Ev}{i:Nat}{e:Bd.Ev}(h:l[i]?=some e):Te l i=EM e:=by unfold Te;rw[h]
theorem Tg{w':World}{K':Nat→Nat}{l:List Bd.Ev}{g off cap:Nat}{cs:Array Value}{T:TypeId}(hl:l.length≤cap)(hk:K' g=15)(hb:w'.heap[g]?=some (.cells cs T (0,0)))(hs:off+cap*3≤cs.size)(hc:∀i,i<l.length→∀j,j<3→cs[off+(i*3+j)]?=(Te l i)[j]?):Wt K' w' (.slice (some ⟨g,off,none⟩) l.length cap) l:=by
 refine .inr ⟨g,off,cap,rfl,hl,hk,⟨cs,T,hb,hs⟩,fun i e hi j hj=>?_⟩;have hil:i<l.length:=(List.getElem?_eq_some_iff.1 hi).1;rw[←Bb hi,←hc i hil j hj];simp[World.cell?,hb]
end
end
section
section
variable {K K':Nat→Nat} {w w':World} {p xb n room k b B f g:Nat} {M M':Bd.MS} {t:Nat→iN} {φ χ ψ:Bd.BF} {u u2:Value} {l hs vars:List Nat}
theorem av.get{p:Option Addr}{m c j:Nat}(h:av w (.slice p m c) l)(hj:j<l.length):∃g,p=some ⟨g,0,none⟩∧g<w.heap.size∧w.cell? ⟨g,j,none⟩=some (.int .i64 (l.getD j 0:Nat)):=by
 obtain⟨p',c',e,hr⟩:=h.form
 injection e with e1 e2 e3
 subst e1;obtain⟨g,e4,hrw⟩:=hr (by omega);exact⟨g,e4,hrw.lt,jm hrw hj rfl⟩
theorem av.shape(h:av w u l):∃p c,u=.slice p l.length c:=by
 obtain⟨p,c,e,-⟩:=h.form;exact⟨p,c,e⟩
theorem F6(hi:Bd.Inv n room M)(hx:M.next≤1000000000)(hn:n≤64)(hvars:∀v∈vars,v<n)(hvl:vars.length≤100000)(hhs:∀a∈hs,∃e,(a,e)∈M.H)(hhl:hs.length≤100000)(hv:av w u vars)(hl:av w u2 hs)(h:bB K w p n room M t) :
 Calls Tryz.prog 55 #[.pointer (some ⟨p,0,none⟩),u,u2] w fun r w'=>r=.returned (.int .i64 0)∧w'=w:=by
 obtain⟨F,HF⟩:=aJ (fun(r:Ending)(w':World)=>r=.returned (.int .i64 0)∧w'=w);rw[←HF.out];obtain⟨pv,cv,rfl⟩:=hv.shape;obtain⟨pl,cl,rfl⟩:=hl.shape;obtain⟨nv,WH⟩:∃nv,nv=vars.length:=⟨_,rfl⟩;obtain⟨nl,hnl⟩:∃nl,nl=hs.length:=⟨_,rfl⟩;rw[←WH]at hv hvl⊢;rw[←hnl]at hl hhl⊢
 have cI:∀a,a∈hs→Calls Tryz.prog 104 #[.pointer (some ⟨p,0,none⟩),.int .i64 (a:Nat)] w (fun r w'=>r=.returned (.bool true)∧w'=w):=fun a ha=>by
  obtain⟨e,he⟩:=hhs a ha;have:=Iu (a:=a) (by have:=hi.hn _ _ he;omega) h;rw[Inv.look hi he]at this;exact this
 have cV:=oD h;have Sz:=Lib.hid cI;have BD:=Lib.hid cV;have HV:=Lib.hid (And.intro hv (And.intro WH hvars));have HL:=Lib.hid (And.intro hl (And.intro hnl hhs));clear cI cV hv hl WH hnl hvars hhs h hi;go_in
 go_wp2
 go_loopg [8,15,16,17,18,19,20,21,22,23] nl (fun q v8 v15 v16 v17 v18 v19 v20 v21 v22 v23 wr=>∃j:Nat,q=nl-j∧j≤nl∧v15=.int .i64 (j:Nat)∧wr=w)
 case atStart=>exact⟨0,rfl,Nat.zero_le _,rfl,rfl⟩
 case round=>
  obtain⟨j,rfl,hj,rfl,hw⟩:=hrel;have HW:=Lib.hid hw
  by_cases hlt:j<nl
  ·have hji:(j:Int)<(nl:Int):=by omega
   obtain⟨g,hpp,hgl,hcell⟩:=HL.out.1.get (j:=j) (by rw[←HL.out.2.1];exact hlt);rw[←hw]at hcell hgl;obtain⟨a,ha⟩:∃a,a=hs.getD j 0:=⟨_,rfl⟩;rw[←ha]at hcell
   have Ta:a∈hs:=by
    have hjl:j<hs.length:=by rw[←HL.out.2.1];exact hlt
    rw[ha,List.getD_eq_getElem?_getD,List.getElem?_eq_getElem hjl];exact List.getElem_mem hjl
   have cA:=Sz.out a Ta;rw[←hw]at cA;have Vg:=Lib.hid cA;subst hpp;clear ha Ta cA hw
   go_wp2_with (go_at_call 104;with_reducible refine(Vg.out).mono ?_;rintro r w' ⟨rfl,hw⟩;rw[hw];clear hw)
   go_roundg (nl-(j+1))
   case rel=>exact⟨j+1,rfl,by omega,by go_num,HW.out⟩
   case measure=>omega
  ·obtain rfl:j=nl:=by omega
   clear hw;go_wp2_with fail
   go_loopg [10,26,27,28,29,30,31,32,33,34,35,36,37,38] nv (fun q v10 v26 v27 v28 v29 v30 v31 v32 v33 v34 v35 v36 v37 v38 wx=>∃i:Nat,q=nv-i∧i≤nv∧v26=.int .i64 (i:Nat)∧wx=w)
   case atStart=>exact⟨0,rfl,Nat.zero_le _,rfl,HW.out⟩
   case round=>
    clear HW;obtain⟨i,rfl,hi,rfl,hw⟩:=hrel;have HW:=Lib.hid hw
    by_cases hlt:i<nv
    ·have hji:(i:Int)<(nv:Int):=by omega
     obtain⟨g,hpp,hgl,hcell⟩:=HV.out.1.get (j:=i) (by rw[←HV.out.2.1];exact hlt);rw[←hw]at hcell hgl;obtain⟨a,ha⟩:∃a,a=vars.getD i 0:=⟨_,rfl⟩;rw[←ha]at hcell
     have han:a<n:=HV.out.2.2 a (by
      have hjl:i<vars.length:=by rw[←HV.out.2.1];exact hlt
      rw[ha,List.getD_eq_getElem?_getD,List.getElem?_eq_getElem hjl]
      exact List.getElem_mem hjl)
     have hai:¬(n:Int)≤(a:Int):=by omega
     have hai2:decide ((n:Int)≤(a:Int))=false:=decide_eq_false hai;have abX:decide ((a:Int)<0)=false:=decide_eq_false (by omega);have cA:=BD.out;rw[←hw]at cA;have Vg:=Lib.hid cA;subst hpp;clear ha cA hw
     go_wp2_with (go_at_call 41;with_reducible refine(Vg.out).mono ?_;rintro r w' ⟨rfl,hw⟩;rw[hw];clear hw)
     go_roundg (nv-(i+1))
     case rel=>exact⟨i+1,rfl,by omega,by go_num,HW.out⟩
     case measure=>omega
    ·obtain rfl:i=nv:=by omega
     clear hw;go_wp2_with fail;rw[HF.out];exact⟨rfl,HW.out⟩
theorem KN(hi:Bd.Inv n room M)(hn:n≤64)(hrm:room≤1048576)(hx:M.next≤1000000000)(hf:Hn M f φ)(hg:Hn M g χ)(hvars:∀v∈vars,v<n)(hvl:vars.length≤1000){b1 b2 b3:Nat}
 (x1:Bx K w b1 3 (.int .i64 (f:Nat))) (x2:Bx K w b2 3 (.int .i64 (g:Nat))) (x3:Bx K w b3 22 u) (hv:fQ K w u vars) (hc:dL K w xb p) (hm:aX K w p n room M) :
 Calls Tryz.prog 57 #[.pointer (some ⟨xb,0,none⟩),.pointer (some ⟨b1,0,none⟩),.pointer (some ⟨b2,0,none⟩),.pointer (some ⟨b3,0,none⟩)] w (oF K w p n room M (n+(n+1)*2^n) (fun M' e=>Bd.ok M'.S.nd e∧Bd.De M'.D e=Bd.eP vars (fun s=>φ s&&χ s))):=by
 obtain⟨F,HF⟩:=aJ (oF K w p n room M (n+(n+1)*2^n) (fun M' e=>Bd.ok M'.S.nd e∧Bd.De M'.D e=Bd.eP vars (fun s=>φ s&&χ s)));rw[←HF.out];obtain⟨ef,mf,df⟩:=hf;obtain⟨eg,mg,dg⟩:=hg;obtain⟨t,wz,hgd⟩:=hm;have uf:=(hi.ho _ _ mf).und (ah:=M.ah);have ug:=(hi.ho _ _ mg).und (ah:=M.ah);have hbd:Below w.heap.size w w.drew:=(Below.refl _ _).drew;have c1:=jF hi hx mf (hc.below hbd) (wz.below hbd);have c2:=jF hi hx mg (hc.below hbd) (wz.below hbd);have cC:=KJ hn hrm hi hvars hvl (hv.dM.below hbd) (hc.below hbd) ⟨t,wz.below hbd,hgd⟩;have H1:=Lib.hid c1;have H2:=Lib.hid c2;have H3:=Lib.hid cC;have HX:=Lib.hid (And.intro x1 (And.intro x2 x3));have HI:=Lib.hid hi;have HD:=Lib.hid (And.intro uf (And.intro ug (And.intro df dg)));have HC:=Lib.hid hc;have gK:=Lib.hid hbd;obtain⟨bk,hbk⟩:∃bk,bk=(n+1)*2^n:=⟨_,rfl⟩;rw[←hbk]at HF;have HBK:=Lib.hid hbk;clear hbk;clear c1 c2 cC x1 x2 x3 hi uf ug df dg hc hbd wz hgd hv hvars mf mg;go_in;go_wp2_with fail;refine wp_region_held_drew (S:=fun W=>W.cell? ⟨b1,0,none⟩=some (.int .i64 (f:Nat))∧W.cell? ⟨b2,0,none⟩=some (.int .i64 (g:Nat))∧W.cell? ⟨b3,0,none⟩=some u) (by kernel_rfl) ⟨HX.out.1.bM gK.out,HX.out.2.1.bM gK.out,HX.out.2.2.bM gK.out⟩ (fun hHeld=>?_)
 repeat
  (first|refine aD 0 (v:=?_) rfl ?hy ?_|refine aD 1 (v:=?_) rfl ?hy ?_|refine aD 2 (v:=?_) rfl ?hy ?_|refine aD 4 (v:=?_) rfl ?hy ?_|refine aD 5 (v:=?_) rfl ?hy ?_|refine aD 7 (v:=?_) rfl ?hy ?_|refine aD 8 (v:=?_) rfl ?hy ?_
   case hy=>
    intro w0 hS;obtain⟨c0,c1,c2⟩:=hS;go_simp
    (first|done|with_reducible rfl)
   try simp only[Act.put,aZ,bq,bA])
 refine wpAnyH_ready (rs:=[3]) (by decide +kernel) (by simp) (AllReadyH.cons (dA rfl) (fun KC aO=>?_) AllReadyH.nil);refine bW 59 ?_;go_simp;clear hHeld;refine(H1.out).mono ?_;rintro r w4 ⟨rfl,hw4⟩;rw[hw4];clear hw4;refine aO.out _ _ ⟨HX.out.1.bM gK.out,HX.out.2.1.bM gK.out,HX.out.2.2.bM gK.out⟩ (fun hHeld=>?_);clear aO KC;(try simp only[Act.put,aZ,bq,bA]);refine wpAnyH_ready (rs:=[6]) (by decide +kernel) (by simp) (AllReadyH.cons (dA rfl) (fun KC aO=>?_) AllReadyH.nil);refine bW 59 ?_;go_simp;clear hHeld;refine(H2.out).mono ?_;rintro r w4 ⟨rfl,hw4⟩;rw[hw4];clear hw4;refine aO.out _ _ ⟨HX.out.1.bM gK.out,HX.out.2.1.bM gK.out,HX.out.2.2.bM gK.out⟩ (fun hHeld=>?_);clear aO KC;(try simp only[Act.put,aZ,bq,bA]);refine wpAnyH_ready (rs:=[9]) (by decide +kernel) (by simp) (AllReadyH.cons (dA rfl) (fun KC aO=>?_) AllReadyH.nil);refine bW 60 ?_;go_simp;clear hHeld;refine(H3.out).mono ?_;rintro x w5 hq
 rcases hq.ex.symm with⟨cp,rfl,hx⟩|⟨c,M1,K1,rfl,p1,i1,g1,m1,t1⟩
 ·clear aO hq;refine(show _∧_ from⟨rfl,?_⟩);rw[HF.out];have h9:=hx.AP (aj.of_below gK.out);exact .inr (h9.mono (by omega))
 clear hq;have t5:aj mR K w K1 w5:=(aj.of_below gK.out).trans t1;have T5:=Lib.hid t5;have P1:=Lib.hid (And.intro p1 (And.intro i1 (And.intro g1 m1)));obtain⟨l,hcl,hlv⟩:=p1;have lH:=Lib.hid (And.intro hcl hlv);clear i1 g1 m1 t1 t5 hcl hlv;refine aO.out _ _ ⟨HX.out.1.dH T5.out gM,HX.out.2.1.dH T5.out gM,HX.out.2.2.dH T5.out gM⟩ (fun hHeld=>?_);clear aO KC;(try simp only[Act.put,aZ,bq,bA]);refine wpAnyH_ready (rs:=[10]) (by decide +kernel) (by simp) (AllReadyH.cons (dA rfl) (fun KC aO=>?_) AllReadyH.nil);refine bW 58 ?_;go_simp;clear hHeld;refine(KG hn hrm n xb p 0 ef eg c l M1 K1 w5 (by omega) P1.out.2.1 (P1.out.2.2.1.und HD.out.1) (P1.out.2.2.1.und HD.out.2.1) lH.out.1 (HC.out.aG T5.out gM) P1.out.2.2.2).mono ?_;rintro x w6 hq
 rcases hq.ex.symm with⟨cp,rfl,hx⟩|⟨e,M2,K2,rfl,p2,i2,g2,m2,t2⟩
 ·clear aO hq;refine(show _∧_ from⟨rfl,?_⟩);rw[HF.out];have h9:=hx.pre HI.out P1.out.2.1 P1.out.2.2.1 T5.out (m:=n+bk) (by rw[HBK.out];exact Nat.le_refl _);exact .inr h9
 clear hq;have t6:aj mR K w K2 w6:=T5.out.trans t2;have T6:=Lib.hid t6;have P2:=Lib.hid (And.intro p2 (And.intro i2 (And.intro g2 m2)));clear p2 i2 g2 m2 t2 t6;refine aO.out _ _ ⟨HX.out.1.dH T6.out gM,HX.out.2.1.dH T6.out gM,HX.out.2.2.dH T6.out gM⟩ (fun hHeld=>?_);clear aO KC;try simp only[Act.put,aZ,bq,bA]
 repeat
  (first|refine aD 11 (v:=?_) rfl ?hy ?_
   case hy=>
    intro w0 hS;obtain⟨c0,c1,c2⟩:=hS;go_simp
    (first|done|with_reducible rfl)
   try simp only[Act.put,aZ,bq,bA])
 refine wpAnyH_done (by decide +kernel) ?_ _;clear hHeld;go_wp2_with fail;rw[HF.out];obtain⟨p2,i2,g2,m2⟩:=P2.out;obtain⟨-,i1,g1,m1⟩:=P1.out;obtain⟨uf,ug,df,dg⟩:=HD.out;refine .inl ⟨e,M2,K2,rfl,⟨(p2.2 0 (g1.und uf.ok.und) (g1.und ug.ok.und)).ok,?_⟩,i2,(g1.trans g2).mono (by rw[HBK.out];exact Nat.le_refl _),m2,T6.out⟩;rw[p2.1,Bd.Grow.De HI.out i1 g1 uf.ok,Bd.Grow.De HI.out i1 g1 ug.ok,df,dg];exact Bd.zM lH.out.2 _
theorem nQ(hi:Bd.Inv n room M)(h0:0<n)(hn:n≤64)(hrm:room≤1048576)(hx:M.next≤1000000000)(hroom:M.H.length*(2^n-1)+(n+(n+1)*2^n)≤room)(hf:Hn M f φ)(hg:Hn M g χ)(hvars:∀v∈vars,v<n)(hvl:vars.length≤1000)(hv:fQ K w u vars)(hm:aX K w p n room M) :
 Calls Tryz.prog 15 #[.pointer (some ⟨p,0,none⟩),.int .i64 (f:Nat),.int .i64 (g:Nat),u] w (xH K w p n room M (Bd.eP vars (fun s=>φ s&&χ s))):=by
 have Ob:∀(fn:Fn)(first cap:Array Value)(w:World),(Instr.makeFunc fn first cap).run Tryz.prog w=.ok (.func fn first cap) w:=fun _ _ _ _=>rfl;obtain⟨F,HF⟩:=aJ (xH K w p n room M (Bd.eP vars (fun s=>φ s&&χ s)));rw[←HF.out];obtain⟨pv,cv,hu⟩:=hv.dM.shape;obtain⟨nv,WH⟩:∃nv,nv=vars.length:=⟨_,rfl⟩;rw[←WH]at hu;subst hu;obtain⟨b5,hb5⟩:∃b5,b5=w.heap.size:=⟨_,rfl⟩;obtain⟨b6,hb6⟩:∃b6,b6=w.heap.size+1:=⟨_,rfl⟩;obtain⟨b7,kH⟩:∃b7,b7=w.heap.size+1+1:=⟨_,rfl⟩;obtain⟨W1,hW1⟩:∃W1,W1=((w.alloc (.cells #[.int .i64 (f:Nat)] 3)).alloc (.cells #[.int .i64 (g:Nat)] 3)).alloc (.cells #[.slice pv nv cv] 22):=⟨_,rfl⟩;have hb1:Below w.heap.size w W1:=by rw[hW1];exact(((Below.refl _ _).alloc (Nat.le_refl _) _).alloc (by simp) _).alloc (by simp;omega) _
 obtain⟨K1,t1,k1⟩:=bX K hb1;have q5:Bx K1 W1 b5 3 (.int .i64 (f:Nat)):=⟨k1 _ (by omega),by rw[hW1,hb5];exact(Below.heap_alloc _ _ _ (by simp;omega)).trans ((Below.heap_alloc _ _ _ (by simp)).trans (heap_alloc_new _ _))⟩;have q6:Bx K1 W1 b6 3 (.int .i64 (g:Nat)):=⟨k1 _ (by omega),by rw[hW1,hb6];exact(Below.heap_alloc _ _ _ (by simp)).trans (aL (by simp))⟩;have q7:Bx K1 W1 b7 22 (.slice pv nv cv):=⟨k1 _ (by omega),by rw[hW1,kH];exact aL (by simp)⟩;have m1:=hm.aG (t1 (fun _=>False)) (fun r h=>h.elim);have v1:=hv.aG (t1 (fun _=>False)) id;obtain⟨W2,hW2⟩:∃W2,W2=W1.alloc (.cells #[.int .i64 (f:Nat),.int .i64 (g:Nat)] 3):=⟨_,rfl⟩;have hb2:Below W1.heap.size W1 W2:=jU hW2;obtain⟨bs,hbs⟩:∃bs,bs=W1.heap.size:=⟨_,rfl⟩;have YS:w.heap.size+1+1+1=bs:=by rw[hbs,hW1];simp
 have HBS:=Lib.hid YS;obtain⟨tm,hmm,hgd⟩:=m1;have hf0:=hf;have hg0:=hg;obtain⟨e1,he1,-⟩:=hf;obtain⟨e2,he2,-⟩:=hg
 have cA:=F6 (w:=W2) (u:=.slice pv nv cv) (u2:=.slice (some ⟨W1.heap.size,0,none⟩) 2 2) (vars:=vars) (hs:=[f,g]) hi hx hn hvars (by omega) (by
  intro a ha;simp only[List.mem_cons,List.not_mem_nil,or_false]at ha
  rcases ha with rfl|rfl
  ·exact⟨_,he1⟩
  ·exact⟨_,he2⟩) (by simp) (v1.dM.below hb2) (by
   refine .inr ⟨W1.heap.size,2,rfl,⟨_,by rw[hW2];exact heap_alloc_new _ _,by simp,fun i hi j hj=>?_⟩,Nat.le_refl _⟩;obtain rfl:j=0:=by omega
   simp only[List.length_cons,List.length_nil,Nat.zero_add,Nat.reduceAdd]at hi
   rcases(show i=0∨i=1 by omega)with rfl|rfl<;>rfl) (hmm.below hb2)
 have td:aj (fun _=>False) K1 W1 K1 W2:=aj.of_below hb2
 have cD:=AU (K:=K1) (w:=W2) (fid:=57) (cap:=#[.pointer (some ⟨b5,0,none⟩),.pointer (some ⟨b6,0,none⟩),.pointer (some ⟨b7,0,none⟩)]) (k:=n+(n+1)*2^n) (P:=fun M' e=>Bd.De M'.D e=Bd.eP vars (fun s=>φ s&&χ s))
  (J:=fun K1 w1=>Bx K1 w1 b5 3 (.int .i64 (f:Nat))∧Bx K1 w1 b6 3 (.int .i64 (g:Nat))∧Bx K1 w1 b7 22 (.slice pv nv cv)∧fQ K1 w1 (.slice pv nv cv) vars)
  hi h0 hn hrm hx hroom (fun _ _=>rfl) (fun K1 w1 K2 w2 h tt=>⟨h.1.aG tt gM,h.2.1.aG tt gM,h.2.2.1.aG tt gM,h.2.2.2.aG tt gM⟩)
  (fun M1 K2 w2 xb ra i1 j2 hc hm=>KN i1 hn hrm (by rw[ra.next];exact hx) (hf0.ran ra) (hg0.ran ra) hvars hvl j2.1 j2.2.1 j2.2.2.1 j2.2.2.2 hc hm) ⟨q5.aG td id,q6.aG td id,q7.aG td id,v1.aG td id⟩ ⟨tm,hmm.below hb2,hgd⟩
 rw[←hbs]at cA;have HA:=Lib.hid cA;have HD:=Lib.hid cD;have HT:=Lib.hid ((t1 mX).trans (td.mono (fun r h=>h.elim)));have HI:=Lib.hid hi;have y5:=q5.cell;have y6:=q6.cell;have y7:=q7.cell;have z5:W2.cell? ⟨b5,0,none⟩=_:=q5.bM hb2;clear t1 k1 q5 q6 q7 v1 td hmm hgd cA cD hi hm hroom hx h0 hn hrm hv hvars hb1 hb2 he1 he2 hf0 hg0 YS WH;go_in;go_wp2_with fail;rw[←hW1,←hW2,HBS.out,←kH,←hb6,←hb5];clear hW1 hW2 hb5 hb6 kH hbs;refine(HA.out).mono ?_;rintro r w3 ⟨rfl,hw3⟩;rw[hw3];clear hw3;go_wp2_with fail;refine(HD.out).mono ?_;rintro x w4 hq;obtain⟨rfl,M',K2,gt,m2,t2⟩:=hq.get HI.out;have HM:=Lib.hid (And.intro gt (And.intro m2 t2));clear gt m2 t2 hq;go_wp2_with fail;rw[HF.out];exact⟨rfl,M',K2,HM.out.1,HM.out.2.1,HT.out.trans HM.out.2.2⟩
end
end
end Go.Proofs.YtpijlhlpejlhhaaGreat
