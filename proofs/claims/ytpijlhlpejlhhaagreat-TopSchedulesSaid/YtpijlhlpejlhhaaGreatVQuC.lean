/- Walks and plain words: QuC QuD. -/
import Derived.Test.YtpijlhlpejlhhaaGreatVMnK
namespace Go.Proofs.YtpijlhlpejlhhaaGreat
open Go.RowKit
set_option linter.unusedVariables false
set_option maxRecDepth 100000
set_option maxHeartbeats 8000000
section
theorem ru{P:Program}{ops:Array Oper}{Q:Exit→Act→World→Prop}{S:World→Prop}(i:Nat){oi:Oper}{fuel:Nat}{listed:Array Bool}{a:Act}{w:World}(hi:ops.toList[i]?=some oi)
 (h:wpAnyH P .any ops Q S fuel (listed.setIfInBounds i true) (a.put oi.dst undef) w) (hw:Region.wanted oi (yielded ops a.tmps)=false:=by rfl) (hS:S w:=by assumption) (hs:Region.noSelect ops=true:=by kernel_rfl) (hf:Region.free .any ops listed i=true:=by kernel_rfl) (hr:(Region.ready .any ops listed).contains i=true:=by decide +kernel)
 (hQ:∀c a w,Q (.panic c) (a.put oi.dst undef) w→Q (.panic c) a w:=by exact fun _ _ _ h=>h):wpAnyH P .any ops Q S (fuel+1) listed a w:=wpAnyH_take (by simpa using hi) hs hf hr hQ (.inr ⟨hw,rfl⟩) hS h
theorem Q9{ops:Array Oper}{o:Oper}{a:Act}{W:World}{K:Act→World→Prop}{X:Prop}(h:K (a.put o.dst undef) W)(hw:Region.wanted o (yielded ops a.tmps)=false:=by rfl):if Region.wanted o (yielded ops a.tmps)=true then X else K (a.put o.dst undef) W:=by
 rw[if_neg (by rw[hw];exact Bool.false_ne_true)];exact h
section
variable {K K':Nat→Nat} {w w':World} {p xb n room k b:Nat} {M M':Bd.MS} {f:Nat}
/-- An operation within an operation: what was made ahead of it is new. -/
theorem oF.fresh{P P':Bd.MS→Nat→Prop}{K1:Nat→Nat}{w1:World}{r:Ending}{l:Nat}(hq:oF K1 w1 p n room M k P r w')(tt:aj mR K w K1 w1)(hk:k≤l)(hP:∀M' e,Bd.Inv n room M'→Bd.Grow M M' k→P M' e→P' M' e):oF K w p n room M l P' r w':=by
 rcases hq with⟨e,M1,K2,rfl,p1,i1,g1,m1,t1⟩|hx
 ·exact .inl ⟨e,M1,K2,rfl,hP _ _ i1 g1 p1,i1,g1.mono hk,m1,tt.trans t1⟩
 ·exact .inr ((hx.AP tt).mono hk)
theorem rz(hn:n≤64)(hrm:room≤1048576)(k:Nat)(Dy:∀k',k=k'+1→Iz (n:=n) (room:=room) k'):Iz n room k:=by
 intro xb p L f c l M K w hL hi hu kM hc hm;obtain⟨F,HF⟩:=aJ (oF K w p n room M (k*2^k) (Bd.Pm M f l));rw[←HF.out];have hok:=hu.ok;have sf:=Inv.small hi hrm hok;obtain⟨t,hm1,hg⟩:∃t,bB K w p n room M t∧fB M t:=hm;obtain⟨b3,hb3⟩:∃b3,b3=w.heap.size:=⟨_,rfl⟩;obtain⟨b4,hb4⟩:∃b4,b4=w.heap.size+1:=⟨_,rfl⟩;obtain⟨b5,hb5⟩:∃b5,b5=w.heap.size+1+1:=⟨_,rfl⟩;obtain⟨W0,hW0⟩:∃W0,W0=((w.alloc (.cells #[.pointer (some ⟨xb,0,none⟩)] 106)).alloc (.cells #[.int .i64 (f:Nat)] 107)).alloc (.cells #[.int .i64 (c:Nat)] 107):=⟨_,rfl⟩;have HB0:=Lib.hid (show Below w.heap.size w W0 by rw[hW0];exact(((Below.refl _ _).alloc (Nat.le_refl _) _).alloc (by simp) _).alloc (by simp;omega) _);have q3:W0.heap[b3]?=some (.cells #[.pointer (some ⟨xb,0,none⟩)] 106 (0,0)):=by rw[hW0,hb3];exact(Below.heap_alloc _ _ _ (by simp;omega)).trans ((Below.heap_alloc _ _ _ (by simp)).trans (heap_alloc_new _ _))
 have q4:W0.heap[b4]?=some (.cells #[.int .i64 (f:Nat)] 107 (0,0)):=by rw[hW0,hb4];exact(Below.heap_alloc _ _ _ (by simp)).trans (aL (by simp))
 have q5:W0.heap[b5]?=some (.cells #[.int .i64 (c:Nat)] 107 (0,0)):=by rw[hW0,hb5];exact aL (by simp)
 have SX:=Lib.hid (And.intro q3 (And.intro q4 q5));have Yo:¬b3=b5:=by omega
 have hn45:¬b4=b5:=by omega
 have hge:w.heap.size≤b3∧w.heap.size≤b4∧w.heap.size≤b5:=by omega
 have FU:=Lib.hid (And.intro hge (And.intro Yo hn45));have HI:=Lib.hid hi;have HU:=Lib.hid (And.intro hu hok);have xI:=Lib.hid kM;have HC:=Lib.hid hc;have HM:=Lib.hid hm1;have HG:=Lib.hid hg;have pW:=Lib.hid Dy;have HL:=Lib.hid hL;have cQf:=fun W (hb:Below w.heap.size w W)=>jO hi hn hrm hok (hc.below hb) (hm1.below hb);obtain⟨lf,hlf⟩:∃lf,lf=Bd.fT M.S.nd M.ah f:=⟨_,rfl⟩;rw[←hlf]at cQf;have HQF:=Lib.hid cQf;have HLF:=Lib.hid hlf;clear hi hu hok kM hc hm1 hg Dy q3 q4 q5 Yo hn45 hge cQf hlf hL;go_in;go_wp2_with fail;rw[←hW0,←hb5,←hb4,←hb3];clear hW0 hb3 hb4 hb5
 go_loopg [7,8,9,10,11,12,13,14,15,16,17,18,19,20,21] l.length (fun q v7 v8 v9 v10 v11 v12 v13 v14 v15 v16 v17 v18 v19 v20 v21 wr=>∃(c':Nat)(l':List Nat),q=l'.length∧Bd.dP M.S.nd c' l'∧Bd.eP l (Bd.De M.D f)=Bd.eP l' (Bd.De M.D f)∧Below w.heap.size w wr∧wr.heap[b3]?=some (.cells #[.pointer (some ⟨xb,0,none⟩)] 106 (0,0))∧wr.heap[b4]?=some (.cells #[.int .i64 (f:Nat)] 107 (0,0))∧wr.heap[b5]?=some (.cells #[.int .i64 (c':Nat)] 107 (0,0)))
 case atStart=>exact⟨c,l,rfl,xI.out,rfl,HB0.out,SX.out.1,SX.out.2.1,SX.out.2.2⟩
 case round=>
  obtain⟨c',l',rfl,kM,hex,hb,q3,q4,q5⟩:=hrel;have sc:=Inv.small HI.out hrm kM.ok;have cC:=fun W=>iU c' W sc;have cF:=fun W=>iU f W sf;have aaZ:=hb;have HB:=Lib.hid hb;have HQ:=Lib.hid (And.intro q3 (And.intro q4 q5));have SY:=Lib.hid hex;have lI:=Lib.hid kM;have y3:wr.cell? ⟨b3,0,none⟩=_:=au q3 0 rfl;have y4:wr.cell? ⟨b4,0,none⟩=_:=au q4 0 rfl;have y5:wr.cell? ⟨b5,0,none⟩=_:=au q5 0 rfl;have mW:∀W,Below wr.heap.size wr W→W.cell? ⟨b3,0,none⟩=some (.pointer (some ⟨xb,0,none⟩))∧W.cell? ⟨b4,0,none⟩=some (.int .i64 (f:Nat))∧W.cell? ⟨b5,0,none⟩=some (.int .i64 (c':Nat)):=fun W h=>⟨au ((h.block b3 (aV q3)).trans q3) 0 rfl,au ((h.block b4 (aV q4)).trans q4) 0 rfl,au ((h.block b5 (aV q5)).trans q5) 0 rfl⟩;have dJ:=Lib.hid mW;have HD:=Lib.hid (show Below wr.heap.size wr wr.drew from(Below.refl _ _).drew)
  have hrest:(f/2=0∨c'/2=0)→Bd.Pm M f l M f:=fun h=>by
   refine⟨?_,fun L' h'=>h'⟩;rw[hex,Bd.Qg HI.out.gi kM h]
  have aa0:=Lib.hid hrest
  have kI:Hid (∀W,Below w.heap.size w W→(f/2=0∨c'/2=0)→oF K w p n room M (k*2^k) (Bd.Pm M f l) (.returned (.int .i64 (f:Nat))) W):=fun W hW h=>
   .inl ⟨f,M,K,rfl,aa0.out h,HI.out,Bd.Grow.refl.mono (Nat.zero_le _),⟨_,HM.out.below hW,HG.out⟩,aj.of_below hW⟩
  clear hb kM hex q3 q4 q5 aaZ mW hrest
  by_cases h0:c'/2=0
  ·have e0:(c'/2==0)=true:=by simp[h0]
   rw[e0]at cC;have qg:=Lib.hid cC;have N_:=Lib.hid cF;have H0:=Lib.hid h0;clear y3 y4 y5 cC cF h0 e0;go_wp2_with fail;refine wp_region_held_drew (S:=fun W=>W.cell? ⟨b3,0,none⟩=some (.pointer (some ⟨xb,0,none⟩))∧W.cell? ⟨b4,0,none⟩=some (.int .i64 (f:Nat))∧W.cell? ⟨b5,0,none⟩=some (.int .i64 (c':Nat))) (by kernel_rfl) (dJ.out _ HD.out) (fun hHeld=>?_)
   repeat
    (first|refine aD 0 (v:=?_) rfl ?hy ?_|refine aD 2 (v:=?_) rfl ?hy ?_|refine aD 3 (v:=?_) rfl ?hy ?_
     case hy=>
      intro w0 hS;obtain⟨c0,c1,c2⟩:=hS;go_simp
      (first|done|with_reducible rfl)
     try simp only[Act.put,aZ,bq,bA])
   refine wpAnyH_ready (rs:=[1]) (by decide +kernel) (by simp) (AllReadyH.cons (dA rfl) (fun KC aO=>?_) AllReadyH.nil);refine bW 107 ?_;go_simp;clear hHeld;refine(qg.out _).mono ?_;rintro r w4 ⟨rfl,hw4⟩;rw[hw4];clear hw4;refine aO.out _ _ (dJ.out _ HD.out) (fun hHeld=>?_);clear aO KC;try simp only[Act.put,aZ,bq,bA]
   repeat
    (first|refine aD 2 (v:=?_) rfl ?hy ?_|refine aD 3 (v:=?_) rfl ?hy ?_
     case hy=>
      intro w0 hS;obtain⟨c0,c1,c2⟩:=hS;go_simp
      (first|done|with_reducible rfl)
     try simp only[Act.put,aZ,bq,bA])
   repeat
    (first|refine ru 4 rfl ?_|refine ru 5 rfl ?_|refine ru 7 rfl ?_|refine ru 8 rfl ?_|refine ru 10 rfl ?_
     try simp only[Act.put,aZ,bq,bA])
   refine wpAnyH_ready (rs:=[6]) (by decide +kernel) (by simp) (AllReadyH.cons (dA rfl) (fun KC aO=>?_) AllReadyH.nil);refine Q9 ?_;refine aO.out _ _ (by assumption) (fun hHeld=>?_);clear aO KC;try simp only[Act.put,aZ,bq,bA]
   repeat
    (first|refine ru 4 rfl ?_|refine ru 5 rfl ?_|refine ru 7 rfl ?_|refine ru 8 rfl ?_|refine ru 10 rfl ?_
     try simp only[Act.put,aZ,bq,bA])
   refine wpAnyH_ready (rs:=[9]) (by decide +kernel) (by simp) (AllReadyH.cons (dA rfl) (fun KC aO=>?_) AllReadyH.nil);refine Q9 ?_;refine aO.out _ _ (by assumption) (fun hHeld=>?_);clear aO KC;try simp only[Act.put,aZ,bq,bA]
   repeat
    (first|refine ru 4 rfl ?_|refine ru 5 rfl ?_|refine ru 7 rfl ?_|refine ru 8 rfl ?_|refine ru 10 rfl ?_
     try simp only[Act.put,aZ,bq,bA])
   repeat
    (first|refine aD 11 (v:=?_) rfl ?hy ?_
     case hy=>
      intro w0 hS;obtain⟨c0,c1,c2⟩:=hS;go_simp
      (first|done|with_reducible rfl)
     try simp only[Act.put,aZ,bq,bA])
   refine wpAnyH_done (by decide +kernel) ?_ _;clear hHeld;have hE:∀W,Below w.heap.size w W→_:=fun W hW=>kI.out W hW (.inr H0.out);have HE:=Lib.hid hE;clear hE;have hbd:=dJ.out _ HD.out;obtain⟨y3,y4,y5⟩:=hbd
   by_cases hf0:f/2=0
   ·have e0:(f/2==0)=true:=by simp[hf0]
    rw[e0]at N_;clear e0 hf0
    go_wp2_with (go_at_call 107;with_reducible refine(N_.out _).mono ?_;rintro r w' ⟨rfl,hw⟩;rw[hw];clear hw)
    rw[HF.out];exact HE.out _ (HB.out.trans (HD.out.mono HB.out.size))
   ·have e0:(f/2==0)=false:=by simp[hf0]
    rw[e0]at N_;clear e0 hf0
    go_wp2_with (first|(go_at_call 107;with_reducible refine(N_.out _).mono ?_;rintro r w' ⟨rfl,hw⟩;rw[hw];clear hw)|(go_at_call 107;with_reducible refine(qg.out _).mono ?_;rintro r w' ⟨rfl,hw⟩;rw[hw];clear hw))
    rw[HF.out];exact HE.out _ (HB.out.trans (HD.out.mono HB.out.size))
  ·have e0:(c'/2==0)=false:=by simp[h0]
   rw[e0]at cC;have qg:=Lib.hid cC;have N_:=Lib.hid cF;have H0:=Lib.hid h0;have cQ:=fun W (hb:Below wr.heap.size wr W)=>jO HI.out hn hrm lI.out.ok (HC.out.below (HB.out.trans (hb.mono HB.out.size))) (HM.out.below (HB.out.trans (hb.mono HB.out.size)));obtain⟨lc,hlc⟩:∃lc,lc=Bd.fT M.S.nd M.ah c':=⟨_,rfl⟩;rw[←hlc]at cQ;have HQC:=Lib.hid cQ;have Yp:=Lib.hid hlc;clear y3 y4 y5 cC cF h0 e0 cQ hlc;go_wp2_with fail;refine wp_region_held_drew (S:=fun W=>W.cell? ⟨b3,0,none⟩=some (.pointer (some ⟨xb,0,none⟩))∧W.cell? ⟨b4,0,none⟩=some (.int .i64 (f:Nat))∧W.cell? ⟨b5,0,none⟩=some (.int .i64 (c':Nat))) (by kernel_rfl) (dJ.out _ HD.out) (fun hHeld=>?_)
   repeat
    (first|refine aD 0 (v:=?_) rfl ?hy ?_|refine aD 2 (v:=?_) rfl ?hy ?_|refine aD 3 (v:=?_) rfl ?hy ?_
     case hy=>
      intro w0 hS;obtain⟨c0,c1,c2⟩:=hS;go_simp
      (first|done|with_reducible rfl)
     try simp only[Act.put,aZ,bq,bA])
   refine wpAnyH_ready (rs:=[1]) (by decide +kernel) (by simp) (AllReadyH.cons (dA rfl) (fun KC aO=>?_) AllReadyH.nil);refine bW 107 ?_;go_simp;clear hHeld;refine(qg.out _).mono ?_;rintro r w4 ⟨rfl,hw4⟩;rw[hw4];clear hw4;refine aO.out _ _ (dJ.out _ HD.out) (fun hHeld=>?_);clear aO KC;try simp only[Act.put,aZ,bq,bA]
   repeat
    (first|refine aD 2 (v:=?_) rfl ?hy ?_|refine aD 3 (v:=?_) rfl ?hy ?_|refine aD 4 (v:=?_) rfl ?hy ?_|refine aD 5 (v:=?_) rfl ?hy ?_|refine aD 7 (v:=?_) rfl ?hy ?_|refine aD 8 (v:=?_) rfl ?hy ?_
     case hy=>
      intro w0 hS;obtain⟨c0,c1,c2⟩:=hS;go_simp
      (first|done|with_reducible rfl)
     try simp only[Act.put,aZ,bq,bA])
   refine wpAnyH_ready (rs:=[6]) (by decide +kernel) (by simp) (AllReadyH.cons (dA rfl) (fun KC aO=>?_) AllReadyH.nil);refine bW 119 ?_;go_simp;clear hHeld;refine(HQC.out _ HD.out).mono ?_;rintro r w4 ⟨rfl,hb4⟩;have mM:=Lib.hid (HD.out.trans (hb4.mono HD.out.size));clear hb4;refine aO.out _ _ (dJ.out _ mM.out) (fun hHeld=>?_);clear aO KC;(try simp only[Act.put,aZ,bq,bA]);refine wpAnyH_ready (rs:=[9]) (by decide +kernel) (by simp) (AllReadyH.cons (dA rfl) (fun KC aO=>?_) AllReadyH.nil);refine bW 119 ?_;go_simp;clear hHeld;refine(HQF.out _ (HB.out.trans (mM.out.mono HB.out.size))).mono ?_;rintro r w5 ⟨rfl,hb5⟩;have pG:=Lib.hid (mM.out.trans (hb5.mono mM.out.size));clear hb5;refine aO.out _ _ (dJ.out _ pG.out) (fun hHeld=>?_);clear aO KC;try simp only[Act.put,aZ,bq,bA]
   repeat
    (first|refine aD 10 (v:=?_) rfl ?hy ?_|refine aD 11 (v:=?_) rfl ?hy ?_
     case hy=>
      intro w0 hS;obtain⟨c0,c1,c2⟩:=hS;go_simp
      (first|done|with_reducible rfl)
     try simp only[Act.put,aZ,bq,bA])
   refine wpAnyH_done (by decide +kernel) ?_ _;clear hHeld;have Dz:=Lib.hid (HB.out.trans (pG.out.mono HB.out.size));obtain⟨y3,y4,y5⟩:=dJ.out _ pG.out;have l3:b3<w5.heap.size:=Nat.lt_of_lt_of_le (aV HQ.out.1) pG.out.size;have l4:b4<w5.heap.size:=Nat.lt_of_lt_of_le (aV HQ.out.2.1) pG.out.size;have l5:b5<w5.heap.size:=Nat.lt_of_lt_of_le (aV HQ.out.2.2) pG.out.size;have p3:w5.heap[b3]?=_:=(pG.out.block b3 (aV HQ.out.1)).trans HQ.out.1;have p4:w5.heap[b4]?=_:=(pG.out.block b4 (aV HQ.out.2.1)).trans HQ.out.2.1;have p5:w5.heap[b5]?=_:=(pG.out.block b5 (aV HQ.out.2.2)).trans HQ.out.2.2;have HP:=Lib.hid (And.intro p3 (And.intro p4 p5));clear p3 p4 p5
   by_cases hlt:lc<lf
   ·have Yi:(lc:Int)<(lf:Int):=by omega
    obtain⟨v,l2,hl2,kL,hnd,FW,-,Oi⟩:=Bd.Qf HI.out.gi hn lI.out H0.out HU.out.2 (by rw[←Yp.out,←HLF.out];exact hlt);have cR:=oI HI.out hn hrm hnd (HC.out.below Dz.out) (HM.out.below Dz.out);obtain⟨c2,hc2⟩:∃c2,c2=Bd.aI M.S.nd c' v:=⟨_,rfl⟩;simp only at cR;rw[←hc2]at cR FW;have HR:=Lib.hid cR;have H2:=Lib.hid (And.intro hl2 (And.intro FW Oi));clear hl2 kL hnd FW Oi cR hc2 hlt
    go_wp2_with (go_at_call 120;with_reducible refine(HR.out).mono ?_;rintro r w6 ⟨rfl,hb6⟩;have BH:=Lib.hid hb6;have r5:w6.heap[b5]?=_:=(hb6.block b5 l5).trans HP.out.2.2;have z5:w6.cell? ⟨b5,0,none⟩=_:=au r5 0 rfl;have zf:∀o,w6.frozen? ⟨b5,o,none⟩=false:=jv r5;have zl:=aV r5;have HR5:=Lib.hid r5;clear hb6 r5)
    go_roundg l2.length
    case rel=>
     obtain⟨⟨g3,g4,g5⟩,n1,n2⟩:=FU.out;refine⟨c2,l2,rfl,H2.out.2.1,SY.out.trans H2.out.2.2,(Dz.out.trans (BH.out.mono Dz.out.size)).setCell (p:=⟨b5,0,none⟩) g5 _,?_,?_,aH (o:=0) (vs:=#[.int .i64 (c':Nat)]) HR5.out _⟩
     ·exact(heap_setCell_other _ _ _ _ n1).trans ((BH.out.block b3 l3).trans HP.out.1)
     ·exact(heap_setCell_other _ _ _ _ n2).trans ((BH.out.block b4 l4).trans HP.out.2.1)
    case measure=>rw[H2.out.1];simp
   ·have Yi:¬(lc:Int)<(lf:Int):=by omega
    by_cases hf0:f/2=0
    ·have e0:(f/2==0)=true:=by simp[hf0]
     rw[e0]at N_;have HE:=Lib.hid (kI.out _ Dz.out (.inl hf0));clear e0 hf0
     go_wp2_with (go_at_call 107;with_reducible refine(N_.out _).mono ?_;rintro r w' ⟨rfl,hw⟩;rw[hw];clear hw)
     rw[HF.out];exact HE.out
    ·have e0:(f/2==0)=false:=by simp[hf0]
     rw[e0]at N_
     have hk:∃k',k=k'+1:=by
      rcases HU.out.1 with h9|⟨d,h9,h8⟩
      ·exact absurd h9 hf0
      ·have h7:=HI.out.gi.ll _ (HI.out.gi.lt _ _ h9);have h6:=HL.out;exact⟨k-1,by omega⟩
     obtain⟨k',rfl⟩:=hk;obtain⟨K1,t1,k1⟩:=bX K Dz.out;have x3:Bx K1 w5 b3 106 (.pointer (some ⟨xb,0,none⟩)):=⟨k1 _ FU.out.1.1,HP.out.1⟩;have x4:Bx K1 w5 b4 107 (.int .i64 (f:Nat)):=⟨k1 _ FU.out.1.2.1,HP.out.2.1⟩;have x5:Bx K1 w5 b5 107 (.int .i64 (c':Nat)):=⟨k1 _ FU.out.1.2.2,HP.out.2.2⟩;have c1:=HC.out.aG (t1 (fun _=>False)) id;have m1:aX K1 w5 p n room M:=⟨_,HM.out.aG (t1 (fun _=>False)) (fun r h=>h.elim),HG.out⟩;have hle:Bd.fT M.S.nd M.ah f≤Bd.fT M.S.nd M.ah c':=by rw[←Yp.out,←HLF.out];omega
     have cM:=yV (K:=K1) (w:=w5) (op:=1500) (a:=f) (b:=c') (c:=0) (fid:=153) (cap:=#[.pointer (some ⟨b3,0,none⟩),.pointer (some ⟨b4,0,none⟩),.pointer (some ⟨b5,0,none⟩)]) (k:=(k'+1)*2^(k'+1)) HI.out hrm (fun _ _=>rfl)
      (fun w1 tt m2=>Oe hn hrm (pW.out k' rfl) (by have:=HL.out;omega) HI.out HU.out.1 lI.out hf0 H0.out hle (x3.aG tt (by omega)) (x4.aG tt (by omega)) (x5.aG tt (by omega)) (c1.aG tt (by omega)) m2) c1 m1
     have Ob:∀(fn:Fn)(first cap:Array Value)(w:World),(Instr.makeFunc fn first cap).run Tryz.prog w=.ok (.func fn first cap) w:=fun _ _ _ _=>rfl;have XR:=Lib.hid cM;have HT1:=Lib.hid (t1 mR);clear e0 hf0 t1 k1 x3 x4 x5 c1 m1 hle cM hlt
     go_wp2_with (first|(go_at_call 107;with_reducible refine(N_.out _).mono ?_;rintro r w' ⟨rfl,hw⟩;rw[hw];clear hw)|(go_at_call 107;with_reducible refine(qg.out _).mono ?_;rintro r w' ⟨rfl,hw⟩;rw[hw];clear hw))
     refine(XR.out).mono ?_;rintro x w6 hq
     have hfr:=hq.fresh (P':=Bd.Pm M f l) HT1.out (Nat.le_refl _) (fun M' e i' g' h'=>by
      have h9:=Bd.Good.exP HI.out i' g' HU.out.2 lI.out h'
      exact⟨h9.1.trans SY.out.symm,h9.2⟩)
     have Oj:=Lib.hid hfr
     rcases hq.ex.symm with⟨cp,rfl,hx⟩|⟨e,M1,K2,rfl,-⟩
     ·clear hq hfr hx;go_wp2_with fail;refine(show _∧_ from⟨rfl,?_⟩);rw[HF.out];exact Oj.out
     ·clear hq hfr;go_wp2_with fail;rw[HF.out];exact Oj.out
theorem DC(hn:n≤64)(hrm:room≤1048576):∀k,Iz n room k:=by
 intro k
 induction k with
 |zero=>exact rz hn hrm 0 (fun k' e=>by omega)
 |succ k ih=>exact rz hn hrm (k+1) (fun k' e=>by
  obtain rfl:k=k':=by omega
  exact ih)
end
end
section
section
variable {K K':Nat→Nat} {w w':World} {p xb n room k b:Nat} {M M':Bd.MS} {t:Nat→iN} {e f g v:Nat} {d:Bd.Nd}
/-- What both does. -/
def IC(n room k:Nat):Prop:=∀(xb p L f g c:Nat)(l:List Nat)(M:Bd.MS)(K:Nat→Nat)(w:World),n≤L+k→Bd.Inv n room M→Bd.und M.S.nd M.ah L f→Bd.und M.S.nd M.ah L g→Bd.dP M.S.nd c l→dL K w xb p→aX K w p n room M →
 Calls Tryz.prog 58 #[.pointer (some ⟨xb,0,none⟩),.int .i64 (f:Nat),.int .i64 (g:Nat),.int .i64 (c:Nat)] w (oF K w p n room M ((k+1)*2^k) (Bd.Pn M f g l))
theorem Ol(hn:n≤64)(hrm:room≤1048576)(IH:IC n room k){L c:Nat}{l:List Nat}{b4 b5 b6 b7 b11:Nat}(hL:n≤L+(k+1))(hi:Bd.Inv n room M)(hu:Bd.und M.S.nd M.ah L f)(Kz:Bd.und M.S.nd M.ah L g)(kM:Bd.dP M.S.nd c l)(htop:Bd.mI M.S.nd M.ah [f,g]=some v)(hc0:c/2≠0)(hle:M.ah v≤Bd.fT M.S.nd M.ah c)
 (x4:Bx K w b4 106 (.pointer (some ⟨xb,0,none⟩))) (x5:Bx K w b5 107 (.int .i64 (f:Nat))) (x6:Bx K w b6 107 (.int .i64 (g:Nat))) (x7:Bx K w b7 107 (.int .i64 (c:Nat))) (UU:Bx K w b11 3 (.int .i64 (M.ah v:Nat))) (hc:dL K w xb p) (h:aX K w p n room M) :
 Calls Tryz.prog 122 #[.pointer (some ⟨b4,0,none⟩),.pointer (some ⟨b5,0,none⟩),.pointer (some ⟨b6,0,none⟩),.pointer (some ⟨b7,0,none⟩),.pointer (some ⟨b11,0,none⟩)] w (oF K w p n room M ((k+1+1)*2^(k+1)) (fun M' r=>Bd.Good M' 1501 f g c r)):=by
 obtain⟨F,HF⟩:=aJ (oF K w p n room M ((k+1+1)*2^(k+1)) (fun M' r=>Bd.Good M' 1501 f g c r));rw[←HF.out];obtain⟨tt,hm,hg⟩:∃t,bB K w p n room M t∧fB M t:=h
 have FX:=Bd.vw hi.gi (l:=[f,g]) (by
  intro x hx;simp only[List.mem_cons,List.not_mem_nil,or_false]at hx
  rcases hx with rfl|rfl
  ·exact hu.ok
  ·exact Kz.ok)
 rw[htop]at FX
 have UW:∀L',Bd.und M.S.nd M.ah L' f→Bd.und M.S.nd M.ah L' g→L'≤M.ah v:=fun L' h1 h2=>Bd.qB hi.gi FX (by
  intro x hx;simp only[List.mem_cons,List.not_mem_nil,or_false]at hx
  rcases hx with rfl|rfl
  ·exact h1
  ·exact h2)
 have kL:=FX.1;have N9:L≤M.ah v:=UW L hu Kz;have huv:Bd.und M.S.nd M.ah (M.ah v) f:=FX.2.2 f (by simp);have uo:Bd.und M.S.nd M.ah (M.ah v) g:=FX.2.2 g (by simp);obtain⟨ul,uh⟩:=Bd.bQ hi.gi kL huv;obtain⟨KD,KE⟩:=Bd.bQ hi.gi kL uo;have hll:=hi.gi.ll _ kL;have sf:=Inv.small hi hrm huv.ok;have sg:=Inv.small hi hrm uo.ok;have half:∀a,(Bd.De M.D f a&&Bd.De M.D g a)=if a v then(Bd.De M.D (Bd.aI M.S.nd f v) a&&Bd.De M.D (Bd.aI M.S.nd g v) a)else(Bd.De M.D (Bd.aB M.S.nd f v) a&&Bd.De M.D (Bd.aB M.S.nd g v) a):=fun a=>Bd.P7 hi.gi huv uo a;have cT:=Kl hi hn hrm hu.ok Kz.ok htop hc hm;have cS:=fun w' (hb:Below w.heap.size w w')=>iZ hi hrm sf (hc.below hb) (hm.below hb) v;have cS2:=fun w' (hb:Below w.heap.size w w')=>iZ hi hrm sg (hc.below hb) (hm.below hb) v;have cQ:=fun w' (hb:Below w.heap.size w w')=>jO hi hn hrm kM.ok (hc.below hb) (hm.below hb);obtain⟨lo,hlo⟩:∃lo,lo=Bd.aB M.S.nd f v:=⟨_,rfl⟩;obtain⟨hh,IB⟩:∃hh,hh=Bd.aI M.S.nd f v:=⟨_,rfl⟩;obtain⟨glo,Q_⟩:∃glo,glo=Bd.aB M.S.nd g v:=⟨_,rfl⟩;obtain⟨ghh,Ra⟩:∃ghh,ghh=Bd.aI M.S.nd g v:=⟨_,rfl⟩;rw[←hlo,←IB,←Q_,←Ra]at half;rw[←hlo,←IB]at cS;rw[←Q_,←Ra]at cS2;rw[←hlo]at ul;rw[←IB]at uh;rw[←Q_]at KD;rw[←Ra]at KE;obtain⟨lc,hlc⟩:∃lc,lc=Bd.fT M.S.nd M.ah c:=⟨_,rfl⟩;rw[←hlc]at cQ hle
 obtain⟨lv,hlv⟩:∃lv,lv=M.ah v:=⟨_,rfl⟩;rw[←hlv]at hle UU;have HT:=Lib.hid cT;have HS:=Lib.hid cS;have HS2:=Lib.hid cS2;have HQ:=Lib.hid cQ;have HI:=Lib.hid hi;have HC:=Lib.hid hc;have HM:=Lib.hid hm;have HG:=Lib.hid hg;have HX:=Lib.hid (And.intro x4 (And.intro x5 (And.intro x6 (And.intro x7 UU))));have Iy:=Lib.hid (And.intro ul KD);have LC:=Lib.hid (And.intro uh KE);have HU:=Lib.hid (And.intro hu Kz);have xI:=Lib.hid kM;have BA:=Lib.hid (And.intro hlv hlc);have HH:=Lib.hid half;have Yq:=Lib.hid UW;have y4:=x4.cell;have y5:=x5.cell;have y6:=x6.cell;have y7:=x7.cell;have l4:=aV x4.2;have l5:=aV x5.2;have l6:=aV x6.2;have l7:=aV x7.2;have l11:=aV UU.2;clear cT cS cS2 cQ hi hc hm hg x4 x5 x6 x7 UU hu Kz huv uo ul uh KD KE kM hlv hlc half hlo IB Q_ Ra sf sg FX UW htop;go_in
 go_wp2_with (first|(go_at_call 71;with_reducible refine(HT.out).mono ?_;rintro r w2 ⟨rfl,hb2⟩;have y4:=HX.out.1.bM hb2;have y5:=HX.out.2.1.bM hb2;have y6:=HX.out.2.2.1.bM hb2;have HB2:=Lib.hid hb2;clear hb2)|(go_at_call 72;with_reducible refine(HS.out _ HB2.out).mono ?_;rintro r w3 ⟨rfl,hb3⟩;have Rb:=HB2.out.trans (hb3.mono HB2.out.size);have y4:=HX.out.1.bM Rb;have y6:=HX.out.2.2.1.bM Rb;have HB3:=Lib.hid Rb;clear hb3 Rb)|(go_at_call 72;with_reducible refine(HS2.out _ HB3.out).mono ?_;rintro r QM ⟨rfl,hb3⟩;have aa1:=Lib.hid (HB3.out.trans (hb3.mono HB3.out.size));clear hb3))
 clear y4 y5 y6 y7;have xJ:Below w.heap.size w QM.drew:=aa1.out.drew;have FP:=Lib.hid xJ;refine wp_region_held_drew (S:=fun W=>W.cell? ⟨b4,0,none⟩=some (.pointer (some ⟨xb,0,none⟩))∧W.cell? ⟨b7,0,none⟩=some (.int .i64 (c:Nat))∧W.cell? ⟨b11,0,none⟩=some (.int .i64 (lv:Nat))) (by kernel_rfl) ⟨HX.out.1.bM xJ,HX.out.2.2.2.1.bM xJ,HX.out.2.2.2.2.bM xJ⟩ (fun hHeld=>?_);clear xJ
 repeat
  (first|refine aD 0 (v:=?_) rfl ?hy ?_|refine aD 1 (v:=?_) rfl ?hy ?_|refine aD 3 (v:=?_) rfl ?hy ?_
   case hy=>
    intro w0 hS;obtain⟨c0,c1,c2⟩:=hS;go_simp
    (first|done|with_reducible rfl)
   try simp only[Act.put,aZ,bq,bA])
 refine wpAnyH_ready (rs:=[2]) (by decide +kernel) (by simp) (AllReadyH.cons (dA rfl) (fun KC aO=>?_) AllReadyH.nil);refine bW 119 ?_;go_simp;clear hHeld;refine(HQ.out _ FP.out).mono ?_;rintro r w4 ⟨rfl,hb4⟩;have mM:=Lib.hid (FP.out.trans (hb4.mono FP.out.size));clear hb4;refine aO.out _ _ ⟨HX.out.1.bM mM.out,HX.out.2.2.2.1.bM mM.out,HX.out.2.2.2.2.bM mM.out⟩ (fun hHeld=>?_);clear aO KC;try simp only[Act.put,aZ,bq,bA]
 repeat
  (first|refine aD 3 (v:=?_) rfl ?hy ?_|refine aD 4 (v:=?_) rfl ?hy ?_
   case hy=>
    intro w0 hS;obtain⟨c0,c1,c2⟩:=hS;go_simp
    (first|done|with_reducible rfl)
   try simp only[Act.put,aZ,bq,bA])
 refine wpAnyH_done (by decide +kernel) ?_ _;clear hHeld;have hi:=HI.out;have wG:=Bd.Ce k;have hmx:1≤max 1 (2^k-1)∧2^k-1≤max 1 (2^k-1):=⟨Nat.le_max_left _ _,Nat.le_max_right _ _⟩;obtain⟨Kw,wH⟩:∃Kw,Kw=(k+1+1)*2^(k+1):=⟨_,rfl⟩;obtain⟨kb,hkb⟩:∃kb,kb=(k+1)*2^k:=⟨_,rfl⟩;obtain⟨mx,FQ⟩:∃mx,mx=max 1 (2^k-1):=⟨_,rfl⟩;rw[←wH]at HF;rw[←wH,←hkb,←FQ]at wG;rw[←FQ]at hmx;have Ky:=Lib.hid hmx;have rO:=Lib.hid hkb;clear hmx wH hkb FQ;have Q7:n≤M.ah v+1+k:=by omega
 have HA:=Lib.hid (And.intro hi (And.intro Q7 (And.intro kL wG)));clear hi Q7 wG
 by_cases hgt:lv<lc
 ·have hgi:(lv:Int)<(lc:Int):=by omega
  go_wp2_with fail;have kJ:Below w.heap.size w w4.drew:=mM.out.drew;have AV:=Lib.hid kJ;refine wp_region_held_drew (S:=fun W=>W.cell? ⟨b4,0,none⟩=some (.pointer (some ⟨xb,0,none⟩))∧W.cell? ⟨b7,0,none⟩=some (.int .i64 (c:Nat))∧W.cell? ⟨b11,0,none⟩=some (.int .i64 (lv:Nat))) (by kernel_rfl) ⟨HX.out.1.bM kJ,HX.out.2.2.2.1.bM kJ,HX.out.2.2.2.2.bM kJ⟩ (fun hHeld=>?_);clear kJ
  repeat
   (first|refine aD 0 (v:=?_) rfl ?hy ?_|refine aD 1 (v:=?_) rfl ?hy ?_|refine aD 2 (v:=?_) rfl ?hy ?_|refine aD 3 (v:=?_) rfl ?hy ?_|refine aD 4 (v:=?_) rfl ?hy ?_|refine aD 5 (v:=?_) rfl ?hy ?_|refine aD 7 (v:=?_) rfl ?hy ?_|refine aD 8 (v:=?_) rfl ?hy ?_|refine aD 9 (v:=?_) rfl ?hy ?_|refine aD 10 (v:=?_) rfl ?hy ?_
    case hy=>
     intro w0 hS;obtain⟨c0,c1,c2⟩:=hS;go_simp
     (first|done|with_reducible rfl)
    try simp only[Act.put,aZ,bq,bA])
  refine wpAnyH_ready (rs:=[6]) (by decide +kernel) (by simp) (AllReadyH.cons (dA rfl) (fun KC aO=>?_) AllReadyH.nil);refine bW 58 ?_;go_simp;clear hHeld;refine(IH xb p (M.ah v+1) lo glo c l M K w4.drew HA.out.2.1 HA.out.1 Iy.out.1 Iy.out.2 xI.out (HC.out.below AV.out) ⟨_,HM.out.below AV.out,HG.out⟩).mono ?_;rintro x w5 hq
  rcases hq.ex.symm with⟨cp,rfl,hx⟩|⟨r1,M1,K1,rfl,p1,i1,g1,m1,t1⟩
  ·clear aO hq;refine(show _∧_ from⟨rfl,?_⟩);rw[HF.out];have h9:=hx.AP (aj.of_below AV.out);exact .inr (h9.mono (by have:=HA.out.2.2.2;have:=rO.out;have:=Ky.out;omega))
  clear hq;have t5:aj mR K w K1 w5:=(aj.of_below AV.out).trans t1;have T5:=Lib.hid t5;have P1:=Lib.hid (And.intro p1 (And.intro i1 (And.intro g1 m1)));clear p1 i1 g1 m1 t1 t5;refine aO.out _ _ ⟨HX.out.1.dH T5.out gM,HX.out.2.2.2.1.dH T5.out gM,HX.out.2.2.2.2.dH T5.out gM⟩ (fun hHeld=>?_);clear aO KC;(try simp only[Act.put,aZ,bq,bA]);refine wpAnyH_ready (rs:=[11]) (by decide +kernel) (by simp) (AllReadyH.cons (dA rfl) (fun KC aO=>?_) AllReadyH.nil);refine bW 58 ?_;go_simp;clear hHeld;refine(IH xb p (M.ah v+1) hh ghh c l M1 K1 w5 HA.out.2.1 P1.out.2.1 (P1.out.2.2.1.und LC.out.1) (P1.out.2.2.1.und LC.out.2) (xI.out.up (fun i d h=>(P1.out.2.2.1.up i d h).1)) (HC.out.aG T5.out gM) P1.out.2.2.2).mono ?_;rintro x w6 hq
  rcases hq.ex.symm with⟨cp,rfl,hx⟩|⟨r2,M2,K2,rfl,p2,i2,g2,m2,t2⟩
  ·clear aO hq;refine(show _∧_ from⟨rfl,?_⟩);rw[HF.out];have h9:=hx.pre HA.out.1 P1.out.2.1 P1.out.2.2.1 T5.out (m:=Kw) (by have:=HA.out.2.2.2;have:=rO.out;have:=Ky.out;omega);exact .inr h9
  clear hq;have t6:aj mR K w K2 w6:=T5.out.trans t2;have T6:=Lib.hid t6;have P2:=Lib.hid (And.intro p2 (And.intro i2 (And.intro g2 m2)));clear p2 i2 g2 m2 t2 t6;refine aO.out _ _ ⟨HX.out.1.dH T6.out gM,HX.out.2.2.2.1.dH T6.out gM,HX.out.2.2.2.2.dH T6.out gM⟩ (fun hHeld=>?_);clear aO KC;(try simp only[Act.put,aZ,bq,bA]);obtain⟨p1,i1,g1,m1⟩:=P1.out;obtain⟨p2,i2,g2,m2⟩:=P2.out;obtain⟨ul,KD⟩:=Iy.out;obtain⟨uh,KE⟩:=LC.out;have u1:Bd.und M2.S.nd M2.ah (M2.ah v+1) r1:=by rw[g2.ah,g1.ah];exact Bd.uH (g2.und (p1.2 _ ul KD)) (by rw[g2.ah,g1.ah])
  have u2:Bd.und M2.S.nd M2.ah (M2.ah v+1) r2:=by rw[g2.ah,g1.ah];exact Bd.uH (p2.2 _ (g1.und uh) (g1.und KE)) (by rw[g2.ah,g1.ah])
  refine wpAnyH_ready (rs:=[12]) (by decide +kernel) (by simp) (AllReadyH.cons (dA rfl) (fun KC aO=>?_) AllReadyH.nil);refine bW 79 ?_;go_simp;clear hHeld;refine(qY (hi':=r2) i2 (by omega) hrm kL u1 u2 (HC.out.aG T6.out gM) m2).mono ?_;rintro x w7 hq
  rcases hq.ex.symm with⟨cp,rfl,hx⟩|⟨r3,M3,K3,rfl,p3,i3,g3,m3,t3⟩
  ·clear aO hq;refine(show _∧_ from⟨rfl,?_⟩);rw[HF.out];have h9:=hx.pre HA.out.1 P2.out.2.1 (P1.out.2.2.1.trans P2.out.2.2.1) T6.out (m:=Kw) (by have:=HA.out.2.2.2;have:=rO.out;have:=Ky.out;omega);exact .inr h9
  clear hq;have t7:aj mR K w K3 w7:=T6.out.trans t3;have T7:=Lib.hid t7;have P3:=Lib.hid (And.intro p3 (And.intro i3 (And.intro g3 m3)));clear p3 i3 g3 m3 t3 t7;refine aO.out _ _ ⟨HX.out.1.dH T7.out gM,HX.out.2.2.2.1.dH T7.out gM,HX.out.2.2.2.2.dH T7.out gM⟩ (fun hHeld=>?_);clear aO KC;try simp only[Act.put,aZ,bq,bA]
  repeat
   (first|refine aD 13 (v:=?_) rfl ?hy ?_
    case hy=>
     intro w0 hS;obtain⟨c0,c1,c2⟩:=hS;go_simp
     (first|done|with_reducible rfl)
    try simp only[Act.put,aZ,bq,bA])
  refine wpAnyH_done (by decide +kernel) ?_ _;clear hHeld;go_wp2_with fail;rw[HF.out];obtain⟨hi,Q7,FR,wG⟩:=HA.out;obtain⟨p1,i1,g1,m1⟩:=P1.out;obtain⟨p2,i2,g2,m2⟩:=P2.out;obtain⟨ul,KD⟩:=Iy.out;obtain⟨uh,KE⟩:=LC.out;obtain⟨hu,Kz⟩:=HU.out;have kM:=xI.out;obtain⟨p3,i3,g3,m3⟩:=P3.out;have mQ:=(g1.trans g2).trans g3;have hvl:v∉l:=Bd.qE hi.gi kM hn (by rw[←BA.out.1,←BA.out.2];exact hgt) (Nat.lt_of_lt_of_le hll hn);have hfin:=Bd.Co hi i1 g1 i2 g2 g3 hvl HH.out p1.1 (by rw[p2.1,Bd.Grow.De hi i1 g1 uh.ok,Bd.Grow.De hi i1 g1 KE.ok]) (p1.2 _ ul KD).ok p3.1;refine .inl ⟨r3,M3,K3,rfl,Bd.Pn.good hi i3 mQ hu.ok Kz.ok kM (l:=l) ⟨hfin.1,fun L' h1 h2=>hfin.2 L' (Yq.out L' h1 h2)⟩,i3,mQ.mono (by have:=HA.out.2.2.2;have:=rO.out;have:=Ky.out;omega),m3,T7.out⟩
 ·obtain⟨v',hi',l',hl',hnd',AX,Dx,-⟩:=xI.out.top hc0;have Og:=HI.out.gi.lt _ _ hnd';have hlc:lc=M.ah v':=by rw[BA.out.2];unfold Bd.fT;rw[hnd']
  have Oh:v'=v:=Bd.zW HI.out Og kL (by rw[←hlc,←BA.out.1];omega);have cR:=oI HI.out hn hrm hnd' (HC.out.below mM.out) (HM.out.below mM.out);rw[Dx]at cR;obtain⟨ch,hch⟩:∃ch,ch=hi':=⟨_,rfl⟩;rw[←hch]at cR AX;have HR:=Lib.hid cR;have FT:=Lib.hid (And.intro AX (And.intro hl' Oh));have hgi:¬(lv:Int)<(lc:Int):=by omega
  have y4:=HX.out.1.bM mM.out;have y7:=HX.out.2.2.2.1.bM mM.out;clear Og hlc Oh cR hch AX hl' hnd' Dx hgt
  go_wp2_with (go_at_call 120;with_reducible refine(HR.out).mono ?_;rintro r w8 ⟨rfl,gY⟩;have UC:=Lib.hid (mM.out.trans (gY.mono mM.out.size));clear gY)
  clear y4 y7;have kJ:Below w.heap.size w w8.drew:=UC.out.drew;have AY:=Lib.hid kJ;refine wp_region_held_drew (S:=fun W=>W.cell? ⟨b4,0,none⟩=some (.pointer (some ⟨xb,0,none⟩))∧W.cell? ⟨b7,0,none⟩=some (.int .i64 (c:Nat))∧W.cell? ⟨b11,0,none⟩=some (.int .i64 (lv:Nat))) (by kernel_rfl) ⟨HX.out.1.bM kJ,HX.out.2.2.2.1.bM kJ,HX.out.2.2.2.2.bM kJ⟩ (fun hHeld=>?_);clear kJ
  repeat
   (first|refine aD 0 (v:=?_) rfl ?hy ?_|refine aD 1 (v:=?_) rfl ?hy ?_|refine aD 2 (v:=?_) rfl ?hy ?_|refine aD 3 (v:=?_) rfl ?hy ?_|refine aD 4 (v:=?_) rfl ?hy ?_|refine aD 6 (v:=?_) rfl ?hy ?_|refine aD 7 (v:=?_) rfl ?hy ?_|refine aD 8 (v:=?_) rfl ?hy ?_|refine aD 9 (v:=?_) rfl ?hy ?_
    case hy=>
     intro w0 hS;obtain⟨c0,c1,c2⟩:=hS;go_simp
     (first|done|with_reducible rfl)
    try simp only[Act.put,aZ,bq,bA])
  refine wpAnyH_ready (rs:=[5]) (by decide +kernel) (by simp) (AllReadyH.cons (dA rfl) (fun KC aO=>?_) AllReadyH.nil);refine bW 58 ?_;go_simp;clear hHeld;refine(IH xb p (M.ah v+1) lo glo ch l' M K w8.drew HA.out.2.1 HA.out.1 Iy.out.1 Iy.out.2 FT.out.1 (HC.out.below AY.out) ⟨_,HM.out.below AY.out,HG.out⟩).mono ?_;rintro x w5 hq
  rcases hq.ex.symm with⟨cp,rfl,hx⟩|⟨r1,M1,K1,rfl,p1,i1,g1,m1,t1⟩
  ·clear aO hq;refine(show _∧_ from⟨rfl,?_⟩);rw[HF.out];have h9:=hx.AP (aj.of_below AY.out);exact .inr (h9.mono (by have:=HA.out.2.2.2;have:=rO.out;have:=Ky.out;omega))
  clear hq;have t5:aj mR K w K1 w5:=(aj.of_below AY.out).trans t1;have T5:=Lib.hid t5;have P1:=Lib.hid (And.intro p1 (And.intro i1 (And.intro g1 m1)));clear p1 i1 g1 m1 t1 t5;refine aO.out _ _ ⟨HX.out.1.dH T5.out gM,HX.out.2.2.2.1.dH T5.out gM,HX.out.2.2.2.2.dH T5.out gM⟩ (fun hHeld=>?_);clear aO KC;(try simp only[Act.put,aZ,bq,bA]);refine wpAnyH_ready (rs:=[10]) (by decide +kernel) (by simp) (AllReadyH.cons (dA rfl) (fun KC aO=>?_) AllReadyH.nil);refine bW 58 ?_;go_simp;clear hHeld;refine(IH xb p (M.ah v+1) hh ghh ch l' M1 K1 w5 HA.out.2.1 P1.out.2.1 (P1.out.2.2.1.und LC.out.1) (P1.out.2.2.1.und LC.out.2) (FT.out.1.up (fun i d h=>(P1.out.2.2.1.up i d h).1)) (HC.out.aG T5.out gM) P1.out.2.2.2).mono ?_;rintro x w6 hq
  rcases hq.ex.symm with⟨cp,rfl,hx⟩|⟨r2,M2,K2,rfl,p2,i2,g2,m2,t2⟩
  ·clear aO hq;refine(show _∧_ from⟨rfl,?_⟩);rw[HF.out];have h9:=hx.pre HA.out.1 P1.out.2.1 P1.out.2.2.1 T5.out (m:=Kw) (by have:=HA.out.2.2.2;have:=rO.out;have:=Ky.out;omega);exact .inr h9
  clear hq;have t6:aj mR K w K2 w6:=T5.out.trans t2;have T6:=Lib.hid t6;have P2:=Lib.hid (And.intro p2 (And.intro i2 (And.intro g2 m2)));clear p2 i2 g2 m2 t2 t6;refine aO.out _ _ ⟨HX.out.1.dH T6.out gM,HX.out.2.2.2.1.dH T6.out gM,HX.out.2.2.2.2.dH T6.out gM⟩ (fun hHeld=>?_);clear aO KC;(try simp only[Act.put,aZ,bq,bA]);obtain⟨p1,i1,g1,m1⟩:=P1.out;obtain⟨p2,i2,g2,m2⟩:=P2.out;obtain⟨ul,KD⟩:=Iy.out;obtain⟨uh,KE⟩:=LC.out;have u1:Bd.und M2.S.nd M2.ah (M.ah v+1) r1:=g2.und (p1.2 _ ul KD);have u2:Bd.und M2.S.nd M2.ah (M.ah v+1) r2:=p2.2 _ (g1.und uh) (g1.und KE);refine wpAnyH_ready (rs:=[11]) (by decide +kernel) (by simp) (AllReadyH.cons (dA rfl) (fun KC aO=>?_) AllReadyH.nil);refine bW 81 ?_;go_simp;clear hHeld;refine(qZ (by omega) hrm k (M.ah v+1) r1 0 r2 M2 K2 w6 HA.out.2.1 i2 u1 (.inl rfl) u2 (HC.out.aG T6.out gM) m2).mono ?_;rintro x w7 hq
  rcases hq.ex.symm with⟨cp,rfl,hx⟩|⟨r3,M3,K3,rfl,p3,i3,g3,m3,t3⟩
  ·clear aO hq;refine(show _∧_ from⟨rfl,?_⟩);rw[HF.out];have h9:=hx.pre HA.out.1 P2.out.2.1 (P1.out.2.2.1.trans P2.out.2.2.1) T6.out (m:=Kw) (by have:=HA.out.2.2.2;have:=rO.out;have:=Ky.out;omega);exact .inr h9
  clear hq;have t7:aj mR K w K3 w7:=T6.out.trans t3;have T7:=Lib.hid t7;have P3:=Lib.hid (And.intro p3 (And.intro i3 (And.intro g3 m3)));clear p3 i3 g3 m3 t3 t7;refine aO.out _ _ ⟨HX.out.1.dH T7.out gM,HX.out.2.2.2.1.dH T7.out gM,HX.out.2.2.2.2.dH T7.out gM⟩ (fun hHeld=>?_);clear aO KC;try simp only[Act.put,aZ,bq,bA]
  repeat
   (first|refine aD 12 (v:=?_) rfl ?hy ?_
    case hy=>
     intro w0 hS;obtain⟨c0,c1,c2⟩:=hS;go_simp
     (first|done|with_reducible rfl)
    try simp only[Act.put,aZ,bq,bA])
  refine wpAnyH_done (by decide +kernel) ?_ _;clear hHeld;go_wp2_with fail;rw[HF.out];obtain⟨hi,Q7,FR,wG⟩:=HA.out;obtain⟨p1,i1,g1,m1⟩:=P1.out;obtain⟨p2,i2,g2,m2⟩:=P2.out;obtain⟨ul,KD⟩:=Iy.out;obtain⟨uh,KE⟩:=LC.out;obtain⟨hu,Kz⟩:=HU.out;have kM:=xI.out;obtain⟨p3,i3,g3,m3⟩:=P3.out;have mQ:=(g1.trans g2).trans g3;obtain⟨AX,hl',Oh⟩:=FT.out;have u1:Bd.und M2.S.nd M2.ah (M.ah v+1) r1:=g2.und (p1.2 _ ul KD);have u2:Bd.und M2.S.nd M2.ah (M.ah v+1) r2:=p2.2 _ (g1.und uh) (g1.und KE);have hfin:=Bd.MI hi i1 g1 i2 g2 g3 FR HH.out (fun a b hab=>Bd.Mg hi.gi uh KE a b hab) (fun a b hab=>Bd.Mg hi.gi ul KD a b hab) p1.1 (by rw[p2.1,Bd.Grow.De hi i1 g1 uh.ok,Bd.Grow.De hi i1 g1 KE.ok]) (p1.2 _ ul KD).ok p3.1 (p3.2 _ u1 (.inl rfl) u2);rw[←Oh,←hl']at hfin;rw[Oh]at hfin;refine .inl ⟨r3,M3,K3,rfl,Bd.Pn.good hi i3 mQ hu.ok Kz.ok kM (l:=l) ⟨hfin.1,fun L' h1 h2=>hfin.2 L' (Yq.out L' h1 h2)⟩,i3,mQ.mono (by have:=HA.out.2.2.2;have:=rO.out;have:=Ky.out;omega),m3,T7.out⟩
end
end
end Go.Proofs.YtpijlhlpejlhhaaGreat
