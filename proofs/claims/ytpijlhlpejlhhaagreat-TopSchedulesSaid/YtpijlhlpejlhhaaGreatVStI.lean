/- Walks and plain words: StI StK RwD StL RfA. -/
import Derived.Test.YtpijlhlpejlhhaaGreatVStE
import Derived.StillTailTactics
import Derived.Laws.EntriesVeiled
import Derived.RangeFuncNested
import Derived.RangeFuncBound
import Derived.RangeFuncCalls
import Derived.RangeFuncLeaves
import Derived.OwnWalkIn
import Derived.TacticsInMore
import Derived.LoopNIn
import Derived.LoopIn
namespace Go.Proofs.YtpijlhlpejlhhaaGreat
open Go.RowKit
set_option linter.unusedVariables false
set_option maxRecDepth 100000
set_option maxHeartbeats 8000000
section
theorem jk{id:Nat}{Q:Exit→Act→World→Prop}{a:Act}{w:World}{l:List Oper}(n:Nat)(hm:Tryz.prog.follows .mixedOrders=true)(hB:Region.lexTailB .any l.toArray n=true)
 (h:wpStill Tryz.prog l.toArray w.drew (fun a'=>wpList Tryz.prog l.toArray Q (l.drop n) a' w.drew) (l.take n) a):(Code.region id l.toArray true).wp Tryz.prog Q a w:=wp_region_still_tail n hm hB h
/-- A store with another external count. -/
def vV(S:Bd.St)(i r:Nat):Bd.St:={S with refs:=Bd.set1 S.refs i r}
section
variable {sb n room B:Nat} {S:Bd.St} {ah lv:Nat→Nat} {good:Nat→Prop} {ord:List Nat}
theorem aY.same{K:Nat→Nat}{w:World}{pb ga ca gt ct room:Nat}{fv:Value}{P P':Bd.St}(h:aY K w pb ga ca gt ct fv room P)(h1:P'.nd=P.nd)(h2:P'.refs=P.refs)(h3:P'.N=P.N)(h4:P'.free=P.free):aY K w pb ga ca gt ct fv room P':=by
 have hm:P'.many=P.many:=by unfold Bd.St.many;rw[h3,h4]
 have he:bC P'=bC P:=by funext i;unfold bC;rw[h1,h2]
 have ht:(fun i=>(P'.nd i).isSome)=fun i=>(P.nd i).isSome:=by rw[h1]
 refine⟨?_,?_,by rw[h3];exact h.big,by rw[h1,h3];exact h.nz,h.kp⟩
 ·rw[h3,hm];exact h.row
 ·rw[h3,h4,he,ht];exact h.b
theorem yJ{α:Type}{f:Nat→α}{i:Nat}{x:α}(h:f i=x):Bd.set1 f i x=f:=funext fun j=>by
 by_cases e:j=i
 ·rw[e,Bd.aC,h]
 ·exact Bd.ak e
theorem kF.vV{m i r:Nat}(h:kF m S lv good):kF m (vV S i r) lv good:=⟨h.wf,h.N,h.cn,h.big,h.ed⟩
/-- A node's own count is written: the store behind it. -/
theorem pF.reset{K:Nat→Nat}{w w':World}{L:SL}{i r:Nat}{d:Bd.Nd}(h:pF K w sb L n room S ah ord)(hd:S.nd i=some d)(hp:aY K w' L.pb L.ga L.ca L.gt L.ct L.fv room {S with nd:=Bd.set1 S.nd i (some d),refs:=Bd.set1 S.refs i r})(t:aj (fun r=>r=7) K w K w'):dG K w' sb n room (vV S i r) ah ord:=by
 have h1:=h.toStJ.Qr (P':=vV S i r) (hp.same (show(vV S i r).nd=_ from(yJ hd).symm) rfl rfl rfl) (t.mono (fun r hr=>⟨by omega,by omega⟩));exact⟨_,h1,h.Jr⟩
theorem JG(hd0:kF n S lv good)(hB:B≤1000000000000)(ext:Nat→Int)(K:Nat→Nat)(w:World)(e:Nat)(he:e<4611686018427387904)(hok:Bd.ok S.nd e)(hat:Bd.at_ n S.nd lv good n e)(hci:Bd.CI S.N S.nd S.cnt S.dead ext)(hbb:∀i,ext i+n≤B)(Nq:S.nd (e/2)≠none→S.refs (e/2)≤1000000000000)(h:dG K w sb n room S ah ord) :
 Calls Tryz.prog 152 #[.pointer (some ⟨sb,0,none⟩),.int .i64 (e:Nat)] w fun r w'=>r=.returned (.int .i64 0)∧∃K',dG K' w' sb n room (S.hold n e) ah ord∧aj sR K w K' w':=by
 obtain⟨F,HF⟩:=aJ (fun(r:Ending)(w':World)=>r=.returned (.int .i64 0)∧∃K',dG K' w' sb n room (S.hold n e) ah ord∧aj sR K w K' w');rw[←HF];obtain⟨L,h⟩:=h;have y1:w.cell? ⟨sb,1,none⟩=some (.pointer (some ⟨L.pb,0,none⟩)):=au h.row 1 rfl
 have Xx:((e/2==0)||(S.nd (e/2)).isSome)=true:=by
  rcases hok with h1|⟨d,h1⟩
  ·rw[h1];rfl
  ·rw[h1];simp
 have cI:=qO h e he;rw[Xx]at cI;have HH:=Lib.hid h;have Un:=aV h.row;have cN:=fun w=>fA e w he;obtain⟨i,HI⟩:=aJ (e/2);have hib:i<4611686018427387904:=by have:=HI.out;omega
 have HD0:=Lib.hid hd0;have HAT:=Lib.hid hat;have Sz:=Lib.hid hci;have mU:=Lib.hid hbb;have Uo:=Lib.hid Nq;clear Nq;rw[←HI]at cN;clear h hd0 hat hci hbb Xx hok;go_in
 go_upto_region 5 with(go_at_call 114;refine cI.mono ?_;rintro x w1 ⟨rfl,hb1⟩;have HB1:=Lib.hid hb1;clear hb1)
 have JH:=HH.below HB1;have tQ:=Lib.hid JH.row;have Qq:=Lib.hid JH.pool;have hsb:=aV JH.row;have Ii:=Lib.hid JH;clear JH y1;have y1:w1.cell? ⟨sb,1,none⟩=some (.pointer (some ⟨L.pb,0,none⟩)):=au tQ 1 rfl;obtain⟨w0,HW0⟩:=aJ w;rw[←HW0]at HB1 HH Un;clear cI;have HW1:Hid (w1=w1):=rfl
 go_upto_region 5 with fail
 go_cut [5,6]from 7 (fun v u W=>CY w1 S i v u W)
 case first=>
  refine wp_region_held_drew (S:=fun W=>W.cell? ⟨sb,1,none⟩=some (.pointer (some ⟨L.pb,0,none⟩))) (by kernel_rfl) y1 (fun hHeld=>?_);obtain⟨Wc,hWc⟩:=wX w1.drew;have HB:Hid (Below w1.heap.size w1 Wc):=by show Below _ _ _;rw[hWc];exact(Below.refl _ w1).drew
  rw[←hWc]at hHeld⊢;clear hWc y1
  repeat
   (first|refine aD 0 (v:=?_) rfl ?hy ?_|refine aD 1 (v:=?_) rfl ?hy ?_|refine aD 2 (v:=?_) rfl ?hy ?_|refine aD 3 (v:=?_) rfl ?hy ?_|refine aD 4 (v:=?_) rfl ?hy ?_|refine aD 7 (v:=?_) rfl ?hy ?_|refine aD 8 (v:=?_) rfl ?hy ?_|refine aD 9 (v:=?_) rfl ?hy ?_|refine aD 12 (v:=?_) rfl ?hy ?_
    case hy=>
     intro w0 hS;have c1:=hS;clear hS;go_simp
     (first|done|with_reducible rfl)
    try simp only[Act.put,aZ,bq,bA])
  iterate 4
   all_goals first
    |refine wpAnyH_ready (rs:=[5,10]) (by decide +kernel) (by simp) (AllReadyH.cons (dA rfl) (fun K hK=>?_) (AllReadyH.cons (dA rfl) (fun K hK=>?_) AllReadyH.nil))
    |refine wpAnyH_ready (rs:=[6,10]) (by decide +kernel) (by simp) (AllReadyH.cons (dA rfl) (fun K hK=>?_) (AllReadyH.cons (dA rfl) (fun K hK=>?_) AllReadyH.nil))
    |refine wpAnyH_ready (rs:=[5]) (by decide +kernel) (by simp) (AllReadyH.cons (dA rfl) (fun K hK=>?_) AllReadyH.nil)
    |refine wpAnyH_ready (rs:=[10]) (by decide +kernel) (by simp) (AllReadyH.cons (dA rfl) (fun K hK=>?_) AllReadyH.nil)
    |refine wpAnyH_ready (rs:=[6]) (by decide +kernel) (by simp) (AllReadyH.cons (dA rfl) (fun K hK=>?_) AllReadyH.nil)
    |refine wpAnyH_ready (rs:=[11]) (by decide +kernel) (by simp) (AllReadyH.cons (dA rfl) (fun K hK=>?_) AllReadyH.nil)
    |fail
   all_goals first
    |(refine bW 108 ?_
      go_simp;clear hHeld;refine(cN Wc).mono ?_;rintro x w3 ⟨rfl,hw3⟩;rw[hw3];clear hw3;refine hK.out _ _ (au ((HB.block sb hsb).trans tQ) 1 rfl) (fun hHeld=>?_);clear hK K
      try simp only[Act.put,aZ,bq,bA])
    |(refine bW 123 ?_
      go_simp;clear hHeld;refine(jL (Qq.below HB) i hib).mono ?_;rintro x w3 ⟨rfl,hb3⟩;replace HB:=Lib.hid (HB.trans (hb3.mono HB.size));refine hK.out _ _ (au ((HB.block sb hsb).trans tQ) 1 rfl) (fun hHeld=>?_);clear hK K;try simp only[Act.put,aZ,bq,bA]
      first
       |(replace X3:=kX hb3 X3)
       |skip
      clear hb3 Wc
      rename World=>Wc)
    |(refine Nl ?_
      go_simp;clear hHeld;obtain⟨b3,hb3⟩:=wX Wc.heap.size;obtain⟨Wd,hV⟩:=wX (Wc.alloc (.cells #[.int .i64 0,.int .i64 0,.int .i64 0,.int .i64 0,.int .i64 0] 171));have bZ:w1.heap.size≤b3:=by rw[hb3];exact HB.size
      have hb5:=jU hV;have X3:=JF hV hb3;replace HB:=Lib.hid (HB.trans (hb5.mono HB.size));rw[←hV,←hb3];refine hK.out _ _ (au ((HB.block sb hsb).trans tQ) 1 rfl) (fun hHeld=>?_);clear hK K;(try simp only[Act.put,aZ,bq,bA]);clear hV hb3 hb5 Wc
      rename World=>Wc)
    |(refine Np ?_
      have v0:=au X3 0 rfl;have v1:=au X3 1 rfl;have v2:=au X3 2 rfl;have v3:=au X3 3 rfl;have v4:=au X3 4 rfl;have vz:=jv X3;have hx3:=aV X3;go_simp;clear hHeld v0 v1 v2 v3 v4 vz hx3;have HB2:=Lib.hid (aN (aN (aN (aN (aN HB bZ 0 (.int .i64 (nI S i:Nat))) bZ 1 (.int .i64 (nV S i:Nat))) bZ 2 (.int .i64 (nL S i:Nat))) bZ 3 (.int .i64 (nH S i:Nat))) bZ 4 (.int .i64 (nR S i:Nat)));refine hK.out _ _ (au ((HB2.block sb hsb).trans tQ) 1 rfl) (fun hHeld=>?_);clear hK K
      try simp only[Act.put,aZ,bq,bA])
    |fail
   all_goals
    repeat
     (first|refine aD 0 (v:=?_) rfl ?hy ?_|refine aD 1 (v:=?_) rfl ?hy ?_|refine aD 2 (v:=?_) rfl ?hy ?_|refine aD 3 (v:=?_) rfl ?hy ?_|refine aD 4 (v:=?_) rfl ?hy ?_|refine aD 7 (v:=?_) rfl ?hy ?_|refine aD 8 (v:=?_) rfl ?hy ?_|refine aD 9 (v:=?_) rfl ?hy ?_|refine aD 12 (v:=?_) rfl ?hy ?_
      case hy=>
       intro w0 hS;have c1:=hS;clear hS;go_simp
       (first|done|with_reducible rfl)
      try simp only[Act.put,aZ,bq,bA])
  all_goals refine wpAnyH_done (by decide +kernel) ?_ _
  all_goals
   clear hHeld;go_wp2_with fail
   go_meet
   case rel=>exact⟨b3,rfl,rfl,bZ,aN (aN (aN (aN (aN HB bZ 0 _) bZ 1 _) bZ 2 _) bZ 3 _) bZ 4 _,EO X3 _ _ _ _ _⟩
 case rest=>
  obtain⟨b,rfl,rfl,hb,hB2,hx⟩:=hcut;have HB2:=Lib.hid hB2;have HXB:=Lib.hid hx
  cases hd:S.nd i with
  |none=>
   have HO:Hid (S.hold n e=S):=by show _=_;unfold Bd.St.hold;rw[if_pos (by rw[←HI];exact hd)]
   clear hB2 hx hd;simp only[Option.isSome_none];go_wp2_with fail;rw[HF,HO];exact⟨rfl,K,⟨L,Ii.below HB2⟩,by rw[←HW0];exact(aj.of_below HB1).trans (aj.of_below HB2)⟩
  |some d=>
   have h1:=j5 hd;have hrf:S.refs i≤1000000000000:=by rw[HI];exact Uo (by rw[←HI,hd];simp)
   have hx4:wc.cell? ⟨b,4,none⟩=some (.int .i64 (S.refs i:Nat)):=(au hx 4 rfl).trans (by rw[h1.2.2.2.2];rfl);have hlb:=aV hx;have hzb:=jv hx 4;have tb:aj (fun _=>False) K w1 (bJ K b 0) wc:=(aj.of_below hB2).new hb;have hkb:bJ K b 0 b=0:=aW _ _ _;have t2:aj (fun r=>r=0) (bJ K b 0) wc (bJ K b 0) (wc.setCell ⟨b,4,none⟩ (.int .i64 ((S.refs i:Int)+1))):=aj.refl.iI hkb (aV hx) _;have hs2:=(Ii.aG tb (fun _ h=>h.elim)).aG t2 (fun r hr=>by unfold sR;omega);have hx2:=aH (o:=4) hx (.int .i64 ((S.refs i:Int)+1));obtain⟨W2,hW2⟩:=wX (wc.setCell ⟨b,4,none⟩ (.int .i64 ((S.refs i:Int)+1)));rw[←hW2]at t2 hs2 hx2;have q0:W2.cell? ⟨b,0,none⟩=some (.int .i64 (i:Nat)):=(au hx2 0 rfl).trans (by rw[h1.1];rfl);have q1:W2.cell? ⟨b,1,none⟩=some (.int .i64 (d.v:Nat)):=(au hx2 1 rfl).trans (by rw[h1.2.1];rfl);have q2:W2.cell? ⟨b,2,none⟩=some (.int .i64 (d.lo:Nat)):=(au hx2 2 rfl).trans (by rw[h1.2.2.1];rfl);have q3:W2.cell? ⟨b,3,none⟩=some (.int .i64 (d.hi:Nat)):=(au hx2 3 rfl).trans (by rw[h1.2.2.2.1];rfl);have q4:W2.cell? ⟨b,4,none⟩=some (.int .i64 ((S.refs i:Int)+1)):=au hx2 4 rfl;have p1:W2.cell? ⟨sb,1,none⟩=some (.pointer (some ⟨L.pb,0,none⟩)):=au hs2.row 1 rfl;have hr2:((S.refs i+1:Nat):Int)=(S.refs i:Int)+1:=by omega
   have cS:=vO hs2.drew.pool i d d (S.refs i+1) hd;rw[hr2]at cS;have HS2:=Lib.hid hs2;have HW2:=Lib.hid hW2;have HD:=Lib.hid hd;have ht0:=(tb.mono (R':=sR) (fun r h=>h.elim)).h_ (o:=4) hb (.int .i64 ((S.refs i:Int)+1));rw[←hW2]at ht0;have HT:=Lib.hid ht0;clear ht0;have HNB:Hid (w1.heap.size≤b):=hb;clear hB2 hx hd h1 tb t2 hs2 hx2 hW2 hr2 hb;simp only[Option.isSome_some]
   go_upto_region 8 with fail
   rw[←HW2];clear hx4 hzb;refine jk 5 (by kernel_rfl) (by kernel_rfl) ?_;simp only[List.take_succ_cons,List.take_zero,List.drop_succ_cons,List.drop_zero]
   repeat still_step
   refine wpStill_nil ?_
   go_wp2_with (go_at_call 124;refine cS.mono ?_;rintro x w3 ⟨rfl,hp3,ht3⟩;have Wu:=Lib.hid hp3;have HT3:=Lib.hid ht3;clear hp3 ht3)
   have hs3:=(HS2.below (Below.refl _ _).drew).reset (r:=S.refs i+1) HD Wu HT3;refine(sI (m:=n) (S:=vV S i (S.refs i+1)) HD0.vV hB n e S.cnt S.dead ext (bJ K b 0) w3 HAT Sz mU he hs3).mono ?_;rintro r w7 ⟨rfl,K3,hs7,gH⟩;have S7:=Lib.hid hs7;have T7:=Lib.hid ((((aj.of_below (R:=sR) HB1).trans (HT.drewN 1)).trans (HT3.mono (fun r hr=>by unfold sR;omega))).trans gH);clear hs3 hs7 gH
   have HO:Hid (S.hold n e=gV (vV S i (S.refs i+1)) (Bd.bD S.nd n S.cnt S.dead e).1 (Bd.bD S.nd n S.cnt S.dead e).2):=by
    show _=_;unfold Bd.St.hold;rw[if_neg (by rw[←HI,HD];simp),←HI]
    rfl
   go_wp2_with fail;rw[HF,HO];exact⟨rfl,K3,S7,by rw[←HW0];exact T7⟩
theorem JI(hd0:kF n S lv good)(hB:B≤1000000000000)(ext:Nat→Int)(K:Nat→Nat)(w:World)(e:Nat)(he:e<4611686018427387904)(hok:Bd.ok S.nd e)(hat:Bd.at_ n S.nd lv good n e)(hci:Bd.CI S.N S.nd S.cnt S.dead ext)(hbb:∀i,ext i+2*n≤B)(Nq:S.nd (e/2)≠none→S.refs (e/2)≤1000000000000)(hx:∀i,0≤ext i)(hx1:S.nd (e/2)≠none→1≤ext (e/2))(hr1:S.nd (e/2)≠none→1≤S.refs (e/2))(h:dG K w sb n room S ah ord) :
 Calls Tryz.prog 61 #[.pointer (some ⟨sb,0,none⟩),.int .i64 (e:Nat)] w fun r w'=>r=.returned (.int .i64 0)∧∃K',dG K' w' sb n room (S.drop n e) ah ord∧aj sR K w K' w':=by
 obtain⟨F,HF⟩:=aJ (fun(r:Ending)(w':World)=>r=.returned (.int .i64 0)∧∃K',dG K' w' sb n room (S.drop n e) ah ord∧aj sR K w K' w');rw[←HF];obtain⟨L,h⟩:=h;have y1:w.cell? ⟨sb,1,none⟩=some (.pointer (some ⟨L.pb,0,none⟩)):=au h.row 1 rfl
 have Xx:((e/2==0)||(S.nd (e/2)).isSome)=true:=by
  rcases hok with h1|⟨d,h1⟩
  ·rw[h1];rfl
  ·rw[h1];simp
 have cI:=qO h e he;rw[Xx]at cI;have HH:=Lib.hid h;have Un:=aV h.row;have cN:=fun w=>fA e w he;obtain⟨i,HI⟩:=aJ (e/2);have hib:i<4611686018427387904:=by have:=HI.out;omega
 have HD0:=Lib.hid hd0;have HAT:=Lib.hid hat;have Sz:=Lib.hid hci;have mU:=Lib.hid hbb;have Uo:=Lib.hid Nq;clear Nq;rw[←HI]at cN hx1 hr1;have HX:=Lib.hid hx;have HX1:=Lib.hid hx1;have HR1:=Lib.hid hr1;clear h hd0 hat hci hbb Xx hok hx hx1 hr1;go_in
 go_upto_region 5 with(go_at_call 114;refine cI.mono ?_;rintro x w1 ⟨rfl,hb1⟩;have HB1:=Lib.hid hb1;clear hb1)
 have JH:=HH.below HB1;have tQ:=Lib.hid JH.row;have Qq:=Lib.hid JH.pool;have hsb:=aV JH.row;have Ii:=Lib.hid JH;clear JH y1;have y1:w1.cell? ⟨sb,1,none⟩=some (.pointer (some ⟨L.pb,0,none⟩)):=au tQ 1 rfl;obtain⟨w0,HW0⟩:=aJ w;rw[←HW0]at HB1 HH Un;clear cI;have HW1:Hid (w1=w1):=rfl
 go_upto_region 5 with fail
 go_cut [5,6]from 7 (fun v u W=>CY w1 S i v u W)
 case first=>
  refine wp_region_held_drew (S:=fun W=>W.cell? ⟨sb,1,none⟩=some (.pointer (some ⟨L.pb,0,none⟩))) (by kernel_rfl) y1 (fun hHeld=>?_);obtain⟨Wc,hWc⟩:=wX w1.drew;have HB:Hid (Below w1.heap.size w1 Wc):=by show Below _ _ _;rw[hWc];exact(Below.refl _ w1).drew
  rw[←hWc]at hHeld⊢;clear hWc y1
  repeat
   (first|refine aD 0 (v:=?_) rfl ?hy ?_|refine aD 1 (v:=?_) rfl ?hy ?_|refine aD 2 (v:=?_) rfl ?hy ?_|refine aD 3 (v:=?_) rfl ?hy ?_|refine aD 4 (v:=?_) rfl ?hy ?_|refine aD 7 (v:=?_) rfl ?hy ?_|refine aD 8 (v:=?_) rfl ?hy ?_|refine aD 9 (v:=?_) rfl ?hy ?_|refine aD 12 (v:=?_) rfl ?hy ?_
    case hy=>
     intro w0 hS;have c1:=hS;clear hS;go_simp
     (first|done|with_reducible rfl)
    try simp only[Act.put,aZ,bq,bA])
  iterate 4
   all_goals first
    |refine wpAnyH_ready (rs:=[5,10]) (by decide +kernel) (by simp) (AllReadyH.cons (dA rfl) (fun K hK=>?_) (AllReadyH.cons (dA rfl) (fun K hK=>?_) AllReadyH.nil))
    |refine wpAnyH_ready (rs:=[6,10]) (by decide +kernel) (by simp) (AllReadyH.cons (dA rfl) (fun K hK=>?_) (AllReadyH.cons (dA rfl) (fun K hK=>?_) AllReadyH.nil))
    |refine wpAnyH_ready (rs:=[5]) (by decide +kernel) (by simp) (AllReadyH.cons (dA rfl) (fun K hK=>?_) AllReadyH.nil)
    |refine wpAnyH_ready (rs:=[10]) (by decide +kernel) (by simp) (AllReadyH.cons (dA rfl) (fun K hK=>?_) AllReadyH.nil)
    |refine wpAnyH_ready (rs:=[6]) (by decide +kernel) (by simp) (AllReadyH.cons (dA rfl) (fun K hK=>?_) AllReadyH.nil)
    |refine wpAnyH_ready (rs:=[11]) (by decide +kernel) (by simp) (AllReadyH.cons (dA rfl) (fun K hK=>?_) AllReadyH.nil)
    |fail
   all_goals first
    |(refine bW 108 ?_
      go_simp;clear hHeld;refine(cN Wc).mono ?_;rintro x w3 ⟨rfl,hw3⟩;rw[hw3];clear hw3;refine hK.out _ _ (au ((HB.block sb hsb).trans tQ) 1 rfl) (fun hHeld=>?_);clear hK K
      try simp only[Act.put,aZ,bq,bA])
    |(refine bW 123 ?_
      go_simp;clear hHeld;refine(jL (Qq.below HB) i hib).mono ?_;rintro x w3 ⟨rfl,hb3⟩;replace HB:=Lib.hid (HB.trans (hb3.mono HB.size));refine hK.out _ _ (au ((HB.block sb hsb).trans tQ) 1 rfl) (fun hHeld=>?_);clear hK K;try simp only[Act.put,aZ,bq,bA]
      first
       |(replace X3:=kX hb3 X3)
       |skip
      clear hb3 Wc
      rename World=>Wc)
    |(refine Nl ?_
      go_simp;clear hHeld;obtain⟨b3,hb3⟩:=wX Wc.heap.size;obtain⟨Wd,hV⟩:=wX (Wc.alloc (.cells #[.int .i64 0,.int .i64 0,.int .i64 0,.int .i64 0,.int .i64 0] 171));have bZ:w1.heap.size≤b3:=by rw[hb3];exact HB.size
      have hb5:=jU hV;have X3:=JF hV hb3;replace HB:=Lib.hid (HB.trans (hb5.mono HB.size));rw[←hV,←hb3];refine hK.out _ _ (au ((HB.block sb hsb).trans tQ) 1 rfl) (fun hHeld=>?_);clear hK K;(try simp only[Act.put,aZ,bq,bA]);clear hV hb3 hb5 Wc
      rename World=>Wc)
    |(refine Np ?_
      have v0:=au X3 0 rfl;have v1:=au X3 1 rfl;have v2:=au X3 2 rfl;have v3:=au X3 3 rfl;have v4:=au X3 4 rfl;have vz:=jv X3;have hx3:=aV X3;go_simp;clear hHeld v0 v1 v2 v3 v4 vz hx3;have HB2:=Lib.hid (aN (aN (aN (aN (aN HB bZ 0 (.int .i64 (nI S i:Nat))) bZ 1 (.int .i64 (nV S i:Nat))) bZ 2 (.int .i64 (nL S i:Nat))) bZ 3 (.int .i64 (nH S i:Nat))) bZ 4 (.int .i64 (nR S i:Nat)));refine hK.out _ _ (au ((HB2.block sb hsb).trans tQ) 1 rfl) (fun hHeld=>?_);clear hK K
      try simp only[Act.put,aZ,bq,bA])
    |fail
   all_goals
    repeat
     (first|refine aD 0 (v:=?_) rfl ?hy ?_|refine aD 1 (v:=?_) rfl ?hy ?_|refine aD 2 (v:=?_) rfl ?hy ?_|refine aD 3 (v:=?_) rfl ?hy ?_|refine aD 4 (v:=?_) rfl ?hy ?_|refine aD 7 (v:=?_) rfl ?hy ?_|refine aD 8 (v:=?_) rfl ?hy ?_|refine aD 9 (v:=?_) rfl ?hy ?_|refine aD 12 (v:=?_) rfl ?hy ?_
      case hy=>
       intro w0 hS;have c1:=hS;clear hS;go_simp
       (first|done|with_reducible rfl)
      try simp only[Act.put,aZ,bq,bA])
  all_goals refine wpAnyH_done (by decide +kernel) ?_ _
  all_goals
   clear hHeld;go_wp2_with fail
   go_meet
   case rel=>exact⟨b3,rfl,rfl,bZ,aN (aN (aN (aN (aN HB bZ 0 _) bZ 1 _) bZ 2 _) bZ 3 _) bZ 4 _,EO X3 _ _ _ _ _⟩
 case rest=>
  obtain⟨b,rfl,rfl,hb,hB2,hx⟩:=hcut;have HB2:=Lib.hid hB2;have HXB:=Lib.hid hx
  cases hd:S.nd i with
  |none=>
   have HO:Hid (S.drop n e=S):=by show _=_;unfold Bd.St.drop;rw[if_pos (by rw[←HI];exact hd)]
   clear hB2 hx hd;simp only[Option.isSome_none];go_wp2_with fail;rw[HF,HO];exact⟨rfl,K,⟨L,Ii.below HB2⟩,by rw[←HW0];exact(aj.of_below HB1).trans (aj.of_below HB2)⟩
  |some d=>
   have h1:=j5 hd;have hrf:S.refs i≤1000000000000:=by rw[HI];exact Uo (by rw[←HI,hd];simp)
   have hx4:wc.cell? ⟨b,4,none⟩=some (.int .i64 (S.refs i:Nat)):=(au hx 4 rfl).trans (by rw[h1.2.2.2.2];rfl);have hr1:=HR1 (by rw[hd];simp);have hr0:(((S.refs i:Nat):Int)==0)=false:=by simp;omega
   have hlb:=aV hx;have hzb:=jv hx 4;have tb:aj (fun _=>False) K w1 (bJ K b 0) wc:=(aj.of_below hB2).new hb;have hkb:bJ K b 0 b=0:=aW _ _ _;have t2:aj (fun r=>r=0) (bJ K b 0) wc (bJ K b 0) (wc.setCell ⟨b,4,none⟩ (.int .i64 ((S.refs i:Int)-1))):=aj.refl.iI hkb (aV hx) _;have hs2:=(Ii.aG tb (fun _ h=>h.elim)).aG t2 (fun r hr=>by unfold sR;omega);have hx2:=aH (o:=4) hx (.int .i64 ((S.refs i:Int)-1));obtain⟨W2,hW2⟩:=wX (wc.setCell ⟨b,4,none⟩ (.int .i64 ((S.refs i:Int)-1)));rw[←hW2]at t2 hs2 hx2;have q0:W2.cell? ⟨b,0,none⟩=some (.int .i64 (i:Nat)):=(au hx2 0 rfl).trans (by rw[h1.1];rfl);have q1:W2.cell? ⟨b,1,none⟩=some (.int .i64 (d.v:Nat)):=(au hx2 1 rfl).trans (by rw[h1.2.1];rfl);have q2:W2.cell? ⟨b,2,none⟩=some (.int .i64 (d.lo:Nat)):=(au hx2 2 rfl).trans (by rw[h1.2.2.1];rfl);have q3:W2.cell? ⟨b,3,none⟩=some (.int .i64 (d.hi:Nat)):=(au hx2 3 rfl).trans (by rw[h1.2.2.2.1];rfl);have q4:W2.cell? ⟨b,4,none⟩=some (.int .i64 ((S.refs i:Int)-1)):=au hx2 4 rfl;have p1:W2.cell? ⟨sb,1,none⟩=some (.pointer (some ⟨L.pb,0,none⟩)):=au hs2.row 1 rfl;have hr2:((S.refs i-1:Nat):Int)=(S.refs i:Int)-1:=by omega
   have cS:=vO hs2.drew.pool i d d (S.refs i-1) hd;rw[hr2]at cS;have HS2:=Lib.hid hs2;have HW2:=Lib.hid hW2;have HD:=Lib.hid hd;have ht0:=(tb.mono (R':=sR) (fun r h=>h.elim)).h_ (o:=4) hb (.int .i64 ((S.refs i:Int)-1));rw[←hW2]at ht0;have HT:=Lib.hid ht0;clear ht0;have HNB:Hid (w1.heap.size≤b):=hb;clear hB2 hx hd h1 tb t2 hs2 hx2 hW2 hr2 hb;simp only[Option.isSome_some]
   go_upto_region 11 with fail
   rw[←HW2];clear hx4 hzb;refine jk 5 (by kernel_rfl) (by kernel_rfl) ?_;simp only[List.take_succ_cons,List.take_zero,List.drop_succ_cons,List.drop_zero]
   repeat still_step
   refine wpStill_nil ?_
   go_wp2_with (go_at_call 124;refine cS.mono ?_;rintro x w3 ⟨rfl,hp3,ht3⟩;have Wu:=Lib.hid hp3;have HT3:=Lib.hid ht3;clear hp3 ht3)
   have hs3:=(HS2.below (Below.refl _ _).drew).reset (r:=S.refs i-1) HD Wu HT3;refine(sJ (m:=n) (S:=vV S i (S.refs i-1)) HD0.vV hB n e S.cnt S.dead ext (bJ K b 0) w3 HAT Sz mU HX (by rw[←HI];exact HX1) he hs3).mono ?_;rintro r w7 ⟨rfl,K3,hs7,gH⟩;have S7:=Lib.hid hs7;have T7:=Lib.hid ((((aj.of_below (R:=sR) HB1).trans (HT.drewN 1)).trans (HT3.mono (fun r hr=>by unfold sR;omega))).trans gH);clear hs3 hs7 gH
   have HO:Hid (S.drop n e=gV (vV S i (S.refs i-1)) (Bd.bU S.nd n S.cnt S.dead e).1 (Bd.bU S.nd n S.cnt S.dead e).2):=by
    show _=_;unfold Bd.St.drop;rw[if_neg (by rw[←HI,HD];simp),←HI]
    rfl
   go_wp2_with fail;rw[HF,HO];exact⟨rfl,K3,S7,by rw[←HW0];exact T7⟩
end
end
section
section
variable {K:Nat→Nat} {w:World} {sb n room:Nat} {L:SL} {S:Bd.St} {ah:Nat→Nat} {ord:List Nat}
theorem ER(h:pF K w sb L n room S ah ord)(hee:∀i d,S.nd i=some d→d.lo<4611686018427387904∧d.hi<4611686018427387904)(e v:Nat)(he:e<4611686018427387904) :
 Calls Tryz.prog 180 #[.pointer (some ⟨sb,0,none⟩),.int .i64 (e:Nat),.int .i64 (v:Nat)] w fun x w'=>x=.returned (.tuple #[.int .i64 (Bd.aB S.nd e v:Nat),.int .i64 (Bd.aI S.nd e v:Nat)])∧Below w.heap.size w w':=by
 have cA:=uJ h hee e he
 cases hd:S.nd (e/2)with
 |none=>
  rw[hd]at cA
  dsimp only at cA
  have h1:Bd.aB S.nd e v=e:=by unfold Bd.aB;rw[hd]
  have h2:Bd.aI S.nd e v=e:=by unfold Bd.aI;rw[hd]
  rw[h1,h2];clear h hd h1 h2;go_in
  go_wp2_with (go_at_call 126;refine cA.mono ?_;rintro x w3 ⟨rfl,hb3⟩;have HB3:=Lib.hid hb3;clear hb3)
  go_ret2
  exact⟨rfl,HB3⟩
 |some d=>
  rw[hd]at cA
  dsimp only at cA
  by_cases hv:d.v=v
  ·have h1:Bd.aB S.nd e v=Bd.flip d.lo (Bd.odd e):=by unfold Bd.aB;rw[hd];simp[hv]
   have h2:Bd.aI S.nd e v=Bd.flip d.hi (Bd.odd e):=by unfold Bd.aI;rw[hd];simp[hv]
   rw[h1,h2]
   generalize Bd.flip d.lo (Bd.odd e)=p at *
   generalize Bd.flip d.hi (Bd.odd e)=q at *
   simp only[hv]at cA;clear h hd h1 h2 hv;go_in
   go_wp2_with (go_at_call 126;refine cA.mono ?_;rintro x w3 ⟨rfl,hb3⟩;have HB3:=Lib.hid hb3;clear hb3)
   go_ret2
   exact⟨rfl,HB3⟩
  ·have h1:Bd.aB S.nd e v=e:=by unfold Bd.aB;rw[hd];simp[hv]
   have h2:Bd.aI S.nd e v=e:=by unfold Bd.aI;rw[hd];simp[hv]
   rw[h1,h2];have hne:(((d.v:Nat):Int) != ((v:Nat):Int))=true:=by simp;omega
   have hne2:(((d.v:Nat):Int)==((v:Nat):Int))=false:=by simp;omega
   clear h hd h1 h2 hv;go_in
   go_wp2_with (go_at_call 126;refine cA.mono ?_;rintro x w3 ⟨rfl,hb3⟩;have HB3:=Lib.hid hb3;clear hb3)
   go_ret2
   exact⟨rfl,HB3⟩
/-- below: Mk without its questions;there is room. -/
theorem vW(h:pF K w sb L n room S ah ord)(v lo hi:Nat)(hv:v<n)(hn:n≤1000000)(hl:lo<4611686018427387904)(hh:hi<4611686018427387904)(hid:∀a b i,S.tab v a b=some i→i≤1048577)
 (ha:S.takes v lo hi→C8 room S ⟨v,Bd.flip lo (Bd.odd hi),Bd.flip hi (Bd.odd hi)⟩∧¬S.full room) :
 Calls Tryz.prog 170 #[.pointer (some ⟨sb,0,none⟩),.int .i64 (v:Nat),.int .i64 (lo:Nat),.int .i64 (hi:Nat)] w fun x w'=>x=.returned (.int .i64 ((S.mk' v lo hi).2:Nat))∧∃K',dG K' w' sb n room (S.mk' v lo hi).1 ah ord∧aj sR K w K' w':=by
 have HH:=Lib.hid h;have HN:=fun W=>sH lo hi W hl hh;have HA:=Lib.hid ha;have HID:=Lib.hid hid;clear ha hid
 by_cases he:lo=hi
 ·have e9:S.mk' v lo hi=(S,lo):=by unfold Bd.St.mk';rw[if_pos he]
  rw[e9];subst he;clear h e9;go_in;go_wp2_with fail;go_ret;exact⟨rfl,K,⟨L,HH⟩,aj.refl⟩
 ·have he1:((lo:Int)==(hi:Int))=false:=by simp;omega
  have hvi:(v:Int)<(n:Int):=by omega
  have y2:w.cell? ⟨sb,2,none⟩=some (.slice (some ⟨L.kE,0,none⟩) n L.qM):=au h.row 2 rfl
  have yt:w.cell? ⟨L.kE,v,none⟩=some (.pointer (some ⟨L.tb v,0,none⟩)):=by
   have:=h.tabs.cell (i:=v) (j:=0) hv (by omega)
   simpa using this
  obtain⟨l,Ia⟩:=aJ (Bd.flip lo (Bd.odd hi));obtain⟨k,Ib⟩:=aJ (Bd.flip hi (Bd.odd hi));obtain⟨t,HT⟩:=aJ (Bd.odd hi);rw[←Ia,←Ib,←HT]at HN
  have hl4:l<4611686018427387904:=by
   rw[Ia];have:=Bd.bH lo (Bd.odd hi);omega
  have hh4:k<4611686018427387904:=by
   rw[Ib];have:=Bd.bH hi (Bd.odd hi);omega
  have HE:=Lib.hid he;have cF:=ou (h.tab v hv) l k hl4 hh4;obtain⟨F,HF⟩:=aJ (fun(x:Ending)(w':World)=>x=.returned (.int .i64 ((S.mk' v lo hi).2:Nat))∧∃K',dG K' w' sb n room (S.mk' v lo hi).1 ah ord∧aj sR K w K' w');rw[←HF];clear he
  cases ht:S.tab v l k with
  |some i=>
   rw[ht]at cF;have e9:S.mk' v lo hi=(S,Bd.edge i t):=by unfold Bd.St.mk';rw[if_neg HE.out,←Ia,←Ib,ht,←HT]
   have E9:=Lib.hid e9;have hi4:=HID _ _ _ ht;have cO:=fun W=>uI i t W (by omega);simp only[Option.getD_some,Option.isSome_some]at cF;clear e9 ht h;go_in
   go_wp2_with (first
    |(go_at_call 158;refine(HN _).mono ?_;rintro x w3 ⟨rfl,hw3⟩;rw[hw3];clear hw3)
    |(go_at_call 159;refine cF.mono ?_;rintro x w3 ⟨rfl,hw3⟩;rw[hw3];clear hw3)
    |(go_at_call 161;refine(cO _).mono ?_;rintro x w3 ⟨rfl,hw3⟩;rw[hw3];clear hw3)
    |fail)
   rw[HF];refine⟨by rw[E9];rfl,K,?_,aj.refl⟩;rw[E9];exact⟨L,HH⟩
  |none=>
   rw[ht]at cF;have e9:S.mk' v lo hi=(S.add ⟨v,l,k⟩,Bd.edge S.slot t):=by unfold Bd.St.mk';rw[if_neg HE.out,←Ia,←Ib,ht,←HT]
   have E9:=Lib.hid e9;obtain⟨hA,hnf⟩:=HA ⟨HE,by rw[←Ia,←Ib,ht]⟩;rw[←Ia,←Ib]at hA;have hs4:S.slot≤1048577:=by have:=hA.N;have:=hA.rm;have:=hA.sn;omega
   have cO:=fun W=>uI S.slot t W (by omega);have cAd:=C9 h ⟨v,l,k⟩ hv hn hA;have HNF:=Lib.hid hnf;simp only[Option.getD_none,Option.isSome_none]at cF;clear e9 ht hA h hnf;go_in
   go_wp2_with (first
    |(go_at_call 158;refine(HN _).mono ?_;rintro x w3 ⟨rfl,hw3⟩;rw[hw3];clear hw3)
    |(go_at_call 159;refine cF.mono ?_;rintro x w3 ⟨rfl,hw3⟩;rw[hw3];clear hw3)
    |fail)
   refine cAd.mono ?_;intro x w9 hq
   rcases hq with⟨q1,rfl,q3⟩|⟨q1,rfl,K',q3,q4⟩
   ·exact absurd q1 HNF
   ·have Q3:=Lib.hid q3;have Q4:=Lib.hid q4;clear q1 q3 q4
    go_wp2_with (go_at_call 161;refine(cO _).mono ?_;rintro x w3 ⟨rfl,hw3⟩;rw[hw3];clear hw3)
    rw[HF];refine⟨by rw[E9];rfl,K',?_,Q4⟩;rw[E9];exact Q3
end
end
section
section
variable {P:Program} {w:World} {t e k bytes n:Nat} {v:Value} {E E':Nat→List Value}
/-- append of a whole slice of one-cell elements. -/
theorem tT{m:Nat}{G:Nat→Value}{ad:Nat}{c:Nat}(hI:dS P t e 1 bytes)(h:Sl w e 1 v n E)(hm:0<m)(hs:Rw w e 1 m c ad (fun i=>[G i]))(h1:∀i,i<m→(G i).oneCell'=true)(hn:n+m<1073741824)(c':Nat)(ty:TypeId) :
 ∃g cap w',(Builtin.append_ #[t,t] ty #[v,.slice (some ⟨ad,0,none⟩) m c']).run P w=.ok (.slice (some ⟨g,0,none⟩) (n+m) cap) w'∧bY w e 1 v n m (fun q=>if q<n then E q else[G (q-n)]) g cap w':=by
 obtain⟨h0,hb,ht,i,z,hi,hz,hs',hby,hzs⟩:=hI;have hbb:(n+m)*bytes≤140737488355328:=Nat.le_trans (Nat.mul_le_mul (show n+m≤1073741824 by omega) hb) (by decide);refine pE t ty e i z bytes ht hi hz hs' hby hzs h0 h ⟨ad,0,none⟩ m c' ((List.range m).map G) hm (by simp) (fun j u hj=>?_) (fun u hu=>?_) (by unfold maxLen;omega) hbb _ (fun q hq j hj=>by rw[if_pos hq]) (fun q hq j hj=>?_)
 ·have hjm:j<m:=by
   have:=(List.getElem?_eq_some_iff.1 hj).1
   simpa using this
  rw[List.getElem?_map,List.getElem?_range hjm]at hj;have:=hs.cell (i:=j) (j:=0) hjm (by omega);simp only[Nat.mul_one,Nat.add_zero,List.getElem?_cons_zero]at this;rw[Addr.add_lit,Nat.zero_add,this]
  simpa using hj
 ·obtain⟨q,hq,rfl⟩:=List.mem_map.1 hu;exact h1 q (List.mem_range.1 hq)
 ·obtain rfl:j=0:=by omega
  rw[if_neg (by omega),show n+q-n=q from by omega,List.getElem?_map,List.getElem?_range (by omega)];simp
theorem vX{m:Nat}{G:Nat→Value}{ad:Nat}{c c':Nat}{ops:Array Oper}{rest:List Oper}{o:Oper}{a:Act}{Q:Exit→Act→World→Prop}(w:World)(hg:o.guard=none)(s x:Operand)(t:TypeId)(hop:o.op=Op.call {callee:=Callee.builtin Builtin.append,args:=#[s,x],argTypes:=#[t,t]})
 (hI:dS P t e 1 bytes) (hs:a.eval s=v) (h:Sl w e 1 v n E) (hx:a.eval x=.slice (some ⟨ad,0,none⟩) m c') (hm:0<m) (hR:Rw w e 1 m c ad (fun i=>[G i])) (h1:∀i,i<m→(G i).oneCell'=true) (hn:n+m<1073741824)
 (hK:∀g cap w',bY w e 1 v n m (fun q=>if q<n then E q else[G (q-n)]) g cap w'→wpList P ops Q rest (a.put o.dst (.slice (some ⟨g,0,none⟩) (n+m) cap)) w'):wpList P ops Q (o::rest) a w:=by
 refine wpList_plain hg fun K' hK'=>?_;obtain⟨g,cap,w',hrun,hq⟩:=tT hI h hm hR h1 hn c' o.type;unfold Oper.wp;simp[execOp,hop,resolve,invoke,builtin,hs,hx,hrun,Result.andThen];exact hK' _ _ (hK g cap w' hq)
end
end
section
section
variable {K K':Nat→Nat} {w w':World} {sb n room:Nat} {L:SL} {P P':Bd.St} {tab:Nat→Nat→Nat→Option Nat} {cn:Nat} {dead:Int} {ah fV:Nat→Nat} {ord ji:List Nat}
theorem StJ.aav{R:Nat→Prop}(h:StJ K w sb L n room P tab cn dead ah ord)(h1:Rw w' 3 1 n L.cvv L.gv (fun k=>[.int .i64 (ji.getD k 0:Nat)]))(h2:Rw w' 3 1 n L.Ng L.gl (fun v=>[.int .i64 (fV v:Nat)]))(t:aj R K w K w')(hR:∀r,R r→r=4∨r=5):StJ K w' sb L n room P tab cn dead fV ji:=by
 have hn:∀r,r≠4→r≠5→¬R r:=fun r h1 h2 h3=>by have:=hR r h3;omega
 obtain⟨c1,c2⟩:=h.cnt.aG h.kc t (hn _ (by omega) (by omega));have e2:=h.ks;have e3:=h.kl;have e6:=h.kt;exact⟨t.obj h.row (by rw[e2];exact hn _ (by omega) (by omega)),t.obj h.iE (by rw[e3];exact hn _ (by omega) (by omega)),h1,h2,h.pool.aG t (fun r hr=>by have:=hR r hr;omega),h.tabs.kept (t.block h.tabs.lt (by rw[e6];exact hn _ (by omega) (by omega))),fun u hu=>(h.tab u hu).aG t (hn _ (by omega) (by omega)) (hn _ (by omega) (by omega)),c1,e2,e3,h.kv,h.ke,e6,c2⟩
theorem ES(h:StJ K w sb L n room P tab cn dead ah ord)(k x y:Nat)(hk:k+1<n)(hn:n≤1000000)(hx:ord[k]?=some x)(hy:ord[k+1]?=some y)(hxn:x<n)(hyn:y<n)(hxy:x≠y)(hlx:ah x=k)(SA:ah y=k+1)(hol:ord.length=n) :
 Calls Tryz.prog 168 #[.pointer (some ⟨L.lb,0,none⟩),.int .i64 (k:Nat)] w fun r w'=>r=.returned (.tuple #[])∧StJ K w' sb L n room P tab cn dead (Bd.gJ ah x y) (Bd.swo ord k x y)∧aj sR K w K w':=by
 obtain⟨F,HF⟩:=aJ (fun(r:Ending)(w':World)=>r=.returned (.tuple #[])∧StJ K w' sb L n room P tab cn dead (Bd.gJ ah x y) (Bd.swo ord k x y)∧aj sR K w K w');rw[←HF];have y0:w.cell? ⟨L.lb,0,none⟩=some (.slice (some ⟨L.gv,0,none⟩) n L.cvv):=au h.iE 0 rfl;have y1:w.cell? ⟨L.lb,1,none⟩=some (.slice (some ⟨L.gl,0,none⟩) n L.Ng):=au h.iE 1 rfl
 have z0:w.cell? ⟨L.gv,k,none⟩=some (.int .i64 (x:Nat)):=by
  have:=h.vars.cell (i:=k) (j:=0) (by omega) (by omega)
  simpa[List.getD_eq_getElem?_getD,hx]using this
 have z1:w.cell? ⟨L.gv,k+1,none⟩=some (.int .i64 (y:Nat)):=by
  have:=h.vars.cell (i:=k+1) (j:=0) (by omega) (by omega)
  simpa[List.getD_eq_getElem?_getD,hy]using this
 have u0:w.cell? ⟨L.gl,x,none⟩=some (.int .i64 (ah x:Nat)):=by
  have:=h.level.cell (i:=x) (j:=0) hxn (by omega)
  simpa using this
 have u1:w.cell? ⟨L.gl,y,none⟩=some (.int .i64 (ah y:Nat)):=by
  have:=h.level.cell (i:=y) (j:=0) hyn (by omega)
  simpa using this
 have zf:=h.vars.frozen;have uf:=h.level.frozen;have e1:L.gv≠L.gl:=fun e=>by have h1:=h.kv;have h2:=h.ke;rw[e]at h1;omega
 have e2:L.lb≠L.gv:=fun e=>by have h1:=h.kv;have h2:=h.kl;rw[e]at h2;omega
 have e3:L.lb≠L.gl:=fun e=>by have h1:=h.ke;have h2:=h.kl;rw[e]at h2;omega
 have hki:(k:Int)+1<(n:Int):=by omega
 have hxi:(x:Int)<(n:Int):=by omega
 have hyi:(y:Int)<(n:Int):=by omega
 have hni:(n:Int)≤1000000:=by omega
 have hw1:IntKind.i64.wrap ((k:Int)+1)=(k:Int)+1:=IntWalk.i64_in _ (by omega);have hw2:((k:Int)+1).toNat=k+1:=by omega
 have HH:=Lib.hid h;have HX:=Lib.hid hx;have HY:=Lib.hid hy;have HLX:=Lib.hid hlx;have HLY:=Lib.hid SA;have HOL:=Lib.hid hol;rw[hlx]at u0;rw[SA]at u1;have HR1:=Lib.hid ((h.vars.set1 (i:=k) (by omega) (.int .i64 (y:Nat))).set1 (i:=k+1) (by omega) (.int .i64 (x:Nat)));have HR2:=Lib.hid ((h.level.set1 (i:=x) hxn (.int .i64 ((k:Nat)+1))).set1 (i:=y) hyn (.int .i64 (k:Nat)));clear h hx hy hlx SA hol;go_in
 go_wp2
 go_region
 go_wp2
 go_region
 go_wp2
 go_region
 go_end0
 rw[HF];have hv4:=HH.kv;have he4:=HH.ke
 have t:aj (fun r=>r=4∨r=5) K w K ((((w.setCell ⟨L.gv,k,none⟩ (.int .i64 (y:Nat))).setCell ⟨L.gv,k+1,none⟩ (.int .i64 (x:Nat))).setCell ⟨L.gl,x,none⟩ (.int .i64 ((k:Nat)+1))).setCell ⟨L.gl,y,none⟩ (.int .i64 (k:Nat))):=
  (((aj.refl.iI (.inl hv4) HH.vars.lt _).iI (.inl hv4) (by simpa using HH.vars.lt) _).iI (.inr he4) (by simpa using HH.level.lt) _).iI (.inr he4) (by simpa using HH.level.lt) _
 have r1:Rw ((((w.setCell ⟨L.gv,k,none⟩ (.int .i64 (y:Nat))).setCell ⟨L.gv,k+1,none⟩ (.int .i64 (x:Nat))).setCell ⟨L.gl,x,none⟩ (.int .i64 ((k:Nat)+1))).setCell ⟨L.gl,y,none⟩ (.int .i64 (k:Nat))) 3 1 n L.cvv L.gv (fun q=>[.int .i64 ((Bd.swo ord k x y).getD q 0:Nat)]):=by
  refine(HR1.kept (w':=_) ((heap_setCell_other _ _ _ _ e1).trans (heap_setCell_other _ _ _ _ e1))).congr (fun q hq j hj=>?_);have hol:=HOL.out;unfold Bd.swo;rw[List.getD_eq_getElem?_getD]
  by_cases h1:q=k+1
  ·subst h1;rw[List.getElem?_set_self (by simp;omega)];simp
  ·rw[List.getElem?_set_ne (by omega)]
   by_cases h2:q=k
   ·subst h2;rw[List.getElem?_set_self (by omega)];simp
   ·rw[List.getElem?_set_ne (by omega),if_neg h1,if_neg h2,List.getD_eq_getElem?_getD]
 have r2:Rw ((((w.setCell ⟨L.gv,k,none⟩ (.int .i64 (y:Nat))).setCell ⟨L.gv,k+1,none⟩ (.int .i64 (x:Nat))).setCell ⟨L.gl,x,none⟩ (.int .i64 ((k:Nat)+1))).setCell ⟨L.gl,y,none⟩ (.int .i64 (k:Nat))) 3 1 n L.Ng L.gl (fun v=>[.int .i64 (Bd.gJ ah x y v:Nat)]):=by
  have h0:Rw ((w.setCell ⟨L.gv,k,none⟩ (.int .i64 (y:Nat))).setCell ⟨L.gv,k+1,none⟩ (.int .i64 (x:Nat))) 3 1 n L.Ng L.gl (fun v=>[.int .i64 (ah v:Nat)]):=HH.level.kept ((heap_setCell_other _ _ _ _ e1.symm).trans (heap_setCell_other _ _ _ _ e1.symm));refine((h0.set1 (i:=x) hxn (.int .i64 ((k:Nat)+1))).set1 (i:=y) hyn (.int .i64 (k:Nat))).congr (fun q hq j hj=>?_);have h3:=HLX.out;have h4:=HLY.out;unfold Bd.gJ
  by_cases h1:q=x
  ·subst h1;rw[if_pos rfl,if_neg hxy,if_pos rfl,h4];simp
  ·rw[if_neg h1]
   by_cases h2:q=y
   ·rw[if_pos h2,if_pos h2,h3]
   ·rw[if_neg h2,if_neg h2,if_neg h1]
 have s1:=(HH.aav r1 r2 t (fun r h=>h)).drew.drew.drew;exact⟨rfl,s1,(t.mono (fun r hr=>by unfold sR;omega)).drewN 3⟩
/-- A list of numbers in new memory. -/
def sK(w:World)(v:Value)(l:List Nat)(W:World):Prop:=∃g cap,v=.slice (some ⟨g,0,none⟩) l.length cap∧w.heap.size≤g∧Rw W 3 1 l.length cap g (fun i=>[.int .i64 (l.getD i 0:Nat)])∧Below w.heap.size w W
theorem vY(h:StJ K w sb L n room P tab cn dead ah ord)(hn:n≤1000000)(h0:0<n)(hol:ord.length=n) :
 Calls Tryz.prog 146 #[.pointer (some ⟨sb,0,none⟩)] w fun r w'=>∃v,r=.returned v∧sK w v ord w':=by
 have y0:w.cell? ⟨sb,0,none⟩=some (.pointer (some ⟨L.lb,0,none⟩)):=au h.row 0 rfl;have y1:w.cell? ⟨L.lb,0,none⟩=some (.slice (some ⟨L.gv,0,none⟩) n L.cvv):=au h.iE 0 rfl;have HV:=Lib.hid h.vars;have hsb:=aV h.row;have hlb:=aV h.iE;clear h;go_in;have h00:∀o,Rw (w.alloc o) 3 1 n L.cvv L.gv (fun k=>[.int .i64 (ord.getD k 0:Nat)]):=fun o=>HV.kept (heap_alloc_old _ _ _ HV.lt);have h01:Sl (w.alloc (.cells #[] 3)) 3 1 (.slice (some ⟨w.heap.size,0,none⟩) 0 0) 0 (fun _=>[]):=.inr ⟨_,0,rfl,⟨⟨#[],heap_alloc_new _ _,by simp,fun i hi=>by omega⟩,Nat.le_refl _⟩⟩
 go_wp2_with (at_builtin;refine vX _ rfl _ _ _ rfl jq rfl h01 rfl h0 (h00 _) (fun i _=>rfl) (by omega) ?_;intro g2 c2 w2 hq2;have HQ:=Lib.hid hq2;clear hq2)
 go_ret;have hr:=HQ.row;rw[Nat.zero_add]at hr
 have hgg:w.heap.size≤g2:=by
  rcases HQ.at' with h9|h9
  ·have:some w.heap.size=some g2:=h9
   injection this with this;omega
  ·simp at h9;omega
 refine⟨_,rfl,g2,c2,by rw[hol];rfl,hgg,?_,?_⟩
 ·rw[hol];exact hr.congr (fun i hi j hj=>by simp)
 ·exact(Only.alloc (F:=fun q=>q=w.heap.size) Only.refl (.cells #[] 3)).trans (HQ.only.mono (G:=fun q=>q=w.heap.size) (fun q hq=>by have:some w.heap.size=some q:=hq;injection this with this;exact this.symm))|>.below (fun q hq=>by omega) (Nat.le_refl _)
end
end
/-- What p speaks of lies as it lay. -/
def Kx(p:Nat→Obj→Prop)(W W':World):Prop:=W.heap.size≤W'.heap.size∧∀k o,W.heap[k]?=some o→p k o→W'.heap[k]?=some o
theorem Kx.refl{p:Nat→Obj→Prop}{W:World}:Kx p W W:=⟨Nat.le_refl _,fun _ _ h _=>h⟩
theorem Kx.trans{p:Nat→Obj→Prop}{A B C:World}(h:Kx p A B)(k:Kx p B C):Kx p A C:=⟨Nat.le_trans h.1 k.1,fun i o hi hp=>k.2 i o (h.2 i o hi hp) hp⟩
theorem Kx.below{p:Nat→Obj→Prop}{A B:World}(h:Below A.heap.size A B):Kx p A B:=⟨h.size,fun k o hk _=>(h.block k (Array.getElem?_eq_some_iff.1 hk).1).trans hk⟩
theorem Kx.aG{p:Nat→Obj→Prop}{R:Nat→Prop}{K K':Nat→Nat}{A B:World}(h:aj R K A K' B)(hp:∀k o,A.heap[k]?=some o→p k o→¬R (K k)):Kx p A B:=
 ⟨h.size,fun k o hk hpk=>(h.block (Array.getElem?_eq_some_iff.1 hk).1 (hp k o hk hpk)).trans hk⟩
/-- The contract of an iterator that hands out xs,whatever rounds keep what p speaks of. -/
def Qy{α:Type}(n:Nat)(P:Program)(g:Nat)(lb:Array Value)(encs:α→Array Value)(p:Nat→Obj→Prop)(xs:List α)(w:World):Prop:=
 ∀(l:Nat)(J:Nat→World→Prop)(W:World),Below w.heap.size w W→OwnFrom W.heap.size J →
  (∀i x W1,xs[i]?=some x→J i W1→YieldAt Fence.wide (n-1) P l (encs x) W1 fun e W'=>e=.returned (.bool true)∧J (i+1) W'∧Kx p W1 W') →
  (∀W0,Below W.heap.size W W0→J 0 W0)→CallsIn Fence.wide n P g (#[.func (.yield l) #[] #[]]++lb) W fun e W'=>(∃v,e=.returned v)∧J xs.length W'
/-- The statement 'for ..:=range g',outermost in its function,with no round that leaves. -/
theorem ET{α:Type}{P:Program}{n:Nat}{g:Operand}{ps:Array Tmp}{assign body:Code}{Q:Exit→Act→World→Prop}{a:Act}{w w0:World}
 {gf:Nat} {lb:Array Value} (hg:a.eval g=.func (.func gf) #[] lb) (eg:∀args w,(callFunc gf args).run P w=.ok (.enter gf args) w)
 {encs:α→Array Value} {p:Nat→Obj→Prop} {xs:List α} (hseq:Qy (n-1) P gf lb encs p xs w0) (h1:1≤n) (hb0:Below w0.heap.size w0 w) (hps:∀x,(encs x).size=ps.size)
 (hp:∀k o,w.heap.size≤k→o.isCells=false→p k o)
 (I:Nat→World→Prop) (hI:OwnFrom w.heap.size I) (h0:∀W0,Below w.heap.size w W0→I 0 W0) (Ax:Nat→Act→World→Prop) (hAx:∀i a',OwnFrom w.heap.size (fun(_:Unit) W=>Ax i a' W))
 (hassign:∀(l i:Nat)(x:α)(W:World)(F:Act→World→Prop),xs[i]?=some x→I i W→(∀a' W',Kx p W W'→I i W'→Ax i a' W'→F a' W') →
   assign.wpIn (Fence.wide.inRound l) (n-1-1) P (Exit.then F (fun _ _ _=>False)) {tmps:=(ps.zip (encs x)).foldl (fun t (p,v)=>t.setIfInBounds p v) a.tmps,defers:=[]} W)
 (hbody:∀(l i:Nat)(x:α)(a':Act)(W:World),xs[i]?=some x→I i W→Ax i a' W →
   body.wpIn (Fence.wide.inRound l) (n-1-1) P (fun e _ W'=>e=.normal∧Kx p W W'∧I (i+1) W') a' W)
 (hdone:∀(D:Nat)(W:World),w.heap.size≤D→I xs.length W→W.heap[D]?=some (.deferred (some []))→Q .normal {a with defers:={target:=.collected D,args:=#[]}::a.defers} W) :
 (Code.rangeFunc g ps assign body).wpIn Fence.wide n P Q a w:=by
 refine wpIn_rangeFunc ?_;intro fn hfn;obtain⟨rec,hrec⟩:∃rec:LoopState→Loop,rec=fun st=>{state:=st,pending:=none,fn,tmps:=a.tmps,params:=ps,assign,body,defers:=w.heap.size}:=⟨_,rfl⟩;obtain⟨W1,hW1⟩:∃W1,(w.alloc (.deferred (some []))).alloc (.loop (rec .ready))=W1:=⟨_,rfl⟩
 have hL1:W1.heap[w.heap.size+1]?=some (.loop (rec .ready)):=by
  rw[←hW1];have:=World.alloc_heap_new (w.alloc (.deferred (some []))) (.loop (rec .ready));rwa [World.size_alloc]at this
 have hD1:W1.heap[w.heap.size]?=some (.deferred (some [])):=by
  rw[←hW1];exact(Below.heap_alloc _ _ _ (by simp)).trans (World.alloc_heap_new w _)
 have hsz:W1.heap.size=w.heap.size+2:=by rw[←hW1];simp
 have hb2:Below w.heap.size w W1:=by rw[←hW1];exact((Below.refl _ w).alloc (Nat.le_refl _) _).alloc (by simp) _
 have hb1:Below w0.heap.size w0 W1:=by
  rw[←hW1];exact hb0.trans ((((Below.refl _ w).alloc (Nat.le_refl _) _).alloc (by simp) _).mono hb0.size)
 refine⟨w.heap.size+1,[{target:=.collected w.heap.size,args:=#[]}],W1,{target:=.fn (.func gf) lb,args:=#[.func (.yield (w.heap.size+1)) #[] #[]]},W1,gf,
  #[.func (.yield (w.heap.size+1)) #[] #[]]++lb,W1,?_,?_,fun _ _=>trivial,?_,fun _=>h1,?_⟩
 ·rw[←hW1,hrec];exact run_enterLoop_outer _ _ _ _ _
 ·simp only[resolve,hg];simp[go_sem]
 ·simp[invoke,go_sem,eg]
 have keep:∀{A B:World}{row:Option Nat}{k:Nat}{o:Obj},A.grownBy B row→(∀r,row=some r→W1.heap.size≤r∧∃o:Obj,A.heap[r]?=some o∧o.isCells=false)→k<W1.heap.size→A.heap[k]?=some o→B.heap[k]?=some o:=
  fun hg' hr hk ho=>(hg'.block _ (Array.getElem?_eq_some_iff.1 ho).1 (fun e=>by have:=(hr _ e.symm).1;omega)).trans ho
 refine(hseq (w.heap.size+1) (fun i W=>I i W∧W.heap[w.heap.size+1]?=some (.loop (rec .ready))∧W.heap[w.heap.size]?=some (.deferred (some []))) W1 hb1 ?_ ?_ (fun W0 hW0=>⟨h0 W0 (hb2.trans (hW0.mono hb2.size)),(hW0.block _ (by omega)).trans hL1,(hW0.block _ (by omega)).trans hD1⟩)).mono ?_
 ·intro s A B row hs hg' hr;exact⟨hI s A B row hs.1 hg' (fun r e=>⟨by have:=(hr r e).1;omega,(hr r e).2⟩),keep hg' hr (by omega) hs.2.1,keep hg' hr (by omega) hs.2.2⟩
 ·rintro i x W hx ⟨hi,hl,hd⟩;have hlt:w.heap.size+1<W.heap.size:=(Array.getElem?_eq_some_iff.1 hl).1;have hy:=run_yield (P:=P) (args:=encs x) hl (by rw[hrec];exact hps x);rw[hrec]at hy;refine⟨fn,_,assign,body,hy,roundIn_of_wpIn hfn (hassign _ i x W _ hx hi ?_)⟩;clear hy;intro a' Wa hka hia hax;have hla:Wa.heap[w.heap.size+1]?=some (.loop (rec .ready)):=hka.2 _ _ hl (hp _ _ (by omega) rfl);have hda:Wa.heap[w.heap.size]?=some (.deferred (some [])):=hka.2 _ _ hd (hp _ _ (Nat.le_refl _) rfl);have aaw:w.heap.size+1<Wa.heap.size:=(Array.getElem?_eq_some_iff.1 hla).1;refine⟨_,run_beginRound hla (by rw[hrec]),?_⟩;have hl2:(Wa.putObj (w.heap.size+1) (.loop {rec .ready with state:=.busy})).heap[w.heap.size+1]?=some (.loop {rec .ready with state:=.busy}):=World.putObj_heap_same aaw;have hd2:(Wa.putObj (w.heap.size+1) (.loop {rec .ready with state:=.busy})).heap[w.heap.size]?=some (.deferred (some [])):=(World.putObj_heap_other (by omega)).trans hda;refine wpIn_mono (hbody _ i x a' _ hx (hI.putObj _ hia (by omega) hla rfl) ((hAx i a').putObj (s:=()) _ hax (by omega) hla rfl)) ?_;rintro e a3 W3 ⟨rfl,hk3,hi3⟩;have hl3:=hk3.2 _ _ hl2 (hp _ _ (by omega) rfl);have hd3:=hk3.2 _ _ hd2 (hp _ _ (Nat.le_refl _) rfl);have he:=run_endRound (P:=P) none hl3;rw[hrec]at he;have hlt3:=(Array.getElem?_eq_some_iff.1 hl3).1
  refine⟨_,_,he,rfl,⟨hI.putObj _ hi3 (by omega) hl3 rfl,?_,(World.putObj_heap_other (by omega)).trans hd3⟩,?_⟩
  ·rw[World.putObj_heap_same hlt3,hrec];rfl
  ·refine⟨?_,fun k o hk hpk=>?_⟩
   ·have h2:=hk3.1;have h1:=hka.1;have e1:∀(X:World)(q:Nat)(o:Obj),(X.putObj q o).heap.size=X.heap.size:=fun X q o=>by simp
    rw[e1]at h2⊢;omega
   ·by_cases e:k=w.heap.size+1
    ·subst e;rw[hl]at hk;cases hk;rw[World.putObj_heap_same hlt3,hrec];rfl
    ·rw[World.putObj_heap_other e];refine hk3.2 k o ?_ hpk;rw[World.putObj_heap_other e];exact hka.2 k o hk hpk
 ·rintro e W2 ⟨⟨v,rfl⟩,hi,hl,hd⟩;have he:=run_endLoop (P:=P) hl (by rw[hrec];simp);rw[hrec]at he;exact⟨none,_,he,hdone _ _ (Nat.le_refl _) (hI.putObj _ hi (by omega) hl rfl) ((World.putObj_heap_other (by omega)).trans hd)⟩
end Go.Proofs.YtpijlhlpejlhhaaGreat
