/- Walks and plain words: StE StF StG StH. -/
import Derived.Test.YtpijlhlpejlhhaaGreatVMnA
import Derived.Deep.LoopGhost
import Derived.Test.YtpijlhlpejlhhaaGreatVBeB
namespace Go.Proofs.YtpijlhlpejlhhaaGreat
open Go.RowKit
set_option linter.unusedVariables false
set_option maxRecDepth 100000
set_option maxHeartbeats 8000000
/-- What add asks of the store. -/
structure C8(room:Nat)(S:Bd.St)(d:Bd.Nd):Prop where
 rm:room≤1048576
 N:S.N≤room+1
 fl:S.free.length<S.N
 s0:0<S.slot
 s1:S.free≠[]→S.slot<S.N
 sn:S.slot≤S.N
 nn:S.nd S.slot=none
 many:(S.add d).many=S.many+1
 cn:S.cn≤S.N
 cnb:∀i,S.nd i≠none→i<S.cn
 dead:0≤S.dead∧S.dead≤2000000
 tab:S.tab d.v d.lo d.hi=none
 few:Ws (S.tab d.v)
 lo:d.lo<4611686018427387904
 hi:d.hi<4611686018427387904
/-- What add leaves. -/
def Uj(K:Nat→Nat)(w:World)(sb n room:Nat)(S:Bd.St)(ah:Nat→Nat)(ord:List Nat)(d:Bd.Nd)(x:Ending)(w':World):Prop:=
 (S.full room∧x=.returned (.tuple #[.int .i64 0,.int .i64 7])∧Below w.heap.size w w') ∨
 (¬S.full room∧x=.returned (.tuple #[.int .i64 (S.slot:Nat),.int .i64 0])∧∃K',dG K' w' sb n room (S.add d) ah ord∧aj sR K w K' w')
theorem Qu(S:Bd.St)(d:Bd.Nd):(S.add d).tab=fun u=>if u=d.v then Cz (S.tab d.v) d.lo d.hi S.slot else S.tab u:=by
 funext u x y
 show(if u=d.v∧x=d.lo∧y=d.hi then some S.slot else S.tab u x y)=_
 by_cases e:u=d.v
 ·subst e;simp only[Cz,true_and,if_true]
 ·rw[if_neg e,if_neg (fun h=>e h.1)]
theorem C9{K:Nat→Nat}{w:World}{sb n room:Nat}{L:SL}{S:Bd.St}{ah:Nat→Nat}{ord:List Nat}(h:pF K w sb L n room S ah ord)(d:Bd.Nd)(hv:d.v<n)(hn:n≤1000000)(ha:C8 room S d) :
 Calls Tryz.prog 160 #[.pointer (some ⟨sb,0,none⟩),.int .i64 (d.v:Nat),.int .i64 (d.lo:Nat),.int .i64 (d.hi:Nat)] w (Uj K w sb n room S ah ord d):=by
 obtain⟨F,HF⟩:=aJ (Uj K w sb n room S ah ord d);rw[←HF];have y1:w.cell? ⟨sb,1,none⟩=some (.pointer (some ⟨L.pb,0,none⟩)):=au h.row 1 rfl;have cT:=Jp h.pool d ha.rm ha.N ha.fl ha.s0 ha.s1 ha.many;have HH:=Lib.hid h;have HA:=Lib.hid ha;have hsb:=aV h.row;have hsn:S.slot≤1048577:=by have:=ha.N;have:=ha.rm;have:=ha.sn;omega
 have hcn:S.cn≤1048577:=by have:=ha.N;have:=ha.rm;have:=ha.cn;omega
 clear h ha;go_in;go_wp2_with fail;refine cT.mono ?_;intro x w1 hq
 rcases hq with⟨hf,rfl,hb⟩|⟨hf,rfl,K1,ga,ca,gt,ct,fv,hp,ht⟩
 ·go_wp2_with fail;rw[HF];exact .inl ⟨hf,rfl,hb⟩
 ·have h1:=HH.toStJ.Qr hp ht;have ht1:=ht.mono (R':=sR) (fun r hr=>by unfold pR at hr;unfold sR;omega);have Sy:=Lib.hid hf;obtain⟨L1,hL1⟩:∃L1:SL,L1={L with ga:=ga,ca:=ca,gt:=gt,ct:=ct,fv:=fv}:=⟨_,rfl⟩;rw[←hL1]at h1;have EP:Hid (L1.cv=L.cv∧L1.ce=L.ce):=by rw[hL1];exact⟨rfl,rfl⟩
  have H1:=Lib.hid h1;have HT1:=Lib.hid ht1;clear h1 ht1 hp ht hf hL1 cT y1;go_wp2_with fail
  go_loopg [] (S.slot+1) (fun k wr=>∃(K':Nat→Nat)(L':SL)(CZ:Nat),StJ K' wr sb L' n room (S.add d) S.tab CZ S.dead ah ord∧aj sR K w K' wr∧S.cn≤CZ∧(CZ=S.cn∨CZ≤S.slot+1)∧(∀i,i<S.cn→L'.ce i=L.ce i)∧S.slot+1≤k+CZ)
  case atStart=>exact⟨K1,L1,S.cn,H1,HT1,Nat.le_refl _,.inl rfl,fun i _=>by rw[EP.2],by omega⟩
  case round=>
   obtain⟨K2,L2,Ef,h2,t2,hc1,hc2,hce,hk⟩:=hrel;have y3:wr.cell? ⟨sb,3,none⟩=some L2.cv:=au h2.row 3 rfl
   obtain⟨ao,cap,hcv⟩:∃ao cap,L2.cv=.slice ao Ef cap:=by
    rcases h2.cnt with⟨e1,e2⟩|⟨g,c,e1,-⟩
    ·exact⟨none,0,by rw[e1,e2]⟩
    ·exact⟨_,c,e1⟩
   have yz:=jv h2.row;have abQ:=aV h2.row;have H2:=Lib.hid h2;have T2:=Lib.hid t2;have Qv:=Lib.hid hce;have BD:=Lib.hid hcv;rw[hcv]at y3;clear h2 t2 hce hcv
   by_cases hlt:Ef≤S.slot
   ·have hlt1:(Ef:Int)≤(S.slot:Int):=by omega
    have hbig:Ef<1073741824:=by omega
    have hS2:Hid (∀o,Sl (wr.alloc o) 3 1 (.slice ao Ef cap) Ef (fun i=>[.int .i64 (L2.ce i)])):=fun o=>by have:=(H2.alloc o).cnt;rw[BD]at this;exact this
    have H2a:=H2
    go_wp2_with (at_builtin;refine aA _ rfl _ _ _ rfl jq rfl (hS2.out _) rfl (aL (by simp)) rfl (by simp[Value.oneCell']) hbig ?_;intro g2 c2 w2 hq2;rw[←BD]at hq2;have hs2:=(H2a.alloc _).app hq2 rfl;obtain⟨j1,j2,y3',yz'⟩:=hs2;rw[BD]at y3';have J1:=Lib.hid j1;have J2:=Lib.hid j2;clear hq2 j1 j2)
    have t3:=(T2.alloc (.cells #[.int .i64 0] 3)).trans (J2.mono (R':=sR) (fun r hr=>by unfold sR;omega))
    go_roundg (gk-1)
    case measure=>omega
    case rel=>exact⟨_,_,Ef+1,J1,t3,by omega,.inr (by omega),fun i hi=>by show(if i=Ef then _ else _)=_;rw[if_neg (by omega)];exact Qv i hi,by omega⟩
   ·have hlt1:¬(Ef:Int)≤(S.slot:Int):=by omega
    have hsi:(S.slot:Int)<(Ef:Int):=by omega
    obtain⟨g,c,Qw,hrw,hk2⟩:=H2.slR (by omega);obtain⟨s1,t4⟩:=H2.set1 Qw (show S.slot<Ef by omega) 0;obtain⟨s2,t5⟩:=s1.Qt (S.dead+1);rw[BD]at Qw;obtain rfl:ao=some ⟨g,0,none⟩:=by injection Qw
    have y4:wr.cell? ⟨sb,4,none⟩=some (.int .i64 S.dead):=au H2.row 4 rfl;have y2:wr.cell? ⟨sb,2,none⟩=some (.slice (some ⟨L2.kE,0,none⟩) n L2.qM):=au H2.row 2 rfl;obtain⟨u0,z0⟩:=hrw.some (fun _ _=>rfl) (j:=0) (show S.slot<Ef by omega) (by omega);simp only[Nat.mul_one,Nat.add_zero]at z0;have zf:=hrw.frozen S.slot;have hgs:g≠sb:=fun e=>by have:=H2.ks;rw[e]at hk2;omega
    have hgt:g≠L2.kE:=fun e=>by have:=H2.kt;rw[e]at hk2;omega
    have hts:L2.kE≠sb:=fun e=>by have:=H2.kt;have:=H2.ks;rw[e]at *;omega
    have yt:wr.cell? ⟨L2.kE,d.v,none⟩=some (.pointer (some ⟨L2.tb d.v,0,none⟩)):=by
     have:=H2.tabs.cell (i:=d.v) (j:=0) hv (by omega)
     simpa using this
    have hda:=HA.dead.1;have hdb:=HA.dead.2;have hvi:(d.v:Int)<(n:Int):=by omega
    have cP:=CB (s2.tab d.v hv) d.lo d.hi S.slot HA.lo HA.hi (by omega) HA.tab HA.few;have S2:=Lib.hid s2;have T5:=Lib.hid ((T2.trans (t4.mono (R':=sR) (fun r hr=>by unfold sR;omega))).trans (t5.mono (R':=sR) (fun r hr=>by unfold sR;omega)));clear s1 t4 s2 t5 Qw hrw hk2
    go_wp2_with (go_at_call 172;refine cP.mono ?_;rintro x w5 ⟨rfl,hp5,pV⟩)
    rw[HF];have s3:=S2.Qs hv hp5 pV;refine .inr ⟨Sy,rfl,K2,⟨{L2 with ce:=fun j=>if j=S.slot then 0 else L2.ce j},?_,?_⟩,T5.trans (pV.mono (fun r hr=>by unfold sR;omega))⟩
    ·rw[Qu];have:(S.add d).cn=Ef:=by show max S.cn (S.slot+1)=Ef;omega
     rw[this];exact s3
    ·intro i hi;show(if i=S.slot then(0:Int)else L2.ce i)=((Bd.set1 S.cnt S.slot 0 i:Nat):Int)
     by_cases e:i=S.slot
     ·rw[if_pos e,e,Bd.aC];rfl
     ·have hi':S.nd i≠none:=by simpa[Bd.St.add,Bd.set1,e]using hi
      rw[if_neg e,Bd.ak e,Qv i (HA.cnb i hi'),HH.Jr i hi']
section
/-- An edge that Mk takes. -/
def mkArg(S:Bd.St)(ah:Nat→Nat)(v e:Nat):Prop:=e<4611686018427387904∧Bd.und S.nd ah (ah v+1) e
def MkQ(K:Nat→Nat)(w:World)(sb n room:Nat)(S:Bd.St)(ah:Nat→Nat)(ord:List Nat)(v lo hi:Nat)(x:Ending)(w':World):Prop:=
 (S.takes v lo hi∧S.full room∧x=.returned (.tuple #[.int .i64 0,.int .i64 7])∧Below w.heap.size w w') ∨
 ((S.takes v lo hi→¬S.full room)∧x=.returned (.tuple #[.int .i64 ((S.mk' v lo hi).2:Nat),.int .i64 0])∧∃K',dG K' w' sb n room (S.mk' v lo hi).1 ah ord∧aj sR K w K' w')
section
variable {K:Nat→Nat} {w:World} {sb n room:Nat} {L:SL} {S:Bd.St} {ah:Nat→Nat} {ord:List Nat}
theorem Hz{v e:Nat}(h:mkArg S ah v e):((e/2==0)||(S.nd (e/2)).isSome)=true:=by
 rcases h.2 with h1|⟨d,h1,-⟩
 ·rw[h1];rfl
 ·rw[h1];simp
theorem H_{v e:Nat}(h:mkArg S ah v e):((e/2==0)||((S.nd (e/2)).isSome&&decide (ah v<ah (nV S (e/2)))))=true:=by
 rcases h.2 with h1|⟨d,h1,h2⟩
 ·rw[h1];rfl
 ·rw[(j5 h1).2.1,h1];simp;exact .inr (by omega)
theorem Qx(h:pF K w sb L n room S ah ord)(v lo hi:Nat)(hv:v<n)(hn:n≤1000000)(hlt:∀i d,S.nd i=some d→d.v<n)(hlv:∀v,v<n→ah v<1000000)(hl:mkArg S ah v lo)(hh:mkArg S ah v hi)
 (hid:∀a b i,S.tab v a b=some i→i≤1048577) (ha:S.takes v lo hi→C8 room S ⟨v,Bd.flip lo (Bd.odd hi),Bd.flip hi (Bd.odd hi)⟩) :
 Calls Tryz.prog 132 #[.pointer (some ⟨sb,0,none⟩),.int .i64 (v:Nat),.int .i64 (lo:Nat),.int .i64 (hi:Nat)] w (MkQ K w sb n room S ah ord v lo hi):=by
 obtain⟨F,HF⟩:=aJ (MkQ K w sb n room S ah ord v lo hi);rw[←HF];have HS:Hid (∀W,Below w.heap.size w W→pF K W sb L n room S ah ord):=fun W hb=>h.below hb;have abR:=hlv v hv;have hbr:Below w.heap.size w w:=Below.refl _ w;have rO:Hid (∀W W',Below W.heap.size W W'→Below w.heap.size w W→Below w.heap.size w W'):=fun W W' hb hb'=>hb'.trans (hb.mono hb'.size);have HL:Hid (∀W,Below w.heap.size w W→Calls Tryz.prog 87 #[.pointer (some ⟨sb,0,none⟩),.int .i64 (v:Nat)] W fun x w'=>x=.returned (.int .i64 (ah v:Nat))∧w'=W):=fun W hb=>lV (HS W hb) v hv hn;have HI1:Hid (∀W,Below w.heap.size w W→Calls Tryz.prog 114 #[.pointer (some ⟨sb,0,none⟩),.int .i64 (lo:Nat)] W fun x w'=>x=.returned (.bool true)∧Below W.heap.size W w'):=fun W hb=>by have:=qO (HS W hb) lo hl.1;rwa [Hz hl]at this
 have HI2:Hid (∀W,Below w.heap.size w W→Calls Tryz.prog 114 #[.pointer (some ⟨sb,0,none⟩),.int .i64 (hi:Nat)] W fun x w'=>x=.returned (.bool true)∧Below W.heap.size W w'):=fun W hb=>by have:=qO (HS W hb) hi hh.1;rwa [Hz hh]at this
 have HU1:Hid (∀W,Below w.heap.size w W→Calls Tryz.prog 157 #[.pointer (some ⟨sb,0,none⟩),.int .i64 (lo:Nat),.int .i64 (ah v:Nat)] W fun x w'=>x=.returned (.bool true)∧Below W.heap.size W w'):=fun W hb=>by have:=vU (HS W hb) hlt hn hlv lo (ah v) hl.1 (by omega);rwa [H_ hl]at this
 have Lr:Hid (∀W,Below w.heap.size w W→Calls Tryz.prog 157 #[.pointer (some ⟨sb,0,none⟩),.int .i64 (hi:Nat),.int .i64 (ah v:Nat)] W fun x w'=>x=.returned (.bool true)∧Below W.heap.size W w'):=fun W hb=>by have:=vU (HS W hb) hlt hn hlv hi (ah v) hh.1 (by omega);rwa [H_ hh]at this
 have HN:=fun W=>sH lo hi W hl.1 hh.1;have hvi:(v:Int)<(n:Int):=by omega
 have HA:=Lib.hid ha;have HID:=Lib.hid hid;have Uk:=Lib.hid (And.intro hl.1 hh.1);clear h hl hh ha hlt hlv hid;go_in
 by_cases he:lo=hi
 ·subst he
  go_wp2_with (first
   |(go_at_call 87;(with_reducible refine(HL.out _ ?_).mono ?_);(assumption);rintro x w3 ⟨rfl,hw3⟩;rw[hw3];clear hw3)
   |(go_at_call 114;(with_reducible refine(HI1.out _ ?_).mono ?_);(assumption);rintro x w3 ⟨rfl,hb3⟩;have hb4:=rO _ _ hb3 (by assumption);clear hb3)
   |(go_at_call 157;(with_reducible refine(HU1.out _ ?_).mono ?_);(assumption);rintro x w3 ⟨rfl,hb3⟩;have hb4:=rO _ _ hb3 (by assumption);clear hb3)
   |fail)
  rw[HF];have e9:S.mk' v lo lo=(S,lo):=by unfold Bd.St.mk';rw[if_pos rfl]
  refine .inr ⟨fun h=>absurd rfl h.1,by rw[e9];rfl,K,?_,aj.of_below (by assumption)⟩;rw[e9];exact⟨L,HS _ (by assumption)⟩
 ·have he1:((lo:Int)==(hi:Int))=false:=by simp;omega
  have h0:=HS w hbr;have y2:w.cell? ⟨sb,2,none⟩=some (.slice (some ⟨L.kE,0,none⟩) n L.qM):=au h0.row 2 rfl
  have yt:w.cell? ⟨L.kE,v,none⟩=some (.pointer (some ⟨L.tb v,0,none⟩)):=by
   have:=h0.tabs.cell (i:=v) (j:=0) hv (by omega)
   simpa using this
  have hsb:=aV h0.row;have hgt:=h0.tabs.lt;obtain⟨l,Ia⟩:=aJ (Bd.flip lo (Bd.odd hi));obtain⟨h,Ib⟩:=aJ (Bd.flip hi (Bd.odd hi));obtain⟨t,HT⟩:=aJ (Bd.odd hi);rw[←Ia,←Ib,←HT]at HN
  have hl4:l<4611686018427387904:=by
   rw[Ia];have:=Uk.1;have:=Bd.bH lo (Bd.odd hi);omega
  have hh4:h<4611686018427387904:=by
   rw[Ib];have:=Uk.2;have:=Bd.bH hi (Bd.odd hi);omega
  have HE:=Lib.hid he;clear h0 he
  cases ht:S.tab v l h with
  |some i=>
   have e9:S.mk' v lo hi=(S,Bd.edge i t):=by unfold Bd.St.mk';rw[if_neg HE.out,←Ia,←Ib,ht,←HT]
   have E9:=Lib.hid e9;have hi4:=HID _ _ _ ht;have cO:=fun W=>uI i t W (by omega)
   have HFd:Hid (∀W,Below w.heap.size w W→Calls Tryz.prog 159 #[.pointer (some ⟨L.tb v,0,none⟩),.int .i64 (l:Nat),.int .i64 (h:Nat)] W fun x w'=>x=.returned (.tuple #[.int .i64 (i:Nat),.bool true])∧w'=W):=fun W hb=>by
    have:=ou ((HS W hb).tab v hv) l h hl4 hh4
    rwa [ht]at this
   have uK:Hid (¬S.takes v lo hi):=fun h9=>by have:=h9.2;rw[←Ia,←Ib,ht]at this;cases this
   clear e9 ht
   go_wp2_with (first
   |(go_at_call 87;(with_reducible refine(HL.out _ ?_).mono ?_);(assumption);rintro x w3 ⟨rfl,hw3⟩;rw[hw3];clear hw3)
   |(go_at_call 114;(with_reducible refine(HI1.out _ ?_).mono ?_);(assumption);rintro x w3 ⟨rfl,hb3⟩;have hb4:=rO _ _ hb3 (by assumption);clear hb3)
   |(go_at_call 114;(with_reducible refine(HI2.out _ ?_).mono ?_);(assumption);rintro x w3 ⟨rfl,hb3⟩;have hb4:=rO _ _ hb3 (by assumption);clear hb3)
   |(go_at_call 157;(with_reducible refine(HU1.out _ ?_).mono ?_);(assumption);rintro x w3 ⟨rfl,hb3⟩;have hb4:=rO _ _ hb3 (by assumption);clear hb3)
   |(go_at_call 157;(with_reducible refine(Lr.out _ ?_).mono ?_);(assumption);rintro x w3 ⟨rfl,hb3⟩;have hb4:=rO _ _ hb3 (by assumption);clear hb3;obtain⟨bc,bf⟩:=bcl hb4;have hz4:=hb4.size)
   |(go_at_call 158;refine(HN _).mono ?_;rintro x w3 ⟨rfl,hw3⟩;rw[hw3];clear hw3)
   |(go_at_call 159;(with_reducible refine(HFd.out _ ?_).mono ?_);(assumption);rintro x w3 ⟨rfl,hw3⟩;rw[hw3];clear hw3)
   |(go_at_call 161;refine(cO _).mono ?_;rintro x w3 ⟨rfl,hw3⟩;rw[hw3];clear hw3)
   |fail)
   rw[HF];refine .inr ⟨fun h=>absurd h uK,by rw[E9];rfl,K,?_,aj.of_below (by assumption)⟩;rw[E9];exact⟨L,HS _ (by assumption)⟩
  |none=>
   have e9:S.mk' v lo hi=(S.add ⟨v,l,h⟩,Bd.edge S.slot t):=by unfold Bd.St.mk';rw[if_neg HE.out,←Ia,←Ib,ht,←HT]
   have E9:=Lib.hid e9;have uK:Hid (S.takes v lo hi):=⟨HE,by rw[←Ia,←Ib,ht]⟩
   have HFd:Hid (∀W,Below w.heap.size w W→Calls Tryz.prog 159 #[.pointer (some ⟨L.tb v,0,none⟩),.int .i64 (l:Nat),.int .i64 (h:Nat)] W fun x w'=>x=.returned (.tuple #[.int .i64 0,.bool false])∧w'=W):=fun W hb=>by
    have:=ou ((HS W hb).tab v hv) l h hl4 hh4
    rwa [ht]at this
   have hA:=HA uK;rw[←Ia,←Ib]at hA;have hs4:S.slot≤1048577:=by have:=hA.N;have:=hA.rm;have:=hA.sn;omega
   have cO:=fun W=>uI S.slot t W (by omega)
   have HAd:Hid (∀W,Below w.heap.size w W→Calls Tryz.prog 160 #[.pointer (some ⟨sb,0,none⟩),.int .i64 (v:Nat),.int .i64 (l:Nat),.int .i64 (h:Nat)] W (Uj K w sb n room S ah ord ⟨v,l,h⟩)):=fun W hb=>(C9 (HS W hb) ⟨v,l,h⟩ hv hn hA).mono fun x w' hq=>by
    rcases hq with⟨q1,q2,q3⟩|⟨q1,q2,K',q3,q4⟩
    ·exact .inl ⟨q1,q2,hb.trans (q3.mono hb.size)⟩
    ·exact .inr ⟨q1,q2,K',q3,(aj.of_below hb).trans q4⟩
   clear e9 ht hA
   go_wp2_with (first
   |(go_at_call 87;(with_reducible refine(HL.out _ ?_).mono ?_);(assumption);rintro x w3 ⟨rfl,hw3⟩;rw[hw3];clear hw3)
   |(go_at_call 114;(with_reducible refine(HI1.out _ ?_).mono ?_);(assumption);rintro x w3 ⟨rfl,hb3⟩;have hb4:=rO _ _ hb3 (by assumption);clear hb3)
   |(go_at_call 114;(with_reducible refine(HI2.out _ ?_).mono ?_);(assumption);rintro x w3 ⟨rfl,hb3⟩;have hb4:=rO _ _ hb3 (by assumption);clear hb3)
   |(go_at_call 157;(with_reducible refine(HU1.out _ ?_).mono ?_);(assumption);rintro x w3 ⟨rfl,hb3⟩;have hb4:=rO _ _ hb3 (by assumption);clear hb3)
   |(go_at_call 157;(with_reducible refine(Lr.out _ ?_).mono ?_);(assumption);rintro x w3 ⟨rfl,hb3⟩;have hb4:=rO _ _ hb3 (by assumption);clear hb3;obtain⟨bc,bf⟩:=bcl hb4;have hz4:=hb4.size)
   |(go_at_call 158;refine(HN _).mono ?_;rintro x w3 ⟨rfl,hw3⟩;rw[hw3];clear hw3)
   |(go_at_call 159;(with_reducible refine(HFd.out _ ?_).mono ?_);(assumption);rintro x w3 ⟨rfl,hw3⟩;rw[hw3];clear hw3)
   |fail)
   refine(HAd _ (by assumption)).mono ?_;intro x w9 hq
   rcases hq with⟨q1,rfl,q3⟩|⟨q1,rfl,K',q3,q4⟩
   ·go_wp2_with fail;rw[HF];exact .inl ⟨uK,q1,rfl,q3⟩
   ·have Q1:=Lib.hid q1;have Q3:=Lib.hid q3;have Q4:=Lib.hid q4;clear q1 q3 q4
    go_wp2_with (go_at_call 161;refine(cO _).mono ?_;rintro x w3 ⟨rfl,hw3⟩;rw[hw3];clear hw3)
    rw[HF];refine .inr ⟨fun _=>Q1,by rw[E9];rfl,K',?_,Q4⟩;rw[E9];exact Q3
end
end
section
/-- A store with other counts. -/
def gV(S:Bd.St)(c:Nat→Nat)(x:Int):Bd.St:={S with cnt:=c,dead:=x}
/-- What the walk down asks of the store. -/
structure kF(m:Nat)(S:Bd.St)(lv:Nat→Nat)(good:Nat→Prop):Prop where
 wf:Bd.Wf m S.nd lv good
 N:∀i,S.nd i≠none→i<S.N
 cn:∀i,S.nd i≠none→i<S.cn
 big:S.N≤1048577
 ed:∀i d,S.nd i=some d→d.lo<4611686018427387904∧d.hi<4611686018427387904
def Ic(K:Nat→Nat)(w:World)(sb n room:Nat)(S':Bd.St)(ah:Nat→Nat)(ord:List Nat)(r:Ending)(w':World):Prop:=r=.returned (.tuple #[])∧∃K',dG K' w' sb n room S' ah ord∧aj sR K w K' w'
section
variable {sb n room m B:Nat} {S:Bd.St} {ah lv:Nat→Nat} {good:Nat→Prop} {ord:List Nat}
theorem StJ.Ie{K:Nat→Nat}{w:World}{L:SL}{c c':Nat→Nat}{x x':Int}{tab:Nat→Nat→Nat→Option Nat}{cn:Nat}{dead:Int}(h:StJ K w sb L n room (gV S c x) tab cn dead ah ord):StJ K w sb L n room (gV S c' x') tab cn dead ah ord:=
 ⟨h.row,h.iE,h.vars,h.level,⟨h.pool.row,h.pool.b,h.pool.big,h.pool.nz,h.pool.kp⟩,h.tabs,h.tab,h.cnt,h.ks,h.kl,h.kv,h.ke,h.kt,h.kc⟩
theorem Ig{K:Nat→Nat}{w:World}{S':Bd.St}(e:Nat)(he:e<4611686018427387904)(h0:e/2=0)(h:dG K w sb n room S' ah ord):Calls Tryz.prog 171 #[.pointer (some ⟨sb,0,none⟩),.int .i64 (e:Nat)] w (Ic K w sb n room S' ah ord):=by
 have cN:=fun w=>fA e w he;rw[h0]at cN;have HH:=Lib.hid h;clear h h0;go_in
 go_wp2_with (go_at_call 108;refine(cN _).mono ?_;rintro x w3 ⟨rfl,hw3⟩;rw[hw3];clear hw3)
 refine bodyPost_ret (results_none rfl _ _ _) rfl ?_;exact⟨rfl,K,HH,aj.refl⟩
theorem sI(hd0:kF m S lv good)(hB:B≤1000000000000):∀(k e:Nat)(c:Nat→Nat)(x:Int)(ext:Nat→Int)(K:Nat→Nat)(w:World),Bd.at_ m S.nd lv good k e→Bd.CI S.N S.nd c x ext→(∀i,ext i+k≤B)→e<4611686018427387904→dG K w sb n room (gV S c x) ah ord →
 Calls Tryz.prog 171 #[.pointer (some ⟨sb,0,none⟩),.int .i64 (e:Nat)] w (Ic K w sb n room (gV S (Bd.bD S.nd k c x e).1 (Bd.bD S.nd k c x e).2) ah ord):=by
 intro k
 induction k with
 |zero=>
  intro e c x ext K w ha hc hb he h;have h0:=Bd.uD hd0.wf ha;rw[Bd.yh (by rw[h0];exact hd0.wf.n0)];exact Ig e he h0 h
 |succ k ih=>
  intro e c x ext K w ha hc hb he h
  rcases Bd.oh hd0.wf ha with h0|⟨d,hd,hself,hal,hah⟩
  ·rw[Bd.yh (by rw[h0];exact hd0.wf.n0)];exact Ig e he h0 h
  ·obtain⟨L,hL⟩:=h;have hdn:S.nd (e/2)≠none:=by rw[hd];simp
   have Xv:=hd0.N _ hdn;have Af:=hd0.cn _ hdn;have hci:=hc.Ms hdn;have hbi:=hb (e/2);have xB:=hc.zQ;have hbig:=hd0.big;obtain⟨i,HI⟩:=aJ (e/2);have hi0:i≠0:=fun h9=>by rw[←HI,h9,hd0.wf.n0]at hd;cases hd
   have cN:=fun w=>fA e w he;rw[←HI]at cN hd hdn Xv Af hci hbi hself;have hi1:((i:Int)==0)=false:=by simp;omega
   obtain⟨g,cp,hcv,hrw,hkg⟩:=hL.slR (by show 0<S.cn;omega);have y3:w.cell? ⟨sb,3,none⟩=some (.slice (some ⟨g,0,none⟩) S.cn cp):=(au hL.row 3 rfl).trans (by rw[hcv];rfl);have y4:w.cell? ⟨sb,4,none⟩=some (.int .i64 x):=au hL.row 4 rfl;have y1:w.cell? ⟨sb,1,none⟩=some (.pointer (some ⟨L.pb,0,none⟩)):=au hL.row 1 rfl;have yz:=jv hL.row;have hce:L.ce i=c i:=hL.Jr i hdn;have z0:=hrw.cell (i:=i) (j:=0) (show i<S.cn from Af) (by omega);simp only[Nat.mul_one,Nat.add_zero,List.getElem?_cons_zero,hce]at z0;have zf:=hrw.frozen i;have hgs:g≠sb:=fun e=>by have:=hL.ks;rw[e]at hkg;omega
   have hsb:=aV hL.row;have hcb:(c i:Int)≤1000003000000:=by omega
   have hii:(i:Int)<(S.cn:Int):=by omega
   have HL:=Lib.hid hL;have HC:=Lib.hid hc;have HD:=Lib.hid hd;have HSF:=Lib.hid hself;have Ah:=Lib.hid hal;have HAH:=Lib.hid hah;have mU:=Lib.hid hb;have pW:=Lib.hid ih;have HD0:=Lib.hid hd0;have BD:=Lib.hid hcv;have HDN:=Lib.hid hdn;clear hL hc hd hself hal hah hb ih hd0 hrw hce hcv hdn hi0
   by_cases hz:0<c i
   ·have hmo:Bd.bD S.nd (k+1) c x e=(Bd.set1 c i (c i+1),x):=by have:=Bd.Mt (x:=x) (k:=k) (e:=e) (c:=c) (by rw[←HI];exact HD) (by rw[←HI];exact hz);rwa [←HI]at this
    have Ul:=Lib.hid hmo;have hz1:(1:Int)<(c i:Int)+1:=by omega
    obtain⟨s1,t1⟩:=HL.toStJ.set1 BD (show i<(gV S c x).cn from Af) ((c i:Int)+1);have S1:=Lib.hid s1;have T1:=Lib.hid t1;clear hmo s1 t1 hz;go_in
    go_wp2_with (go_at_call 108;refine(cN _).mono ?_;rintro x w3 ⟨rfl,hw3⟩;rw[hw3];clear hw3)
    refine bodyPost_ret (results_none rfl _ _ _) rfl ?_;refine⟨rfl,K,?_,T1.mono (fun r hr=>by unfold sR;omega)⟩;rw[Ul];refine⟨_,S1.Ie,fun j hj=>?_⟩;show(if j=i then _ else L.ce j)=((Bd.set1 c i (c i+1) j:Nat):Int)
    by_cases e9:j=i
    ·rw[if_pos e9,e9,Bd.aC];omega
    ·rw[if_neg e9,Bd.ak e9];exact HL.Jr j hj
   ·have hz0:c i=0:=by omega
    have hmo:Bd.bD S.nd (k+1) c x e=Bd.bD S.nd k (Bd.bD S.nd k (Bd.set1 c i 1) (x-1) d.lo).1 (Bd.bD S.nd k (Bd.set1 c i 1) (x-1) d.lo).2 d.hi:=by have:=Bd.Mv (x:=x) (k:=k) (e:=e) (c:=c) (by rw[←HI];exact HD) (by rw[←HI];exact hz0);rwa [←HI]at this
    have hc1:=Bd.CI.Xf HD0.wf HD0.N (by rw[←HI];exact HD) (by rw[←HI];exact HSF) (by rw[←HI];exact hz0) HC;rw[←HI]at hc1;have hc2:=Bd.CI.more HD0.wf HD0.N k d.lo _ _ _ Ah hc1;have Ul:=Lib.hid hmo;have z0':w.cell? ⟨g,i,none⟩=some (.int .i64 0):=by rw[z0,hz0];rfl
    clear z0;obtain⟨s1,t1⟩:=HL.toStJ.set1 BD (show i<(gV S c x).cn from Af) 1;obtain⟨s2,t2⟩:=s1.Qt (x-1)
    have s3:pF K ((w.setCell ⟨g,i,none⟩ (.int .i64 1)).setCell ⟨sb,4,none⟩ (.int .i64 (x-1))) sb {L with ce:=fun j=>if j=i then 1 else L.ce j} n room (gV S (Bd.set1 c i 1) (x-1)) ah ord:=⟨s2.Ie,fun j hj=>by
     show(if j=i then _ else L.ce j)=((Bd.set1 c i 1 j:Nat):Int)
     by_cases e9:j=i
     ·rw[if_pos e9,e9,Bd.aC];omega
     ·rw[if_neg e9,Bd.ak e9];exact HL.Jr j hj⟩
    obtain⟨W1,hW1⟩:=wX ((w.setCell ⟨g,i,none⟩ (.int .i64 1)).setCell ⟨sb,4,none⟩ (.int .i64 (x-1)));rw[←hW1]at s3 t2;have T1:=Lib.hid ((t1.mono (R':=sR) (fun r hr=>by unfold sR;omega)).trans (t2.mono (R':=sR) (fun r hr=>by unfold sR;omega)));have w1:W1.cell? ⟨sb,1,none⟩=some (.pointer (some ⟨L.pb,0,none⟩)):=au s3.row 1 rfl;have cA:=jL s3.pool i (by omega);rw[show(gV S (Bd.set1 c i 1) (x-1)).nd=S.nd from rfl]at cA;obtain⟨n1,n2,n3,n4,n5⟩:=j5 (S:=gV S (Bd.set1 c i 1) (x-1)) HD;rw[n3,n4]at cA;have S3:=Lib.hid s3;have HW1:=Lib.hid hW1;have Xw:=Lib.hid (HD0.ed _ _ HD);have EP:=Lib.hid hc1;have um:=Lib.hid hc2;have HO:=Lib.hid (And.intro (Bd.one_le e) (And.intro (Bd.one_nonneg d.lo) (Bd.one_nonneg d.hi)));clear hmo hc1 hc2 s1 t1 s2 t2 s3 hW1 hz hz0 hcb hci n1 n2 n3 n4 n5
    generalize nI (gV S (Bd.set1 c i 1) (x-1)) i=m0 at cA
    generalize nV (gV S (Bd.set1 c i 1) (x-1)) i=m1 at cA
    generalize nR (gV S (Bd.set1 c i 1) (x-1)) i=m4 at cA
    go_in
    go_upto_region 5 with(go_at_call 108;refine(cN _).mono ?_;rintro x w3 ⟨rfl,hw3⟩;rw[hw3];clear hw3)
    rw[←HW1];clear y1 y3 y4 yz z0' zf
    go_wp2_with (go_at_call 123;refine cA.mono ?_;rintro x w3 ⟨rfl,hb3⟩;have HB3:=Lib.hid hb3;clear hb3)
    obtain⟨b,Um⟩:=aJ w3.heap.size;obtain⟨W5,mV⟩:=wX (w3.alloc (.cells #[.int .i64 (m0:Nat),.int .i64 (m1:Nat),.int .i64 (d.lo:Nat),.int .i64 (d.hi:Nat),.int .i64 (m4:Nat)] 171));have hx5:=JF mV Um;have hb5:=jU mV;rw[←mV,←Um];clear mV;have tb:aj (fun _=>False) K W1 (bJ K b 0) W5:=(aj.of_below (HB3.trans (hb5.mono HB3.size))).new (by rw[Um];exact HB3.size);have hs5:=S3.aG tb (fun _ h=>h.elim);have hkb:bJ K b 0 b=0:=aW _ _ _;refine(pW d.lo _ _ _ (bJ K b 0) W5 Ah EP (fun j=>?_) Xw.1 ⟨_,hs5⟩).mono ?_
    ·have:=mU j;have:=Bd.one_le e j;have:=Bd.one_nonneg d.lo j;have:=Bd.one_nonneg d.hi j;omega
    rintro r w6 ⟨rfl,K2,hs6,ow⟩;have hx6:=ow.obj hx5.out (by rw[hkb];unfold sR;omega);have x3:w6.cell? ⟨b,3,none⟩=some (.int .i64 (d.hi:Nat)):=au hx6 3 rfl;have hlb:=aV hx6;have S6:=Lib.hid hs6;have T6:=Lib.hid ((T1.trans (tb.mono (R':=sR) (fun r h=>h.elim))).trans ow);clear hx6 hs6 ow hs5 tb hb5;go_wp2_with fail;refine(pW d.hi _ _ _ K2 w6 HAH um (fun j=>?_) Xw.2 S6).mono ?_
    ·have:=mU j;have:=Bd.one_le e j;have:=Bd.one_nonneg d.lo j;have:=Bd.one_nonneg d.hi j;omega
    rintro r w7 ⟨rfl,K3,hs7,gH⟩;have S7:=Lib.hid hs7;have T7:=Lib.hid (T6.trans gH);clear hs7 gH x3;go_wp2_with fail;refine bodyPost_ret (results_none rfl _ _ _) rfl ?_;refine⟨rfl,K3,?_,T7⟩;rw[Ul];exact S7
end
end
section
section
variable {sb n room m B:Nat} {S:Bd.St} {ah lv:Nat→Nat} {good:Nat→Prop} {ord:List Nat}
theorem Ih{K:Nat→Nat}{w:World}{S':Bd.St}(e:Nat)(he:e<4611686018427387904)(h0:e/2=0)(h:dG K w sb n room S' ah ord):Calls Tryz.prog 125 #[.pointer (some ⟨sb,0,none⟩),.int .i64 (e:Nat)] w (Ic K w sb n room S' ah ord):=by
 have cN:=fun w=>fA e w he;rw[h0]at cN;have HH:=Lib.hid h;clear h h0;go_in
 go_wp2_with (go_at_call 108;refine(cN _).mono ?_;rintro x w3 ⟨rfl,hw3⟩;rw[hw3];clear hw3)
 refine bodyPost_ret (results_none rfl _ _ _) rfl ?_;exact⟨rfl,K,HH,aj.refl⟩
theorem sJ(hd0:kF m S lv good)(hB:B≤1000000000000):∀(k e:Nat)(c:Nat→Nat)(x:Int)(ext:Nat→Int)(K:Nat→Nat)(w:World),Bd.at_ m S.nd lv good k e→Bd.CI S.N S.nd c x ext→(∀i,ext i+2*k≤B)→(∀i,0≤ext i)→(S.nd (e/2)≠none→1≤ext (e/2))→e<4611686018427387904→dG K w sb n room (gV S c x) ah ord →
 Calls Tryz.prog 125 #[.pointer (some ⟨sb,0,none⟩),.int .i64 (e:Nat)] w (Ic K w sb n room (gV S (Bd.bU S.nd k c x e).1 (Bd.bU S.nd k c x e).2) ah ord):=by
 intro k
 induction k with
 |zero=>
  intro e c x ext K w ha hc hb hx hx1 he h;have h0:=Bd.uD hd0.wf ha;rw[Bd.yj (by rw[h0];exact hd0.wf.n0)];exact Ih e he h0 h
 |succ k ih=>
  intro e c x ext K w ha hc hb hx hx1 he h
  rcases Bd.oh hd0.wf ha with h0|⟨d,hd,hself,hal,hah⟩
  ·rw[Bd.yj (by rw[h0];exact hd0.wf.n0)];exact Ih e he h0 h
  ·obtain⟨L,hL⟩:=h;have hdn:S.nd (e/2)≠none:=by rw[hd];simp
   have Xv:=hd0.N _ hdn;have Af:=hd0.cn _ hdn;have hci:=hc.Ms hdn;have hbi:=hb (e/2);have xB:=hc.zQ;have hbig:=hd0.big;have hxe:=hx1 hdn;have hge:=hc.ge1 hdn hxe;have hll:=Bd.CI.Qa hx (d:=d) hxe;obtain⟨i,HI⟩:=aJ (e/2);have hi0:i≠0:=fun h9=>by rw[←HI,h9,hd0.wf.n0]at hd;cases hd
   have cN:=fun w=>fA e w he;rw[←HI]at cN hd hdn Xv Af hci hbi hself hge;have hi1:((i:Int)==0)=false:=by simp;omega
   obtain⟨g,cp,hcv,hrw,hkg⟩:=hL.slR (by show 0<S.cn;omega);have y3:w.cell? ⟨sb,3,none⟩=some (.slice (some ⟨g,0,none⟩) S.cn cp):=(au hL.row 3 rfl).trans (by rw[hcv];rfl);have y4:w.cell? ⟨sb,4,none⟩=some (.int .i64 x):=au hL.row 4 rfl;have y1:w.cell? ⟨sb,1,none⟩=some (.pointer (some ⟨L.pb,0,none⟩)):=au hL.row 1 rfl;have yz:=jv hL.row;have hce:L.ce i=c i:=hL.Jr i hdn;have z0:=hrw.cell (i:=i) (j:=0) (show i<S.cn from Af) (by omega);simp only[Nat.mul_one,Nat.add_zero,List.getElem?_cons_zero,hce]at z0;have zf:=hrw.frozen i;have hgs:g≠sb:=fun e=>by have:=hL.ks;rw[e]at hkg;omega
   have hsb:=aV hL.row;have hcb:(c i:Int)≤1000003000000:=by omega
   have hii:(i:Int)<(S.cn:Int):=by omega
   have HL:=Lib.hid hL;have HC:=Lib.hid hc;have HD:=Lib.hid hd;have HSF:=Lib.hid hself;have Ah:=Lib.hid hal;have HAH:=Lib.hid hah;have mU:=Lib.hid hb;have pW:=Lib.hid ih;have HD0:=Lib.hid hd0;have BD:=Lib.hid hcv;have HDN:=Lib.hid hdn;have Wv:=Lib.hid hll;have HX:=Lib.hid hx;have HXE:=Lib.hid hxe;clear hL hc hd hself hal hah hb ih hd0 hrw hce hcv hdn hi0 hll hx hxe hx1
   by_cases hz:1<c i
   ·have hmo:Bd.bU S.nd (k+1) c x e=(Bd.set1 c i (c i-1),x):=by have:=Bd.Mw (x:=x) (k:=k) (e:=e) (c:=c) (by rw[←HI];exact HD) (by rw[←HI];exact hz);rwa [←HI]at this
    have Ul:=Lib.hid hmo;have hz1:(0:Int)<(c i:Int)-1:=by omega
    obtain⟨s1,t1⟩:=HL.toStJ.set1 BD (show i<(gV S c x).cn from Af) ((c i:Int)-1);have S1:=Lib.hid s1;have T1:=Lib.hid t1;clear hmo s1 t1 hz hge;go_in
    go_wp2_with (go_at_call 108;refine(cN _).mono ?_;rintro x w3 ⟨rfl,hw3⟩;rw[hw3];clear hw3)
    refine bodyPost_ret (results_none rfl _ _ _) rfl ?_;refine⟨rfl,K,?_,T1.mono (fun r hr=>by unfold sR;omega)⟩;rw[Ul];refine⟨_,S1.Ie,fun j hj=>?_⟩;show(if j=i then _ else L.ce j)=((Bd.set1 c i (c i-1) j:Nat):Int)
    by_cases e9:j=i
    ·rw[if_pos e9,e9,Bd.aC];omega
    ·rw[if_neg e9,Bd.ak e9];exact HL.Jr j hj
   ·have hz0:c i=1:=by omega
    have hmo:Bd.bU S.nd (k+1) c x e=Bd.bU S.nd k (Bd.bU S.nd k (Bd.set1 c i 0) (x+1) d.lo).1 (Bd.bU S.nd k (Bd.set1 c i 0) (x+1) d.lo).2 d.hi:=by have:=Bd.Mx (x:=x) (k:=k) (e:=e) (c:=c) (by rw[←HI];exact HD) (by rw[←HI];exact hz0);rwa [←HI]at this
    have hc1:=Bd.CI.Xg HD0.wf HD0.N (by rw[←HI];exact HD) (by rw[←HI];exact HSF) (by rw[←HI];exact hz0) HC;rw[←HI]at hc1;have hc2:=Bd.CI.less HD0.wf HD0.N k d.lo _ _ _ Ah Wv.1 (fun _=>Wv.2.1) hc1;have Ul:=Lib.hid hmo;have z0':w.cell? ⟨g,i,none⟩=some (.int .i64 1):=by rw[z0,hz0];rfl
    clear z0;obtain⟨s1,t1⟩:=HL.toStJ.set1 BD (show i<(gV S c x).cn from Af) 0;obtain⟨s2,t2⟩:=s1.Qt (x+1)
    have s3:pF K ((w.setCell ⟨g,i,none⟩ (.int .i64 0)).setCell ⟨sb,4,none⟩ (.int .i64 (x+1))) sb {L with ce:=fun j=>if j=i then 0 else L.ce j} n room (gV S (Bd.set1 c i 0) (x+1)) ah ord:=⟨s2.Ie,fun j hj=>by
     show(if j=i then _ else L.ce j)=((Bd.set1 c i 0 j:Nat):Int)
     by_cases e9:j=i
     ·rw[if_pos e9,e9,Bd.aC];omega
     ·rw[if_neg e9,Bd.ak e9];exact HL.Jr j hj⟩
    obtain⟨W1,hW1⟩:=wX ((w.setCell ⟨g,i,none⟩ (.int .i64 0)).setCell ⟨sb,4,none⟩ (.int .i64 (x+1)));rw[←hW1]at s3 t2;have T1:=Lib.hid ((t1.mono (R':=sR) (fun r hr=>by unfold sR;omega)).trans (t2.mono (R':=sR) (fun r hr=>by unfold sR;omega)));have w1:W1.cell? ⟨sb,1,none⟩=some (.pointer (some ⟨L.pb,0,none⟩)):=au s3.row 1 rfl;have cA:=jL s3.pool i (by omega);rw[show(gV S (Bd.set1 c i 0) (x+1)).nd=S.nd from rfl]at cA;obtain⟨n1,n2,n3,n4,n5⟩:=j5 (S:=gV S (Bd.set1 c i 0) (x+1)) HD;rw[n3,n4]at cA;have S3:=Lib.hid s3;have HW1:=Lib.hid hW1;have Xw:=Lib.hid (HD0.ed _ _ HD);have EP:=Lib.hid hc1;have um:=Lib.hid hc2;have HO:=Lib.hid (And.intro (Bd.one_le e) (And.intro (Bd.one_nonneg d.lo) (Bd.one_nonneg d.hi)));clear hmo hc1 hc2 s1 t1 s2 t2 s3 hW1 hz hz0 hge hcb hci n1 n2 n3 n4 n5
    generalize nI (gV S (Bd.set1 c i 0) (x+1)) i=m0 at cA
    generalize nV (gV S (Bd.set1 c i 0) (x+1)) i=m1 at cA
    generalize nR (gV S (Bd.set1 c i 0) (x+1)) i=m4 at cA
    go_in
    go_upto_region 5 with(go_at_call 108;refine(cN _).mono ?_;rintro x w3 ⟨rfl,hw3⟩;rw[hw3];clear hw3)
    rw[←HW1];clear y1 y3 y4 yz z0' zf
    go_wp2_with (go_at_call 123;refine cA.mono ?_;rintro x w3 ⟨rfl,hb3⟩;have HB3:=Lib.hid hb3;clear hb3)
    obtain⟨b,Um⟩:=aJ w3.heap.size;obtain⟨W5,mV⟩:=wX (w3.alloc (.cells #[.int .i64 (m0:Nat),.int .i64 (m1:Nat),.int .i64 (d.lo:Nat),.int .i64 (d.hi:Nat),.int .i64 (m4:Nat)] 171));have hx5:=JF mV Um;have hb5:=jU mV;rw[←mV,←Um];clear mV;have tb:aj (fun _=>False) K W1 (bJ K b 0) W5:=(aj.of_below (HB3.trans (hb5.mono HB3.size))).new (by rw[Um];exact HB3.size);have hs5:=S3.aG tb (fun _ h=>h.elim);have hkb:bJ K b 0 b=0:=aW _ _ _;refine(pW d.lo _ _ _ (bJ K b 0) W5 Ah EP (fun j=>?_) Wv.1 (fun _=>Wv.2.1) Xw.1 ⟨_,hs5⟩).mono ?_
    ·have:=mU j;have:=Bd.one_nonneg e j;have:=Bd.one_le d.lo j;have:=Bd.one_le d.hi j;have:=Bd.one_nonneg d.lo j;omega
    rintro r w6 ⟨rfl,K2,hs6,ow⟩;have hx6:=ow.obj hx5.out (by rw[hkb];unfold sR;omega);have x3:w6.cell? ⟨b,3,none⟩=some (.int .i64 (d.hi:Nat)):=au hx6 3 rfl;have hlb:=aV hx6;have S6:=Lib.hid hs6;have T6:=Lib.hid ((T1.trans (tb.mono (R':=sR) (fun r h=>h.elim))).trans ow);clear hx6 hs6 ow hs5 tb hb5;go_wp2_with fail;refine(pW d.hi _ _ _ K2 w6 HAH um (fun j=>?_) Wv.2.2.1 (fun _=>Wv.2.2.2) Xw.2 S6).mono ?_
    ·have:=mU j;have:=Bd.one_nonneg e j;have:=Bd.one_le d.lo j;have:=Bd.one_le d.hi j;have:=Bd.one_nonneg d.lo j;omega
    rintro r w7 ⟨rfl,K3,hs7,gH⟩;have S7:=Lib.hid hs7;have T7:=Lib.hid (T6.trans gH);clear hs7 gH x3;go_wp2_with fail;refine bodyPost_ret (results_none rfl _ _ _) rfl ?_;refine⟨rfl,K3,?_,T7⟩;rw[Ul];exact S7
end
end
end Go.Proofs.YtpijlhlpejlhhaaGreat
