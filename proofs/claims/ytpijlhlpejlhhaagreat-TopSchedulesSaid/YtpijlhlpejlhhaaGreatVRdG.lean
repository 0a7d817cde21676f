/- Walk: the law's Build. -/
import Derived.Test.YtpijlhlpejlhhaaGreatVRdC
namespace Go.Proofs.YtpijlhlpejlhhaaGreat
open Go.RowKit
set_option linter.unusedVariables false
set_option maxRecDepth 100000
set_option maxHeartbeats 16000000
/-- A handle for an expression. -/
def uq(K:Nat→Nat)(w:World)(p n room:Nat)(M:Bd.MS)(hs:List (Nat×Bd.BF))(ψ:Bd.BF)(c:Nat)(r:Ending)(w':World):Prop:=
 ∃h M' K',r=.returned (.tuple #[.int .i64 (h:Nat),.bool true])∧Cli n room M' ((h,ψ)::hs)∧aX K' w' p n room M'∧aj mX K w K' w'∧M'.next≤M.next+c∧∃l,M.waits=l++M'.waits
/-- The arguments are as they came in,and no part of the manager. -/
structure mD(w0:World)(K:Nat→Nat)(w:World):Prop where
 b:Below w0.heap.size w0 w
 k:∀q,q<w0.heap.size→K q=0
theorem mD.aG{w0 w w':World}{K K':Nat→Nat}(h:mD w0 K w)(t:aj mX K w K' w'):mD w0 K' w':=by
 refine⟨h.b.trans (t.only.below (fun q hq=>?_) h.b.size),fun q hq=>?_⟩
 ·rcases Nat.lt_or_ge q w0.heap.size with h9|h9
  ·rw[h.k q h9]at hq;exact absurd hq Kn
  ·exact h9
 ·rw[t.ext q (Nat.lt_of_lt_of_le hq h.b.size)];exact h.k q hq
theorem OU{α:Type}:∀{l:List α},l.length=2→∃x y,l=[x,y]
 |[x,y],_=>⟨x,y,rfl⟩
theorem OV{α:Type}:∀{l:List α},l.length=3→∃x y z,l=[x,y,z]
 |[x,y,z],_=>⟨x,y,z,rfl⟩
theorem Zc{α:Type}(x y z u:α)(l:List α):(x::y::z::u::l).Perm ([u,z,y]++x::l):=by
 show(x::y::z::u::l).Perm (u::z::y::x::l)
 have h1:(x::y::z::u::l).Perm (u::x::y::z::l):=by
  have:(x::y::z::u::l).Perm ([x,y,z]++u::l):=List.Perm.refl _;exact this.trans List.perm_middle
 exact h1.trans ((zu x y z l).cons u)
theorem DX{w:World}{x y z g:Nat}(h:w.heap[g]?=some (.cells #[.int .i64 (x:Nat),.int .i64 (y:Nat),.int .i64 (z:Nat)] 3 (0,0))):av w (.slice (some ⟨g,0,none⟩) 3 3) [x,y,z]:=by
 refine .inr ⟨g,3,rfl,⟨_,h,by simp,fun i hi j hj=>?_⟩,Nat.le_refl _⟩;obtain rfl:j=0:=by omega
 simp only[List.length_cons,List.length_nil,Nat.zero_add,Nat.reduceAdd]at hi
 rcases(show i=0∨i=1∨i=2 by omega)with rfl|rfl|rfl<;>rfl
/-- A client's own box stays. -/
theorem uP{w w':World}{K K':Nat→Nat}{b:Nat}{o:Obj}(h:w.heap[b]?=some o)(hk:K b=0)(t:aj mX K w K' w'):w'.heap[b]?=some o∧K' b=0:=
 ⟨t.obj h (by rw[hk];exact Kn),by rw[t.role h];exact hk⟩
section
variable {p n room:Nat} {w0:World}
theorem nX{K:Nat→Nat}{w:World}{M:Bd.MS}{hs:List (Nat×Bd.BF)}{ψ:Bd.BF}{f:Nat}{va:Array Value}(c:Calls Tryz.prog f va w (xH K w p n room M ψ))(h:Cli n room M hs):Calls Tryz.prog f va w (Gl K w p n room M hs ψ):=c.mono (fun r w' g=>g.cli h)
theorem Gm(h0:0<n)(hn:n≤64)(hrm:room≤1048576):∀(s:Nat)(A:Option Addr)(c:Nat)(e:Ex)(w:World)(K:Nat→Nat)(M:Bd.MS)(hs:List (Nat×Bd.BF)),e.size≤s→s≤100→e.o_→e.Cv n→BK w0 A c e→mD w0 K w→Cli n room M hs→M.next+8*e.size≤900000000→(hs.length+e.size+10)*2^n≤room→aX K w p n room M →
 Calls Tryz.prog 37 #[.pointer (some ⟨p,0,none⟩),dz A c e] w (uq K w p n room M hs e.val (8*e.size-4)):=by
 intro s
 induction s with
 |zero=>intro A c e w K M hs h;have:=e.size_pos;omega
 |succ s ih=>
  intro A c e w K M hs hsz hsb hok oQ he hak hcl hnx hroom hm;obtain⟨F,HF⟩:=aJ (uq K w p n room M hs e.val (8*e.size-4));rw[←HF.out];obtain⟨m,hme⟩:∃m,m=e.kids.length:=⟨_,rfl⟩;obtain⟨op,hop⟩:∃op,op=e.op:=⟨_,rfl⟩;obtain⟨vr,mK⟩:∃vr,vr=e.var:=⟨_,rfl⟩;have hval:dz A c e=.agg #[.int .i64 op,.int .i64 vr,.slice A m c]:=by unfold dz bN;rw[hme,hop,mK]
  rw[hval]
  have hml:m≤100:=by
   have h1:=Bd.Ex.iR e.kids;have h2:=e.size_eq;omega
  obtain⟨W1,hW1⟩:∃W1,W1=w.alloc (.cells #[.int .i64 op,.int .i64 vr,.slice A m c] 75):=⟨_,rfl⟩;obtain⟨bx,hbx⟩:∃bx,bx=w.heap.size:=⟨_,rfl⟩;have hx1:W1.heap[bx]?=some (.cells #[.int .i64 op,.int .i64 vr,.slice A m c] 75 (0,0)):=by rw[hW1,hbx];exact heap_alloc_new _ _
  obtain⟨hm1,ht1⟩:=bG hm hW1;obtain⟨K1,hK1⟩:∃K1,K1=bJ K w.heap.size 0:=⟨_,rfl⟩;rw[←hK1]at hm1 ht1;have hk1:K1 bx=0:=by rw[hK1,hbx];exact aW _ _ _
  have mW:∀K' w',aj mX K1 W1 K' w'→w'.cell? ⟨bx,0,none⟩=some (.int .i64 op)∧w'.cell? ⟨bx,1,none⟩=some (.int .i64 vr)∧w'.cell? ⟨bx,2,none⟩=some (.slice A m c)∧bx<w'.heap.size:=fun K' w' t=>by
   obtain⟨q,-⟩:=uP hx1 hk1 t;exact⟨au q 0 rfl,au q 1 rfl,au q 2 rfl,aV q⟩
  have dJ:=Lib.hid mW;have H1:=Lib.hid (And.intro hm1 (And.intro ht1 (hak.aG ht1)));have HC:=Lib.hid hcl;have HE:=Lib.hid (And.intro he (And.intro hok oQ));have pW:=Lib.hid ih;have HM:=Lib.hid (And.intro hme (And.intro hop mK));have gK:=Lib.hid (And.intro hsz (And.intro hsb (And.intro hnx hroom)));have HG:=Lib.hid (And.intro h0 (And.intro hn hrm));have Zd:=Bd.qG (Bd.Ex.dW.1 hok).1;rw[←hop,←hme]at Zd;have wR:=Lib.hid (show e.val=fun a=>Bd.fO op (a vr.toNat) (e.kids.map (fun k=>k.val a))from funext fun a=>by rw[e.zX,hop,mK]);have zC:=Lib.hid e.size_eq
  have HV3:=Lib.hid (show op=3→0≤vr∧vr<(n:Int)from fun ho=>by
   have h1:=(Bd.Ex.dW.1 hok).1.2.1 (by rw[←hop];exact ho);have h2:=Bd.Ex.zY oQ (by rw[←hop];exact ho)
   omega)
  obtain⟨z0,z1,z2,zl⟩:=dJ.out K1 W1 aj.refl;clear ih he hval hme hx1 hok oQ hop mK hsz hsb hnx hroom hak hcl hm hm1 ht1 mW hK1 hk1 h0 hn hrm;go_in
  rcases Zd with⟨ho,hj0⟩|⟨ho,hj0⟩|⟨ho,hj0⟩|⟨ho,hj0⟩|ho|ho|ho|⟨ho,hj0⟩|⟨ho,hj0⟩|⟨ho,hj0⟩
  ·subst ho;subst hj0;have cK:=iX (p:=p) true W1;rw[show((if true=true then 1 else 0:Nat):Int)=1 from rfl]at cK;have cC:=jQ HC.out (by have:=HG.out.2.1;omega) HG.out.2.2 (by have:=gK.out.2.2.1;omega) HC.out.wS H1.out.1;rw[show((1:Nat):Int)=1 from rfl]at cC;have OW:=Lib.hid cK;have qg:=Lib.hid cC;clear cK cC
   go_wp2_with (rw[←hW1,←hbx];clear hW1 hbx;refine(OW.out).mono ?_;rintro r w' ⟨rfl,hw⟩;rw[hw];clear hw)
   refine(qg.out).mono ?_;rintro r w2 ⟨h,M2,K2,rfl,hc2,hm2,ht2,hx2,hw2⟩;have H2:=Lib.hid (show uq K w p n room M hs e.val (8*e.size-4) (.returned (.tuple #[.int .i64 (h:Nat),.bool true])) w2 from⟨h,M2,K2,rfl,by rw[wR.out];exact hc2.re (fun s=>rfl),hm2,H1.out.2.1.trans ht2,by have:=zC.out;omega,hw2⟩);clear hc2 hm2 ht2 hx2 hw2;go_wp2_with fail;rw[HF.out];exact H2.out
  ·subst ho;subst hj0;have cK:=iX (p:=p) false W1;rw[show((if false=true then 1 else 0:Nat):Int)=0 from rfl]at cK;have cC:=jQ HC.out (by have:=HG.out.2.1;omega) HG.out.2.2 (by have:=gK.out.2.2.1;omega) HC.out.Bp H1.out.1;rw[show((0:Nat):Int)=0 from rfl]at cC;have OW:=Lib.hid cK;have qg:=Lib.hid cC;clear cK cC
   go_wp2_with (rw[←hW1,←hbx];clear hW1 hbx;refine(OW.out).mono ?_;rintro r w' ⟨rfl,hw⟩;rw[hw];clear hw)
   refine(qg.out).mono ?_;rintro r w2 ⟨h,M2,K2,rfl,hc2,hm2,ht2,hx2,hw2⟩;have H2:=Lib.hid (show uq K w p n room M hs e.val (8*e.size-4) (.returned (.tuple #[.int .i64 (h:Nat),.bool true])) w2 from⟨h,M2,K2,rfl,by rw[wR.out];exact hc2.re (fun s=>rfl),hm2,H1.out.2.1.trans ht2,by have:=zC.out;omega,hw2⟩);clear hc2 hm2 ht2 hx2 hw2;go_wp2_with fail;rw[HF.out];exact H2.out
  ·have hv:=HV3.out ho;subst ho;subst hj0;obtain⟨vn,rfl⟩:∃vn:Nat,vr=(vn:Int):=⟨vr.toNat,by omega⟩
   have cV:=nX (wF HC.out.inv HG.out.1 HG.out.2.1 HG.out.2.2 (by have:=gK.out.2.2.1;omega) (by
    have h1:=gK.out.2.2.2;rw[HC.out.len]
    have h2:(hs.length+2)*(2^n-1)+1≤(hs.length+2+1)*2^n:=by
     rw[Nat.add_mul (hs.length+2),Nat.one_mul];exact Nat.add_le_add (Nat.mul_le_mul_left _ (Nat.sub_le _ _)) (Nat.two_pow_pos n)
    exact Nat.le_trans h2 (Nat.le_trans (Nat.mul_le_mul_right _ (by omega)) h1)) (v:=vn) (by omega) H1.out.1) HC.out
   have BD:=Lib.hid cV;clear cV hv
   go_wp2_with (rw[←hW1,←hbx];clear hW1 hbx;refine(BD.out).mono ?_)
   rintro r w2 ⟨h,M2,K2,rfl,hc2,hm2,ht2,hx2,hw2⟩;have H2:=Lib.hid (show uq K w p n room M hs e.val (8*e.size-4) (.returned (.tuple #[.int .i64 (h:Nat),.bool true])) w2 from⟨h,M2,K2,rfl,by rw[wR.out];exact hc2.re (fun s=>rfl),hm2,H1.out.2.1.trans ht2,by have:=zC.out;omega,hw2⟩);clear hc2 hm2 ht2 hx2 hw2;go_wp2_with fail;rw[HF.out];exact H2.out
  ·subst ho;subst hj0;obtain⟨b15,p9⟩:∃b,b=w.heap.size+1:=⟨_,rfl⟩;obtain⟨W2,hW2⟩:∃W2,W2=W1.alloc (.cells #[] 3):=⟨_,rfl⟩;have hs1:W1.heap.size=w.heap.size+1:=by rw[hW1];simp
   obtain⟨hm2,ht2⟩:=bG H1.out.1 hW2;have hL2:jo W1.heap.size (bJ K1 W1.heap.size 0) W2 (.slice (some ⟨b15,0,none⟩) 0 0) []:=by rw[hW2,p9,←hs1];exact jo.fresh W1
   obtain⟨K2,hK2⟩:∃K2,K2=bJ K1 W1.heap.size 0:=⟨_,rfl⟩;rw[←hK2]at hm2 ht2 hL2;have H2:=Lib.hid (And.intro hm2 (And.intro ht2 hL2));clear z0 z1 z2 zl;obtain⟨z0,z1,z2,zl⟩:=dJ.out K2 W2 ht2;clear hm2 ht2 hL2 hK2 hs1;go_wp2_with fail;rw[←p9,←hW1,←hbx,←hW2];clear p9 hW1 hbx hW2 z0 z1 z2 zl
   go_loopg [15,17,18,19,106,107,108,109,110,111,112,113,114,115,116,117,118,119,120,121,122] 1 (fun q v15 v17 v18 v19 sQ v107 Aw v109 Ay Dl Dm Dn Dp Dq Fy v117 Fz FC FD Kc Ke wr=>∃(j:Nat)(M':Bd.MS)(K':Nat→Nat)(l:List (Nat×Bd.BF)),q=1-j∧j≤1∧sQ=.int .i64 (j:Nat)∧l.length=j∧l.map (·.2)=(e.kids.take j).map (fun k=>k.val)∧Cli n room M' (l.reverse++hs)∧jo W1.heap.size K' wr v15 (l.map (·.1))∧aX K' wr p n room M'∧aj mX K1 W1 K' wr∧M'.next+4*j≤M.next+8*Bd.Ex.dw (e.kids.take j)∧∃l,M.waits=l++M'.waits)
   case atStart=>exact⟨0,M,K2,[],rfl,Nat.zero_le _,rfl,rfl,rfl,HC.out,H2.out.2.2,H2.out.1,H2.out.2.1,by simp[Bd.Ex.dw],[],rfl⟩
   case round=>
    clear H2;obtain⟨j,M',K',l,rfl,hj,rfl,hll,hlv,hc',hL',hm',ht',hx',hw'⟩:=hrel;obtain⟨pa,ca,hsh⟩:=hL'.acc.shape;rw[List.length_map,hll]at hsh;subst hsh;obtain⟨z0,z1,z2,zl⟩:=dJ.out K' wr ht';have HR:=Lib.hid (And.intro hc' (And.intro hL' (And.intro hm' (And.intro ht' (And.intro hx' (And.intro hw' (And.intro hll hlv)))))));clear hc' hL' hm' ht' hx' hw' hll hlv
    by_cases hlt:j<1
    ·have hji:(j:Int)<1:=by omega
     have hjd:decide ((j:Int)<1)=true:=decide_eq_true hji;obtain⟨x,hxk⟩:∃x,e.kids[j]?=some x:=⟨_,List.getElem?_eq_getElem (by rw[←HM.out.1];exact hlt)⟩;have b_:mD w0 K' wr:=H1.out.2.2.aG HR.out.2.2.2.1;obtain⟨g,o,A',c',hA,hg,k0,k1,k2,hV⟩:=HE.out.1.kid hxk;have k0:wr.cell? ⟨g,o+j*3,none⟩=some (.int .i64 x.op):=(b_.b.cell (p:=⟨g,_,none⟩) hg).trans k0;have k1:wr.cell? ⟨g,o+j*3+1,none⟩=some (.int .i64 x.var):=(b_.b.cell (p:=⟨g,_,none⟩) hg).trans k1;have k2:wr.cell? ⟨g,o+j*3+2,none⟩=some (.slice A' x.kids.length c'):=(b_.b.cell (p:=⟨g,_,none⟩) hg).trans k2;have hg:g<wr.heap.size:=Nat.lt_of_lt_of_le hg b_.b.size;have hsn:=Bd.Ex.eG hxk;have hxm:=List.mem_of_getElem? hxk;have hxs:=Bd.Ex.fJ hxm;have hxp:=x.size_pos;have h9:=Bd.Ex.aR e.kids (j+1);have hlx:x.kids.length≤9223372036854775807:=by have:=hV.cap;have:=hV.kY;unfold maxLen at this;omega
     have hbd:=gK.out;have hse:=zC.out;have xB:=HR.out.2.2.2.2.1;obtain⟨b17,rH⟩:∃b,b=wr.heap.size:=⟨_,rfl⟩;obtain⟨W5,mV⟩:∃W5,W5=wr.alloc (.cells #[.int .i64 x.op,.int .i64 x.var,.slice A' x.kids.length c'] 75):=⟨_,rfl⟩;obtain⟨uQ,pV⟩:=bG HR.out.2.2.1 mV;obtain⟨K5,OX⟩:∃K5,K5=bJ K' wr.heap.size 0:=⟨_,rfl⟩;rw[←OX]at uQ pV;have hll:=HR.out.2.2.2.2.2.2.1;have w_:=Bd.Ex.iR (e.kids.take j);have hjm:(e.kids.take j).length=j:=by rw[List.length_take];have:=HM.out.1;omega
     have Gn:=Bd.Ex.aR e.kids j;have cB:=pW.out A' c' x W5 K5 M' (l.reverse++hs) (by omega) (by omega) ((Bd.Ex.dW.1 HE.out.2.1).2 x hxm) (Bd.Ex.jy HE.out.2.2 hxm) hV (b_.aG pV) HR.out.1 (by omega) (Nat.le_trans (Nat.mul_le_mul_right _ (by rw[List.length_append,List.length_reverse];omega)) hbd.2.2.2) uQ;unfold dz bN at cB;have lI:=Lib.hid cB;have HX:=Lib.hid (And.intro hsn (And.intro hxs (And.intro hxp (And.intro h9 hxk))));have H5:=Lib.hid (And.intro (HR.out.2.2.2.1.trans pV) (HR.out.2.1.aG pV));subst hA;clear hV b_ hsn hxm hxs hxp h9 cB hbd hse xB hxk uQ pV OX w_ hjm Gn hll
     go_wp2_with (rw[←mV,←rH];clear mV rH;refine(lI.out).mono ?_)
     rintro r w6 ⟨hk,M6,K6,rfl,hc6,zD,ow,hx6,rP⟩;obtain⟨ko,gH⟩:=bG (o:=.cells #[.int .i64 (hk:Nat)] 3) zD rfl;have hL7:=(H5.out.2.aG ow).aG gH;have rQ:=hL7.acc.1;rw[List.length_map,HR.out.2.2.2.2.2.2.1]at rQ;have RD:=Lib.hid rQ;have H6:=Lib.hid (And.intro hc6 (And.intro ko (And.intro (H5.out.1.trans (ow.trans gH)) (And.intro hx6 (And.intro rP hL7)))));clear hc6 zD ow hx6 rP ko gH hL7 rQ z0 z1 z2 zl k0 k1 k2 hg
     go_wp2_with (at_builtin;refine aA _ rfl _ _ _ rfl jq rfl RD.out rfl (aL (by simp)) rfl (by simp[Value.oneCell']) (by omega) ?_;intro g2 c2 w8 hq2;have HQ:=Lib.hid hq2;clear hq2)
     go_roundg (1-(j+1))
     case rel=>
      obtain⟨hc6,ko,gH,hx6,rP,hL7⟩:=H6.out;have hq:bY _ 3 1 (.slice pa j ca) j 1 _ g2 c2 w8:=HQ.out;obtain⟨q1,q2,q3⟩:=hL7.push (a:=hk) (by rw[List.length_map];exact HR.out.2.2.2.2.2.2.1) gH.size hq;refine⟨j+1,M6,_,l++[(hk,x.val)],rfl,by omega,by go_num,by rw[List.length_append,HR.out.2.2.2.2.2.2.1];rfl,?_,?_,?_,q2 _ _ _ _ ko,q3 _ _ (Nat.le_refl _) gH,?_,?_⟩
      ·rw[List.map_append,HR.out.2.2.2.2.2.2.2,List.take_add_one,HX.out.2.2.2.2,List.map_append];rfl
      ·rw[List.reverse_append];exact hc6
      ·rw[List.map_append];exact q1
      ·have:=HX.out;have:=HR.out.2.2.2.2.1;omega
      ·obtain⟨l1,e1⟩:=HR.out.2.2.2.2.2.1;obtain⟨l2,e2⟩:=rP;exact⟨l1++l2,by rw[e1,e2];simp⟩
     case measure=>omega
    ·obtain rfl:j=1:=by omega
     obtain⟨hc',hL',hm',ht',hx',hw',hll,hlv⟩:=HR.out
     have IK:M'.next+4≤M.next+8*e.size-8:=by
      have h1:=Bd.Ex.aR e.kids 1;have h2:=zC.out;omega
     have RG:=Lib.hid IK;have hall:e.kids.take 1=e.kids:=List.take_of_length_le (by rw[←HM.out.1];exact Nat.le_refl _);rw[hall]at hlv;obtain⟨⟨ha,fa⟩,rfl⟩:=List.length_eq_one_iff.1 hll;have hc':Cli n room M' ((ha,fa)::hs):=hc';obtain⟨ψ,hψ⟩:∃ψ:Bd.BF,ψ=fun s=>!fa s:=⟨_,rfl⟩
     have Nf:=Lib.hid (show e.val=ψ by
      rw[wR.out,hψ]
      funext s
      have h1:e.kids.map (fun k=>k.val s)=[fa s]:=by
       have:=congrArg (List.map (fun f:Bd.BF=>f s)) hlv;rw[List.map_map]at this
       simpa using this.symm
      rw[h1,Bd.aan])
     have HL1:=Lib.hid hL';obtain⟨g0,a0,hpp,hg0,ha0,hc0⟩:=hL'.acc.dM.wN (j:=0) rfl (by decide);obtain rfl:ha=a0:=by simpa using ha0
     subst hpp;have cN:=tu (hs:=(ha,fa)::hs) hc' (by have:=HG.out.2.1;omega) HG.out.2.2 (by have:=gK.out.2.2.1;omega) (hc'.fn (ha,fa) (by simp)) hm';rw[←hψ]at cN;have Ej:=Lib.hid cN;clear cN hψ ha0 hL' hlv hll hall
     go_wp2_with (refine(Ej.out).mono ?_)
     rintro r w7 ⟨nh,M7,K7,rfl,OY,ko,gH,hx7,hw7⟩;obtain⟨g1,a1,hpp,hg1,ha1,hc1⟩:=(HL1.out.aG gH).acc.dM.wN (j:=0) rfl (by decide);obtain rfl:ha=a1:=by simpa using ha1
     obtain rfl:g0=g1:=by injection hpp with h;injection h
     obtain⟨b8,gY⟩:∃b8,b8=w7.heap.size:=⟨_,rfl⟩;obtain⟨w8,hw8⟩:∃w8,w8=w7.alloc (.cells #[.int .i64 (ha:Nat)] 3):=⟨_,rfl⟩;obtain⟨rF,zy⟩:=bG ko hw8;have cD:=eO (l:=[(ha,fa)]) (hs:=(nh,ψ)::hs) (OY.perm (List.Perm.swap _ _ _)) (by have:=HG.out.2.1;omega) HG.out.2.2 (by have:=RG.out;have:=gK.out.2.2.1;omega) (by simp) rF (v:=.slice (some ⟨b8,0,none⟩) 1 1) (oN (by rw[hw8,gY];exact heap_alloc_new _ _)) (fun g m c e=>by injection e with e;injection e with e;injection e with e;rw[←e,gY];exact aW _ _ _);have HD:=Lib.hid cD
     have H8:=Lib.hid (show aj mX K1 W1 (bJ K7 w7.heap.size 0) w8∧M7.next≤M.next+(8*e.size-4)∧∃l,M.waits=l++M7.waits from⟨ht'.trans (gH.trans zy),by have:=RG.out;omega,by
      obtain⟨l1,e1⟩:=hw';obtain⟨l2,e2⟩:=hw7
      exact⟨l1++l2,by rw[e1,e2];simp⟩⟩)
     clear cD rF zy OY ko gH hx7 hw7 hm' ht' hx' hw' IK;clear hpp ha1 hc0 hg0 z0 z1 z2 zl;obtain⟨z0,z1,z2,zl⟩:=dJ.out _ w8 H8.out.1
     go_wp2_with (rw[←hw8,←gY];clear hw8 gY;refine(HD.out).mono ?_)
     rintro r w9 ⟨rfl,M9,K9,xM,rG,tF,wZ,tH⟩;have H9:=Lib.hid (show uq K w p n room M hs e.val (8*e.size-4) (.returned (.tuple #[.int .i64 (nh:Nat),.bool true])) w9 from⟨nh,M9,K9,rfl,by rw[Nf.out];exact xM,rG,H1.out.2.1.trans (H8.out.1.trans tF),by rw[wZ];exact H8.out.2.1,by rw[tH];exact H8.out.2.2⟩);clear xM rG tF wZ tH;go_wp2_with fail;rw[HF.out];exact H9.out
  ·subst ho;have cK:=iX (p:=p) true W1;rw[show((if true=true then 1 else 0:Nat):Int)=1 from rfl]at cK;have cC:=jQ HC.out (by have:=HG.out.2.1;omega) HG.out.2.2 (by have:=gK.out.2.2.1;omega) HC.out.wS H1.out.1;rw[show((1:Nat):Int)=1 from rfl]at cC;have OW:=Lib.hid cK;have qg:=Lib.hid cC;clear cK cC
   go_wp2_with (rw[←hW1,←hbx];clear hW1 hbx;refine(OW.out).mono ?_;rintro r w' ⟨rfl,hw⟩;rw[hw];clear hw)
   refine(qg.out).mono ?_;rintro r w2 ⟨h,M2,K2,rfl,hc2,hm2,ht2,hx2,hw2⟩;clear z0 z1 z2 zl;obtain⟨z0,z1,z2,zl⟩:=dJ.out K2 w2 ht2;have H2:=Lib.hid (And.intro hc2 (And.intro hm2 (And.intro ht2 (And.intro hx2 hw2))));clear hc2 hm2 ht2 hx2 hw2;go_wp2_with fail;clear z0 z1 z2 zl
   go_loopg [10,12,13,14,70,71,72,73,74,75,76,77,78,79,80,81,82,83,84,85,86,87,88,89,90,91,92,93,94,95,96,97,98,99] m (fun q v10 v12 v13 v14 v70 v71 v72 v73 v74 v75 v76 v77 v78 v79 v80 v81 v82 v83 v84 v85 v86 v87 NV v89 QK v91 SK v93 SN SQ VA VB QL SS wr=>∃(j hd:Nat)(M':Bd.MS)(K':Nat→Nat)(φ:Bd.BF),q=m-j∧j≤m∧v13=.int .i64 (j:Nat)∧v10=.int .i64 (hd:Nat)∧v12=.bool true∧Cli n room M' ((hd,φ)::hs)∧φ=(fun a=>((e.kids.take j).map (fun k=>k.val a)).foldl (Bd.cZ 5) true)∧aX K' wr p n room M'∧aj mX K1 W1 K' wr∧M'.next+2*j≤M.next+1+8*Bd.Ex.dw (e.kids.take j)∧∃l,M.waits=l++M'.waits)
   case atStart=>exact⟨0,h,M2,K2,fun _=>true,rfl,Nat.zero_le _,rfl,rfl,rfl,H2.out.1,rfl,H2.out.2.1,H2.out.2.2.1,by have:=H2.out.2.2.2.1;simp[Bd.Ex.dw];omega,H2.out.2.2.2.2⟩
   case round=>
    clear H2;obtain⟨j,hd,M',K',φ,rfl,hj,rfl,rfl,rfl,hc',hφ,hm',ht',hx',hw'⟩:=hrel;obtain⟨z0,z1,z2,zl⟩:=dJ.out K' wr ht';have HR:=Lib.hid (And.intro hc' (And.intro hφ (And.intro hm' (And.intro ht' (And.intro hx' hw')))));clear hc' hφ hm' ht' hx' hw'
    by_cases hlt:j<m
    ·have hji:(j:Int)<(m:Int):=by omega
     have hjd:decide ((j:Int)<(m:Int))=true:=decide_eq_true hji;have Ze:decide (j<m)=true:=decide_eq_true hlt;obtain⟨x,hxk⟩:∃x,e.kids[j]?=some x:=⟨_,List.getElem?_eq_getElem (by rw[←HM.out.1];exact hlt)⟩;have b_:mD w0 K' wr:=H1.out.2.2.aG HR.out.2.2.2.1;obtain⟨g,o,A',c',hA,hg,k0,k1,k2,hV⟩:=HE.out.1.kid hxk;have k0:wr.cell? ⟨g,o+j*3,none⟩=some (.int .i64 x.op):=(b_.b.cell (p:=⟨g,_,none⟩) hg).trans k0;have k1:wr.cell? ⟨g,o+j*3+1,none⟩=some (.int .i64 x.var):=(b_.b.cell (p:=⟨g,_,none⟩) hg).trans k1;have k2:wr.cell? ⟨g,o+j*3+2,none⟩=some (.slice A' x.kids.length c'):=(b_.b.cell (p:=⟨g,_,none⟩) hg).trans k2;have hg:g<wr.heap.size:=Nat.lt_of_lt_of_le hg b_.b.size;have hsn:=Bd.Ex.eG hxk;have hxm:=List.mem_of_getElem? hxk;have hxs:=Bd.Ex.fJ hxm;have hxp:=x.size_pos;have h9:=Bd.Ex.aR e.kids (j+1);have hlx:x.kids.length≤9223372036854775807:=by have:=hV.cap;have:=hV.kY;unfold maxLen at this;omega
     have hbd:=gK.out;have hse:=zC.out;have xB:=HR.out.2.2.2.2.1;have cB:=pW.out A' c' x wr K' M' ((hd,φ)::hs) (by omega) (by omega) ((Bd.Ex.dW.1 HE.out.2.1).2 x hxm) (Bd.Ex.jy HE.out.2.2 hxm) hV b_ HR.out.1 (by omega) (Nat.le_trans (Nat.mul_le_mul_right _ (by simp only[List.length_cons];omega)) hbd.2.2.2) HR.out.2.2.1;unfold dz bN at cB
     have hfn:∀a,((e.kids.take (j+1)).map (fun k=>k.val a)).foldl (Bd.cZ 5) true=Bd.cZ 5 (((e.kids.take j).map (fun k=>k.val a)).foldl (Bd.cZ 5) true) (x.val a):=fun a=>by
      rw[List.take_add_one,hxk,Option.toList_some,List.map_append,List.foldl_append];rfl
     have lI:=Lib.hid cB;have HX:=Lib.hid (And.intro hsn (And.intro hxs (And.intro hxp (And.intro h9 hfn))));subst hA;clear hV b_ hsn hxm hxs hxp h9 cB hbd hse xB hfn hxk
     go_wp2_with (refine(lI.out).mono ?_)
     rintro r w3 ⟨hk,M3,K3,rfl,hc3,w_,ht3,hx3,hw3⟩;have wU:=HR.out.2.2.2.1.trans ht3;clear z0 z1 z2 zl k0 k1 k2 hg;obtain⟨z0,z1,z2,zl⟩:=dJ.out K3 w3 wU;have cJ:=lC (op:=5) (by simp) hc3 HG.out.1 HG.out.2.1 HG.out.2.2 (by have:=HR.out.2.2.2.2.1;have:=HX.out;have:=zC.out;have:=gK.out;omega) (Nat.le_trans (Nat.mul_le_mul_right _ (by have:=HX.out.2.1;omega)) gK.out.2.2.2) w_;have OZ:=Lib.hid cJ;have H3:=Lib.hid (And.intro wU (And.intro hx3 hw3));clear cJ hc3 w_ ht3 hx3 hw3 wU
     go_wp2_with (refine(OZ.out).mono ?_)
     rintro r w4 ⟨h4,M4,K4,rfl,hc4,oG,zB,hx4,hw4⟩;have H4:=Lib.hid (And.intro hc4 (And.intro oG (And.intro (H3.out.1.trans zB) (And.intro hx4 hw4))));clear hc4 oG zB hx4 hw4 z0 z1 z2 zl;go_wp2_with fail
     go_roundg (m-(j+1))
     case rel=>
      obtain⟨hc4,oG,zB,hx4,hw4⟩:=H4.out;obtain⟨hc',hφ,hm',ht',hx',hw'⟩:=HR.out;refine⟨j+1,h4,M4,K4,_,rfl,by omega,by go_num,rfl,rfl,hc4,?_,oG,zB,?_,?_⟩
      ·funext a
       rw[HX.out.2.2.2.2 a,hφ]
      ·have:=H3.out.2.1;have:=HX.out;omega
      ·obtain⟨l1,e1⟩:=hw';obtain⟨l2,e2⟩:=H3.out.2.2;obtain⟨l3,e3⟩:=hw4;exact⟨l1++(l2++l3),by rw[e1,e2,e3];simp⟩
     case measure=>omega
    ·obtain rfl:j=m:=by omega
     have hjd:decide ((j:Int)<(j:Int))=false:=decide_eq_false (by omega);have hall:e.kids.take j=e.kids:=List.take_of_length_le (by rw[←HM.out.1];exact Nat.le_refl _)
     have H5:=Lib.hid (show uq K w p n room M hs e.val (8*e.size-4) (.returned (.tuple #[.int .i64 (hd:Nat),.bool true])) wr from by
      obtain⟨hc',hφ,hm',ht',hx',hw'⟩:=HR.out;refine⟨hd,M',K',rfl,?_,hm',H1.out.2.1.trans ht',?_,hw'⟩
      ·refine hc'.re (fun s=>?_);rw[wR.out,hφ,hall];exact(Bd.aai _ _).symm
      ·rw[hall]at hx';have:=zC.out;have h8:=Bd.Ex.iR e.kids
       omega)
     clear hall;go_wp2_with fail;rw[HF.out];exact H5.out
  ·subst ho;have cK:=iX (p:=p) false W1;rw[show((if false=true then 1 else 0:Nat):Int)=0 from rfl]at cK;have cC:=jQ HC.out (by have:=HG.out.2.1;omega) HG.out.2.2 (by have:=gK.out.2.2.1;omega) HC.out.Bp H1.out.1;rw[show((0:Nat):Int)=0 from rfl]at cC;have OW:=Lib.hid cK;have qg:=Lib.hid cC;clear cK cC
   go_wp2_with (rw[←hW1,←hbx];clear hW1 hbx;refine(OW.out).mono ?_;rintro r w' ⟨rfl,hw⟩;rw[hw];clear hw)
   refine(qg.out).mono ?_;rintro r w2 ⟨h,M2,K2,rfl,hc2,hm2,ht2,hx2,hw2⟩;clear z0 z1 z2 zl;obtain⟨z0,z1,z2,zl⟩:=dJ.out K2 w2 ht2;have H2:=Lib.hid (And.intro hc2 (And.intro hm2 (And.intro ht2 (And.intro hx2 hw2))));clear hc2 hm2 ht2 hx2 hw2;go_wp2_with fail;clear z0 z1 z2 zl
   go_loopg [10,12,13,14,70,71,72,73,74,75,76,77,78,79,80,81,82,83,84,85,86,87,88,89,90,91,92,93,94,95,96,97,98,99] m (fun q v10 v12 v13 v14 v70 v71 v72 v73 v74 v75 v76 v77 v78 v79 v80 v81 v82 v83 v84 v85 v86 v87 NV v89 QK v91 SK v93 SN SQ VA VB QL SS wr=>∃(j hd:Nat)(M':Bd.MS)(K':Nat→Nat)(φ:Bd.BF),q=m-j∧j≤m∧v13=.int .i64 (j:Nat)∧v10=.int .i64 (hd:Nat)∧v12=.bool true∧Cli n room M' ((hd,φ)::hs)∧φ=(fun a=>((e.kids.take j).map (fun k=>k.val a)).foldl (Bd.cZ 6) false)∧aX K' wr p n room M'∧aj mX K1 W1 K' wr∧M'.next+2*j≤M.next+1+8*Bd.Ex.dw (e.kids.take j)∧∃l,M.waits=l++M'.waits)
   case atStart=>exact⟨0,h,M2,K2,fun _=>false,rfl,Nat.zero_le _,rfl,rfl,rfl,H2.out.1,rfl,H2.out.2.1,H2.out.2.2.1,by have:=H2.out.2.2.2.1;simp[Bd.Ex.dw];omega,H2.out.2.2.2.2⟩
   case round=>
    clear H2;obtain⟨j,hd,M',K',φ,rfl,hj,rfl,rfl,rfl,hc',hφ,hm',ht',hx',hw'⟩:=hrel;obtain⟨z0,z1,z2,zl⟩:=dJ.out K' wr ht';have HR:=Lib.hid (And.intro hc' (And.intro hφ (And.intro hm' (And.intro ht' (And.intro hx' hw')))));clear hc' hφ hm' ht' hx' hw'
    by_cases hlt:j<m
    ·have hji:(j:Int)<(m:Int):=by omega
     have hjd:decide ((j:Int)<(m:Int))=true:=decide_eq_true hji;have Ze:decide (j<m)=true:=decide_eq_true hlt;obtain⟨x,hxk⟩:∃x,e.kids[j]?=some x:=⟨_,List.getElem?_eq_getElem (by rw[←HM.out.1];exact hlt)⟩;have b_:mD w0 K' wr:=H1.out.2.2.aG HR.out.2.2.2.1;obtain⟨g,o,A',c',hA,hg,k0,k1,k2,hV⟩:=HE.out.1.kid hxk;have k0:wr.cell? ⟨g,o+j*3,none⟩=some (.int .i64 x.op):=(b_.b.cell (p:=⟨g,_,none⟩) hg).trans k0;have k1:wr.cell? ⟨g,o+j*3+1,none⟩=some (.int .i64 x.var):=(b_.b.cell (p:=⟨g,_,none⟩) hg).trans k1;have k2:wr.cell? ⟨g,o+j*3+2,none⟩=some (.slice A' x.kids.length c'):=(b_.b.cell (p:=⟨g,_,none⟩) hg).trans k2;have hg:g<wr.heap.size:=Nat.lt_of_lt_of_le hg b_.b.size;have hsn:=Bd.Ex.eG hxk;have hxm:=List.mem_of_getElem? hxk;have hxs:=Bd.Ex.fJ hxm;have hxp:=x.size_pos;have h9:=Bd.Ex.aR e.kids (j+1);have hlx:x.kids.length≤9223372036854775807:=by have:=hV.cap;have:=hV.kY;unfold maxLen at this;omega
     have hbd:=gK.out;have hse:=zC.out;have xB:=HR.out.2.2.2.2.1;have cB:=pW.out A' c' x wr K' M' ((hd,φ)::hs) (by omega) (by omega) ((Bd.Ex.dW.1 HE.out.2.1).2 x hxm) (Bd.Ex.jy HE.out.2.2 hxm) hV b_ HR.out.1 (by omega) (Nat.le_trans (Nat.mul_le_mul_right _ (by simp only[List.length_cons];omega)) hbd.2.2.2) HR.out.2.2.1;unfold dz bN at cB
     have hfn:∀a,((e.kids.take (j+1)).map (fun k=>k.val a)).foldl (Bd.cZ 6) false=Bd.cZ 6 (((e.kids.take j).map (fun k=>k.val a)).foldl (Bd.cZ 6) false) (x.val a):=fun a=>by
      rw[List.take_add_one,hxk,Option.toList_some,List.map_append,List.foldl_append];rfl
     have lI:=Lib.hid cB;have HX:=Lib.hid (And.intro hsn (And.intro hxs (And.intro hxp (And.intro h9 hfn))));subst hA;clear hV b_ hsn hxm hxs hxp h9 cB hbd hse xB hfn hxk
     go_wp2_with (refine(lI.out).mono ?_)
     rintro r w3 ⟨hk,M3,K3,rfl,hc3,w_,ht3,hx3,hw3⟩;have wU:=HR.out.2.2.2.1.trans ht3;clear z0 z1 z2 zl k0 k1 k2 hg;obtain⟨z0,z1,z2,zl⟩:=dJ.out K3 w3 wU;have cJ:=lC (op:=6) (by simp) hc3 HG.out.1 HG.out.2.1 HG.out.2.2 (by have:=HR.out.2.2.2.2.1;have:=HX.out;have:=zC.out;have:=gK.out;omega) (Nat.le_trans (Nat.mul_le_mul_right _ (by have:=HX.out.2.1;omega)) gK.out.2.2.2) w_;have OZ:=Lib.hid cJ;have H3:=Lib.hid (And.intro wU (And.intro hx3 hw3));clear cJ hc3 w_ ht3 hx3 hw3 wU
     go_wp2_with (refine(OZ.out).mono ?_)
     rintro r w4 ⟨h4,M4,K4,rfl,hc4,oG,zB,hx4,hw4⟩;have H4:=Lib.hid (And.intro hc4 (And.intro oG (And.intro (H3.out.1.trans zB) (And.intro hx4 hw4))));clear hc4 oG zB hx4 hw4 z0 z1 z2 zl;go_wp2_with fail
     go_roundg (m-(j+1))
     case rel=>
      obtain⟨hc4,oG,zB,hx4,hw4⟩:=H4.out;obtain⟨hc',hφ,hm',ht',hx',hw'⟩:=HR.out;refine⟨j+1,h4,M4,K4,_,rfl,by omega,by go_num,rfl,rfl,hc4,?_,oG,zB,?_,?_⟩
      ·funext a
       rw[HX.out.2.2.2.2 a,hφ]
      ·have:=H3.out.2.1;have:=HX.out;omega
      ·obtain⟨l1,e1⟩:=hw';obtain⟨l2,e2⟩:=H3.out.2.2;obtain⟨l3,e3⟩:=hw4;exact⟨l1++(l2++l3),by rw[e1,e2,e3];simp⟩
     case measure=>omega
    ·obtain rfl:j=m:=by omega
     have hjd:decide ((j:Int)<(j:Int))=false:=decide_eq_false (by omega);have hall:e.kids.take j=e.kids:=List.take_of_length_le (by rw[←HM.out.1];exact Nat.le_refl _)
     have H5:=Lib.hid (show uq K w p n room M hs e.val (8*e.size-4) (.returned (.tuple #[.int .i64 (hd:Nat),.bool true])) wr from by
      obtain⟨hc',hφ,hm',ht',hx',hw'⟩:=HR.out;refine⟨hd,M',K',rfl,?_,hm',H1.out.2.1.trans ht',?_,hw'⟩
      ·refine hc'.re (fun s=>?_);rw[wR.out,hφ,hall];exact(Bd.aaj _ _).symm
      ·rw[hall]at hx';have:=zC.out;have h8:=Bd.Ex.iR e.kids
       omega)
     clear hall;go_wp2_with fail;rw[HF.out];exact H5.out
  ·subst ho;have cK:=iX (p:=p) false W1;rw[show((if false=true then 1 else 0:Nat):Int)=0 from rfl]at cK;have cC:=jQ HC.out (by have:=HG.out.2.1;omega) HG.out.2.2 (by have:=gK.out.2.2.1;omega) HC.out.Bp H1.out.1;rw[show((0:Nat):Int)=0 from rfl]at cC;have OW:=Lib.hid cK;have qg:=Lib.hid cC;clear cK cC
   go_wp2_with (rw[←hW1,←hbx];clear hW1 hbx;refine(OW.out).mono ?_;rintro r w' ⟨rfl,hw⟩;rw[hw];clear hw)
   refine(qg.out).mono ?_;rintro r w2 ⟨h,M2,K2,rfl,hc2,hm2,ht2,hx2,hw2⟩;clear z0 z1 z2 zl;obtain⟨z0,z1,z2,zl⟩:=dJ.out K2 w2 ht2;have H2:=Lib.hid (And.intro hc2 (And.intro hm2 (And.intro ht2 (And.intro hx2 hw2))));clear hc2 hm2 ht2 hx2 hw2;go_wp2_with fail;clear z0 z1 z2 zl
   go_loopg [10,12,13,14,70,71,72,73,74,75,76,77,78,79,80,81,82,83,84,85,86,87,88,89,90,91,92,93,94,95,96,97,98,99] m (fun q v10 v12 v13 v14 v70 v71 v72 v73 v74 v75 v76 v77 v78 v79 v80 v81 v82 v83 v84 v85 v86 v87 NV v89 QK v91 SK v93 SN SQ VA VB QL SS wr=>∃(j hd:Nat)(M':Bd.MS)(K':Nat→Nat)(φ:Bd.BF),q=m-j∧j≤m∧v13=.int .i64 (j:Nat)∧v10=.int .i64 (hd:Nat)∧v12=.bool true∧Cli n room M' ((hd,φ)::hs)∧φ=(fun a=>((e.kids.take j).map (fun k=>k.val a)).foldl (Bd.cZ 7) false)∧aX K' wr p n room M'∧aj mX K1 W1 K' wr∧M'.next+2*j≤M.next+1+8*Bd.Ex.dw (e.kids.take j)∧∃l,M.waits=l++M'.waits)
   case atStart=>exact⟨0,h,M2,K2,fun _=>false,rfl,Nat.zero_le _,rfl,rfl,rfl,H2.out.1,rfl,H2.out.2.1,H2.out.2.2.1,by have:=H2.out.2.2.2.1;simp[Bd.Ex.dw];omega,H2.out.2.2.2.2⟩
   case round=>
    clear H2;obtain⟨j,hd,M',K',φ,rfl,hj,rfl,rfl,rfl,hc',hφ,hm',ht',hx',hw'⟩:=hrel;obtain⟨z0,z1,z2,zl⟩:=dJ.out K' wr ht';have HR:=Lib.hid (And.intro hc' (And.intro hφ (And.intro hm' (And.intro ht' (And.intro hx' hw')))));clear hc' hφ hm' ht' hx' hw'
    by_cases hlt:j<m
    ·have hji:(j:Int)<(m:Int):=by omega
     have hjd:decide ((j:Int)<(m:Int))=true:=decide_eq_true hji;have Ze:decide (j<m)=true:=decide_eq_true hlt;obtain⟨x,hxk⟩:∃x,e.kids[j]?=some x:=⟨_,List.getElem?_eq_getElem (by rw[←HM.out.1];exact hlt)⟩;have b_:mD w0 K' wr:=H1.out.2.2.aG HR.out.2.2.2.1;obtain⟨g,o,A',c',hA,hg,k0,k1,k2,hV⟩:=HE.out.1.kid hxk;have k0:wr.cell? ⟨g,o+j*3,none⟩=some (.int .i64 x.op):=(b_.b.cell (p:=⟨g,_,none⟩) hg).trans k0;have k1:wr.cell? ⟨g,o+j*3+1,none⟩=some (.int .i64 x.var):=(b_.b.cell (p:=⟨g,_,none⟩) hg).trans k1;have k2:wr.cell? ⟨g,o+j*3+2,none⟩=some (.slice A' x.kids.length c'):=(b_.b.cell (p:=⟨g,_,none⟩) hg).trans k2;have hg:g<wr.heap.size:=Nat.lt_of_lt_of_le hg b_.b.size;have hsn:=Bd.Ex.eG hxk;have hxm:=List.mem_of_getElem? hxk;have hxs:=Bd.Ex.fJ hxm;have hxp:=x.size_pos;have h9:=Bd.Ex.aR e.kids (j+1);have hlx:x.kids.length≤9223372036854775807:=by have:=hV.cap;have:=hV.kY;unfold maxLen at this;omega
     have hbd:=gK.out;have hse:=zC.out;have xB:=HR.out.2.2.2.2.1;have cB:=pW.out A' c' x wr K' M' ((hd,φ)::hs) (by omega) (by omega) ((Bd.Ex.dW.1 HE.out.2.1).2 x hxm) (Bd.Ex.jy HE.out.2.2 hxm) hV b_ HR.out.1 (by omega) (Nat.le_trans (Nat.mul_le_mul_right _ (by simp only[List.length_cons];omega)) hbd.2.2.2) HR.out.2.2.1;unfold dz bN at cB
     have hfn:∀a,((e.kids.take (j+1)).map (fun k=>k.val a)).foldl (Bd.cZ 7) false=Bd.cZ 7 (((e.kids.take j).map (fun k=>k.val a)).foldl (Bd.cZ 7) false) (x.val a):=fun a=>by
      rw[List.take_add_one,hxk,Option.toList_some,List.map_append,List.foldl_append];rfl
     have lI:=Lib.hid cB;have HX:=Lib.hid (And.intro hsn (And.intro hxs (And.intro hxp (And.intro h9 hfn))));subst hA;clear hV b_ hsn hxm hxs hxp h9 cB hbd hse xB hfn hxk
     go_wp2_with (refine(lI.out).mono ?_)
     rintro r w3 ⟨hk,M3,K3,rfl,hc3,w_,ht3,hx3,hw3⟩;have wU:=HR.out.2.2.2.1.trans ht3;clear z0 z1 z2 zl k0 k1 k2 hg;obtain⟨z0,z1,z2,zl⟩:=dJ.out K3 w3 wU;have cJ:=lC (op:=7) (by simp) hc3 HG.out.1 HG.out.2.1 HG.out.2.2 (by have:=HR.out.2.2.2.2.1;have:=HX.out;have:=zC.out;have:=gK.out;omega) (Nat.le_trans (Nat.mul_le_mul_right _ (by have:=HX.out.2.1;omega)) gK.out.2.2.2) w_;have OZ:=Lib.hid cJ;have H3:=Lib.hid (And.intro wU (And.intro hx3 hw3));clear cJ hc3 w_ ht3 hx3 hw3 wU
     go_wp2_with (refine(OZ.out).mono ?_)
     rintro r w4 ⟨h4,M4,K4,rfl,hc4,oG,zB,hx4,hw4⟩;have H4:=Lib.hid (And.intro hc4 (And.intro oG (And.intro (H3.out.1.trans zB) (And.intro hx4 hw4))));clear hc4 oG zB hx4 hw4 z0 z1 z2 zl;go_wp2_with fail
     go_roundg (m-(j+1))
     case rel=>
      obtain⟨hc4,oG,zB,hx4,hw4⟩:=H4.out;obtain⟨hc',hφ,hm',ht',hx',hw'⟩:=HR.out;refine⟨j+1,h4,M4,K4,_,rfl,by omega,by go_num,rfl,rfl,hc4,?_,oG,zB,?_,?_⟩
      ·funext a
       rw[HX.out.2.2.2.2 a,hφ]
      ·have:=H3.out.2.1;have:=HX.out;omega
      ·obtain⟨l1,e1⟩:=hw';obtain⟨l2,e2⟩:=H3.out.2.2;obtain⟨l3,e3⟩:=hw4;exact⟨l1++(l2++l3),by rw[e1,e2,e3];simp⟩
     case measure=>omega
    ·obtain rfl:j=m:=by omega
     have hjd:decide ((j:Int)<(j:Int))=false:=decide_eq_false (by omega);have hall:e.kids.take j=e.kids:=List.take_of_length_le (by rw[←HM.out.1];exact Nat.le_refl _)
     have H5:=Lib.hid (show uq K w p n room M hs e.val (8*e.size-4) (.returned (.tuple #[.int .i64 (hd:Nat),.bool true])) wr from by
      obtain⟨hc',hφ,hm',ht',hx',hw'⟩:=HR.out;refine⟨hd,M',K',rfl,?_,hm',H1.out.2.1.trans ht',?_,hw'⟩
      ·refine hc'.re (fun s=>?_);rw[wR.out,hφ,hall];exact(Bd.aak _ _).symm
      ·rw[hall]at hx';have:=zC.out;have h8:=Bd.Ex.iR e.kids
       omega)
     clear hall;go_wp2_with fail;rw[HF.out];exact H5.out
  ·subst ho;subst hj0;obtain⟨b15,p9⟩:∃b,b=w.heap.size+1:=⟨_,rfl⟩;obtain⟨W2,hW2⟩:∃W2,W2=W1.alloc (.cells #[] 3):=⟨_,rfl⟩;have hs1:W1.heap.size=w.heap.size+1:=by rw[hW1];simp
   obtain⟨hm2,ht2⟩:=bG H1.out.1 hW2;have hL2:jo W1.heap.size (bJ K1 W1.heap.size 0) W2 (.slice (some ⟨b15,0,none⟩) 0 0) []:=by rw[hW2,p9,←hs1];exact jo.fresh W1
   obtain⟨K2,hK2⟩:∃K2,K2=bJ K1 W1.heap.size 0:=⟨_,rfl⟩;rw[←hK2]at hm2 ht2 hL2;have H2:=Lib.hid (And.intro hm2 (And.intro ht2 hL2));clear z0 z1 z2 zl;obtain⟨z0,z1,z2,zl⟩:=dJ.out K2 W2 ht2;clear hm2 ht2 hL2 hK2 hs1;go_wp2_with fail;rw[←p9,←hW1,←hbx,←hW2];clear p9 hW1 hbx hW2 z0 z1 z2 zl
   go_loopg [15,17,18,19,106,107,108,109,110,111,112,113,114,115,116,117,118,119,120,121,122] 2 (fun q v15 v17 v18 v19 sQ v107 Aw v109 Ay Dl Dm Dn Dp Dq Fy v117 Fz FC FD Kc Ke wr=>∃(j:Nat)(M':Bd.MS)(K':Nat→Nat)(l:List (Nat×Bd.BF)),q=2-j∧j≤2∧sQ=.int .i64 (j:Nat)∧l.length=j∧l.map (·.2)=(e.kids.take j).map (fun k=>k.val)∧Cli n room M' (l.reverse++hs)∧jo W1.heap.size K' wr v15 (l.map (·.1))∧aX K' wr p n room M'∧aj mX K1 W1 K' wr∧M'.next+4*j≤M.next+8*Bd.Ex.dw (e.kids.take j)∧∃l,M.waits=l++M'.waits)
   case atStart=>exact⟨0,M,K2,[],rfl,Nat.zero_le _,rfl,rfl,rfl,HC.out,H2.out.2.2,H2.out.1,H2.out.2.1,by simp[Bd.Ex.dw],[],rfl⟩
   case round=>
    clear H2;obtain⟨j,M',K',l,rfl,hj,rfl,hll,hlv,hc',hL',hm',ht',hx',hw'⟩:=hrel;obtain⟨pa,ca,hsh⟩:=hL'.acc.shape;rw[List.length_map,hll]at hsh;subst hsh;obtain⟨z0,z1,z2,zl⟩:=dJ.out K' wr ht';have HR:=Lib.hid (And.intro hc' (And.intro hL' (And.intro hm' (And.intro ht' (And.intro hx' (And.intro hw' (And.intro hll hlv)))))));clear hc' hL' hm' ht' hx' hw' hll hlv
    by_cases hlt:j<2
    ·have hji:(j:Int)<2:=by omega
     have hjd:decide ((j:Int)<2)=true:=decide_eq_true hji;obtain⟨x,hxk⟩:∃x,e.kids[j]?=some x:=⟨_,List.getElem?_eq_getElem (by rw[←HM.out.1];exact hlt)⟩;have b_:mD w0 K' wr:=H1.out.2.2.aG HR.out.2.2.2.1;obtain⟨g,o,A',c',hA,hg,k0,k1,k2,hV⟩:=HE.out.1.kid hxk;have k0:wr.cell? ⟨g,o+j*3,none⟩=some (.int .i64 x.op):=(b_.b.cell (p:=⟨g,_,none⟩) hg).trans k0;have k1:wr.cell? ⟨g,o+j*3+1,none⟩=some (.int .i64 x.var):=(b_.b.cell (p:=⟨g,_,none⟩) hg).trans k1;have k2:wr.cell? ⟨g,o+j*3+2,none⟩=some (.slice A' x.kids.length c'):=(b_.b.cell (p:=⟨g,_,none⟩) hg).trans k2;have hg:g<wr.heap.size:=Nat.lt_of_lt_of_le hg b_.b.size;have hsn:=Bd.Ex.eG hxk;have hxm:=List.mem_of_getElem? hxk;have hxs:=Bd.Ex.fJ hxm;have hxp:=x.size_pos;have h9:=Bd.Ex.aR e.kids (j+1);have hlx:x.kids.length≤9223372036854775807:=by have:=hV.cap;have:=hV.kY;unfold maxLen at this;omega
     have hbd:=gK.out;have hse:=zC.out;have xB:=HR.out.2.2.2.2.1;obtain⟨b17,rH⟩:∃b,b=wr.heap.size:=⟨_,rfl⟩;obtain⟨W5,mV⟩:∃W5,W5=wr.alloc (.cells #[.int .i64 x.op,.int .i64 x.var,.slice A' x.kids.length c'] 75):=⟨_,rfl⟩;obtain⟨uQ,pV⟩:=bG HR.out.2.2.1 mV;obtain⟨K5,OX⟩:∃K5,K5=bJ K' wr.heap.size 0:=⟨_,rfl⟩;rw[←OX]at uQ pV;have hll:=HR.out.2.2.2.2.2.2.1;have w_:=Bd.Ex.iR (e.kids.take j);have hjm:(e.kids.take j).length=j:=by rw[List.length_take];have:=HM.out.1;omega
     have Gn:=Bd.Ex.aR e.kids j;have cB:=pW.out A' c' x W5 K5 M' (l.reverse++hs) (by omega) (by omega) ((Bd.Ex.dW.1 HE.out.2.1).2 x hxm) (Bd.Ex.jy HE.out.2.2 hxm) hV (b_.aG pV) HR.out.1 (by omega) (Nat.le_trans (Nat.mul_le_mul_right _ (by rw[List.length_append,List.length_reverse];omega)) hbd.2.2.2) uQ;unfold dz bN at cB;have lI:=Lib.hid cB;have HX:=Lib.hid (And.intro hsn (And.intro hxs (And.intro hxp (And.intro h9 hxk))));have H5:=Lib.hid (And.intro (HR.out.2.2.2.1.trans pV) (HR.out.2.1.aG pV));subst hA;clear hV b_ hsn hxm hxs hxp h9 cB hbd hse xB hxk uQ pV OX w_ hjm Gn hll
     go_wp2_with (rw[←mV,←rH];clear mV rH;refine(lI.out).mono ?_)
     rintro r w6 ⟨hk,M6,K6,rfl,hc6,zD,ow,hx6,rP⟩;obtain⟨ko,gH⟩:=bG (o:=.cells #[.int .i64 (hk:Nat)] 3) zD rfl;have hL7:=(H5.out.2.aG ow).aG gH;have rQ:=hL7.acc.1;rw[List.length_map,HR.out.2.2.2.2.2.2.1]at rQ;have RD:=Lib.hid rQ;have H6:=Lib.hid (And.intro hc6 (And.intro ko (And.intro (H5.out.1.trans (ow.trans gH)) (And.intro hx6 (And.intro rP hL7)))));clear hc6 zD ow hx6 rP ko gH hL7 rQ z0 z1 z2 zl k0 k1 k2 hg
     go_wp2_with (at_builtin;refine aA _ rfl _ _ _ rfl jq rfl RD.out rfl (aL (by simp)) rfl (by simp[Value.oneCell']) (by omega) ?_;intro g2 c2 w8 hq2;have HQ:=Lib.hid hq2;clear hq2)
     go_roundg (2-(j+1))
     case rel=>
      obtain⟨hc6,ko,gH,hx6,rP,hL7⟩:=H6.out;have hq:bY _ 3 1 (.slice pa j ca) j 1 _ g2 c2 w8:=HQ.out;obtain⟨q1,q2,q3⟩:=hL7.push (a:=hk) (by rw[List.length_map];exact HR.out.2.2.2.2.2.2.1) gH.size hq;refine⟨j+1,M6,_,l++[(hk,x.val)],rfl,by omega,by go_num,by rw[List.length_append,HR.out.2.2.2.2.2.2.1];rfl,?_,?_,?_,q2 _ _ _ _ ko,q3 _ _ (Nat.le_refl _) gH,?_,?_⟩
      ·rw[List.map_append,HR.out.2.2.2.2.2.2.2,List.take_add_one,HX.out.2.2.2.2,List.map_append];rfl
      ·rw[List.reverse_append];exact hc6
      ·rw[List.map_append];exact q1
      ·have:=HX.out;have:=HR.out.2.2.2.2.1;omega
      ·obtain⟨l1,e1⟩:=HR.out.2.2.2.2.2.1;obtain⟨l2,e2⟩:=rP;exact⟨l1++l2,by rw[e1,e2];simp⟩
     case measure=>omega
    ·obtain rfl:j=2:=by omega
     obtain⟨hc',hL',hm',ht',hx',hw',hll,hlv⟩:=HR.out
     have IK:M'.next+4≤M.next+8*e.size-8:=by
      have h1:=Bd.Ex.aR e.kids 2;have h2:=zC.out;omega
     have RG:=Lib.hid IK;have hall:e.kids.take 2=e.kids:=List.take_of_length_le (by rw[←HM.out.1];exact Nat.le_refl _);rw[hall]at hlv;obtain⟨⟨ha,fa⟩,⟨hb,fb⟩,rfl⟩:=OU hll;have hc':Cli n room M' ((hb,fb)::(ha,fa)::hs):=hc';obtain⟨ψ,hψ⟩:∃ψ:Bd.BF,ψ=fun s=>Bd.cZ 8 (fa s) (fb s):=⟨_,rfl⟩
     have Nf:=Lib.hid (show e.val=ψ by
      rw[wR.out,hψ]
      funext s
      have h1:e.kids.map (fun k=>k.val s)=[fa s,fb s]:=by
       have:=congrArg (List.map (fun f:Bd.BF=>f s)) hlv;rw[List.map_map,List.map_map]at this;exact this.symm
      rw[h1,Bd.aal])
     obtain⟨g0,a0,hpp,hg0,ha0,hc0⟩:=hL'.acc.dM.wN (j:=0) rfl (by decide);subst hpp
     have hS:∀K7 w7,aj mX K' wr K7 w7→w7.cell? ⟨bx,0,none⟩=some (.int .i64 8)∧w7.cell? ⟨g0,0,none⟩=some (.int .i64 (ha:Nat))∧w7.cell? ⟨g0,1,none⟩=some (.int .i64 (hb:Nat)):=fun K7 w7 t=>by
      obtain⟨y0,-,-,-⟩:=dJ.out K7 w7 (ht'.trans t);obtain⟨g1,a1,hp1,-,ha1,hc1⟩:=(hL'.aG t).acc.dM.wN (j:=0) rfl (by decide);obtain⟨g2,a2,hp2,-,ha2,hc2⟩:=(hL'.aG t).acc.dM.wN (j:=1) rfl (by decide);obtain rfl:ha=a1:=by simpa using ha1
      obtain rfl:hb=a2:=by simpa using ha2
      obtain rfl:g0=g1:=by injection hp1 with h;injection h
      obtain rfl:g0=g2:=by injection hp2 with h;injection h
      exact⟨y0,hc1,hc2⟩
     have HS:=Lib.hid hS;obtain⟨w5,jS⟩:∃w5,w5=wr.drew:=⟨_,rfl⟩;have hbd:Below wr.heap.size wr w5:=by rw[jS];exact(Below.refl _ _).drew
     have htd:aj mX K' wr K' w5:=aj.of_below hbd;have cJ:=lC (op:=8) (by simp) hc' HG.out.1 HG.out.2.1 HG.out.2.2 (by have:=gK.out.2.2.1;omega) (Nat.le_trans (Nat.mul_le_mul_right _ (by omega)) gK.out.2.2.2) (hm'.below hbd);rw[←hψ]at cJ;have OZ:=Lib.hid cJ;have H5:=Lib.hid (And.intro ht' (And.intro htd hw'));clear hc' hψ ha0 hc0 hg0 hL' hlv hll hall hS hbd htd cJ hm' ht' hw' hx' IK;go_wp2_with fail;refine wp_region_held_drew (S:=fun W=>W.cell? ⟨bx,0,none⟩=some (.int .i64 8)∧W.cell? ⟨g0,0,none⟩=some (.int .i64 (ha:Nat))∧W.cell? ⟨g0,1,none⟩=some (.int .i64 (hb:Nat))) (by kernel_rfl) (HS.out _ _ (by rw[←jS];exact H5.out.2.1)) (fun hHeld=>?_)
     repeat
      (first|refine aD 0 (v:=?_) rfl ?hy ?_|refine aD 1 (v:=?_) rfl ?hy ?_|refine aD 2 (v:=?_) rfl ?hy ?_|refine aD 3 (v:=?_) rfl ?hy ?_|refine aD 4 (v:=?_) rfl ?hy ?_|refine aD 5 (v:=?_) rfl ?hy ?_|refine aD 6 (v:=?_) rfl ?hy ?_|refine aD 7 (v:=?_) rfl ?hy ?_|refine aD 8 (v:=?_) rfl ?hy ?_
       case hy=>
        intro w0 hS;obtain⟨c0,c1,c2⟩:=hS;go_simp
        (first|done|with_reducible rfl)
       try simp only[Act.put,aZ,bq,bA])
     rw[←jS];clear jS;refine wpAnyH_ready (rs:=[9]) (by decide +kernel) (by simp) (AllReadyH.cons (dA rfl) (fun KC aO=>?_) AllReadyH.nil);refine bW 100 ?_;go_simp;clear hHeld;refine(OZ.out).mono ?_;rintro r w7 ⟨nh,M7,K7,rfl,OY,ko,gH,hx7,hw7⟩
     have H7:=Lib.hid (show uq K w p n room M hs e.val (8*e.size-4) (.returned (.tuple #[.int .i64 (nh:Nat),.bool true])) w7 from⟨nh,M7,K7,rfl,by rw[Nf.out];exact OY,ko,H1.out.2.1.trans (H5.out.1.trans (H5.out.2.1.trans gH)),by have:=RG.out;omega,by
      obtain⟨l1,e1⟩:=H5.out.2.2;obtain⟨l2,e2⟩:=hw7
      exact⟨l1++l2,by rw[e1,e2];simp⟩⟩)
     have rQ:=HS.out _ _ (H5.out.2.1.trans gH);clear OY ko gH hx7 hw7;refine aO.out _ _ rQ (fun hHeld=>?_);clear aO KC;try simp only[Act.put,aZ,bq,bA]
     repeat
      (first|refine aD 10 (v:=?_) rfl ?hy ?_|refine aD 11 (v:=?_) rfl ?hy ?_|refine aD 12 (v:=?_) rfl ?hy ?_|refine aD 13 (v:=?_) rfl ?hy ?_
       case hy=>
        intro w0 hS;obtain⟨c0,c1,c2⟩:=hS;go_simp
        (first|done|with_reducible rfl)
       try simp only[Act.put,aZ,bq,bA])
     refine wpAnyH_done (by decide +kernel) ?_ _;clear hHeld;clear rQ;go_wp2_with fail;rw[HF.out];exact H7.out
  ·subst ho;subst hj0;obtain⟨b15,p9⟩:∃b,b=w.heap.size+1:=⟨_,rfl⟩;obtain⟨W2,hW2⟩:∃W2,W2=W1.alloc (.cells #[] 3):=⟨_,rfl⟩;have hs1:W1.heap.size=w.heap.size+1:=by rw[hW1];simp
   obtain⟨hm2,ht2⟩:=bG H1.out.1 hW2;have hL2:jo W1.heap.size (bJ K1 W1.heap.size 0) W2 (.slice (some ⟨b15,0,none⟩) 0 0) []:=by rw[hW2,p9,←hs1];exact jo.fresh W1
   obtain⟨K2,hK2⟩:∃K2,K2=bJ K1 W1.heap.size 0:=⟨_,rfl⟩;rw[←hK2]at hm2 ht2 hL2;have H2:=Lib.hid (And.intro hm2 (And.intro ht2 hL2));clear z0 z1 z2 zl;obtain⟨z0,z1,z2,zl⟩:=dJ.out K2 W2 ht2;clear hm2 ht2 hL2 hK2 hs1;go_wp2_with fail;rw[←p9,←hW1,←hbx,←hW2];clear p9 hW1 hbx hW2 z0 z1 z2 zl
   go_loopg [15,17,18,19,106,107,108,109,110,111,112,113,114,115,116,117,118,119,120,121,122] 2 (fun q v15 v17 v18 v19 sQ v107 Aw v109 Ay Dl Dm Dn Dp Dq Fy v117 Fz FC FD Kc Ke wr=>∃(j:Nat)(M':Bd.MS)(K':Nat→Nat)(l:List (Nat×Bd.BF)),q=2-j∧j≤2∧sQ=.int .i64 (j:Nat)∧l.length=j∧l.map (·.2)=(e.kids.take j).map (fun k=>k.val)∧Cli n room M' (l.reverse++hs)∧jo W1.heap.size K' wr v15 (l.map (·.1))∧aX K' wr p n room M'∧aj mX K1 W1 K' wr∧M'.next+4*j≤M.next+8*Bd.Ex.dw (e.kids.take j)∧∃l,M.waits=l++M'.waits)
   case atStart=>exact⟨0,M,K2,[],rfl,Nat.zero_le _,rfl,rfl,rfl,HC.out,H2.out.2.2,H2.out.1,H2.out.2.1,by simp[Bd.Ex.dw],[],rfl⟩
   case round=>
    clear H2;obtain⟨j,M',K',l,rfl,hj,rfl,hll,hlv,hc',hL',hm',ht',hx',hw'⟩:=hrel;obtain⟨pa,ca,hsh⟩:=hL'.acc.shape;rw[List.length_map,hll]at hsh;subst hsh;obtain⟨z0,z1,z2,zl⟩:=dJ.out K' wr ht';have HR:=Lib.hid (And.intro hc' (And.intro hL' (And.intro hm' (And.intro ht' (And.intro hx' (And.intro hw' (And.intro hll hlv)))))));clear hc' hL' hm' ht' hx' hw' hll hlv
    by_cases hlt:j<2
    ·have hji:(j:Int)<2:=by omega
     have hjd:decide ((j:Int)<2)=true:=decide_eq_true hji;obtain⟨x,hxk⟩:∃x,e.kids[j]?=some x:=⟨_,List.getElem?_eq_getElem (by rw[←HM.out.1];exact hlt)⟩;have b_:mD w0 K' wr:=H1.out.2.2.aG HR.out.2.2.2.1;obtain⟨g,o,A',c',hA,hg,k0,k1,k2,hV⟩:=HE.out.1.kid hxk;have k0:wr.cell? ⟨g,o+j*3,none⟩=some (.int .i64 x.op):=(b_.b.cell (p:=⟨g,_,none⟩) hg).trans k0;have k1:wr.cell? ⟨g,o+j*3+1,none⟩=some (.int .i64 x.var):=(b_.b.cell (p:=⟨g,_,none⟩) hg).trans k1;have k2:wr.cell? ⟨g,o+j*3+2,none⟩=some (.slice A' x.kids.length c'):=(b_.b.cell (p:=⟨g,_,none⟩) hg).trans k2;have hg:g<wr.heap.size:=Nat.lt_of_lt_of_le hg b_.b.size;have hsn:=Bd.Ex.eG hxk;have hxm:=List.mem_of_getElem? hxk;have hxs:=Bd.Ex.fJ hxm;have hxp:=x.size_pos;have h9:=Bd.Ex.aR e.kids (j+1);have hlx:x.kids.length≤9223372036854775807:=by have:=hV.cap;have:=hV.kY;unfold maxLen at this;omega
     have hbd:=gK.out;have hse:=zC.out;have xB:=HR.out.2.2.2.2.1;obtain⟨b17,rH⟩:∃b,b=wr.heap.size:=⟨_,rfl⟩;obtain⟨W5,mV⟩:∃W5,W5=wr.alloc (.cells #[.int .i64 x.op,.int .i64 x.var,.slice A' x.kids.length c'] 75):=⟨_,rfl⟩;obtain⟨uQ,pV⟩:=bG HR.out.2.2.1 mV;obtain⟨K5,OX⟩:∃K5,K5=bJ K' wr.heap.size 0:=⟨_,rfl⟩;rw[←OX]at uQ pV;have hll:=HR.out.2.2.2.2.2.2.1;have w_:=Bd.Ex.iR (e.kids.take j);have hjm:(e.kids.take j).length=j:=by rw[List.length_take];have:=HM.out.1;omega
     have Gn:=Bd.Ex.aR e.kids j;have cB:=pW.out A' c' x W5 K5 M' (l.reverse++hs) (by omega) (by omega) ((Bd.Ex.dW.1 HE.out.2.1).2 x hxm) (Bd.Ex.jy HE.out.2.2 hxm) hV (b_.aG pV) HR.out.1 (by omega) (Nat.le_trans (Nat.mul_le_mul_right _ (by rw[List.length_append,List.length_reverse];omega)) hbd.2.2.2) uQ;unfold dz bN at cB;have lI:=Lib.hid cB;have HX:=Lib.hid (And.intro hsn (And.intro hxs (And.intro hxp (And.intro h9 hxk))));have H5:=Lib.hid (And.intro (HR.out.2.2.2.1.trans pV) (HR.out.2.1.aG pV));subst hA;clear hV b_ hsn hxm hxs hxp h9 cB hbd hse xB hxk uQ pV OX w_ hjm Gn hll
     go_wp2_with (rw[←mV,←rH];clear mV rH;refine(lI.out).mono ?_)
     rintro r w6 ⟨hk,M6,K6,rfl,hc6,zD,ow,hx6,rP⟩;obtain⟨ko,gH⟩:=bG (o:=.cells #[.int .i64 (hk:Nat)] 3) zD rfl;have hL7:=(H5.out.2.aG ow).aG gH;have rQ:=hL7.acc.1;rw[List.length_map,HR.out.2.2.2.2.2.2.1]at rQ;have RD:=Lib.hid rQ;have H6:=Lib.hid (And.intro hc6 (And.intro ko (And.intro (H5.out.1.trans (ow.trans gH)) (And.intro hx6 (And.intro rP hL7)))));clear hc6 zD ow hx6 rP ko gH hL7 rQ z0 z1 z2 zl k0 k1 k2 hg
     go_wp2_with (at_builtin;refine aA _ rfl _ _ _ rfl jq rfl RD.out rfl (aL (by simp)) rfl (by simp[Value.oneCell']) (by omega) ?_;intro g2 c2 w8 hq2;have HQ:=Lib.hid hq2;clear hq2)
     go_roundg (2-(j+1))
     case rel=>
      obtain⟨hc6,ko,gH,hx6,rP,hL7⟩:=H6.out;have hq:bY _ 3 1 (.slice pa j ca) j 1 _ g2 c2 w8:=HQ.out;obtain⟨q1,q2,q3⟩:=hL7.push (a:=hk) (by rw[List.length_map];exact HR.out.2.2.2.2.2.2.1) gH.size hq;refine⟨j+1,M6,_,l++[(hk,x.val)],rfl,by omega,by go_num,by rw[List.length_append,HR.out.2.2.2.2.2.2.1];rfl,?_,?_,?_,q2 _ _ _ _ ko,q3 _ _ (Nat.le_refl _) gH,?_,?_⟩
      ·rw[List.map_append,HR.out.2.2.2.2.2.2.2,List.take_add_one,HX.out.2.2.2.2,List.map_append];rfl
      ·rw[List.reverse_append];exact hc6
      ·rw[List.map_append];exact q1
      ·have:=HX.out;have:=HR.out.2.2.2.2.1;omega
      ·obtain⟨l1,e1⟩:=HR.out.2.2.2.2.2.1;obtain⟨l2,e2⟩:=rP;exact⟨l1++l2,by rw[e1,e2];simp⟩
     case measure=>omega
    ·obtain rfl:j=2:=by omega
     obtain⟨hc',hL',hm',ht',hx',hw',hll,hlv⟩:=HR.out
     have IK:M'.next+4≤M.next+8*e.size-8:=by
      have h1:=Bd.Ex.aR e.kids 2;have h2:=zC.out;omega
     have RG:=Lib.hid IK;have hall:e.kids.take 2=e.kids:=List.take_of_length_le (by rw[←HM.out.1];exact Nat.le_refl _);rw[hall]at hlv;obtain⟨⟨ha,fa⟩,⟨hb,fb⟩,rfl⟩:=OU hll;have hc':Cli n room M' ((hb,fb)::(ha,fa)::hs):=hc';obtain⟨ψ,hψ⟩:∃ψ:Bd.BF,ψ=fun s=>Bd.cZ 9 (fa s) (fb s):=⟨_,rfl⟩
     have Nf:=Lib.hid (show e.val=ψ by
      rw[wR.out,hψ]
      funext s
      have h1:e.kids.map (fun k=>k.val s)=[fa s,fb s]:=by
       have:=congrArg (List.map (fun f:Bd.BF=>f s)) hlv;rw[List.map_map,List.map_map]at this;exact this.symm
      rw[h1,Bd.aam])
     obtain⟨g0,a0,hpp,hg0,ha0,hc0⟩:=hL'.acc.dM.wN (j:=0) rfl (by decide);subst hpp
     have hS:∀K7 w7,aj mX K' wr K7 w7→w7.cell? ⟨bx,0,none⟩=some (.int .i64 9)∧w7.cell? ⟨g0,0,none⟩=some (.int .i64 (ha:Nat))∧w7.cell? ⟨g0,1,none⟩=some (.int .i64 (hb:Nat)):=fun K7 w7 t=>by
      obtain⟨y0,-,-,-⟩:=dJ.out K7 w7 (ht'.trans t);obtain⟨g1,a1,hp1,-,ha1,hc1⟩:=(hL'.aG t).acc.dM.wN (j:=0) rfl (by decide);obtain⟨g2,a2,hp2,-,ha2,hc2⟩:=(hL'.aG t).acc.dM.wN (j:=1) rfl (by decide);obtain rfl:ha=a1:=by simpa using ha1
      obtain rfl:hb=a2:=by simpa using ha2
      obtain rfl:g0=g1:=by injection hp1 with h;injection h
      obtain rfl:g0=g2:=by injection hp2 with h;injection h
      exact⟨y0,hc1,hc2⟩
     have HS:=Lib.hid hS;obtain⟨w5,jS⟩:∃w5,w5=wr.drew:=⟨_,rfl⟩;have hbd:Below wr.heap.size wr w5:=by rw[jS];exact(Below.refl _ _).drew
     have htd:aj mX K' wr K' w5:=aj.of_below hbd;have cJ:=lC (op:=9) (by simp) hc' HG.out.1 HG.out.2.1 HG.out.2.2 (by have:=gK.out.2.2.1;omega) (Nat.le_trans (Nat.mul_le_mul_right _ (by omega)) gK.out.2.2.2) (hm'.below hbd);rw[←hψ]at cJ;have OZ:=Lib.hid cJ;have H5:=Lib.hid (And.intro ht' (And.intro htd hw'));clear hc' hψ ha0 hc0 hg0 hL' hlv hll hall hS hbd htd cJ hm' ht' hw' hx' IK;go_wp2_with fail;refine wp_region_held_drew (S:=fun W=>W.cell? ⟨bx,0,none⟩=some (.int .i64 9)∧W.cell? ⟨g0,0,none⟩=some (.int .i64 (ha:Nat))∧W.cell? ⟨g0,1,none⟩=some (.int .i64 (hb:Nat))) (by kernel_rfl) (HS.out _ _ (by rw[←jS];exact H5.out.2.1)) (fun hHeld=>?_)
     repeat
      (first|refine aD 0 (v:=?_) rfl ?hy ?_|refine aD 1 (v:=?_) rfl ?hy ?_|refine aD 2 (v:=?_) rfl ?hy ?_|refine aD 3 (v:=?_) rfl ?hy ?_|refine aD 4 (v:=?_) rfl ?hy ?_|refine aD 5 (v:=?_) rfl ?hy ?_|refine aD 6 (v:=?_) rfl ?hy ?_|refine aD 7 (v:=?_) rfl ?hy ?_|refine aD 8 (v:=?_) rfl ?hy ?_
       case hy=>
        intro w0 hS;obtain⟨c0,c1,c2⟩:=hS;go_simp
        (first|done|with_reducible rfl)
       try simp only[Act.put,aZ,bq,bA])
     rw[←jS];clear jS;refine wpAnyH_ready (rs:=[9]) (by decide +kernel) (by simp) (AllReadyH.cons (dA rfl) (fun KC aO=>?_) AllReadyH.nil);refine bW 100 ?_;go_simp;clear hHeld;refine(OZ.out).mono ?_;rintro r w7 ⟨nh,M7,K7,rfl,OY,ko,gH,hx7,hw7⟩
     have H7:=Lib.hid (show uq K w p n room M hs e.val (8*e.size-4) (.returned (.tuple #[.int .i64 (nh:Nat),.bool true])) w7 from⟨nh,M7,K7,rfl,by rw[Nf.out];exact OY,ko,H1.out.2.1.trans (H5.out.1.trans (H5.out.2.1.trans gH)),by have:=RG.out;omega,by
      obtain⟨l1,e1⟩:=H5.out.2.2;obtain⟨l2,e2⟩:=hw7
      exact⟨l1++l2,by rw[e1,e2];simp⟩⟩)
     have rQ:=HS.out _ _ (H5.out.2.1.trans gH);clear OY ko gH hx7 hw7;refine aO.out _ _ rQ (fun hHeld=>?_);clear aO KC;try simp only[Act.put,aZ,bq,bA]
     repeat
      (first|refine aD 10 (v:=?_) rfl ?hy ?_|refine aD 11 (v:=?_) rfl ?hy ?_|refine aD 12 (v:=?_) rfl ?hy ?_|refine aD 13 (v:=?_) rfl ?hy ?_
       case hy=>
        intro w0 hS;obtain⟨c0,c1,c2⟩:=hS;go_simp
        (first|done|with_reducible rfl)
       try simp only[Act.put,aZ,bq,bA])
     refine wpAnyH_done (by decide +kernel) ?_ _;clear hHeld;clear rQ;go_wp2_with fail;rw[HF.out];exact H7.out
  ·subst ho;subst hj0;obtain⟨b15,p9⟩:∃b,b=w.heap.size+1:=⟨_,rfl⟩;obtain⟨W2,hW2⟩:∃W2,W2=W1.alloc (.cells #[] 3):=⟨_,rfl⟩;have hs1:W1.heap.size=w.heap.size+1:=by rw[hW1];simp
   obtain⟨hm2,ht2⟩:=bG H1.out.1 hW2;have hL2:jo W1.heap.size (bJ K1 W1.heap.size 0) W2 (.slice (some ⟨b15,0,none⟩) 0 0) []:=by rw[hW2,p9,←hs1];exact jo.fresh W1
   obtain⟨K2,hK2⟩:∃K2,K2=bJ K1 W1.heap.size 0:=⟨_,rfl⟩;rw[←hK2]at hm2 ht2 hL2;have H2:=Lib.hid (And.intro hm2 (And.intro ht2 hL2));clear z0 z1 z2 zl;obtain⟨z0,z1,z2,zl⟩:=dJ.out K2 W2 ht2;clear hm2 ht2 hL2 hK2 hs1;go_wp2_with fail;rw[←p9,←hW1,←hbx,←hW2];clear p9 hW1 hbx hW2 z0 z1 z2 zl
   go_loopg [15,17,18,19,106,107,108,109,110,111,112,113,114,115,116,117,118,119,120,121,122] 3 (fun q v15 v17 v18 v19 sQ v107 Aw v109 Ay Dl Dm Dn Dp Dq Fy v117 Fz FC FD Kc Ke wr=>∃(j:Nat)(M':Bd.MS)(K':Nat→Nat)(l:List (Nat×Bd.BF)),q=3-j∧j≤3∧sQ=.int .i64 (j:Nat)∧l.length=j∧l.map (·.2)=(e.kids.take j).map (fun k=>k.val)∧Cli n room M' (l.reverse++hs)∧jo W1.heap.size K' wr v15 (l.map (·.1))∧aX K' wr p n room M'∧aj mX K1 W1 K' wr∧M'.next+4*j≤M.next+8*Bd.Ex.dw (e.kids.take j)∧∃l,M.waits=l++M'.waits)
   case atStart=>exact⟨0,M,K2,[],rfl,Nat.zero_le _,rfl,rfl,rfl,HC.out,H2.out.2.2,H2.out.1,H2.out.2.1,by simp[Bd.Ex.dw],[],rfl⟩
   case round=>
    clear H2;obtain⟨j,M',K',l,rfl,hj,rfl,hll,hlv,hc',hL',hm',ht',hx',hw'⟩:=hrel;obtain⟨pa,ca,hsh⟩:=hL'.acc.shape;rw[List.length_map,hll]at hsh;subst hsh;obtain⟨z0,z1,z2,zl⟩:=dJ.out K' wr ht';have HR:=Lib.hid (And.intro hc' (And.intro hL' (And.intro hm' (And.intro ht' (And.intro hx' (And.intro hw' (And.intro hll hlv)))))));clear hc' hL' hm' ht' hx' hw' hll hlv
    by_cases hlt:j<3
    ·have hji:(j:Int)<3:=by omega
     have hjd:decide ((j:Int)<3)=true:=decide_eq_true hji;obtain⟨x,hxk⟩:∃x,e.kids[j]?=some x:=⟨_,List.getElem?_eq_getElem (by rw[←HM.out.1];exact hlt)⟩;have b_:mD w0 K' wr:=H1.out.2.2.aG HR.out.2.2.2.1;obtain⟨g,o,A',c',hA,hg,k0,k1,k2,hV⟩:=HE.out.1.kid hxk;have k0:wr.cell? ⟨g,o+j*3,none⟩=some (.int .i64 x.op):=(b_.b.cell (p:=⟨g,_,none⟩) hg).trans k0;have k1:wr.cell? ⟨g,o+j*3+1,none⟩=some (.int .i64 x.var):=(b_.b.cell (p:=⟨g,_,none⟩) hg).trans k1;have k2:wr.cell? ⟨g,o+j*3+2,none⟩=some (.slice A' x.kids.length c'):=(b_.b.cell (p:=⟨g,_,none⟩) hg).trans k2;have hg:g<wr.heap.size:=Nat.lt_of_lt_of_le hg b_.b.size;have hsn:=Bd.Ex.eG hxk;have hxm:=List.mem_of_getElem? hxk;have hxs:=Bd.Ex.fJ hxm;have hxp:=x.size_pos;have h9:=Bd.Ex.aR e.kids (j+1);have hlx:x.kids.length≤9223372036854775807:=by have:=hV.cap;have:=hV.kY;unfold maxLen at this;omega
     have hbd:=gK.out;have hse:=zC.out;have xB:=HR.out.2.2.2.2.1;obtain⟨b17,rH⟩:∃b,b=wr.heap.size:=⟨_,rfl⟩;obtain⟨W5,mV⟩:∃W5,W5=wr.alloc (.cells #[.int .i64 x.op,.int .i64 x.var,.slice A' x.kids.length c'] 75):=⟨_,rfl⟩;obtain⟨uQ,pV⟩:=bG HR.out.2.2.1 mV;obtain⟨K5,OX⟩:∃K5,K5=bJ K' wr.heap.size 0:=⟨_,rfl⟩;rw[←OX]at uQ pV;have hll:=HR.out.2.2.2.2.2.2.1;have w_:=Bd.Ex.iR (e.kids.take j);have hjm:(e.kids.take j).length=j:=by rw[List.length_take];have:=HM.out.1;omega
     have Gn:=Bd.Ex.aR e.kids j;have cB:=pW.out A' c' x W5 K5 M' (l.reverse++hs) (by omega) (by omega) ((Bd.Ex.dW.1 HE.out.2.1).2 x hxm) (Bd.Ex.jy HE.out.2.2 hxm) hV (b_.aG pV) HR.out.1 (by omega) (Nat.le_trans (Nat.mul_le_mul_right _ (by rw[List.length_append,List.length_reverse];omega)) hbd.2.2.2) uQ;unfold dz bN at cB;have lI:=Lib.hid cB;have HX:=Lib.hid (And.intro hsn (And.intro hxs (And.intro hxp (And.intro h9 hxk))));have H5:=Lib.hid (And.intro (HR.out.2.2.2.1.trans pV) (HR.out.2.1.aG pV));subst hA;clear hV b_ hsn hxm hxs hxp h9 cB hbd hse xB hxk uQ pV OX w_ hjm Gn hll
     go_wp2_with (rw[←mV,←rH];clear mV rH;refine(lI.out).mono ?_)
     rintro r w6 ⟨hk,M6,K6,rfl,hc6,zD,ow,hx6,rP⟩;obtain⟨ko,gH⟩:=bG (o:=.cells #[.int .i64 (hk:Nat)] 3) zD rfl;have hL7:=(H5.out.2.aG ow).aG gH;have rQ:=hL7.acc.1;rw[List.length_map,HR.out.2.2.2.2.2.2.1]at rQ;have RD:=Lib.hid rQ;have H6:=Lib.hid (And.intro hc6 (And.intro ko (And.intro (H5.out.1.trans (ow.trans gH)) (And.intro hx6 (And.intro rP hL7)))));clear hc6 zD ow hx6 rP ko gH hL7 rQ z0 z1 z2 zl k0 k1 k2 hg
     go_wp2_with (at_builtin;refine aA _ rfl _ _ _ rfl jq rfl RD.out rfl (aL (by simp)) rfl (by simp[Value.oneCell']) (by omega) ?_;intro g2 c2 w8 hq2;have HQ:=Lib.hid hq2;clear hq2)
     go_roundg (3-(j+1))
     case rel=>
      obtain⟨hc6,ko,gH,hx6,rP,hL7⟩:=H6.out;have hq:bY _ 3 1 (.slice pa j ca) j 1 _ g2 c2 w8:=HQ.out;obtain⟨q1,q2,q3⟩:=hL7.push (a:=hk) (by rw[List.length_map];exact HR.out.2.2.2.2.2.2.1) gH.size hq;refine⟨j+1,M6,_,l++[(hk,x.val)],rfl,by omega,by go_num,by rw[List.length_append,HR.out.2.2.2.2.2.2.1];rfl,?_,?_,?_,q2 _ _ _ _ ko,q3 _ _ (Nat.le_refl _) gH,?_,?_⟩
      ·rw[List.map_append,HR.out.2.2.2.2.2.2.2,List.take_add_one,HX.out.2.2.2.2,List.map_append];rfl
      ·rw[List.reverse_append];exact hc6
      ·rw[List.map_append];exact q1
      ·have:=HX.out;have:=HR.out.2.2.2.2.1;omega
      ·obtain⟨l1,e1⟩:=HR.out.2.2.2.2.2.1;obtain⟨l2,e2⟩:=rP;exact⟨l1++l2,by rw[e1,e2];simp⟩
     case measure=>omega
    ·obtain rfl:j=3:=by omega
     obtain⟨hc',hL',hm',ht',hx',hw',hll,hlv⟩:=HR.out
     have IK:M'.next+4≤M.next+8*e.size-8:=by
      have h1:=Bd.Ex.aR e.kids 3;have h2:=zC.out;omega
     have RG:=Lib.hid IK;have hall:e.kids.take 3=e.kids:=List.take_of_length_le (by rw[←HM.out.1];exact Nat.le_refl _);rw[hall]at hlv;obtain⟨⟨ha,fa⟩,⟨hb,fb⟩,⟨hc,fc⟩,rfl⟩:=OV hll;have hc':Cli n room M' ((hc,fc)::(hb,fb)::(ha,fa)::hs):=hc';obtain⟨ψ,hψ⟩:∃ψ:Bd.BF,ψ=fun s=>if fa s then fb s else fc s:=⟨_,rfl⟩
     have Nf:=Lib.hid (show e.val=ψ by
      rw[wR.out,hψ]
      funext s
      have h1:e.kids.map (fun k=>k.val s)=[fa s,fb s,fc s]:=by
       have:=congrArg (List.map (fun f:Bd.BF=>f s)) hlv;rw[List.map_map,List.map_map]at this;exact this.symm
      rw[h1,Bd.Xe])
     obtain⟨g0,a0,hpp,hg0,ha0,hc0⟩:=hL'.acc.dM.wN (j:=0) rfl (by decide);subst hpp
     have hS:∀K7 w7,aj mX K' wr K7 w7→w7.cell? ⟨g0,0,none⟩=some (.int .i64 (ha:Nat))∧w7.cell? ⟨g0,1,none⟩=some (.int .i64 (hb:Nat))∧w7.cell? ⟨g0,2,none⟩=some (.int .i64 (hc:Nat)):=fun K7 w7 t=>by
      obtain⟨g1,a1,hp1,-,ha1,hc1⟩:=(hL'.aG t).acc.dM.wN (j:=0) rfl (by decide);obtain⟨g2,a2,hp2,-,ha2,hc2⟩:=(hL'.aG t).acc.dM.wN (j:=1) rfl (by decide);obtain⟨g3,a3,hp3,-,ha3,hc3⟩:=(hL'.aG t).acc.dM.wN (j:=2) rfl (by decide);obtain rfl:ha=a1:=by simpa using ha1
      obtain rfl:hb=a2:=by simpa using ha2
      obtain rfl:hc=a3:=by simpa using ha3
      obtain rfl:g0=g1:=by injection hp1 with h;injection h
      obtain rfl:g0=g2:=by injection hp2 with h;injection h
      obtain rfl:g0=g3:=by injection hp3 with h;injection h
      exact⟨hc1,hc2,hc3⟩
     have HS:=Lib.hid hS;obtain⟨w5,jS⟩:∃w5,w5=wr.drew:=⟨_,rfl⟩;have hbd:Below wr.heap.size wr w5:=by rw[jS];exact(Below.refl _ _).drew
     have htd:aj mX K' wr K' w5:=aj.of_below hbd;have cJ:=nX (kV hc'.inv HG.out.1 HG.out.2.1 HG.out.2.2 (by have:=gK.out.2.2.1;omega) (oO (h:=hs.length+5) (by rw[hc'.len];simp) (Nat.le_trans (Nat.mul_le_mul_right _ (by omega)) gK.out.2.2.2)) (hc'.fn (ha,fa) (by simp)) (hc'.fn (hb,fb) (by simp)) (hc'.fn (hc,fc) (by simp)) (hm'.below hbd)) hc';have cJ:Calls Tryz.prog 27 #[.pointer (some ⟨p,0,none⟩),.int .i64 (ha:Nat),.int .i64 (hb:Nat),.int .i64 (hc:Nat)] w5 (Gl K' w5 p n room M' ((hc,fc)::(hb,fb)::(ha,fa)::hs) ψ):=by rw[hψ];exact cJ
     have OZ:=Lib.hid cJ;have H5:=Lib.hid (And.intro ht' (And.intro htd hw'));clear hc' hψ ha0 hc0 hg0 hL' hlv hll hall hS hbd htd cJ hm' ht' hw' hx' IK;go_wp2_with fail;refine wp_region_held_drew (S:=fun W=>W.cell? ⟨g0,0,none⟩=some (.int .i64 (ha:Nat))∧W.cell? ⟨g0,1,none⟩=some (.int .i64 (hb:Nat))∧W.cell? ⟨g0,2,none⟩=some (.int .i64 (hc:Nat))) (by kernel_rfl) (HS.out _ _ (by rw[←jS];exact H5.out.2.1)) (fun hHeld=>?_)
     repeat
      (first|refine aD 0 (v:=?_) rfl ?hy ?_|refine aD 1 (v:=?_) rfl ?hy ?_|refine aD 2 (v:=?_) rfl ?hy ?_|refine aD 3 (v:=?_) rfl ?hy ?_|refine aD 4 (v:=?_) rfl ?hy ?_|refine aD 5 (v:=?_) rfl ?hy ?_|refine aD 6 (v:=?_) rfl ?hy ?_|refine aD 7 (v:=?_) rfl ?hy ?_|refine aD 8 (v:=?_) rfl ?hy ?_|refine aD 9 (v:=?_) rfl ?hy ?_
       case hy=>
        intro w0 hS;obtain⟨c0,c1,c2⟩:=hS;go_simp
        (first|done|with_reducible rfl)
       try simp only[Act.put,aZ,bq,bA])
     rw[←jS];clear jS;refine wpAnyH_ready (rs:=[10]) (by decide +kernel) (by simp) (AllReadyH.cons (dA rfl) (fun KC aO=>?_) AllReadyH.nil);refine bW 27 ?_;go_simp;clear hHeld;refine(OZ.out).mono ?_;rintro r w7 ⟨nh,M7,K7,rfl,OY,ko,gH,hx7,hw7⟩;have H7:=Lib.hid (And.intro OY (And.intro ko (And.intro (H5.out.2.1.trans gH) (And.intro hx7 hw7))));have rQ:=HS.out _ _ H7.out.2.2.1;clear OY ko gH hx7 hw7;refine aO.out _ _ rQ (fun hHeld=>?_);clear aO KC;try simp only[Act.put,aZ,bq,bA]
     repeat
      (first|refine aD 11 (v:=?_) rfl ?hy ?_|refine aD 12 (v:=?_) rfl ?hy ?_|refine aD 13 (v:=?_) rfl ?hy ?_|refine aD 14 (v:=?_) rfl ?hy ?_|refine aD 15 (v:=?_) rfl ?hy ?_
       case hy=>
        intro w0 hS;obtain⟨c0,c1,c2⟩:=hS;go_simp
        (first|done|with_reducible rfl)
       try simp only[Act.put,aZ,bq,bA])
     refine wpAnyH_done (by decide +kernel) ?_ _;clear hHeld;clear rQ;obtain⟨w8,hw8⟩:∃w8,w8=w7.drew:=⟨_,rfl⟩;have H8:=Lib.hid (show aX K7 w8 p n room M7∧aj mX K' wr K7 w8 from⟨H7.out.2.1.below (by rw[hw8];exact(Below.refl _ _).drew),H7.out.2.2.1.trans (aj.of_below (by rw[hw8];exact(Below.refl _ _).drew))⟩);go_wp2_with fail;refine wp_region_held_drew (S:=fun W=>W.cell? ⟨g0,0,none⟩=some (.int .i64 (ha:Nat))∧W.cell? ⟨g0,1,none⟩=some (.int .i64 (hb:Nat))∧W.cell? ⟨g0,2,none⟩=some (.int .i64 (hc:Nat))) (by kernel_rfl) (HS.out _ _ (by rw[←hw8];exact H8.out.2)) (fun hHeld=>?_)
     repeat
      (first|refine aD 0 (v:=?_) rfl ?hy ?_|refine aD 1 (v:=?_) rfl ?hy ?_|refine aD 2 (v:=?_) rfl ?hy ?_|refine aD 3 (v:=?_) rfl ?hy ?_|refine aD 4 (v:=?_) rfl ?hy ?_|refine aD 5 (v:=?_) rfl ?hy ?_|refine aD 6 (v:=?_) rfl ?hy ?_|refine aD 7 (v:=?_) rfl ?hy ?_|refine aD 8 (v:=?_) rfl ?hy ?_|refine aD 9 (v:=?_) rfl ?hy ?_|refine aD 10 (v:=?_) rfl ?hy ?_|refine aD 11 (v:=?_) rfl ?hy ?_|refine aD 12 (v:=?_) rfl ?hy ?_|refine aD 13 (v:=?_) rfl ?hy ?_
       case hy=>
        intro w0 hS;obtain⟨c0,c1,c2⟩:=hS;go_simp
        (first|done|with_reducible rfl)
       try simp only[Act.put,aZ,bq,bA])
     rw[←hw8];clear hw8;refine wpAnyH_ready (rs:=[14]) (by decide +kernel) (by simp) (AllReadyH.cons (dA rfl) (fun KC aO=>?_) AllReadyH.nil);refine isAny ?_;go_simp;clear hHeld;obtain⟨b9,tX⟩:∃b9,b9=w8.heap.size:=⟨_,rfl⟩;obtain⟨w9,tH⟩:∃w9,w9=w8.alloc (.cells #[.int .i64 (ha:Nat),.int .i64 (hb:Nat),.int .i64 (hc:Nat)] 3):=⟨_,rfl⟩;obtain⟨rG,tF⟩:=bG H8.out.1 tH;have cD:=eO (l:=[(ha,fa),(hb,fb),(hc,fc)]) (hs:=(nh,ψ)::hs) (H7.out.1.perm (Zc _ _ _ _ _)) (by have:=HG.out.2.1;omega) HG.out.2.2 (by have:=RG.out;have:=H7.out.2.2.2.1;have:=gK.out.2.2.1;omega) (by simp) rG (v:=.slice (some ⟨b9,0,none⟩) 3 3) (DX (by rw[tH,tX];exact heap_alloc_new _ _)) (fun g m c e=>by injection e with e;injection e with e;injection e with e;rw[←e,tX];exact aW _ _ _);have HD:=Lib.hid cD;have H9:=Lib.hid (H8.out.2.trans tF);rw[←tH,←tX];clear tH tX rG tF cD;refine aO.out _ _ (HS.out _ _ H9.out) (fun hHeld=>?_);clear aO KC;(try simp only[Act.put,aZ,bq,bA]);refine wpAnyH_ready (rs:=[15]) (by decide +kernel) (by simp) (AllReadyH.cons (dA rfl) (fun KC aO=>?_) AllReadyH.nil);refine bW 16 ?_;go_simp;clear hHeld;refine(HD.out).mono ?_;rintro r Zf ⟨rfl,M9,K9,xM,rG,tF,wZ,tH⟩
     have Px:=Lib.hid (show uq K w p n room M hs e.val (8*e.size-4) (.returned (.tuple #[.int .i64 (nh:Nat),.bool true])) Zf from⟨nh,M9,K9,rfl,by rw[Nf.out];exact xM,rG,H1.out.2.1.trans (H5.out.1.trans (H9.out.trans tF)),by have:=RG.out;have:=H7.out.2.2.2.1;omega,by
      obtain⟨l1,e1⟩:=H5.out.2.2;obtain⟨l2,e2⟩:=H7.out.2.2.2.2
      exact⟨l1++l2,by rw[tH,e1,e2];simp⟩⟩)
     have hS9:=HS.out _ _ (H9.out.trans tF);clear xM rG tF wZ tH;refine aO.out _ _ hS9 (fun hHeld=>?_);clear aO KC;try simp only[Act.put,aZ,bq,bA]
     repeat
      (first|refine aD 16 (v:=?_) rfl ?hy ?_|refine aD 17 (v:=?_) rfl ?hy ?_|refine aD 18 (v:=?_) rfl ?hy ?_|refine aD 19 (v:=?_) rfl ?hy ?_
       case hy=>
        intro w0 hS;obtain⟨c0,c1,c2⟩:=hS;go_simp
        (first|done|with_reducible rfl)
       try simp only[Act.put,aZ,bq,bA])
     refine wpAnyH_done (by decide +kernel) ?_ _;clear hHeld;clear hS9;go_wp2_with fail;rw[HF.out];exact Px.out
end
end Go.Proofs.YtpijlhlpejlhhaaGreat
