/- Walks and plain words: MnI MnJ QuA. -/
import Derived.Test.YtpijlhlpejlhhaaGreatVMnE
import Derived.Test.YtpijlhlpejlhhaaGreatVEgC
import Derived.Deep.CutRange
namespace Go.Proofs.YtpijlhlpejlhhaaGreat
open Go.RowKit
set_option linter.unusedVariables false
set_option maxRecDepth 100000
set_option maxHeartbeats 8000000
section
section
variable {K K':Nat→Nat} {w w':World} {p xb n room k l m:Nat} {A:ML} {M M':Bd.MS} {t:Nat→iN} {r:Ending}
theorem yT(h:fB M t){op a b c:Nat}(hf:(j6 4096 t op a b c).2=true):∃r:Nat,(j6 4096 t op a b c).1=(r:Int)∧Bd.Good M op a b c r:=by
 unfold j6 at hf⊢
 split at hf
 ·rename_i hc
  rw[if_pos hc];simp only[Bool.and_eq_true]at hc;obtain⟨op',a',b',c',r,h1,h2⟩:=h _ hc.1;have hk:=hc.2;rw[h1]at hk⊢;unfold vQ at hk;simp only[Bool.and_eq_true,beq_iff_eq]at hk;obtain⟨⟨⟨e1,e2⟩,e3⟩,e4⟩:=hk;obtain rfl:op'=op:=by omega
  obtain rfl:a'=a:=by omega
  obtain rfl:b'=b:=by omega
  obtain rfl:c'=c:=by omega
  exact⟨r,rfl,h2⟩
 ·cases hf
theorem Dt(h:fB M t){op a b c r:Nat}(hg:Bd.Good M op a b c r):fB M (vS 4096 t op a b c r):=fun i hf=>by
 unfold vS at hf⊢
 by_cases e:i=dQ 4096 op a b c
 ·rw[if_pos e]at hf⊢;exact⟨op,a,b,c,r,rfl,hg⟩
 ·rw[if_neg e]at hf⊢;exact h i hf
/-- What Ite returns. -/
def QZ(M:Bd.MS)(f g h:Nat)(M':Bd.MS)(r:Nat):Prop:=Bd.De M'.D r=Bd.jV M.D f g h∧∀L,Bd.und M.S.nd M.ah L f→Bd.und M.S.nd M.ah L g→Bd.und M.S.nd M.ah L h→Bd.und M'.S.nd M'.ah L r
theorem FM(a b:Nat):(((a:Nat):Int)==((b:Nat):Int))=(a==b):=by
 by_cases h:a=b
 ·subst h;simp
 ·have h1:(a==b)=false:=by simp[h]
  have h2:(((a:Nat):Int)==((b:Nat):Int))=false:=by simp;omega
  rw[h1,h2]
theorem yU(hn:n≤1000000)(hrm:room≤1048576)(k:Nat)(IH:∀k',k=k'+1→∀(L f g h:Nat) (M:Bd.MS) (K:Nat→Nat) (w:World),n≤L+k'→Bd.Inv n room M→Bd.und M.S.nd M.ah L f→Bd.und M.S.nd M.ah L g→Bd.und M.S.nd M.ah L h→dL K w xb p→aX K w p n room M →
 Calls Tryz.prog 81 #[.pointer (some ⟨xb,0,none⟩),.int .i64 (f:Nat),.int .i64 (g:Nat),.int .i64 (h:Nat)] w (oF K w p n room M (2^k'-1) (QZ M f g h)))
 (L f g h:Nat) (M:Bd.MS) (K:Nat→Nat) (w:World) (hL:n≤L+k) (hi:Bd.Inv n room M) (hf:Bd.und M.S.nd M.ah L f) (hg:Bd.und M.S.nd M.ah L g) (hh:Bd.und M.S.nd M.ah L h) (hc:dL K w xb p) (hm:aX K w p n room M) :
 Calls Tryz.prog 81 #[.pointer (some ⟨xb,0,none⟩),.int .i64 (f:Nat),.int .i64 (g:Nat),.int .i64 (h:Nat)] w (oF K w p n room M (2^k-1) (QZ M f g h)):=by
 obtain⟨F,HF⟩:=aJ (oF K w p n room M (2^k-1) (QZ M f g h));rw[←HF.out];have HI:=Lib.hid hi;have HU:=Lib.hid (And.intro hf (And.intro hg hh));have HC:=Lib.hid hc;have HM:=Lib.hid hm;have pW:=Lib.hid IH;clear hi hf hg hh hc hm IH;go_in
 go_upto_block 0 with fail
 go_cut [1,2,3,9,10,11,12,13,14,15]from 27 to 63 (fun v1 v2 v3 v9 v10 v11 v12 v13 v14 v15 W=>∃(f' g' h':Nat)(b:Bool),v1=.int .i64 (f':Nat)∧v2=.int .i64 (g':Nat)∧v3=.int .i64 (h':Nat)∧v9=.bool b∧(∀s,Bd.jV M.D f g h s=xor b (Bd.jV M.D f' g' h' s))∧(∀L',Bd.und M.S.nd M.ah L' f→Bd.und M.S.nd M.ah L' g→Bd.und M.S.nd M.ah L' h→Bd.und M.S.nd M.ah L' f'∧Bd.und M.S.nd M.ah L' g'∧Bd.und M.S.nd M.ah L' h')∧f'/2≠0∧W=w)
 case first=>
  go_wp2_with fail
  go_loopg [1,2,3,9,10,11,12,13,14,15,27,28,29,30,31,32,33,34,35,36,37,38,39,40,41,42,43,44,45,46,47,48,49,50,51,52,53,54,55,56,57,58,59,60,61,62,63] 3 (fun q v1 v2 v3 v9 v10 v11 v12 v13 v14 v15 v27 v28 v29 v30 v31 v32 v33 v34 v35 v36 v37 v38 v39 v40 v41 v42 v43 v44 v45 v46 v47 v48 v49 v50 v51 v52 v53 v54 v55 v56 v57 v58 v59 v60 v61 v62 v63 wr=>∃(j f' g' h':Nat)(b:Bool),q=3-j∧j≤3∧v27=.int .i64 (j:Nat)∧v1=.int .i64 (f':Nat)∧v2=.int .i64 (g':Nat)∧v3=.int .i64 (h':Nat)∧v9=.bool b∧(∀s,Bd.jV M.D f g h s=xor b (Bd.jV M.D f' g' h' s))∧(∀L',Bd.und M.S.nd M.ah L' f→Bd.und M.S.nd M.ah L' g→Bd.und M.S.nd M.ah L' h→Bd.und M.S.nd M.ah L' f'∧Bd.und M.S.nd M.ah L' g'∧Bd.und M.S.nd M.ah L' h')∧(j≠0→f'/2≠0)∧wr=w)
  case atStart=>exact⟨0,f,g,h,false,rfl,by omega,rfl,rfl,rfl,rfl,rfl,fun s=>by simp,fun L' a b c=>⟨a,b,c⟩,fun h=>absurd rfl h,rfl⟩
  case round=>
   obtain⟨j,f',g',h',b,rfl,hj,rfl,rfl,rfl,rfl,rfl,he,hu,hz,rfl⟩:=hrel;have HE:=Lib.hid he;have HW:=Lib.hid hu;have HZ:=Lib.hid hz;clear he hu hz
   by_cases hlt:j<3
   ·have hji:(j:Int)<3:=by omega
    obtain⟨uf,ug,uh⟩:=HW.out L HU.out.1 HU.out.2.1 HU.out.2.2;have sf:=bF HI.out.si hrm uf.ok;have sg:=bF HI.out.si hrm ug.ok;have sh:=bF HI.out.si hrm uh.ok;have cI:=N8 f' g' h' wr sf sg sh;unfold NZ at cI
    cases hN:Bd.PK f' g' h' with
    |inr r=>
     rw[hN]at cI;simp only at cI;have hru:=Bd.qp uf ug uh hN;have cF:=gq r b wr (bF HI.out.si hrm hru.ok);have HN:=Lib.hid hN;clear hN uf ug uh hru
     go_wp2_with (first|(go_at_call 134;with_reducible refine cI.mono ?_;rintro x w' ⟨rfl,hw⟩;rw[hw];clear hw cI)|(go_at_call 80;with_reducible refine cF.mono ?_;rintro x w' ⟨rfl,hw⟩;rw[hw];clear hw cF))
     rw[HF.out];refine .inl ⟨_,M,K,rfl,⟨Bd.zR HE.out (Bd.LY HI.out.gi HN.out),fun L' a b c=>?_⟩,HI.out,Bd.Grow.refl.mono (Nat.zero_le _),HM.out,aj.refl⟩;obtain⟨uf,ug,uh⟩:=HW.out L' a b c;exact Bd.bT (Bd.qp uf ug uh HN.out)
    |inl q=>
     obtain⟨a,b1,c,t1⟩:=q;rw[hN]at cI;simp only at cI;obtain⟨n1,n2,n3,n4,n5⟩:=Bd.LZ HI.out.gi hN;have hz2:f'/2≠0:=by omega
     have hnew:∀s,Bd.jV M.D f g h s=xor (b != t1) (Bd.jV M.D a b1 c s):=fun s=>by rw[HE.out,n1];cases b<;>cases t1<;>simp
     have oQ:∀L',Bd.und M.S.nd M.ah L' f→Bd.und M.S.nd M.ah L' g→Bd.und M.S.nd M.ah L' h→Bd.und M.S.nd M.ah L' a∧Bd.und M.S.nd M.ah L' b1∧Bd.und M.S.nd M.ah L' c:=fun L' x y z=>by
      obtain⟨uf,ug,uh⟩:=HW.out L' x y z;exact n2 L' uf ug uh
     have hza:a/2≠0:=by omega
     have HX:=Lib.hid (And.intro hnew (And.intro oQ hza));clear hN uf ug uh n1 n2 n3 n4 n5 hnew oQ hza hz2
     by_cases heq:a=f'∧b1=g'∧c=h'
     ·obtain⟨rfl,rfl,rfl⟩:=heq
      go_wp2_with (go_at_call 134;with_reducible refine cI.mono ?_;rintro x w' ⟨rfl,hw⟩;rw[hw];clear hw cI)
      go_meet
      case rel=>exact⟨a,b1,c,_,rfl,rfl,rfl,rfl,HX.out.1,HX.out.2.1,HX.out.2.2,rfl⟩
     ·by_cases x1:a=f'
      ·subst x1
       by_cases x2:b1=g'
       ·subst x2
        have x3:(((c:Nat):Int)==((h':Nat):Int))=false:=by
         rw[FM];simp;exact fun z=>heq ⟨rfl,rfl,z⟩
        clear heq
        go_wp2_with (go_at_call 134;with_reducible refine cI.mono ?_;rintro x w' ⟨rfl,hw⟩;rw[hw];clear hw cI)
        go_roundg (3-(j+1))
        case rel=>exact⟨j+1,a,b1,c,_,rfl,by omega,by simp,rfl,rfl,rfl,rfl,HX.out.1,HX.out.2.1,fun _=>HX.out.2.2,rfl⟩
        case measure=>omega
       ·have x3:(((b1:Nat):Int)==((g':Nat):Int))=false:=by rw[FM];simp[x2]
        clear heq x2
        go_wp2_with (go_at_call 134;with_reducible refine cI.mono ?_;rintro x w' ⟨rfl,hw⟩;rw[hw];clear hw cI)
        go_roundg (3-(j+1))
        case rel=>exact⟨j+1,a,b1,c,_,rfl,by omega,by simp,rfl,rfl,rfl,rfl,HX.out.1,HX.out.2.1,fun _=>HX.out.2.2,rfl⟩
        case measure=>omega
      ·have x3:(((a:Nat):Int)==((f':Nat):Int))=false:=by rw[FM];simp[x1]
       clear heq x1
       go_wp2_with (go_at_call 134;with_reducible refine cI.mono ?_;rintro x w' ⟨rfl,hw⟩;rw[hw];clear hw cI)
       go_roundg (3-(j+1))
       case rel=>exact⟨j+1,a,b1,c,_,rfl,by omega,by simp,rfl,rfl,rfl,rfl,HX.out.1,HX.out.2.1,fun _=>HX.out.2.2,rfl⟩
       case measure=>omega
   ·obtain rfl:j=3:=by omega
    go_wp2
    go_meet
    case rel=>exact⟨f',g',h',b,rfl,rfl,rfl,rfl,HE.out,HW.out,HZ.out (by omega),rfl⟩
 case rest=>
  obtain⟨f',g',h',b,rfl,rfl,rfl,rfl,he,hu,hz,rfl⟩:=hcut;obtain⟨uf,ug,uh⟩:=hu L HU.out.1 HU.out.2.1 HU.out.2.2
  obtain⟨d0,hd0,hl0⟩:∃d0,M.S.nd (f'/2)=some d0∧L≤M.ah d0.v:=by
   rcases uf with h|⟨d,h,h2⟩
   ·exact absurd h hz
   ·exact⟨d,h,h2⟩
  have hl1:=HI.out.gi.ll _ (HI.out.gi.lt _ _ hd0);obtain⟨k',rfl⟩:∃k',k=k'+1:=⟨k-1,by omega⟩;have hIH:=pW.out k' rfl;have sf:=bF HI.out.si hrm uf.ok;have sg:=bF HI.out.si hrm ug.ok;have sh:=bF HI.out.si hrm uh.ok;obtain⟨t,A,hA,hG⟩:=HM.out.ex;have yx:=HC.out.cell;have y1:=hA.c1;have cG:=CP hA.memo 1 f' g' h'
  have htop:=Bd.vw HI.out.gi (l:=[f',g',h']) (by
   intro x hx;simp only[List.mem_cons,List.not_mem_nil,or_false]at hx
   rcases hx with rfl|rfl|rfl
   ·exact uf.ok
   ·exact ug.ok
   ·exact uh.ok)
  obtain⟨v,hv⟩:∃v,Bd.mI M.S.nd M.ah [f',g',h']=some v:=by
   cases ht:Bd.mI M.S.nd M.ah [f',g',h']with
   |some v=>exact⟨v,rfl⟩
   |none=>rw[ht]at htop;exact absurd (htop f' (by simp)) hz
  rw[hv]at htop
  have N9:=Bd.qB HI.out.gi htop (L:=L) (by
   intro x hx;simp only[List.mem_cons,List.not_mem_nil,or_false]at hx
   rcases hx with rfl|rfl|rfl<;>assumption)
  have HA:=Lib.hid hA;have HG:=Lib.hid hG;have HE:=Lib.hid (And.intro he hu);have Q6:=Lib.hid htop;have HV:=Lib.hid hv;have Yk:=Lib.hid hIH;clear hA hG he hu htop hv hIH uf ug uh hd0 pW hl1 hl0 hz
  cases hlk:(j6 4096 t 1 f' g' h').2 with
  |true=>
   obtain⟨r',hr',hgood⟩:=yT HG.out (op:=1) (a:=f') (b:=g') (c:=h') hlk;have hr2:(j6 4096 t 1 f' g' h').1=(r':Int):=hr';rw[hlk,hr2]at cG;have cF:=fun W=>gq r' b W (bF HI.out.si hrm hgood.or);have HGD:=Lib.hid hgood;clear hlk hr' hr2 hgood
   go_wp2_with (first|(go_at_call 135;with_reducible refine cG.mono ?_;rintro x w1 ⟨rfl,hm1,t1⟩;have H1:=Lib.hid (And.intro hm1 t1);clear hm1 t1 cG)|(go_at_call 80;with_reducible refine(cF _).mono ?_;rintro x w' ⟨rfl,hw⟩;rw[hw];clear hw cF))
   rw[HF.out];have hg:=HGD.out.ite rfl;have hM:=HA.out.EN H1.out.1 (H1.out.2.mono (fun r h=>.inl h));refine .inl ⟨_,M,K,rfl,⟨Bd.zR HE.out.1 hg.1,fun L' a b c=>?_⟩,HI.out,Bd.Grow.refl.mono (Nat.zero_le _),⟨t,⟨A,hM⟩,HG.out⟩,H1.out.2.mono (fun r h=>by unfold mR;omega)⟩;obtain⟨uf,ug,uh⟩:=HE.out.2 L' a b c;exact Bd.bT (hg.2 L' uf ug uh)
  |false=>
   rw[hlk]at cG;clear hlk
   go_wp2_with (go_at_call 135;with_reducible refine cG.mono ?_;rintro x w1 ⟨rfl,hm1,t1⟩;have H1:=Lib.hid (And.intro hm1 t1);clear hm1 t1 cG)
   obtain⟨W1,hW1⟩:∃W1,W1=w1.alloc (.cells #[.int .i64 (f':Nat),.int .i64 (g':Nat),.int .i64 (h':Nat)] 107):=⟨_,rfl⟩;have hb1:Below w1.heap.size w1 W1:=by rw[hW1];exact(Below.refl _ _).alloc (Nat.le_refl _) _
   have hM1:bB K W1 p n room M t:=⟨A,(HA.out.EN H1.out.1 (H1.out.2.mono (fun r h=>.inl h))).aG (R:=fun _=>False) (aj.of_below hb1) (fun _ h=>h.elim)⟩;have hC1:dL K W1 xb p:=(HC.out.aG H1.out.2 (by omega)).below hb1
   have hE1:qW W1 (.slice (some ⟨w1.heap.size,0,none⟩) 3 3) [f',g',h']:=by
    refine .inr ⟨w1.heap.size,3,rfl,⟨_,by rw[hW1];exact heap_alloc_new _ _,by simp,fun i hi j hj=>?_⟩,Nat.le_refl _⟩;obtain rfl:j=0:=by omega
    simp only[List.length_cons,List.length_nil,Nat.zero_add,Nat.reduceAdd]at hi
    rcases(show i=0∨i=1∨i=2 by omega)with rfl|rfl|rfl<;>rfl
   have ht1:aj mR K wc K W1:=(H1.out.2.mono (fun r h=>by unfold mR;omega)).trans (aj.of_below hb1)
   have cT:=qX HI.out hn hrm (l:=[f',g',h']) (by
    intro x hx;simp only[List.mem_cons,List.not_mem_nil,or_false]at hx
    rcases hx with rfl|rfl|rfl<;>assumption) (by simp) hE1 hC1 hM1
   rw[HV.out]at cT;simp only[Ki]at cT;have cS:∀(e:Nat)(W:World),e<4611686018427387904→Below W1.heap.size W1 W→Calls Tryz.prog 72 #[.pointer (some ⟨xb,0,none⟩),.int .i64 (e:Nat),.int .i64 (v:Nat)] W fun r w'=>r=.returned (.tuple #[.int .i64 (Bd.aB M.S.nd e v:Nat),.int .i64 (Bd.aI M.S.nd e v:Nat)])∧Below W1.heap.size W1 w':=fun e W he hb=>(iZ HI.out hrm he (hC1.below hb) (hM1.below hb) v).mono (fun r w' h=>⟨h.1,hb.trans (h.2.mono hb.size)⟩);have HS:=Lib.hid cS;have HX:=Lib.hid (And.intro hM1 (And.intro hC1 ht1));rw[←hW1];clear hb1 hM1 hC1 hE1 ht1 cS hW1 y1
   go_wp2_with (first|(go_at_call 71;with_reducible refine cT.mono ?_;rintro x w2 ⟨rfl,hb2⟩;have HB2:=Lib.hid hb2;clear hb2 cT)|(go_at_call 72;with_reducible refine(HS.out f' _ sf HB2.out).mono ?_;rintro x w3 ⟨rfl,hb3⟩;have HB3:=Lib.hid hb3;clear hb3)|(go_at_call 72;with_reducible refine(HS.out g' _ sg HB3.out).mono ?_;rintro x w4 ⟨rfl,hb4⟩;have mM:=Lib.hid hb4;clear hb4)|(go_at_call 72;with_reducible refine(HS.out h' _ sh mM.out).mono ?_;rintro x w5 ⟨rfl,hb5⟩;have pG:=Lib.hid hb5;clear hb5))
   have kL:=Q6.out.1;have uv:∀x∈[f',g',h'],Bd.und M.S.nd M.ah (M.ah v) x:=Q6.out.2.2;have uf:=uv f' (by simp);have ug:=uv g' (by simp);have uh:=uv h' (by simp);obtain⟨fl,fh⟩:=Bd.bQ HI.out.gi kL uf;obtain⟨gl,gh⟩:=Bd.bQ HI.out.gi kL ug;obtain⟨hl,hh'⟩:=Bd.bQ HI.out.gi kL uh;have m5:aX K w5 p n room M:=⟨t,HX.out.1.below pG.out,HG.out⟩;have c5:=HX.out.2.1.below pG.out;have t5:aj mR K wc K w5:=HX.out.2.2.trans (aj.of_below pG.out);refine(Yk.out (M.ah v+1) _ _ _ M K w5 (by omega) HI.out fl gl hl c5 m5).mono ?_;rintro x w6 hq
   rcases hq.ex.symm with⟨c,rfl,hx⟩|⟨lo,M1,K1,rfl,p1,i1,g1,m1,t1⟩
   ·have qQ:=Lib.hid (hx.AP t5);clear hx hq fl gl hl fh gh hh' m5 c5 t5 uf ug uh uv;go_wp2_with fail;refine(show _∧_ from⟨rfl,?_⟩);rw[HF.out];exact .inr (qQ.out.mono (by have:=Nat.one_le_two_pow (n:=k');rw[Nat.pow_succ];omega))
   have t6:=t5.trans t1;have c6:=c5.aG t1 gM;have Sk:Bd.und M1.S.nd M1.ah (M.ah v+1) lo:=p1.2 _ fl gl hl;have HP:=Lib.hid (And.intro p1.1 (And.intro Sk (And.intro i1 (And.intro g1 (And.intro t6 c6)))));have cI2:=Yk.out (M.ah v+1) _ _ _ M1 K1 w6 (by omega) i1 (g1.und fh) (g1.und gh) (g1.und hh') c6 m1;have SE:=Lib.hid (And.intro (g1.und fh) (And.intro (g1.und gh) (g1.und hh')));have Lr:=Lib.hid (And.intro uf (And.intro ug uh));clear hq p1 i1 g1 m1 t1 t6 c6 t5 c5 m5 fl gl hl fh gh hh' uf ug uh uv Sk;go_wp2_with fail;refine cI2.mono ?_;rintro x w7 hq
   rcases hq.ex.symm with⟨c,rfl,hx⟩|⟨hi,M2,K2,rfl,p2,i2,g2,m2,t2⟩
   ·obtain⟨q1,q2,q3,q4,q5,q6⟩:=HP.out;have qQ:=Lib.hid (hx.pre HI.out q3 q4 q5 (m:=2^(k'+1)-1) (by have:=Bd.pJ k';omega));clear hx hq q1 q2 q3 q4 q5 q6 cI2;go_wp2_with fail;refine(show _∧_ from⟨rfl,?_⟩);rw[HF.out];exact .inr qQ.out
   obtain⟨q1,q2,q3,q4,q5,q6⟩:=HP.out;have t7:=q5.trans t2;have c7:=q6.aG t2 gM;have g12:=q4.trans g2;have elv:M2.ah v=M.ah v:=by rw[g12.ah]
   have aaX:M1.ah v=M.ah v:=by rw[q4.ah]
   have TS:Bd.und M2.S.nd M2.ah (M2.ah v+1) hi:=by rw[elv];exact p2.2 _ SE.out.1 SE.out.2.1 SE.out.2.2
   have Yl:Bd.und M2.S.nd M2.ah (M2.ah v+1) lo:=by rw[elv];exact g2.und q2
   have cK:=qY i2 hn hrm kL Yl TS c7 m2;have HP2:=Lib.hid (And.intro p2.1 (And.intro i2 (And.intro g2 (And.intro t7 c7))));clear hq p2 i2 g2 m2 t2 t7 c7 cI2 q1 q2 q3 q4 q5 q6 g12 elv aaX TS Yl;go_wp2_with fail;refine cK.mono ?_;rintro x w8 hq
   rcases hq.ex.symm with⟨c,rfl,hx⟩|⟨r,M3,K3,rfl,p3,i3,g3,m3,t3⟩
   ·obtain⟨q1,q2,q3,q4,q5,q6⟩:=HP.out;obtain⟨r1,r2,r3,r4,r5⟩:=HP2.out;have qQ:=Lib.hid (hx.pre HI.out r2 (q4.trans r3) r4 (m:=2^(k'+1)-1) (by have:=Bd.pJ k';omega));clear hx hq q1 q2 q3 q4 q5 q6 r1 r2 r3 r4 r5 cK;go_wp2_with fail;refine(show _∧_ from⟨rfl,?_⟩);rw[HF.out];exact .inr qQ.out
   obtain⟨q1,q2,q3,q4,q5,q6⟩:=HP.out;obtain⟨r1,r2,r3,r4,r5⟩:=HP2.out;have t8:=r4.trans t3;have c8:=r5.aG t3 gM;have mQ:=(q4.trans r3).trans g3;have eD:Bd.De M3.D r=Bd.jV M.D f' g' h':=Bd.MC HI.out q3 q4 r2 r3 kL Lr.out.1 Lr.out.2.1 Lr.out.2.2 q1 r1 q2.ok p3.1;have eL:M3.ah=M.ah:=mQ.ah;have ur:Bd.und M3.S.nd M3.ah (M3.ah v) r:=by have:=p3.1.und;rw[(q4.trans r3).ah]at this;rw[eL];exact this
   have hgd:=Bd.MF HI.out i3 mQ Q6.out eD ur;obtain⟨t',A3,hA3,hG3⟩:=m3.ex;have sr:=bF i3.si hrm ur.ok;have cP:=CQ hA3.memo 1 f' g' h' r;have y1:=hA3.c1;have yx:=c8.cell;have cF:=fun W=>gq r b W sr;have kI:=Lib.hid (And.intro hA3 (And.intro (Dt hG3 hgd) (And.intro eD (And.intro ur (And.intro i3 (And.intro mQ (And.intro t8 eL)))))));clear hq p3 i3 g3 m3 t3 t8 c8 mQ eD ur hgd hA3 hG3 sr q1 q2 q3 q4 q5 q6 r1 r2 r3 r4 r5 cK eL
   go_wp2_with (first|(go_at_call 136;with_reducible refine cP.mono ?_;rintro x w9 ⟨rfl,K4,oG,t4⟩;have H4:=Lib.hid (And.intro oG t4);clear oG t4 cP)|(go_at_call 80;with_reducible refine(cF _).mono ?_;rintro x w' ⟨rfl,hw⟩;rw[hw];clear hw cF))
   rw[HF.out];obtain⟨hA3,hG3,eD,ur,i3,mQ,t8,eL⟩:=kI.out;refine .inl ⟨_,M3,K4,rfl,⟨Bd.zR HE.out.1 eD,fun L' a b c=>?_⟩,i3,mQ.mono (by have:=Bd.pJ k';omega),⟨_,⟨A3,hA3.EN H4.out.1 H4.out.2⟩,hG3⟩,t8.trans (H4.out.2.mono (fun r h=>by unfold mR;omega))⟩;obtain⟨uf,ug,uh⟩:=HE.out.2 L' a b c;refine Bd.bT (ur.mono ?_);rw[eL]
   exact Bd.qB HI.out.gi Q6.out (by
    intro x hx;simp only[List.mem_cons,List.not_mem_nil,or_false]at hx
    rcases hx with rfl|rfl|rfl<;>assumption)
theorem qZ(hn:n≤1000000)(hrm:room≤1048576):∀(k L f g h:Nat)(M:Bd.MS)(K:Nat→Nat)(w:World),n≤L+k→Bd.Inv n room M→Bd.und M.S.nd M.ah L f→Bd.und M.S.nd M.ah L g→Bd.und M.S.nd M.ah L h→dL K w xb p→aX K w p n room M →
 Calls Tryz.prog 81 #[.pointer (some ⟨xb,0,none⟩),.int .i64 (f:Nat),.int .i64 (g:Nat),.int .i64 (h:Nat)] w (oF K w p n room M (2^k-1) (QZ M f g h)):=by
 intro k
 induction k with
 |zero=>exact yU hn hrm 0 (fun k' e=>by omega)
 |succ k ih=>exact yU hn hrm (k+1) (fun k' e=>by
  obtain rfl:k=k':=by omega
  exact ih)
end
end
section
section
variable {K K':Nat→Nat} {w w':World} {p xb n room k l m:Nat} {A:ML} {M M':Bd.MS} {t:Nat→iN} {r:Ending}
theorem yV(hi:Bd.Inv n room M)(hrm:room≤1048576){op a b c:Nat}{fid:FuncId}(hrun:∀args W,(callFunc fid args).run Tryz.prog W=.ok (.enter fid args) W){cap:Array Value}
 (hf:∀w1,aj (fun r=>r=12) K w K w1→aX K w1 p n room M→Calls Tryz.prog fid cap w1 (oF K w1 p n room M k (fun M' r=>Bd.Good M' op a b c r))) (hc:dL K w xb p) (h:aX K w p n room M) :
 Calls Tryz.prog 121 #[.pointer (some ⟨xb,0,none⟩),.int .i64 (op:Nat),.int .i64 (a:Nat),.int .i64 (b:Nat),.int .i64 (c:Nat),.func (.func fid) #[] cap] w (oF K w p n room M k (fun M' r=>Bd.Good M' op a b c r)):=by
 obtain⟨F,HF⟩:=aJ (oF K w p n room M k (fun M' r=>Bd.Good M' op a b c r));rw[←HF.out];obtain⟨t,A,hA,hG⟩:=h.ex;have yx:=hc.cell;have y1:=hA.c1;have cG:=CP hA.memo op a b c;have HA:=Lib.hid hA;have HG:=Lib.hid hG;have HI:=Lib.hid hi;have HC:=Lib.hid hc;have N_:=Lib.hid hf;clear hA hG hi hc hf h
 cases hlk:(j6 4096 t op a b c).2 with
 |true=>
  obtain⟨r',hr',hgood⟩:=yT HG.out hlk;rw[hlk,hr']at cG;have HGD:=Lib.hid hgood;clear hlk hr' hgood;go_in
  go_wp2_with (go_at_call 135;with_reducible refine cG.mono ?_;rintro x w1 ⟨rfl,hm1,t1⟩;have H1:=Lib.hid (And.intro hm1 t1);clear hm1 t1 cG)
  rw[HF.out];exact .inl ⟨_,M,K,rfl,HGD.out,HI.out,Bd.Grow.refl.mono (Nat.zero_le _),⟨t,⟨A,HA.out.EN H1.out.1 (H1.out.2.mono (fun r h=>.inl h))⟩,HG.out⟩,H1.out.2.mono (fun r h=>by unfold mR;omega)⟩
 |false=>
  rw[hlk]at cG;clear hlk;go_in
  go_wp2_with (go_at_call 135;with_reducible refine cG.mono ?_;rintro x w1 ⟨rfl,hm1,t1⟩;have H1:=Lib.hid (And.intro hm1 t1);clear hm1 t1 cG)
  have m1:aX K w1 p n room M:=⟨t,⟨A,HA.out.EN H1.out.1 (H1.out.2.mono (fun r h=>.inl h))⟩,HG.out⟩;refine(N_.out w1 H1.out.2 m1).mono ?_;rintro x w2 hq
  rcases hq.ex.symm with⟨c,rfl,hx⟩|⟨e,M1,K1,rfl,p1,i1,g1,m1',t1⟩
  ·have qQ:=Lib.hid (hx.AP (H1.out.2.mono (R':=mR) (fun r h=>by unfold mR;omega)));clear hx hq m1;go_wp2_with fail;refine(show _∧_ from⟨rfl,?_⟩);rw[HF.out];exact .inr qQ.out
  obtain⟨t2,A2,hA2,hG2⟩:=m1'.ex;have tt:=(H1.out.2.mono (R':=mR) (fun r h=>by unfold mR;omega)).trans t1;have yx2:=(HC.out.aG tt gM).cell;have y12:=hA2.c1;have cP:=CQ hA2.memo op a b c e;have kI:=Lib.hid (And.intro hA2 (And.intro (Dt hG2 p1) (And.intro p1 (And.intro i1 (And.intro g1 tt)))));clear hq m1 hA2 hG2 p1 i1 g1 m1' t1 tt yx y1
  go_wp2_with (go_at_call 136;with_reducible refine cP.mono ?_;rintro x w3 ⟨rfl,K4,oG,t4⟩;have H4:=Lib.hid (And.intro oG t4);clear oG t4 cP)
  rw[HF.out];obtain⟨hA2,hG2,p1,i1,g1,tt⟩:=kI.out;exact .inl ⟨_,M1,K4,rfl,p1,i1,g1,⟨_,⟨A2,hA2.EN H4.out.1 H4.out.2⟩,hG2⟩,tt.trans (H4.out.2.mono (fun r h=>by unfold mR;omega))⟩
end
end
section
section
variable {K K':Nat→Nat} {w w':World} {p xb n room k:Nat} {M M':Bd.MS} {t:Nat→iN} {e f v:Nat} {d:Bd.Nd}
theorem UO(w:World)(e:Nat):qW (w.alloc (.cells #[.int .i64 (e:Nat)] 107)) (.slice (some ⟨w.heap.size,0,none⟩) 1 1) [e]:=by
 refine .inr ⟨w.heap.size,1,rfl,⟨_,heap_alloc_new _ _,by simp,fun i hi j hj=>?_⟩,Nat.le_refl _⟩;obtain rfl:j=0:=by omega
 obtain rfl:i=0:=by simpa using hi
 rfl
theorem UQ(w:World)(e f:Nat):qW (w.alloc (.cells #[.int .i64 (e:Nat),.int .i64 (f:Nat)] 107)) (.slice (some ⟨w.heap.size,0,none⟩) 2 2) [e,f]:=by
 refine .inr ⟨w.heap.size,2,rfl,⟨_,heap_alloc_new _ _,by simp,fun i hi j hj=>?_⟩,Nat.le_refl _⟩;obtain rfl:j=0:=by omega
 simp only[List.length_cons,List.length_nil,Nat.zero_add,Nat.reduceAdd]at hi
 rcases(show i=0∨i=1 by omega)with rfl|rfl<;>rfl
/-- Top at one edge. -/
theorem oH(hi:Bd.Inv n room M)(hn:n≤64)(hrm:room≤1048576)(hd:M.S.nd (e/2)=some d)(hc:dL K w xb p)(h:bB K w p n room M t) :
 Calls Tryz.prog 71 #[.pointer (some ⟨xb,0,none⟩),.slice (some ⟨w.heap.size,0,none⟩) 1 1] (w.alloc (.cells #[.int .i64 (e:Nat)] 107)) fun r w'=>r=.returned (.int .i64 (d.v:Nat))∧Below w.heap.size w w':=by
 have hb:Below w.heap.size w (w.alloc (.cells #[.int .i64 (e:Nat)] 107)):=(Below.refl _ _).alloc (Nat.le_refl _) _;have he:=Inv.small hi hrm (e:=e) (.inr ⟨d,hd⟩);have c:=qX hi (by omega) hrm (l:=[e]) (fun f hf=>by rw[List.mem_singleton.1 hf];exact he) (by simp) (UO w e) (hc.below hb) (h.below hb);rw[Bd.I9,hd]at c;exact c.mono (fun r w' hq=>⟨hq.1,hb.trans (hq.2.mono hb.size)⟩)
/-- Top at two edges. -/
theorem Kl(hi:Bd.Inv n room M)(hn:n≤64)(hrm:room≤1048576)(he:Bd.ok M.S.nd e)(hf:Bd.ok M.S.nd f)(ht:Bd.mI M.S.nd M.ah [e,f]=some v)(hc:dL K w xb p)(h:bB K w p n room M t) :
 Calls Tryz.prog 71 #[.pointer (some ⟨xb,0,none⟩),.slice (some ⟨w.heap.size,0,none⟩) 2 2] (w.alloc (.cells #[.int .i64 (e:Nat),.int .i64 (f:Nat)] 107)) fun r w'=>r=.returned (.int .i64 (v:Nat))∧Below w.heap.size w w':=by
 have hb:Below w.heap.size w (w.alloc (.cells #[.int .i64 (e:Nat),.int .i64 (f:Nat)] 107)):=(Below.refl _ _).alloc (Nat.le_refl _) _;have se:=Inv.small hi hrm he;have sf:=Inv.small hi hrm hf
 have c:=qX hi (by omega) hrm (l:=[e,f]) (fun g hg=>by
  simp only[List.mem_cons,List.not_mem_nil,or_false]at hg
  rcases hg with rfl|rfl<;>assumption) (by simp) (UQ w e f) (hc.below hb) (h.below hb)
 rw[ht]at c;exact c.mono (fun r w' hq=>⟨hq.1,hb.trans (hq.2.mono hb.size)⟩)
theorem jO(hi:Bd.Inv n room M)(hn:n≤64)(hrm:room≤1048576)(he:Bd.ok M.S.nd e)(hc:dL K w xb p)(h:bB K w p n room M t) :
 Calls Tryz.prog 119 #[.pointer (some ⟨xb,0,none⟩),.int .i64 (e:Nat)] w fun r w'=>r=.returned (.int .i64 (Bd.fT M.S.nd M.ah e:Nat))∧Below w.heap.size w w':=by
 obtain⟨F,HF⟩:=aJ (fun(r:Ending)(w':World)=>r=.returned (.int .i64 (Bd.fT M.S.nd M.ah e:Nat))∧Below w.heap.size w w');rw[←HF.out];have cC:=iU e w (Inv.small hi hrm he)
 rcases he with h0|⟨d,hd⟩
 ·have hl:Bd.fT M.S.nd M.ah e=65:=by unfold Bd.fT;rw[h0,hi.gi.n0]
  rw[h0]at cC;have HL:=Lib.hid hl;have HC:=Lib.hid cC;clear hl h0 hc h hi cC;go_in
  go_wp2_with (go_at_call 107;with_reducible refine(HC.out).mono ?_;rintro r w' ⟨rfl,hw⟩;rw[hw];clear hw)
  rw[HF.out,HL.out];exact⟨rfl,Below.refl _ _⟩
 ·have h0:¬e/2=0:=fun h0=>by rw[h0,hi.gi.n0]at hd;cases hd
  have hl:Bd.fT M.S.nd M.ah e=M.ah d.v:=by unfold Bd.fT;rw[hd]
  have e0:(e/2==0)=false:=by simp[h0]
  rw[e0]at cC;have cT:=oH hi hn hrm hd hc h;have cL:=fun w' (hb:Below w.heap.size w w')=>jN (by omega) (hi.gi.lt _ _ hd) (hc.below hb) (h.below hb);have HL:=Lib.hid hl;have HC:=Lib.hid cC;have HT:=Lib.hid cT;have lH:=Lib.hid cL;clear hl h0 e0 hc h hi cC cT cL hd;go_in
  go_wp2_with (first|(go_at_call 107;with_reducible refine(HC.out).mono ?_;rintro r w' ⟨rfl,hw⟩;rw[hw];clear hw)|(go_at_call 71;with_reducible refine(HT.out).mono ?_;rintro r w2 ⟨rfl,hb2⟩;have HB2:=Lib.hid hb2;clear hb2)|(go_at_call 118;with_reducible refine(lH.out _ HB2.out).mono ?_;rintro r w3 ⟨rfl,hw3⟩;rw[hw3];clear hw3))
  rw[HF.out,HL.out];exact⟨rfl,HB2.out⟩
theorem oI(hi:Bd.Inv n room M)(hn:n≤64)(hrm:room≤1048576)(hd:M.S.nd (e/2)=some d)(hc:dL K w xb p)(h:bB K w p n room M t) :
 Calls Tryz.prog 120 #[.pointer (some ⟨xb,0,none⟩),.int .i64 (e:Nat)] w fun r w'=>r=.returned (.int .i64 (Bd.aI M.S.nd e d.v:Nat))∧Below w.heap.size w w':=by
 obtain⟨F,HF⟩:=aJ (fun(r:Ending)(w':World)=>r=.returned (.int .i64 (Bd.aI M.S.nd e d.v:Nat))∧Below w.heap.size w w');rw[←HF.out];have cT:=oH hi hn hrm hd hc h;have cS:=fun w' (hb:Below w.heap.size w w')=>iZ hi hrm (Inv.small hi hrm (e:=e) (.inr ⟨d,hd⟩)) (hc.below hb) (h.below hb) d.v;have HT:=Lib.hid cT;have Pq:=Lib.hid cS;clear hc h hi cT cS hd;go_in
 go_wp2_with (first|(go_at_call 71;with_reducible refine(HT.out).mono ?_;rintro r w2 ⟨rfl,hb2⟩;have HB2:=Lib.hid hb2;clear hb2)|(go_at_call 72;with_reducible refine(Pq.out _ HB2.out).mono ?_;rintro r w3 ⟨rfl,hb3⟩;have HB3:=Lib.hid (HB2.out.trans (hb3.mono HB2.out.size));clear hb3))
 rw[HF.out];exact⟨rfl,HB3.out⟩
end
end
end Go.Proofs.YtpijlhlpejlhhaaGreat
