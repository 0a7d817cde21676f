/- Walks and plain words: SpK MwS SpN SpNd. -/
import Derived.Test.YtkhoeoilamddaaaGreatDoorQSpJ
import Derived.Test.YtkhoeoilamddaaaGreatDoorQMsB
import Derived.Test.YtkhoeoilamddaaaGreatDoorQRfqG
namespace Go.Proofs.YtkhoeoilamddaaaGreatDoor
open Go.RowKit
set_option linter.unusedVariables false
set_option maxRecDepth 100000
set_option maxHeartbeats 16000000
theorem anE(hS:JQ IG)(hA:RAl)(cx:∀l A c,RTk l A c)(cw:∀l A c,RFk l A c)(s:ByteArray)(w:World)(hs:s.size≤maxLen)(hT:Tables w) :
 Calls Tryz.prog 3 #[.string s] w (EA w):=by
 obtain⟨F,HF⟩:=ak (EA w);rw[←HF.out];have bj:Hid (∀W,Below w.heap.size w W→Calls Tryz.prog 7 #[] W (EA W)):=fun W hb=>Ux hS W (hT.below hb);have ay:=Hd (FW s w hs hT);have SI:Hid (∀W,Calls Tryz.prog 9 #[.string s] W (PmQ W (parseM (bs s)))):=fun W=>anX hA cx cw s W hs;have I:=Hd (Br w.heap.size w);obtain⟨r,HR⟩:=ak (parseM (bs s));rw[←HR.out]at ay SI;obtain⟨mx,z1,z2⟩:=r;unfold maxLen at hs;clear hS hA cx cw hT
 by_cases hg:4000<s.size∧s.size≤65536
 ·have c7:(4000:Int)<(s.size:Int):=by omega
  have c8:(s.size:Int)≤65536:=by omega
  clear hg;go_in;go_wp2_with fail;refine(bj.out _ I.out).mono ?_;rintro e w9 ⟨rfl,Ub⟩;have VT:=kB I Ub;clear Ub;go_wp2_with fail;rw[HF.out];exact⟨rfl,VT.out⟩
 have cW:¬(4000:Int)<(s.size:Int)∨((4000:Int)<(s.size:Int)∧¬(s.size:Int)≤65536):=by omega
 clear hg;go_in
 rcases cW with h3|⟨h3,c6⟩
 all_goals
  go_wp2_with fail;refine(ay.out).mono ?_;rintro e w2 ⟨V1,Y1,G1,B1,R1,rfl,cz,cy,cV,jU,hb⟩;have D:=Ho cz cy;simp only at D;simp only[J5];obtain⟨bz,cb,J,aE,a8,-⟩:=D.vars;obtain⟨bC,cc,O,aF,ba,-⟩:=D.defs;obtain⟨bE,cd,Y,aJ,bb,-⟩:=D.init;obtain⟨bJ,cf,aa,aP,bd,-⟩:=D.bF;obtain⟨bL,cg,ab,aQ,bf,-⟩:=D.next;obtain⟨bP,ch,ae,aS,bg,-⟩:=D.trans;obtain⟨bW,ci,e16,a6,bh,-⟩:=D.fair;obtain⟨bZ,cj,e17,a7,bi,-⟩:=D.specs;obtain⟨n10,bm⟩:=ak mx.vars.length;obtain⟨n11,bn⟩:=ak mx.defs.length;obtain⟨n12,bo⟩:=ak mx.init.length;obtain⟨n13,bp⟩:=ak mx.bF.length;obtain⟨n14,br⟩:=ak mx.next.length;obtain⟨n15,bu⟩:=ak mx.trans.length;obtain⟨n16,bv⟩:=ak mx.fair.length;obtain⟨n17,bw⟩:=ak mx.specs.length;rw[←bm.out]at J aE;rw[←bn.out]at O aF;rw[←bo.out]at Y aJ;rw[←bp.out]at aa aP;rw[←br.out]at ab aQ;rw[←bu.out]at ae aS;rw[←bv.out]at e16 a6;rw[←bw.out]at e17 a7;unfold maxLen at a8 ba bb bd bf bg bh bi;have cA:=Hd J;have cB:=Hd O;have cC:=Hd Y;have cE:=Hd aa;have cF:=Hd ab;have cG:=Hd ae;have cH:=Hd e16;have cI:=Hd e17;rw[J,O,Y,aa,ab,ae,e16,e17];obtain⟨b1,K1⟩:=ak w2.heap.size
  obtain⟨w3,W1⟩:=ak (w2.alloc (.cells #[.slice bz n10 cb,.slice bC n11 cc,.slice bE n12 cd,.slice bJ n13 cf,.slice bL n14 cg,.slice bP n15 ch,.slice bW n16 ci,.slice bZ n17 cj] 28));have S1:=Hd (dz W1.out);have T1:=jZ W1.out K1.out;have Rw:=Hd (D.below S1.out);replace I:=kB (kB I hb) S1.out;clear cz cy cV jU hb D J O Y aa ab ae e16 e17 ay;have bk:=Hd (SI.out w3);go_wp2_with fail;rw[←W1.out]
  try rw[←K1.out]
  (try go_wp2_with fail);refine(bk.out).mono ?_;rintro e w4 ⟨V2,rfl,G,hb⟩;simp only at G;obtain⟨b0,ck,af,aE,a8,-⟩:=G.vars;obtain⟨b3,cn,ag,aF,ba,-⟩:=G.defs;obtain⟨b4,cp,ai,aJ,bb,-⟩:=G.init;obtain⟨b5,cq,ao,aP,bd,-⟩:=G.bF;obtain⟨b6,cr,ar,aQ,bf,-⟩:=G.next;obtain⟨b7,cs,av,aS,bg,-⟩:=G.trans;obtain⟨b8,ct,aw,a6,bh,-⟩:=G.fair;obtain⟨b9,cv,ax,a7,bi,-⟩:=G.specs;rw[←bm.out]at af aE;rw[←bn.out]at ag aF;rw[←bo.out]at ai aJ;rw[←bp.out]at ao aP;rw[←br.out]at ar aQ;rw[←bu.out]at av aS;rw[←bv.out]at aw a6;rw[←bw.out]at ax a7;unfold maxLen at a8 ba bb bd bf bg bh bi;have cJ:=Hd af;have cK:=Hd ag;have cL:=Hd ai;have cM:=Hd ao;have cN:=Hd ar;have cP:=Hd av;have cQ:=Hd aw;have cS:=Hd ax;rw[af,ag,ai,ao,ar,av,aw,ax];obtain⟨b2,K2⟩:=ak w4.heap.size;obtain⟨w5,W2⟩:=ak (w4.alloc (.cells #[.slice b0 n10 ck,.slice b3 n11 cn,.slice b4 n12 cp,.slice b5 n13 cq,.slice b6 n14 cr,.slice b7 n15 cs,.slice b8 n16 ct,.slice b9 n17 cv] 28));have S2:=Hd (dz W2.out);have T2:=jZ W2.out K2.out;have az:Hid (_=_):=(hb.block b1 (lH T1.out)).trans T1.out
  have bl:Hid (Calls Tryz.prog 10 #[.agg #[.slice bz n10 cb,.slice bC n11 cc,.slice bE n12 cd,.slice bJ n13 cf,.slice bL n14 cg,.slice bP n15 ch,.slice bW n16 ci,.slice bZ n17 cj],.agg #[.slice b0 n10 ck,.slice b3 n11 cn,.slice b4 n12 cp,.slice b5 n13 cq,.slice b6 n14 cr,.slice b7 n15 cs,.slice b8 n16 ct,.slice b9 n17 cv]] w5 (EA w5)):=by
   have h:=J_ V1 V2 mx w5 ((Rw.below hb).below S2.out) (G.below S2.out);rw[cA.out,cB.out,cC.out,cE.out,cF.out,cG.out,cH.out,cI.out,cJ.out,cK.out,cL.out,cM.out,cN.out,cP.out,cQ.out,cS.out]at h;exact h
  replace I:=kB (kB I hb) S2.out;clear hb G bk af ag ai ao ar av aw ax;obtain⟨u0,u1,u2,u3,u4,u5,u6,u7,-⟩:=q8 az.out;have cX:=lH az.out;have cY:b1≠w4.heap.size:=by omega
  have cU:w4.heap.size≠b1:=by omega
  go_wp2_with fail;rw[←W2.out]
  try rw[←K2.out]
  (try go_wp2_with fail);refine(bl.out).mono ?_;rintro e w6 ⟨rfl,hb⟩;replace I:=kB I hb;clear hb bl u0 u1 u2 u3 u4 u5 u6 u7 cX cY cU az W2 K2 T2 S2;go_wp2_with fail;refine(bj.out _ I.out).mono ?_;rintro e w9 ⟨rfl,Ub⟩;have VT:=kB I Ub;clear Ub;go_wp2_with fail;rw[HF.out];exact⟨rfl,VT.out⟩
theorem aoa:JQ IG:=⟨(fun d h=>by simp[IG]at h),(fun d h=>by simp[IG]at h),(fun d h=>by simp[IG]at h),
 (fun d h A c W G D=>by
   have h:d=⟨⟨#[110]⟩,j6 0⟩:=by simpa[IG]using h
   subst h
   exact Ej (j6 0) A c W (by kernel_rfl) G (of_decide_eq_true (by kernel_rfl)) D),
 (fun d h=>by simp[IG]at h),(fun d h=>by simp[IG]at h),
 (fun d h Ae ce A c W G D=>by
   have h:d=⟨⟨#[115]⟩,fT 7 [.mk 1 (dD 10 [iH 3 [110],j6 1]) []]⟩:=by simpa[IG]using h
   subst h
   exact Qe (fT 7 [.mk 1 (dD 10 [iH 3 [110],j6 1]) []]) Ae ce A c W (by kernel_rfl) (of_decide_eq_true (by kernel_rfl)) G D)⟩
theorem an6:RAl:=fun s w hs=>by
 unfold maxLen at hs
 by_cases h1:65536<s.size
 ·have G:(65536:Int)<(s.size:Int):=by omega
  have D:=Hd (show all (bs s)=([],0,4)from iP (by rw[aC];exact h1));clear h1;go_in
  go_wp2
  go_ret3
  rw[D.out];exact⟨_,rfl,⟨rfl,.inl ⟨rfl,rfl⟩⟩,Br _ _⟩
 ·exact aj3 s w (by omega)
theorem anY(s:ByteArray)(w:World)(hs:s.size≤maxLen)(D:Tables w) :
 Calls Tryz.prog 3 #[.string s] w (EA w):=
 anE aoa an6 (fun l A c i W hi hP=>aay l A c i W hi hP) (fun l A c i W hi hP=>aiR l A c i W hi hP) s w hs D
open Go.ChangeShapes Go.WideShapes Go.ChangeAt Go.RowKit
open Go.ChangeMaps (open_string shut_string)
namespace lawModtextReads
theorem lifted(os:Os)(started:os.Started)(H:Type)(enc:TypeId×Value→H) :
 ReturnsInHanded {} Tryz.checked os 3 .any (fun w args=>(Rows.modtextReadsSpec.pre enc Tryz.prog Tryz.f3 Rows.modtextReadsRow.domain false w args∧laidMetH Tryz.prog Rows.modtextReadsRow.laid w)∧sizedMet enc Tryz.prog Tryz.f3 (OpenSpec.ofChange Rows.modtextReadsSpec) false w args)
  (Rows.modtextReadsSpec.post enc Tryz.prog Tryz.f3 false true false false):=by
 refine returnsInHanded_of_change_and (C:=Tryz.checked) (X:=fun w _=>laidMetH Tryz.prog Rows.modtextReadsRow.laid w) (fun _ _ _ hh h=>h.of_heap hh) own started (by kernel_rfl) Tryz.func3
  (ChangeSpec.witness_shaped (enc:=enc) (C:=Tryz.checked) (os:=os) (X:=fun w _=>laidMetH Tryz.prog Rows.modtextReadsRow.laid w) false (World.laidAll Tryz.prog os Rows.modtextReadsRow.laid) #[.string ⟨#[]⟩] 8 (World.laidAll_os _ _ _)
    (World.shaped_of_ZipB (by kernel_rfl) (by kernel_rfl)) (by kernel_rfl) (by kernel_rfl) (by kernel_rfl)
    (by rw[MakeChecks.laidMetH_plain _ _ _ (by kernel_rfl)];exact laidMet_laidAll _ (by kernel_rfl) (by kernel_rfl))) ?_
 intro W base args ds gs before D hW hcnd hsz hL _;have hval:∀(j:Nat) t v,Tryz.f3.params[j]?=some t→args[j]?=some v→Value.okWide Tryz.prog W .any base t v:=D;have I:=hW;obtain⟨p,q,G,hV,rfl,ab,ae⟩:=hW;have hA:DataW.TrodAll enc Tryz.prog W 0 (fun _=>true) true Tryz.f3.params.toList args.toList ds p:=G;rw[Tryz.params3]at hA hval;obtain⟨v0,af,d0,aa,p0,q0,J,rfl,rfl,h0,r0⟩:=trodAll_cons hA;obtain⟨rfl,rfl,rfl⟩:=trodAll_nil r0;obtain rfl:args=#[v0]:=by cases args;simp_all
 obtain⟨rfl,rfl⟩:=trodVars_none hV;rw[MakeChecks.laidMetH_plain _ _ _ (by kernel_rfl)]at hL;have hT:Tables W:=Kv (Lib.laidMet.reads hL (by simp[Rows.modtextReadsRow])) (Lib.laidMet.reads hL (by simp[Rows.modtextReadsRow]));have Y:=h0;have O:∀x∈p0,x.block<W.heap.size:=by obtain⟨m,hm⟩:=Y;exact DataW.trod_lt m _ _ _ hm
 obtain⟨s,rfl,rfl,rfl,ws⟩:=open_string Tryz.underlying9 (hval 0 9 v0 rfl rfl) h0;clear G D;refine(anY s W ws hT).mono fun e W' ⟨he,mW⟩=>?_;subst he;exact⟨_,rfl,_,_,_,[],_,[],I,trodAll_mk1 (shut_bool Tryz.underlying4 _),(trodAll_cons_mk (Below.trod laidOut (by kernel_rfl) (of_decide_eq_true (by kernel_rfl)) Y mW O) trodAll_mk0),rfl,mW.frame _,fun h=>by cases h⟩
theorem said:Rows.ModtextReadsSaid:=
 OpenClaim.holds_of_wide 3 Tryz.f3 rfl rfl rfl rfl rfl rfl rfl ⟨rfl,rfl,rfl,rfl,rfl⟩ rfl rfl rfl rfl rfl (by kernel_rfl) Tryz.func3 (by kernel_rfl)
  (of_decide_eq_true (by kernel_rfl)) (by unfold Func.isWrapper;first|(rw[iP (by decide +kernel)];kernel_rfl)|(rw[iN (by decide +kernel)];exact⟨rfl,rfl⟩))
  (fun os started H enc _=>lifted os started H enc)
theorem card:Rows.ModtextReadsCardSaid:=
 Claim7.holds_tied_plain_at .later [] _ _ _ _ said (fun _ h=>by cases h) (by kernel_rfl) (fun _ h=>by cases h) modtextReads_row_tie rfl ⟨rfl,rfl⟩ (by kernel_rfl) rfl
  (fun f fn hf G=>by
    obtain rfl:f=3:=Option.some.inj ((show Tryz.prog.funcNamed Rows.modtextReadsRow.func=some 3 by kernel_rfl).symm.trans hf)|>.symm;obtain rfl:fn=Tryz.f3:=(Option.some.inj (Tryz.func3.symm.trans G)).symm
    exact⟨by kernel_rfl,fun j t ht=>by
     rw[Tryz.params3]at ht;have hm:t∈[9]:=by simpa using Array.mem_of_getElem? ht
     have D:([9].all fun u=>!Tryz.prog.wantsStandIn u)=true:=by kernel_rfl
     exact(show Tryz.prog.wantsStandIn t=false by simpa using List.all_eq_true.1 D t hm)⟩)
  (by kernel_rfl)
#print axioms card
end lawModtextReads
end Go.Proofs.YtkhoeoilamddaaaGreatDoor
