/- Walks and plain words: FtxA FtxAd. -/
import Derived.Test.YtnbphgeepnknlaaGreatDoorUFSam
import Derived.Test.YtnbphgeepnknlaaGreatDoorUFRdA
namespace Go.Proofs.YtnbphgeepnknlaaGreatDoor
open Go.RowKit
set_option linter.unusedVariables false
set_option maxRecDepth 100000
set_option maxHeartbeats 8000000
theorem parsedF_size {s:Bs} {f:Fm} {a:Int} (h:parseF s=(f,a,0)):f.wsize≤9000000:=by
 unfold parseF at h
 by_cases h1:(all s).2.2≠0
 · rw [iP h1] at h;simp only [Prod.mk.injEq] at h;exact absurd h.2.2 h1
 rw [iN h1] at h;simp only at h;have hok:=all_ok s;obtain ⟨l,hl⟩:=ex_ ((all s).1);rw [←hl] at h hok
 by_cases h2:(takeF l 0).2.2≠0
 · rw [iP h2] at h;simp only [Prod.mk.injEq] at h;exact absurd h.2.2 h2
 rw [iN h2] at h
 by_cases h3:(takeF l 0).2.1<l.length
 · rw [iP h3] at h;simp at h
 rw [iN h3] at h;simp only [Prod.mk.injEq] at h;obtain ⟨ht,-,-⟩:=h;have hz:(takeF l 0).2.2=0:=by omega
 have hg:=takeF_ok (l:=l) (i:=0) (j:=(takeF l 0).2.1) (f:=(takeF l 0).1) (Prod.ext rfl (Prod.ext rfl hz));rw [ht] at hg;have h4:=hg.2.sz;have h5:=hg.2.jl;have h6:=txts_len hok.1;omega
theorem ftextAgain_any (s:ByteArray) (w:World) (hs:s.size≤maxLen) (hT:Tables w) :
 Calls Tryz.prog 6 #[.string s] w fun e w'=>e=.returned (.bool true)∧Below w.heap.size w w':=by
 obtain ⟨F,hF⟩:∃ F:Ending→World→Prop,F=fun e w'=>e=.returned (.bool true)∧Below w.heap.size w w':=⟨_,rfl⟩;rw [←hF];have HF:=Hd hF;have HT:=Hd hT;clear hF hT;have HB:=Hd (Br w.heap.size w);have HSM:=Hd hs;unfold maxLen at hs
 by_cases hg:6000<s.size
 · have hg1:(6000:Int)<(s.size:Int):=by omega
   have HLV:=Hd (lives33_any w HT.out);clear hg;go_enter Tryz.func6,Tryz.ntmps6;go_wp2_with fail;refine (HLV.out).mono ?_;rintro e w1 ⟨rfl,hb⟩;clear HLV;replace HB:=kB HB hb;clear hb;go_wp2_with fail;rw [HF.out];exact ⟨rfl,HB.out⟩
 · have hg1:¬(6000:Int)<(s.size:Int):=by omega
   have HP:=Hd (fparse_any s w HSM.out HT.out);obtain ⟨P,HQP⟩:=exh_ (parseF (bs s));rw [←HQP.out] at HP;obtain ⟨f,at_,er⟩:=P;clear hg;go_enter Tryz.func6,Tryz.ntmps6;go_wp2_with fail;refine (HP.out).mono ?_;rintro e w1 ⟨x,rfl,hx,hb⟩;simp only at hx;simp only [FV.val];have Ex:Hid (x.val=(f).val x.Ae x.ce x.A x.c):=hx.val;have Ox:=Hd hx.o;have Vx:=Hd hx.v.toV;clear hx HP;replace HB:=kB HB hb;clear hb;obtain ⟨b1,Qb1⟩:=exh_ w1.heap.size;obtain ⟨w2,Qw2⟩:=exh_ (w1.alloc (.cells #[.int .i64 x.o,.int .i64 x.tn,.int .i64 x.tm,.string x.s,.slice x.Ae x.ne x.ce,.slice x.A x.n x.c] 35));have Xb1:=nAl Qw2.out Qb1.out;have hal:=bAl Qw2.out;replace HB:=kB HB hal;replace Vx:=Hd (FmV.below Vx.out hal rfl);clear hal
   by_cases he:er=0
   · subst he;have hsz:=parsedF_size HQP.out.symm;obtain ⟨S,HSQ⟩:=exh_ (showFm f);have HSZ:Hid (f.wsize≤9000000):=hsz;clear hsz;have hsh:=fshow_any f x.Ae x.ce x.A x.c w2 HSZ.out Vx.out (HT.out.below HB.out).wordsT;rw [←Ex.out] at hsh;unfold FV.val at hsh;rw [←HSQ.out] at hsh;have HSH:=Hd hsh;clear hsh;obtain ⟨st,g⟩:=S;simp only at HSH;go_wp2_with fail;rw [←Qw2.out,←Qb1.out];obtain ⟨cb10,cb11,cb12,cb13,cb14,cb15,zb1q⟩:=q6 Xb1.out;have lb1:=lH Xb1.out;(try go_wp2_with fail);refine (HSH.out).mono ?_;rintro e w3 ⟨rfl,hb⟩;clear HSH;replace HB:=kB HB hb;replace Xb1:=kX hb Xb1;replace Vx:=Hd (FmV.below Vx.out hb rfl);clear hb cb10 zb1q cb11 cb12 cb13 cb14 cb15 lb1
     by_cases hg:g=0
     · subst hg;have hps:=parse_showF (f:=f) (by rw [←HSQ.out]);rw [←HSQ.out] at hps;simp only at hps;have hlen:=(showFm_ok (f:=f) (by rw [←HSQ.out])).2.2;rw [←HSQ.out] at hlen;simp only at hlen;have hst:st.length≤65536:=by rw [hlen.1];exact hlen.2
       obtain ⟨T,hTT⟩:∃ T:ByteArray,T=⟨st.toArray⟩:=⟨_,rfl⟩;have hTs:T.size=st.length:=by rw [hTT];rfl
       have hTb:bs T=st:=by rw [hTT];rfl
       have hp2:=fparse_any T w3 (by unfold maxLen;omega) (HT.out.below HB.out);rw [hTb,hps,←hTs] at hp2;rw [←hTT];have HP2:=Hd hp2;have hTz:T.size≤65536:=by omega
       clear hps hlen hst hTT hTs hTb hp2;go_wp2_with fail;refine (HP2.out).mono ?_;rintro e w4 ⟨y,rfl,hx,hb⟩;simp only at hx;simp only [FV.val];have Ey:Hid (y.val=(f).val y.Ae y.ce y.A y.c):=hx.val;have Oy:=Hd hx.o;have Vy:=Hd hx.v.toV;clear hx HP2;replace HB:=kB HB hb;replace Xb1:=kX hb Xb1;replace Vx:=Hd (FmV.below Vx.out hb rfl);clear hb;obtain ⟨cb10,cb11,cb12,cb13,cb14,cb15,zb1q⟩:=q6 Xb1.out;have lb1:=lH Xb1.out;obtain ⟨b2,Qb2⟩:=exh_ w4.heap.size;obtain ⟨w5,Qw5⟩:=exh_ (w4.alloc (.cells #[.int .i64 y.o,.int .i64 y.tn,.int .i64 y.tm,.string y.s,.slice y.Ae y.ne y.ce,.slice y.A y.n y.c] 35));have Xb2:=nAl Qw5.out Qb2.out;have hal:=bAl Qw5.out;replace HB:=kB HB hal;replace Xb1:=kX hal Xb1;replace Vx:=Hd (FmV.below Vx.out hal rfl);replace Vy:=Hd (FmV.below Vy.out hal rfl);clear hal;have hsame:=rfsame_any (f).size (f) x.Ae x.ce x.A x.c y.Ae y.ce y.A y.c w5 (lr _) Vx.out Vy.out;rw [←Ex.out,←Ey.out] at hsame;unfold FV.val at hsame;have HSA:=Hd hsame;clear hsame;go_wp2_with fail;rw [←Qw5.out];refine (HSA.out).mono ?_;rintro e w6 ⟨rfl,hb⟩;clear HSA;replace HB:=kB HB hb;replace Xb1:=kX hb Xb1;replace Xb2:=kX hb Xb2;replace Vx:=Hd (FmV.below Vx.out hb rfl);replace Vy:=Hd (FmV.below Vy.out hb rfl);clear hb cb10 zb1q cb11 cb12 cb13 cb14 cb15 lb1;have HLV:=Hd (lives33_any w6 (HT.out.below HB.out));go_wp2_with fail;refine (HLV.out).mono ?_;rintro e w7 ⟨rfl,hb⟩;clear HLV;replace HB:=kB HB hb
       replace Xb1:=kX hb Xb1;replace Xb2:=kX hb Xb2;replace Vx:=Hd (FmV.below Vx.out hb rfl);replace Vy:=Hd (FmV.below Vy.out hb rfl);clear hb;go_wp2_with fail;rw [HF.out];exact ⟨rfl,HB.out⟩
     · have hgb:(g != 0)=true:=by simpa using hg
       clear hg;have hsh:=rfshow_any f x.Ae x.ce x.A x.c w3 Vx.out HSZ.out;rw [←Ex.out] at hsh;unfold FV.val at hsh;rw [←HSQ.out] at hsh;have HSR:=Hd hsh;clear hsh;obtain ⟨cb10,cb11,cb12,cb13,cb14,cb15,zb1q⟩:=q6 Xb1.out;have lb1:=lH Xb1.out;go_wp2_with fail;refine (HSR.out).mono ?_;rintro e w4 ⟨rfl,hb⟩;clear HSR;replace HB:=kB HB hb;replace Xb1:=kX hb Xb1;replace Vx:=Hd (FmV.below Vx.out hb rfl);clear hb cb10 zb1q cb11 cb12 cb13 cb14 cb15 lb1;have HLV:=Hd (lives33_any w4 (HT.out.below HB.out));go_wp2_with fail;refine (HLV.out).mono ?_;rintro e w5 ⟨rfl,hb⟩;clear HLV;replace HB:=kB HB hb;replace Xb1:=kX hb Xb1;replace Vx:=Hd (FmV.below Vx.out hb rfl);clear hb;go_wp2_with fail;rw [HF.out];exact ⟨rfl,HB.out⟩
   · have heb:(er != 0)=true:=by simpa using he
     clear he;go_wp2_with fail;rw [←Qw2.out,←Qb1.out];have HLV:=Hd (lives33_any w2 (HT.out.below HB.out));(try go_wp2_with fail);refine (HLV.out).mono ?_;rintro e w3 ⟨rfl,hb⟩;clear HLV;replace HB:=kB HB hb;replace Xb1:=kX hb Xb1;replace Vx:=Hd (FmV.below Vx.out hb rfl);clear hb;go_wp2_with fail;rw [HF.out];exact ⟨rfl,HB.out⟩
open Go.ChangeShapes Go.WideShapes Go.ChangeAt Go.RowKit
open Go.ChangeMaps (open_string shut_string)
namespace lawFtextAgain
theorem lifted (os:Os) (started:os.Started) (H:Type) (enc:TypeId×Value→H) :
 ReturnsInHanded {} Tryz.checked os 6 .any (fun w args=>(Rows.ftextAgainSpec.pre enc Tryz.prog Tryz.f6 Rows.ftextAgainRow.domain false w args∧laidMetH Tryz.prog Rows.ftextAgainRow.laid w)∧sizedMet enc Tryz.prog Tryz.f6 (OpenSpec.ofChange Rows.ftextAgainSpec) false w args)
  (Rows.ftextAgainSpec.post enc Tryz.prog Tryz.f6 false true false false):=by
 refine returnsInHanded_of_change_and (C:=Tryz.checked) (X:=fun w _=>laidMetH Tryz.prog Rows.ftextAgainRow.laid w) (fun _ _ _ hh h=>h.of_heap hh) own started (by kernel_rfl) Tryz.func6
  (ChangeSpec.witness_shaped (enc:=enc) (C:=Tryz.checked) (os:=os) (X:=fun w _=>laidMetH Tryz.prog Rows.ftextAgainRow.laid w) false (World.laidAll Tryz.prog os Rows.ftextAgainRow.laid) #[.string ⟨#[]⟩] 8 (World.laidAll_os _ _ _)
    (World.shaped_of_ZipB (by kernel_rfl) (by kernel_rfl)) (by kernel_rfl) (by kernel_rfl) (by kernel_rfl)
    (by rw [MakeChecks.laidMetH_plain _ _ _ (by kernel_rfl)];exact laidMet_laidAll _ (by kernel_rfl) (by kernel_rfl))) ?_
 intro W base args ds gs before hval0 hW hcnd hsz hL _;have hval:∀ (j:Nat) t v,Tryz.f6.params[j]?=some t→args[j]?=some v→Value.okWide Tryz.prog W .any base t v:=hval0;have hW':=hW;obtain ⟨p,q,hA0,hV,rfl,hfz,hnd⟩:=hW;have hA:DataW.TrodAll enc Tryz.prog W 0 (fun _=>true) true Tryz.f6.params.toList args.toList ds p:=hA0;rw [Tryz.params6] at hA hval;obtain ⟨v0,vs0,d0,ds0,p0,q0,hargs,rfl,rfl,h0,r0⟩:=trodAll_cons hA;obtain ⟨rfl,rfl,rfl⟩:=trodAll_nil r0;obtain rfl:args=#[v0]:=by cases args;simp_all
 obtain ⟨rfl,rfl⟩:=trodVars_none hV;rw [MakeChecks.laidMetH_plain _ _ _ (by kernel_rfl)] at hL;have hT:Tables W:=tables_of_reads (Lib.laidMet.reads hL (by simp [Rows.ftextAgainRow])) (Lib.laidMet.reads hL (by simp [Rows.ftextAgainRow]));have k0:=h0;have lt0:∀ x∈p0,x.block<W.heap.size:=by obtain ⟨m,hm⟩:=k0;exact DataW.trod_lt m _ _ _ hm
 obtain ⟨s,rfl,rfl,rfl,ws⟩:=open_string Tryz.underlying9 (hval 0 9 v0 rfl rfl) h0;clear hA0 hval0;refine (ftextAgain_any s W ws hT).mono fun e W' ⟨he,bel⟩=>?_;subst he;exact ⟨_,rfl,_,_,_,[],_,[],hW',trodAll_mk1 (shut_bool Tryz.underlying4 _),(trodAll_cons_mk (Below.trod laidOut (by kernel_rfl) (of_decide_eq_true (by kernel_rfl)) k0 bel lt0) trodAll_mk0),rfl,bel.frame _,fun h=>by cases h⟩
theorem said:Rows.FtextAgainSaid:=
 OpenClaim.holds_of_wide 6 Tryz.f6 rfl rfl rfl rfl rfl rfl rfl ⟨rfl,rfl,rfl,rfl,rfl⟩ rfl rfl rfl rfl rfl (by kernel_rfl) Tryz.func6 (by kernel_rfl)
  (of_decide_eq_true (by kernel_rfl)) (by unfold Func.isWrapper;first | (rw [iP (by decide +kernel)];kernel_rfl) | (rw [iN (by decide +kernel)];exact ⟨rfl,rfl⟩))
  (fun os started H enc _=>lifted os started H enc)
theorem card:Rows.FtextAgainCardSaid:=
 Claim7.holds_tied_plain_at .later [] _ _ _ _ said (fun _ h=>by cases h) (by kernel_rfl) (fun _ h=>by cases h) ftextAgain_row_tie rfl ⟨rfl,rfl⟩ (by kernel_rfl) rfl
  (fun f fn hf hfn=>by
    obtain rfl:f=6:=Option.some.inj ((show Tryz.prog.funcNamed Rows.ftextAgainRow.func=some 6 by kernel_rfl).symm.trans hf) |>.symm;obtain rfl:fn=Tryz.f6:=(Option.some.inj (Tryz.func6.symm.trans hfn)).symm
    exact ⟨by kernel_rfl,fun j t ht=>by
     rw [Tryz.params6] at ht;have hm:t∈[9]:=by simpa using Array.mem_of_getElem? ht
     have hall:([9].all fun u=>!Tryz.prog.wantsStandIn u)=true:=by kernel_rfl
     exact (show Tryz.prog.wantsStandIn t=false by simpa using List.all_eq_true.1 hall t hm)⟩)
  (by kernel_rfl)
#print axioms card
end lawFtextAgain
end Go.Proofs.YtnbphgeepnknlaaGreatDoor
