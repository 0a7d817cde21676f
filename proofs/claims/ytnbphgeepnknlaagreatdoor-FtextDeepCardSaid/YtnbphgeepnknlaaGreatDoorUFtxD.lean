/- Walks and plain words: FtxD FtxDd. -/
import Derived.Test.YtnbphgeepnknlaaGreatDoorUFSam
import Derived.Test.YtnbphgeepnknlaaGreatDoorULexF
namespace Go.Proofs.YtnbphgeepnknlaaGreatDoor
open Go.RowKit
set_option linter.unusedVariables false
set_option maxRecDepth 100000
set_option maxHeartbeats 8000000
theorem sapp8 {H x:ByteArray} {j:Nat} (h:H.size≤8*j) (hx:x.size≤8):(H++x).size≤8*(j+1):=by
 rw [bA];omega
theorem u16_rng {n:Int} (h:(Lit.int .u16 n).wf=true):0≤n∧n≤65535:=by
 simpa [Lit.wf,IntKind.min,IntKind.max,IntKind.signed,IntKind.bits] using h
theorem u8_rng {n:Int} (h:(Lit.int .u8 n).wf=true):0≤n∧n≤255:=by
 simpa [Lit.wf,IntKind.min,IntKind.max,IntKind.signed,IntKind.bits] using h
theorem ftextDeep_any (m k:Int) (w:World) (hm:(Lit.int .u16 m).wf=true) (hk:(Lit.int .u8 k).wf=true) (hT:Tables w) :
 Calls Tryz.prog 7 #[.int .u16 m,.int .u8 k] w fun e w'=>e=.returned (.bool true)∧Below w.heap.size w w':=by
 obtain ⟨F,hF⟩:∃ F:Ending→World→Prop,F=fun e w'=>e=.returned (.bool true)∧Below w.heap.size w w':=⟨_,rfl⟩;rw [←hF];have HF:=Hd hF;have HT:=Hd hT;clear hF hT;have HB:=Hd (Br w.heap.size w);obtain ⟨hm0,hm1⟩:=u16_rng hm;obtain ⟨hk0,hk1⟩:=u8_rng hk;clear hm hk;have hwm:IntKind.i64.wrap m=m:=IntWalk.i64_in _ (by omega);have hwk:IntKind.i64.wrap k=k:=IntWalk.i64_in _ (by omega);obtain ⟨w2,hw2⟩:=ex_ ((w.alloc (.cells #[.string ⟨#[33]⟩,.string ⟨#[40]⟩,.string ⟨#[69,88,32]⟩,.string ⟨#[91,97,93,32,45,62,32]⟩,.string ⟨#[69,91]⟩,.string ⟨#[65,91,91,97,93,32,85,32]⟩] 9)).alloc (.cells #[.string ⟨#[]⟩,.string ⟨#[41]⟩,.string ⟨#[]⟩,.string ⟨#[]⟩,.string ⟨#[32,85,32,91,98,93,93]⟩,.string ⟨#[93]⟩] 9));have hb:Below w.heap.size w w2:=by rw [hw2];exact ((Br _ _).alloc (lr _) _).alloc (by simp) _
 have Qw2:=Hd hw2;have HB:=Hd hb;clear hb hw2;have h6:k % 6=0∨k % 6=1∨k % 6=2∨k % 6=3∨k % 6=4∨k % 6=5:=by omega
 go_enter Tryz.func7,Tryz.ntmps7
 rcases h6 with h6 | h6 | h6 | h6 | h6 | h6
 all_goals
  go_wp2_with fail;rw [←Qw2.out];try go_wp2_with fail
  go_loop [7,8,9] (fun sh st si=>∃ (j:Nat) (H T:ByteArray),j≤300∧sh=.string H∧st=.string T∧si=.int .i64 j∧H.size≤8*j∧T.size≤8*j) (fun _ _ i=>300 - (intOf i).toNat)
  case atStart=>exact ⟨0,⟨#[]⟩,⟨#[]⟩,by omega,rfl,rfl,rfl,lr 0,lr 0⟩
  case round=>
   obtain ⟨j,H,T,hj,rfl,rfl,rfl,hH,hT2⟩:=hrel
   by_cases hlt:(j:Int)<m % 300
   · go_wp2_with fail
     go_round
     case rel=>exact ⟨j+1,_,_,by omega,rfl,rfl,by go_num,sapp8 hH (by decide),sapp8 hT2 (by decide)⟩
     case measure=>simp [intOf];omega
   · obtain ⟨S,hS⟩:=ex_ (H++⟨#[91,99,93]⟩++T);have hsz:S.size≤10000:=by rw [hS,bA,bA];show _+3+_≤_;omega
     have HSM:Hid (S.size≤maxLen):=by show _≤_;unfold maxLen;omega
     have HP:=Hd (fparse_any S w2 HSM.out (HT.out.below HB.out));obtain ⟨P,HQP⟩:=exh_ (parseF (bs S));rw [←HQP.out] at HP;obtain ⟨f,at_,er⟩:=P;have HS:=Hd hS;clear hS;go_wp2_with fail;rw [←HS.out];clear h6 hH hT2 hj hlt hwm hwk hm0 hm1 hk0 hk1;(try go_wp2_with fail);refine (HP.out).mono ?_;rintro e w3 ⟨x,rfl,hx,hb⟩;simp only at hx;simp only [FV.val];have Ex:Hid (x.val=(f).val x.Ae x.ce x.A x.c):=hx.val;have Ox:=Hd hx.o;have Vx:=Hd hx.v.toV;clear hx HP;replace HB:=kB HB hb;clear hb;obtain ⟨b1,Qb1⟩:=exh_ w3.heap.size;obtain ⟨w4,Qw4⟩:=exh_ (w3.alloc (.cells #[.int .i64 x.o,.int .i64 x.tn,.int .i64 x.tm,.string x.s,.slice x.Ae x.ne x.ce,.slice x.A x.n x.c] 35));have Xb1:=nAl Qw4.out Qb1.out;have hal:=bAl Qw4.out;replace HB:=kB HB hal;replace Vx:=Hd (FmV.below Vx.out hal rfl);clear hal;have HP2:=Hd (rfparse_any S w4 HSM.out);rw [←HQP.out] at HP2;go_wp2_with fail;rw [←Qw4.out,←Qb1.out];(try go_wp2_with fail);refine (HP2.out).mono ?_;rintro e w5 ⟨y,rfl,hx,hb⟩;simp only at hx;simp only [FV.val];have Ey:Hid (y.val=(f).val y.Ae y.ce y.A y.c):=hx.val;have Oy:=Hd hx.o;have Vy:=Hd hx.v.toV;clear hx HP2;replace HB:=kB HB hb;replace Xb1:=kX hb Xb1;replace Vx:=Hd (FmV.below Vx.out hb rfl);clear hb;obtain ⟨cb10,cb11,cb12,cb13,cb14,cb15,zb1q⟩:=q6 Xb1.out;have lb1:=lH Xb1.out;obtain ⟨b2,Qb2⟩:=exh_ w5.heap.size
     obtain ⟨w6,Qw6⟩:=exh_ (w5.alloc (.cells #[.int .i64 y.o,.int .i64 y.tn,.int .i64 y.tm,.string y.s,.slice y.Ae y.ne y.ce,.slice y.A y.n y.c] 35));have Xb2:=nAl Qw6.out Qb2.out;have hal:=bAl Qw6.out;replace HB:=kB HB hal;replace Xb1:=kX hal Xb1;replace Vx:=Hd (FmV.below Vx.out hal rfl);replace Vy:=Hd (FmV.below Vy.out hal rfl);clear hal;have hsame:=rfsame_any (f).size (f) x.Ae x.ce x.A x.c y.Ae y.ce y.A y.c w6 (lr _) Vx.out Vy.out;rw [←Ex.out,←Ey.out] at hsame;unfold FV.val at hsame;have HSA:=Hd hsame;clear hsame;go_wp2_with fail;rw [←Qw6.out];refine (HSA.out).mono ?_;rintro e w7 ⟨rfl,hb⟩;clear HSA;replace HB:=kB HB hb;replace Xb1:=kX hb Xb1;replace Xb2:=kX hb Xb2;replace Vx:=Hd (FmV.below Vx.out hb rfl);replace Vy:=Hd (FmV.below Vy.out hb rfl);clear hb cb10 zb1q cb11 cb12 cb13 cb14 cb15 lb1;have HLV:=Hd (lives33_any w7 (HT.out.below HB.out));go_wp2_with fail;refine (HLV.out).mono ?_;rintro e w8 ⟨rfl,hb⟩;clear HLV;replace HB:=kB HB hb;replace Xb1:=kX hb Xb1;replace Xb2:=kX hb Xb2;replace Vx:=Hd (FmV.below Vx.out hb rfl);replace Vy:=Hd (FmV.below Vy.out hb rfl);clear hb;go_wp2_with fail;rw [HF.out];exact ⟨rfl,HB.out⟩
open Go.ChangeShapes Go.WideShapes Go.ChangeAt Go.RowKit
open Go.ChangeMaps (open_string shut_string)
namespace lawFtextDeep
theorem lifted (os:Os) (started:os.Started) (H:Type) (enc:TypeId×Value→H) :
 ReturnsInHanded {} Tryz.checked os 7 .any (fun w args=>(Rows.ftextDeepSpec.pre enc Tryz.prog Tryz.f7 Rows.ftextDeepRow.domain false w args∧laidMetH Tryz.prog Rows.ftextDeepRow.laid w)∧sizedMet enc Tryz.prog Tryz.f7 (OpenSpec.ofChange Rows.ftextDeepSpec) false w args)
  (Rows.ftextDeepSpec.post enc Tryz.prog Tryz.f7 false true false false):=by
 refine returnsInHanded_of_change_and (C:=Tryz.checked) (X:=fun w _=>laidMetH Tryz.prog Rows.ftextDeepRow.laid w) (fun _ _ _ hh h=>h.of_heap hh) own started (by kernel_rfl) Tryz.func7
  (ChangeSpec.witness_shaped (enc:=enc) (C:=Tryz.checked) (os:=os) (X:=fun w _=>laidMetH Tryz.prog Rows.ftextDeepRow.laid w) false (World.laidAll Tryz.prog os Rows.ftextDeepRow.laid) #[.int .u16 0,.int .u8 0] 8 (World.laidAll_os _ _ _)
    (World.shaped_of_ZipB (by kernel_rfl) (by kernel_rfl)) (by kernel_rfl) (by kernel_rfl) (by kernel_rfl)
    (by rw [MakeChecks.laidMetH_plain _ _ _ (by kernel_rfl)];exact laidMet_laidAll _ (by kernel_rfl) (by kernel_rfl))) ?_
 intro W base args ds gs before hval0 hW hcnd hsz hL _;have hval:∀ (j:Nat) t v,Tryz.f7.params[j]?=some t→args[j]?=some v→Value.okWide Tryz.prog W .any base t v:=hval0;have hW':=hW;obtain ⟨p,q,hA0,hV,rfl,hfz,hnd⟩:=hW;have hA:DataW.TrodAll enc Tryz.prog W 0 (fun _=>true) true Tryz.f7.params.toList args.toList ds p:=hA0;rw [Tryz.params7] at hA hval;obtain ⟨v0,vs0,d0,ds0,p0,q0,hargs,rfl,rfl,h0,r0⟩:=trodAll_cons hA;obtain ⟨v1,vs1,d1,ds1,p1,q1,rfl,rfl,rfl,h1,r1⟩:=trodAll_cons r0;obtain ⟨rfl,rfl,rfl⟩:=trodAll_nil r1;obtain rfl:args=#[v0,v1]:=by cases args;simp_all
 obtain ⟨rfl,rfl⟩:=trodVars_none hV;rw [MakeChecks.laidMetH_plain _ _ _ (by kernel_rfl)] at hL;have hT:Tables W:=tables_of_reads (Lib.laidMet.reads hL (by simp [Rows.ftextDeepRow])) (Lib.laidMet.reads hL (by simp [Rows.ftextDeepRow]));have k0:=h0;have lt0:∀ x∈p0,x.block<W.heap.size:=by obtain ⟨m,hm⟩:=k0;exact DataW.trod_lt m _ _ _ hm
 have k1:=h1;have lt1:∀ x∈p1,x.block<W.heap.size:=by obtain ⟨m,hm⟩:=k1;exact DataW.trod_lt m _ _ _ hm
 obtain ⟨m,rfl,rfl,rfl,wm⟩:=open_int Tryz.underlying47 (hval 0 47 v0 rfl rfl) h0;obtain ⟨k,rfl,rfl,rfl,wk⟩:=open_int Tryz.underlying5 (hval 1 5 v1 rfl rfl) h1;clear hA0 hval0;refine (ftextDeep_any m k W wm wk hT).mono fun e W' ⟨he,bel⟩=>?_;subst he;exact ⟨_,rfl,_,_,_,[],_,[],hW',trodAll_mk1 (shut_bool Tryz.underlying4 _),(trodAll_cons_mk (Below.trod laidOut (by kernel_rfl) (of_decide_eq_true (by kernel_rfl)) k0 bel lt0) (trodAll_cons_mk (Below.trod laidOut (by kernel_rfl) (of_decide_eq_true (by kernel_rfl)) k1 bel lt1) trodAll_mk0)),rfl,bel.frame _,fun h=>by cases h⟩
theorem said:Rows.FtextDeepSaid:=
 OpenClaim.holds_of_wide 7 Tryz.f7 rfl rfl rfl rfl rfl rfl rfl ⟨rfl,rfl,rfl,rfl,rfl⟩ rfl rfl rfl rfl rfl (by kernel_rfl) Tryz.func7 (by kernel_rfl)
  (of_decide_eq_true (by kernel_rfl)) (by unfold Func.isWrapper;first | (rw [iP (by decide +kernel)];kernel_rfl) | (rw [iN (by decide +kernel)];exact ⟨rfl,rfl⟩))
  (fun os started H enc _=>lifted os started H enc)
theorem card:Rows.FtextDeepCardSaid:=
 Claim7.holds_tied_plain_at .later [] _ _ _ _ said (fun _ h=>by cases h) (by kernel_rfl) (fun _ h=>by cases h) ftextDeep_row_tie rfl ⟨rfl,rfl⟩ (by kernel_rfl) rfl
  (fun f fn hf hfn=>by
    obtain rfl:f=7:=Option.some.inj ((show Tryz.prog.funcNamed Rows.ftextDeepRow.func=some 7 by kernel_rfl).symm.trans hf) |>.symm;obtain rfl:fn=Tryz.f7:=(Option.some.inj (Tryz.func7.symm.trans hfn)).symm
    exact ⟨by kernel_rfl,fun j t ht=>by
     rw [Tryz.params7] at ht;have hm:t∈[47,5]:=by simpa using Array.mem_of_getElem? ht
     have hall:([47,5].all fun u=>!Tryz.prog.wantsStandIn u)=true:=by kernel_rfl
     exact (show Tryz.prog.wantsStandIn t=false by simpa using List.all_eq_true.1 hall t hm)⟩)
  (by kernel_rfl)
#print axioms card
end lawFtextDeep
end Go.Proofs.YtnbphgeepnknlaaGreatDoor
