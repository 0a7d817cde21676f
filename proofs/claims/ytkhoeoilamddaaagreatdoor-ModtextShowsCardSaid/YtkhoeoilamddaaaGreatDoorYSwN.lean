/- Walks and plain words: SwN SwNd. -/
import Derived.Test.YtkhoeoilamddaaaGreatDoorYSwD
import Derived.Test.YtkhoeoilamddaaaGreatDoorYRefI
import Derived.Test.YtkhoeoilamddaaaGreatDoorYOpnM
namespace Go.Proofs.YtkhoeoilamddaaaGreatDoor
open Go.RowKit
set_option linter.unusedVariables false
theorem sT{t:Tm}(h:t.size≤9000000):ShX t:=fun A c W hV hT=>Ej t A c W hV h hT
theorem sF{f:Fm}(h:f.bT≤9000000):aho f:=fun Ae ce A c W hV hT=>Qe f Ae ce A c W h hV hT
theorem sR{t:Tm}(h:t.size≤9000000):amE t:=fun A c W hV=>ZK t A c W hV h
theorem sG{f:Fm}(h:f.bT≤9000000):amT f:=fun Ae ce A c W hV=>aiA f Ae ce A c W hV h
theorem am8{m:Md}(h:PX m):JQ m∧amL m:=by
 have l1:∀{t:Tm},t.size≤600→t.size≤9000000:=fun h=>Nat.le_trans h (by decide);have l2:∀{f:Fm},f.bT≤600→f.bT≤9000000:=fun h=>Nat.le_trans h (by decide)
 exact⟨⟨fun d hd=>sT (l1 (h.defs d hd)),fun d hd=>sT (l1 (h.init d hd)),fun d hd=>sT (l1 (h.bF d hd)),fun d hd=>sT (l1 (h.next d hd)),fun d hd=>sT (l1 (h.trans d hd)),fun d hd=>sT (l1 (h.fair d hd)),fun d hd=>sF (l2 (h.specs d hd))⟩,
  ⟨fun d hd=>sR (l1 (h.defs d hd)),fun d hd=>sR (l1 (h.init d hd)),fun d hd=>sR (l1 (h.bF d hd)),fun d hd=>sR (l1 (h.next d hd)),fun d hd=>sR (l1 (h.trans d hd)),fun d hd=>sR (l1 (h.fair d hd)),fun d hd=>sG (l2 (h.specs d hd))⟩⟩
theorem am1:JQ IG:=⟨(fun d h=>by simp[IG]at h),(fun d h=>by simp[IG]at h),(fun d h=>by simp[IG]at h),
 (fun d h=>by
   have h:d=⟨⟨#[110]⟩,j6 0⟩:=by simpa[IG]using h
   subst h
   exact sT (of_decide_eq_true (by kernel_rfl))),
 (fun d h=>by simp[IG]at h),(fun d h=>by simp[IG]at h),
 (fun d h=>by
   have h:d=⟨⟨#[115]⟩,fT 7 [.mk 1 (dD 10 [iH 3 [110],j6 1]) []]⟩:=by simpa[IG]using h
   subst h
   exact sF (of_decide_eq_true (by kernel_rfl)))⟩
theorem ani(s:ByteArray)(W:World)(h:24<s.size):Calls Tryz.prog 63 #[.string s] W fun e w'=>e=.returned (.bool (isName (bs s)))∧Below W.heap.size W w':=by
 have hv:isName (bs s)=false:=by
  cases hh:isName (bs s)with
  |false=>rfl
  |true=>exact absurd (AP hh) (by rw[aC];omega)
 have HV:=Hd hv;have h0':(1:Int)≤(s.size:Int):=by omega
 have Wt:¬(s.size:Int)≤24:=by omega
 clear hv h;go_in
 go_wp2
 go_ret;exact⟨by rw[HV];rfl,Br _ _⟩
theorem anj:RIs:=fun s W _=>by
 by_cases h:s.size≤24
 ·exact agO s W (by omega)
 ·exact ani s W (by omega)
theorem amI(V:Nat→Value)(m:Md)(w:World)(hM:Km w V m)(hNm:WZ m)(hL:aa5 m)(hT:Tables w) :
 Calls Tryz.prog 4 #[.agg #[V 0,V 1,V 2,V 3,V 4,V 5,V 6,V 7]] w (EA w):=
 amw am1 (fun m h=>am8 h) anj (fun x W h1 h2=>ZA x W (by omega) (by omega)) V m w hM hNm hL hT
open Go.ChangeShapes Go.WideShapes Go.ChangeAt Go.RowKit
open Go.ChangeMaps (open_string shut_string)
set_option maxRecDepth 100000
namespace lawModtextShows
theorem lifted(os:Os)(started:os.Started)(H:Type)(enc:TypeId×Value→H) :
 ReturnsInHanded {} Tryz.checked os 4 .any (fun w args=>(Rows.modtextShowsSpec.pre enc Tryz.prog Tryz.f4 Rows.modtextShowsRow.domain false w args∧laidMetH Tryz.prog Rows.modtextShowsRow.laid w)∧sizedMet enc Tryz.prog Tryz.f4 (OpenSpec.ofChange Rows.modtextShowsSpec) false w args)
  (Rows.modtextShowsSpec.post enc Tryz.prog Tryz.f4 false true false false):=by
 refine returnsInHanded_of_change_and (C:=Tryz.checked) (X:=fun w _=>laidMetH Tryz.prog Rows.modtextShowsRow.laid w) (fun _ _ _ hh h=>h.of_heap hh) own started (by kernel_rfl) Tryz.func4
  (ChangeSpec.witness_shaped (enc:=enc) (C:=Tryz.checked) (os:=os) (X:=fun w _=>laidMetH Tryz.prog Rows.modtextShowsRow.laid w) false (World.laidAll Tryz.prog os Rows.modtextShowsRow.laid) #[.agg #[.slice none 0 0,.slice none 0 0,.slice none 0 0,.slice none 0 0,.slice none 0 0,.slice none 0 0,.slice none 0 0,.slice none 0 0]] 8 (World.laidAll_os _ _ _)
    (World.shaped_of_ZipB (by kernel_rfl) (by kernel_rfl)) (by kernel_rfl) (by kernel_rfl) (by kernel_rfl)
    (by rw[MakeChecks.laidMetH_plain _ _ _ (by kernel_rfl)];exact laidMet_laidAll _ (by kernel_rfl) (by kernel_rfl))) ?_
 intro W base args ds gs before hval0 hW hcnd hsz hL _;have hval:∀(j:Nat) t v,Tryz.f4.params[j]?=some t→args[j]?=some v→Value.okWide Tryz.prog W .any base t v:=hval0;have hW':=hW;obtain⟨p,q,hA0,hV,rfl,hfz,hnd⟩:=hW;have hA:DataW.TrodAll enc Tryz.prog W 0 (fun _=>true) true Tryz.f4.params.toList args.toList ds p:=hA0;rw[Tryz.params4]at hA hval;obtain⟨v0,vs0,d0,ds0,p0,q0,hargs,rfl,rfl,h0,r0⟩:=trodAll_cons hA;obtain⟨rfl,rfl,rfl⟩:=trodAll_nil r0;obtain rfl:args=#[v0]:=by cases args;simp_all
 obtain⟨rfl,rfl⟩:=trodVars_none hV;rw[MakeChecks.laidMetH_plain _ _ _ (by kernel_rfl)]at hL;have hT:Tables W:=Kv (Lib.laidMet.reads hL (by simp[Rows.modtextShowsRow])) (Lib.laidMet.reads hL (by simp[Rows.modtextShowsRow]));have k0:=h0;have lt0:∀x∈p0,x.block<W.heap.size:=by obtain⟨m,hm⟩:=k0;exact DataW.trod_lt m _ _ _ hm
 obtain⟨m,V,rfl,hM,hNm,hLn⟩:=Zq (hval 0 28 v0 rfl rfl) h0 (fun n hn=>of_decide_eq_true (List.all_eq_true.1 hsz n (DataW.weights_mem_each (j:=0) (t:=28) (d:=d0) rfl rfl n hn)));clear hA0 hval0;refine(amI V m W hM hNm hLn hT).mono fun e W' ⟨he,mW⟩=>?_;subst he;exact⟨_,rfl,_,_,_,[],_,[],hW',trodAll_mk1 (shut_bool Tryz.underlying4 _),(trodAll_cons_mk (Below.trod laidOut (by kernel_rfl) (of_decide_eq_true (by kernel_rfl)) k0 mW lt0) trodAll_mk0),rfl,mW.frame _,fun h=>by cases h⟩
theorem said:Rows.ModtextShowsSaid:=
 OpenClaim.holds_of_wide 4 Tryz.f4 rfl rfl rfl rfl rfl rfl rfl ⟨rfl,rfl,rfl,rfl,rfl⟩ rfl rfl rfl rfl rfl (by kernel_rfl) Tryz.func4 (by kernel_rfl)
  (of_decide_eq_true (by kernel_rfl)) (by unfold Func.isWrapper;first|(rw[iP (by decide +kernel)];kernel_rfl)|(rw[iN (by decide +kernel)];exact⟨rfl,rfl⟩))
  (fun os started H enc _=>lifted os started H enc)
theorem card:Rows.ModtextShowsCardSaid:=
 Claim7.holds_tied_plain_at .later [] _ _ _ _ said (fun _ h=>by cases h) (by kernel_rfl) (fun _ h=>by cases h) modtextShows_row_tie rfl ⟨rfl,rfl⟩ (by kernel_rfl) rfl
  (fun f fn hf hfn=>by
    obtain rfl:f=4:=Option.some.inj ((show Tryz.prog.funcNamed Rows.modtextShowsRow.func=some 4 by kernel_rfl).symm.trans hf)|>.symm;obtain rfl:fn=Tryz.f4:=(Option.some.inj (Tryz.func4.symm.trans hfn)).symm
    exact⟨by kernel_rfl,fun j t ht=>by
     rw[Tryz.params4]at ht;have hm:t∈[28]:=by simpa using Array.mem_of_getElem? ht
     have hall:([28].all fun u=>!Tryz.prog.wantsStandIn u)=true:=by kernel_rfl
     exact(show Tryz.prog.wantsStandIn t=false by simpa using List.all_eq_true.1 hall t hm)⟩)
  (by kernel_rfl)
#print axioms card
end lawModtextShows
end Go.Proofs.YtkhoeoilamddaaaGreatDoor
