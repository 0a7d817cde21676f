/- Walks and plain words: PrsO PrsT PrsU. -/
import Derived.Test.YtkhoeoilamddaaaGreatDoorVPrsN
import Derived.Recover
namespace Go.Proofs.YtkhoeoilamddaaaGreatDoor
open Go.RowKit
set_option linter.unusedVariables false
theorem numAt_of {l:List Tok} {i:Nat} {t:Tok} (h:l[i]?=some t):numAt l i=t.n:=by unfold numAt;rw [h]
theorem textAt_of {l:List Tok} {i:Nat} {t:Tok} (h:l[i]?=some t):textAt l i=t.text:=by unfold textAt;rw [h]
theorem punit_any (R:Nat) (A:Option Addr) (c d:Nat) (l:List Tok) (T:Par) (hd:d≤256) (hT:d<256→FnC R A c (d+1) l 122 (.pointer (some ⟨R,0,none⟩)) (fun _=>True) T) :
 FnC R A c d l 204 (.pointer (some ⟨R,0,none⟩)) (fun _=>True) (unitF l (if d=256 then none else some T)):=by
 intro i w hi hR hP _
 by_cases h1:isTk l i 4 [45]=true
 · by_cases hk:isKd l (i+1) 1=true
   · obtain ⟨t,ht,hkd⟩:=isKd_some hk;have e:unitF l (if d=256 then none else some T) i=.ok (tmNum (-t.n)) (i+1+1):=by unfold unitF;rw [iP h1,iP hk,numAt_of ht]
     rw [e];exact punit_minus_yes R A c d l i w h1 t ht hkd hi hR hP
   · have hk':isKd l (i+1) 1=false:=by simpa using hk
     have e:unitF l (if d=256 then none else some T) i=.bad (i+1) 16:=by unfold unitF;rw [iP h1,iN hk]
     rw [e];exact punit_minus_no R A c d l i w h1 hk' hi hR hP
 have g1:isTk l i 4 [45]=false:=by simpa using h1
 by_cases h2:isTk l i 3 wTrue=true
 · have e:unitF l (if d=256 then none else some T) i=.ok (tmBool 1) (i+1):=by unfold unitF;rw [iN h1,iP h2]
   rw [e];exact punit_true R A c d l i w g1 h2 hi hR hP
 have g2:isTk l i 3 wTrue=false:=by simpa using h2
 by_cases h3:isTk l i 3 wFalse=true
 · have e:unitF l (if d=256 then none else some T) i=.ok (tmBool 0) (i+1):=by unfold unitF;rw [iN h1,iN h2,iP h3]
   rw [e];exact punit_false R A c d l i w g1 g2 h3 hi hR hP
 have g3:isTk l i 3 wFalse=false:=by simpa using h3
 by_cases h4:isTk l i 3 wNext=true
 · by_cases ho:isTk l (i+1) 4 [40]=true
   · by_cases hk:isKd l (i+2) 2=true
     · obtain ⟨t,ht,hkd⟩:=isKd_some hk
       by_cases hc:isTk l (i+3) 4 [41]=true
       · have e:unitF l (if d=256 then none else some T) i=.ok (tmName 4 t.text) (i+1+1+1+1):=by unfold unitF;rw [iN h1,iN h2,iN h3,iP h4,iP ho,iP hk,iP hc,textAt_of ht]
         rw [e];exact punit_next_yes R A c d l i w g1 g2 g3 h4 ho t ht hkd hc hi hR hP
       · have hc':isTk l (i+3) 4 [41]=false:=by simpa using hc
         have e:unitF l (if d=256 then none else some T) i=.bad (i+1+1+1) 16:=by unfold unitF;rw [iN h1,iN h2,iN h3,iP h4,iP ho,iP hk,iN hc]
         rw [e];exact punit_next_no3 R A c d l i w g1 g2 g3 h4 ho t ht hkd hc' hi hR hP
     · have hk':isKd l (i+2) 2=false:=by simpa using hk
       have e:unitF l (if d=256 then none else some T) i=.bad (i+1+1) 16:=by unfold unitF;rw [iN h1,iN h2,iN h3,iP h4,iP ho,iN hk]
       rw [e];exact punit_next_no2 R A c d l i w g1 g2 g3 h4 ho hk' hi hR hP
   · have ho':isTk l (i+1) 4 [40]=false:=by simpa using ho
     have e:unitF l (if d=256 then none else some T) i=.bad (i+1) 16:=by unfold unitF;rw [iN h1,iN h2,iN h3,iP h4,iN ho]
     rw [e];exact punit_next_no1 R A c d l i w g1 g2 g3 h4 ho' hi hR hP
 have g4:isTk l i 3 wNext=false:=by simpa using h4
 by_cases h5:isTk l i 4 [40]=true
 · have e:unitF l (if d=256 then none else some T) i=((if d=256 then .bad i 17 else T (i+1)).then fun t j=>if isTk l j 4 [41] then .ok t (j+1) else .bad j 16):=by
    unfold unitF;rw [iN h1,iN h2,iN h3,iN h4,iP h5]
    by_cases h:d=256
    · simp only [h,if_true];rfl
    · simp only [h,if_false];rfl
   rw [e];exact punit_open R A c d l i w g1 g2 g3 g4 h5 T hd hT hi hR hP
 have g5:isTk l i 4 [40]=false:=by simpa using h5
 by_cases h6:isTk l i 3 wIf=true
 · have e:unitF l (if d=256 then none else some T) i=(if d=256 then .bad i 17 else ch1 l T (i+1)):=by
    unfold unitF;rw [iN h1,iN h2,iN h3,iN h4,iN h5,iP h6]
    by_cases h:d=256
    · simp only [h,if_true];rfl
    · simp only [h,if_false];rfl
   rw [e];exact punit_if R A c d l i w g1 g2 g3 g4 g5 h6 T hd hT hi hR hP
 have g6:isTk l i 3 wIf=false:=by simpa using h6
 by_cases h7:isKd l i 2=true
 · obtain ⟨t,ht,hkd⟩:=isKd_some h7;have e:unitF l (if d=256 then none else some T) i=.ok (tmName 3 t.text) (i+1):=by unfold unitF;rw [iN h1,iN h2,iN h3,iN h4,iN h5,iN h6,iP h7,textAt_of ht]
   rw [e];exact punit_name R A c d l i w g1 g2 g3 g4 g5 g6 t ht hkd hi hR hP
 have g7:isKd l i 2=false:=by simpa using h7
 by_cases h8:isKd l i 1=true
 · obtain ⟨t,ht,hkd⟩:=isKd_some h8;have e:unitF l (if d=256 then none else some T) i=.ok (tmNum t.n) (i+1):=by unfold unitF;rw [iN h1,iN h2,iN h3,iN h4,iN h5,iN h6,iN h7,iP h8,numAt_of ht]
   rw [e];exact punit_num R A c d l i w g1 g2 g3 g4 g5 g6 t ht hkd hi hR hP
 have g8:isKd l i 1=false:=by simpa using h8
 have e:unitF l (if d=256 then none else some T) i=.bad i 16:=by unfold unitF;rw [iN h1,iN h2,iN h3,iN h4,iN h5,iN h6,iN h7,iN h8]
 rw [e]
 rcases isKd_none g7 with hge | ⟨t,ht,hk⟩
 · exact punit_end R A c d l i w g1 g2 g3 g4 g5 g6 hge g8 hi hR hP
 · exact punit_other R A c d l i w g1 g2 g3 g4 g5 g6 t ht hk g8 hi hR hP
structure LvlC (R:Nat) (A:Option Addr) (c d:Nat) (l:List Tok) (v:Lvl):Prop where
 term:FnC R A c d l 122 (.pointer (some ⟨R,0,none⟩)) (fun _=>True) v.term
 imp:FnC R A c d l 145 (.pointer (some ⟨R,0,none⟩)) (fun _=>True) v.imp
 not:FnC R A c d l 173 (.pointer (some ⟨R,0,none⟩)) (fun _=>True) v.not
theorem plvl_step (R:Nat) (A:Option Addr) (c d:Nat) (l:List Tok) (s:Option Lvl) (v:Lvl) (hd:d≤256) (hs:s=if d=256 then none else some v) (hv:d<256→LvlC R A c (d+1) l v):LvlC R A c d l (lvlB l s):=by
 have ht:s.map Lvl.term=if d=256 then none else some v.term:=by rw [hs];split <;> rfl
 have hi:s.map Lvl.imp=if d=256 then none else some v.imp:=by rw [hs];split <;> rfl
 have hn:s.map Lvl.not=if d=256 then none else some v.not:=by rw [hs];split <;> rfl
 have hunit:=punit_any R A c d l v.term hd (fun h=>(hv h).term);rw [←ht] at hunit;have hsum:=psum_any R A c d l _ hunit;have hnot:=pnot_any R A c d l _ v.not hd hsum (fun h=>(hv h).not);rw [←hn] at hnot;have himp:=pimp_any R A c d l _ v.imp hd hnot (fun h=>(hv h).imp);rw [←hi] at himp;exact ⟨pterm_any R A c d l _ himp,himp,hnot⟩
theorem plevels (R:Nat) (A:Option Addr) (c:Nat) (l:List Tok):∀ r d,d+r=256→LvlC R A c d l (lvl l r)
 | 0,d,h=>by
  rw [lvl];exact plvl_step R A c d l none (lvl l 0) (by omega) (by rw [iP (by omega)]) (fun h=>by omega)
 | r+1,d,h=>by
  rw [lvl];exact plvl_step R A c d l (some (lvl l r)) (lvl l r) (by omega) (by rw [iN (by omega)]) (fun _=>plevels R A c l r (d+1) (by omega))
set_option linter.unusedSimpArgs false
set_option maxRecDepth 100000
set_option maxHeartbeats 1000000
def caught (j:Nat) (x:Int):List PanicEntry:=[{ v:=.iface 181 (.agg #[.int .i64 (j:Nat),.int .i64 x]),recovered:=true }]
theorem ptake1_panic (b4 b5 b6:Nat) (j:Nat) (x:Int) (w:World) (u0 u1 u2 u3 u5 u6:Value) (h4:w.heap[b4]?=some (.cells #[u0,u1,u2,u3] 64 (0,0))) (h5:w.heap[b5]?=some (.cells #[u5] 3 (0,0))) (h6:w.heap[b6]?=some (.cells #[u6] 29 (0,0))) (hne:b4≠b5) (hne2:b4≠b6) (hne3:b5≠b6) :
 CallsD Tryz.prog 121 #[.pointer (some ⟨b4,0,none⟩),.pointer (some ⟨b5,0,none⟩),.pointer (some ⟨b6,0,none⟩)] (.panicking (thrown j x)) w fun e u' w'=>
  e=.returned (.tuple #[])∧u'=.panicking (caught j x)∧w'=(((((((w.alloc (.cells #[.int .i64 (j:Nat),.int .i64 x] 181)).drew.setCell ⟨b4,0,none⟩ (.int .i64 0)).setCell ⟨b4,1,none⟩ (.int .i64 0)).setCell ⟨b4,2,none⟩ (.string ⟨#[]⟩)).setCell ⟨b4,3,none⟩ (.slice none 0 0)).setCell ⟨b5,0,none⟩ (.int .i64 (j:Nat))).setCell ⟨b6,0,none⟩ (.int .i64 x)):=by
 obtain ⟨y0,y1,y2,y3,pq⟩:=q4 h4;have y5:w.cell? ⟨b5,0,none⟩=some u5:=by rw [cR w b5 0 _ _ (0,0) h5];rfl
 have p5:w.frozen? ⟨b5,0,none⟩=false:=by simp [World.frozen?,h5]
 have y6:w.cell? ⟨b6,0,none⟩=some u6:=by rw [cR w b6 0 _ _ (0,0) h6];rfl
 have p6:w.frozen? ⟨b6,0,none⟩=false:=by simp [World.frozen?,h6]
 have l4:=lH h4;have l5:=lH h5;have l6:=lH h6;have n4:b4≠w.heap.size:=by omega
 have n5:b5≠w.heap.size:=by omega
 have n6:b6≠w.heap.size:=by omega
 obtain ⟨WW,HWW⟩:=exh_ ((((((((w.alloc (.cells #[.int .i64 (j:Nat),.int .i64 x] 181)).drew.setCell ⟨b4,0,none⟩ (.int .i64 0)).setCell ⟨b4,1,none⟩ (.int .i64 0)).setCell ⟨b4,2,none⟩ (.string ⟨#[]⟩)).setCell ⟨b4,3,none⟩ (.slice none 0 0)).setCell ⟨b5,0,none⟩ (.int .i64 (j:Nat))).setCell ⟨b6,0,none⟩ (.int .i64 x)));rw [←HWW.out];refine callsD_of_wpS Tryz.func121 rfl fun c₀ cs hu=>?_
 apply wpS_seq
 apply wpS_region
 simp [wpOpsS,go_sem,recoverD,hu,Tryz.ntmps121,Exit.thenS,thrown];refine wpS_of_wp ?_;obtain ⟨Q,hQ⟩:∃ Q:Exit→Act→World→Prop,Q=fun e a' w'=>e=.normal∧a'.defers=[]∧w'=WW:=⟨_,rfl⟩;refine Code.wp_mono (Q:=Q) ?hq ?hw
 case hq=>
  intro e a' w' h;rw [hQ] at h;obtain ⟨rfl,hd,rfl⟩:=h;refine ⟨hd,_,rfl,.tuple #[],results_none rfl _ _ _,?_⟩;simp [caught]
 case hw=>
  have HQP:Hid (∀ c a w,Q (.panic c) a w→False):=fun c a w h=>by rw [hQ] at h;cases h.1
  have HQ:=Hd hQ;clear hQ hu;have hta:∀ (v:Value) (w:World),(Instr.typeAssert (.iface 181 v) 20 181 true).run Tryz.prog w=.ok (.tuple #[v,.bool true]) w:=fun _ _=>by kernel_rfl
  change Code.wp _ _ _ { tmps:=#[.pointer (some ⟨b4,0,none⟩),.pointer (some ⟨b5,0,none⟩),.pointer (some ⟨b6,0,none⟩),undef,undef,undef,.iface 181 (.agg #[.int .i64 j,.int .i64 x]),undef,undef,undef,undef,undef,undef,undef,undef,undef,undef],defers:=[] } w
  go_wp2_with fail
  --REGION
  obtain ⟨bw,hbw⟩:=ex_ w.heap.size;obtain ⟨wb,hwb⟩:=ex_ (w.alloc (.cells #[.int .i64 (j:Nat),.int .i64 x] 181));obtain ⟨wa,hwad⟩:=ex_ wb.drew;have hwa:wa=(w.alloc (.cells #[.int .i64 (j:Nat),.int .i64 x] 181)).drew:=by rw [hwad,hwb]
  have hrow:wa.heap[bw]?=some (.cells #[.int .i64 (j:Nat),.int .i64 x] 181 (0,0)):=by rw [hwa,hbw];exact hA_ w _
  have hold:∀ q,q<bw→wa.heap[q]?=w.heap[q]?:=fun q hq=>by rw [hwa];exact ((Br w.heap.size w).alloc (lr _) _).block q (by omega)
  rw [←hwb,←hbw];rw [←hbw] at n4 n5 n6 l4 l5 l6;clear y0 y1 y2 y3 pq y5 p5 y6 p6;obtain ⟨y0,y1,y2,y3,pq⟩:=q4 ((hold b4 l4).trans h4);have y5:wa.cell? ⟨b5,0,none⟩=some u5:=by rw [cR wa b5 0 _ _ (0,0) ((hold b5 l5).trans h5)];rfl
  have p5:wa.frozen? ⟨b5,0,none⟩=false:=by simp [World.frozen?,(hold b5 l5).trans h5]
  have y6:wa.cell? ⟨b6,0,none⟩=some u6:=by rw [cR wa b6 0 _ _ (0,0) ((hold b6 l6).trans h6)];rfl
  have p6:wa.frozen? ⟨b6,0,none⟩=false:=by simp [World.frozen?,(hold b6 l6).trans h6]
  have yw0:wa.cell? ⟨bw,0,none⟩=some (.int .i64 (j:Nat)):=by rw [cR wa bw 0 _ _ (0,0) hrow];rfl
  have yw1:wa.cell? ⟨bw,1,none⟩=some (.int .i64 x):=by rw [cR wa bw 1 _ _ (0,0) hrow];rfl
  have HWA := Lib.hid hwa;clear hwa hwb hbw hrow hold h4 h5 h6 l4 l5 l6;refine wp_region_held_drew (S := fun w' => w'.cell? ⟨bw, 0, none⟩ = some (.int .i64 (j : Nat)) ∧ w'.cell? ⟨bw, 1, none⟩ = some (.int .i64 x)) (by kernel_rfl) (by rw [← hwad]; exact ⟨yw0, yw1⟩) (fun hHeld => ?_);rw [← hwad] at hHeld ⊢;clear hwad;refine wpAnyH_take (i := 0) (oi := { dst := some 12, op := Op.build 64 #[], type := 64, pos := "ttext.go:354", after := #[], guard := none }) (v := ?_) rfl (by kernel_rfl) (by kernel_rfl) (by kernel_rfl) (fun _ _ _ h => (HQP.out _ _ _ h).elim) (Or.inl ⟨by rfl, ?hy⟩) (by assumption) ?_
  case hy=>
   intro w0 hSw;have e0:=hSw.1;have e1:=hSw.2;clear hSw;go_simp
   (first | done | with_reducible rfl)
  (try simp only [Act.put, sAr, sZe, sSu]);refine wpAnyH_take (i := 1) (oi := { dst := some 13, op := Op.fieldAddr 181 (Operand.tmp 4) 0, type := 0, pos := "ttext.go:354", after := #[{ on := 5, ground := Ground.gcOnly Departure.lateStores }], guard := none }) (v := ?_) rfl (by kernel_rfl) (by kernel_rfl) (by kernel_rfl) (fun _ _ _ h => (HQP.out _ _ _ h).elim) (Or.inl ⟨by rfl, ?hy⟩) (by assumption) ?_
  case hy=>
   intro w0 hSw;have e0:=hSw.1;have e1:=hSw.2;clear hSw;go_simp
   (first | done | with_reducible rfl)
  (try simp only [Act.put, sAr, sZe, sSu]);refine wpAnyH_take (i := 2) (oi := { dst := some 14, op := Op.load 3 (Operand.tmp 13), type := 3, pos := "ttext.go:354", after := #[{ on := 1, ground := Ground.data }, { on := 5, ground := Ground.gcOnly Departure.lateStores }], guard := none }) (v := ?_) rfl (by kernel_rfl) (by kernel_rfl) (by kernel_rfl) (fun _ _ _ h => (HQP.out _ _ _ h).elim) (Or.inl ⟨by rfl, ?hy⟩) (by assumption) ?_
  case hy=>
   intro w0 hSw;have e0:=hSw.1;have e1:=hSw.2;clear hSw;go_simp
   (first | done | with_reducible rfl)
  (try simp only [Act.put, sAr, sZe, sSu]);refine wpAnyH_take (i := 3) (oi := { dst := some 15, op := Op.fieldAddr 181 (Operand.tmp 4) 1, type := 0, pos := "ttext.go:354", after := #[{ on := 6, ground := Ground.gcOnly Departure.lateStores }], guard := none }) (v := ?_) rfl (by kernel_rfl) (by kernel_rfl) (by kernel_rfl) (fun _ _ _ h => (HQP.out _ _ _ h).elim) (Or.inl ⟨by rfl, ?hy⟩) (by assumption) ?_
  case hy=>
   intro w0 hSw;have e0:=hSw.1;have e1:=hSw.2;clear hSw;go_simp
   (first | done | with_reducible rfl)
  (try simp only [Act.put, sAr, sZe, sSu]);refine wpAnyH_take (i := 4) (oi := { dst := some 16, op := Op.load 29 (Operand.tmp 15), type := 29, pos := "ttext.go:354", after := #[{ on := 3, ground := Ground.data }, { on := 6, ground := Ground.gcOnly Departure.lateStores }], guard := none }) (v := ?_) rfl (by kernel_rfl) (by kernel_rfl) (by kernel_rfl) (fun _ _ _ h => (HQP.out _ _ _ h).elim) (Or.inl ⟨by rfl, ?hy⟩) (by assumption) ?_
  case hy=>
   intro w0 hSw;have e0:=hSw.1;have e1:=hSw.2;clear hSw;go_simp
   (first | done | with_reducible rfl)
  (try simp only [Act.put,sAr,sZe,sSu]);refine Rd (rs:=[5]) (by kernel_rfl) (by simp) ?_;refine Rc rfl (fun K hK=>?_) Rn;go_simp;refine hK.out _ _ ⟨by rw [cF_ _ _ _ _ n4,cF_ _ _ _ _ n4,cF_ _ _ _ _ n4,cF_ _ _ _ _ n4];exact hHeld.1,by rw [cF_ _ _ _ _ n4,cF_ _ _ _ _ n4,cF_ _ _ _ _ n4,cF_ _ _ _ _ n4];exact hHeld.2⟩ (fun hHeld=>?_);clear hK K;(try simp only [Act.put,sAr,sZe,sSu]);refine Rd (rs:=[6]) (by kernel_rfl) (by simp) ?_;refine Rc rfl (fun K hK=>?_) Rn;go_simp;refine hK.out _ _ ⟨by rw [cF_ _ _ _ _ n5];exact hHeld.1,by rw [cF_ _ _ _ _ n5];exact hHeld.2⟩ (fun hHeld=>?_);clear hK K;(try simp only [Act.put,sAr,sZe,sSu]);refine Rd (rs:=[7]) (by kernel_rfl) (by simp) ?_;refine Rc rfl (fun K hK=>?_) Rn;go_simp;refine hK.out _ _ ⟨by rw [cF_ _ _ _ _ n6];exact hHeld.1,by rw [cF_ _ _ _ _ n6];exact hHeld.2⟩ (fun hHeld=>?_);clear hK K;(try simp only [Act.put,sAr,sZe,sSu]);refine wpAnyH_done (by kernel_rfl) ?_ _
  --END
  refine (show Q _ _ _ from ?_);rw [HQ.out];refine ⟨rfl,rfl,?_⟩;rw [HWW.out,HWA.out]
set_option maxHeartbeats 4000000
abbrev qPrsU4:=@q4
theorem ptake1_idle (b4 b5 b6:Nat) (w:World) :
 CallsD Tryz.prog 121 #[.pointer (some ⟨b4,0,none⟩),.pointer (some ⟨b5,0,none⟩),.pointer (some ⟨b6,0,none⟩)] .returning w fun e u' w'=>e=.returned (.tuple #[])∧u'=.returning∧w'=w:=by
 refine callsD_of_wpS Tryz.func121 rfl fun c₀ cs hu=>?_
 apply wpS_seq
 apply wpS_region
 simp [wpOpsS,go_sem,recoverD,hu,Tryz.ntmps121,Exit.thenS];refine wpS_of_wp ?_;obtain ⟨Q,hQ⟩:∃ Q:Exit→Act→World→Prop,Q=fun e a' w'=>e=.normal∧a'.defers=[]∧w'=w:=⟨_,rfl⟩;refine Code.wp_mono (Q:=Q) ?hq ?hw
 case hq=>
  intro e a' w' h;rw [hQ] at h;obtain ⟨rfl,hd,rfl⟩:=h;refine ⟨hd,.returning,?_,.tuple #[],results_none rfl _ _ _,?_⟩
  · cases c₀;simp_all
  · simp
 case hw=>
  have HQ:=Hd hQ;clear hQ hu
  change Code.wp _ _ _ { tmps:=#[.pointer (some ⟨b4,0,none⟩),.pointer (some ⟨b5,0,none⟩),.pointer (some ⟨b6,0,none⟩),undef,undef,undef,.nilIface,undef,undef,undef,undef,undef,undef,undef,undef,undef,undef],defers:=[] } w
  go_wp2
  refine (show Q _ _ _ from ?_);rw [HQ.out];exact ⟨rfl,rfl,rfl⟩
structure TokIn (w:World) (A:Option Addr) (c:Nat) (l:List Tok):Prop where
 toks:ToksAt w A l
 cap:l.length≤c
 capm:c≤maxLen
 len:l.length≤100000
 txt:∀ t∈l,t.text.length≤100000
 rng:∀ t∈l,-1000000≤t.n∧t.n≤1000000
 old:∀ a,A=some a→a.block<w.heap.size
theorem TokIn.pt {w w':World} {A:Option Addr} {c R:Nat} {l:List Tok} (h:TokIn w A c l) (hb:Below w.heap.size w w') (hR:w.heap.size≤R):PTok w' R A c l:=by
 refine ⟨?_,h.cap,h.capm,h.len,?_,h.txt,h.rng⟩
 · rcases h.toks with h0 | ⟨b,off,rfl,hbl,hc⟩
   · exact .inl h0
   · exact .inr ⟨b,off,rfl,lL hbl hb.size,fun k z hz j hj=>by rw [hb.cell (p:=⟨b,_,none⟩) hbl];exact hc k z hz j hj⟩
 · intro a ha;have:=h.old a ha;omega
theorem leaves_tmps {P:Program} {fn:Func} {R:Ending→World→Prop} {tmps tmps':Array Value} (h:results fn tmps'=results fn tmps):∀ (ds:List Deferred) (u:FrameMode) (w:World),Leaves P fn tmps' R ds u w→Leaves P fn tmps R ds u w
 | [],.returning,w,⟨v,hv,hr⟩=>⟨v,by rw [←h];exact hv,hr⟩
 | [],.panicking c,w,hh=>hh
 | [],.run,w,hh=>hh
 | d :: ds,u,w,⟨hu,fv,cap,f,args,h1,h2,h3⟩=>⟨hu,fv,cap,f,args,h1,h2,h3.mono fun e u' w' hh=>by
  cases e with
  | returned v=>exact leaves_tmps h ds _ _ hh
  | panicked c=>exact leaves_tmps h ds _ _ hh
  | outgrown=>exact hh⟩
theorem take_results (tm:Array Value) (v:Value) {k:Nat} (hk:7≤k):results Tryz.f81 (tm.setIfInBounds k v)=results Tryz.f81 tm:=by
 have g:∀ m,m<7→(tm.setIfInBounds k v)[m]?=tm[m]?:=fun m hm=>by rw [Array.getElem?_setIfInBounds,iN (by omega)]
 have g4:=g 4 (by decide);have g5:=g 5 (by decide);have g6:=g 6 (by decide);unfold results;rw [Tryz.results81];simp only [Array.getD_eq_getD_getElem?];simp [g4,g5,g6]
theorem cells1 {w:World} {b:Nat} {u:Value} {T:TypeId} (h:w.heap[b]?=some (.cells #[u] T (0,0))):w.cell? ⟨b,0,none⟩=some u∧w.frozen? ⟨b,0,none⟩=false:=⟨by rw [cR w b 0 _ _ (0,0) h];rfl,by simp [World.frozen?,h]⟩
theorem set1 {W:World} {b:Nat} {u v:Value} {T:TypeId} (h:W.heap[b]?=some (.cells #[u] T (0,0))):(W.setCell ⟨b,0,none⟩ v).heap[b]?=some (.cells #[v] T (0,0)):=by simp [World.setCell,Array.getElem?_modify,h]
def tkOf (i:Nat) (r:Rs Tm):Tm×Nat×Int:=match r with
 | .bad j e=>(zeroTm,j,e)
 | .ok t j=>if t.check=0 then (t,j,0) else (zeroTm,i,t.check)
def TkQ (l:List Tok) (w:World) (r:Tm×Nat×Int) (e:Ending) (w':World):Prop:=∃ A' c',e=.returned (.tuple #[r.1.val A' c',.int .i64 (r.2.1:Nat),.int .i64 r.2.2])∧TmVS (fun q=>w.heap.size≤q) w' A' c' r.1∧Below w.heap.size w w'
theorem ptake_any (l:List Tok) (A:Option Addr) (c i:Nat) (w:World) (hi:i≤l.length) (hT:TokIn w A c l) :
 Calls Tryz.prog 81 #[.slice A l.length c,.int .i64 (i:Nat)] w (TkQ l w (takeT l i)):=by
 obtain ⟨n,HN⟩:=exh_ l.length;have hlen:=hT.len;have hcap:=hT.cap;have hcapm:=hT.capm;unfold maxLen at hcapm;rw [←HN.out] at hi hlen hcap ⊢;have hmf:∀ (fn:Fn) (first cap:Array Value) (w:World),(Instr.makeFunc fn first cap).run Tryz.prog w=.ok (.func fn first cap) w:=fun _ _ _ _=>rfl;obtain ⟨F,HF⟩:=exh_ (TkQ l w (takeT l i));rw [←HF.out];have HT:=Hd hT;have hi0:¬(i:Int)<0:=by omega
 have hi1:¬(n:Int)<(i:Int):=by omega
 clear hT
 go_enter_defers Tryz.func81,Tryz.ntmps81
 go_wp2_with fail;obtain ⟨b4,hb4⟩:=ex_ w.heap.size;obtain ⟨b5,hb5⟩:=ex_ (w.heap.size+1);obtain ⟨b6,hb6⟩:=ex_ (w.heap.size+1+1);obtain ⟨R,hR⟩:=ex_ (w.heap.size+1+1+1);obtain ⟨w3,hw3⟩:=ex_ ((((w.alloc (.cells #[.int .i64 0,.int .i64 0,.string ⟨#[]⟩,.slice none 0 0] 64)).alloc (.cells #[.int .i64 0] 3)).alloc (.cells #[.int .i64 0] 29)).alloc (.cells #[.slice A n c,.int .i64 (i:Nat),.int .i64 0] 186));rw [←hw3,←hR,←hb6,←hb5,←hb4];have HB4q:=Hd hb4;have n45:b4≠b5:=by omega
 have n46:b4≠b6:=by omega
 have n56:b5≠b6:=by omega
 have n54:b4≠b5:=n45;have n64:b4≠b6:=n46;have n4R:b4≠R:=by omega
 have n5R:b5≠R:=by omega
 have n6R:b6≠R:=by omega
 have r4:w3.heap[b4]?=some (.cells #[.int .i64 0,.int .i64 0,.string ⟨#[]⟩,.slice none 0 0] 64 (0,0)):=by
  rw [hw3,hb4];refine (((Br _ _).alloc (lr _) _).block _ (by simp;omega)).trans ((((Br _ _).alloc (lr _) _).block _ (by simp;omega)).trans ((((Br _ _).alloc (lr _) _).block _ (by simp)).trans (hA_ w _)))
 have r5:w3.heap[b5]?=some (.cells #[.int .i64 0] 3 (0,0)):=by
  rw [hw3,hb5];refine (((Br _ _).alloc (lr _) _).block _ (by simp)).trans ((((Br _ _).alloc (lr _) _).block _ (by simp)).trans ?_);have h:=hA_ (w.alloc (.cells #[.int .i64 0,.int .i64 0,.string ⟨#[]⟩,.slice none 0 0] 64)) (.cells #[.int .i64 0] 3)
  simpa using h
 have r6:w3.heap[b6]?=some (.cells #[.int .i64 0] 29 (0,0)):=by
  rw [hw3,hb6];refine (((Br _ _).alloc (lr _) _).block _ (by simp)).trans ?_;have h:=hA_ ((w.alloc (.cells #[.int .i64 0,.int .i64 0,.string ⟨#[]⟩,.slice none 0 0] 64)).alloc (.cells #[.int .i64 0] 3)) (.cells #[.int .i64 0] 29)
  simpa using h
 have hrd:Rdr w3 R A n c i 0:=by
  rw [hw3,hR];have h:=hA_ (((w.alloc (.cells #[.int .i64 0,.int .i64 0,.string ⟨#[]⟩,.slice none 0 0] 64)).alloc (.cells #[.int .i64 0] 3)).alloc (.cells #[.int .i64 0] 29)) (.cells #[.slice A n c,.int .i64 (i:Nat),.int .i64 0] 186);unfold Rdr
  simpa using h
 have hbel:Below w.heap.size w w3:=by
  rw [hw3];exact ((((Br _ _).alloc (lr _) _).alloc (by simp) _).alloc (by simp;omega) _).alloc (by simp;omega) _
 have hsz3:w3.heap.size=R+1:=by rw [hw3,hR];simp
 have hwR:w.heap.size≤b4∧w.heap.size≤b5∧w.heap.size≤b6∧w.heap.size≤R:=by omega
 have hb3:b4<w3.heap.size∧b5<w3.heap.size∧b6<w3.heap.size:=by omega
 obtain ⟨r,hr⟩:=ex_ ((lvl l 256).term i)
 have hcall:Calls Tryz.prog 122 #[.pointer (some ⟨R,0,none⟩)] w3 (PQ R A c 0 l i r w3):=by
  rw [hr];exact (plevels R A c l 256 0 (by omega)).term i w3 (by rw [←HN.out];exact hi) (by rw [←HN.out];exact hrd) (HT.out.pt hbel (by omega)) trivial
 have HRE:Hid (F=TkQ l w (tkOf i r)):=by show _=_;rw [HF.out,hr];rfl
 have HGD:Hid (∀ t j,r=.ok t j→Gd l i t j):=fun t j h=>(lvl_gd l 256).term i t j (by rw [←hr];exact h);have HC:=Hd hcall;have HR4:=Hd r4;have HR5:=Hd r5;have HR6:=Hd r6;have HBEL:=Hd hbel;clear hb4 hb5 hb6 hR hw3 r4 r5 r6 hrd hbel hcall hr HF;refine (HC.out).mono ?_;intro e w4 hq
 rcases r with ⟨j,x⟩ | ⟨t,j⟩
 · obtain ⟨rfl,ho4⟩:=hq;have HO4:=Hd ho4;have q4:=(ho4.block b4 hb3.1 n4R).trans HR4.out;have q5:=(ho4.block b5 hb3.2.1 n5R).trans HR5.out;have q6:=(ho4.block b6 hb3.2.2 n6R).trans HR6.out;have hs4:=ho4.size;obtain ⟨WW,hWW⟩:=ex_ ((((((((w4.alloc (.cells #[.int .i64 (j:Nat),.int .i64 x] 181)).drew.setCell ⟨b4,0,none⟩ (.int .i64 0)).setCell ⟨b4,1,none⟩ (.int .i64 0)).setCell ⟨b4,2,none⟩ (.string ⟨#[]⟩)).setCell ⟨b4,3,none⟩ (.slice none 0 0)).setCell ⟨b5,0,none⟩ (.int .i64 (j:Nat))).setCell ⟨b6,0,none⟩ (.int .i64 x)));have hpan:=ptake1_panic b4 b5 b6 j x w4 _ _ _ _ _ _ q4 q5 q6 n45 n46 n56;rw [←hWW] at hpan;have HPAN:=Hd hpan;have h4a:(w4.alloc (.cells #[.int .i64 (j:Nat),.int .i64 x] 181)).drew.heap[b4]?=some (.cells #[.int .i64 0,.int .i64 0,.string ⟨#[]⟩,.slice none 0 0] 64 (0,0)):=aK (W:=w4) q4
   have h4f:WW.heap[b4]?=some (.cells #[.int .i64 0,.int .i64 0,.string ⟨#[]⟩,.slice none 0 0] 64 (0,0)):=by
    rw [hWW,hO_ _ ⟨b6,0,none⟩ b4 _ n46,hO_ _ ⟨b5,0,none⟩ b4 _ n45];exact res4 h4a
   have h5a:(w4.alloc (.cells #[.int .i64 (j:Nat),.int .i64 x] 181)).drew.heap[b5]?=some (.cells #[.int .i64 0] 3 (0,0)):=aK (W:=w4) q5;have h6a:(w4.alloc (.cells #[.int .i64 (j:Nat),.int .i64 x] 181)).drew.heap[b6]?=some (.cells #[.int .i64 0] 29 (0,0)):=aK (W:=w4) q6
   have h5f:WW.heap[b5]?=some (.cells #[.int .i64 (j:Nat)] 3 (0,0)):=by
    rw [hWW,hO_ _ ⟨b6,0,none⟩ b5 _ n56];exact set1 ((sets4_far (fun e=>n45 e.symm)).trans h5a)
   have h6f:WW.heap[b6]?=some (.cells #[.int .i64 x] 29 (0,0)):=by
    rw [hWW];refine set1 (u:=.int .i64 0) ?_;rw [hO_ _ ⟨b5,0,none⟩ b6 _ (fun e=>n56 e.symm)];exact (sets4_far (fun e=>n46 e.symm)).trans h6a
   have HWWf:Hid (Below w.heap.size w WW):=by
    show Below _ _ _;have o4:Only (fun q=>w.heap.size≤q) w w4:=(Ob HBEL.out).trans (HO4.out.mono (fun q h=>by show w.heap.size≤q;omega));have o5:Only (fun q=>w.heap.size≤q) w (w4.alloc (.cells #[.int .i64 (j:Nat),.int .i64 x] 181)).drew:=(o4.trans (Ob ((Br _ _).alloc (lr _) _))).drewN 1;rw [hWW];exact ((((((o5.setF hwR.1 _).setF hwR.1 _).setF hwR.1 _).setF hwR.1 _).setF hwR.2.1 _).setF hwR.2.2.1 _).below (fun q h=>h) (lr _)
   clear hWW hpan q4 q5 q6 ho4 h4a h5a h6a;refine leaves_cons (f:=121) (args:=#[.pointer (some ⟨b4,0,none⟩),.pointer (some ⟨b5,0,none⟩),.pointer (some ⟨b6,0,none⟩)]) (by simp) (by simp [go_sem]) ?_;refine (HPAN.out).mono ?_;rintro e u' w'' ⟨rfl,rfl,rfl⟩;obtain ⟨y0,y1,y2,y3,-⟩:=qPrsU4 h4f;have y5:=(cells1 h5f).1;have y6:=(cells1 h6f).1;clear h4f h5f h6f HPAN;simp [Leaves,settle,caught,results,Tryz.results81,go_sem,y0,y1,y2,y3,y5,y6];rw [HRE.out];exact ⟨none,0,rfl,TmVS.leaf (zl _),HWWf.out⟩
 · obtain ⟨⟨A',c',rfl,hV⟩,hij,hjl,hR4,ho4⟩:=hq;have HGD2:=Hd (HGD.out t j rfl);have HO4:=Hd ho4;have q4:=(ho4.block b4 hb3.1 n4R).trans HR4.out;have q5:=(ho4.block b5 hb3.2.1 n5R).trans HR5.out;have q6:=(ho4.block b6 hb3.2.2 n6R).trans HR6.out;have hs4:=ho4.size;obtain ⟨n2,hn2⟩:=ex_ t.kids.length;have HN2:=Hd hn2;have hb44:b4<w4.heap.size:=by omega
   obtain ⟨w5,hw5⟩:=ex_ ((((w4.setCell ⟨b4,0,none⟩ (.int .i64 t.op)).setCell ⟨b4,1,none⟩ (.int .i64 t.num)).setCell ⟨b4,2,none⟩ (.string t.name)).setCell ⟨b4,3,none⟩ (.slice A' n2 c'));have HB5:Hid (w5.heap[b4]?=some (.cells #[.int .i64 t.op,.int .i64 t.num,.string t.name,.slice A' n2 c'] 64 (0,0))):=by show _=_;rw [hw5];exact res4 q4
   have HV5:Hid (TmVS (fun q=>w3.heap.size≤q) w5 A' c' t):=by
    show TmVS _ _ _ _ _;rw [hw5];exact hV.keep ((((KeepS.refl.set (by omega) _).set (by omega) _).set (by omega) _).set (by omega) _) (fun _ _ h=>h)
   have HR5a:Hid (w5.heap[b5]?=some (.cells #[.int .i64 0] 3 (0,0))):=by show _=_;rw [hw5];exact (sets4_far (fun e=>n45 e.symm)).trans q5
   have HR6a:Hid (w5.heap[b6]?=some (.cells #[.int .i64 0] 29 (0,0))):=by show _=_;rw [hw5];exact (sets4_far (fun e=>n46 e.symm)).trans q6
   have HRDa:Hid (w5.cell? ⟨R,1,none⟩=some (.int .i64 (j:Nat))):=by
    show _=_;rw [hw5,cF_ _ _ _ _ n4R,cF_ _ _ _ _ n4R,cF_ _ _ _ _ n4R,cF_ _ _ _ _ n4R];exact hR4.c1
   have HO5:Hid (Only (fun q=>w.heap.size≤q) w w5):=by
    show Only _ _ _;rw [hw5];exact (((((Ob HBEL.out).trans (ho4.mono (fun q h=>by show w.heap.size≤q;omega))).setF hwR.1 _).setF hwR.1 _).setF hwR.1 _).setF hwR.1 _
   have hs5:w5.heap.size=w4.heap.size:=by rw [hw5];simp
   have hlt5:R<w4.heap.size:=hR4.lt;obtain ⟨y0,y1,y2,y3,pq⟩:=qPrsU4 q4;have HW5:=Hd hw5;unfold Tm.val;rw [←hn2];have hck:=check_any t A' c' w5 HV5.out.toV (by have:=HGD2.out.sz;have:=HGD2.out.jl;have:=HGD2.out.ij;rw [←HN.out] at *;omega);unfold Tm.val at hck;rw [←hn2] at hck;have HCK:=Hd hck;clear hw5 q4 q5 q6 ho4 hV hR4 hn2 hck;go_wp2_with fail;rw [←HW5.out];clear y0 y1 y2 y3 pq;obtain ⟨y0,y1,y2,y3,pq⟩:=qPrsU4 HB5.out;(try go_wp2_with fail);refine (HCK.out).mono ?_;rintro e w6 ⟨rfl,hb6⟩;have hs6:=hb6.size;have hb45:b4<w5.heap.size:=by omega
   have HV6:Hid (TmVS (fun q=>w3.heap.size≤q) w6 A' c' t):=HV5.out.keep (Kb hb6) (fun _ _ h=>h);have HB6:=Hd ((hb6.block b4 hb45).trans HB5.out);have HR5b:=Hd ((hb6.block b5 (by omega)).trans HR5a.out);have HR6b:=Hd ((hb6.block b6 (by omega)).trans HR6a.out);have HRDb:=Hd ((hb6.cell (p:=⟨R,1,none⟩) (by show R<_;omega)).trans HRDa.out);have HO6:=Hd (HO5.out.trans (Ob hb6));clear hb6 HCK y0 y1 y2 y3 pq;obtain ⟨y0,y1,y2,y3,pq⟩:=qPrsU4 HB6.out;obtain ⟨y5,p5⟩:=cells1 HR5b.out;obtain ⟨y6,p6⟩:=cells1 HR6b.out
   by_cases hz:t.check=0
   · have HRE2:Hid (F=TkQ l w (t,j,0)):=by show _=_;rw [HRE.out];show TkQ l w (if t.check=0 then (t,j,0) else (zeroTm,i,t.check))=_;rw [iP hz]
     rw [hz];clear hz;go_wp2_with fail;obtain ⟨wd,hwd⟩:=ex_ w6.drew;have hB:wd.heap[b4]?=some (.cells #[.int .i64 t.op,.int .i64 t.num,.string t.name,.slice A' n2 c'] 64 (0,0)):=by rw [hwd];exact HB6.out
     have hRD:wd.cell? ⟨R,1,none⟩=some (.int .i64 (j:Nat)):=by rw [hwd];exact HRDb.out
     have h5r:wd.heap[b5]?=some (.cells #[.int .i64 0] 3 (0,0)):=by rw [hwd];exact HR5b.out
     have h6r:wd.heap[b6]?=some (.cells #[.int .i64 0] 29 (0,0)):=by rw [hwd];exact HR6b.out
     have HO7:Hid (Only (fun q=>w.heap.size≤q) w wd):=by show Only _ _ _;rw [hwd];exact HO6.out.drewN 1
     have HV7:Hid (TmVS (fun q=>w3.heap.size≤q) wd A' c' t):=by show TmVS _ _ _ _ _;rw [hwd];exact HV6.out.keep ⟨lr _,fun _ _ _=>rfl⟩ (fun _ _ h=>h)
     have HH5 := Lib.hid h5r;have HH6 := Lib.hid h6r;clear y0 y1 y2 y3 pq y5 p5 y6 p6;obtain ⟨y5, p5⟩ := cells1 h5r;obtain ⟨y6, p6⟩ := cells1 h6r;clear h5r h6r;have HQD := Lib.hid (fun (k : Nat) (hk : 7 ≤ k) (cc : List PanicEntry) (a : Act) (w : World) (v : Value) (h : bodyPostD Tryz.prog Tryz.f81 F (.panic cc) (a.put (some k) v) w) => (leaves_tmps (take_results a.tmps v hk) _ _ _ h : bodyPostD Tryz.prog Tryz.f81 F (.panic cc) a w));refine wp_region_held_drew (S := fun w' => w'.heap[b4]? = some (.cells #[.int .i64 t.op, .int .i64 t.num, .string t.name, .slice A' n2 c'] 64 (0, 0)) ∧ w'.cell? ⟨R, 1, none⟩ = some (.int .i64 (j : Nat))) (by kernel_rfl) (by rw [← hwd]; exact ⟨hB, hRD⟩) (fun hHeld => ?_);rw [← hwd] at hHeld ⊢;clear hwd hB hRD;refine wpAnyH_take (i := 0) (oi := { dst := some 33, op := Op.load 64 (Operand.tmp 4), type := 64, pos := "ttext.go:364", after := #[], guard := none }) (v := ?_) rfl (by kernel_rfl) (by kernel_rfl) (by kernel_rfl) (fun c a w h => HQD.out 33 (by decide) c a w _ h) (Or.inl ⟨by rfl, ?hy⟩) (by assumption) ?_
     case hy=>
      intro w0 hSw;obtain ⟨e0,e1,e2,e3,-⟩:=qPrsU4 hSw.1;have e4:=hSw.2;clear hSw;go_simp
      (first | done | with_reducible rfl)
     (try simp only [Act.put, sAr, sZe, sSu]);refine wpAnyH_take (i := 1) (oi := { dst := some 34, op := Op.move (Operand.tmp 7), type := 182, pos := "ttext.go:364", after := #[], guard := none }) (v := ?_) rfl (by kernel_rfl) (by kernel_rfl) (by kernel_rfl) (fun c a w h => HQD.out 34 (by decide) c a w _ h) (Or.inl ⟨by rfl, ?hy⟩) (by assumption) ?_
     case hy=>
      intro w0 hSw;obtain ⟨e0,e1,e2,e3,-⟩:=qPrsU4 hSw.1;have e4:=hSw.2;clear hSw;go_simp
      (first | done | with_reducible rfl)
     (try simp only [Act.put, sAr, sZe, sSu]);refine wpAnyH_take (i := 2) (oi := { dst := some 35, op := Op.nilCheck (Operand.tmp 34), type := 0, pos := "ttext.go:364", after := #[{ on := 1, ground := Ground.data }], guard := none }) (v := ?_) rfl (by kernel_rfl) (by kernel_rfl) (by kernel_rfl) (fun c a w h => HQD.out 35 (by decide) c a w _ h) (Or.inl ⟨by rfl, ?hy⟩) (by assumption) ?_
     case hy=>
      intro w0 hSw;obtain ⟨e0,e1,e2,e3,-⟩:=qPrsU4 hSw.1;have e4:=hSw.2;clear hSw;go_simp
      (first | done | with_reducible rfl)
     (try simp only [Act.put, sAr, sZe, sSu]);refine wpAnyH_take (i := 3) (oi := { dst := some 36, op := Op.fieldAddr 186 (Operand.tmp 35) 0, type := 0, pos := "ttext.go:364", after := #[{ on := 2, ground := Ground.data }], guard := none }) (v := ?_) rfl (by kernel_rfl) (by kernel_rfl) (by kernel_rfl) (fun c a w h => HQD.out 36 (by decide) c a w _ h) (Or.inl ⟨by rfl, ?hy⟩) (by assumption) ?_
     case hy=>
      intro w0 hSw;obtain ⟨e0,e1,e2,e3,-⟩:=qPrsU4 hSw.1;have e4:=hSw.2;clear hSw;go_simp
      (first | done | with_reducible rfl)
     (try simp only [Act.put, sAr, sZe, sSu]);refine wpAnyH_take (i := 4) (oi := { dst := some 37, op := Op.fieldAddr 184 (Operand.tmp 36) 1, type := 0, pos := "ttext.go:364", after := #[{ on := 3, ground := Ground.data }], guard := none }) (v := ?_) rfl (by kernel_rfl) (by kernel_rfl) (by kernel_rfl) (fun c a w h => HQD.out 37 (by decide) c a w _ h) (Or.inl ⟨by rfl, ?hy⟩) (by assumption) ?_
     case hy=>
      intro w0 hSw;obtain ⟨e0,e1,e2,e3,-⟩:=qPrsU4 hSw.1;have e4:=hSw.2;clear hSw;go_simp
      (first | done | with_reducible rfl)
     (try simp only [Act.put, sAr, sZe, sSu]);refine wpAnyH_take (i := 5) (oi := { dst := some 38, op := Op.load 3 (Operand.tmp 37), type := 3, pos := "ttext.go:364", after := #[{ on := 4, ground := Ground.data }], guard := none }) (v := ?_) rfl (by kernel_rfl) (by kernel_rfl) (by kernel_rfl) (fun c a w h => HQD.out 38 (by decide) c a w _ h) (Or.inl ⟨by rfl, ?hy⟩) (by assumption) ?_
     case hy=>
      intro w0 hSw;obtain ⟨e0,e1,e2,e3,-⟩:=qPrsU4 hSw.1;have e4:=hSw.2;clear hSw;go_simp
      (first | done | with_reducible rfl)
     (try simp only [Act.put,sAr,sZe,sSu]);refine Rd (rs:=[6]) (by kernel_rfl) (by simp) ?_;refine Rc rfl (fun K hK=>?_) Rn;obtain ⟨y0,y1,y2,y3,pq⟩:=qPrsU4 hHeld.1;go_simp;clear y0 y1 y2 y3 pq;refine hK.out _ _ ⟨res4 hHeld.1,by rw [cF_ _ _ _ _ n4R,cF_ _ _ _ _ n4R,cF_ _ _ _ _ n4R,cF_ _ _ _ _ n4R];exact hHeld.2⟩ (fun hHeld=>?_);clear hK K;(try simp only [Act.put,sAr,sZe,sSu]);obtain ⟨WA,HWA⟩:=exh_ (((((wd.setCell ⟨b4,0,none⟩ (.int .i64 t.op)).setCell ⟨b4,1,none⟩ (.int .i64 t.num)).setCell ⟨b4,2,none⟩ (.string t.name)).setCell ⟨b4,3,none⟩ (.slice A' n2 c')));rw [←HWA.out] at hHeld ⊢;have y5A:WA.cell? ⟨b5,0,none⟩=some (.int .i64 0):=by rw [HWA.out,cF_ _ _ _ _ n45,cF_ _ _ _ _ n45,cF_ _ _ _ _ n45,cF_ _ _ _ _ n45];exact y5
     have p5A:WA.frozen? ⟨b5,0,none⟩=false:=by rw [HWA.out];simpa [World.frozen?_setCell] using p5
     have y6A:WA.cell? ⟨b6,0,none⟩=some (.int .i64 0):=by rw [HWA.out,cF_ _ _ _ _ n46,cF_ _ _ _ _ n46,cF_ _ _ _ _ n46,cF_ _ _ _ _ n46];exact y6
     have p6A:WA.frozen? ⟨b6,0,none⟩=false:=by rw [HWA.out];simpa [World.frozen?_setCell] using p6
     have HB7:=Hd hHeld.1;clear y5 p5 y6 p6;refine Rd (rs:=[7]) (by kernel_rfl) (by simp) ?_;refine Rc rfl (fun K hK=>?_) Rn;go_simp;refine hK.out _ _ ⟨(hO_ _ ⟨b5,0,none⟩ b4 _ n54).trans hHeld.1,by rw [cF_ _ _ _ _ n5R];exact hHeld.2⟩ (fun hHeld=>?_);clear hK K;(try simp only [Act.put,sAr,sZe,sSu]);refine Rd (rs:=[8]) (by kernel_rfl) (by simp) ?_;refine Rc rfl (fun K hK=>?_) Rn;go_simp;refine hK.out _ _ ⟨(hO_ _ ⟨b6,0,none⟩ b4 _ n64).trans hHeld.1,by rw [cF_ _ _ _ _ n6R];exact hHeld.2⟩ (fun hHeld=>?_);clear hK K;(try simp only [Act.put,sAr,sZe,sSu]);refine wpAnyH_done (by kernel_rfl) ?_ _;clear hHeld y5A p5A y6A p6A;(try clear y0 y1 y2 y3 pq);go_wp2_with fail;obtain ⟨WW,hWW⟩:=ex_ ((WA.setCell ⟨b5,0,none⟩ (.int .i64 (j:Nat))).setCell ⟨b6,0,none⟩ (.int .i64 0))
     have h4f:WW.heap[b4]?=some (.cells #[.int .i64 t.op,.int .i64 t.num,.string t.name,.slice A' n2 c'] 64 (0,0)):=by
      rw [hWW,hO_ _ ⟨b6,0,none⟩ b4 _ n46,hO_ _ ⟨b5,0,none⟩ b4 _ n45];exact HB7.out
     have h5f:WW.heap[b5]?=some (.cells #[.int .i64 (j:Nat)] 3 (0,0)):=by
      rw [hWW,hO_ _ ⟨b6,0,none⟩ b5 _ n56];refine set1 (u:=.int .i64 0) ?_;rw [HWA.out];exact (sets4_far (fun e=>n45 e.symm)).trans HH5.out
     have h6f:WW.heap[b6]?=some (.cells #[.int .i64 0] 29 (0,0)):=by
      rw [hWW];refine set1 (u:=.int .i64 0) ?_;rw [hO_ _ ⟨b5,0,none⟩ b6 _ (fun e=>n56 e.symm),HWA.out];exact (sets4_far (fun e=>n46 e.symm)).trans HH6.out
     have HWWf:Hid (Below w.heap.size w WW):=by
      show Below _ _ _;rw [hWW,HWA.out];exact ((((((HO7.out.setF hwR.1 _).setF hwR.1 _).setF hwR.1 _).setF hwR.1 _).setF hwR.2.1 _).setF hwR.2.2.1 _).below (fun q h=>h) (lr _)
     have HVF:Hid (TmVS (fun q=>w3.heap.size≤q) WW A' c' t):=by
      show TmVS _ _ _ _ _;rw [hWW,HWA.out];exact HV7.out.keep ((((((KeepS.refl.set (by omega) _).set (by omega) _).set (by omega) _).set (by omega) _).set (by omega) _).set (by omega) _) (fun _ _ h=>h)
     rw [←hWW];clear hWW;refine leaves_cons (f:=121) (args:=#[.pointer (some ⟨b4,0,none⟩),.pointer (some ⟨b5,0,none⟩),.pointer (some ⟨b6,0,none⟩)]) (by simp) (by simp [go_sem]) ?_;refine (ptake1_idle b4 b5 b6 WW).mono ?_;rintro e u' w'' ⟨rfl,rfl,hww⟩;rw [hww];clear hww;obtain ⟨y0,y1,y2,y3,-⟩:=qPrsU4 h4f;have y5:=(cells1 h5f).1;have y6:=(cells1 h6f).1;clear h4f h5f h6f;simp [Leaves,settle,results,Tryz.results81,go_sem,y0,y1,y2,y3,y5,y6];rw [HRE2.out];exact ⟨A',c',by unfold Tm.val;rw [←HN2.out],HVF.out.keep Kr (fun q _ h=>by omega),HWWf.out⟩
   · have HRE2:Hid (F=TkQ l w (zeroTm,i,t.check)):=by show _=_;rw [HRE.out];show TkQ l w (if t.check=0 then (t,j,0) else (zeroTm,i,t.check))=_;rw [iN hz]
     obtain ⟨zz,HZZ⟩:=exh_ t.check;rw [←HZZ.out] at hz ⊢;have hzb:(zz != 0)=true:=by simpa using hz
     go_wp2_with fail;obtain ⟨WW,hWW⟩:=ex_ ((((((w6.setCell ⟨b4,0,none⟩ (.int .i64 0)).setCell ⟨b4,1,none⟩ (.int .i64 0)).setCell ⟨b4,2,none⟩ (.string ⟨#[]⟩)).setCell ⟨b4,3,none⟩ (.slice none 0 0)).setCell ⟨b5,0,none⟩ (.int .i64 (i:Nat))).setCell ⟨b6,0,none⟩ (.int .i64 zz));clear y0 y1 y2 y3 pq y5 p5 y6 p6
     have h4f:WW.heap[b4]?=some (.cells #[.int .i64 0,.int .i64 0,.string ⟨#[]⟩,.slice none 0 0] 64 (0,0)):=by
      rw [hWW,hO_ _ ⟨b6,0,none⟩ b4 _ n46,hO_ _ ⟨b5,0,none⟩ b4 _ n45];exact res4 HB6.out
     have h5f:WW.heap[b5]?=some (.cells #[.int .i64 (i:Nat)] 3 (0,0)):=by
      rw [hWW,hO_ _ ⟨b6,0,none⟩ b5 _ n56];exact set1 ((sets4_far (fun e=>n45 e.symm)).trans HR5b.out)
     have h6f:WW.heap[b6]?=some (.cells #[.int .i64 zz] 29 (0,0)):=by
      rw [hWW];refine set1 (u:=.int .i64 0) ?_;rw [hO_ _ ⟨b5,0,none⟩ b6 _ (fun e=>n56 e.symm)];exact (sets4_far (fun e=>n46 e.symm)).trans HR6b.out
     have HWWf:Hid (Below w.heap.size w WW):=by
      show Below _ _ _;rw [hWW];exact ((((((HO6.out.setF hwR.1 _).setF hwR.1 _).setF hwR.1 _).setF hwR.1 _).setF hwR.2.1 _).setF hwR.2.2.1 _).below (fun q h=>h) (lr _)
     rw [←hWW];clear hWW;refine leaves_cons (f:=121) (args:=#[.pointer (some ⟨b4,0,none⟩),.pointer (some ⟨b5,0,none⟩),.pointer (some ⟨b6,0,none⟩)]) (by simp) (by simp [go_sem]) ?_;refine (ptake1_idle b4 b5 b6 WW).mono ?_;rintro e u' w'' ⟨rfl,rfl,hww⟩;rw [hww];clear hww;obtain ⟨y0,y1,y2,y3,-⟩:=qPrsU4 h4f;have y5:=(cells1 h5f).1;have y6:=(cells1 h6f).1;clear h4f h5f h6f;simp [Leaves,settle,results,Tryz.results81,go_sem,y0,y1,y2,y3,y5,y6];rw [HRE2.out,←HZZ.out];exact ⟨none,0,rfl,TmVS.leaf (zl _),HWWf.out⟩
end Go.Proofs.YtkhoeoilamddaaaGreatDoor
