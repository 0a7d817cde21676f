/- Walks and plain words: PrsO PrsT ParQ. -/
import Derived.Test.YtnbphgeepnknlaaGreatDoorUPrsN
import Derived.Defers
import Derived.Recover
namespace Go.Proofs.YtnbphgeepnknlaaGreatDoor
open Go.RowKit
set_option linter.unusedVariables false
theorem numAt_of {l:List Tok} {i:Nat} {t:Tok} (h:l[i]?=some t):numAt l i=t.n:=by unfold numAt;rw [h]
theorem textAt_of {l:List Tok} {i:Nat} {t:Tok} (h:l[i]?=some t):textAt l i=t.text:=by unfold textAt;rw [h]
theorem punit_any (R:Nat) (A:Option Addr) (c d:Nat) (l:List Tok) (T:Par) (hd:d≤256) (hT:d<256→FnC R A c (d+1) l 67 (.pointer (some ⟨R,0,none⟩)) (fun _=>True) T) :
 FnC R A c d l 216 (.pointer (some ⟨R,0,none⟩)) (fun _=>True) (unitF l (if d=256 then none else some T)):=by
 intro i w hi hR hP _
 by_cases h1:isTk l i 4 [45]=true
 · by_cases hk:isKd l (i+1) 1=true
   · obtain ⟨t,ht,hkd⟩:=isKd_some hk;have e:unitF l (if d=256 then none else some T) i=.ok (tmNum (-t.n)) (i+1+1):=by unfold unitF;rw [iP h1,iP hk,numAt_of ht]
     rw [e];exact punit_minus_yes R A c d l i w h1 t ht hkd hi hR hP
   · have hk':isKd l (i+1) 1=false:=by simpa using hk
     have e:unitF l (if d=256 then none else some T) i=.bad (i+1) 16:=by unfold unitF;rw [iP h1,iN hk]
     rw [e];exact punit_minus_no R A c d l i w h1 hk' hi hR hP
 have g1:isTk l i 4 [45]=false:=by simpa using h1
 by_cases h2:isTk l i 3 wTrue=true
 · have e:unitF l (if d=256 then none else some T) i=.ok (tmBool 1) (i+1):=by unfold unitF;rw [iN h1,iP h2]
   rw [e];exact punit_true R A c d l i w g1 h2 hi hR hP
 have g2:isTk l i 3 wTrue=false:=by simpa using h2
 by_cases h3:isTk l i 3 wFalse=true
 · have e:unitF l (if d=256 then none else some T) i=.ok (tmBool 0) (i+1):=by unfold unitF;rw [iN h1,iN h2,iP h3]
   rw [e];exact punit_false R A c d l i w g1 g2 h3 hi hR hP
 have g3:isTk l i 3 wFalse=false:=by simpa using h3
 by_cases h4:isTk l i 3 wNext=true
 · by_cases ho:isTk l (i+1) 4 [40]=true
   · by_cases hk:isKd l (i+2) 2=true
     · obtain ⟨t,ht,hkd⟩:=isKd_some hk
       by_cases hc:isTk l (i+3) 4 [41]=true
       · have e:unitF l (if d=256 then none else some T) i=.ok (tmName 4 t.text) (i+1+1+1+1):=by unfold unitF;rw [iN h1,iN h2,iN h3,iP h4,iP ho,iP hk,iP hc,textAt_of ht]
         rw [e];exact punit_next_yes R A c d l i w g1 g2 g3 h4 ho t ht hkd hc hi hR hP
       · have hc':isTk l (i+3) 4 [41]=false:=by simpa using hc
         have e:unitF l (if d=256 then none else some T) i=.bad (i+1+1+1) 16:=by unfold unitF;rw [iN h1,iN h2,iN h3,iP h4,iP ho,iP hk,iN hc]
         rw [e];exact punit_next_no3 R A c d l i w g1 g2 g3 h4 ho t ht hkd hc' hi hR hP
     · have hk':isKd l (i+2) 2=false:=by simpa using hk
       have e:unitF l (if d=256 then none else some T) i=.bad (i+1+1) 16:=by unfold unitF;rw [iN h1,iN h2,iN h3,iP h4,iP ho,iN hk]
       rw [e];exact punit_next_no2 R A c d l i w g1 g2 g3 h4 ho hk' hi hR hP
   · have ho':isTk l (i+1) 4 [40]=false:=by simpa using ho
     have e:unitF l (if d=256 then none else some T) i=.bad (i+1) 16:=by unfold unitF;rw [iN h1,iN h2,iN h3,iP h4,iN ho]
     rw [e];exact punit_next_no1 R A c d l i w g1 g2 g3 h4 ho' hi hR hP
 have g4:isTk l i 3 wNext=false:=by simpa using h4
 by_cases h5:isTk l i 4 [40]=true
 · have e:unitF l (if d=256 then none else some T) i=((if d=256 then .bad i 17 else T (i+1)).then fun t j=>if isTk l j 4 [41] then .ok t (j+1) else .bad j 16):=by
    unfold unitF;rw [iN h1,iN h2,iN h3,iN h4,iP h5]
    by_cases h:d=256
    · simp only [h,if_true];rfl
    · simp only [h,if_false];rfl
   rw [e];exact punit_open R A c d l i w g1 g2 g3 g4 h5 T hd hT hi hR hP
 have g5:isTk l i 4 [40]=false:=by simpa using h5
 by_cases h6:isTk l i 3 wIf=true
 · have e:unitF l (if d=256 then none else some T) i=(if d=256 then .bad i 17 else ch1 l T (i+1)):=by
    unfold unitF;rw [iN h1,iN h2,iN h3,iN h4,iN h5,iP h6]
    by_cases h:d=256
    · simp only [h,if_true];rfl
    · simp only [h,if_false];rfl
   rw [e];exact punit_if R A c d l i w g1 g2 g3 g4 g5 h6 T hd hT hi hR hP
 have g6:isTk l i 3 wIf=false:=by simpa using h6
 by_cases h7:isKd l i 2=true
 · obtain ⟨t,ht,hkd⟩:=isKd_some h7;have e:unitF l (if d=256 then none else some T) i=.ok (tmName 3 t.text) (i+1):=by unfold unitF;rw [iN h1,iN h2,iN h3,iN h4,iN h5,iN h6,iP h7,textAt_of ht]
   rw [e];exact punit_name R A c d l i w g1 g2 g3 g4 g5 g6 t ht hkd hi hR hP
 have g7:isKd l i 2=false:=by simpa using h7
 by_cases h8:isKd l i 1=true
 · obtain ⟨t,ht,hkd⟩:=isKd_some h8;have e:unitF l (if d=256 then none else some T) i=.ok (tmNum t.n) (i+1):=by unfold unitF;rw [iN h1,iN h2,iN h3,iN h4,iN h5,iN h6,iN h7,iP h8,numAt_of ht]
   rw [e];exact punit_num R A c d l i w g1 g2 g3 g4 g5 g6 t ht hkd hi hR hP
 have g8:isKd l i 1=false:=by simpa using h8
 have e:unitF l (if d=256 then none else some T) i=.bad i 16:=by unfold unitF;rw [iN h1,iN h2,iN h3,iN h4,iN h5,iN h6,iN h7,iN h8]
 rw [e]
 rcases isKd_none g7 with hge | ⟨t,ht,hk⟩
 · exact punit_end R A c d l i w g1 g2 g3 g4 g5 g6 hge g8 hi hR hP
 · exact punit_other R A c d l i w g1 g2 g3 g4 g5 g6 t ht hk g8 hi hR hP
structure LvlC (R:Nat) (A:Option Addr) (c d:Nat) (l:List Tok) (v:Lvl):Prop where
 term:FnC R A c d l 67 (.pointer (some ⟨R,0,none⟩)) (fun _=>True) v.term
 imp:FnC R A c d l 125 (.pointer (some ⟨R,0,none⟩)) (fun _=>True) v.imp
 not:FnC R A c d l 172 (.pointer (some ⟨R,0,none⟩)) (fun _=>True) v.not
theorem plvl_step (R:Nat) (A:Option Addr) (c d:Nat) (l:List Tok) (s:Option Lvl) (v:Lvl) (hd:d≤256) (hs:s=if d=256 then none else some v) (hv:d<256→LvlC R A c (d+1) l v):LvlC R A c d l (lvlB l s):=by
 have ht:s.map Lvl.term=if d=256 then none else some v.term:=by rw [hs];split <;> rfl
 have hi:s.map Lvl.imp=if d=256 then none else some v.imp:=by rw [hs];split <;> rfl
 have hn:s.map Lvl.not=if d=256 then none else some v.not:=by rw [hs];split <;> rfl
 have hunit:=punit_any R A c d l v.term hd (fun h=>(hv h).term);rw [←ht] at hunit;have hsum:=psum_any R A c d l _ hunit;have hnot:=pnot_any R A c d l _ v.not hd hsum (fun h=>(hv h).not);rw [←hn] at hnot;have himp:=pimp_any R A c d l _ v.imp hd hnot (fun h=>(hv h).imp);rw [←hi] at himp;exact ⟨pterm_any R A c d l _ himp,himp,hnot⟩
theorem plevels (R:Nat) (A:Option Addr) (c:Nat) (l:List Tok):∀ r d,d+r=256→LvlC R A c d l (lvl l r)
 | 0,d,h=>by
  rw [lvl];exact plvl_step R A c d l none (lvl l 0) (by omega) (by rw [iP (by omega)]) (fun h=>by omega)
 | r+1,d,h=>by
  rw [lvl];exact plvl_step R A c d l (some (lvl l r)) (lvl l r) (by omega) (by rw [iN (by omega)]) (fun _=>plevels R A c l r (d+1) (by omega))
set_option linter.unusedSimpArgs false
set_option maxRecDepth 100000
set_option maxHeartbeats 1000000
def caught (j:Nat) (x:Int):List PanicEntry:=[{ v:=.iface 130 (.agg #[.int .i64 (j:Nat),.int .i64 x]),recovered:=true }]
theorem ptake1_panic (b4 b5 b6:Nat) (j:Nat) (x:Int) (w:World) (u0 u1 u2 u3 u5 u6:Value) (h4:w.heap[b4]?=some (.cells #[u0,u1,u2,u3] 25 (0,0))) (h5:w.heap[b5]?=some (.cells #[u5] 3 (0,0))) (h6:w.heap[b6]?=some (.cells #[u6] 26 (0,0))) (hne:b4≠b5) (hne2:b4≠b6) (hne3:b5≠b6) :
 CallsD Tryz.prog 66 #[.pointer (some ⟨b4,0,none⟩),.pointer (some ⟨b5,0,none⟩),.pointer (some ⟨b6,0,none⟩)] (.panicking (thrown j x)) w fun e u' w'=>
  e=.returned (.tuple #[])∧u'=.panicking (caught j x)∧w'=(((((((w.alloc (.cells #[.int .i64 (j:Nat),.int .i64 x] 130)).drew.setCell ⟨b4,0,none⟩ (.int .i64 0)).setCell ⟨b4,1,none⟩ (.int .i64 0)).setCell ⟨b4,2,none⟩ (.string ⟨#[]⟩)).setCell ⟨b4,3,none⟩ (.slice none 0 0)).setCell ⟨b5,0,none⟩ (.int .i64 (j:Nat))).setCell ⟨b6,0,none⟩ (.int .i64 x)):=by
 obtain ⟨y0,y1,y2,y3,pq⟩:=q4 h4;have y5:w.cell? ⟨b5,0,none⟩=some u5:=by rw [cR w b5 0 _ _ (0,0) h5];rfl
 have p5:w.frozen? ⟨b5,0,none⟩=false:=by simp [World.frozen?,h5]
 have y6:w.cell? ⟨b6,0,none⟩=some u6:=by rw [cR w b6 0 _ _ (0,0) h6];rfl
 have p6:w.frozen? ⟨b6,0,none⟩=false:=by simp [World.frozen?,h6]
 have l4:=lH h4;have l5:=lH h5;have l6:=lH h6;have n4:b4≠w.heap.size:=by omega
 have n5:b5≠w.heap.size:=by omega
 have n6:b6≠w.heap.size:=by omega
 obtain ⟨WW,HWW⟩:=exh_ ((((((((w.alloc (.cells #[.int .i64 (j:Nat),.int .i64 x] 130)).drew.setCell ⟨b4,0,none⟩ (.int .i64 0)).setCell ⟨b4,1,none⟩ (.int .i64 0)).setCell ⟨b4,2,none⟩ (.string ⟨#[]⟩)).setCell ⟨b4,3,none⟩ (.slice none 0 0)).setCell ⟨b5,0,none⟩ (.int .i64 (j:Nat))).setCell ⟨b6,0,none⟩ (.int .i64 x)));rw [←HWW.out];refine callsD_of_wpS Tryz.func66 rfl fun c₀ cs hu=>?_
 apply wpS_seq
 apply wpS_region
 simp [wpOpsS,go_sem,recoverD,hu,Tryz.ntmps66,Exit.thenS,thrown];refine wpS_of_wp ?_;obtain ⟨Q,hQ⟩:∃ Q:Exit→Act→World→Prop,Q=fun e a' w'=>e=.normal∧a'.defers=[]∧w'=WW:=⟨_,rfl⟩;refine Code.wp_mono (Q:=Q) ?hq ?hw
 case hq=>
  intro e a' w' h;rw [hQ] at h;obtain ⟨rfl,hd,rfl⟩:=h;refine ⟨hd,_,rfl,.tuple #[],results_none rfl _ _ _,?_⟩;simp [caught]
 case hw=>
  have HQP:Hid (∀ c a w,Q (.panic c) a w→False):=fun c a w h=>by rw [hQ] at h;cases h.1
  have HQ:=Hd hQ;clear hQ hu;have hta:∀ (v:Value) (w:World),(Instr.typeAssert (.iface 130 v) 20 130 true).run Tryz.prog w=.ok (.tuple #[v,.bool true]) w:=fun _ _=>by kernel_rfl
  change Code.wp _ _ _ { tmps:=#[.pointer (some ⟨b4,0,none⟩),.pointer (some ⟨b5,0,none⟩),.pointer (some ⟨b6,0,none⟩),undef,undef,undef,.iface 130 (.agg #[.int .i64 j,.int .i64 x]),undef,undef,undef,undef,undef,undef,undef,undef,undef,undef],defers:=[] } w
  go_wp2_with fail
  --REGION
  obtain ⟨bw,hbw⟩:=ex_ w.heap.size;obtain ⟨wb,hwb⟩:=ex_ (w.alloc (.cells #[.int .i64 (j:Nat),.int .i64 x] 130));obtain ⟨wa,hwad⟩:=ex_ wb.drew;have hwa:wa=(w.alloc (.cells #[.int .i64 (j:Nat),.int .i64 x] 130)).drew:=by rw [hwad,hwb]
  have hrow:wa.heap[bw]?=some (.cells #[.int .i64 (j:Nat),.int .i64 x] 130 (0,0)):=by rw [hwa,hbw];exact hA_ w _
  have hold:∀ q,q<bw→wa.heap[q]?=w.heap[q]?:=fun q hq=>by rw [hwa];exact ((Br w.heap.size w).alloc (lr _) _).block q (by omega)
  rw [←hwb,←hbw];rw [←hbw] at n4 n5 n6 l4 l5 l6;clear y0 y1 y2 y3 pq y5 p5 y6 p6;obtain ⟨y0,y1,y2,y3,pq⟩:=q4 ((hold b4 l4).trans h4);have y5:wa.cell? ⟨b5,0,none⟩=some u5:=by rw [cR wa b5 0 _ _ (0,0) ((hold b5 l5).trans h5)];rfl
  have p5:wa.frozen? ⟨b5,0,none⟩=false:=by simp [World.frozen?,(hold b5 l5).trans h5]
  have y6:wa.cell? ⟨b6,0,none⟩=some u6:=by rw [cR wa b6 0 _ _ (0,0) ((hold b6 l6).trans h6)];rfl
  have p6:wa.frozen? ⟨b6,0,none⟩=false:=by simp [World.frozen?,(hold b6 l6).trans h6]
  have yw0:wa.cell? ⟨bw,0,none⟩=some (.int .i64 (j:Nat)):=by rw [cR wa bw 0 _ _ (0,0) hrow];rfl
  have yw1:wa.cell? ⟨bw,1,none⟩=some (.int .i64 x):=by rw [cR wa bw 1 _ _ (0,0) hrow];rfl
  have HWA := Lib.hid hwa;clear hwa hwb hbw hrow hold h4 h5 h6 l4 l5 l6;refine wp_region_held_drew (S := fun w' => w'.cell? ⟨bw, 0, none⟩ = some (.int .i64 (j : Nat)) ∧ w'.cell? ⟨bw, 1, none⟩ = some (.int .i64 x)) (by kernel_rfl) (by rw [← hwad]; exact ⟨yw0, yw1⟩) (fun hHeld => ?_);rw [← hwad] at hHeld ⊢;clear hwad;refine wpAnyH_take (i := 0) (oi := { dst := some 12, op := Op.build 25 #[], type := 25, pos := "ttext.go:354", after := #[], guard := none }) (v := ?_) rfl (by kernel_rfl) (by kernel_rfl) (by kernel_rfl) (fun _ _ _ h => (HQP.out _ _ _ h).elim) (Or.inl ⟨by rfl, ?hy⟩) (by assumption) ?_
  case hy=>
   intro w0 hSw;have e0:=hSw.1;have e1:=hSw.2;clear hSw;go_simp
   (first | done | with_reducible rfl)
  (try simp only [Act.put, sAr, sZe, sSu]);refine wpAnyH_take (i := 1) (oi := { dst := some 13, op := Op.fieldAddr 130 (Operand.tmp 4) 0, type := 0, pos := "ttext.go:354", after := #[{ on := 5, ground := Ground.gcOnly Departure.lateStores }], guard := none }) (v := ?_) rfl (by kernel_rfl) (by kernel_rfl) (by kernel_rfl) (fun _ _ _ h => (HQP.out _ _ _ h).elim) (Or.inl ⟨by rfl, ?hy⟩) (by assumption) ?_
  case hy=>
   intro w0 hSw;have e0:=hSw.1;have e1:=hSw.2;clear hSw;go_simp
   (first | done | with_reducible rfl)
  (try simp only [Act.put, sAr, sZe, sSu]);refine wpAnyH_take (i := 2) (oi := { dst := some 14, op := Op.load 3 (Operand.tmp 13), type := 3, pos := "ttext.go:354", after := #[{ on := 1, ground := Ground.data }, { on := 5, ground := Ground.gcOnly Departure.lateStores }], guard := none }) (v := ?_) rfl (by kernel_rfl) (by kernel_rfl) (by kernel_rfl) (fun _ _ _ h => (HQP.out _ _ _ h).elim) (Or.inl ⟨by rfl, ?hy⟩) (by assumption) ?_
  case hy=>
   intro w0 hSw;have e0:=hSw.1;have e1:=hSw.2;clear hSw;go_simp
   (first | done | with_reducible rfl)
  (try simp only [Act.put, sAr, sZe, sSu]);refine wpAnyH_take (i := 3) (oi := { dst := some 15, op := Op.fieldAddr 130 (Operand.tmp 4) 1, type := 0, pos := "ttext.go:354", after := #[{ on := 6, ground := Ground.gcOnly Departure.lateStores }], guard := none }) (v := ?_) rfl (by kernel_rfl) (by kernel_rfl) (by kernel_rfl) (fun _ _ _ h => (HQP.out _ _ _ h).elim) (Or.inl ⟨by rfl, ?hy⟩) (by assumption) ?_
  case hy=>
   intro w0 hSw;have e0:=hSw.1;have e1:=hSw.2;clear hSw;go_simp
   (first | done | with_reducible rfl)
  (try simp only [Act.put, sAr, sZe, sSu]);refine wpAnyH_take (i := 4) (oi := { dst := some 16, op := Op.load 26 (Operand.tmp 15), type := 26, pos := "ttext.go:354", after := #[{ on := 3, ground := Ground.data }, { on := 6, ground := Ground.gcOnly Departure.lateStores }], guard := none }) (v := ?_) rfl (by kernel_rfl) (by kernel_rfl) (by kernel_rfl) (fun _ _ _ h => (HQP.out _ _ _ h).elim) (Or.inl ⟨by rfl, ?hy⟩) (by assumption) ?_
  case hy=>
   intro w0 hSw;have e0:=hSw.1;have e1:=hSw.2;clear hSw;go_simp
   (first | done | with_reducible rfl)
  (try simp only [Act.put,sAr,sZe,sSu]);refine Rd (rs:=[5]) (by kernel_rfl) (by simp) ?_;refine Rc rfl (fun K hK=>?_) Rn;go_simp;refine hK.out _ _ ⟨by rw [cF_ _ _ _ _ n4,cF_ _ _ _ _ n4,cF_ _ _ _ _ n4,cF_ _ _ _ _ n4];exact hHeld.1,by rw [cF_ _ _ _ _ n4,cF_ _ _ _ _ n4,cF_ _ _ _ _ n4,cF_ _ _ _ _ n4];exact hHeld.2⟩ (fun hHeld=>?_);clear hK K;(try simp only [Act.put,sAr,sZe,sSu]);refine Rd (rs:=[6]) (by kernel_rfl) (by simp) ?_;refine Rc rfl (fun K hK=>?_) Rn;go_simp;refine hK.out _ _ ⟨by rw [cF_ _ _ _ _ n5];exact hHeld.1,by rw [cF_ _ _ _ _ n5];exact hHeld.2⟩ (fun hHeld=>?_);clear hK K;(try simp only [Act.put,sAr,sZe,sSu]);refine Rd (rs:=[7]) (by kernel_rfl) (by simp) ?_;refine Rc rfl (fun K hK=>?_) Rn;go_simp;refine hK.out _ _ ⟨by rw [cF_ _ _ _ _ n6];exact hHeld.1,by rw [cF_ _ _ _ _ n6];exact hHeld.2⟩ (fun hHeld=>?_);clear hK K;(try simp only [Act.put,sAr,sZe,sSu]);refine wpAnyH_done (by kernel_rfl) ?_ _
  --END
  refine (show Q _ _ _ from ?_);rw [HQ.out];refine ⟨rfl,rfl,?_⟩;rw [HWW.out,HWA.out]
def wgt (l:List Tok) (k:Nat):Nat:=((l.take k).map fun t=>t.text.length+1).sum
theorem wgt_succ {l:List Tok} {k:Nat} {t:Tok} (h:l[k]?=some t):wgt l (k+1)=wgt l k+(t.text.length+1):=by
 unfold wgt;obtain ⟨h1,h2⟩:=gE.1 h;rw [List.take_succ_eq_append_getElem h1,h2];simp
mutual
def lenB:Tm→Nat
 | .mk op n s l=>if op=1 then 4 else if op=2 then 5 else if op=3 then s.size else if op=4 then s.size+6 else if op=5 then 3+lenBL l else if op=18 then 20+lenBL l else 2+lenBL l+(l.length - 1)*((signB op).length+2)
def lenBL:List Tm→Nat
 | []=>0
 | t :: r=>lenB t+lenBL r
end
theorem lenBL_app:∀ (a b:List Tm),lenBL (a++b)=lenBL a+lenBL b
 | [],b=>by simp [lenBL]
 | t :: r,b=>by rw [List.cons_append,lenBL,lenBL,lenBL_app r b];omega
theorem sizeL_app:∀ (a b:List Tm),Tm.sizeL (a++b)=Tm.sizeL a+Tm.sizeL b
 | [],b=>by simp [Tm.sizeL]
 | t :: r,b=>by rw [List.cons_append,Tm.sizeL,Tm.sizeL,sizeL_app r b];omega
theorem toldL_app:∀ (a b:List Tm),toldL (a++b)=(toldL a && toldL b)
 | [],b=>by simp [toldL]
 | t :: r,b=>by rw [List.cons_append,toldL,toldL,toldL_app r b,Bool.and_assoc]
def NamesOk (l:List Tok):Prop:=∀ t∈l,t.kind=2→isName t.text=true
structure Gd (l:List Tok) (i:Nat) (t:Tm) (j:Nat):Prop where
 ij:i<j
 jl:j≤l.length
 sz:t.size≤j - i
 len:lenB t+4*wgt l i≤4*wgt l j
 told:NamesOk l→toldT t=true
def GdP (l:List Tok) (P:Par):Prop:=∀ i t j,P i=.ok t j→Gd l i t j
section
variable {l:List Tok} {i j:Nat}
theorem tk_some {k:Int} {s:Bs} (h:isTk l i k s=true):i<l.length∧wgt l (i+1)=wgt l i+(s.length+1):=by
 unfold isTk at h
 cases ht:l[i]? with
 | none=>rw [ht] at h;cases h
 | some t=>
  rw [ht] at h;simp at h;exact ⟨(gE.1 ht).1,by rw [wgt_succ ht,h.2]⟩
theorem kd_some {k:Int} (h:isKd l i k=true):∃ t,l[i]?=some t∧t.kind=k∧i<l.length∧wgt l (i+1)=wgt l i+(t.text.length+1):=by
 unfold isKd at h
 cases ht:l[i]? with
 | none=>rw [ht] at h;cases h
 | some t=>
  rw [ht] at h;exact ⟨t,rfl,by simpa using h,(gE.1 ht).1,wgt_succ ht⟩
theorem which_some:∀ {ops:List Int},whichOp l i ops≠0→whichOp l i ops∈ops∧i<l.length∧wgt l (i+1)=wgt l i+((signB (whichOp l i ops)).length+1)
 | [],h=>absurd rfl h
 | op :: r,h=>by
  rw [whichOp] at h ⊢
  by_cases hc:(if op=17 then isTk l i 3 [109,111,100] else isTk l i 4 (signB op))=true
  · rw [iP hc]
    by_cases h17:op=17
    · rw [iP h17] at hc;obtain ⟨h1,h2⟩:=tk_some hc;exact ⟨by simp,h1,by rw [h2,h17];rfl⟩
    · rw [iN h17] at hc;obtain ⟨h1,h2⟩:=tk_some hc;exact ⟨by simp,h1,h2⟩
  · rw [iN hc] at h ⊢;obtain ⟨h1,h2,h3⟩:=which_some h;exact ⟨by simp [h1],h2,h3⟩
theorem then_ok {α β:Type} {r:Rs α} {f:α→Nat→Rs β} {y:β} {j:Nat} (h:r.then f=.ok y j):∃ x k,r=.ok x k∧f x k=.ok y j:=by
 cases r with
 | bad a b=>cases h
 | ok x k=>exact ⟨x,k,rfl,h⟩
theorem ok_inj {α:Type} {x y:α} {i j:Nat} (h:(Rs.ok x i)=.ok y j):x=y∧i=j:=by cases h;exact ⟨rfl,rfl⟩
theorem signB_pos (op:Int):1≤(signB op).length:=by
 unfold signB
 iterate 11 (split;· simp)
 simp
theorem told_of {op:Int} {ks:List Tm} (h3:op≠3) (h4:op≠4) (h:(op=6∨op=7)→ks.length≠1) (hk:toldL ks=true):toldT (tmOf op ks)=true:=by
 unfold tmOf;rw [toldT,iN (fun e=>h e.1 e.2),iN (fun e=>e.elim h3 h4)];exact hk
theorem gd_two {op:Int} {t u:Tm} {k m:Nat} (ho:7<op∧op<18) (h1:Gd l i t k) (hw:wgt l (k+1)=wgt l k+((signB op).length+1)) (h2:Gd l (k+1) u m):Gd l i (tmOf op [t,u]) m:=by
 have a1:=h1.ij;have a2:=h1.sz;have a3:=h1.len;have b1:=h2.ij;have b2:=h2.sz;have b3:=h2.len;have hs:=signB_pos op;refine ⟨by omega,h2.jl,?_,?_,fun hn=>told_of (by omega) (by omega) (fun e=>by omega) (by simp [toldL,h1.told hn,h2.told hn])⟩
 · unfold tmOf;simp [Tm.size,Tm.sizeL];omega
 · unfold tmOf;rw [lenB,iN (by omega),iN (by omega),iN (by omega),iN (by omega),iN (by omega),iN (by omega)];simp [lenBL];omega
end
theorem left_gd {l:List Tok} {one:Par} {ops:List Int} (hops:∀ op∈ops,7<op∧op<18) (h:GdP l one):GdP l (left l one ops):=by
 have key:∀ fuel i t j u m,Gd l i t j→leftL l one ops fuel t j=.ok u m→Gd l i u m:=by
  intro fuel
  induction fuel with
  | zero=>intro i t j u m hg he;rw [leftL] at he;obtain ⟨rfl,rfl⟩:=ok_inj he;exact hg
  | succ n ih=>
   intro i t j u m hg he;rw [leftL] at he
   by_cases hz:whichOp l j ops=0
   · rw [iP hz] at he;obtain ⟨rfl,rfl⟩:=ok_inj he;exact hg
   · rw [iN hz] at he;obtain ⟨x,k,h1,h2⟩:=then_ok he;obtain ⟨w1,w2,w3⟩:=which_some hz;exact ih i _ k u m (gd_two (hops _ w1) hg w3 (h _ _ _ h1)) h2
 intro i t j he;obtain ⟨x,k,h1,h2⟩:=then_ok he;exact key _ i x k t j (h _ _ _ h1) h2
structure GdL (l:List Tok) (op:Int) (i:Nat) (acc:List Tm) (j:Nat):Prop where
 ij:i<j
 jl:j≤l.length
 pos:0<acc.length
 sz:Tm.sizeL acc+(acc.length - 1)≤j - i
 len:lenBL acc+6*(acc.length - 1)+4*wgt l i≤4*wgt l j
 told:NamesOk l→toldL acc=true
theorem many_gd {l:List Tok} {one:Par} {op:Int} (ho:op=6∨op=7) (h:GdP l one):GdP l (many l op one):=by
 have hsb:(signB op).length=1:=by rcases ho with rfl | rfl <;> rfl
 have hend:∀ i acc j,GdL l op i acc j→Gd l i (manyEnd op acc) j:=by
  intro i acc j hg;have a1:=hg.ij;have a2:=hg.pos;have a3:=hg.sz;have a4:=hg.len
  match acc,hg with
  | [t],hg=>exact ⟨hg.ij,hg.jl,by have:=hg.sz;simp [Tm.sizeL] at this;exact this,by have:=hg.len;simp [lenBL] at this;exact this,fun hn=>by have:=hg.told hn;simp [toldL] at this;exact this⟩
  | a :: b :: r,hg=>
   refine ⟨hg.ij,hg.jl,?_,?_,fun hn=>told_of (by omega) (by omega) (fun _=>by simp) (hg.told hn)⟩
   · have:=hg.sz;show (tmOf op (a :: b :: r)).size≤_;unfold tmOf;rw [Tm.size];simp at this ⊢;omega
   · have:=hg.len;show lenB (tmOf op (a :: b :: r))+_≤_;unfold tmOf;rw [lenB,iN (by omega),iN (by omega),iN (by omega),iN (by omega),iN (by omega),iN (by omega),hsb];simp at this ⊢;omega
 have key:∀ fuel i acc j u m,GdL l op i acc j→manyF l op one fuel acc j=.ok u m→Gd l i u m:=by
  intro fuel
  induction fuel with
  | zero=>intro i acc j u m hg he;rw [manyF] at he;obtain ⟨rfl,rfl⟩:=ok_inj he;exact hend _ _ _ hg
  | succ n ih=>
   intro i acc j u m hg he;rw [manyF] at he
   by_cases hz:whichOp l j [op]=0
   · rw [iP hz] at he;obtain ⟨rfl,rfl⟩:=ok_inj he;exact hend _ _ _ hg
   · rw [iN hz] at he;obtain ⟨x,k,h1,h2⟩:=then_ok he;obtain ⟨w1,w2,w3⟩:=which_some hz;have w4:whichOp l j [op]=op:=by simpa using w1
     rw [w4,hsb] at w3;have hx:=h _ _ _ h1;have b1:=hx.ij;have b2:=hx.sz;have b3:=hx.len;have a1:=hg.ij;have a2:=hg.pos;have a3:=hg.sz;have a4:=hg.len;refine ih i _ k u m ⟨by omega,hx.jl,by simp,?_,?_,fun hn=>by rw [toldL_app,hg.told hn];simp [toldL,hx.told hn]⟩ h2
     · rw [sizeL_app,List.length_append];simp [Tm.sizeL];omega
     · rw [lenBL_app,List.length_append];simp [lenBL];omega
 intro i t j he;obtain ⟨x,k,h1,h2⟩:=then_ok he;have hx:=h _ _ _ h1;have b1:=hx.ij;have b2:=hx.sz;have b3:=hx.len;exact key _ i [x] k t j ⟨hx.ij,hx.jl,by simp,by simp [Tm.sizeL];exact b2,by simp [lenBL];exact b3,fun hn=>by simp [toldL,hx.told hn]⟩ h2
def GdS (l:List Tok) (s:Option Par):Prop:=∀ p,s=some p→GdP l p
theorem inner_gd {l:List Tok} {s:Option Par} (h:GdS l s) {i:Nat} {t:Tm} {j:Nat} (he:inner s i=.ok t j):Gd l (i+1) t j:=by
 unfold inner at he
 cases s with
 | none=>cases he
 | some p=>exact h p rfl _ _ _ he
theorem unit_gd {l:List Tok} {s:Option Par} (h:GdS l s):GdP l (unitF l s):=by
 intro i t j he;unfold unitF at he
 by_cases h1:isTk l i 4 [45]=true
 · rw [iP h1] at he;obtain ⟨a1,a2⟩:=tk_some h1
   by_cases hk:isKd l (i+1) 1=true
   · rw [iP hk] at he;obtain ⟨rfl,rfl⟩:=ok_inj he;obtain ⟨z,-,-,b1,b2⟩:=kd_some hk;simp at a2;refine ⟨by omega,by omega,by simp [tmNum,Tm.size,Tm.sizeL],?_,fun _=>by simp [tmNum,toldT,toldL]⟩;have hl:lenB (tmNum (-numAt l (i+1)))≤4:=by unfold tmNum;rw [lenB,iP rfl];omega
     show _+4*wgt l i≤4*wgt l (i+1+1);omega
   · rw [iN hk] at he;cases he
 rw [iN h1] at he
 by_cases h2:isTk l i 3 wTrue=true
 · rw [iP h2] at he;obtain ⟨a1,a2⟩:=tk_some h2;obtain ⟨rfl,rfl⟩:=ok_inj he;have hw:wTrue.length=4:=rfl;exact ⟨by omega,by omega,by simp [tmBool,Tm.size,Tm.sizeL],by simp [tmBool,lenB];omega,fun _=>by simp [tmBool,toldT,toldL]⟩
 rw [iN h2] at he
 by_cases h3:isTk l i 3 wFalse=true
 · rw [iP h3] at he;obtain ⟨a1,a2⟩:=tk_some h3;obtain ⟨rfl,rfl⟩:=ok_inj he;have hw:wFalse.length=5:=rfl;exact ⟨by omega,by omega,by simp [tmBool,Tm.size,Tm.sizeL],by simp [tmBool,lenB];omega,fun _=>by simp [tmBool,toldT,toldL]⟩
 rw [iN h3] at he
 by_cases h4:isTk l i 3 wNext=true
 · rw [iP h4] at he
   by_cases ho:isTk l (i+1) 4 [40]=true
   · rw [iP ho] at he
     by_cases hk:isKd l (i+2) 2=true
     · rw [iP hk] at he
       by_cases hc:isTk l (i+3) 4 [41]=true
       · rw [iP hc] at he;obtain ⟨rfl,rfl⟩:=ok_inj he;obtain ⟨a1,a2⟩:=tk_some h4;obtain ⟨b1,b2⟩:=tk_some ho;obtain ⟨z,hz,hzk,c1,c2⟩:=kd_some hk;obtain ⟨d1,d2⟩:=tk_some hc;have hw:wNext.length=4:=rfl;simp at b2 d2;have e1:i+1+1=i+2:=rfl;have e2:i+2+1=i+3:=rfl;have e3:i+3+1=i+4:=rfl;rw [e1] at b2;rw [e2] at c2;rw [e3] at d2;have ht:textAt l (i+2)=z.text:=by unfold textAt;rw [hz]
         rw [ht];refine ⟨by omega,by omega,by simp [tmName,Tm.size,Tm.sizeL];try omega,?_,fun hn=>?_⟩
         · have hl:lenB (tmName 4 z.text)=z.text.length+6:=by unfold tmName;rw [lenB,iN (by decide),iN (by decide),iN (by decide),iP rfl];show z.text.toArray.size+6=_;simp
           omega
         · unfold tmName;rw [toldT,iN (by omega),iP (.inr rfl)];exact hn z (mG hz) hzk
       · rw [iN hc] at he;cases he
     · rw [iN hk] at he;cases he
   · rw [iN ho] at he;cases he
 rw [iN h4] at he
 by_cases h5:isTk l i 4 [40]=true
 · rw [iP h5] at he;obtain ⟨x,k,e1,e2⟩:=then_ok he
   by_cases hc:isTk l k 4 [41]=true
   · rw [iP hc] at e2;obtain ⟨rfl,rfl⟩:=ok_inj e2;have hx:=inner_gd h e1;obtain ⟨a1,a2⟩:=tk_some h5;obtain ⟨d1,d2⟩:=tk_some hc;have b1:=hx.ij;have b2:=hx.sz;have b3:=hx.len;exact ⟨by omega,by omega,by omega,by omega,hx.told⟩
   · rw [iN hc] at e2;cases e2
 rw [iN h5] at he
 by_cases h6:isTk l i 3 wIf=true
 · rw [iP h6] at he;unfold choiceB at he;obtain ⟨a,k1,e1,he⟩:=then_ok he
   by_cases hc1:isTk l k1 3 wThen=true
   · rw [iP hc1] at he;obtain ⟨b,k2,e2,he⟩:=then_ok he
     by_cases hc2:isTk l k2 3 wElse=true
     · rw [iP hc2] at he;obtain ⟨c,k3,e3,he⟩:=then_ok he;obtain ⟨rfl,rfl⟩:=ok_inj he;have ha:=inner_gd h e1;have hb:=inner_gd h e2;have hc:=inner_gd h e3;obtain ⟨w1,w2⟩:=tk_some h6;obtain ⟨w3,w4⟩:=tk_some hc1;obtain ⟨w5,w6⟩:=tk_some hc2;have q1:wIf.length=2:=rfl;have q2:wThen.length=4:=rfl;have q3:wElse.length=4:=rfl;have a1:=ha.ij;have a2:=ha.sz;have a3:=ha.len;have b1:=hb.ij;have b2:=hb.sz;have b3:=hb.len;have c1:=hc.ij;have c2:=hc.sz;have c3:=hc.len;refine ⟨by omega,hc.jl,by unfold tmOf;simp [Tm.size,Tm.sizeL];omega,by unfold tmOf;simp [lenB,lenBL];omega,fun hn=>told_of (by decide) (by decide) (fun _=>by simp) (by simp [toldL,ha.told hn,hb.told hn,hc.told hn])⟩
     · rw [iN hc2] at he;cases he
   · rw [iN hc1] at he;cases he
 rw [iN h6] at he
 by_cases h7:isKd l i 2=true
 · rw [iP h7] at he;obtain ⟨z,hz,hzk,c1,c2⟩:=kd_some h7;obtain ⟨rfl,rfl⟩:=ok_inj he;have ht:textAt l i=z.text:=by unfold textAt;rw [hz]
   rw [ht];refine ⟨by omega,by omega,by simp [tmName,Tm.size,Tm.sizeL],?_,fun hn=>?_⟩
   · have hl:lenB (tmName 3 z.text)=z.text.length:=by unfold tmName;rw [lenB,iN (by decide),iN (by decide),iP rfl];show z.text.toArray.size=_;simp
     omega
   · unfold tmName;rw [toldT,iN (by omega),iP (.inl rfl)];exact hn z (mG hz) hzk
 rw [iN h7] at he
 by_cases h8:isKd l i 1=true
 · rw [iP h8] at he;obtain ⟨z,hz,hzk,c1,c2⟩:=kd_some h8;obtain ⟨rfl,rfl⟩:=ok_inj he;refine ⟨by omega,by omega,by simp [tmNum,Tm.size,Tm.sizeL],?_,fun _=>by simp [tmNum,toldT,toldL]⟩;have hl:lenB (tmNum (numAt l i))≤4:=by unfold tmNum;rw [lenB,iP rfl];omega
   omega
 rw [iN h8] at he;cases he
theorem imp_gd {l:List Tok} {s:Option Par} {or:Par} (h:GdS l s) (ho:GdP l or):GdP l (impB l s or):=by
 intro i t j he;unfold impB at he;obtain ⟨x,k,e1,he⟩:=then_ok he;have hx:=ho _ _ _ e1
 by_cases hz:whichOp l k [8]=0
 · rw [iP hz] at he;obtain ⟨rfl,rfl⟩:=ok_inj he;exact hx
 · rw [iN hz] at he;obtain ⟨u,m,e2,he⟩:=then_ok he;obtain ⟨rfl,rfl⟩:=ok_inj he;obtain ⟨w1,w2,w3⟩:=which_some hz;have w4:whichOp l k [8]=8:=by simpa using w1
   rw [w4] at w3;exact gd_two (by omega) hx w3 (inner_gd h e2)
theorem term_gd {l:List Tok} {imp:Par} (h:GdP l imp):GdP l (termB l imp):=by
 intro i t j he;unfold termB at he;obtain ⟨x,k,e1,he⟩:=then_ok he;have hx:=h _ _ _ e1
 by_cases hz:whichOp l k [9]=0
 · rw [iP hz] at he;obtain ⟨rfl,rfl⟩:=ok_inj he;exact hx
 · rw [iN hz] at he;obtain ⟨u,m,e2,he⟩:=then_ok he;obtain ⟨rfl,rfl⟩:=ok_inj he;obtain ⟨w1,w2,w3⟩:=which_some hz;have w4:whichOp l k [9]=9:=by simpa using w1
   rw [w4] at w3;exact gd_two (by omega) hx w3 (h _ _ _ e2)
theorem not_gd {l:List Tok} {s:Option Par} {sum:Par} (h:GdS l s) (ho:GdP l sum):GdP l (notB l s sum):=by
 intro i t j he;unfold notB at he
 by_cases h1:isTk l i 4 [33]=true
 · rw [iP h1] at he;obtain ⟨x,k,e1,he⟩:=then_ok he;obtain ⟨rfl,rfl⟩:=ok_inj he;have hx:=inner_gd h e1;obtain ⟨a1,a2⟩:=tk_some h1;have b1:=hx.ij;have b2:=hx.sz;have b3:=hx.len;simp at a2;refine ⟨by omega,hx.jl,by unfold tmOf;simp [Tm.size,Tm.sizeL];omega,by unfold tmOf;simp [lenB,lenBL];omega,fun hn=>told_of (by decide) (by decide) (fun e=>by omega) (by simp [toldL,hx.told hn])⟩
 rw [iN h1] at he;obtain ⟨x,k,e1,he⟩:=then_ok he;have hx:=ho _ _ _ e1
 by_cases hz:whichOp l k [10,11,12,13]=0
 · rw [iP hz] at he;obtain ⟨rfl,rfl⟩:=ok_inj he;exact hx
 · rw [iN hz] at he;obtain ⟨u,m,e2,he⟩:=then_ok he;obtain ⟨rfl,rfl⟩:=ok_inj he;obtain ⟨w1,w2,w3⟩:=which_some hz;exact gd_two (by simp at w1;omega) hx w3 (ho _ _ _ e2)
structure GdLvl (l:List Tok) (v:Lvl):Prop where
 term:GdP l v.term
 imp:GdP l v.imp
 not:GdP l v.not
theorem lvlB_gd {l:List Tok} {s:Option Lvl} (h:∀ v,s=some v→GdLvl l v):GdLvl l (lvlB l s):=by
 have ht:GdS l (s.map Lvl.term):=fun p hp=>by
  cases s with
  | none=>cases hp
  | some v=>simp at hp;subst hp;exact (h v rfl).term
 have hi:GdS l (s.map Lvl.imp):=fun p hp=>by
  cases s with
  | none=>cases hp
  | some v=>simp at hp;subst hp;exact (h v rfl).imp
 have hn:GdS l (s.map Lvl.not):=fun p hp=>by
  cases s with
  | none=>cases hp
  | some v=>simp at hp;subst hp;exact (h v rfl).not
 have hsum:GdP l (sumB l (s.map Lvl.term)):=left_gd (fun op ho=>by simp at ho;omega) (left_gd (fun op ho=>by simp at ho;omega) (unit_gd ht));have hnot:GdP l (notOf l s):=not_gd hn hsum;have himp:GdP l (impOf l s):=imp_gd hi (many_gd (.inr rfl) (many_gd (.inl rfl) hnot));exact ⟨term_gd himp,himp,hnot⟩
theorem lvl_gd (l:List Tok):∀ r,GdLvl l (lvl l r)
 | 0=>by rw [lvl];exact lvlB_gd (fun v h=>by cases h)
 | r+1=>by rw [lvl];exact lvlB_gd (fun v h=>by cases h;exact lvl_gd l r)
end Go.Proofs.YtnbphgeepnknlaaGreatDoor
