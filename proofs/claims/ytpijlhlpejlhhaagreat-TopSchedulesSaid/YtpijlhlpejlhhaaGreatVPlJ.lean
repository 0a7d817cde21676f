/- Walk: the pool's iterators: Each. -/
import Derived.Test.YtpijlhlpejlhhaaGreatVPlI
import Derived.Shelf.Abstract
import Derived.Shelf.RegionOpen
namespace Go.Proofs.YtpijlhlpejlhhaaGreat
open Go.RowKit Go.Shelf
set_option linter.unusedVariables false
set_option maxRecDepth 100000
set_option maxHeartbeats 4000000
attribute [local go_sem] Oper.semAt_some
theorem JK{m:Nat}(m':Nat){P:Program}{l:Nat}{args:Array Value}{W:World}{R:Ending→World→Prop}(h:YieldAt Fence.wide m P l args W R):YieldAt Fence.wide m' P l args W R:=by
 obtain⟨fn,tmps,assign,body,hy,hR⟩:=h;exact⟨fn,tmps,assign,body,hy,hR.1,fun c cs _=>hR.2 c cs (fun d hd=>by cases hd)⟩
theorem Nu{w:World}{pb:Nat}:Calls Tryz.prog 188 #[.pointer (some ⟨pb,0,none⟩)] w fun e w'=>e=.returned (.func (.func 193) #[] #[.pointer (some ⟨w.heap.size,0,none⟩)])∧w'=w.alloc (.cells #[.pointer (some ⟨pb,0,none⟩)] 174):=by
 go_in
 go_wp2
 go_ret;exact⟨rfl,rfl⟩
theorem JL{w:World}{pb:Nat}:Calls Tryz.prog 177 #[.pointer (some ⟨pb,0,none⟩)] w fun e w'=>e=.returned (.func (.func 187) #[] #[.pointer (some ⟨w.heap.size,0,none⟩)])∧w'=w.alloc (.cells #[.pointer (some ⟨pb,0,none⟩)] 174):=by
 go_in
 go_wp2
 go_ret;exact⟨rfl,rfl⟩
theorem Uq{K:Nat→Nat}{w:World}{pb ga ca gt ct room c n:Nat}{fv:Value}{S:Bd.St}(h:aY K w pb ga ca gt ct fv room S)(hn:4≤n)
 (hc:w.heap[c]?=some (.cells #[.pointer (some ⟨pb,0,none⟩)] 174 (0,0))) {p:Nat→Obj→Prop} (pp:∀o,p pb o) (pt:∀o,p gt o) (pa:∀o,p ga o)
 (pc:p c (.cells #[.pointer (some ⟨pb,0,none⟩)] 174 (0,0)))
 (px:∀k o,w.heap.size≤k→o.isCells=false→p k o) (py:∀k v z,w.heap.size≤k→p k (.cells v 249 z)) (pz:∀k v z,w.heap.size≤k→p k (.cells v 174 z)) :
 Qy n Tryz.prog 187 #[.pointer (some ⟨c,0,none⟩)] (fun x:Nat=>#[Value.agg (bC S x).toArray]) p (eu S S.N) w:=by
 intro l J W hW hJ hY h0;have hc0:W.heap[c]?=some _:=(hW.block _ (aV hc)).trans hc;have hP:=h.below hW;have c0:W.cell? ⟨c,0,none⟩=some (.pointer (some ⟨pb,0,none⟩)):=au hc0 0 rfl;have lc:c<W.heap.size:=aV hc0;have f0:∀o,W.frozen? ⟨c,o,none⟩=false:=jv hc0;obtain⟨Y,HY⟩:∃Y:Prop,Y=(∀i x W1,(eu S S.N)[i]?=some x→J i W1→YieldAt Fence.wide (n-1) Tryz.prog l #[Value.agg (bC S x).toArray] W1 fun e W'=>e=.returned (.bool true)∧J (i+1) W'∧Kx p W1 W'):=⟨_,rfl⟩;have hy0:Y:=HY ▸ hY;clear hY;have cI:=Nu (w:=W.alloc (.cells #[.func (.yield l) #[] #[]] 249)) (pb:=pb);refine callsIn_of_wp_marks Tryz.func187 rfl trivial ?_ rfl;simp only[Tryz.ntmps187,List.size_toArray,List.length_cons,List.length_nil,Nat.reduceAdd,Nat.reduceSub,Array.replicate_succ,Array.replicate_zero,List.push_toArray,List.append_toArray,List.nil_append,List.cons_append];have hn1:1≤n:=by omega
 gi_wp2_with (refine⟨trivial,?_⟩;gi_at_call 188;refine(callsIn_wide.2 cI).mono ?_;rintro e w' ⟨rfl,rfl⟩)
 obtain⟨W0,hW0⟩:∃W0,(W.alloc (.cells #[.func (.yield l) #[] #[]] 249)).alloc (.cells #[.pointer (some ⟨pb,0,none⟩)] 174)=W0:=⟨_,rfl⟩;have hb1:Below W.heap.size W W0:=by rw[←hW0];exact((Below.refl _ W).alloc (Nat.le_refl _) _).alloc (by simp) _
 have hsz:W0.heap.size=W.heap.size+2:=by rw[←hW0];simp
 have o1:W0.heap[W.heap.size]?=some (.cells #[.func (.yield l) #[] #[]] 249 (0,0)):=by
  rw[←hW0];exact(Below.heap_alloc _ _ _ (by simp)).trans (heap_alloc_new _ _)
 have o2:W0.heap[W.heap.size+1]?=some (.cells #[.pointer (some ⟨pb,0,none⟩)] 174 (0,0)):=by
  rw[←hW0];have:=heap_alloc_new (W.alloc (.cells #[.func (.yield l) #[] #[]] 249)) (.cells #[.pointer (some ⟨pb,0,none⟩)] 174);rwa [World.size_alloc]at this
 have hJ1:∀Y,Below W0.heap.size W0 Y→J 0 Y:=fun Y hY=>h0 Y (hb1.trans (hY.mono (by rw[hsz];omega)));rw[hW0];clear hW0 cI;have hWw:=hW.size
 refine ET (w0:=W0) (gf:=193) (lb:=#[.pointer (some ⟨W.heap.size+1,0,none⟩)]) rfl (enters_of Tryz.func193 (by kernel_rfl) rfl)
  (Xy (hP.below hb1) (by omega) o2 pp pt (pz _ _ _ (by omega))) hn1 (Below.refl _ _) (fun _=>rfl) (fun k o hk ho=>px k o (by omega) ho)
  (fun i wr=>J i wr∧wr.heap[pb]?=w.heap[pb]?∧wr.heap[ga]?=w.heap[ga]?∧wr.heap[c]?=some (.cells #[.pointer (some ⟨pb,0,none⟩)] 174 (0,0))∧wr.heap[W.heap.size]?=some (.cells #[.func (.yield l) #[] #[]] 249 (0,0))) ?own ?start
  (fun i a' wr=>∃x,(eu S S.N)[i]?=some x∧a'={tmps:=#[.func (.yield l) #[] #[],.pointer (some ⟨c,0,none⟩),.pointer (some ⟨W.heap.size,0,none⟩),.int .i64 (x:Nat),.pointer (some ⟨pb,0,none⟩),.func (.func 193) #[] #[.pointer (some ⟨W.heap.size+1,0,none⟩)],.int .i64 (x:Nat),undef,undef,undef,undef,undef,undef,undef,undef,undef,undef],defers:=[]})
  ?Nv ?assign ?body ?done
 case own=>
  rintro s A B row ⟨h1,h2,h3,h4,h5⟩ hg hr;have kp:∀q o,A.heap[q]?=some o→q<W0.heap.size→B.heap[q]?=A.heap[q]?:=fun q o hq hl=>hg.block q (aV hq) (fun e=>by have:=(hr _ e.symm).1;omega);obtain⟨og,hog⟩:∃o,w.heap[ga]?=some o:=⟨_,Array.getElem?_eq_getElem h.at'.lt⟩;exact⟨hJ s A B row h1 hg (fun r e=>⟨by have:=(hr r e).1;omega,(hr r e).2⟩),(kp _ _ (h2.trans h.row) (by have:=aV h.row;omega)).trans h2,(kp _ _ (h3.trans hog) (by have:=aV hog;omega)).trans h3,(kp _ _ h4 (by omega)).trans h4,(kp _ _ h5 (by omega)).trans h5⟩
 case start=>
  intro Y hY;have hP1:=aV h.row;have hP2:=h.at'.lt;exact⟨hJ1 Y hY,(hY.block _ (by omega)).trans ((hb1.block _ (by omega)).trans (hW.block _ hP1)),(hY.block _ (by omega)).trans ((hb1.block _ (by omega)).trans (hW.block _ hP2)),(hY.block _ (by omega)).trans ((hb1.block _ (by omega)).trans hc0),(hY.block _ (by omega)).trans o1⟩
 case Nv=>exact fun i a' _ _ _ _ hs _ _=>hs
 case assign=>
  rintro l2 i x W2 F hx hI hF
  gi_wp2
  exact hF _ _ Kx.refl hI ⟨x,hx,rfl⟩
 case body=>
  rintro l2 i x a' W2 hx ⟨Ur,e1,e2,e3,e4⟩ ⟨x',hx',rfl⟩;obtain rfl:x=x':=by rw[hx]at hx';cases hx';rfl
  have hmem:x<S.N∧(S.nd x).isSome=true:=by
   have:=List.mem_of_getElem? hx;unfold eu at this
   simpa using this
  obtain⟨d,hd⟩:=Option.isSome_iff_exists.1 hmem.2;have HN:=Lib.hid (show bC S x=[.int .i64 (x:Nat),.int .i64 (d.v:Nat),.int .i64 (d.lo:Nat),.int .i64 (d.hi:Nat),.int .i64 (S.refs x:Nat)]from by unfold bC;rw[hd]);have x1:=hmem.1;have ha:=h.at'.kept e2;have z0:=ha.cell (i:=x) (j:=0) x1 (by omega);have z1:=ha.cell (i:=x) (j:=1) x1 (by omega);have z2:=ha.cell (i:=x) (j:=2) x1 (by omega);have z3:=ha.cell (i:=x) (j:=3) x1 (by omega);have z4:=ha.cell (i:=x) (j:=4) x1 (by omega);rw[HN]at z0 z1 z2 z3 z4;simp only[List.getElem?_cons_zero,List.getElem?_cons_succ,Nat.add_zero]at z0 z1 z2 z3 z4;have b0:W2.cell? ⟨c,0,none⟩=some (.pointer (some ⟨pb,0,none⟩)):=au e3 0 rfl;have b1:W2.cell? ⟨W.heap.size,0,none⟩=some (.func (.yield l) #[] #[]):=au e4 0 rfl;have b2:W2.cell? ⟨pb,1,none⟩=some (.slice (some ⟨ga,0,none⟩) S.N ca):=au (e1.trans h.row) 1 rfl;have HB:=h.big;have Xn:(x:Int)<(S.N:Int):=by omega
  have hyx:=(HY ▸ hy0) _ _ W2.drew hx (Ij hJ Ur);rw[HN]at hyx;have E1:=Lib.hid e1;have E2:=Lib.hid e2;have E3:=Lib.hid e3;have E4:=Lib.hid e4;have hP0:=h.row;clear e1 e2 e3 e4 hx' hmem hP h
  gi_wp2
  have hmx:Tryz.prog.follows .mixedOrders=true:=by kernel_rfl
  have aax:=JK (n-1-1-1) hyx;clear hyx;obtain⟨fn,tmps,assign,body,hy,hR0⟩:=aax;have hR:RoundIn (Fence.wide.inRound l2) (n-1-1-1) Tryz.prog l fn tmps assign body W2.drew fun e W'=>e=.returned (.bool true)∧J (i+1) W'∧Kx p W2.drew W':=hR0;clear hR0
  refine wpIn_mono (Q:=fun e a' W3=>e=.normal∧a'={tmps:=#[.func (.yield l) #[] #[],.pointer (some ⟨c,0,none⟩),.pointer (some ⟨W.heap.size,0,none⟩),.int .i64 (x:Nat),.pointer (some ⟨pb,0,none⟩),.func (.func 193) #[] #[.pointer (some ⟨W.heap.size+1,0,none⟩)],.int .i64 (x:Nat),
   .func (.yield l) #[] #[],.pointer (some ⟨pb,0,none⟩),.pointer (some ⟨pb,0,none⟩),.pointer (some ⟨pb,1,none⟩),.slice (some ⟨ga,0,none⟩) S.N ca,.int .i64 (x:Nat),.pointer (some ⟨ga,x*5,none⟩),.agg #[.int .i64 (x:Nat),.int .i64 (d.v:Nat),.int .i64 (d.lo:Nat),.int .i64 (d.hi:Nat),.int .i64 (S.refs x:Nat)],.bool true,.bool false],defers:=[]}∧J (i+1) W3∧Kx p W2.drew W3) ?reg ?_
  case reg=>
   clear hd HN hc0 c0 lc f0 HY hy0 hn1 hW hJ h0 hc pp pt pa pc px py pz hb1 o1 o2 hJ1 hWw Ur hx E1 E2 E3 E4 x1 ha
   generalize S.N=N at *
   generalize S.refs x=rx at *
   generalize d.v=dv at *
   generalize d.lo=dl at *
   generalize d.hi=dh at *
   generalize W.heap.size=q at *
   refine oC (pX l2) 8 (by kernel_rfl) (by kernel_rfl) (by kernel_rfl) ?_;simp only[List.take_succ_cons,List.take_zero,List.drop_succ_cons,List.drop_zero]
   repeat still_step
   refine wpStill_nil ?_
   gi_wp2_with (refine⟨fun h=>(by cases h),?_⟩;refine hR.mono ?_;rintro e W3 ⟨rfl,hJ3,hk3⟩)
   all_goals exact hJ3
  rintro _ _ W3 ⟨rfl,rfl,hJ3,hk3⟩
  have hF:Kx p W2 W3∧J (i+1) W3∧W3.heap[pb]?=w.heap[pb]?∧W3.heap[ga]?=w.heap[ga]?∧W3.heap[c]?=some (.cells #[.pointer (some ⟨pb,0,none⟩)] 174 (0,0))∧W3.heap[W.heap.size]?=some (.cells #[.func (.yield l) #[] #[]] 249 (0,0)):=by
   obtain⟨og,hog⟩:∃o,W2.heap[ga]?=some o:=⟨_,Array.getElem?_eq_getElem ha.lt⟩;exact⟨hk3,hJ3,(hk3.2 pb _ (E1.trans hP0) (pp _)).trans hP0.symm,(hk3.2 ga _ hog (pa _)).trans (hog.symm.trans E2),hk3.2 c _ E3 pc,hk3.2 _ _ E4 (py _ _ _ hWw)⟩
  clear E1 E2 E3 E4 o1 hc hc0
  gi_wp2
 case done => 
  rintro D W2 hD ⟨Ur,e1,e2,e3,e4⟩ hK
  gi_wp2
  refine⟨by simp,.inl ⟨_,_,rfl,run_takeDeferred hK,?_⟩⟩;exact⟨_,results_none rfl _ _ _,⟨_,rfl⟩,hJ.putObj _ Ur (by omega) hK rfl⟩
end Go.Proofs.YtpijlhlpejlhhaaGreat
