/- Walk: the table's iterator. -/
import Derived.Test.YtpijlhlpejlhhaaGreatVUnF
namespace Go.Proofs.YtpijlhlpejlhhaaGreat
open Go.RowKit Go.Lib Go.Sort
set_option linter.unusedVariables false
set_option maxRecDepth 100000
set_option maxHeartbeats 8000000
attribute [local go_sem] Oper.semAt_some
/-- What is left to the end. -/
def Il(N:Nat):Value→Nat|.int _ q=>N-q.toNat|_=>0
theorem Ut{wr w2:World}{n mb r c cnt:Nat}{f:Nat×Nat→Option Int}{done:List (Nat×Nat)}{v:Value}{E:Nat→List Value}(hsl:Sl wr 217 2 v n E)(hr:xC jh wr mb r c f done cnt)(g2:wr.grownBy w2 (some r))(o1 o2:Obj):Sl ((w2.alloc o1).alloc o2) 217 2 v n E:=by
 refine hsl.kept (fun g m c e hg=>?_);obtain⟨-,cs,z,h2⟩:=hsl.blk (q:=g) (by rw[e];rfl);have h3:=(Da hr h2).1;have h4:w2.heap[g]?=wr.heap[g]?:=g2.block g hg (by simp;exact h3);have h5:g<w2.heap.size:=Nat.lt_of_lt_of_le hg g2.size;exact((Below.heap_alloc _ _ g (by simp only[World.size_alloc];omega)).trans (Below.heap_alloc _ _ g h5)).trans h4
theorem QB{K:Nat→Nat}{w:World}{tb mb rr c n:Nat}{f:Nat→Nat→Option Nat}(h:gT K w tb mb rr f)(few:Ws f)(hn:1≤n)
 (hc:w.heap[c]?=some (.cells #[.pointer (some ⟨tb,0,none⟩)] 198 (0,0))) {p:Nat→Obj→Prop} (pm:∀o,p mb o) (pt:∀o,p tb o)
 (pc:p c (.cells #[.pointer (some ⟨tb,0,none⟩)] 198 (0,0))) (py:∀k v z,w.heap.size≤k→p k (.cells v 217 z))
 (xs:List TK) (hx:∀x:TK,x∈xs↔dY f (kv x)≠none) (hnd:xs.Nodup) (hs:xs.Pairwise fun x y=>ltOf (BG f) y x=false) :
 Qy n Tryz.prog 189 #[.pointer (some ⟨c,0,none⟩)] (fun x:TK=>#[gQ (kv x),.int .i64 ((dY f (kv x)).getD 0)]) p xs w:=by
 intro l J W hW hJ hY h0;obtain⟨cnt,hm⟩:=h.map;have hcnt:=MV few hm;have hc0:W.heap[c]?=some (.cells #[.pointer (some ⟨tb,0,none⟩)] 198 (0,0)):=(hW.block _ (aV hc)).trans hc;have ht0:W.heap[tb]?=some (.cells #[.map (some mb)] 227 (0,0)):=(hW.block _ (aV h.row)).trans h.row;have hm0:bV jh W mb cnt (dY f):=hm.kept (hW.block _ hm.lt);obtain⟨w1,e1,rg0,g1,s1⟩:=hm0.range;have k0:W.cell? ⟨c,0,none⟩=some (.pointer (some ⟨tb,0,none⟩)):=au hc0 0 rfl;have k1:W.cell? ⟨tb,0,none⟩=some (.map (some mb)):=au ht0 0 rfl;simp only[jh]at e1;obtain⟨Y,HY⟩:∃Y:Prop,Y=(∀i x W1,xs[i]?=some x→J i W1→YieldAt Fence.wide (n-1) Tryz.prog l #[gQ (kv x),.int .i64 ((dY f (kv x)).getD 0)] W1 fun e W'=>e=.returned (.bool true)∧J (i+1) W'∧Kx p W1 W'):=⟨_,rfl⟩;have hy0:Y:=HY ▸ hY;clear hY;have hJ0:=Lib.hid h0;have hlm:=hm0.lt;have aaz:NC W mb W.heap.size cnt f (.slice none 0 0) cnt w1:=⟨⟨[],rg0,Sl.nil⟩,fun g n c e=>by (cases e),(Below.refl _ W).grown g1 (Nat.le_refl _) (fun k e=>by cases e)⟩;have HM:=Lib.hid (And.intro hm (And.intro hm0 (And.intro hc (And.intro h few))));have HX:=Lib.hid (And.intro hx (And.intro hnd hs));have HWW:=Lib.hid (And.intro hW hJ);have HO:=Lib.hid (And.intro hc0 ht0);clear h0 hm hm0 rg0 g1 h few hx hnd hs hc0 ht0 hW hJ hc;refine callsIn_of_wp Tryz.func189 rfl trivial ?_ rfl
 simp only[Tryz.ntmps189,List.size_toArray,List.length_cons,List.length_nil,Nat.reduceAdd,Nat.reduceSub,Array.replicate_succ,Array.replicate_zero,List.push_toArray,List.append_toArray,List.nil_append,List.cons_append]
 gi_wp2
 gi_loopw [3,4,14,15,16,17,18,19,20,21] (fun v3 v4 v14 v15 v16 v17 v18 v19 v20 v21 wr=>∃cnt',NC W mb W.heap.size cnt f v3 cnt' wr)
  (fun v3 v4 v14 v15 v16 v17 v18 v19 v20 v21 wr=>wr.rangeLeft mb W.heap.size)
 case atStart=>exact⟨_,aaz⟩
 case round=>
  obtain⟨cnt',⟨⟨ks,hr,hsl⟩,hnew,hbl⟩⟩:=hrel
  rcases hr.next 0 with⟨z,hall,run⟩|⟨x,y,w2,cnt2,hfx,hd,run,hr2,hlt,g2,s2,ent⟩
  ·have hp:ks.Perm xs:=by
    obtain⟨hx,hnd,-⟩:=HX.out;refine(List.perm_ext_iff_of_nodup ?_ hnd).2 (fun x=>?_)
    ·exact List.Pairwise.of_map kv (fun a b h e=>h (by rw[e])) hr.nod
    ·rw[hx]
     constructor
     ·intro hm;exact hr.sub (kv x) (List.mem_map.2 ⟨x,hm,rfl⟩)
     ·intro hm;obtain⟨y,hy,e⟩:=List.mem_map.1 (hall (kv x) hm)
      rwa [show x=y from Subtype.ext e.symm]
   have hsrt:qP f ks=xs:=JN f hp HX.2.2;have hlen:ks.length=xs.length:=hp.length_eq
   have hlx:xs.length≤1048577:=by
    have h1:=hr.le;simp at h1;omega
   have hcW:=(hbl.block _ (aV HO.1)).trans HO.1;have htW:=(hbl.block _ (aV HO.2)).trans HO.2;have hmW:=HM.2.1.kept (hbl.block _ HM.2.1.lt);have k0:wr.cell? ⟨c,0,none⟩=some (.pointer (some ⟨tb,0,none⟩)):=au hcW 0 rfl;have k1:wr.cell? ⟨tb,0,none⟩=some (.map (some mb)):=au htW 0 rfl;have HB:=Lib.hid hbl
   rcases hsl with⟨rfl,h0⟩|⟨g,cap,rfl,hrw⟩
   ·have hx0:xs.length=0:=by omega
    have HX0:=Lib.hid hx0;clear hx0 hlx hlen h0 hr hp hall hbl hnew hmW htW hcW
    gi_wp2_with (refine⟨trivial,?_⟩;gi_at_call 190;refine(callsIn_wide.2 (EZ (w:=wr) (cb:=c))).mono ?_;rintro e w' ⟨rfl,rfl⟩)
    gi_loopw [27] (fun v27 wr2=>v27=.int .i64 0∧J 0 wr2) (fun _ _=>0)
    case atStart=>exact⟨rfl,hJ0.out _ HB⟩
    case round=>
     obtain⟨rfl,hJe⟩:=hrel
     gi_wp2
     go_end0
     exact⟨⟨_,rfl⟩,by rw[HX0];exact hJe⟩
   ·have hg0:=hnew g _ _ rfl;have mP:c≠g∧tb≠g∧mb≠g:=⟨fun e=>by have:=aV HO.1;omega,fun e=>by have:=aV HO.2;omega,fun e=>by have:=HM.2.1.lt;omega⟩;have cs:=JQ hcW htW hmW mP.1 mP.2.1 mP.2.2 ks hrw (by omega);rw[hsrt,hlen]at cs;rw[hlen];have XD:=Lib.hid mP;clear hr hp hall hrw hbl hnew hmW htW hcW mP hlen;obtain⟨N,hN⟩:∃N,xs.length=N:=⟨_,rfl⟩;rw[hN]at cs hlx⊢;have HN:=Lib.hid hN;clear hN
    gi_wp2_with (refine⟨trivial,?_⟩;gi_at_call 190;refine(callsIn_wide.2 cs).mono ?_;rintro e w5 ⟨rfl,Ls,hr5⟩;have XE:=Lib.hid Ls;have HR5:=Lib.hid hr5;clear Ls hr5)
    have hb5:Below W.heap.size W w5:=HB.trans ⟨XE.os,XE.tape,XE.output,XE.size,fun k hk=>XE.block k (Nat.lt_of_lt_of_le hk HB.size) (fun e=>by omega)⟩;have pG:=Lib.hid hb5;clear hb5
    gi_loopw [6,27,28,29,30,31,32,33,34,35,36,37,38,39,40,41] (fun v6 v27 v28 v29 v30 v31 v32 v33 v34 v35 v36 v37 v38 v39 v40 v41 wr2=>∃i:Nat,i≤N∧v27=.int .i64 (i:Nat)∧J i wr2∧wr2.heap[g]?=w5.heap[g]?∧wr2.heap[mb]?=W.heap[mb]?∧wr2.heap[tb]?=W.heap[tb]?∧wr2.heap[c]?=W.heap[c]?)
     (fun v6 v27 v28 v29 v30 v31 v32 v33 v34 v35 v36 v37 v38 v39 v40 v41 wr2=>Il N v27)
    case atStart=>exact⟨0,Nat.zero_le _,rfl,hJ0.out _ pG,rfl,pG.block _ hlm,pG.block _ (aV HO.2),pG.block _ (aV HO.1)⟩
    case round=>
     obtain⟨i,hi,rfl,Ur,q1,q2,q3,q4⟩:=hrel;have HQ:=Lib.hid (And.intro q1 (And.intro q2 (And.intro q3 q4)))
     by_cases hlt:i<N
     ·obtain⟨X,hX⟩:∃X,xs[i]?=some X:=⟨_,List.getElem?_eq_getElem (by rw[HN];exact hlt)⟩;obtain⟨⟨x1,x2⟩,gX⟩:=X;have hr2:=HR5.kept q1;have z1:=hr2.cell (i:=i) (j:=0) hlt (by omega);have z2:=hr2.cell (i:=i) (j:=1) hlt (by omega)
      have eX:xs.getD i default=(⟨(x1,x2),gX⟩:TK):=by
       rw[List.getD,hX]
       rfl
      rw[eX]at z1 z2;simp only[kG,List.getElem?_cons_zero,List.getElem?_cons_succ,Nat.add_zero]at z1 z2;obtain⟨bx,BX⟩:∃o:Obj,o=.cells #[.int .i64 (x1:Nat),.int .i64 (x2:Nat)] 217:=⟨_,rfl⟩;obtain⟨W6,E_⟩:∃W6,W6=(wr.alloc bx).drew:=⟨_,rfl⟩;have hb6:Below wr.heap.size wr W6:=by rw[E_];exact((Below.refl _ wr).alloc (Nat.le_refl _) _).drew
      have p2:wr.heap[mb]?=W.heap[mb]?:=q2;have m6:=(HM.2.1.kept q2);have c6:W6.heap[c]?=some _:=(hb6.block _ (aV (q4.trans HO.1))).trans (q4.trans HO.1);have t6:W6.heap[tb]?=some _:=(hb6.block _ (aV (q3.trans HO.2))).trans (q3.trans HO.2);have d0:W6.cell? ⟨c,0,none⟩=some (.pointer (some ⟨tb,0,none⟩)):=au c6 0 rfl;have d1:W6.cell? ⟨tb,0,none⟩=some (.map (some mb)):=au t6 0 rfl;have lk:=(m6.kept (hb6.block _ m6.lt)).qI (x:=(x1,x2)) gX;have J6:J i W6:=by rw[E_];exact Ij HWW.2 (HWW.2.alloc _ Ur)
      obtain⟨fn,tmps,assign,body,hy,hR⟩:=(HY ▸ hy0) _ _ W6 hX J6;simp only[jh,gQ]at lk;simp only[kv,gQ]at hy
      generalize (dY f (x1,x2)).getD 0=vv at *
      have hjlt:(i:Int)<(N:Int):=by omega
      have G6:=Lib.hid (And.intro hb6 (And.intro c6 (And.intro t6 m6)));clear q1 q2 q3 q4 p2 hr2 hb6 c6 t6 m6 J6 eX hX;subst E_;subst BX
      gi_wp2
      refine oC sM 8 (by kernel_rfl) (by kernel_rfl) (by kernel_rfl) ?_;simp only[List.take_succ_cons,List.take_zero,List.drop_succ_cons,List.drop_zero]
      repeat still_step
      refine wpStill_nil ?_
      gi_wp2
      refine hR.mono ?_;rintro e W3 ⟨rfl,hJ3,hk3⟩;have HK3:=Lib.hid hk3;clear hk3
      gi_wp2
      go_roundw
      case rel=>
       obtain⟨a1,a2,a3,a4⟩:=G6.out;obtain⟨q1,q2,q3,q4⟩:=HQ.out;have kk:=HK3.2;have om:∃o,wr.heap[mb]?=some o:=⟨_,Array.getElem?_eq_getElem a4.lt⟩;obtain⟨om,Uu⟩:=om;obtain⟨⟨cur,f1,-⟩,-⟩:=HR5.out;have gg:=(a1.block g (aV (q1.trans f1))).trans (q1.trans f1);exact⟨i+1,by omega,by simp,hJ3,(kk g _ gg (py _ _ _ (Nat.le_trans HWW.1.size hg0))).trans f1.symm,(kk mb _ ((a1.block mb a4.lt).trans Uu) (pm _)).trans (Uu.symm.trans q2),(kk tb _ a3 (pt _)).trans HO.2.symm,(kk c _ a2 pc).trans HO.1.symm⟩
      case measure=>simp[Il];omega
     ·obtain rfl:i=N:=by omega
      clear q1 q2 q3 q4
      gi_wp2
      go_end0
      exact⟨⟨_,rfl⟩,by rw[HN];exact Ur⟩
  ·have hgp:jZ x:=hr.good x (by rw[hfx];simp);have hle:=hr.le;have hsl2:=Ut hsl hr g2;have hlen:ks.length<1073741824:=by simp at hle;omega
   obtain⟨x1,x2⟩:=x;simp only[jh,gQ]at run ent;have hnw:∀o1 o2:Obj,((w2.alloc o1).alloc o2).heap[wr.heap.size+1]?=some o2:=fun o1 o2=>aL (by rw[World.size_alloc,s2]);have h1c:∀u∈(#[.int .i64 (x1:Nat),.int .i64 (x2:Nat)]:Array Value).toList,u.oneCell'=true:=by simp[Value.oneCell']
   have step:=fun(g cap:Nat)(w4:World) o1 o2 hq=>NC.step (g:=g) (cap:=cap) (w4:=w4) (⟨(x1,x2),hgp⟩:TK) hsl hnew hbl (Nat.le_refl _) hr hr2 g2 o1 o2 hq
   gi_wp2_with (gi_at_builtin;go_loud (apply gu _ rfl _ _ _ rfl aay rfl (hsl2 _ _) rfl (hnw _ _) rfl h1c hlen);intro g cap w4 hq)
   ·have hs4:=step g cap w4 _ _ hq;refine⟨⟨_,hs4⟩,?_⟩;obtain⟨ks4,hr4,-⟩:=hs4.ex;rw[hr4.left_eq,hr.left_eq];exact hlt
   all_goals exact 0
end Go.Proofs.YtpijlhlpejlhhaaGreat
