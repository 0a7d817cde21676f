/- Walks and plain words: VsB VsC VsD VsE VsF. -/
import Derived.Test.YtpijlhlpejlhhaaGreatVVsA
import Derived.Test.YtpijlhlpejlhhaaGreatVPmA
namespace Go.Proofs.YtpijlhlpejlhhaaGreat
open Go.RowKit
set_option linter.unusedVariables false
set_option maxRecDepth 100000
set_option maxHeartbeats 8000000
section
/-- A list of numbers in memory from block B on. -/
def bO(B:Nat)(w:World)(v:Value)(l:List Nat):Prop:=∃g cap,v=.slice (some ⟨g,0,none⟩) l.length cap∧B≤g∧Rw w 3 1 l.length cap g (fun i=>[.int .i64 (l.getD i 0:Nat)])
theorem mk0(n:Nat)(hn:n≤100000):∀u:World,(Instr.makeSlice 22 (.int .i64 0) (.int .i64 (n:Int))).run Tryz.prog u=.ok (.slice (some ⟨u.heap.size,0,none⟩) 0 n) (u.alloc (.cells (madeCells #[.int .i64 0] n) 3)):=fun u=>by
 obtain⟨i0,hi,hz0,hz1,hz2⟩:=info_parts (show(Tryz.prog.info? 3).map (fun i=>(i.zero,i.size,i.bytes))=some (some (.int .i64 0),1,8) by kernel_rfl);have h:=run_make (P:=Tryz.prog) u 22 3 i0 _ Tryz.underlying22 hi hz0 .i64 .i64 (0:Int) (n:Int) (by omega) (by omega) (by rw[hz2];omega) (by omega)
 simpa[hz1,Value.cells]using h
theorem oJ(W:World)(g len cap l:Nat)(h:l≤len)(hc:l<cap):(Instr.slice 22 (.slice (some ⟨g,0,none⟩) len cap) (some (.int .i64 (l:Nat))) none none).run Tryz.prog W=.ok (.slice (some ⟨g,l,none⟩) (len-l) (cap-l)) W:=by
 have hu:Tryz.prog.underlying 22=some (.slice (Tryz.prog.elem 22)):=by kernel_rfl
 have hs:(sizeOf (Tryz.prog.elem 22)).run Tryz.prog W=.ok 1 W:=by kernel_rfl
 rw[run_slice_l W 22 (some ⟨g,0,none⟩) len cap hu .i64 (l:Nat) (by omega) (by omega),hs];have e:¬cap=l:=by omega
 simp[Result.andThen,sliced,Addr.add,e]
 try (intro h;omega)
theorem U9(W:World)(g n cap:Nat)(h:n≤cap):(Instr.slice 22 (.slice (some ⟨g,0,none⟩) n cap) none (some (.int .i64 (n:Nat))) (some (.int .i64 (n:Nat)))).run Tryz.prog W=.ok (.slice (some ⟨g,0,none⟩) n n) W:=by
 have hu:Tryz.prog.underlying 22=some (.slice (Tryz.prog.elem 22)):=by kernel_rfl
 have hs:(sizeOf (Tryz.prog.elem 22)).run Tryz.prog W=.ok 1 W:=by kernel_rfl
 rw[run_slice_hm W 22 (some ⟨g,0,none⟩) n cap hu .i64 .i64 (n:Nat) (n:Nat) (by omega) (by omega) (by omega),hs];simp[Result.andThen,sliced,Addr.add]
theorem IE(W:World)(g len cap l:Nat)(h:l≤len)(hc:cap=l):(Instr.slice 22 (.slice (some ⟨g,0,none⟩) len cap) (some (.int .i64 (l:Nat))) none none).run Tryz.prog W=.ok (.slice (some ⟨g,0,none⟩) (len-l) 0) W:=by
 have hu:Tryz.prog.underlying 22=some (.slice (Tryz.prog.elem 22)):=by kernel_rfl
 have hs:(sizeOf (Tryz.prog.elem 22)).run Tryz.prog W=.ok 1 W:=by kernel_rfl
 rw[run_slice_l W 22 (some ⟨g,0,none⟩) len cap hu .i64 (l:Nat) (by omega) (by omega),hs];simp[Result.andThen,sliced,hc]
theorem rA{L:List Nat}{a i q:Nat}(hi:Bd.scan L a L.length=i)(hs:¬(0<i∧L.getD (i-1) 0=a)):(Bd.ins L a).length=L.length+1∧(Bd.ins L a).getD q 0=if q=i then a else if i<q then L.getD (q-1) 0 else L.getD q 0:=by
 have hle:=Bd.qC L a L.length;rw[hi]at hle
 have e:Bd.ins L a=L.take i++a::L.drop i:=by
  unfold Bd.ins;simp only;rw[hi,if_neg hs]
 constructor
 ·rw[e];simp;omega
 ·rw[e,List.getD_eq_getElem?_getD]
  by_cases h1:q<i
  ·rw[List.getElem?_append_left (by simp;omega),List.getElem?_take_of_lt h1,if_neg (by omega),if_neg (by omega),List.getD_eq_getElem?_getD]
  ·rw[List.getElem?_append_right (by simp;omega)];have hl:(L.take i).length=i:=by simp;omega
   rw[hl]
   by_cases h2:q=i
   ·subst h2;simp
   ·obtain⟨d,rfl⟩:∃d,q=i+1+d:=⟨q-i-1,by omega⟩;rw[if_neg (by omega),if_pos (by omega),show i+1+d-i=d+1 from by omega,List.getElem?_cons_succ,List.getElem?_drop,List.getD_eq_getElem?_getD]
    congr 2;omega
theorem je{cur:Array Value}{CS:List Value}{off i n:Nat}(hl:CS.length=n-i)(hfit:off+CS.length≤cur.size)(ho:i<n→off=i+1)(q:Nat) :
 (cur.toList.take off++(CS++cur.toList.drop (off+CS.length))).toArray[q]?=if i+1≤q∧q<n+1 then CS[q-(i+1)]? else cur[q]?:=by
 have ht:(cur.toList.take off).length=off:=by simp;omega
 rw[List.getElem?_toArray]
 by_cases hin:i<n
 ·have ho':=ho hin
  by_cases h1:q<off
  ·rw[List.getElem?_append_left (by omega),List.getElem?_take_of_lt h1,if_neg (by omega)];simp
  ·rw[List.getElem?_append_right (by omega),ht]
   by_cases h2:q<n+1
   ·rw[List.getElem?_append_left (by omega),if_pos ⟨by omega,h2⟩,ho']
   ·rw[List.getElem?_append_right (by omega),List.getElem?_drop,if_neg (by omega)];simp only[Array.getElem?_toList]
    congr 1;omega
 ·have h0:CS=[]:=List.eq_nil_of_length_eq_zero (by omega);subst h0;rw[if_neg (by omega)];simp
section
variable {w w':World} {v:Value} {l:List Nat}
theorem lZ(h:av w v l)(hn:l.length≤1000) :
 Calls Tryz.prog 45 #[v] w fun r w'=>∃u,r=.returned u∧bO w.heap.size w' u (Bd.f_ l)∧Below w.heap.size w w':=by
 obtain⟨F,HF⟩:=aJ (fun(r:Ending)(w':World)=>∃u,r=.returned u∧bO w.heap.size w' u (Bd.f_ l)∧Below w.heap.size w w');rw[←HF.out];obtain⟨p,c,hv,hrw⟩:=h.form;obtain⟨m,hm⟩:∃m,m=l.length:=⟨_,rfl⟩;rw[←hm]at hv hrw hn;subst hv;have hmk:=mk0 m (by omega);obtain⟨W0,hW0⟩:∃W0,W0=w.alloc (.cells (madeCells #[.int .i64 0] m) 3):=⟨_,rfl⟩;have hb0:Below w.heap.size w W0:=by rw[hW0];exact(Below.refl _ _).alloc (Nat.le_refl _) _
 have hr0:Rw W0 3 1 0 m w.heap.size (fun i=>[.int .i64 (([]:List Nat).getD i 0:Nat)]):=by
  rw[hW0];exact⟨⟨_,heap_alloc_new _ _,by simp[madeCells],fun i hi=>by omega⟩,Nat.zero_le _⟩
 have HR:=Lib.hid hrw;have HM:=Lib.hid hm;have lU:=Lib.hid (And.intro hb0 hr0);clear h hrw hm hb0 hr0;go_in;go_wp2_with fail;rw[←hW0];clear hW0
 go_loopg [3,5,6,12,13,14,15,16,17,18,19,20,21,22,23,24,25,26,27,28,29,30,31,32,33,34,35,36,37,38,39,40,41,42,43,44,45,46,47,48,49,50,51,52,53,54,55,56,57] m (fun q v3 v5 v6 v12 v13 v14 v15 v16 v17 v18 v19 v20 v21 v22 v23 v24 v25 v26 v27 v28 v29 v30 v31 v32 v33 v34 v35 v36 v37 v38 v39 v40 v41 v42 v43 v44 v45 v46 v47 v48 v49 v50 v51 v52 v53 v54 v55 v56 v57 wr=>∃j g n cap:Nat,q=m-j∧j≤m∧v12=.int .i64 (j:Nat)∧v3=.slice (some ⟨g,0,none⟩) n cap∧n=(Bd.f_ (l.take j)).length∧w.heap.size≤g∧Rw wr 3 1 n cap g (fun i=>[.int .i64 ((Bd.f_ (l.take j)).getD i 0:Nat)])∧Below w.heap.size w wr)
 case atStart=>exact⟨0,w.heap.size,0,m,rfl,Nat.zero_le _,rfl,rfl,by rfl,Nat.le_refl _,lU.out.2,lU.out.1⟩
 case round=>
  obtain⟨j,g,n,cap,rfl,hj,rfl,rfl,hnn,hg,hro,hb⟩:=hrel
  by_cases hlt:j<m
  ·have hji:(j:Int)<(m:Int):=by omega
   obtain⟨g0,hpp,hrw⟩:=HR.out (by omega);subst hpp;obtain⟨a,ha⟩:∃a,a=l.getD j 0:=⟨_,rfl⟩;have hjl:j<l.length:=by rw[←HM.out];exact hlt
   have haj:l[j]?=some a:=by rw[ha,List.getD_eq_getElem?_getD,List.getElem?_eq_getElem hjl];rfl
   have z0:wr.cell? ⟨g0,j,none⟩=some (.int .i64 (a:Nat)):=by
    have:=(hrw.kept (hb.block g0 hrw.lt)).cell (i:=j) (j:=0) hlt (by omega);simp only[Nat.mul_one,Nat.add_zero,List.getElem?_cons_zero]at this;rw[this,ha]
   obtain⟨L,hL⟩:∃L,L=Bd.f_ (l.take j):=⟨_,rfl⟩;rw[←hL]at hnn hro
   have hcell:∀i,i<n→wr.cell? ⟨g,i,none⟩=some (.int .i64 (L.getD i 0:Nat)):=fun i hi=>by
    have:=hro.cell (i:=i) (j:=0) hi (by omega)
    simpa only[Nat.mul_one,Nat.add_zero,List.getElem?_cons_zero]using this
   have hnj:n≤j:=by
    have:=Bd.zT (l.take j);rw[←hL,List.length_take]at this;omega
   have HX:=Lib.hid (And.intro haj (And.intro hL (And.intro hnn (And.intro hg (And.intro hro hb)))));have lH:=Lib.hid hcell;clear hrw ha haj hjl hL hnn hg hro hb hcell;go_wp2_with fail
   go_loopg [6,18,19,20,21,22,23,24,25,26,27,28,29,30] n (fun q v6 v18 v19 v20 v21 v22 v23 v24 v25 v26 v27 v28 v29 v30 wq=>∃i:Nat,q=0+i∧i≤n∧v6=.int .i64 (i:Nat)∧Bd.scan L a i=Bd.scan L a n∧wq=wr)
   case atStart=>exact⟨n,(Nat.zero_add n).symm,Nat.le_refl _,rfl,rfl,rfl⟩
   case round=>
    obtain⟨i,rfl,hin,rfl,hsc,rfl⟩:=hrel;have HSC:=Lib.hid hsc;clear hsc
    by_cases hgo:0<i∧a<L.getD (i-1) 0
    ·obtain⟨i1,rfl⟩:∃i1,i=i1+1:=⟨i-1,by omega⟩;have hgt:a<L.getD i1 0:=by simpa using hgo.2
     obtain⟨x,hx⟩:∃x,x=L.getD i1 0:=⟨_,rfl⟩;rw[←hx]at hgt;have zi:wr.cell? ⟨g,i1,none⟩=some (.int .i64 (x:Nat)):=by rw[hx];exact lH.out i1 (by omega)
     have hxi:(a:Int)<(x:Int):=by omega
     have hsub:IntKind.i64.wrap (((i1+1:Nat):Int)-1)=(i1:Int):=(IntWalk.i64_in _ (by omega)).trans (by omega);have hsub2:IntKind.i64.wrap ((i1:Int)+1-1)=(i1:Int):=(IntWalk.i64_in _ (by omega)).trans (by omega);have hpos:(0:Int)<(i1:Int)+1:=by omega
     have qQ:=Lib.hid (And.intro hx hgt);clear hgo hx;go_wp2_with fail
     go_roundg (0+i1)
     case rel=>
      refine⟨i1,rfl,by omega,rfl,?_,rfl⟩;rw[←HSC.out];show _=(if a<L.getD i1 0 then Bd.scan L a i1 else i1+1);rw[←qQ.out.1,if_pos qQ.out.2]
     case measure=>omega
    ·have hfin:Bd.scan L a n=i:=by
      rw[←HSC.out]
      cases i with
      |zero=>rfl
      |succ k=>
       show(if a<L.getD k 0 then Bd.scan L a k else k+1)=k+1;rw[if_neg (fun h=>hgo ⟨by omega,by simpa using h⟩)]
     have SH:=Lib.hid hfin;clear hfin
     by_cases hi0:i=0
     ·have hp0:¬(0:Int)<(i:Int):=by omega
      have hpn:¬0<i:=by omega
      have hp1:decide ((0:Int)<(i:Int))=false:=decide_eq_false hp0;have HI0:=Lib.hid hi0;clear hi0 hgo;have hS0:∀o,Sl (wr.alloc o) 3 1 (.slice (some ⟨g,0,none⟩) n cap) n (fun i=>[.int .i64 (L.getD i 0:Nat)]):=fun o=>.inr ⟨g,cap,rfl,HX.out.2.2.2.2.1.kept (heap_alloc_old _ _ _ HX.out.2.2.2.2.1.lt)⟩;have HS:=Lib.hid hS0;clear hS0
      go_wp2_with (at_builtin;refine aA _ rfl _ _ _ rfl jq rfl (HS.out _) rfl (aL (by simp)) rfl (by simp[Value.oneCell']) (by omega) ?_;intro g2 c2 w2 hq2;have HQ:=Lib.hid hq2;clear hq2)
      obtain⟨⟨cur,hcb,hcs,hce⟩,hle⟩:=HQ.out.row;have hin2:i+1≤n+1:=by omega
      have hw1:IntKind.i64.wrap ((i:Int)+1)=(i:Int)+1:=IntWalk.i64_in _ (by omega);have lI:=Lib.hid (And.intro hcb (And.intro hcs hce));clear hcb hcs hce
      have hb2:Below w.heap.size w w2.drew:=by
       obtain⟨haj,hL,hnn,hg,hro,hb⟩:=HX.out;refine(((hb.alloc hb.size _).trans (HQ.out.only.below (fun q e=>?_) (by have:=hb.size;simp;omega)))).drew;have e:some g=some q:=e
       injection e with e;omega
      have hg2:w.heap.size≤g2:=by
       obtain⟨haj,hL,hnn,hg,hro,hb⟩:=HX.out
       rcases HQ.out.at' with e|e
       ·have e:some g=some g2:=e
        injection e with e;omega
       ·have:=hb.size;simp at e;omega
      obtain⟨CS,hCS⟩:∃CS,CS=(List.range (n-i)).map (fun q=>Value.int .i64 (L.getD (i+q) 0:Nat)):=⟨_,rfl⟩;have hcl:CS.length=n-i:=by rw[hCS];simp
      have hlen:CS.length=Nat.min (n+1-i) (n-i):=by rw[hcl];exact(Nat.min_eq_right (by omega)).symm
      have hcq:∀q,q<n→cur[q]?=some (.int .i64 (L.getD q 0:Nat)):=fun q hq=>by
       have:=lI.out.2.2 q (by omega) 0 (by omega);simp only[Nat.mul_one,Nat.add_zero,if_neg (show ¬q=n from by omega),List.getElem?_cons_zero]at this;exact this
      have hcn:cur[n]?=some (.int .i64 0):=by
       have:=lI.out.2.2 n (by omega) 0 (by omega)
       simpa using this
      have hca:∀q v,CS[q]?=some v→q<n-i∧v=.int .i64 (L.getD (i+q) 0:Nat):=fun q v hq=>by
       have hlt:q<n-i:=by rw[←hcl];exact(List.getElem?_eq_some_iff.1 hq).1
       rw[hCS,List.getElem?_map,List.getElem?_range hlt]at hq;exact⟨hlt,(Option.some.inj hq).symm⟩
      have hcs:∀q v,CS[q]?=some v→w2.drew.cell? ((⟨g2,i,none⟩:Addr).add q)=some v:=fun q v hq=>by
       obtain⟨h1,rfl⟩:=hca q v hq;rw[Addr.add_lit];show w2.cell? _=_;simp only[World.cell?];rw[lI.out.1];exact hcq (i+q) (by omega)
      have h1c:∀v∈CS,v.oneCell'=true:=fun v hv=>by
       rw[hCS]at hv;obtain⟨q,-,rfl⟩:=List.mem_map.1 hv;rfl
      have hsz2:c2≤cur.size:=by have:=lI.out.2.1;omega
      have mq:w2.drew.heap[g2]?=some (.cells cur 3 (0,0)):=lI.out.1;have hnot:¬(0<i∧L.getD (i-1) 0=a):=fun h=>by have:=HI0.out;omega
      have tail:∀off W4,off+CS.length≤cur.size→(i<n→off=i+1)→W4=w2.drew.setRow g2 (cur.toList.take off++(CS++cur.toList.drop (off+CS.length))).toArray→W4.heap[g2]?=some (.cells (cur.toList.take off++(CS++cur.toList.drop (off+CS.length))).toArray 3 (0,0))∧(∃x:Value,W4.cell? ⟨g2,i,none⟩=some (.int .i64 x.cells.size)∨True)∧Bd.f_ (l.take (j+1))=Bd.ins L a∧(Bd.ins L a).length=n+1∧Rw (W4.setCell ⟨g2,i,none⟩ (.int .i64 (a:Nat))) 3 1 (n+1) c2 g2 (fun q=>[.int .i64 ((Bd.ins L a).getD q 0:Nat)])∧Below w.heap.size w (W4.setCell ⟨g2,i,none⟩ (.int .i64 (a:Nat))):=by
       intro off W4 hfit ho kW;obtain⟨haj,hL,hnn,hg,hro,hb⟩:=HX.out;have hrow:(w2.drew.setRow g2 (cur.toList.take off++(CS++cur.toList.drop (off+CS.length))).toArray).heap[g2]?=some (.cells (cur.toList.take off++(CS++cur.toList.drop (off+CS.length))).toArray 3 (0,0)):=setRow_heap w2.drew g2 _ _ _ _ mq;rw[←kW]at hrow;have hsc:Bd.scan L a L.length=i:=by rw[←hnn];exact SH.out
       have hil:=(rA (q:=0) hsc hnot).1;rw[←hnn]at hil
       have hsize:(cur.toList.take off++(CS++cur.toList.drop (off+CS.length))).toArray.size=cur.size:=by
        simp;omega
       refine⟨hrow,⟨.int .i64 0,.inr trivial⟩,by rw[Bd.vK haj,hL],hil,⟨⟨_,aH hrow _,by simp only[Array.size_setIfInBounds];rw[hsize];omega,fun q hq k hk=>?_⟩,HQ.out.row.le⟩,?_⟩
       ·obtain rfl:k=0:=by omega
        simp only[Nat.mul_one,Nat.add_zero,List.getElem?_cons_zero];rw[(rA (q:=q) hsc hnot).2]
        by_cases hqi:q=i
        ·subst hqi;rw[if_pos rfl,Array.getElem?_setIfInBounds_self_of_lt (by rw[hsize];omega)]
        ·rw[if_neg hqi,Array.getElem?_setIfInBounds_ne (by omega),je hcl hfit ho]
         by_cases h2:i<q
         ·rw[if_pos ⟨by omega,hq⟩,if_pos h2,hCS,List.getElem?_map,List.getElem?_range (by omega)];show some (Value.int .i64 (L.getD (i+(q-(i+1))) 0:Nat))=_;rw[show i+(q-(i+1))=q-1 from by omega]
         ·rw[if_neg (by omega),if_neg h2,hcq q (by omega)]
       ·rw[kW];exact(below_setRow hb2 hg2 _).setCell hg2 _
      have Yx:=Lib.hid tail;have HG2:=Lib.hid (And.intro hg2 hcl);have Yy:=Lib.hid (And.intro hcq (And.intro hcn (And.intro hcs (And.intro h1c (And.intro mq (And.intro hlen (And.intro hsz2 hcl)))))));clear tail hcq hcn hca hcs h1c mq hlen hsz2 hb2 hg2 hCS hnot hcl
      by_cases hfull:i+1=c2
      ·have f1:∀W,(Instr.slice 22 (.slice (some ⟨g2,0,none⟩) (n+1) c2) (some (.int .i64 ((i:Int)+1))) none none).run Tryz.prog W=.ok (.slice (some ⟨g2,0,none⟩) (n-i) 0) W:=fun W=>by
        have:=IE W g2 (n+1) c2 (i+1) hin2 hfull.symm;rw[show n+1-(i+1)=n-i from by omega]at this;exact this
       have f2:∀W,(Instr.slice 22 (.slice (some ⟨g2,0,none⟩) (n+1) c2) (some (.int .i64 (i:Int))) none none).run Tryz.prog W=.ok (.slice (some ⟨g2,i,none⟩) (n+1-i) (c2-i)) W:=fun W=>oJ W g2 (n+1) c2 i (by omega) (by omega);have Qj:=Lib.hid hfull;clear hfull;refine aM 7 (by kernel_rfl) (by kernel_rfl) ?_;simp only[List.take_succ_cons,List.take_zero,List.drop_succ_cons,List.drop_zero]
       still_step
       still_step
       still_step
       still_step
       still_step
       still_step
       still_step
       refine wpStill_nil ?_;obtain⟨hcq,hcn,hcs,h1c,mq,hlen,hsz2,hcl⟩:=Yy.out;have hg2:=HG2.out.1;obtain⟨W4,kW⟩:∃W4,W4=w2.drew.setRow g2 (cur.toList.take 0++(CS++cur.toList.drop (0+CS.length))).toArray:=⟨_,rfl⟩;obtain⟨q1,-,q3,q4,q5,q6⟩:=Yx.out 0 W4 (by rw[HG2.out.2];omega) (fun h=>by have:=Qj.out;omega) kW
       have c4:∃x:Int,W4.cell? ⟨g2,i,none⟩=some (.int .i64 x):=by
        by_cases FY:i<n
        ·refine⟨(L.getD i 0:Nat),?_⟩;simp only[World.cell?];rw[q1];show(_:Array Value)[i]?=_;rw[je hcl (by rw[HG2.out.2];omega) (fun h=>by have:=Qj.out;omega),if_neg (by omega)];exact hcq i FY
        ·refine⟨0,?_⟩;simp only[World.cell?];rw[q1];show(_:Array Value)[i]?=_;rw[je hcl (by rw[HG2.out.2];omega) (fun h=>by have:=Qj.out;omega),if_neg (by omega),show i=n from by omega];exact hcn
       obtain⟨x4,y4⟩:=c4;have f4:∀o,W4.frozen? ⟨g2,o,none⟩=false:=jv q1;have l4:=aV q1;have HE:=Lib.hid (And.intro q3 (And.intro q4 (And.intro q5 (And.intro q6 hg2))));refine wpList_copy_own rfl (.tmp 48) (.tmp 51) 22 22 rfl 3 Tryz.underlying22 (by kernel_rfl) g2 0 (n-i) (0) ⟨g2,i,none⟩ (n+1-i) (c2-i) rfl rfl cur 3 mq CS hlen hcs (by rw[HG2.out.2];omega) h1c ?_;rw[←kW];clear hcq hcn hcs h1c mq hlen kW q1 q3 q4 q5 q6 hsz2 hcl hg2;go_wp2_with fail
       go_roundg (m-(j+1))
       case rel=>
        obtain⟨q3,q4,q5,q6,hg2⟩:=HE.out;exact⟨j+1,g2,n+1,c2,rfl,by omega,by go_num,rfl,by rw[q3,q4],hg2,by rw[q3];exact q5,q6⟩
       case measure=>omega
      ·have hlt2:i+1<c2:=by omega
       have f1:∀W,(Instr.slice 22 (.slice (some ⟨g2,0,none⟩) (n+1) c2) (some (.int .i64 ((i:Int)+1))) none none).run Tryz.prog W=.ok (.slice (some ⟨g2,i+1,none⟩) (n-i) (c2-(i+1))) W:=fun W=>by
        have:=oJ W g2 (n+1) c2 (i+1) hin2 hlt2;rw[show n+1-(i+1)=n-i from by omega]at this;exact this
       have f2:∀W,(Instr.slice 22 (.slice (some ⟨g2,0,none⟩) (n+1) c2) (some (.int .i64 (i:Int))) none none).run Tryz.prog W=.ok (.slice (some ⟨g2,i,none⟩) (n+1-i) (c2-i)) W:=fun W=>oJ W g2 (n+1) c2 i (by omega) (by omega);refine aM 7 (by kernel_rfl) (by kernel_rfl) ?_;simp only[List.take_succ_cons,List.take_zero,List.drop_succ_cons,List.drop_zero]
       still_step
       still_step
       still_step
       still_step
       still_step
       still_step
       still_step
       refine wpStill_nil ?_;obtain⟨hcq,hcn,hcs,h1c,mq,hlen,hsz2,hcl⟩:=Yy.out;have hg2:=HG2.out.1;obtain⟨W4,kW⟩:∃W4,W4=w2.drew.setRow g2 (cur.toList.take (i+1)++(CS++cur.toList.drop ((i+1)+CS.length))).toArray:=⟨_,rfl⟩;obtain⟨q1,-,q3,q4,q5,q6⟩:=Yx.out (i+1) W4 (by rw[HG2.out.2];omega) (fun _=>rfl) kW
       have c4:∃x:Int,W4.cell? ⟨g2,i,none⟩=some (.int .i64 x):=by
        by_cases FY:i<n
        ·refine⟨(L.getD i 0:Nat),?_⟩;simp only[World.cell?];rw[q1];show(_:Array Value)[i]?=_;rw[je hcl (by rw[HG2.out.2];omega) (fun _=>rfl),if_neg (by omega)];exact hcq i FY
        ·refine⟨0,?_⟩;simp only[World.cell?];rw[q1];show(_:Array Value)[i]?=_;rw[je hcl (by rw[HG2.out.2];omega) (fun _=>rfl),if_neg (by omega),show i=n from by omega];exact hcn
       obtain⟨x4,y4⟩:=c4;have f4:∀o,W4.frozen? ⟨g2,o,none⟩=false:=jv q1;have l4:=aV q1;have HE:=Lib.hid (And.intro q3 (And.intro q4 (And.intro q5 (And.intro q6 hg2))));refine wpList_copy_own rfl (.tmp 48) (.tmp 51) 22 22 rfl 3 Tryz.underlying22 (by kernel_rfl) g2 (i+1) (n-i) (c2-(i+1)) ⟨g2,i,none⟩ (n+1-i) (c2-i) rfl rfl cur 3 mq CS hlen hcs (by rw[HG2.out.2];omega) h1c ?_;rw[←kW];clear hcq hcn hcs h1c mq hlen kW q1 q3 q4 q5 q6 hsz2 hcl hg2;go_wp2_with fail
       go_roundg (m-(j+1))
       case rel=>
        obtain⟨q3,q4,q5,q6,hg2⟩:=HE.out;exact⟨j+1,g2,n+1,c2,rfl,by omega,by go_num,rfl,by rw[q3,q4],hg2,by rw[q3];exact q5,q6⟩
       case measure=>omega
     ·obtain⟨k,hk⟩:∃k,i=k+1:=⟨i-1,by omega⟩;have hp0:(0:Int)<(i:Int):=by omega
      have hpn:0<i:=by omega
      have hp1:decide ((0:Int)<(i:Int))=true:=decide_eq_true hp0;have hsub:IntKind.i64.wrap ((i:Int)-1)=(k:Int):=(IntWalk.i64_in _ (by omega)).trans (by omega);obtain⟨x,hx⟩:∃x,x=L.getD k 0:=⟨_,rfl⟩;have zi:wr.cell? ⟨g,k,none⟩=some (.int .i64 (x:Nat)):=by rw[hx];exact lH.out k (by omega)
      have hkn:k<n:=by omega
      have hxa:¬(a:Int)<(x:Int):=fun h=>hgo ⟨by omega,by rw[hk];simp only[Nat.add_sub_cancel];rw[←hx];omega⟩;have HK:=Lib.hid (And.intro hk hx);clear hi0 hgo hk hx
      by_cases hxe:x=a
      ·subst hxe;go_wp2_with fail
       go_roundg (m-(j+1))
       case rel=>
        obtain⟨haj,hL,hnn,hg,hro,hb⟩:=HX.out
        have e:Bd.f_ (l.take (j+1))=L:=by
         rw[Bd.vK haj,←hL];show(if 0<Bd.scan L x L.length∧L.getD (Bd.scan L x L.length-1) 0=x then L else _)=L;rw[←hnn,SH.out,if_pos ⟨by omega,by rw[HK.out.1,Nat.add_sub_cancel];exact HK.out.2.symm⟩]
        exact⟨j+1,g,n,cap,rfl,by omega,by go_num,rfl,by rw[e];exact hnn,hg,by rw[e];exact hro,hb⟩
       case measure=>omega
      ·have hxe2:¬(x:Int)=(a:Int):=by omega
       have hS0:∀o,Sl (wr.alloc o) 3 1 (.slice (some ⟨g,0,none⟩) n cap) n (fun i=>[.int .i64 (L.getD i 0:Nat)]):=fun o=>.inr ⟨g,cap,rfl,HX.out.2.2.2.2.1.kept (heap_alloc_old _ _ _ HX.out.2.2.2.2.1.lt)⟩;have HS:=Lib.hid hS0;clear hS0
       go_wp2_with (at_builtin;refine aA _ rfl _ _ _ rfl jq rfl (HS.out _) rfl (aL (by simp)) rfl (by simp[Value.oneCell']) (by omega) ?_;intro g2 c2 w2 hq2;have HQ:=Lib.hid hq2;clear hq2)
       obtain⟨⟨cur,hcb,hcs,hce⟩,hle⟩:=HQ.out.row;have hin2:i+1≤n+1:=by omega
       have hw1:IntKind.i64.wrap ((i:Int)+1)=(i:Int)+1:=IntWalk.i64_in _ (by omega);have lI:=Lib.hid (And.intro hcb (And.intro hcs hce));clear hcb hcs hce
       have hb2:Below w.heap.size w w2.drew:=by
        obtain⟨haj,hL,hnn,hg,hro,hb⟩:=HX.out;refine(((hb.alloc hb.size _).trans (HQ.out.only.below (fun q e=>?_) (by have:=hb.size;simp;omega)))).drew;have e:some g=some q:=e
        injection e with e;omega
       have hg2:w.heap.size≤g2:=by
        obtain⟨haj,hL,hnn,hg,hro,hb⟩:=HX.out
        rcases HQ.out.at' with e|e
        ·have e:some g=some g2:=e
         injection e with e;omega
        ·have:=hb.size;simp at e;omega
       obtain⟨CS,hCS⟩:∃CS,CS=(List.range (n-i)).map (fun q=>Value.int .i64 (L.getD (i+q) 0:Nat)):=⟨_,rfl⟩;have hcl:CS.length=n-i:=by rw[hCS];simp
       have hlen:CS.length=Nat.min (n+1-i) (n-i):=by rw[hcl];exact(Nat.min_eq_right (by omega)).symm
       have hcq:∀q,q<n→cur[q]?=some (.int .i64 (L.getD q 0:Nat)):=fun q hq=>by
        have:=lI.out.2.2 q (by omega) 0 (by omega);simp only[Nat.mul_one,Nat.add_zero,if_neg (show ¬q=n from by omega),List.getElem?_cons_zero]at this;exact this
       have hcn:cur[n]?=some (.int .i64 0):=by
        have:=lI.out.2.2 n (by omega) 0 (by omega)
        simpa using this
       have hca:∀q v,CS[q]?=some v→q<n-i∧v=.int .i64 (L.getD (i+q) 0:Nat):=fun q v hq=>by
        have hlt:q<n-i:=by rw[←hcl];exact(List.getElem?_eq_some_iff.1 hq).1
        rw[hCS,List.getElem?_map,List.getElem?_range hlt]at hq;exact⟨hlt,(Option.some.inj hq).symm⟩
       have hcs:∀q v,CS[q]?=some v→w2.drew.cell? ((⟨g2,i,none⟩:Addr).add q)=some v:=fun q v hq=>by
        obtain⟨h1,rfl⟩:=hca q v hq;rw[Addr.add_lit];show w2.cell? _=_;simp only[World.cell?];rw[lI.out.1];exact hcq (i+q) (by omega)
       have h1c:∀v∈CS,v.oneCell'=true:=fun v hv=>by
        rw[hCS]at hv;obtain⟨q,-,rfl⟩:=List.mem_map.1 hv;rfl
       have hsz2:c2≤cur.size:=by have:=lI.out.2.1;omega
       have mq:w2.drew.heap[g2]?=some (.cells cur 3 (0,0)):=lI.out.1;have hnot:¬(0<i∧L.getD (i-1) 0=a):=fun h=>hxe (by have h2:=h.2;rw[HK.out.1,Nat.add_sub_cancel,←HK.out.2]at h2;exact h2)
       have tail:∀off W4,off+CS.length≤cur.size→(i<n→off=i+1)→W4=w2.drew.setRow g2 (cur.toList.take off++(CS++cur.toList.drop (off+CS.length))).toArray→W4.heap[g2]?=some (.cells (cur.toList.take off++(CS++cur.toList.drop (off+CS.length))).toArray 3 (0,0))∧(∃x:Value,W4.cell? ⟨g2,i,none⟩=some (.int .i64 x.cells.size)∨True)∧Bd.f_ (l.take (j+1))=Bd.ins L a∧(Bd.ins L a).length=n+1∧Rw (W4.setCell ⟨g2,i,none⟩ (.int .i64 (a:Nat))) 3 1 (n+1) c2 g2 (fun q=>[.int .i64 ((Bd.ins L a).getD q 0:Nat)])∧Below w.heap.size w (W4.setCell ⟨g2,i,none⟩ (.int .i64 (a:Nat))):=by
        intro off W4 hfit ho kW;obtain⟨haj,hL,hnn,hg,hro,hb⟩:=HX.out;have hrow:(w2.drew.setRow g2 (cur.toList.take off++(CS++cur.toList.drop (off+CS.length))).toArray).heap[g2]?=some (.cells (cur.toList.take off++(CS++cur.toList.drop (off+CS.length))).toArray 3 (0,0)):=setRow_heap w2.drew g2 _ _ _ _ mq;rw[←kW]at hrow;have hsc:Bd.scan L a L.length=i:=by rw[←hnn];exact SH.out
        have hil:=(rA (q:=0) hsc hnot).1;rw[←hnn]at hil
        have hsize:(cur.toList.take off++(CS++cur.toList.drop (off+CS.length))).toArray.size=cur.size:=by
         simp;omega
        refine⟨hrow,⟨.int .i64 0,.inr trivial⟩,by rw[Bd.vK haj,hL],hil,⟨⟨_,aH hrow _,by simp only[Array.size_setIfInBounds];rw[hsize];omega,fun q hq k hk=>?_⟩,HQ.out.row.le⟩,?_⟩
        ·obtain rfl:k=0:=by omega
         simp only[Nat.mul_one,Nat.add_zero,List.getElem?_cons_zero];rw[(rA (q:=q) hsc hnot).2]
         by_cases hqi:q=i
         ·subst hqi;rw[if_pos rfl,Array.getElem?_setIfInBounds_self_of_lt (by rw[hsize];omega)]
         ·rw[if_neg hqi,Array.getElem?_setIfInBounds_ne (by omega),je hcl hfit ho]
          by_cases h2:i<q
          ·rw[if_pos ⟨by omega,hq⟩,if_pos h2,hCS,List.getElem?_map,List.getElem?_range (by omega)];show some (Value.int .i64 (L.getD (i+(q-(i+1))) 0:Nat))=_;rw[show i+(q-(i+1))=q-1 from by omega]
          ·rw[if_neg (by omega),if_neg h2,hcq q (by omega)]
        ·rw[kW];exact(below_setRow hb2 hg2 _).setCell hg2 _
       have Yx:=Lib.hid tail;have HG2:=Lib.hid (And.intro hg2 hcl);have Yy:=Lib.hid (And.intro hcq (And.intro hcn (And.intro hcs (And.intro h1c (And.intro mq (And.intro hlen (And.intro hsz2 hcl)))))));clear tail hcq hcn hca hcs h1c mq hlen hsz2 hb2 hg2 hCS hnot hcl
       by_cases hfull:i+1=c2
       ·have f1:∀W,(Instr.slice 22 (.slice (some ⟨g2,0,none⟩) (n+1) c2) (some (.int .i64 ((i:Int)+1))) none none).run Tryz.prog W=.ok (.slice (some ⟨g2,0,none⟩) (n-i) 0) W:=fun W=>by
         have:=IE W g2 (n+1) c2 (i+1) hin2 hfull.symm;rw[show n+1-(i+1)=n-i from by omega]at this;exact this
        have f2:∀W,(Instr.slice 22 (.slice (some ⟨g2,0,none⟩) (n+1) c2) (some (.int .i64 (i:Int))) none none).run Tryz.prog W=.ok (.slice (some ⟨g2,i,none⟩) (n+1-i) (c2-i)) W:=fun W=>oJ W g2 (n+1) c2 i (by omega) (by omega);have Qj:=Lib.hid hfull;clear hfull;refine aM 7 (by kernel_rfl) (by kernel_rfl) ?_;simp only[List.take_succ_cons,List.take_zero,List.drop_succ_cons,List.drop_zero]
        still_step
        still_step
        still_step
        still_step
        still_step
        still_step
        still_step
        refine wpStill_nil ?_;obtain⟨hcq,hcn,hcs,h1c,mq,hlen,hsz2,hcl⟩:=Yy.out;have hg2:=HG2.out.1;obtain⟨W4,kW⟩:∃W4,W4=w2.drew.setRow g2 (cur.toList.take 0++(CS++cur.toList.drop (0+CS.length))).toArray:=⟨_,rfl⟩;obtain⟨q1,-,q3,q4,q5,q6⟩:=Yx.out 0 W4 (by rw[HG2.out.2];omega) (fun h=>by have:=Qj.out;omega) kW
        have c4:∃x:Int,W4.cell? ⟨g2,i,none⟩=some (.int .i64 x):=by
         by_cases FY:i<n
         ·refine⟨(L.getD i 0:Nat),?_⟩;simp only[World.cell?];rw[q1];show(_:Array Value)[i]?=_;rw[je hcl (by rw[HG2.out.2];omega) (fun h=>by have:=Qj.out;omega),if_neg (by omega)];exact hcq i FY
         ·refine⟨0,?_⟩;simp only[World.cell?];rw[q1];show(_:Array Value)[i]?=_;rw[je hcl (by rw[HG2.out.2];omega) (fun h=>by have:=Qj.out;omega),if_neg (by omega),show i=n from by omega];exact hcn
        obtain⟨x4,y4⟩:=c4;have f4:∀o,W4.frozen? ⟨g2,o,none⟩=false:=jv q1;have l4:=aV q1;have HE:=Lib.hid (And.intro q3 (And.intro q4 (And.intro q5 (And.intro q6 hg2))));refine wpList_copy_own rfl (.tmp 48) (.tmp 51) 22 22 rfl 3 Tryz.underlying22 (by kernel_rfl) g2 0 (n-i) (0) ⟨g2,i,none⟩ (n+1-i) (c2-i) rfl rfl cur 3 mq CS hlen hcs (by rw[HG2.out.2];omega) h1c ?_;rw[←kW];clear hcq hcn hcs h1c mq hlen kW q1 q3 q4 q5 q6 hsz2 hcl hg2;go_wp2_with fail
        go_roundg (m-(j+1))
        case rel=>
         obtain⟨q3,q4,q5,q6,hg2⟩:=HE.out;exact⟨j+1,g2,n+1,c2,rfl,by omega,by go_num,rfl,by rw[q3,q4],hg2,by rw[q3];exact q5,q6⟩
        case measure=>omega
       ·have hlt2:i+1<c2:=by omega
        have f1:∀W,(Instr.slice 22 (.slice (some ⟨g2,0,none⟩) (n+1) c2) (some (.int .i64 ((i:Int)+1))) none none).run Tryz.prog W=.ok (.slice (some ⟨g2,i+1,none⟩) (n-i) (c2-(i+1))) W:=fun W=>by
         have:=oJ W g2 (n+1) c2 (i+1) hin2 hlt2;rw[show n+1-(i+1)=n-i from by omega]at this;exact this
        have f2:∀W,(Instr.slice 22 (.slice (some ⟨g2,0,none⟩) (n+1) c2) (some (.int .i64 (i:Int))) none none).run Tryz.prog W=.ok (.slice (some ⟨g2,i,none⟩) (n+1-i) (c2-i)) W:=fun W=>oJ W g2 (n+1) c2 i (by omega) (by omega);refine aM 7 (by kernel_rfl) (by kernel_rfl) ?_;simp only[List.take_succ_cons,List.take_zero,List.drop_succ_cons,List.drop_zero]
        still_step
        still_step
        still_step
        still_step
        still_step
        still_step
        still_step
        refine wpStill_nil ?_;obtain⟨hcq,hcn,hcs,h1c,mq,hlen,hsz2,hcl⟩:=Yy.out;have hg2:=HG2.out.1;obtain⟨W4,kW⟩:∃W4,W4=w2.drew.setRow g2 (cur.toList.take (i+1)++(CS++cur.toList.drop ((i+1)+CS.length))).toArray:=⟨_,rfl⟩;obtain⟨q1,-,q3,q4,q5,q6⟩:=Yx.out (i+1) W4 (by rw[HG2.out.2];omega) (fun _=>rfl) kW
        have c4:∃x:Int,W4.cell? ⟨g2,i,none⟩=some (.int .i64 x):=by
         by_cases FY:i<n
         ·refine⟨(L.getD i 0:Nat),?_⟩;simp only[World.cell?];rw[q1];show(_:Array Value)[i]?=_;rw[je hcl (by rw[HG2.out.2];omega) (fun _=>rfl),if_neg (by omega)];exact hcq i FY
         ·refine⟨0,?_⟩;simp only[World.cell?];rw[q1];show(_:Array Value)[i]?=_;rw[je hcl (by rw[HG2.out.2];omega) (fun _=>rfl),if_neg (by omega),show i=n from by omega];exact hcn
        obtain⟨x4,y4⟩:=c4;have f4:∀o,W4.frozen? ⟨g2,o,none⟩=false:=jv q1;have l4:=aV q1;have HE:=Lib.hid (And.intro q3 (And.intro q4 (And.intro q5 (And.intro q6 hg2))));refine wpList_copy_own rfl (.tmp 48) (.tmp 51) 22 22 rfl 3 Tryz.underlying22 (by kernel_rfl) g2 (i+1) (n-i) (c2-(i+1)) ⟨g2,i,none⟩ (n+1-i) (c2-i) rfl rfl cur 3 mq CS hlen hcs (by rw[HG2.out.2];omega) h1c ?_;rw[←kW];clear hcq hcn hcs h1c mq hlen kW q1 q3 q4 q5 q6 hsz2 hcl hg2;go_wp2_with fail
        go_roundg (m-(j+1))
        case rel=>
         obtain⟨q3,q4,q5,q6,hg2⟩:=HE.out;exact⟨j+1,g2,n+1,c2,rfl,by omega,by go_num,rfl,by rw[q3,q4],hg2,by rw[q3];exact q5,q6⟩
        case measure=>omega
  ·obtain rfl:j=m:=by omega
   have f1:∀W,(Instr.slice 22 (.slice (some ⟨g,0,none⟩) n cap) none (some (.int .i64 (n:Nat))) (some (.int .i64 (n:Nat)))).run Tryz.prog W=.ok (.slice (some ⟨g,0,none⟩) n n) W:=fun W=>U9 W g n cap hro.le;have HX:=Lib.hid (And.intro hnn (And.intro hg (And.intro hro hb)));clear hnn hg hro hb;go_wp2_with fail;rw[HF.out];obtain⟨hnn,hg,hro,hb⟩:=HX.out;have e:l.take j=l:=by rw[HM.out,List.take_length]
   rw[e]at hnn hro;refine⟨.slice (some ⟨g,0,none⟩) n n,rfl,⟨g,n,by rw[←hnn],hg,?_⟩,hb⟩;rw[←hnn];obtain⟨⟨cur,h1,h2,h3⟩,h4⟩:=hro;exact⟨⟨cur,h1,by omega,h3⟩,Nat.le_refl _⟩
end
end
section
section
variable {w w':World} {v u:Value} {l m:List Nat}
/-- The elements that are,or are not,in m. -/
def dU(l m:List Nat)(is:Bool):List Nat:=l.filter (fun x=>decide (x∈m)==is)
theorem yY(l m:List Nat)(is:Bool):(dU l m is).length≤l.length:=List.length_filter_le _ _
theorem F3{l m:List Nat}{is:Bool}{j x:Nat}(h:l[j]?=some x):dU (l.take (j+1)) m is=dU (l.take j) m is++(if (decide (x∈m)==is)=true then[x]else[]):=by
 unfold dU;rw[List.take_add_one,h,List.filter_append]
 congr 1
 simp only[Option.toList_some]
 split
 ·rename_i h1;exact List.filter_cons_of_pos h1
 ·rename_i h1;exact(List.filter_cons_of_neg h1)
theorem yZ(hl:av w v l)(hm:nN w u m)(hn:l.length≤1000)(hn2:m.length≤1000)(is:Bool) :
 Calls Tryz.prog 110 #[v,u,.bool is] w fun r w'=>∃o,r=.returned o∧bO w.heap.size w' o (Bd.f_ (dU l m is))∧Below w.heap.size w w':=by
 obtain⟨F,HF⟩:=aJ (fun(r:Ending)(w':World)=>∃o,r=.returned o∧bO w.heap.size w' o (Bd.f_ (dU l m is))∧Below w.heap.size w w');rw[←HF.out];obtain⟨p,c,hv,hrw⟩:=hl.form;obtain⟨N,hN⟩:∃N,N=l.length:=⟨_,rfl⟩;rw[←hN]at hv hrw hn;subst hv;obtain⟨pu,cu,hu,-⟩:=hm.form;obtain⟨nu,hnu⟩:∃nu,nu=m.length:=⟨_,rfl⟩;rw[←hnu]at hu hn2;subst hu;have HR:=Lib.hid hrw;have HN:=Lib.hid hN;have HM:=Lib.hid (And.intro hm hnu);clear hl hm hrw hN hnu;go_in;go_wp2_with fail
 go_loopg [7,9,12,13,14,15,16,17,18,19,20,21,22,23,24,25] N (fun q v7 v9 v12 v13 v14 v15 v16 v17 v18 v19 v20 v21 v22 v23 v24 v25 wr=>∃(j n:Nat)(po:Option Addr)(co:Nat),q=N-j∧j≤N∧v12=.int .i64 (j:Nat)∧v7=.slice po n co∧n=(dU (l.take j) m is).length∧Sl wr 3 1 (.slice po n co) n (fun i=>[.int .i64 ((dU (l.take j) m is).getD i 0:Nat)])∧(∀a,po=some a→w.heap.size≤a.block)∧Below w.heap.size w wr)
 case atStart=>exact⟨0,0,none,0,rfl,Nat.zero_le _,rfl,rfl,rfl,Sl.nil,(fun a h=>by cases h),Below.refl _ _⟩
 case round=>
  obtain⟨j,n,po,co,rfl,hj,rfl,rfl,hnn,hsl,hpo,hb⟩:=hrel;have hmu:=HM.out.1.below hb
  by_cases hlt:j<N
  ·have hji:(j:Int)<(N:Int):=by omega
   obtain⟨g0,hpp,hrw⟩:=HR.out (by omega);subst hpp;obtain⟨a,ha⟩:∃a,a=l.getD j 0:=⟨_,rfl⟩;have hjl:j<l.length:=by rw[←HN.out];exact hlt
   have haj:l[j]?=some a:=by rw[ha,List.getD_eq_getElem?_getD,List.getElem?_eq_getElem hjl];rfl
   have z0:wr.cell? ⟨g0,j,none⟩=some (.int .i64 (a:Nat)):=by
    have:=(hrw.kept (hb.block g0 hrw.lt)).cell (i:=j) (j:=0) hlt (by omega);simp only[Nat.mul_one,Nat.add_zero,List.getElem?_cons_zero]at this;rw[this,ha]
   have cH:=Oq hmu (by rw[←HM.out.2];omega) a;obtain⟨d,hd⟩:∃d,d=decide (a∈m):=⟨_,rfl⟩;have hnj:n≤j:=by have:=yY (l.take j) m is;rw[List.length_take]at this;omega
   have hkt:=F3 (m:=m) (is:=is) haj;rw[←hd]at cH hkt;have HX:=Lib.hid (And.intro hkt (And.intro hnn (And.intro hsl (And.intro hpo hb))));have HC:=Lib.hid cH;clear hrw ha haj hjl hnn hsl hpo hb cH hkt hd hmu
   by_cases hdi:d=is
   ·subst hdi;have hbq:(d==d)=true:=by simp
    have hS0:∀o,Sl (wr.alloc o) 3 1 (.slice po n co) n (fun i=>[.int .i64 ((dU (l.take j) m d).getD i 0:Nat)]):=fun o=>HX.out.2.2.1.kept (fun g n c e hg=>heap_alloc_old _ _ _ hg);have HS:=Lib.hid hS0;clear hS0
    go_wp2_with (first|(go_at_call 86;with_reducible refine(HC.out).mono ?_;rintro x w1 ⟨rfl,hw⟩;rw[hw];clear hw)|(at_builtin;refine aA _ rfl _ _ _ rfl jq rfl (HS.out _) rfl (aL (by simp)) rfl (by simp[Value.oneCell']) (by omega) ?_;intro g2 c2 w2 hq2;have HQ:=Lib.hid hq2;clear hq2))
    go_roundg (N-(j+1))
    case rel=>
     obtain⟨hkt,hnn,hsl,hpo,hb⟩:=HX.out;rw[if_pos (by simp)]at hkt;have hrow:=HQ.out.row
     have hg2:w.heap.size≤g2:=by
      rcases HQ.out.at' with e|e
      ·cases po with
       |none=>cases e
       |some a0=>
        have e:some a0.block=some g2:=e
        injection e with e
        rw[←e];exact hpo a0 rfl
      ·have:=hb.size;simp at e;omega
     have hb2:Below w.heap.size w w2:=(hb.alloc hb.size _).trans (HQ.out.only.below (fun q e=>by
      cases po with
      |none=>cases e
      |some a0=>
       have e:some a0.block=some q:=e
       injection e with e
       rw[←e];exact hpo a0 rfl) (by have:=hb.size;simp;omega))
     refine⟨j+1,n+1,some ⟨g2,0,none⟩,c2,rfl,by omega,by go_num,rfl,by rw[hkt,List.length_append,←hnn];rfl,.inr ⟨g2,c2,rfl,hrow.congr (fun i hi k hk=>?_)⟩,fun a0 h=>by injection h with h;rw[←h];exact hg2,hb2⟩;obtain rfl:k=0:=by omega
     rw[hkt]
     by_cases hin:i=n
     ·rw[if_pos hin,hin,hnn,List.getD_eq_getElem?_getD,List.getElem?_append_right (Nat.le_refl _)];simp
     ·rw[if_neg hin,List.getD_eq_getElem?_getD,List.getElem?_append_left (by omega),←List.getD_eq_getElem?_getD]
    case measure=>omega
   ·have hbq:(d==is)=false:=by simp[hdi]
    have HD:=Lib.hid hdi
    have hcases:(d=true∧is=false)∨(d=false∧is=true):=by
     cases d<;>cases is<;>simp_all
    clear hdi hbq
    rcases hcases with⟨rfl,rfl⟩|⟨rfl,rfl⟩
    all_goals
     go_wp2_with (go_at_call 86;with_reducible refine(HC.out).mono ?_;rintro x w1 ⟨rfl,hw⟩;rw[hw];clear hw)
     go_roundg (N-(j+1))
     case rel=>
      obtain⟨hkt,hnn,hsl,hpo,hb⟩:=HX.out;rw[if_neg (by simp),List.append_nil]at hkt;exact⟨j+1,n,po,co,rfl,by omega,by go_num,rfl,by rw[hkt];exact hnn,by rw[hkt];exact hsl,hpo,hb⟩
     case measure=>omega
  ·obtain rfl:j=N:=by omega
   have e:l.take j=l:=by rw[HN.out,List.take_length]
   rw[e]at hnn hsl;have hni:av wr (.slice po n co) (dU l m is):=by unfold av;rw[←hnn];exact hsl
   have cO:=lZ hni (by have:=yY l m is;rw[←HN.out]at this;omega);have HC:=Lib.hid cO;have HB:=Lib.hid hb;clear hnn hsl hpo hb hni cO hmu
   go_wp2_with (go_at_call 45;with_reducible refine(HC.out).mono ?_;rintro x w1 ⟨o,rfl,ho,hb1⟩;have HO:=Lib.hid (And.intro ho hb1);clear ho hb1)
   rw[HF.out];obtain⟨⟨g,cap,e1,e2,e3⟩,hb1⟩:=HO.out;exact⟨o,rfl,⟨g,cap,e1,Nat.le_trans HB.out.size e2,e3⟩,HB.out.trans (hb1.mono HB.out.size)⟩
end
end
section
section
variable {w w':World} {v u:Value} {l m:List Nat}
theorem sU(hl:av w v l)(hm:nN w u m)(hn:l.length≤1000)(hn2:m.length≤1000) :
 Calls Tryz.prog 47 #[v,u] w fun r w'=>∃o,r=.returned o∧bO w.heap.size w' o (Bd.f_ (dU l m true))∧Below w.heap.size w w':=by
 obtain⟨F,HF⟩:=aJ (fun(r:Ending)(w':World)=>∃o,r=.returned o∧bO w.heap.size w' o (Bd.f_ (dU l m true))∧Below w.heap.size w w');rw[←HF.out];have HC:=Lib.hid (yZ hl hm hn hn2 true);clear hl hm;go_in
 go_wp2_with (go_at_call 110;with_reducible refine(HC.out).mono ?_;rintro x w1 ⟨o,rfl,ho,hb1⟩;have HO:=Lib.hid (And.intro ho hb1);clear ho hb1)
 rw[HF.out];exact⟨o,rfl,HO.out.1,HO.out.2⟩
theorem oK(hl:av w v l)(hm:nN w u m)(hn:l.length≤1000)(hn2:m.length≤1000) :
 Calls Tryz.prog 46 #[v,u] w fun r w'=>∃o,r=.returned o∧bO w.heap.size w' o (Bd.f_ (dU l m false))∧Below w.heap.size w w':=by
 obtain⟨F,HF⟩:=aJ (fun(r:Ending)(w':World)=>∃o,r=.returned o∧bO w.heap.size w' o (Bd.f_ (dU l m false))∧Below w.heap.size w w');rw[←HF.out];have HC:=Lib.hid (yZ hl hm hn hn2 false);clear hl hm;go_in
 go_wp2_with (go_at_call 110;with_reducible refine(HC.out).mono ?_;rintro x w1 ⟨o,rfl,ho,hb1⟩;have HO:=Lib.hid (And.intro ho hb1);clear ho hb1)
 rw[HF.out];exact⟨o,rfl,HO.out.1,HO.out.2⟩
end
end
section
section
variable {w w':World} {v u:Value} {l m:List Nat}
theorem bO.ex{B:Nat}(h:bO B w v l):∃g cap,v=.slice (some ⟨g,0,none⟩) l.length cap∧B≤g∧Rw w 3 1 l.length cap g (fun i=>[.int .i64 (l.getD i 0:Nat)]):=h
theorem Ri{l:List Nat}:(Bd.f_ l).length=0↔l=[]:=by
 constructor
 ·intro h
  cases l with
  |nil=>rfl
  |cons a l=>
   have:=(Bd.dV (a::l) a).2 (List.mem_cons_self ..);rw[List.eq_nil_of_length_eq_zero h]at this;cases this
 ·rintro rfl;rfl
theorem KH{l m:List Nat}:(Bd.f_ (dU l m false)).length=0↔∀x∈l,x∈m:=by
 rw[Ri];unfold dU;rw[List.filter_eq_nil_iff]
 constructor
 ·intro h x hx;have:=h x hx
  simpa using this
 ·intro h x hx;have:=h x hx;simp[this]
theorem nP(hl:av w v l)(hm:av w u m)(hn:l.length≤1000)(hn2:m.length≤1000){b:Bool}(hb:b=true↔∀x∈l,x∈m) :
 Calls Tryz.prog 53 #[v,u] w fun r w'=>r=.returned (.bool b)∧Below w.heap.size w w':=by
 obtain⟨F,HF⟩:=aJ (fun(r:Ending)(w':World)=>r=.returned (.bool b)∧Below w.heap.size w w');rw[←HF.out];have HC:=Lib.hid (oK hl hm.o hn hn2);obtain⟨k,hk⟩:∃k,k=(Bd.f_ (dU l m false)).length:=⟨_,rfl⟩;have hkb:b=true↔k=0:=by rw[hb,hk,KH]
 have HK:=Lib.hid hk;clear hl hm hb hk
 cases b with
 |true=>
  have h0:k=0:=hkb.1 rfl;have HK0:=Lib.hid h0;clear hkb h0;go_in
  go_wp2_with (go_at_call 46;with_reducible refine(HC.out).mono ?_;rintro x w1 ⟨o,rfl,ho,hb1⟩;obtain⟨g,cap,rfl,hg,hr⟩:=ho.ex;rw[←HK.out,HK0.out];have HO:=Lib.hid hb1;clear ho hg hr hb1)
  rw[HF.out];exact⟨rfl,HO.out⟩
 |false=>
  have h0:¬k=0:=fun h=>by have:=hkb.2 h;cases this
  have h1:¬(k:Int)=0:=by omega
  have h2:((k:Int)==0)=false:=by simp;omega
  clear hkb;go_in
  go_wp2_with (go_at_call 46;with_reducible refine(HC.out).mono ?_;rintro x w1 ⟨o,rfl,ho,hb1⟩;obtain⟨g,cap,rfl,hg,hr⟩:=ho.ex;rw[←HK.out];have HO:=Lib.hid hb1;clear ho hg hr hb1)
  rw[HF.out]
  first|exact⟨rfl,HO.out⟩|(refine⟨?_,HO.out⟩;simp[h0])
end
end
section
section
variable {w w':World} {v u:Value} {l m:List Nat}
theorem KI(hl:av w v l)(hm:av w u m)(hn:l.length≤1000)(hn2:m.length≤1000){b:Bool}(hb:b=true↔∀x,x∈l↔x∈m) :
 Calls Tryz.prog 54 #[v,u] w fun r w'=>r=.returned (.bool b)∧Below w.heap.size w w':=by
 obtain⟨F,HF⟩:=aJ (fun(r:Ending)(w':World)=>r=.returned (.bool b)∧Below w.heap.size w w');rw[←HF.out];obtain⟨b1,h1⟩:∃b1:Bool,b1=decide (∀x∈l,x∈m):=⟨_,rfl⟩;obtain⟨b2,h2⟩:∃b2:Bool,b2=decide (∀x∈m,x∈l):=⟨_,rfl⟩;have e1:b1=true↔∀x∈l,x∈m:=by rw[h1,decide_eq_true_iff]
 have e2:b2=true↔∀x∈m,x∈l:=by rw[h2,decide_eq_true_iff]
 have hbb:b=(b1&&b2):=by
  rw[Bool.eq_iff_iff,hb,Bool.and_eq_true,e1,e2]
  constructor
  ·intro h;exact⟨fun x hx=>(h x).1 hx,fun x hx=>(h x).2 hx⟩
  ·rintro⟨h,g⟩ x;exact⟨h x,g x⟩
 have HC:=Lib.hid (nP hl hm hn hn2 e1);have um:=Lib.hid (fun(w1:World)(hb1:Below w.heap.size w w1)=>nP (hm.below hb1) (hl.below hb1) hn2 hn e2);subst hbb;clear hl hm hb h1 h2 e1 e2
 cases b1 with
 |true=>
  simp only[Bool.true_and]at HF;go_in;go_wp2_with fail;refine(HC.out).mono ?_;rintro x w1 ⟨rfl,hb1⟩;have HD:=Lib.hid (um.out w1 hb1);have HB:=Lib.hid hb1;clear hb1;go_wp2_with fail;refine(HD.out).mono ?_;rintro x w2 ⟨rfl,hb2⟩;have HB2:=Lib.hid hb2;clear hb2;go_wp2_with fail;rw[HF.out];exact⟨rfl,HB.out.trans (HB2.out.mono HB.out.size)⟩
 |false=>
  simp only[Bool.false_and]at HF;go_in;go_wp2_with fail;refine(HC.out).mono ?_;rintro x w1 ⟨rfl,hb1⟩;have HB:=Lib.hid hb1;clear hb1;go_wp2_with fail;rw[HF.out];exact⟨rfl,HB.out⟩
end
end
end Go.Proofs.YtpijlhlpejlhhaaGreat
