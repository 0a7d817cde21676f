/- Walks and plain words: PmA PmB PmC PmD StY RbA ExA ExB. -/
import Derived.Test.YtpijlhlpejlhhaaGreatVStI
import Derived.Laws.CopyOwn
import Derived.Test.YtpijlhlpejlhhaaGreatVPlG
import Derived.Test.YtpijlhlpejlhhaaGreatVRgT
import Derived.Test.YtpijlhlpejlhhaaGreatVBeK
namespace Go.Proofs.YtpijlhlpejlhhaaGreat
open Go.RowKit
set_option linter.unusedVariables false
set_option maxRecDepth 100000
set_option maxHeartbeats 8000000
/-- A list of n numbers,whichever. -/
def nM(w:World)(v:Value)(n:Nat):Prop:=∃(g cap:Nat)(f:Nat→Int),v=.slice (some ⟨g,0,none⟩) n cap∧Rw w 3 1 n cap g (fun i=>[.int .i64 (f i)])
/-- The same,in new memory of its own. -/
def mO(B:Nat)(w:World)(v:Value)(n:Nat):Prop:=∃(g:Nat)(f:Nat→Int),v=.slice (some ⟨g,0,none⟩) n n∧B≤g∧Rw w 3 1 n n g (fun i=>[.int .i64 (f i)])
theorem sK.ints{w W:World}{v:Value}{l:List Nat}(h:sK w v l W):nM W v l.length:=by
 obtain⟨g,c,h1,-,h3,-⟩:=h;exact⟨g,c,_,h1,h3⟩
theorem sK.Yh{w W:World}{v:Value}{l:List Nat}(h:sK w v l W):Below w.heap.size w W:=by
 obtain⟨g,c,-,-,-,h4⟩:=h;exact h4
theorem mO.ints{B:Nat}{w:World}{v:Value}{n:Nat}(h:mO B w v n):nM w v n:=by
 obtain⟨g,f,h1,-,h3⟩:=h;exact⟨g,n,f,h1,h3⟩
theorem nM.below{w w':World}{v:Value}{n:Nat}(h:nM w v n)(hb:Below w.heap.size w w'):nM w' v n:=by
 obtain⟨g,c,f,h1,h3⟩:=h;exact⟨g,c,f,h1,h3.kept (hb.block g h3.lt)⟩
theorem mkI(n:Nat)(hn:n≤100000):∀u:World,(Instr.makeSlice 22 (.int .i64 (n:Int)) (.int .i64 (n:Int))).run Tryz.prog u=.ok (.slice (some ⟨u.heap.size,0,none⟩) n n) (u.alloc (.cells (madeCells #[.int .i64 0] n) 3)):=fun u=>by
 obtain⟨i0,hi,hz0,hz1,hz2⟩:=info_parts (show(Tryz.prog.info? 3).map (fun i=>(i.zero,i.size,i.bytes))=some (some (.int .i64 0),1,8) by kernel_rfl);have h:=run_make (P:=Tryz.prog) u 22 3 i0 _ Tryz.underlying22 hi hz0 .i64 .i64 (n:Int) (n:Int) (by omega) (Int.le_refl _) (by rw[hz2];omega) (by omega)
 simpa[hz1,Value.cells]using h
theorem QN(w:World)(n:Nat):Rw (w.alloc (.cells (madeCells #[.int .i64 0] n) 3)) 3 1 n n w.heap.size (fun _=>[.int .i64 0]):=by
 refine⟨⟨_,heap_alloc_new _ _,by simp[madeCells],fun i hi j hj=>?_⟩,Nat.le_refl _⟩;obtain rfl:j=0:=by omega
 simp[madeCells,hi,Nat.mod_one]
theorem FH(n:Nat)(h0:0<n)(hn:n≤64)(w:World):Calls Tryz.prog 144 #[.int .i64 (n:Nat)] w fun r w'=>∃v,r=.returned v∧sK w v (List.range n) w':=by
 obtain⟨F,HF⟩:=aJ (fun(r:Ending)(w':World)=>∃v,r=.returned v∧sK w v (List.range n) w');rw[←HF.out];have hmk:=mkI n (by omega);have hn1:(n:Int)≤64:=by omega
 have hn2:(0:Int)<(n:Int):=by omega
 have HW:=Lib.hid (QN w n);obtain⟨W0,hW0⟩:∃W0,W0=w.alloc (.cells (madeCells #[.int .i64 0] n) 3):=⟨_,rfl⟩;have HB0:=Lib.hid (show Below w.heap.size w W0 by rw[hW0];exact(Below.refl _ _).alloc (Nat.le_refl _) _);rw[←hW0]at HW;go_in
 go_wp2
 rw[←hW0];clear hW0
 go_loopg [4,11,12,13,14,15,16,17,18] n (fun q v4 v11 v12 v13 v14 v15 v16 v17 v18 wr=>∃j:Nat,q=n-j∧j≤n∧v11=.int .i64 (j:Nat)∧Rw wr 3 1 n n w.heap.size (fun q=>[.int .i64 ((if q<j then q else 0:Nat):Nat)])∧Below w.heap.size w wr)
 case atStart=>exact⟨0,rfl,Nat.zero_le _,rfl,HW.out.congr (fun i hi j hj=>by simp),HB0.out⟩
 case round=>
  obtain⟨j,rfl,hj,rfl,hr,hb⟩:=hrel;have HR:=Lib.hid hr;have HB:=Lib.hid hb
  by_cases hlt:j<n
  ·have hji:(j:Int)<(n:Int):=by omega
   have z:=hr.cell (i:=j) (j:=0) hlt (by omega);have zf:=hr.frozen j;simp only[Nat.mul_one,Nat.add_zero,List.getElem?_cons_zero]at z;clear hr hb
   go_wp2
   go_roundg (n-(j+1))
   case rel=>
    refine⟨j+1,rfl,by omega,by simp,(HR.out.set1 hlt (.int .i64 (j:Nat))).congr (fun i hi k hk=>?_),HB.out.setCell (p:=⟨w.heap.size,j,none⟩) (Nat.le_refl _) _⟩
    by_cases e:i=j
    ·subst e;simp
    ·by_cases e2:i<j
     ·rw[if_neg e,if_pos e2,if_pos (by omega)]
     ·rw[if_neg e,if_neg e2,if_neg (by omega)]
   case measure=>omega
  ·obtain rfl:j=n:=by omega
   clear hr hb
   go_wp2
   rw[HF.out];refine⟨_,rfl,w.heap.size,j,by rw[List.length_range];rfl,Nat.le_refl _,?_,HB.out⟩;rw[List.length_range];exact HR.out.congr (fun i hi k hk=>by rw[if_pos hi,List.getD_eq_getElem?_getD,List.getElem?_range hi];rfl)
theorem wu{w:World}{v:Value}{n:Nat}(h:nM w v n)(h0:0<n)(hn:n≤64):Calls Tryz.prog 184 #[v] w fun r w'=>∃u,r=.returned u∧mO w.heap.size w' u n∧Below w.heap.size w w':=by
 obtain⟨F,HF⟩:=aJ (fun(r:Ending)(w':World)=>∃u,r=.returned u∧mO w.heap.size w' u n∧Below w.heap.size w w');rw[←HF.out];obtain⟨g,cap,f,rfl,hr⟩:=h;have hmk:=mkI n (by omega);obtain⟨W0,hW0⟩:∃W0,W0=w.alloc (.cells (madeCells #[.int .i64 0] n) 3):=⟨_,rfl⟩;have hb0:Below w.heap.size w W0:=by rw[hW0];exact(Below.refl _ _).alloc (Nat.le_refl _) _
 have HB0:=Lib.hid hb0;have hg0:W0.heap[w.heap.size]?=some (.cells (madeCells #[.int .i64 0] n) 3 (0,0)):=by rw[hW0];exact heap_alloc_new _ _
 have hr0:=hr.kept (hb0.block g hr.lt)
 have hcs:∀(j:Nat)(u:Value),((List.range n).map (fun i=>Value.int .i64 (f i)))[j]?=some u→W0.cell? ((⟨g,0,none⟩:Addr).add j)=some u:=fun j u hu=>by
  have hjn:j<n:=by
   by_cases e:j<n
   ·exact e
   ·rw[List.getElem?_eq_none (by simp;omega)]at hu;cases hu
  have:=hr0.cell (i:=j) (j:=0) hjn (by omega);simp only[Nat.mul_one,Nat.add_zero,List.getElem?_cons_zero]at this;rw[List.getElem?_map,List.getElem?_range hjn]at hu;simp only[Option.map_some,Option.some.injEq]at hu;rw[←hu];rw[show(⟨g,0,none⟩:Addr).add j=⟨g,j,none⟩from by simp[Addr.add];omega];exact this
 have hlen:((List.range n).map (fun i=>Value.int .i64 (f i))).length=Nat.min n n:=by simp
 have h1c:∀u∈(List.range n).map (fun i=>Value.int .i64 (f i)),u.oneCell'=true:=fun u hu=>by
  obtain⟨i,-,rfl⟩:=List.mem_map.1 hu;rfl
 obtain⟨CS,hCS⟩:∃CS,CS=(List.range n).map (fun i=>Value.int .i64 (f i)):=⟨_,rfl⟩;rw[←hCS]at hcs hlen h1c;have Pq:=Lib.hid hCS;have HG:=Lib.hid hg0;have hL:CS.length=n:=by rw[hlen];simp
 have HL:=Lib.hid hL;clear hr hr0 hCS hL;go_in
 go_wp2_with ((with_reducible show wpList _ _ _ ({dst:=some 9,op:=_,type:=_,pos:=_,after:=_,guard:=_}::_) _ _);rw[←hW0];refine wpList_copy_own rfl (.tmp 7) (.tmp 8) 22 22 rfl 3 Tryz.underlying22 (by kernel_rfl) w.heap.size 0 n n ⟨g,0,none⟩ n cap rfl rfl (madeCells #[.int .i64 0] n) 3 HG.out CS hlen hcs (by rw[HL.out];simp[madeCells]) h1c ?_)
 rw[HF.out,←hW0];refine⟨_,rfl,⟨w.heap.size,f,rfl,Nat.le_refl _,?_⟩,below_setRow HB0.out (Nat.le_refl _) _⟩;refine⟨⟨_,setRow_heap W0 w.heap.size _ _ _ _ HG.out,?_,fun i hi j hj=>?_⟩,Nat.le_refl _⟩
 ·simp[HL.out,madeCells]
 ·obtain rfl:j=0:=by omega
  simp[Pq.out,madeCells,hi]
/-- A block of 64 truth values. -/
def QO(w:World)(g:Nat):Prop:=∃cur:Array Value,w.heap[g]?=some (.cells cur 257 (0,0))∧cur.size=64∧∀i,i<64→∃b,cur[i]?=some (.bool b)
theorem QO.cell{w:World}{g:Nat}(h:QO w g){i:Nat}(hi:i<64):∃b,w.cell? ⟨g,i,none⟩=some (.bool b):=by
 obtain⟨cur,h1,h2,h3⟩:=h;obtain⟨b,hb⟩:=h3 i hi;exact⟨b,by simp[World.cell?,h1,hb]⟩
theorem QO.frozen{w:World}{g:Nat}(h:QO w g)(o:Nat):w.frozen? ⟨g,o,none⟩=false:=by
 obtain⟨cur,h1,h2,h3⟩:=h;exact jv h1 o
theorem QO.set{w:World}{g:Nat}(h:QO w g)(i:Nat)(b:Bool):QO (w.setCell ⟨g,i,none⟩ (.bool b)) g:=by
 obtain⟨cur,h1,h2,h3⟩:=h;refine⟨cur.setIfInBounds i (.bool b),by simp[World.setCell,Array.getElem?_modify,h1],by simpa using h2,fun k hk=>?_⟩;obtain⟨c,hc⟩:=h3 k hk
 by_cases e:i=k
 ·subst e;refine⟨b,?_⟩;rw[Array.getElem?_setIfInBounds];simp;omega
 ·refine⟨c,?_⟩;rw[Array.getElem?_setIfInBounds,if_neg e];exact hc
theorem FI{w:World}{v:Value}{n:Nat}(h:nM w v n)(hn:n≤64)(x:Int):Calls Tryz.prog 185 #[v,.int .i64 x] w fun r w'=>(∃k:Int,r=.returned (.int .i64 k)∧-1≤k∧k<n)∧w'=w:=by
 obtain⟨F,HF⟩:=aJ (fun(r:Ending)(w':World)=>(∃k:Int,r=.returned (.int .i64 k)∧-1≤k∧k<n)∧w'=w);rw[←HF.out];obtain⟨g,cap,f,rfl,hr⟩:=h;have HR:=Lib.hid hr;have hni:(n:Int)≤64:=by omega
 clear hr;go_in
 go_wp2
 go_loopg [5,8,9,10,11,12,13,14,15,16,17,18] n (fun q v5 v8 v9 v10 v11 v12 v13 v14 v15 v16 v17 v18 wr=>∃j:Nat,q=n-j∧j≤n∧v8=.int .i64 (j:Nat)∧wr=w)
 case atStart=>exact⟨0,rfl,Nat.zero_le _,rfl,rfl⟩
 case round=>
  obtain⟨j,rfl,hj,rfl,rfl⟩:=hrel
  by_cases hlt:j<n
  ·have hji:(j:Int)<(n:Int):=by omega
   have z:=HR.out.cell (i:=j) (j:=0) hlt (by omega);simp only[Nat.mul_one,Nat.add_zero,List.getElem?_cons_zero]at z
   by_cases e:x=f j
   ·have e1:(x==f j)=true:=by simp[e]
    have HE:=Lib.hid e;clear e
    go_wp2
    rw[HF.out];exact⟨⟨_,rfl,by omega,hji⟩,rfl⟩
   ·have e1:(x==f j)=false:=by simp[e]
    clear e
    go_wp2
    go_roundg (n-(j+1))
    case rel=>exact⟨j+1,rfl,by omega,by simp,rfl⟩
    case measure=>omega
  ·obtain rfl:j=n:=by omega
   go_wp2
   rw[HF.out];exact⟨⟨-1,rfl,by omega,by omega⟩,rfl⟩
theorem AA{B:Nat}{w:World}{v:Value}{n:Nat}(h:mO B w v n)(h0:0<n)(hn:n≤64):Calls Tryz.prog 186 #[v] w fun r w'=>r=.returned (.tuple #[])∧mO B w' v n∧Below B w w':=by
 obtain⟨F,HF⟩:=aJ (fun(r:Ending)(w':World)=>r=.returned (.tuple #[])∧mO B w' v n∧Below B w w');rw[←HF.out];obtain⟨g,f,rfl,hg,hr⟩:=h;have HR:=Lib.hid hr;have hni:(n:Int)≤64:=by omega
 have hn0:(0:Int)<n:=by omega
 clear hr;go_in
 go_wp2
 go_loopg [2,3,7,8,9,10,11,12,13,14,15,16,17,18,19,20,21,22,23,24,25,26,27] n (fun q v2 v3 v7 v8 v9 v10 v11 v12 v13 v14 v15 v16 v17 v18 v19 v20 v21 v22 v23 v24 v25 v26 v27 wr=>∃(j:Nat)(f':Nat→Int),q=n-j∧j≤n∧v2=.int .i64 (j:Nat)∧v3=.int .i64 ((n:Int)-1-j)∧Rw wr 3 1 n n g (fun i=>[.int .i64 (f' i)])∧Below B w wr)
 case atStart=>exact⟨0,f,rfl,Nat.zero_le _,rfl,by simp,HR.out,Below.refl _ _⟩
 case round=>
  obtain⟨j,f',rfl,hj,rfl,rfl,hr2,hb2⟩:=hrel;have HR2:=Lib.hid hr2;have HB2:=Lib.hid hb2;clear hr2 hb2
  by_cases hlt:(j:Int)<(n:Int)-1-j
  ·obtain⟨m,hm⟩:∃m:Nat,(m:Int)=(n:Int)-1-j:=⟨n-1-j,by omega⟩;rw[←hm]at hlt⊢;have hjm:j<m:=by omega
   have hmn:m<n:=by omega
   have hj2:j+1≤n:=by omega
   have z1:=HR2.out.cell (i:=j) (j:=0) (by omega) (by omega);have z2:=HR2.out.cell (i:=m) (j:=0) hmn (by omega);have zf:=HR2.out.frozen;simp only[Nat.mul_one,Nat.add_zero,List.getElem?_cons_zero]at z1 z2;have hji:(j:Int)<(n:Int):=by omega
   have wz:(m:Int)<(n:Int):=by omega
   have hm1:IntKind.i64.wrap ((m:Int)-1)=(m:Int)-1:=IntWalk.i64_in _ (by omega);have hlg:=HR2.out.lt;have HM:=Lib.hid hm;clear hm
   go_wp2
   go_region
   go_wp2
   go_roundg (n-(j+1))
   case rel=>
    refine⟨j+1,fun q=>if q=m then f' j else if q=j then f' m else f' q,rfl,by omega,by simp,by have:=HM.out;simp;omega,?_,((HB2.out.setCell (p:=⟨g,j,none⟩) hg _).setCell (p:=⟨g,m,none⟩) hg _).drew⟩;refine Rw.kept (w:=(wr.setCell ⟨g,j,none⟩ (.int .i64 (f' m))).setCell ⟨g,m,none⟩ (.int .i64 (f' j))) (((HR2.out.set1 (i:=j) (by omega) (.int .i64 (f' m))).set1 (i:=m) hmn (.int .i64 (f' j))).congr (fun i hi k hk=>?_)) rfl
    by_cases e:i=m
    ·simp[e]
    ·by_cases e2:i=j
     ·subst e2;simp[e]
     ·simp[e,e2]
   case measure=>omega
  ·go_wp2
   refine bodyPost_ret (results_none rfl _ _ _) rfl ?_;rw[HF.out];exact⟨rfl,⟨g,f',rfl,hg,HR2.out⟩,HB2.out⟩
theorem Kg{w:World}{v:Value}{n:Nat}(h:nM w v n)(h0:0<n)(hn:n≤64):Calls Tryz.prog 175 #[v] w fun r w'=>∃u,r=.returned u∧mO w.heap.size w' u n∧Below w.heap.size w w':=by
 obtain⟨F,HF⟩:=aJ (fun(r:Ending)(w':World)=>∃u,r=.returned u∧mO w.heap.size w' u n∧Below w.heap.size w w');rw[←HF.out];have cC:=wu h h0 hn;have cR:=fun(w1:World)(u:Value)(h:mO w.heap.size w1 u n)=>AA h h0 hn;have QS:=Lib.hid cR;clear h cR;go_in
 go_wp2_with (first|(go_at_call 184;refine cC.mono ?_;rintro r w1 ⟨u,rfl,hu,hb⟩;have HU:=Lib.hid hu;have HB:=Lib.hid hb;clear hu hb cC)|(go_at_call 186;refine(QS.out _ u HU.out).mono ?_;rintro r w2 ⟨rfl,hu2,hb2⟩;have Lr:=Lib.hid hu2;have HB2:=Lib.hid hb2;clear hu2 hb2))
 rw[HF.out];exact⟨_,rfl,Lr.out,HB.out.trans HB2.out⟩
theorem QT(i:Nat)(hi:i<64):∃b,(List.replicate 64 (Value.bool false)).toArray[i]?=some (.bool b):=⟨false,by rw[List.getElem?_toArray,List.getElem?_replicate,if_pos hi]⟩
theorem wB{w:World}{v:Value}{n:Nat}(h:nM w v n)(h0:0<n)(hn:n≤64):Calls Tryz.prog 183 #[v] w fun r w'=>(∃b,r=.returned (.bool b))∧Below w.heap.size w w':=by
 obtain⟨F,HF⟩:=aJ (fun(r:Ending)(w':World)=>(∃b,r=.returned (.bool b))∧Below w.heap.size w w');rw[←HF.out];obtain⟨g,cap,f,rfl,hr⟩:=h;have HR:=Lib.hid hr;have hni:(n:Int)≤64:=by omega
 have hn0:(0:Int)<n:=by omega
 have hlg:=hr.lt;clear hr;go_in
 go_wp2
 go_loopg [3,4,6,7,8,9,10,11,12,13,14,15,16,17,18,19,20,21,22,23,24,25,26,27,28,29,30,31,32,33,34,35,36,37,38,39,40,41,42] 1 (fun q v3 v4 v6 v7 v8 v9 v10 v11 v12 v13 v14 v15 v16 v17 v18 v19 v20 v21 v22 v23 v24 v25 v26 v27 v28 v29 v30 v31 v32 v33 v34 v35 v36 v37 v38 v39 v40 v41 v42 wr=>∃k:Nat,q=1-k∧((k=0∧v3=.int .i64 0)∨(k=1∧v3=.int .i64 64))∧Below w.heap.size w wr)
 case atStart=>exact⟨0,rfl,.inl ⟨rfl,rfl⟩,Below.refl _ _⟩
 case round=>
  obtain⟨k,rfl,hk,hb⟩:=hrel;have HB:=Lib.hid hb;clear hb
  rcases hk with⟨rfl,rfl⟩|⟨rfl,rfl⟩
  ·go_wp2
   show Code.wp _ _ _ _ (wr.alloc (.cells (List.replicate 64 (Value.bool false)).toArray 257))
   generalize hW1:wr.alloc (.cells (List.replicate 64 (Value.bool false)).toArray 257)=W1
   have aaU:Hid (QO W1 wr.heap.size):=by
    rw[←hW1];exact⟨_,heap_alloc_new _ _,rfl,QT⟩
   have HB1:Hid (Below w.heap.size w W1):=by
    rw[←hW1];exact HB.out.alloc HB.out.size _
   have hsz:w.heap.size≤wr.heap.size:=HB.out.size;clear hW1
   generalize hG:wr.heap.size=G at *
   go_loopg [6,7,16,17,18,19,20,21,22,23,24,25,26,27,28,29,30,31,32,33,34,35,36,37,38,39,40,41,42] n (fun q v6 v7 v16 v17 v18 v19 v20 v21 v22 v23 v24 v25 v26 v27 v28 v29 v30 v31 v32 v33 v34 v35 v36 v37 v38 v39 v40 v41 v42 wr=>∃j:Nat,q=n-j∧j≤n∧v16=.int .i64 (j:Nat)∧QO wr G∧Below w.heap.size w wr)
   case atStart=>exact⟨0,rfl,Nat.zero_le _,rfl,aaU.out,HB1.out⟩
   case round=>
    obtain⟨j,rfl,hj,rfl,h6,hb⟩:=hrel;have H6:=Lib.hid h6;have HB:=Lib.hid hb;clear h6 hb
    by_cases hlt:j<n
    ·have hji:(j:Int)<(n:Int):=by omega
     have z:=(HR.out.kept (HB.out.block g hlg)).cell (i:=j) (j:=0) hlt (by omega);simp only[Nat.mul_one,Nat.add_zero,List.getElem?_cons_zero]at z
     generalize f j=x at *
     by_cases hx:0≤x∧x<n
     ·obtain⟨a,rfl⟩:∃a:Nat,x=(a:Int):=⟨x.toNat,by omega⟩;have ha:a<n:=by omega
      have UG:(a:Int)<64:=by omega
      obtain⟨b,hbc⟩:=H6.out.cell (i:=a) (by omega);have hbf:=H6.out.frozen;have hx1:¬((a:Int)<0):=by omega
      have hx2:¬((n:Int)≤(a:Int)):=by omega
      clear hx
      cases b with
      |true=>
       go_wp2
       rw[HF.out];exact⟨⟨_,rfl⟩,HB.out⟩
      |false=>
       go_wp2
       go_roundg (n-(j+1))
       case rel=>exact⟨j+1,rfl,by omega,by simp,H6.out.set a true,HB.out.setCell (p:=⟨G,a,none⟩) hsz _⟩
       case measure=>omega
     ·by_cases hx1:x<0
      ·go_wp2
       rw[HF.out];exact⟨⟨_,rfl⟩,HB.out⟩
      ·have hx2:(n:Int)≤x:=by omega
       go_wp2
       rw[HF.out];exact⟨⟨_,rfl⟩,HB.out⟩
    ·obtain rfl:j=n:=by omega
     go_wp2
     go_roundg 0
     case rel=>exact⟨1,rfl,.inr ⟨rfl,by simp⟩,HB.out⟩
     case measure=>omega
  ·go_wp2
   rw[HF.out];exact⟨⟨_,rfl⟩,HB.out⟩
/-- The own block of a row that is gathered: not older than B,not gn. -/
def WC(B gn:Nat)(v:Value):Prop:=∀g n c,v=.slice (some ⟨g,0,none⟩) n c→B≤g∧g≠gn
theorem mO.ex{B:Nat}{w:World}{v:Value}{n:Nat}(h:mO B w v n):∃(g:Nat)(f:Nat→Int),v=.slice (some ⟨g,0,none⟩) n n∧B≤g∧Rw w 3 1 n n g (fun i=>[.int .i64 (f i)]):=h
theorem WC.nil{B gn:Nat}:WC B gn (.slice none 0 0):=fun g n c e=>by cases e
theorem QU{w w2:World}{T k m B gn g2 c2:Nat}{v:Value}{E E':Nat→List Value}(hs:Sl w T k v m E)(hn:WC B gn v)(hB:B≤w.heap.size)(hgn:gn<w.heap.size)(hq:bY w T k v m 1 E' g2 c2 w2):(B≤g2∧g2≠gn)∧w2.heap[gn]?=w.heap[gn]?∧Below B w w2:=by
 have hob:∀q,v.ownBlock=some q→B≤q∧q≠gn:=fun q hq2=>by
  rcases hs with⟨h1,-⟩|⟨g',c',h1,-⟩
  ·rw[h1]at hq2;cases hq2
  ·have:=hn _ _ _ h1;rw[h1]at hq2;cases hq2;exact this
 refine⟨?_,hq.only.block gn hgn (fun h=>(hob _ h).2 rfl),hq.only.below (fun q h=>(hob q h).1) hB⟩
 rcases hq.at' with h|h
 ·exact hob _ h
 ·exact⟨by omega,by omega⟩
theorem FJ{w:World}{va vb:Value}{n:Nat}(ha:nM w va n)(hb:nM w vb n)(h0:0<n)(hn:n≤64):Calls Tryz.prog 174 #[va,vb] w fun r w'=>(∃(v:Value)(e:Int)(m:Nat)(f:Nat→Int),r=.returned (.tuple #[v,.int .i64 e])∧Sl w' 3 1 v m (fun i=>[.int .i64 (f i)])∧m≤4096∧∀g n c,v=.slice (some ⟨g,0,none⟩) n c→w.heap.size≤g)∧Below w.heap.size w w':=by
 obtain⟨F,HF⟩:=aJ (fun(r:Ending)(w':World)=>(∃(v:Value)(e:Int)(m:Nat)(f:Nat→Int),r=.returned (.tuple #[v,.int .i64 e])∧Sl w' 3 1 v m (fun i=>[.int .i64 (f i)])∧m≤4096∧∀g n c,v=.slice (some ⟨g,0,none⟩) n c→w.heap.size≤g)∧Below w.heap.size w w');rw[←HF.out];have c1:=wB ha h0 hn;have c2:=fun w1 (hb1:Below w.heap.size w w1)=>wB (hb.below hb1) h0 hn;have c3:=fun w1 (hb1:Below w.heap.size w w1)=>wu (ha.below hb1) h0 hn;obtain⟨ga,ca,fa,rfl,hra⟩:=ha;obtain⟨g,cap,f,rfl,hr⟩:=hb;have um:=Lib.hid c2;have HC3:=Lib.hid c3;have HR:=Lib.hid hr;have hlg:=hr.lt;have hni:(n:Int)≤64:=by omega
 have hn0:(0:Int)<n:=by omega
 clear hr hra c2 c3;go_in
 go_wp2_with (go_at_call 183;with_reducible refine c1.mono ?_;rintro r w1 ⟨⟨b1,rfl⟩,hb1⟩;have HB1:=Lib.hid hb1;clear hb1 c1)
 ·rw[HF.out];exact⟨⟨_,1,0,fun _=>0,rfl,Sl.nil,by omega,fun g n c e=>by cases e⟩,HB1.out⟩
 have c2:=um.out _ HB1.out
 go_wp2_with (go_at_call 183;with_reducible refine c2.mono ?_;rintro r w2 ⟨⟨b2,rfl⟩,hb2⟩;have HB2:=Lib.hid (HB1.out.trans (hb2.mono HB1.out.size));clear hb2 c2)
 ·rw[HF.out];exact⟨⟨_,1,0,fun _=>0,rfl,Sl.nil,by omega,fun g n c e=>by cases e⟩,HB2.out⟩
 have c3:=HC3.out _ HB2.out
 go_wp2_with (go_at_call 184;with_reducible refine c3.mono ?_;rintro r w3 ⟨u,rfl,hu3,hb3⟩;obtain⟨gn,fn,rfl,hgn,hrn⟩:=hu3.ex;have HB3:=Lib.hid (HB2.out.trans (hb3.mono HB2.out.size));have HGN:=Lib.hid (Nat.le_trans HB2.out.size hgn);have HRN:=Lib.hid hrn;clear hgn hrn hb3 c3)
 go_loopg [6,8,9,10,30,31,32,33,34,35,36,37,38,39,40,41,42,43,44,45,46,47,48,49,50,51,52,53,54,55,56,57,58,59,60,61,62,63,64] n (fun q v6 v8 v9 v10 v30 v31 v32 v33 v34 v35 v36 v37 v38 v39 v40 v41 v42 v43 v44 v45 v46 v47 v48 v49 v50 v51 v52 v53 v54 v55 v56 v57 v58 v59 v60 v61 v62 v63 v64 wr=>∃(i m:Nat)(f' fn':Nat→Int),q=n-i∧i≤n∧v30=.int .i64 (i:Nat)∧m≤i*64∧Sl wr 3 1 v6 m (fun i=>[.int .i64 (f' i)])∧WC w.heap.size gn v6∧Rw wr 3 1 n n gn (fun i=>[.int .i64 (fn' i)])∧Below w.heap.size w wr)
 case atStart=>exact⟨0,0,fun _=>0,fn,rfl,Nat.zero_le _,rfl,by omega,Sl.nil,WC.nil,HRN.out,HB3.out⟩
 case round=>
  obtain⟨i,m,f',fn',rfl,hi,rfl,hm,hs,hga,hrn,hb⟩:=hrel;have HS:=Lib.hid hs;have UH:=Lib.hid hga;have xG:=Lib.hid hrn;have HB:=Lib.hid hb;clear hs hga hrn hb;have hsz:w.heap.size≤wr.heap.size:=HB.out.size
  obtain⟨p6,k6,hv6⟩:∃p k,u6=.slice p m k:=by
   rcases HS.out with⟨h1,h2⟩|⟨g',c',h1,-⟩
   ·exact⟨none,0,by rw[h1,h2]⟩
   ·exact⟨_,_,h1⟩
  subst hv6
  by_cases hlt:i<n
  ·have hii:(i:Int)<(n:Int):=by omega
   have z:=(HR.out.kept (HB.out.block g hlg)).cell (i:=i) (j:=0) hlt (by omega);simp only[Nat.mul_one,Nat.add_zero,List.getElem?_cons_zero]at z;have c4:=fun x=>FI (w:=wr) (v:=.slice (some ⟨gn,0,none⟩) n n) ⟨gn,n,fn',rfl,xG.out⟩ hn x
   go_wp2_with (go_at_call 185;refine(c4 _).mono ?_;rintro r w5 ⟨⟨k,rfl,hk1,hk2⟩,hw⟩;rw[hw];clear hw c4)
   go_loopg [6,10,38,39,40,41,42,43,44,45,46,47,48,49,50,51,52,53,54,55,56,57,58,59,60,61,62,63] (k+1).toNat (fun q v6 v10 v38 v39 v40 v41 v42 v43 v44 v45 v46 v47 v48 v49 v50 v51 v52 v53 v54 v55 v56 v57 v58 v59 v60 v61 v62 v63 wr=>∃(k':Int)(m':Nat)(f'' fn'':Nat→Int),q=(k'+1).toNat∧-1≤k'∧k'<n∧v10=.int .i64 k'∧m'+(k'+1).toNat≤i*64+64∧Sl wr 3 1 v6 m' (fun i=>[.int .i64 (f'' i)])∧WC w.heap.size gn v6∧Rw wr 3 1 n n gn (fun i=>[.int .i64 (fn'' i)])∧Below w.heap.size w wr)
   case atStart=>exact⟨k,m,f',fn',rfl,hk1,hk2,rfl,by omega,HS.out,UH.out,xG.out,HB.out⟩
   case round=>
    clear HS UH xG HB hm hk1 hk2;obtain⟨k',m',f2,Pw,rfl,hk1,hk2,rfl,hm,hs,hga,hrn,hb⟩:=hrel;have HS:=Lib.hid hs;have UH:=Lib.hid hga;have xG:=Lib.hid hrn;have HB:=Lib.hid hb;clear hs hga hrn hb;have hsz:w.heap.size≤wr.heap.size:=HB.out.size
    obtain⟨p7,k7,hv6⟩:∃p k,u6=.slice p m' k:=by
     rcases HS.out with⟨h1,h2⟩|⟨g',c',h1,-⟩
     ·exact⟨none,0,by rw[h1,h2]⟩
     ·exact⟨_,_,h1⟩
    subst hv6
    by_cases hlt2:(i:Int)<k'
    ·obtain⟨t,rfl⟩:∃t:Nat,k'=(t:Int):=⟨k'.toNat,by omega⟩;obtain⟨u,hu⟩:∃u:Nat,(t:Int)-1=(u:Int):=⟨t-1,by omega⟩;have htn:t<n:=by omega
     have hun:u<n:=by omega
     have abV:(u:Int)<(n:Int):=by omega
     have hut:u≠t:=by omega
     have hw1:IntKind.i64.wrap ((t:Int)-1)=(u:Int):=by rw[hu];exact IntWalk.i64_in _ (by omega)
     have z1:=xG.out.cell (i:=t) (j:=0) htn (by omega);have z2:=xG.out.cell (i:=u) (j:=0) hun (by omega);have zf:=xG.out.frozen;have zl:=xG.out.lt;simp only[Nat.mul_one,Nat.add_zero,List.getElem?_cons_zero]at z1 z2;have HU:=Lib.hid hu;obtain⟨W0,hW0⟩:∃W0,W0=((wr.setCell ⟨gn,u,none⟩ (.int .i64 (Pw t))).setCell ⟨gn,t,none⟩ (.int .i64 (Pw u))).drew:=⟨_,rfl⟩;clear hu
     go_wp2
     go_region
     rw[←hW0]
     have hb0:∀o,Below w.heap.size w (W0.alloc o):=fun o=>by
      rw[hW0];exact(((HB.out.setCell (p:=⟨gn,u,none⟩) HGN.out _).setCell (p:=⟨gn,t,none⟩) HGN.out _).drew).alloc (by simpa using hsz) o
     have hk0:∀o q,q≠gn→q<wr.heap.size→(W0.alloc o).heap[q]?=wr.heap[q]?:=fun o q h1 h2=>by
      rw[hW0];refine(Below.heap_alloc _ _ _ (by simpa using h2)).trans ?_;exact(heap_setCell_other _ _ _ _ (by simpa using h1)).trans (heap_setCell_other _ _ _ _ (by simpa using h1))
     have hs0:∀o,Sl (W0.alloc o) 3 1 (.slice p7 m' k7) m' (fun i=>[.int .i64 (f2 i)]):=fun o=>HS.out.kept (fun g' m c e hg=>hk0 o g' (UH.out _ _ _ e).2 hg)
     have hr0:∀o,Rw (W0.alloc o) 3 1 n n gn (fun q=>[.int .i64 (if q=t then Pw u else if q=u then Pw t else Pw q)]):=fun o=>by
      refine Rw.kept (w:=(wr.setCell ⟨gn,u,none⟩ (.int .i64 (Pw t))).setCell ⟨gn,t,none⟩ (.int .i64 (Pw u))) (((xG.out.set1 (i:=u) hun (.int .i64 (Pw t))).set1 (i:=t) htn (.int .i64 (Pw u))).congr (fun i hi k hk=>?_)) (by rw[hW0];exact Below.heap_alloc _ _ _ (by simpa using zl))
      by_cases e:i=t
      ·simp[e]
      ·by_cases e2:i=u
       ·subst e2;simp[e]
       ·simp[e,e2]
     have hl0:∀o,gn<(W0.alloc o).heap.size:=fun o=>by rw[hW0];simp;omega
     have hz0:∀o,w.heap.size≤(W0.alloc o).heap.size:=fun o=>by rw[hW0];simp;omega
     have H0:=Lib.hid (And.intro hb0 (And.intro hr0 (And.intro hl0 hz0)));have lU:=Lib.hid hs0;have hbig:m'<1073741824:=by omega
     clear hb0 hk0 hs0 hr0 hl0 hz0 hW0 z1 z2 zf
     go_wp2_with (at_builtin;refine aA _ rfl _ _ _ rfl jq rfl (lU.out _) rfl (aL (by simp)) rfl (by simp[Value.oneCell']) hbig ?_;intro g2 c2 w2 hq2;have Po:=Lib.hid hq2;clear hq2)
     have hu:=HU.out
     go_roundg ((u:Int)+1).toNat
     case rel=>
      obtain⟨⟨a1,a2⟩,a3,a4⟩:=QU (lU.out _) UH.out (H0.out.2.2.2 _) (H0.out.2.2.1 _) Po.out;refine⟨(u:Int),m'+1,fun q=>if q=m' then(u:Int)else f2 q,_,rfl,by omega,by omega,by first|rfl|simp,by omega,.inr ⟨g2,c2,rfl,Po.out.row.congr (fun i hi k hk=>?_)⟩,fun g n c e=>by cases e;exact⟨a1,a2⟩,(H0.out.2.1 _).kept a3,(H0.out.1 _).trans a4⟩
      by_cases e:i=m'
      ·simp[e]
      ·simp[e]
     case measure=>omega
    ·have hle:k'≤(i:Int):=by omega
     go_wp2
     go_roundg (n-(i+1))
     case rel=>exact⟨i+1,m',f2,Pw,rfl,by omega,by simp,by omega,HS.out,UH.out,xG.out,HB.out⟩
     case measure=>omega
  ·obtain rfl:i=n:=by omega
   go_wp2
   rw[HF.out];exact⟨⟨_,0,m,f',rfl,HS.out,by omega,fun g n c e=>(UH.out g n c e).1⟩,HB.out⟩
section
theorem YK:dS Tryz.prog 175 198 1 8:=dS.mk (z:=.pointer none) (by kernel_rfl) (by kernel_rfl) (by decide) (by decide) rfl
/-- The store while its tables are made. -/
structure BJ(K:Nat→Nat)(w:World)(sb:Nat)(L:SL)(n room i:Nat)(v:Value):Prop where
 row:w.heap[sb]?=some (.cells #[.pointer (some ⟨L.lb,0,none⟩),.pointer (some ⟨L.pb,0,none⟩),v,.slice none 0 0,.int .i64 0] 177 (0,0))
 iE:w.heap[L.lb]?=some (.cells #[.slice (some ⟨L.gv,0,none⟩) n L.cvv,.slice (some ⟨L.gl,0,none⟩) n L.Ng] 197 (0,0))
 vars:Rw w 3 1 n L.cvv L.gv (fun k=>[.int .i64 ((List.range n).getD k 0:Nat)])
 level:Rw w 3 1 n L.Ng L.gl (fun v=>[.int .i64 ((List.range n).getD v 0:Nat)])
 pool:aY K w L.pb L.ga L.ca L.gt L.ct L.fv room KL
 tabs:Sl w 198 1 v i (fun u=>[.pointer (some ⟨L.tb u,0,none⟩)])
 tab:∀u,u<i→gT K w (L.tb u) (L.mb u) (100+2*u) (fun _ _=>none)
 ks:K sb=2
 kl:K L.lb=3
 kv:K L.gv=4
 ke:K L.gl=5
 kt:j4 K 10 v
section
variable {K K':Nat→Nat} {w w':World} {sb n room i:Nat} {L:SL} {v:Value}
theorem BJ.aG{R:Nat→Prop}(h:BJ K w sb L n room i v)(t:aj R K w K' w')(hR:∀r,R r→¬sR r):BJ K' w' sb L n room i v:=by
 have hn:∀r,sR r→¬R r:=fun r h1 h2=>hR r h2 h1;obtain⟨c1,c2⟩:=h.tabs.aG h.kt t (hn 10 (by unfold sR;omega))
 exact⟨t.obj h.row (by rw[h.ks];exact hn 2 (by unfold sR;omega)),t.obj h.iE (by rw[h.kl];exact hn 3 (by unfold sR;omega)),h.vars.kept (t.block h.vars.lt (by rw[h.kv];exact hn 4 (by unfold sR;omega))),h.level.kept (t.block h.level.lt (by rw[h.ke];exact hn 5 (by unfold sR;omega))),
  h.pool.aG t (fun r h1=>by have:=hR r h1;unfold sR at this;omega),c1,fun u hu=>(h.tab u hu).aG t (hn _ (by unfold sR;omega)) (hn _ (by unfold sR;omega)),(t.role h.row).trans h.ks,(t.role h.iE).trans h.kl,(t.ext _ h.vars.lt).trans h.kv,(t.ext _ h.level.lt).trans h.ke,c2⟩
/-- One table more: it is appended,the row is stored. -/
theorem BJ.more{tb mb g c:Nat}(h:BJ K w sb L n room i v)(ht:gT K w tb mb (100+2*i) (fun _ _=>none))
 (hq:bY w 198 1 v i 1 (fun q=>if q=i then[.pointer (some ⟨tb,0,none⟩)]else[.pointer (some ⟨L.tb q,0,none⟩)]) g c w') :
 BJ (bJ K g 10) (w'.setCell ⟨sb,2,none⟩ (.slice (some ⟨g,0,none⟩) (i+1) c)) sb {L with tb:=fun u=>if u=i then tb else L.tb u,mb:=fun u=>if u=i then mb else L.mb u} n room (i+1) (.slice (some ⟨g,0,none⟩) (i+1) c) ∧
  ∀(R:Nat→Prop)(K0:Nat→Nat)(w0:World),aj R K0 w0 K w→R 10→R 2→aj R K0 w0 (bJ K g 10) (w'.setCell ⟨sb,2,none⟩ (.slice (some ⟨g,0,none⟩) (i+1) c)):=by
 obtain⟨t1,r1⟩:=hq.aG (R:=fun r=>r=10) aj.refl h.kt rfl h.tabs
 have hgs:g≠sb:=fun e=>by
  have:=t1.role h.row;rw[h.ks,←e,r1]at this;omega
 have hrow':=t1.obj h.row (by rw[h.ks];omega);have hks:bJ K g 10 sb=2:=(bP (fun e=>hgs e.symm)).trans h.ks;have t2:aj (fun r=>r=2) (bJ K g 10) w' (bJ K g 10) (w'.setCell ⟨sb,2,none⟩ (.slice (some ⟨g,0,none⟩) (i+1) c)):=aj.refl.iI hks (aV hrow') _;have tt:aj (fun r=>r=10∨r=2) K w (bJ K g 10) (w'.setCell ⟨sb,2,none⟩ (.slice (some ⟨g,0,none⟩) (i+1) c)):=(t1.mono (fun r h=>.inl h)).trans (t2.mono (fun r h=>.inr h));have hn:∀r,r≠10→r≠2→¬(r=10∨r=2):=fun r h1 h2 h3=>by omega
 refine⟨⟨aH hrow' _,tt.obj h.iE (by rw[h.kl];omega),h.vars.kept (tt.block h.vars.lt (by rw[h.kv];omega)),h.level.kept (tt.block h.level.lt (by rw[h.ke];omega)),h.pool.aG tt (fun r h1=>by omega),.inr ⟨g,c,rfl,?_⟩,fun u hu=>?_,hks,(tt.role h.iE).trans h.kl,(tt.ext _ h.vars.lt).trans h.kv,(tt.ext _ h.level.lt).trans h.ke,j4.of r1⟩,fun R K0 w0 t0 h10 h2=>?_⟩
 ·refine(hq.row.kept (w':=w'.setCell ⟨sb,2,none⟩ _) (heap_setCell_other _ _ _ _ hgs)).congr (fun q hq j hj=>?_)
  by_cases e:q=i
  ·simp[e]
  ·simp[e]
 ·by_cases e:u=i
  ·subst e;simp only[if_true];exact ht.aG tt (by omega) (by omega)
  ·simp only[e,if_false];exact(h.tab u (by omega)).aG tt (by omega) (by omega)
 ·exact t0.trans (tt.mono (fun r hr=>by rcases hr with rfl|rfl<;>assumption))
theorem BJ.Rj{g c:Nat}{E:Nat→List Value}(h:BJ K w sb L n room i v)(hq:bY w 198 1 v i 1 E g c w'):w'.heap[sb]?=some (.cells #[.pointer (some ⟨L.lb,0,none⟩),.pointer (some ⟨L.pb,0,none⟩),v,.slice none 0 0,.int .i64 0] 177 (0,0)):=
 (hq.aG (R:=fun r=>r=10) aj.refl h.kt rfl h.tabs).1.obj h.row (by rw[h.ks];omega)
theorem BJ.fin(h:BJ K w sb L n room n v)(h0:0<n):dG K w sb n room KL (fun v=>(List.range n).getD v 0) (List.range n):=by
 rcases h.tabs with⟨-,h1⟩|⟨g,c,rfl,h2⟩
 ·omega
 ·exact⟨{L with kE:=g,qM:=c,cv:=.slice none 0 0,ce:=fun _=>0},⟨h.row,h.iE,h.vars,h.level,h.pool,h2,h.tab,Sl.nil,h.ks,h.kl,h.kv,h.ke,h.kt _ _ _ rfl,j4.nil⟩,fun i hi=>absurd rfl hi⟩
theorem sK.rng{w W:World}{v:Value}{n:Nat}(h:sK w v (List.range n) W):∃g cap,v=.slice (some ⟨g,0,none⟩) n cap∧w.heap.size≤g∧Rw W 3 1 n cap g (fun i=>[.int .i64 ((List.range n).getD i 0:Nat)])∧Below w.heap.size w W:=by
 obtain⟨g,c,h1,h2,h3,h4⟩:=h;rw[List.length_range]at h1 h3;exact⟨g,c,h1,h2,h3,h4⟩
theorem BJ.start{K1:Nat→Nat}{w1 w2 w3:World}{pb ga ca gt ct gv cv gl cl:Nat}{fv:Value}(hp:aY K1 w1 pb ga ca gt ct fv room KL)(hgv:w1.heap.size≤gv)(YL:Rw w2 3 1 n cv gv (fun i=>[.int .i64 ((List.range n).getD i 0:Nat)]))(hb2:Below w1.heap.size w1 w2)
 (hgl:w2.heap.size≤gl) (hrl:Rw w3 3 1 n cl gl (fun i=>[.int .i64 ((List.range n).getD i 0:Nat)])) (hb3:Below w2.heap.size w2 w3) :
 BJ (bJ (bJ (bJ (bJ K1 gv 4) gl 5) w3.heap.size 3) (w3.heap.size+1) 2) ((w3.alloc (.cells #[.slice (some ⟨gv,0,none⟩) n cv,.slice (some ⟨gl,0,none⟩) n cl] 197)).alloc (.cells #[.pointer (some ⟨w3.heap.size,0,none⟩),.pointer (some ⟨pb,0,none⟩),.slice none 0 0,.slice none 0 0,.int .i64 0] 177)) (w3.heap.size+1)
  ⟨w3.heap.size,gv,cv,gl,cl,pb,ga,ca,gt,ct,fv,0,0,.slice none 0 0,fun _=>0,fun _=>0,fun _=>0⟩ n room 0 (.slice none 0 0) ∧
 aj (fun _=>False) K1 w1 (bJ (bJ (bJ (bJ K1 gv 4) gl 5) w3.heap.size 3) (w3.heap.size+1) 2) ((w3.alloc (.cells #[.slice (some ⟨gv,0,none⟩) n cv,.slice (some ⟨gl,0,none⟩) n cl] 197)).alloc (.cells #[.pointer (some ⟨w3.heap.size,0,none⟩),.pointer (some ⟨pb,0,none⟩),.slice none 0 0,.slice none 0 0,.int .i64 0] 177)):=by
 have lv:=YL.lt;have ll:=hrl.lt;have s2:=hb2.size;have s3:=hb3.size
 have hb:Below w1.heap.size w1 ((w3.alloc (.cells #[.slice (some ⟨gv,0,none⟩) n cv,.slice (some ⟨gl,0,none⟩) n cl] 197)).alloc (.cells #[.pointer (some ⟨w3.heap.size,0,none⟩),.pointer (some ⟨pb,0,none⟩),.slice none 0 0,.slice none 0 0,.int .i64 0] 177)):=
  ((hb2.trans (hb3.mono s2)).alloc (by omega) _).alloc (by simp;omega) _
 have t:aj (fun _=>False) K1 w1 (bJ (bJ (bJ (bJ K1 gv 4) gl 5) w3.heap.size 3) (w3.heap.size+1) 2) _:=((((aj.of_below hb).new (g:=gv) hgv).new (g:=gl) (by omega)).new (g:=w3.heap.size) (by omega)).new (g:=w3.heap.size+1) (by omega);refine⟨⟨aL (by simp),(Below.heap_alloc _ _ _ (by simp)).trans (heap_alloc_new _ _),YL.kept ?_,hrl.kept ?_,hp.aG t (fun r h=>h.elim),Sl.nil,fun u hu=>by omega,aW _ _ _,?_,?_,?_,j4.nil⟩,t⟩
 ·exact(Below.heap_alloc _ _ _ (by simp;omega)).trans ((Below.heap_alloc _ _ _ (by omega)).trans (hb3.block gv (by omega)))
 ·exact(Below.heap_alloc _ _ _ (by simp;omega)).trans (Below.heap_alloc _ _ _ (by omega))
 ·exact(bP (show w3.heap.size≠w3.heap.size+1 by omega)).trans (aW _ _ _)
 ·exact(bP (show gv≠w3.heap.size+1 by omega)).trans ((bP (show gv≠w3.heap.size by omega)).trans ((bP (show gv≠gl by omega)).trans (aW _ _ _)))
 ·exact(bP (show gl≠w3.heap.size+1 by omega)).trans ((bP (show gl≠w3.heap.size by omega)).trans (aW _ _ _))
end
theorem Oz(n room:Nat)(h0:0<n)(hn:n≤64)(hr1:1≤room)(hr2:room≤1048576)(K:Nat→Nat)(w:World) :
 Calls Tryz.prog 94 #[.int .i64 (n:Nat),.int .i64 (room:Nat)] w fun r w'=>∃K' sb,r=.returned (.tuple #[.pointer (some ⟨sb,0,none⟩),.int .i64 0])∧dG K' w' sb n room KL (fun v=>(List.range n).getD v 0) (List.range n)∧aj (fun r=>r=10∨r=2) K w K' w'∧w.heap.size≤sb:=by
 obtain⟨F,HF⟩:=aJ (fun(r:Ending)(w':World)=>∃K' sb,r=.returned (.tuple #[.pointer (some ⟨sb,0,none⟩),.int .i64 0])∧dG K' w' sb n room KL (fun v=>(List.range n).getD v 0) (List.range n)∧aj (fun r=>r=10∨r=2) K w K' w'∧w.heap.size≤sb);rw[←HF.out];have hn1:¬(n:Int)<0:=by omega
 have hn2:¬(64:Int)<(n:Int):=by omega
 have hni:(n:Int)≤64:=by omega
 have c1:=Ow room hr1 hr2 K w;have c2:=fun w1=>FH n h0 hn w1;have um:=Lib.hid c2;clear c2;go_in
 go_wp2_with (go_at_call 143;refine c1.mono ?_;rintro r w1 ⟨K1,pb,ga,ca,gt,ct,fv,rfl,hp,t1,hb1,hpb⟩;have HP:=Lib.hid hp;have T1:=Lib.hid t1;have HPB:=Lib.hid hpb;have HB1:=Lib.hid hb1;clear hp t1 hpb hb1 c1)
 have c3:=um.out w1
 go_wp2_with (first|(go_at_call 144;with_reducible refine c3.mono ?_;rintro r w2 ⟨v2,rfl,hv2⟩;obtain⟨gv,cv,rfl,hgv,YL,hb2⟩:=hv2.rng;have HV:=Lib.hid (And.intro hgv (And.intro YL hb2));have c4:=um.out w2;clear hgv YL hb2 hv2 c3)|(go_at_call 144;with_reducible refine c4.mono ?_;rintro r w3 ⟨v3,rfl,hv3⟩;obtain⟨gl,cl,rfl,hgl,hrl,hb3⟩:=hv3.rng;have HL:=Lib.hid (And.intro hgl (And.intro hrl hb3));clear hgl hrl hb3 hv3 c4))
 obtain⟨h0a,t0⟩:=BJ.start HP.out HV.out.1 HV.out.2.1 HV.out.2.2 HL.out.1 HL.out.2.1 HL.out.2.2;have T0:=Lib.hid ((T1.out.trans t0).mono (R':=fun r=>r=10∨r=2) (fun r h=>h.elim));have hsw:w.heap.size≤w3.heap.size:=Nat.le_trans HB1.out.size (Nat.le_trans HV.out.2.2.size HL.out.2.2.size);have H0:=Lib.hid h0a;clear h0a t0
 generalize hKS:bJ (bJ (bJ (bJ K1 gv 4) gl 5) w3.heap.size 3) (w3.heap.size+1) 2=KS at *
 generalize hWS:(w3.alloc (.cells #[.slice (some ⟨gv,0,none⟩) n cv,.slice (some ⟨gl,0,none⟩) n cl] 197)).alloc (.cells #[.pointer (some ⟨w3.heap.size,0,none⟩),.pointer (some ⟨pb,0,none⟩),.slice none 0 0,.slice none 0 0,.int .i64 0] 177)=WS at *
 generalize hsb:w3.heap.size+1=sb at *
 obtain⟨LS,hLS⟩:∃LS:SL,BJ KS WS sb LS n room 0 (.slice none 0 0):=⟨_,H0.out⟩;have YH:=Lib.hid hLS;have aa3:w.heap.size≤sb:=by omega
 clear H0 hLS hKS hWS hsb
 go_loopg [31,32,33,34,35,36,37,38,39,40,41,42,43] n (fun q v31 v32 v33 v34 v35 v36 v37 v38 v39 v40 v41 v42 v43 wr=>∃(i:Nat)(K':Nat→Nat)(L':SL)(v:Value),q=n-i∧i≤n∧v31=.int .i64 (i:Nat)∧BJ K' wr sb L' n room i v∧aj (fun r=>r=10∨r=2) K w K' wr)
 case atStart=>exact⟨0,KS,LS,_,rfl,Nat.zero_le _,rfl,YH.out,T0.out⟩
 case round=>
  obtain⟨i,K',L',v,rfl,hi,rfl,hN,ht⟩:=hrel;have NM:=Lib.hid hN;have HT:=Lib.hid ht;have hsz:=hN.row;have y2:wr.drew.cell? ⟨sb,2,none⟩=some v:=au hN.row 2 rfl;have hlsb:=aV hN.row
  obtain⟨p6,k6,hv6⟩:∃p k,v=.slice p i k:=by
   rcases hN.tabs with⟨h1,h2⟩|⟨g',c',h1,-⟩
   ·exact⟨none,0,by rw[h1,h2]⟩
   ·exact⟨_,_,h1⟩
  subst hv6;have hNd:BJ K' wr.drew sb L' n room i (.slice p6 i k6):=hN.aG (R:=fun _=>False) (aj.of_below (Below.refl _ _).drew) (fun r h=>h.elim);have Fv:=Lib.hid hNd;clear hN ht hsz hNd
  by_cases hlt:i<n
  ·have hii:(i:Int)<(n:Int):=by omega
   have cN:=M8 K' wr.drew (100+2*i);have hbig:i<1073741824:=by omega
   go_wp2
   refine sS (S0:=fun _=>True) (D:=fun W=>W.cell? ⟨sb,2,none⟩=some (.slice p6 i k6)) (st:=10) (by kernel_rfl) ⟨trivial,fun _=>y2⟩ (fun hst=>?_);refine UY false 0 (v:=?_) rfl ?hy (fun hst=>?_)
   case hy=>
    intro w0 h1 h2
    skip
    clear h1 h2;go_simp
    (first|done|with_reducible rfl)
   (try simp only[Act.put,aZ,bq,bA]);refine UY false 1 (v:=?_) rfl ?hy (fun hst=>?_)
   case hy=>
    intro w0 h1 h2
    skip
    clear h1 h2;go_simp
    (first|done|with_reducible rfl)
   (try simp only[Act.put,aZ,bq,bA]);refine UY false 2 (v:=?_) rfl ?hy (fun hst=>?_)
   case hy=>
    intro w0 h1 h2
    skip
    clear h1 h2;go_simp
    (first|done|with_reducible rfl)
   (try simp only[Act.put,aZ,bq,bA]);refine UY false 3 (v:=?_) rfl ?hy (fun hst=>?_)
   case hy=>
    intro w0 h1 h2
    skip
    clear h1 h2;go_simp
    (first|done|with_reducible rfl)
   (try simp only[Act.put,aZ,bq,bA]);refine UY true 4 (v:=?_) rfl ?hy (fun hst=>?_)
   case hy=>
    intro w0 h1 h2;have c1:=h2 rfl;clear h1 h2;go_simp
    (first|done|with_reducible rfl)
   (try simp only[Act.put,aZ,bq,bA]);refine jB (rs:=[5]) (by decide +kernel) (by simp) (dN.cons rfl (fun Kq F4=>?_) dN.nil);refine bW 145 ?_;go_simp;refine cN.mono ?_;rintro r w5 ⟨K5,tb,mb,rfl,h5,t5,hb5,l1,l2,l3⟩;have YM:∀o,BJ K5 (w5.alloc o) sb L' n room i (.slice p6 i k6):=fun o=>Fv.out.aG (t5.trans (aj.of_below ((Below.refl _ _).alloc (Nat.le_refl _) o))) (fun r h=>h.elim);have YN:BJ K5 w5 sb L' n room i (.slice p6 i k6):=Fv.out.aG t5 (fun r h=>h.elim);have H5:=Lib.hid h5;have T5:=Lib.hid t5;clear h5 t5 hb5 l1 l2 l3 cN;refine F4.out _ _ ⟨trivial,fun _=>au YN.row 2 rfl⟩ (fun hst=>?_);clear F4 Kq;(try simp only[Act.put,aZ,bq,bA]);refine jB (rs:=[6]) (by decide +kernel) (by simp) (dN.cons rfl (fun Kq F4=>?_) dN.nil);go_simp;refine F4.out _ _ ⟨trivial,fun _=>au (YM _).row 2 rfl⟩ (fun hst=>?_);clear F4 Kq;(try simp only[Act.put,aZ,bq,bA]);refine jB (rs:=[7]) (by decide +kernel) (by simp) (dN.cons rfl (fun Kq F4=>?_) dN.nil);refine isAny ?_;refine lY _ _ _ rfl YK rfl (YM _).tabs rfl (aL rfl) rfl (by simp[Value.oneCell']) hbig (fun g2 c2 w6 hq2=>?_);have YP:=(YM _).Rj hq2;refine F4.out _ _ ⟨trivial,fun _=>au YP 2 rfl⟩ (fun hst=>?_);clear F4 Kq;(try simp only[Act.put,aZ,bq,bA]);refine UY false 8 (v:=?_) rfl ?hy (fun hst=>?_)
   case hy=>
    intro w0 h1 h2;clear h1 h2;go_simp
    (first|done|with_reducible rfl)
   (try simp only[Act.put,aZ,bq,bA]);refine UY false 9 (v:=?_) rfl ?hy (fun hst=>?_)
   case hy=>
    intro w0 h1 h2;clear h1 h2;go_simp
    (first|done|with_reducible rfl)
   (try simp only[Act.put,aZ,bq,bA]);refine jB (rs:=[10]) (by decide +kernel) (by simp) (dN.cons rfl (fun Kq F4=>?_) dN.nil);have y6:w6.cell? ⟨sb,2,none⟩=some (.slice p6 i k6):=au YP 2 rfl;have f6:∀o,w6.frozen? ⟨sb,o,none⟩=false:=jv YP;have l6:=aV YP;have HN5:=Lib.hid YM;have Po:=Lib.hid hq2;clear YP hq2 YM YN;go_simp;refine F4.out _ _ ⟨trivial,fun h=>by cases h⟩ (fun hst=>?_);clear F4 Kq;refine DF (by decide +kernel) ?_ _
   go_wp2
   go_roundg (n-(i+1))
   case rel=>
    have tA:aj (fun _=>False) K5 w5 K5 (w5.alloc (.cells #[.pointer (some ⟨tb,0,none⟩)] 198)):=aj.of_below ((Below.refl _ _).alloc (Nat.le_refl _) _);obtain⟨q1,q2⟩:=(HN5.out (.cells #[.pointer (some ⟨tb,0,none⟩)] 198)).more (H5.out.aG tA id id) Po.out;exact⟨i+1,_,_,_,rfl,by omega,by simp,q1,q2 _ K w (((HT.out.drewN 1).trans ((T5.out.trans tA).mono (R':=fun r=>r=10∨r=2) (fun r h=>h.elim)))) (.inl rfl) (.inr rfl)⟩
   case measure=>omega
  ·obtain rfl:i=n:=by omega
   go_wp2
   rw[HF.out];exact⟨K',sb,rfl,NM.out.fin h0,HT.out,aa3⟩
end
section
/-- A table of m truth values. -/
def Tb(w:World)(v:Value)(m:Nat)(g:Nat→Bool):Prop:=∃b c,v=.slice (some ⟨b,0,none⟩) m c∧Rw w 4 1 m c b (fun i=>[.bool (g i)])
/-- A table in a new block. -/
def qh(B:Nat)(w:World)(v:Value)(m:Nat)(g:Nat→Bool):Prop:=∃b c,v=.slice (some ⟨b,0,none⟩) m c∧B≤b∧Rw w 4 1 m c b (fun i=>[.bool (g i)])
section
variable {w w':World} {v:Value} {m B n:Nat} {g f:Nat→Bool}
theorem Tb.below(h:Tb w v m g)(hb:Below w.heap.size w w'):Tb w' v m g:=by
 obtain⟨b,c,h1,h2⟩:=h;exact⟨b,c,h1,h2.kept (hb.block b h2.lt)⟩
theorem qh.tb(h:qh B w v m g):Tb w v m g:=by
 obtain⟨b,c,h1,-,h2⟩:=h;exact⟨b,c,h1,h2⟩
theorem qh.below(h:qh B w v m g)(hb:Below w.heap.size w w'):qh B w' v m g:=by
 obtain⟨b,c,h1,h3,h2⟩:=h;exact⟨b,c,h1,h3,h2.kept (hb.block b h2.lt)⟩
theorem qh.mono{B':Nat}(h:qh B w v m g)(hB:B'≤B):qh B' w v m g:=by
 obtain⟨b,c,h1,h3,h2⟩:=h;exact⟨b,c,h1,by omega,h2⟩
theorem qh.congr(h:qh B w v m g)(he:∀i,i<m→f i=g i):qh B w v m f:=by
 obtain⟨b,c,h1,h3,h2⟩:=h;exact⟨b,c,h1,h3,h2.congr (fun i hi j hj=>by rw[he i hi])⟩
theorem Tb.congr(h:Tb w v m g)(he:∀i,i<m→f i=g i):Tb w v m f:=by
 obtain⟨b,c,h1,h2⟩:=h;exact⟨b,c,h1,h2.congr (fun i hi j hj=>by rw[he i hi])⟩
theorem Tb.shape(h:Tb w v m g):∃b c,v=.slice (some ⟨b,0,none⟩) m c:=by
 obtain⟨b,c,h1,h2⟩:=h;exact⟨b,c,h1⟩
theorem Tb.cell{b c:Nat}(h:Tb w (.slice (some ⟨b,0,none⟩) m c) m g){i:Nat}(hi:i<m):w.cell? ⟨b,i,none⟩=some (.bool (g i)):=by
 obtain⟨b',c',h1,h2⟩:=h
 injection h1 with h1
 injection h1 with h1
 injection h1 with h1
 subst h1;have:=h2.cell (i:=i) (j:=0) hi (by omega)
 simpa using this
theorem Tb.lt{b c:Nat}(h:Tb w (.slice (some ⟨b,0,none⟩) m c) m g):b<w.heap.size:=by
 obtain⟨b',c',h1,h2⟩:=h
 injection h1 with h1
 injection h1 with h1
 injection h1 with h1
 subst h1;exact h2.lt
theorem OG(n:Nat)(hn:n≤100000):∀u:World,(Instr.makeSlice 33 (.int .i64 (n:Int)) (.int .i64 (n:Int))).run Tryz.prog u=.ok (.slice (some ⟨u.heap.size,0,none⟩) n n) (u.alloc (.cells (madeCells #[.bool false] n) 4)):=fun u=>by
 obtain⟨i0,hi,hz0,hz1,hz2⟩:=info_parts (show(Tryz.prog.info? 4).map (fun i=>(i.zero,i.size,i.bytes))=some (some (.bool false),1,1) by kernel_rfl);have h:=run_make (P:=Tryz.prog) u 33 4 i0 _ Tryz.underlying33 hi hz0 .i64 .i64 (n:Int) (n:Int) (by omega) (Int.le_refl _) (by rw[hz2];omega) (by omega)
 simpa[hz1,Value.cells]using h
theorem nS(w:World)(n:Nat):Rw (w.alloc (.cells (madeCells #[.bool false] n) 4)) 4 1 n n w.heap.size (fun _=>[.bool false]):=by
 refine⟨⟨_,heap_alloc_new _ _,by simp[madeCells],fun i hi j hj=>?_⟩,Nat.le_refl _⟩;obtain rfl:j=0:=by omega
 simp[madeCells,hi,Nat.mod_one]
theorem OH{j:Nat}(h:j≤20):2^j≤1048576:=Nat.pow_le_pow_right (n:=2) (by decide) h
theorem oM(v:Nat)(hv:v≤20)(w:World):Calls Tryz.prog 85 #[.int .i64 (v:Nat)] w fun r w'=>r=.returned (.int .i64 ((2^v:Nat):Int))∧w'=w:=by
 obtain⟨F,HF⟩:=aJ (fun(r:Ending)(w':World)=>r=.returned (.int .i64 ((2^v:Nat):Int))∧w'=w);rw[←HF.out];go_in
 go_wp2
 go_loopg [3,4,5,6,7,8,9,10,11] v (fun q v3 v4 v5 v6 v7 v8 v9 v10 v11 wr=>∃j m:Nat,q=v-j∧j≤v∧v4=.int .i64 (j:Nat)∧v3=.int .i64 (m:Nat)∧m=2^j∧wr=w)
 case atStart=>exact⟨0,1,rfl,Nat.zero_le _,rfl,rfl,rfl,rfl⟩
 case round=>
  obtain⟨j,m,rfl,hj,rfl,rfl,hm,hw⟩:=hrel;have HM:=Lib.hid hm;have HW:=Lib.hid hw;have hmb:m≤1048576:=by rw[hm];exact OH (by omega)
  clear hm hw
  by_cases hlt:j<v
  ·have hji:(j:Int)<(v:Int):=by omega
   go_wp2
   go_roundg (v-(j+1))
   case rel=>exact⟨j+1,2*m,rfl,by omega,by go_num,by go_num,by rw[HM.out,Nat.pow_succ,Nat.mul_comm],HW.out⟩
   case measure=>omega
  ·obtain rfl:j=v:=by omega
   go_wp2
   rw[HF.out,←HM.out];exact⟨rfl,HW.out⟩
theorem Rp(i v q:Nat)(hi:i≤1000000)(hq:q=2^v):((wrap64 ((i:Int)/(q:Int))).tmod 2==1)=Bd.iy i v:=by
 have h0:i/q≤1000000:=Nat.le_trans (Nat.div_le_self _ _) hi
 have h1:wrap64 ((i:Int)/(q:Int))=((i/q:Nat):Int):=by
  rw[show(i:Int)/(q:Int)=((i/q:Nat):Int) by simp];exact IntWalk.wrap64_in ((i/q:Nat):Int) (by generalize i/q=z at *;omega)
 rw[h1,hq];unfold Bd.iy;rw[Int.tmod_eq_emod_of_nonneg (Int.natCast_nonneg _),show((i/2^v:Nat):Int)%2=((i/2^v%2:Nat):Int) by omega]
 rcases Nat.mod_two_eq_zero_or_one (i/2^v)with h|h
 ·rw[h];rfl
 ·rw[h];rfl
theorem DJ(i v:Nat)(hv:v≤20)(hi:i≤1000000)(w:World):Calls Tryz.prog 84 #[.int .i64 (i:Nat),.int .i64 (v:Nat)] w fun r w'=>r=.returned (.bool (Bd.iy i v))∧w'=w:=by
 obtain⟨F,HF⟩:=aJ (fun(r:Ending)(w':World)=>r=.returned (.bool (Bd.iy i v))∧w'=w);rw[←HF.out];have cB:=oM v hv w;obtain⟨q,hq⟩:∃q,q=2^v:=⟨_,rfl⟩;have ha:=Rp i v q hi hq;have hq0:0<q:=by rw[hq];exact Nat.two_pow_pos _
 have XG:q≤1048576:=by rw[hq];exact OH hv
 rw[←hq]at cB;have hqi:¬(q:Int)=0:=by omega
 have HA:=Lib.hid ha;have HC:=Lib.hid cB;clear hq cB ha;go_in
 go_wp2_with (go_at_call 85;with_reducible refine(HC.out).mono ?_;rintro r w' ⟨rfl,hw⟩;rw[hw];clear hw)
 rw[HF.out,←HA.out];exact⟨rfl,rfl⟩
theorem tZ(yes:Bool)(n:Nat)(hn:n≤16)(w:World):Calls Tryz.prog 8 #[.bool yes,.int .i64 (n:Nat)] w fun r w'=>∃v,r=.returned v∧qh w.heap.size w' v (2^n) (fun _=>yes)∧Below w.heap.size w w':=by
 obtain⟨F,HF⟩:=aJ (fun(r:Ending)(w':World)=>∃v,r=.returned v∧qh w.heap.size w' v (2^n) (fun _=>yes)∧Below w.heap.size w w');rw[←HF.out];go_in
 go_wp2
 go_loopg [5,6,9,10,11,12,13,14,15] n (fun q v5 v6 v9 v10 v11 v12 v13 v14 v15 wr=>∃j m:Nat,q=n-j∧j≤n∧v6=.int .i64 (j:Nat)∧v5=.int .i64 (m:Nat)∧m=2^j∧wr=w)
 case atStart=>exact⟨0,1,rfl,Nat.zero_le _,rfl,rfl,rfl,rfl⟩
 case round=>
  obtain⟨j,m,rfl,hj,rfl,rfl,hm,hw⟩:=hrel;have HM:=Lib.hid hm;have hmb:m≤65536:=by rw[hm];exact Nat.pow_le_pow_right (n:=2) (by decide) (show j≤16 by omega)
  clear hm
  by_cases hlt:j<n
  ·have hji:(j:Int)<(n:Int):=by omega
   have HW:=Lib.hid hw;clear hw
   go_wp2
   go_roundg (n-(j+1))
   case rel=>exact⟨j+1,2*m,rfl,by omega,by go_num,by go_num,by rw[HM.out,Nat.pow_succ,Nat.mul_comm],HW.out⟩
   case measure=>omega
  ·obtain rfl:j=n:=by omega
   subst hw;obtain⟨w0,hw0⟩:∃w0,w0=wr:=⟨_,rfl⟩;subst hw0;have hmk:=OG m (by omega);have KF:=Lib.hid (nS w0 m);obtain⟨W0,hW0⟩:∃W0,W0=w0.alloc (.cells (madeCells #[.bool false] m) 4):=⟨_,rfl⟩;have HB0:=Lib.hid (show Below w0.heap.size w0 W0 by rw[hW0];exact(Below.refl _ _).alloc (Nat.le_refl _) _);rw[←hW0]at KF
   go_wp2
   rw[←hW0];clear hW0
   go_loopg [8,18,19,20,21,22,23,24,25,26] m (fun q v8 v18 v19 v20 v21 v22 v23 v24 v25 v26 wx=>∃k:Nat,q=m-k∧k≤m∧v8=.int .i64 (k:Nat)∧Rw wx 4 1 m m w0.heap.size (fun i=>[.bool (if i<k then yes else false)])∧Below w0.heap.size w0 wx)
   case atStart=>exact⟨0,rfl,Nat.zero_le _,rfl,KF.out.congr (fun i hi j hj=>by simp),HB0.out⟩
   case round=>
    obtain⟨k,rfl,hk,rfl,hr,hb⟩:=hrel;have HR:=Lib.hid hr;have HB:=Lib.hid hb
    by_cases hlt:k<m
    ·have hki:(k:Int)<(m:Int):=by omega
     have z:=hr.cell (i:=k) (j:=0) hlt (by omega);have zf:=hr.frozen k;simp only[Nat.mul_one,Nat.add_zero,List.getElem?_cons_zero]at z;clear hr hb
     go_wp2
     go_roundg (m-(k+1))
     case rel=>
      refine⟨k+1,rfl,by omega,by go_num,(HR.out.set1 hlt (.bool yes)).congr (fun i hi k' hk'=>?_),HB.out.setCell (p:=⟨w0.heap.size,k,none⟩) (Nat.le_refl _) _⟩
      by_cases e:i=k
      ·subst e;simp
      ·by_cases e2:i<k
       ·rw[if_neg e,if_pos e2,if_pos (by omega)]
       ·rw[if_neg e,if_neg e2,if_neg (by omega)]
     case measure=>omega
    ·obtain rfl:k=m:=by omega
     clear hr hb
     go_wp2
     rw[HF.out,←HM.out];exact⟨_,rfl,⟨_,_,rfl,Nat.le_refl _,HR.out.congr (fun i hi j hj=>by rw[if_pos hi])⟩,HB.out⟩
theorem Bh(h:Tb w v m g)(hm:m≤100000):Calls Tryz.prog 43 #[v] w fun r w'=>∃u,r=.returned u∧qh w.heap.size w' u m (fun _=>false)∧Below w.heap.size w w':=by
 obtain⟨F,HF⟩:=aJ (fun(r:Ending)(w':World)=>∃u,r=.returned u∧qh w.heap.size w' u m (fun _=>false)∧Below w.heap.size w w');rw[←HF.out];obtain⟨b,c,rfl⟩:=h.shape;have hmk:=OG m hm;clear h;go_in
 go_wp2
 rw[HF.out];exact⟨_,rfl,⟨_,_,rfl,Nat.le_refl _,nS w m⟩,(Below.refl _ _).alloc (Nat.le_refl _) _⟩
end
end
abbrev Ex:=Bd.Ex
mutual
def oU(w:World)(g o:Nat):Ex→Prop
 |.mk op n l=>w.cell? ⟨g,o,none⟩=some (.int .i64 op)∧w.cell? ⟨g,o+1,none⟩=some (.int .i64 n) ∧
  ∃A c,w.cell? ⟨g,o+2,none⟩=some (.slice A l.length c)∧l.length≤c∧c≤maxLen∧(l=[]∨∃g' o',A=some ⟨g',o',none⟩∧g'<w.heap.size∧gI w g' o' l)
def gI(w:World)(g o:Nat):List Ex→Prop
 |[]=>True
 |t::r=>oU w g o t∧gI w g (o+3) r
end
def Bj(w:World)(A:Option Addr)(l:List Ex):Prop:=l=[]∨∃g' o',A=some ⟨g',o',none⟩∧g'<w.heap.size∧gI w g' o' l
mutual
theorem oU.below{B:Nat}{w w':World}(hb:Below B w w'):∀{t:Ex}{g o:Nat},w.heap.size≤B→g<B→oU w g o t→oU w' g o t
 |.mk op n l,g,o,hB,hg,h=>by
  rw[oU]at h⊢;obtain⟨h0,h1,A,c,h3,h4,h5,h6⟩:=h;refine⟨by rw[hb.cell (p:=⟨g,_,none⟩) hg];exact h0,by rw[hb.cell (p:=⟨g,_,none⟩) hg];exact h1,A,c,by rw[hb.cell (p:=⟨g,_,none⟩) hg];exact h3,h4,h5,?_⟩
  rcases h6 with h6|⟨g',o',rfl,hg',h6⟩
  ·exact .inl h6
  ·exact .inr ⟨g',o',rfl,Nat.lt_of_lt_of_le hg' hb.size,gI.below hb hB (by omega) h6⟩
theorem gI.below{B:Nat}{w w':World}(hb:Below B w w'):∀{l:List Ex}{g o:Nat},w.heap.size≤B→g<B→gI w g o l→gI w' g o l
 |[],g,o,hB,hg,h=>by rw[gI];trivial
 |t::r,g,o,hB,hg,h=>by
  rw[gI]at h⊢;exact⟨oU.below hb hB hg h.1,gI.below hb hB hg h.2⟩
end
theorem gI.get:∀{w:World} {l:List Ex} {g o j:Nat} {t:Ex},gI w g o l→l[j]?=some t→oU w g (o+3*j) t
 |w,x::r,g,o,0,t,h,hj=>by
  rw[gI]at h;simp at hj;subst hj;exact h.1
 |w,x::r,g,o,j+1,t,h,hj=>by
  rw[gI]at h;have:=gI.get h.2 (j:=j) (by simpa using hj)
  rwa [show o+3+3*j=o+3*(j+1)from by omega]at this
theorem gI.mk:∀{w:World} {l:List Ex} {g o:Nat},(∀j t,l[j]?=some t→oU w g (o+3*j) t)→gI w g o l
 |w,[],g,o,h=>by rw[gI];trivial
 |w,t::r,g,o,h=>by
  rw[gI];exact⟨h 0 t rfl,gI.mk fun j x hj=>by rw[show o+3+3*j=o+3*(j+1)from by omega];exact h (j+1) x (by simpa using hj)⟩
/-- What an expression's last field leads to. -/
structure BK(w:World)(A:Option Addr)(c:Nat)(t:Ex):Prop where
 cap:t.kids.length≤c
 kY:c≤maxLen
 kids:Bj w A t.kids
theorem Bj.below{w w':World}{A:Option Addr}{l:List Ex}(h:Bj w A l)(hb:Below w.heap.size w w'):Bj w' A l:=by
 rcases h with h|⟨g',o',rfl,hg',h⟩
 ·exact .inl h
 ·exact .inr ⟨g',o',rfl,Nat.lt_of_lt_of_le hg' hb.size,gI.below hb (Nat.le_refl _) hg' h⟩
theorem BK.below{w w':World}{A:Option Addr}{c:Nat}{t:Ex}(h:BK w A c t)(hb:Below w.heap.size w w'):BK w' A c t:=⟨h.cap,h.kY,h.kids.below hb⟩
def bN(A:Option Addr)(c:Nat)(t:Ex):Array Value:=#[.int .i64 t.op,.int .i64 t.var,.slice A t.kids.length c]
def dz(A:Option Addr)(c:Nat)(t:Ex):Value:=.agg (bN A c t)
theorem oU.open{w:World}{g o:Nat}{t:Ex}(h:oU w g o t):w.cell? ⟨g,o,none⟩=some (.int .i64 t.op)∧w.cell? ⟨g,o+1,none⟩=some (.int .i64 t.var)∧∃A c,w.cell? ⟨g,o+2,none⟩=some (.slice A t.kids.length c)∧BK w A c t:=by
 cases t with
 |mk op n l=>
  rw[oU]at h;obtain⟨h0,h1,A,c,h3,h4,h5,h6⟩:=h;exact⟨h0,h1,A,c,h3,h4,h5,h6⟩
theorem oU.mk{w:World}{g o:Nat}{t:Ex}{A:Option Addr}{c:Nat}(h0:w.cell? ⟨g,o,none⟩=some (.int .i64 t.op))(h1:w.cell? ⟨g,o+1,none⟩=some (.int .i64 t.var))(h3:w.cell? ⟨g,o+2,none⟩=some (.slice A t.kids.length c))(h:BK w A c t):oU w g o t:=by
 cases t with
 |mk op n l=>
  rw[oU];exact⟨h0,h1,A,c,h3,h.cap,h.kY,h.kids⟩
/-- The j-th kid of an expression: its cells and what they lead to. -/
theorem BK.kid{w:World}{A:Option Addr}{c j:Nat}{t x:Ex}(h:BK w A c t)(hj:t.kids[j]?=some x):∃g o A' c',A=some ⟨g,o,none⟩∧g<w.heap.size∧w.cell? ⟨g,o+j*3,none⟩=some (.int .i64 x.op)∧w.cell? ⟨g,o+j*3+1,none⟩=some (.int .i64 x.var)∧w.cell? ⟨g,o+j*3+2,none⟩=some (.slice A' x.kids.length c')∧BK w A' c' x:=by
 rcases h.kids with h0|⟨g,o,rfl,hg,hr⟩
 ·rw[h0]at hj;cases hj
 ·obtain⟨h0,h1,A',c',h3,h4⟩:=(hr.get hj).open;rw[Nat.mul_comm 3 j]at h0 h1 h3;exact⟨g,o,A',c',rfl,hg,h0,h1,h3,h4⟩
/-- A list of integers that came in. -/
def kZ(w:World)(A:Option Addr)(c:Nat)(l:List Int):Prop:=l.length≤c∧c≤maxLen∧(∀z∈l,-9223372036854775808≤z∧z≤9223372036854775807)∧(l=[]∨∃b o,A=some ⟨b,o,none⟩∧b<w.heap.size∧∀j z,l[j]?=some z→w.cell? ⟨b,o+j,none⟩=some (.int .i64 z))
theorem kZ.below{w w':World}{A:Option Addr}{c:Nat}{l:List Int}(h:kZ w A c l)(hb:Below w.heap.size w w'):kZ w' A c l:=by
 obtain⟨h1,h2,h4,h3⟩:=h;refine⟨h1,h2,h4,?_⟩
 rcases h3 with h3|⟨b,o,rfl,hlt,h3⟩
 ·exact .inl h3
 ·exact .inr ⟨b,o,rfl,Nat.lt_of_lt_of_le hlt hb.size,fun j z hj=>by rw[hb.cell (p:=⟨b,_,none⟩) hlt];exact h3 j z hj⟩
theorem kZ.get{w:World}{A:Option Addr}{c j:Nat}{l:List Int}{z:Int}(h:kZ w A c l)(hj:l[j]?=some z):∃b o,A=some ⟨b,o,none⟩∧b<w.heap.size∧w.cell? ⟨b,o+j,none⟩=some (.int .i64 z):=by
 rcases h.2.2.2 with h0|⟨b,o,rfl,hlt,h3⟩
 ·rw[h0]at hj;cases hj
 ·exact⟨b,o,rfl,hlt,h3 j z hj⟩
/-- A list of events that came in. -/
def xL(w:World)(A:Option Addr)(c:Nat)(l:List (Int×Int×Int)):Prop:=l.length≤c∧c≤maxLen∧(l=[]∨∃b o,A=some ⟨b,o,none⟩∧b<w.heap.size∧∀j z,l[j]?=some z→w.cell? ⟨b,o+j*3,none⟩=some (.int .i64 z.1)∧w.cell? ⟨b,o+j*3+1,none⟩=some (.int .i64 z.2.1)∧w.cell? ⟨b,o+j*3+2,none⟩=some (.int .i64 z.2.2))
theorem xL.below{w w':World}{A:Option Addr}{c:Nat}{l:List (Int×Int×Int)}(h:xL w A c l)(hb:Below w.heap.size w w'):xL w' A c l:=by
 obtain⟨h1,h2,h3⟩:=h;refine⟨h1,h2,?_⟩
 rcases h3 with h3|⟨b,o,rfl,hlt,h3⟩
 ·exact .inl h3
 ·refine .inr ⟨b,o,rfl,Nat.lt_of_lt_of_le hlt hb.size,fun j z hj=>?_⟩;rw[hb.cell (p:=⟨b,_,none⟩) hlt,hb.cell (p:=⟨b,_,none⟩) hlt,hb.cell (p:=⟨b,_,none⟩) hlt];exact h3 j z hj
theorem xL.get{w:World}{A:Option Addr}{c j:Nat}{l:List (Int×Int×Int)}{z:Int×Int×Int}(h:xL w A c l)(hj:l[j]?=some z):∃b o,A=some ⟨b,o,none⟩∧b<w.heap.size∧w.cell? ⟨b,o+j*3,none⟩=some (.int .i64 z.1)∧w.cell? ⟨b,o+j*3+1,none⟩=some (.int .i64 z.2.1)∧w.cell? ⟨b,o+j*3+2,none⟩=some (.int .i64 z.2.2):=by
 rcases h.2.2 with h0|⟨b,o,rfl,hlt,h3⟩
 ·rw[h0]at hj;cases hj
 ·exact⟨b,o,rfl,hlt,h3 j z hj⟩
theorem F7:∀(most:Nat) (A:Option Addr) (c:Nat) (e:Ex) (w:World),most≤1000→BK w A c e →
 Calls Tryz.prog 31 #[dz A c e,.int .i64 (most:Nat)] w fun r w'=>r=.returned (.int .i64 ((min e.size (most+1):Nat):Int))∧Below w.heap.size w w':=by
 intro most
 induction most using Nat.strongRecOn with
 |_ most ih=>
  intro A c e w abB he;obtain⟨F,HF⟩:=aJ (fun(r:Ending)(w':World)=>r=.returned (.int .i64 ((min e.size (most+1):Nat):Int))∧Below w.heap.size w w');rw[←HF.out];obtain⟨m,hm⟩:∃m,m=e.kids.length:=⟨_,rfl⟩;obtain⟨op,hop⟩:∃op,op=e.op:=⟨_,rfl⟩;obtain⟨vr,mK⟩:∃vr,vr=e.var:=⟨_,rfl⟩;have hval:dz A c e=.agg #[.int .i64 op,.int .i64 vr,.slice A m c]:=by unfold dz bN;rw[hm,hop,mK]
  rw[hval];have hml:m≤maxLen:=by rw[hm];exact Nat.le_trans he.cap he.kY
  unfold maxLen at hml;obtain⟨W0,hW0⟩:∃W0,W0=w.alloc (.cells #[.int .i64 op,.int .i64 vr,.slice A m c] 75):=⟨_,rfl⟩;have HB0:=Lib.hid (show Below w.heap.size w W0 by rw[hW0];exact(Below.refl _ _).alloc (Nat.le_refl _) _);obtain⟨bx,hbx⟩:∃bx,bx=w.heap.size:=⟨_,rfl⟩;have HX:=Lib.hid (show W0.heap[bx]?=some (.cells #[.int .i64 op,.int .i64 vr,.slice A m c] 75 (0,0)) by rw[hW0,hbx];exact heap_alloc_new _ _);have HE:=Lib.hid he;have pW:=Lib.hid ih;have HM:=Lib.hid hm;have dJ:=Lib.hid hbx;clear ih he hval hop mK hm;go_in
  go_wp2
  rw[←hW0,←hbx];clear hW0 hbx
  go_loopg [5,6,7,8,9,10,11,12,13,14,15,16,17,18,19,20,21,22,23,24,25,26,27,28,29] m (fun q v5 v6 v7 v8 v9 v10 v11 v12 v13 v14 v15 v16 v17 v18 v19 v20 v21 v22 v23 v24 v25 v26 v27 v28 v29 wr=>∃j n:Nat,q=m-j∧j≤m∧v6=.int .i64 (j:Nat)∧v5=.int .i64 (n:Nat)∧n=min (1+Bd.Ex.dw (e.kids.take j)) (most+1)∧Below w.heap.size w wr∧wr.heap[bx]?=some (.cells #[.int .i64 op,.int .i64 vr,.slice A m c] 75 (0,0)))
  case atStart=>exact⟨0,1,rfl,Nat.zero_le _,rfl,rfl,by simp[Bd.Ex.dw],HB0.out,HX.out⟩
  case round=>
   obtain⟨j,n,rfl,hj,rfl,rfl,hn,hb,hx⟩:=hrel;have z2:wr.cell? ⟨bx,2,none⟩=some (.slice A m c):=au hx 2 rfl;have HN:=Lib.hid hn;have HB:=Lib.hid hb;have qQ:=Lib.hid hx;have hnb:n≤1001:=by omega
   clear hn hb hx
   by_cases hlt:j<m
   ·have hji:(j:Int)<(m:Int):=by omega
    by_cases hle:n≤most
    ·have hni:(n:Int)≤(most:Int):=by omega
     obtain⟨x,hxk⟩:∃x,e.kids[j]?=some x:=⟨_,List.getElem?_eq_getElem (by rw[←HM.out];exact hlt)⟩;obtain⟨g,o,A',c',hA,hg,k0,k1,k2,hV⟩:=(HE.out.below HB.out).kid hxk;have hsz:=Bd.Ex.eG hxk;have hn1:1≤n:=by rw[HN.out];omega
     have cP:=pW.out (most-n) (by omega) A' c' x wr (by omega) hV;unfold dz bN at cP;have hsub:((most:Nat):Int)-((n:Nat):Int)=((most-n:Nat):Int):=by omega
     obtain⟨s,hs⟩:∃s,s=min x.size (most-n+1):=⟨_,rfl⟩;rw[←hs]at cP;have hsb:s≤1001:=by omega
     have HC:=Lib.hid cP
     have hnew:min (1+Bd.Ex.dw (e.kids.take (j+1))) (most+1)=n+s:=by
      have:=HN.out;rw[hsz,hs];omega
     have aa9:=Lib.hid hnew;have hlx:x.kids.length≤9223372036854775807:=by have:=hV.cap;have:=hV.kY;unfold maxLen at this;omega
     subst hA;clear hV hsz hs cP hnew hxk
     go_wp2_with (go_at_call 31;with_reducible refine(HC.out).mono ?_;rintro r w2 ⟨rfl,hb2⟩;have HB2:=Lib.hid hb2;clear hb2)
     go_roundg (m-(j+1))
     case rel=>exact⟨j+1,n+s,rfl,by omega,by go_num,by go_num,aa9.out.symm,HB.out.trans (HB2.out.mono HB.out.size),(HB2.out.block bx (aV qQ.out)).trans qQ.out⟩
     case measure=>omega
    ·have hni:¬(n:Int)≤(most:Int):=by omega
     have hfin:n=min e.size (most+1):=by
      have h1:=HN.out;have h2:=Bd.Ex.aR e.kids j;rw[e.size_eq];omega
     have XQ:=Lib.hid hfin;clear hfin
     go_wp2
     rw[HF.out,←XQ.out];exact⟨rfl,HB.out⟩
   ·obtain rfl:j=m:=by omega
    have hfin:n=min e.size (most+1):=by
     have h1:=HN.out;rw[List.take_of_length_le (by rw[←HM.out];exact Nat.le_refl _)]at h1;rw[e.size_eq];exact h1
    have XQ:=Lib.hid hfin;clear hfin
    go_wp2
    rw[HF.out,←XQ.out];exact⟨rfl,HB.out⟩
theorem KQ(op:Int)(w:World):Calls Tryz.prog 140 #[.int .i64 op] w fun r w'=>r=.returned (.tuple #[.int .i64 (Bd.iQ op).1,.int .i64 (Bd.iQ op).2])∧w'=w:=by
 obtain⟨F,HF⟩:=aJ (fun(r:Ending)(w':World)=>r=.returned (.tuple #[.int .i64 (Bd.iQ op).1,.int .i64 (Bd.iQ op).2])∧w'=w);rw[←HF.out]
 by_cases hk:op=1∨op=2∨op=3∨op=4∨op=5∨op=6∨op=7∨op=8∨op=9∨op=10
 ·rcases hk with rfl|rfl|rfl|rfl|rfl|rfl|rfl|rfl|rfl|rfl
  all_goals
   go_in
   go_wp2
   rw[HF.out];exact⟨rfl,rfl⟩
 ·have hd:Bd.iQ op=(-1,-1):=by
   unfold Bd.iQ;rw[if_neg (by omega),if_neg (by omega),if_neg (by omega),if_neg (by omega),if_neg (by omega)]
  have HD:=Lib.hid hd;have h1:(op==1)=false:=by simp;omega
  have h2:(op==2)=false:=by simp;omega
  have h3:(op==3)=false:=by simp;omega
  have h4:(op==4)=false:=by simp;omega
  have h5:(op==5)=false:=by simp;omega
  have h6:(op==6)=false:=by simp;omega
  have h7:(op==7)=false:=by simp;omega
  have h8:(op==8)=false:=by simp;omega
  have h9:(op==9)=false:=by simp;omega
  have h10:(op==10)=false:=by simp;omega
  clear hk hd;go_in
  go_wp2
  rw[HF.out,HD.out];exact⟨rfl,rfl⟩
end Go.Proofs.YtpijlhlpejlhhaaGreat
