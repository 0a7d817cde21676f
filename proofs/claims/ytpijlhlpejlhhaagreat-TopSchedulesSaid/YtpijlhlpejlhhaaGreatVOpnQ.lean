/- Questions that came in. -/
import Derived.Test.YtpijlhlpejlhhaaGreatVRcB
import Derived.ProofKit
import Derived.Lay
import Derived.SevenTiedAt
import Derived.LaidOnce
namespace Go.Proofs.YtpijlhlpejlhhaaGreat
open Go.ChangeShapes Go.WideShapes Go.ChangeAt Go.RowKit
set_option linter.unusedVariables false
theorem addr_add(b o k:Nat):(⟨b,o,none⟩:Addr).add k=⟨b,o+k,none⟩:=by unfold Addr.add;split<;>simp_all
theorem rM{α:Type}{Q:Nat→α→Prop}:∀(n:Nat),(∀i,i<n→∃a,Q i a)→∃l:List α,l.length=n∧∀j a,l[j]?=some a→Q j a
 |0,_=>⟨[],rfl,fun j a h=>by simp at h⟩
 |n+1,h=>by
  obtain⟨l,hl,hq⟩:=rM n (fun i hi=>h i (by omega));obtain⟨a,ha⟩:=h n (by omega);refine⟨l++[a],by simp[hl],fun j b hj=>?_⟩
  rcases Nat.lt_or_ge j l.length with hlt|hge
  ·rw[List.getElem?_append_left hlt]at hj;exact hq j b hj
  ·rw[List.getElem?_append_right hge]at hj
   have hj0:j-l.length=0:=by
    rcases Nat.eq_zero_or_pos (j-l.length)with h0|h0
    ·exact h0
    ·rw[List.getElem?_eq_none (by simp;omega)]at hj;cases hj
   rw[hj0]at hj;simp at hj;subst hj;rw[show j=n from by omega];exact ha
section
variable {H:Type} {enc:TypeId×Value→H} {P:Program} {w:World} {base:Nat} {spare:Nat→Bool} {held:Bool}
theorem qb{α:Type}{t e:TypeId}{k fuel:Nat}{cs:List Value}{x:DataW H×List MemPlace}(ht:P.underlying t=some (.slice e))(hc:P.cellsOf e=k)(hk:0<k)(R:Nat→Nat→α→Prop)
 (hR:∀n,fuel=n+1→∀b o cs' y,b<w.heap.size→cs'.length=k→(∀i,i<k→w.cell? ⟨b,o+i,none⟩=cs'[i]?)→DataW.trod enc P w base spare held n e cs'=some y→∃a,R b o a)
 (h:DataW.trod enc P w base spare held fuel t cs=some x) :
 ∃A c,∃l:List α,cs=[.slice A l.length c]∧l.length≤c∧c≤maxLen∧(l=[]∨∃b o,A=some ⟨b,o,none⟩∧b<w.heap.size∧∀j a,l[j]?=some a→R b (o+k*j) a):=by
 rcases DataW.trod_slice ht h with⟨rfl,-⟩|⟨a,len,cap,elems,rest,n,hf,rfl,hx,hb,hl,hm,hel,hes,-,-⟩
 ·exact⟨none,0,[],rfl,Nat.le_refl _,Nat.zero_le _,.inl rfl⟩
 ·by_cases h0:len=0
  ·subst h0;exact⟨some a,cap,[],rfl,Nat.zero_le _,hm,.inl rfl⟩
  ·rw[hc]at hes
   have hone:∀i,i<len→∃cs' y,w.cells? base (a.add (i*k)) k=some cs'∧DataW.trod enc P w base spare held n e cs'=some y:=fun i hi=>by
    have h1:=hes i hi;rw[List.getElem?_eq_getElem (by omega)]at h1;obtain⟨cs',h2,h3⟩:=Option.bind_eq_some_iff.1 h1;exact⟨cs',_,h2,h3⟩
   obtain⟨b,o,spot⟩:=a;obtain⟨cs0,y0,h2,-⟩:=hone 0 (by omega);obtain⟨-,g1,g2⟩:=World.cells?_some h2;have g3:=g2 0 hk;rw[List.getElem?_eq_getElem (by omega)]at g3;have hspot:spot=none:=by simpa[Addr.add]using World.cell?_spot g3
   subst hspot
   have hlt:b<w.heap.size:=by
    have:=World.cells?_block h2 hk
    simpa[Addr.add]using this
   obtain⟨l,hl1,hl2⟩:=rM (Q:=fun i (a:α)=>R b (o+k*i) a) len (fun i hi=>by
    obtain⟨cs',y,h4,h5⟩:=hone i hi;obtain⟨-,e1,e2⟩:=World.cells?_some h4;refine hR n hf b (o+k*i) cs' y hlt e1 (fun i' hi'=>?_) h5;have:=e2 i' hi';rw[addr_add,addr_add]at this;rw[Nat.mul_comm k i]
    exact this)
   exact⟨_,cap,l,by rw[hl1],by omega,hm,.inr ⟨b,o,rfl,hlt,hl2⟩⟩
end
section
variable {H:Type} {enc:TypeId×Value→H} {w:World} {base:Nat} {spare:Nat→Bool} {held:Bool}
theorem uT{n:Int}(h:(Lit.int .i64 n).wf=true):-9223372036854775808≤n∧n≤9223372036854775807:=by
 simpa[Lit.wf,IntKind.min,IntKind.max,IntKind.signed,IntKind.bits]using h
set_option maxRecDepth 100000 in
theorem Ed{fuel:Nat}{cs:List Value}{x:DataW H×List MemPlace}(h:DataW.trod enc Tryz.prog w base spare held fuel 22 cs=some x):∃(A:Option Addr)(c:Nat)(l:List Int),cs=[.slice A l.length c]∧kZ w A c l:=by
 obtain⟨A,c,l,e,h1,h2,h3⟩:=qb Tryz.underlying22 (show Tryz.prog.cellsOf 3=1 from by kernel_rfl) (by decide) (fun b o (z:Int)=>w.cell? ⟨b,o,none⟩=some (.int .i64 z)∧-9223372036854775808≤z∧z≤9223372036854775807) (fun m hm b o cs' y hb hcl hcells htr=>by
  obtain⟨z,e,-,hz⟩:=DataW.trod_int Tryz.underlying3 htr;subst e
  exact⟨z,hcells 0 (by omega),uT hz⟩) h
 refine⟨A,c,l,e,h1,h2,fun z hz=>?_,?_⟩
 ·rcases h3 with h3|⟨b,o,-,-,h3⟩
  ·rw[h3]at hz;cases hz
  ·obtain⟨j,hj⟩:=List.mem_iff_getElem?.1 hz;exact(h3 j z hj).2
 ·rcases h3 with h3|⟨b,o,hA,hb,h3⟩
  ·exact .inl h3
  ·exact .inr ⟨b,o,hA,hb,fun j z hj=>by have:=(h3 j z hj).1;rwa [Nat.one_mul]at this⟩
set_option maxRecDepth 100000 in
theorem Sg{fuel:Nat}{cs:List Value}{x:DataW H×List MemPlace}(h:DataW.trod enc Tryz.prog w base spare held fuel 24 cs=some x):∃(A:Option Addr)(c:Nat)(l:List (Int×Int×Int)),cs=[.slice A l.length c]∧xL w A c l∧∀x∈l,(-9223372036854775808≤x.1∧x.1≤9223372036854775807)∧(-9223372036854775808≤x.2.1∧x.2.1≤9223372036854775807)∧(-9223372036854775808≤x.2.2∧x.2.2≤9223372036854775807):=by
 obtain⟨A,c,l,e,h1,h2,h3⟩:=qb Tryz.underlying24 (show Tryz.prog.cellsOf 73=3 from by kernel_rfl) (by decide) (fun b o (z:Int×Int×Int)=>(w.cell? ⟨b,o,none⟩=some (.int .i64 z.1)∧w.cell? ⟨b,o+1,none⟩=some (.int .i64 z.2.1)∧w.cell? ⟨b,o+2,none⟩=some (.int .i64 z.2.2))∧(-9223372036854775808≤z.1∧z.1≤9223372036854775807)∧(-9223372036854775808≤z.2.1∧z.2.1≤9223372036854775807)∧(-9223372036854775808≤z.2.2∧z.2.2≤9223372036854775807)) (fun m hm b o cs' y hb hcl hcells htr=>by
  obtain⟨xs,n,hfu,-,hl,hxl,hf⟩:=DataW.trod_struct Tryz.underlying73 htr
  obtain⟨c0,c1,c2,rfl⟩:∃c0 c1 c2,cs'=[c0,c1,c2]:=by
   match cs',hcl with
   |[c0,c1,c2],_=>exact⟨c0,c1,c2,rfl⟩
  obtain⟨y0,y1,y2,rfl⟩:∃y0 y1 y2,xs=[y0,y1,y2]:=by
   match xs,hxl with
   |[c0,c1,c2],_=>exact⟨c0,c1,c2,rfl⟩
  have f0:=hf 0 _ rfl;have f1:=hf 1 _ rfl;have f2:=hf 2 _ rfl;simp[show Tryz.prog.cellsOf 3=1 from by kernel_rfl]at f0 f1 f2;obtain⟨n0,e0,-,z0⟩:=DataW.trod_int Tryz.underlying3 f0;obtain⟨n1,e1,-,z1⟩:=DataW.trod_int Tryz.underlying3 f1;obtain⟨n2,e2,-,z2⟩:=DataW.trod_int Tryz.underlying3 f2
  injection e0 with e0
  injection e1 with e1
  injection e2 with e2
  subst e0 e1 e2
  exact⟨(n0,n1,n2),⟨hcells 0 (by omega),hcells 1 (by omega),hcells 2 (by omega)⟩,uT z0,uT z1,uT z2⟩) h
 refine⟨A,c,l,e,⟨h1,h2,?_⟩,fun z hz=>?_⟩
 ·rcases h3 with h3|⟨b,o,hA,hb,h3⟩
  ·exact .inl h3
  ·exact .inr ⟨b,o,hA,hb,fun j z hj=>by have:=(h3 j z hj).1;rwa [Nat.mul_comm 3 j]at this⟩
 ·rcases h3 with h3|⟨b,o,-,-,h3⟩
  ·rw[h3]at hz;cases hz
  ·obtain⟨j,hj⟩:=List.mem_iff_getElem?.1 hz;exact(h3 j z hj).2
set_option maxRecDepth 100000 in
theorem Si:∀(fuel:Nat) (cs:List Value) (x:DataW H×List MemPlace),DataW.trod enc Tryz.prog w base spare held fuel 23 cs=some x→∃(A:Option Addr)(c:Nat)(l:List Ex),cs=[.slice A l.length c]∧BK w A c (.mk 0 0 l):=by
 intro fuel
 induction fuel using Nat.strongRecOn with
 |_ fuel ih=>
  intro cs x h
  obtain⟨A,c,l,e3,h1,h2,h3⟩:=qb Tryz.underlying23 (show Tryz.prog.cellsOf 75=3 from by kernel_rfl) (by decide) (fun b o (t:Ex)=>oU w b o t) (fun m hm b o cs' y hb hcl hcells htr=>by
   obtain⟨xs,n,hfu,-,hl,hxl,hf⟩:=DataW.trod_struct Tryz.underlying75 htr
   obtain⟨c0,c1,c2,rfl⟩:∃c0 c1 c2,cs'=[c0,c1,c2]:=by
    match cs',hcl with
    |[c0,c1,c2],_=>exact⟨c0,c1,c2,rfl⟩
   obtain⟨y0,y1,y2,rfl⟩:∃y0 y1 y2,xs=[y0,y1,y2]:=by
    match xs,hxl with
    |[c0,c1,c2],_=>exact⟨c0,c1,c2,rfl⟩
   have f0:=hf 0 _ rfl;have f1:=hf 1 _ rfl;have f2:=hf 2 _ rfl;simp[show Tryz.prog.cellsOf 3=1 from by kernel_rfl,show Tryz.prog.cellsOf 23=1 from by kernel_rfl]at f0 f1 f2;obtain⟨n0,e0,-,-⟩:=DataW.trod_int Tryz.underlying3 f0;obtain⟨n1,e1,-,-⟩:=DataW.trod_int Tryz.underlying3 f1;obtain⟨A',c',l',e2,hV⟩:=ih n (by omega) _ _ f2
   injection e0 with e0
   injection e1 with e1
   injection e2 with e2
   subst e0 e1 e2
   exact⟨.mk n0 n1 l',oU.mk (hcells 0 (by omega)) (hcells 1 (by omega)) (hcells 2 (by omega)) ⟨hV.cap,hV.kY,hV.kids⟩⟩) h
  refine⟨A,c,l,e3,h1,h2,?_⟩
  rcases h3 with h3|⟨b,o,rfl,hb,h3⟩
  ·exact .inl h3
  ·exact .inr ⟨b,o,rfl,hb,gI.mk h3⟩
variable {W:World} {v:Value} {d:DataW H} {p:List MemPlace}
set_option maxRecDepth 100000 in
theorem Ph(hv:Value.okWide Tryz.prog W .any base 22 v)(h:DataW.Trod enc Tryz.prog W 0 (fun _=>true) true 22 v d p):∃(A:Option Addr)(c:Nat)(l:List Int),v=.slice A l.length c∧kZ W A c l:=by
 obtain⟨A0,len,cap,rfl⟩:=okWide_slice Tryz.underlying22 hv;obtain⟨fuel,hf⟩:=h;obtain⟨A,c,l,e,hV⟩:=Ed hf;simp[Value.cells]at e;obtain⟨rfl,rfl,rfl⟩:=e;exact⟨_,_,l,rfl,hV⟩
set_option maxRecDepth 100000 in
set_option maxRecDepth 100000 in
theorem Sj(hv:Value.okWide Tryz.prog W .any base 26 v)(h:DataW.Trod enc Tryz.prog W 0 (fun _=>true) true 26 v d p):∃(n:Int)(lo:List Int)(le:List Ex)(lp:List (Int×Int×Int))(Ao Ae Ap:Option Addr)(co ce cp:Nat),v=nT n lo le lp Ao Ae Ap co ce cp∧Bn W lo le lp Ao Ae Ap co ce cp:=by
 obtain⟨cs,rfl,-⟩:=okWide_struct Tryz.underlying26 hv;obtain⟨fuel,hf⟩:=h;obtain⟨xs,n,hfu,-,hl,hxl,hf⟩:=DataW.trod_struct Tryz.underlying26 hf;rw[show Tryz.prog.cellsOf 26=4 from by kernel_rfl]at hl;obtain⟨l,hcl⟩:∃l:List Value,l=(Value.agg cs).cells.toList:=⟨_,rfl⟩;rw[←hcl]at hl hf
 obtain⟨c0,c1,c2,c3,rfl⟩:∃c0 c1 c2 c3,l=[c0,c1,c2,c3]:=by
  match l,hl with
  |[c0,c1,c2,c3],_=>exact⟨c0,c1,c2,c3,rfl⟩
 obtain⟨y0,y1,y2,y3,rfl⟩:∃y0 y1 y2 y3,xs=[y0,y1,y2,y3]:=by
  match xs,hxl with
  |[c0,c1,c2,c3],_=>exact⟨c0,c1,c2,c3,rfl⟩
 have f0:=hf 0 _ rfl;have f1:=hf 1 _ rfl;have f2:=hf 2 _ rfl;have f3:=hf 3 _ rfl;simp[show Tryz.prog.cellsOf 3=1 from by kernel_rfl,show Tryz.prog.cellsOf 22=1 from by kernel_rfl,show Tryz.prog.cellsOf 23=1 from by kernel_rfl,show Tryz.prog.cellsOf 24=1 from by kernel_rfl]at f0 f1 f2 f3;obtain⟨k,e0,-,-⟩:=DataW.trod_int Tryz.underlying3 f0;obtain⟨Ao,co,lo,e1,ho⟩:=Ed f1;obtain⟨Ae,ce,le,e2,hE⟩:=Si _ _ _ f2;obtain⟨Ap,cp,lp,e3,hp,hpz⟩:=Sg f3
 injection e0 with e0
 injection e1 with e1
 injection e2 with e2
 injection e3 with e3
 subst e0 e1 e2 e3;refine⟨k,lo,le,lp,Ao,Ae,Ap,co,ce,cp,?_,ho,hE,hp,hpz⟩;have hcl:cs.toList=_:=hcl.symm
 have:cs=#[.int .i64 k,.slice Ao lo.length co,.slice Ae le.length ce,.slice Ap lp.length cp]:=by
  rw[←Array.toList_inj,hcl]
 rw[this]
 rfl
end
theorem own:ownKnob Tryz.prog.godebug=none:=by kernel_rfl
theorem laidOut:laidOutB Tryz.prog=true:=by kernel_rfl
end Go.Proofs.YtpijlhlpejlhhaaGreat
