/- A module that came in within the reach. -/
import Derived.Test.YtkhoeoilamddaaaGreatDoorYTrmH
import Derived.Test.YtkhoeoilamddaaaGreatDoorYMwL
import Derived.SizedLaws
namespace Go.Proofs.YtkhoeoilamddaaaGreatDoor
open Go.ChangeShapes Go.WideShapes Go.ChangeAt Go.RowKit
set_option linter.unusedVariables false
set_option maxRecDepth 100000
section
variable {H:Type} {enc:TypeId×Value→H} {P:Program} {w:World} {base:Nat} {spare:Nat→Bool} {held:Bool}
theorem acE{t e:TypeId}{fuel n c:Nat}{A:Option Addr}{cs:List Value}{x:DataW H×List MemPlace}(ht:P.underlying t=some (.slice e))(hB:0<P.bytesOf e)(h:DataW.trod enc P w base spare held fuel t cs=some x)(hw:∀n∈x.1.weights P t,n≤reachBytes)(he:cs=[.slice A n c]):n≤140737488355328:=by
 subst he
 rcases DataW.trod_slice ht h with⟨h1,-⟩|⟨a,len,cap,elems,rest,m,hm,h1,h2,-,-,-,hel,-⟩
 ·injection h1 with h1
  injection h1 with _ h1 _
  omega
 ·injection h1 with h1
  injection h1 with _ h1 _
  have h3:=hw ((elems.length+rest.length)*P.bytesOf e) (by rw[h2];simp[DataW.weights,ht]);have h4:=Nat.le_mul_of_pos_right (elems.length+rest.length) hB;unfold reachBytes at h3;omega
theorem qU{α:Type}{t e:TypeId}{k fuel:Nat}{cs:List Value}{x:DataW H×List MemPlace}{At:World→Nat→Nat→α→Prop}{S:α→Prop}(ht:P.underlying t=some (.slice e))(hc:P.cellsOf e=k)(hB:0<P.bytesOf e)(hk:0<k)
 (hR:∀n b o cs' y,b<w.heap.size→cs'.length=k→(∀i,i<k→w.cell? ⟨b,o+i,none⟩=cs'[i]?)→DataW.trod enc P w base spare held n e cs'=some y→∃a,At w b o a∧S a)
 (h:DataW.trod enc P w base spare held fuel t cs=some x) (hw:∀n∈x.1.weights P t,n≤reachBytes):∃(v:Value)(l:List α),cs=[v]∧fK At k w v l∧(∀a∈l,S a)∧l.length≤140737488355328:=by
 obtain⟨A,c,l,e1,h1,h2,h3⟩:=F8 ht hc hk (fun b o (a:α)=>At w b o a∧S a) (fun n _ b o cs' y h1 h2 h3 h4=>hR n b o cs' y h1 h2 h3 h4) h;refine⟨_,l,e1,⟨A,c,rfl,h1,h2,?_⟩,fun a ha=>?_,acE ht hB h hw e1⟩
 ·rcases h3 with h3|⟨b,o,rfl,hb,h3⟩
  ·exact .inl h3
  ·exact .inr ⟨b,o,rfl,hb,fun j a hj=>by rw[Nat.mul_comm];exact(h3 j a hj).1⟩
 ·rcases h3 with h3|⟨b,o,rfl,hb,h3⟩
  ·rw[h3]at ha;simp at ha
  ·obtain⟨j,hj⟩:=List.mem_iff_getElem?.1 ha;exact(h3 j a hj).2
end
section
variable {H:Type} {enc:TypeId×Value→H} {w:World} {base:Nat} {spare:Nat→Bool} {held:Bool} {n b o:Nat} {cs:List Value} {y:DataW H×List MemPlace}
theorem agN(hcl:cs.length=4)(hc:∀i,i<4→w.cell? ⟨b,o+i,none⟩=cs[i]?)(h:DataW.trod enc Tryz.prog w base spare held n 45 cs=some y):∃a,GN w b o a∧a.name.size≤maxLen:=by
 obtain⟨xs,n,hfu,-,hl,hxl,hf⟩:=DataW.trod_struct Tryz.underlying45 h
 obtain⟨c0,c1,c2,c3,rfl⟩:∃c0 c1 c2 c3,cs=[c0,c1,c2,c3]:=by
  match cs,hcl with
  |[c0,c1,c2,c3],_=>exact⟨c0,c1,c2,c3,rfl⟩
 obtain⟨y0,y1,y2,y3,rfl⟩:∃y0 y1 y2 y3,xs=[y0,y1,y2,y3]:=by
  match xs,hxl with
  |[c0,c1,c2,c3],_=>exact⟨c0,c1,c2,c3,rfl⟩
 have f0:=hf 0 _ rfl;have f1:=hf 1 _ rfl;have f2:=hf 2 _ rfl;have f3:=hf 3 _ rfl;simp[show Tryz.prog.cellsOf 3=1 from by kernel_rfl,show Tryz.prog.cellsOf 9=1 from by kernel_rfl,show Tryz.prog.cellsOf 4=1 from by kernel_rfl]at f0 f1 f2 f3;obtain⟨s,e0,-,hs⟩:=DataW.trod_string Tryz.underlying9 f0;obtain⟨p,e1,-⟩:=DataW.trod_bool Tryz.underlying4 f1;obtain⟨i,e2,-,-⟩:=DataW.trod_int Tryz.underlying3 f2;obtain⟨j,e3,-,-⟩:=DataW.trod_int Tryz.underlying3 f3
 injection e0 with e0
 injection e1 with e1
 injection e2 with e2
 injection e3 with e3
 subst e0 e1 e2 e3;exact⟨⟨s,p,i,j⟩,⟨hc 0 (by decide),hc 1 (by decide),hc 2 (by decide),hc 3 (by decide)⟩,hs⟩
theorem Nv(hc:∀i,i<4→w.cell? ⟨b,o+i,none⟩=cs[i]?)(h:DataW.trod enc Tryz.prog w base spare held n 64 cs=some y):∃a,gB w b o a∧True:=by
 obtain⟨t,A,c,rfl,hV⟩:=Vd _ _ _ h;exact⟨t,gB.mk (hc 0 (by decide)) (hc 1 (by decide)) (hc 2 (by decide)) (hc 3 (by decide)) hV,trivial⟩
theorem abh(hcl:cs.length=5)(hc:∀i,i<5→w.cell? ⟨b,o+i,none⟩=cs[i]?)(h:DataW.trod enc Tryz.prog w base spare held n 74 cs=some y):∃a,uD w b o a∧a.name.size≤maxLen:=by
 obtain⟨xs,n,hfu,-,hl,hxl,hf⟩:=DataW.trod_struct Tryz.underlying74 h
 obtain⟨c0,c1,c2,c3,c4,rfl⟩:∃c0 c1 c2 c3 c4,cs=[c0,c1,c2,c3,c4]:=by
  match cs,hcl with
  |[c0,c1,c2,c3,c4],_=>exact⟨c0,c1,c2,c3,c4,rfl⟩
 obtain⟨y0,y1,rfl⟩:∃y0 y1,xs=[y0,y1]:=by
  match xs,hxl with
  |[c0,c1],_=>exact⟨c0,c1,rfl⟩
 have f0:=hf 0 _ rfl;have f1:=hf 1 _ rfl;simp[show Tryz.prog.cellsOf 64=4 from by kernel_rfl,show Tryz.prog.cellsOf 9=1 from by kernel_rfl]at f0 f1;obtain⟨s,e0,-,hs⟩:=DataW.trod_string Tryz.underlying9 f0
 injection e0 with e0
 subst e0;obtain⟨t,ht,-⟩:=Nv (b:=b) (o:=o+1) (fun i hi=>by rw[Nat.add_assoc,Nat.add_comm 1 i,hc (i+1) (by omega)];simp) f1;exact⟨⟨s,t⟩,⟨hc 0 (by decide),ht⟩,hs⟩
theorem ae2(hcl:cs.length=7)(hc:∀i,i<7→w.cell? ⟨b,o+i,none⟩=cs[i]?)(h:DataW.trod enc Tryz.prog w base spare held n 69 cs=some y):∃a,Fw w b o a∧a.name.size≤maxLen:=by
 obtain⟨xs,n,hfu,-,hl,hxl,hf⟩:=DataW.trod_struct Tryz.underlying69 h
 obtain⟨c0,r,rfl⟩:∃c0 r,cs=c0::r:=by
  match cs,hcl with
  |c0::r,_=>exact⟨c0,r,rfl⟩
 obtain⟨y0,y1,rfl⟩:∃y0 y1,xs=[y0,y1]:=by
  match xs,hxl with
  |[c0,c1],_=>exact⟨c0,c1,rfl⟩
 have f0:=hf 0 _ rfl;have f1:=hf 1 _ rfl;have hr6:r.take 6=r:=List.take_of_length_le (by simp at hcl;omega);simp[show Tryz.prog.cellsOf 67=6 from by kernel_rfl,show Tryz.prog.cellsOf 9=1 from by kernel_rfl,hr6]at f0 f1;obtain⟨s,e0,-,hs⟩:=DataW.trod_string Tryz.underlying9 f0
 injection e0 with e0
 subst e0;obtain⟨t,Ae,ce,A,c,rfl,hV⟩:=ae1 _ _ _ f1;have hc':=fun(i:Nat)(hi:i<6)=>hc (i+1) (by omega);exact⟨⟨s,t⟩,⟨hc 0 (by decide),xS.mk (hc' 0 (by decide)) (hc' 1 (by decide)) (hc' 2 (by decide)) (hc' 3 (by decide)) (hc' 4 (by decide)) (hc' 5 (by decide)) hV⟩,hs⟩
end
section
variable {H:Type} {enc:TypeId×Value→H} {W:World} {base:Nat} {v:Value} {d:DataW H} {p:List MemPlace}
theorem Zq(hv:Value.okWide Tryz.prog W .any base 28 v)(h:DataW.Trod enc Tryz.prog W 0 (fun _=>true) true 28 v d p)(hw:∀n∈d.weights Tryz.prog 28,n≤reachBytes):∃(m:Md)(V:Nat→Value),v=.agg #[V 0,V 1,V 2,V 3,V 4,V 5,V 6,V 7]∧Km W V m∧WZ m∧aa5 m:=by
 obtain⟨cs,rfl,-⟩:=okWide_struct Tryz.underlying28 hv;obtain⟨fuel,h⟩:=h;have h:DataW.trod enc Tryz.prog W 0 (fun _=>true) true fuel 28 cs.toList=some (d,p):=h;obtain⟨xs,n,hfu,hx,hl,hxl,hf⟩:=DataW.trod_struct Tryz.underlying28 h;rw[show Tryz.prog.cellsOf 28=8 from by kernel_rfl]at hl;obtain⟨L,hL⟩:=aj cs.toList;rw[←hL]at hl hf
 obtain⟨c0,c1,c2,c3,c4,c5,c6,c7,rfl⟩:∃c0 c1 c2 c3 c4 c5 c6 c7,L=[c0,c1,c2,c3,c4,c5,c6,c7]:=by
  match L,hl with
  |[c0,c1,c2,c3,c4,c5,c6,c7],_=>exact⟨c0,c1,c2,c3,c4,c5,c6,c7,rfl⟩
 obtain⟨y0,y1,y2,y3,y4,y5,y6,y7,rfl⟩:∃y0 y1 y2 y3 y4 y5 y6 y7,xs=[y0,y1,y2,y3,y4,y5,y6,y7]:=by
  match xs,hxl with
  |[c0,c1,c2,c3,c4,c5,c6,c7],_=>exact⟨c0,c1,c2,c3,c4,c5,c6,c7,rfl⟩
 have f0:=hf 0 _ rfl;have f1:=hf 1 _ rfl;have f2:=hf 2 _ rfl;have f3:=hf 3 _ rfl;have f4:=hf 4 _ rfl;have f5:=hf 5 _ rfl;have f6:=hf 6 _ rfl;have f7:=hf 7 _ rfl;simp[show Tryz.prog.cellsOf 23=1 from by kernel_rfl,show Tryz.prog.cellsOf 24=1 from by kernel_rfl,show Tryz.prog.cellsOf 25=1 from by kernel_rfl,show Tryz.prog.cellsOf 26=1 from by kernel_rfl]at f0 f1 f2 f3 f4 f5 f6 f7
 injection hx with hd hp
 have aJ:∀n,n∈y0.1.weights Tryz.prog 23∨n∈y1.1.weights Tryz.prog 24∨n∈y2.1.weights Tryz.prog 25∨n∈y3.1.weights Tryz.prog 25∨n∈y4.1.weights Tryz.prog 24∨n∈y5.1.weights Tryz.prog 25∨n∈y6.1.weights Tryz.prog 25∨n∈y7.1.weights Tryz.prog 26→n≤reachBytes:=by
  intro n hn
  apply hw
  rw[hd];simp[DataW.weights,Tryz.underlying28,DataW.weightsEach]
  rcases hn with h|h|h|h|h|h|h|h<;>simp[h]
 obtain⟨v0,l0,e0,r0,n0,b0⟩:=qU Tryz.underlying23 (show Tryz.prog.cellsOf 45=4 from by kernel_rfl) (by decide +kernel) (by decide) (fun n b o cs' y _ h1 h2 h3=>agN h1 h2 h3) f0 (fun n hn=>aJ n (by simp[hn]));obtain⟨v1,l1,e1,r1,n1,b1⟩:=qU Tryz.underlying24 (show Tryz.prog.cellsOf 74=5 from by kernel_rfl) (by decide +kernel) (by decide) (fun n b o cs' y _ h1 h2 h3=>abh h1 h2 h3) f1 (fun n hn=>aJ n (by simp[hn]));obtain⟨v2,l2,e2,r2,-,b2⟩:=qU Tryz.underlying25 (show Tryz.prog.cellsOf 64=4 from by kernel_rfl) (by decide +kernel) (by decide) (fun n b o cs' y _ _ h2 h3=>Nv h2 h3) f2 (fun n hn=>aJ n (by simp[hn]));obtain⟨v3,l3,e3,r3,-,b3⟩:=qU Tryz.underlying25 (show Tryz.prog.cellsOf 64=4 from by kernel_rfl) (by decide +kernel) (by decide) (fun n b o cs' y _ _ h2 h3=>Nv h2 h3) f3 (fun n hn=>aJ n (by simp[hn]));obtain⟨v4,l4,e4,r4,n4,b4⟩:=qU Tryz.underlying24 (show Tryz.prog.cellsOf 74=5 from by kernel_rfl) (by decide +kernel) (by decide) (fun n b o cs' y _ h1 h2 h3=>abh h1 h2 h3) f4 (fun n hn=>aJ n (by simp[hn]));obtain⟨v5,l5,e5,r5,-,b5⟩:=qU Tryz.underlying25 (show Tryz.prog.cellsOf 64=4 from by kernel_rfl) (by decide +kernel) (by decide) (fun n b o cs' y _ _ h2 h3=>Nv h2 h3) f5 (fun n hn=>aJ n (by simp[hn]))
 obtain⟨v6,l6,e6,r6,-,b6⟩:=qU Tryz.underlying25 (show Tryz.prog.cellsOf 64=4 from by kernel_rfl) (by decide +kernel) (by decide) (fun n b o cs' y _ _ h2 h3=>Nv h2 h3) f6 (fun n hn=>aJ n (by simp[hn]));obtain⟨v7,l7,e7,r7,n7,b7⟩:=qU Tryz.underlying26 (show Tryz.prog.cellsOf 69=7 from by kernel_rfl) (by decide +kernel) (by decide) (fun n b o cs' y _ h1 h2 h3=>ae2 h1 h2 h3) f7 (fun n hn=>aJ n (by simp[hn]))
 injection e0 with e0
 injection e1 with e1
 injection e2 with e2
 injection e3 with e3
 injection e4 with e4
 injection e5 with e5
 injection e6 with e6
 injection e7 with e7
 subst e0 e1 e2 e3 e4 e5 e6 e7;refine⟨⟨l0,l1,l2,l3,l4,l5,l6,l7⟩,fun k=>[c0,c1,c2,c3,c4,c5,c6,c7].getD k undef,?_,⟨r0,r1,r2,r3,r4,r5,r6,r7⟩,⟨n0,n1,n4,n7⟩,b0,b1,b2,b3,b4,b5,b6,b7⟩;have:cs=#[c0,c1,c2,c3,c4,c5,c6,c7]:=by rw[←Array.toList_inj,←hL]
 rw[this]
 rfl
end
end Go.Proofs.YtkhoeoilamddaaaGreatDoor
