/- Walk: the store's turn. -/
import Derived.Test.YtpijlhlpejlhhaaGreatVStP
namespace Go.Proofs.YtpijlhlpejlhhaaGreat
open Go.RowKit Go.Shelf
set_option linter.unusedVariables false
set_option maxRecDepth 100000
set_option maxHeartbeats 8000000
attribute [local go_sem] Oper.semAt_some
/-- A node that is to be turned,in nine cells. -/
def iA(S:Bd.St)(y t:Nat):List Value:=match S.nd t with
 |some d=>bC S t++[.int .i64 (Bd.aB S.nd d.lo y:Nat),.int .i64 (Bd.aI S.nd d.lo y:Nat),.int .i64 (Bd.aB S.nd d.hi y:Nat),.int .i64 (Bd.aI S.nd d.hi y:Nat)]
 |none=>[]
def Eh(S:Bd.St)(y i:Nat):Bool:=match S.nd i with|some d=>Bd.Ep S.nd y d|none=>false
theorem XL:dS Tryz.prog 228 233 9 72:=dS.mk (z:=.agg #[.int .i64 0,.int .i64 0,.int .i64 0,.int .i64 0,.int .i64 0,.int .i64 0,.int .i64 0,.int .i64 0,.int .i64 0]) (by kernel_rfl) (by kernel_rfl) (by decide) (by decide) rfl
section
variable {sb n room:Nat} {S:Bd.St} {ah:Nat→Nat} {ord:List Nat} {ext:Nat→Int}
theorem JW(hs:Bd.SI n room (fun _=>false) ext S)(hrm:room≤1048576)(he:∀i d,S.nd i=some d→d.v<n∧d.lo<4611686018427387904∧d.hi<4611686018427387904)(hnn:n≤1000000)
 (few:∀v,v<n→Ws (S.tab v)) (K:Nat→Nat) (w:World) (h:dG K w sb n room S ah ord) (x y:Nat) (hx:x<n) (hy:y<n) :
 Calls Tryz.prog 164 #[.pointer (some ⟨sb,0,none⟩),.int .i64 (x:Nat),.int .i64 (y:Nat)] w fun r w'=>Below w.heap.size w w'∧∃v,r=.returned v∧Sl w' 233 9 v (S.turned x y).length (fun j=>iA S y ((S.turned x y).getD j 0))∧∀g n c,v=.slice (some ⟨g,0,none⟩) n c→w.heap.size≤g:=by
 obtain⟨F,HF⟩:=aJ (fun(r:Ending)(w':World)=>Below w.heap.size w w'∧∃v,r=.returned v∧Sl w' 233 9 v (S.turned x y).length (fun j=>iA S y ((S.turned x y).getD j 0))∧∀g n c,v=.slice (some ⟨g,0,none⟩) n c→w.heap.size≤g);rw[←HF];obtain⟨L,h⟩:=h;have y2:w.cell? ⟨sb,2,none⟩=some (.slice (some ⟨L.kE,0,none⟩) n L.qM):=au h.row 2 rfl;have y3:=h.tabs.cell (i:=x) (j:=0) hx (by omega);simp only[Nat.mul_one,Nat.add_zero,List.getElem?_cons_zero]at y3;have lsb:=aV h.row;have ltb:=h.tabs.lt;have hxn:(x:Int)<(n:Int):=by omega
 have HH:=Lib.hid h;have HS:=Lib.hid hs;have HE:=Lib.hid he;have HFW:=Lib.hid few;have hb3:Below w.heap.size w (((w.alloc (.cells #[.pointer (some ⟨sb,0,none⟩)] 113)).alloc (.cells #[.int .i64 (y:Nat)] 3)).alloc (.cells #[.slice none 0 0] 228)):=(((Below.refl _ w).alloc (Nat.le_refl _) _).alloc (by simp) _).alloc (by simp;omega) _;have h3:=h.below hb3;have y2':(((w.alloc (.cells #[.pointer (some ⟨sb,0,none⟩)] 113)).alloc (.cells #[.int .i64 (y:Nat)] 3)).alloc (.cells #[.slice none 0 0] 228)).cell? ⟨sb,2,none⟩=some (.slice (some ⟨L.kE,0,none⟩) n L.qM):=au h3.row 2 rfl;have y3':=h3.tabs.cell (i:=x) (j:=0) hx (by omega);simp only[Nat.mul_one,Nat.add_zero,List.getElem?_cons_zero]at y3';have y1':(((w.alloc (.cells #[.pointer (some ⟨sb,0,none⟩)] 113)).alloc (.cells #[.int .i64 (y:Nat)] 3)).alloc (.cells #[.slice none 0 0] 228)).cell? ⟨w.heap.size,0,none⟩=some (.pointer (some ⟨sb,0,none⟩)):=au ((Below.heap_alloc _ _ _ (by simp;omega)).trans ((Below.heap_alloc _ _ _ (by simp)).trans (heap_alloc_new _ _))) 0 rfl;clear h hs he few h3 hb3;have cE:=E8 (w:=((w.alloc (.cells #[.pointer (some ⟨sb,0,none⟩)] 113)).alloc (.cells #[.int .i64 (y:Nat)] 3)).alloc (.cells #[.slice none 0 0] 228)) (tb:=L.tb x);refine(callsIn_wide (n:=20)).1 (callsIn_of_wp_marks Tryz.func164 rfl trivial ?_ rfl)
 simp only[Tryz.ntmps164,List.size_toArray,List.length_cons,List.length_nil,Nat.reduceAdd,Nat.reduceSub,Array.replicate_succ,Array.replicate_zero,List.push_toArray,List.append_toArray,List.nil_append,List.cons_append]
 gi_wp2_with (refine⟨trivial,?_⟩;gi_at_call 179;refine(callsIn_wide.2 cE).mono ?_;rintro e w' ⟨rfl,rfl⟩)
 obtain⟨W0,hW0⟩:∃W0,(((w.alloc (.cells #[.pointer (some ⟨sb,0,none⟩)] 113)).alloc (.cells #[.int .i64 (y:Nat)] 3)).alloc (.cells #[.slice none 0 0] 228)).alloc (.cells #[.pointer (some ⟨L.tb x,0,none⟩)] 198)=W0:=⟨_,rfl⟩;have hb1:Below w.heap.size w W0:=by rw[←hW0];exact((((Below.refl _ w).alloc (Nat.le_refl _) _).alloc (by simp) _).alloc (by simp only[World.size_alloc];omega) _).alloc (by simp only[World.size_alloc];omega) _
 have hsz:W0.heap.size=w.heap.size+4:=by rw[←hW0];simp
 have o1:W0.heap[w.heap.size]?=some (.cells #[.pointer (some ⟨sb,0,none⟩)] 113 (0,0)):=by
  rw[←hW0];exact(Below.heap_alloc _ _ _ (by simp only[World.size_alloc];omega)).trans ((Below.heap_alloc _ _ _ (by simp only[World.size_alloc];omega)).trans ((Below.heap_alloc _ _ _ (by simp)).trans (heap_alloc_new _ _)))
 have o2:W0.heap[w.heap.size+1]?=some (.cells #[.int .i64 (y:Nat)] 3 (0,0)):=by
  rw[←hW0];exact(Below.heap_alloc _ _ _ (by simp only[World.size_alloc];omega)).trans ((Below.heap_alloc _ _ _ (by simp)).trans (aL (by simp)))
 have o3:W0.heap[w.heap.size+1+1]?=some (.cells #[.slice none 0 0] 228 (0,0)):=by
  rw[←hW0];exact(Below.heap_alloc _ _ _ (by simp)).trans (aL (by simp))
 have o4:W0.heap[w.heap.size+1+1+1]?=some (.cells #[.pointer (some ⟨L.tb x,0,none⟩)] 198 (0,0)):=by
  rw[←hW0];exact aL (by simp)
 rw[hW0];clear hW0 cE y2' y3' y1';have hTB:=(HH.below hb1).tab x hx;have htb:=aV (HH.tab x hx).row
 have hmb:L.mb x<w.heap.size:=by
  obtain⟨c,hm⟩:=(HH.tab x hx).map;exact hm.lt
 have HO:=Lib.hid (And.intro o1 (And.intro o2 (And.intro o3 o4)));have HB1:=Lib.hid hb1;have HTB:=Lib.hid hTB;have Ux:gW 228 233 9 (w.heap.size+4) (w.heap.size+1+1) W0 W0 0 (fun j=>iA S y (([]:List Nat).getD j 0)):=⟨⟨_,o3,Sl.nil,fun g n c e=>by cases e⟩,Only.refl,by omega⟩;have hkx:∀i z,(qR S x)[i]?=some z→z<S.N∧∃d,S.nd z=some d∧d.v=x:=fun i z hz=>uM.1 (List.mem_of_getElem? hz)
 have hfx:∀i X,((qR S x).map (qU S))[i]?=some X→∃z,(qR S x)[i]?=some z∧X=qU S z∧(dY (S.tab x) (kv X)).getD 0=(z:Int):=fun i X hX=>by
  rw[List.getElem?_map]at hX
  cases hz:(qR S x)[i]? with
  |none=>rw[hz]at hX;cases hX
  |some z=>
   rw[hz]at hX;obtain⟨h1,d,hd,hv⟩:=hkx i z hz;obtain rfl:qU S z=X:=by simpa using hX
   exact⟨z,hz,rfl,by rw[Aq HS hx hd hv ⟨(HE z d hd).2.1,(HE z d hd).2.2⟩];rfl⟩
 have HKX:=Lib.hid (And.intro hkx hfx);clear o1 o2 o3 o4 hb1 hTB hkx hfx
 refine ET (w0:=W0) (gf:=189) (lb:=#[.pointer (some ⟨w.heap.size+1+1+1,0,none⟩)]) rfl (enters_of Tryz.func189 (by kernel_rfl) rfl)
  (QB (p:=SC (w.heap.size+4) (w.heap.size+1+1) 228 233) HTB (HFW x hx) (by omega) HO.2.2.2 (lX (by omega) (by omega)) (lX (by omega) (by omega)) (lX (by omega) (by omega) _) (fun k v z hk=>Am (by omega) (by decide) (by decide)) ((qR S x).map (qU S)) (NJ HS hx HE) (Fb HS hx HE) (JV HS hx HE))
  (by omega) (Below.refl _ _) (fun _=>rfl) (fun k o hk ho=>Aj (by omega) ho)
  (fun i wr=>gW 228 233 9 (w.heap.size+4) (w.heap.size+1+1) W0 wr (((qR S x).take i).filter (Eh S y)).length (fun j=>iA S y ((((qR S x).take i).filter (Eh S y)).getD j 0))) ?own ?start
  (fun i a' wr=>∃z,(qR S x)[i]?=some z∧a'={tmps:=#[.pointer (some ⟨sb,0,none⟩),.int .i64 (x:Nat),.int .i64 (y:Nat),.pointer (some ⟨w.heap.size,0,none⟩),undef,.pointer (some ⟨w.heap.size+1,0,none⟩),.slice none 0 0,.pointer (some ⟨w.heap.size+1+1,0,none⟩),undef,.int .i64 (z:Nat),undef,undef,undef,.pointer (some ⟨sb,0,none⟩),.pointer (some ⟨sb,0,none⟩),.pointer (some ⟨sb,2,none⟩),.slice (some ⟨L.kE,0,none⟩) n L.qM,.int .i64 (x:Nat),.pointer (some ⟨L.kE,x,none⟩),.pointer (some ⟨L.tb x,0,none⟩),.func (.func 189) #[] #[.pointer (some ⟨w.heap.size+1+1+1,0,none⟩)],gQ (kv (qU S z)),.int .i64 (z:Nat),undef,undef,undef,undef,undef,undef,undef,undef,undef,undef,undef,undef,undef,undef,undef,undef,undef,undef,undef,undef,undef,undef,undef,undef,undef,undef,undef,undef,undef,undef,undef,undef,undef,undef,undef,undef,undef,undef,undef,undef,undef,undef,undef,undef,undef,undef,undef,undef],defers:=[]})
  ?Nv ?assign ?body ?done
 case own=>exact fun s A B row hs hg hr=>hs.grown hsz hg (fun r e=>⟨by have:=(hr r e).1;omega,(hr r e).2⟩)
 case start=>exact fun Y hY=>Ux.far hY hsz
 case Nv=>exact fun i a' _ _ _ _ hs _ _=>hs
 case assign=>
  rintro l i X W2 G hX hI hG;obtain⟨z,hz,rfl,hv⟩:=HKX.2 i X hX;rw[hv]
  gi_wp2
  exact hG _ _ Kx.refl hI ⟨z,hz,rfl⟩
 case body=>
  rintro l i X a' W2 hX hI ⟨z,hz,rfl⟩;obtain⟨hzN,d,hd,hv⟩:=HKX.1 i z hz;obtain⟨ev,Lu,Lv⟩:=HE z d hd;have hon:=hI.only;have hb2:Below w.heap.size w W2:=⟨hon.os.trans HB1.os,hon.tape.trans HB1.tape,hon.output.trans HB1.output,Nat.le_trans HB1.size hon.size,fun q hq=>(hon.block q (by omega) (by omega)).trans (HB1.block q hq)⟩;have hSt:=HH.below hb2;have x1:W2.heap[w.heap.size]?=some (.cells #[.pointer (some ⟨sb,0,none⟩)] 113 (0,0)):=(hon.block _ (by omega) (by omega)).trans HO.1;have x2:W2.heap[w.heap.size+1]?=some (.cells #[.int .i64 (y:Nat)] 3 (0,0)):=(hon.block _ (by omega) (by omega)).trans HO.2.1;have m1:W2.cell? ⟨w.heap.size,0,none⟩=some (.pointer (some ⟨sb,0,none⟩)):=au x1 0 rfl;have m3:W2.cell? ⟨sb,1,none⟩=some (.pointer (some ⟨L.pb,0,none⟩)):=au hSt.row 1 rfl;have cA:=Hw hSt.pool z (by have:=HS.Nr;omega);have hzb:z<4611686018427387904:=by have:=HS.Nr;omega
  have XI:=Lib.hid (show bC S z=[.int .i64 (z:Nat),.int .i64 (d.v:Nat),.int .i64 (d.lo:Nat),.int .i64 (d.hi:Nat),.int .i64 (S.refs z:Nat)]from by unfold bC;rw[hd]);rw[XI]at cA;obtain⟨v,e1,e2,e3⟩:=hI.ex;have HX2:=Lib.hid (And.intro hb2 (And.intro x1 x2));have XM:=Lib.hid (And.intro e1 (And.intro e2 e3));have HDD:=Lib.hid (And.intro hz (And.intro hd (And.intro hv ev)));have HI:=Lib.hid hI;have lw2:w.heap.size+4≤W2.heap.size:=by rw[←hsz];exact hon.size
  clear hI hon hb2 hSt x1 x2 e1 e2 e3 hd hv ev hz hX;have he2:∀i d,S.nd i=some d→d.lo<4611686018427387904∧d.hi<4611686018427387904:=fun i d hd=>(HE i d hd).2;have HE2:=Lib.hid he2;clear he2
  have hC3:∀W3,Below W2.heap.size W2 W3→W3.cell? ⟨w.heap.size,0,none⟩=some (.pointer (some ⟨sb,0,none⟩))∧W3.cell? ⟨w.heap.size+1,0,none⟩=some (.int .i64 (y:Nat))∧w.heap.size+4≤W3.heap.size∧w.heap.size<W3.heap.size∧w.heap.size+1<W3.heap.size:=fun W3 hb=>
   ⟨au ((hb.block _ (by omega)).trans HX2.2.1) 0 rfl,au ((hb.block _ (by omega)).trans HX2.2.2) 0 rfl,Nat.le_trans lw2 hb.size,by have:=hb.size;omega,by have:=hb.size;omega⟩
  have cS:∀W',Below W2.heap.size W2 W'→∀e,e<4611686018427387904→Calls Tryz.prog 180 #[.pointer (some ⟨sb,0,none⟩),.int .i64 (e:Nat),.int .i64 (y:Nat)] W' fun x w'=>x=.returned (.tuple #[.int .i64 (Bd.aB S.nd e y:Nat),.int .i64 (Bd.aI S.nd e y:Nat)])∧Below W'.heap.size W' w':=fun W' hb e he=>
   ER (HH.below (HX2.1.trans (hb.mono HX2.1.size))) HE2 e y he
  have Pq:=Lib.hid cS;clear cS
  gi_wp2_with (refine⟨trivial,?_⟩;gi_at_call 123;refine((callsIn_wide.2 cA).inRound l).mono ?_;rintro r W3 ⟨rfl,hb3⟩;obtain⟨q1,q2,q3,q4,q5⟩:=hC3 _ hb3;have HB3:=Lib.hid hb3;clear hb3 cA)
  have hb5:Below W2.heap.size W2 ((W3.alloc (.cells #[.int .i64 (z:Nat),.int .i64 (d.v:Nat),.int .i64 (d.lo:Nat),.int .i64 (d.hi:Nat),.int .i64 (S.refs z:Nat)] 171)).alloc (.cells #[.int .i64 (z:Nat),.int .i64 (d.v:Nat),.int .i64 (d.lo:Nat),.int .i64 (d.hi:Nat),.int .i64 (S.refs z:Nat),.int .i64 0,.int .i64 0,.int .i64 0,.int .i64 0] 233)):=
   (HB3.alloc HB3.size _).alloc (by simp only[World.size_alloc];have:=HB3.size;omega) _
  have n10:((W3.alloc (.cells #[.int .i64 (z:Nat),.int .i64 (d.v:Nat),.int .i64 (d.lo:Nat),.int .i64 (d.hi:Nat),.int .i64 (S.refs z:Nat)] 171)).alloc (.cells #[.int .i64 (z:Nat),.int .i64 (d.v:Nat),.int .i64 (d.lo:Nat),.int .i64 (d.hi:Nat),.int .i64 (S.refs z:Nat),.int .i64 0,.int .i64 0,.int .i64 0,.int .i64 0] 233)).heap[W3.heap.size]?=some (.cells #[.int .i64 (z:Nat),.int .i64 (d.v:Nat),.int .i64 (d.lo:Nat),.int .i64 (d.hi:Nat),.int .i64 (S.refs z:Nat)] 171 (0,0)):=(Below.heap_alloc _ _ _ (by simp)).trans (heap_alloc_new _ _);have n12:((W3.alloc (.cells #[.int .i64 (z:Nat),.int .i64 (d.v:Nat),.int .i64 (d.lo:Nat),.int .i64 (d.hi:Nat),.int .i64 (S.refs z:Nat)] 171)).alloc (.cells #[.int .i64 (z:Nat),.int .i64 (d.v:Nat),.int .i64 (d.lo:Nat),.int .i64 (d.hi:Nat),.int .i64 (S.refs z:Nat),.int .i64 0,.int .i64 0,.int .i64 0,.int .i64 0] 233)).heap[W3.heap.size+1]?=some (.cells #[.int .i64 (z:Nat),.int .i64 (d.v:Nat),.int .i64 (d.lo:Nat),.int .i64 (d.hi:Nat),.int .i64 (S.refs z:Nat),.int .i64 0,.int .i64 0,.int .i64 0,.int .i64 0] 233 (0,0)):=aL (by simp);refine⟨trivial,?_⟩;refine((callsIn_wide.2 (Pq _ hb5 d.lo Lu)).inRound l).mono ?_;rintro r W6 ⟨rfl,hb6⟩;have p10:=(hb6.block _ (aV n10)).trans n10;have Iq:=(hb6.block _ (aV n12)).trans n12;have BH:=Lib.hid (hb5.trans (hb6.mono hb5.size));clear hb5 n10 n12 hb6 q1 q2
  have u1:W6.cell? ⟨w.heap.size,0,none⟩=some (.pointer (some ⟨sb,0,none⟩)):=(hC3 _ BH).1;have u2:W6.cell? ⟨w.heap.size+1,0,none⟩=some (.int .i64 (y:Nat)):=(hC3 _ BH).2.1;have u3:W6.cell? ⟨W3.heap.size,3,none⟩=some (.int .i64 (d.hi:Nat)):=au p10 3 rfl;have u5:W6.cell? ⟨W3.heap.size+1,5,none⟩=some (.int .i64 0):=au Iq 5 rfl;have u6:W6.cell? ⟨W3.heap.size+1,6,none⟩=some (.int .i64 0):=au Iq 6 rfl;have uf:∀o,W6.frozen? ⟨W3.heap.size+1,o,none⟩=false:=jv Iq;have l6:=aV Iq;have g1:W3.heap.size≠W3.heap.size+1:=by omega
  have g2:w.heap.size≠W3.heap.size+1:=by omega
  have g3:w.heap.size+1≠W3.heap.size+1:=by omega
  have HP6:=Lib.hid (And.intro p10 Iq);clear p10 Iq
  gi_wp2
  obtain⟨W7,xD⟩:∃W7,(W6.setCell ⟨W3.heap.size+1,5,none⟩ (.int .i64 (Bd.aB S.nd d.lo y:Nat))).setCell ⟨W3.heap.size+1,6,none⟩ (.int .i64 (Bd.aI S.nd d.lo y:Nat))=W7:=⟨_,rfl⟩
  have Ir:W7.heap[W3.heap.size+1]?=some (.cells #[.int .i64 (z:Nat),.int .i64 (d.v:Nat),.int .i64 (d.lo:Nat),.int .i64 (d.hi:Nat),.int .i64 (S.refs z:Nat),.int .i64 (Bd.aB S.nd d.lo y:Nat),.int .i64 (Bd.aI S.nd d.lo y:Nat),.int .i64 0,.int .i64 0] 233 (0,0)):=by
   rw[←xD];exact aH (aH HP6.2 _) _
  have kH:Below W2.heap.size W2 W7:=by
   have:=HB3.size;rw[←xD];exact(BH.setCell (p:=⟨W3.heap.size+1,5,none⟩) (by show _≤W3.heap.size+1;omega) _).setCell (p:=⟨W3.heap.size+1,6,none⟩) (by show _≤W3.heap.size+1;omega) _
  rw[xD];clear xD u1 u2 u3 u5 u6 uf l6;refine⟨trivial,?_⟩;refine((callsIn_wide.2 (Pq _ kH d.hi Lv)).inRound l).mono ?_;rintro r W8 ⟨rfl,gY⟩;have Iq:=(gY.block _ (aV Ir)).trans Ir;have UC:=Lib.hid (kH.trans (gY.mono kH.size));clear Ir kH gY;have u7:W8.cell? ⟨W3.heap.size+1,7,none⟩=some (.int .i64 0):=au Iq 7 rfl;have u8:W8.cell? ⟨W3.heap.size+1,8,none⟩=some (.int .i64 0):=au Iq 8 rfl;have uf:∀o,W8.frozen? ⟨W3.heap.size+1,o,none⟩=false:=jv Iq;have l8:=aV Iq;obtain⟨W9,hW9⟩:∃W9,(W8.setCell ⟨W3.heap.size+1,7,none⟩ (.int .i64 (Bd.aB S.nd d.hi y:Nat))).setCell ⟨W3.heap.size+1,8,none⟩ (.int .i64 (Bd.aI S.nd d.hi y:Nat))=W9:=⟨_,rfl⟩
  have Ir:W9.heap[W3.heap.size+1]?=some (.cells #[.int .i64 (z:Nat),.int .i64 (d.v:Nat),.int .i64 (d.lo:Nat),.int .i64 (d.hi:Nat),.int .i64 (S.refs z:Nat),.int .i64 (Bd.aB S.nd d.lo y:Nat),.int .i64 (Bd.aI S.nd d.lo y:Nat),.int .i64 (Bd.aB S.nd d.hi y:Nat),.int .i64 (Bd.aI S.nd d.hi y:Nat)] 233 (0,0)):=by
   rw[←hW9];exact aH (aH Iq _) _
  have tX:Below W2.heap.size W2 W9:=by
   have:=HB3.size;rw[←hW9];exact(UC.setCell (p:=⟨W3.heap.size+1,7,none⟩) (by show _≤W3.heap.size+1;omega) _).setCell (p:=⟨W3.heap.size+1,8,none⟩) (by show _≤W3.heap.size+1;omega) _
  have v0:W9.cell? ⟨W3.heap.size+1,0,none⟩=some (.int .i64 (z:Nat)):=au Ir 0 rfl;have v1:W9.cell? ⟨W3.heap.size+1,1,none⟩=some (.int .i64 (d.v:Nat)):=au Ir 1 rfl;have v2:W9.cell? ⟨W3.heap.size+1,2,none⟩=some (.int .i64 (d.lo:Nat)):=au Ir 2 rfl;have v3:W9.cell? ⟨W3.heap.size+1,3,none⟩=some (.int .i64 (d.hi:Nat)):=au Ir 3 rfl;have v4:W9.cell? ⟨W3.heap.size+1,4,none⟩=some (.int .i64 (S.refs z:Nat)):=au Ir 4 rfl;have v5:W9.cell? ⟨W3.heap.size+1,5,none⟩=some (.int .i64 (Bd.aB S.nd d.lo y:Nat)):=au Ir 5 rfl;have v6:W9.cell? ⟨W3.heap.size+1,6,none⟩=some (.int .i64 (Bd.aI S.nd d.lo y:Nat)):=au Ir 6 rfl;have v7:W9.cell? ⟨W3.heap.size+1,7,none⟩=some (.int .i64 (Bd.aB S.nd d.hi y:Nat)):=au Ir 7 rfl;have v8:W9.cell? ⟨W3.heap.size+1,8,none⟩=some (.int .i64 (Bd.aI S.nd d.hi y:Nat)):=au Ir 8 rfl;have v9:W9.cell? ⟨w.heap.size+1+1,0,none⟩=some v:=au ((tX.block _ (by omega)).trans XM.1) 0 rfl;have l9:=tX.size;have Pt:=Lib.hid tX;have HV9:=Lib.hid Iq;clear tX Ir Iq hC3
  have hlen:(((qR S x).take i).filter (Eh S y)).length<1073741824:=by
   have h1:(((qR S x).take i).filter (Eh S y)).length≤S.N:=by
    refine Nat.le_trans (List.length_filter_le _ _) (Nat.le_trans (List.length_take_le' _ _) ?_);unfold qR;exact Nat.le_trans (List.length_filter_le _ _) (by simp)
   have:=HS.Nr;omega
  have hnext:((qR S x).take (i+1)).filter (Eh S y)=if Eh S y z=true then((qR S x).take i).filter (Eh S y)++[z]else((qR S x).take i).filter (Eh S y):=by
   rw[List.take_add_one,HDD.1,List.filter_append]
   by_cases e:Eh S y z=true
   ·simp[e]
   ·simp[e]
  have Fg:Eh S y z=Bd.Ep S.nd y d:=by unfold Eh;rw[HDD.2.1]
  unfold Bd.Ep at Fg
  have XP:iA S y z=[.int .i64 (z:Nat),.int .i64 (d.v:Nat),.int .i64 (d.lo:Nat),.int .i64 (d.hi:Nat),.int .i64 (S.refs z:Nat),.int .i64 (Bd.aB S.nd d.lo y:Nat),.int .i64 (Bd.aI S.nd d.lo y:Nat),.int .i64 (Bd.aB S.nd d.hi y:Nat),.int .i64 (Bd.aI S.nd d.hi y:Nat)]:=by
   unfold iA;rw[HDD.2.1,XI]
   rfl
  generalize hR:((qR S x).take i).filter (Eh S y)=R at *
  generalize Bd.aB S.nd d.lo y=a1 at *
  generalize Bd.aI S.nd d.lo y=a2 at *
  generalize Bd.aB S.nd d.hi y=a3 at *
  generalize Bd.aI S.nd d.hi y=a4 at *
  by_cases e1:a1=a2
  ·subst e1
   by_cases e2:a3=a4
   ·subst e2;have hN:((qR S x).take (i+1)).filter (Eh S y)=R:=by rw[hnext,if_neg (by rw[Fg];simp)]
    clear hnext Fg XP;have hfin:Kx (SC (w.heap.size+4) (w.heap.size+1+1) 228 233) W2 W9∧gW 228 233 9 (w.heap.size+4) (w.heap.size+1+1) W0 W9 R.length (fun j=>iA S y (R.getD j 0)):=⟨Kx.below Pt,HI.below hsz Pt⟩;have XQ:=Lib.hid hfin;clear hfin
    gi_wp2
    all_goals (simpa using XQ.out)
   ·have hN:((qR S x).take (i+1)).filter (Eh S y)=R++[z]:=by rw[hnext,if_pos (by rw[Fg];simp[e2])]
    have t1:(((a3:Nat):Int) != ((a4:Nat):Int))=true:=by simp;omega
    have Lx:=Lib.hid XP;clear hnext Fg XP;have Dh:∀o,Sl (W9.alloc o) 233 9 v R.length (fun j=>iA S y (R.getD j 0)):=fun o=>XM.2.1.kept (fun g m c e hg=>((Pt.alloc Pt.size o).block g hg));have hstep:=fun o g4 c4 W4 cs hq=>HI.step (v:=v) (g:=g4) (cap:=c4) (Wa:=W9.alloc o) (W4:=W4) (cs:=cs) hsz XM.1 (Pt.alloc Pt.size o) hq;have hnw:∀o:Obj,(W9.alloc o).heap[W9.heap.size]?=some o:=fun o=>heap_alloc_new _ _;have h1c:∀u∈(#[.int .i64 (z:Nat),.int .i64 (d.v:Nat),.int .i64 (d.lo:Nat),.int .i64 (d.hi:Nat),.int .i64 (S.refs z:Nat),.int .i64 (a1:Nat),.int .i64 (a1:Nat),.int .i64 (a3:Nat),.int .i64 (a4:Nat)]:Array Value).toList,u.oneCell'=true:=by simp[Value.oneCell']
    gi_wp2_with (gi_at_builtin;apply gu _ rfl _ _ _ rfl XL rfl (Dh _) rfl (hnw _) rfl h1c hlen;intro g4 c4 W4 hq;obtain⟨s1,s2,s3⟩:=hstep _ _ _ _ _ hq;have q4:=au s3 0 rfl;have fr4:=jv s3;have XH:=Lib.hid (And.intro s1 s2);clear s1 s2 hq hstep)
    ·obtain⟨r1,r2⟩:=XH.out
     have hgoal:=And.intro r2 (r1.congr (E':=fun j=>iA S y ((R++[z]).getD j 0)) (fun j hj=>by
      by_cases e:j=R.length
      ·subst e;rw[if_pos rfl,show(R++[z]).getD R.length 0=z from by simp[List.getD]];exact Lx
      ·rw[if_neg e,show(R++[z]).getD j 0=R.getD j 0 from by simp[List.getD,List.getElem?_append,show j<R.length by omega]]))
     simpa using hgoal
    all_goals exact 0
  ·have hN:((qR S x).take (i+1)).filter (Eh S y)=R++[z]:=by rw[hnext,if_pos (by rw[Fg];simp[e1])]
   have t1:(((a1:Nat):Int) != ((a2:Nat):Int))=true:=by simp;omega
   have Lx:=Lib.hid XP;clear hnext Fg XP;have Dh:∀o,Sl (W9.alloc o) 233 9 v R.length (fun j=>iA S y (R.getD j 0)):=fun o=>XM.2.1.kept (fun g m c e hg=>((Pt.alloc Pt.size o).block g hg));have hstep:=fun o g4 c4 W4 cs hq=>HI.step (v:=v) (g:=g4) (cap:=c4) (Wa:=W9.alloc o) (W4:=W4) (cs:=cs) hsz XM.1 (Pt.alloc Pt.size o) hq;have hnw:∀o:Obj,(W9.alloc o).heap[W9.heap.size]?=some o:=fun o=>heap_alloc_new _ _;have h1c:∀u∈(#[.int .i64 (z:Nat),.int .i64 (d.v:Nat),.int .i64 (d.lo:Nat),.int .i64 (d.hi:Nat),.int .i64 (S.refs z:Nat),.int .i64 (a1:Nat),.int .i64 (a2:Nat),.int .i64 (a3:Nat),.int .i64 (a4:Nat)]:Array Value).toList,u.oneCell'=true:=by simp[Value.oneCell']
   gi_wp2_with (gi_at_builtin;apply gu _ rfl _ _ _ rfl XL rfl (Dh _) rfl (hnw _) rfl h1c hlen;intro g4 c4 W4 hq;obtain⟨s1,s2,s3⟩:=hstep _ _ _ _ _ hq;have q4:=au s3 0 rfl;have fr4:=jv s3;have XH:=Lib.hid (And.intro s1 s2);clear s1 s2 hq hstep)
   ·obtain⟨r1,r2⟩:=XH.out
    have hgoal:=And.intro r2 (r1.congr (E':=fun j=>iA S y ((R++[z]).getD j 0)) (fun j hj=>by
     by_cases e:j=R.length
     ·subst e;rw[if_pos rfl,show(R++[z]).getD R.length 0=z from by simp[List.getD]];exact Lx
     ·rw[if_neg e,show(R++[z]).getD j 0=R.getD j 0 from by simp[List.getD,List.getElem?_append,show j<R.length by omega]]))
    simpa using hgoal
   all_goals exact 0
 case done=>
  rintro D W2 hD hI hK;rw[List.length_map,List.take_length]at hI;have hT:(qR S x).filter (Eh S y)=S.turned x y:=Fe S x y;rw[hT]at hI;obtain⟨v,e1,e2,e3⟩:=hI.ex;have m9:W2.cell? ⟨w.heap.size+1+1,0,none⟩=some v:=au e1 0 rfl;have hon:=hI.only
  gi_wp2
  refine⟨by simp,.inl ⟨_,_,rfl,run_takeDeferred hK,?_⟩⟩;refine⟨_,results_tmp rfl _ _ _,?_⟩;rw[HF];have hdl:=aV hK;have hsz2:=hon.size;have hb2:Below w.heap.size w (W2.putObj D (.deferred none)):=⟨hon.os.trans HB1.os,hon.tape.trans HB1.tape,hon.output.trans HB1.output,by simp;omega,fun q hq=>(World.putObj_heap_other (by omega)).trans ((hon.block q (by omega) (by omega)).trans (HB1.block q hq))⟩;refine⟨hb2,v,rfl,?_,fun g n c e=>Nat.le_trans (by omega) (e3 g n c e)⟩;refine e2.kept (fun g m c e hg=>World.putObj_heap_other (fun e9=>?_));obtain⟨-,cs,z,h6⟩:=e2.blk (q:=g) (by rw[e];rfl);rw[e9,hK]at h6;cases h6
end
end Go.Proofs.YtpijlhlpejlhhaaGreat
