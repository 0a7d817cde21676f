/- Walk: ref34.Few. -/
import Derived.Test.YtkhoeoilamddaaaGreatDoorYMwH
namespace Go.Proofs.YtkhoeoilamddaaaGreatDoor
open Go.RowKit
set_option linter.unusedVariables false
set_option linter.unusedSimpArgs false
set_option maxRecDepth 100000
set_option maxHeartbeats 16000000
theorem aa4{o:Array Oper}{i:Nat}{x:Oper}(h:o.toList[i]?=some x):o[i]?=some x:=by simpa using h
abbrev PW:=@q8
structure PX(m:Md):Prop where
 len:m.vars.length≤600∧m.defs.length≤600∧m.init.length≤600∧m.bF.length≤600∧m.next.length≤600∧m.trans.length≤600∧m.fair.length≤600∧m.specs.length≤600
 defs:∀d∈m.defs,d.tm.size≤600
 init:∀t∈m.init,t.size≤600
 bF:∀t∈m.bF,t.size≤600
 next:∀d∈m.next,d.tm.size≤600
 trans:∀t∈m.trans,t.size≤600
 fair:∀t∈m.fair,t.size≤600
 specs:∀s∈m.specs,s.fm.bT≤600
def aa5(m:Md):Prop:=m.vars.length≤140737488355328∧m.defs.length≤140737488355328∧m.init.length≤140737488355328∧m.bF.length≤140737488355328∧m.next.length≤140737488355328∧m.trans.length≤140737488355328∧m.fair.length≤140737488355328∧m.specs.length≤140737488355328
theorem ahY:(Tryz.prog.info? 64).map (fun i=>(i.zero,i.size,i.bytes))=some (some (.agg #[.int .i64 0,.int .i64 0,.string ⟨#[]⟩,.slice none 0 0]),4,56):=by kernel_rfl
structure SN(w0 W:World)(v:Value)(es:List jo):Prop where
 own:W.ownsRow w0.heap.size 64 4 v es.length (bY es)
 val:∀e∈es,zx w0 e.A e.c e.t
 mW:Below w0.heap.size w0 W
theorem SN.below{w0 W W':World}{v:Value}{es:List jo}(h:SN w0 W v es)(hb:Below W.heap.size W W'):SN w0 W' v es:=⟨TW h.own (fun q hq=>hb.block q (h.own.lt q hq).2),h.val,h.mW.trans (hb.mono h.mW.size)⟩
theorem SN.drewN{w0 W:World}{v:Value}{es:List jo}(h:SN w0 W v es)(n:Nat):SN w0 (W.drewN n) v es:=⟨h.own,h.val,QX h.mW n⟩
theorem M6:∀{l:List jo} {j i:Nat} {e:jo} {v:Value},l[j]?=some e→e.cells[i]?=some v→(bY l)[j*4+i]?=some v
 |x::r,0,i,e,v,hj,hi=>by
  simp at hj;subst hj;rw[show bY (x::r)=x.cells++bY r from rfl,Nat.zero_mul,Nat.zero_add,List.getElem?_append_left (gE.1 hi).1];exact hi
 |x::r,j+1,i,e,v,hj,hi=>by
  rw[show bY (x::r)=x.cells++bY r from rfl,List.getElem?_append_right (by show 4≤_;omega),show(j+1)*4+i-x.cells.length=j*4+i by show(j+1)*4+i-4=_;omega];exact M6 (by simpa using hj) hi
 |[],_,_,_,_,hj,_=>by simp at hj
theorem DZ(l:List jo):∀u∈bY l,u.oneCell'=true:=fun u hu=>by
 obtain⟨e,-,he⟩:=List.mem_flatMap.1 hu;simp[jo.cells]at he
 rcases he with rfl|rfl|rfl|rfl<;>rfl
theorem ahZ{w:World}{g o:Nat}:∀{l:List Tm},(∀j t,l[j]?=some t→gB w g (o+j*4) t)→∃es:List jo,es.map jo.t=l∧(∀e∈es,zx w e.A e.c e.t)∧∀j e,es[j]?=some e→∀i v,e.cells[i]?=some v→w.cell? ⟨g,o+j*4+i,none⟩=some v:=by
 intro l
 induction l generalizing o with
 |nil=>exact fun _=>⟨[],rfl,by simp,by simp⟩
 |cons t r ih=>
  intro h;obtain⟨es,h1,h2,h3⟩:=ih (o:=o+4) (fun j t hj=>by rw[show o+4+j*4=o+(j+1)*4 by omega];exact h (j+1) t (by simpa using hj));obtain⟨x0,x1,x2,A,c,x3,hv⟩:=(h 0 t rfl).open;refine⟨⟨t,A,c⟩::es,by simp[h1],fun e he=>?_,fun j e hj i v hi=>?_⟩
  ·rcases List.mem_cons.1 he with rfl|he
   ·exact hv
   ·exact h2 e he
  ·cases j with
   |zero=>
    simp at hj;subst hj;rw[Nat.zero_mul,Nat.add_zero]at *
    match i,hi with
    |0,hi=>simp[jo.cells]at hi;subst hi;exact x0
    |1,hi=>simp[jo.cells]at hi;subst hi;exact x1
    |2,hi=>simp[jo.cells]at hi;subst hi;exact x2
    |3,hi=>simp[jo.cells]at hi;subst hi;exact x3
    |i+4,hi=>simp[jo.cells]at hi
   |succ j=>
    rw[show o+(j+1)*4+i=o+4+j*4+i by omega];exact h3 j e (by simpa using hj) i v hi
theorem ab_(a b:List jo):bY (a++b)=bY a++bY b:=by simp[bY]
theorem SN.app{w0 W W':World}{v v':Value}{es fs:List jo}{n:Nat}(h:SN w0 W v es)(hown:W'.ownsRow w0.heap.size 64 4 v' n (bY es++bY fs))(hn:n=(es++fs).length)(hg:W.grownBy W' v.ownBlock)(hf:∀e∈fs,zx w0 e.A e.c e.t):SN w0 W' v' (es++fs):=
 ⟨by rw[ab_,←hn];exact hown,fun e he=>(List.mem_append.1 he).elim (h.val e) (hf e),h.mW.grown hg h.mW.size (fun q hq=>(h.own.lt q hq).1)⟩
def allT(m:Md):List Tm:=m.defs.map Df.tm++m.next.map Df.tm++m.init++m.bF++m.trans++m.fair
theorem ah0{m:Md}{T x y:Int}(hT:T=m.vars.length+m.defs.length+m.init.length+m.bF.length+m.next.length+m.trans.length+m.fair.length+m.specs.length)(hx:x≤600→x=T+Tm.aA (allT m))(hxy:x≤y)(hy:y=x+Fm.iK (m.specs.map Sp.fm))(hy6:y≤600):PX m:=by
 have hx2:=hx (by omega);have h0:∀t∈allT m,t.size≤600:=fun t ht=>by have:=Tm.aM ht;omega
 have h1:∀s∈m.specs,s.fm.bT≤600:=fun s hs=>by have:=Fm.Fq (List.mem_map_of_mem (f:=Sp.fm) hs);omega
 have hm:∀t,t∈allT m↔(∃d∈m.defs,d.tm=t)∨(∃d∈m.next,d.tm=t)∨t∈m.init∨t∈m.bF∨t∈m.trans∨t∈m.fair:=fun t=>by simp[allT]
 exact⟨by omega,fun d hd=>h0 _ ((hm _).2 (.inl ⟨d,hd,rfl⟩)),fun t ht=>h0 _ ((hm _).2 (.inr (.inr (.inl ht)))),fun t ht=>h0 _ ((hm _).2 (.inr (.inr (.inr (.inl ht))))),fun d hd=>h0 _ ((hm _).2 (.inr (.inl ⟨d,hd,rfl⟩))),fun t ht=>h0 _ ((hm _).2 (.inr (.inr (.inr (.inr (.inl ht)))))),fun t ht=>h0 _ ((hm _).2 (.inr (.inr (.inr (.inr (.inr ht)))))),h1⟩
theorem Hr{w:World}{A:Option Addr}{c n:Nat}{l:List Tm}(h:fK gB 4 w (.slice A n c) l):∃es:List jo,es.map jo.t=l∧(∀e∈es,zx w e.A e.c e.t)∧es.length=n∧∀W,Below w.heap.size w W→((∃c',Value.slice A n c=.slice none 0 c'∧n=0)∨∃a c',Value.slice A n c=.slice (some a) n c'∧∀j u,(bY es)[j]?=some u→W.cell? (a.add j)=some u):=by
 obtain⟨A',c',he,-,-,hr⟩:=h
 injection he with e1 e2 e3
 subst e1 e2 e3
 rcases hr with rfl|⟨g,o,rfl,hg,hr⟩
 ·refine⟨[],rfl,by simp,rfl,fun W hb=>?_⟩
  cases A with
  |none=>exact .inl ⟨c,rfl,rfl⟩
  |some a=>exact .inr ⟨a,c,rfl,by simp[bY]⟩
 ·obtain⟨es,h1,h2,h3⟩:=ahZ hr;refine⟨es,h1,h2,by rw[←h1,List.length_map],fun W hb=>.inr ⟨⟨g,o,none⟩,c,rfl,fun j u hj=>?_⟩⟩;have hlt:j<es.length*4:=by have:=(gE.1 hj).1;rw[tu]at this;omega
  obtain⟨e,he⟩:∃e,es[j/4]?=some e:=⟨_,gG (by omega)⟩;obtain⟨v,hv⟩:∃v,e.cells[j%4]?=some v:=⟨_,gG (by show _<4;omega)⟩;have h4:=M6 he hv;rw[show j/4*4+j%4=j by omega,hj]at h4
  injection h4 with h4
  subst h4;have h5:=h3 _ e he _ u hv;rw[show o+j/4*4+j%4=o+j by omega]at h5;have h6:=(hb.cell (p:=⟨g,o+j,none⟩) hg).trans h5
  by_cases hj0:j=0
  ·subst hj0;simpa[Addr.add]using h6
  ·simpa[Addr.add,hj0]using h6
theorem ael(V:Nat→Value)(m:Md)(w:World)(hM:Km w V m)(hL:aa5 m) :
 Calls Tryz.prog 11 #[.agg #[V 0,V 1,V 2,V 3,V 4,V 5,V 6,V 7],.int .i64 600] w fun e w'=>(∃r:Bool,e=.returned (.bool r)∧(r=true→PX m))∧Below w.heap.size w w':=by
 obtain⟨F,HF⟩:=ak (fun(e:Ending)(w':World)=>(∃r:Bool,e=.returned (.bool r)∧(r=true→PX m))∧Below w.heap.size w w');rw[←HF.out];obtain⟨L0,L1,L2,L3,L4,L5,L6,L7⟩:=hL;obtain⟨A0,c0,e0,p0,q0,-⟩:=hM.vars;obtain⟨A1,c1,e1,p1,q1,-⟩:=hM.defs;obtain⟨A2,c2,e2,p2,q2,-⟩:=hM.init;obtain⟨A3,c3,e3,p3,q3,-⟩:=hM.bF;obtain⟨A4,c4,e4,p4,q4,-⟩:=hM.next;obtain⟨A5,c5,e5,p5,q5,-⟩:=hM.trans;obtain⟨A6,c6,e6,p6,q6,-⟩:=hM.fair;obtain⟨A7,c7,e7,p7,q7,-⟩:=hM.specs;rw[e0,e1,e2,e3,e4,e5,e6,e7];obtain⟨n0,N0⟩:=ak m.vars.length;rw[←N0.out]at e0 p0 L0⊢;obtain⟨n1,N1⟩:=ak m.defs.length;rw[←N1.out]at e1 p1 L1⊢;obtain⟨n2,N2⟩:=ak m.init.length;rw[←N2.out]at e2 p2 L2⊢;obtain⟨n3,N3⟩:=ak m.bF.length;rw[←N3.out]at e3 p3 L3⊢;obtain⟨n4,N4⟩:=ak m.next.length;rw[←N4.out]at e4 p4 L4⊢;obtain⟨n5,N5⟩:=ak m.trans.length;rw[←N5.out]at e5 p5 L5⊢;obtain⟨n6,N6⟩:=ak m.fair.length;rw[←N6.out]at e6 p6 L6⊢;obtain⟨n7,N7⟩:=ak m.specs.length;rw[←N7.out]at e7 p7 L7⊢;unfold maxLen at q0 q1 q2 q3 q4 q5 q6 q7;obtain⟨b1,hb1⟩:=aj w.heap.size;obtain⟨w1,hw1⟩:=aj (w.alloc (.cells #[.slice A0 n0 c0,.slice A1 n1 c1,.slice A2 n2 c2,.slice A3 n3 c3,.slice A4 n4 c4,.slice A5 n5 c5,.slice A6 n6 c6,.slice A7 n7 c7] 28));have hbl:=dz hw1;have X1:=jZ hw1 hb1;have hm1:=hM.below hbl
 have R0:Hid (fK GN 4 w1 (.slice A0 n0 c0) m.vars):=by show fK _ _ _ _ _;rw[←e0];exact hm1.vars
 have R1:Hid (fK uD 5 w1 (.slice A1 n1 c1) m.defs):=by show fK _ _ _ _ _;rw[←e1];exact hm1.defs
 have R2:Hid (fK gB 4 w1 (.slice A2 n2 c2) m.init):=by show fK _ _ _ _ _;rw[←e2];exact hm1.init
 have R3:Hid (fK gB 4 w1 (.slice A3 n3 c3) m.bF):=by show fK _ _ _ _ _;rw[←e3];exact hm1.bF
 have R4:Hid (fK uD 5 w1 (.slice A4 n4 c4) m.next):=by show fK _ _ _ _ _;rw[←e4];exact hm1.next
 have R5:Hid (fK gB 4 w1 (.slice A5 n5 c5) m.trans):=by show fK _ _ _ _ _;rw[←e5];exact hm1.trans
 have R6:Hid (fK gB 4 w1 (.slice A6 n6 c6) m.fair):=by show fK _ _ _ _ _;rw[←e6];exact hm1.fair
 have R7:Hid (fK Fw 7 w1 (.slice A7 n7 c7) m.specs):=by show fK _ _ _ _ _;rw[←e7];exact hm1.specs
 have akH:IntKind.i64.wrap ((n0:Int)+(n1:Int))=(n0:Int)+(n1:Int):=IntWalk.i64_in _ (by omega);have akI:IntKind.i64.wrap ((n0:Int)+(n1:Int)+(n2:Int))=(n0:Int)+(n1:Int)+(n2:Int):=IntWalk.i64_in _ (by omega);have aem:IntKind.i64.wrap ((n0:Int)+(n1:Int)+(n2:Int)+(n3:Int))=(n0:Int)+(n1:Int)+(n2:Int)+(n3:Int):=IntWalk.i64_in _ (by omega);have akJ:IntKind.i64.wrap ((n0:Int)+(n1:Int)+(n2:Int)+(n3:Int)+(n4:Int))=(n0:Int)+(n1:Int)+(n2:Int)+(n3:Int)+(n4:Int):=IntWalk.i64_in _ (by omega);have akK:IntKind.i64.wrap ((n0:Int)+(n1:Int)+(n2:Int)+(n3:Int)+(n4:Int)+(n5:Int))=(n0:Int)+(n1:Int)+(n2:Int)+(n3:Int)+(n4:Int)+(n5:Int):=IntWalk.i64_in _ (by omega);have akL:IntKind.i64.wrap ((n0:Int)+(n1:Int)+(n2:Int)+(n3:Int)+(n4:Int)+(n5:Int)+(n6:Int))=(n0:Int)+(n1:Int)+(n2:Int)+(n3:Int)+(n4:Int)+(n5:Int)+(n6:Int):=IntWalk.i64_in _ (by omega);have akM:IntKind.i64.wrap ((n0:Int)+(n1:Int)+(n2:Int)+(n3:Int)+(n4:Int)+(n5:Int)+(n6:Int)+(n7:Int))=(n0:Int)+(n1:Int)+(n2:Int)+(n3:Int)+(n4:Int)+(n5:Int)+(n6:Int)+(n7:Int):=IntWalk.i64_in _ (by omega);have HB1:=Hd hbl;have HW1:=Hd hw1;have qY:=Hd hb1
 obtain⟨T,hTq⟩:=aj ((n0:Int)+(n1:Int)+(n2:Int)+(n3:Int)+(n4:Int)+(n5:Int)+(n6:Int)+(n7:Int));have HTQ:=Hd hTq;have HT0:Hid (T=m.vars.length+m.defs.length+m.init.length+m.bF.length+m.next.length+m.trans.length+m.fair.length+m.specs.length):=by show _=_;rw[hTq,N0.out,N1.out,N2.out,N3.out,N4.out,N5.out,N6.out,N7.out]
 have XB:=X1;clear hm1 hM hbl hw1 hb1 e0 e1 e2 e3 e4 e5 e6 e7;obtain⟨v0,v1,v2,v3,v4,v5,v6,v7,-⟩:=PW XB.out;have lb:=lH XB.out
 by_cases hbig:600<T
 ·have hb':(600:Int)<(n0:Int)+(n1:Int)+(n2:Int)+(n3:Int)+(n4:Int)+(n5:Int)+(n6:Int)+(n7:Int):=by omega
  clear hTq;go_in;go_wp2_with fail;rw[←HW1.out];(try go_wp2_with fail);rw[HF.out];exact⟨⟨false,rfl,fun h=>by cases h⟩,HB1.out⟩
 have hb':¬(600:Int)<(n0:Int)+(n1:Int)+(n2:Int)+(n3:Int)+(n4:Int)+(n5:Int)+(n6:Int)+(n7:Int):=by omega
 have hsm:n1≤600∧n4≤600∧n2≤600∧n3≤600∧n5≤600∧n6≤600∧n7≤600∧n1+n4+n2+n3+n5+n6≤600:=by omega
 obtain⟨m1,m4,m2,m3,m5,m6,m7,ajF⟩:=hsm;have HTS:Hid (0≤T∧T≤600):=⟨by omega,by omega⟩;have HMS:=Hd ajF;obtain⟨iT,hiT,acd,ace,acf⟩:=info_parts ahY;clear hTq hbig ajF L0 L1 L2 L3 L4 L5 L6 L7;go_in;go_wp2_with fail;rw[←HW1.out,←qY.out];(try go_wp2_with fail);rw[←HTQ.out];clear akH akI aem akJ akK akL akM hb' q0 q1 q2 q3 q4 q5 q6 q7;have HA0:Hid (SN w1 w1 (.slice none 0 0) []):=⟨World.ownsRow_nil _ _ _ _,by simp,Br _ _⟩;clear v0 v1 v2 v3 v4 v5 v6 v7 lb
 go_loopw [6,7] (fun sv si wr=>∃(k:Nat)(a:Option Addr)(cc:Nat)(es:List jo),k≤n1∧si=.int .i64 k∧sv=.slice a (k) cc∧es.length=k∧SN w1 wr (.slice a (k) cc) es∧es.map jo.t=(m.defs.take k).map Df.tm) (fun _ i _=>n1-(intOf i).toNat)
 case atStart=>exact⟨0,none,0,[],zl _,rfl,rfl,rfl,HA0.out,rfl⟩
 case round=>
  obtain⟨k,a,cc,es,hk,rfl,rfl,hel,hts,hmp⟩:=hrel;have XB:Hid (_=_):=(hts.mW.block b1 (lH X1.out)).trans X1.out;obtain⟨v0,v1,v2,v3,v4,v5,v6,v7,-⟩:=PW XB.out;have lb:=lH XB.out;have qb:=Hd hts;have Ez:=Hd hel;have HMP:=Hd hmp;have hbe:=hts.mW.size;clear hts hel hmp
  by_cases hkn:k<n1
  ·obtain⟨q,hq⟩:∃q,m.defs[k]?=some q:=⟨_,gG (by have:=N1.out;omega)⟩;obtain⟨A',c',he,-,-,hrow⟩:=R1.out
   injection he with he1 hen he2
   clear hen;subst he1 he2
   rcases hrow with h9|⟨g,o,rfl,hgl,hrow⟩
   ·rw[h9]at hq;simp at hq
   have hat:=(hrow k q hq).2;obtain⟨z1,z2,z3,A9,c9,z4,hV⟩:=hat.open;have hy:=fun(o:Nat)(v:Value)(h:w1.cell? ⟨g,o,none⟩=some v)=>(qb.mW.cell (p:=⟨g,o,none⟩) hgl).trans h;have y1:=hy _ _ z1;have y2:=hy _ _ z2;have y3:=hy _ _ z3;have y4:=hy _ _ z4;rw[show o+k*5+1+1=o+k*5+2 from rfl]at y2;rw[show o+k*5+1+2=o+k*5+3 from rfl]at y3;rw[show o+k*5+1+3=o+k*5+4 from rfl]at y4;have hgr:g<wr.heap.size:=lL hgl hbe;obtain⟨n9,HN9⟩:=ak q.tm.kids.length;rw[←HN9.out]at y4;have HV:=Hd hV;have hk0:(0:Int)≤(k:Int):=by omega
   have hk1:(k:Int)<(n1:Int):=by omega
   have JZ:Hid ((m.defs.take (k+1)).map Df.tm=(m.defs.take k).map Df.tm++[q.tm]):=by
    obtain⟨h1,h2⟩:=gE.1 hq;show _=_;rw[List.take_succ_eq_append_getElem h1,h2,List.map_append]
    rfl
   have hown0:(wr.alloc (.cells #[.int .i64 q.tm.op,.int .i64 q.tm.num,.string q.tm.name,.slice A9 n9 c9] 64)).ownsRow w1.heap.size 64 4 (.slice a (k) cc) (k) (bY es):=by rw[←Ez.out];have h:=qb.own;rw[Ez.out]at h⊢;exact h.alloc _
   have HOWN:=Hd hown0;clear hat hV hy z1 z2 z3 z4 hrow hq hown0
   go_wp2_with (at_builtin;refine wpList_append_lies _ (by rfl) _ _ _ (by rfl) w1.heap.size 64 iT (.agg #[.int .i64 0,.int .i64 0,.string ⟨#[]⟩,.slice none 0 0]) 4 56 Tryz.underlying25 hiT acd ace acf rfl (by decide) (.slice a (k) cc) (k) (bY es) (by rfl) HOWN.out ⟨wr.heap.size,0,none⟩ 1 1 [.int .i64 q.tm.op,.int .i64 q.tm.num,.string q.tm.name,.slice A9 n9 c9] (by rfl) (by rfl) (World.news_of_block (eu wr _)) (by simp[Value.oneCell']) (by decide) ?c3 ?c4 ?c5 _ rfl ?_)
   case c3=>unfold maxLen;omega
   case c4=>omega
   case c5=>simp;omega
   intro g7 aen w7 dN dO ku yV
   have CU:SN w1 w7 (.slice (some ⟨g7,0,none⟩) (k+1) aen) (es++[⟨q.tm,A9,c9⟩]):=(qb.below (dz rfl)).app (by rw[show bY [(⟨q.tm,A9,c9⟩:jo)]=[.int .i64 q.tm.op,.int .i64 q.tm.num,.string q.tm.name,.slice A9 n9 c9] by rw[HN9.out];rfl];exact dN) (by rw[List.length_append,Ez.out];rfl) dO (fun e he=>by
    obtain rfl:=List.mem_singleton.1 he
    exact HV.out)
   have HT7:=Hd CU;clear dN dO ku CU HOWN y1 y2 y3 y4;go_wp2_with fail
   go_round
   case rel=>exact⟨k+1,some ⟨g7,0,none⟩,aen,es++[⟨q.tm,A9,c9⟩],by omega,by go_num,by first|rfl|go_num,by rw[List.length_append,Ez.out];rfl,HT7.out,by rw[List.map_append,HMP.out,JZ.out];simp⟩
   case measure=>simp[intOf];omega
  ·have hkq:n1=k:=by omega
   subst hkq;have hlt2:¬(n1:Int)<(n1:Int):=by omega
   have HMQ:Hid (es.map jo.t=m.defs.map Df.tm):=by show _=_;rw[HMP.out,N1.out,List.take_length]
   clear HMP;go_wp2_with fail;clear v0 v1 v2 v3 v4 v5 v6 v7 lb
   go_loopw [6,8] (fun sv si wr=>∃(k:Nat)(a:Option Addr)(cc:Nat)(es:List jo),k≤n4∧si=.int .i64 k∧sv=.slice a (n1+k) cc∧es.length=n1+k∧SN w1 wr (.slice a (n1+k) cc) es∧es.map jo.t=m.defs.map Df.tm++(m.next.take k).map Df.tm) (fun _ i _=>n4-(intOf i).toNat)
   case atStart=>exact⟨0,a,cc,es,zl _,rfl,rfl,Ez.out,qb.out,by rw[HMQ.out];simp⟩
   case round=>
    clear qb Ez HMQ XB;obtain⟨k,a,cc,es,hk,rfl,rfl,hel,hts,hmp⟩:=hrel;rename World=>wr;have XB:Hid (_=_):=(hts.mW.block b1 (lH X1.out)).trans X1.out;obtain⟨v0,v1,v2,v3,v4,v5,v6,v7,-⟩:=PW XB.out;have lb:=lH XB.out;have qb:=Hd hts;have Ez:=Hd hel;have HMP:=Hd hmp;have hbe:=hts.mW.size;clear hts hel hmp
    by_cases hkn:k<n4
    ·obtain⟨q,hq⟩:∃q,m.next[k]?=some q:=⟨_,gG (by have:=N4.out;omega)⟩;obtain⟨A',c',he,-,-,hrow⟩:=R4.out
     injection he with he1 hen he2
     clear hen;subst he1 he2
     rcases hrow with h9|⟨g,o,rfl,hgl,hrow⟩
     ·rw[h9]at hq;simp at hq
     have hat:=(hrow k q hq).2;obtain⟨z1,z2,z3,A9,c9,z4,hV⟩:=hat.open;have hy:=fun(o:Nat)(v:Value)(h:w1.cell? ⟨g,o,none⟩=some v)=>(qb.mW.cell (p:=⟨g,o,none⟩) hgl).trans h;have y1:=hy _ _ z1;have y2:=hy _ _ z2;have y3:=hy _ _ z3;have y4:=hy _ _ z4;rw[show o+k*5+1+1=o+k*5+2 from rfl]at y2;rw[show o+k*5+1+2=o+k*5+3 from rfl]at y3;rw[show o+k*5+1+3=o+k*5+4 from rfl]at y4;have hgr:g<wr.heap.size:=lL hgl hbe;obtain⟨n9,HN9⟩:=ak q.tm.kids.length;rw[←HN9.out]at y4;have HV:=Hd hV;have hk0:(0:Int)≤(k:Int):=by omega
     have hk1:(k:Int)<(n4:Int):=by omega
     have JZ:Hid ((m.next.take (k+1)).map Df.tm=(m.next.take k).map Df.tm++[q.tm]):=by
      obtain⟨h1,h2⟩:=gE.1 hq;show _=_;rw[List.take_succ_eq_append_getElem h1,h2,List.map_append]
      rfl
     have hown0:(wr.alloc (.cells #[.int .i64 q.tm.op,.int .i64 q.tm.num,.string q.tm.name,.slice A9 n9 c9] 64)).ownsRow w1.heap.size 64 4 (.slice a (n1+k) cc) (n1+k) (bY es):=by rw[←Ez.out];have h:=qb.own;rw[Ez.out]at h⊢;exact h.alloc _
     have HOWN:=Hd hown0;clear hat hV hy z1 z2 z3 z4 hrow hq hown0
     go_wp2_with (at_builtin;refine wpList_append_lies _ (by rfl) _ _ _ (by rfl) w1.heap.size 64 iT (.agg #[.int .i64 0,.int .i64 0,.string ⟨#[]⟩,.slice none 0 0]) 4 56 Tryz.underlying25 hiT acd ace acf rfl (by decide) (.slice a (n1+k) cc) (n1+k) (bY es) (by rfl) HOWN.out ⟨wr.heap.size,0,none⟩ 1 1 [.int .i64 q.tm.op,.int .i64 q.tm.num,.string q.tm.name,.slice A9 n9 c9] (by rfl) (by rfl) (World.news_of_block (eu wr _)) (by simp[Value.oneCell']) (by decide) ?c3 ?c4 ?c5 _ rfl ?_)
     case c3=>unfold maxLen;omega
     case c4=>omega
     case c5=>simp;omega
     intro g7 aen w7 dN dO ku yV
     have CU:SN w1 w7 (.slice (some ⟨g7,0,none⟩) (n1+k+1) aen) (es++[⟨q.tm,A9,c9⟩]):=(qb.below (dz rfl)).app (by rw[show bY [(⟨q.tm,A9,c9⟩:jo)]=[.int .i64 q.tm.op,.int .i64 q.tm.num,.string q.tm.name,.slice A9 n9 c9] by rw[HN9.out];rfl];exact dN) (by rw[List.length_append,Ez.out];rfl) dO (fun e he=>by
      obtain rfl:=List.mem_singleton.1 he
      exact HV.out)
     have HT7:=Hd CU;clear dN dO ku CU HOWN y1 y2 y3 y4;go_wp2_with fail
     go_round
     case rel=>exact⟨k+1,some ⟨g7,0,none⟩,aen,es++[⟨q.tm,A9,c9⟩],by omega,by go_num,by first|rfl|go_num,by rw[List.length_append,Ez.out];rfl,HT7.out,by rw[List.map_append,HMP.out,JZ.out];simp⟩
     case measure=>simp[intOf];omega
    ·have hkq:n4=k:=by omega
     subst hkq;have hlt2:¬(n4:Int)<(n4:Int):=by omega
     have HMQ:Hid (es.map jo.t=m.defs.map Df.tm++m.next.map Df.tm):=by show _=_;rw[HMP.out,N4.out,List.take_length]
     clear HMP;go_wp2_with fail;clear v0 v1 v2 v3 v4 v5 v6 v7 lb;have sx2:∃s2:List jo,s2.map jo.t=m.init∧(∀e∈s2,zx w1 e.A e.c e.t)∧s2.length=n2∧∀W,Below w1.heap.size w1 W→((∃c',Value.slice A2 n2 c2=.slice none 0 c'∧n2=0)∨∃a c',Value.slice A2 n2 c2=.slice (some a) n2 c'∧∀j u,(bY s2)[j]?=some u→W.cell? (a.add j)=some u):=Hr R2.out;obtain⟨s2,sm2,sv2,sl2,sw2⟩:=sx2;have SM2:=Hd sm2;have SV2:=Hd sv2;have SL2:=Hd sl2;have SW2:=Hd sw2;clear sm2 sv2 sl2 sw2;have sx3:∃s3:List jo,s3.map jo.t=m.bF∧(∀e∈s3,zx w1 e.A e.c e.t)∧s3.length=n3∧∀W,Below w1.heap.size w1 W→((∃c',Value.slice A3 n3 c3=.slice none 0 c'∧n3=0)∨∃a c',Value.slice A3 n3 c3=.slice (some a) n3 c'∧∀j u,(bY s3)[j]?=some u→W.cell? (a.add j)=some u):=Hr R3.out;obtain⟨s3,sm3,sv3,sl3,sw3⟩:=sx3;have SM3:=Hd sm3;have SV3:=Hd sv3;have SL3:=Hd sl3;have SW3:=Hd sw3;clear sm3 sv3 sl3 sw3;have sx5:∃s5:List jo,s5.map jo.t=m.trans∧(∀e∈s5,zx w1 e.A e.c e.t)∧s5.length=n5∧∀W,Below w1.heap.size w1 W→((∃c',Value.slice A5 n5 c5=.slice none 0 c'∧n5=0)∨∃a c',Value.slice A5 n5 c5=.slice (some a) n5 c'∧∀j u,(bY s5)[j]?=some u→W.cell? (a.add j)=some u):=Hr R5.out;obtain⟨s5,sm5,sv5,sl5,sw5⟩:=sx5;have SM5:=Hd sm5;have SV5:=Hd sv5;have SL5:=Hd sl5;have SW5:=Hd sw5;clear sm5 sv5 sl5 sw5
     have sx6:∃s6:List jo,s6.map jo.t=m.fair∧(∀e∈s6,zx w1 e.A e.c e.t)∧s6.length=n6∧∀W,Below w1.heap.size w1 W→((∃c',Value.slice A6 n6 c6=.slice none 0 c'∧n6=0)∨∃a c',Value.slice A6 n6 c6=.slice (some a) n6 c'∧∀j u,(bY s6)[j]?=some u→W.cell? (a.add j)=some u):=Hr R6.out;obtain⟨s6,sm6,sv6,sl6,sw6⟩:=sx6;have SM6:=Hd sm6;have SV6:=Hd sv6;have SL6:=Hd sl6;have SW6:=Hd sw6;clear sm6 sv6 sl6 sw6;refine wp_region_held_drew (S:=fun W=>W.heap[b1]?=some (.cells #[.slice A0 n0 c0,.slice A1 n1 c1,.slice A2 n2 c2,.slice A3 n3 c3,.slice A4 n4 c4,.slice A5 n5 c5,.slice A6 n6 c6,.slice A7 n7 c7] 28 (0,0))) (by kernel_rfl) XB.out (fun hHeld=>?_);obtain⟨Wc,hWc⟩:=aj wr.drew;replace qb:Hid (SN w1 Wc (.slice a (n1+n4) cc) es):=by show SN _ _ _ _;rw[hWc];exact qb.drewN 1
     rw[←hWc]at hHeld⊢;clear hWc XB
     repeat
      (first|refine aI 0 (v:=?_) rfl ?hy ?_|refine aI 1 (v:=?_) rfl ?hy ?_|refine aI 2 (v:=?_) rfl ?hy ?_|refine aI 4 (v:=?_) rfl ?hy ?_|refine aI 5 (v:=?_) rfl ?hy ?_|refine aI 7 (v:=?_) rfl ?hy ?_|refine aI 8 (v:=?_) rfl ?hy ?_|refine aI 10 (v:=?_) rfl ?hy ?_|refine aI 11 (v:=?_) rfl ?hy ?_|refine aI 13 (v:=?_) rfl ?hy ?_
       case hy=>
        intro w0 hS;obtain⟨v0,v1,v2,v3,v4,v5,v6,v7,-⟩:=PW hS;have lb:=lH hS;clear hS;go_simp
        (first|done|with_reducible rfl)
       try simp only[Act.put,aT,aU,aV])
     iterate 4
      all_goals first
       |refine Rd (rs:=[3]) (by decide +kernel) (by simp) (Rc (aa4 rfl) (fun K hK=>?_) Rn)
       |refine Rd (rs:=[6]) (by decide +kernel) (by simp) (Rc (aa4 rfl) (fun K hK=>?_) Rn)
       |refine Rd (rs:=[9]) (by decide +kernel) (by simp) (Rc (aa4 rfl) (fun K hK=>?_) Rn)
       |refine Rd (rs:=[12]) (by decide +kernel) (by simp) (Rc (aa4 rfl) (fun K hK=>?_) Rn)
       |fail
      all_goals first
       |(refine qp _ (by rfl) _ _ _ (by rfl) w1.heap.size 64 iT (.agg #[.int .i64 0,.int .i64 0,.string ⟨#[]⟩,.slice none 0 0]) 4 56 Tryz.underlying25 hiT acd ace acf rfl (by decide) (.slice a (n1+n4) cc) (n1+n4) (bY es) (by rfl) (by have h:=qb.own;rw[Ez.out]at h;exact h) (.slice A2 n2 c2) n2 (bY s2) (by rfl) (by rw[tu,SL2.out]) (SW2.out _ qb.mW) (DZ _) (by have:=HMS.out;unfold maxLen;omega) (by have:=HMS.out;omega) qb.mW.size ?_
         intro a2 cc2 We dN Ep ku;have CU:=qb.app dN (by rw[List.length_append,Ez.out,SL2.out]) Ep SV2.out;have M7:(es++s2).length=(n1+n4)+n2:=by rw[List.length_append,Ez.out,SL2.out]
         clear hHeld qb Ez dN Ep ku;have qb:=Hd CU;have Ez:=Hd M7;have XB:Hid (_=_):=(qb.mW.block b1 (lH X1.out)).trans X1.out;refine hK.out _ We XB.out (fun hHeld=>?_);clear hK K CU M7 XB;(try simp only[Act.put,aT,aU,aV]);clear Wc
         rename World=>Wc)
       |(refine qp _ (by rfl) _ _ _ (by rfl) w1.heap.size 64 iT (.agg #[.int .i64 0,.int .i64 0,.string ⟨#[]⟩,.slice none 0 0]) 4 56 Tryz.underlying25 hiT acd ace acf rfl (by decide) (.slice a2 ((n1+n4)+n2) cc2) ((n1+n4)+n2) (bY (es++s2)) (by rfl) (by have h:=qb.own;rw[Ez.out]at h;exact h) (.slice A3 n3 c3) n3 (bY s3) (by rfl) (by rw[tu,SL3.out]) (SW3.out _ qb.mW) (DZ _) (by have:=HMS.out;unfold maxLen;omega) (by have:=HMS.out;omega) qb.mW.size ?_
         intro a3 cc3 We dN Ep ku;have CU:=qb.app dN (by rw[List.length_append,Ez.out,SL3.out]) Ep SV3.out;have M7:((es++s2)++s3).length=((n1+n4)+n2)+n3:=by rw[List.length_append,Ez.out,SL3.out]
         clear hHeld qb Ez dN Ep ku;have qb:=Hd CU;have Ez:=Hd M7;have XB:Hid (_=_):=(qb.mW.block b1 (lH X1.out)).trans X1.out;refine hK.out _ We XB.out (fun hHeld=>?_);clear hK K CU M7 XB;(try simp only[Act.put,aT,aU,aV]);clear Wc
         rename World=>Wc)
       |(refine qp _ (by rfl) _ _ _ (by rfl) w1.heap.size 64 iT (.agg #[.int .i64 0,.int .i64 0,.string ⟨#[]⟩,.slice none 0 0]) 4 56 Tryz.underlying25 hiT acd ace acf rfl (by decide) (.slice a3 (((n1+n4)+n2)+n3) cc3) (((n1+n4)+n2)+n3) (bY ((es++s2)++s3)) (by rfl) (by have h:=qb.own;rw[Ez.out]at h;exact h) (.slice A5 n5 c5) n5 (bY s5) (by rfl) (by rw[tu,SL5.out]) (SW5.out _ qb.mW) (DZ _) (by have:=HMS.out;unfold maxLen;omega) (by have:=HMS.out;omega) qb.mW.size ?_
         intro a5 cc5 We dN Ep ku;have CU:=qb.app dN (by rw[List.length_append,Ez.out,SL5.out]) Ep SV5.out;have M7:(((es++s2)++s3)++s5).length=(((n1+n4)+n2)+n3)+n5:=by rw[List.length_append,Ez.out,SL5.out]
         clear hHeld qb Ez dN Ep ku;have qb:=Hd CU;have Ez:=Hd M7;have XB:Hid (_=_):=(qb.mW.block b1 (lH X1.out)).trans X1.out;refine hK.out _ We XB.out (fun hHeld=>?_);clear hK K CU M7 XB;(try simp only[Act.put,aT,aU,aV]);clear Wc
         rename World=>Wc)
       |(refine qp _ (by rfl) _ _ _ (by rfl) w1.heap.size 64 iT (.agg #[.int .i64 0,.int .i64 0,.string ⟨#[]⟩,.slice none 0 0]) 4 56 Tryz.underlying25 hiT acd ace acf rfl (by decide) (.slice a5 ((((n1+n4)+n2)+n3)+n5) cc5) ((((n1+n4)+n2)+n3)+n5) (bY (((es++s2)++s3)++s5)) (by rfl) (by have h:=qb.own;rw[Ez.out]at h;exact h) (.slice A6 n6 c6) n6 (bY s6) (by rfl) (by rw[tu,SL6.out]) (SW6.out _ qb.mW) (DZ _) (by have:=HMS.out;unfold maxLen;omega) (by have:=HMS.out;omega) qb.mW.size ?_
         intro a6 cc6 We dN Ep ku;have CU:=qb.app dN (by rw[List.length_append,Ez.out,SL6.out]) Ep SV6.out;have M7:((((es++s2)++s3)++s5)++s6).length=((((n1+n4)+n2)+n3)+n5)+n6:=by rw[List.length_append,Ez.out,SL6.out]
         clear hHeld qb Ez dN Ep ku;have qb:=Hd CU;have Ez:=Hd M7;have XB:Hid (_=_):=(qb.mW.block b1 (lH X1.out)).trans X1.out;refine hK.out _ We XB.out (fun hHeld=>?_);clear hK K CU M7 XB;(try simp only[Act.put,aT,aU,aV]);clear Wc
         rename World=>Wc)
       |fail
      all_goals
       repeat
        (first|refine aI 0 (v:=?_) rfl ?hy ?_|refine aI 1 (v:=?_) rfl ?hy ?_|refine aI 2 (v:=?_) rfl ?hy ?_|refine aI 4 (v:=?_) rfl ?hy ?_|refine aI 5 (v:=?_) rfl ?hy ?_|refine aI 7 (v:=?_) rfl ?hy ?_|refine aI 8 (v:=?_) rfl ?hy ?_|refine aI 10 (v:=?_) rfl ?hy ?_|refine aI 11 (v:=?_) rfl ?hy ?_|refine aI 13 (v:=?_) rfl ?hy ?_
         case hy=>
          intro w0 hS;obtain⟨v0,v1,v2,v3,v4,v5,v6,v7,-⟩:=PW hS;have lb:=lH hS;clear hS;go_simp
          (first|done|with_reducible rfl)
         try simp only[Act.put,aT,aU,aV])
     all_goals refine wpAnyH_done (by decide +kernel) ?_ _
     all_goals
      go_wp2_with fail;obtain⟨nA,hnA⟩:=aj (((((n1+n4)+n2)+n3)+n5)+n6);obtain⟨E,hE⟩:=aj ((((es++s2)++s3)++s5)++s6)
      have ahW:Hid (E.map jo.t=allT m):=by
       show _=_;rw[hE];simp only[List.map_append];rw[HMQ.out,SM2.out,SM3.out,SM5.out,SM6.out];simp[allT]
      have ru:Hid (SN w1 Wc (.slice a6 nA cc6) E):=by show SN _ _ _ _;rw[hnA,hE];exact qb.out
      have ah1:Hid (E.length=nA):=by show _=_;rw[hnA,hE];exact Ez.out
      have al6:nA≤600:=by have:=HMS.out;omega
      rw[←hnA];clear hnA hE hHeld qb Ez HMQ SM2 SM3 SM5 SM6;rename World=>Wc;obtain⟨hT0,hT6⟩:=HTS.out
      go_loopw [5,9] (fun sx si wr=>∃(k:Nat)(x:Int),k≤nA∧sx=.int .i64 x∧si=.int .i64 k∧T≤x∧x≤1201∧(x≤600→x=T+Tm.aA ((E.map jo.t).take k))∧Below Wc.heap.size Wc wr) (fun _ i _=>nA-(intOf i).toNat)
      case atStart=>exact⟨0,T,zl _,rfl,rfl,Int.le_refl _,by omega,fun _=>by simp[Tm.aA],Br _ _⟩
      case round=>
       obtain⟨k,x,hk,rfl,rfl,hx0,hx1,hx2,hbel⟩:=hrel;rename World=>wr;have FK:=Hd hx2;have hbt:Below w1.heap.size w1 wr:=ru.mW.trans (hbel.mono ru.mW.size);clear hx2
       by_cases hgo:k<nA∧x≤600
       ·obtain⟨hlt,hxm⟩:=hgo;obtain⟨e,he⟩:∃e,E[k]?=some e:=⟨_,gG (by have:=ah1.out;omega)⟩;have hown:=ru.own;rw[ah1.out]at hown
        obtain⟨g,rfl⟩:∃g,a6=some ⟨g,0,none⟩:=by
         rcases hown.2 with⟨-,h2⟩|⟨g,cap,cur,h1,-⟩
         ·omega
         ·injection h1 with h1;exact⟨g,h1⟩
        have hgl:=(hown.lt g rfl).2;have hy:=fun(i:Nat)(v:Value)(hi:i<4)(h:e.cells[i]?=some v)=>(hbel.cell (p:=⟨g,k*4+i,none⟩) hgl).trans ((hown.cellAt (k*4+i) (by omega)).trans (M6 he h));have y0:=hy 0 _ (by decide) rfl;have y1:=hy 1 _ (by decide) rfl;have y2:=hy 2 _ (by decide) rfl;have y3:=hy 3 _ (by decide) rfl;rw[Nat.add_zero]at y0;have hgr:g<wr.heap.size:=lL hgl hbel.size;obtain⟨n9,HN9⟩:=ak e.t.kids.length;have hc:=PS e.t.size e.t 600 e.A e.c wr (lr _) ((ru.val e (mG he)).below hbt rfl) (by decide) (by decide);unfold Tm.val at hc;rw[←HN9.out]at y3 hc;have HC:=Hd hc;have JZ:Hid (Tm.aA ((E.map jo.t).take (k+1))=Tm.aA ((E.map jo.t).take k)+e.t.size):=Tm.M5 (by rw[List.getElem?_map,he];rfl);have oU:=Hd hbel;have hk0:(0:Int)≤(k:Int):=by omega
        have hk1:(k:Int)<(nA:Int):=by omega
        clear hc hy hown he hbel hbt;go_wp2_with fail;refine(HC.out).mono ?_;rintro e4 w4 ⟨⟨r,rfl,hr⟩,hb4⟩;have hr0:1≤r∧r≤601:=⟨hr.1,hr.2.1 (by decide)⟩;obtain⟨hr4,hr5⟩:=hr0
        have HR:Hid (x+r≤600→x+r=T+Tm.aA ((E.map jo.t).take (k+1))):=fun h=>by
         have h1:=FK.out hxm;have h2:=hr.2.2.2 (by omega);have h3:=JZ.out;omega
        have hwr2:IntKind.i64.wrap (x+r)=x+r:=IntWalk.i64_in _ (by omega);have BS:=kB oU hb4;clear hr hb4 y0 y1 y2 y3 HC;go_wp2_with fail
        go_round
        case rel=>exact⟨k+1,x+r,by omega,by first|rfl|go_num,by go_num,by omega,by omega,HR.out,BS.out⟩
        case measure=>simp[intOf];omega
       ·have Oh:Hid (x≤600→x=T+Tm.aA (allT m)):=fun h=>by
         have h1:=FK.out h;rw[show k=(E.map jo.t).length by rw[List.length_map,ah1.out];omega,List.take_length,ahW.out]at h1;exact h1
        have kH:=Hd hbt;have ah2:(k:Int)<(nA:Int)∧¬x≤600∨¬(k:Int)<(nA:Int):=by omega
        clear hbt hbel hgo FK
        rcases ah2 with⟨hk1,hxm⟩|hk1
        all_goals
         go_wp2_with fail
         go_loopw [5,10] (fun sx si ws=>∃(k:Nat)(y:Int),k≤n7∧sx=.int .i64 y∧si=.int .i64 k∧x≤y∧y≤1202∧(y≤600→y=x+Fm.iK ((m.specs.map Sp.fm).take k))∧Below w1.heap.size w1 ws) (fun _ i _=>n7-(intOf i).toNat)
         case atStart=>exact⟨0,x,zl _,rfl,rfl,Int.le_refl _,by omega,fun _=>by simp[Fm.iK],kH.out⟩
         case round=>
          (clear hk1;try clear hxm);obtain⟨j,y,hj,rfl,rfl,hy0,hy1,hy2,hbel⟩:=hrel;rename World=>ws;have HY2:=Hd hy2;have oU:=Hd hbel;have XB:Hid (_=_):=(hbel.block b1 (lH X1.out)).trans X1.out;obtain⟨v0,v1,v2,v3,v4,v5,v6,v7,-⟩:=PW XB.out;have lb:=lH XB.out;clear hy2 XB
          by_cases hgo:j<n7∧y≤600
          ·obtain⟨hlt,hym⟩:=hgo;obtain⟨q,hq⟩:∃q,m.specs[j]?=some q:=⟨_,gG (by have:=N7.out;omega)⟩;obtain⟨A',c',he,-,-,hrow⟩:=R7.out
           injection he with he1 hen he2
           clear hen;subst he1 he2
           rcases hrow with h9|⟨g,o,rfl,hgl,hrow⟩
           ·rw[h9]at hq;simp at hq
           have hgr:g<ws.heap.size:=lL hgl hbel.size;obtain⟨z0,z1,z2,z3,A9,c9,A8,c8,z4,z5,hfv⟩:=(Fw.below hbel _ _ _ hgl (hrow j q hq)).2.open;rw[show o+j*7+1+1=o+j*7+2 from rfl]at z1;rw[show o+j*7+1+2=o+j*7+3 from rfl]at z2;rw[show o+j*7+1+3=o+j*7+4 from rfl]at z3;rw[show o+j*7+1+4=o+j*7+5 from rfl]at z4;rw[show o+j*7+1+5=o+j*7+6 from rfl]at z5;obtain⟨n9,HN9⟩:=ak q.fm.tm.kids.length;obtain⟨n8,HN8⟩:=ak q.fm.kids.length;have hc:=Ji q.fm.size q.fm 600 A9 c9 A8 c8 ws (lr _) hfv (by decide) (by decide);unfold Fm.val at hc;rw[←HN9.out]at z4 hc;rw[←HN8.out]at z5 hc;have HC:=Hd hc;have JZ:Hid (Fm.iK ((m.specs.map Sp.fm).take (j+1))=Fm.iK ((m.specs.map Sp.fm).take j)+q.fm.bT):=J6 (by rw[List.getElem?_map,hq];rfl);have hk0:(0:Int)≤(j:Int):=by omega
           have hk1:(j:Int)<(n7:Int):=by omega
           clear hc hfv hrow hq hbel;go_wp2_with fail;refine(HC.out).mono ?_;rintro e4 w4 ⟨⟨r,rfl,hr⟩,hb4⟩;have hr0:2≤r∧r≤602:=⟨hr.1,hr.2.1 (by decide)⟩;obtain⟨hr4,hr5⟩:=hr0
           have HR:Hid (y+r≤600→y+r=x+Fm.iK ((m.specs.map Sp.fm).take (j+1))):=fun h=>by
            have h1:=HY2.out hym;have h2:=hr.2.2.2 (by omega);have h3:=JZ.out;omega
           have hwr2:IntKind.i64.wrap (y+r)=y+r:=IntWalk.i64_in _ (by omega);have BS:=kB oU hb4;clear hr hb4 z0 z1 z2 z3 z4 z5 HC v0 v1 v2 v3 v4 v5 v6 v7 lb;go_wp2_with fail
           go_round
           case rel=>exact⟨j+1,y+r,by omega,by first|rfl|go_num,by go_num,by omega,by omega,HR.out,BS.out⟩
           case measure=>simp[intOf];omega
          ·have HFI:Hid (y≤600→PX m):=fun h=>by
            have h1:=HY2.out h;rw[show j=(m.specs.map Sp.fm).length by rw[List.length_map];have:=N7.out;omega,List.take_length]at h1;exact ah0 HT0.out Oh.out hy0 h1 h
           have ah2:(j:Int)<(n7:Int)∧¬y≤600∨¬(j:Int)<(n7:Int)∧¬y≤600∨¬(j:Int)<(n7:Int)∧y≤600:=by omega
           clear hbel hgo HY2
           rcases ah2 with⟨hk1,hym⟩|⟨hk1,hym⟩|⟨hk1,hym⟩
           all_goals
            go_wp2_with fail;rw[HF.out];exact⟨⟨_,rfl,fun h=>by first|exact absurd h (by decide)|exact HFI.out hym⟩,(kB HB1 oU.out).out⟩
end Go.Proofs.YtkhoeoilamddaaaGreatDoor
