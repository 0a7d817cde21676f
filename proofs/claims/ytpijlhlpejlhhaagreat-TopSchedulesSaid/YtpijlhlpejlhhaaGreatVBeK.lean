/- Walks and plain words: BeK BeM BeP BeL BeR BeN BeQ BeS. -/
import Derived.Test.YtpijlhlpejlhhaaGreatVBeB
namespace Go.Proofs.YtpijlhlpejlhhaaGreat.Bd
set_option linter.unusedVariables false
set_option linter.unusedSimpArgs false
set_option linter.unusedSectionVars false
section
variable {n room:Nat} {M M1 M2 M3:MS} {k k1 k2 k3:Nat} {ah:Nat→Nat} {nd:Nat→Option Nd} {D:Nat→BF}
/-- The level of an edge's top variable;a constant lies below all. -/
def fT(nd:Nat→Option Nd)(ah:Nat→Nat)(e:Nat):Nat:=match nd (e/2)with
 |some d=>ah d.v
 |none=>65
theorem dP.uniq{c:Nat}{l l':List Nat}(h0:nd 0=none)(h:dP nd c l)(h':dP nd c l'):l=l':=by
 induction h generalizing l' with
 |nil=>
  cases h' with
  |nil=>rfl
  |cons h1 h2 h3=>rw[show 0/2=0 from rfl,h0]at h2;cases h2
 |@cons c v hi l h1 h2 h3 ih=>
  cases h' with
  |nil=>rw[show 0/2=0 from rfl,h0]at h2;cases h2
  |cons g1 g2 g3=>
   rw[h2]at g2
   injection g2 with g2
   injection g2 with e1 e2 e3
   subst e1 e3;rw[ih g3]
theorem dP.ok{c:Nat}{l:List Nat}(h:dP nd c l):ok nd c:=by
 cases h with
 |nil=>exact .inl rfl
 |cons h1 h2 h3=>exact .inr ⟨_,h2⟩
theorem Cn{e L:Nat}(h:GI n ah nd D)(hn:n≤64)(hL:L≤65):ok nd e→(und nd ah L e↔L≤fT nd ah e):=by
 rintro(h1|⟨d,h1⟩)
 ·constructor
  ·intro _;unfold fT;rw[h1,h.n0];exact hL
  ·intro _;exact .inl h1
 ·constructor
  ·rintro(h2|⟨d',h2,h3⟩)
   ·rw[h2,h.n0]at h1;cases h1
   ·unfold fT;rw[h2];exact h3
  ·intro h2;unfold fT at h2;rw[h1]at h2;exact .inr ⟨d,h1,h2⟩
/-- A variable of the cube above the function goes. -/
theorem Qf(h:GI n ah nd D)(hn:n≤64){c f:Nat}{l:List Nat}(hc:dP nd c l)(h0:c/2≠0)(hf:ok nd f)(hl:fT nd ah c<fT nd ah f):∃v l',l=v::l'∧v<n∧nd (c/2)=some ⟨v,1,aI nd c v⟩∧dP nd (aI nd c v) l'∧und nd ah (fT nd ah c+1) f∧eP l (De D f)=eP l' (De D f):=by
 obtain⟨v,hi,l',rfl,h2,h3,h4,-⟩:=hc.top h0;have hv:=h.lt _ _ h2;have hll:=h.ll _ hv;have e1:fT nd ah c=ah v:=by unfold fT;rw[h2]
 have hu:und nd ah (fT nd ah c+1) f:=(Cn h hn (by have:ah v<n:=hll;omega) hf).2 (by omega);refine⟨v,l',rfl,hv,by rw[h4];exact h2,by rw[h4];exact h3,hu,?_⟩;rw[e1]at hu;exact Cc h (Nat.lt_succ_self _) (fun a b hab=>hang h hu a b hab) l'
theorem MH(h:GI n ah nd D)(hn:n≤64){c L:Nat}{l:List Nat}(hc:dP nd c l)(h0:c/2≠0){φ:BF}(hφ:∀a b:Nat→Bool,(∀w,w<n→L≤ah w→a w=b w)→φ a=φ b)(hl:fT nd ah c<L):∃v l',l=v::l'∧v<n∧nd (c/2)=some ⟨v,1,aI nd c v⟩∧dP nd (aI nd c v) l'∧eP l φ=eP l' φ:=by
 obtain⟨v,hi,l',rfl,h2,h3,h4,-⟩:=hc.top h0;have hv:=h.lt _ _ h2;have e1:fT nd ah c=ah v:=by unfold fT;rw[h2]
 refine⟨v,l',rfl,hv,by rw[h4];exact h2,by rw[h4];exact h3,?_⟩;rw[e1]at hl;exact Cc h hl hφ l'
theorem Qg(h:GI n ah nd D){c f:Nat}{l:List Nat}(hc:dP nd c l)(h0:f/2=0∨c/2=0):eP l (De D f)=De D f:=by
 rcases h0 with h0|h0
 ·exact Mf h h0 l
 ·rw[(hc.const h h0).1];rfl
/-- What exists leaves. -/
def Pm(M:MS)(f:Nat)(l:List Nat)(M':MS)(r:Nat):Prop:=De M'.D r=eP l (De M.D f)∧∀L,und M.S.nd M.ah L f→und M'.S.nd M'.ah L r
/-- What both leaves. -/
def Pn(M:MS)(f g:Nat)(l:List Nat)(M':MS)(r:Nat):Prop:=De M'.D r=eP l (fun s=>De M.D f s&&De M.D g s)∧∀L,und M.S.nd M.ah L f→und M.S.nd M.ah L g→und M'.S.nd M'.ah L r
theorem qD{f v L:Nat}{d:Nd}(h:GI n ah nd D)(hd:nd (f/2)=some d)(hv:d.v=v)(hu:und nd ah L f):L≤ah v:=by
 rcases hu with h1|⟨d',h1,h2⟩
 ·rw[h1,h.n0]at hd;cases hd
 ·rw[hd]at h1;obtain rfl:=Option.some.inj h1;rw[←hv];exact h2
theorem qE(h:GI n ah nd D){c v:Nat}{l:List Nat}(hc:dP nd c l)(hn:n≤64)(hl:ah v<fT nd ah c)(hv:ah v<64):v∉l:=fun hm=>by
 have h1:=dP.aah h hc ((Cn h hn (by omega) hc.ok).2 (show ah v+1≤fT nd ah c by omega)) v hm;omega
/-- A node whose variable stays. -/
theorem zV(hi:Inv n room M)(hi1:Inv n room M1)(g1:Grow M M1 k1)(hi2:Inv n room M2)(g2:Grow M1 M2 k2){φ ψ χ:BF}{l:List Nat}{v r1 r2 r:Nat}(hv:v∉l)(he:∀a,φ a=if a v then ψ a else χ a)
 (e1:De M1.D r1=eP l χ) (e2:De M2.D r2=eP l ψ) (o1:ok M1.S.nd r1) {TW:Nat→Nat} {nd3:Nat→Option Nd} {D3:Nat→BF} (mk:qo n TW M2.S.nd M2.D v r1 r2 r nd3 D3):De D3 r=eP l φ:=by
 rw[P6 hv he]
 funext s
 rw[mk.fn,Grow.De hi1 hi2 g2 o1,e1,e2]
/-- A node whose variable goes. -/
theorem EF(hi:Inv n room M)(hi1:Inv n room M1)(g1:Grow M M1 k1)(hi2:Inv n room M2)(g2:Grow M1 M2 k2){φ ψ χ:BF}{l:List Nat}{v r1 r2:Nat}(hv:v<n)(he:∀a,φ a=if a v then ψ a else χ a)
 (hψ:∀a b:Nat→Bool,(∀w,w<n→M.ah v+1≤M.ah w→a w=b w)→ψ a=ψ b) (hχ:∀a b:Nat→Bool,(∀w,w<n→M.ah v+1≤M.ah w→a w=b w)→χ a=χ b)
 (e1:De M1.D r1=eP l χ) (e2:De M2.D r2=eP l ψ) (o1:ok M1.S.nd r1):jV M2.D r1 0 r2=eP (v::l) φ:=by
 rw[TV hi2.gi,Grow.De hi1 hi2 g2 o1,e1,e2,Xd hi.gi hv he hψ hχ]
theorem Pm.good(hi:Inv n room M)(hi1:Inv n room M1)(g:Grow M M1 k){f c r:Nat}{l:List Nat}(hf:ok M.S.nd f)(hc:dP M.S.nd c l)(h:Pm M f l M1 r):Good M1 1500 f c 0 r:=by
 have hup:∀i d,M.S.nd i=some d→M1.S.nd i=some d:=fun i d hd=>(g.up i d hd).1;refine⟨g.ok hf,g.ok hc.ok,.inl rfl,(h.2 0 hf.und).ok,fun e=>absurd e (by decide),fun _ l' hl'=>?_,fun e=>absurd e (by decide),fun e=>absurd e (by decide)⟩;obtain rfl:=dP.uniq hi1.gi.n0 (hc.up hup) hl';exact⟨by rw[h.1,Grow.De hi hi1 g hf],fun L hu=>h.2 L (by rw[g.ah]at hu;exact jG hup hf hu)⟩
theorem Good.exP(hi:Inv n room M)(hi1:Inv n room M1)(g:Grow M M1 k){f c r:Nat}{l:List Nat}(hf:ok M.S.nd f)(hc:dP M.S.nd c l)(h:Good M1 1500 f c 0 r):Pm M f l M1 r:=by
 have hup:∀i d,M.S.nd i=some d→M1.S.nd i=some d:=fun i d hd=>(g.up i d hd).1;obtain⟨h1,h2⟩:=h.ex rfl l (hc.up hup);exact⟨by rw[h1,Grow.De hi hi1 g hf],fun L hu=>h2 L (g.und hu)⟩
theorem Pn.good(hi:Inv n room M)(hi1:Inv n room M1)(g:Grow M M1 k){f f2 c r:Nat}{l:List Nat}(hf:ok M.S.nd f)(hf2:ok M.S.nd f2)(hc:dP M.S.nd c l)(h:Pn M f f2 l M1 r):Good M1 1501 f f2 c r:=by
 have hup:∀i d,M.S.nd i=some d→M1.S.nd i=some d:=fun i d hd=>(g.up i d hd).1;refine⟨g.ok hf,g.ok hf2,g.ok hc.ok,(h.2 0 hf.und hf2.und).ok,fun e=>absurd e (by decide),fun e=>absurd e (by decide),fun _ l' hl'=>?_,fun e=>absurd e (by decide)⟩;obtain rfl:=dP.uniq hi1.gi.n0 (hc.up hup) hl';refine⟨by rw[h.1,Grow.De hi hi1 g hf,Grow.De hi hi1 g hf2],fun L hu hu2=>?_⟩;rw[g.ah]at hu hu2;exact h.2 L (jG hup hf hu) (jG hup hf2 hu2)
theorem Good.boP(hi:Inv n room M)(hi1:Inv n room M1)(g:Grow M M1 k){f f2 c r:Nat}{l:List Nat}(hf:ok M.S.nd f)(hf2:ok M.S.nd f2)(hc:dP M.S.nd c l)(h:Good M1 1501 f f2 c r):Pn M f f2 l M1 r:=by
 have hup:∀i d,M.S.nd i=some d→M1.S.nd i=some d:=fun i d hd=>(g.up i d hd).1;obtain⟨h1,h2⟩:=h.and rfl l (hc.up hup);exact⟨by rw[h1,Grow.De hi hi1 g hf,Grow.De hi hi1 g hf2],fun L hu hu2=>h2 L (g.und hu) (g.und hu2)⟩
/-- Two variables on one level are one. -/
theorem zW(h:Inv n room M){u v:Nat}(hu:u<n)(hv:v<n)(e:M.ah u=M.ah v):u=v:=by
 have h1:=h.od.of u hu;have h2:=h.od.of v hv;rw[e,h2]at h1;exact(Option.some.inj h1).symm
/-- What stays of a node: the function,and where it lies. -/
theorem Co(hi:Inv n room M)(hi1:Inv n room M1)(g1:Grow M M1 k1)(hi2:Inv n room M2)(g2:Grow M1 M2 k2)(g3:Grow M2 M3 k3){φ ψ χ:BF}{l:List Nat}{v r1 r2 r:Nat}(hv:v∉l)(he:∀a,φ a=if a v then ψ a else χ a)
 (e1:De M1.D r1=eP l χ) (e2:De M2.D r2=eP l ψ) (o1:ok M1.S.nd r1) (mk:qo n M2.ah M2.S.nd M2.D v r1 r2 r M3.S.nd M3.D):De M3.D r=eP l φ∧∀L,L≤M.ah v→und M3.S.nd M3.ah L r:=by
 refine⟨zV hi hi1 g1 hi2 g2 hv he e1 e2 o1 mk,fun L hL=>?_⟩;have h1:=mk.und;rw[g3.ah];rw[g2.ah,g1.ah]at h1⊢;exact h1.mono hL
theorem MI(hi:Inv n room M)(hi1:Inv n room M1)(g1:Grow M M1 k1)(hi2:Inv n room M2)(g2:Grow M1 M2 k2)(g3:Grow M2 M3 k3){φ ψ χ:BF}{l:List Nat}{v r1 r2 r:Nat}(hv:v<n)(he:∀a,φ a=if a v then ψ a else χ a)
 (hψ:∀a b:Nat→Bool,(∀w,w<n→M.ah v+1≤M.ah w→a w=b w)→ψ a=ψ b) (hχ:∀a b:Nat→Bool,(∀w,w<n→M.ah v+1≤M.ah w→a w=b w)→χ a=χ b)
 (e1:De M1.D r1=eP l χ) (e2:De M2.D r2=eP l ψ) (o1:ok M1.S.nd r1) (e3:De M3.D r=jV M2.D r1 0 r2) (u3:und M3.S.nd M3.ah (M.ah v+1) r):De M3.D r=eP (v::l) φ∧∀L,L≤M.ah v→und M3.S.nd M3.ah L r:=by
 refine⟨by rw[e3];exact EF hi hi1 g1 hi2 g2 hv he hψ hχ e1 e2 o1,fun L hL=>u3.mono (by omega)⟩
theorem uH{nd:Nat→Option Nd}{ah fV:Nat→Nat}{e L:Nat}(h:und nd ah L e)(hl:fV=ah):und nd fV L e:=by rw[hl];exact h
end
section
variable {n room:Nat} {M M1 M2 M3:MS} {k k1 k2 k3:Nat} {ah:Nat→Nat} {nd:Nat→Option Nd} {D:Nat→BF}
theorem dP.even{c:Nat}{l:List Nat}(h:dP nd c l):c%2=0:=by
 cases h with
 |nil=>rfl
 |cons h1 h2 h3=>exact h1
/-- A variable is put above a cube. -/
theorem Je(hi:Inv n room M){v r:Nat}{l:List Nat}(hv:v<n)(hc:dP M.S.nd r l){r':Nat}{S':St}(e1:r'=(M.S.mk' v 1 r).2)(e2:S'=(M.S.mk' v 1 r).1)(up:∀i d,M.S.nd i=some d→S'.nd i=some d):dP S'.nd r' (v::l):=by
 obtain⟨h1,h2⟩:=P5 hi.si hv (lo:=1) (hi:=r) (by have:=hc.even;omega) hc.even;rw[←e1,←e2]at h2;rw[←e1]at h1;exact .cons h1 h2 (hc.up up)
theorem tO{l:List Nat}{v:Nat}(h:v∈l):(l.filter (fun x=>decide (x∈[v])==false)).length+1≤l.length:=by
 induction l with
 |nil=>cases h
 |cons a l ih=>
  by_cases e:a=v
  ·subst e;rw[List.filter_cons_of_neg (by simp)];have:=List.length_filter_le (fun x=>decide (x∈[a])==false) l;simp only[List.length_cons];omega
  ·have hv:v∈l:=by
    rcases List.mem_cons.1 h with h9|h9
    ·exact absurd h9.symm e
    ·exact h9
   have:=ih hv;rw[List.filter_cons_of_pos (by simp[e])];simp only[List.length_cons];omega
theorem jd{n:Nat}{l:List Nat}(h:Inc l)(hl:∀v∈l,v<n):l.length≤n:=eZ n l (jE h) hl
end
section
variable {L:List (List Nat)} {left p:List Nat} {j i a v:Nat}
theorem EG:aU L (List.range (j+1)) v=aU L (List.range j) v+(if v∈L.getD j []then 1 else 0):=by
 unfold aU;rw[List.range_succ,List.filter_append,List.length_append]
 congr 1
 by_cases h:v∈L.getD j []
 ·rw[if_pos h,List.filter_cons_of_pos (by simpa using h)];rfl
 ·rw[if_neg h,List.filter_cons_of_neg (by simpa using h)];rfl
theorem Cq:aU L left v≤left.length:=List.length_filter_le _ _
/-- The count while a list is gone through. -/
def aD(p:List Nat)(i v:Nat):Nat:=if v∈p.take i then 1 else 0
theorem Cr(hp:p.Nodup)(ha:p[i]?=some a):aD p (i+1) v=aD p i v+(if v=a then 1 else 0):=by
 unfold aD
 have hin:a∉p.take i:=fun h=>by
  obtain⟨q,hq⟩:=List.mem_iff_getElem?.1 h
  have TY:q<i:=by
   have:=(List.getElem?_eq_some_iff.1 hq).1;rw[List.length_take]at this;omega
  rw[List.getElem?_take_of_lt TY]at hq;obtain⟨h1,e1⟩:=List.getElem?_eq_some_iff.1 hq;obtain⟨h2,e2⟩:=List.getElem?_eq_some_iff.1 ha;exact List.pairwise_iff_getElem.1 hp _ _ h1 h2 TY (e1.trans e2.symm)
 rw[List.take_add_one,ha];simp only[Option.toList_some,List.mem_append,List.mem_singleton]
 by_cases e:v=a
 ·subst e;rw[if_pos (.inr rfl),if_neg hin,if_pos rfl]
 ·rw[if_neg e]
  by_cases h:v∈p.take i
  ·rw[if_pos (.inl h),if_pos h]
  ·rw[if_neg (fun h9=>h9.elim h e),if_neg h]
theorem Ct:aD p 0 v=0:=by unfold aD;simp
theorem Hl:aD p p.length v=if v∈p then 1 else 0:=by unfold aD;rw[List.take_length]
/-- What is made so far,and what the rest makes of it. -/
def kC(L:List (List Nat))(goes oZ w0 left w:List Nat)(ds:List Stp):Prop:=∀rest,m_ L goes left w rest→m_ L goes oZ w0 (ds++rest)
theorem kC.start{goes oZ w0:List Nat}:kC L goes oZ w0 oZ w0 []:=fun rest h=>h
theorem kC.step{goes oZ w0 left w o:List Nat}{ds:List Stp}{i:Nat}(h:kC L goes oZ w0 left w ds)(hi:i∈left)(ho:∀v,v∈o↔((v∈L.getD i []∧v∈goes∧aU L left v=1)∨v∈w)):kC L goes oZ w0 (left.filter (fun k=>k != i)) [] (ds++[⟨i,o⟩]):=fun rest hr=>by
 rw[List.append_assoc];exact h _ (.cons hi ho hr)
theorem kC.done{goes oZ w0 w:List Nat}{ds:List Stp}(h:kC L goes oZ w0 [] w ds):m_ L goes oZ w0 ds:=by
 have:=h [] .nil
 rwa [List.append_nil]at this
/-- Less on an increasing list. -/
theorem MJ(hl:Inc left)(i:Nat):f_ (left.filter (fun x=>decide (x∈[i])==false))=left.filter (fun k=>k != i):=by
 have e:left.filter (fun x=>decide (x∈[i])==false)=left.filter (fun k=>k != i):=by
  apply List.filter_congr
  intro x _
  by_cases h:x=i<;>simp[h]
 rw[e];exact Qe (fP _) (hl.filter _) (fun a=>dV _ a)
theorem Jf(m:Nat):Inc (List.range m):=by
 unfold Inc;exact List.pairwise_lt_range
end
mutual
def Ex.size:Ex→Nat
 |.mk _ _ ks=>1+Ex.dw ks
def Ex.dw:List Ex→Nat
 |[]=>0
 |k::ks=>k.size+Ex.dw ks
end
/-- How many kids an operator has. -/
def iQ(op:Int):Int×Int:=
 if op=1∨op=2∨op=3 then(0,0)else if op=4 then(1,1)else if op=5∨op=6∨op=7 then(0,64)else if op=8∨op=9 then(2,2)else if op=10 then(3,3)else(-1,-1)
/-- A node's own tests. -/
def pO(op var:Int)(k:Nat):Prop:=0≤(iQ op).1∧(op=3→0≤var∧var<64)∧(op≠3→var=0)∧(iQ op).1≤k∧(k:Int)≤(iQ op).2
mutual
def Ex.o_:Ex→Prop
 |.mk op v ks=>pO op v ks.length∧Ex.Xi ks
def Ex.Xi:List Ex→Prop
 |[]=>True
 |k::ks=>k.o_∧Ex.Xi ks
end
mutual
def Ex.vars:Ex→List Int
 |.mk op v ks=>(if op=3 then[v]else[])++Ex.iH ks
def Ex.iH:List Ex→List Int
 |[]=>[]
 |k::ks=>k.vars++Ex.iH ks
end
theorem Ex.size_pos(e:Ex):1≤e.size:=by
 cases e;unfold Ex.size;omega
theorem Ex.size_eq(e:Ex):e.size=1+Ex.dw e.kids:=by
 cases e with
 |mk op v ks=>unfold Ex.size Ex.kids;rfl
theorem Ex.eG:∀{l:List Ex} {k:Nat} {t:Ex},l[k]?=some t→Ex.dw (l.take (k+1))=Ex.dw (l.take k)+t.size
 |x::r,0,t,h=>by
  simp at h;subst h;simp[Ex.dw]
 |x::r,k+1,t,h=>by
  have:=Ex.eG (l:=r) (k:=k) (t:=t) (by simpa using h);simp only[List.take_succ_cons,Ex.dw];omega
theorem Ex.aR:∀(l:List Ex) (k:Nat),Ex.dw (l.take k)≤Ex.dw l
 |[],k=>by simp[Ex.dw]
 |x::r,0=>by simp[Ex.dw]
 |x::r,k+1=>by
  have:=Ex.aR r k;simp only[List.take_succ_cons,Ex.dw];omega
theorem Ex.yu:∀{l:List Ex} {t:Ex},t∈l→t.size≤Ex.dw l
 |x::r,t,h=>by
  rcases List.mem_cons.1 h with rfl|h
  ·simp only[Ex.dw];omega
  ·have:=Ex.yu h;simp only[Ex.dw];omega
theorem Ex.iR:∀(l:List Ex),l.length≤Ex.dw l
 |[]=>Nat.le_refl _
 |x::r=>by
  have:=Ex.iR r;have:=x.size_pos;simp only[Ex.dw,List.length_cons];omega
theorem Ex.fJ{e t:Ex}(h:t∈e.kids):t.size<e.size:=by
 have:=Ex.yu h;rw[e.size_eq];omega
theorem Ex.Ho:∀{l:List Ex},Ex.Xi l↔∀t∈l,t.o_
 |[]=>by simp[Ex.Xi]
 |x::r=>by simp[Ex.Xi,Ex.Ho (l:=r)]
theorem Ex.dW{e:Ex}:e.o_↔pO e.op e.var e.kids.length∧∀t∈e.kids,t.o_:=by
 cases e with
 |mk op v ks=>
  show(Ex.mk op v ks).o_↔pO op v ks.length∧∀t∈ks,t.o_;rw[Ex.o_,Ex.Ho]
theorem Ex.r9{v:Int}:∀{l:List Ex},v∈Ex.iH l↔∃t∈l,v∈t.vars
 |[]=>by simp[Ex.iH]
 |x::r=>by simp[Ex.iH,Ex.r9 (l:=r)]
theorem Ex.qF(e:Ex):e.vars=(if e.op=3 then[e.var]else[])++Ex.iH e.kids:=by
 cases e with
 |mk op v ks=>unfold Ex.vars Ex.op Ex.var Ex.kids;rfl
theorem Ex.vL:∀{l:List Ex} {k:Nat} {t:Ex},l[k]?=some t→Ex.iH (l.take (k+1))=Ex.iH (l.take k)++t.vars
 |x::r,0,t,h=>by
  simp at h;subst h;simp[Ex.iH]
 |x::r,k+1,t,h=>by
  have:=Ex.vL (l:=r) (k:=k) (t:=t) (by simpa using h);simp only[List.take_succ_cons,Ex.iH,this,List.append_assoc]
mutual
theorem Ex.Cu:∀(e:Ex),e.vars.length≤e.size
 |.mk op v ks=>by
  have:=Ex.r_ ks;unfold Ex.vars Ex.size;rw[List.length_append]
  split
  ·rw[List.length_singleton];omega
  ·rw[List.length_nil];omega
theorem Ex.r_:∀(l:List Ex),(Ex.iH l).length≤Ex.dw l
 |[]=>Nat.le_refl _
 |x::r=>by
  have:=Ex.Cu x;have:=Ex.r_ r;simp only[Ex.iH,Ex.dw,List.length_append];omega
end
theorem qG{op var:Int}{k:Nat}(h:pO op var k):Hg op k:=by
 obtain⟨h1,h2,h3,h4,h5⟩:=h;unfold iQ at h1 h4 h5;unfold Hg
 split at h1
 ·rename_i hh;rw[if_pos hh]at h5;simp only at h5;omega
 ·rename_i hh;rw[if_neg hh]at h4 h5
  split at h1
  ·rename_i h4';rw[if_pos h4']at h4 h5;simp only at h4 h5;omega
  ·rename_i h4';rw[if_neg h4']at h4 h5
   split at h1
   ·omega
   ·rename_i h5';rw[if_neg h5']at h4 h5
    split at h1
    ·rename_i h6';rw[if_pos h6']at h4 h5;simp only at h4 h5;omega
    ·rename_i h6';rw[if_neg h6']at h4 h5
     split at h1
     ·rename_i h7';rw[if_pos h7']at h4 h5;simp only at h4 h5;omega
     ·simp only at h1;omega
theorem Ex.zX(e:Ex)(a:Nat→Bool):e.val a=fO e.op (a e.var.toNat) (e.kids.map (fun k=>k.val a)):=by
 cases e with
 |mk op v ks=>
  show(Ex.mk op v ks).val a=fO op (a v.toNat) (ks.map (fun k=>k.val a));rw[Ex.val];show fO op (a v.toNat) (Ex.vals ks a)=_;rw[Ml]
/-- All variables of a right expression lie below n. -/
def Ex.Cv(n:Nat)(e:Ex):Prop:=∀v∈e.vars,v<n
theorem Ex.jy{n:Nat}{e t:Ex}(h:e.Cv n)(ht:t∈e.kids):t.Cv n:=fun v hv=>h v (by
 rw[e.qF,List.mem_append]
 exact .inr (Ex.r9.2 ⟨t,ht,hv⟩))
theorem Ex.zY{n:Nat}{e:Ex}(h:e.Cv n)(ho:e.op=3):e.var<n:=h _ (by
 rw[e.qF,if_pos ho]
 exact List.mem_append_left _ (List.mem_singleton.2 rfl))
/-- A right expression's function hangs on the variables below n alone. -/
theorem Ex.hangs{n:Nat}:∀(s:Nat)(e:Ex),e.size≤s→e.o_→e.Cv n→pK n e.val
 |0,e,h,_,_=>by have:=e.size_pos;omega
 |s+1,e,h,hok,hb=>fun a b hab=>by
  obtain⟨h1,h2⟩:=Ex.dW.1 hok;rw[e.zX,e.zX];have hk:e.kids.map (fun k=>k.val a)=e.kids.map (fun k=>k.val b):=List.map_congr_left (fun t ht=>Ex.hangs s t (by have:=Ex.fJ ht;omega) (h2 t ht) (Ex.jy hb ht) a b hab);rw[hk]
  by_cases ho:e.op=3
  ·have hv:=Ex.zY hb ho;have h0:=(h1.2.1 ho).1;rw[hab e.var.toNat (by omega)]
  ·unfold fO;simp only[if_neg ho]
section
variable {n room:Nat} {ah:Nat→Nat} {M:MS}
theorem Hr:∀(m l:List Int),m.Nodup→(∀x,x∈m→x∈l)→l.length≤m.length→l.Perm m
 |[],l,_,_,h=>by
  rw[List.eq_nil_of_length_eq_zero (Nat.le_zero.1 h)]
 |a::m,l,hn,hs,h=>by
  rw[List.nodup_cons]at hn;have ha:=hs a (List.mem_cons_self ..);have h1:=List.perm_cons_erase ha
  have h2:=Hr m (l.erase a) hn.2 (fun x hx=>by
   have hxa:x≠a:=fun e=>hn.1 (e ▸ hx)
   exact(List.mem_erase_of_ne hxa).2 (hs x (List.mem_cons_of_mem _ hx))) (by
   rw[List.length_erase_of_mem ha]
   simp only[List.length_cons]at h;omega)
  exact h1.trans (h2.cons a)
/-- A list in which each number below n stands once. -/
theorem EH{l:List Int}(hl:l.length=n)(hc:∀v:Nat,v<n→l.count (v:Int)=1):l.Nodup∧∀z∈l,0≤z∧z<n:=by
 have hm:((List.range n).map (fun v:Nat=>(v:Int))).Nodup:=by
  rw[List.Nodup,List.pairwise_map];exact List.nodup_range.imp (fun h e=>h (by omega))
 have hp:=Hr _ l hm (fun x hx=>by
  obtain⟨v,hv,rfl⟩:=List.mem_map.1 hx;have:=hc v (List.mem_range.1 hv)
  exact List.count_pos_iff.1 (by omega)) (by rw[List.length_map,List.length_range,hl];exact Nat.le_refl _)
 refine⟨hp.nodup_iff.2 hm,fun z hz=>?_⟩;obtain⟨v,hv,rfl⟩:=List.mem_map.1 (hp.mem_iff.1 hz);have:=List.mem_range.1 hv;omega
theorem MK{order:List Nat}{i j:Nat}(h:Arr n room order i (j+1) M)(hi:i<order.length)(hij:i<j+1):∃x y,M.ord[j]?=some x∧M.ord[j+1]?=some y∧M.S.fits room x y∧∀M':MS,Inv n room M'→M'.S=M.S.swap n room x y→M'.ord=swo M.ord j x y→Arr n room order i j M':=by
 have hy:M.ord[j+1]?=some order[i]:=by rw[h.at',List.getElem?_eq_getElem hi]
 obtain⟨hlt,-⟩:=List.getElem?_eq_some_iff.1 hy;have hx:M.ord[j]?=some M.ord[j]:=List.getElem?_eq_getElem (by omega);refine⟨_,_,hx,hy,vG h.none room _ _,fun M' q1 e1 e2=>⟨q1,by rw[e1];exact EC h.none _ _ _ _,?_,?_,by omega⟩⟩
 ·rw[e2,←h.pre];unfold swo;rw[List.take_set_of_le (by omega),List.take_set_of_le (by omega)]
 ·rw[e2];unfold swo;rw[List.getElem?_set_ne (by omega),List.getElem?_set_self (by omega),List.getElem?_eq_getElem hi]
end
section
variable {n room:Nat} {ah:Nat→Nat} {nd nd':Nat→Option Nd} {D D':Nat→BF}
/-- What the counts say of the nodes that were met. -/
structure uj(nd:Nat→Option Nd)(W:Nat→Bool)(N:Nat→Nat)(c:Nat):Prop where
 pos:∀v,0<N v↔∃i d,W i=true∧nd i=some d∧d.v=v
 le:∀v,N v≤c
 has:∀i,W i=true→nd i≠none
def Jg(N:Nat→Nat)(v:Nat):Nat→Nat:=fun u=>if u=v then N u+1 else N u
theorem uj.step{W:Nat→Bool}{N:Nat→Nat}{c i:Nat}{d:Nd}(h:uj nd W N c)(hd:nd i=some d):uj nd (set1 W i true) (Jg N d.v) (c+1):=by
 have up:∀j,W j=true→set1 W i true j=true:=fun j hj=>by
  unfold set1;split
  ·rfl
  ·exact hj
 refine⟨fun v=>?_,fun v=>?_,fun j hj=>?_⟩
 ·unfold Jg
  by_cases e:v=d.v
  ·rw[if_pos e];exact⟨fun _=>⟨i,d,aC _ _ _,hd,e.symm⟩,fun _=>by omega⟩
  ·rw[if_neg e,h.pos v]
   constructor
   ·rintro⟨j,c',h1,h2,h3⟩;exact⟨j,c',up j h1,h2,h3⟩
   ·rintro⟨j,c',h1,h2,h3⟩
    by_cases e2:j=i
    ·rw[e2,hd]at h2;obtain rfl:=Option.some.inj h2;exact absurd h3.symm e
    ·rw[ak e2]at h1;exact⟨j,c',h1,h2,h3⟩
 ·unfold Jg;have:=h.le v
  split<;>omega
 ·by_cases e2:j=i
  ·rw[e2,hd];simp
  ·rw[ak e2]at hj;exact h.has j hj
theorem uj.none:uj nd (fun _=>false) (fun _=>0) 0:=⟨fun v=>⟨fun h=>absurd h (by omega),fun⟨i,d,h,_⟩=>by cases h⟩,fun v=>Nat.le_refl _,fun i h=>by cases h⟩
/-- The variables on which a function hangs: those whose count is not 0. -/
structure T_(n:Nat)(N:Nat→Nat)(ψ:BF):Prop where
 lt:∀v,0<N v→v<n
 only:∀a b:Nat→Bool,(∀v,0<N v→a v=b v)→ψ a=ψ b
 hang:∀v,0<N v→¬∀a b,ψ (upd a v b)=ψ a
theorem Qh(hg:GI n ah nd D){W:Nat→Bool}{N:Nat→Nat}{c e:Nat}(he:ok nd e)(hs:vD nd ah 0 e (fun _=>false) W)(hn:uj nd W N c):T_ n N (De D e):=by
 refine⟨fun v hv=>?_,fun a b hab=>?_,fun v hv hf=>?_⟩
 ·obtain⟨i,d,-,h2,rfl⟩:=(hn.pos v).1 hv;exact hg.lt _ _ h2
 ·exact rX hg hs.cl (fun i d hi hd=>hab d.v ((hn.pos d.v).2 ⟨i,d,hi,hd,rfl⟩)) n 0 e (by omega) he.und hs.has
 ·obtain⟨i,d,h1,h2,rfl⟩:=(hn.pos v).1 hv
  rcases hs.new i h1 with h3|⟨d',h3,-,k,hk⟩
  ·cases h3
  ·exact vF hg n 0 e (by omega) he.und hf k i d hk h2 rfl
end
/-- What Right looks at,one by one. -/
structure Xj(L:List (List Nat))(G:List Nat)(m:Nat)(ds:List Stp):Prop where
 len:ds.length=m
 part:∀s∈ds,s.part<m
 fresh:∀(j:Nat)(s:Stp),ds[j]?=some s→s.part∉(ds.take j).map (·.part)
 pos:∀p,p<m→p∈ds.map (·.part)∧∃t,ds[(ds.map (·.part)).idxOf p]?=some t∧t.part=p
 out:∀s∈ds,∀v∈s.out,v∈G
 far:∀(i j:Nat)(s t:Stp),i<j→ds[i]?=some s→ds[j]?=some t→∀v∈s.out,v∉t.out∧v∉L.getD t.part []
 all:0<m→∀v∈G,∃s∈ds,v∈s.out
theorem Xk{L:List (List Nat)}{G:List Nat}{m:Nat}{ds:List Stp}(h:Mi L G (List.range m) (G.filter (fun v=>aU L (List.range m) v==0)) ds):Xj L G m ds:=by
 have hfr:∀(j:Nat)(s:Stp),ds[j]?=some s→s.part∉(ds.take j).map (·.part):=fun j s hs hm=>by
  obtain⟨t,ht,e⟩:=List.mem_map.1 hm;obtain⟨q,hq⟩:=List.mem_iff_getElem?.1 ht
  have TY:q<j:=by
   have:=(List.getElem?_eq_some_iff.1 hq).1;rw[List.length_take]at this;omega
  rw[List.getElem?_take_of_lt TY]at hq;obtain⟨h1,e1⟩:=List.getElem?_eq_some_iff.1 hq;obtain⟨h2,e2⟩:=List.getElem?_eq_some_iff.1 hs;have:=List.pairwise_iff_getElem.1 h.nodup q j (by simpa using h1) (by simpa using h2) TY;rw[List.getElem_map,List.getElem_map,e1,e2]at this;exact this e
 refine⟨by rw[h.len,List.length_range],fun s hs=>List.mem_range.1 ((h.parts _).1 ⟨s,hs,rfl⟩),hfr,fun p hp=>?_,fun s hs v hv=>?_,fun i j s t hij hi hj v hv=>?_,fun h0 v hv=>?_⟩
 ·obtain⟨s,hs,e⟩:=(h.parts p).2 (List.mem_range.2 hp);have hm:p∈ds.map (·.part):=List.mem_map.2 ⟨s,hs,e⟩;have hl:=List.idxOf_lt_length_of_mem hm;refine⟨hm,ds[(ds.map (·.part)).idxOf p]'(by simpa using hl),List.getElem?_eq_getElem _,?_⟩;have:=List.getElem_idxOf hl;rw[List.getElem_map]at this;exact this
 ·rcases h.out s hs v hv with h1|h1
  ·exact h1.1
  ·exact(List.mem_filter.1 h1).1
 ·obtain⟨h1,e1⟩:=List.getElem?_eq_some_iff.1 hi;obtain⟨h2,e2⟩:=List.getElem?_eq_some_iff.1 hj;have:=List.pairwise_iff_getElem.1 h.far i j h1 h2 hij v (by rw[e1];exact hv);rw[e2]at this;exact this
 ·refine h.all v ?_
  by_cases hc:0<aU L (List.range m) v
  ·exact .inl ⟨hv,hc⟩
  ·refine .inr ⟨fun h9=>?_,List.mem_filter.2 ⟨hv,by simp;omega⟩⟩;have:=congrArg List.length h9;rw[List.length_range]at this;simp at this;omega
/-- Where each part stands,so far. -/
def pQ(l:List Nat)(v:Nat):Option Int:=if v∈l then some (l.idxOf v:Nat)else none
theorem Jh{l:List Nat}{a:Nat}(h:a∉l)(v:Nat):(if v=a then some ((l.length:Nat):Int)else pQ l v)=pQ (l++[a]) v:=by
 unfold pQ
 by_cases e:v=a
 ·subst e;rw[if_pos rfl,if_pos (by simp)];rw[List.idxOf_append,if_neg h];simp
 ·rw[if_neg e]
  by_cases hv:v∈l
  ·rw[if_pos hv,if_pos (by simp[hv]),List.idxOf_append,if_pos hv]
  ·rw[if_neg hv,if_neg (by simp[hv,e])]
theorem Ji{l:List Nat}{a:Nat}(h:a∉l):pQ l a=none:=if_neg h
theorem sw{ds:List Stp}{j:Nat}{s:Stp}(h:ds[j]?=some s):(ds.take (j+1))=ds.take j++[s]:=by
 rw[List.take_add_one,h];rfl
theorem yw{X:Nat→BF}{s:Stp}:∀(l:List Stp)(h:BF),Cg X h (l++[s])=eP s.out (fun a=>Cg X h l a&&X s.part a)
 |[],h=>rfl
 |t::l,h=>yw l _
theorem MN:∀l:List Nat,eP l (fun _=>true)=fun _=>true:=fun l=>funext fun a=>(fK l _ a).2 ⟨a,fun _ _=>rfl,rfl⟩
theorem MO{fs:List BF}{j:Nat}{f:BF}(h:fs[j]?=some f)(a:Nat→Bool):(fs.take (j+1)).all (fun f=>f a)=((fs.take j).all (fun f=>f a)&&f a):=by
 rw[List.take_add_one,h,Option.toList_some,List.all_append];simp
theorem Jj(fs:List BF)(a:Nat→Bool):iG (fun i=>fs.getD i (fun _=>true)) (List.range fs.length) a=fs.all (fun f=>f a):=by
 rw[Bool.eq_iff_iff,jD,List.all_eq_true]
 constructor
 ·intro h f hf;obtain⟨i,hi⟩:=List.mem_iff_getElem?.1 hf;have:=h i (List.mem_range.2 (List.getElem?_eq_some_iff.1 hi).1);rw[List.getD_eq_getElem?_getD,hi]at this;exact this
 ·intro h i hi;have hl:=List.mem_range.1 hi;rw[List.getD_eq_getElem?_getD,List.getElem?_eq_getElem hl];exact h _ (List.getElem_mem hl)
theorem Jk{fs:List BF}{ls:List (List Nat)}{G0:List Nat}{ds:List Stp}(hlen:ls.length=fs.length)(hX:∀(i:Nat) (f:BF) (l:List Nat),fs[i]?=some f→ls[i]?=some l→∀a b:Nat→Bool,(∀v∈l,a v=b v)→f a=f b)(hP:m_ (ls.map f_) (f_ G0) (List.range ls.length) ((f_ G0).filter (fun v=>aU (ls.map f_) (List.range ls.length) v==0)) ds) :
 Cg (fun i=>fs.getD i (fun _=>true)) (fun _=>true) ds=eP G0 (fun a=>fs.all (fun f=>f a)):=by
 have hX2:∀i a b,(∀v,v∈(ls.map f_).getD i []→a v=b v)→(fs.getD i (fun _=>true)) a=(fs.getD i (fun _=>true)) b:=fun i a b h=>by
  rcases Nat.lt_or_ge i fs.length with hi|hi
  ·have e1:fs[i]?=some fs[i]:=List.getElem?_eq_getElem hi;have e2:ls[i]?=some ls[i]:=List.getElem?_eq_getElem (by omega);rw[List.getD_eq_getElem?_getD,e1];refine hX i _ _ e1 e2 a b (fun v hv=>h v ?_);rw[List.getD_eq_getElem?_getD,List.getElem?_map,e2];exact(dV _ _).2 hv
  ·rw[List.getD_eq_getElem?_getD,List.getElem?_eq_none hi]
   rfl
 have h0:∀v∈(f_ G0).filter (fun v=>aU (ls.map f_) (List.range ls.length) v==0),aU (ls.map f_) (List.range ls.length) v=0:=fun v hv=>by
  have:=(List.mem_filter.1 hv).2
  simpa using this
 have hfin:(fun a:Nat→Bool=>true&&iG (fun i=>fs.getD i (fun _=>true)) (List.range ls.length) a)=fun a=>fs.all (fun f=>f a):=by
  funext a
  rw[Bool.true_and,hlen,Jj]
 cases hls:ls with
 |nil=>
  subst hls;have hf:fs=[]:=List.eq_nil_of_length_eq_zero (by rw[←hlen];rfl);subst hf;have:=Ch hX2 (fun _=>true) hP List.nodup_range h0 [] (fun v=>by simp[aU]);rw[this];simp only[List.all_nil];rw[MN]
  rfl
 |cons x xs=>
  have hne:(List.range ls.length)≠[]:=by rw[hls];simp
  have:=Ch hX2 (fun _=>true) hP List.nodup_range h0 (f_ G0) (fun v=>by
   constructor
   ·intro hv
    by_cases hc:0<aU (ls.map f_) (List.range ls.length) v
    ·exact .inl ⟨hv,hc⟩
    ·exact .inr ⟨hne,List.mem_filter.2 ⟨hv,by simp;omega⟩⟩
   ·rintro(⟨h1,-⟩|⟨-,h1⟩)
    ·exact h1
    ·exact(List.mem_filter.1 h1).1)
  rw[this,hfin];exact zM (fun v=>dV _ _) _
theorem yA{n:Nat}:∀(l:List Nat)(φ:BF),pK n φ→pK n (eP l φ)
 |[],φ,h=>h
 |v::l,φ,h=>yA l _ (fun a b hab=>by
  have h1:∀c,φ (upd a v c)=φ (upd b v c):=fun c=>h _ _ (fun w hw=>by
   unfold upd
   by_cases e:w=v
   ·rw[if_pos e,if_pos e]
   ·rw[if_neg e,if_neg e];exact hab w hw)
  unfold IX
  rw[h1,h1])
theorem Jl{n:Nat}{fs:List BF}(h:∀f∈fs,pK n f):pK n (fun a=>fs.all (fun f=>f a)):=fun a b hab=>by
 rw[Bool.eq_iff_iff,List.all_eq_true,List.all_eq_true];exact⟨fun h1 f hf=>by rw[←h f hf a b hab];exact h1 f hf,fun h1 f hf=>by rw[h f hf a b hab];exact h1 f hf⟩
end Go.Proofs.YtpijlhlpejlhhaaGreat.Bd
