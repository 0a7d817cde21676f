/- Walks and plain words: BdM BdN BdO BdP BdQ BdR. -/
import Derived.Test.YtpijlhlpejlhhaaGreatVBdF
namespace Go.Proofs.YtpijlhlpejlhhaaGreat.Bd
set_option linter.unusedVariables false
set_option linter.unusedSimpArgs false
set_option linter.unusedSectionVars false
section
variable {n room:Nat} {ah:Nat→Nat} {pend:Nat→Bool} {ext:Nat→Int} {S S0:St} {D D0:Nat→BF} {x y:Nat}
/-- The store while two levels are exchanged. -/
structure GV(n room:Nat)(ah:Nat→Nat)(x y:Nat)(S0:St)(D0:Nat→BF)(ext:Nat→Int)(pend:Nat→Bool)(S:St)(D:Nat→BF):Prop where
 i:Pj n ah x y S0.nd D0 pend S.nd D
 s:SI n room pend ext S
 l:∀i,pend i=true→0<S.cnt i
 r:∀i,S0.nd i≠none→S.refs i=S0.refs i
 z:∀i,S.nd i≠none→S0.nd i=none→S.refs i=0
theorem GP.WY{L:Nat}(h:GP n ah pend L S.nd D)(i:Nat)(d:Nd)(hd:S.nd i=some d):ok S.nd d.lo∧ok S.nd d.hi:=by
 cases hp:pend i with
 |true=>exact h.po i d hd hp
 |false=>exact⟨(h.ul i d hd hp).ok,(h.uh i d hd hp).ok⟩
section
variable (h0:GI n ah S0.nd D0) (hx:x<n) (hy:y<n) (hl:ah y=ah x+1) (h:GV n room ah x y S0 D0 ext pend S D)
include h0 hx hy hl h
/-- below,in the store. -/
theorem kR{lo hi:Nat}(mG:iB S.nd (gJ ah x y) pend (ah x) (ah x+2) lo)(qc:iB S.nd (gJ ah x y) pend (ah x) (ah x+2) hi)(hf:S.takes x lo hi→¬S.full room) :
 ∃D',PE n ah x y S0.nd D0 pend S.nd D lo hi (S.mk' x lo hi).2 (S.mk' x lo hi).1.nd D'∧GV n room ah x y S0 D0 ext pend (S.mk' x lo hi).1 D':=by
 unfold St.mk'
 by_cases e:lo=hi
 ·rw[if_pos e];subst e;exact⟨D,Es h0 hx hy hl h.i mG,h⟩
 ·rw[if_neg e]
  cases ht:S.tab x (flip lo (odd hi)) (flip hi (odd hi))with
  |some i=>
   obtain⟨h1,h2⟩:=(h.s.tb x _ _ i hx).1 ht;exact⟨D,BN h0 hx hy hl h.i h1 h2,h⟩
  |none=>
   have hnew:∀j,S.nd j=some ⟨x,flip lo (odd hi),flip hi (odd hi)⟩→pend j=true:=fun j hj=>by
    cases hp:pend j with
    |true=>rfl
    |false=>
     have:=(h.s.tb x _ _ j hx).2 ⟨hj,hp⟩;rw[ht]at this;cases this
   obtain⟨s0,-,sn,-⟩:=h.s.slot
   have hp:pend S.slot=false:=by
    cases hp:pend S.slot with
    |false=>rfl
    |true=>obtain⟨d,-,h1,-⟩:=h.i.pn _ hp;rw[sn]at h1;cases h1
   have hb:=IW h0 hx hy hl h.i s0 sn e mG qc hnew
   have hin:∀p c,S.nd p=some c→c.lo/2≠S.slot∧c.hi/2≠S.slot:=fun p c hc=>by
    obtain⟨o1,o2⟩:=h.i.g.WY p c hc
    have hz:∀e,ok S.nd e→e/2≠S.slot:=fun e he e9=>by
     rcases he with h1|⟨d,h1⟩
     ·omega
     ·rw[e9,sn]at h1;cases h1
    exact⟨hz _ o1,hz _ o2⟩
   have hs0:S0.nd S.slot=none:=by
    cases hd:S0.nd S.slot with
    |none=>rfl
    |some d=>obtain⟨⟨d',h1⟩,-⟩:=h.i.old _ d hd;rw[sn]at h1;cases h1
   refine⟨_,hb,hb.si,h.s.add (hf ⟨e,ht⟩) hp hnew hin,fun i hi=>?_,fun i hi=>?_,fun i hi TP=>?_⟩
   ·have:i≠S.slot:=fun e=>by rw[e,hp]at hi;cases hi
    show 0<set1 S.cnt S.slot 0 i;rw[ak this];exact h.l i hi
   ·have:i≠S.slot:=fun e=>by rw[e]at hi;exact hi hs0
    show set1 S.refs S.slot 0 i=_;rw[ak this];exact h.r i hi
   ·show set1 S.refs S.slot 0 i=0
    by_cases e9:i=S.slot
    ·rw[e9,aC]
    ·rw[ak e9];exact h.z i (fun h9=>hi ((ak (x:=some _) e9).trans h9)) TP
end
/-- One waiting node is turned,in the store. -/
def St.jf(S:St)(n x y:Nat)(nd0:Nat→Option Nd)(t:Nat)(d:Nd):St:=
 let r1:=S.mk' x (aB nd0 d.lo y) (aB nd0 d.hi y)
 let r2:=r1.1.mk' x (aI nd0 d.lo y) (aI nd0 d.hi y)
 let c1:=bD r2.1.nd n r2.1.cnt r2.1.dead r1.2
 let c2:=bD r2.1.nd n c1.1 c1.2 r2.2
 let nd':=set1 r2.1.nd t (some ⟨y,r1.2,r2.2⟩)
 let c3:=bU nd' n c2.1 c2.2 d.lo
 let c4:=bU nd' n c3.1 c3.2 d.hi
 { r2.1 with nd:=nd',cnt:=c4.1,dead:=c4.2,tab:=fun v lo hi=>if v=y∧lo=r1.2∧hi=r2.2 then some t else r2.1.tab v lo hi}
theorem xU(h:GI n ah S0.nd D0){e v:Nat}(he:e%2=0):aI S0.nd e v%2=0:=by
 unfold aI
 cases hd:S0.nd (e/2)with
 |none=>exact he
 |some d=>
  simp only
  split
  ·rw[uV he];unfold flip;simp;exact h.ev _ d hd
  ·exact he
theorem GX(h0:GI n ah S0.nd D0)(hx:x<n)(hy:y<n)(hl:ah y=ah x+1)(h:GV n room ah x y S0 D0 ext pend S D){t:Nat}{d:Nd}(hd:S0.nd t=some d)(hp:pend t=true)
 (hf1:S.takes x (aB S0.nd d.lo y) (aB S0.nd d.hi y)→¬S.full room)
 (hf2:(S.mk' x (aB S0.nd d.lo y) (aB S0.nd d.hi y)).1.takes x (aI S0.nd d.lo y) (aI S0.nd d.hi y)→¬(S.mk' x (aB S0.nd d.lo y) (aB S0.nd d.hi y)).1.full room) :
 ∃D',GV n room ah x y S0 D0 ext (set1 pend t false) (S.jf n x y S0.nd t d) D':=by
 obtain⟨d1,e1,hdt,hv,hT⟩:=h.i.pn t hp;obtain rfl:d1=d:=by rw[hd]at e1;exact(Option.some.inj e1).symm
 have hxy:=uU h0 hx hy hl;have Bz:und S0.nd ah (ah y) d1.lo:=by rw[hl,←hv];exact h0.ul _ _ hd
 have Et:und S0.nd ah (ah y) d1.hi:=by rw[hl,←hv];exact h0.uh _ _ hd
 obtain⟨uW,xg⟩:=bQ h0 hy Bz;obtain⟨uX,xq⟩:=bQ h0 hy Et;rw[hl]at uW xg uX xq;obtain⟨D1,b1,s1⟩:=kR h0 hx hy hl h (h.i.low h0 hx hy hl uW).1 (h.i.low h0 hx hy hl uX).1 hf1;unfold St.jf
 dsimp only
 generalize hr1:S.mk' x (aB S0.nd d1.lo y) (aB S0.nd d1.hi y)=r1 at *
 obtain⟨D2,b2,s2⟩:=kR h0 hx hy hl s1 (s1.i.low h0 hx hy hl xg).1 (s1.i.low h0 hx hy hl xq).1 hf2
 generalize hr2:r1.1.mk' x (aI S0.nd d1.lo y) (aI S0.nd d1.hi y)=r2 at *
 obtain⟨S1,lo⟩:=r1;obtain⟨S2,hi'⟩:=r2;simp only at *
 -- the two new edges in the second store
 have uZ:iB S2.nd (gJ ah x y) pend (ah x) (ah x+1) lo:=by
  rcases b1.und with h1|⟨c,h1,h2⟩
  ·exact .inl h1
  ·exact .inr ⟨c,(b2.up _ c h1).1,h2⟩
 have okl:ok S1.nd lo:=b1.und.ok
 have L_:De D2 lo=De D1 lo:=by
  funext a
  rcases okl with h1|⟨c,h1⟩
  ·unfold De;rw[h1,s2.i.g.d0,s1.i.g.d0]
  ·unfold De;rw[(b2.up _ c h1).2]
 have fl:∀a,De D2 lo a=if a x then De D0 (aB S0.nd d1.hi y) a else De D0 (aB S0.nd d1.lo y) a:=fun a=>by
  rw[L_,b1.fn a,(h.i.low h0 hx hy hl uW).2,(h.i.low h0 hx hy hl uX).2]
 have fh:∀a,De D2 hi' a=if a x then De D0 (aI S0.nd d1.hi y) a else De D0 (aI S0.nd d1.lo y) a:=fun a=>by
  rw[b2.fn a,(s1.i.low h0 hx hy hl xg).2,(s1.i.low h0 hx hy hl xq).2]
 have hev:hi'%2=0:=b2.par (xU h0 (h0.ev _ _ hd));have hI:=xS h0 hx hy hl s2.i hd hp uZ b2.und fl fh hev;obtain⟨d2,e2,zL,-,-⟩:=s2.i.pn t hp;obtain rfl:d2=d1:=by rw[hd]at e2;exact(Option.some.inj e2).symm
 have BQ:∀i,S2.nd i≠none→i<S2.N:=fun i hi=>(s2.s.nz i hi).2
 -- counts
 have W2:=s2.i.g.wf;have a1:=s2.i.g.at (Nat.le_refl _) uZ;have a2:=s2.i.g.at (Nat.le_refl _) b2.und;have c1:=CI.more W2 BQ n lo S2.cnt S2.dead ext a1 s2.s.ci;have c2:=CI.more W2 BQ n hi' _ _ _ a2 c1;have mP:¬fM ah x y pend S2.nd t:=fun h9=>by have:=h9.1;rw[hp]at this;cases this
 have TQ:0<(bD S2.nd n (bD S2.nd n S2.cnt S2.dead lo).1 (bD S2.nd n S2.cnt S2.dead lo).2 hi').1 t:=by
  rw[dR W2 mP n _ _ _ a2,dR W2 mP n _ _ _ a1];exact s2.l t hp
 have c3:=c2.turn BQ (d':=⟨y,lo,hi'⟩) zL TQ;have W3:=hI.g.wf
 have IZ:∀i,set1 S2.nd t (some ⟨y,lo,hi'⟩) i≠none→i<S2.N:=fun i hi=>by
  by_cases e:i=t
  ·rw[e];exact BQ t (by rw[zL];simp)
  ·rw[ak e]at hi;exact BQ i hi
 -- the elder edges
 have a3:∀e,und S0.nd ah (ah x+1) e→at_ n (set1 S2.nd t (some ⟨y,lo,hi'⟩)) (xA ah x y (set1 S2.nd t (some ⟨y,lo,hi'⟩))) (fM ah x y (set1 pend t false) (set1 S2.nd t (some ⟨y,lo,hi'⟩))) n e:=fun e hu=>by
  rcases hu with h1|⟨c,h1,h2⟩
  ·exact .inl h1
  ·have hcx:c.v≠x:=fun e9=>by rw[e9]at h2;omega
   obtain⟨h3,h4⟩:=hI.rest _ c h1 hcx;refine .inr ⟨by rw[h3];simp,⟨h4,c,h3,?_⟩,by omega⟩;unfold gJ;rw[if_neg hcx]
   split
   ·exact Nat.le_refl _
   ·omega
 have Sk:und S0.nd ah (ah x+1) d2.lo:=by rw[←hl];exact Bz
 have TS:und S0.nd ah (ah x+1) d2.hi:=by rw[←hl];exact Et
 have hx0:=s2.s.x0;have n1:=one_nonneg d2.lo;have n2:=one_nonneg d2.hi;have o1:one d2.lo (d2.lo/2)=1:=by unfold one;rw[if_pos rfl]
 have o2:one d2.hi (d2.hi/2)=1:=by unfold one;rw[if_pos rfl]
 have c3':CI S2.N (set1 S2.nd t (some ⟨y,lo,hi'⟩)) _ _ (fun i=>ext i+one d2.lo i+one d2.hi i):=⟨fun i hi=>by have:=c3.eq i hi;dsimp only at this;omega,c3.dd⟩;have c4:=CI.less W3 IZ n d2.lo _ _ _ (a3 _ Sk) (fun i=>by have:=hx0 i;have:=n1 i;have:=n2 i;omega) (fun _=>by have:=hx0 (d2.lo/2);have:=n2 (d2.lo/2);omega) c3';have c5:=CI.less W3 IZ n d2.hi _ _ _ (a3 _ TS) (fun i=>by have:=hx0 i;have:=n2 i;omega) (fun _=>by have:=hx0 (d2.hi/2);omega) c4;have c6:CI S2.N (set1 S2.nd t (some ⟨y,lo,hi'⟩)) _ _ ext:=⟨fun i hi=>by have:=c5.eq i hi;omega,c5.dd⟩;refine⟨D2,hI,⟨fun i hi=>?_,s2.s.fn,fun i=>?_,s2.s.N1,s2.s.Nr,fun i hi=>?_,s2.s.cN,c6,fun v l' h' i hv'=>?_,s2.s.x0,fun i hi=>?_⟩,fun i hi=>?_,s2.r,fun i hi TP=>?_⟩
 ·exact⟨by
   by_cases e:i=t
   ·rw[e];exact(s2.s.nz t (by rw[zL];simp)).1
   ·have:S2.nd i≠none:=by have h9:set1 S2.nd t (some ⟨y,lo,hi'⟩) i≠none:=hi;rw[ak e]at h9;exact h9
    exact(s2.s.nz i this).1,IZ i hi⟩
 ·have ht0:S2.nd t≠none:=by rw[zL];simp
  rw[s2.s.fr];show(0<i∧i<S2.N∧S2.nd i=none)↔(0<i∧i<S2.N∧set1 S2.nd t (some ⟨y,lo,hi'⟩) i=none)
  by_cases e:i=t
  ·rw[e,aC]
   constructor
   ·rintro⟨-,-,h9⟩;exact absurd h9 ht0
   ·rintro⟨-,-,h9⟩;cases h9
  ·rw[ak e]
 ·by_cases e:i=t
  ·rw[e];exact s2.s.cn t (by rw[zL];simp)
  ·have:S2.nd i≠none:=by have h9:set1 S2.nd t (some ⟨y,lo,hi'⟩) i≠none:=hi;rw[ak e]at h9;exact h9
   exact s2.s.cn i this
 ·show(if v=y∧l'=lo∧h'=hi' then some t else S2.tab v l' h')=some i↔(set1 S2.nd t (some ⟨y,lo,hi'⟩) i=some ⟨v,l',h'⟩∧set1 pend t false i=false)
  by_cases e:v=y∧l'=lo∧h'=hi'
  ·rw[if_pos e];obtain⟨rfl,rfl,rfl⟩:=e
   constructor
   ·intro h9;obtain rfl:=Option.some.inj h9;exact⟨aC _ _ _,aC _ _ _⟩
   ·rintro⟨h8,h9⟩;have:=hI.g.un i t _ h8 (aC _ _ _) h9 (aC _ _ _);rw[this]
  ·rw[if_neg e,s2.s.tb v l' h' i hv']
   by_cases e2:i=t
   ·rw[e2,aC,aC,hp]
    constructor
    ·rintro⟨-,h9⟩;cases h9
    ·rintro⟨h8,-⟩;have:=Option.some.inj h8
     injection this with q1 q2 q3
     exact absurd ⟨q1.symm,q2.symm,q3.symm⟩ e
   ·rw[ak e2,ak e2]
 ·have hi2:set1 S2.nd t (some ⟨y,lo,hi'⟩) i=none:=hi
  by_cases e:i=t
  ·rw[e,aC]at hi2;cases hi2
  ·rw[ak e]at hi2;exact s2.s.xz i hi2
 ·have e:i≠t:=fun e=>by rw[e,aC]at hi;cases hi
  have hi2:=hi;rw[ak e]at hi2;have g3:¬fM ah x y (set1 pend t false) (set1 S2.nd t (some ⟨y,lo,hi'⟩)) i:=fun h9=>by have:=h9.1;rw[hi]at this;cases this
  have g2:¬fM ah x y pend S2.nd i:=fun h9=>by have:=h9.1;rw[hi2]at this;cases this
  dsimp only
  rw[jW W3 g3 n _ _ _ (a3 _ TS),jW W3 g3 n _ _ _ (a3 _ Sk),dR W2 g2 n _ _ _ a2,dR W2 g2 n _ _ _ a1];exact s2.l i hi2
 ·have e:i≠t:=fun e=>by rw[e,hd]at TP;cases TP
  have hi2:set1 S2.nd t (some ⟨y,lo,hi'⟩) i≠none:=hi;rw[ak e]at hi2;exact s2.z i hi2 TP
end
section
variable {n room:Nat} {ah:Nat→Nat} {pend:Nat→Bool} {ext:Nat→Int} {S S0:St} {D D0:Nat→BF} {x y:Nat}
/-- The pair of edges under which a node is looked up. -/
def norm(a b:Nat):Nat×Nat:=(flip a (odd b),flip b (odd b))
/-- wants: the keys that are met,and not found,for the first time. -/
def dF(S:St)(x:Nat)(seen:List (Nat×Nat))(k:Nat×Nat):List (Nat×Nat):=if k.1=k.2∨(S.tab x k.1 k.2).isSome∨k∈seen then seen else seen++[k]
/-- The two keys of a node that is to be turned. -/
def keysOf(nd:Nat→Option Nd)(y:Nat)(d:Nd):List (Nat×Nat):=[norm (aB nd d.lo y) (aB nd d.hi y),norm (aI nd d.lo y) (aI nd d.hi y)]
def Ma(S:St)(x:Nat)(ks:List (Nat×Nat)):List (Nat×Nat):=ks.foldl (dF S x) []
theorem u_{ks:List (Nat×Nat)}:∀{seen:List (Nat×Nat)},seen.Nodup→(∀k∈seen,S.tab x k.1 k.2=none)→(ks.foldl (dF S x) seen).Nodup∧(∀k∈ks.foldl (dF S x) seen,S.tab x k.1 k.2=none)∧(∀k∈seen,k∈ks.foldl (dF S x) seen)∧(∀k∈ks,k.1≠k.2→S.tab x k.1 k.2=none→k∈ks.foldl (dF S x) seen):=by
 induction ks with
 |nil=>intro seen h1 h2;exact⟨h1,h2,fun k hk=>hk,fun k hk=>by cases hk⟩
 |cons k ks ih=>
  intro seen h1 h2;simp only[List.foldl_cons]
  have hst:(dF S x seen k).Nodup∧(∀j∈dF S x seen k,S.tab x j.1 j.2=none)∧(∀j∈seen,j∈dF S x seen k)∧(k.1≠k.2→S.tab x k.1 k.2=none→k∈dF S x seen k):=by
   unfold dF
   split
   ·rename_i h3
    refine⟨h1,h2,fun j hj=>hj,fun h4 h5=>?_⟩
    rcases h3 with h3|h3|h3
    ·exact absurd h3 h4
    ·rw[h5]at h3;cases h3
    ·exact h3
   ·rename_i h3
    simp only[not_or]at h3;refine⟨?_,fun j hj=>?_,fun j hj=>List.mem_append_left _ hj,fun _ _=>by simp⟩
    ·rw[List.nodup_append];exact⟨h1,by simp,fun a ha b hb e=>by rw[List.mem_singleton.1 hb]at e;rw[e]at ha;exact h3.2.2 ha⟩
    ·rcases List.mem_append.1 hj with h4|h4
     ·exact h2 j h4
     ·rw[List.mem_singleton.1 h4]
      cases h5:S.tab x k.1 k.2 with
      |none=>rfl
      |some i=>rw[h5]at h3;exact absurd rfl h3.2.1
  obtain⟨a,b,c,d⟩:=ih hst.1 hst.2.1;refine⟨a,b,fun j hj=>c j (hst.2.2.1 j hj),fun j hj h4 h5=>?_⟩
  rcases List.mem_cons.1 hj with rfl|hj
  ·exact c j (hst.2.2.2 h4 h5)
  ·exact d j hj h4 h5
/-- How many of the keys are in the table. -/
def present(S:St)(x:Nat)(K:List (Nat×Nat)):Nat:=(K.filter (fun k=>(S.tab x k.1 k.2).isSome)).length
theorem mH{α:Type}[DecidableEq α]{p q:α→Bool}{a:α}:∀{K:List α},K.Nodup→a∈K→p a=false→q a=true→(∀b,b≠a→q b=p b)→(K.filter q).length=(K.filter p).length+1
 |[],_,h,_,_,_=>by cases h
 |b::K,hn,h,hp,hq,hpq=>by
  rw[List.nodup_cons]at hn
  by_cases e:b=a
  ·subst e;have hs:K.filter q=K.filter p:=List.filter_congr (fun c hc=>hpq c (fun e=>hn.1 (e ▸ hc)));rw[List.filter_cons,List.filter_cons,if_pos hq,if_neg (by rw[hp];simp),hs]
   rfl
  ·have hm:a∈K:=by
    rcases List.mem_cons.1 h with h|h
    ·exact absurd h.symm e
    ·exact h
   have ih:=mH hn.2 hm hp hq hpq;rw[List.filter_cons,List.filter_cons,hpq b e]
   split
   ·simp only[List.length_cons];omega
   ·exact ih
/-- Looking for a wanted key keeps the account. -/
theorem lM{K:List (Nat×Nat)}(hs:SI n room pend ext S)(hx:x<n)(hK:K.Nodup){lo hi m:Nat}(hin:lo≠hi→S.tab x (norm lo hi).1 (norm lo hi).2=none→norm lo hi∈K)(hm:S.many=m+present S x K)(hr:m+K.length≤room) :
 (S.takes x lo hi→¬S.full room)∧(S.mk' x lo hi).1.many=m+present (S.mk' x lo hi).1 x K:=by
 have hle:present S x K≤K.length:=List.length_filter_le _ _;refine⟨fun ht=>?_,?_⟩
 ·apply SI.L9
  have hk:=hin ht.1 ht.2
  have:present S x K<K.length:=by
   unfold present;refine Nat.lt_of_le_of_ne (List.length_filter_le _ _) (fun e=>?_);have:=List.length_filter_eq_length_iff.1 e _ hk;rw[show S.tab x (norm lo hi).1 (norm lo hi).2=none from ht.2]at this;cases this
  omega
 ·unfold St.mk'
  by_cases e:lo=hi
  ·rw[if_pos e];exact hm
  ·rw[if_neg e]
   cases ht:S.tab x (flip lo (odd hi)) (flip hi (odd hi))with
   |some i=>exact hm
   |none=>
    have hk:=hin e ht;rw[hs.uY,hm]
    have h1:present (S.add ⟨x,flip lo (odd hi),flip hi (odd hi)⟩) x K=present S x K+1:=by
     unfold present;refine mH hK hk ?_ ?_ (fun b hb=>?_)
     ·show(S.tab x (flip lo (odd hi)) (flip hi (odd hi))).isSome=false;rw[ht];rfl
     ·show(if x=x∧flip lo (odd hi)=flip lo (odd hi)∧flip hi (odd hi)=flip hi (odd hi)then some S.slot else _).isSome=true;rw[if_pos ⟨rfl,rfl,rfl⟩];rfl
     ·show(if x=x∧b.1=flip lo (odd hi)∧b.2=flip hi (odd hi)then some S.slot else S.tab x b.1 b.2).isSome=_;rw[if_neg];rintro⟨-,h2,h3⟩;exact hb (Prod.ext h2 h3)
    rw[h1];omega
/-- The waiting nodes leave their table. -/
def St.cuts(S:St)(pend:Nat→Bool):St:={S with tab:=fun v lo hi=>match S.tab v lo hi with|some i=>if pend i then none else some i|none=>none}
theorem SI.cuts(hs:SI n room (fun _=>false) ext S)(pend:Nat→Bool):SI n room pend ext (S.cuts pend):=by
 refine⟨hs.nz,hs.fn,hs.fr,hs.N1,hs.Nr,hs.cn,hs.cN,hs.ci,fun v lo hi i hv=>?_,hs.x0,hs.xz⟩
 show(match S.tab v lo hi with|some i=>if pend i then none else some i|none=>none)=some i↔_
 cases ht:S.tab v lo hi with
 |none=>
  constructor
  ·intro h;cases h
  ·rintro⟨h1,-⟩;have:=(hs.tb v lo hi i hv).2 ⟨h1,rfl⟩;rw[ht]at this;cases this
 |some j=>
  have hj:=((hs.tb v lo hi j hv).1 ht).1;simp only
  constructor
  ·intro h1
   split at h1
   ·cases h1
   ·rename_i h2
    obtain rfl:=Option.some.inj h1;exact⟨hj,by simpa using h2⟩
  ·rintro⟨h1,h2⟩;have:=(hs.tb v lo hi i hv).2 ⟨h1,rfl⟩;rw[ht]at this;obtain rfl:=Option.some.inj this;rw[h2];simp
end
section
variable {n room:Nat} {ah:Nat→Nat} {pend:Nat→Bool} {ext:Nat→Int} {S S0:St} {D D0:Nat→BF} {x y:Nat}
theorem PV{a b:Nat}{c:Bool}:flip a c=flip b c↔a=b:=⟨qj,fun e=>by rw[e]⟩
theorem uE{a b:Nat}:(norm a b).1≠(norm a b).2↔a≠b:=by unfold norm;simp only[ne_eq,PV]
/-- Tables only grow under Mk. -/
theorem rT(S:St)(v lo hi u a b:Nat):(S.mk' v lo hi).1.tab u a b=none→S.tab u a b=none:=by
 unfold St.mk'
 split
 ·exact fun h=>h
 ·split
  ·exact fun h=>h
  ·intro h;have h1:(if u=v∧a=flip lo (odd hi)∧b=flip hi (odd hi)then some S.slot else S.tab u a b)=none:=h
   split at h1
   ·cases h1
   ·exact h1
/-- All waiting nodes are turned,one after the other. -/
def St.jg(nd0:Nat→Option Nd)(n x y:Nat)(S:St)(t:Nat):St:=match nd0 t with
 |some d=>S.jf n x y nd0 t d
 |none=>S
theorem xV(h0:GI n ah S0.nd D0)(hx:x<n)(hy:y<n)(hl:ah y=ah x+1){K:List (Nat×Nat)}(hK:K.Nodup){m:Nat}(hr:m+K.length≤room):∀(l:List Nat)(pend:Nat→Bool)(S:St)(D:Nat→BF),l.Nodup→(∀i,pend i=true↔i∈l)→GV n room ah x y S0 D0 ext pend S D →
 S.many=m+present S x K→(∀t∈l,∀d,S0.nd t=some d→∀k∈keysOf S0.nd y d,k.1≠k.2→S.tab x k.1 k.2=none→k∈K) →
 ∃D',GV n room ah x y S0 D0 ext (fun _=>false) (l.foldl (St.jg S0.nd n x y) S) D'∧(l.foldl (St.jg S0.nd n x y) S).many≤m+K.length
 |[],pend,S,D,_,hp,hS,hm,_=>by
  have:pend=fun _=>false:=funext fun i=>by
   cases h:pend i with
   |false=>rfl
   |true=>have:=(hp i).1 h;cases this
  subst this;refine⟨D,hS,?_⟩;have hle:present S x K≤K.length:=List.length_filter_le _ _;simp only[List.foldl_nil];omega
 |t::l,pend,S,D,hn,hp,hS,hm,hk=>by
  have hxy:=uU h0 hx hy hl;have hpt:=(hp t).2 (by simp);obtain⟨d,hd,-,-,-⟩:=hS.i.pn t hpt;rw[List.nodup_cons]at hn;simp only[List.foldl_cons];have e1:St.jg S0.nd n x y S t=S.jf n x y S0.nd t d:=by unfold St.jg;rw[hd]
  rw[e1];have hkey:=hk t (by simp) d hd;have hin1:aB S0.nd d.lo y≠aB S0.nd d.hi y→S.tab x (norm (aB S0.nd d.lo y) (aB S0.nd d.hi y)).1 (norm (aB S0.nd d.lo y) (aB S0.nd d.hi y)).2=none→norm (aB S0.nd d.lo y) (aB S0.nd d.hi y)∈K:=fun h1 h2=>hkey _ (by unfold keysOf;simp) (uE.2 h1) h2;obtain⟨f1,m1⟩:=lM hS.s hx hK hin1 hm hr;obtain⟨d1,e2,hdt,hv,hT⟩:=hS.i.pn t hpt;obtain rfl:d1=d:=by rw[hd]at e2;exact(Option.some.inj e2).symm
  have Bz:und S0.nd ah (ah y) d1.lo:=by rw[hl,←hv];exact h0.ul _ _ hd
  have Et:und S0.nd ah (ah y) d1.hi:=by rw[hl,←hv];exact h0.uh _ _ hd
  obtain⟨uW,xg⟩:=bQ h0 hy Bz;obtain⟨uX,xq⟩:=bQ h0 hy Et;rw[hl]at uW xg uX xq;obtain⟨D1,b1,s1⟩:=kR h0 hx hy hl hS (hS.i.low h0 hx hy hl uW).1 (hS.i.low h0 hx hy hl uX).1 f1;have hin2:aI S0.nd d1.lo y≠aI S0.nd d1.hi y→(S.mk' x (aB S0.nd d1.lo y) (aB S0.nd d1.hi y)).1.tab x (norm (aI S0.nd d1.lo y) (aI S0.nd d1.hi y)).1 (norm (aI S0.nd d1.lo y) (aI S0.nd d1.hi y)).2=none→norm (aI S0.nd d1.lo y) (aI S0.nd d1.hi y)∈K:=fun h1 h2=>hkey _ (by unfold keysOf;simp) (uE.2 h1) (rT _ _ _ _ _ _ _ h2);obtain⟨f2,m2⟩:=lM s1.s hx hK hin2 m1 hr;obtain⟨D',hS'⟩:=GX h0 hx hy hl hS hd hpt f1 f2
  -- the table of x behind it
  have htab:∀a b,(S.jf n x y S0.nd t d1).tab x a b=((S.mk' x (aB S0.nd d1.lo y) (aB S0.nd d1.hi y)).1.mk' x (aI S0.nd d1.lo y) (aI S0.nd d1.hi y)).1.tab x a b:=fun a b=>by
   unfold St.jf
   dsimp only
   rw[if_neg (fun h9=>hxy h9.1)]
  have xX:(S.jf n x y S0.nd t d1).many=m+present (S.jf n x y S0.nd t d1) x K:=by
   have h9:present (S.jf n x y S0.nd t d1) x K=present ((S.mk' x (aB S0.nd d1.lo y) (aB S0.nd d1.hi y)).1.mk' x (aI S0.nd d1.lo y) (aI S0.nd d1.hi y)).1 x K:=by
    unfold present
    congr 1
    exact List.filter_congr (fun k _=>by rw[htab])
   rw[h9,←m2]
   rfl
  refine xV h0 hx hy hl hK hr l (set1 pend t false) _ D' hn.2 (fun i=>?_) hS' xX (fun u hu c hc k hk1 h2 h3=>?_)
  ·by_cases e:i=t
   ·rw[e,aC]
    constructor
    ·intro h9;cases h9
    ·intro h9;exact absurd h9 hn.1
   ·rw[ak e,hp i,List.mem_cons]
    constructor
    ·rintro(h9|h9)
     ·exact absurd h9 e
     ·exact h9
    ·exact .inr
  ·refine hk u (List.mem_cons_of_mem _ hu) c hc k hk1 h2 ?_;rw[htab]at h3;exact rT _ _ _ _ _ _ _ (rT _ _ _ _ _ _ _ h3)
/-- The nodes that are to be turned,by increasing number. -/
def St.turned(S:St)(x y:Nat):List Nat:=(List.range S.N).filter (tp S.nd x y)
def St.wants(S:St)(x y:Nat):List (Nat×Nat):=Ma S x ((S.turned x y).flatMap fun t=>match S.nd t with|some d=>keysOf S.nd y d|none=>[])
/-- The exchange of two levels of a store without dead nodes. -/
def St.mY(S:St)(n x y:Nat):St:=(S.turned x y).foldl (St.jg S.nd n x y) (S.cuts (tp S.nd x y))
theorem Sm(hs:SI n room (fun _=>false) ext S){i:Nat}(h:tp S.nd x y i=true):i<S.N:=by
 unfold tp at h
 cases hd:S.nd i with
 |none=>rw[hd]at h;cases h
 |some d=>exact(hs.nz i (by rw[hd];simp)).2
theorem BS(h0:GI n ah S.nd D)(hs:SI n room (fun _=>false) ext S)(hx:x<n)(hy:y<n)(hl:ah y=ah x+1)(hlive:∀i,S.nd i≠none→0<S.cnt i)(hw:(S.wants x y).length≤room-S.many)(hm:S.many≤room) :
 ∃D',GI n (gJ ah x y) (S.mY n x y).nd D'∧SI n room (fun _=>false) ext (S.mY n x y)∧(∀i d,S.nd i=some d→(∃d',(S.mY n x y).nd i=some d')∧D' i=D i)∧(∀i,S.nd i≠none→(S.mY n x y).refs i=S.refs i)∧(∀i,(S.mY n x y).nd i≠none→S.nd i=none→(S.mY n x y).refs i=0):=by
 have hmem:∀i,tp S.nd x y i=true↔i∈S.turned x y:=fun i=>by
  unfold St.turned;rw[List.mem_filter,List.mem_range];exact⟨fun h=>⟨Sm hs h,h⟩,fun h=>h.2⟩
 have hS:GV n room ah x y S D ext (tp S.nd x y) (S.cuts (tp S.nd x y)) D:=by
  refine⟨Pj.start h0 hx hy hl,hs.cuts _,fun i hi=>?_,fun i _=>rfl,fun i h1 h2=>absurd h2 h1⟩;refine hlive i (fun h9=>?_);unfold tp at hi;rw[h9]at hi;cases hi
 obtain⟨w1,w2,-,w4⟩:=u_ (S:=S) (x:=x) (ks:=(S.turned x y).flatMap fun t=>match S.nd t with|some d=>keysOf S.nd y d|none=>[]) (seen:=[]) (by simp) (fun k hk=>by cases hk)
 have Mc:present (S.cuts (tp S.nd x y)) x (S.wants x y)=0:=by
  unfold present;rw[List.length_eq_zero_iff,List.filter_eq_nil_iff];intro k hk;have:=w2 k hk
  show ¬(match S.tab x k.1 k.2 with|some i=>if tp S.nd x y i then none else some i|none=>none).isSome=true
  rw[this];simp
 obtain⟨D',h1,-⟩:=xV (room:=room) (ext:=ext) h0 hx hy hl w1 (m:=S.many) (by show S.many+(S.wants x y).length≤room;omega) (S.turned x y) (tp S.nd x y) (S.cuts (tp S.nd x y)) D ((List.nodup_range).filter _) hmem hS (by show S.many=S.many+present (S.cuts (tp S.nd x y)) x (S.wants x y);rw[Mc];rfl) (fun t ht d hd k hk hne hnone=>by
  refine w4 k (List.mem_flatMap.2 ⟨t,ht,by rw[hd];exact hk⟩) hne ?_
  -- a key that only a waiting node bears is no key of a turned one
  cases hf:S.tab x k.1 k.2 with
  |none=>rfl
  |some i=>
   exfalso
   have hi:=((hs.tb x _ _ i hx).1 hf).1
   have hp:tp S.nd x y i=true:=by
    cases hpi:tp S.nd x y i with
    |true=>rfl
    |false=>
     have h9:(match S.tab x k.1 k.2 with|some i=>if tp S.nd x y i then none else some i|none=>none)=none:=hnone;rw[hf]at h9;simp only[hpi,Bool.false_eq_true,if_false]at h9;cases h9
   have hT:Ep S.nd y ⟨x,k.1,k.2⟩=true:=by
    unfold tp at hp;rw[hi]at hp;simp only[beq_self_eq_true,Bool.true_and]at hp;exact hp
   have hlow:∀e,und S.nd ah (ah x+2) e→aB S.nd e y=aI S.nd e y:=fun e he=>by
    unfold aB aI
    rcases he with h1|⟨c,h1,h2⟩
    ·rw[h1,h0.n0]
    ·rw[h1];simp only;rw[if_neg (fun e9=>by rw[e9,hl]at h2;omega),if_neg (fun e9=>by rw[e9,hl]at h2;omega)]
   have hpt:=(hmem t).2 ht
   have hvd:d.v=x:=by
    unfold tp at hpt;rw[hd]at hpt;simp only[Bool.and_eq_true,beq_iff_eq]at hpt;exact hpt.1
   have Bz:und S.nd ah (ah y) d.lo:=by rw[hl,←hvd];exact h0.ul _ _ hd
   have Et:und S.nd ah (ah y) d.hi:=by rw[hl,←hvd];exact h0.uh _ _ hd
   obtain⟨uW,xg⟩:=bQ h0 hy Bz;obtain⟨uX,xq⟩:=bQ h0 hy Et;rw[hl]at uW xg uX xq
   have hk2:und S.nd ah (ah x+2) k.1∧und S.nd ah (ah x+2) k.2:=by
    unfold keysOf at hk;simp only[List.mem_cons,List.not_mem_nil,or_false]at hk
    rcases hk with rfl|rfl
    ·exact⟨bT uW,bT uX⟩
    ·exact⟨bT xg,bT xq⟩
   unfold Ep at hT;simp only[hlow _ hk2.1,hlow _ hk2.2,bne_self_eq_false,Bool.or_self]at hT
   cases hT)
 exact⟨D',h1.i.g.gi,h1.s,h1.i.old,h1.r,h1.z⟩
end
section
variable {n room:Nat} {ah:Nat→Nat} {ext:Nat→Int} {S:St} {D:Nat→BF} {x y:Nat}
/-- Collect as the program does it: nothing where no node is dead. -/
def St.gc(S:St):St:=if S.dead=0 then S else S.collect
def Me(S:St):Prop:=∀i,S.nd i≠none→0<S.cnt i
theorem uF(hs:SI n room (fun _=>false) ext S):Me S.gc:=fun i hi=>by
 unfold St.gc at hi⊢
 by_cases h0:S.dead=0
 ·rw[if_pos h0]at hi⊢
  cases hc:S.cnt i with
  |succ k=>omega
  |zero=>
   exfalso
   have h1:=hs.ci.dd;rw[h0]at h1;have h2:=sumTo_le (f:=aT S.nd S.cnt) (N:=S.N) (k:=i) (hs.nz i hi).2 (fun j _=>by unfold aT;split<;>omega);rw[←h1]at h2;unfold aT at h2;rw[if_pos ⟨hi,hc⟩]at h2;omega
 ·rw[if_neg h0]at hi⊢;have:lives S.nd S.cnt i≠none:=hi;show 0<S.cnt i;unfold lives at this
  by_cases hc:S.cnt i=0
  ·rw[if_pos hc]at this;exact absurd rfl this
  ·omega
theorem BU(hs:SI n room (fun _=>false) ext S):SI n room (fun _=>false) ext S.gc:=by
 unfold St.gc;split
 ·exact hs
 ·exact hs.collect
theorem BZ(h:GI n ah S.nd D)(hs:SI n room (fun _=>false) ext S):GI n ah S.gc.nd D:=by
 unfold St.gc;split
 ·exact h
 ·exact h.collect hs.ci (fun i hi=>(hs.nz i hi).2) hs.x0
theorem PW{i:Nat}{d:Nd}(h:S.gc.nd i=some d):S.nd i=some d:=by
 unfold St.gc at h
 split at h
 ·exact h
 ·exact(dO.1 (show lives S.nd S.cnt i=some d from h)).1
theorem GY(hs:SI n room (fun _=>false) ext S){i:Nat}{d:Nd}(hx:0<ext i)(h:S.nd i=some d):S.gc.nd i=some d:=by
 unfold St.gc;split
 ·exact h
 ·show lives S.nd S.cnt i=some d;exact dO.2 ⟨h,hs.ci.held (by rw[h];simp) hx⟩
theorem GZ:S.gc.refs=S.refs:=by unfold St.gc;split<;>rfl
/-- The exchange,whole: the store behind it,and whether it took place. -/
def St.fits(S:St)(room x y:Nat):Prop:=(S.gc.wants x y).length≤room-S.gc.many
instance (S:St) (room x y:Nat):Decidable (S.fits room x y):=by unfold St.fits;infer_instance
def St.swap(S:St)(n room x y:Nat):St:=if S.fits room x y then(S.gc.mY n x y).gc else S.gc
/-- What an event leaves of a store: what is held stays. -/
structure Kept(ext:Nat→Int)(S:St)(D:Nat→BF)(S':St)(D':Nat→BF):Prop where
 nd:∀i,0<ext i→S.nd i≠none→S'.nd i≠none
 fn:∀i,0<ext i→S.nd i≠none→D' i=D i
 refs:∀i,0<ext i→S.nd i≠none→S'.refs i=S.refs i
theorem Kept.refl:Kept ext S D S D:=⟨fun _ _ h=>h,fun _ _ _=>rfl,fun _ _ _=>rfl⟩
theorem Kept.trans{S1 S2:St}{D1 D2:Nat→BF}(h:Kept ext S D S1 D1)(h':Kept ext S1 D1 S2 D2):Kept ext S D S2 D2:=
 ⟨fun i a b=>h'.nd i a (h.nd i a b),fun i a b=>(h'.fn i a (h.nd i a b)).trans (h.fn i a b),fun i a b=>(h'.refs i a (h.nd i a b)).trans (h.refs i a b)⟩
theorem Kept.gc(hs:SI n room (fun _=>false) ext S):Kept ext S D S.gc D:=by
 refine⟨fun i hx hi=>?_,fun i _ _=>rfl,fun i _ _=>by rw[GZ]⟩
 cases hd:S.nd i with
 |none=>exact absurd hd hi
 |some d=>rw[GY hs hx hd];simp
theorem G5(hs:SI n room (fun _=>false) ext S):S.many≤room:=by
 have:=hs.Nr;unfold St.many;omega
/-- The nodes' own counts are those of the references from outside. -/
def RF(ext:Nat→Int)(S:St):Prop:=∀i,S.nd i≠none→(S.refs i:Int)=ext i
theorem G7(h:RF ext S):RF ext S.gc:=fun i hi=>by
 rw[GZ];refine h i ?_
 cases hd:S.gc.nd i with
 |none=>exact absurd hd hi
 |some d=>rw[PW hd];simp
theorem PX(hr:RF ext S)(h:GI n ah S.nd D)(hs:SI n room (fun _=>false) ext S)(hx:x<n)(hy:y<n)(hl:ah y=ah x+1) :
 ∃D',GI n (if S.fits room x y then gJ ah x y else ah) (S.swap n room x y).nd D'∧SI n room (fun _=>false) ext (S.swap n room x y)∧Kept ext S D (S.swap n room x y) D'∧RF ext (S.swap n room x y):=by
 unfold St.swap
 by_cases hf:S.fits room x y
 ·simp only[if_pos hf];have g:=BZ h hs;have s:=BU hs;obtain⟨D',g1,s1,k1,r1,z1⟩:=BS g s hx hy hl (uF hs) hf (G5 s);refine⟨D',BZ g1 s1,BU s1,(Kept.gc hs (D:=D)).trans (Kept.trans (S1:=S.gc.mY n x y) (D1:=D') ⟨fun i _ hi=>?_,fun i _ hi=>?_,fun i _ hi=>r1 i hi⟩ (Kept.gc s1)),G7 (fun i hi=>?_)⟩
  ·cases hd:S.gc.nd i with
   |none=>exact absurd hd hi
   |some d=>obtain⟨⟨d',e⟩,-⟩:=k1 i d hd;rw[e];simp
  ·cases hd:S.gc.nd i with
   |none=>exact absurd hd hi
   |some d=>exact(k1 i d hd).2
  ·by_cases hd:S.gc.nd i=none
   ·rw[z1 i hi hd,s.xz i hd];rfl
   ·rw[r1 i hd];exact G7 hr i hd
 ·simp only[if_neg hf];exact⟨D,BZ h hs,BU hs,Kept.gc hs,G7 hr⟩
end
section
variable {n room:Nat} {ah:Nat→Nat} {ext:Nat→Int} {S:St} {D:Nat→BF} {nd:Nat→Option Nd}
/-- The nodes on the ways from an edge,k deep. -/
def reach(nd:Nat→Option Nd):Nat→Nat→List Nat
 |0,_=>[]
 |k+1,e=>match nd (e/2)with
  |none=>[]
  |some d=>e/2::(reach nd k d.lo++reach nd k d.hi)
theorem rU:∀(k e:Nat),(reach nd k e).length+1≤2^k
 |0,_=>by simp[reach]
 |k+1,e=>by
  have hp:0<2^k:=Nat.two_pow_pos k;unfold reach
  cases nd (e/2)with
  |none=>simp only[List.length_nil];omega
  |some d=>
   have h1:=rU k d.lo;have h2:=rU k d.hi;simp only[List.length_cons,List.length_append,Nat.pow_succ];omega
theorem vg:∀(k e i:Nat),i∈reach nd k e→i∈reach nd (k+1) e
 |0,e,i,h=>by simp[reach]at h
 |k+1,e,i,h=>by
  unfold reach at h⊢
  cases hd:nd (e/2)with
  |none=>rw[hd]at h;exact h
  |some d=>
   rw[hd]at h;simp only[List.mem_cons,List.mem_append]at h⊢
   rcases h with h|h|h
   ·exact .inl h
   ·exact .inr (.inl (vg k _ _ h))
   ·exact .inr (.inr (vg k _ _ h))
theorem vk{k m e i:Nat}(h:i∈reach nd k e)(hm:k≤m):i∈reach nd m e:=by
 obtain⟨j,rfl⟩:=Nat.le.dest hm
 induction j with
 |zero=>exact h
 |succ j ih=>exact vg _ _ _ (ih (by omega))
theorem lN{k e:Nat}(h:nd (e/2)≠none):e/2∈reach nd (k+1) e:=by
 unfold reach
 cases hd:nd (e/2)with
 |none=>exact absurd hd h
 |some d=>exact List.mem_cons_self
theorem mZ{p:Nat}{d:Nd}(hp:nd p=some d){e':Nat}(he:e'=d.lo∨e'=d.hi)(hi:nd (e'/2)≠none):∀(k e:Nat),p∈reach nd k e→e'/2∈reach nd (k+1) e
 |0,e,h=>by simp[reach]at h
 |k+1,e,h=>by
  unfold reach at h⊢
  cases hd:nd (e/2)with
  |none=>rw[hd]at h;cases h
  |some d'=>
   rw[hd]at h;simp only[List.mem_cons,List.mem_append]at h⊢
   rcases h with h|h|h
   ·subst h;rw[hp]at hd;obtain rfl:=Option.some.inj hd
    rcases he with rfl|rfl
    ·exact .inr (.inl (lN hi))
    ·exact .inr (.inr (lN hi))
   ·exact .inr (.inl (mZ hp he hi k _ h))
   ·exact .inr (.inr (mZ hp he hi k _ h))
theorem xY{f:Nat→Int}:∀{N:Nat},(∀i,i<N→0≤f i)→0<sumTo f N→∃i,i<N∧0<f i
 |0,_,h=>by simp[sumTo]at h
 |N+1,h0,h=>by
  unfold sumTo at h
  by_cases h1:0<f N
  ·exact⟨N,by omega,h1⟩
  ·have:=h0 N (by omega);obtain⟨i,h2,h3⟩:=xY (N:=N) (fun i hi=>h0 i (by omega)) (by omega);exact⟨i,by omega,h3⟩
theorem PY{nd:Nat→Option Nd}{cnt:Nat→Nat}{i p:Nat}(h:0<fU nd cnt i p):∃d e,nd p=some d∧0<cnt p∧(e=d.lo∨e=d.hi)∧e/2=i:=by
 unfold fU at h
 cases hd:nd p with
 |none=>rw[hd]at h;simp at h
 |some d=>
  rw[hd]at h;simp only at h
  by_cases hc:cnt p=0
  ·simp[hc]at h
  ·have hc':0<cnt p:=by omega
   unfold one at h
   by_cases h1:d.lo/2=i
   ·exact⟨d,d.lo,rfl,hc',.inl rfl,h1⟩
   ·by_cases h2:d.hi/2=i
    ·exact⟨d,d.hi,rfl,hc',.inr rfl,h2⟩
    ·simp[h1,h2]at h
theorem vo(h:GI n ah S.nd D)(hs:SI n room (fun _=>false) ext S){l:List Nat}(hl:∀i,0<ext i→∃e∈l,e/2=i):∀(m i:Nat)(d:Nd),S.nd i=some d→ah d.v<m→0<S.cnt i→∃e∈l,i∈reach S.nd (ah d.v+1) e
 |0,i,d,hd,hm,hc=>by omega
 |m+1,i,d,hd,hm,hc=>by
  by_cases hx:0<ext i
  ·obtain⟨e,he,rfl⟩:=hl i hx;exact⟨e,he,lN (by rw[hd];simp)⟩
  ·have h1:=hs.ci.eq i (by rw[hd];simp);have h2:=hs.x0 i;obtain⟨p,-,hp⟩:=xY (f:=fU S.nd S.cnt i) (N:=S.N) (fun q _=>iO _ _ _ _) (by omega);obtain⟨c,e',hc1,hc2,he',rfl⟩:=PY hp
   have hu:und S.nd ah (ah c.v+1) e':=by
    rcases he' with rfl|rfl
    ·exact h.ul p c hc1
    ·exact h.uh p c hc1
   have hlt:ah c.v+1≤ah d.v:=by
    rcases hu with h9|⟨d',h8,h9⟩
    ·rw[h9,h.n0]at hd;cases hd
    ·rw[hd]at h8;obtain rfl:=Option.some.inj h8;exact h9
   obtain⟨e,he,hr⟩:=vo h hs hl m p c hc1 (by omega) hc2;exact⟨e,he,vk (mZ hc1 he' (by rw[hd];simp) _ _ hr) (by omega)⟩
theorem G8:∀{l m:List Nat},l.Nodup→(∀i∈l,i∈m)→l.length≤m.length
 |[],m,_,_=>Nat.zero_le _
 |a::l,m,hn,h=>by
  have h1:a∈m:=h a List.mem_cons_self;have h2:=List.nodup_cons.1 hn;have h3:=G8 (l:=l) (m:=m.erase a) h2.2 (fun i hi=>(List.mem_erase_of_ne (show i≠a from fun e=>h2.1 (by rw[←e];exact hi))).2 (h i (List.mem_cons_of_mem _ hi)));rw[List.length_erase_of_mem h1]at h3;have:=List.length_pos_of_mem h1;simp only[List.length_cons];omega
theorem qy{α:Type}{f:α→List Nat}{c:Nat}(hf:∀x,(f x).length≤c):∀l:List α,(l.flatMap f).length≤l.length*c
 |[]=>by simp
 |a::l=>by
  have:=qy hf l;have h1:=hf a;rw[List.flatMap_cons,List.length_append,List.length_cons,Nat.succ_mul];omega
/-- A store without dead nodes has few nodes. -/
theorem I4(h:GI n ah S.nd D)(hs:SI n room (fun _=>false) ext S)(hd:Me S){l:List Nat}(hl:∀i,0<ext i→∃e∈l,e/2=i):S.many≤l.length*(2^n-1):=by
 have h1:S.N≤1+S.free.length+(l.flatMap (reach S.nd n)).length:=by
  have h2:=G8 (l:=List.range S.N) (m:=[0]++S.free++l.flatMap (reach S.nd n)) List.nodup_range (fun i hi=>by
   have hN:=List.mem_range.1 hi;simp only[List.mem_append,List.mem_singleton,List.mem_flatMap]
   by_cases h0:i=0
   ·exact .inl (.inl h0)
   ·cases hn:S.nd i with
    |none=>exact .inl (.inr ((hs.fr i).2 ⟨by omega,hN,hn⟩))
    |some d=>
     obtain⟨e,he,hr⟩:=vo h hs hl (ah d.v+1) i d hn (by omega) (hd i (by rw[hn];simp))
     exact .inr ⟨e,he,vk hr (h.ll _ (h.lt _ _ hn))⟩)
  simp only[List.length_range,List.length_append,List.length_singleton]at h2;omega
 have h2:=qy (f:=reach S.nd n) (c:=2^n-1) (fun e=>by have:=rU (nd:=S.nd) n e;omega) l;unfold St.many;omega
end
section
/-- An event: after how many calls,kind,level. -/
structure Ev where
 after:Int
 kind:Int
 level:Int
/-- The manager. -/
structure MS where
 S:St
 ah:Nat→Nat
 ord:List Nat
 D:Nat→BF
 H:List (Nat×Nat)
 next:Nat
 waits:List Ev
/-- How many handles lead to a node. -/
def hx(H:List (Nat×Nat))(i:Nat):Int:=if i=0 then 0 else((H.filter (fun p=>p.2/2==i)).length:Int)
theorem jC(H:List (Nat×Nat))(i:Nat):0≤hx H i:=by unfold hx;split<;>omega
theorem uG(H:List (Nat×Nat))(h e i:Nat):hx ((h,e)::H) i=hx H i+(if i≠0 then one e i else 0):=by
 unfold hx one
 by_cases hi:i=0
 ·simp[hi]
 ·simp only[hi,if_false,ne_eq,not_false_eq_true,if_true,List.filter_cons]
  by_cases he:e/2=i
  ·simp[he]
  ·simp[he]
theorem TT{H:List (Nat×Nat)}{i:Nat}(h:0<hx H i):∃p∈H,p.2/2=i:=by
 unfold hx at h
 split at h
 ·omega
 ·have:0<(H.filter (fun p=>p.2/2==i)).length:=by omega
  obtain⟨p,hp⟩:=List.exists_mem_of_length_pos this;obtain⟨h1,h2⟩:=List.mem_filter.1 hp;exact⟨p,h1,by simpa using h2⟩
theorem rV{H:List (Nat×Nat)}{h e:Nat}(hm:(h,e)∈H)(he:e/2≠0):0<hx H (e/2):=by
 unfold hx;rw[if_neg he];have:0<(H.filter (fun p=>p.2/2==e/2)).length:=List.length_pos_of_mem (List.mem_filter.2 ⟨hm,by simp⟩);omega
/-- The order and the levels are inverse. -/
structure B_(n:Nat)(ord:List Nat)(ah:Nat→Nat):Prop where
 len:ord.length=n
 lt:∀k (hk:k<ord.length),ord[k]<n
 at':∀k (hk:k<ord.length),ah ord[k]=k
 of:∀v,v<n→ord[ah v]?=some v
/-- The store's levels and nodes are right. -/
structure Inv(n room:Nat)(M:MS):Prop where
 gi:GI n M.ah M.S.nd M.D
 si:SI n room (fun _=>false) (hx M.H) M.S
 od:B_ n M.ord M.ah
 rf:∀i,M.S.nd i≠none→(M.S.refs i:Int)=hx M.H i
 ho:∀h e,(h,e)∈M.H→ok M.S.nd e
 hd:(M.H.map (·.1)).Nodup
 h0:(0,1)∈M.H
 h1:(1,0)∈M.H
 hn:∀h e,(h,e)∈M.H→h<M.next
variable {n room:Nat} {M M':MS} {φ:Nat→BF}
/-- The handles' functions. -/
def Sem(M:MS)(φ:Nat→BF):Prop:=∀h e,(h,e)∈M.H→De M.D e=φ h
/-- Nodes grow,nothing else turns. -/
structure Grow(M M':MS)(k:Nat):Prop where
 ah:M'.ah=M.ah
 ord:M'.ord=M.ord
 H:M'.H=M.H
 next:M'.next=M.next
 waits:M'.waits=M.waits
 up:∀i d,M.S.nd i=some d→M'.S.nd i=some d∧M'.D i=M.D i
 many:M'.S.many≤M.S.many+k
theorem Grow.refl:Grow M M 0:=⟨rfl,rfl,rfl,rfl,rfl,fun _ _ h=>⟨h,rfl⟩,Nat.le_refl _⟩
theorem Grow.trans{M'':MS}{k l:Nat}(h:Grow M M' k)(h':Grow M' M'' l):Grow M M'' (k+l):=
 ⟨h'.ah.trans h.ah,h'.ord.trans h.ord,h'.H.trans h.H,h'.next.trans h.next,h'.waits.trans h.waits,fun i d hd=>⟨(h'.up i d (h.up i d hd).1).1,((h'.up i d (h.up i d hd).1).2).trans (h.up i d hd).2⟩,by have:=h.many;have:=h'.many;omega⟩
theorem Grow.mono{k l:Nat}(h:Grow M M' k)(hl:k≤l):Grow M M' l:=⟨h.ah,h.ord,h.H,h.next,h.waits,h.up,by have:=h.many;omega⟩
theorem Grow.De{k e:Nat}(hi:Inv n room M)(hi':Inv n room M')(h:Grow M M' k)(he:ok M.S.nd e):De M'.D e=De M.D e:=by
 have:=hi'.gi;rw[h.ah]at this;exact WV hi.gi this h.up he
theorem Grow.und{k e L:Nat}(h:Grow M M' k)(he:und M.S.nd M.ah L e):und M'.S.nd M'.ah L e:=by
 rw[h.ah];exact TL h.up he
theorem Grow.ok{k e:Nat}(h:Grow M M' k)(he:ok M.S.nd e):ok M'.S.nd e:=by
 rcases he with h1|⟨d,h1⟩
 ·exact .inl h1
 ·exact .inr ⟨d,(h.up _ _ h1).1⟩
/-- Mk in the manager. -/
def MS.mk1(M:MS)(v lo hi:Nat)(D':Nat→BF):MS:={M with S:=(M.S.mk' v lo hi).1,D:=D'}
theorem PZ{S:St}{v lo hi i:Nat}(h:S.nd i≠none)(hs:S.nd S.slot=none):(S.mk' v lo hi).1.refs i=S.refs i:=by
 unfold St.mk'
 by_cases e:lo=hi
 ·rw[if_pos e]
 ·rw[if_neg e]
  cases S.tab v (flip lo (odd hi)) (flip hi (odd hi))with
  |some j=>rfl
  |none=>exact ak (fun e9=>h (by rw[e9];exact hs))
theorem Ca{S:St}{ext:Nat→Int}{v lo hi i:Nat}(hs:SI n room (fun _=>false) ext S)(hi':(S.mk' v lo hi).1.nd i≠none)(h:S.nd i=none):(S.mk' v lo hi).1.refs i=0:=by
 unfold St.mk' at hi'⊢
 by_cases e:lo=hi
 ·rw[if_pos e]at hi';exact absurd h hi'
 ·rw[if_neg e]at hi'⊢
  cases ht:S.tab v (flip lo (odd hi)) (flip hi (odd hi))with
  |some j=>rw[ht]at hi';exact absurd h hi'
  |none=>
   rw[ht]at hi'
   by_cases e9:i=S.slot
   ·subst e9;exact aC _ _ _
   ·exact absurd ((ak (x:=some _) e9).trans h) hi'
theorem Inv.mk1(h:Inv n room M){v lo hi:Nat}(hv:v<n)(mG:und M.S.nd M.ah (M.ah v+1) lo)(qc:und M.S.nd M.ah (M.ah v+1) hi)(hf:M.S.takes v lo hi→¬M.S.full room) :
 ∃D',qo n M.ah M.S.nd M.D v lo hi (M.S.mk' v lo hi).2 (M.S.mk' v lo hi).1.nd D'∧Inv n room (M.mk1 v lo hi D')∧Grow M (M.mk1 v lo hi D') 1:=by
 obtain⟨D',h1,h2,h3⟩:=Xb h.gi h.si hv mG qc hf;refine⟨D',h1,⟨h1.gi,h2,h.od,fun i hi'=>?_,fun a e ha=>?_,h.hd,h.h0,h.h1,h.hn⟩,⟨rfl,rfl,rfl,rfl,rfl,h1.up,h3⟩⟩
 ·cases hd:M.S.nd i with
  |some d=>
   show((M.S.mk' v lo hi).1.refs i:Int)=hx M.H i;rw[PZ (by rw[hd];simp) h.si.slot.2.2.1];exact h.rf i (by rw[hd];simp)
  |none=>
   show((M.S.mk' v lo hi).1.refs i:Int)=hx M.H i;rw[Ca h.si hi' hd,h.si.xz i hd];rfl
 ·rcases h.ho a e ha with h9|⟨d,h9⟩
  ·exact .inl h9
  ·exact .inr ⟨d,(h1.up _ _ h9).1⟩
end
end Go.Proofs.YtpijlhlpejlhhaaGreat.Bd
