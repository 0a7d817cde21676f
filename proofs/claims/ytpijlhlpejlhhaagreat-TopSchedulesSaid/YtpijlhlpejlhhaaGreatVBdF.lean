/- Walks and plain words: BdF BdG BdH BdI BdJ BdK BdL. -/
import Derived.Test.YtpijlhlpejlhhaaGreatVBdA
namespace Go.Proofs.YtpijlhlpejlhhaaGreat.Bd
set_option linter.unusedVariables false
set_option linter.unusedSimpArgs false
set_option linter.unusedSectionVars false
section
variable {n:Nat} {ah:Nat→Nat} {nd nd0:Nat→Option Nd} {D D0:Nat→BF} {pend:Nat→Bool} {L x y:Nat}
/-- The levels behind the exchange of x and y. -/
def gJ(ah:Nat→Nat)(x y v:Nat):Nat:=if v=x then ah y else if v=y then ah x else ah v
/-- A node of x that depends on y. -/
def Ep(nd:Nat→Option Nd)(y:Nat)(d:Nd):Bool:=aB nd d.lo y != aI nd d.lo y||aB nd d.hi y != aI nd d.hi y
def tp(nd:Nat→Option Nd)(x y i:Nat):Bool:=match nd i with
 |none=>false
 |some d=>d.v==x&&Ep nd y d
theorem LV(h:GI n ah nd D){e:Nat}{d:Nd}(hd:nd (e/2)=some d):aB nd e d.v≠aI nd e d.v:=by
 unfold aB aI;rw[hd];simp only[if_true];exact fun e9=>h.ne _ _ hd (qj e9)
theorem WZ(h:GI n ah nd D){d d':Nd}(ht:Ep nd y d=false){e:Nat}(he:e=d.lo∨e=d.hi)(hd:nd (e/2)=some d'):d'.v≠y:=by
 intro e9;unfold Ep at ht;simp only[Bool.or_eq_false_iff,bne_eq_false_iff_eq]at ht;have:=LV h hd;rw[e9]at this
 rcases he with rfl|rfl
 ·exact this ht.1
 ·exact this ht.2
section
variable (h:GI n ah nd D) (hx:x<n) (hy:y<n) (hl:ah y=ah x+1)
include h hl hx hy
theorem uU:x≠y:=fun e=>by rw[e]at hl;omega
theorem W_{i:Nat}{d:Nd}(hd:nd i=some d){M:Nat}(hM:M≤ah d.v)(hc:M≤ah x∨ah x+2≤M):M≤nl (gJ ah x y) (tp nd x y) (ah x) i d:=by
 unfold nl
 split
 ·rename_i ht
  unfold tp at ht;rw[hd]at ht;simp only[Bool.and_eq_true,beq_iff_eq]at ht;rw[ht.1]at hM;omega
 ·unfold gJ
  by_cases h1:d.v=x
  ·rw[if_pos h1,hl];rw[h1]at hM;omega
  ·rw[if_neg h1]
   by_cases h2:d.v=y
   ·rw[if_pos h2];rw[h2,hl]at hM;omega
   ·rw[if_neg h2];exact hM
theorem LW{M e:Nat}(hu:und nd ah M e)(hc:M≤ah x∨ah x+2≤M):iB nd (gJ ah x y) (tp nd x y) (ah x) M e:=by
 rcases hu with h1|⟨d,h1,h2⟩
 ·exact .inl h1
 ·exact .inr ⟨d,h1,W_ h hx hy hl h1 h2 hc⟩
theorem Xa{d:Nd}(ht:Ep nd y d=false){e:Nat}(he:e=d.lo∨e=d.hi)(hu:und nd ah (ah x+1) e):und nd ah (ah x+2) e:=by
 rcases hu with h1|⟨d',h1,h2⟩
 ·exact .inl h1
 ·refine .inr ⟨d',h1,?_⟩;have h3:=WZ h ht he h1;have h4:ah d'.v≠ah y:=fun e9=>h3 (h.inj _ _ (h.lt _ _ h1) hy e9);omega
theorem Er:GP n (gJ ah x y) (tp nd x y) (ah x) nd D:=by
 have hxy:=uU h hx hy hl;have sx:gJ ah x y x=ah y:=by unfold gJ;rw[if_pos rfl]
 have sy:gJ ah x y y=ah x:=by unfold gJ;rw[if_neg (Ne.symm hxy),if_pos rfl]
 have hch:∀i d e,nd i=some d→tp nd x y i=false→(e=d.lo∨e=d.hi)→und nd ah (ah d.v+1) e→iB nd (gJ ah x y) (tp nd x y) (ah x) (gJ ah x y d.v+1) e:=fun i d e hd hp he hu=>by
  by_cases h1:d.v=x
  ·have ht:Ep nd y d=false:=by
    unfold tp at hp;rw[hd]at hp;simp only[h1,beq_self_eq_true,Bool.true_and]at hp;exact hp
   rw[h1]at hu⊢;rw[sx,hl];exact LW h hx hy hl (Xa h hx hy hl ht he hu) (.inr (by omega))
  ·by_cases h2:d.v=y
   ·rw[h2]at hu⊢;rw[sy];have:=LW h hx hy hl hu (.inr (by omega))
    rcases this with h3|⟨d',h3,h4⟩
    ·exact .inl h3
    ·exact .inr ⟨d',h3,by omega⟩
   ·have s3:gJ ah x y d.v=ah d.v:=by unfold gJ;rw[if_neg h1,if_neg h2]
    rw[s3];have h4:ah d.v≠ah x:=fun e9=>h1 (h.inj _ _ (h.lt _ _ hd) hx e9);have h5:ah d.v≠ah y:=fun e9=>h2 (h.inj _ _ (h.lt _ _ hd) hy e9);exact LW h hx hy hl hu (by omega)
 refine⟨h.n0,h.d0,h.lt,h.ev,h.ne,fun i d hd hp=>hch i d _ hd hp (.inl rfl) (h.ul i d hd),fun i d hd hp=>hch i d _ hd hp (.inr rfl) (h.uh i d hd),h.dD,fun i j d h1 h2 _ _=>h.un i j d h1 h2,fun v hv=>?_,fun v w hv hw e=>?_,fun i d hd _=>⟨(h.ul i d hd).ok,(h.uh i d hd).ok⟩⟩
 ·unfold gJ
  split
  ·exact h.ll y hy
  ·split
   ·exact h.ll x hx
   ·exact h.ll v hv
 ·have hs:∀u,gJ ah x y u=ah (if u=x then y else if u=y then x else u):=fun u=>by
   unfold gJ
   split
   ·rfl
   ·split<;>rfl
  have hlt:∀u,u<n→(if u=x then y else if u=y then x else u)<n:=fun u hu=>by
   split
   ·exact hy
   ·split
    ·exact hx
    ·exact hu
  rw[hs,hs]at e;have h9:=h.inj _ _ (hlt v hv) (hlt w hw) e
  by_cases a1:v=x
  ·rw[if_pos a1]at h9
   by_cases b1:w=x
   ·omega
   ·rw[if_neg b1]at h9
    split at h9<;>omega
  ·rw[if_neg a1]at h9
   by_cases b1:w=x
   ·rw[if_pos b1]at h9
    split at h9<;>omega
   ·rw[if_neg b1]at h9
    split at h9<;>split at h9<;>omega
end
/-- The swap's state: old nodes and their functions,new nodes of x. -/
structure Pj(n:Nat)(ah:Nat→Nat)(x y:Nat)(nd0:Nat→Option Nd)(D0:Nat→BF)(pend:Nat→Bool)(nd:Nat→Option Nd)(D:Nat→BF):Prop where
 g:GP n (gJ ah x y) pend (ah x) nd D
 old:∀i d,nd0 i=some d→(∃d',nd i=some d')∧D i=D0 i
 rest:∀i d,nd0 i=some d→d.v≠x→nd i=some d∧pend i=false
 new:∀i d,nd i=some d→nd0 i=none→d.v=x∧pend i=false
 pn:∀i,pend i=true→∃d,nd0 i=some d∧nd i=some d∧d.v=x∧Ep nd0 y d=true
theorem Pj.start(h:GI n ah nd D)(hx:x<n)(hy:y<n)(hl:ah y=ah x+1):Pj n ah x y nd D (tp nd x y) nd D:=by
 refine⟨Er h hx hy hl,fun i d hd=>⟨⟨d,hd⟩,rfl⟩,fun i d hd hv=>⟨hd,?_⟩,fun i d hd hn=>?_,fun i hp=>?_⟩
 ·unfold tp;rw[hd];simp[hv]
 ·rw[hn]at hd;cases hd
 ·unfold tp at hp
  cases hd:nd i with
  |none=>rw[hd]at hp;cases hp
  |some d=>
   rw[hd]at hp;simp only[Bool.and_eq_true,beq_iff_eq]at hp;exact⟨d,rfl,rfl,hp.1,hp.2⟩
/-- An edge of the elder graph that lies below both levels. -/
theorem Pj.low(h0:GI n ah nd0 D0)(hx:x<n)(hy:y<n)(hl:ah y=ah x+1)(h:Pj n ah x y nd0 D0 pend nd D){e:Nat}(hu:und nd0 ah (ah x+2) e):iB nd (gJ ah x y) pend (ah x) (ah x+2) e∧De D e=De D0 e:=by
 have hxy:=uU h0 hx hy hl
 rcases hu with h1|⟨d,h1,h2⟩
 ·refine⟨.inl h1,?_⟩
  funext a
  unfold De;rw[h1,h.g.d0,h0.d0]
 ·have h3:d.v≠x:=fun e9=>by rw[e9]at h2;omega
  have h4:d.v≠y:=fun e9=>by rw[e9,hl]at h2;omega
  obtain⟨h5,h6⟩:=h.rest _ d h1 h3;refine⟨.inr ⟨d,h5,?_⟩,?_⟩
  ·unfold nl;rw[h6];unfold gJ;simp only[h3,h4,if_false,Bool.false_eq_true];exact h2
  ·unfold De;rw[(h.old _ d h1).2]
end
section
variable {n:Nat} {ah:Nat→Nat} {nd nd0:Nat→Option Nd} {D D0:Nat→BF} {pend:Nat→Bool} {x y:Nat}
/-- What below leaves: the edge with the cofactors lo,hi by x,now the lower variable. -/
structure PE(n:Nat)(ah:Nat→Nat)(x y:Nat)(nd0:Nat→Option Nd)(D0:Nat→BF)(pend:Nat→Bool)(nd:Nat→Option Nd)(D:Nat→BF)(lo hi r:Nat)(nd':Nat→Option Nd)(D':Nat→BF):Prop where
 si:Pj n ah x y nd0 D0 pend nd' D'
 und:iB nd' (gJ ah x y) pend (ah x) (ah x+1) r
 fn:∀a,De D' r a=if a x then De D hi a else De D lo a
 up:∀i d,nd i=some d→nd' i=some d∧D' i=D i
 par:hi%2=0→r%2=0
theorem uV{e:Nat}(h:e%2=0):odd e=false:=by unfold odd;rw[h];rfl
theorem xR(i:Nat):edge i false%2=0:=by unfold edge flip;simp
section
variable (h0:GI n ah nd0 D0) (hx:x<n) (hy:y<n) (hl:ah y=ah x+1) (h:Pj n ah x y nd0 D0 pend nd D)
include h0 hx hy hl h
theorem swx:gJ ah x y x=ah x+1:=by unfold gJ;rw[if_pos rfl,hl]
theorem Es{lo:Nat}(hu:iB nd (gJ ah x y) pend (ah x) (ah x+2) lo):PE n ah x y nd0 D0 pend nd D lo lo lo nd D:=by
 refine⟨h,?_,fun a=>by simp,fun i d hd=>⟨hd,rfl⟩,fun h=>h⟩
 rcases hu with h1|⟨d,h1,h2⟩
 ·exact .inl h1
 ·exact .inr ⟨d,h1,by omega⟩
theorem BN{lo hi i:Nat}(hd:nd i=some ⟨x,flip lo (odd hi),flip hi (odd hi)⟩)(hp:pend i=false):PE n ah x y nd0 D0 pend nd D lo hi (edge i (odd hi)) nd D:=by
 refine⟨h,.inr ⟨_,by rw[iw];exact hd,?_⟩,fun a=>LQ (fun a=>h.g.dD i _ hd a) a,fun i d hd=>⟨hd,rfl⟩,fun h9=>by rw[uV h9];exact xR i⟩;rw[iw];unfold nl;rw[hp];simp only[Bool.false_eq_true,if_false];rw[swx h0 hx hy hl h];exact Nat.le_refl _
theorem IW{lo hi i:Nat}(hi0:0<i)(hn:nd i=none)(hne:lo≠hi)(mG:iB nd (gJ ah x y) pend (ah x) (ah x+2) lo)(qc:iB nd (gJ ah x y) pend (ah x) (ah x+2) hi)(hnew:∀j,nd j=some ⟨x,flip lo (odd hi),flip hi (odd hi)⟩→pend j=true) :
 PE n ah x y nd0 D0 pend nd D lo hi (edge i (odd hi)) (set1 nd i (some ⟨x,flip lo (odd hi),flip hi (odd hi)⟩)) (set1 D i (fun a=>if a x then De D (flip hi (odd hi)) a else De D (flip lo (odd hi)) a)):=by
 have hfl:∀{e b},iB nd (gJ ah x y) pend (ah x) (ah x+2) e→iB nd (gJ ah x y) pend (ah x) (gJ ah x y x+1) (flip e b):=fun{e b} hu=>by
  unfold iB;rw[bH,swx h0 hx hy hl h];exact hu
 have hpi:pend i=false:=by
  cases hp:pend i with
  |false=>rfl
  |true=>obtain⟨d,-,h1,-⟩:=h.pn i hp;rw[hn]at h1;cases h1
 have hi1:nd0 i=none:=by
  cases hd:nd0 i with
  |none=>rfl
  |some d=>obtain⟨⟨d',h1⟩,-⟩:=h.old i d hd;rw[hn]at h1;cases h1
 have hg:=h.g.add hi0 hn hpi hx (BM hi) (fun e=>hne (qj e)) (hfl mG) (hfl qc) hnew;have hne2:∀j d,nd j=some d→j≠i:=fun j d hd e=>by rw[e,hn]at hd;cases hd
 have hup:∀j d,nd j=some d→set1 nd i (some ⟨x,flip lo (odd hi),flip hi (odd hi)⟩) j=some d∧set1 D i (fun a=>if a x then De D (flip hi (odd hi)) a else De D (flip lo (odd hi)) a) j=D j:=fun j d hd=>by
  rw[ak (hne2 j d hd),ak (hne2 j d hd)];exact⟨hd,rfl⟩
 refine⟨⟨hg,fun j d hd=>?_,fun j d hd hv=>?_,fun j d hd hj=>?_,fun j hp=>?_⟩,.inr ⟨_,by rw[iw,aC],?_⟩,fun a=>?_,hup,fun h9=>by rw[uV h9];exact xR i⟩
 ·obtain⟨⟨d',h1⟩,h2⟩:=h.old j d hd;obtain⟨h3,h4⟩:=hup j d' h1;exact⟨⟨d',h3⟩,h4.trans h2⟩
 ·obtain⟨h1,h2⟩:=h.rest j d hd hv;exact⟨(hup j d h1).1,h2⟩
 ·by_cases e:j=i
  ·subst e;rw[aC]at hd;obtain rfl:=Option.some.inj hd;exact⟨rfl,hpi⟩
  ·rw[ak e]at hd;exact h.new j d hd hj
 ·obtain⟨d,h1,h2,h3,h4⟩:=h.pn j hp;exact⟨d,h1,(hup j d h2).1,h3,h4⟩
 ·rw[iw];unfold nl;rw[hpi];simp only[Bool.false_eq_true,if_false];rw[swx h0 hx hy hl h];exact Nat.le_refl _
 ·rw[zJ,aC];cases a x<;>simp only[if_true,if_false,Bool.false_eq_true]<;>rw[eY]<;>cases odd hi<;>simp
/-- A waiting node is turned. -/
theorem xS{t lo hi:Nat}{d:Nd}(hd:nd0 t=some d)(hp:pend t=true)(mG:iB nd (gJ ah x y) pend (ah x) (ah x+1) lo)(qc:iB nd (gJ ah x y) pend (ah x) (ah x+1) hi)
 (hfl:∀a,De D lo a=if a x then De D0 (aB nd0 d.hi y) a else De D0 (aB nd0 d.lo y) a) (hfh:∀a,De D hi a=if a x then De D0 (aI nd0 d.hi y) a else De D0 (aI nd0 d.lo y) a) (hev:hi%2=0) :
 Pj n ah x y nd0 D0 (set1 pend t false) (set1 nd t (some ⟨y,lo,hi⟩)) D:=by
 have hxy:=uU h0 hx hy hl;obtain⟨d1,e1,hdt,hv,hT⟩:=h.pn t hp;obtain rfl:d1=d:=by rw[hd]at e1;exact(Option.some.inj e1).symm
 have sy:gJ ah x y y=ah x:=by unfold gJ;rw[if_neg (Ne.symm hxy),if_pos rfl]
 have hDt:D t=D0 t:=(h.old t d1 hd).2;have Bz:und nd0 ah (ah y) d1.lo:=by rw[hl,←hv];exact h0.ul _ _ hd
 have Et:und nd0 ah (ah y) d1.hi:=by rw[hl,←hv];exact h0.uh _ _ hd
 obtain⟨uW,xg⟩:=bQ h0 hy Bz;obtain⟨uX,xq⟩:=bQ h0 hy Et;rw[hl]at uW xg uX xq
 have hfun:∀a,D t a=if a y then De D hi a else De D lo a:=fun a=>by
  rw[hDt,h0.dD t d1 hd a,hv,hfl,hfh,jc h0 Bz a,jc h0 Et a];cases a x<;>cases a y<;>rfl
 -- functions that do not hang on x
 have PG:∀(e:Nat),und nd0 ah (ah x+2) e→∀a b,De D0 e (upd a x b)=De D0 e a:=fun e hu a b=>
  indep h0 n (ah x+2) e (by omega) hu _ _ (fun w hw hlw=>upd_ne (fun e9=>by rw[e9]at hlw;omega))
 have hne:lo≠hi:=fun e9=>by
  have hcan:∀e f:Nat,und nd0 ah (ah x+2) e→und nd0 ah (ah x+2) f→(∀a,De D0 e a=De D0 f a)→e=f:=fun e f he hf hef=>canon h0 n (ah x+2) e f (by omega) he hf hef
  have h1:aB nd0 d1.lo y=aI nd0 d1.lo y:=hcan _ _ uW xg (fun a=>by
   have h2:=hfl (upd a x false);rw[e9,hfh (upd a x false),lJ]at h2;simp only[Bool.false_eq_true,if_false]at h2;rw[PG _ uW,PG _ xg]at h2
   exact h2.symm)
  have h2:aB nd0 d1.hi y=aI nd0 d1.hi y:=hcan _ _ uX xq (fun a=>by
   have h2:=hfl (upd a x true);rw[e9,hfh (upd a x true),lJ]at h2;simp only[if_true]at h2;rw[PG _ uX,PG _ xq]at h2
   exact h2.symm)
  unfold Ep at hT;rw[h1,h2]at hT;simp at hT
 have hnew:∀j,nd j=some ⟨y,lo,hi⟩→pend j=false→j=t:=fun j hj Bw=>by
  cases hj0:nd0 j with
  |none=>have:=(h.new j _ hj hj0).1;exact absurd this.symm hxy
  |some d'=>
   have h1:∀a,D0 j a=D0 t a:=fun a=>by
    rw[←(h.old j d' hj0).2,←hDt,h.g.dD j _ hj a,hfun a]
   have h2:2*j=2*t:=canon h0 n 0 _ _ (by omega) (.inr ⟨d',by rw[show 2*j/2=j by omega];exact hj0,Nat.zero_le _⟩) (.inr ⟨d1,by rw[show 2*t/2=t by omega];exact hd,Nat.zero_le _⟩) (fun a=>by
    unfold De
    rw[show 2*j/2=j by omega,show 2*t/2=t by omega,show 2*j%2=0 by omega,show 2*t%2=0 by omega,h1])
   omega
 have hg:=h.g.turn hdt hp hy sy hev hne mG qc hfun hnew;refine⟨hg,fun j d' hj=>?_,fun j d' hj hvj=>?_,fun j d' hj hj0=>?_,fun j Bw=>?_⟩
 ·obtain⟨⟨d2,h1⟩,h2⟩:=h.old j d' hj;refine⟨?_,h2⟩
  by_cases e:j=t
  ·exact⟨_,by rw[e,aC]⟩
  ·exact⟨d2,by rw[ak e];exact h1⟩
 ·have e:j≠t:=fun e=>by rw[e,hd]at hj;obtain rfl:=Option.some.inj hj;exact hvj hv
  rw[ak e,ak e];exact h.rest j d' hj hvj
 ·have e:j≠t:=fun e=>by rw[e,hd]at hj0;cases hj0
  rw[ak e]at hj⊢;exact h.new j d' hj hj0
 ·have e:j≠t:=fun e=>by rw[e,aC]at Bw;cases Bw
  rw[ak e]at Bw⊢;exact h.pn j Bw
end
end
section
variable {n:Nat} {ah:Nat→Nat} {nd:Nat→Option Nd} {D:Nat→BF}
def neg(e:Nat):Nat:=flip e true
theorem rR(D:Nat→BF)(e:Nat)(a:Nat→Bool):De D (neg e) a=!De D e a:=by unfold neg;rw[eY];simp
theorem ku(h:GI n ah nd D)(a:Nat→Bool):De D 0 a=true:=by rw[bI h rfl];rfl
theorem iF(h:GI n ah nd D)(a:Nat→Bool):De D 1 a=false:=by rw[bI h (by rfl)];rfl
/-- if f then g else h. -/
def jV(D:Nat→BF)(f g h:Nat):BF:=fun a=>if De D f a then De D g a else De D h a
/-- edge.Ite's first two switches: g and h where f is known. -/
def BO(f g:Nat):Nat:=if g=f then 0 else if g=neg f then 1 else g
def BP(f h:Nat):Nat:=if h=f then 1 else if h=neg f then 0 else h
/-- edge.Ite: a result,or an equivalent triple and whether it is complemented. -/
def PK(f g0 h0:Nat):(Nat×Nat×Nat×Bool) ⊕ Nat:=
 let g:=BO f g0
 let h:=BP f h0
 if f=0∨g=h then .inr g
 else if f=1 then .inr h
 else if g=0∧h=1 then .inr f
 else if g=1∧h=0 then .inr (neg f)
 else
  let f':=if odd f then neg f else f
  let g':=if odd f then h else g
  let h':=if odd f then g else h
  .inl (f',flip g' (odd g'),flip h' (odd g'),odd g')
theorem GJ(h:GI n ah nd D)(f g k:Nat):jV D f (BO f g) k=jV D f g k:=by
 funext a
 unfold jV BO
 by_cases c1:g=f
 ·rw[if_pos c1,c1];cases hb:De D f a<;>simp[ku h]
 ·rw[if_neg c1]
  by_cases c2:g=neg f
  ·rw[if_pos c2,c2,iF h,rR];cases De D f a<;>rfl
  ·rw[if_neg c2]
theorem GK(h:GI n ah nd D)(f g k:Nat):jV D f g (BP f k)=jV D f g k:=by
 funext a
 unfold jV BP
 by_cases c1:k=f
 ·rw[if_pos c1,c1];cases hb:De D f a<;>simp[iF h]
 ·rw[if_neg c1]
  by_cases c2:k=neg f
  ·rw[if_pos c2,c2,ku h,rR];cases De D f a<;>rfl
  ·rw[if_neg c2]
theorem GL{L f g:Nat}(hg:und nd ah L g):und nd ah L (BO f g):=by
 unfold BO
 split
 ·exact .inl rfl
 ·split
  ·exact .inl rfl
  ·exact hg
theorem GN{L f g:Nat}(hg:und nd ah L g):und nd ah L (BP f g):=by
 unfold BP
 split
 ·exact .inl rfl
 ·split
  ·exact .inl rfl
  ·exact hg
theorem LY(h:GI n ah nd D){f g k r:Nat}(hr:PK f g k=.inr r):De D r=jV D f g k:=by
 have e:jV D f g k=jV D f (BO f g) (BP f k):=by rw[GK h,GJ h]
 rw[e];unfold PK at hr;simp only at hr
 generalize BO f g=g1 at hr⊢
 generalize BP f k=h1 at hr⊢
 funext a
 unfold jV
 by_cases c1:f=0∨g1=h1
 ·rw[if_pos c1]at hr;obtain rfl:=Sum.inr.inj hr
  rcases c1 with rfl|rfl
  ·rw[ku h];rfl
  ·split<;>rfl
 ·rw[if_neg c1]at hr
  by_cases c2:f=1
  ·rw[if_pos c2]at hr;obtain rfl:=Sum.inr.inj hr;subst c2;rw[iF h];rfl
  ·rw[if_neg c2]at hr
   by_cases c3:g1=0∧h1=1
   ·rw[if_pos c3]at hr;obtain rfl:=Sum.inr.inj hr;rw[c3.1,c3.2,ku h,iF h];cases De D f a<;>rfl
   ·rw[if_neg c3]at hr
    by_cases c4:g1=1∧h1=0
    ·rw[if_pos c4]at hr;obtain rfl:=Sum.inr.inj hr;rw[c4.1,c4.2,ku h,iF h,rR];cases De D f a<;>rfl
    ·rw[if_neg c4]at hr;cases hr
theorem qp{L f g k r:Nat}(hf:und nd ah L f)(hg:und nd ah L g)(hk:und nd ah L k)(hr:PK f g k=.inr r):und nd ah L r:=by
 have hg1:=GL (f:=f) hg;have hk1:=GN (f:=f) hk;unfold PK at hr;simp only at hr
 split at hr
 ·obtain rfl:=Sum.inr.inj hr;exact hg1
 ·split at hr
  ·obtain rfl:=Sum.inr.inj hr;exact hk1
  ·split at hr
   ·obtain rfl:=Sum.inr.inj hr;exact hf
   ·split at hr
    ·obtain rfl:=Sum.inr.inj hr;exact bT hf
    ·cases hr
theorem LZ(h:GI n ah nd D){f g k a b c:Nat}{t:Bool}(hr:PK f g k=.inl (a,b,c,t)):(∀s,jV D f g k s=xor t (jV D a b c s))∧(∀L,und nd ah L f→und nd ah L g→und nd ah L k→und nd ah L a∧und nd ah L b∧und nd ah L c)∧(a/2=f/2∧f≠0∧f≠1):=by
 have e:jV D f g k=jV D f (BO f g) (BP f k):=by rw[GK h,GJ h]
 have hu1:∀L,und nd ah L g→und nd ah L (BO f g):=fun L=>GL;have hu2:∀L,und nd ah L k→und nd ah L (BP f k):=fun L=>GN;rw[e];unfold PK at hr;simp only at hr
 generalize BO f g=g1 at hr hu1⊢
 generalize BP f k=h1 at hr hu2⊢
 by_cases c1:f=0∨g1=h1
 ·rw[if_pos c1]at hr;cases hr
 rw[if_neg c1]at hr
 by_cases c2:f=1
 ·rw[if_pos c2]at hr;cases hr
 rw[if_neg c2]at hr
 by_cases c3:g1=0∧h1=1
 ·rw[if_pos c3]at hr;cases hr
 rw[if_neg c3]at hr
 by_cases c4:g1=1∧h1=0
 ·rw[if_pos c4]at hr;cases hr
 rw[if_neg c4]at hr;have hr2:=Sum.inl.inj hr;simp only[Prod.mk.injEq]at hr2;obtain⟨rfl,rfl,rfl,rfl⟩:=hr2;refine⟨fun s=>?_,fun L hf hg hk=>?_,?_,fun e9=>c1 (.inl e9),c2⟩
 ·unfold jV;rw[eY,eY];cases odd f
  ·simp only[Bool.false_eq_true,if_false];cases De D f s<;>cases odd g1<;>simp
  ·simp only[if_true];rw[rR];cases De D f s<;>cases odd h1<;>simp
 ·refine⟨?_,bT ?_,bT ?_⟩
  ·split
   ·exact bT hf
   ·exact hf
  ·split
   ·exact hu2 L hk
   ·exact hu1 L hg
  ·split
   ·exact hu1 L hg
   ·exact hu2 L hk
 ·split
  ·exact bH _ _
  ·rfl
/-- One step of Ite: the result's function out of the cofactors' results. -/
theorem PL(h:GI n ah nd D){v f g k:Nat}(hf:und nd ah (ah v) f)(hg:und nd ah (ah v) g)(hk:und nd ah (ah v) k)(a:Nat→Bool) :
 jV D f g k a=if a v then jV D (aI nd f v) (aI nd g v) (aI nd k v) a else jV D (aB nd f v) (aB nd g v) (aB nd k v) a:=by
 unfold jV;rw[jc h hf,jc h hg,jc h hk];cases a v<;>rfl
end
section
variable {n:Nat} {ah:Nat→Nat} {nd:Nat→Option Nd} {D:Nat→BF}
def IX(v:Nat)(φ:BF):BF:=fun a=>φ (upd a v false)||φ (upd a v true)
/-- Some values of the listed variables make it true. -/
def eP:List Nat→BF→BF
 |[],φ=>φ
 |v::l,φ=>eP l (IX v φ)
theorem fK:∀(l:List Nat) (φ:BF) (a:Nat→Bool),eP l φ a=true↔∃b:Nat→Bool,(∀v,v∉l→b v=a v)∧φ b=true
 |[],φ,a=>by
  constructor
  ·intro h;exact⟨a,fun _ _=>rfl,h⟩
  ·rintro⟨b,h1,h2⟩;have:b=a:=funext fun v=>h1 v (by simp);rw[this]at h2;exact h2
 |v::l,φ,a=>by
  show eP l (IX v φ) a=true↔_;rw[fK l]
  constructor
  ·rintro⟨b,h1,h2⟩;unfold IX at h2;rw[Bool.or_eq_true]at h2
   have hx:∀(c:Bool) u,u∉v::l→upd b v c u=a u:=fun c u hu=>by
    simp only[List.mem_cons,not_or]at hu;rw[upd_ne hu.1];exact h1 u hu.2
   rcases h2 with h2|h2
   ·exact⟨_,hx false,h2⟩
   ·exact⟨_,hx true,h2⟩
  ·rintro⟨b,h1,h2⟩;refine⟨upd b v (if v∈l then b v else a v),fun u hu=>?_,?_⟩
   ·by_cases e:u=v
    ·rw[e,lJ,if_neg (by rw[←e];exact hu)]
    ·rw[upd_ne e];exact h1 u (by simp[e,hu])
   ·unfold IX;rw[Bool.or_eq_true]
    have hb:∀c,upd (upd b v c) v (b v)=b:=fun c=>funext fun u=>by
     by_cases e:u=v
     ·rw[e,lJ]
     ·rw[upd_ne e,upd_ne e]
    generalize (if v∈l then b v else a v)=c
    have e:=hb c
    cases hv:b v with
    |false=>left;rw[hv]at e;rw[e];exact h2
    |true=>right;rw[hv]at e;rw[e];exact h2
theorem GR{l:List Nat}{φ ψ:BF}(h:∀a,φ a=ψ a)(a:Nat→Bool):eP l φ a=eP l ψ a:=by
 rw[show φ=ψ from funext h]
/-- Lists with the same members quantify alike. -/
theorem L8{l m:List Nat}(h:∀v,v∈l↔v∈m)(φ:BF)(a:Nat→Bool):eP l φ a=eP m φ a:=by
 rw[Bool.eq_iff_iff,fK,fK]
 constructor
 ·rintro⟨b,h1,h2⟩;exact⟨b,fun v hv=>h1 v (fun h9=>hv ((h v).1 h9)),h2⟩
 ·rintro⟨b,h1,h2⟩;exact⟨b,fun v hv=>h1 v (fun h9=>hv ((h v).2 h9)),h2⟩
theorem GU(l m:List Nat)(φ:BF)(a:Nat→Bool):eP (l++m) φ a=eP m (eP l φ) a:=by
 induction l generalizing φ with
 |nil=>rfl
 |cons v l ih=>exact ih (IX v φ)
/-- φ does not hang on the variables of the list. -/
def free(φ:BF)(v:Nat):Prop:=∀a b,φ (upd a v b)=φ a
/-- A factor that does not hang on the variables comes out. -/
theorem PO{l:List Nat}{φ ψ:BF}(h:∀a b:Nat→Bool,(∀v,v∉l→a v=b v)→ψ a=ψ b)(a:Nat→Bool):eP l (fun s=>ψ s&&φ s) a=(ψ a&&eP l φ a):=by
 rw[Bool.eq_iff_iff,Bool.and_eq_true,fK,fK]
 constructor
 ·rintro⟨b,h1,h2⟩;rw[Bool.and_eq_true]at h2;exact⟨by rw[←h b a h1];exact h2.1,b,h1,h2.2⟩
 ·rintro⟨h1,b,h2,h3⟩;exact⟨b,h2,by rw[Bool.and_eq_true];exact⟨by rw[h b a h2];exact h1,h3⟩⟩
/-- What does not hang on the variables is not turned. -/
theorem TN{l:List Nat}{ψ:BF}(h:∀a b:Nat→Bool,(∀v,v∉l→a v=b v)→ψ a=ψ b)(a:Nat→Bool):eP l ψ a=ψ a:=by
 rw[Bool.eq_iff_iff,fK]
 constructor
 ·rintro⟨b,h1,h2⟩;rw[←h b a h1];exact h2
 ·intro h1;exact⟨a,fun _ _=>rfl,h1⟩
/-- A variable that is not quantified parts the function. -/
theorem IY{l:List Nat}{v:Nat}(hv:v∉l){φ ψ χ:BF}(h:∀a,φ a=if a v then ψ a else χ a)(a:Nat→Bool):eP l φ a=if a v then eP l ψ a else eP l χ a:=by
 have hb:∀b:Nat→Bool,(∀u,u∉l→b u=a u)→φ b=if a v then ψ b else χ b:=fun b hb=>by rw[h,hb v hv]
 rw[Bool.eq_iff_iff]
 cases hav:a v with
 |true=>
  simp only[if_true];rw[fK,fK]
  constructor
  ·rintro⟨b,h1,h2⟩;rw[hb b h1,hav]at h2;exact⟨b,h1,h2⟩
  ·rintro⟨b,h1,h2⟩;exact⟨b,h1,by rw[hb b h1,hav];exact h2⟩
 |false=>
  simp only[Bool.false_eq_true,if_false];rw[fK,fK]
  constructor
  ·rintro⟨b,h1,h2⟩;rw[hb b h1,hav]at h2;exact⟨b,h1,h2⟩
  ·rintro⟨b,h1,h2⟩;exact⟨b,h1,by rw[hb b h1,hav];exact h2⟩
/-- A variable that is quantified: either half. -/
theorem Ew{l:List Nat}{v:Nat}{φ ψ χ:BF}(h:∀a,φ a=if a v then ψ a else χ a)(hψ:∀a b,ψ (upd a v b)=ψ a)(hχ:∀a b,χ (upd a v b)=χ a)(a:Nat→Bool):eP (v::l) φ a=(eP l χ a||eP l ψ a):=by
 have h1:∀s,IX v φ s=(χ s||ψ s):=fun s=>by
  unfold IX;rw[h,h,lJ,lJ];simp[hψ,hχ]
 show eP l (IX v φ) a=_;rw[GR h1,Bool.eq_iff_iff,Bool.or_eq_true,fK,fK,fK]
 constructor
 ·rintro⟨b,h1,h2⟩;rw[Bool.or_eq_true]at h2
  rcases h2 with h2|h2
  ·exact .inl ⟨b,h1,h2⟩
  ·exact .inr ⟨b,h1,h2⟩
 ·rintro(⟨b,h1,h2⟩|⟨b,h1,h2⟩)
  ·exact⟨b,h1,by rw[h2];rfl⟩
  ·exact⟨b,h1,by rw[h2];simp⟩
/-- A conjunction of variables,top first. -/
inductive dP(nd:Nat→Option Nd):Nat→List Nat→Prop
 |nil:dP nd 0 []
 |cons {c v hi:Nat} {l:List Nat}:c%2=0→nd (c/2)=some ⟨v,1,hi⟩→dP nd hi l→dP nd c (v::l)
theorem dP.up{nd':Nat→Option Nd}(hup:∀i d,nd i=some d→nd' i=some d){c:Nat}{l:List Nat}(h:dP nd c l):dP nd' c l:=by
 induction h with
 |nil=>exact .nil
 |cons h1 h2 _ ih=>exact .cons h1 (hup _ _ h2) ih
end
section
/-- The node store: nodes,external counts,the pool's slots and free slots,the counts,the tables. -/
structure St where
 nd:Nat→Option Nd
 refs:Nat→Nat
 N:Nat
 free:List Nat
 cnt:Nat→Nat
 cn:Nat
 dead:Int
 tab:Nat→Nat→Nat→Option Nat
/-- The number of nodes. -/
def St.many(S:St):Nat:=S.N-1-S.free.length
/-- The slot that the pool gives next. -/
def St.slot(S:St):Nat:=match S.free.getLast? with
 |some k=>k
 |none=>S.N
/-- No slot is left. -/
def St.full(S:St)(room:Nat):Prop:=S.free=[]∧room<S.N
/-- The store is right: pend: nodes that are in no table;ext: references from outside. -/
structure SI(n room:Nat)(pend:Nat→Bool)(ext:Nat→Int)(S:St):Prop where
 nz:∀i,S.nd i≠none→0<i∧i<S.N
 fn:S.free.Nodup
 fr:∀i,i∈S.free↔(0<i∧i<S.N∧S.nd i=none)
 N1:1≤S.N
 Nr:S.N≤room+1
 cn:∀i,S.nd i≠none→i<S.cn
 cN:S.cn≤S.N
 ci:CI S.N S.nd S.cnt S.dead ext
 tb:∀v lo hi i,v<n→(S.tab v lo hi=some i↔(S.nd i=some ⟨v,lo,hi⟩∧pend i=false))
 x0:∀i,0≤ext i
 xz:∀i,S.nd i=none→ext i=0
variable {n room:Nat} {ah:Nat→Nat} {pend:Nat→Bool} {ext:Nat→Int} {S:St} {D:Nat→BF}
/-- A node is taken: dead,in its table. -/
def St.add(S:St)(d:Nd):St where
 nd:=set1 S.nd S.slot (some d)
 refs:=set1 S.refs S.slot 0
 N:=if S.free=[]then S.N+1 else S.N
 free:=S.free.dropLast
 cnt:=set1 S.cnt S.slot 0
 cn:=max S.cn (S.slot+1)
 dead:=S.dead+1
 tab:=fun v lo hi=>if v=d.v∧lo=d.lo∧hi=d.hi then some S.slot else S.tab v lo hi
theorem SI.slot(h:SI n room pend ext S):0<S.slot∧S.slot≤S.N∧S.nd S.slot=none∧(S.free=[]→S.slot=S.N)∧(S.free≠[]→S.slot<S.N):=by
 unfold St.slot
 cases hl:S.free.getLast? with
 |none=>
  have he:S.free=[]:=List.getLast?_eq_none_iff.1 hl;simp only;refine⟨h.N1,Nat.le_refl _,?_,fun _=>trivial,fun h9=>absurd he h9⟩
  cases hd:S.nd S.N with
  |none=>rfl
  |some d=>have:=(h.nz S.N (by rw[hd];simp)).2;omega
 |some k=>
  have hm:k∈S.free:=List.mem_of_getLast? hl;obtain⟨h1,h2,h3⟩:=(h.fr k).1 hm;refine⟨h1,by simp only;omega,h3,fun h9=>?_,fun _=>h2⟩;rw[h9]at hm;cases hm
theorem eZ:∀(N:Nat) (l:List Nat),l.Nodup→(∀i∈l,i<N)→l.length≤N
 |0,l,_,h=>by
  cases l with
  |nil=>simp
  |cons a l=>have:=h a (by simp);omega
 |N+1,l,hn,h=>by
  by_cases hm:N∈l
  ·have h1:=eZ N (l.erase N) (hn.erase N) (fun i hi=>by
    have h2:=(hn.mem_erase_iff).1 hi;have:=h i h2.2;have:=h2.1
    omega)
   rw[List.length_erase_of_mem hm]at h1;omega
  ·have:=eZ N l hn (fun i hi=>by
    have:=h i hi;have:i≠N:=fun e=>hm (e ▸ hi)
    omega)
   omega
theorem SI.zK(h:SI n room pend ext S):S.free.length<S.N:=by
 have h0:(0::S.free).Nodup:=List.nodup_cons.2 ⟨fun h9=>by have:=((h.fr 0).1 h9).1;omega,h.fn⟩
 have h1:=eZ S.N _ h0 (fun i hi=>by
  rcases List.mem_cons.1 hi with rfl|hi
  ·exact h.N1
  ·exact((h.fr i).1 hi).2.1)
 simp only[List.length_cons]at h1;have:=h.N1;omega
theorem SI.L9(hm:S.many<room):¬S.full room:=by
 rintro⟨h1,h2⟩;unfold St.many at hm;rw[h1]at hm;simp at hm;omega
theorem SI.uY(h:SI n room pend ext S)(d:Nd):(S.add d).many=S.many+1:=by
 have h1:=h.zK;unfold St.many St.add;simp only
 split
 ·rename_i h2;rw[h2]at h1⊢;simp at h1⊢;omega
 ·rename_i h2
  have:0<S.free.length:=List.length_pos_iff.2 h2;rw[List.length_dropLast];omega
theorem xu{l:List Nat}{k:Nat}(h:l.getLast?=some k):l=l.dropLast++[k]:=by
 have hne:l≠[]:=fun e=>by rw[e]at h;cases h
 rw[List.getLast?_eq_some_getLast hne]at h;have:=Option.some.inj h;rw[←this];exact(List.dropLast_concat_getLast hne).symm
theorem SI.add(h:SI n room pend ext S){d:Nd}(hf:¬S.full room)(hp:pend S.slot=false)(hnew:∀j,S.nd j=some d→pend j=true)(hin:∀p c,S.nd p=some c→c.lo/2≠S.slot∧c.hi/2≠S.slot):SI n room pend ext (S.add d):=by
 obtain⟨s0,sN,sn,se,sne⟩:=h.slot;have hx:ext S.slot=0:=h.xz _ sn;have hN:(S.add d).N=if S.free=[]then S.N+1 else S.N:=rfl;have aag:S.N≤(S.add d).N:=by rw[hN];split<;>omega
 have hsl:S.slot<(S.add d).N:=by
  rw[hN];split
  ·omega
  ·rename_i h1;exact sne h1
 have hnn:∀i,i≠S.slot→(S.add d).nd i=S.nd i:=fun i hi=>ak hi;have hns:(S.add d).nd S.slot=some d:=aC _ _ _
 have hsplit:S.free≠[]→S.free=S.free.dropLast++[S.slot]:=fun h9=>by
  unfold St.slot
  cases hl:S.free.getLast? with
  |none=>exact absurd (List.getLast?_eq_none_iff.1 hl) h9
  |some k=>exact xu hl
 have hmem:∀i,i∈S.free.dropLast↔(i∈S.free∧i≠S.slot):=fun i=>by
  by_cases h9:S.free=[]
  ·rw[h9];simp
  ·have h2:=hsplit h9;have hnd:=h.fn;rw[h2]at hnd;rw[List.nodup_append]at hnd
   constructor
   ·intro hi;refine⟨by rw[h2];exact List.mem_append_left _ hi,fun e=>?_⟩;exact hnd.2.2 i hi S.slot (by simp) e
   ·rintro⟨hi,hne⟩;rw[h2]at hi
    rcases List.mem_append.1 hi with h3|h3
    ·exact h3
    ·exact absurd (List.mem_singleton.1 h3) hne
 refine⟨fun i hi=>?_,?_,fun i=>?_,by have:=h.N1;omega,?_,fun i hi=>?_,?_,?_,fun v lo hi i hv=>?_,h.x0,fun i hi=>h.xz i (by
  by_cases e:i=S.slot
  ·rw[e];exact sn
  ·rw[hnn i e]at hi;exact hi)⟩
 ·by_cases e:i=S.slot
  ·rw[e];exact⟨s0,hsl⟩
  ·rw[hnn i e]at hi;have:=h.nz i hi;exact⟨this.1,by omega⟩
 ·exact h.fn.sublist (List.dropLast_sublist _)
 ·show i∈S.free.dropLast↔_;rw[hmem,h.fr]
  constructor
  ·rintro⟨⟨h1,h2,h3⟩,h4⟩;exact⟨h1,by omega,by rw[hnn i h4];exact h3⟩
  ·rintro⟨h1,h2,h3⟩;have hne:i≠S.slot:=fun e=>by rw[e,hns]at h3;cases h3
   refine⟨⟨h1,?_,by rw[hnn i hne]at h3;exact h3⟩,hne⟩;rw[hN]at h2
   split at h2
   ·rename_i h9;have:=se h9;omega
   ·exact h2
 ·rw[hN]
  split
  ·rename_i h9
   have:¬room<S.N:=fun h8=>hf ⟨h9,h8⟩;omega
  ·exact h.Nr
 ·show i<max S.cn (S.slot+1)
  by_cases e:i=S.slot
  ·rw[e];omega
  ·rw[hnn i e]at hi;have:=h.cn i hi;omega
 ·show max S.cn (S.slot+1)≤_;have:=h.cN;omega
 ·exact CI.add h.ci (fun i hi=>(h.nz i hi).2) sn hsl aag hx hin
 ·show(if v=d.v∧lo=d.lo∧hi=d.hi then some S.slot else S.tab v lo hi)=some i↔(set1 S.nd S.slot (some d) i=some ⟨v,lo,hi⟩∧pend i=false)
  by_cases e:v=d.v∧lo=d.lo∧hi=d.hi
  ·rw[if_pos e];obtain⟨rfl,rfl,rfl⟩:=e
   constructor
   ·intro h1;obtain rfl:=Option.some.inj h1;exact⟨aC _ _ _,hp⟩
   ·rintro⟨h1,h2⟩
    by_cases e:i=S.slot
    ·rw[e]
    ·rw[ak e]at h1;have:=hnew i h1;rw[h2]at this;cases this
  ·rw[if_neg e,h.tb v lo hi i hv]
   constructor
   ·rintro⟨h1,h2⟩;have hne:i≠S.slot:=fun e=>by rw[e,sn]at h1;cases h1
    exact⟨by rw[ak hne];exact h1,h2⟩
   ·rintro⟨h1,h2⟩
    by_cases e2:i=S.slot
    ·rw[e2,aC]at h1;obtain rfl:=Option.some.inj h1;exact absurd ⟨rfl,rfl,rfl⟩ e
    ·rw[ak e2]at h1;exact⟨h1,h2⟩
end
section
variable {n room:Nat} {ah:Nat→Nat} {pend:Nat→Bool} {ext:Nat→Int} {S:St} {D:Nat→BF}
/-- Mk: the store behind it and the edge. -/
def St.mk'(S:St)(v lo hi:Nat):St×Nat:=
 if lo=hi then(S,lo)else
  match S.tab v (flip lo (odd hi)) (flip hi (odd hi))with
  |some i=>(S,edge i (odd hi))
  |none=>(S.add ⟨v,flip lo (odd hi),flip hi (odd hi)⟩,edge S.slot (odd hi))
/-- Whether Mk takes a slot. -/
def St.takes(S:St)(v lo hi:Nat):Prop:=lo≠hi∧S.tab v (flip lo (odd hi)) (flip hi (odd hi))=none
theorem GI.child(h:GI n ah S.nd D)(hs:SI n room pend ext S):∀p c,S.nd p=some c→c.lo/2≠S.slot∧c.hi/2≠S.slot:=fun p c hc=>by
 obtain⟨s0,-,sn,-⟩:=hs.slot
 have hz:∀e,und S.nd ah (ah c.v+1) e→e/2≠S.slot:=fun e he e9=>by
  rcases he with h1|⟨d,h1,-⟩
  ·omega
  ·rw[e9,sn]at h1;cases h1
 exact⟨hz _ (h.ul p c hc),hz _ (h.uh p c hc)⟩
theorem Xb(h:GI n ah S.nd D)(hs:SI n room (fun _=>false) ext S){v lo hi:Nat}(hv:v<n)(mG:und S.nd ah (ah v+1) lo)(qc:und S.nd ah (ah v+1) hi)(hf:S.takes v lo hi→¬S.full room) :
 ∃D',qo n ah S.nd D v lo hi (S.mk' v lo hi).2 (S.mk' v lo hi).1.nd D'∧SI n room (fun _=>false) ext (S.mk' v lo hi).1∧(S.mk' v lo hi).1.many≤S.many+1:=by
 unfold St.mk'
 by_cases e:lo=hi
 ·rw[if_pos e];subst e;exact⟨D,Pz h mG,hs,by simp⟩
 ·rw[if_neg e]
  cases ht:S.tab v (flip lo (odd hi)) (flip hi (odd hi))with
  |some i=>
   have:=((hs.tb v _ _ i hv).1 ht).1;exact⟨D,LU h this,hs,by simp⟩
  |none=>
   have hnew:∀j,S.nd j≠some ⟨v,flip lo (odd hi),flip hi (odd hi)⟩:=fun j hj=>by
    have:=(hs.tb v _ _ j hv).2 ⟨hj,rfl⟩;rw[ht]at this;cases this
   obtain⟨s0,-,sn,-⟩:=hs.slot;refine⟨_,TM h s0 sn hv e mG qc hnew,?_,?_⟩
   ·exact hs.add (hf ⟨e,ht⟩) rfl (fun j hj=>absurd hj (hnew j)) (h.child hs)
   ·rw[hs.uY];exact Nat.le_refl _
/-- The dead nodes,in order. -/
def St.bS(S:St):List Nat:=(List.range S.N).filter (fun i=>(S.nd i).isSome&&S.cnt i==0)
/-- The store without its dead nodes. -/
def St.collect(S:St):St:={S with nd:=lives S.nd S.cnt,free:=S.free++S.bS,dead:=0,tab:=fun v lo hi=>match S.tab v lo hi with|some i=>if S.cnt i=0 then none else some i|none=>none}
theorem iP{i:Nat}:i∈S.bS↔i<S.N∧S.nd i≠none∧S.cnt i=0:=by
 unfold St.bS;rw[List.mem_filter,List.mem_range];simp only[Bool.and_eq_true,beq_iff_eq,Option.isSome_iff_ne_none]
theorem SI.collect(hs:SI n room (fun _=>false) ext S):SI n room (fun _=>false) ext S.collect:=by
 refine⟨fun i hi=>?_,?_,fun i=>?_,hs.N1,hs.Nr,fun i hi=>?_,hs.cN,hs.ci.collect,fun v lo hi i hv=>?_,hs.x0,fun i hi=>?_⟩
 ·have h1:S.nd i≠none:=fun h9=>hi (by show lives S.nd S.cnt i=none;unfold lives;rw[h9];simp);exact hs.nz i h1
 ·show(S.free++S.bS).Nodup;rw[List.nodup_append];refine⟨hs.fn,(List.nodup_range).filter _,fun i hi j hj e=>?_⟩;subst e;exact(iP.1 hj).2.1 ((hs.fr i).1 hi).2.2
 ·show i∈S.free++S.bS↔(0<i∧i<S.N∧lives S.nd S.cnt i=none);rw[List.mem_append,hs.fr,iP];unfold lives
  constructor
  ·rintro(⟨h1,h2,h3⟩|⟨h1,h2,h3⟩)
   ·refine⟨h1,h2,?_⟩;rw[h3];simp
   ·exact⟨(hs.nz i h2).1,h1,by rw[if_pos h3]⟩
  ·rintro⟨h1,h2,h3⟩
   by_cases hc:S.cnt i=0
   ·by_cases hn:S.nd i=none
    ·exact .inl ⟨h1,h2,hn⟩
    ·exact .inr ⟨h2,hn,hc⟩
   ·rw[if_neg hc]at h3;exact .inl ⟨h1,h2,h3⟩
 ·have h1:S.nd i≠none:=fun h9=>hi (by show lives S.nd S.cnt i=none;unfold lives;rw[h9];simp);exact hs.cn i h1
 ·show(match S.tab v lo hi with|some i=>if S.cnt i=0 then none else some i|none=>none)=some i↔(lives S.nd S.cnt i=some ⟨v,lo,hi⟩∧false=false)
  rw[dO]
  cases ht:S.tab v lo hi with
  |none=>
   constructor
   ·intro h;cases h
   ·rintro⟨⟨h1,-⟩,-⟩;have:=(hs.tb v lo hi i hv).2 ⟨h1,rfl⟩;rw[ht]at this;cases this
  |some j=>
   have hj:=((hs.tb v lo hi j hv).1 ht).1;simp only
   constructor
   ·intro h1
    split at h1
    ·cases h1
    ·obtain rfl:=Option.some.inj h1;exact⟨⟨hj,by omega⟩,trivial⟩
   ·rintro⟨⟨h1,h2⟩,-⟩;have:=(hs.tb v lo hi i hv).2 ⟨h1,rfl⟩;rw[ht]at this;obtain rfl:=Option.some.inj this;rw[if_neg (by omega)]
 ·have:lives S.nd S.cnt i=none:=hi;unfold lives at this
  by_cases hc:S.cnt i=0
  ·by_cases hn:S.nd i=none
   ·exact hs.xz i hn
   ·have h1:=hs.ci.eq i hn;have h2:=fG (f:=fU S.nd S.cnt i) (N:=S.N) (fun q _=>iO _ _ _ _);have:=hs.x0 i;omega
  ·rw[if_neg hc]at this;exact hs.xz i this
end
section
variable {n room:Nat} {ah:Nat→Nat} {pend:Nat→Bool} {ext:Nat→Int} {S S0:St} {D D0:Nat→BF} {x y N:Nat} {nd:Nat→Option Nd} {lv:Nat→Nat} {good:Nat→Prop}
/-- more turns counts of good nodes alone. -/
theorem dR(h:Wf n nd lv good){i:Nat}(hi:¬good i):∀(k e:Nat)(c:Nat→Nat)(z:Int),at_ n nd lv good k e→(bD nd k c z e).1 i=c i
 |0,_,_,_,_=>rfl
 |k+1,e,c,z,hu=>by
  rcases oh h hu with he|⟨d,hd,-,mG,qc⟩
  ·have:bD nd (k+1) c z e=(c,z):=by unfold bD;rw[he,h.n0]
   rw[this]
  ·have hg:good (e/2):=by
    rcases hu with h1|h1
    ·rw[h1,h.n0]at hd;cases hd
    ·exact h1.2.1
   have hne:i≠e/2:=fun e9=>hi (e9 ▸ hg);rw[bD,hd];simp only
   split
   ·exact ak hne
   ·rw[dR h hi k _ _ _ qc,dR h hi k _ _ _ mG];exact ak hne
theorem jW(h:Wf n nd lv good){i:Nat}(hi:¬good i):∀(k e:Nat)(c:Nat→Nat)(z:Int),at_ n nd lv good k e→(bU nd k c z e).1 i=c i
 |0,_,_,_,_=>rfl
 |k+1,e,c,z,hu=>by
  rcases oh h hu with he|⟨d,hd,-,mG,qc⟩
  ·have:bU nd (k+1) c z e=(c,z):=by unfold bU;rw[he,h.n0]
   rw[this]
  ·have hg:good (e/2):=by
    rcases hu with h1|h1
    ·rw[h1,h.n0]at hd;cases hd
    ·exact h1.2.1
   have hne:i≠e/2:=fun e9=>hi (e9 ▸ hg);rw[bU,hd];simp only
   split
   ·exact ak hne
   ·rw[jW h hi k _ _ _ qc,jW h hi k _ _ _ mG];exact ak hne
/-- A live node's edges are exchanged for others. -/
theorem CI.turn{c:Nat→Nat}{z:Int}(hc:CI N nd c z ext)(hn:∀i,nd i≠none→i<N){t:Nat}{d d':Nd}(hd:nd t=some d)(hp:0<c t):CI N (set1 nd t (some d')) c z (fun i=>ext i+one d.lo i+one d.hi i-one d'.lo i-one d'.hi i):=by
 have ht:=hn t (by rw[hd];simp)
 have hne:∀i,set1 nd t (some d') i≠none↔nd i≠none:=fun i=>by
  by_cases e:i=t
  ·rw[e,aC,hd];simp
  ·rw[ak e]
 refine⟨fun i hi=>?_,?_⟩
 ·have h1:=hc.eq i ((hne i).1 hi)
  have h2:sumTo (fun p=>fU (set1 nd t (some d')) c i p-fU nd c i p) N=one d'.lo i+one d'.hi i-(one d.lo i+one d.hi i):=by
   rw[kP (k:=t) ht (fun p _ hpt=>by unfold fU;rw[ak hpt];omega)];unfold fU;rw[aC,hd];simp only[hp,if_true]
  have h3:sumTo (fU (set1 nd t (some d')) c i) N=sumTo (fun p=>fU nd c i p+(fU (set1 nd t (some d')) c i p-fU nd c i p)) N:=sumTo_congr (fun p _=>by omega);rw[h3,kN,h2];omega
 ·rw[hc.dd]
  apply sumTo_congr
  intro i _;unfold aT
  by_cases h9:nd i≠none∧c i=0
  ·rw[if_pos h9,if_pos ⟨(hne i).2 h9.1,h9.2⟩]
  ·rw[if_neg h9,if_neg (fun h8=>h9 ⟨(hne i).1 h8.1,h8.2⟩)]
/-- The nodes at the two levels and below that are in the new order. -/
def fM(ah:Nat→Nat)(x y:Nat)(pend:Nat→Bool)(nd:Nat→Option Nd)(i:Nat):Prop:=pend i=false∧∃d,nd i=some d∧ah x≤gJ ah x y d.v
def xA(ah:Nat→Nat)(x y:Nat)(nd:Nat→Option Nd)(i:Nat):Nat:=match nd i with
 |some d=>gJ ah x y d.v
 |none=>0
theorem GP.wf(h:GP n (gJ ah x y) pend (ah x) nd D):Wf n nd (xA ah x y nd) (fM ah x y pend nd):=by
 have hch:∀i d e,nd i=some d→fM ah x y pend nd i→iB nd (gJ ah x y) pend (ah x) (gJ ah x y d.v+1) e→e/2=0∨(nd (e/2)≠none∧fM ah x y pend nd (e/2)∧xA ah x y nd i<xA ah x y nd (e/2)):=fun i d e hd hg hu=>by
  obtain⟨hp,d1,h1,h2⟩:=hg;obtain rfl:d1=d:=by rw[hd]at h1;exact(Option.some.inj h1).symm
  rcases hu with h3|⟨d',h3,h4⟩
  ·exact .inl h3
  ·unfold nl at h4
   cases hpe:pend (e/2)with
   |true=>rw[hpe]at h4;simp only[if_true]at h4;omega
   |false=>
    rw[hpe]at h4;simp only[Bool.false_eq_true,if_false]at h4;refine .inr ⟨by rw[h3];simp,⟨hpe,d',h3,by omega⟩,?_⟩;unfold xA;rw[hd,h3];exact h4
 refine⟨h.n0,fun i d hd _=>?_,fun i d hd hg=>hch i d _ hd hg (h.ul i d hd hg.1),fun i d hd hg=>hch i d _ hd hg (h.uh i d hd hg.1)⟩;unfold xA;rw[hd];exact h.ll _ (h.lt i d hd)
theorem GP.at(h:GP n (gJ ah x y) pend (ah x) nd D){e M:Nat}(hM:ah x+1≤M)(hu:iB nd (gJ ah x y) pend (ah x) M e):at_ n nd (xA ah x y nd) (fM ah x y pend nd) n e:=by
 rcases hu with h3|⟨d',h3,h4⟩
 ·exact .inl h3
 ·unfold nl at h4
  cases hpe:pend (e/2)with
  |true=>rw[hpe]at h4;simp only[if_true]at h4;omega
  |false=>
   rw[hpe]at h4;simp only[Bool.false_eq_true,if_false]at h4;exact .inr ⟨by rw[h3];simp,⟨hpe,d',h3,by omega⟩,by omega⟩
end
end Go.Proofs.YtpijlhlpejlhhaaGreat.Bd
