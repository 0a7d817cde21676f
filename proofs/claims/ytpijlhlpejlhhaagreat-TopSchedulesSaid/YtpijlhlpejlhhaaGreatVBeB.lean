/- Walks and plain words: BeB BeC BeD BeE BeF BeG BeH BeI BeJ. -/
import Derived.Test.YtpijlhlpejlhhaaGreatVBdS
namespace Go.Proofs.YtpijlhlpejlhhaaGreat.Bd
set_option linter.unusedVariables false
set_option linter.unusedSimpArgs false
set_option linter.unusedSectionVars false
section
variable {n room:Nat} {ah:Nat→Nat} {nd nd':Nat→Option Nd} {D D':Nat→BF}
/-- A set of nodes that holds its nodes' children,from a level downwards. -/
def jH(nd:Nat→Option Nd)(ah:Nat→Nat)(W:Nat→Bool)(L:Nat):Prop:=∀i d,W i=true→nd i=some d→L≤ah d.v→(d.lo/2=0∨W (d.lo/2)=true)∧(d.hi/2=0∨W (d.hi/2)=true)
/-- What a search from an edge leaves. -/
structure vD(nd:Nat→Option Nd)(ah:Nat→Nat)(L f:Nat)(W W':Nat→Bool):Prop where
 up:∀i,W i=true→W' i=true
 cl:jH nd ah W' L
 has:f/2=0∨W' (f/2)=true
 new:∀i,W' i=true→W i=true∨(∃d,nd i=some d∧L≤ah d.v∧∃k,i∈reach nd k f)
theorem EB{L f:Nat}{W:Nat→Bool}(h:jH nd ah W L)(hf:f/2=0∨W (f/2)=true):vD nd ah L f W W:=⟨fun _ h=>h,h,hf,fun i hi=>.inl hi⟩
theorem Ci{L i:Nat}{d:Nd}{W:Nat→Bool}(h:jH nd ah W L)(hd:nd i=some d)(hL:L≤ah d.v):jH nd ah (set1 W i true) (ah d.v+1):=fun j c hj hc hl=>by
 by_cases e:j=i
 ·rw[e,hd]at hc;obtain rfl:=Option.some.inj hc;omega
 ·rw[ak e]at hj;obtain⟨h1,h2⟩:=h j c hj hc (by omega)
  have up:∀k,W k=true→set1 W i true k=true:=fun k hk=>by
   unfold set1;split
   ·rfl
   ·exact hk
  exact⟨h1.imp_right (up _),h2.imp_right (up _)⟩
/-- A node,then its two children. -/
theorem Jc(hg:GI n ah nd D){L f:Nat}{d:Nd}{W W1 W2:Nat→Bool}{lo hi:Nat}(h:jH nd ah W L)(hd:nd (f/2)=some d)(hL:L≤ah d.v)(hlo:lo/2=d.lo/2)(hhi:hi/2=d.hi/2)
 (h1:vD nd ah (ah d.v+1) lo (set1 W (f/2) true) W1) (h2:vD nd ah (ah d.v+1) hi W1 W2):vD nd ah L f W W2:=by
 have hm:set1 W (f/2) true (f/2)=true:=aC _ _ _
 have up:∀k,W k=true→set1 W (f/2) true k=true:=fun k hk=>by
  unfold set1;split
  ·rfl
  ·exact hk
 have rch:∀(g g' k i:Nat),g/2=g'/2→i∈reach nd k g→i∈reach nd k g':=fun g g' k i e h9=>by
  cases k with
  |zero=>exact h9
  |succ k=>unfold reach at h9⊢;rw[←e];exact h9
 refine⟨fun i hi=>h2.up i (h1.up i (up i hi)),fun i c hi hc hl=>?_,.inr (h2.up _ (h1.up _ hm)),fun i hi=>?_⟩
 ·by_cases e:ah d.v+1≤ah c.v
  ·exact h2.cl i c hi hc e
  ·-- a node that stood before,or the node itself
   have hold:set1 W (f/2) true i=true:=by
    rcases h2.new i hi with h9|⟨c',h9,h8,-⟩
    ·rcases h1.new i h9 with h9|⟨c',h9,h8,-⟩
     ·exact h9
     ·rw[hc]at h9;obtain rfl:=Option.some.inj h9;omega
    ·rw[hc]at h9;obtain rfl:=Option.some.inj h9;omega
   by_cases e2:i=f/2
   ·rw[e2,hd]at hc;obtain rfl:=Option.some.inj hc;refine⟨?_,?_⟩
    ·rw[←hlo];exact h1.has.imp_right (h2.up _)
    ·rw[←hhi];exact h2.has
   ·rw[ak e2]at hold;obtain⟨q1,q2⟩:=h i c hold hc hl;exact⟨q1.imp_right (fun h9=>h2.up _ (h1.up _ (up _ h9))),q2.imp_right (fun h9=>h2.up _ (h1.up _ (up _ h9)))⟩
 ·have fin:∀(g:Nat),(g=d.lo∨g=d.hi)→∀k,i∈reach nd k g→∃k,i∈reach nd k f:=fun g hg' k hk=>⟨k+1,by
   unfold reach;rw[hd]
   rcases hg' with rfl|rfl
   ·exact List.mem_cons_of_mem _ (List.mem_append_left _ hk)
   ·exact List.mem_cons_of_mem _ (List.mem_append_right _ hk)⟩
  rcases h2.new i hi with h9|⟨c,h9,h8,k,hk⟩
  ·rcases h1.new i h9 with h9|⟨c,h9,h8,k,hk⟩
   ·by_cases e2:i=f/2
    ·refine .inr ⟨d,by rw[e2];exact hd,hL,1,?_⟩;rw[e2];exact lN (k:=0) (by rw[hd];simp)
    ·rw[ak e2]at h9;exact .inl h9
   ·exact .inr ⟨c,h9,by omega,fin _ (.inl rfl) k (rch _ _ _ _ hlo hk)⟩
  ·exact .inr ⟨c,h9,by omega,fin _ (.inr rfl) k (rch _ _ _ _ hhi hk)⟩
/-- A function hangs on the variables of its nodes alone. -/
theorem rX(hg:GI n ah nd D){W:Nat→Bool}(hW:jH nd ah W 0){a b:Nat→Bool}(hab:∀i d,W i=true→nd i=some d→a d.v=b d.v):∀(k L e:Nat),n≤L+k→und nd ah L e→(e/2=0∨W (e/2)=true)→De D e a=De D e b
 |0,L,e,hk,hu,_=>by
  have he:=hu.top hg (by omega);rw[bI hg he,bI hg he]
 |k+1,L,e,hk,hu,hw=>by
  rcases hu with he|⟨d,hd,hl⟩
  ·rw[bI hg he,bI hg he]
  ·rcases hw with he|hw
   ·rw[bI hg he,bI hg he]
   ·obtain⟨w1,w2⟩:=hW _ _ hw hd (Nat.zero_le _);have h1:=rX hg hW hab k (ah d.v+1) d.lo (by omega) (hg.ul _ _ hd) w1;have h2:=rX hg hW hab k (ah d.v+1) d.hi (by omega) (hg.uh _ _ hd) w2;unfold De;rw[hg.dD _ _ hd,hg.dD _ _ hd,hab _ _ hw hd,h1,h2]
/-- A function hangs on each variable of its nodes. -/
theorem vF(hg:GI n ah nd D){v:Nat}:∀(k L e:Nat),n≤L+k→und nd ah L e→(∀a b,De D e (upd a v b)=De D e a)→∀m i d,i∈reach nd m e→nd i=some d→d.v≠v
 |k,L,e,hk,hu,hf,0,i,d,hi,_=>by simp[reach]at hi
 |0,L,e,hk,hu,hf,m+1,i,d,hi,_=>by
  have he:=hu.top hg (by omega);unfold reach at hi;rw[he,hg.n0]at hi;cases hi
 |k+1,L,e,hk,hu,hf,m+1,i,d,hi,hd=>by
  unfold reach at hi
  cases hc:nd (e/2)with
  |none=>rw[hc]at hi;cases hi
  |some c=>
   rw[hc]at hi
   have hL:L≤ah c.v:=by
    rcases hu with h9|⟨c',h9,h8⟩
    ·rw[h9,hg.n0]at hc;cases hc
    ·rw[hc]at h9;obtain rfl:=Option.some.inj h9;exact h8
   have hlt:=hg.lt _ _ hc;have hlv:=hg.ll _ hlt;have hue:und nd ah (ah c.v) e:=.inr ⟨c,hc,Nat.le_refl _⟩;have cu:∀a,De D (aI nd e c.v) a=De D e (upd a c.v true)∧De D (aB nd e c.v) a=De D e (upd a c.v false):=fun a=>PD hg hlt hue a
   have hne:c.v≠v:=fun e9=>by
    subst e9
    have:aB nd e c.v=aI nd e c.v:=by
     obtain⟨u1,u2⟩:=bQ hg hlt hue;refine canon hg n _ _ _ (by omega) u1 u2 (fun a=>?_);rw[(cu a).1,(cu a).2,hf,hf]
    exact LV hg hc this
   have eL:aB nd e c.v=flip c.lo (odd e):=by unfold aB;rw[hc];simp
   have eH:aI nd e c.v=flip c.hi (odd e):=by unfold aI;rw[hc];simp
   have comm:∀(a:Nat→Bool)(x y:Bool),upd (upd a v x) c.v y=upd (upd a c.v y) v x:=fun a x y=>by
    funext w;unfold upd
    by_cases h1:w=c.v<;>by_cases h2:w=v
    ·exact absurd (h1.symm.trans h2) hne
    ·simp[h1,hne]
    ·subst h2;simp[h1]
    ·simp[h1,h2]
   have fL:∀a b,De D c.lo (upd a v b)=De D c.lo a:=fun a b=>by
    have h1:=(cu (upd a v b)).2;have h2:=(cu a).2;rw[comm,hf,←h2,eL,eY,eY]at h1;cases hq:odd e<;>simpa[hq]using h1
   have fH:∀a b,De D c.hi (upd a v b)=De D c.hi a:=fun a b=>by
    have h1:=(cu (upd a v b)).1;have h2:=(cu a).1;rw[comm,hf,←h2,eH,eY,eY]at h1;cases hq:odd e<;>simpa[hq]using h1
   simp only[List.mem_cons,List.mem_append]at hi
   rcases hi with rfl|hi|hi
   ·rw[hc]at hd;obtain rfl:=Option.some.inj hd;exact hne
   ·exact vF hg k (ah c.v+1) c.lo (by omega) (hg.ul _ _ hc) fL m i d hi hd
   ·exact vF hg k (ah c.v+1) c.hi (by omega) (hg.uh _ _ hc) fH m i d hi hd
end
section
variable {n room:Nat} {ah:Nat→Nat} {M:MS}
/-- A manager without nodes: every exchange fits and leaves none. -/
theorem qz{S:St}(h:∀i,S.nd i=none):∀i,S.gc.nd i=none:=fun i=>by
 unfold St.gc;split
 ·exact h i
 ·show lives S.nd S.cnt i=none;unfold lives;rw[h i];simp
theorem qA{S:St}(h:∀i,S.nd i=none)(x y:Nat):S.turned x y=[]:=by
 unfold St.turned;rw[List.filter_eq_nil_iff];intro i _;unfold tp;rw[h i];simp
theorem vG{S:St}(h:∀i,S.nd i=none)(room x y:Nat):S.fits room x y:=by
 unfold St.fits St.wants;rw[qA (qz h)];exact Nat.zero_le _
theorem EC{S:St}(h:∀i,S.nd i=none)(n room x y:Nat):∀i,(S.swap n room x y).nd i=none:=by
 unfold St.swap;rw[if_pos (vG h room x y)]
 apply qz
 intro i;unfold St.mY;rw[qA (qz h)];exact qz h i
/-- While a variable is moved up to its place. -/
structure Arr(n room:Nat)(order:List Nat)(i j:Nat)(M:MS):Prop where
 inv:Inv n room M
 none:∀i,M.S.nd i=none
 pre:M.ord.take i=order.take i
 at':M.ord[j]?=order[i]?
 ij:i≤j
theorem Mq{order:List Nat}{i:Nat}(h:Arr n room order i i M)(hi:i<order.length):M.ord.take (i+1)=order.take (i+1):=by
 rw[List.take_add_one,List.take_add_one,h.pre,h.at']
theorem Mr{order:List Nat}{i:Nat}(h:Inv n room M)(hn:order.Nodup)(hl:∀v∈order,v<n)(hp:M.ord.take i=order.take i)(hi:i<order.length):∃j,i≤j∧j<n∧M.ord[j]?=order[i]?:=by
 have hv:=hl _ (List.getElem_mem hi);have h1:=h.od.of _ hv;refine⟨M.ah order[i],?_,h.gi.ll _ hv,by rw[h1,List.getElem?_eq_getElem hi]⟩
 rcases Nat.lt_or_ge (M.ah order[i]) i with hlt|hge
 ·exfalso
  have h2:order[M.ah order[i]]?=some order[i]:=by
   rw[←h1];have:=congrArg (fun l=>l[M.ah order[i]]?) hp;simp only[List.getElem?_take_of_lt hlt]at this;exact this.symm
  obtain⟨h3,h4⟩:=List.getElem?_eq_some_iff.1 h2;exact List.pairwise_iff_getElem.1 hn _ _ h3 hi hlt h4
 ·exact hge
end
section
variable {n N:Nat} {nd:Nat→Option Nd} {lv:Nat→Nat} {good:Nat→Prop} {c:Nat→Nat} {x:Int} {ext:Nat→Int}
theorem rY{f:Nat→Int}{b:Int}:∀{N:Nat},(∀i,i<N→f i≤b)→sumTo f N≤N*b
 |0,_=>by simp[sumTo]
 |N+1,h=>by
  have h1:=rY (N:=N) (fun i hi=>h i (by omega));have h2:=h N (by omega);show sumTo f N+f N≤_;rw[show((N+1:Nat):Int)=(N:Int)+1 by omega,Int.add_mul];omega
theorem one_le(e i:Nat):one e i≤1:=by unfold one;split<;>omega
theorem CI.Ms(hc:CI N nd c x ext){i:Nat}(hi:nd i≠none):(c i:Int)≤ext i+N*2:=by
 have h1:=hc.eq i hi
 have h2:=rY (f:=fU nd c i) (b:=2) (N:=N) (fun p _=>by
  unfold fU
  split
  ·omega
  ·split
   ·rename_i d _ _;have:=one_le d.lo i;have:=one_le d.hi i;omega
   ·omega)
 omega
theorem CI.zQ(hc:CI N nd c x ext):0≤x∧x≤N:=by
 rw[hc.dd];have h1:=fG (f:=aT nd c) (N:=N) (fun i _=>by unfold aT;split<;>omega);have h2:=rY (f:=aT nd c) (b:=1) (N:=N) (fun i _=>by unfold aT;split<;>omega);omega
/-- A node that becomes live. -/
theorem CI.Xf(h:Wf n nd lv good)(hn:∀i,nd i≠none→i<N){e:Nat}{d:Nd}(hd:nd (e/2)=some d)(hself:d.lo/2≠e/2∧d.hi/2≠e/2)(hz:c (e/2)=0)(hc:CI N nd c x ext):CI N nd (set1 c (e/2) 1) (x-1) (fun i=>ext i+one e i-one d.lo i-one d.hi i):=by
 refine⟨fun i hi=>?_,?_⟩
 ·have hs:fU nd (set1 c (e/2) 1) i (e/2)-fU nd c i (e/2)=one d.lo i+one d.hi i:=by unfold fU;rw[hd,aC];simp[hz]
  have:=hc.eq i hi;rw[n_ hn hd,hs]
  by_cases hie:i=e/2
  ·subst hie;rw[aC];have h1:one d.lo (e/2)=0:=by unfold one;rw[if_neg hself.1]
   have h2:one d.hi (e/2)=0:=by unfold one;rw[if_neg hself.2]
   have h3:one e (e/2)=1:=by unfold one;rw[if_pos rfl]
   simp only[h1,h2,h3];omega
  ·rw[ak hie];have h3:one e i=0:=by unfold one;rw[if_neg (fun h9=>hie h9.symm)]
   simp only[h3];omega
 ·have hs:aT nd (set1 c (e/2) 1) (e/2)-aT nd c (e/2)=-1:=by unfold aT;rw[aC,if_neg (by omega),if_pos ⟨by rw[hd];simp,hz⟩];rfl
  rw[kQ hn hd,hs,←hc.dd];omega
/-- A node that dies. -/
theorem CI.Xg(h:Wf n nd lv good)(hn:∀i,nd i≠none→i<N){e:Nat}{d:Nd}(hd:nd (e/2)=some d)(hself:d.lo/2≠e/2∧d.hi/2≠e/2)(hz:c (e/2)=1)(hc:CI N nd c x ext):CI N nd (set1 c (e/2) 0) (x+1) (fun i=>ext i-one e i+one d.lo i+one d.hi i):=by
 refine⟨fun i hi=>?_,?_⟩
 ·have hs:fU nd (set1 c (e/2) 0) i (e/2)-fU nd c i (e/2)=- (one d.lo i+one d.hi i):=by unfold fU;rw[hd,aC];simp[hz]
  have:=hc.eq i hi;rw[n_ hn hd,hs]
  by_cases hie:i=e/2
  ·subst hie;rw[aC];have h1:one d.lo (e/2)=0:=by unfold one;rw[if_neg hself.1]
   have h2:one d.hi (e/2)=0:=by unfold one;rw[if_neg hself.2]
   have h3:one e (e/2)=1:=by unfold one;rw[if_pos rfl]
   simp only[h1,h2,h3];omega
  ·rw[ak hie];have h3:one e i=0:=by unfold one;rw[if_neg (fun h9=>hie h9.symm)]
   simp only[h3];omega
 ·have hs:aT nd (set1 c (e/2) 0) (e/2)-aT nd c (e/2)=1:=by unfold aT;rw[aC,if_pos ⟨by rw[hd];simp,rfl⟩,if_neg (by omega)];omega
  rw[kQ hn hd,hs,←hc.dd]
theorem CI.ge1(hc:CI N nd c x ext){i:Nat}(hi:nd i≠none)(hx:1≤ext i):1≤c i:=by
 have h1:=hc.eq i hi;have h2:=fG (f:=fU nd c i) (N:=N) (fun p _=>iO _ _ _ _);omega
theorem CI.Qa(hx:∀i,0≤ext i){e:Nat}{d:Nd}(h1:1≤ext (e/2)):(∀i,0≤ext i-one e i+one d.lo i+one d.hi i)∧1≤ext (d.lo/2)-one e (d.lo/2)+one d.lo (d.lo/2)+one d.hi (d.lo/2)∧(∀i,0≤ext i-one e i+one d.lo i+one d.hi i-one d.lo i)∧1≤ext (d.hi/2)-one e (d.hi/2)+one d.lo (d.hi/2)+one d.hi (d.hi/2)-one d.lo (d.hi/2):=by
 have hx3:∀i,0≤ext i-one e i:=fun i=>by
  have:=hx i;unfold one
  split
  ·rename_i h9;rw[←h9];omega
  ·omega
 have hb:∀g i,0≤one g i:=one_nonneg;have h3:one d.lo (d.lo/2)=1:=by unfold one;rw[if_pos rfl]
 have h4:one d.hi (d.hi/2)=1:=by unfold one;rw[if_pos rfl]
 refine⟨fun i=>?_,?_,fun i=>?_,?_⟩
 ·have:=hx3 i;have:=hb d.lo i;have:=hb d.hi i;omega
 ·have:=hx3 (d.lo/2);have:=hb d.hi (d.lo/2);omega
 ·have:=hx3 i;have:=hb d.hi i;omega
 ·have:=hx3 (d.hi/2);omega
theorem yh{k:Nat}{e:Nat}(h:nd (e/2)=none):bD nd k c x e=(c,x):=by cases k<;>simp[bD,h]
theorem yj{k:Nat}{e:Nat}(h:nd (e/2)=none):bU nd k c x e=(c,x):=by cases k<;>simp[bU,h]
theorem Mt{k:Nat}{e:Nat}{d:Nd}(h:nd (e/2)=some d)(hp:0<c (e/2)):bD nd (k+1) c x e=(set1 c (e/2) (c (e/2)+1),x):=by rw[bD,h];simp only[hp,if_true]
theorem Mv{k:Nat}{e:Nat}{d:Nd}(h:nd (e/2)=some d)(hp:c (e/2)=0):bD nd (k+1) c x e=bD nd k (bD nd k (set1 c (e/2) 1) (x-1) d.lo).1 (bD nd k (set1 c (e/2) 1) (x-1) d.lo).2 d.hi:=by rw[bD,h];simp[hp]
theorem Mw{k:Nat}{e:Nat}{d:Nd}(h:nd (e/2)=some d)(hp:1<c (e/2)):bU nd (k+1) c x e=(set1 c (e/2) (c (e/2)-1),x):=by rw[bU,h];simp only[hp,if_true]
theorem Mx{k:Nat}{e:Nat}{d:Nd}(h:nd (e/2)=some d)(hp:c (e/2)=1):bU nd (k+1) c x e=bU nd k (bU nd k (set1 c (e/2) 0) (x+1) d.lo).1 (bU nd k (set1 c (e/2) 0) (x+1) d.lo).2 d.hi:=by rw[bU,h];simp[hp]
end
section
variable {n room:Nat} {ah:Nat→Nat} {pend:Nat→Bool} {ext:Nat→Int} {S S0:St} {D D0:Nat→BF} {x y:Nat}
theorem ED(h0:GI n ah S0.nd D0)(hx:x<n)(hy:y<n)(hl:ah y=ah x+1)(h:GV n room ah x y S0 D0 ext pend S D){t:Nat}{d:Nd}(hd:S0.nd t=some d)(hp:pend t=true)
 (hf1:S.takes x (aB S0.nd d.lo y) (aB S0.nd d.hi y)→¬S.full room)
 (hf2:(S.mk' x (aB S0.nd d.lo y) (aB S0.nd d.hi y)).1.takes x (aI S0.nd d.lo y) (aI S0.nd d.hi y)→¬(S.mk' x (aB S0.nd d.lo y) (aB S0.nd d.hi y)).1.full room) :
 ∃D1 D2,GV n room ah x y S0 D0 ext pend (S.mk' x (aB S0.nd d.lo y) (aB S0.nd d.hi y)).1 D1 ∧
  ∀r2,r2=(S.mk' x (aB S0.nd d.lo y) (aB S0.nd d.hi y)).1.mk' x (aI S0.nd d.lo y) (aI S0.nd d.hi y)→∀lo,lo=(S.mk' x (aB S0.nd d.lo y) (aB S0.nd d.hi y)).2 →
  GV n room ah x y S0 D0 ext pend r2.1 D2∧r2.1.nd t=some d ∧
  Wf n r2.1.nd (xA ah x y r2.1.nd) (fM ah x y pend r2.1.nd)∧at_ n r2.1.nd (xA ah x y r2.1.nd) (fM ah x y pend r2.1.nd) n lo∧at_ n r2.1.nd (xA ah x y r2.1.nd) (fM ah x y pend r2.1.nd) n r2.2 ∧
  Wf n (set1 r2.1.nd t (some ⟨y,lo,r2.2⟩)) (xA ah x y (set1 r2.1.nd t (some ⟨y,lo,r2.2⟩))) (fM ah x y (set1 pend t false) (set1 r2.1.nd t (some ⟨y,lo,r2.2⟩))) ∧
  (∀e,und S0.nd ah (ah x+1) e→at_ n (set1 r2.1.nd t (some ⟨y,lo,r2.2⟩)) (xA ah x y (set1 r2.1.nd t (some ⟨y,lo,r2.2⟩))) (fM ah x y (set1 pend t false) (set1 r2.1.nd t (some ⟨y,lo,r2.2⟩))) n e):=by
 obtain⟨d1,e1,hdt,hv,hT⟩:=h.i.pn t hp;obtain rfl:d1=d:=by rw[hd]at e1;exact(Option.some.inj e1).symm
 have hxy:=uU h0 hx hy hl;have Bz:und S0.nd ah (ah y) d1.lo:=by rw[hl,←hv];exact h0.ul _ _ hd
 have Et:und S0.nd ah (ah y) d1.hi:=by rw[hl,←hv];exact h0.uh _ _ hd
 obtain⟨uW,xg⟩:=bQ h0 hy Bz;obtain⟨uX,xq⟩:=bQ h0 hy Et;rw[hl]at uW xg uX xq;obtain⟨D1,b1,s1⟩:=kR h0 hx hy hl h (h.i.low h0 hx hy hl uW).1 (h.i.low h0 hx hy hl uX).1 hf1
 generalize hr1:S.mk' x (aB S0.nd d1.lo y) (aB S0.nd d1.hi y)=r1 at *
 obtain⟨D2,b2,s2⟩:=kR h0 hx hy hl s1 (s1.i.low h0 hx hy hl xg).1 (s1.i.low h0 hx hy hl xq).1 hf2
 generalize hr2:r1.1.mk' x (aI S0.nd d1.lo y) (aI S0.nd d1.hi y)=r2 at *
 obtain⟨S1,lo⟩:=r1;obtain⟨S2,hi'⟩:=r2;simp only at *
 -- the two new edges in the second store
 have uZ:iB S2.nd (gJ ah x y) pend (ah x) (ah x+1) lo:=by
  rcases b1.und with h1|⟨c,h1,h2⟩
  ·exact .inl h1
  ·exact .inr ⟨c,(b2.up _ c h1).1,h2⟩
 have okl:ok S1.nd lo:=b1.und.ok
 have L_:De D2 lo=De D1 lo:=by
  funext a
  rcases okl with h1|⟨c,h1⟩
  ·unfold De;rw[h1,s2.i.g.d0,s1.i.g.d0]
  ·unfold De;rw[(b2.up _ c h1).2]
 have fl:∀a,De D2 lo a=if a x then De D0 (aB S0.nd d1.hi y) a else De D0 (aB S0.nd d1.lo y) a:=fun a=>by
  rw[L_,b1.fn a,(h.i.low h0 hx hy hl uW).2,(h.i.low h0 hx hy hl uX).2]
 have fh:∀a,De D2 hi' a=if a x then De D0 (aI S0.nd d1.hi y) a else De D0 (aI S0.nd d1.lo y) a:=fun a=>by
  rw[b2.fn a,(s1.i.low h0 hx hy hl xg).2,(s1.i.low h0 hx hy hl xq).2]
 have hev:hi'%2=0:=b2.par (xU h0 (h0.ev _ _ hd));have hI:=xS h0 hx hy hl s2.i hd hp uZ b2.und fl fh hev;obtain⟨d2,e2,zL,-,-⟩:=s2.i.pn t hp;obtain rfl:d2=d1:=by rw[hd]at e2;exact(Option.some.inj e2).symm
 have BQ:∀i,S2.nd i≠none→i<S2.N:=fun i hi=>(s2.s.nz i hi).2
 -- counts
 have W2:=s2.i.g.wf;have a1:=s2.i.g.at (Nat.le_refl _) uZ;have a2:=s2.i.g.at (Nat.le_refl _) b2.und;have c1:=CI.more W2 BQ n lo S2.cnt S2.dead ext a1 s2.s.ci;have c2:=CI.more W2 BQ n hi' _ _ _ a2 c1;have mP:¬fM ah x y pend S2.nd t:=fun h9=>by have:=h9.1;rw[hp]at this;cases this
 have TQ:0<(bD S2.nd n (bD S2.nd n S2.cnt S2.dead lo).1 (bD S2.nd n S2.cnt S2.dead lo).2 hi').1 t:=by
  rw[dR W2 mP n _ _ _ a2,dR W2 mP n _ _ _ a1];exact s2.l t hp
 have c3:=c2.turn BQ (d':=⟨y,lo,hi'⟩) zL TQ;have W3:=hI.g.wf
 have IZ:∀i,set1 S2.nd t (some ⟨y,lo,hi'⟩) i≠none→i<S2.N:=fun i hi=>by
  by_cases e:i=t
  ·rw[e];exact BQ t (by rw[zL];simp)
  ·rw[ak e]at hi;exact BQ i hi
 -- the elder edges
 have a3:∀e,und S0.nd ah (ah x+1) e→at_ n (set1 S2.nd t (some ⟨y,lo,hi'⟩)) (xA ah x y (set1 S2.nd t (some ⟨y,lo,hi'⟩))) (fM ah x y (set1 pend t false) (set1 S2.nd t (some ⟨y,lo,hi'⟩))) n e:=fun e hu=>by
  rcases hu with h1|⟨c,h1,h2⟩
  ·exact .inl h1
  ·have hcx:c.v≠x:=fun e9=>by rw[e9]at h2;omega
   obtain⟨h3,h4⟩:=hI.rest _ c h1 hcx;refine .inr ⟨by rw[h3];simp,⟨h4,c,h3,?_⟩,by omega⟩;unfold gJ;rw[if_neg hcx]
   split
   ·exact Nat.le_refl _
   ·omega
 refine⟨D1,D2,s1,fun r2' e9 lo' e8=>?_⟩;subst e9;subst e8;exact⟨s2,zL,W2,a1,a2,W3,a3⟩
end
section
variable {n room:Nat} {ah:Nat→Nat} {pend:Nat→Bool} {ext:Nat→Int} {S S0:St} {D D0:Nat→BF} {x y:Nat}
theorem Jd(h0:GI n ah S0.nd D0)(hx:x<n)(hy:y<n)(hl:ah y=ah x+1){K:List (Nat×Nat)}(hK:K.Nodup){m:Nat}(hr:m+K.length≤room)(t:Nat)(l:List Nat)(hn:(t::l).Nodup)(hp:∀i,pend i=true↔i∈t::l)(hS:GV n room ah x y S0 D0 ext pend S D)
 (hm:S.many=m+present S x K) (hk:∀t'∈t::l,∀d,S0.nd t'=some d→∀k∈keysOf S0.nd y d,k.1≠k.2→S.tab x k.1 k.2=none→k∈K) :
 ∃d,S0.nd t=some d∧(S.takes x (aB S0.nd d.lo y) (aB S0.nd d.hi y)→¬S.full room)∧((S.mk' x (aB S0.nd d.lo y) (aB S0.nd d.hi y)).1.takes x (aI S0.nd d.lo y) (aI S0.nd d.hi y)→¬(S.mk' x (aB S0.nd d.lo y) (aB S0.nd d.hi y)).1.full room) ∧
  ∃D',GV n room ah x y S0 D0 ext (set1 pend t false) (St.jg S0.nd n x y S t) D'∧(∀i,set1 pend t false i=true↔i∈l)∧(St.jg S0.nd n x y S t).many=m+present (St.jg S0.nd n x y S t) x K ∧
  ∀u∈l,∀c,S0.nd u=some c→∀k∈keysOf S0.nd y c,k.1≠k.2→(St.jg S0.nd n x y S t).tab x k.1 k.2=none→k∈K:=by
 have hxy:=uU h0 hx hy hl;have hpt:=(hp t).2 (by simp);obtain⟨d,hd,-,-,-⟩:=hS.i.pn t hpt;rw[List.nodup_cons]at hn;have e1:St.jg S0.nd n x y S t=S.jf n x y S0.nd t d:=by unfold St.jg;rw[hd]
 have hkey:=hk t (by simp) d hd;have hin1:aB S0.nd d.lo y≠aB S0.nd d.hi y→S.tab x (norm (aB S0.nd d.lo y) (aB S0.nd d.hi y)).1 (norm (aB S0.nd d.lo y) (aB S0.nd d.hi y)).2=none→norm (aB S0.nd d.lo y) (aB S0.nd d.hi y)∈K:=fun h1 h2=>hkey _ (by unfold keysOf;simp) (uE.2 h1) h2;obtain⟨f1,m1⟩:=lM hS.s hx hK hin1 hm hr;obtain⟨d1,e2,hdt,hv,hT⟩:=hS.i.pn t hpt;obtain rfl:d1=d:=by rw[hd]at e2;exact(Option.some.inj e2).symm
 have Bz:und S0.nd ah (ah y) d1.lo:=by rw[hl,←hv];exact h0.ul _ _ hd
 have Et:und S0.nd ah (ah y) d1.hi:=by rw[hl,←hv];exact h0.uh _ _ hd
 obtain⟨uW,xg⟩:=bQ h0 hy Bz;obtain⟨uX,xq⟩:=bQ h0 hy Et;rw[hl]at uW xg uX xq;obtain⟨D1,b1,s1⟩:=kR h0 hx hy hl hS (hS.i.low h0 hx hy hl uW).1 (hS.i.low h0 hx hy hl uX).1 f1;have hin2:aI S0.nd d1.lo y≠aI S0.nd d1.hi y→(S.mk' x (aB S0.nd d1.lo y) (aB S0.nd d1.hi y)).1.tab x (norm (aI S0.nd d1.lo y) (aI S0.nd d1.hi y)).1 (norm (aI S0.nd d1.lo y) (aI S0.nd d1.hi y)).2=none→norm (aI S0.nd d1.lo y) (aI S0.nd d1.hi y)∈K:=fun h1 h2=>hkey _ (by unfold keysOf;simp) (uE.2 h1) (rT _ _ _ _ _ _ _ h2);obtain⟨f2,m2⟩:=lM s1.s hx hK hin2 m1 hr;obtain⟨D',hS'⟩:=GX h0 hx hy hl hS hd hpt f1 f2
 -- the table of x behind it
 have htab:∀a b,(S.jf n x y S0.nd t d1).tab x a b=((S.mk' x (aB S0.nd d1.lo y) (aB S0.nd d1.hi y)).1.mk' x (aI S0.nd d1.lo y) (aI S0.nd d1.hi y)).1.tab x a b:=fun a b=>by
  unfold St.jf
  dsimp only
  rw[if_neg (fun h9=>hxy h9.1)]
 have xX:(S.jf n x y S0.nd t d1).many=m+present (S.jf n x y S0.nd t d1) x K:=by
  have h9:present (S.jf n x y S0.nd t d1) x K=present ((S.mk' x (aB S0.nd d1.lo y) (aB S0.nd d1.hi y)).1.mk' x (aI S0.nd d1.lo y) (aI S0.nd d1.hi y)).1 x K:=by
   unfold present
   congr 1
   exact List.filter_congr (fun k _=>by rw[htab])
  rw[h9,←m2]
  rfl
 rw[e1];refine⟨d1,hd,f1,f2,D',hS',fun i=>?_,xX,fun u hu c hc k hk1 h2 h3=>?_⟩
 ·by_cases e:i=t
  ·rw[e,aC]
   constructor
   ·intro h9;cases h9
   ·intro h9;exact absurd h9 hn.1
  ·rw[ak e,hp i,List.mem_cons]
   constructor
   ·rintro(h9|h9)
    ·exact absurd h9 e
    ·exact h9
   ·exact .inr
 ·refine hk u (List.mem_cons_of_mem _ hu) c hc k hk1 h2 ?_;rw[htab]at h3;exact rT _ _ _ _ _ _ _ (rT _ _ _ _ _ _ _ h3)
end
section
variable {n room:Nat} {ah:Nat→Nat} {pend:Nat→Bool} {ext:Nat→Int} {S S0:St} {D D0:Nat→BF} {x y:Nat}
/-- What the walk of one round asks. -/
structure vH(n room:Nat)(ah:Nat→Nat)(x y t:Nat)(ext:Nat→Int)(pend:Nat→Bool)(S0:St)(d:Nd)(r1 r2:St×Nat)(c1 c2 c3:(Nat→Nat)×Int)(nd':Nat→Option Nd):Prop where
 s1:SI n room pend ext r1.1
 s2:SI n room pend ext r2.1
 rt:r2.1.nd t=some d
 rf:r2.1.refs t=S0.refs t
 w2:Wf n r2.1.nd (xA ah x y r2.1.nd) (fM ah x y pend r2.1.nd)
 a1:at_ n r2.1.nd (xA ah x y r2.1.nd) (fM ah x y pend r2.1.nd) n r1.2
 a2:at_ n r2.1.nd (xA ah x y r2.1.nd) (fM ah x y pend r2.1.nd) n r2.2
 c1:CI r2.1.N r2.1.nd c1.1 c1.2 (fun i=>ext i+one r1.2 i)
 w3:Wf n nd' (xA ah x y nd') (fM ah x y (set1 pend t false) nd')
 a3:at_ n nd' (xA ah x y nd') (fM ah x y (set1 pend t false) nd') n d.lo
 a4:at_ n nd' (xA ah x y nd') (fM ah x y (set1 pend t false) nd') n d.hi
 c2:CI r2.1.N nd' c2.1 c2.2 (fun i=>ext i+one d.lo i+one d.hi i)
 c3:CI r2.1.N nd' c3.1 c3.2 (fun i=>ext i+one d.lo i+one d.hi i-one d.lo i)
 p1:∀i,0≤ext i+one d.lo i+one d.hi i
 p2:1≤ext (d.lo/2)+one d.lo (d.lo/2)+one d.hi (d.lo/2)
 p3:∀i,0≤ext i+one d.lo i+one d.hi i-one d.lo i
 p4:1≤ext (d.hi/2)+one d.lo (d.hi/2)+one d.hi (d.hi/2)-one d.lo (d.hi/2)
 o1:ok r2.1.nd r1.2
 o2:ok r2.1.nd r2.2
 oo:∀i c,r2.1.nd i=some c→c.v<n∧ok r2.1.nd c.lo∧ok r2.1.nd c.hi
 tn:r2.1.tab y r1.2 r2.2=none
/-- The state ahead of a round: the nodes of l wait. -/
def Pk(n room:Nat)(ah:Nat→Nat)(x y:Nat)(S0:St)(D0:Nat→BF)(ext:Nat→Int)(K:List (Nat×Nat))(m:Nat)(l:List Nat)(S:St):Prop:=
 ∃pend D,(∀i,pend i=true↔i∈l)∧GV n room ah x y S0 D0 ext pend S D∧S.many=m+present S x K∧(∀t'∈l,∀d,S0.nd t'=some d→∀k∈keysOf S0.nd y d,k.1≠k.2→S.tab x k.1 k.2=none→k∈K)
theorem MB{nd:Nat→Option Nd}{lv:Nat→Nat}{good:Nat→Prop}{k e:Nat}(h:at_ n nd lv good k e):ok nd e:=by
 rcases h with h|⟨h,-⟩
 ·exact .inl h
 ·cases hd:nd (e/2)with
  |none=>exact absurd hd h
  |some d=>exact .inr ⟨d,hd⟩
theorem Pk.round(h0:GI n ah S0.nd D0)(hx:x<n)(hy:y<n)(hl:ah y=ah x+1){K:List (Nat×Nat)}(hK:K.Nodup){m:Nat}(hr:m+K.length≤room)(t:Nat)(l:List Nat)(hn:(t::l).Nodup)(h:Pk n room ah x y S0 D0 ext K m (t::l) S) :
 ∃d pend,S0.nd t=some d∧SI n room pend ext S ∧
  ∀r1,r1=S.mk' x (aB S0.nd d.lo y) (aB S0.nd d.hi y)→∀r2,r2=r1.1.mk' x (aI S0.nd d.lo y) (aI S0.nd d.hi y) →
  (S.takes x (aB S0.nd d.lo y) (aB S0.nd d.hi y)→¬S.full room)∧(r1.1.takes x (aI S0.nd d.lo y) (aI S0.nd d.hi y)→¬r1.1.full room) ∧
  Pk n room ah x y S0 D0 ext K m l (St.jg S0.nd n x y S t) ∧
  ∀c1,c1=bD r2.1.nd n r2.1.cnt r2.1.dead r1.2→∀c2,c2=bD r2.1.nd n c1.1 c1.2 r2.2→∀nd',nd'=set1 r2.1.nd t (some ⟨y,r1.2,r2.2⟩)→∀c3,c3=bU nd' n c2.1 c2.2 d.lo→∀c4,c4=bU nd' n c3.1 c3.2 d.hi →
  vH n room ah x y t ext pend S0 d r1 r2 c1 c2 c3 nd' ∧
  St.jg S0.nd n x y S t={r2.1 with nd:=nd',cnt:=c4.1,dead:=c4.2,tab:=fun v lo hi=>if v=y∧lo=r1.2∧hi=r2.2 then some t else r2.1.tab v lo hi}:=by
 obtain⟨pend,D,hp,hS,hm,hk⟩:=h;obtain⟨d,hd,f1,f2,D',hS',q1,q2,q3⟩:=Jd h0 hx hy hl hK hr t l hn hp hS hm hk;have hpt:=(hp t).2 (by simp);obtain⟨D1,D2,s1,H⟩:=ED h0 hx hy hl hS hd hpt f1 f2;refine⟨d,pend,hd,hS.s,fun r1 e1 r2 e2=>?_⟩;subst e1;obtain⟨s2,hdt,W2,a1,a2,W3,a3⟩:=H r2 e2 _ rfl;have f2':=f2;refine⟨f1,f2',⟨set1 pend t false,D',q1,hS',q2,q3⟩,fun c1 g1 c2 g2 nd' g3 c3 g4 c4 g5=>?_⟩
 have eT:St.jg S0.nd n x y S t={r2.1 with nd:=nd',cnt:=c4.1,dead:=c4.2,tab:=fun v lo hi=>if v=y∧lo=(S.mk' x (aB S0.nd d.lo y) (aB S0.nd d.hi y)).2∧hi=r2.2 then some t else r2.1.tab v lo hi}:=by
  have:St.jg S0.nd n x y S t=S.jf n x y S0.nd t d:=by unfold St.jg;rw[hd]
  rw[this];unfold St.jf
  dsimp only
  rw[←e2,←g1,←g2,←g3,←g4,←g5]
 refine⟨?_,eT⟩
 have hdv:d.v=x:=by
  obtain⟨d1,e1',hdt',hv,-⟩:=hS.i.pn t hpt;rw[hd]at e1';obtain rfl:=Option.some.inj e1';exact hv
 have Sk:und S0.nd ah (ah x+1) d.lo:=by rw[←hdv];exact h0.ul _ _ hd
 have TS:und S0.nd ah (ah x+1) d.hi:=by rw[←hdv];exact h0.uh _ _ hd
 have BQ:∀i,r2.1.nd i≠none→i<r2.1.N:=fun i hi=>(s2.s.nz i hi).2;have hc1:CI r2.1.N r2.1.nd c1.1 c1.2 (fun i=>ext i+one (S.mk' x (aB S0.nd d.lo y) (aB S0.nd d.hi y)).2 i):=by rw[g1];exact CI.more W2 BQ n _ _ _ ext a1 s2.s.ci
 have hc2:=CI.more W2 BQ n r2.2 _ _ _ a2 hc1;have mP:¬fM ah x y pend r2.1.nd t:=fun h9=>by have:=h9.1;rw[hpt]at this;cases this
 have TQ:0<c2.1 t:=by
  rw[g2,g1,dR W2 mP n _ _ _ a2,dR W2 mP n _ _ _ a1];exact s2.l t hpt
 rw[←g2]at hc2;have hc3:=hc2.turn BQ (d':=⟨y,(S.mk' x (aB S0.nd d.lo y) (aB S0.nd d.hi y)).2,r2.2⟩) hdt TQ;rw[←g3]at hc3 W3 a3
 have IZ:∀i,nd' i≠none→i<r2.1.N:=fun i hi=>by
  by_cases e:i=t
  ·rw[e];exact BQ t (by rw[hdt];simp)
  ·rw[g3,ak e]at hi;exact BQ i hi
 have hx0:=s2.s.x0;have n1:=one_nonneg d.lo;have n2:=one_nonneg d.hi;have o1:one d.lo (d.lo/2)=1:=by unfold one;rw[if_pos rfl]
 have o2:one d.hi (d.hi/2)=1:=by unfold one;rw[if_pos rfl]
 have Xh:CI r2.1.N nd' c2.1 c2.2 (fun i=>ext i+one d.lo i+one d.hi i):=⟨fun i hi=>by have:=hc3.eq i hi;dsimp only at this;omega,hc3.dd⟩;have p1:∀i,0≤ext i+one d.lo i+one d.hi i:=fun i=>by have:=hx0 i;have:=n1 i;have:=n2 i;omega
 have p2:1≤ext (d.lo/2)+one d.lo (d.lo/2)+one d.hi (d.lo/2):=by have:=hx0 (d.lo/2);have:=n2 (d.lo/2);omega
 have hc4:=CI.less W3 IZ n d.lo _ _ _ (a3 _ Sk) p1 (fun _=>p2) Xh;rw[←g4]at hc4;refine⟨s1.s,s2.s,hdt,s2.r t (by rw[hd];simp),W2,a1,a2,hc1,W3,a3 _ Sk,a3 _ TS,Xh,hc4,p1,p2,fun i=>by have:=hx0 i;have:=n2 i;omega,by have:=hx0 (d.hi/2);omega,MB a1,MB a2,fun i c hc=>⟨s2.i.g.lt i c hc,s2.i.g.WY i c hc⟩,?_⟩
 -- the new key is new
 cases ht:r2.1.tab y (S.mk' x (aB S0.nd d.lo y) (aB S0.nd d.hi y)).2 r2.2 with
 |none=>rfl
 |some j=>
  exfalso
  obtain⟨j1,j2⟩:=(s2.s.tb y _ _ j hy).1 ht;have hjt:j≠t:=fun e=>by rw[e,hpt]at j2;cases j2
  rw[eT]at hS'
  have h1:=(hS'.s.tb y (S.mk' x (aB S0.nd d.lo y) (aB S0.nd d.hi y)).2 r2.2 j hy).2 ⟨by
   show nd' j=_
   rw[g3,ak hjt];exact j1,by rw[ak hjt];exact j2⟩
  have h2:(if y=y∧(S.mk' x (aB S0.nd d.lo y) (aB S0.nd d.hi y)).2=(S.mk' x (aB S0.nd d.lo y) (aB S0.nd d.hi y)).2∧r2.2=r2.2 then some t else r2.1.tab y (S.mk' x (aB S0.nd d.lo y) (aB S0.nd d.hi y)).2 r2.2)=some j:=h1;rw[if_pos ⟨rfl,rfl,rfl⟩]at h2;exact hjt (Option.some.inj h2).symm
/-- The first state: the tables without the waiting nodes. -/
theorem Pk.start(h0:GI n ah S0.nd D0)(hs:SI n room (fun _=>false) ext S0)(hx:x<n)(hy:y<n)(hl:ah y=ah x+1)(hlive:∀i,S0.nd i≠none→0<S0.cnt i):Pk n room ah x y S0 D0 ext (S0.wants x y) S0.many (S0.turned x y) (S0.cuts (tp S0.nd x y)):=by
 have hmem:∀i,tp S0.nd x y i=true↔i∈S0.turned x y:=fun i=>by
  unfold St.turned;rw[List.mem_filter,List.mem_range];exact⟨fun h=>⟨Sm hs h,h⟩,fun h=>h.2⟩
 have hS:GV n room ah x y S0 D0 ext (tp S0.nd x y) (S0.cuts (tp S0.nd x y)) D0:=by
  refine⟨Pj.start h0 hx hy hl,hs.cuts _,fun i hi=>?_,fun i _=>rfl,fun i h1 h2=>absurd h2 h1⟩;refine hlive i (fun h9=>?_);unfold tp at hi;rw[h9]at hi;cases hi
 obtain⟨w1,w2,-,w4⟩:=u_ (S:=S0) (x:=x) (ks:=(S0.turned x y).flatMap fun t=>match S0.nd t with|some d=>keysOf S0.nd y d|none=>[]) (seen:=[]) (by simp) (fun k hk=>by cases hk)
 have Mc:present (S0.cuts (tp S0.nd x y)) x (S0.wants x y)=0:=by
  unfold present;rw[List.length_eq_zero_iff,List.filter_eq_nil_iff];intro k hk;have:=w2 k hk
  show ¬(match S0.tab x k.1 k.2 with|some i=>if tp S0.nd x y i then none else some i|none=>none).isSome=true
  rw[this];simp
 refine⟨tp S0.nd x y,D0,hmem,hS,by show S0.many=S0.many+present (S0.cuts (tp S0.nd x y)) x (S0.wants x y);rw[Mc];rfl,fun t ht d hd k hk hne hnone=>?_⟩;refine w4 k (List.mem_flatMap.2 ⟨t,ht,by rw[hd];exact hk⟩) hne ?_
 cases hf:S0.tab x k.1 k.2 with
 |none=>rfl
 |some i=>
  exfalso
  have hi:=((hs.tb x _ _ i hx).1 hf).1
  have hp:tp S0.nd x y i=true:=by
   cases hpi:tp S0.nd x y i with
   |true=>rfl
   |false=>
    have h9:(match S0.tab x k.1 k.2 with|some i=>if tp S0.nd x y i then none else some i|none=>none)=none:=hnone;rw[hf]at h9;simp only[hpi,Bool.false_eq_true,if_false]at h9;cases h9
  have hT:Ep S0.nd y ⟨x,k.1,k.2⟩=true:=by
   unfold tp at hp;rw[hi]at hp;simp only[beq_self_eq_true,Bool.true_and]at hp;exact hp
  have hlow:∀e,und S0.nd ah (ah x+2) e→aB S0.nd e y=aI S0.nd e y:=fun e he=>by
   unfold aB aI
   rcases he with h1|⟨c,h1,h2⟩
   ·rw[h1,h0.n0]
   ·rw[h1];simp only;rw[if_neg (fun e9=>by rw[e9,hl]at h2;omega),if_neg (fun e9=>by rw[e9,hl]at h2;omega)]
  have hpt:=(hmem t).2 ht
  have hvd:d.v=x:=by
   unfold tp at hpt;rw[hd]at hpt;simp only[Bool.and_eq_true,beq_iff_eq]at hpt;exact hpt.1
  have Bz:und S0.nd ah (ah y) d.lo:=by rw[hl,←hvd];exact h0.ul _ _ hd
  have Et:und S0.nd ah (ah y) d.hi:=by rw[hl,←hvd];exact h0.uh _ _ hd
  obtain⟨uW,xg⟩:=bQ h0 hy Bz;obtain⟨uX,xq⟩:=bQ h0 hy Et;rw[hl]at uW xg uX xq
  have hk2:und S0.nd ah (ah x+2) k.1∧und S0.nd ah (ah x+2) k.2:=by
   unfold keysOf at hk;simp only[List.mem_cons,List.not_mem_nil,or_false]at hk
   rcases hk with rfl|rfl
   ·exact⟨bT uW,bT uX⟩
   ·exact⟨bT xg,bT xq⟩
  unfold Ep at hT;simp only[hlow _ hk2.1,hlow _ hk2.2,bne_self_eq_false,Bool.or_self]at hT;cases hT
theorem Pk.Cj:(S0.wants x y).Nodup:=(u_ (S:=S0) (x:=x) (ks:=(S0.turned x y).flatMap fun t=>match S0.nd t with|some d=>keysOf S0.nd y d|none=>[]) (seen:=[]) (by simp) (fun k hk=>by cases hk)).1
end
section
variable {n room:Nat} {M M1 M2 M3:MS} {k k1 k2 k3:Nat}
theorem qB{nd:Nat→Option Nd}{ah:Nat→Nat}{D:Nat→BF}(h:GI n ah nd D){l:List Nat}{v L:Nat}(ht:Ez n nd ah l (some v))(hl:∀f∈l,und nd ah L f):L≤ah v:=by
 obtain⟨-,⟨f,hf,d,h2,h3⟩,-⟩:=ht
 rcases hl f hf with h4|⟨d',h4,h5⟩
 ·rw[h4,h.n0]at h2;cases h2
 ·rw[h2]at h4;obtain rfl:=Option.some.inj h4;rw[←h3];exact h5
theorem Ck(hi:Inv n room M)(hi1:Inv n room M1)(g:Grow M M1 k){a b c:Nat}(ha:ok M.S.nd a)(hb:ok M.S.nd b)(hc:ok M.S.nd c):jV M1.D a b c=jV M.D a b c:=by
 unfold jV;rw[Grow.De hi hi1 g ha,Grow.De hi hi1 g hb,Grow.De hi hi1 g hc]
/-- Ite's node out of its two halves. -/
theorem MC(hi:Inv n room M)(hi1:Inv n room M1)(g1:Grow M M1 k1)(hi2:Inv n room M2)(g2:Grow M1 M2 k2){f g h v lo hh r:Nat}(hv:v<n)(uf:und M.S.nd M.ah (M.ah v) f)(ug:und M.S.nd M.ah (M.ah v) g)(uh:und M.S.nd M.ah (M.ah v) h)
 (e1:De M1.D lo=jV M.D (aB M.S.nd f v) (aB M.S.nd g v) (aB M.S.nd h v)) (e2:De M2.D hh=jV M1.D (aI M.S.nd f v) (aI M.S.nd g v) (aI M.S.nd h v)) (ol:ok M1.S.nd lo)
 {TW:Nat→Nat} {nd3:Nat→Option Nd} {D3:Nat→BF} (mk:qo n TW M2.S.nd M2.D v lo hh r nd3 D3):De D3 r=jV M.D f g h:=by
 funext s
 rw[mk.fn,Grow.De hi1 hi2 g2 ol,e1,e2,PL hi.gi uf ug uh,Ck hi hi1 g1 (bQ hi.gi hv uf).2.ok (bQ hi.gi hv ug).2.ok (bQ hi.gi hv uh).2.ok]
/-- The entry that Ite stores. -/
theorem MF(hi:Inv n room M)(hi3:Inv n room M3)(g3:Grow M M3 k3){f g h v r:Nat}(ht:Ez n M.S.nd M.ah [f,g,h] (some v))(e:De M3.D r=jV M.D f g h)(ur:und M3.S.nd M3.ah (M3.ah v) r):Good M3 1 f g h r:=by
 have ht0:=ht;obtain⟨hv,-,hu⟩:=ht;have uf:=hu f (by simp);have ug:=hu g (by simp);have uh:=hu h (by simp);refine⟨g3.ok uf.ok,g3.ok ug.ok,g3.ok uh.ok,ur.ok,fun _=>⟨by rw[e,Ck hi hi3 g3 uf.ok ug.ok uh.ok],fun L a b c=>ur.mono ?_⟩,fun e9=>absurd e9 (by decide),fun e9=>absurd e9 (by decide),fun e9=>absurd e9 (by decide)⟩;have hup:∀i d,M.S.nd i=some d→M3.S.nd i=some d:=fun i d hd=>(g3.up i d hd).1;rw[g3.ah]at a b c⊢
 exact qB hi.gi ht0 (fun x hx=>by
  simp only[List.mem_cons,List.not_mem_nil,or_false]at hx
  rcases hx with rfl|rfl|rfl
  ·exact jG hup uf.ok a
  ·exact jG hup ug.ok b
  ·exact jG hup uh.ok c)
/-- Complemented results. -/
theorem zR{D:Nat→BF}{φ:BF}{f g h:Nat}{b:Bool}(e:∀s,φ s=xor b (jV D f g h s)){D':Nat→BF}{r:Nat}(er:De D' r=jV D f g h):De D' (flip r b)=φ:=funext fun s=>by
 rw[eY,er,e]
end
section
variable {n room:Nat}
/-- A new store and a new manager. -/
def S0:St:=⟨fun _=>none,fun _=>0,1,[],fun _=>0,0,0,fun _ _ _=>none⟩
def rZ(n:Nat):MS:=⟨S0,fun v=>(List.range n).getD v 0,List.range n,fun _ _=>true,[(1,0),(0,1)],2,[]⟩
theorem jI{v:Nat}(h:v<n):(List.range n).getD v 0=v:=by
 rw[List.getD_eq_getElem?_getD,List.getElem?_range h];rfl
theorem MG(n room:Nat):Inv n room (rZ n):=by
 have hxz:∀i,hx [(1,0),(0,1)] i=0:=fun i=>by
  unfold hx
  by_cases h:i=0
  ·rw[if_pos h]
  ·rw[if_neg h];have e1:((0:Nat)==i)=false:=by simp;omega
   simp[e1]
 refine⟨⟨rfl,fun _=>rfl,?_,?_,?_,?_,?_,?_,?_,?_,?_⟩,⟨?_,List.nodup_nil,?_,Nat.le_refl _,?_,?_,Nat.zero_le _,⟨?_,?_⟩,?_,?_,?_⟩,⟨List.length_range,?_,?_,?_⟩,?_,?_,(show(([(1,0),(0,1)]:List (Nat×Nat)).map (·.1)).Nodup by decide),by simp[rZ],by simp[rZ],?_⟩
 ·intro i d h;cases h
 ·intro i d h;cases h
 ·intro i d h;cases h
 ·intro i d h;cases h
 ·intro i d h;cases h
 ·intro i d h;cases h
 ·intro i j d h;cases h
 ·intro v hv;show(List.range n).getD v 0<n;rw[jI hv];exact hv
 ·intro v w hv hw h;have h:(List.range n).getD v 0=(List.range n).getD w 0:=h;rw[jI hv,jI hw]at h;exact h
 ·intro i h;exact absurd rfl h
 ·intro i;show i∈[]↔(0<i∧i<1∧_);simp;omega
 ·show 1≤room+1;omega
 ·intro i h;exact absurd rfl h
 ·intro i h;exact absurd rfl h
 ·show(0:Int)=sumTo (aT (fun _=>none) (fun _=>0)) 1;simp[sumTo,aT]
 ·intro v lo hi i hv;show(none=some i↔_∧_)
  constructor
  ·intro h;cases h
  ·rintro⟨h,-⟩;cases h
 ·intro i;exact jC _ _
 ·intro i _;exact hxz i
 ·intro k hk;simp[rZ]at hk⊢;exact hk
 ·intro k hk;have hk2:k<n:=by simpa[rZ]using hk
  show(List.range n).getD ((List.range n)[k]'(by simpa using hk2)) 0=k;rw[List.getElem_range,jI hk2]
 ·intro v hv;show(List.range n)[(List.range n).getD v 0]?=some v;rw[jI hv,List.getElem?_range hv]
 ·intro i h;exact absurd rfl h
 ·intro h e hm;have hm:(h,e)∈[(1,0),(0,1)]:=hm;simp at hm
  rcases hm with⟨-,rfl⟩|⟨-,rfl⟩<;>exact .inl rfl
 ·intro h e hm;have hm:(h,e)∈[(1,0),(0,1)]:=hm;show h<2;simp at hm;omega
end
/-- vset.Of: where a number goes,from place i down. -/
def scan(l:List Nat)(v:Nat):Nat→Nat
 |0=>0
 |i+1=>if v<l.getD i 0 then scan l v i else i+1
def ins(l:List Nat)(v:Nat):List Nat:=
 let i:=scan l v l.length
 if 0<i∧l.getD (i-1) 0=v then l else l.take i++v::l.drop i
def f_(l:List Nat):List Nat:=l.foldl ins []
theorem qC(l:List Nat)(v:Nat):∀k,scan l v k≤k
 |0=>Nat.le_refl _
 |k+1=>by
  unfold scan
  split
  ·exact Nat.le_succ_of_le (qC l v k)
  ·exact Nat.le_refl _
theorem vI(l:List Nat)(v:Nat):∀k i,scan l v k≤i→i<k→v<l.getD i 0
 |0,i,_,h=>by omega
 |k+1,i,h1,h2=>by
  unfold scan at h1
  split at h1
  ·rename_i h
   by_cases e:i=k
   ·rw[e];exact h
   ·exact vI l v k i h1 (by omega)
  ·omega
theorem vJ(l:List Nat)(v:Nat):∀k,0<scan l v k→l.getD (scan l v k-1) 0≤v
 |0,h=>by simp[scan]at h
 |k+1,h=>by
  unfold scan at h⊢
  split
  ·rename_i h1
   rw[if_pos h1]at h;exact vJ l v k h
  ·rename_i h1
   show l.getD k 0≤v;omega
/-- Strictly increasing. -/
def Inc(l:List Nat):Prop:=l.Pairwise (·<·)
theorem Inc.get{l:List Nat}(h:Inc l){i j:Nat}(hij:i<j)(hj:j<l.length):l.getD i 0<l.getD j 0:=by
 have:=List.pairwise_iff_getElem.1 h i j (by omega) hj hij;rw[List.getD_eq_getElem?_getD,List.getD_eq_getElem?_getD,List.getElem?_eq_getElem (by omega),List.getElem?_eq_getElem hj];exact this
theorem Cm{l:List Nat}{a:Nat}:a∈l↔∃i,i<l.length∧l.getD i 0=a:=by
 constructor
 ·intro h;obtain⟨i,hi,e⟩:=List.getElem_of_mem h;exact⟨i,hi,by rw[List.getD_eq_getElem?_getD,List.getElem?_eq_getElem hi];exact e⟩
 ·rintro⟨i,hi,e⟩;rw[List.getD_eq_getElem?_getD,List.getElem?_eq_getElem hi]at e;exact e ▸ List.getElem_mem hi
theorem Qb(l:List Nat)(v:Nat):l.length≤(ins l v).length∧(ins l v).length≤l.length+1:=by
 have h:=qC l v l.length;unfold ins;simp only
 split
 ·omega
 ·simp only[List.length_append,List.length_take,List.length_cons,List.length_drop];omega
theorem Qc(l:List Nat)(v a:Nat):a∈ins l v↔a∈l∨a=v:=by
 have h:=qC l v l.length;unfold ins;simp only
 split
 ·rename_i h1
  constructor
  ·exact .inl
  ·rintro(h2|rfl)
   ·exact h2
   ·exact Cm.2 ⟨_,by omega,h1.2⟩
 ·rw[List.mem_append,List.mem_cons]
  have:a∈l↔a∈l.take (scan l v l.length)∨a∈l.drop (scan l v l.length):=by
   rw[←List.mem_append,List.take_append_drop]
  rw[this]
  constructor
  ·rintro(h1|h1|h1)
   ·exact .inl (.inl h1)
   ·exact .inr h1
   ·exact .inl (.inr h1)
  ·rintro((h1|h1)|h1)
   ·exact .inl h1
   ·exact .inr (.inr h1)
   ·exact .inr (.inl h1)
theorem Qd{l:List Nat}(hl:Inc l)(v:Nat):Inc (ins l v):=by
 have h:=qC l v l.length;unfold ins;simp only
 split
 ·exact hl
 ·rename_i h1
  have hlt:∀a∈l.take (scan l v l.length),a<v:=fun a ha=>by
   obtain⟨i,hi,e⟩:=List.getElem_of_mem ha;rw[List.length_take]at hi;rw[List.getElem_take]at e;have hil:i<l.length:=by omega
   have e2:l.getD i 0=a:=by rw[List.getD_eq_getElem?_getD,List.getElem?_eq_getElem hil];exact e
   have hb:=vJ l v l.length (by omega);have hne:l.getD (scan l v l.length-1) 0≠v:=fun e9=>h1 ⟨by omega,e9⟩
   by_cases e3:i=scan l v l.length-1
   ·rw[←e2,e3];omega
   ·have:=hl.get (i:=i) (j:=scan l v l.length-1) (by omega) (by omega);omega
  have hgt:∀a∈l.drop (scan l v l.length),v<a:=fun a ha=>by
   obtain⟨i,hi,e⟩:=List.getElem_of_mem ha;rw[List.length_drop]at hi;rw[List.getElem_drop]at e;have hil:scan l v l.length+i<l.length:=by omega
   have:=vI l v l.length (scan l v l.length+i) (by omega) hil;rw[List.getD_eq_getElem?_getD,List.getElem?_eq_getElem hil]at this;rw[←e];exact this
  unfold Inc at hl⊢;rw[List.pairwise_append,List.pairwise_cons];refine⟨hl.sublist (List.take_sublist _ _),⟨hgt,hl.sublist (List.drop_sublist _ _)⟩,fun a ha b hb=>?_⟩
  rcases List.mem_cons.1 hb with rfl|hb
  ·exact hlt a ha
  ·exact Nat.lt_trans (hlt a ha) (hgt b hb)
theorem vK{l:List Nat}{j a:Nat}(h:l[j]?=some a):f_ (l.take (j+1))=ins (f_ (l.take j)) a:=by
 unfold f_;rw[List.take_add_one,h,List.foldl_append];rfl
theorem zT(l:List Nat):(f_ l).length≤l.length:=by
 have:∀(l acc:List Nat),(l.foldl ins acc).length≤acc.length+l.length:=fun l=>by
  induction l with
  |nil=>intro acc;simp
  |cons a l ih=>
   intro acc;have:=ih (ins acc a);have:=(Qb acc a).2;simp only[List.foldl_cons,List.length_cons];omega
 have h:=this l [];simp only[List.length_nil,Nat.zero_add]at h;exact h
theorem fP(l:List Nat):Inc (f_ l):=by
 have:∀(l acc:List Nat),Inc acc→Inc (l.foldl ins acc):=fun l=>by
  induction l with
  |nil=>intro acc h;exact h
  |cons a l ih=>intro acc h;exact ih _ (Qd h a)
 exact this l [] List.Pairwise.nil
theorem dV(l:List Nat)(a:Nat):a∈f_ l↔a∈l:=by
 have:∀(l acc:List Nat),a∈l.foldl ins acc↔a∈acc∨a∈l:=fun l=>by
  induction l with
  |nil=>intro acc;simp
  |cons b l ih=>
   intro acc;rw[List.foldl_cons,ih,Qc,List.mem_cons]
   constructor
   ·rintro((h|h)|h)
    ·exact .inl h
    ·exact .inr (.inl h)
    ·exact .inr (.inr h)
   ·rintro(h|h|h)
    ·exact .inl (.inl h)
    ·exact .inl (.inr h)
    ·exact .inr h
 rw[show f_ l=l.foldl ins []from rfl,this];simp
theorem jE{l:List Nat}(h:Inc l):l.Nodup:=h.imp (fun h=>Nat.ne_of_lt h)
/-- Two strictly increasing lists with the same elements are the same. -/
theorem Qe{l m:List Nat}(hl:Inc l)(hm:Inc m)(h:∀a,a∈l↔a∈m):l=m:=by
 induction l generalizing m with
 |nil=>
  cases m with
  |nil=>rfl
  |cons b m=>exact absurd ((h b).2 (List.mem_cons_self ..)) (by simp)
 |cons a l ih=>
  cases m with
  |nil=>exact absurd ((h a).1 (List.mem_cons_self ..)) (by simp)
  |cons b m=>
   have hl1:=List.pairwise_cons.1 hl;have hm1:=List.pairwise_cons.1 hm
   have e:a=b:=by
    rcases List.mem_cons.1 ((h a).1 (List.mem_cons_self ..))with h1|h1
    ·exact h1
    ·rcases List.mem_cons.1 ((h b).2 (List.mem_cons_self ..))with h2|h2
     ·exact h2.symm
     ·have:=hl1.1 b h2;have:=hm1.1 a h1;omega
   subst e
   congr 1
   refine ih hl1.2 hm1.2 (fun c=>?_);have hc:=h c;rw[List.mem_cons,List.mem_cons]at hc
   constructor
   ·intro h1
    rcases hc.1 (.inr h1)with h2|h2
    ·subst h2;exact absurd (hl1.1 c h1) (Nat.lt_irrefl _)
    ·exact h2
   ·intro h1
    rcases hc.2 (.inr h1)with h2|h2
    ·subst h2;exact absurd (hm1.1 c h1) (Nat.lt_irrefl _)
    ·exact h2
end Go.Proofs.YtpijlhlpejlhhaaGreat.Bd
