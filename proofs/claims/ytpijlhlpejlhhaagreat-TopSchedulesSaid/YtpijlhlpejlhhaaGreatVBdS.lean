/- Walks and plain words: BdS BdT BdU BdV BdW BdX BdY BdZ BeA. -/
import Derived.Test.YtpijlhlpejlhhaaGreatVBdM
namespace Go.Proofs.YtpijlhlpejlhhaaGreat.Bd
set_option linter.unusedVariables false
set_option linter.unusedSimpArgs false
set_option linter.unusedSectionVars false
section
variable {n room:Nat} {M M':MS} {φ:Nat→BF} {S:St} {ext ext':Nat→Int} {ah:Nat→Nat} {D:Nat→BF}
theorem CI.congr{N:Nat}{nd:Nat→Option Nd}{cnt:Nat→Nat}{dead:Int}(h:CI N nd cnt dead ext)(he:∀i,nd i≠none→ext i=ext' i):CI N nd cnt dead ext':=⟨fun i hi=>by rw[←he i hi];exact h.eq i hi,h.dd⟩
/-- One more reference from outside: Hold. -/
def St.hold(S:St)(n e:Nat):St:=if S.nd (e/2)=none then S else {S with refs:=set1 S.refs (e/2) (S.refs (e/2)+1),cnt:=(bD S.nd n S.cnt S.dead e).1,dead:=(bD S.nd n S.cnt S.dead e).2}
/-- One reference less: Drop. -/
def St.drop(S:St)(n e:Nat):St:=if S.nd (e/2)=none then S else {S with refs:=set1 S.refs (e/2) (S.refs (e/2)-1),cnt:=(bU S.nd n S.cnt S.dead e).1,dead:=(bU S.nd n S.cnt S.dead e).2}
theorem G9(S:St)(n e:Nat):(S.hold n e).nd=S.nd∧(S.hold n e).many=S.many:=by unfold St.hold;split<;>exact⟨rfl,rfl⟩
theorem G_(S:St)(n e:Nat):(S.drop n e).nd=S.nd∧(S.drop n e).many=S.many:=by unfold St.drop;split<;>exact⟨rfl,rfl⟩
def MS.give(M:MS)(n e:Nat):MS:={M with S:=M.S.hold n e,H:=(M.next,e)::M.H,next:=M.next+1}
theorem He(h:GI n ah S.nd D){e:Nat}(he:ok S.nd e):at_ n S.nd (fun i=>match S.nd i with|some d=>ah d.v|none=>n) (fun _=>True) n e:=by
 rcases he with h1|⟨d,h1⟩
 ·exact .inl h1
 ·exact .inr ⟨by rw[h1];simp,trivial,by omega⟩
theorem Inv.give(h:Inv n room M){e:Nat}(he:ok M.S.nd e):Inv n room (M.give n e):=by
 have hnd:=(G9 M.S n e).1
 have hone:∀i,M.S.nd i≠none→hx ((M.next,e)::M.H) i=hx M.H i+one e i:=fun i hi=>by
  rw[uG,if_pos (fun e9=>hi (by rw[e9];exact h.gi.n0))]
 have hxz:∀i,M.S.nd i=none→hx ((M.next,e)::M.H) i=0:=fun i hi=>by
  rw[uG,h.si.xz i hi]
  split
  ·rename_i h0
   unfold one;rw[if_neg]
   ·rfl
   ·rintro rfl
    rcases he with h1|⟨d,h1⟩
    ·exact h0 h1
    ·rw[h1]at hi;cases hi
  ·rfl
 refine⟨by show GI n M.ah (M.S.hold n e).nd M.D;rw[hnd];exact h.gi,?_,h.od,fun i hi=>?_,fun a f ha=>?_,?_,List.mem_cons_of_mem _ h.h0,List.mem_cons_of_mem _ h.h1,fun a f ha=>?_⟩
 ·show SI n room (fun _=>false) (hx ((M.next,e)::M.H)) (M.S.hold n e);unfold St.hold
  by_cases hn:M.S.nd (e/2)=none
  ·rw[if_pos hn];refine⟨h.si.nz,h.si.fn,h.si.fr,h.si.N1,h.si.Nr,h.si.cn,h.si.cN,h.si.ci.congr (fun i hi=>?_),h.si.tb,fun i=>jC _ _,hxz⟩;rw[hone i hi];unfold one;rw[if_neg]
   ·omega
   ·rintro rfl;exact hi hn
  ·rw[if_neg hn];refine⟨h.si.nz,h.si.fn,h.si.fr,h.si.N1,h.si.Nr,h.si.cn,h.si.cN,?_,h.si.tb,fun i=>jC _ _,hxz⟩;exact(CI.more h.gi.wf (fun i hi=>(h.si.nz i hi).2) n e M.S.cnt M.S.dead (hx M.H) (He h.gi he) h.si.ci).congr (fun i hi=>(hone i hi).symm)
 ·have hi':M.S.nd i≠none:=by rw[←hnd];exact hi
  show((M.S.hold n e).refs i:Int)=hx ((M.next,e)::M.H) i;rw[hone i hi',←h.rf i hi'];unfold St.hold
  by_cases hn:M.S.nd (e/2)=none
  ·rw[if_pos hn];unfold one;rw[if_neg]
   ·omega
   ·rintro rfl;exact hi' hn
  ·rw[if_neg hn];show((set1 M.S.refs (e/2) (M.S.refs (e/2)+1) i:Nat):Int)=_;unfold one set1
   by_cases e9:i=e/2
   ·rw[if_pos e9,if_pos e9.symm,e9];omega
   ·rw[if_neg e9,if_neg (fun h9=>e9 h9.symm)];omega
 ·show ok (M.S.hold n e).nd f;rw[hnd]
  rcases List.mem_cons.1 ha with h9|h9
  ·injection h9 with _ h8;rw[h8];exact he
  ·exact h.ho a f h9
 ·show((M.next::M.H.map (·.1)):List Nat).Nodup;refine List.nodup_cons.2 ⟨fun h9=>?_,h.hd⟩;obtain⟨p,hp,e9⟩:=List.mem_map.1 h9;have:=h.hn p.1 p.2 hp;omega
 ·show a<M.next+1
  rcases List.mem_cons.1 ha with h9|h9
  ·injection h9 with h8 _;omega
  ·have:=h.hn a f h9;omega
/-- A handle is let go. -/
def MS.let(M:MS)(n h e:Nat):MS:={M with S:=M.S.drop n e,H:=M.H.filter (fun p=>p.1 != h)}
theorem rW{h e:Nat}:∀{H:List (Nat×Nat)},(H.map (·.1)).Nodup→(h,e)∈H→∀i,i≠0→hx H i=hx (H.filter (fun p=>p.1 != h)) i+one e i
 |[],_,hm,_,_=>by cases hm
 |(a,f)::H,hn,hm,i,hi=>by
    simp only[List.map_cons,List.nodup_cons]at hn;rw[uG,if_pos hi]
    by_cases e9:a=h
    ·subst e9
     have hf:f=e:=by
      rcases List.mem_cons.1 hm with h9|h9
      ·injection h9 with _ h8;exact h8.symm
      ·exact absurd (List.mem_map.2 ⟨_,h9,rfl⟩) hn.1
     have h0:H.filter (fun p=>p.1 != a)=H:=List.filter_eq_self.2 (fun p hp=>by
      simp only[bne_iff_ne,ne_eq];intro h9
      exact hn.1 (List.mem_map.2 ⟨p,hp,h9⟩))
     rw[List.filter_cons_of_neg (by simp),h0,hf]
    ·have hm':(h,e)∈H:=by
      rcases List.mem_cons.1 hm with h9|h9
      ·injection h9 with h8 _;exact absurd h8.symm e9
      ·exact h9
     rw[List.filter_cons_of_pos (by simpa using e9),uG,if_pos hi,rW hn.2 hm' i hi];omega
theorem Inv.let(h:Inv n room M){a e:Nat}(hm:(a,e)∈M.H)(ha:1<a):Inv n room (M.let n a e):=by
 have hnd:=(G_ M.S n e).1
 have hone:∀i,M.S.nd i≠none→hx (M.H.filter (fun p=>p.1 != a)) i=hx M.H i-one e i:=fun i hi=>by
  have:=rW h.hd hm i (fun e9=>hi (by rw[e9];exact h.gi.n0));omega
 have hxz:∀i,M.S.nd i=none→hx (M.H.filter (fun p=>p.1 != a)) i=0:=fun i hi=>by
  have h0:=h.si.xz i hi
  by_cases e9:i=0
  ·unfold hx;rw[if_pos e9]
  ·have:=rW h.hd hm i e9;have h1:=jC (M.H.filter (fun p=>p.1 != a)) i;have h2:=one_nonneg e i;omega
 have he:=h.ho a e hm;refine⟨by show GI n M.ah (M.S.drop n e).nd M.D;rw[hnd];exact h.gi,?_,h.od,fun i hi=>?_,fun b f hb=>?_,?_,List.mem_filter.2 ⟨h.h0,by simp;omega⟩,List.mem_filter.2 ⟨h.h1,by simp;omega⟩,fun b f hb=>?_⟩
 ·show SI n room (fun _=>false) (hx (M.H.filter (fun p=>p.1 != a))) (M.S.drop n e);unfold St.drop
  by_cases hn:M.S.nd (e/2)=none
  ·rw[if_pos hn];refine⟨h.si.nz,h.si.fn,h.si.fr,h.si.N1,h.si.Nr,h.si.cn,h.si.cN,h.si.ci.congr (fun i hi=>?_),h.si.tb,fun i=>jC _ _,hxz⟩;rw[hone i hi];unfold one;rw[if_neg]
   ·omega
   ·rintro rfl;exact hi hn
  ·rw[if_neg hn];refine⟨h.si.nz,h.si.fn,h.si.fr,h.si.N1,h.si.Nr,h.si.cn,h.si.cN,?_,h.si.tb,fun i=>jC _ _,hxz⟩;exact(CI.less h.gi.wf (fun i hi=>(h.si.nz i hi).2) n e M.S.cnt M.S.dead (hx M.H) (He h.gi he) h.si.x0 (fun h9=>by have:=rV hm (fun h0=>h9 (by rw[h0];exact h.gi.n0));omega) h.si.ci).congr (fun i hi=>(hone i hi).symm)
 ·have hi':M.S.nd i≠none:=by rw[←hnd];exact hi
  show((M.S.drop n e).refs i:Int)=hx (M.H.filter (fun p=>p.1 != a)) i;rw[hone i hi',←h.rf i hi'];unfold St.drop
  by_cases hn:M.S.nd (e/2)=none
  ·rw[if_pos hn];unfold one;rw[if_neg]
   ·omega
   ·rintro rfl;exact hi' hn
  ·rw[if_neg hn];show((set1 M.S.refs (e/2) (M.S.refs (e/2)-1) i:Nat):Int)=_;unfold one set1
   by_cases e9:i=e/2
   ·have h1:=rV hm (fun h0=>hn (by rw[h0];exact h.gi.n0));have h2:=h.rf (e/2) hn;rw[if_pos e9,if_pos e9.symm,e9];omega
   ·rw[if_neg e9,if_neg (fun h9=>e9 h9.symm)];omega
 ·show ok (M.S.drop n e).nd f;rw[hnd];exact h.ho b f (List.mem_filter.1 hb).1
 ·exact(List.Sublist.map _ List.filter_sublist).nodup h.hd
 ·exact h.hn b f (List.mem_filter.1 hb).1
end
section
variable {n room:Nat} {M M' M'':MS} {φ:Nat→BF} {S:St} {ext ext':Nat→Int} {ah:Nat→Nat} {D:Nat→BF}
/-- What events leave: the handles and their functions. -/
structure Still(M M':MS):Prop where
 H:M'.H=M.H
 next:M'.next=M.next
 waits:M'.waits=M.waits
 fn:∀h e,(h,e)∈M.H→De M'.D e=De M.D e
theorem Still.refl:Still M M:=⟨rfl,rfl,rfl,fun _ _ _=>rfl⟩
theorem Still.trans(h:Still M M')(h':Still M' M''):Still M M'':=⟨h'.H.trans h.H,h'.next.trans h.next,h'.waits.trans h.waits,fun a e ha=>(h'.fn a e (h.H ▸ ha)).trans (h.fn a e ha)⟩
theorem Grow.still{k:Nat}(hi:Inv n room M)(hi':Inv n room M')(h:Grow M M' k):Still M M':=⟨h.H,h.next,h.waits,fun a e ha=>Grow.De hi hi' h (hi.ho a e ha)⟩
/-- Collect. -/
def MS.Lp(M:MS):MS:={M with S:=M.S.gc}
theorem Inv.Lp(h:Inv n room M):Inv n room M.Lp:=by
 refine⟨BZ h.gi h.si,BU h.si,h.od,G7 h.rf,fun a e ha=>?_,h.hd,h.h0,h.h1,h.hn⟩
 by_cases h0:e/2=0
 ·exact .inl h0
 ·rcases h.ho a e ha with h9|⟨d,h9⟩
  ·exact .inl h9
  ·exact .inr ⟨d,GY h.si (rV ha h0) h9⟩
theorem xZ:Still M M.Lp:=⟨rfl,rfl,rfl,fun _ _ _=>rfl⟩
/-- The levels behind an exchange. -/
def swo(ord:List Nat)(k x y:Nat):List Nat:=(ord.set k y).set (k+1) x
theorem B_.swap{ord:List Nat}(h:B_ n ord ah){k x y:Nat}(hx:ord[k]?=some x)(hy:ord[k+1]?=some y):B_ n (swo ord k x y) (gJ ah x y):=by
 obtain⟨hk1,ey⟩:=List.getElem?_eq_some_iff.1 hy;obtain⟨hk0,ex⟩:=List.getElem?_eq_some_iff.1 hx;have lx:ah x=k:=by rw[←ex];exact h.at' k hk0
 have ly:ah y=k+1:=by rw[←ey];exact h.at' (k+1) hk1
 have hxy:x≠y:=fun e=>by rw[e,ly]at lx;omega
 have hlen:=h.len;unfold swo;refine⟨by simp[hlen],fun i hi=>?_,fun i hi=>?_,fun v hv=>?_⟩
 ·simp only[List.length_set]at hi;rw[List.getElem_set,List.getElem_set]
  split
  ·rw[←ex];exact h.lt _ _
  ·split
   ·rw[←ey];exact h.lt _ _
   ·exact h.lt _ _
 ·simp only[List.length_set]at hi;rw[List.getElem_set,List.getElem_set];unfold gJ
  by_cases h1:k+1=i
  ·rw[if_pos h1,if_pos rfl,ly,h1]
  ·rw[if_neg h1]
   by_cases h2:k=i
   ·rw[if_pos h2,if_neg (fun e=>hxy e.symm),if_pos rfl,lx,h2]
   ·rw[if_neg h2];have hl:=h.at' i hi;rw[if_neg (fun e=>h2 (by rw[←lx,←e,hl])),if_neg (fun e=>h1 (by rw[←ly,←e,hl])),hl]
 ·unfold gJ
  by_cases h1:v=x
  ·rw[if_pos h1,ly,h1,List.getElem?_set_self (by simp;omega)]
  ·rw[if_neg h1]
   by_cases h2:v=y
   ·rw[if_pos h2,lx,h2,List.getElem?_set_ne (by omega),List.getElem?_set_self (by omega)]
   ·rw[if_neg h2];have hl:=h.of v hv;have e1:k+1≠ah v:=fun e=>by rw[←e,hy]at hl;exact h2 (Option.some.inj hl).symm
    have e2:k≠ah v:=fun e=>by rw[←e,hx]at hl;exact h1 (Option.some.inj hl).symm
    rw[List.getElem?_set_ne e1,List.getElem?_set_ne e2];exact hl
/-- Swap of a level with the next. -/
def MS.Hf(M:MS)(n room k x y:Nat)(D':Nat→BF):MS:={M with S:=M.S.swap n room x y,ah:=if M.S.fits room x y then gJ M.ah x y else M.ah,ord:=if M.S.fits room x y then swo M.ord k x y else M.ord,D:=D'}
theorem Inv.swap(h:Inv n room M){k x y:Nat}(hx':M.ord[k]?=some x)(hy':M.ord[k+1]?=some y):∃D',Inv n room (M.Hf n room k x y D')∧Still M (M.Hf n room k x y D'):=by
 obtain⟨hk1,ey⟩:=List.getElem?_eq_some_iff.1 hy';obtain⟨hk0,ex⟩:=List.getElem?_eq_some_iff.1 hx';have lx:M.ah x=k:=by rw[←ex];exact h.od.at' k hk0
 have ly:M.ah y=k+1:=by rw[←ey];exact h.od.at' (k+1) hk1
 have xn:x<n:=by rw[←ex];exact h.od.lt _ _
 have yn:y<n:=by rw[←ey];exact h.od.lt _ _
 obtain⟨D',g,s,kp,rf⟩:=PX h.rf h.gi h.si xn yn (by omega);refine⟨D',⟨?_,s,?_,rf,fun a e ha=>?_,h.hd,h.h0,h.h1,h.hn⟩,⟨rfl,rfl,rfl,fun a e ha=>?_⟩⟩
 ·exact g
 ·show B_ n (if M.S.fits room x y then swo M.ord k x y else M.ord) (if M.S.fits room x y then gJ M.ah x y else M.ah)
  split
  ·exact h.od.swap hx' hy'
  ·exact h.od
 ·by_cases h0:e/2=0
  ·exact .inl h0
  ·rcases h.ho a e ha with h9|⟨d,h9⟩
   ·exact .inl h9
   ·have:=kp.nd _ (rV ha h0) (by rw[h9];simp)
    cases hd:(M.S.swap n room x y).nd (e/2)with
    |none=>exact absurd hd this
    |some d'=>exact .inr ⟨d',hd⟩
 ·funext b
  by_cases h0:e/2=0
  ·show De D' e b=De M.D e b;rw[bI g h0,bI h.gi h0]
  ·rcases h.ho a e ha with h9|⟨d,h9⟩
   ·exact absurd h9 h0
   ·show De D' e b=De M.D e b;unfold De;rw[kp.fn _ (rV ha h0) (by rw[h9];simp)]
/-- A manager without dead nodes has few. -/
theorem Inv.few(h:Inv n room M):M.Lp.S.many≤M.H.length*(2^n-1):=by
 have hg:=h.Lp
 have:=I4 hg.gi hg.si (uF h.si) (l:=M.H.map (·.2)) (fun i hi=>by
  obtain⟨p,hp,e⟩:=TT hi
  exact⟨p.2,List.mem_map.2 ⟨p,hp,rfl⟩,e⟩)
 rw[List.length_map]at this;exact this
end
section
variable {n room:Nat} {M M' M'':MS} {φ:Nat→BF}
/-- An operation was interrupted by an event. -/
structure I6(M M':MS)(ev:Ev):Prop where
 H:M'.H=M.H
 next:M'.next=M.next
 waits:M.waits=ev::M'.waits
 fn:∀h e,(h,e)∈M.H→De M'.D e=De M.D e
/-- An operation found no room. -/
structure lQ(room k:Nat)(M M':MS):Prop where
 still:Still M M'
 r:room<M.S.many+k
theorem I6.pre{k:Nat}{ev:Ev}(hi:Inv n room M)(hi':Inv n room M')(h:Grow M M' k)(h':I6 M' M'' ev):I6 M M'' ev:=
 ⟨h'.H.trans h.H,h'.next.trans h.next,by rw[←h.waits];exact h'.waits,fun a e ha=>(h'.fn a e (by rw[h.H];exact ha)).trans (Grow.De hi hi' h (hi.ho a e ha))⟩
theorem lQ.pre{k l m:Nat}(hi:Inv n room M)(hi':Inv n room M')(h:Grow M M' k)(h':lQ room l M' M'')(hm:k+l≤m):lQ room m M M'':=
 ⟨(Grow.still hi hi' h).trans h'.still,by have:=h'.r;have:=h.many;omega⟩
theorem lQ.mono{k l:Nat}(h:lQ room k M M')(hl:k≤l):lQ room l M M':=⟨h.still,by have:=h.r;omega⟩
theorem I7(h:Inv n room M)(hf:M.S.full room):lQ room 1 M M:=⟨Still.refl,by
 unfold St.full at hf;unfold St.many;rw[hf.1]
 simp only[List.length_nil];omega⟩
/-- An edge of a store that grew stood before at the same level. -/
theorem jG{nd nd':Nat→Option Nd}{ah:Nat→Nat}(hup:∀i d,nd i=some d→nd' i=some d){e L:Nat}(he:ok nd e)(h:und nd' ah L e):und nd ah L e:=by
 rcases he with h1|⟨d,h1⟩
 ·exact .inl h1
 ·rcases h with h2|⟨d',h2,h3⟩
  ·exact .inl h2
  ·rw[hup _ _ h1]at h2;obtain rfl:=Option.some.inj h2;exact .inr ⟨d,h1,h3⟩
theorem TU{nd nd':Nat→Option Nd}(hup:∀i d,nd i=some d→nd' i=some d){e v:Nat}(h0:nd' 0=none)(he:ok nd e):aB nd' e v=aB nd e v∧aI nd' e v=aI nd e v:=by
 unfold aB aI
 rcases he with h1|⟨d,h1⟩
 ·rw[h1,h0]
  cases hd:nd 0 with
  |none=>exact⟨rfl,rfl⟩
  |some d=>rw[hup _ _ hd]at h0;cases h0
 ·rw[h1,hup _ _ h1];exact⟨rfl,rfl⟩
theorem dP.down{n:Nat}{ah:Nat→Nat}{D:Nat→BF}{nd nd':Nat→Option Nd}(hg:GI n ah nd D)(hup:∀i d,nd i=some d→nd' i=some d)(h0:nd' 0=none){c:Nat}{l:List Nat}(h:dP nd' c l):ok nd c→dP nd c l:=by
 induction h with
 |nil=>exact fun _=>.nil
 |cons h1 h2 _ ih=>
  intro hc
  rcases hc with h9|⟨d,h9⟩
  ·rw[h9,h0]at h2;cases h2
  ·rw[hup _ _ h9]at h2;obtain rfl:=Option.some.inj h2;exact .cons h1 h9 (ih (hg.uh _ _ h9).ok)
/-- The function of f with some variables fixed. -/
def Xc:List (Nat×Bool)→BF→BF
 |[],φ=>φ
 |(v,b)::l,φ=>Xc l (fun a=>φ (upd a v b))
/-- A conjunction of literals,top first. -/
inductive Cb(nd:Nat→Option Nd):Nat→List (Nat×Bool)→Prop
 |nil:Cb nd 0 []
 |cons {c v:Nat} {b:Bool} {d:Nd} {l:List (Nat×Bool)}:nd (c/2)=some d→d.v=v→(aB nd c v=1∨aI nd c v=1)→(b=(aB nd c v==1))→Cb nd (if b then aI nd c v else aB nd c v) l→Cb nd c ((v,b)::l)
/-- What an entry of the computed table means. -/
structure Good(M:MS)(op a b c r:Nat):Prop where
 oa:ok M.S.nd a
 ob:ok M.S.nd b
 oc:ok M.S.nd c
 or:ok M.S.nd r
 ite:op=1→De M.D r=jV M.D a b c∧∀L,und M.S.nd M.ah L a→und M.S.nd M.ah L b→und M.S.nd M.ah L c→und M.S.nd M.ah L r
 ex:op=1500→∀l,dP M.S.nd b l→De M.D r=eP l (De M.D a)∧∀L,und M.S.nd M.ah L a→und M.S.nd M.ah L r
 and:op=1501→∀l,dP M.S.nd c l→De M.D r=eP l (fun s=>De M.D a s&&De M.D b s)∧∀L,und M.S.nd M.ah L a→und M.S.nd M.ah L b→und M.S.nd M.ah L r
 cof:op=1700→∀l,Cb M.S.nd b l→De M.D r=Xc l (De M.D a)∧∀L,und M.S.nd M.ah L a→und M.S.nd M.ah L r
theorem Cb.down{n:Nat}{ah:Nat→Nat}{D:Nat→BF}{nd nd':Nat→Option Nd}(hg:GI n ah nd D)(hup:∀i d,nd i=some d→nd' i=some d)(h0:nd' 0=none){c:Nat}{l:List (Nat×Bool)}(h:Cb nd' c l):ok nd c→Cb nd c l:=by
 induction h with
 |nil=>exact fun _=>.nil
 |@cons c v b d l h1 h2 h3 h4 h5 ih=>
  intro hc;obtain⟨e1,e2⟩:=TU hup (v:=v) h0 hc
  have hcc:∀e,ok nd e→e=c→ok nd (aB nd c v)∧ok nd (aI nd c v):=fun e he e9=>by
   subst e9;unfold aB aI
   rcases he with h8|⟨d',h8⟩
   ·rw[h8,h0]at h1;cases h1
   ·rw[h8];simp only
    split
    ·exact⟨uy (hg.ul _ _ h8).ok,uy (hg.uh _ _ h8).ok⟩
    ·exact⟨.inr ⟨d',h8⟩,.inr ⟨d',h8⟩⟩
  obtain⟨o1,o2⟩:=hcc c hc rfl
  have h1':nd (c/2)=some d:=by
   rcases hc with h8|⟨d',h8⟩
   ·rw[h8,h0]at h1;cases h1
   ·rw[hup _ _ h8]at h1;rw[h8,h1]
  rw[e1,e2]at h3;rw[e1]at h4;rw[e1,e2]at ih;exact .cons h1' h2 h3 h4 (ih (by split<;>assumption))
theorem Good.grow{k op a b c r:Nat}(hi:Inv n room M)(hi':Inv n room M')(g:Good M op a b c r)(h:Grow M M' k):Good M' op a b c r:=by
 have hup:∀i d,M.S.nd i=some d→M'.S.nd i=some d:=fun i d hd=>(h.up i d hd).1
 have dn:∀{e L},ok M.S.nd e→und M'.S.nd M'.ah L e→und M.S.nd M.ah L e:=fun{e L} he hu=>by
  rw[h.ah]at hu;exact jG hup he hu
 refine⟨h.ok g.oa,h.ok g.ob,h.ok g.oc,h.ok g.or,fun e=>?_,fun e l hl=>?_,fun e l hl=>?_,fun e l hl=>?_⟩
 ·obtain⟨g1,g2⟩:=g.ite e;refine⟨?_,fun L ha hb hc=>h.und (g2 L (dn g.oa ha) (dn g.ob hb) (dn g.oc hc))⟩;unfold jV;rw[Grow.De hi hi' h g.or,Grow.De hi hi' h g.oa,Grow.De hi hi' h g.ob,Grow.De hi hi' h g.oc];exact g1
 ·obtain⟨g1,g2⟩:=g.ex e l (dP.down hi.gi hup hi'.gi.n0 hl g.ob);refine⟨?_,fun L ha=>h.und (g2 L (dn g.oa ha))⟩;rw[Grow.De hi hi' h g.or,Grow.De hi hi' h g.oa];exact g1
 ·obtain⟨g1,g2⟩:=g.and e l (dP.down hi.gi hup hi'.gi.n0 hl g.oc);refine⟨?_,fun L ha hb=>h.und (g2 L (dn g.oa ha) (dn g.ob hb))⟩;rw[Grow.De hi hi' h g.or,Grow.De hi hi' h g.oa,Grow.De hi hi' h g.ob];exact g1
 ·obtain⟨g1,g2⟩:=g.cof e l (Cb.down hi.gi hup hi'.gi.n0 hl g.ob);refine⟨?_,fun L ha=>h.und (g2 L (dn g.oa ha))⟩;rw[Grow.De hi hi' h g.or,Grow.De hi hi' h g.oa];exact g1
end
section
variable {n room:Nat} {ah:Nat→Nat} {nd nd':Nat→Option Nd} {D D':Nat→BF}
/-- x.Top. -/
def fI(nd:Nat→Option Nd)(ah:Nat→Nat)(t:Option Nat)(f:Nat):Option Nat:=match nd (f/2)with
 |none=>t
 |some d=>match t with
  |none=>some d.v
  |some v=>if ah d.v<ah v then some d.v else some v
def mI(nd:Nat→Option Nd)(ah:Nat→Nat)(l:List Nat):Option Nat:=l.foldl (fI nd ah) none
def Ez(n:Nat)(nd:Nat→Option Nd)(ah:Nat→Nat)(l:List Nat):Option Nat→Prop
 |none=>∀f∈l,f/2=0
 |some v=>v<n∧(∃f∈l,∃d,nd (f/2)=some d∧d.v=v)∧∀f∈l,und nd ah (ah v) f
theorem I8(h:GI n ah nd D){l:List Nat}{t:Option Nat}{f:Nat}(hf:ok nd f)(ht:Ez n nd ah l t):Ez n nd ah (l++[f]) (fI nd ah t f):=by
 unfold fI
 cases hd:nd (f/2)with
 |none=>
  have h0:f/2=0:=by
   rcases hf with h9|⟨d,h9⟩
   ·exact h9
   ·rw[hd]at h9;cases h9
  cases t with
  |none=>
   intro g hg
   rcases List.mem_append.1 hg with h9|h9
   ·exact ht g h9
   ·rw[List.mem_singleton.1 h9];exact h0
  |some v=>
   obtain⟨h1,⟨g,hg,d,h2,h3⟩,h4⟩:=ht;refine⟨h1,⟨g,List.mem_append_left _ hg,d,h2,h3⟩,fun k hk=>?_⟩
   rcases List.mem_append.1 hk with h9|h9
   ·exact h4 k h9
   ·rw[List.mem_singleton.1 h9];exact .inl h0
 |some d=>
  have hfm:f∈l++[f]:=by simp
  cases t with
  |none=>
   refine⟨h.lt _ _ hd,⟨f,hfm,d,hd,rfl⟩,fun k hk=>?_⟩
   rcases List.mem_append.1 hk with h9|h9
   ·exact .inl (ht k h9)
   ·rw[List.mem_singleton.1 h9];exact .inr ⟨d,hd,Nat.le_refl _⟩
  |some v=>
   obtain⟨h1,⟨g,hg,d',h2,h3⟩,h4⟩:=ht;simp only
   split
   ·rename_i hlt
    refine⟨h.lt _ _ hd,⟨f,hfm,d,hd,rfl⟩,fun k hk=>?_⟩
    rcases List.mem_append.1 hk with h9|h9
    ·exact(h4 k h9).mono (by omega)
    ·rw[List.mem_singleton.1 h9];exact .inr ⟨d,hd,Nat.le_refl _⟩
   ·rename_i hlt
    refine⟨h1,⟨g,List.mem_append_left _ hg,d',h2,h3⟩,fun k hk=>?_⟩
    rcases List.mem_append.1 hk with h9|h9
    ·exact h4 k h9
    ·rw[List.mem_singleton.1 h9];exact .inr ⟨d,hd,by omega⟩
theorem vw(h:GI n ah nd D){l:List Nat}(hl:∀f∈l,ok nd f):Ez n nd ah l (mI nd ah l):=by
 have:∀(m p:List Nat)(t:Option Nat),(∀f∈m,ok nd f)→Ez n nd ah p t→Ez n nd ah (p++m) (m.foldl (fI nd ah) t):=by
  intro m
  induction m with
  |nil=>intro p t _ ht;simpa using ht
  |cons f m ih=>
   intro p t hm ht;have:=ih (p++[f]) (fI nd ah t f) (fun g hg=>hm g (List.mem_cons_of_mem _ hg)) (I8 h (hm f List.mem_cons_self) ht)
   simpa using this
 have:=this l [] none hl (fun f hf=>by cases hf);rw[List.nil_append]at this;exact this
/-- One edge's own variable. -/
theorem I9{f:Nat}:mI nd ah [f]=(nd (f/2)).map (·.v):=by
 unfold mI fI;simp only[List.foldl_cons,List.foldl_nil];cases nd (f/2)<;>rfl
/-- Mk's node where the high edge is even. -/
theorem P5{S:St}{ext:Nat→Int}(hs:SI n room (fun _=>false) ext S){v lo hi:Nat}(hv:v<n)(hne:lo≠hi)(he:hi%2=0):(S.mk' v lo hi).2%2=0∧(S.mk' v lo hi).1.nd ((S.mk' v lo hi).2/2)=some ⟨v,lo,hi⟩:=by
 have ho:odd hi=false:=by unfold odd;rw[he];rfl
 have hfl:∀e,flip e false=e:=fun e=>by unfold flip;rfl
 unfold St.mk';rw[if_neg hne,ho,hfl,hfl]
 cases ht:S.tab v lo hi with
 |some i=>
  refine⟨?_,?_⟩
  ·show edge i false%2=0;unfold edge;rw[hfl];omega
  ·show S.nd (edge i false/2)=_;rw[iw];exact((hs.tb v _ _ i hv).1 ht).1
 |none=>
  refine⟨?_,?_⟩
  ·show edge S.slot false%2=0;unfold edge;rw[hfl];omega
  ·show set1 S.nd S.slot _ (edge S.slot false/2)=_;rw[iw,aC]
/-- The variables of a cube lie at its level and below. -/
theorem dP.aah(h:GI n ah nd D){c:Nat}{l:List Nat}(hc:dP nd c l):∀{L:Nat},und nd ah L c→∀v∈l,L≤ah v∧v<n:=by
 induction hc with
 |nil=>intro L _ v hv;cases hv
 |@cons c v hi l h1 h2 h3 ih=>
  intro L hu w hw
  have hL:L≤ah v:=by
   rcases hu with h9|⟨d,h9,h8⟩
   ·rw[h9,h.n0]at h2;cases h2
   ·rw[h2]at h9;obtain rfl:=Option.some.inj h9;exact h8
  rcases List.mem_cons.1 hw with rfl|hw
  ·exact⟨hL,h.lt _ _ h2⟩
  ·have:=ih (L:=ah v+1) (h.uh _ _ h2) w hw;exact⟨by omega,this.2⟩
theorem dP.const(h:GI n ah nd D){c:Nat}{l:List Nat}(hc:dP nd c l)(h0:c/2=0):l=[]∧c=0:=by
 cases hc with
 |nil=>exact⟨rfl,rfl⟩
 |cons h1 h2 h3=>rw[h0,h.n0]at h2;cases h2
theorem dP.top{c:Nat}{l:List Nat}(hc:dP nd c l)(h0:c/2≠0):∃v hi l',l=v::l'∧nd (c/2)=some ⟨v,1,hi⟩∧dP nd hi l'∧aI nd c v=hi∧aB nd c v=1:=by
 cases hc with
 |nil=>exact absurd rfl h0
 |@cons c v hi l h1 h2 h3=>
  refine⟨v,hi,l,rfl,h2,h3,?_,?_⟩
  ·unfold aI;rw[h2];simp only[if_true];have:odd c=false:=by unfold odd;rw[h1];rfl
   rw[this];rfl
  ·unfold aB;rw[h2];simp only[if_true];have:odd c=false:=by unfold odd;rw[h1];rfl
   rw[this];rfl
end
section
variable {n room:Nat} {ah:Nat→Nat} {nd nd':Nat→Option Nd} {D D':Nat→BF}
/-- A constant. -/
theorem Mf(h:GI n ah nd D){f:Nat}(hf:f/2=0)(l:List Nat):eP l (De D f)=De D f:=funext fun a=>TN (fun a b _=>by rw[bI h hf,bI h hf]) a
/-- A variable above the function. -/
theorem Cc(h:GI n ah nd D){v L:Nat}(hl:ah v<L){φ:BF}(hi:∀a b:Nat→Bool,(∀w,w<n→L≤ah w→a w=b w)→φ a=φ b)(l:List Nat):eP (v::l) φ=eP l φ:=by
 funext a
 show eP l (IX v φ) a=_
 apply GR
 intro s;have h1:∀b,φ (upd s v b)=φ s:=fun b=>hi _ _ (fun w _ hlw=>upd_ne (fun e9=>by rw[e9]at hlw;omega));unfold IX;rw[h1,h1,Bool.or_self]
theorem hang(h:GI n ah nd D){e L:Nat}(hu:und nd ah L e):∀a b:Nat→Bool,(∀w,w<n→L≤ah w→a w=b w)→De D e a=De D e b:=fun a b hab=>indep h n L e (by omega) hu a b hab
theorem Mg(h:GI n ah nd D){e f L:Nat}(hu:und nd ah L e)(hv:und nd ah L f):∀a b:Nat→Bool,(∀w,w<n→L≤ah w→a w=b w)→(De D e a&&De D f a)=(De D e b&&De D f b):=fun a b hab=>by rw[hang h hu a b hab,hang h hv a b hab]
/-- A variable that stays. -/
theorem P6{v:Nat}{l:List Nat}(hv:v∉l){φ ψ χ:BF}(h:∀a,φ a=if a v then ψ a else χ a):eP l φ=fun a=>if a v then eP l ψ a else eP l χ a:=funext fun a=>IY hv h a
/-- A variable that goes. -/
theorem Xd(h:GI n ah nd D){v:Nat}(hn:v<n){l:List Nat}{φ ψ χ:BF}(he:∀a,φ a=if a v then ψ a else χ a)(hψ:∀a b:Nat→Bool,(∀w,w<n→ah v+1≤ah w→a w=b w)→ψ a=ψ b)(hχ:∀a b:Nat→Bool,(∀w,w<n→ah v+1≤ah w→a w=b w)→χ a=χ b):eP (v::l) φ=fun a=>(eP l χ a||eP l ψ a):=
 funext fun a=>Ew he (fun a b=>hψ _ _ (fun w _ hw=>upd_ne (fun e=>by rw[e]at hw;omega))) (fun a b=>hχ _ _ (fun w _ hw=>upd_ne (fun e=>by rw[e]at hw;omega))) a
/-- The two halves of a function at a variable. -/
theorem halves(h:GI n ah nd D){v e:Nat}(hu:und nd ah (ah v) e):∀a,De D e a=if a v then De D (aI nd e v) a else De D (aB nd e v) a:=fun a=>jc h hu a
theorem P7(h:GI n ah nd D){v e f:Nat}(hu:und nd ah (ah v) e)(hv:und nd ah (ah v) f):∀a,(De D e a&&De D f a)=if a v then(De D (aI nd e v) a&&De D (aI nd f v) a)else(De D (aB nd e v) a&&De D (aB nd f v) a):=fun a=>by
 rw[jc h hu,jc h hv];cases a v<;>rfl
/-- or by Ite. -/
theorem TV(h:GI n ah nd D)(a b:Nat):jV D a 0 b=fun s=>(De D a s||De D b s):=funext fun s=>by
 unfold jV;rw[ku h];cases De D a s<;>rfl
theorem P8(h:GI n ah nd D)(a b:Nat):jV D a b 1=fun s=>(De D a s&&De D b s):=funext fun s=>by
 unfold jV;rw[iF h];cases De D a s<;>rfl
/-- edge.Meet. -/
def meet(f g:Nat):Option Nat:=if f=1∨g=1∨f=neg g then some 1 else if f=0∨f=g then some g else if g=0 then some f else none
theorem Mh(h:GI n ah nd D){f g r:Nat}(hr:meet f g=some r):De D r=(fun s=>(De D f s&&De D g s))∧∀L,und nd ah L f→und nd ah L g→und nd ah L r:=by
 unfold meet at hr
 split at hr
 ·rename_i hc
  obtain rfl:=Option.some.inj hr;refine⟨funext fun s=>?_,fun L _ _=>.inl (by rfl)⟩;rw[iF h]
  rcases hc with rfl|rfl|rfl
  ·rw[iF h];rfl
  ·rw[iF h];simp
  ·rw[rR];cases De D g s<;>rfl
 ·split at hr
  ·rename_i hc
   obtain rfl:=Option.some.inj hr;refine⟨funext fun s=>?_,fun L _ hg=>hg⟩
   rcases hc with rfl|rfl
   ·rw[ku h];rfl
   ·simp
  ·split at hr
   ·rename_i hc
    obtain rfl:=Option.some.inj hr;subst hc;refine⟨funext fun s=>?_,fun L hf _=>hf⟩;rw[ku h];simp
   ·cases hr
theorem I_{f g:Nat}(hr:meet f g=none):f/2≠0∧g/2≠0:=by
 unfold meet at hr
 split at hr
 ·cases hr
 ·rename_i h1
  split at hr
  ·cases hr
  ·rename_i h2
   split at hr
   ·cases hr
   ·rename_i h3
    omega
/-- How many calls of Mk: Ite,exists,both at k levels. -/
theorem pJ(k:Nat):(2^k-1)+(2^k-1)+1≤2^(k+1)-1:=by
 have:=Nat.two_pow_pos k;rw[Nat.pow_succ];omega
theorem Ja(k:Nat):k*2^k+k*2^k+max 1 (2^k-1)≤(k+1)*2^(k+1):=by
 have:=Nat.two_pow_pos k;have e:(k+1)*2^(k+1)=2*(k*2^k)+2*2^k:=by rw[Nat.pow_succ,Nat.succ_mul];rw[Nat.mul_comm (2^k) 2,←Nat.mul_assoc,Nat.mul_comm k 2,Nat.mul_assoc]
 rw[e];omega
theorem Ce(k:Nat):(k+1)*2^k+(k+1)*2^k+max 1 (2^k-1)≤(k+1+1)*2^(k+1):=by
 have:=Nat.two_pow_pos k;have e:(k+1+1)*2^(k+1)=2*((k+1)*2^k)+2*2^k:=by rw[Nat.pow_succ,Nat.succ_mul (k+1)];rw[Nat.mul_comm (2^k) 2,←Nat.mul_assoc,Nat.mul_comm (k+1) 2,Nat.mul_assoc]
 rw[e];omega
/-- Equal functions,equal edges. -/
theorem Jb(h:GI n ah nd D){e f:Nat}(he:ok nd e)(hf:ok nd f)(hD:De D e=De D f):e=f:=canon h n 0 e f (by omega) he.und hf.und (fun a=>by rw[hD])
end
/-- A step of a schedule. -/
structure Stp where
 part:Nat
 out:List Nat
/-- How many parts that are left hold a variable. -/
def aU(l:List (List Nat))(left:List Nat)(v:Nat):Nat:=(left.filter (fun i=>decide (v∈l.getD i []))).length
/-- What Plan makes: w: what goes with the next step. -/
inductive m_(l:List (List Nat))(goes:List Nat):List Nat→List Nat→List Stp→Prop
 |nil {w:List Nat}:m_ l goes [] w []
 |cons {left w o:List Nat} {i:Nat} {rest:List Stp}:i∈left→(∀v,v∈o↔((v∈l.getD i []∧v∈goes∧aU l left v=1)∨v∈w))→m_ l goes (left.filter (fun k=>k != i)) [] rest→m_ l goes left w (⟨i,o⟩::rest)
theorem lS{l:List (List Nat)}{left:List Nat}(hn:left.Nodup){i:Nat}(hi:i∈left)(v:Nat):aU l left v=aU l (left.filter (fun k=>k != i)) v+(if v∈l.getD i []then 1 else 0):=by
 unfold aU
 induction left with
 |nil=>cases hi
 |cons a left ih=>
  rw[List.nodup_cons]at hn
  by_cases e:a=i
  ·subst e
   have h0:left.filter (fun k=>k != a)=left:=List.filter_eq_self.2 (fun k hk=>by
    simp only[bne_iff_ne,ne_eq]
    rintro rfl;exact hn.1 hk)
   rw[List.filter_cons_of_neg (p:=fun k=>k != a) (by simp),h0]
   by_cases hv:v∈l.getD a []
   ·rw[List.filter_cons_of_pos (by simpa using hv),List.length_cons,if_pos hv]
   ·rw[List.filter_cons_of_neg (by simpa using hv),if_neg hv];rfl
  ·have hi':i∈left:=by
    rcases List.mem_cons.1 hi with h9|h9
    ·exact absurd h9.symm e
    ·exact h9
   have:=ih hn.2 hi';rw[List.filter_cons_of_pos (p:=fun k=>k != i) (by simpa using e)]
   by_cases hv:v∈l.getD a []
   ·rw[List.filter_cons_of_pos (by simpa using hv),List.filter_cons_of_pos (by simpa using hv),List.length_cons,List.length_cons,this];omega
   ·rw[List.filter_cons_of_neg (by simpa using hv),List.filter_cons_of_neg (by simpa using hv),this]
theorem vB{l:List (List Nat)}{left:List Nat}{v:Nat}:aU l left v=0↔∀i∈left,v∉l.getD i []:=by
 unfold aU;rw[List.length_eq_zero_iff,List.filter_eq_nil_iff];simp
/-- All functions that are left,conjoined. -/
def iG(X:Nat→BF):List Nat→BF
 |[]=>fun _=>true
 |i::l=>fun a=>X i a&&iG X l a
theorem jD{X:Nat→BF}:∀{l:List Nat}{a:Nat→Bool},iG X l a=true↔∀i∈l,X i a=true
 |[],a=>by simp[iG]
 |i::l,a=>by simp[iG,jD (l:=l)]
theorem EA{X:Nat→BF}{left:List Nat}{i:Nat}(hi:i∈left)(a:Nat→Bool):iG X left a=(X i a&&iG X (left.filter (fun k=>k != i)) a):=by
 rw[Bool.eq_iff_iff,Bool.and_eq_true,jD,jD]
 constructor
 ·exact fun h=>⟨h i hi,fun k hk=>h k (List.mem_filter.1 hk).1⟩
 ·rintro⟨h1,h2⟩ k hk
  by_cases e:k=i
  ·rw[e];exact h1
  ·exact h2 k (List.mem_filter.2 ⟨hk,by simpa using e⟩)
/-- A schedule carried out. -/
def Cg(X:Nat→BF):BF→List Stp→BF
 |h,[]=>h
 |h,s::l=>Cg X (eP s.out (fun a=>h a&&X s.part a)) l
theorem zM{l m:List Nat}(h:∀v,v∈l↔v∈m)(φ:BF):eP l φ=eP m φ:=funext fun a=>L8 h φ a
/-- Conjoining by a schedule is quantifying at the end. -/
theorem Ch{X:Nat→BF}{l:List (List Nat)}{goes:List Nat}(hX:∀i a b,(∀v,v∈l.getD i []→a v=b v)→X i a=X i b):∀{left w:List Nat}{steps:List Stp}(h:BF),m_ l goes left w steps→left.Nodup→(∀v∈w,aU l left v=0)→∀W:List Nat,(∀v,v∈W↔((v∈goes∧0<aU l left v)∨(left≠[]∧v∈w)))→Cg X h steps=eP W (fun a=>h a&&iG X left a):=by
 intro left w steps h hP
 induction hP generalizing h with
 |nil=>
  intro _ _ W hW
  have:W=[]:=List.eq_nil_iff_forall_not_mem.2 (fun v hv=>by
   rcases(hW v).1 hv with⟨-,h9⟩|⟨h9,-⟩
   ·unfold aU at h9;simp at h9
   ·exact h9 rfl)
  subst this
  funext a
  simp[Cg,eP,iG]
 |@cons left w o i rest hi ho hP ih=>
  intro hn hw W hW;have hn':(left.filter (fun k=>k != i)).Nodup:=hn.filter _;obtain⟨W',hW'⟩:∃W':List Nat,W'=goes.filter (fun v=>decide (0<aU l (left.filter (fun k=>k != i)) v)):=⟨_,rfl⟩
  have e:=ih (eP o (fun a=>h a&&X i a)) hn' (fun v hv=>by cases hv) W' (fun v=>by
   rw[hW',List.mem_filter];simp)
  show Cg X (eP o (fun a=>h a&&X i a)) rest=_;rw[e]
  -- the rest does not hang on what goes
  have hfree:∀a b:Nat→Bool,(∀v,v∉o→a v=b v)→iG X (left.filter (fun k=>k != i)) a=iG X (left.filter (fun k=>k != i)) b:=fun a b hab=>by
   have:∀k∈left.filter (fun k=>k != i),X k a=X k b:=fun k hk=>hX k a b (fun v hv=>by
    apply hab
    intro hvo;have hc:=lS (l:=l) hn hi v
    have hpos:0<aU l (left.filter (fun k=>k != i)) v:=by
     cases h0:aU l (left.filter (fun k=>k != i)) v with
     |zero=>exact absurd hv (vB.1 h0 k hk)
     |succ m=>omega
    rcases(ho v).1 hvo with⟨h1,-,h3⟩|h3
    ·rw[if_pos h1]at hc;omega
    ·have:=hw v h3;omega)
   rw[Bool.eq_iff_iff,jD,jD];exact⟨fun h9 k hk=>by rw[←this k hk];exact h9 k hk,fun h9 k hk=>by rw[this k hk];exact h9 k hk⟩
  have e2:(fun a=>eP o (fun a=>h a&&X i a) a&&iG X (left.filter (fun k=>k != i)) a)=eP o (fun a=>iG X (left.filter (fun k=>k != i)) a&&(h a&&X i a)):=funext fun a=>by
   rw[PO hfree,Bool.and_comm]
  rw[e2];have e3:eP W' (eP o (fun a=>iG X (left.filter (fun k=>k != i)) a&&(h a&&X i a)))=eP (o++W') (fun a=>iG X (left.filter (fun k=>k != i)) a&&(h a&&X i a)):=funext fun a=>(GU o W' _ a).symm;rw[e3]
  have e4:(fun a=>iG X (left.filter (fun k=>k != i)) a&&(h a&&X i a))=fun a=>h a&&iG X left a:=funext fun a=>by
   rw[EA hi a];cases h a<;>cases X i a<;>cases iG X (left.filter (fun k=>k != i)) a<;>rfl
  rw[e4];refine zM (fun v=>?_) _;rw[List.mem_append,hW v,ho v,hW',List.mem_filter];have hc:=lS (l:=l) hn hi v;simp only[decide_eq_true_eq];have hne:left≠[]:=fun h9=>by rw[h9]at hi;cases hi
  constructor
  ·rintro((⟨h1,h2,h3⟩|h1)|⟨h1,h2⟩)
   ·exact .inl ⟨h2,by omega⟩
   ·exact .inr ⟨hne,h1⟩
   ·exact .inl ⟨h1,by omega⟩
  ·rintro(⟨h1,h2⟩|⟨-,h1⟩)
   ·by_cases h3:0<aU l (left.filter (fun k=>k != i)) v
    ·exact .inr ⟨h1,h3⟩
    ·by_cases h4:v∈l.getD i []
     ·rw[if_pos h4]at hc;exact .inl (.inl ⟨h4,h1,by omega⟩)
     ·rw[if_neg h4]at hc;omega
   ·exact .inl (.inr h1)
section
variable {l:List (List Nat)} {goes:List Nat}
theorem oW:∀{left:List Nat} {i:Nat},left.Nodup→i∈left→(left.filter (fun k=>k != i)).length+1=left.length
 |[],_,_,h=>by cases h
 |a::left,i,hn,h=>by
  rw[List.nodup_cons]at hn
  by_cases e:a=i
  ·subst e
   have h0:left.filter (fun k=>k != a)=left:=List.filter_eq_self.2 (fun k hk=>by
    simp only[bne_iff_ne,ne_eq]
    rintro rfl;exact hn.1 hk)
   rw[List.filter_cons_of_neg (p:=fun k=>k != a) (by simp),h0];rfl
  ·have hi':i∈left:=by
    rcases List.mem_cons.1 h with h9|h9
    ·exact absurd h9.symm e
    ·exact h9
   rw[List.filter_cons_of_pos (p:=fun k=>k != i) (by simpa using e),List.length_cons,List.length_cons,oW hn.2 hi']
structure Mi(l:List (List Nat))(goes left w:List Nat)(steps:List Stp):Prop where
 len:steps.length=left.length
 parts:∀p,(∃s∈steps,s.part=p)↔p∈left
 nodup:(steps.map (·.part)).Nodup
 out:∀s∈steps,∀v∈s.out,(v∈goes∧0<aU l left v)∨v∈w
 far:steps.Pairwise (fun s t=>∀v∈s.out,v∉t.out∧v∉l.getD t.part [])
 all:∀v,((v∈goes∧0<aU l left v)∨(left≠[]∧v∈w))→∃s∈steps,v∈s.out
theorem P9{left w:List Nat}{steps:List Stp}(hP:m_ l goes left w steps):left.Nodup→(∀v∈w,aU l left v=0)→Mi l goes left w steps:=by
 induction hP with
 |nil=>
  intro _ _;refine⟨rfl,fun p=>by simp,List.nodup_nil,fun s hs=>(by cases hs),List.Pairwise.nil,fun v hv=>?_⟩
  rcases hv with⟨-,h9⟩|⟨h9,-⟩
  ·unfold aU at h9;simp at h9
  ·exact absurd rfl h9
 |@cons left w o i rest hi ho hP ih=>
  intro hn hw;have q:=ih (hn.filter _) (fun v hv=>by cases hv);have hc:=fun v=>lS (l:=l) hn hi v;have hne:left≠[]:=fun h9=>by rw[h9]at hi;cases hi
  have hmem:∀p,p∈left.filter (fun k=>k != i)↔(p∈left∧p≠i):=fun p=>by rw[List.mem_filter];simp
  have hrest:∀s∈rest,∀v∈s.out,v∈goes∧0<aU l (left.filter (fun k=>k != i)) v:=fun s hs v hv=>by
   rcases q.out s hs v hv with h9|h9
   ·exact h9
   ·cases h9
  refine⟨by rw[List.length_cons,q.len];exact oW hn hi,fun p=>?_,?_,fun s hs v hv=>?_,?_,fun v hv=>?_⟩
  ·constructor
   ·rintro⟨s,hs,rfl⟩
    rcases List.mem_cons.1 hs with rfl|hs
    ·exact hi
    ·exact((hmem _).1 ((q.parts _).1 ⟨s,hs,rfl⟩)).1
   ·intro hp
    by_cases e:p=i
    ·exact⟨_,List.mem_cons_self,e.symm⟩
    ·obtain⟨s,hs,e2⟩:=(q.parts p).2 ((hmem p).2 ⟨hp,e⟩);exact⟨s,List.mem_cons_of_mem _ hs,e2⟩
  ·rw[List.map_cons,List.nodup_cons];refine⟨fun h9=>?_,q.nodup⟩;obtain⟨s,hs,e⟩:=List.mem_map.1 h9;exact((hmem _).1 ((q.parts _).1 ⟨s,hs,e⟩)).2 rfl
  ·rcases List.mem_cons.1 hs with rfl|hs
   ·rcases(ho v).1 hv with⟨h1,h2,h3⟩|h3
    ·exact .inl ⟨h2,by omega⟩
    ·exact .inr h3
   ·obtain⟨h1,h2⟩:=hrest s hs v hv;exact .inl ⟨h1,by have:=hc v;omega⟩
  ·refine List.Pairwise.cons (fun t ht v hv=>?_) q.far
   have hz:aU l (left.filter (fun k=>k != i)) v=0:=by
    have hcv:=hc v
    rcases(ho v).1 hv with⟨h1,-,h3⟩|h3
    ·rw[if_pos h1]at hcv;omega
    ·have:=hw v h3;omega
   refine⟨fun h9=>?_,vB.1 hz _ ((q.parts _).1 ⟨t,ht,rfl⟩)⟩;have:=(hrest t ht v h9).2;omega
  ·have hcv:=hc v
   rcases hv with⟨h1,h2⟩|⟨-,h1⟩
   ·by_cases h3:0<aU l (left.filter (fun k=>k != i)) v
    ·obtain⟨s,hs,h4⟩:=q.all v (.inl ⟨h1,h3⟩);exact⟨s,List.mem_cons_of_mem _ hs,h4⟩
    ·by_cases h4:v∈l.getD i []
     ·rw[if_pos h4]at hcv;exact⟨_,List.mem_cons_self,(ho v).2 (.inl ⟨h4,h1,by omega⟩)⟩
     ·rw[if_neg h4]at hcv;omega
   ·exact⟨_,List.mem_cons_self,(ho v).2 (.inr h1)⟩
end
/-- The assignment with a number. -/
def iy(i:Nat):Nat→Bool:=fun v=>i/2^v%2==1
/-- A bit is set or cleared. -/
theorem P_{i v:Nat}(b:Bool)(h:iy i v=!b):iy (if b then i+2^v else i-2^v)=upd (iy i) v b:=by
 have hp:0<2^v:=Nat.two_pow_pos v
 funext w
 unfold upd;have hpw:=Nat.two_pow_pos w
 cases b with
 |true=>
  simp only[if_true]
  have h0:i/2^v%2=0:=by
   unfold iy at h;simp only[Bool.not_true,beq_eq_false_iff_ne,ne_eq]at h;omega
  by_cases e:w=v
  ·subst e;rw[if_pos rfl];unfold iy;rw[Nat.add_div_right _ hp];simp only[beq_iff_eq];omega
  ·rw[if_neg e];unfold iy
   congr 1
   rcases Nat.lt_or_gt_of_ne e with hlt|hlt
   ·obtain⟨k,rfl⟩:=Nat.le.dest (Nat.succ_le_of_lt hlt);have e2:2^(w+1+k)=2^w*(2*2^k):=by rw[Nat.pow_add,Nat.pow_add];simp[Nat.mul_assoc]
    rw[show w.succ+k=w+1+k from rfl,e2,Nat.add_mul_div_left _ _ hpw];omega
   ·obtain⟨k,rfl⟩:=Nat.le.dest (Nat.succ_le_of_lt hlt);have e2:2^(v+1+k)=2^v*(2*2^k):=by rw[Nat.pow_add,Nat.pow_add];simp[Nat.mul_assoc]
    rw[show v.succ+k=v+1+k from rfl,e2,←Nat.div_div_eq_div_mul,←Nat.div_div_eq_div_mul,Nat.add_div_right _ hp,←Nat.div_div_eq_div_mul,←Nat.div_div_eq_div_mul];have:(i/2^v).succ/2=i/2^v/2:=by omega
    rw[this]
 |false=>
  simp only[Bool.false_eq_true,if_false]
  have h0:i/2^v%2=1:=by
   unfold iy at h
   simpa using h
  have hge:2^v≤i:=by
   rcases Nat.lt_or_ge i (2^v)with h9|h9
   ·rw[Nat.div_eq_of_lt h9]at h0;simp at h0
   ·exact h9
  obtain⟨j,rfl⟩:=Nat.le.dest hge;rw[Nat.add_comm]at h0⊢;rw[Nat.add_sub_cancel];rw[Nat.add_div_right _ hp]at h0
  by_cases e:w=v
  ·subst e;rw[if_pos rfl];unfold iy;simp only[beq_eq_false_iff_ne,ne_eq];omega
  ·rw[if_neg e];unfold iy
   congr 1
   rcases Nat.lt_or_gt_of_ne e with hlt|hlt
   ·obtain⟨k,rfl⟩:=Nat.le.dest (Nat.succ_le_of_lt hlt);have e2:2^(w+1+k)=2^w*(2*2^k):=by rw[Nat.pow_add,Nat.pow_add];simp[Nat.mul_assoc]
    rw[show w.succ+k=w+1+k from rfl,e2,Nat.add_mul_div_left _ _ hpw];omega
   ·obtain⟨k,rfl⟩:=Nat.le.dest (Nat.succ_le_of_lt hlt);have e2:2^(v+1+k)=2^v*(2*2^k):=by rw[Nat.pow_add,Nat.pow_add];simp[Nat.mul_assoc]
    rw[show v.succ+k=v+1+k from rfl,e2,←Nat.div_div_eq_div_mul,←Nat.div_div_eq_div_mul,←Nat.div_div_eq_div_mul,←Nat.div_div_eq_div_mul,Nat.add_div_right _ hp];have:(j/2^v).succ/2=j/2^v/2:=by omega
    rw[this]
theorem upd_same{a:Nat→Bool}{v:Nat}{b:Bool}(h:a v=b):upd a v b=a:=by
 funext w;unfold upd
 split
 ·rename_i e;rw[e,h]
 ·rfl
/-- The index that Cof reads. -/
def jX(i v:Nat)(yes:Bool):Nat:=if iy i v=yes then i else if yes then i+2^v else i-2^v
theorem x9(i v:Nat)(yes:Bool):iy (jX i v yes)=upd (iy i) v yes:=by
 unfold jX
 by_cases h:iy i v=yes
 ·rw[if_pos h,upd_same h]
 ·rw[if_neg h];exact P_ yes (by cases hq:iy i v<;>cases yes<;>simp_all)
theorem Mj{n i v:Nat}{yes:Bool}(hi:i<2^n)(hv:v<n):jX i v yes<2^n:=by
 unfold jX
 split
 ·exact hi
 ·rename_i h
  split
  ·rename_i hy
   subst hy
   have h0:i/2^v%2=0:=by
    unfold iy at h;simp only[beq_iff_eq]at h;omega
   obtain⟨k,rfl⟩:=Nat.le.dest (Nat.succ_le_of_lt hv);have e2:2^(v.succ+k)=2^v*(2*2^k):=by rw[Nat.pow_add,Nat.pow_succ];simp[Nat.mul_assoc]
   rw[e2]at hi⊢;have hp:0<2^v:=Nat.two_pow_pos v;have h1:i/2^v<2*2^k:=Nat.div_lt_of_lt_mul hi;have h2:(i+2^v)/2^v<2*2^k:=by rw[Nat.add_div_right _ hp];omega
   have h3:=(Nat.div_lt_iff_lt_mul hp).1 h2;rw[Nat.mul_comm]at h3;exact h3
  ·rename_i hy
   simp only[Bool.not_eq_true]at hy;subst hy;exact Nat.lt_of_le_of_lt (Nat.sub_le _ _) hi
/-- The functions of n variables and their tables. -/
def pK(n:Nat)(φ:BF):Prop:=∀a b:Nat→Bool,(∀v,v<n→a v=b v)→φ a=φ b
/-- An expression. -/
inductive Ex
 |mk (op var:Int) (kids:List Ex)
def Ex.op:Ex→Int|.mk o _ _=>o
def Ex.var:Ex→Int|.mk _ v _=>v
def Ex.kids:Ex→List Ex|.mk _ _ k=>k
/-- How many of the values are true. -/
def eU(l:List Bool):Nat:=(l.filter id).length
/-- The value out of the kids' values. -/
def fO(op:Int)(v:Bool)(l:List Bool):Bool:=
 if op=1 then true
 else if op=3 then v
 else if op=4 then eU l==0
 else if op=5 then eU l==l.length
 else if op=6 then decide (0<eU l)
 else if op=7 then eU l%2==1
 else if op=8 then !l.getD 0 false||l.getD 1 false
 else if op=9 then eU l != 1
 else if op=10 then(if l.getD 0 false then l.getD 1 false else l.getD 2 false)
 else false
mutual
def Ex.val:Ex→BF
 |.mk op v ks=>fun a=>fO op (a v.toNat) (Ex.vals ks a)
def Ex.vals:List Ex→(Nat→Bool)→List Bool
 |[],_=>[]
 |k::ks,a=>k.val a::Ex.vals ks a
end
theorem Ml(ks:List Ex)(a:Nat→Bool):Ex.vals ks a=ks.map (fun k=>k.val a):=by
 induction ks with
 |nil=>simp[Ex.vals]
 |cons k ks ih=>simp[Ex.vals,ih]
/-- join's function. -/
def cZ(op:Int)(x y:Bool):Bool:=
 if op=5 then(if x then y else false)
 else if op=6 then(if x then true else y)
 else if op=8 then(if x then y else true)
 else if op=7 then(if x then !y else y)
 else(if x then y else !y)
/-- Whether a node is built right: what Small's tests leave. -/
def Hg(op:Int)(k:Nat):Prop:=(op=1∧k=0)∨(op=2∧k=0)∨(op=3∧k=0)∨(op=4∧k=1)∨op=5∨op=6∨op=7∨(op=8∧k=2)∨(op=9∧k=2)∨(op=10∧k=3)
theorem lT(b:Bool)(l:List Bool):eU (b::l)=(if b then 1 else 0)+eU l:=by
 unfold eU;cases b<;>simp<;>omega
theorem vC:∀l:List Bool,eU l≤l.length
 |[]=>by simp[eU]
 |b::l=>by have:=vC l;rw[lT,List.length_cons];split<;>omega
theorem Sn:∀(l:List Bool) (h:Bool),l.foldl (cZ 5) h=(h&&eU l==l.length)
 |[],h=>by simp[eU]
 |b::l,h=>by
  have:=vC l;rw[List.foldl_cons,Sn l,lT,List.length_cons];cases h<;>cases b<;>simp[cZ]
  ·omega
  ·rw[Bool.eq_iff_iff];simp;omega
theorem Sq:∀(l:List Bool) (h:Bool),l.foldl (cZ 6) h=(h||decide (0<eU l))
 |[],h=>by simp[eU]
 |b::l,h=>by
  rw[List.foldl_cons,Sq l,lT];cases h<;>cases b<;>simp[cZ];omega
theorem Sr:∀(l:List Bool) (h:Bool),l.foldl (cZ 7) h=xor h (eU l%2==1)
 |[],h=>by simp[eU]
 |b::l,h=>by
  rw[List.foldl_cons,Sr l,lT]
  rcases Nat.mod_two_eq_zero_or_one (eU l)with e|e
  ·have e2:(1+eU l)%2=1:=by omega
   cases h<;>cases b<;>simp[cZ,e,e2]
  ·have e2:(1+eU l)%2=0:=by omega
   cases h<;>cases b<;>simp[cZ,e,e2]
/-- What Build makes of the kids' values is the value. -/
theorem aai(v:Bool)(l:List Bool):fO 5 v l=l.foldl (cZ 5) true:=by rw[Sn];simp[fO]
theorem aaj(v:Bool)(l:List Bool):fO 6 v l=l.foldl (cZ 6) false:=by rw[Sq];simp[fO]
theorem aak(v:Bool)(l:List Bool):fO 7 v l=l.foldl (cZ 7) false:=by rw[Sr];simp[fO]
theorem aal(v x y:Bool):fO 8 v [x,y]=cZ 8 x y:=by cases x<;>cases y<;>rfl
theorem aam(v x y:Bool):fO 9 v [x,y]=cZ 9 x y:=by cases x<;>cases y<;>rfl
theorem aan(v x:Bool):fO 4 v [x]=!x:=by cases x<;>rfl
theorem Xe(v x y z:Bool):fO 10 v [x,y,z]=if x then y else z:=by cases x<;>rfl
end Go.Proofs.YtpijlhlpejlhhaaGreat.Bd
