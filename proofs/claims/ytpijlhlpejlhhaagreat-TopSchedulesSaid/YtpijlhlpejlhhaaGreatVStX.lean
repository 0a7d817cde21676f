/- Swap: what one round of the loop over the waiting nodes asks, in the kit's words. -/
import Derived.Test.YtpijlhlpejlhhaaGreatVStT
namespace Go.Proofs.YtpijlhlpejlhhaaGreat
set_option linter.unusedVariables false
section
variable {n room:Nat} {ah:Nat→Nat} {x y t:Nat} {ext:Nat→Int} {pend:Nat→Bool} {S0 S:Bd.St} {d:Bd.Nd} {r1 r2:Bd.St×Nat} {c1 c2 c3:(Nat→Nat)×Int} {nd':Nat→Option Bd.Nd}
theorem NT{K K':Nat→Nat}{w w':World}{b:Nat}{o:Obj}(t:aj sR K w K' w')(h:w.heap[b]?=some o∧K b=0):w'.heap[b]?=some o∧K' b=0:=⟨t.obj h.1 (by rw[h.2];unfold sR;omega),(t.role h.1).trans h.2⟩
theorem yR(hs:Bd.SI n room pend ext S)(hrm:room≤1048576)(hx:x<n){a b:Nat}(ha:a<4611686018427387904)(hb:b<4611686018427387904)(hf:S.takes x a b→¬S.full room) :
 (S.takes x a b→C8 room S ⟨x,Bd.flip a (Bd.odd b),Bd.flip b (Bd.odd b)⟩∧¬S.full room)∧(∀a b i,S.tab x a b=some i→i≤1048577):=by
 refine⟨fun h=>⟨Dk hs hrm hx h.2 ?_ ?_,hf h⟩,fun a b i h=>?_⟩
 ·have:=Bd.bH a (Bd.odd b);show Bd.flip a (Bd.odd b)<_;omega
 ·have:=Bd.bH b (Bd.odd b);show Bd.flip b (Bd.odd b)<_;omega
 ·have h3:=((hs.tb x a b i hx).1 h).1;have h4:=(hs.nz i (by rw[h3];simp)).2;have:=hs.Nr;omega
/-- The store behind the two writes of a round. -/
def mid(r2:Bd.St×Nat)(nd':Nat→Option Bd.Nd)(c2:(Nat→Nat)×Int)(y lo t:Nat):Bd.St:={r2.1 with nd:=nd',cnt:=c2.1,dead:=c2.2,tab:=fun v l h=>if v=y∧l=lo∧h=r2.2 then some t else r2.1.tab v l h}
theorem XT(h:Bd.vH n room ah x y t ext pend S0 d r1 r2 c1 c2 c3 nd')(hrm:room≤1048576):kF n r2.1 (Bd.xA ah x y r2.1.nd) (Bd.fM ah x y pend r2.1.nd):=
 ⟨h.w2,fun i hi=>(h.s2.nz i hi).2,h.s2.cn,by have:=h.s2.Nr;omega,fun i c hc=>⟨bF h.s2 hrm (h.oo i c hc).2.1,bF h.s2 hrm (h.oo i c hc).2.2⟩⟩
theorem Fw{nd nd':Nat→Option Bd.Nd}{d':Bd.Nd}(hn:nd'=Bd.set1 nd t (some d'))(hd:nd t=some d){i:Nat}(hi:nd' i≠none):nd i≠none:=by
 by_cases e:i=t
 ·rw[e,hd];simp
 ·rw[hn,Bd.ak e]at hi;exact hi
theorem NU(h:Bd.vH n room ah x y t ext pend S0 d r1 r2 c1 c2 c3 nd')(hrm:room≤1048576)(hn:nd'=Bd.set1 r2.1.nd t (some ⟨y,r1.2,r2.2⟩)):kF n (mid r2 nd' c2 y r1.2 t) (Bd.xA ah x y nd') (Bd.fM ah x y (Bd.set1 pend t false) nd'):=by
 refine⟨h.w3,fun i hi=>(h.s2.nz i (Fw hn h.rt hi)).2,fun i hi=>h.s2.cn i (Fw hn h.rt hi),by have:=h.s2.Nr;show r2.1.N≤_;omega,fun i c hc=>?_⟩;have hc:nd' i=some c:=hc
 by_cases e:i=t
 ·rw[hn,e,Bd.aC]at hc;obtain rfl:=Option.some.inj hc;exact⟨bF h.s2 hrm h.o1,bF h.s2 hrm h.o2⟩
 ·rw[hn,Bd.ak e]at hc;exact⟨bF h.s2 hrm (h.oo i c hc).2.1,bF h.s2 hrm (h.oo i c hc).2.2⟩
/-- The node is written,then its row of the table. -/
theorem UD{K:Nat→Nat}{w w1:World}{sb:Nat}{L:SL}{ord:List Nat}{fV:Nat→Nat}(h:pF K w sb L n room (gV r2.1 c2.1 c2.2) fV ord)(hr:Bd.vH n room ah x y t ext pend S0 d r1 r2 c1 c2 c3 nd')(hn:nd'=Bd.set1 r2.1.nd t (some ⟨y,r1.2,r2.2⟩))(hy:y<n)
 (hp:aY K w1 L.pb L.ga L.ca L.gt L.ct L.fv room {gV r2.1 c2.1 c2.2 with nd:=Bd.set1 r2.1.nd t (some ⟨y,r1.2,r2.2⟩),refs:=Bd.set1 r2.1.refs t (S0.refs t)}) (t1:aj (fun r=>r=7) K w K w1) :
 StJ K w1 sb L n room (mid r2 nd' c2 y r1.2 t) r2.1.tab r2.1.cn c2.2 fV ord:=by
 have h1:=h.toStJ.Qr (P':=mid r2 nd' c2 y r1.2 t) (hp.same hn (yJ hr.rf).symm rfl rfl) (t1.mono (fun r hr=>by unfold pR;omega));exact h1
theorem QH{K:Nat→Nat}{w w1:World}{sb:Nat}{L:SL}{ord:List Nat}{fV:Nat→Nat}(h:StJ K w sb L n room (mid r2 nd' c2 y r1.2 t) r2.1.tab r2.1.cn c2.2 fV ord)(hc:∀i,r2.1.nd i≠none→L.ce i=c2.1 i)(hr:Bd.vH n room ah x y t ext pend S0 d r1 r2 c1 c2 c3 nd')(hn:nd'=Bd.set1 r2.1.nd t (some ⟨y,r1.2,r2.2⟩))(hy:y<n)
 (hp:gT K w1 (L.tb y) (L.mb y) (100+2*y) (Cz (r2.1.tab y) r1.2 r2.2 t)) (t1:aj (fun q=>q=100+2*y+1) K w K w1) :
 pF K w1 sb L n room (mid r2 nd' c2 y r1.2 t) fV ord:=by
 refine⟨(h.Qs hy hp t1).Io (NG:=(mid r2 nd' c2 y r1.2 t).tab) (fun u hu=>?_),fun i hi=>hc i (Fw hn hr.rt hi)⟩
 funext a b
 show(if u=y then Cz (r2.1.tab y) r1.2 r2.2 t else r2.1.tab u) a b=if u=y∧a=r1.2∧b=r2.2 then some t else r2.1.tab u a b
 by_cases e:u=y
 ·subst e;simp only[Cz,true_and,if_true]
 ·rw[if_neg e,if_neg (fun h=>e h.1)]
/-- Without the waiting nodes. -/
theorem QI{K:Nat→Nat}{w:World}{sb:Nat}{L:SL}{ord:List Nat}{fV:Nat→Nat}(h:StJ K w sb L n room S (S.cuts (Bd.tp S.nd x y)).tab S.cn S.dead fV ord)(hc:∀i,S.nd i≠none→L.ce i=S.cnt i):pF K w sb L n room (S.cuts (Bd.tp S.nd x y)) fV ord:=
 ⟨⟨h.row,h.iE,h.vars,h.level,h.pool.same rfl rfl rfl rfl,h.tabs,h.tab,h.cnt,h.ks,h.kl,h.kv,h.ke,h.kt,h.kc⟩,hc⟩
end
end Go.Proofs.YtpijlhlpejlhhaaGreat
