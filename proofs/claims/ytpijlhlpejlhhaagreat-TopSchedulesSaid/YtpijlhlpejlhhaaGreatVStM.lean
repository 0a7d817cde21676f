/- The dead nodes swept out one by one. -/
import Derived.Test.YtpijlhlpejlhhaaGreatVPlJ
import Derived.Test.YtpijlhlpejlhhaaGreatVUnG
namespace Go.Proofs.YtpijlhlpejlhhaaGreat
open Go.RowKit
set_option linter.unusedVariables false
set_option maxRecDepth 100000
set_option maxHeartbeats 4000000
def Db(S:Bd.St)(ds:List Nat):Bd.St:={S with nd:=fun i=>if i∈ds then none else S.nd i,free:=S.free++ds}
def yL(S:Bd.St)(ds:List Nat):Nat→Nat→Nat→Option Nat:=fun v lo hi=>match S.tab v lo hi with|some i=>if i∈ds then none else some i|none=>none
section
variable {S:Bd.St} {ds:List Nat} {i n room:Nat} {d:Bd.Nd} {ext:Nat→Int}
theorem QC:Db S []=S:=by unfold Db;simp
theorem Im:yL S []=S.tab:=by
 funext v lo hi
 unfold yL;cases S.tab v lo hi<;>simp
theorem ND(S:Bd.St)(ds:List Nat)(i:Nat):rel (Db S ds) i=Db S (ds++[i]):=by
 unfold rel Db
 have:Bd.set1 (fun i=>if i∈ds then none else S.nd i) i none=fun j=>if j∈ds++[i]then none else S.nd j:=by
  funext j
  by_cases e:j=i
  ·subst e;rw[Bd.aC];simp
  ·rw[Bd.ak e];simp[e]
 rw[this];simp
theorem Dc(htb:∀v lo hi i,v<n→(S.tab v lo hi=some i↔S.nd i=some ⟨v,lo,hi⟩))(hd:S.nd i=some d)(hv:d.v<n):∀v,v<n→(if v=d.v then MW (yL S ds d.v) d.lo d.hi else yL S ds v)=yL S (ds++[i]) v:=by
 intro v kL
 funext lo hi
 by_cases e:v=d.v
 ·subst e;rw[if_pos rfl];unfold MW
  by_cases e2:lo=d.lo∧hi=d.hi
  ·rw[if_pos e2];obtain⟨rfl,rfl⟩:=e2;unfold yL;rw[(htb d.v d.lo d.hi i hv).2 hd];simp
  ·rw[if_neg e2];unfold yL
   cases ht:S.tab d.v lo hi with
   |none=>rfl
   |some j=>
    have hj:j≠i:=by
     rintro rfl;have:=(htb d.v lo hi j hv).1 ht;rw[hd]at this;have h3:=Option.some.inj this;exact e2 ⟨by rw[h3],by rw[h3]⟩
    simp[hj]
 ·rw[if_neg e];unfold yL
  cases ht:S.tab v lo hi with
  |none=>rfl
  |some j=>
   have hj:j≠i:=by
    rintro rfl;have:=(htb v lo hi j kL).1 ht;rw[hd]at this;have h3:=Option.some.inj this;exact e (by rw[h3])
   simp[hj]
theorem JU(S:Bd.St):(eu S S.N).filter (fun i=>S.cnt i==0)=S.bS:=by
 unfold eu Bd.St.bS;rw[List.filter_filter]
 congr 1
 funext i
 rw[Bool.and_comm]
theorem Uv(hs:Bd.SI n room (fun _=>false) ext S):(Db S S.bS).nd=S.collect.nd:=by
 funext i
 show(if i∈S.bS then none else S.nd i)=Bd.lives S.nd S.cnt i;unfold Bd.lives
 by_cases h:i∈S.bS
 ·rw[if_pos h,if_pos (Bd.iP.1 h).2.2]
 ·rw[if_neg h]
  by_cases h2:S.cnt i=0
  ·rw[if_pos h2]
   by_cases h3:S.nd i=none
   ·exact h3
   ·exact absurd (Bd.iP.2 ⟨(hs.nz i h3).2,h3,h2⟩) h
  ·rw[if_neg h2]
theorem QD(hs:Bd.SI n room (fun _=>false) ext S):∀v,v<n→yL S S.bS v=S.collect.tab v:=by
 intro v hv
 funext lo hi
 show(match S.tab v lo hi with|some i=>if i∈S.bS then none else some i|none=>none)=match S.tab v lo hi with|some i=>if S.cnt i=0 then none else some i|none=>none
 cases ht:S.tab v lo hi with
 |none=>rfl
 |some i=>
  have h1:=((hs.tb v lo hi i hv).1 ht).1;have h2:S.nd i≠none:=by rw[h1];simp
  have h3:i∈S.bS↔S.cnt i=0:=⟨fun h=>(Bd.iP.1 h).2.2,fun h=>Bd.iP.2 ⟨(hs.nz i h2).2,h2,h⟩⟩;simp only[h3]
theorem StJ.Io{K:Nat→Nat}{w:World}{sb:Nat}{L:SL}{P:Bd.St}{tab NG:Nat→Nat→Nat→Option Nat}{cn:Nat}{dead:Int}{ah:Nat→Nat}{ord:List Nat}(h:StJ K w sb L n room P tab cn dead ah ord)(ht:∀v,v<n→tab v=NG v):StJ K w sb L n room P NG cn dead ah ord:=
 ⟨h.row,h.iE,h.vars,h.level,h.pool,h.tabs,fun v hv=>(ht v hv) ▸ h.tab v hv,h.cnt,h.ks,h.kl,h.kv,h.ke,h.kt,h.kc⟩
/-- Swept to the end,the store is the collected one. -/
theorem StJ.XF{K:Nat→Nat}{w:World}{sb:Nat}{L:SL}{ah:Nat→Nat}{ord:List Nat}(hs:Bd.SI n room (fun _=>false) ext S)(h:StJ K w sb L n room (Db S S.bS) (yL S S.bS) S.cn 0 ah ord)(hc:∀i,S.nd i≠none→L.ce i=S.cnt i) :
 dG K w sb n room S.collect ah ord:=by
 have h1:=h.Io (QD hs);have hp:aY K w L.pb L.ga L.ca L.gt L.ct L.fv room S.collect:=h1.pool.same (Uv hs).symm rfl rfl rfl;refine⟨L,⟨h1.row,h1.iE,h1.vars,h1.level,hp,h1.tabs,h1.tab,h1.cnt,h1.ks,h1.kl,h1.kv,h1.ke,h1.kt,h1.kc⟩,fun i hi=>hc i (fun h9=>hi ?_)⟩;show Bd.lives S.nd S.cnt i=none;unfold Bd.lives;rw[h9];simp
end
end Go.Proofs.YtpijlhlpejlhhaaGreat
