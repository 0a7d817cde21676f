/- Walks and plain words: StT StU StW. -/
import Derived.Test.YtpijlhlpejlhhaaGreatVStR
namespace Go.Proofs.YtpijlhlpejlhhaaGreat
set_option linter.unusedVariables false
section
section
variable {n room:Nat} {S:Bd.St} {pend:Nat→Bool} {ext:Nat→Int} {d:Bd.Nd}
theorem Fq(hs:Bd.SI n room pend ext S)(hrm:room≤1048576){v:Nat}(hv:v<n):Ws (S.tab v):=by
 have hN:=hs.Nr;refine⟨S.N,by omega,fun a b i h=>?_,fun a b c e i h1 h2=>?_⟩
 ·have h3:=((hs.tb v a b i hv).1 h).1;exact(hs.nz i (by rw[h3];simp)).2
 ·have h3:=((hs.tb v a b i hv).1 h1).1;have h4:=((hs.tb v c e i hv).1 h2).1;rw[h3]at h4;have h5:=Option.some.inj h4
  injection h5 with _ h6 h7
  exact⟨h6,h7⟩
theorem Dk(hs:Bd.SI n room pend ext S)(hrm:room≤1048576)(hv:d.v<n)(ht:S.tab d.v d.lo d.hi=none)(hl:d.lo<4611686018427387904)(hh:d.hi<4611686018427387904):C8 room S d:=by
 obtain⟨s0,sN,sn,se,sne⟩:=hs.slot;have hN:=hs.Nr;have hd:=hs.ci.zQ;exact⟨hrm,hs.Nr,hs.zK,s0,sne,sN,sn,hs.uY d,hs.cN,hs.cn,⟨hd.1,by omega⟩,ht,Fq hs hrm hv,hl,hh⟩
end
end
section
section
variable {n room:Nat} {S:Bd.St} {ext:Nat→Int} {x y:Nat}
theorem vZ(hs:Bd.SI n room (fun _=>false) ext S)(i:Nat):i∈S.turned x y↔Bd.tp S.nd x y i=true:=by
 unfold Bd.St.turned;rw[List.mem_filter,List.mem_range]
 constructor
 ·exact fun h=>h.2
 ·intro h;refine⟨?_,h⟩;unfold Bd.tp at h
  cases hd:S.nd i with
  |none=>rw[hd]at h;cases h
  |some d=>exact(hs.nz i (by rw[hd];simp)).2
theorem NP(hs:Bd.SI n room (fun _=>false) ext S):yL S (S.turned x y)=(S.cuts (Bd.tp S.nd x y)).tab:=by
 funext v lo hi
 show(match S.tab v lo hi with|some i=>if i∈S.turned x y then none else some i|none=>none)=match S.tab v lo hi with|some i=>if Bd.tp S.nd x y i then none else some i|none=>none
 cases S.tab v lo hi with
 |none=>rfl
 |some i=>
  simp only[vZ hs i]
end
end
section
section
variable {n room:Nat} {S:Bd.St} {ah:Nat→Nat} {pend:Nat→Bool} {ext:Nat→Int} {D:Nat→Bd.BF}
theorem bF(hs:Bd.SI n room pend ext S)(hrm:room≤1048576){e:Nat}(h:Bd.ok S.nd e):e<4611686018427387904:=by
 have hN:=hs.Nr
 rcases h with h|⟨d,h⟩
 ·omega
 ·have:=(hs.nz (e/2) (by rw[h];simp)).2;omega
theorem eF(hg:Bd.GI n ah S.nd D)(hs:Bd.SI n room pend ext S)(hrm:room≤1048576):∀i d,S.nd i=some d→d.v<n∧d.lo<4611686018427387904∧d.hi<4611686018427387904:=fun i d hd=>
 ⟨hg.lt i d hd,bF hs hrm (hg.ul i d hd).ok,bF hs hrm (hg.uh i d hd).ok⟩
theorem yN(hg:Bd.GI n ah S.nd D)(hs:Bd.SI n room pend ext S)(hrm:room≤1048576):∀e y,e<4611686018427387904→Bd.aB S.nd e y<4611686018427387904∧Bd.aI S.nd e y<4611686018427387904:=fun e y he=>by
 unfold Bd.aB Bd.aI
 cases hd:S.nd (e/2)with
 |none=>exact⟨he,he⟩
 |some d=>
  obtain⟨-,h1,h2⟩:=eF hg hs hrm _ d hd;simp only
  split
  ·have a1:=Bd.bH d.lo (Bd.odd e);have a2:=Bd.bH d.hi (Bd.odd e);exact⟨by omega,by omega⟩
  ·exact⟨he,he⟩
end
end
end Go.Proofs.YtpijlhlpejlhhaaGreat
