/- The nodes of one variable, by their numbers. -/
import Derived.Test.YtpijlhlpejlhhaaGreatVStN
namespace Go.Proofs.YtpijlhlpejlhhaaGreat
open Go.RowKit Go.Lib Go.Sort
set_option linter.unusedVariables false
set_option maxRecDepth 100000
set_option maxHeartbeats 4000000
/-- The nodes that hang on x. -/
def qR(S:Bd.St)(x:Nat):List Nat:=(List.range S.N).filter (fun i=>match S.nd i with|some d=>d.v==x|none=>false)
instance (x:Nat×Nat):Decidable (jZ x):=by unfold jZ;infer_instance
def mkK(x:Nat×Nat)(h:jZ x):TK:=⟨x,h⟩
/-- A node's key in its table. -/
def qU(S:Bd.St)(i:Nat):TK:=match S.nd i with
 |some d=>if h:jZ (d.lo,d.hi)then mkK (d.lo,d.hi) h else default
 |none=>default
section
variable {S:Bd.St} {n room x y i:Nat} {ext:Nat→Int} {d:Bd.Nd}
theorem uM:i∈qR S x↔i<S.N∧∃d,S.nd i=some d∧d.v=x:=by
 unfold qR;rw[List.mem_filter,List.mem_range]
 cases h:S.nd i with
 |none=>simp
 |some d=>simp
theorem Ip(hd:S.nd i=some d)(hg:jZ (d.lo,d.hi)):kv (qU S i)=(d.lo,d.hi):=by
 have h1:qU S i=mkK (d.lo,d.hi) hg:=by
  unfold qU;rw[hd];exact dif_pos hg
 rw[h1]
 rfl
theorem Aq(hs:Bd.SI n room (fun _=>false) ext S)(hx:x<n)(hd:S.nd i=some d)(hv:d.v=x)(hg:jZ (d.lo,d.hi)):dY (S.tab x) (kv (qU S i))=some (i:Int):=by
 rw[Ip hd hg];unfold dY;have:=(hs.tb x d.lo d.hi i hx).2 ⟨by rw[hd,←hv],rfl⟩;simp only[this]
 rfl
theorem NJ(hs:Bd.SI n room (fun _=>false) ext S)(hx:x<n)(he:∀i d,S.nd i=some d→d.v<n∧d.lo<4611686018427387904∧d.hi<4611686018427387904)(X:TK) :
 X∈(qR S x).map (qU S)↔dY (S.tab x) (kv X)≠none:=by
 constructor
 ·intro h;obtain⟨i,hi,rfl⟩:=List.mem_map.1 h;obtain⟨h1,d,hd,hv⟩:=uM.1 hi;rw[Aq hs hx hd hv ⟨(he i d hd).2.1,(he i d hd).2.2⟩];simp
 ·intro h;unfold dY at h
  cases ht:S.tab x (kv X).1 (kv X).2 with
  |none=>rw[ht]at h;exact absurd rfl h
  |some i=>
   have h1:=((hs.tb x _ _ i hx).1 ht).1;refine List.mem_map.2 ⟨i,uM.2 ⟨(hs.nz i (by rw[h1];simp)).2,_,h1,rfl⟩,?_⟩;have h2:=Ip h1 X.2;exact Subtype.ext h2
theorem yM(hs:Bd.SI n room (fun _=>false) ext S)(hx:x<n)(he:∀i d,S.nd i=some d→d.v<n∧d.lo<4611686018427387904∧d.hi<4611686018427387904) :
 ((qR S x).map (qU S)).Pairwise (fun a b=>ltOf (BG (S.tab x)) a b=true):=by
 rw[List.pairwise_map];have h1:(qR S x).Pairwise (·<·):=(List.pairwise_lt_range).filter _
 have h2:∀i∈qR S x,dY (S.tab x) (kv (qU S i))=some (i:Int):=fun i hi=>by
  obtain⟨h3,d,hd,hv⟩:=uM.1 hi;exact Aq hs hx hd hv ⟨(he i d hd).2.1,(he i d hd).2.2⟩
 refine List.Pairwise.imp_of_mem (fun{a b} ha hb hab=>?_) h1;rw[Xz];have e1:=h2 a ha;have e2:=h2 b hb;unfold kv at e1 e2;rw[e1,e2];simp only[Option.getD_some,decide_eq_true_eq];exact .inl (by omega)
theorem JV(hs:Bd.SI n room (fun _=>false) ext S)(hx:x<n)(he:∀i d,S.nd i=some d→d.v<n∧d.lo<4611686018427387904∧d.hi<4611686018427387904) :
 ((qR S x).map (qU S)).Pairwise (fun a b=>ltOf (BG (S.tab x)) b a=false):=by
 refine(yM hs hx he).imp (fun{a b} h=>?_)
 cases h2:ltOf (BG (S.tab x)) b a with
 |false=>rfl
 |true=>have:=(EY (S.tab x)).trans _ _ _ h h2;rw[(EY (S.tab x)).irrefl]at this;cases this
theorem Fb(hs:Bd.SI n room (fun _=>false) ext S)(hx:x<n)(he:∀i d,S.nd i=some d→d.v<n∧d.lo<4611686018427387904∧d.hi<4611686018427387904) :
 ((qR S x).map (qU S)).Nodup:=(yM hs hx he).imp (fun{a b} h e=>by rw[e,(EY (S.tab x)).irrefl]at h;cases h)
theorem Fe(S:Bd.St)(x y:Nat):(qR S x).filter (fun i=>match S.nd i with|some d=>Bd.Ep S.nd y d|none=>false)=S.turned x y:=by
 unfold qR Bd.St.turned;rw[List.filter_filter]
 congr 1
 funext i
 unfold Bd.tp
 cases S.nd i with
 |none=>rfl
 |some d=>exact Bool.and_comm _ _
end
end Go.Proofs.YtpijlhlpejlhhaaGreat
