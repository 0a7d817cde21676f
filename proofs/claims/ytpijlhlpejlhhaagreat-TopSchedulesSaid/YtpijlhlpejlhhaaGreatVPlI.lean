/- Walks and plain words: PlI RfB. -/
import Derived.Test.YtpijlhlpejlhhaaGreatVStI
namespace Go.Proofs.YtpijlhlpejlhhaaGreat
open Go.RowKit
set_option linter.unusedVariables false
set_option maxRecDepth 100000
set_option maxHeartbeats 4000000
attribute [local go_sem] Oper.semAt_some
/-- The numbers below j that the pool holds. -/
def eu(S:Bd.St)(j:Nat):List Nat:=(List.range j).filter (fun i=>(S.nd i).isSome)
theorem lW(S:Bd.St)(j:Nat):eu S (j+1)=if (S.nd j).isSome then eu S j++[j]else eu S j:=by
 unfold eu;rw[List.range_succ,List.filter_append]
 by_cases h:(S.nd j).isSome=true
 ·simp[h]
 ·simp[h]
theorem Ns(S:Bd.St)(M j:Nat)(hj:j<M)(h:(S.nd j).isSome=true):(eu S M)[(eu S j).length]?=some j:=by
 obtain⟨k,rfl⟩:∃k,M=j+1+k:=⟨M-(j+1),by omega⟩;clear hj
 induction k with
 |zero=>rw[Nat.add_zero,lW,if_pos h];simp
 |succ k ih=>
  have hl:(eu S j).length<(eu S (j+1+k)).length:=(List.getElem?_eq_some_iff.1 ih).1;rw[show j+1+(k+1)=(j+1+k)+1 from by omega,lW]
  split
  ·rw[List.getElem?_append_left hl];exact ih
  ·exact ih
/-- What is left to the end,of a value that counts. -/
def Nt(N:Nat):Value→Nat|.int _ q=>N-q.toNat|_=>0
theorem Xy{K:Nat→Nat}{w:World}{pb ga ca gt ct room c n:Nat}{fv:Value}{S:Bd.St}(h:aY K w pb ga ca gt ct fv room S)(hn:1≤n)
 (hc:w.heap[c]?=some (.cells #[.pointer (some ⟨pb,0,none⟩)] 174 (0,0))) {p:Nat→Obj→Prop} (pp:∀o,p pb o) (pt:∀o,p gt o)
 (pc:p c (.cells #[.pointer (some ⟨pb,0,none⟩)] 174 (0,0))) :
 Qy n Tryz.prog 193 #[.pointer (some ⟨c,0,none⟩)] (fun x:Nat=>#[Value.int .i64 (x:Nat)]) p (eu S S.N) w:=by
 intro l J W hW hJ hY h0;have hb:=h.big;have hc0:W.heap[c]?=some _:=(hW.block _ (aV hc)).trans hc;have hr0:W.heap[pb]?=some _:=(hW.block _ (aV h.row)).trans h.row;have ht0:W.heap[gt]?=w.heap[gt]?:=hW.block _ h.taken.lt;have htk:=h.taken;obtain⟨Y,HY⟩:∃Y:Prop,Y=(∀i x W1,(eu S S.N)[i]?=some x→J i W1→YieldAt Fence.wide (n-1) Tryz.prog l #[Value.int .i64 (x:Nat)] W1 fun e W'=>e=.returned (.bool true)∧J (i+1) W'∧Kx p W1 W'):=⟨_,rfl⟩;have hy0:Y:=HY ▸ hY;have HS:=Lib.hid (show S.N≤1048577 from hb);obtain⟨N,hN⟩:∃N,N=S.N:=⟨_,rfl⟩;have c0:=au hc0 0 rfl;have c1:=au hr0 1 rfl;rw[←hN]at c1;have hN1:N≤1048577:=by rw[hN];exact hb
 have HN:=Lib.hid hN;clear hN hb hY;refine callsIn_of_wp Tryz.func193 rfl trivial ?_ rfl;simp only[Tryz.ntmps193,List.size_toArray,List.length_cons,List.length_nil,Nat.reduceAdd,Nat.reduceSub,Array.replicate_succ,Array.replicate_zero,List.push_toArray,List.append_toArray,List.nil_append,List.cons_append]
 gi_wp2
 gi_loopw [3,11,12,13,14,15,16,17,18,19,20,21,22,23,24,25,26,27] (fun v3 v11 v12 v13 v14 v15 v16 v17 v18 v19 v20 v21 v22 v23 v24 v25 v26 v27 wr=>∃j:Nat,j≤N∧v11=.int .i64 (j:Nat)∧J (eu S j).length wr∧wr.heap[pb]?=w.heap[pb]?∧wr.heap[gt]?=w.heap[gt]?∧wr.heap[c]?=w.heap[c]?)
  (fun v3 v11 v12 v13 v14 v15 v16 v17 v18 v19 v20 v21 v22 v23 v24 v25 v26 v27 wr=>Nt N v11)
 case atStart=>exact⟨0,Nat.zero_le _,rfl,h0 _ (Below.refl _ _),hW.block _ (aV h.row),ht0,hW.block _ (aV hc)⟩
 case round=>
  obtain⟨j,hj,rfl,hJ0,e1,e2,e3⟩:=hrel;have c0:=au (e3.trans hc) 0 rfl;have c2:=au (e1.trans h.row) 2 rfl;have HR:=Lib.hid (show wr.heap[gt]?=w.heap[gt]? from e2)
  by_cases hlt:j<N
  ·have tk:=(htk.kept e2).cell (i:=j) (j:=0) (by rw[←HN];exact hlt) (by omega);rw[←HN]at c2;simp only[Nat.mul_one,Nat.add_zero,List.getElem?_cons_zero]at tk
   have tf:wr.frozen? ⟨gt,j,none⟩=false:=by
    have:=(htk.kept e2).frozen j;exact this
   have hjlt:(j:Int)<(N:Int):=by omega
   cases ht:(S.nd j).isSome with
   |false=>
    rw[ht]at tk
    gi_wp2
    refine⟨fun _ h=>(by cases h),?_⟩
    gi_wp2
    go_roundw
    case rel=>exact⟨j+1,by omega,by simp,by rw[lW,ht];exact hJ0,e1,HR,e3⟩
    case measure=>simp[Nt];omega
   |true=>
    rw[ht]at tk
    have hG:∀W3,Kx p wr W3→W3.heap[gt]?=w.heap[gt]?:=fun W3 hk3=>by
     obtain⟨o,ho⟩:∃o,wr.heap[gt]?=some o:=⟨_,Array.getElem?_eq_getElem (htk.kept HR).lt⟩;exact(hk3.2 gt _ ho (pt _)).trans (ho.symm.trans HR)
    obtain⟨fn,tmps,assign,body,hy,hR⟩:=(HY ▸ hy0) _ _ wr (by rw[←HN];exact Ns S N j hlt ht) hJ0
    gi_wp2
    refine hR.mono ?_;rintro e W3 ⟨rfl,hJ3,hk3⟩
    gi_wp2
    go_roundw
    case rel=>exact⟨j+1,by omega,by simp,by rw[lW,ht];simpa using hJ3,(hk3.2 pb _ (e1.trans h.row) (pp _)).trans h.row.symm,hG W3 hk3,(hk3.2 c _ (e3.trans hc) pc).trans hc.symm⟩
    case measure=>simp[Nt];omega
  ·obtain rfl:j=N:=by omega
   gi_wp2
   go_end0
   exact⟨⟨_,rfl⟩,by rw[←HN];exact hJ0⟩
section
def uL(ops:Array Oper):Bool:=ops.all fun o=>match o.op with|.defer _=>false|_=>true
theorem EU{ops:Array Oper}(h:uL ops=true){i:Nat}{o:Oper}(hi:ops[i]?=some o):∀c,o.op≠.defer c:=by
 intro c e;have h1:=Array.all_eq_true'.1 h o (Array.mem_of_getElem? hi);rw[e]at h1;cases h1
/-- Fences that let everything in,however deep. -/
structure Open(F:Fence)(P:Program):Prop where
 fn:∀f,F.fn f
 depth:F.depth=none
 call:∀{m:Nat}{f:FuncId}{args:Array Value}{w:World}{R:Ending→World→Prop},Calls P f args w R→CallsIn F m P f args w R
theorem sM{P:Program}:Open Fence.wide P:=⟨fun _=>trivial,rfl,fun h=>callsIn_wide.2 h⟩
theorem pX{P:Program}(l:Nat):Open (Fence.wide.inRound l) P:=⟨fun _=>trivial,rfl,fun h=>(callsIn_wide.2 h).inRound l⟩
section
variable {P:Program} {F:Fence} {m:Nat} {ops:Array Oper} {md:Region.Mode} {w:World} {Q':Exit→Act→World→Prop}
theorem EW(hF:Open F P)(hnd:uL ops=true){i:Nat}{a:Act}{K:Act→Prop}{K':Act→World→Prop}(h:∀a,K a→K' a w)(hh:stOp P ops w i K a):wpOpIn F m P ops Q' i K' a w:=by
 unfold stOp at hh;unfold wpOpIn
 split
 ·rename_i ho
  simp only[ho]at hh;exact h _ hh
 ·rename_i o ho
  simp only[ho]at hh
  split
  ·rename_i hw
   simp only[hw,if_true]at hh;refine⟨fun f _=>hF.fn f,?_⟩;rw[Oper.semAt_plain F _ _ (EU hnd ho)];unfold Oper.still at hh
   generalize (execOp a.eval o).run P w=r at *
   cases r with
   |ok x w'=>
    cases x<;>simp only[Oper.stillUpon]at hh<;>simp only[Oper.uponIn]
    case enter f args=>
     obtain⟨rfl,v,hc,hn⟩:=hh;exact⟨fun hd=>(by rw[hF.depth]at hd;cases hd),(hF.call hc).mono fun e w'' ⟨he,hw⟩=>by subst he;subst hw;exact h _ hn⟩
    all_goals (obtain⟨rfl,h2⟩:=hh;exact h _ h2)
   |halt x w'=>simp only[Oper.stillUpon]at hh
  ·rename_i hw
   simp only[hw]at hh;exact⟨fun f _=>hF.fn f,h _ hh⟩
theorem EX(hF:Open F P)(hnd:uL ops=true){n g:Nat}{L:Array Bool→Act→Prop}(hL:∀listed a,L listed a→wpAnyIn F m P md ops Q' g listed a w) :
 ∀(f:Nat)(listed:Array Bool)(a:Act),wpAnyL P md ops w n L f listed a→wpAnyIn F m P md ops Q' (f+g) listed a w:=by
 intro f
 induction f with
 |zero=>intro listed a h;rw[Nat.zero_add];exact hL _ _ h
 |succ f ih=>
  intro listed a h;rw[show f+1+g=(f+g)+1 by omega];exact⟨fun h0=>absurd h0 h.1,fun i hi=>EW hF hnd (fun a' h'=>ih _ a' h') (h.2 i hi).2⟩
theorem JJ:∀(l:List Oper) (k:Nat) (listed:Array Bool) (a:Act) (w:World),(∀j,l[j]?=ops[k+j]?) →
 Region.seqB md ops l.length k listed=true→wpListIn F m P ops Q' l a w→wpAnyIn F m P md ops Q' l.length listed a w:=by
 intro l
 induction l with
 |nil=>intro k listed a w hl hB h;exact⟨by simpa[Region.seqB]using hB,h⟩
 |cons o l ih=>
  intro k listed a w hl hB h;have h0:ops[k]?=some o:=by simpa using(hl 0).symm
  simp only[List.length_cons,Region.seqB,Bool.and_eq_true,decide_eq_true_eq]at hB;refine⟨fun h1=>(by rw[hB.1]at h1;cases h1),fun i hi=>?_⟩;rw[hB.1]at hi;obtain rfl:i=k:=by simpa using hi
  have hw:wpOpIn F m P ops Q' i (wpListIn F m P ops Q' l) a w:=by unfold wpOpIn;simp only[h0];exact h
  exact wpOpIn_mono (fun a' w' h'=>ih (i+1) _ a' w' (fun j=>by have:=hl (j+1);simpa[Nat.add_assoc,Nat.add_comm 1 j]using this) hB.2 h') hw
end
/-- The region's law. -/
theorem oC{P:Program}{F:Fence}{m:Nat}(hF:Open F P){id:Nat}{Q:Exit→Act→World→Prop}{a:Act}{w:World}{l:List Oper}(n:Nat)(hm:P.follows .mixedOrders=true)(hnd:uL l.toArray=true)(hB:Region.lexTailB .any l.toArray n=true)
 (h:wpStill P l.toArray w.drew (fun a'=>wpListIn F m P l.toArray Q (l.drop n) a' w.drew) (l.take n) a):(Code.region id l.toArray true).wpIn F m P Q a w:=by
 simp only[Region.lexTailB,Bool.and_eq_true,decide_eq_true_eq]at hB;obtain⟨⟨⟨⟨hsel,hn⟩,hs⟩,hc⟩,hlex⟩:=hB;have hn':n<l.length:=by simpa using hn
 have htl:(l.take n).length=n:=by simp;omega
 have hdl:(l.drop n).length=l.toArray.size-n:=by simp
 have inv0:HeadInv .any l.toArray n (Array.replicate l.toArray.size false):=
  ⟨by simp,fun j oj _ hl=>(by rw[getD_replicate_false]at hl;cases hl),fun t _ ht=>getD_in (by simpa using ht) (getD_replicate_false _ _)⟩
 have H:=wpAnyL_lex (md:=.any) (g:=l.toArray.size-n) hsel hs hc hn (l.take n) 0 _ a (fun j hj=>by
  have hj':j<n:=by rw[htl]at hj;exact hj
  simp[hj']) (by simpa using htl) inv0 (by rw[htl];exact hlex) h
 refine wpIn_region_any hm ?_
 have:=EX (Q':=Q) (m:=m) (g:=l.toArray.size-n) hF hnd (fun listed a' hL=>by
  have:=JJ (F:=F) (m:=m) (md:=.any) (Q':=Q) (l.drop n) n listed a' w.drew (fun j=>by simp[List.getElem?_drop]) (by rw[hdl];exact hL.1) hL.2
  rwa [hdl]at this) _ _ _ H
 rw[htl,show n+(l.toArray.size-n)=l.toArray.size by omega]at this;exact this
theorem Ij{β:Type}{B:Nat}{I:β→World→Prop}(h:OwnFrom B I){s:β}{W:World}(hs:I s W):I s W.drew:=
 h s W _ none hs ⟨rfl,rfl,rfl,Nat.le_refl _,fun _ _ _=>rfl⟩ (fun r e=>by cases e)
end
end Go.Proofs.YtpijlhlpejlhhaaGreat
