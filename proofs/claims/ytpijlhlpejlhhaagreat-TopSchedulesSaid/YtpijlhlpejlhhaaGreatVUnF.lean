/- Walk: the table's iterator. -/
import Derived.Test.YtpijlhlpejlhhaaGreatVUnD
import Derived.Test.YtpijlhlpejlhhaaGreatVPlI
namespace Go.Proofs.YtpijlhlpejlhhaaGreat
open Go.RowKit
set_option linter.unusedVariables false
set_option maxRecDepth 100000
set_option maxHeartbeats 8000000
attribute [local go_sem] Oper.semAt_some
theorem gu{P:Program}{F:Fence}{m:Nat}{t e k bytes n:Nat}{v:Value}{E:Nat→List Value}{ops:Array Oper}{rest:List Oper}{o:Oper}{a:Act}{Q:Exit→Act→World→Prop}(w:World)(hg:o.guard=none)(s x:Operand)(t:TypeId)(hop:o.op=Op.call {callee:=Callee.builtin Builtin.append,args:=#[s,x],argTypes:=#[t,t]})
 (hI:dS P t e k bytes) (hs:a.eval s=v) (h:Sl w e k v n E) {B:Nat} {cs:Array Value} {T0:TypeId} {fr:Nat×Nat} (hx:a.eval x=.slice (some ⟨B,0,none⟩) 1 1) (hB:w.heap[B]?=some (.cells cs T0 fr)) (hc:cs.size=k) (h1:∀u∈cs.toList,u.oneCell'=true) (hn:n<1073741824)
 (hK:∀g cap w',bY w e k v n 1 (fun q=>if q=n then cs.toList else E q) g cap w'→wpListIn F m P ops Q rest (a.put o.dst (.slice (some ⟨g,0,none⟩) (n+1) cap)) w'):wpListIn F m P ops Q (o::rest) a w:=by
 refine wpListIn_plain hg fun K hK'=>?_;obtain⟨g,cap,w',hrun,hq⟩:=nC hI h hB hc h1 hn o.type;unfold Oper.wpIn;refine⟨?_,?_⟩
 ·simp[Oper.about,hop,resolve,Target.leads,Sem.run_pure]
 ·rw[Oper.semAt_plain F _ _ (by rw[hop];intro c hc';cases hc')];simp[execOp,hop,resolve,invoke,builtin,hs,hx,hrun,Result.andThen];exact hK' _ _ (hK g cap w' hq)
theorem aay:dS Tryz.prog 245 217 2 16:=dS.mk (z:=.agg #[.int .i64 0,.int .i64 0]) (by kernel_rfl) (by kernel_rfl) (by decide) (by decide) rfl
theorem E8{w:World}{tb:Nat}:Calls Tryz.prog 179 #[.pointer (some ⟨tb,0,none⟩)] w fun e w'=>e=.returned (.func (.func 189) #[] #[.pointer (some ⟨w.heap.size,0,none⟩)])∧w'=w.alloc (.cells #[.pointer (some ⟨tb,0,none⟩)] 198):=by
 go_in
 go_wp2
 go_ret;exact⟨rfl,rfl⟩
def kv(x:TK):Nat×Nat:=x.1
/-- The keys collected so far. -/
structure NC(W:World)(mb r c:Nat)(f:Nat→Nat→Option Nat)(v:Value)(cnt:Nat)(wr:World):Prop where
 ex:∃ks:List TK,xC jh wr mb r c (dY f) (ks.map kv) cnt∧Sl wr 217 2 v ks.length (fun i=>kG (ks.getD i default))
 new:∀g n c,v=.slice (some ⟨g,0,none⟩) n c→W.heap.size≤g
 below:Below W.heap.size W wr
theorem Da{t:MT Tryz.prog (Nat×Nat) Int}{w:World}{b r c cnt:Nat}{f:Nat×Nat→Option Int}{done:List (Nat×Nat)}(h:xC t w b r c f done cnt){q:Nat}{cs:Array Value}{T:TypeId}{z:Nat×Nat}(hq:w.heap[q]?=some (.cells cs T z)):q≠r∧q≠b:=by
 obtain⟨⟨D,lf,h1,-⟩,-⟩:=h;obtain⟨es,clock,since,seen,c0,hb,F,hs,hD,hr,-⟩:=h1
 constructor
 ·rintro rfl;rw[hr]at hq;cases hq
 ·rintro rfl;rw[hb]at hq;cases hq
theorem Sl.blk{w:World}{T k n:Nat}{v:Value}{E:Nat→List Value}(h:Sl w T k v n E){q:Nat}(hq:v.ownBlock=some q):(∃cap,v=.slice (some ⟨q,0,none⟩) n cap)∧∃cs z,w.heap[q]?=some (.cells cs T z):=by
 rcases h with⟨rfl,-⟩|⟨g,cap,rfl,hr⟩
 ·cases hq
 ·cases hq;obtain⟨⟨cur,h1,-⟩,-⟩:=hr;exact⟨⟨cap,rfl⟩,cur,_,h1⟩
theorem NC.step{W wr w2 w4:World}{mb r c cnt cnt2 g cap:Nat}{f:Nat→Nat→Option Nat}{v:Value}{ks:List TK}(x:TK)(hsl:Sl wr 217 2 v ks.length (fun i=>kG (ks.getD i default)))
 (hnew:∀g n c,v=.slice (some ⟨g,0,none⟩) n c→W.heap.size≤g) (hbl:Below W.heap.size W wr) (hwr:W.heap.size≤r) (hr:xC jh wr mb r c (dY f) (ks.map kv) cnt) (hr2:xC jh w2 mb r c (dY f) (ks.map kv++[kv x]) cnt2) (g2:wr.grownBy w2 (some r)) (o1 o2:Obj)
 (hq:bY ((w2.alloc o1).alloc o2) 217 2 v ks.length 1 (fun q=>if q=ks.length then kG x else kG (ks.getD q default)) g cap w4):NC W mb r c f (.slice (some ⟨g,0,none⟩) (ks.length+1) cap) cnt2 w4:=by
 have h3:xC jh ((w2.alloc o1).alloc o2) mb r c (dY f) (ks.map kv++[kv x]) cnt2:=(hr2.kept (World.grownBy_alloc w2 o1 none) (by simp) (by simp)).kept (World.grownBy_alloc _ o2 none) (by simp) (by simp);have hg4:((w2.alloc o1).alloc o2).grownBy w4 v.ownBlock:=⟨hq.only.os,hq.only.tape,hq.only.output,hq.only.size,fun k hk hne=>hq.only.block k hk (fun e=>hne e.symm)⟩;have hb2:Below W.heap.size W ((w2.alloc o1).alloc o2):=((hbl.grown g2 hbl.size (fun k e=>by cases e;exact hwr)).alloc (Nat.le_trans hbl.size g2.size) _).alloc (by simp;exact Nat.le_trans (Nat.le_trans hbl.size g2.size) (Nat.le_succ _)) _
 have hc2:∀q,v.ownBlock=some q→W.heap.size≤q∧q≠r∧q≠mb:=fun q e=>by
  obtain⟨⟨cap',e1⟩,cs,z,e2⟩:=hsl.blk e;exact⟨hnew _ _ _ e1,Da hr e2⟩
 refine⟨⟨ks++[x],?_,?_⟩,?_,?_⟩
 ·have:=h3.kept hg4 (fun e=>(hc2 mb e.symm).2.2 rfl) (fun e=>(hc2 r e.symm).2.1 rfl);rw[List.map_append];exact this
 ·refine .inr ⟨g,cap,by simp,?_⟩;have:=hq.row;refine Rw.congr (by simpa using this) (fun i hi j hj=>?_)
  by_cases e:i=ks.length
  ·subst e;simp[List.getD]
  ·rw[if_neg e];simp only[List.length_append,List.length_cons,List.length_nil]at hi;rw[show(ks++[x]).getD i default=ks.getD i default from by simp[List.getD,List.getElem?_append,show i<ks.length by omega]]
   rfl
 ·intro g' n' c' e;cases e
  rcases hq.at' with h1|h1
  ·exact(hc2 _ h1).1
  ·exact Nat.le_trans (Nat.le_trans (Nat.le_trans hbl.size g2.size) (by simp only[World.size_alloc];omega)) h1
 ·exact hb2.grown hg4 hb2.size (fun k e=>(hc2 k e).1)
end Go.Proofs.YtpijlhlpejlhhaaGreat
