/- A drawn region in which a store comes up behind all loads: what the loads read is held till that store comes up. -/
import Derived.Test.YtpijlhlpejlhhaaGreatVMnA
namespace Go.Proofs.YtpijlhlpejlhhaaGreat
open Go.RowKit
set_option linter.unusedVariables false
section
variable {P:Program} {ops:Array Oper} {Q:Exit→Act→World→Prop} {md:Region.Mode} {S0 D:World→Prop} {st:Nat}
/-- S0 holds;till operation st comes up D holds too. -/
def hsL(S0 D:World→Prop)(st:Nat)(listed:Array Bool)(w:World):Prop:=S0 w∧(listed.getD st true=false→D w)
def jP(P:Program)(md:Region.Mode)(ops:Array Oper)(Q:Exit→Act→World→Prop)(S0 D:World→Prop)(st:Nat):Nat→Array Bool→Act→World→Prop
 |0,listed,a,w=>Region.ready md ops listed=[]∧Q .normal a w
 |fuel+1,listed,a,w=>
  (Region.ready md ops listed=[]→Q .normal a w) ∧
  ∀i∈Region.ready md ops listed,wpOp P ops Q i (fun a' w'=>hsL S0 D st (listed.setIfInBounds i true) w'∧jP P md ops Q S0 D st fuel (listed.setIfInBounds i true) a' w') a w
theorem wI:∀(fuel:Nat) (listed:Array Bool) (a:Act) (w:World),jP P md ops Q S0 D st fuel listed a w→wpAny P md ops Q fuel listed a w
 |0,_,_,_,h=>h
 |fuel+1,_,_,_,h=>⟨h.1,fun i hi=>wpOp_mono (fun a' w' h'=>wI fuel _ a' w' h'.2) (h.2 i hi)⟩
theorem AZ{i:Nat}{oi:Oper}{v:Value}(c:Bool)(hi:ops[i]?=some oi)(hsel:∀(j:Nat) (o:Oper) cs b,ops[j]?=some o→o.op≠.select cs b)
 (hQ:∀c a w,Q (.panic c) (a.put oi.dst v) w→Q (.panic c) a w) (hne:st≠i) (hc:c=true→∃os,ops[st]?=some os∧∃e∈os.after,Region.binds md e=true∧e.on=i) :
 ∀(fuel:Nat)(listed:Array Bool)(a:Act)(w:World),
  (∀j oj,ops[j]?=some oj→j≠i→listed.getD j true=false→(∀e∈oj.after,Region.binds md e=true→e.on≠i)→oi.apart ops oj=true) →
  i∈Region.ready md ops listed→YieldsIf P ops (fun w=>S0 w∧(c=true→D w)) oi v a→S0 w→(listed.getD st true=false→D w)→(c=true→listed.getD st true=false) →
  jP P md ops Q S0 D st fuel (listed.setIfInBounds i true) (a.put oi.dst v) w→jP P md ops Q S0 D st (fuel+1) listed a w:=by
 have up:∀{listed:Array Bool}{w:World},S0 w→(listed.getD st true=false→D w)→hsL S0 D st (listed.setIfInBounds i true) w:=fun{listed w} h1 h2=>⟨h1,fun h3=>h2 (by rwa [getD_set_ne true (fun e=>hne e.symm)]at h3)⟩;intro fuel
 induction fuel with
 |zero=>
  intro listed a w _ hr hy hS hD hst H;refine⟨fun h=>(by rw[h]at hr;cases hr),fun j hj=>?_⟩
  by_cases hji:j=i
  ·subst hji;exact hy.wpOp hi ⟨hS,fun h=>hD (hst h)⟩ ⟨up hS hD,H⟩
  ·have:=ready_mono hj hji;rw[H.1]at this;cases this
 |succ fuel ih=>
  intro listed a w hfree hr hy hS hD hst H;refine⟨fun h=>(by rw[h]at hr;cases hr),fun j hj=>?_⟩
  by_cases hji:j=i
  ·subst hji;exact hy.wpOp hi ⟨hS,fun h=>hD (hst h)⟩ ⟨up hS hD,H⟩
  ·have h1:=H.2 j (ready_mono hj hji);obtain⟨hjun,oj,hoj,hall⟩:=mem_ready.1 hj
   have hnot:∀e∈oj.after,Region.binds md e=true→e.on≠i:=fun e he hb heq=>by
    have h1:=hall e he hb;have h0:=(mem_ready.1 hr).1;rw[heq]at h1
    rcases Nat.lt_or_ge i listed.size with h'|h'
    ·simp[h']at h0 h1;rw[h0]at h1;cases h1
    ·simp[Array.getElem?_eq_none h']at h1
   have h2:=wpOp_putIf hoj (hfree j oj hoj hji hjun hnot) (fun cs b=>hsel i oi cs b hi) (fun cs b=>hsel j oj cs b hoj) hQ hy h1
   have hfree':∀k ok,ops[k]?=some ok→k≠i→(listed.setIfInBounds j true).getD k true=false →
    (∀e∈ok.after,Region.binds md e=true→e.on≠i)→oi.apart ops ok=true:=fun k ok hk hki hun hno=>by
    refine hfree k ok hk hki ?_ hno
    by_cases hjk:j=k
    ·subst hjk;exact hjun
    ·rw[getD_set_ne true hjk]at hun;exact hun
   have hst':c=true→(listed.setIfInBounds j true).getD st true=false:=fun h=>by
    obtain⟨os,hos,e,he,hb,heq⟩:=hc h
    have hne:j≠st:=fun e2=>by
     subst e2;rw[hos]at hoj;cases hoj;exact hnot e he hb heq
    rw[getD_set_ne true hne];exact hst h
   refine wpOp_mono (fun a' w' h3=>?_) h2;have hD':(listed.setIfInBounds j true).getD st true=false→D w':=fun h=>h3.2.1.2 (by rw[Array.setIfInBounds_comm _ _ (fun e2=>hji e2.symm),getD_set_ne true (fun e=>hne e.symm)];exact h);exact⟨⟨h3.2.1.1,hD'⟩,ih (listed.setIfInBounds j true) a' w' hfree' (ready_mono hr (Ne.symm hji)) h3.1 h3.2.1.1 hD' hst' (by rw[Array.setIfInBounds_comm _ _ hji];exact h3.2.2)⟩
/-- st waits for i. -/
def Om(md:Region.Mode)(ops:Array Oper)(st i:Nat):Bool:=(ops[st]?).any fun os=>os.after.any fun e=>Region.binds md e&&decide (e.on=i)
theorem UY{fuel:Nat}{listed:Array Bool}{a:Act}{w:World}(c:Bool)(i:Nat){oi:Oper}{v:Value}(hi:ops.toList[i]?=some oi)(hy:∀w0,S0 w0→(c=true→D w0)→(execOp a.eval oi).run P w0=.ok (.value v) w0)
 (h:hsL S0 D st (listed.setIfInBounds i true) w→jP P .any ops Q S0 D st fuel (listed.setIfInBounds i true) (a.put oi.dst v) w) (hS:hsL S0 D st listed w:=by assumption) (hw:Region.wanted oi (yielded ops a.tmps)=true:=by rfl) (hs:Region.noSelect ops=true:=by kernel_rfl) (hf:Region.free .any ops listed i=true:=by kernel_rfl) (hr:(Region.ready .any ops listed).contains i=true:=by decide +kernel)
 (hc:(decide (st≠i)&&(!c||(Om .any ops st i&&!listed.getD st true)))=true:=by decide +kernel) (hQ:∀c a w,Q (.panic c) (a.put oi.dst v) w→Q (.panic c) a w:=by exact fun _ _ _ h=>h):jP P .any ops Q S0 D st (fuel+1) listed a w:=by
 simp only[Bool.and_eq_true,Bool.or_eq_true,Bool.not_eq_true',decide_eq_true_iff]at hc;refine AZ c (by simpa using hi) (Region.noSelect_spec hs) hQ hc.1 (fun h=>?_) fuel listed a w (Region.free_spec (by simpa using hi) hf) (by simpa using hr) (.inl ⟨hw,fun w0 h0=>hy w0 h0.1 h0.2⟩) hS.1 hS.2 (fun h=>?_) (h ⟨hS.1,fun h3=>hS.2 (by rwa [getD_set_ne true (fun e=>hc.1 e.symm)]at h3)⟩)
 ·rcases hc.2 with h2|h2
  ·rw[h2]at h;cases h
  ·have h3:=h2.1;unfold Om at h3
   cases ho:ops[st]? with
   |none=>rw[ho]at h3;cases h3
   |some os=>
    rw[ho]at h3;simp only[Option.any_some,Array.any_eq_true,Bool.and_eq_true,decide_eq_true_iff]at h3;obtain⟨k,hk,h4,h5⟩:=h3;exact⟨os,rfl,os.after[k],Array.getElem_mem hk,h4,h5⟩
 ·rcases hc.2 with h2|h2
  ·rw[h2]at h;cases h
  ·exact h2.2
def dN(P:Program)(ops:Array Oper)(Q:Exit→Act→World→Prop)(S0 D:World→Prop)(st fuel:Nat)(listed:Array Bool)(a:Act)(w:World)(rs:List Nat):Prop:=
 ∀i∈rs,wpOp P ops Q i (fun a' w'=>hsL S0 D st (listed.setIfInBounds i true) w'∧jP P .any ops Q S0 D st fuel (listed.setIfInBounds i true) a' w') a w
theorem dN.nil{fuel:Nat}{listed:Array Bool}{a:Act}{w:World}:dN P ops Q S0 D st fuel listed a w []:=fun _ h=>by cases h
theorem dN.cons{fuel:Nat}{listed:Array Bool}{a:Act}{w:World}{i:Nat}{o:Oper}{rs:List Nat}(ho:ops.toList[i]?=some o)
 (h:∀K':Act→World→Prop,Shut (∀a w,hsL S0 D st (listed.setIfInBounds i true) w→(hsL S0 D st (listed.setIfInBounds i true) w→jP P .any ops Q S0 D st fuel (listed.setIfInBounds i true) a w)→K' a w)→if Region.wanted o (yielded ops a.tmps)=true then Oper.wp P o a w K' Q else K' (a.put o.dst undef) w)
 (hs:dN P ops Q S0 D st fuel listed a w rs):dN P ops Q S0 D st fuel listed a w (i::rs):=fun j hj=>by
 rcases List.mem_cons.1 hj with rfl|hj
 ·exact wpOp_step (by simpa using ho) (fun K' hK=>h K' (fun a w hS hW=>hK a w ⟨hS,hW hS⟩))
 ·exact hs j hj
theorem jB{rs:List Nat}{fuel:Nat}{listed:Array Bool}{a:Act}{w:World}(hr:Region.ready .any ops listed=rs)(hne:rs≠[])(h:dN P ops Q S0 D st fuel listed a w rs):jP P .any ops Q S0 D st (fuel+1) listed a w:=
 ⟨fun h0=>absurd (hr ▸ h0) hne,hr ▸ h⟩
theorem DF{listed:Array Bool}{a:Act}{w:World}(hr:Region.ready .any ops listed=[])(h:Q .normal a w):∀fuel,jP P .any ops Q S0 D st fuel listed a w
 |0=>⟨hr,h⟩
 |_+1=>⟨fun _=>h,by rw[hr];simp⟩
theorem sS{id:Nat}{a:Act}{w:World}(hm:P.follows .mixedOrders=true)(hS:hsL S0 D st (Array.replicate ops.size false) w.drew)
 (h:hsL S0 D st (Array.replicate ops.size false) w.drew→jP P .any ops Q S0 D st ops.size (Array.replicate ops.size false) a w.drew):(Code.region id ops true).wp P Q a w:=
 wp_region_any hm (wI _ _ _ _ (h hS))
theorem isAny{P:Program}{ops:Array Oper}{o:Oper}{a:Act}{w:World}{K:Act→World→Prop}{Q:Exit→Act→World→Prop}{E:Prop}(h:Oper.wp P o a w K Q)(hw:Region.wanted o (yielded ops a.tmps)=true:=by rfl):if Region.wanted o (yielded ops a.tmps)=true then Oper.wp P o a w K Q else E:=by rw[if_pos hw];exact h
theorem lY{P:Program}{t e k bytes n:Nat}{v:Value}{E:Nat→List Value}{o:Oper}{a:Act}{Q:Exit→Act→World→Prop}{K:Act→World→Prop}(w:World)(s x:Operand)(hop:o.op=Op.call {callee:=Callee.builtin Builtin.append,args:=#[s,x],argTypes:=#[t,t]})
 (hI:dS P t e k bytes) (hs:a.eval s=v) (h:Sl w e k v n E) {B:Nat} {cs:Array Value} {T0:TypeId} {fr:Nat×Nat} (hx:a.eval x=.slice (some ⟨B,0,none⟩) 1 1) (hB:w.heap[B]?=some (.cells cs T0 fr)) (hc:cs.size=k) (h1:∀u∈cs.toList,u.oneCell'=true) (hn:n<1073741824)
 (hK:∀g cap w',bY w e k v n 1 (fun q=>if q=n then cs.toList else E q) g cap w'→K (a.put o.dst (.slice (some ⟨g,0,none⟩) (n+1) cap)) w'):Oper.wp P o a w K Q:=by
 obtain⟨g,cap,w',hrun,hq⟩:=nC hI h hB hc h1 hn o.type;unfold Oper.wp;simp[execOp,hop,resolve,invoke,builtin,hs,hx,hrun,Result.andThen];exact hK g cap w' hq
end
end Go.Proofs.YtpijlhlpejlhhaaGreat
