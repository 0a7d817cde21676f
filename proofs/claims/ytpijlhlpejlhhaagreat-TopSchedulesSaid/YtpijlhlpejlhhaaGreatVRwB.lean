/- Walks and plain words: RwB RwC. -/
import Derived.Test.YtpijlhlpejlhhaaGreatVTsm
import Derived.ArgAppend
import Derived.Deep.AppendLies
namespace Go.Proofs.YtpijlhlpejlhhaaGreat
open Go.RowKit
set_option linter.unusedVariables false
section
section
variable {w w':World} {T k n cap g:Nat} {E E':Nat→List Value} {v:Value}
theorem Rw.congr(h:Rw w T k n cap g E)(he:∀i,i<n→∀j,j<k→(E' i)[j]?=(E i)[j]?):Rw w T k n cap g E':=by
 obtain⟨⟨cur,h1,h2,h3⟩,h4⟩:=h;exact⟨⟨cur,h1,h2,fun i hi j hj=>(h3 i hi j hj).trans (he i hi j hj).symm⟩,h4⟩
theorem jK(b:Nat):∀(vs:List Value)(o:Nat)(w:World)(q:Nat),q≠b→(w.setCells b o vs).heap[q]?=w.heap[q]?
 |[],_,_,_,_=>rfl
 |v::vs,o,w,q,hq=>(jK b vs (o+1) (w.setCell ⟨b,o,none⟩ v) q hq).trans (heap_setCell_other w ⟨b,o,none⟩ q v hq)
theorem iJ{T:TypeId}(b:Nat):∀(vs:List Value)(o:Nat)(w:World)(cur:Array Value),w.heap[b]?=some (.cells cur T (0,0))→o+vs.length≤cur.size →
 ∃cur',(w.setCells b o vs).heap[b]?=some (.cells cur' T (0,0))∧cur'.size=cur.size∧∀i,cur'[i]?=if o≤i∧i<o+vs.length then vs[i-o]? else cur[i]?
 |[],o,w,cur,h,_=>⟨cur,h,rfl,fun i=>by rw[if_neg (by simp)]⟩
 |v::vs,o,w,cur,h,hs=>by
  simp only[List.length_cons]at hs;obtain⟨cur',a1,a2,a3⟩:=iJ (T:=T) b vs (o+1) (w.setCell ⟨b,o,none⟩ v) (cur.setIfInBounds o v) (by simp[World.setCell,Array.getElem?_modify,h]) (by rw[Array.size_setIfInBounds];omega);refine⟨cur',a1,by simpa using a2,fun i=>?_⟩;rw[a3 i]
  by_cases h1:i=o
  ·subst h1;rw[if_neg (by omega),if_pos ⟨Nat.le_refl _,by simp⟩];simp only[Nat.sub_self,List.getElem?_cons_zero];rw[Array.getElem?_setIfInBounds];simp;omega
  ·by_cases h2:o+1≤i∧i<o+1+vs.length
   ·rw[if_pos h2,if_pos ⟨by omega,by simp only[List.length_cons];omega⟩,show i-o=(i-(o+1))+1 from by omega,List.getElem?_cons_succ]
   ·rw[if_neg h2,if_neg (by simp only[List.length_cons];omega),Array.getElem?_setIfInBounds,if_neg (fun e=>h1 e.symm)]
theorem kD(b:Nat):∀(vs:List Value)(o:Nat)(w:World),(w.setCells b o vs).os=w.os∧(w.setCells b o vs).tape=w.tape∧(w.setCells b o vs).output=w.output∧(w.setCells b o vs).heap.size=w.heap.size
 |[],_,_=>⟨rfl,rfl,rfl,rfl⟩
 |v::vs,o,w=>by
  obtain⟨h1,h2,h3,h4⟩:=kD b vs (o+1) (w.setCell ⟨b,o,none⟩ v);exact⟨h1,h2,h3,by rw[show(w.setCells b o (v::vs))=(w.setCell ⟨b,o,none⟩ v).setCells b (o+1) vs from rfl,h4];simp⟩
/-- A whole element is written. -/
theorem Rw.Ub(h:Rw w T k n cap g E){i:Nat}(hi:i<n){vs:List Value}(hl:vs.length=k):Rw (w.setCells g (i*k) vs) T k n cap g (fun q=>if q=i then vs else E q):=by
 obtain⟨⟨cur,h1,h2,h3⟩,h4⟩:=h;have hik:(i+1)*k≤cap*k:=Nat.mul_le_mul_right k (by omega);rw[Nat.add_mul]at hik;obtain⟨cur',b1,b2,b3⟩:=iJ (T:=T) g vs (i*k) w cur h1 (by omega);refine⟨⟨cur',b1,by omega,fun q hq j hj=>?_⟩,h4⟩;rw[b3]
 by_cases e:q=i
 ·subst e;rw[if_pos ⟨by omega,by omega⟩,if_pos rfl];congr 1;omega
 ·rw[if_neg e,if_neg,h3 q hq j hj]
  rcases Nat.lt_or_gt_of_ne e with h9|h9
  ·have:(q+1)*k≤i*k:=Nat.mul_le_mul_right k (by omega);rw[Nat.add_mul]at this;omega
  ·have:(i+1)*k≤q*k:=Nat.mul_le_mul_right k (by omega);rw[Nat.add_mul]at this;omega
theorem Rw.some(h:Rw w T k n cap g E)(hE:∀i,i<n→(E i).length=k){i j:Nat}(hi:i<n)(hj:j<k):∃v,w.cell? ⟨g,i*k+j,none⟩=some v:=by
 rw[h.cell hi hj];exact⟨_,List.getElem?_eq_getElem (by rw[hE i hi];exact hj)⟩
theorem qL{R:Nat→Prop}{K K':Nat→Nat}{w0:World}{b:Nat}(hR:R (K' b)):∀(vs:List Value)(o:Nat)(w:World),aj R K w0 K' w→b<w.heap.size→aj R K w0 K' (w.setCells b o vs)
 |[],_,_,h,_=>h
 |v::vs,o,w,h,hb=>qL hR vs (o+1) _ (h.iI hR hb v) (by simpa using hb)
/-- A slice of n elements of k cells each. -/
def Sl(w:World)(T k:Nat)(v:Value)(n:Nat)(E:Nat→List Value):Prop:=(v=.slice none 0 0∧n=0)∨∃g cap,v=.slice (some ⟨g,0,none⟩) n cap∧Rw w T k n cap g E
/-- Its block,if it has one,has role r. -/
def j4(K:Nat→Nat)(r:Nat)(v:Value):Prop:=∀g n c,v=.slice (some ⟨g,0,none⟩) n c→K g=r
theorem Sl.kept(h:Sl w T k v n E)(hb:∀g m c,v=.slice (some ⟨g,0,none⟩) m c→g<w.heap.size→w'.heap[g]?=w.heap[g]?):Sl w' T k v n E:=by
 rcases h with h|⟨g,cap,h1,h2⟩
 ·exact .inl h
 ·exact .inr ⟨g,cap,h1,h2.kept (hb g _ _ h1 h2.lt)⟩
theorem Sl.aG{R:Nat→Prop}{K K':Nat→Nat}{r:Nat}(h:Sl w T k v n E)(hr:j4 K r v)(t:aj R K w K' w')(hR:¬R r):Sl w' T k v n E∧j4 K' r v:=by
 refine⟨h.kept (fun g m c e hg=>t.block hg (by rw[hr g m c e];exact hR)),fun g m c e=>?_⟩
 rcases h with⟨h1,-⟩|⟨g',cap,h1,h2⟩
 ·rw[h1]at e;cases e
 ·rw[h1]at e;cases e;rw[t.ext g h2.lt];exact hr g _ _ h1
theorem Sl.congr(h:Sl w T k v n E)(he:∀i,i<n→∀j,j<k→(E' i)[j]?=(E i)[j]?):Sl w T k v n E':=by
 rcases h with h|⟨g,cap,h1,h2⟩
 ·exact .inl h
 ·exact .inr ⟨g,cap,h1,h2.congr he⟩
theorem Sl.nil:Sl w T k (.slice none 0 0) 0 E:=.inl ⟨rfl,rfl⟩
theorem j4.nil{K:Nat→Nat}{r:Nat}:j4 K r (.slice none 0 0):=fun g n c e=>by cases e
theorem j4.of{K:Nat→Nat}{r g n c:Nat}(h:K g=r):j4 K r (.slice (some ⟨g,0,none⟩) n c):=fun g' n' c' e=>by cases e;exact h
/-- What append leaves: the row of n+m elements. -/
structure bY(w:World)(T k:Nat)(v:Value)(n m:Nat)(E:Nat→List Value)(g cap:Nat)(w':World):Prop where
 row:Rw w' T k (n+m) cap g E
 at':v.ownBlock=some g∨w.heap.size≤g
 only:Only (fun q=>v.ownBlock=some q) w w'
theorem pE{P:Program}(t ty e:TypeId)(i:TypeInfo)(z:Value)(bytes:Nat)(ht:P.underlying t=some (.slice e))(hi:P.info? e=some i)(hz:i.zero=some z)
 (hsize:i.size=k) (hby:i.bytes=bytes) (hzs:z.cells.size=k) (hsz:0<k) (h:Sl w e k v n E)
 (a:Addr) (m c:Nat) (news:List Value) (hm:0<m) (hl:news.length=m*k) (hnews:∀j u,news[j]?=some u→w.cell? (a.add j)=some u) (h1:∀u∈news,u.oneCell'=true) (h63:n+m≤maxLen) (hbytes:(n+m)*bytes≤140737488355328)
 (E':Nat→List Value) (he1:∀i,i<n→∀j,j<k→(E' i)[j]?=(E i)[j]?) (he2:∀i,i<m→∀j,j<k→(E' (n+i))[j]?=news[i*k+j]?) :
 ∃g cap w',(Builtin.append_ #[t,t] ty #[v,.slice (some a) m c]).run P w=.ok (.slice (some ⟨g,0,none⟩) (n+m) cap) w'∧bY w e k v n m E' g cap w':=by
 have hidx:∀i j,i<m→j<k→i*k+j<m*k:=fun i j hi hj=>by
  have:(i+1)*k≤m*k:=Nat.mul_le_mul_right k (by omega);rw[Nat.add_mul]at this;omega
 -- the grown row
 have grown:∀(olds:List Value)(w':World)(v':Value),olds.length=n*k→(∀i,i<n→∀j,j<k→olds[i*k+j]?=(E i)[j]?)→w'.ownsRow w.heap.size e k v' (n+m) (olds++news)→w.grownBy w' none→∃g cap,v'=.slice (some ⟨g,0,none⟩) (n+m) cap∧bY w e k v n m E' g cap w':=by
  intro olds w' v' hlo holds how hg;obtain⟨hx,h9|⟨g,cap,cur,rfl,hge,hb,hc1,hc2,hc3,hc4⟩⟩:=how
  ·omega
  refine⟨g,cap,rfl,⟨⟨cur,hb,by omega,fun i hi j hj=>?_⟩,hc1⟩,.inr hge,⟨hg.os,hg.tape,hg.output,hg.size,fun q hq hf=>hg.block q hq (by simp)⟩⟩
  have hlt:i*k+j<(n+m)*k:=by
   have:(i+1)*k≤(n+m)*k:=Nat.mul_le_mul_right k (by omega);rw[Nat.add_mul]at this;omega
  have hcur:cur[i*k+j]?=(olds++news)[i*k+j]?:=by
   rw[←hc4,List.getElem?_take_of_lt hlt];simp
  rw[hcur]
  by_cases hin:i<n
  ·have:i*k+j<n*k:=by
    have:(i+1)*k≤n*k:=Nat.mul_le_mul_right k (by omega);rw[Nat.add_mul]at this;omega
   rw[List.getElem?_append_left (by omega),holds i hin j hj,he1 i hin j hj]
  ·have h9:=he2 (i-n) (by omega) j hj;rw[show n+(i-n)=i from by omega]at h9;have h10:i*k=n*k+(i-n)*k:=by rw[←Nat.add_mul];congr 1;omega
   rw[List.getElem?_append_right (by omega),h9]
   congr 1;omega
 rcases h with⟨rfl,rfl⟩|⟨g,cap,rfl,hr⟩
 ·obtain⟨v',w',hrun,r1,r2,-⟩:=run_append_own (P:=P) w w.heap.size t ty e i z k bytes ht hi hz hsize hby hzs hsz (.slice none 0 0) 0 [] (World.ownsRow_nil w _ e k) a m c news hl hnews h1 (by omega) hbytes (Nat.le_refl _)
  obtain⟨g,cap,rfl,hq⟩:=grown [] w' v' (by simp) (fun i hi=>by omega) r1 (by
   have h5:(Value.slice none 0 0).ownBlock=none:=rfl
   rwa [h5]at r2)
  exact⟨g,cap,w',hrun,hq⟩
 ·obtain⟨⟨cur,hb,hsz2,hE⟩,hle⟩:=hr;have hnk:n*k≤cap*k:=Nat.mul_le_mul_right k hle
  have Xm:∀i,i<n→∀j,j<k→(cur.toList.take (n*k))[i*k+j]?=(E i)[j]?:=fun i hi j hj=>by
   have:(i+1)*k≤n*k:=Nat.mul_le_mul_right k (by omega);rw[Nat.add_mul]at this;rw[List.getElem?_take_of_lt (by omega),←hE i hi j hj];simp
  by_cases hroom:n+m≤cap
  ·have hsum:(n+m)*k≤cap*k:=Nat.mul_le_mul_right k hroom;rw[Nat.add_mul]at hsum;obtain⟨cur',b1,b2,b3⟩:=iJ (T:=e) g news (n*k) w cur hb (by rw[hl];omega)
   have hrun:=run_append_room_cells (P:=P) w t ty e i ht hi g 0 n cap a m c news (by rw[hsize];exact hl) hnews h1 hroom (fun j hj=>by
    rw[hl]at hj;rw[hsize];have:n*k+j<cur.size:=by omega
    simp[World.cell?,hb,this]) (fun j hj=>by simp[World.frozen?,hb])
   rw[hsize,Nat.zero_add]at hrun;obtain⟨s1,s2,s3,s4⟩:=kD g news (n*k) w;refine⟨g,cap,_,hrun,⟨⟨cur',b1,by omega,fun i hi j hj=>?_⟩,hroom⟩,.inl rfl,⟨s1,s2,s3,by rw[s4];exact Nat.le_refl _,fun q hq hf=>jK g news (n*k) w q (fun h9=>hf (by rw[h9];rfl))⟩⟩;rw[b3]
   by_cases hin:i<n
   ·have:(i+1)*k≤n*k:=Nat.mul_le_mul_right k (by omega);rw[Nat.add_mul]at this;rw[if_neg (by omega),hE i hin j hj,he1 i hin j hj]
   ·have h9:=he2 (i-n) (by omega) j hj;rw[show n+(i-n)=i from by omega]at h9;have h10:i*k=n*k+(i-n)*k:=by rw[←Nat.add_mul];congr 1;omega
    have h11:=hidx (i-n) j (by omega) hj;rw[if_pos ⟨by omega,by omega⟩,h9]
    congr 1;omega
  ·obtain⟨v',w',hrun,r1,r2⟩:=run_append_arg_grows (P:=P) w t ty e i z k bytes ht hi hz hsize hby hzs hsz ⟨g,0,none⟩ n cap (cur.toList.take (n*k)) (by rw[List.length_take];simp;omega) (fun j u hj=>by
    rw[List.getElem?_take]at hj
    split at hj
    ·rw[Addr.add_lit];simp only[World.cell?,Nat.zero_add];rw[hb];simpa using hj
    ·cases hj) a m c news hl hnews (by omega) h63 hbytes
   obtain⟨g',cap',rfl,hq⟩:=grown _ w' v' (by rw[List.length_take];simp;omega) Xm r1 r2;exact⟨g',cap',w',hrun,hq⟩
end
end
section
theorem aL{W:World}{B:Nat}{o:Obj}(h:W.heap.size=B):(W.alloc o).heap[B]?=some o:=by subst h;exact heap_alloc_new _ _
/-- What append asks of a slice's type. -/
def dS(P:Program)(t e k bytes:Nat):Prop:=0<k∧bytes≤1000∧P.underlying t=some (.slice e)∧∃i z,P.info? e=some i∧i.zero=some z∧i.size=k∧i.bytes=bytes∧z.cells.size=k
theorem dS.mk{P:Program}{t e k bytes:Nat}{z:Value}(h:(P.info? e).map (fun i=>(i.zero,i.size,i.bytes))=some (some z,k,bytes))(ht:P.underlying t=some (.slice e))(hk:0<k)(hb:bytes≤1000)(hz:z.cells.size=k):dS P t e k bytes:=by
 obtain⟨i0,hi,hz0,hz1,hz2⟩:=info_parts h;exact⟨hk,hb,ht,i0,z,hi,hz0,hz1,hz2,hz⟩
section
variable {P:Program} {w:World} {t e k bytes n:Nat} {v:Value} {E E':Nat→List Value}
theorem nC(hI:dS P t e k bytes)(h:Sl w e k v n E){B:Nat}{cs:Array Value}{T0:TypeId}{fr:Nat×Nat}(hB:w.heap[B]?=some (.cells cs T0 fr))(hc:cs.size=k)(h1:∀u∈cs.toList,u.oneCell'=true)(hn:n<1073741824)(ty:TypeId) :
 ∃g cap w',(Builtin.append_ #[t,t] ty #[v,.slice (some ⟨B,0,none⟩) 1 1]).run P w=.ok (.slice (some ⟨g,0,none⟩) (n+1) cap) w'∧bY w e k v n 1 (fun q=>if q=n then cs.toList else E q) g cap w':=by
 obtain⟨h0,hb,ht,i,z,hi,hz,hs,hby,hzs⟩:=hI;have hbb:(n+1)*bytes≤140737488355328:=Nat.le_trans (Nat.mul_le_mul (show n+1≤1073741824 by omega) hb) (by decide);refine pE t ty e i z bytes ht hi hz hs hby hzs h0 h ⟨B,0,none⟩ 1 1 cs.toList (by omega) (by simp[hc]) (fun j u hj=>?_) h1 (by unfold maxLen;omega) hbb _ (fun q hq j hj=>by rw[if_neg (by omega)]) (fun q hq j hj=>?_)
 ·exact World.news_of_block hB j u hj
 ·obtain rfl:q=0:=by omega
  rw[if_pos (by omega)];congr 1;omega
theorem aA{ops:Array Oper}{rest:List Oper}{o:Oper}{a:Act}{Q:Exit→Act→World→Prop}(w:World)(hg:o.guard=none)(s x:Operand)(t:TypeId)(hop:o.op=Op.call {callee:=Callee.builtin Builtin.append,args:=#[s,x],argTypes:=#[t,t]})
 (hI:dS P t e k bytes) (hs:a.eval s=v) (h:Sl w e k v n E) {B:Nat} {cs:Array Value} {T0:TypeId} {fr:Nat×Nat} (hx:a.eval x=.slice (some ⟨B,0,none⟩) 1 1) (hB:w.heap[B]?=some (.cells cs T0 fr)) (hc:cs.size=k) (h1:∀u∈cs.toList,u.oneCell'=true) (hn:n<1073741824)
 (hK:∀g cap w',bY w e k v n 1 (fun q=>if q=n then cs.toList else E q) g cap w'→wpList P ops Q rest (a.put o.dst (.slice (some ⟨g,0,none⟩) (n+1) cap)) w'):wpList P ops Q (o::rest) a w:=by
 refine wpList_plain hg fun K' hK'=>?_;obtain⟨g,cap,w',hrun,hq⟩:=nC hI h hB hc h1 hn o.type;unfold Oper.wp;simp[execOp,hop,resolve,invoke,builtin,hs,hx,hrun,Result.andThen];exact hK' _ _ (hK g cap w' hq)
theorem bY.aG{m g cap r:Nat}{R:Nat→Prop}{K K':Nat→Nat}{w0 w':World}(h:bY w e k v n m E g cap w')(t:aj R K w0 K' w)(hr:j4 K' r v)(hR:R r)(hv:Sl w e k v n E'):aj R K w0 (bJ K' g r) w'∧bJ K' g r g=r:=by
 refine⟨⟨⟨h.only.os.trans t.only.os,h.only.tape.trans t.only.tape,h.only.output.trans t.only.output,Nat.le_trans t.size h.only.size,fun q hq hf=>?_⟩,fun q hq=>?_⟩,aW _ _ _⟩
 ·refine(h.only.block q (Nat.lt_of_lt_of_le hq t.size) (fun h9=>hf ?_)).trans (t.only.block q hq hf)
  rcases hv with⟨h1,-⟩|⟨g',c',h1,h2⟩
  ·rw[h1]at h9;cases h9
  ·rw[h1]at h9;cases h9;rw[←t.ext _ hq,hr _ _ _ h1];exact hR
 ·rcases h.at' with h1|h1
  ·by_cases e9:q=g
   ·rw[e9]at hq⊢;rw[aW,←t.ext g hq]
    rcases hv with⟨h2,-⟩|⟨g',c',h2,h3⟩
    ·rw[h2]at h1;cases h1
    ·rw[h2]at h1;cases h1;exact(hr _ _ _ h2).symm
   ·rw[bP e9];exact t.ext q hq
  ·have:=t.size;rw[bP (by omega)];exact t.ext q hq
end
end
end Go.Proofs.YtpijlhlpejlhhaaGreat
