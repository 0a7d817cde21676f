/- Walks and plain words: AcA MnS ScA ScB ScC ScD RcA. -/
import Derived.Test.YtpijlhlpejlhhaaGreatVQuE
import Derived.Deep.Upon
namespace Go.Proofs.YtpijlhlpejlhhaaGreat
open Go.RowKit
set_option linter.unusedVariables false
set_option maxRecDepth 100000
set_option maxHeartbeats 8000000
section
/-- The cells of a list's i-th element. -/
def fC{α:Type}(f:α→List Value)(l:List α)(i:Nat):List Value:=(l[i]?.map f).getD []
/-- A row of elements,nil or in a block that is not older than B. -/
def aQ{α:Type}(B:Nat)(w:World)(T k:Nat)(f:α→List Value)(v:Value)(l:List α):Prop:=Sl w T k v l.length (fC f l)∧∀g m c,v=.slice (some ⟨g,0,none⟩) m c→B≤g
section
variable {α:Type} {P:Program} {w w':World} {B T k t bytes:Nat} {f:α→List Value} {v x:Value} {l:List α} {e:α}
theorem kg{i:Nat}(h:l[i]?=some e):fC f l i=f e:=by unfold fC;rw[h];rfl
theorem aQ.nil:aQ B w T k f (.slice none 0 0) []:=⟨Sl.nil,fun g m c e=>by cases e⟩
theorem aQ.shape(h:aQ B w T k f v l):∃p c,v=.slice p l.length c:=by
 rcases h.1 with⟨h1,h2⟩|⟨g,c,h1,-⟩
 ·exact⟨none,0,by rw[h1,h2]⟩
 ·exact⟨_,c,h1⟩
theorem aQ.below(h:aQ B w T k f v l)(hb:Below w.heap.size w w'):aQ B w' T k f v l:=⟨h.1.kept (fun g m c e hg=>hb.block g hg),h.2⟩
theorem aQ.alloc(h:aQ B w T k f v l)(o:Obj):aQ B (w.alloc o) T k f v l:=h.below ((Below.refl _ _).alloc (Nat.le_refl _) _)
theorem aQ.mono{B':Nat}(h:aQ B w T k f v l)(hB:B'≤B):aQ B' w T k f v l:=⟨h.1,fun g m c e=>Nat.le_trans hB (h.2 g m c e)⟩
/-- Behind an append. -/
theorem aQ.app{m g cap:Nat}{E:Nat→List Value}{l':List α}(h:aQ B w T k f v l)(hq:bY w T k v l.length m E g cap w')(hB:B≤w.heap.size)(hl:l'.length=l.length+m)(hE:∀i,i<l'.length→∀j,j<k→(fC f l' i)[j]?=(E i)[j]?):aQ B w' T k f (.slice (some ⟨g,0,none⟩) l'.length cap) l'∧Below B w w':=by
 have hg:B≤g:=by
  rcases hq.at' with h1|h1
  ·rcases h.1 with⟨h2,-⟩|⟨g',c,h2,-⟩
   ·rw[h2]at h1;cases h1
   ·rw[h2]at h1;have h3:=h.2 _ _ _ h2;have h4:some g'=some g:=h1
    injection h4 with h4
    omega
  ·omega
 refine⟨⟨.inr ⟨g,cap,rfl,?_⟩,fun g' m' c' e=>by injection e with e;injection e with e;injection e with e;omega⟩,?_⟩
 ·have:=hq.row;rw[←hl]at this;exact this.congr hE
 ·refine hq.only.below (fun q e=>?_) hB
  rcases h.1 with⟨h2,-⟩|⟨g',c,h2,-⟩
  ·rw[h2]at e;cases e
  ·rw[h2]at e;have h4:some g'=some q:=e
   injection h4 with h4
   have:=h.2 _ _ _ h2;omega
theorem aQ.push{g cap n:Nat}{cs:List Value}(h:aQ B w T k f v l)(hn:l.length=n)(hq:bY w T k v n 1 (fun q=>if q=n then cs else fC f l q) g cap w')(hB:B≤w.heap.size)(hc:cs=f e):aQ B w' T k f (.slice (some ⟨g,0,none⟩) (n+1) cap) (l++[e])∧Below B w w':=by
 subst hn;rw[show l.length+1=(l++[e]).length by simp];refine h.app hq hB (by simp) (fun i hi j hj=>?_)
 by_cases hin:i=l.length
 ·rw[if_pos hin,hc,kg (e:=e) (by rw[hin];simp)]
 ·have hlt:i<l.length:=by simp at hi;omega
  rw[if_neg hin];unfold fC;rw[List.getElem?_append_left hlt]
/-- A row of another type stays as it was. -/
theorem aQ.other{T' k' n c g:Nat}{E':Nat→List Value}(h:aQ B w T k f v l)(hT:T≠T')(hr:Rw w T' k' n c g E'):v.ownBlock≠some g:=fun e=>by
 rcases h.1 with⟨h2,-⟩|⟨g',c',h2,h3⟩
 ·rw[h2]at e;cases e
 ·rw[h2]at e;have h4:some g'=some g:=e
  injection h4 with h4
  subst h4;obtain⟨⟨c1,e1,-⟩,-⟩:=h3;obtain⟨⟨c2,e2,-⟩,-⟩:=hr;rw[e1]at e2
  injection e2 with e2
  injection e2 with _ e2 _
  exact hT e2
theorem aQ.Ba{T' k' n c g m n2 g2 cap:Nat}{E E':Nat→List Value}(h:aQ B w T k f v l)(hT:T≠T')(hq:bY w T k v n2 m E g2 cap w')(hr:Rw w T' k' n c g E'):Rw w' T' k' n c g E':=hr.kept (hq.only.block g hr.lt (h.other hT hr))
/-- A whole list is added,whatever its length. -/
theorem tY{g:α→Value}{m:List α}(hf:f=fun a=>[g a])(hg:∀a,(g a).oneCell'=true)(hI:dS P t T 1 bytes)(h:aQ B w T 1 f v l)(hx:Sl w T 1 x m.length (fC f m))(hB:B≤w.heap.size)(hn:l.length+m.length<1073741824)(ty:TypeId) :
 ∃v' w',(Builtin.append_ #[t,t] ty #[v,x]).run P w=.ok v' w'∧aQ B w' T 1 f v' (l++m)∧Below B w w':=by
 cases hm:m with
 |nil=>
  rw[hm]at hx hn;obtain⟨pv,cv,hv⟩:=h.shape
  obtain⟨px,cx,hxs,hle⟩:∃px cx,x=.slice px 0 cx∧0≤cx:=by
   rcases hx with⟨h1,-⟩|⟨g,c,h1,-⟩
   ·exact⟨none,0,h1,Nat.le_refl _⟩
   ·exact⟨_,c,h1,Nat.zero_le _⟩
  have hle2:l.length≤cv:=by
   rcases h.1 with⟨h1,h2⟩|⟨g,c,h1,hr⟩
   ·rw[hv]at h1;injection h1 with _ _ h3;omega
   ·rw[hv]at h1;injection h1 with _ _ h3;rw[h3];exact hr.le
  obtain⟨h0,hb,ht,i,z,hi,hz,hs,hby,hzs⟩:=hI;subst hv;refine⟨_,w,run_append_nothing (P:=P) w t t ty T i ht hi pv l.length cv hle2 x ?_,by rw[List.append_nil];exact h,Below.refl _ _⟩;subst hxs
  cases px with
  |none=>exact Src.ofNil w ht cx
  |some a=>exact Src.ofSlice w ht a 0 cx [] (by simp) (fun j u hj=>by cases hj) (fun u hu=>by cases hu)
 |cons a m'=>
  rw[←hm];have hpos:0<m.length:=by rw[hm];simp
  rcases hx with⟨-,h2⟩|⟨gx,cx,rfl,hr⟩
  ·omega
  ·have hr2:Rw w T 1 m.length cx gx (fun i=>[((m[i]?).map g).getD undef]):=hr.congr (fun i hi j hj=>by
    unfold fC
    rw[List.getElem?_eq_getElem hi,hf];rfl)
   obtain⟨g',cap,w',hrun,hq⟩:=tT (P:=P) (t:=t) hI h.1 hpos hr2 (fun i hi=>by
    rw[List.getElem?_eq_getElem hi];exact hg _) hn cx ty
   obtain⟨h3,h4⟩:=h.app (l':=l++m) hq hB (by simp) (fun i hi j hj=>by
    by_cases hin:i<l.length
    ·rw[if_pos hin];unfold fC;rw[List.getElem?_append_left hin]
    ·rw[if_neg hin];unfold fC;rw[List.getElem?_append_right (by omega)];have:i-l.length<m.length:=by simp at hi;omega
     rw[List.getElem?_eq_getElem this,hf];rfl)
   refine⟨_,w',hrun,?_,h4⟩;have e:(l++m).length=l.length+m.length:=by simp
   rw[e]at h3;exact h3
end
/-- Numbers,one cell each. -/
def nE(x:Nat):List Value:=[.int .i64 (x:Nat)]
theorem wL{w:World}{v:Value}{l:List Nat}:av w v l↔Sl w 3 1 v l.length (fC nE l):=by
 have he:∀i,i<l.length→fC nE l i=[.int .i64 (l.getD i 0:Nat)]:=fun i hi=>by
  unfold fC;rw[List.getD_eq_getElem?_getD,List.getElem?_eq_getElem hi];rfl
 constructor
 ·exact fun h=>Sl.congr h (fun i hi j hj=>by rw[he i hi])
 ·exact fun h=>Sl.congr h (fun i hi j hj=>by rw[he i hi])
theorem aQ.dM{B:Nat}{w:World}{v:Value}{l:List Nat}(h:aQ B w 3 1 nE v l):av w v l:=wL.2 h.1
theorem aQ.YJ{B:Nat}{K:Nat→Nat}{w:World}{v:Value}{l:List Nat}(h:aQ B w 3 1 nE v l)(hk:∀q,B≤q→K q=0):av w v l∧j4 K 0 v:=⟨h.dM,fun g n c e=>hk g (h.2 g n c e)⟩
theorem bO.acc{B:Nat}{w:World}{v:Value}{l:List Nat}(h:bO B w v l):aQ B w 3 1 nE v l:=by
 obtain⟨g,cap,h1,h2,h3⟩:=h;refine⟨wL.1 (.inr ⟨g,cap,h1,h3⟩),fun g' m c e=>?_⟩;rw[h1]at e;injection e with e;injection e with e;injection e with e;omega
end
section
/-- An event is right for n variables. -/
def aa5(n:Nat)(e:Bd.Ev):Prop:=1≤e.kind∧e.kind≤3∧1≤e.after∧(e.kind=2→0≤e.level∧e.level<(n:Int)-1)
section
variable {K:Nat→Nat} {w:World} {p n room:Nat} {M:Bd.MS} {t:Nat→iN}
theorem wpList_append_run{P:Program}{ops:Array Oper}{rest:List Oper}{o:Oper}{a:Act}{Q:Exit→Act→World→Prop}{W W':World}{v sv v':Value}(hg:o.guard=none)(s x:Operand)(t:TypeId)(hop:o.op=Op.call {callee:=Callee.builtin Builtin.append,args:=#[s,x],argTypes:=#[t,t]})
 (hs:a.eval s=v) (hx:a.eval x=sv) (hrun:(Builtin.append_ #[t,t] o.type #[v,sv]).run P W=.ok v' W') (hK:wpList P ops Q rest (a.put o.dst v') W'):wpList P ops Q (o::rest) a W:=by
 refine wpList_plain hg fun K' hK'=>?_;unfold Oper.wp;simp[execOp,hop,resolve,invoke,builtin,hs,hx,hrun,Result.andThen];exact hK' _ _ hK
/-- The waiting events are laid anew. -/
theorem jT.aa6{K':Nat→Nat}{w':World}{A:ML}{v:Value}{l:List Bd.Ev}(h:jT K w p A n room M t)(tt:aj (fun r=>r=15) K w K' w')(hv:Wt K' w' v l):jT K' (w'.setCell ⟨p,4,none⟩ v) p {A with wv:=v} n room {M with waits:=l} t∧aj mR K w K' (w'.setCell ⟨p,4,none⟩ v):=by
 have hr:=tt.obj h.row (by rw[h.kp];omega);have kp:=(tt.role h.row).trans h.kp;have t1:aj (fun r=>r=1) K' w' K' (w'.setCell ⟨p,4,none⟩ v):=aj.refl.iI kp (aV hr) v;refine⟨⟨aH hr _,(h.store.aG tt (fun r h1 h2=>by unfold sR at h2;omega)).aG t1 (fun r h1 h2=>by unfold sR at h2;omega),(h.memo.aG tt (fun r h1=>by omega)).aG t1 (fun r h1=>by omega),?_,hv.aG t1 (by omega),kp,(tt.ext _ h.han.lt).trans h.kh⟩,(tt.mono (fun r h=>by unfold mR;omega)).trans (t1.mono (fun r h=>by unfold mR;omega))⟩;have h5:=h.han.kept (tt.block h.han.lt (by rw[h.kh];omega));exact h5.kept (t1.block h5.lt (by rw[(tt.ext _ h.han.lt),h.kh];omega))
end
end
section
def vE(x:Value):List Value:=[x]
/-- A list of lists. -/
def fD(w:World)(v:Value)(ls:List (List Nat)):Prop:=∃vs:List Value,vs.length=ls.length∧Sl w 22 1 v vs.length (fC vE vs)∧∀(i:Nat)(x:Value)(l:List Nat),vs[i]?=some x→ls[i]?=some l→av w x l
theorem Ti:dS Tryz.prog 35 22 1 24:=dS.mk (z:=.slice none 0 0) (by kernel_rfl) (by kernel_rfl) (by decide) (by decide) rfl
section
variable {w w':World} {v u x:Value} {l m:List Nat} {ls:List (List Nat)}
theorem fD.below(h:fD w v ls)(hb:Below w.heap.size w w'):fD w' v ls:=by
 obtain⟨vs,h1,h2,h3⟩:=h;exact⟨vs,h1,h2.kept (fun g m c e hg=>hb.block g hg),fun i x l hx hl=>(h3 i x l hx hl).below hb⟩
theorem fD.shape(h:fD w v ls):∃p c,v=.slice p ls.length c:=by
 obtain⟨vs,h1,h2,h3⟩:=h;rw[h1]at h2
 rcases h2 with⟨e1,e2⟩|⟨g,c,e1,-⟩
 ·exact⟨none,0,by rw[e1,e2]⟩
 ·exact⟨_,c,e1⟩
/-- The j-th list of a list of lists. -/
theorem fD.get{p:Option Addr}{n c j:Nat}(h:fD w (.slice p n c) ls)(hj:ls[j]?=some l):∃g x,p=some ⟨g,0,none⟩∧g<w.heap.size∧w.cell? ⟨g,j,none⟩=some x∧av w x l:=by
 obtain⟨vs,h1,h2,h3⟩:=h;have hjl:j<vs.length:=by rw[h1];exact(List.getElem?_eq_some_iff.1 hj).1
 rcases h2 with⟨e1,e2⟩|⟨g,c',e1,hr⟩
 ·omega
 ·injection e1 with e1 e2 e3
  have hx:vs[j]?=some vs[j]:=List.getElem?_eq_getElem hjl;refine⟨g,vs[j],e1,hr.lt,?_,h3 j _ _ hx hj⟩;have:=hr.cell (i:=j) (j:=0) hjl (by omega);rw[kg hx]at this
  simpa[vE]using this
theorem pY(h:fD w u ls)(hn:ls.length≤1000)(ht:ls.flatten.length≤1000) :
 Calls Tryz.prog 52 #[u] w fun r w'=>∃o,r=.returned o∧bO w.heap.size w' o (Bd.f_ ls.flatten)∧Below w.heap.size w w':=by
 obtain⟨F,HF⟩:=aJ (fun(r:Ending)(w':World)=>∃o,r=.returned o∧bO w.heap.size w' o (Bd.f_ ls.flatten)∧Below w.heap.size w w');rw[←HF.out];obtain⟨pu,cu,rfl⟩:=h.shape;obtain⟨n,hn0⟩:∃n,n=ls.length:=⟨_,rfl⟩;rw[←hn0]at h hn⊢;have HL:=Lib.hid (And.intro h (And.intro hn0 ht));clear h hn0 ht;go_in;go_wp2_with fail
 go_loopg [3,5,8,9,10,11,12,13,14,15] n (fun q v3 v5 v8 v9 v10 v11 v12 v13 v14 v15 wr=>∃j:Nat,q=n-j∧j≤n∧v8=.int .i64 (j:Nat)∧aQ w.heap.size wr 3 1 nE v3 (ls.take j).flatten∧Below w.heap.size w wr)
 case atStart=>exact⟨0,rfl,Nat.zero_le _,rfl,aQ.nil,Below.refl _ _⟩
 case round=>
  obtain⟨j,rfl,hj,rfl,hacc,hb⟩:=hrel;obtain⟨pa,ca,hsh⟩:=hacc.shape;subst hsh
  by_cases hlt:j<n
  ·have hji:(j:Int)<(n:Int):=by omega
   have hjl:j<ls.length:=by rw[←HL.out.2.1];exact hlt
   obtain⟨m,hm⟩:∃m,ls[j]?=some m:=⟨_,List.getElem?_eq_getElem hjl⟩;obtain⟨g,x,hpp,hgl,hcell,hni⟩:=(HL.out.1.below hb).get hm;subst hpp;have htk:(ls.take (j+1)).flatten=(ls.take j).flatten++m:=by rw[List.take_add_one,hm];simp
   have hlen:(ls.take j).flatten.length+m.length≤1000:=by
    have h1:ls.flatten=(ls.take (j+1)).flatten++(ls.drop (j+1)).flatten:=by rw[←List.flatten_append,List.take_append_drop]
    have h2:=HL.out.2.2;rw[h1,htk,List.length_append,List.length_append]at h2;omega
   obtain⟨na,hna⟩:∃na,na=(ls.take j).flatten.length:=⟨_,rfl⟩;obtain⟨v',w2,hrun,OA,hb2⟩:=tY (P:=Tryz.prog) (t:=22) (g:=fun(x:Nat)=>Value.int .i64 (x:Nat)) rfl (fun _=>rfl) jq hacc (wL.1 hni) hb.size (by omega) 22;rw[←htk]at OA;rw[←hna]at hrun⊢;have OC:=Lib.hid hrun;have HR:=Lib.hid (And.intro OA (hb.trans hb2));have HNA:=Lib.hid hna;clear hacc hb hjl hm hni htk hlen hrun OA hb2 hna
   go_wp2_with (at_builtin;refine wpList_append_run rfl (.tmp 12) (.tmp 13) _ rfl rfl rfl OC.out ?_)
   go_roundg (n-(j+1))
   case rel=>exact⟨j+1,rfl,by omega,by go_num,HR.out⟩
   case measure=>omega
  ·obtain rfl:j=n:=by omega
   have hall:ls.take j=ls:=List.take_of_length_le (by rw[←HL.out.2.1];exact Nat.le_refl _);rw[hall]at hacc⊢;have cO:=lZ hacc.dM HL.out.2.2;obtain⟨na,hna⟩:∃na,na=ls.flatten.length:=⟨_,rfl⟩;rw[←hna]at cO⊢;clear hna;have HC:=Lib.hid cO;have HB:=Lib.hid hb;clear hacc hb hall cO
   go_wp2_with (go_at_call 45;with_reducible refine(HC.out).mono ?_;rintro x w1 ⟨o,rfl,ho,hb1⟩;have HO:=Lib.hid (And.intro ho hb1);clear ho hb1)
   rw[HF.out];obtain⟨⟨g,cap,e1,e2,e3⟩,hb1⟩:=HO.out;exact⟨o,rfl,⟨g,cap,e1,Nat.le_trans HB.out.size e2,e3⟩,HB.out.trans (hb1.mono HB.out.size)⟩
/-- cmp.Compare. -/
def wM(a b:Int):Int:=if a<b then -1 else if b<a then 1 else 0
theorem KM(a:Int)(w:World):Calls Tryz.prog 111 #[.int .i64 a] w fun r w'=>r=.returned (.bool false)∧w'=w:=by
 obtain⟨F,HF⟩:=aJ (fun(r:Ending)(w':World)=>r=.returned (.bool false)∧w'=w);rw[←HF.out];go_in
 go_wp2
 rw[HF.out]
 first|exact⟨rfl,rfl⟩|(refine⟨?_,rfl⟩;simp)
theorem Bc(a b:Int)(w:World):Calls Tryz.prog 51 #[.int .i64 a,.int .i64 b] w fun r w'=>r=.returned (.int .i64 (wM a b))∧w'=w:=by
 obtain⟨F,HF⟩:=aJ (fun(r:Ending)(w':World)=>r=.returned (.int .i64 (wM a b))∧w'=w);rw[←HF.out];have H1:=Lib.hid (fun a W=>KM a W)
 by_cases h1:a<b
 ·have hc:=Lib.hid (show wM a b=-1 by unfold wM;rw[if_pos h1]);go_in
  go_wp2_with (go_at_call 111;with_reducible refine(H1.out _ _).mono ?_;rintro r w' ⟨rfl,hw⟩;rw[hw];clear hw)
  rw[HF.out,hc.out];exact⟨rfl,rfl⟩
 ·by_cases h2:b<a
  ·have hc:=Lib.hid (show wM a b=1 by unfold wM;rw[if_neg h1,if_pos h2]);go_in
   go_wp2_with (go_at_call 111;with_reducible refine(H1.out _ _).mono ?_;rintro r w' ⟨rfl,hw⟩;rw[hw];clear hw)
   rw[HF.out,hc.out];exact⟨rfl,rfl⟩
  ·have hc:=Lib.hid (show wM a b=0 by unfold wM;rw[if_neg h1,if_neg h2]);go_in
   go_wp2_with (go_at_call 111;with_reducible refine(H1.out _ _).mono ?_;rintro r w' ⟨rfl,hw⟩;rw[hw];clear hw)
   rw[HF.out,hc.out];exact⟨rfl,rfl⟩
end
end
section
section
variable {w w':World} {v u x:Value} {l m:List Nat} {ls:List (List Nat)}
theorem Rk{b c:Nat}{a0 a1 a2:Int}(h:w.heap[b]?=some (.cells #[.int .i64 a0,.int .i64 a1,.int .i64 a2] 3 (0,0))) :
 Calls Tryz.prog 50 #[.slice (some ⟨b,0,none⟩) 3 c] w fun r w'=>∃k:Int,r=.returned (.int .i64 k)∧w'=w:=by
 obtain⟨F,HF⟩:=aJ (fun(r:Ending)(w':World)=>∃k:Int,r=.returned (.int .i64 k)∧w'=w);rw[←HF.out];have HH:=Lib.hid h;clear h;go_in;go_wp2_with fail
 go_loopg [5,8,9,10,11,12,13,14,15,16] 3 (fun q v5 v8 v9 v10 v11 v12 v13 v14 v15 v16 wr=>∃j:Nat,q=3-j∧j≤3∧v8=.int .i64 (j:Nat)∧wr=w)
 case atStart=>exact⟨0,rfl,by omega,rfl,rfl⟩
 case round=>
  obtain⟨j,rfl,hj,rfl,hw⟩:=hrel;have HW:=Lib.hid hw;rw[←hw]at HH;clear hw
  by_cases hlt:j<3
  ·have hji:(j:Int)<3:=by omega
   obtain⟨y,hy⟩:∃y:Int,wr.cell? ⟨b,j,none⟩=some (.int .i64 y):=by
    rcases(show j=0∨j=1∨j=2 by omega)with rfl|rfl|rfl
    ·exact⟨a0,au HH.out 0 rfl⟩
    ·exact⟨a1,au HH.out 1 rfl⟩
    ·exact⟨a2,au HH.out 2 rfl⟩
   by_cases h0:y=0
   ·have h1:(y != 0)=false:=by simp[h0]
    clear h0
    go_wp2
    go_roundg (3-(j+1))
    case rel=>exact⟨j+1,rfl,by omega,by go_num,HW.out⟩
    case measure=>omega
   ·have h1:(y != 0)=true:=bne_iff_ne.2 h0;clear h0
    go_wp2
    rw[HF.out];exact⟨y,rfl,HW.out⟩
  ·obtain rfl:j=3:=by omega
   go_wp2
   rw[HF.out];exact⟨_,rfl,HW.out⟩
/-- A candidate's cells. -/
def Vd(x:Int×Value×Int):List Value:=[.int .i64 x.1,x.2.1,.int .i64 x.2.2]
theorem OD{a0 a2 b0 b2:Int}{pa pb:Option Addr}{na ca nb cb:Nat}(hna:na≤1000000)(hnb:nb≤1000000)(w:World) :
 Calls Tryz.prog 49 #[.agg #[.int .i64 a0,.slice pa na ca,.int .i64 a2],.agg #[.int .i64 b0,.slice pb nb cb,.int .i64 b2]] w fun r w'=>∃k:Int,r=.returned (.int .i64 k)∧Below w.heap.size w w':=by
 obtain⟨F,HF⟩:=aJ (fun(r:Ending)(w':World)=>∃k:Int,r=.returned (.int .i64 k)∧Below w.heap.size w w');rw[←HF.out];obtain⟨b2',hb2⟩:∃b,b=w.heap.size:=⟨_,rfl⟩;obtain⟨b3',hb3⟩:∃b,b=w.heap.size+1:=⟨_,rfl⟩;obtain⟨W1,hW1⟩:∃W1,W1=(w.alloc (.cells #[.int .i64 a0,.slice pa na ca,.int .i64 a2] 98)).alloc (.cells #[.int .i64 b0,.slice pb nb cb,.int .i64 b2] 98):=⟨_,rfl⟩;have hb1:Below w.heap.size w W1:=by rw[hW1];exact((Below.refl _ _).alloc (Nat.le_refl _) _).alloc (by simp) _
 have q2:W1.heap[b2']?=some (.cells #[.int .i64 a0,.slice pa na ca,.int .i64 a2] 98 (0,0)):=by rw[hW1,hb2];exact(Below.heap_alloc _ _ _ (by simp)).trans (heap_alloc_new _ _)
 have q3:W1.heap[b3']?=some (.cells #[.int .i64 b0,.slice pb nb cb,.int .i64 b2] 98 (0,0)):=by rw[hW1,hb3];exact aL (by simp)
 have HB1:=Lib.hid hb1
 have mW:∀W,Below W1.heap.size W1 W→W.cell? ⟨b2',0,none⟩=some (.int .i64 a0)∧W.cell? ⟨b2',1,none⟩=some (.slice pa na ca)∧W.cell? ⟨b2',2,none⟩=some (.int .i64 a2)∧W.cell? ⟨b3',0,none⟩=some (.int .i64 b0)∧W.cell? ⟨b3',1,none⟩=some (.slice pb nb cb)∧W.cell? ⟨b3',2,none⟩=some (.int .i64 b2):=fun W h=>by
  have r2:=(h.block b2' (aV q2)).trans q2;have r3:=(h.block b3' (aV q3)).trans q3;exact⟨au r2 0 rfl,au r2 1 rfl,au r2 2 rfl,au r3 0 rfl,au r3 1 rfl,au r3 2 rfl⟩
 have dJ:=Lib.hid mW;have HD:=Lib.hid (show Below W1.heap.size W1 W1.drew from(Below.refl _ _).drew);clear hb1 q2 q3 mW;go_in;go_wp2_with fail;rw[←hW1,←hb3,←hb2];clear hW1 hb2 hb3;refine wp_region_held_drew (S:=fun W=>W.cell? ⟨b2',0,none⟩=some (.int .i64 a0)∧W.cell? ⟨b2',1,none⟩=some (.slice pa na ca)∧W.cell? ⟨b2',2,none⟩=some (.int .i64 a2)∧W.cell? ⟨b3',0,none⟩=some (.int .i64 b0)∧W.cell? ⟨b3',1,none⟩=some (.slice pb nb cb)∧W.cell? ⟨b3',2,none⟩=some (.int .i64 b2)) (by kernel_rfl) (dJ.out _ HD.out) (fun hHeld=>?_)
 repeat
  (first|refine aD 0 (v:=?_) rfl ?hy ?_|refine aD 1 (v:=?_) rfl ?hy ?_|refine aD 2 (v:=?_) rfl ?hy ?_|refine aD 3 (v:=?_) rfl ?hy ?_|refine aD 4 (v:=?_) rfl ?hy ?_|refine aD 5 (v:=?_) rfl ?hy ?_|refine aD 7 (v:=?_) rfl ?hy ?_|refine aD 8 (v:=?_) rfl ?hy ?_|refine aD 9 (v:=?_) rfl ?hy ?_|refine aD 10 (v:=?_) rfl ?hy ?_|refine aD 12 (v:=?_) rfl ?hy ?_|refine aD 13 (v:=?_) rfl ?hy ?_|refine aD 14 (v:=?_) rfl ?hy ?_|refine aD 15 (v:=?_) rfl ?hy ?_
   case hy=>
    intro w0 hS;obtain⟨c0,c1,c2,c3,c4,c5⟩:=hS;go_simp
    (first|done|with_reducible rfl)
   try simp only[Act.put,aZ,bq,bA])
 refine wpAnyH_ready (rs:=[6]) (by decide +kernel) (by simp) (AllReadyH.cons (dA rfl) (fun KC aO=>?_) AllReadyH.nil);refine bW 51 ?_;go_simp;clear hHeld;refine(Bc _ _ _).mono ?_;rintro r w4 ⟨rfl,hw4⟩;rw[hw4];clear hw4;refine aO.out _ _ (dJ.out _ HD.out) (fun hHeld=>?_);clear aO KC;(try simp only[Act.put,aZ,bq,bA]);refine wpAnyH_ready (rs:=[11]) (by decide +kernel) (by simp) (AllReadyH.cons (dA rfl) (fun KC aO=>?_) AllReadyH.nil);refine bW 51 ?_;go_simp;clear hHeld;refine(Bc _ _ _).mono ?_;rintro r w4 ⟨rfl,hw4⟩;rw[hw4];clear hw4;refine aO.out _ _ (dJ.out _ HD.out) (fun hHeld=>?_);clear aO KC;(try simp only[Act.put,aZ,bq,bA]);refine wpAnyH_ready (rs:=[16]) (by decide +kernel) (by simp) (AllReadyH.cons (dA rfl) (fun KC aO=>?_) AllReadyH.nil);refine bW 51 ?_;go_simp;clear hHeld;refine(Bc _ _ _).mono ?_;rintro r w4 ⟨rfl,hw4⟩;rw[hw4];clear hw4;refine aO.out _ _ (dJ.out _ HD.out) (fun hHeld=>?_);clear aO KC;(try simp only[Act.put,aZ,bq,bA]);refine wpAnyH_ready (rs:=[17]) (by decide +kernel) (by simp) (AllReadyH.cons (dA rfl) (fun KC aO=>?_) AllReadyH.nil);refine isAny ?_;go_simp;clear hHeld;obtain⟨bs,hbs⟩:∃bs,bs=W1.heap.size:=⟨_,rfl⟩;obtain⟨k1,hk1⟩:∃k1,k1=wM (nb:Nat) (na:Nat):=⟨_,rfl⟩;obtain⟨k2,hk2⟩:∃k2,k2=wM a2 b2:=⟨_,rfl⟩;obtain⟨k3,hk3⟩:∃k3,k3=wM a0 b0:=⟨_,rfl⟩;obtain⟨W2,hW2⟩:∃W2,W2=(W1.alloc (.cells #[.int .i64 k1,.int .i64 k2,.int .i64 k3] 3)).drew:=⟨_,rfl⟩
 have hb2:Below W1.heap.size W1 W2:=by rw[hW2];exact((Below.refl _ _).alloc (Nat.le_refl _) _).drew
 have cO:=Rk (w:=W2) (b:=bs) (c:=3) (a0:=k1) (a1:=k2) (a2:=k3) (by rw[hW2,hbs];exact heap_alloc_new _ _);have HO:=Lib.hid cO;have HB2:=Lib.hid hb2;rw[←hk1,←hk2,←hk3,←hW2,←hbs];clear hW2 hbs hk1 hk2 hk3 hb2 cO;refine aO.out _ _ (dJ.out _ HB2.out) (fun hHeld=>?_);clear aO KC;(try simp only[Act.put,aZ,bq,bA]);refine wpAnyH_ready (rs:=[18]) (by decide +kernel) (by simp) (AllReadyH.cons (dA rfl) (fun KC aO=>?_) AllReadyH.nil);refine bW 50 ?_;go_simp;clear hHeld;refine(HO.out).mono ?_;rintro r w4 ⟨kk,rfl,hw4⟩;rw[hw4];clear hw4;refine aO.out _ _ (dJ.out _ HB2.out) (fun hHeld=>?_);clear aO KC;try simp only[Act.put,aZ,bq,bA]
 repeat
  (first|refine aD 19 (v:=?_) rfl ?hy ?_
   case hy=>
    intro w0 hS;obtain⟨c0,c1,c2,c3,c4,c5⟩:=hS;go_simp
    (first|done|with_reducible rfl)
   try simp only[Act.put,aZ,bq,bA])
 refine wpAnyH_done (by decide +kernel) ?_ _;clear hHeld;go_wp2_with fail;rw[HF.out];exact⟨kk,rfl,HB1.out.trans (HB2.out.mono HB1.out.size)⟩
/-- The candidates in memory. -/
theorem slC(W:World)(g n cap:Nat)(h:1≤n)(hc:n≤cap):(Instr.slice 95 (.slice (some ⟨g,0,none⟩) n cap) (some (.int .i64 1)) none none).run Tryz.prog W=.ok (.slice (some ⟨g,(if cap=1 then 0 else 3),none⟩) (n-1) (cap-1)) W:=by
 have hu:Tryz.prog.underlying 95=some (.slice (Tryz.prog.elem 95)):=by kernel_rfl
 have hs:(sizeOf (Tryz.prog.elem 95)).run Tryz.prog W=.ok 3 W:=by kernel_rfl
 rw[run_slice_l W 95 (some ⟨g,0,none⟩) n cap hu .i64 1 (by omega) (by omega),hs]
 by_cases e:cap=1
 ·simp[Result.andThen,sliced,e]
 ·simp[Result.andThen,sliced,Addr.add,e]
  try (intro h;omega)
theorem F5{l:List (Int×Value×Int)}(h:Sl w 98 3 u l.length (fC Vd l))(h0:0<l.length)(hn:l.length≤1000)(hs:∀x∈l,∃p n c,x.2.1=.slice p n c∧n≤1000000) :
 Calls Tryz.prog 48 #[u,.func (.func 49) #[] #[]] w fun r w'=>∃x,x∈l∧r=.returned (.agg #[.int .i64 x.1,x.2.1,.int .i64 x.2.2])∧Below w.heap.size w w':=by
 obtain⟨F,HF⟩:=aJ (fun(r:Ending)(w':World)=>∃x,x∈l∧r=.returned (.agg #[.int .i64 x.1,x.2.1,.int .i64 x.2.2])∧Below w.heap.size w w');rw[←HF.out];obtain⟨n,hnl⟩:∃n,n=l.length:=⟨_,rfl⟩;rw[←hnl]at h h0 hn
 obtain⟨g,cap,rfl,hrw⟩:∃g cap,u=.slice (some ⟨g,0,none⟩) n cap∧Rw w 98 3 n cap g (fC Vd l):=by
  rcases h with⟨-,h2⟩|h
  ·omega
  ·exact h
 have hle:=hrw.le;have hgl:=hrw.lt
 have hcells:∀i x,l[i]?=some x→∀W,Below w.heap.size w W→W.cell? ⟨g,i*3,none⟩=some (.int .i64 x.1)∧W.cell? ⟨g,i*3+1,none⟩=some x.2.1∧W.cell? ⟨g,i*3+2,none⟩=some (.int .i64 x.2.2):=fun i x hx W hb=>by
  have hi:i<n:=by rw[hnl];exact(List.getElem?_eq_some_iff.1 hx).1
  have hr:=hrw.kept (hb.block g hgl);refine⟨?_,?_,?_⟩
  ·have:=hr.cell (i:=i) (j:=0) hi (by omega);rw[kg hx]at this;simpa[Vd]using this
  ·have:=hr.cell (i:=i) (j:=1) hi (by omega);rw[kg hx]at this;simpa[Vd]using this
  ·have:=hr.cell (i:=i) (j:=2) hi (by omega);rw[kg hx]at this;simpa[Vd]using this
 obtain⟨x0,hx0⟩:∃x,l[0]?=some x:=⟨_,List.getElem?_eq_getElem (by omega)⟩;obtain⟨p0,n0,c0,e0,hn0⟩:=hs x0 (List.mem_of_getElem? hx0);obtain⟨z0,z1,z2⟩:=hcells 0 x0 hx0 (w.alloc (.cells #[.int .i64 0,.slice none 0 0,.int .i64 0] 98)) ((Below.refl _ _).alloc (Nat.le_refl _) _);simp only[Nat.zero_mul,Nat.zero_add]at z0 z1 z2;rw[e0]at z1;have hsl:=fun W=>slC W g n cap (by omega) hle;obtain⟨b4,hb4⟩:∃b4,b4=w.heap.size:=⟨_,rfl⟩;obtain⟨b5,hb5⟩:∃b5,b5=w.heap.size+1:=⟨_,rfl⟩;obtain⟨W1,hW1⟩:∃W1,W1=(w.alloc (.cells #[.int .i64 0,.slice none 0 0,.int .i64 0] 98)).alloc (.cells #[.int .i64 x0.1,.slice p0 n0 c0,.int .i64 x0.2.2] 98):=⟨_,rfl⟩;have hb1:Below w.heap.size w W1:=by rw[hW1];exact((Below.refl _ _).alloc (Nat.le_refl _) _).alloc (by simp) _
 have q4:W1.heap[b4]?=some (.cells #[.int .i64 0,.slice none 0 0,.int .i64 0] 98 (0,0)):=by rw[hW1,hb4];exact(Below.heap_alloc _ _ _ (by simp)).trans (heap_alloc_new _ _)
 have q5:W1.heap[b5]?=some (.cells #[.int .i64 x0.1,.slice p0 n0 c0,.int .i64 x0.2.2] 98 (0,0)):=by rw[hW1,hb5];exact aL (by simp)
 have HS:=Lib.hid (And.intro hs (And.intro hnl hcells));have HX0:=Lib.hid (And.intro hx0 e0);have HQ:=Lib.hid (And.intro hb1 (And.intro q4 q5));have n45:¬b4=b5:=by omega
 have n54:¬b5=b4:=by omega
 have hge:w.heap.size≤b4∧w.heap.size≤b5:=by omega
 have FU:=Lib.hid hge;obtain⟨off,hoff⟩:∃off,off=if cap=1 then 0 else 3:=⟨_,rfl⟩;rw[←hoff]at hsl;have aa7:=Lib.hid hoff;obtain⟨m,hm⟩:∃m,m=n-1:=⟨_,rfl⟩;rw[←hm]at hsl;have HM:=Lib.hid (And.intro hm (And.intro h0 hle));have aa8:m≤1000:=by omega
 clear hs hnl hcells hx0 e0 hb1 q4 q5 h hrw hoff hge hm;have TP:(0:Int)<(n:Int):=by omega
 go_in;go_wp2_with fail;rw[←hW1,←hb5,←hb4];clear hW1 hb5 hb4 z0 z1 z2 hsl
 go_loopg [7,14,15,16,17,18,19,20,21,22,23,24] m (fun q v7 v14 v15 v16 v17 v18 v19 v20 v21 v22 v23 v24 wr=>∃(j:Nat)(y:Int×Value×Int),q=m-j∧j≤m∧v14=.int .i64 (j:Nat)∧y∈l∧Below w.heap.size w wr∧wr.heap[b4]?=some (.cells #[.int .i64 0,.slice none 0 0,.int .i64 0] 98 (0,0))∧wr.heap[b5]?=some (.cells #[.int .i64 y.1,y.2.1,.int .i64 y.2.2] 98 (0,0)))
 case atStart=>exact⟨0,x0,rfl,Nat.zero_le _,rfl,List.mem_of_getElem? HX0.out.1,HQ.out.1,HQ.out.2.1,by rw[HX0.out.2];exact HQ.out.2.2⟩
 case round=>
  obtain⟨j,y,rfl,hj,rfl,hy,hb,q4,q5⟩:=hrel;obtain⟨py,ny,cy,ey,hny⟩:=HS.out.1 y hy;obtain⟨y0,y1,y2⟩:=y;simp only at ey q5;subst ey;have v0:wr.cell? ⟨b5,0,none⟩=some (.int .i64 y0):=au q5 0 rfl;have v1:wr.cell? ⟨b5,1,none⟩=some (.slice py ny cy):=au q5 1 rfl;have v2:wr.cell? ⟨b5,2,none⟩=some (.int .i64 y2):=au q5 2 rfl;have l5:=aV q5;have HR:=Lib.hid (And.intro hb (And.intro q4 (And.intro q5 hy)))
  by_cases hlt:j<m
  ·have hji:(j:Int)<(m:Int):=by omega
   have ho3:off=3:=by
    have h1:=HM.out;have h2:=aa7.out;rw[h2,if_neg (by omega)]
   obtain⟨x,hx⟩:∃x,l[j+1]?=some x:=⟨_,List.getElem?_eq_getElem (by have:=HM.out;have:=HS.out.2.1;omega)⟩;obtain⟨px,nx,cx,ex,hnx⟩:=HS.out.1 x (List.mem_of_getElem? hx);obtain⟨z0,z1,z2⟩:=HS.out.2.2 _ _ hx wr hb;have HXM:=Lib.hid (List.mem_of_getElem? hx);obtain⟨Ud,x1,x2⟩:=x;simp only at ex z0 z1 z2;subst ex;rw[show(j+1)*3=off+j*3 from by omega]at z0 z1 z2;obtain⟨b7,kH⟩:∃b7,b7=wr.heap.size:=⟨_,rfl⟩;obtain⟨W7,xD⟩:∃W7,W7=wr.alloc (.cells #[.int .i64 Ud,.slice px nx cx,.int .i64 x2] 98):=⟨_,rfl⟩;have YQ:=jU xD;have q7:W7.heap[b7]?=some (.cells #[.int .i64 Ud,.slice px nx cx,.int .i64 x2] 98 (0,0)):=by rw[xD,kH];exact heap_alloc_new _ _
   have cC:=OD (a0:=Ud) (a2:=x2) (b0:=y0) (b2:=y2) (pa:=px) (pb:=py) (na:=nx) (ca:=cx) (nb:=ny) (cb:=cy) hnx hny W7;have HC:=Lib.hid cC;have H7:=Lib.hid (And.intro YQ q7);clear hb q4 q5 hy hx YQ q7 cC ho3;go_wp2_with fail;rw[←xD,←kH];clear xD kH z0 z1 z2;refine(HC.out).mono ?_;rintro r w8 ⟨k,rfl,gY⟩;have Rl:Below wr.heap.size wr w8:=H7.out.1.trans (gY.mono H7.out.1.size);have Ve:w8.heap[b5]?=some (.cells #[.int .i64 y0,.slice py ny cy,.int .i64 y2] 98 (0,0)):=(Rl.block b5 l5).trans HR.out.2.2.1;have q7':w8.heap[b7]?=some (.cells #[.int .i64 Ud,.slice px nx cx,.int .i64 x2] 98 (0,0)):=(gY.block b7 (aV H7.out.2)).trans H7.out.2;have q4':w8.heap[b4]?=some (.cells #[.int .i64 0,.slice none 0 0,.int .i64 0] 98 (0,0)):=(Rl.block b4 (aV HR.out.2.1)).trans HR.out.2.1;have u0:w8.cell? ⟨b7,0,none⟩=some (.int .i64 Ud):=au q7' 0 rfl;have u1:w8.cell? ⟨b7,1,none⟩=some (.slice px nx cx):=au q7' 1 rfl;have u2:w8.cell? ⟨b7,2,none⟩=some (.int .i64 x2):=au q7' 2 rfl;have s0:w8.cell? ⟨b5,0,none⟩=some (.int .i64 y0):=au Ve 0 rfl;have s1:w8.cell? ⟨b5,1,none⟩=some (.slice py ny cy):=au Ve 1 rfl;have s2:w8.cell? ⟨b5,2,none⟩=some (.int .i64 y2):=au Ve 2 rfl;have sf:∀o,w8.frozen? ⟨b5,o,none⟩=false:=jv Ve;have sl:=aV Ve;have H8:=Lib.hid (And.intro (HR.out.1.trans (Rl.mono HR.out.1.size)) (And.intro q4' Ve));clear gY Rl Ve q7' q4' v0 v1 v2
   by_cases hk:k<0
   ·go_wp2_with fail
    go_roundg (m-(j+1))
    case rel=>
     refine⟨j+1,(Ud,.slice px nx cx,x2),rfl,by omega,by go_num,HXM.out,((H8.out.1.setCell (p:=⟨b5,0,none⟩) FU.out.2 _).setCell (p:=⟨b5,1,none⟩) FU.out.2 _).setCell (p:=⟨b5,2,none⟩) FU.out.2 _,?_,?_⟩
     ·exact(heap_setCell_other _ _ _ _ n45).trans ((heap_setCell_other _ _ _ _ n45).trans ((heap_setCell_other _ _ _ _ n45).trans H8.out.2.1))
     ·exact aH (aH (aH H8.out.2.2 _) _) _
    case measure=>omega
   ·go_wp2_with fail
    go_roundg (m-(j+1))
    case rel=>exact⟨j+1,(y0,.slice py ny cy,y2),rfl,by omega,by go_num,HR.out.2.2.2,H8.out⟩
    case measure=>omega
  ·obtain rfl:j=m:=by omega
   have t0:wr.cell? ⟨b4,0,none⟩=some (.int .i64 0):=au q4 0 rfl;have t1:wr.cell? ⟨b4,1,none⟩=some (.slice none 0 0):=au q4 1 rfl;have t2:wr.cell? ⟨b4,2,none⟩=some (.int .i64 0):=au q4 2 rfl;have tf:∀o,wr.frozen? ⟨b4,o,none⟩=false:=jv q4;have l4:=aV q4;clear hb q4 q5 hy;go_wp2_with fail;refine bodyPost_ret (results_cell_row (t:=98) (fr:=(0,0)) rfl _ _ b4 _ _ rfl (aH (aH (aH HR.out.2.1 _) _) _) Tryz.underlying98 rfl (by kernel_rfl)) rfl ?_;rw[HF.out];exact⟨_,HR.out.2.2.2,rfl,((HR.out.1.setCell (p:=⟨b4,0,none⟩) FU.out.1 _).setCell (p:=⟨b4,1,none⟩) FU.out.1 _).setCell (p:=⟨b4,2,none⟩) FU.out.1 _⟩
end
end
section
/-- A list of lists,all in new blocks. -/
def Vf(B:Nat)(w:World)(v:Value)(ls:List (List Nat)):Prop:=∃vs:List Value,vs.length=ls.length∧aQ B w 22 1 vE v vs∧∀(i:Nat)(x:Value)(l:List Nat),vs[i]?=some x→ls[i]?=some l→bO B w x l
section
variable {w w':World} {v u x:Value} {l m:List Nat} {ls:List (List Nat)} {B:Nat}
theorem bO.dM{B:Nat}(h:bO B w v l):av w v l:=by
 obtain⟨g,cap,h1,h2,h3⟩:=h;exact .inr ⟨g,cap,h1,h3⟩
theorem bO.below(h:bO B w v l)(hb:Below w.heap.size w w'):bO B w' v l:=by
 obtain⟨g,cap,h1,h2,h3⟩:=h;exact⟨g,cap,h1,h2,h3.kept (hb.block g h3.lt)⟩
theorem bO.mono{B':Nat}(h:bO B w v l)(hB:B'≤B):bO B' w v l:=by
 obtain⟨g,cap,h1,h2,h3⟩:=h;exact⟨g,cap,h1,Nat.le_trans hB h2,h3⟩
theorem Vf.Rm(h:Vf B w v ls):fD w v ls:=by
 obtain⟨vs,h1,h2,h3⟩:=h;exact⟨vs,h1,h2.1,fun i x l hx hl=>(h3 i x l hx hl).dM⟩
theorem Vf.below(h:Vf B w v ls)(hb:Below w.heap.size w w'):Vf B w' v ls:=by
 obtain⟨vs,h1,h2,h3⟩:=h;exact⟨vs,h1,h2.below hb,fun i x l hx hl=>(h3 i x l hx hl).below hb⟩
theorem bO.app{α:Type}{f:α→List Value}{B B' T k m' n2 g cap:Nat}{E:Nat→List Value}{la:List α}(h:bO B w v l)(ha:aQ B' w T k f u la)(hT:T≠3)(hq:bY w T k u n2 m' E g cap w'):bO B w' v l:=by
 obtain⟨g',c',h1,h2,h3⟩:=h;exact⟨g',c',h1,h2,ha.Ba hT hq h3⟩
theorem y9(h:fD w u ls)(hn:ls.length≤1000)(hl:∀l∈ls,l.length≤1000) :
 Calls Tryz.prog 44 #[u] w fun r w'=>∃o,r=.returned o∧Vf w.heap.size w' o (ls.map Bd.f_)∧Below w.heap.size w w':=by
 obtain⟨F,HF⟩:=aJ (fun(r:Ending)(w':World)=>∃o,r=.returned o∧Vf w.heap.size w' o (ls.map Bd.f_)∧Below w.heap.size w w');rw[←HF.out];obtain⟨pu,cu,rfl⟩:=h.shape;obtain⟨n,hn0⟩:∃n,n=ls.length:=⟨_,rfl⟩;rw[←hn0]at h hn⊢;have HL:=Lib.hid (And.intro h (And.intro hn0 hl));clear h hn0 hl;go_in;go_wp2_with fail
 go_loopg [3,5,8,9,10,11,12,13,14,15,16,17] n (fun q v3 v5 v8 v9 v10 v11 v12 v13 v14 v15 v16 v17 wr=>∃(j:Nat)(vs:List Value),q=n-j∧j≤n∧v8=.int .i64 (j:Nat)∧vs.length=j∧aQ w.heap.size wr 22 1 vE v3 vs∧(∀(i:Nat)(x:Value)(l:List Nat),vs[i]?=some x→ls[i]?=some l→bO w.heap.size wr x (Bd.f_ l))∧Below w.heap.size w wr)
 case atStart=>exact⟨0,[],rfl,Nat.zero_le _,rfl,rfl,aQ.nil,fun i x l hx=>by simp at hx,Below.refl _ _⟩
 case round=>
  obtain⟨j,vs,rfl,hj,rfl,hvs,hacc,hel,hb⟩:=hrel;obtain⟨pa,ca,hsh⟩:=hacc.shape;rw[hvs]at hsh;subst hsh
  by_cases hlt:j<n
  ·have hji:(j:Int)<(n:Int):=by omega
   have hjl:j<ls.length:=by rw[←HL.out.2.1];exact hlt
   obtain⟨m,hm⟩:∃m,ls[j]?=some m:=⟨_,List.getElem?_eq_getElem hjl⟩;obtain⟨g,x,hpp,hgl,hcell,hni⟩:=(HL.out.1.below hb).get hm;subst hpp;have hml:=HL.out.2.2 m (List.mem_of_getElem? hm);have cO:=lZ hni hml;obtain⟨px,cx,hx⟩:=hni.shape;obtain⟨nm,hnm⟩:∃nm,nm=m.length:=⟨_,rfl⟩;rw[←hnm]at hx;subst hx;have HC:=Lib.hid cO;have HR:=Lib.hid (And.intro hvs (And.intro hacc (And.intro hel (And.intro hb hm))));have hle:=hb.size;clear hacc hb hjl hm hni cO hvs hel hml hnm;go_wp2_with fail;refine(HC.out).mono ?_;rintro r w5 ⟨o,rfl,ho,hb5⟩;obtain⟨go,co,e1,e2,e3⟩:=ho.ex;have DI:=(HR.out.2.1.below hb5)
   have hS0:∀o,Sl (w5.alloc o) 22 1 (.slice pa j ca) j (fC vE vs):=fun o=>by
    have:=(DI.alloc o).1;rw[HR.out.1]at this;exact this
   obtain⟨lo,hlo⟩:∃lo,lo=(Bd.f_ m).length:=⟨_,rfl⟩;rw[←hlo]at e1;subst e1;have HS:=Lib.hid hS0;have HO:=Lib.hid (And.intro ho (And.intro hb5 (And.intro DI e2)));clear ho hb5 DI hS0 e2 e3 hlo
   go_wp2_with (at_builtin;refine aA _ rfl _ _ _ rfl Ti rfl (HS.out _) rfl (aL (by simp)) rfl (by simp[Value.oneCell']) (by omega) ?_;intro g2 c2 w3 hq2;have HQ:=Lib.hid hq2;clear hq2)
   go_roundg (n-(j+1))
   case rel=>
    obtain⟨hvs,hacc,hel,hb,hm⟩:=HR.out;obtain⟨ho,hb5,DI,e2⟩:=HO.out;have hb6:Below w.heap.size w (w5.alloc (.cells #[.slice (some ⟨go,0,none⟩) lo co] 22)):=(hb.trans (hb5.mono hle)).alloc (by have:=hb5.size;omega) _;have UG:=DI.alloc (.cells #[.slice (some ⟨go,0,none⟩) lo co] 22);have hq:bY _ 22 1 (.slice pa j ca) j 1 _ g2 c2 w3:=HQ.out;obtain⟨r1,r2⟩:=UG.push (e:=.slice (some ⟨go,0,none⟩) lo co) HR.out.1 hq hb6.size rfl;have xK:Below w5.heap.size w5 (w5.alloc (.cells #[.slice (some ⟨go,0,none⟩) lo co] 22)):=(Below.refl _ _).alloc (Nat.le_refl _) _;refine⟨j+1,vs++[.slice (some ⟨go,0,none⟩) lo co],rfl,by omega,by go_num,by simp[hvs],?_,fun i x l hx hl=>?_,hb6.trans r2⟩
    ·exact r1
    ·by_cases hin:i<vs.length
     ·rw[List.getElem?_append_left hin]at hx;exact(((hel i x l hx hl).below hb5).below xK).app UG (by decide) hq
     ·rw[List.getElem?_append_right (by omega)]at hx
      have h0:i-vs.length=0:=by
       rcases Nat.eq_zero_or_pos (i-vs.length)with h|h
       ·exact h
       ·rw[List.getElem?_eq_none (by simp;omega)]at hx;cases hx
      have hij:i=j:=by omega
      rw[h0]at hx;simp only[List.getElem?_cons_zero,Option.some.injEq]at hx;subst hx;rw[hij,hm]at hl;obtain rfl:=Option.some.inj hl;exact((ho.mono hb.size).below xK).app UG (by decide) hq
   case measure=>omega
  ·obtain rfl:j=n:=by omega
   have HR:=Lib.hid (And.intro hvs (And.intro hacc (And.intro hel hb)));clear hvs hacc hel hb;go_wp2_with fail;rw[HF.out];obtain⟨hvs,hacc,hel,hb⟩:=HR.out;refine⟨_,rfl,⟨vs,by rw[List.length_map,←HL.out.2.1,hvs],hacc,fun i x l hx hl=>?_⟩,hb⟩;rw[List.getElem?_map]at hl
   cases hi:ls[i]? with
   |none=>rw[hi]at hl;cases hl
   |some l0=>
    rw[hi]at hl;obtain rfl:=Option.some.inj hl;exact hel i x l0 hx hi
end
end
section
/-- A map of numbers: what it gives,whether there is an entry or none. -/
structure dB(w:World)(bm:Nat)(g:Nat→Int):Prop where
 ex:∃(F:Nat→Option Int)(c:Nat),bV jJ w bm c F∧(∀v,F v≠none→v<64)∧∀v,(F v).getD 0=g v
section
variable {w w':World} {bm v k n B T:Nat} {g:Nat→Int} {u x:Value} {l:List Nat} {ls:List (List Nat)} {E:Nat→List Value} {α:Type} {f:α→List Value} {la:List α}
theorem dB.kept(h:dB w bm g)(hb:w'.heap[bm]?=w.heap[bm]?):dB w' bm g:=by
 obtain⟨F,c,h1,h2,h3⟩:=h.ex;exact⟨F,c,h1.kept hb,h2,h3⟩
theorem dB.lt(h:dB w bm g):bm<w.heap.size:=by
 obtain⟨F,c,h1,h2,h3⟩:=h.ex;exact h1.lt
theorem dB.congr{g':Nat→Int}(h:dB w bm g)(he:∀v,g' v=g v):dB w bm g':=by
 obtain⟨F,c,h1,h2,h3⟩:=h.ex;exact⟨F,c,h1,h2,fun v=>(h3 v).trans (he v).symm⟩
theorem dB.below(h:dB w bm g)(hb:Below w.heap.size w w'):dB w' bm g:=h.kept (hb.block bm h.lt)
theorem dB.look(h:dB w bm g)(hv:v<4611686018427387904):(Instr.lookup 87 (.map (some bm)) (.int .i64 (v:Nat)) false).run Tryz.prog w=.ok (.int .i64 (g v)) w:=by
 obtain⟨F,c,h1,h2,h3⟩:=h.ex;have:=h1.qI (x:=v) hv;rw[←h3 v];exact this
theorem dB.set(h:dB w bm g)(hv:v<64){y:Int}(hy:-1000000≤y∧y≤1000000):∃w',(Instr.mapUpdate 87 (.map (some bm)) (.int .i64 (v:Nat)) (.int .i64 y)).run Tryz.prog w=.ok () w'∧dB w' bm (fun u=>if u=v then y else g u)∧Only (fun q=>q=bm) w w':=by
 obtain⟨F,c,h1,h2,h3⟩:=h.ex
 have hc:c≤64:=by
  obtain⟨l,e1,e2,e3⟩:=h1.list;rw[←e2];exact Bd.eZ 64 l e1 (fun x hx=>h2 x ((e3 x).1 hx))
 obtain⟨w',u1,u2,u3⟩:=h1.store (x:=v) (show v<4611686018427387904 by omega) (y:=y) (show(Lit.int .i64 y).wf=true from WalkArith.wf_i64 (by omega)) (by unfold maxLen;omega);refine⟨w',u1,⟨_,_,u2,fun u hu=>?_,fun u=>?_⟩,u3⟩
 ·by_cases e:u=v
  ·omega
  ·rw[jY e]at hu;exact h2 u hu
 ·by_cases e:u=v
  ·rw[e,qJ,if_pos rfl];rfl
  ·rw[jY e,if_neg e];exact h3 u
theorem dB.made(w:World):dB (w.alloc (.map #[] 0)) w.heap.size (fun _=>0):=⟨fun _=>none,0,bV.made (t:=jJ) w,fun v h=>absurd rfl h,fun v=>rfl⟩
/-- A row is no map. -/
theorem dB.Tj(h:dB w bm g){cap q:Nat}(hr:Rw w T k n cap q E):q≠bm:=fun e=>by
 obtain⟨F,c,⟨⟨D,⟨es,cl,h1,h2⟩,h3⟩,hg,hf⟩,-⟩:=h.ex;obtain⟨⟨cur,e1,-⟩,-⟩:=hr;rw[e,h1]at e1;cases e1
theorem dB.IG(h:dB w bm g){cap q:Nat}(hr:Rw w T k n cap q E)(o:Only (fun q=>q=bm) w w'):Rw w' T k n cap q E:=hr.kept (o.block q hr.lt (h.Tj hr))
theorem dB.Bf(h:dB w bm g)(hs:Sl w T k u n E)(o:Only (fun q=>q=bm) w w'):Sl w' T k u n E:=by
 rcases hs with h1|⟨q,cap,h1,hr⟩
 ·exact .inl h1
 ·exact .inr ⟨q,cap,h1,h.IG hr o⟩
theorem dB.dM(h:dB w bm g)(hn:av w u l)(o:Only (fun q=>q=bm) w w'):av w' u l:=h.Bf hn o
theorem dB.YT(h:dB w bm g)(hn:bO B w u l)(o:Only (fun q=>q=bm) w w'):bO B w' u l:=by
 obtain⟨q,cap,h1,h2,hr⟩:=hn;exact⟨q,cap,h1,h2,h.IG hr o⟩
theorem dB.lists(h:dB w bm g)(hn:fD w u ls)(o:Only (fun q=>q=bm) w w'):fD w' u ls:=by
 obtain⟨vs,h1,h2,h3⟩:=hn;exact⟨vs,h1,h.Bf h2 o,fun i x l hx hl=>h.dM (h3 i x l hx hl) o⟩
theorem dB.acc(h:dB w bm g)(ha:aQ B w T k f u la)(o:Only (fun q=>q=bm) w w'):aQ B w' T k f u la:=⟨h.Bf ha.1 o,ha.2⟩
/-- An append leaves the map. -/
theorem dB.app{B' m' n2 g2 cap:Nat}{E':Nat→List Value}(h:dB w bm g)(ha:aQ B' w T k f u la)(hq:bY w T k u n2 m' E' g2 cap w'):dB w' bm g:=by
 refine h.kept (hq.only.block bm h.lt (fun e=>?_))
 rcases ha.1 with⟨h1,-⟩|⟨q,c,h1,hr⟩
 ·rw[h1]at e;cases e
 ·rw[h1]at e;have h4:some q=some bm:=e
  injection h4 with h4
  exact h.Tj hr h4
theorem fD.app{B' m' n2 g2 cap:Nat}{E':Nat→List Value}(h:fD w x ls)(ha:aQ B' w T k f u la)(hT:T≠3)(hT2:T≠22)(hq:bY w T k u n2 m' E' g2 cap w'):fD w' x ls:=by
 obtain⟨vs,h1,h2,h3⟩:=h;refine⟨vs,h1,?_,fun i x l hx hl=>?_⟩
 ·rcases h2 with e|⟨q,c,e,hr⟩
  ·exact .inl e
  ·exact .inr ⟨q,c,e,ha.Ba hT2 hq hr⟩
 ·rcases h3 i x l hx hl with e|⟨q,c,e,hr⟩
  ·exact .inl e
  ·exact .inr ⟨q,c,e,ha.Ba hT hq hr⟩
theorem av.app{B' m' n2 g2 cap:Nat}{E':Nat→List Value}(h:av w x l)(ha:aQ B' w T k f u la)(hT:T≠3)(hq:bY w T k u n2 m' E' g2 cap w'):av w' x l:=by
 rcases h with e|⟨q,c,e,hr⟩
 ·exact .inl e
 ·exact .inr ⟨q,c,e,ha.Ba hT hq hr⟩
/-- Rows of any other type than X,and maps,stay as they were. -/
structure kK(X:TypeId)(w w':World):Prop where
 row:∀(g:Nat)(cur:Array Value)(T:TypeId),T≠X→w.heap[g]?=some (.cells cur T (0,0))→w'.heap[g]?=some (.cells cur T (0,0))
 map:∀(g:Nat) es s,w.heap[g]?=some (.map es s)→w'.heap[g]?=some (.map es s)
theorem kK.refl{X:TypeId}:kK X w w:=⟨fun _ _ _ _ h=>h,fun _ _ _ h=>h⟩
theorem kK.trans{X:TypeId}{w'':World}(h:kK X w w')(h':kK X w' w''):kK X w w'':=⟨fun g cur T hT hg=>h'.row g cur T hT (h.row g cur T hT hg),fun g es s hg=>h'.map g es s (h.map g es s hg)⟩
theorem kK.below{X:TypeId}(hb:Below w.heap.size w w'):kK X w w':=⟨fun g cur T _ hg=>(hb.block g (aV hg)).trans hg,fun g es s hg=>(hb.block g (aV hg)).trans hg⟩
theorem kK.app{X:TypeId}{B' m' n2 g2 cap:Nat}{E':Nat→List Value}(ha:aQ B' w X k f u la)(hq:bY w X k u n2 m' E' g2 cap w'):kK X w w':=by
 have hne:∀(g:Nat)(o:Obj),w.heap[g]?=some o→(∀cur,o≠.cells cur X (0,0))→w'.heap[g]?=some o:=fun g o hg ho=>by
  refine(hq.only.block g (aV hg) (fun e=>?_)).trans hg
  rcases ha.1 with⟨h1,-⟩|⟨q,c,h1,⟨⟨cur,h2,-⟩,-⟩⟩
  ·rw[h1]at e;cases e
  ·rw[h1]at e;have h4:some q=some g:=e
   injection h4 with h4
   rw[h4,hg]at h2
   injection h2 with h2
   exact ho cur h2
 exact⟨fun g cur T hT hg=>hne g _ hg (fun c e=>by injection e with _ e _;exact hT e),fun g es s hg=>hne g _ hg (fun c e=>by cases e)⟩
theorem kK.box{X:TypeId}{b:Nat}{cs:Array Value}(hb:w.heap[b]?=some (.cells cs X (0,0)))(o:Only (fun q=>q=b) w w'):kK X w w':=by
 refine⟨fun g cur T hT hg=>(o.block g (aV hg) (fun e=>?_)).trans hg,fun g es s hg=>(o.block g (aV hg) (fun e=>?_)).trans hg⟩
 ·rw[e,hb]at hg;injection hg with hg;injection hg with _ hg _;exact hT hg.symm
 ·rw[e,hb]at hg;cases hg
theorem Rw.kp{X T k n c g:Nat}{E:Nat→List Value}(h:Rw w T k n c g E)(kp:kK X w w')(hT:T≠X):Rw w' T k n c g E:=by
 obtain⟨⟨cur,h1,h2⟩,h3⟩:=h;exact⟨⟨cur,kp.row g cur T hT h1,h2⟩,h3⟩
theorem Sl.kp{X T k n:Nat}{E:Nat→List Value}(h:Sl w T k u n E)(kp:kK X w w')(hT:T≠X):Sl w' T k u n E:=by
 rcases h with h1|⟨g,c,h1,h2⟩
 ·exact .inl h1
 ·exact .inr ⟨g,c,h1,h2.kp kp hT⟩
theorem av.kp{X:TypeId}(h:av w u l)(kp:kK X w w')(hT:3≠X):av w' u l:=Sl.kp h kp hT
theorem bO.kp{X:TypeId}(h:bO B w u l)(kp:kK X w w')(hT:3≠X):bO B w' u l:=by
 obtain⟨g,c,h1,h2,h3⟩:=h;exact⟨g,c,h1,h2,h3.kp kp hT⟩
theorem fD.kp{X:TypeId}(h:fD w u ls)(kp:kK X w w')(hT:3≠X)(hT2:22≠X):fD w' u ls:=by
 obtain⟨vs,h1,h2,h3⟩:=h;exact⟨vs,h1,Sl.kp h2 kp hT2,fun i x l hx hl=>(h3 i x l hx hl).kp kp hT⟩
theorem aQ.kp{X:TypeId}{k:Nat}(h:aQ B w T k f u la)(kp:kK X w w')(hT:T≠X):aQ B w' T k f u la:=⟨Sl.kp h.1 kp hT,h.2⟩
theorem dB.kp{X:TypeId}(h:dB w bm g)(kp:kK X w w'):dB w' bm g:=by
 have h0:=h;obtain⟨F,c,h1,-⟩:=h.ex;obtain⟨⟨D,⟨es,cl,e1,e2⟩,e3⟩,hg,hf⟩:=h1;exact h0.kept ((kp.map bm _ _ e1).trans e1.symm)
theorem aQ.Rn{m' n2 g2 cap b:Nat}{E':Nat→List Value}(h:aQ B w T k f u la)(hq:bY w T k u n2 m' E' g2 cap w')(hb:b<B)(hw:b<w.heap.size):w'.heap[b]?=w.heap[b]?:=by
 refine hq.only.block b hw (fun e=>?_)
 rcases h.1 with⟨h1,-⟩|⟨q,c,h1,-⟩
 ·rw[h1]at e;cases e
 ·rw[h1]at e;have h4:some q=some b:=e
  injection h4 with h4
  have:=h.2 _ _ _ h1;omega
theorem aQ.Vh{b o:Nat}{v:Value}(h:aQ B w T k f u la)(hb:b<B):aQ B (w.setCell ⟨b,o,none⟩ v) T k f u la:=by
 refine⟨h.1.kept (fun g m c e hg=>heap_setCell_other _ _ _ _ (fun e2=>?_)),h.2⟩;have:=h.2 g m c e;have:g=b:=e2;omega
theorem aQ.Vi{b:Nat}(h:aQ B w T k f u la)(o:Only (fun q=>q=b) w w')(hne:∀g m c,u=.slice (some ⟨g,0,none⟩) m c→g≠b):aQ B w' T k f u la:=⟨h.1.kept (fun g m c e hg=>o.block g hg (hne g m c e)),h.2⟩
theorem aQ.blk{g m c:Nat}(h:aQ B w T k f u la)(e:u=.slice (some ⟨g,0,none⟩) m c):g<w.heap.size:=by
 rcases h.1 with⟨h1,-⟩|⟨q,c',h1,hr⟩
 ·rw[h1]at e;cases e
 ·rw[h1]at e;injection e with e;injection e with e;injection e with e;rw[←e];exact hr.lt
end
end
section
section
variable {w w':World} {v u:Value} {l:List Nat} {x n:Nat}
theorem aQ.fresh{α:Type}{T k:Nat}{f:α→List Value}(w:World):aQ w.heap.size (w.alloc (.cells #[] T)) T k f (.slice (some ⟨w.heap.size,0,none⟩) 0 0) []:=
 ⟨.inr ⟨_,0,rfl,⟨_,heap_alloc_new _ _,by simp,fun i hi=>absurd hi (Nat.not_lt_zero _)⟩,Nat.le_refl _⟩,fun g m c e=>by injection e with e;injection e with e;injection e with e;omega⟩
theorem av.wN{p:Option Addr}{n c:Nat}(h:av w (.slice p n c) l)(hn:n=l.length){j:Nat}(hj:j<n):∃g a,p=some ⟨g,0,none⟩∧g<w.heap.size∧l[j]?=some a∧w.cell? ⟨g,j,none⟩=some (.int .i64 (a:Nat)):=by
 obtain⟨g,e1,e2,e3⟩:=h.get (j:=j) (by omega);have ha:l[j]?=some (l.getD j 0):=by rw[List.getD_eq_getElem?_getD,List.getElem?_eq_getElem (by omega)];rfl
 exact⟨g,_,e1,e2,ha,e3⟩
theorem KO(h:av w v l)(hn:l.length≤1000000)(x:Nat) :
 Calls Tryz.prog 141 #[v,.int .i64 (x:Nat)] w fun r w'=>r=.returned (.bool (decide (x∈l)))∧w'=w:=by
 obtain⟨F,HF⟩:=aJ (fun(r:Ending)(w':World)=>r=.returned (.bool (decide (x∈l)))∧w'=w);rw[←HF.out];obtain⟨p,c,rfl⟩:=h.shape;obtain⟨m,hm⟩:∃m,m=l.length:=⟨_,rfl⟩;rw[←hm]at h hn⊢;have HH:=Lib.hid (And.intro h hm);clear h hm;go_in
 go_wp2
 go_loopg [5,6,7,8,9,10,11,12,13,14,15,16,17] m (fun q v5 v6 v7 v8 v9 v10 v11 v12 v13 v14 v15 v16 v17 wr=>∃j:Nat,q=m-j∧j≤m∧v5=.int .i64 (j:Nat)∧x∉l.take j∧wr=w)
 case atStart=>exact⟨0,rfl,Nat.zero_le _,rfl,by simp,rfl⟩
 case round=>
  obtain⟨j,rfl,hj,rfl,hx,rfl⟩:=hrel;have HX:=Lib.hid hx;clear hx
  by_cases hlt:j<m
  ·have hji:(j:Int)<(m:Int):=by omega
   obtain⟨g,a,hpp,hgl,ha,hc⟩:=HH.out.1.wN HH.out.2 hlt;subst hpp;have HA:=Lib.hid ha;clear ha
   by_cases he:a=x
   ·have hin:decide (x∈l)=true:=by
     rw[decide_eq_true_iff,←he];exact List.mem_of_getElem? HA.out
    rw[hin]at HF;clear hin;subst he
    go_wp2
    rw[HF.out];exact⟨rfl,rfl⟩
   ·have hei:¬(a:Int)=(x:Int):=by omega
    have abY:((a:Int)==(x:Int))=false:=beq_false_of_ne hei
    go_wp2
    go_roundg (m-(j+1))
    case rel=>
     refine⟨j+1,rfl,by omega,by go_num,?_,rfl⟩;rw[List.take_add_one,HA.out];simp only[Option.toList_some,List.mem_append,List.mem_singleton];rintro(h|h)
     ·exact HX.out h
     ·exact he h.symm
    case measure=>omega
  ·obtain rfl:j=m:=by omega
   have hin:decide (x∈l)=false:=by
    rw[decide_eq_false_iff_not];have:=HX.out
    rwa [List.take_of_length_le (by rw[←HH.out.2];exact Nat.le_refl _)]at this
   rw[hin]at HF;clear hin
   go_wp2
   rw[HF.out];exact⟨rfl,rfl⟩
/-- What put makes. -/
def YU(l:List Nat)(x:Nat)(B:Nat)(w:World)(r:Ending)(w':World):Prop:=∃o l',r=.returned o∧aQ B w' 3 1 nE o l'∧l'.length=l.length+1∧(∀a,a∈l'↔a∈l∨a=x)∧Below B w w'
theorem KP(h:av w v l)(hn:l.length≤1000)(hx:x≤1000000) :
 Calls Tryz.prog 142 #[v,.int .i64 (x:Nat)] w (YU l x w.heap.size w):=by
 obtain⟨F,HF⟩:=aJ (YU l x w.heap.size w);rw[←HF.out];obtain⟨p,c,rfl⟩:=h.shape;obtain⟨m,hm⟩:∃m,m=l.length:=⟨_,rfl⟩;rw[←hm]at h hn⊢;have HH:=Lib.hid (And.intro h hm);clear h hm;obtain⟨W1,hW1⟩:∃W1,W1=w.alloc (.cells #[] 3):=⟨_,rfl⟩;have H1:=Lib.hid (show aQ w.heap.size W1 3 1 nE (.slice (some ⟨w.heap.size,0,none⟩) 0 0) []∧Below w.heap.size w W1 from⟨by rw[hW1];exact aQ.fresh w,jU hW1⟩);obtain⟨b1,hb1⟩:∃b1,b1=w.heap.size:=⟨_,rfl⟩;have HB1:=Lib.hid hb1;go_in;go_wp2_with fail;rw[←hW1,←hb1];clear hW1 hb1
 go_loopg [5,6,7,9,10,11,12,13,14,15,16,17,18,19,20,21,22,23,24,25,26,27,28,29,30,31,32,33,34,35] m (fun q v5 v6 v7 v9 v10 v11 v12 v13 v14 v15 v16 v17 v18 v19 v20 v21 v22 v23 v24 v25 v26 v27 v28 v29 v30 v31 v32 v33 v34 v35 wr=>∃(j:Nat)(d:Bool)(r:List Nat),q=m-j∧j≤m∧v7=.int .i64 (j:Nat)∧v6=.bool d∧aQ w.heap.size wr 3 1 nE v5 r∧r.length=j+(if d=true then 1 else 0)∧(∀a,a∈r↔a∈l.take j∨(d=true∧a=x))∧Below w.heap.size w wr)
 case atStart=>exact⟨0,false,[],rfl,Nat.zero_le _,rfl,rfl,by rw[HB1.out];exact H1.out.1,rfl,fun a=>by simp,H1.out.2⟩
 case round=>
  clear H1;obtain⟨j,d,r,rfl,hj,rfl,rfl,hacc,hrl,hrm,hb⟩:=hrel;obtain⟨pr,cr,hsh⟩:=hacc.shape;obtain⟨nr,hnr⟩:∃nr,nr=r.length:=⟨_,rfl⟩;rw[←hnr]at hsh;subst hsh;have abZ:nr≤1001:=by rw[hnr,hrl];split<;>omega
  have hS0:∀o,Sl (wr.alloc o) 3 1 (.slice pr nr cr) nr (fC nE r):=fun o=>by
   have:=(hacc.alloc o).1;rw[←hnr]at this;exact this
  have lU:=Lib.hid hS0;have HK:=Lib.hid (And.intro hacc (And.intro hrl (And.intro hrm hb)));have Tk:=Lib.hid hnr;clear hS0
  by_cases hlt:j<m
  ·have hji:(j:Int)<(m:Int):=by omega
   obtain⟨g,a,hpp,Bg,ha,hc0⟩:=HH.out.1.wN HH.out.2 hlt;subst hpp;have hgl:g<wr.heap.size:=Nat.lt_of_lt_of_le Bg hb.size;have hc:wr.cell? ⟨g,j,none⟩=some (.int .i64 (a:Nat)):=(hb.cell (p:=⟨g,j,none⟩) Bg).trans hc0;have htk:∀b,b∈l.take (j+1)↔b∈l.take j∨b=a:=fun b=>by rw[List.take_add_one,ha];simp
   have hset:∀W,Below w.heap.size w W→W.cell? ⟨g,j,none⟩=some (.int .i64 (a:Nat))∧g<W.heap.size:=fun W tX=>⟨(tX.cell (p:=⟨g,j,none⟩) Bg).trans hc0,Nat.lt_of_lt_of_le Bg tX.size⟩;have YW:=Lib.hid hset;have uK:=Lib.hid htk;clear hacc hrl hrm hb hnr ha htk hset Bg hc0
   cases d with
   |true=>
    go_wp2_with (at_builtin;refine aA _ rfl _ _ _ rfl jq rfl (lU.out _) rfl (aL (by simp)) rfl (by simp[Value.oneCell']) (by omega) ?_;intro g2 c2 w5 hq2;have HQ:=Lib.hid hq2;clear hq2)
    go_roundg (m-(j+1))
    case rel=>
     obtain⟨hacc,hrl,hrm,hb⟩:=HK.out;have hq:bY _ 3 1 (.slice pr nr cr) nr 1 _ g2 c2 w5:=HQ.out;obtain⟨r1,r2⟩:=(hacc.alloc _).push (e:=a) Tk.out.symm hq (by have:=hb.size;simp;omega) rfl;refine⟨j+1,true,r++[a],rfl,by omega,by go_num,rfl,r1,by simp[hrl],fun b=>?_,(hb.alloc hb.size _).trans r2⟩;simp only[uK.out b,List.mem_append,hrm b,List.mem_singleton,true_and];exact or_right_comm
    case measure=>omega
   |false=>
    by_cases hgt:x<a
    ·have hgi:(x:Int)<(a:Int):=by omega
     have hgd:decide ((x:Int)<(a:Int))=true:=decide_eq_true hgi
     go_wp2_with (at_builtin;(first|(refine aA _ rfl _ _ _ rfl jq rfl (CK.out _) rfl (aL (by simp)) rfl (by simp[Value.oneCell']) (by omega) ?_;intro g3 c3 w6 hq2;have HQ:=Lib.hid hq2;clear hq2)|(refine aA _ rfl _ _ _ rfl jq rfl (lU.out _) rfl (aL (by simp)) rfl (by simp[Value.oneCell']) (by omega) ?_;intro g2 c2 w5 hq2;have Vj:=Lib.hid (show aQ w.heap.size w5 3 1 nE (.slice (some ⟨g2,0,none⟩) (nr+1) c2) (r++[x])∧Below w.heap.size w w5 from⟨((HK.out.1.alloc _).push (e:=x) Tk.out.symm hq2 (by have:=HK.out.2.2.2.size;simp;omega) rfl).1,(HK.out.2.2.2.alloc HK.out.2.2.2.size _).trans ((HK.out.1.alloc _).push (e:=x) Tk.out.symm hq2 (by have:=HK.out.2.2.2.size;simp;omega) rfl).2⟩);clear hq2;have z5:=(YW.out w5 Vj.out.2).1;have l5:=(YW.out w5 Vj.out.2).2;clear lU;have CK:=Lib.hid (show ∀o,Sl (w5.alloc o) 3 1 (.slice (some ⟨g2,0,none⟩) (nr+1) c2) (nr+1) (fC nE (r++[x]))from fun o=>by have:=(Vj.out.1.alloc o).1;rw[List.length_append,List.length_singleton,←Tk.out]at this;exact this))))
     go_roundg (m-(j+1))
     case rel=>
      obtain⟨hacc,hrl,hrm,hb⟩:=HK.out;have hq:bY _ 3 1 (.slice (some ⟨g2,0,none⟩) (nr+1) c2) (nr+1) 1 _ g3 c3 w6:=HQ.out;obtain⟨r1,r2⟩:=(Vj.out.1.alloc _).push (e:=a) (by rw[List.length_append,List.length_singleton,←Tk.out]) hq (by have:=Vj.out.2.size;simp;omega) rfl;refine⟨j+1,true,r++[x]++[a],rfl,by omega,by go_num,rfl,r1,by simp[hrl],fun b=>?_,(Vj.out.2.alloc Vj.out.2.size _).trans r2⟩;simp only[uK.out b,List.mem_append,hrm b,List.mem_singleton,true_and,Bool.false_eq_true,false_and,or_false];exact or_right_comm
     case measure=>omega
    ·have hgi:¬(x:Int)<(a:Int):=by omega
     have hgd:decide ((x:Int)<(a:Int))=false:=decide_eq_false hgi
     go_wp2_with (at_builtin;refine aA _ rfl _ _ _ rfl jq rfl (lU.out _) rfl (aL (by simp)) rfl (by simp[Value.oneCell']) (by omega) ?_;intro g2 c2 w5 hq2;have HQ:=Lib.hid hq2;clear hq2)
     go_roundg (m-(j+1))
     case rel=>
      obtain⟨hacc,hrl,hrm,hb⟩:=HK.out;have hq:bY _ 3 1 (.slice pr nr cr) nr 1 _ g2 c2 w5:=HQ.out;obtain⟨r1,r2⟩:=(hacc.alloc _).push (e:=a) Tk.out.symm hq (by have:=hb.size;simp;omega) rfl;refine⟨j+1,false,r++[a],rfl,by omega,by go_num,rfl,r1,by simp[hrl],fun b=>?_,(hb.alloc hb.size _).trans r2⟩;simp only[uK.out b,List.mem_append,hrm b,List.mem_singleton,Bool.false_eq_true,false_and,or_false]
     case measure=>omega
  ·obtain rfl:j=m:=by omega
   have hall:l.take j=l:=List.take_of_length_le (by rw[←HH.out.2];exact Nat.le_refl _);clear hacc hrl hrm hb hnr
   cases d with
   |true=>
    go_wp2_with fail;rw[HF.out];obtain⟨hacc,hrl,hrm,hb⟩:=HK.out;refine⟨_,r,rfl,hacc,by rw[hrl,HH.out.2];rfl,fun a=>?_,hb⟩;rw[hrm a,hall];simp
   |false=>
    go_wp2_with (at_builtin;refine aA _ rfl _ _ _ rfl jq rfl (lU.out _) rfl (aL (by simp)) rfl (by simp[Value.oneCell']) (by omega) ?_;intro g2 c2 w5 hq2;have HQ:=Lib.hid hq2;clear hq2)
    rw[HF.out];obtain⟨hacc,hrl,hrm,hb⟩:=HK.out;have hq:bY _ 3 1 (.slice pr nr cr) nr 1 _ g2 c2 w5:=HQ.out;obtain⟨r1,r2⟩:=(hacc.alloc _).push (e:=x) Tk.out.symm hq (by have:=hb.size;simp;omega) rfl;refine⟨_,r++[x],rfl,r1,by simp[hrl,HH.out.2],fun a=>?_,(hb.alloc hb.size _).trans r2⟩;rw[List.mem_append,hrm a,hall];simp
/-- Of: the same members. -/
theorem OE(h:av w v l)(hn:l.length≤1000)(hx:∀x∈l,x≤1000000) :
 Calls Tryz.prog 92 #[v] w fun r w'=>∃o l',r=.returned o∧bO w.heap.size w' o l'∧l'.length≤l.length∧(∀a,a∈l'↔a∈l)∧Below w.heap.size w w':=by
 obtain⟨F,HF⟩:=aJ (fun(r:Ending)(w':World)=>∃o l',r=.returned o∧bO w.heap.size w' o l'∧l'.length≤l.length∧(∀a,a∈l'↔a∈l)∧Below w.heap.size w w');rw[←HF.out];obtain⟨p,c,rfl⟩:=h.shape;obtain⟨m,hm⟩:∃m,m=l.length:=⟨_,rfl⟩;rw[←hm]at h hn⊢;have HH:=Lib.hid (And.intro h (And.intro hm hx));clear h hm hx;obtain⟨W1,hW1⟩:∃W1,W1=w.alloc (.cells #[] 3):=⟨_,rfl⟩;have H1:=Lib.hid (show bO w.heap.size W1 (.slice (some ⟨w.heap.size,0,none⟩) 0 0) []∧Below w.heap.size w W1 from⟨⟨_,0,rfl,Nat.le_refl _,by rw[hW1];exact⟨⟨_,heap_alloc_new _ _,by simp,fun i hi=>absurd hi (Nat.not_lt_zero _)⟩,Nat.le_refl _⟩⟩,jU hW1⟩);obtain⟨b1,hb1⟩:∃b1,b1=w.heap.size:=⟨_,rfl⟩;have HB1:=Lib.hid hb1;go_in;go_wp2_with fail;rw[←hW1,←hb1];clear hW1 hb1
 go_loopg [3,4,6,7,8,9,10,11,12,13,14,15,16,17,18,19,20,21,22,23,24] m (fun q v3 v4 v6 v7 v8 v9 v10 v11 v12 v13 v14 v15 v16 v17 v18 v19 v20 v21 v22 v23 v24 wr=>∃(j:Nat)(r:List Nat),q=m-j∧j≤m∧v4=.int .i64 (j:Nat)∧bO w.heap.size wr v3 r∧r.length≤j∧(∀a,a∈r↔a∈l.take j)∧Below w.heap.size w wr)
 case atStart=>exact⟨0,[],rfl,Nat.zero_le _,rfl,by rw[HB1.out];exact H1.out.1,Nat.zero_le _,fun a=>by simp,H1.out.2⟩
 case round=>
  clear H1;obtain⟨j,r,rfl,hj,rfl,hacc,hrl,hrm,hb⟩:=hrel;obtain⟨gr,cr,hsh,-,-⟩:=hacc.ex;obtain⟨nr,hnr⟩:∃nr,nr=r.length:=⟨_,rfl⟩;rw[←hnr]at hsh;subst hsh
  by_cases hlt:j<m
  ·have hji:(j:Int)<(m:Int):=by omega
   obtain⟨g,a,hpp,Bg,ha,hc0⟩:=HH.out.1.wN HH.out.2.1 hlt;subst hpp;have hgl:g<wr.heap.size:=Nat.lt_of_lt_of_le Bg hb.size;have hc:wr.cell? ⟨g,j,none⟩=some (.int .i64 (a:Nat)):=(hb.cell (p:=⟨g,j,none⟩) Bg).trans hc0;have htk:∀b,b∈l.take (j+1)↔b∈l.take j∨b=a:=fun b=>by rw[List.take_add_one,ha];simp
   have cH:=KO hacc.dM (by omega) a;have cP:=KP hacc.dM (by omega) (HH.out.2.2 a (List.mem_of_getElem? ha));have HCH:=Lib.hid cH;have Ro:=Lib.hid cP;have HK:=Lib.hid (And.intro hacc (And.intro hrl (And.intro hrm hb)));have uK:=Lib.hid htk;have HD:=Lib.hid (show decide (a∈r)=true∨decide (a∈r)=false by cases decide (a∈r)<;>simp);clear hacc hrl hrm hb hnr ha htk Bg hc0 cH cP;go_wp2_with fail;refine(HCH.out).mono ?_;rintro r' w5 ⟨rfl,jS⟩;rw[jS];clear jS
   rcases HD.out with hd|hd
   ·rw[hd];have hin:=decide_eq_true_iff.1 hd;clear hd;go_wp2_with fail
    go_roundg (m-(j+1))
    case rel=>
     obtain⟨hacc,hrl,hrm,hb⟩:=HK.out;refine⟨j+1,r,rfl,by omega,by go_num,hacc,by omega,fun b=>?_,hb⟩;rw[uK.out b,←hrm b];exact⟨.inl,fun h=>h.elim id (fun e=>by rw[e];exact hin)⟩
    case measure=>omega
   ·rw[hd];clear hd;go_wp2_with fail;refine(Ro.out).mono ?_;rintro r' w6 ⟨o,l',rfl,ho,hol,Uu,hb6⟩;have HO:=Lib.hid (And.intro ho (And.intro hol (And.intro Uu hb6)));obtain⟨po,co,hso⟩:=ho.shape;subst hso;clear ho hol Uu hb6;go_wp2_with fail
    go_roundg (m-(j+1))
    case rel=>
     obtain⟨hacc,hrl,hrm,hb⟩:=HK.out;obtain⟨ho,hol,Uu,hb6⟩:=HO.out;refine⟨j+1,l',rfl,by omega,by go_num,?_,by omega,fun b=>?_,hb.trans (hb6.mono hb.size)⟩
     ·rcases ho.1 with⟨-,h2⟩|⟨g',c',e1,hr⟩
      ·omega
      ·exact⟨g',c',e1,Nat.le_trans hb.size (ho.2 _ _ _ e1),hr.congr (fun i hi j hj=>by
        unfold fC
        rw[List.getD_eq_getElem?_getD,List.getElem?_eq_getElem hi];rfl)⟩
     ·rw[uK.out b,Uu b,hrm b]
    case measure=>omega
  ·obtain rfl:j=m:=by omega
   have hall:l.take j=l:=List.take_of_length_le (by rw[←HH.out.2.1];exact Nat.le_refl _);have HK:=Lib.hid (And.intro hacc (And.intro hrl (And.intro hrm hb)));have Tk:=Lib.hid hnr;clear hacc hrl hrm hb hnr;go_wp2_with fail;rw[HF.out];obtain⟨hacc,hrl,hrm,hb⟩:=HK.out;exact⟨_,r,rfl,hacc,by rw[←HH.out.2.1];exact hrl,fun a=>by rw[hrm a,hall],hb⟩
end
end
end Go.Proofs.YtpijlhlpejlhhaaGreat
