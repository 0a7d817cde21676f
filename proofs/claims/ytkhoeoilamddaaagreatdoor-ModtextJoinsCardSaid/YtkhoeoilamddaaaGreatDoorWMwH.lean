/- Rows that grow by other rows: append of two slices, the state while a module's rows are joined. -/
import Derived.Test.YtkhoeoilamddaaaGreatDoorWMwF
import Derived.Maps.AppendAt
namespace Go.Proofs.YtkhoeoilamddaaaGreatDoor
open Go.RowKit
set_option linter.unusedVariables false
set_option maxRecDepth 100000
section
variable {P:Program} (w:World)
theorem run_append_two (base:Nat) (t ty e:TypeId) (i:TypeInfo) (z:Value) (size bytes:Nat) (ht:P.underlying t=some (.slice e)) (hi:P.info? e=some i) (hz:i.zero=some z)
 (hsize:i.size=size) (hby:i.bytes=bytes) (hzs:z.cells.size=size) (hsz:0<size)
 (v:Value) (n:Nat) (xs:List Value) (hown:w.ownsRow base e size v n xs) (x:Value) (m:Nat) (news:List Value) (hl:news.length=m*size)
 (hx:(∃ c,x=.slice none 0 c∧m=0)∨∃ a c,x=.slice (some a) m c∧∀ j u,news[j]?=some u→w.cell? (a.add j)=some u) (h1:∀ u∈news,u.oneCell'=true)
 (h63:n+m≤maxLen) (hbytes:(n+m)*bytes≤140737488355328) (hbase:base≤w.heap.size) :
 ∃ v' w',(Builtin.append_ #[t,t] ty #[v,x]).run P w=.ok v' w'∧w'.ownsRow base e size v' (n+m) (xs++news)∧w.grownBy w' v.ownBlock∧(v'.ownBlock=v.ownBlock∨v'.ownBlock=some w.heap.size):=by
 rcases hx with ⟨c,rfl,rfl⟩ | ⟨a,c,rfl,hnews⟩
 · have hn:news=[]:=List.eq_nil_of_length_eq_zero (by simpa using hl);subst hn;refine ⟨v,w,?_,by simpa using hown,⟨rfl,rfl,rfl,lr _,fun _ _ _=>rfl⟩,.inl rfl⟩
   rcases hown.2 with ⟨rfl,rfl⟩ | ⟨g,cap,cur,rfl,-,-,hnc,-⟩
   · simp [Builtin.append_,run_underlying ht,sizeOf,typeInfo,hi,Builtin.lenOf,Builtin.firstCells]
   · simp [Builtin.append_,run_underlying ht,sizeOf,typeInfo,hi,Builtin.lenOf,Builtin.firstCells,storeCells,hnc]
 · obtain ⟨v',w',hr,h2,h3,-,h5⟩:=run_append_own_at (P:=P) w base t ty e i z size bytes ht hi hz hsize hby hzs hsz v n xs hown a m c news hl hnews h1 h63 hbytes hbase;exact ⟨v',w',hr,h2,h3,h5⟩
theorem step_append_two {ops:Array Oper} {o:Oper} {a:Act} {K:Act→World→Prop} {Q:Exit→Act→World→Prop} {E:Prop} (hgd:o.guard=none) (s x:Operand) (t:TypeId)
 (ho:o.op=.call { callee:=.builtin .append,args:=#[s,x],argTypes:=#[t,t] })
 (base:Nat) (e:TypeId) (i:TypeInfo) (z:Value) (size bytes:Nat) (ht:P.underlying t=some (.slice e)) (hi:P.info? e=some i) (hz:i.zero=some z)
 (hsize:i.size=size) (hby:i.bytes=bytes) (hzs:z.cells.size=size) (hsz:0<size)
 (v:Value) (n:Nat) (xs:List Value) (hs:a.eval s=v) (hown:w.ownsRow base e size v n xs) (y:Value) (m:Nat) (news:List Value) (hy:a.eval x=y) (hl:news.length=m*size)
 (hx:(∃ c,y=.slice none 0 c∧m=0)∨∃ a c,y=.slice (some a) m c∧∀ j u,news[j]?=some u→w.cell? (a.add j)=some u) (h1:∀ u∈news,u.oneCell'=true)
 (h63:n+m≤maxLen) (hbytes:(n+m)*bytes≤140737488355328) (hbase:base≤w.heap.size)
 (h:∀ a' c' w',w'.ownsRow base e size (.slice a' (n+m) c') (n+m) (xs++news)→w.grownBy w' v.ownBlock→((Value.slice a' (n+m) c').ownBlock=v.ownBlock∨(Value.slice a' (n+m) c').ownBlock=some w.heap.size)→K (a.put o.dst (.slice a' (n+m) c')) w') :
 if Region.wanted o (yielded ops a.tmps)=true then Oper.wp P o a w K Q else E:=by
 have hw:Region.wanted o (yielded ops a.tmps)=true:=by simp [Region.wanted,hgd]
 rw [iP hw];obtain ⟨v',w',hr,h2,h3,h4⟩:=run_append_two (P:=P) w base t o.type e i z size bytes ht hi hz hsize hby hzs hsz v n xs hown y m news hl hx h1 h63 hbytes hbase
 obtain ⟨a',c',rfl⟩:∃ a' c',v'=.slice a' (n+m) c':=by
  rcases h2.2 with ⟨hv,h0⟩ | ⟨g,cap,cur,hv,-⟩
  · exact ⟨none,0,by rw [hv,h0]⟩
  · exact ⟨_,_,hv⟩
 unfold Oper.wp execOp;simp only [ho,resolve,invoke,builtin,Sem.run_bind,Sem.run_pure,Result.andThen_ok,List.map_toArray,List.map_cons,List.map_nil,hs,hy,hr];exact h a' c' w' h2 h3 h4
end
structure JS (W0:World) (B b H:Nat) (V:Nat→Value) (U:Nat→Value) (Y:Nat→List Value) (nn:Nat→Nat) (W:World):Prop where
 own:∀ k,k<8→W.ownsRow B (mT k) (mS k) (U k) (nn k) (Y k)
 sep:∀ k,k<8→∀ q,(U k).ownBlock=some q→(V k).ownBlock=some q∨H≤q
 ap:∀ j k,j<8→k<8→j≠k→∀ q,(U j).ownBlock=some q→(U k).ownBlock≠some q
 keep:∀ q,q<H→(∀ k,k<8→(V k).ownBlock≠some q)→q≠b→W.heap[q]?=W0.heap[q]?
 size:H≤W.heap.size
 bel:Below B W0 W
section
variable {W0 W W':World} {B b H:Nat} {V U U':Nat→Value} {Y Y':Nat→List Value} {nn nn':Nat→Nat}
theorem JS.congr (h:JS W0 B b H V U Y nn W) (hu:∀ k,k<8→U k=U' k∧Y k=Y' k∧nn k=nn' k):JS W0 B b H V U' Y' nn' W:=
 ⟨fun k hk=>by rw [←(hu k hk).1,←(hu k hk).2.1,←(hu k hk).2.2];exact h.own k hk,fun k hk q hq=>h.sep k hk q (by rw [(hu k hk).1];exact hq),
  fun j k hj hk hne q hq=>by rw [←(hu k hk).1];exact h.ap j k hj hk hne q (by rw [(hu j hj).1];exact hq),h.keep,h.size,h.bel⟩
theorem JS.drew (h:JS W0 B b H V U Y nn W):JS W0 B b H V U Y nn W.drew:=⟨h.own,h.sep,h.ap,h.keep,h.size,h.bel.drew⟩
theorem JS.append (h:JS W0 B b H V U Y nn W) {k m:Nat} (hk:k<8) {v':Value} {news:List Value} (hown:W'.ownsRow B (mT k) (mS k) v' (nn k+m) (Y k++news)) (hg:W.grownBy W' (U k).ownBlock) (hat:v'.ownBlock=(U k).ownBlock∨v'.ownBlock=some W.heap.size) (hBH:B≤H) :
 JS W0 B b H V (upd U k v') (upd Y k (Y k++news)) (upd nn k (nn k+m)) W':=by
 have hv:∀ q,v'.ownBlock=some q→(U k).ownBlock=some q∨q=W.heap.size:=fun q hq=>by
  rcases hat with e | e
  · exact .inl (e ▸ hq)
  · exact .inr (Option.some.inj (hq.symm.trans e))
 have hlt:∀ j,j<8→∀ q,(U j).ownBlock=some q→q<W.heap.size:=fun j hj q hq=>((h.own j hj).lt q hq).2;refine ⟨fun j hj=>?_,fun j hj q hq=>?_,fun i j hi hj hij q hq=>?_,fun q hq hV hb=>?_,Nat.le_trans h.size hg.size,h.bel.grown hg (Nat.le_trans hBH h.size) (fun q hq=>((h.own k hk).lt q hq).1)⟩
 · unfold upd
   by_cases e:j=k
   · subst e;simp only [iP];exact hown
   · simp only [iN e];exact own_at (h.own j hj) (fun q hq=>hg.block q (hlt j hj q hq) (fun e2=>h.ap j k hj hk e q hq e2.symm))
 · unfold upd at hq
   by_cases e:j=k
   · subst e;simp only [iP] at hq
     rcases hv q hq with h2 | rfl
     · exact h.sep j hj q h2
     · exact .inr h.size
   · simp only [iN e] at hq;exact h.sep j hj q hq
 · unfold upd at hq ⊢
   by_cases e:i=k
   · subst e;rw [iN (fun e2=>hij e2.symm)];simp only [iP] at hq
     rcases hv q hq with h2 | rfl
     · exact h.ap i j hi hj hij q h2
     · intro e2;have:=hlt j hj _ e2;omega
   · simp only [iN e] at hq
     by_cases e2:j=k
     · subst e2;simp only [iP];intro e3
       rcases hv q e3 with h2 | rfl
       · exact h.ap i j hi hj hij q hq h2
       · have:=hlt i hi _ hq;omega
     · simp only [iN e2];exact h.ap i j hi hj hij q hq
 · rw [←h.keep q hq hV hb];refine hg.block q (lL hq h.size) (fun e=>?_)
   rcases h.sep k hk q e.symm with h2 | h2
   · exact hV k hk h2
   · omega
theorem JS.box (h:JS W0 B b H V U Y nn W) (o:Nat) (u:Value) (hB:B≤b) (hbV:∀ k,k<8→(V k).ownBlock≠some b) (hbH:b<H):JS W0 B b H V U Y nn (W.setCell ⟨b,o,none⟩ u):=
 ⟨fun k hk=>own_at (h.own k hk) (fun q hq=>hO_ _ ⟨b,o,none⟩ q _ (fun (e:q=b)=>by
   subst e
   rcases h.sep k hk q hq with h2 | h2
   · exact hbV k hk h2
   · omega)),h.sep,h.ap,fun q hq hV hb=>(hO_ _ ⟨b,o,none⟩ q _ hb).trans (h.keep q hq hV hb),by simpa using h.size,h.bel.setCell (p:=⟨b,o,none⟩) hB _⟩
theorem own_low {n s B':Nat} {T:TypeId} {v:Value} {xs:List Value} (h:W.ownsRow B T s v n xs) (hB:B'≤B):W.ownsRow B' T s v n xs:=by
 refine ⟨h.1,?_⟩
 rcases h.2 with h | ⟨g,cap,cur,h1,h2,h3⟩
 · exact .inl h
 · exact .inr ⟨g,cap,cur,h1,Nat.le_trans hB h2,h3⟩
theorem JS.init {X:Nat→List (List Value)} {G:Nat→List El} {R B':Nat} (h:MAll W0 B R V X G) (hB:B'≤B):JS W0 B' b W0.heap.size V V (fun k=>(X k).flatten) (fun k=>(G k).length) W0:=
 ⟨fun k hk=>own_low (h.own k hk trivial) hB,fun k hk q hq=>.inl hq,h.ap,fun _ _ _ _=>rfl,lr _,Br _ _⟩
theorem JS.boxed {k:Nat} (h:JS W0 B b H V U Y nn W) (hk:k<8) (hg:W.grownBy W' (U k).ownBlock) (hbV:∀ k,k<8→(V k).ownBlock≠some b) (hbH:b<H):W'.heap[b]?=W.heap[b]?:=
 hg.block b (lL hbH h.size) (fun e=>by
  rcases h.sep k hk b e.symm with h2 | h2
  · exact hbV k hk h2
  · omega)
end
theorem RowE.app {S:Nat→Prop} {w:World}:∀ {a:List (List Value)} {ga:List El} {c:List (List Value)} {gc:List El},RowE S w a ga→RowE S w c gc→RowE S w (a++c) (ga++gc)
 | [],[],_,_,_,h=>h
 | x :: a,e :: ga,_,_,h,h2=>⟨h.1,RowE.app h.2 h2⟩
 | [],_ :: _,_,_,h,_=>h.elim
 | _ :: _,[],_,_,h,_=>h.elim
theorem ElC.one {S:Nat→Prop} {w:World} {cs:List Value} {e:El} (h:ElC S w cs e):∀ u∈cs,u.oneCell'=true:=by
 have ht:∀ {cs:List Value} {t:Tm},TmC S w cs t→∀ u∈cs,u.oneCell'=true:=fun h u hu=>by
  obtain ⟨A,c,rfl,-⟩:=h;simp at hu
  rcases hu with rfl | rfl | rfl | rfl <;> rfl
 have hd:∀ {cs:List Value} {d:Df},(∃ r,cs=.string d.name :: r∧TmC S w r d.tm)→∀ u∈cs,u.oneCell'=true:=fun h u hu=>by
  obtain ⟨r,rfl,h2⟩:=h
  rcases List.mem_cons.1 hu with rfl | hu
  · rfl
  · exact ht h2 u hu
 cases e with
 | var v=>
  intro u hu;rw [show cs=_ from h] at hu;simp at hu
  rcases hu with rfl | rfl | rfl | rfl <;> rfl
 | defs d=>exact hd h
 | next d=>exact hd h
 | init t=>exact ht h
 | invar t=>exact ht h
 | trans t=>exact ht h
 | fair t=>exact ht h
 | spec d=>
  intro u hu;obtain ⟨x,rfl,-⟩:=h;simp [FV.cells] at hu
  rcases hu with rfl | rfl | rfl | rfl | rfl | rfl | rfl <;> rfl
theorem RowE.one {S:Nat→Prop} {w:World}:∀ {cs:List (List Value)} {es:List El},RowE S w cs es→∀ u∈cs.flatten,u.oneCell'=true
 | [],_,_,u,hu=>by simp at hu
 | c :: cs,e :: es,h,u,hu=>by
  rw [List.flatten_cons] at hu
  rcases List.mem_append.1 hu with hu | hu
  · exact h.1.one u hu
  · exact RowE.one h.2 u hu
 | _ :: _,[],h,_,_=>h.elim
end Go.Proofs.YtkhoeoilamddaaaGreatDoor
