/- Walks and plain words: MwH ManA MwK. -/
import Derived.Test.YtkhoeoilamddaaaGreatDoorYMwF
import Derived.Maps.AppendAt
namespace Go.Proofs.YtkhoeoilamddaaaGreatDoor
open Go.RowKit
set_option linter.unusedVariables false
set_option maxRecDepth 100000
section
variable {P:Program} (w:World)
theorem M4(base:Nat)(t ty e:TypeId)(i:TypeInfo)(z:Value)(size bytes:Nat)(ht:P.underlying t=some (.slice e))(hi:P.info? e=some i)(hz:i.zero=some z)
 (hsize:i.size=size) (hby:i.bytes=bytes) (hzs:z.cells.size=size) (hsz:0<size)
 (v:Value) (n:Nat) (xs:List Value) (hown:w.ownsRow base e size v n xs) (x:Value) (m:Nat) (news:List Value) (hl:news.length=m*size)
 (hx:(∃c,x=.slice none 0 c∧m=0)∨∃a c,x=.slice (some a) m c∧∀j u,news[j]?=some u→w.cell? (a.add j)=some u) (h1:∀u∈news,u.oneCell'=true)
 (h63:n+m≤maxLen) (hbytes:(n+m)*bytes≤140737488355328) (hbase:base≤w.heap.size) :
 ∃v' w',(Builtin.append_ #[t,t] ty #[v,x]).run P w=.ok v' w'∧w'.ownsRow base e size v' (n+m) (xs++news)∧w.grownBy w' v.ownBlock∧(v'.ownBlock=v.ownBlock∨v'.ownBlock=some w.heap.size):=by
 rcases hx with⟨c,rfl,rfl⟩|⟨a,c,rfl,hnews⟩
 ·have hn:news=[]:=List.eq_nil_of_length_eq_zero (by simpa using hl);subst hn;refine⟨v,w,?_,by simpa using hown,⟨rfl,rfl,rfl,lr _,fun _ _ _=>rfl⟩,.inl rfl⟩
  rcases hown.2 with⟨rfl,rfl⟩|⟨g,cap,cur,rfl,-,-,hnc,-⟩
  ·simp[Builtin.append_,run_underlying ht,sizeOf,typeInfo,hi,Builtin.lenOf,Builtin.firstCells]
  ·simp[Builtin.append_,run_underlying ht,sizeOf,typeInfo,hi,Builtin.lenOf,Builtin.firstCells,storeCells,hnc]
 ·obtain⟨v',w',hr,h2,h3,-,h5⟩:=run_append_own_at (P:=P) w base t ty e i z size bytes ht hi hz hsize hby hzs hsz v n xs hown a m c news hl hnews h1 h63 hbytes hbase;exact⟨v',w',hr,h2,h3,h5⟩
theorem qp{ops:Array Oper}{o:Oper}{a:Act}{K:Act→World→Prop}{Q:Exit→Act→World→Prop}{E:Prop}(hgd:o.guard=none)(s x:Operand)(t:TypeId)
 (ho:o.op=.call {callee:=.builtin .append,args:=#[s,x],argTypes:=#[t,t]})
 (base:Nat) (e:TypeId) (i:TypeInfo) (z:Value) (size bytes:Nat) (ht:P.underlying t=some (.slice e)) (hi:P.info? e=some i) (hz:i.zero=some z)
 (hsize:i.size=size) (hby:i.bytes=bytes) (hzs:z.cells.size=size) (hsz:0<size)
 (v:Value) (n:Nat) (xs:List Value) (hs:a.eval s=v) (hown:w.ownsRow base e size v n xs) (y:Value) (m:Nat) (news:List Value) (hy:a.eval x=y) (hl:news.length=m*size)
 (hx:(∃c,y=.slice none 0 c∧m=0)∨∃a c,y=.slice (some a) m c∧∀j u,news[j]?=some u→w.cell? (a.add j)=some u) (h1:∀u∈news,u.oneCell'=true)
 (h63:n+m≤maxLen) (hbytes:(n+m)*bytes≤140737488355328) (hbase:base≤w.heap.size)
 (h:∀a' c' w',w'.ownsRow base e size (.slice a' (n+m) c') (n+m) (xs++news)→w.grownBy w' v.ownBlock→((Value.slice a' (n+m) c').ownBlock=v.ownBlock∨(Value.slice a' (n+m) c').ownBlock=some w.heap.size)→K (a.put o.dst (.slice a' (n+m) c')) w') :
 if Region.wanted o (yielded ops a.tmps)=true then Oper.wp P o a w K Q else E:=by
 have hw:Region.wanted o (yielded ops a.tmps)=true:=by simp[Region.wanted,hgd]
 rw[iP hw];obtain⟨v',w',hr,h2,h3,h4⟩:=M4 (P:=P) w base t o.type e i z size bytes ht hi hz hsize hby hzs hsz v n xs hown y m news hl hx h1 h63 hbytes hbase
 obtain⟨a',c',rfl⟩:∃a' c',v'=.slice a' (n+m) c':=by
  rcases h2.2 with⟨hv,h0⟩|⟨g,cap,cur,hv,-⟩
  ·exact⟨none,0,by rw[hv,h0]⟩
  ·exact⟨_,_,hv⟩
 unfold Oper.wp execOp;simp only[ho,resolve,invoke,builtin,Sem.run_bind,Sem.run_pure,Result.andThen_ok,List.map_toArray,List.map_cons,List.map_nil,hs,hy,hr];exact h a' c' w' h2 h3 h4
end
structure JS(W0:World)(B b H:Nat)(V:Nat→Value)(U:Nat→Value)(Y:Nat→List Value)(nn:Nat→Nat)(W:World):Prop where
 own:∀k,k<8→W.ownsRow B (mT k) (mS k) (U k) (nn k) (Y k)
 sep:∀k,k<8→∀q,(U k).ownBlock=some q→(V k).ownBlock=some q∨H≤q
 ap:∀j k,j<8→k<8→j≠k→∀q,(U j).ownBlock=some q→(U k).ownBlock≠some q
 keep:∀q,q<H→(∀k,k<8→(V k).ownBlock≠some q)→q≠b→W.heap[q]?=W0.heap[q]?
 size:H≤W.heap.size
 mW:Below B W0 W
section
variable {W0 W W':World} {B b H:Nat} {V U U':Nat→Value} {Y Y':Nat→List Value} {nn nn':Nat→Nat}
theorem JS.congr(h:JS W0 B b H V U Y nn W)(hu:∀k,k<8→U k=U' k∧Y k=Y' k∧nn k=nn' k):JS W0 B b H V U' Y' nn' W:=
 ⟨fun k hk=>by rw[←(hu k hk).1,←(hu k hk).2.1,←(hu k hk).2.2];exact h.own k hk,fun k hk q hq=>h.sep k hk q (by rw[(hu k hk).1];exact hq),
  fun j k hj hk hne q hq=>by rw[←(hu k hk).1];exact h.ap j k hj hk hne q (by rw[(hu j hj).1];exact hq),h.keep,h.size,h.mW⟩
theorem JS.drew(h:JS W0 B b H V U Y nn W):JS W0 B b H V U Y nn W.drew:=⟨h.own,h.sep,h.ap,h.keep,h.size,h.mW.drew⟩
theorem JS.append(h:JS W0 B b H V U Y nn W){k m:Nat}(hk:k<8){v':Value}{news:List Value}(hown:W'.ownsRow B (mT k) (mS k) v' (nn k+m) (Y k++news))(hg:W.grownBy W' (U k).ownBlock)(hat:v'.ownBlock=(U k).ownBlock∨v'.ownBlock=some W.heap.size)(hBH:B≤H) :
 JS W0 B b H V (upd U k v') (upd Y k (Y k++news)) (upd nn k (nn k+m)) W':=by
 have hv:∀q,v'.ownBlock=some q→(U k).ownBlock=some q∨q=W.heap.size:=fun q hq=>by
  rcases hat with e|e
  ·exact .inl (e ▸ hq)
  ·exact .inr (Option.some.inj (hq.symm.trans e))
 have hlt:∀j,j<8→∀q,(U j).ownBlock=some q→q<W.heap.size:=fun j hj q hq=>((h.own j hj).lt q hq).2;refine⟨fun j hj=>?_,fun j hj q hq=>?_,fun i j hi hj hij q hq=>?_,fun q hq hV hb=>?_,Nat.le_trans h.size hg.size,h.mW.grown hg (Nat.le_trans hBH h.size) (fun q hq=>((h.own k hk).lt q hq).1)⟩
 ·unfold upd
  by_cases e:j=k
  ·subst e;simp only[iP];exact hown
  ·simp only[iN e];exact oC (h.own j hj) (fun q hq=>hg.block q (hlt j hj q hq) (fun e2=>h.ap j k hj hk e q hq e2.symm))
 ·unfold upd at hq
  by_cases e:j=k
  ·subst e;simp only[iP]at hq
   rcases hv q hq with h2|rfl
   ·exact h.sep j hj q h2
   ·exact .inr h.size
  ·simp only[iN e]at hq;exact h.sep j hj q hq
 ·unfold upd at hq⊢
  by_cases e:i=k
  ·subst e;rw[iN (fun e2=>hij e2.symm)];simp only[iP]at hq
   rcases hv q hq with h2|rfl
   ·exact h.ap i j hi hj hij q h2
   ·intro e2;have:=hlt j hj _ e2;omega
  ·simp only[iN e]at hq
   by_cases e2:j=k
   ·subst e2;simp only[iP];intro e3
    rcases hv q e3 with h2|rfl
    ·exact h.ap i j hi hj hij q hq h2
    ·have:=hlt i hi _ hq;omega
   ·simp only[iN e2];exact h.ap i j hi hj hij q hq
 ·rw[←h.keep q hq hV hb];refine hg.block q (lL hq h.size) (fun e=>?_)
  rcases h.sep k hk q e.symm with h2|h2
  ·exact hV k hk h2
  ·omega
theorem JS.box(h:JS W0 B b H V U Y nn W)(o:Nat)(u:Value)(hB:B≤b)(hbV:∀k,k<8→(V k).ownBlock≠some b)(hbH:b<H):JS W0 B b H V U Y nn (W.setCell ⟨b,o,none⟩ u):=
 ⟨fun k hk=>oC (h.own k hk) (fun q hq=>iw _ ⟨b,o,none⟩ q _ (fun(e:q=b)=>by
   subst e
   rcases h.sep k hk q hq with h2|h2
   ·exact hbV k hk h2
   ·omega)),h.sep,h.ap,fun q hq hV hb=>(iw _ ⟨b,o,none⟩ q _ hb).trans (h.keep q hq hV hb),by simpa using h.size,h.mW.setCell (p:=⟨b,o,none⟩) hB _⟩
theorem ags{n s B':Nat}{T:TypeId}{v:Value}{xs:List Value}(h:W.ownsRow B T s v n xs)(hB:B'≤B):W.ownsRow B' T s v n xs:=by
 refine⟨h.1,?_⟩
 rcases h.2 with h|⟨g,cap,cur,h1,h2,h3⟩
 ·exact .inl h
 ·exact .inr ⟨g,cap,cur,h1,Nat.le_trans hB h2,h3⟩
theorem JS.init{X:Nat→List (List Value)}{G:Nat→List El}{R B':Nat}(h:BJ W0 B R V X G)(hB:B'≤B):JS W0 B' b W0.heap.size V V (fun k=>(X k).flatten) (fun k=>(G k).length) W0:=
 ⟨fun k hk=>ags (h.own k hk trivial) hB,fun k hk q hq=>.inl hq,h.ap,fun _ _ _ _=>rfl,lr _,Br _ _⟩
end
theorem tH.app{S:Nat→Prop}{w:World}:∀{a:List (List Value)}{ga:List El}{c:List (List Value)}{gc:List El},tH S w a ga→tH S w c gc→tH S w (a++c) (ga++gc)
 |[],[],_,_,_,h=>h
 |x::a,e::ga,_,_,h,h2=>⟨h.1,tH.app h.2 h2⟩
 |[],_::_,_,_,h,_=>h.elim
 |_::_,[],_,_,h,_=>h.elim
theorem VZ.one{S:Nat→Prop}{w:World}{cs:List Value}{e:El}(h:VZ S w cs e):∀u∈cs,u.oneCell'=true:=by
 have ht:∀{cs:List Value}{t:Tm},MS S w cs t→∀u∈cs,u.oneCell'=true:=fun h u hu=>by
  obtain⟨A,c,rfl,-⟩:=h;simp at hu
  rcases hu with rfl|rfl|rfl|rfl<;>rfl
 have hd:∀{cs:List Value}{d:Df},(∃r,cs=.string d.name::r∧MS S w r d.tm)→∀u∈cs,u.oneCell'=true:=fun h u hu=>by
  obtain⟨r,rfl,h2⟩:=h
  rcases List.mem_cons.1 hu with rfl|hu
  ·rfl
  ·exact ht h2 u hu
 cases e with
 |var v=>
  intro u hu;rw[show cs=_ from h]at hu;simp at hu
  rcases hu with rfl|rfl|rfl|rfl<;>rfl
 |defs d=>exact hd h
 |next d=>exact hd h
 |init t=>exact ht h
 |bF t=>exact ht h
 |trans t=>exact ht h
 |fair t=>exact ht h
 |spec d=>
  intro u hu;obtain⟨x,rfl,-⟩:=h;simp[FV.cells]at hu
  rcases hu with rfl|rfl|rfl|rfl|rfl|rfl|rfl<;>rfl
theorem tH.one{S:Nat→Prop}{w:World}:∀{cs:List (List Value)}{es:List El},tH S w cs es→∀u∈cs.flatten,u.oneCell'=true
 |[],_,_,u,hu=>by simp at hu
 |c::cs,e::es,h,u,hu=>by
  rw[List.flatten_cons]at hu
  rcases List.mem_append.1 hu with hu|hu
  ·exact h.1.one u hu
  ·exact tH.one h.2 u hu
 |_::_,[],h,_,_=>h.elim
set_option maxHeartbeats 4000000
def MnQ(m:Int)(s:Nat)(r:Int):Prop:=1≤r∧(0≤m→r≤m+1)∧(m<0→r=1)∧(r≤m→r=(s:Int))
theorem Tm.M5{l:List Tm}{k:Nat}{t:Tm}(h:l[k]?=some t):Tm.aA (l.take (k+1))=Tm.aA (l.take k)+t.size:=by
 obtain⟨hj,hj2⟩:=gE.1 h;rw[List.take_succ_eq_append_getElem hj,hj2]
 generalize l.take k=a
 induction a with
 |nil=>simp[Tm.aA]
 |cons x r ih=>rw[List.cons_append,Tm.aA,Tm.aA,ih];omega
theorem PS:∀(N:Nat) (t:Tm) (m:Int) (A:Option Addr) (c:Nat) (w:World),t.size≤N→zx w A c t→-1000000≤m→m≤1000000 →
 Calls Tryz.prog 21 #[t.val A c,.int .i64 m] w fun e w'=>(∃r:Int,e=.returned (.int .i64 r)∧MnQ m t.size r)∧Below w.heap.size w w':=by
 intro N
 induction N with
 |zero=>
  intro t m A c w hN;cases t;rw[Tm.size]at hN;omega
 |succ N ih=>
  intro t m A c w hN hV hm1 hm2;obtain⟨n,hn⟩:=aj t.kids.length;obtain⟨F,hF⟩:∃F:Ending→World→Prop,F=fun e w'=>(∃r:Int,e=.returned (.int .i64 r)∧MnQ m t.size r)∧Below w.heap.size w w':=⟨_,rfl⟩;rw[←hF];have hsz:t.size=1+Tm.aA t.kids:=by cases t;rw[Tm.size];rfl
  have hcap:=hV.cap;have aQ:=hV.bU;unfold maxLen at aQ;rw[←hn]at hcap;have hk:=hV.kids;obtain⟨w1,hw1⟩:=aj (w.alloc (.cells #[.int .i64 t.op,.int .i64 t.num,.string t.name,.slice A n c] 64));have hb1:=dz hw1;have hs1:w1.heap.size=w.heap.size+1:=by rw[hw1];simp
  have hbx:w1.heap[w.heap.size]?=some (.cells #[.int .i64 t.op,.int .i64 t.num,.string t.name,.slice A n c] 64 (0,0)):=by rw[hw1];exact eu w _
  show Calls Tryz.prog 21 #[.agg #[.int .i64 t.op,.int .i64 t.num,.string t.name,.slice A t.kids.length c],.int .i64 m] w F;rw[←hn];have HF:=Hd hF;have qm:=Hd ih;have HN:=Hd hn;have mg:=Hd hsz;have HK:=Hd hk;have HB1:=Hd hb1;have fA:=Hd hs1;have qH:=Hd hbx;have HW1:=Hd hw1;have Iy:=Hd hN;clear hF ih hn hsz hk hb1 hs1 hbx hw1 hV hN;go_in;go_wp2_with fail;rw[←HW1]
  go_loopw [5,6] (fun sm si wr=>∃(k:Nat)(x:Int),k≤n∧sm=.int .i64 x∧si=.int .i64 k∧MnQ m (1+Tm.aA (t.kids.take k)) x∧Below w1.heap.size w1 wr) (fun _ i _=>n-(intOf i).toNat)
  case atStart=>exact⟨0,1,zl _,rfl,rfl,⟨Int.le_refl _,fun h=>by omega,fun _=>rfl,fun _=>by simp[Tm.aA]⟩,Br _ _⟩
  case round=>
   obtain⟨k,x,hk,rfl,rfl,hq,hbel⟩:=hrel;have HQ:=Hd hq;have HB:=Hd hbel;have nR:=hbel.size;have hbw:w.heap.size<wr.heap.size:=by have:=fA.out;omega
   have kc3:wr.cell? ⟨w.heap.size,3,none⟩=some (.slice A n c):=by rw[cR wr w.heap.size 3 _ _ (0,0) ((hbel.block _ (by have:=fA.out;omega)).trans qH)];rfl
   have hbt:Below w.heap.size w wr:=HB1.trans (hbel.mono (by have:=fA.out;omega))
   by_cases hgo:k<n∧x≤m
   ·obtain⟨hlt,hx0⟩:=hgo;obtain⟨q,hq'⟩:∃q,t.kids[k]?=some q:=⟨_,gG (by have:=HN.out;omega)⟩
    rcases HK.out with h9|⟨g,o,rfl,hg,hrow⟩
    ·rw[h9]at hq';simp at hq'
    have hat:=(hrow.get hq').below hbt rfl hg;obtain⟨q0,q1,q2,A',c',q3,hVq⟩:=hat.open;have e1:o+4*k=o+k*4:=by omega
    rw[e1]at q0 q1 q2 q3;have hgr:g<wr.heap.size:=by have:=hbt.size;omega
    have JZ:=Hd (Tm.M5 hq')
    have N_:q.size≤N:=by
     have h1:=Tm.aM (mG hq');have:=Iy.out;have:=mg.out;omega
    have hx1:1≤x:=HQ.1;have hcall:=qm q (m-x) A' c' wr N_ hVq (by omega) (by omega);have hqz:q.size=1+Tm.aA q.kids:=by cases q;rw[Tm.size];rfl
    have HQZ:=Hd hqz;obtain⟨nq,hnq⟩:=aj q.kids.length;have aej:Calls Tryz.prog 21 #[.agg #[.int .i64 q.op,.int .i64 q.num,.string q.name,.slice A' nq c'],.int .i64 (m-x)] wr fun e w'=>(∃r:Int,e=.returned (.int .i64 r)∧MnQ (m-x) q.size r)∧Below wr.heap.size wr w':=by rw[hnq];exact hcall
    rw[←hnq]at q3;have HC:=Hd aej;have hk0:(0:Int)≤(k:Int):=by omega
    have hk1:(k:Int)<(n:Int):=by omega
    clear hcall aej hnq hqz N_ hVq hat hrow hq' e1 hbel hq hbt;go_wp2_with fail;refine HC.mono ?_;rintro e w2 ⟨⟨r,rfl,hr⟩,hb2⟩
    have HR:Hid (MnQ m (1+Tm.aA (t.kids.take (k+1))) (x+r)):=by
     obtain⟨a1,a2,a3,a4⟩:=HQ.out;obtain⟨b1,b2,b3,b4⟩:=hr;have:=JZ.out;have h0:0≤m-x:=by omega
     have h2:=b2 h0;refine⟨by omega,fun h=>by omega,fun h=>by omega,fun h=>?_⟩;have:=a4 hx0;have:=b4 (by omega);omega
    have hr1:1≤r∧r≤1000002:=by
     obtain⟨b1,b2,b3,b4⟩:=hr;have:=b2 (by omega);omega
    obtain⟨hr0,hr2⟩:=hr1;have HB3:=Hd (HB.trans (hb2.mono nR));clear hb2 hr q0 q1 q2 q3 kc3;go_wp2_with fail
    go_roundw
    case rel=>exact⟨k+1,x+r,by omega,by go_num,by go_num,HR,HB3⟩
    case measure=>simp[intOf];omega
   ·have HE:Hid (MnQ m t.size x):=by
     obtain⟨a1,a2,a3,a4⟩:=HQ.out;refine⟨a1,a2,a3,fun h=>?_⟩
     have hkn:k=n:=by
      by_cases h2:k<n
      ·exact absurd ⟨h2,h⟩ hgo
      ·omega
     have:=a4 h;rw[hkn,List.take_of_length_le (by rw[←HN];exact lr _)]at this;have:=mg.out;omega
    have lK:=Hd hbt
    by_cases hlt:k<n
    ·have hk1:(k:Int)<(n:Int):=by omega
     have hx0:¬x≤m:=fun h=>hgo ⟨hlt,h⟩;clear hgo hlt hq hbel hbt;go_wp2_with fail;rw[HF];exact⟨⟨x,rfl,HE⟩,lK⟩
    ·have hk1:¬(k:Int)<(n:Int):=by omega
     clear hgo hlt hq hbel hbt;go_wp2_with fail;rw[HF];exact⟨⟨x,rfl,HE⟩,lK⟩
set_option maxHeartbeats 8000000
def PnQ(m:Int)(s:Nat)(r:Int):Prop:=2≤r∧(0≤m→r≤m+2)∧(m<0→r=2)∧(r≤m→r=(s:Int))
theorem aek(t:Fm):t.bT=1+t.tm.size+Fm.iK t.kids:=by cases t;rw[Fm.bT];rfl
theorem J6{l:List Fm}{k:Nat}{t:Fm}(h:l[k]?=some t):Fm.iK (l.take (k+1))=Fm.iK (l.take k)+t.bT:=by
 obtain⟨hj,hj2⟩:=gE.1 h;rw[List.take_succ_eq_append_getElem hj,hj2]
 generalize l.take k=a
 induction a with
 |nil=>simp[Fm.iK]
 |cons x r ih=>rw[List.cons_append,Fm.iK,Fm.iK,ih];omega
theorem Ji:∀(N:Nat) (t:Fm) (m:Int) (Ae:Option Addr) (ce:Nat) (A:Option Addr) (c:Nat) (w:World),t.size≤N→pO w Ae ce A c t→-1000000≤m→m≤1000000 →
 Calls Tryz.prog 22 #[t.val Ae ce A c,.int .i64 m] w fun e w'=>(∃r:Int,e=.returned (.int .i64 r)∧PnQ m t.bT r)∧Below w.heap.size w w':=by
 intro N
 induction N with
 |zero=>intro t m Ae ce A c w hN;cases t;rw[Fm.size]at hN;omega
 |succ N ih=>
  intro t m Ae ce A c w hN hV hm1 hm2;have Iy:=Hd hN;have hsz:t.size=1+Fm.aA t.kids:=by cases t;rw[Fm.size];rfl
  have mg:=Hd hsz;obtain⟨F,HF⟩:=ak (fun(e:Ending)(w':World)=>(∃r:Int,e=.returned (.int .i64 r)∧PnQ m t.bT r)∧Below w.heap.size w w');rw[←HF];unfold Fm.val;obtain⟨n,HN⟩:=ak t.kids.length;obtain⟨ne,hne⟩:=aj t.tm.kids.length;have hcap:=hV.cap;have aQ:=hV.bU;unfold maxLen at aQ;have HK:=Hd hV.kids;obtain⟨b1,qY⟩:=ak w.heap.size;obtain⟨w1,HW1⟩:=ak (w.alloc (.cells #[.int .i64 t.op,.int .i64 t.tm.op,.int .i64 t.tm.num,.string t.tm.name,.slice Ae ne ce,.slice A n c] 67));have hbl:=dz HW1;have X1:=jZ HW1 qY;have hmn:=PS t.tm.size t.tm m Ae ce w1 (lr _) (hV.tm.below hbl rfl) hm1 hm2;unfold Tm.val at hmn;rw[←hne]at hmn⊢;rw[←HN]at hcap⊢;have HMN:=Hd hmn;have HB1:=Hd hbl;clear hmn hbl hne hV hsz hN;obtain⟨u0,u1,u2,u3,u4,u5,-⟩:=q6 X1;have l1:=lH X1;go_in;go_wp2_with fail;rw[←HW1,←qY];(try go_wp2_with fail);refine HMN.mono ?_;rintro e w2 ⟨⟨r0,rfl,hr0⟩,hb2⟩;have X2:=kX hb2 X1;have HB2:=kB HB1 hb2
  have Kq:Hid (PnQ m (1+t.tm.size+Fm.iK (t.kids.take 0)) (1+r0)):=by
   obtain⟨a1,a2,a3,a4⟩:=hr0;refine⟨by omega,fun h=>by have:=a2 h;omega,fun h=>by have:=a3 h;omega,fun h=>?_⟩;have:=a4 (by omega);simp[Fm.iK];omega
  have hr1:1≤r0∧r0≤1000001:=by
   obtain⟨a1,a2,a3,a4⟩:=hr0
   by_cases h:0≤m
   ·have:=a2 h;omega
   ·have:=a3 (by omega);omega
  obtain⟨hr2,hr3⟩:=hr1;have hwr:IntKind.i64.wrap (1+r0)=1+r0:=IntWalk.i64_in _ (by omega);obtain⟨x0,HX0⟩:=ak (1+r0);rw[←HX0]at Kq hwr;clear hr0 hb2 u0 u1 u2 u3 u4 u5 l1 HMN;go_wp2_with fail
  go_loopw [5,6] (fun sm si wr=>∃(k:Nat)(x:Int),k≤n∧sm=.int .i64 x∧si=.int .i64 k∧PnQ m (1+t.tm.size+Fm.iK (t.kids.take k)) x∧Below w2.heap.size w2 wr) (fun _ i _=>n-(intOf i).toNat)
  case atStart=>exact⟨0,x0,zl _,by first|rfl|rw[HX0],rfl,Kq,Br _ _⟩
  case round=>
   obtain⟨k,x,hk,rfl,rfl,hq,hbel⟩:=hrel;have HQ:=Hd hq;have X3:=kX hbel X2;have kc5:=pG X3 5 rfl;have l3:=lH X3;have hbt:Below w.heap.size w wr:=(kB HB2 hbel).out
   by_cases hgo:k<n∧x≤m
   ·obtain⟨hlt,hxm⟩:=hgo;obtain⟨q,hq'⟩:∃q,t.kids[k]?=some q:=⟨_,gG (by have:=HN.out;omega)⟩
    rcases HK.out with h9|⟨g,o,rfl,hg,hrow⟩
    ·rw[h9]at hq';simp at hq'
    obtain⟨y0,y1,y2,y3,Be,de,B,d,y4,y5,hv⟩:=((hrow.get hq').below hbt rfl hg).open;rw[Nat.mul_comm 6 k]at y0 y1 y2 y3 y4 y5;have hgr:g<wr.heap.size:=lL hg hbt.size;have hx1:2≤x:=HQ.1;obtain⟨nq,hnq⟩:=aj q.kids.length;obtain⟨me,hme⟩:=aj q.tm.kids.length;rw[←hme]at y4;rw[←hnq]at y5;have hc:=ih q (m-x) Be de B d wr (by have h1:=Fm.aM (mG hq');have:=Iy.out;have:=mg.out;omega) hv (by omega) (by omega);unfold Fm.val at hc;rw[←hnq,←hme]at hc;have HC:=Hd hc;have JZ:=Hd (J6 hq');have oW:=Hd hbel;have hk0:(0:Int)≤(k:Int):=by omega
    have hk1:(k:Int)<(n:Int):=by omega
    have hsub:IntKind.i64.wrap (m-x)=m-x:=IntWalk.i64_in _ (by omega);clear hc hnq hme hv hrow hq' hbel hq hbt hg;go_wp2_with fail;refine HC.mono ?_;rintro e w4 ⟨⟨r,rfl,hr⟩,hb4⟩
    have HR:Hid (PnQ m (1+t.tm.size+Fm.iK (t.kids.take (k+1))) (x+r)):=by
     obtain⟨a1,a2,a3,a4⟩:=HQ.out;obtain⟨c1,c2,c3,c4⟩:=hr;have:=JZ.out;have h2:=c2 (by omega);refine⟨by omega,fun h=>by omega,fun h=>by omega,fun h=>?_⟩;have:=a4 hxm;have:=c4 (by omega);omega
    have hr1:2≤r∧r≤1000002:=by
     obtain⟨c1,c2,c3,c4⟩:=hr;have:=c2 (by omega);omega
    obtain⟨hr4,hr5⟩:=hr1;have hwr2:IntKind.i64.wrap (x+r)=x+r:=IntWalk.i64_in _ (by omega);have BS:=kB oW hb4;clear hr hb4 y0 y1 y2 y3 y4 y5 HC;go_wp2_with fail
    go_round
    case rel=>exact⟨k+1,x+r,by omega,by first|rfl|go_num,by go_num,HR,BS⟩
    case measure=>simp[intOf];omega
   ·have oW:=Hd hbt
    have hfin:Hid (PnQ m t.bT x):=by
     by_cases hlt:k<n
     ·have hxm:¬x≤m:=fun h=>hgo ⟨hlt,h⟩;obtain⟨a1,a2,a3,a4⟩:=HQ.out;exact⟨a1,a2,a3,fun h=>absurd h hxm⟩
     ·have h:=HQ.out;rw[show k=t.kids.length by have:=HN.out;omega,List.take_length,←aek]at h;exact h
    by_cases hlt:k<n
    ·have hxm:¬x≤m:=fun h=>hgo ⟨hlt,h⟩;have hk1:(k:Int)<(n:Int):=by omega
     clear hgo hbel hbt hq;go_wp2_with fail;rw[HF];exact⟨⟨x,rfl,hfin.out⟩,oW⟩
    ·have hk1:¬(k:Int)<(n:Int):=by omega
     clear hgo hbel hbt hq;go_wp2_with fail;rw[HF];exact⟨⟨x,rfl,hfin.out⟩,oW⟩
end Go.Proofs.YtkhoeoilamddaaaGreatDoor
