/- Walks and plain words: MwF MsA. -/
import Derived.Test.YtkhoeoilamddaaaGreatDoorYMtL
namespace Go.Proofs.YtkhoeoilamddaaaGreatDoor
open Go.RowKit
set_option linter.unusedVariables false
set_option maxRecDepth 100000
def aa2:El→Nat
 |.var _=>4
 |.defs _=>5
 |.init _=>4
 |.bF _=>4
 |.next _=>5
 |.trans _=>4
 |.fair _=>4
 |.spec _=>7
theorem MS.len{S:Nat→Prop}{w:World}{cs:List Value}{t:Tm}(h:MS S w cs t):cs.length=4:=by
 obtain⟨A,c,rfl,-⟩:=h
 rfl
theorem VZ.len{S:Nat→Prop}{w:World}{cs:List Value}{e:El}(h:VZ S w cs e):cs.length=aa2 e:=by
 cases e with
 |var v=>rw[show cs=_ from h];rfl
 |defs d=>obtain⟨r,rfl,h2⟩:=h;rw[List.length_cons,h2.len];rfl
 |next d=>obtain⟨r,rfl,h2⟩:=h;rw[List.length_cons,h2.len];rfl
 |init t=>exact MS.len h
 |bF t=>exact MS.len h
 |trans t=>exact MS.len h
 |fair t=>exact MS.len h
 |spec d=>obtain⟨x,rfl,-⟩:=h;rfl
theorem tH.get{S:Nat→Prop}{w:World}:∀{cs:List (List Value)}{es:List El}{j:Nat}{e:El},tH S w cs es→es[j]?=some e→∃c,cs[j]?=some c∧VZ S w c e
 |c::cs,e'::es,0,e,h,hj=>by
  simp at hj;subst hj;exact⟨c,rfl,h.1⟩
 |c::cs,e'::es,j+1,e,h,hj=>tH.get (cs:=cs) (es:=es) (j:=j) h.2 (by simpa using hj)
 |[],[],_,_,_,hj=>by simp at hj
 |[],_::_,_,_,h,_=>h.elim
 |_::_,[],_,_,h,_=>h.elim
theorem tH.lens{S:Nat→Prop}{w:World}{s:Nat}:∀{cs:List (List Value)}{es:List El},tH S w cs es→(∀e∈es,aa2 e=s)→∀c∈cs,c.length=s
 |c::cs,e::es,h,hl,c',hc=>by
  rcases List.mem_cons.1 hc with rfl|hc
  ·rw[h.1.len];exact hl e (by simp)
  ·exact tH.lens h.2 (fun e he=>hl e (List.mem_cons_of_mem _ he)) c' hc
 |[],_,_,_,_,hc=>by simp at hc
 |_::_,[],h,_,_,_=>h.elim
theorem aa3{s:Nat}:∀{X:List (List Value)}{j i:Nat}{c:List Value},(∀c∈X,c.length=s)→X[j]?=some c→i<s→X.flatten[j*s+i]?=c[i]?
 |x::X,0,i,c,hl,hj,hi=>by
  simp at hj;subst hj;rw[List.flatten_cons,Nat.zero_mul,Nat.zero_add,List.getElem?_append_left (by rw[hl x (by simp)];exact hi)]
 |x::X,j+1,i,c,hl,hj,hi=>by
  have hx:=hl x (by simp);rw[List.flatten_cons,List.getElem?_append_right (by rw[hx,Nat.succ_mul];omega),hx,show(j+1)*s+i-s=j*s+i by rw[Nat.succ_mul];omega];exact aa3 (fun c hc=>hl c (List.mem_cons_of_mem _ hc)) (by simpa using hj) hi
 |[],_,_,_,_,hj,_=>by simp at hj
theorem wT{S:Nat→Prop}{w:World}{cs:List Value}{g o:Nat}{t:Tm}(h:MS S w cs t)(hc:∀i v,cs[i]?=some v→w.cell? ⟨g,o+i,none⟩=some v):gB w g o t:=by
 obtain⟨A,c,rfl,hv⟩:=h;exact gB.mk (hc 0 _ rfl) (hc 1 _ rfl) (hc 2 _ rfl) (hc 3 _ rfl) hv.toV
theorem M0{S:Nat→Prop}{w:World}{cs:List Value}{g o:Nat}{d:Df}(h:∃r,cs=.string d.name::r∧MS S w r d.tm)(hc:∀i v,cs[i]?=some v→w.cell? ⟨g,o+i,none⟩=some v):uD w g o d:=by
 obtain⟨r,rfl,h2⟩:=h;exact⟨hc 0 _ rfl,wT h2 fun i v hi=>by rw[Nat.add_assoc,Nat.add_comm 1 i];exact hc (i+1) v (by simpa using hi)⟩
theorem YS{S:Nat→Prop}{w:World}{cs:List Value}{g o:Nat}{x:Vr}(hx:VZ S w cs (.var x))(hc:∀i v,cs[i]?=some v→w.cell? ⟨g,o+i,none⟩=some v):GN w g o x:=by
 have hx:cs=[.string x.name,.bool x.bool,.int .i64 x.lo,.int .i64 x.hi]:=hx;subst hx;exact⟨hc 0 _ rfl,hc 1 _ rfl,hc 2 _ rfl,hc 3 _ rfl⟩
theorem YT{S:Nat→Prop}{w:World}{cs:List Value}{g o:Nat}{x:Sp}(hx:VZ S w cs (.spec x))(hc:∀i v,cs[i]?=some v→w.cell? ⟨g,o+i,none⟩=some v):Fw w g o x:=by
 obtain⟨y,rfl,hy⟩:=hx;have h1:=hc 1 _ rfl;have h2:=hc 2 _ rfl;have h3:=hc 3 _ rfl;have h4:=hc 4 _ rfl;have h5:=hc 5 _ rfl;have h6:=hc 6 _ rfl;rw[hy.o]at h1;rw[hy.tn]at h2;rw[hy.tm]at h3;rw[hy.s]at h4;rw[hy.ne]at h5;rw[hy.n]at h6;exact⟨hc 0 _ rfl,xS.mk h1 h2 h3 h4 h5 h6 hy.v.toV⟩
theorem agr{α:Type}{At:World→Nat→Nat→α→Prop}{s k n B:Nat}{f:α→El}{l:List α}{w:World}{v:Value}{XX:List (List Value)}{S:Nat→Prop}(hown:w.ownsRow B (mT k) (mS k) v n XX.flatten)(hn:n=l.length)(hrow:tH S w XX (l.map f))(hs:mS k=s)(hL:∀x,aa2 (f x)=s)
 (hAt:∀S cs g o x,VZ S w cs (f x)→(∀i v,cs[i]?=some v→w.cell? ⟨g,o+i,none⟩=some v)→At w g o x):fK At s w v l:=by
 rw[hs]at hown
 rcases hown.2 with⟨h3,h4⟩|⟨g,cap,cur,h3,hB,hgg,h5,h6,-⟩
 ·exact⟨none,0,by rw[h3,←hn,h4],by omega,zl _,.inl (List.eq_nil_of_length_eq_zero (by omega))⟩
 ·rw[h3]at hown;refine⟨some ⟨g,0,none⟩,cap,by rw[h3,hn],by omega,h6,.inr ⟨g,0,rfl,lH hgg,fun j x hj=>?_⟩⟩;obtain⟨c,hc,he⟩:=hrow.get (j:=j) (e:=f x) (by rw[List.getElem?_map,hj];rfl);refine hAt _ c g _ x he (fun i v hi=>?_);have hi':i<s:=by rw[←hL x,←he.len];exact(gE.1 hi).1
  have hj':j<l.length:=(gE.1 hj).1
  have hb:j*s+i<n*s:=by
   rw[hn];exact lL (Nat.add_lt_add_left hi' _) (by rw[←Nat.succ_mul];exact Nat.mul_le_mul_right s hj')
  rw[Nat.zero_add,hown.cellAt (j*s+i) hb,aa3 (fun c hc=>hrow.lens (fun e he=>by obtain⟨y,-,rfl⟩:=List.mem_map.1 he;exact hL y) c hc) hc hi'];exact hi
theorem ab9{w:World}{B:Nat}{U:Nat→Value}{nn:Nat→Nat}{XX:Nat→List (List Value)}{G:Nat→List El}{S:Nat→Prop}{m:Md}(hown:∀k,k<8→w.ownsRow B (mT k) (mS k) (U k) (nn k) (XX k).flatten)(hn:∀k,k<8→nn k=(G k).length)(hrow:∀k,k<8→tH S w (XX k) (G k))(hg:V8 G m):Km w U m:=by
 obtain⟨g0,g1,g2,g3,g4,g5,g6,g7⟩:=hg
 have key:∀{α:Type}(k:Nat)(hk:k<8){f:α→El}{l:List α}(hG:G k=l.map f){At:World→Nat→Nat→α→Prop}{s:Nat}(hs:mS k=s)(hL:∀x,aa2 (f x)=s)(hAt:∀S cs g o x,VZ S w cs (f x)→(∀i v,cs[i]?=some v→w.cell? ⟨g,o+i,none⟩=some v)→At w g o x),fK At s w (U k) l:=by
  intro α k hk f l hG At s hs hL hAt;exact agr (hown k hk) (by rw[hn k hk,hG,List.length_map]) (hG ▸ hrow k hk) hs hL hAt
 refine⟨key 0 (by decide) g0 rfl (fun _=>rfl) fun S cs g o x hx hc=>?_,key 1 (by decide) g1 rfl (fun _=>rfl) fun S cs g o x hx hc=>M0 hx hc,
  key 2 (by decide) g2 rfl (fun _=>rfl) fun S cs g o x hx hc=>wT hx hc,key 3 (by decide) g3 rfl (fun _=>rfl) fun S cs g o x hx hc=>wT hx hc,
  key 4 (by decide) g4 rfl (fun _=>rfl) fun S cs g o x hx hc=>M0 hx hc,key 5 (by decide) g5 rfl (fun _=>rfl) fun S cs g o x hx hc=>wT hx hc,
  key 6 (by decide) g6 rfl (fun _=>rfl) fun S cs g o x hx hc=>wT hx hc,key 7 (by decide) g7 rfl (fun _=>rfl) fun S cs g o x hx hc=>YT hx hc⟩
 exact YS hx hc
theorem Ho{w:World}{B R:Nat}{V:Nat→Value}{X:Nat→List (List Value)}{G:Nat→List El}{m:Md}(h:BJ w B R V X G)(hg:V8 G m):Km w V m:=ab9 (fun k hk=>h.own k hk trivial) (fun _ _=>rfl) h.vals hg
set_option maxHeartbeats 8000000
def EA(w:World)(e:Ending)(w':World):Prop:=e=.returned (.bool true)∧Below w.heap.size w w'
end Go.Proofs.YtkhoeoilamddaaaGreatDoor
