/- Walks and plain words: MwF MsA. -/
import Derived.Test.YtkhoeoilamddaaaGreatDoorQMwD
import Derived.Test.YtkhoeoilamddaaaGreatDoorQMtN
namespace Go.Proofs.YtkhoeoilamddaaaGreatDoor
open Go.RowKit
set_option linter.unusedVariables false
set_option maxRecDepth 100000
def aa2:El→Nat
 |.var _=>4
 |.defs _=>5
 |.init _=>4
 |.bF _=>4
 |.next _=>5
 |.trans _=>4
 |.fair _=>4
 |.spec _=>7
theorem MS.len{S:Nat→Prop}{w:World}{cs:List Value}{t:Tm}(h:MS S w cs t):cs.length=4:=by
 obtain⟨A,c,rfl,-⟩:=h
 rfl
theorem VZ.len{S:Nat→Prop}{w:World}{cs:List Value}{e:El}(h:VZ S w cs e):cs.length=aa2 e:=by
 cases e with
 |var v=>rw[show cs=_ from h];rfl
 |defs d=>obtain⟨r,rfl,h2⟩:=h;rw[List.length_cons,h2.len];rfl
 |next d=>obtain⟨r,rfl,h2⟩:=h;rw[List.length_cons,h2.len];rfl
 |init t=>exact MS.len h
 |bF t=>exact MS.len h
 |trans t=>exact MS.len h
 |fair t=>exact MS.len h
 |spec d=>obtain⟨x,rfl,-⟩:=h;rfl
theorem tH.get{S:Nat→Prop}{w:World}:∀{cs:List (List Value)}{es:List El}{j:Nat}{e:El},tH S w cs es→es[j]?=some e→∃c,cs[j]?=some c∧VZ S w c e
 |c::cs,e'::es,0,e,h,hj=>by
  simp at hj;subst hj;exact⟨c,rfl,h.1⟩
 |c::cs,e'::es,j+1,e,h,hj=>tH.get (cs:=cs) (es:=es) (j:=j) h.2 (by simpa using hj)
 |[],[],_,_,_,hj=>by simp at hj
 |[],_::_,_,_,h,_=>h.elim
 |_::_,[],_,_,h,_=>h.elim
theorem tH.lens{S:Nat→Prop}{w:World}{s:Nat}:∀{cs:List (List Value)}{es:List El},tH S w cs es→(∀e∈es,aa2 e=s)→∀c∈cs,c.length=s
 |c::cs,e::es,h,hl,c',hc=>by
  rcases List.mem_cons.1 hc with rfl|hc
  ·rw[h.1.len];exact hl e (by simp)
  ·exact tH.lens h.2 (fun e he=>hl e (List.mem_cons_of_mem _ he)) c' hc
 |[],_,_,_,_,hc=>by simp at hc
 |_::_,[],h,_,_,_=>h.elim
theorem aa3{s:Nat}:∀{X:List (List Value)}{j i:Nat}{c:List Value},(∀c∈X,c.length=s)→X[j]?=some c→i<s→X.flatten[j*s+i]?=c[i]?
 |x::X,0,i,c,hl,hj,hi=>by
  simp at hj;subst hj;rw[List.flatten_cons,Nat.zero_mul,Nat.zero_add,List.getElem?_append_left (by rw[hl x (by simp)];exact hi)]
 |x::X,j+1,i,c,hl,hj,hi=>by
  have hx:=hl x (by simp);rw[List.flatten_cons,List.getElem?_append_right (by rw[hx,Nat.succ_mul];omega),hx,show(j+1)*s+i-s=j*s+i by rw[Nat.succ_mul];omega];exact aa3 (fun c hc=>hl c (List.mem_cons_of_mem _ hc)) (by simpa using hj) hi
 |[],_,_,_,_,hj,_=>by simp at hj
theorem wT{S:Nat→Prop}{w:World}{cs:List Value}{g o:Nat}{t:Tm}(h:MS S w cs t)(hc:∀i v,cs[i]?=some v→w.cell? ⟨g,o+i,none⟩=some v):gB w g o t:=by
 obtain⟨A,c,rfl,hv⟩:=h;exact gB.mk (hc 0 _ rfl) (hc 1 _ rfl) (hc 2 _ rfl) (hc 3 _ rfl) hv.toV
theorem M0{S:Nat→Prop}{w:World}{cs:List Value}{g o:Nat}{d:Df}(h:∃r,cs=.string d.name::r∧MS S w r d.tm)(hc:∀i v,cs[i]?=some v→w.cell? ⟨g,o+i,none⟩=some v):uD w g o d:=by
 obtain⟨r,rfl,h2⟩:=h;exact⟨hc 0 _ rfl,wT h2 fun i v hi=>by rw[Nat.add_assoc,Nat.add_comm 1 i];exact hc (i+1) v (by simpa using hi)⟩
theorem YS{S:Nat→Prop}{w:World}{cs:List Value}{g o:Nat}{x:Vr}(hx:VZ S w cs (.var x))(hc:∀i v,cs[i]?=some v→w.cell? ⟨g,o+i,none⟩=some v):GN w g o x:=by
 have hx:cs=[.string x.name,.bool x.bool,.int .i64 x.lo,.int .i64 x.hi]:=hx;subst hx;exact⟨hc 0 _ rfl,hc 1 _ rfl,hc 2 _ rfl,hc 3 _ rfl⟩
theorem YT{S:Nat→Prop}{w:World}{cs:List Value}{g o:Nat}{x:Sp}(hx:VZ S w cs (.spec x))(hc:∀i v,cs[i]?=some v→w.cell? ⟨g,o+i,none⟩=some v):Fw w g o x:=by
 obtain⟨y,rfl,hy⟩:=hx;have h1:=hc 1 _ rfl;have h2:=hc 2 _ rfl;have h3:=hc 3 _ rfl;have D:=hc 4 _ rfl;have h5:=hc 5 _ rfl;have G:=hc 6 _ rfl;rw[hy.o]at h1;rw[hy.tn]at h2;rw[hy.tm]at h3;rw[hy.s]at D;rw[hy.ne]at h5;rw[hy.n]at G;exact⟨hc 0 _ rfl,xS.mk h1 h2 h3 D h5 G hy.v.toV⟩
theorem agr{α:Type}{At:World→Nat→Nat→α→Prop}{s k n B:Nat}{f:α→El}{l:List α}{w:World}{v:Value}{O:List (List Value)}{S:Nat→Prop}(D:w.ownsRow B (mT k) (mS k) v n O.flatten)(hn:n=l.length)(hrow:tH S w O (l.map f))(hs:mS k=s)(hL:∀x,aa2 (f x)=s)
 (hAt:∀S cs g o x,VZ S w cs (f x)→(∀i v,cs[i]?=some v→w.cell? ⟨g,o+i,none⟩=some v)→At w g o x):fK At s w v l:=by
 rw[hs]at D
 rcases D.2 with⟨h3,h4⟩|⟨g,cap,cur,h3,hB,I,h5,h6,-⟩
 ·exact⟨none,0,by rw[h3,←hn,h4],by omega,zl _,.inl (List.eq_nil_of_length_eq_zero (by omega))⟩
 ·rw[h3]at D;refine⟨some ⟨g,0,none⟩,cap,by rw[h3,hn],by omega,h6,.inr ⟨g,0,rfl,lH I,fun j x Y=>?_⟩⟩;obtain⟨c,hc,he⟩:=hrow.get (j:=j) (e:=f x) (by rw[List.getElem?_map,Y];rfl);refine hAt _ c g _ x he (fun i v hi=>?_);have G:i<s:=by rw[←hL x,←he.len];exact(gE.1 hi).1
  have J:j<l.length:=(gE.1 Y).1
  have hb:j*s+i<n*s:=by
   rw[hn];exact lL (Nat.add_lt_add_left G _) (by rw[←Nat.succ_mul];exact Nat.mul_le_mul_right s J)
  rw[Nat.zero_add,D.cellAt (j*s+i) hb,aa3 (fun c hc=>hrow.lens (fun e he=>by obtain⟨y,-,rfl⟩:=List.mem_map.1 he;exact hL y) c hc) hc G];exact hi
theorem ab9{w:World}{B:Nat}{U:Nat→Value}{Y:Nat→Nat}{O:Nat→List (List Value)}{G:Nat→List El}{S:Nat→Prop}{m:Md}(I:∀k,k<8→w.ownsRow B (mT k) (mS k) (U k) (Y k) (O k).flatten)(hn:∀k,k<8→Y k=(G k).length)(hrow:∀k,k<8→tH S w (O k) (G k))(hg:V8 G m):Km w U m:=by
 obtain⟨g0,g1,g2,g3,g4,g5,g6,g7⟩:=hg
 have key:∀{α:Type}(k:Nat)(J:k<8){f:α→El}{l:List α}(hG:G k=l.map f){At:World→Nat→Nat→α→Prop}{s:Nat}(hs:mS k=s)(hL:∀x,aa2 (f x)=s)(D:∀S cs g o x,VZ S w cs (f x)→(∀i v,cs[i]?=some v→w.cell? ⟨g,o+i,none⟩=some v)→At w g o x),fK At s w (U k) l:=by
  intro α k J f l hG At s hs hL D;exact agr (I k J) (by rw[hn k J,hG,List.length_map]) (hG ▸ hrow k J) hs hL D
 refine⟨key 0 (by decide) g0 rfl (fun _=>rfl) fun S cs g o x hx hc=>?_,key 1 (by decide) g1 rfl (fun _=>rfl) fun S cs g o x hx hc=>M0 hx hc,
  key 2 (by decide) g2 rfl (fun _=>rfl) fun S cs g o x hx hc=>wT hx hc,key 3 (by decide) g3 rfl (fun _=>rfl) fun S cs g o x hx hc=>wT hx hc,
  key 4 (by decide) g4 rfl (fun _=>rfl) fun S cs g o x hx hc=>M0 hx hc,key 5 (by decide) g5 rfl (fun _=>rfl) fun S cs g o x hx hc=>wT hx hc,
  key 6 (by decide) g6 rfl (fun _=>rfl) fun S cs g o x hx hc=>wT hx hc,key 7 (by decide) g7 rfl (fun _=>rfl) fun S cs g o x hx hc=>YT hx hc⟩
 exact YS hx hc
theorem Ho{w:World}{B R:Nat}{V:Nat→Value}{X:Nat→List (List Value)}{G:Nat→List El}{m:Md}(h:BJ w B R V X G)(D:V8 G m):Km w V m:=ab9 (fun k I=>h.own k I trivial) (fun _ _=>rfl) h.vals D
set_option linter.unusedSimpArgs false
set_option maxHeartbeats 8000000
theorem aeo{o:Array Oper}{i:Nat}{x:Oper}(h:o.toList[i]?=some x):o[i]?=some x:=by simpa using h
def EA(w:World)(e:Ending)(w':World):Prop:=e=.returned (.bool true)∧Below w.heap.size w w'
theorem bI{w w':World}{g:Nat}(h:Below w.heap.size w w')(D:g<w.heap.size)(j:Nat):w'.cell? ⟨g,j,none⟩=w.cell? ⟨g,j,none⟩:=h.cell (p:=⟨g,j,none⟩) D
theorem J7:∀(N:Nat) (t:Tm) (A1:Option Addr) (c1:Nat) (A2:Option Addr) (c2:Nat) (w:World),t.size≤N→zx w A1 c1 t→zx w A2 c2 t→Calls Tryz.prog 54 #[t.val A1 c1,t.val A2 c2] w (EA w):=by
 intro N
 induction N with
 |zero=>intro t A1 c1 A2 c2 w hN;cases t;rw[Tm.size]at hN;omega
 |succ N ih=>
  intro t A1 c1 A2 c2 w hN O Y;have Iy:=Hd hN;have hsz:t.size=1+Tm.aA t.kids:=by cases t;rw[Tm.size];rfl
  have mg:=Hd hsz;obtain⟨F,HF⟩:=ak (EA w);rw[←HF];unfold Tm.val;obtain⟨n,hn⟩:=aj t.kids.length;have aa:=O.cap;have ab:=Y.cap;have Bb:=O.bU;have Bc:=Y.bU;unfold maxLen at Bb Bc;have xO:=Hd O.kids;have J8:=Hd Y.kids;rw[←hn]at aa ab;obtain⟨b1,hb1⟩:=aj w.heap.size;obtain⟨w1,hw1⟩:=aj (w.alloc (.cells #[.int .i64 t.op,.int .i64 t.num,.string t.name,.slice A1 n c1] 64));obtain⟨b2,ar⟩:=aj (b1+1);obtain⟨w2,J⟩:=aj (w1.alloc (.cells #[.int .i64 t.op,.int .i64 t.num,.string t.name,.slice A2 n c2] 64));have bb:=sAl hw1;have bd:=sAl J;have X1:=kX (dz J) (jZ hw1 hb1);have X2:=jZ J (show b2=w1.heap.size by omega);have aQ:=Hd (Below.trans (dz hw1) ((dz J).mono (show w.heap.size≤w1.heap.size by omega)));have aS:=Hd hw1;have a6:=Hd J;have aP:=Hd hb1;have ai:=Hd ar;have HN:=Hd hn;have a7:=Hd (show w.heap.size≤w2.heap.size by omega);rw[←hn];clear hsz hN hb1 ar hw1 J bb bd hn O Y;obtain⟨u0,u1,u2,u3,-⟩:=q4 X1;obtain⟨v0,v1,v2,v3,-⟩:=q4 X2;have l1:=lH X1;have l2:=lH X2;have hne:b1≠b2:=by have:=ai.out;omega
  go_in;go_wp2_with fail;rw[←aS,←aP];try go_wp2_with fail
  try rw[←a6,←ai]
  (try go_wp2_with fail);clear u0 u1 u2 u3 v0 v1 v2 v3 l1 l2
  go_loopw [5] (fun si wr=>∃k:Nat,k≤n∧si=.int .i64 k∧Below w2.heap.size w2 wr) (fun i _=>n-(intOf i).toNat)
  case atStart=>exact⟨0,zl _,rfl,Br _ _⟩
  case round=>
   obtain⟨k,hk,rfl,G⟩:=hrel;have Z1:=kX G X1;have Z2:=kX G X2;have I:Below w.heap.size w wr:=aQ.trans (G.mono a7);have bn:=pG Z1 3 rfl;have bo:=pG Z2 3 rfl;have l1:=lH Z1;have l2:=lH Z2
   by_cases bm:k<n
   ·obtain⟨q,hq⟩:∃q,t.kids[k]?=some q:=⟨_,gG (by have:=HN.out;omega)⟩
    rcases xO.out with h9|⟨g1,o1,rfl,ae,az⟩
    ·rw[h9]at hq;simp at hq
    rcases J8.out with h9|⟨g2,o2,rfl,af,aE⟩
    ·rw[h9]at hq;simp at hq
    obtain⟨bf,M8,bg,B1,d1,Uv,hv1⟩:=((az.get hq).below I rfl ae).open;rw[Nat.mul_comm 4 k]at bf M8 bg Uv;have ax:g1<wr.heap.size:=lL ae I.size;obtain⟨bh,bi,bj,B2,d2,aJ,aF⟩:=((aE.get hq).below I rfl af).open;rw[Nat.mul_comm 4 k]at bh bi bj aJ;have ay:g2<wr.heap.size:=lL af I.size;obtain⟨nq,ag⟩:=aj q.kids.length
    have HC:Hid (∀W,Below wr.heap.size wr W→Calls Tryz.prog 54 #[.agg #[.int .i64 q.op,.int .i64 q.num,.string q.name,.slice B1 nq d1],.agg #[.int .i64 q.op,.int .i64 q.num,.string q.name,.slice B2 nq d2]] W (EA W)):=fun W hb=>by
     have h:=ih q B1 d1 B2 d2 W (by have h1:=Tm.aM (mG hq);have:=Iy.out;have:=mg.out;omega) (hv1.below hb rfl) (aF.below hb rfl);unfold Tm.val at h;rw[←ag]at h;exact h
    rw[←ag]at Uv aJ;have oW:=Hd I;have lK:=Hd G;have bk:(0:Int)≤(k:Int):=by omega
    have bl:(k:Int)<(n:Int):=by omega
    clear ag hq hv1 aF az aE ae af G I Z1 Z2;go_wp2_with fail;refine wp_region_held_drew (S:=fun W=>Below wr.heap.size wr W) (by kernel_rfl) (Br _ _).drew (fun D=>?_);obtain⟨Wc,ao⟩:=aj wr.drew;rw[←ao]at D⊢;clear ao
    repeat
     (first|refine aI 0 (v:=?_) rfl ?hy ?_|refine aI 1 (v:=?_) rfl ?hy ?_|refine aI 2 (v:=?_) rfl ?hy ?_|refine aI 3 (v:=?_) rfl ?hy ?_|refine aI 4 (v:=?_) rfl ?hy ?_|refine aI 5 (v:=?_) rfl ?hy ?_|refine aI 6 (v:=?_) rfl ?hy ?_|refine aI 7 (v:=?_) rfl ?hy ?_|refine aI 8 (v:=?_) rfl ?hy ?_|refine aI 9 (v:=?_) rfl ?hy ?_|refine aI 11 (v:=?_) rfl ?hy ?_
      case hy=>
       intro w0 hS;have e1:=bI hS l1;have e2:=bI hS l2;have e3:=bI hS ax;have e4:=bI hS ay;clear hS;go_simp
       (first|done|with_reducible rfl)
      try simp only[Act.put,aT,aU,aV])
    iterate 1
     all_goals first
      |refine Rd (rs:=[10]) (by decide +kernel) (by simp) (Rc (aeo rfl) (fun K hK=>?_) Rn)
      |fail
     all_goals first
      |(go_simp
        (with_reducible refine(HC.out _ D).mono ?_);rintro e We ⟨rfl,av⟩;have aw:=D.trans (av.mono D.size);clear D;refine hK.out _ _ aw (fun D=>?_);clear hK K av aw
        try simp only[Act.put,aT,aU,aV])
      |fail
     all_goals
      repeat
       (first|refine aI 0 (v:=?_) rfl ?hy ?_|refine aI 1 (v:=?_) rfl ?hy ?_|refine aI 2 (v:=?_) rfl ?hy ?_|refine aI 3 (v:=?_) rfl ?hy ?_|refine aI 4 (v:=?_) rfl ?hy ?_|refine aI 5 (v:=?_) rfl ?hy ?_|refine aI 6 (v:=?_) rfl ?hy ?_|refine aI 7 (v:=?_) rfl ?hy ?_|refine aI 8 (v:=?_) rfl ?hy ?_|refine aI 9 (v:=?_) rfl ?hy ?_|refine aI 11 (v:=?_) rfl ?hy ?_
        case hy=>
         intro w0 hS;have e1:=bI hS l1;have e2:=bI hS l2;have e3:=bI hS ax;have e4:=bI hS ay;clear hS;go_simp
         (first|done|with_reducible rfl)
        try simp only[Act.put,aT,aU,aV])
    all_goals refine wpAnyH_done (by decide +kernel) ?_ _
    all_goals
     go_wp2_with fail
     go_round
     case rel=>exact⟨k+1,by omega,by go_num,lK.trans (D.mono lK.size)⟩
     case measure=>simp[intOf];omega
   ·have a8:k=n:=by omega
    subst a8;have ba:¬(k:Int)<(k:Int):=by omega
    have oW:=Hd I;clear G I Z1 Z2;go_wp2_with fail;rw[HF];exact⟨rfl,oW⟩
theorem Uw:∀(N:Nat) (t:Tm) (A1:Option Addr) (c1:Nat) (A2:Option Addr) (c2:Nat) (w:World),t.size≤N→zx w A1 c1 t→zx w A2 c2 t→Calls Tryz.prog 53 #[t.val A1 c1,t.val A2 c2] w (EA w):=by
 intro N
 induction N with
 |zero=>intro t A1 c1 A2 c2 w hN;cases t;rw[Tm.size]at hN;omega
 |succ N ih=>
  intro t A1 c1 A2 c2 w hN O Y;have Iy:=Hd hN;have hsz:t.size=1+Tm.aA t.kids:=by cases t;rw[Tm.size];rfl
  have mg:=Hd hsz;obtain⟨F,HF⟩:=ak (EA w);rw[←HF];unfold Tm.val;obtain⟨n,hn⟩:=aj t.kids.length;have aa:=O.cap;have ab:=Y.cap;have Bb:=O.bU;have Bc:=Y.bU;unfold maxLen at Bb Bc;have xO:=Hd O.kids;have J8:=Hd Y.kids;rw[←hn]at aa ab;obtain⟨b1,hb1⟩:=aj w.heap.size;obtain⟨w1,hw1⟩:=aj (w.alloc (.cells #[.int .i64 t.op,.int .i64 t.num,.string t.name,.slice A1 n c1] 64));obtain⟨b2,ar⟩:=aj (b1+1);obtain⟨w2,J⟩:=aj (w1.alloc (.cells #[.int .i64 t.op,.int .i64 t.num,.string t.name,.slice A2 n c2] 64));have bb:=sAl hw1;have bd:=sAl J;have X1:=kX (dz J) (jZ hw1 hb1);have X2:=jZ J (show b2=w1.heap.size by omega);have aQ:=Hd (Below.trans (dz hw1) ((dz J).mono (show w.heap.size≤w1.heap.size by omega)));have aS:=Hd hw1;have a6:=Hd J;have aP:=Hd hb1;have ai:=Hd ar;have HN:=Hd hn;have a7:=Hd (show w.heap.size≤w2.heap.size by omega);rw[←hn];clear hsz hN hb1 ar hw1 J bb bd hn O Y;obtain⟨u0,u1,u2,u3,-⟩:=q4 X1;obtain⟨v0,v1,v2,v3,-⟩:=q4 X2;have l1:=lH X1;have l2:=lH X2;have hne:b1≠b2:=by have:=ai.out;omega
  go_in;go_wp2_with fail;rw[←aS,←aP];try go_wp2_with fail
  try rw[←a6,←ai]
  (try go_wp2_with fail);clear u0 u1 u2 u3 v0 v1 v2 v3 l1 l2
  go_loopw [5] (fun si wr=>∃k:Nat,k≤n∧si=.int .i64 k∧Below w2.heap.size w2 wr) (fun i _=>n-(intOf i).toNat)
  case atStart=>exact⟨0,zl _,rfl,Br _ _⟩
  case round=>
   obtain⟨k,hk,rfl,G⟩:=hrel;have Z1:=kX G X1;have Z2:=kX G X2;have I:Below w.heap.size w wr:=aQ.trans (G.mono a7);have bn:=pG Z1 3 rfl;have bo:=pG Z2 3 rfl;have l1:=lH Z1;have l2:=lH Z2
   by_cases bm:k<n
   ·obtain⟨q,hq⟩:∃q,t.kids[k]?=some q:=⟨_,gG (by have:=HN.out;omega)⟩
    rcases xO.out with h9|⟨g1,o1,rfl,ae,az⟩
    ·rw[h9]at hq;simp at hq
    rcases J8.out with h9|⟨g2,o2,rfl,af,aE⟩
    ·rw[h9]at hq;simp at hq
    obtain⟨bf,M8,bg,B1,d1,Uv,hv1⟩:=((az.get hq).below I rfl ae).open;rw[Nat.mul_comm 4 k]at bf M8 bg Uv;have ax:g1<wr.heap.size:=lL ae I.size;obtain⟨bh,bi,bj,B2,d2,aJ,aF⟩:=((aE.get hq).below I rfl af).open;rw[Nat.mul_comm 4 k]at bh bi bj aJ;have ay:g2<wr.heap.size:=lL af I.size;obtain⟨nq,ag⟩:=aj q.kids.length
    have HC:Hid (∀W,Below wr.heap.size wr W→Calls Tryz.prog 53 #[.agg #[.int .i64 q.op,.int .i64 q.num,.string q.name,.slice B1 nq d1],.agg #[.int .i64 q.op,.int .i64 q.num,.string q.name,.slice B2 nq d2]] W (EA W)):=fun W hb=>by
     have h:=ih q B1 d1 B2 d2 W (by have h1:=Tm.aM (mG hq);have:=Iy.out;have:=mg.out;omega) (hv1.below hb rfl) (aF.below hb rfl);unfold Tm.val at h;rw[←ag]at h;exact h
    rw[←ag]at Uv aJ;have oW:=Hd I;have lK:=Hd G;have bk:(0:Int)≤(k:Int):=by omega
    have bl:(k:Int)<(n:Int):=by omega
    clear ag hq hv1 aF az aE ae af G I Z1 Z2;go_wp2_with fail;refine wp_region_held_drew (S:=fun W=>Below wr.heap.size wr W) (by kernel_rfl) (Br _ _).drew (fun D=>?_);obtain⟨Wc,ao⟩:=aj wr.drew;rw[←ao]at D⊢;clear ao
    repeat
     (first|refine aI 0 (v:=?_) rfl ?hy ?_|refine aI 1 (v:=?_) rfl ?hy ?_|refine aI 2 (v:=?_) rfl ?hy ?_|refine aI 3 (v:=?_) rfl ?hy ?_|refine aI 4 (v:=?_) rfl ?hy ?_|refine aI 5 (v:=?_) rfl ?hy ?_|refine aI 6 (v:=?_) rfl ?hy ?_|refine aI 7 (v:=?_) rfl ?hy ?_|refine aI 8 (v:=?_) rfl ?hy ?_|refine aI 9 (v:=?_) rfl ?hy ?_|refine aI 11 (v:=?_) rfl ?hy ?_
      case hy=>
       intro w0 hS;have e1:=bI hS l1;have e2:=bI hS l2;have e3:=bI hS ax;have e4:=bI hS ay;clear hS;go_simp
       (first|done|with_reducible rfl)
      try simp only[Act.put,aT,aU,aV])
    iterate 1
     all_goals first
      |refine Rd (rs:=[10]) (by decide +kernel) (by simp) (Rc (aeo rfl) (fun K hK=>?_) Rn)
      |fail
     all_goals first
      |(go_simp
        (with_reducible refine(HC.out _ D).mono ?_);rintro e We ⟨rfl,av⟩;have aw:=D.trans (av.mono D.size);clear D;refine hK.out _ _ aw (fun D=>?_);clear hK K av aw
        try simp only[Act.put,aT,aU,aV])
      |fail
     all_goals
      repeat
       (first|refine aI 0 (v:=?_) rfl ?hy ?_|refine aI 1 (v:=?_) rfl ?hy ?_|refine aI 2 (v:=?_) rfl ?hy ?_|refine aI 3 (v:=?_) rfl ?hy ?_|refine aI 4 (v:=?_) rfl ?hy ?_|refine aI 5 (v:=?_) rfl ?hy ?_|refine aI 6 (v:=?_) rfl ?hy ?_|refine aI 7 (v:=?_) rfl ?hy ?_|refine aI 8 (v:=?_) rfl ?hy ?_|refine aI 9 (v:=?_) rfl ?hy ?_|refine aI 11 (v:=?_) rfl ?hy ?_
        case hy=>
         intro w0 hS;have e1:=bI hS l1;have e2:=bI hS l2;have e3:=bI hS ax;have e4:=bI hS ay;clear hS;go_simp
         (first|done|with_reducible rfl)
        try simp only[Act.put,aT,aU,aV])
    all_goals refine wpAnyH_done (by decide +kernel) ?_ _
    all_goals
     go_wp2_with fail
     go_round
     case rel=>exact⟨k+1,by omega,by go_num,lK.trans (D.mono lK.size)⟩
     case measure=>simp[intOf];omega
   ·have a8:k=n:=by omega
    subst a8;have ba:¬(k:Int)<(k:Int):=by omega
    have oW:=Hd I;clear G I Z1 Z2;go_wp2_with fail;rw[HF];exact⟨rfl,oW⟩
theorem YU:∀(N:Nat) (t:Fm) (J:Option Addr) (O:Nat) (A1:Option Addr) (c1:Nat) (eD:Option Addr) (eF:Nat) (A2:Option Addr) (c2:Nat) (w:World),t.size≤N→pO w J O A1 c1 t→pO w eD eF A2 c2 t→Calls Tryz.prog 18 #[t.val J O A1 c1,t.val eD eF A2 c2] w (EA w):=by
 intro N
 induction N with
 |zero=>intro t J O A1 c1 eD eF A2 c2 w hN;cases t;rw[Fm.size]at hN;omega
 |succ N ih=>
  intro t J O A1 c1 eD eF A2 c2 w hN aa ab;have Iy:=Hd hN;have hsz:t.size=1+Fm.aA t.kids:=by cases t;rw[Fm.size];rfl
  have mg:=Hd hsz;obtain⟨F,HF⟩:=ak (EA w);rw[←HF];unfold Fm.val;obtain⟨n,hn⟩:=aj t.kids.length;obtain⟨m1,hm⟩:=aj t.tm.kids.length;obtain⟨m2,bp⟩:=aj m1;have af:=aa.cap;have ag:=ab.cap;have Bb:=aa.bU;have Bc:=ab.bU;unfold maxLen at Bb Bc;have xO:=Hd aa.kids;have J8:=Hd ab.kids;rw[←hn]at af ag;obtain⟨b1,hb1⟩:=aj w.heap.size;obtain⟨w1,hw1⟩:=aj (w.alloc (.cells #[.int .i64 t.op,.int .i64 t.tm.op,.int .i64 t.tm.num,.string t.tm.name,.slice J m1 O,.slice A1 n c1] 67));obtain⟨b2,a7⟩:=aj (b1+1);obtain⟨w2,Y⟩:=aj (w1.alloc (.cells #[.int .i64 t.op,.int .i64 t.tm.op,.int .i64 t.tm.num,.string t.tm.name,.slice eD m1 eF,.slice A2 n c2] 67));have br:=sAl hw1;have bu:=sAl Y;have X1:=kX (dz Y) (jZ hw1 hb1);have X2:=jZ Y (show b2=w1.heap.size by omega);have ai:=Hd (Below.trans (dz hw1) ((dz Y).mono (show w.heap.size≤w1.heap.size by omega)));have aJ:=Hd hw1;have aP:=Hd Y;have bm:=Hd hb1;have aE:=Hd a7;have HN:=Hd hn;have ao:=Hd (show w.heap.size≤w2.heap.size by omega)
  have aF:Hid (∀W,Below w.heap.size w W→Calls Tryz.prog 53 #[.agg #[.int .i64 t.tm.op,.int .i64 t.tm.num,.string t.tm.name,.slice J m1 O],.agg #[.int .i64 t.tm.op,.int .i64 t.tm.num,.string t.tm.name,.slice eD m1 eF]] W (EA W)):=fun W hb=>by
   have h:=Uw t.tm.size t.tm J O eD eF W (lr _) (aa.tm.below hb rfl) (ab.tm.below hb rfl);unfold Tm.val at h;rw[←hm]at h;exact h
  rw[←hn,←hm];clear hm bp m2 hsz hN hb1 a7 hw1 Y br bu hn aa ab;obtain⟨u0,u1,u2,u3,u4,u5,-⟩:=q6 X1;obtain⟨v0,v1,v2,v3,v4,v5,-⟩:=q6 X2;have l1:=lH X1;have l2:=lH X2;have hne:b1≠b2:=by have:=aE.out;omega
  go_in;go_wp2_with fail;rw[←aJ,←bm];try go_wp2_with fail
  try rw[←aP,←aE]
  (try go_wp2_with fail);refine(aF _ ai).mono ?_;rintro e w3 ⟨rfl,ae⟩;replace ai:=Hd (ai.trans (ae.mono ao));replace X1:=kX ae X1;replace X2:=kX ae X2;replace ao:=Hd (Nat.le_trans ao ae.size);clear ae u0 u1 u2 u3 u4 u5 v0 v1 v2 v3 v4 v5 l1 l2 aF aJ aP;obtain⟨u0,u1,u2,u3,u4,u5,-⟩:=q6 X1;obtain⟨v0,v1,v2,v3,v4,v5,-⟩:=q6 X2;have l1:=lH X1;have l2:=lH X2;go_wp2_with fail;clear u0 u1 u2 u3 u4 u5 v0 v1 v2 v3 v4 v5 l1 l2
  go_loopw [5] (fun si wr=>∃k:Nat,k≤n∧si=.int .i64 k∧Below w3.heap.size w3 wr) (fun i _=>n-(intOf i).toNat)
  case atStart=>exact⟨0,zl _,rfl,Br _ _⟩
  case round=>
   obtain⟨k,hk,rfl,G⟩:=hrel;have Z1:=kX G X1;have Z2:=kX G X2;have I:Below w.heap.size w wr:=ai.trans (G.mono ao);have bZ:=pG Z1 5 rfl;have b0:=pG Z2 5 rfl;have l1:=lH Z1;have l2:=lH Z2
   by_cases bW:k<n
   ·obtain⟨q,hq⟩:∃q,t.kids[k]?=some q:=⟨_,gG (by have:=HN.out;omega)⟩
    rcases xO.out with h9|⟨g1,o1,rfl,ar,bf⟩
    ·rw[h9]at hq;simp at hq
    rcases J8.out with h9|⟨g2,o2,rfl,av,bg⟩
    ·rw[h9]at hq;simp at hq
    obtain⟨bv,M8,bw,Uv,ay,aQ,B1,d1,bi,bj,hv1⟩:=((bf.get hq).below I rfl ar).open;rw[Nat.mul_comm 6 k]at bv M8 bw Uv bi bj;have bb:g1<wr.heap.size:=lL ar I.size;obtain⟨bz,bC,bE,bJ,az,aS,B2,d2,bk,bl,bh⟩:=((bg.get hq).below I rfl av).open;rw[Nat.mul_comm 6 k]at bz bC bE bJ bk bl;have bd:g2<wr.heap.size:=lL av I.size;obtain⟨nq,ax⟩:=aj q.kids.length;obtain⟨me,aw⟩:=aj q.tm.kids.length;rw[←aw]at bi bk
    have HC:Hid (∀W,Below wr.heap.size wr W→Calls Tryz.prog 18 #[.agg #[.int .i64 q.op,.int .i64 q.tm.op,.int .i64 q.tm.num,.string q.tm.name,.slice ay me aQ,.slice B1 nq d1],.agg #[.int .i64 q.op,.int .i64 q.tm.op,.int .i64 q.tm.num,.string q.tm.name,.slice az me aS,.slice B2 nq d2]] W (EA W)):=fun W hb=>by
     have h:=ih q ay aQ B1 d1 az aS B2 d2 W (by have h1:=Fm.aM (mG hq);have:=Iy.out;have:=mg.out;omega) (hv1.below hb rfl) (bh.below hb rfl);unfold Fm.val at h;rw[←ax,←aw]at h;exact h
    rw[←ax]at bj bl;have oW:=Hd I;have lK:=Hd G;have bL:(0:Int)≤(k:Int):=by omega
    have bP:(k:Int)<(n:Int):=by omega
    clear ax aw hq hv1 bh bf bg ar av G I Z1 Z2;go_wp2_with fail;refine wp_region_held_drew (S:=fun W=>Below wr.heap.size wr W) (by kernel_rfl) (Br _ _).drew (fun D=>?_);obtain⟨Wc,a6⟩:=aj wr.drew;rw[←a6]at D⊢;clear a6
    repeat
     (first|refine aI 0 (v:=?_) rfl ?hy ?_|refine aI 1 (v:=?_) rfl ?hy ?_|refine aI 2 (v:=?_) rfl ?hy ?_|refine aI 3 (v:=?_) rfl ?hy ?_|refine aI 4 (v:=?_) rfl ?hy ?_|refine aI 5 (v:=?_) rfl ?hy ?_|refine aI 6 (v:=?_) rfl ?hy ?_|refine aI 7 (v:=?_) rfl ?hy ?_|refine aI 8 (v:=?_) rfl ?hy ?_|refine aI 9 (v:=?_) rfl ?hy ?_|refine aI 11 (v:=?_) rfl ?hy ?_
      case hy=>
       intro w0 hS;have e1:=bI hS l1;have e2:=bI hS l2;have e3:=bI hS bb;have e4:=bI hS bd;clear hS;go_simp
       (first|done|with_reducible rfl)
      try simp only[Act.put,aT,aU,aV])
    iterate 1
     all_goals first
      |refine Rd (rs:=[10]) (by decide +kernel) (by simp) (Rc (aeo rfl) (fun K hK=>?_) Rn)
      |fail
     all_goals first
      |(go_simp
        (with_reducible refine(HC.out _ D).mono ?_);rintro e We ⟨rfl,a8⟩;have ba:=D.trans (a8.mono D.size);clear D;refine hK.out _ _ ba (fun D=>?_);clear hK K a8 ba
        try simp only[Act.put,aT,aU,aV])
      |fail
     all_goals
      repeat
       (first|refine aI 0 (v:=?_) rfl ?hy ?_|refine aI 1 (v:=?_) rfl ?hy ?_|refine aI 2 (v:=?_) rfl ?hy ?_|refine aI 3 (v:=?_) rfl ?hy ?_|refine aI 4 (v:=?_) rfl ?hy ?_|refine aI 5 (v:=?_) rfl ?hy ?_|refine aI 6 (v:=?_) rfl ?hy ?_|refine aI 7 (v:=?_) rfl ?hy ?_|refine aI 8 (v:=?_) rfl ?hy ?_|refine aI 9 (v:=?_) rfl ?hy ?_|refine aI 11 (v:=?_) rfl ?hy ?_
        case hy=>
         intro w0 hS;have e1:=bI hS l1;have e2:=bI hS l2;have e3:=bI hS bb;have e4:=bI hS bd;clear hS;go_simp
         (first|done|with_reducible rfl)
        try simp only[Act.put,aT,aU,aV])
    all_goals refine wpAnyH_done (by decide +kernel) ?_ _
    all_goals
     go_wp2_with fail
     go_round
     case rel=>exact⟨k+1,by omega,by go_num,lK.trans (D.mono lK.size)⟩
     case measure=>simp[intOf];omega
   ·have bn:k=n:=by omega
    subst bn;have bo:¬(k:Int)<(k:Int):=by omega
    have oW:=Hd I;clear G I Z1 Z2;go_wp2_with fail;rw[HF];exact⟨rfl,oW⟩
end Go.Proofs.YtkhoeoilamddaaaGreatDoor
