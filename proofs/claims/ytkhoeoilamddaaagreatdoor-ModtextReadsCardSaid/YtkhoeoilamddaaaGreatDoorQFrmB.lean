/- Walks and plain words: FrmB ParQ AllP ParS. -/
import Derived.Test.YtkhoeoilamddaaaGreatDoorQTrmI
namespace Go.Proofs.YtkhoeoilamddaaaGreatDoor
open Go.RowKit
set_option linter.unusedVariables false
set_option maxRecDepth 100000
set_option maxHeartbeats 4000000
set_option linter.unusedSectionVars false
theorem Fm.wG:∀(l:List Fm),l.length≤Fm.aA l
 |[]=>zl _
 |t::r=>by
  have:=Fm.wG r;cases t;rw[Fm.aA,Fm.size,List.length_cons];omega
mutual
def Fm.bT:Fm→Nat
 |.mk _ e l=>1+e.size+Fm.iK l
def Fm.iK:List Fm→Nat
 |[]=>0
 |t::r=>t.bT+Fm.iK r
end
theorem Fm.Fq:∀{l:List Fm} {t:Fm},t∈l→t.bT≤Fm.iK l
 |x::r,t,h=>by
  rcases List.mem_cons.1 h with rfl|h
  ·rw[Fm.iK];omega
  ·have:=Fm.Fq h;rw[Fm.iK];omega
theorem Fm.bK(t:Fm):t.tm.size≤t.bT∧∀k∈t.kids,k.bT≤t.bT:=by
 cases t with
 |mk o e l=>
  rw[Fm.bT];refine⟨by show e.size≤_;omega,fun k D=>?_⟩;have:=Fm.Fq (show k∈l from D);omega
mutual
theorem Fm.size_le:∀t:Fm,t.size≤t.bT
 |.mk o e l=>by
  have:=Fm.Tz l;rw[Fm.size,Fm.bT];omega
theorem Fm.Tz:∀l:List Fm,Fm.aA l≤Fm.iK l
 |[]=>by rw[Fm.aA];omega
 |t::r=>by
  have h1:=Fm.size_le t;have h2:=Fm.Tz r;rw[Fm.aA,Fm.iK];omega
end
structure TD(K:Nat)(cap:Array Value)(B:Nat)(w0:World){σ:Type}(Inv Fin:σ→World→Prop)(step:σ→Fm→Nat→σ×Bool)(room:σ→Nat):Prop where
 enter:∀args w,(callFunc K args).run Tryz.prog w=.ok (.enter K args) w
 fin:∀s w,Inv s w→Fin s w
 keep:∀s w w',Inv s w→Below w.heap.size w w'→Inv s w'
 lose:∀s t d,room s≤room (step s t d).1+1
 call:∀s t (d:Nat) Ae ce A c w,Inv s w→Below B w0 w→pO w0 Ae ce A c t→d≤10000000→0<room s→t.bT≤9000000→Calls Tryz.prog K #[t.val Ae ce A c,.int .i64 d,cap.getD 0 undef,cap.getD 1 undef] w fun e w'=>e=.returned (.bool (step s t d).2)∧(Fin (step s t d).1 w'∧((step s t d).2=true→Inv (step s t d).1 w'))∧KT 67 B w w'
section
variable {σ:Type} {step:σ→Fm→Nat→σ×Bool} {room:σ→Nat} (hl:∀s t d,room s≤room (step s t d).1+1)
include hl
mutual
theorem Mc:∀(t:Fm) (d:Nat) (s:σ),room s≤room (nL step t d s).1+t.size
 |.mk o n l,d,s=>by
  rw[Gx,Fm.size];have h1:=hl s (.mk o n l) d
  split
  ·have h2:=Me l (d+1) (step s (.mk o n l) d).1;show _≤room (nM step l (d+1) _).1+_;omega
  ·show _≤room (step s (.mk o n l) d).1+_;omega
theorem Me:∀(l:List Fm) (d:Nat) (s:σ),room s≤room (nM step l d s).1+Fm.aA l
 |[],d,s=>by rw[nM,Fm.aA];exact lr _
 |t::r,d,s=>by
  have h1:=Mc t d s;rw[nM,Fm.aA]
  cases hw:nL step t d s with
  |mk y b=>
   rw[hw]at h1;simp only at h1
   cases b with
   |false=>simp only;omega
   |true=>
    have h2:=Me r d y;simp only;omega
end
end
theorem Fm.Fp{l:List Fm}{k:Nat}{t:Fm}(h:l[k]?=some t):Fm.aA (l.drop k)=t.size+Fm.aA (l.drop (k+1)):=by
 obtain⟨G,D⟩:=gE.1 h;rw[List.drop_eq_getElem_cons G,D,Fm.aA]
theorem adb{K:Nat}{c0 c1:Value}{B:Nat}{w0:World}{σ:Type}{Inv Fin:σ→World→Prop}{step:σ→Fm→Nat→σ×Bool}{room:σ→Nat}(V:TD K #[c0,c1] B w0 Inv Fin step room)(hB:B=w0.heap.size) :
 ∀(N:Nat)(t:Fm)(d:Nat)(Ae:Option Addr)(ce:Nat)(A:Option Addr)(c:Nat)(s:σ)(w:World),t.size≤N→d+t.size≤10000000→t.bT≤9000000→t.size≤room s→pO w0 Ae ce A c t→Inv s w→Below B w0 w →
 Calls Tryz.prog 98 #[t.val Ae ce A c,.int .i64 d,.func (.func K) #[] #[c0,c1]] w fun e w'=>e=.returned (.bool (nL step t d s).2)∧(Fin (nL step t d s).1 w'∧((nL step t d s).2=true→Inv (nL step t d s).1 w'))∧KT 67 B w w':=by
 intro N
 induction N with
 |zero=>
  intro t d Ae ce A c s w hN;cases t;rw[Fm.size]at hN;omega
 |succ N ih=>
  intro t d Ae ce A c s w hN hd bv ai hV hI O;have br:=V.enter;have bl:=Hd ih;have HV:=Hd hV;have nH:=Hd O;obtain⟨wb,I⟩:=aj (w.alloc (.cells #[.int .i64 t.op,.int .i64 t.tm.op,.int .i64 t.tm.num,.string t.tm.name,.slice Ae t.tm.kids.length ce,.slice A t.kids.length c] 67));have hb1:=dz I;have ab:=V.keep s w wb hI hb1;have bb:B≤w.heap.size:=by rw[hB];exact O.size
  have JM:Below B w0 wb:=O.trans (hb1.mono bb);have bu:1≤t.size:=by cases t;rw[Fm.size];omega
  have D:Calls Tryz.prog K #[.agg #[.int .i64 t.op,.int .i64 t.tm.op,.int .i64 t.tm.num,.string t.tm.name,.slice Ae t.tm.kids.length ce,.slice A t.kids.length c],.int .i64 d,c0,c1] wb fun e w'=>e=.returned (.bool (step s t d).2)∧(Fin (step s t d).1 w'∧((step s t d).2=true→Inv (step s t d).1 w'))∧KT 67 B wb w':=V.call s t d Ae ce A c wb ab JM hV (by omega) (by omega) bv;have QD:t.size-1≤room (step s t d).1:=by have:=V.lose s t d;omega
  have cB:Fm.aA t.kids=t.size-1:=by cases t;rw[Fm.size];simp only[Fm.kids];omega
  have bd:wb.heap[w.heap.size]?=some (.cells #[.int .i64 t.op,.int .i64 t.tm.op,.int .i64 t.tm.num,.string t.tm.name,.slice Ae t.tm.kids.length ce,.slice A t.kids.length c] 67 (0,0)):=by rw[I];exact eu w _
  have bh:wb.heap.size=w.heap.size+1:=by rw[I];simp
  have qH:=Hd bd;have p9:=Hd bh;have bw:=Hd hb1;have bz:=Hd JM;have Y:=Hd (Gx step t d s);obtain⟨s1,bg⟩:=aj (step s t d);obtain⟨r,hr⟩:=aj (nL step t d s);rw[←bg]at D Y QD;rw[←cB]at QD;rw[←hr]at Y;rw[←hr];rw[I]at D;have HC:=Hd D;have bk:Hid (KT 67 B w wb):=KT.of_below hb1 bb;obtain⟨n,hn⟩:=aj t.kids.length;have HN:=Hd hn;have ax:=hV.cap;have aQ:=hV.bU;unfold maxLen at aQ
  have bW:n≤10000000:=by
   have:t.kids.length≤Fm.aA t.kids:=Fm.wG t.kids;omega
  have bm:=Hd hV.kids
  have mg:Hid (∀k∈t.kids,k.size≤N∧d+1+k.size≤10000000∧k.bT≤9000000):=fun k hk=>by
   have h1:=Fm.aM hk;have h2:=(Fm.bK t).2 k hk;omega
  have a6:=Hd QD;unfold Fm.val;rw[←hn]at qH HC ax I⊢;have jy:=Hd I;have qY:=Hd hB;clear hB ih hV O D hI ab hb1 JM I bd bh bg hr hn hN QD ai cB bu;go_in;go_wp2_with fail;refine HC.mono ?_;rintro e w1 ⟨rfl,ab,ag⟩;rw[←jy]at ag;have ao:=Hd ab;have az:=ag.below.size
  have x3:w1.cell? ⟨w.heap.size,5,none⟩=some (.slice A n c):=by
   have h9:=(ag.keep _ _ _ qH).trans qH;rw[cR w1 w.heap.size 5 _ _ (0,0) h9];rfl
  have wH:Hid (KT 67 B w w1):=bk.trans ag;have ay:w.heap.size<w1.heap.size:=by have:=p9.out;omega
  clear ab ag az;obtain⟨y,b⟩:=s1
  cases b with
  |false=>
   simp only at ao;simp only[Bool.false_eq_true,if_false]at Y;go_wp2_with fail;go_ret;rw[Y];exact⟨rfl,⟨ao.1,fun h=>by cases h⟩,wH⟩
  |true=>
   simp only at ao a6;simp only[if_true]at Y;go_wp2_with fail
   go_loopw [17] (fun si wr=>∃(k:Nat)(x:σ),k≤n∧si=.int .i64 k∧Inv x wr∧KT 67 B w wr∧w.heap.size<wr.heap.size∧Fm.aA (t.kids.drop k)≤room x∧nM step (t.kids.drop k) (d+1) x=r) (fun i _=>n-(intOf i).toNat)
   case atStart=>exact⟨0,y,zl _,rfl,ao.2 (by first|rfl|trivial),wH,ay,a6,Y.symm⟩
   case round=>
    obtain⟨k,x,hk,rfl,hI,ho,bL,bf,bi⟩:=hrel;have HI:=Hd hI;have HO:=Hd ho;have Ww:=Hd bi;have aP:=Hd bf;have nR:=ho.below.size;clear hI ho bi bf
    by_cases bP:k<n
    ·obtain⟨J,G⟩:∃J,t.kids[k]?=some J:=⟨_,gG (by have:=HN.out;omega)⟩;have af:J∈t.kids:=mG G
     rcases bm.out with h9|⟨g,off,rfl,hg,hrow⟩
     ·rw[h9]at G;simp at G
     obtain⟨q0,q1,q2,q3,eD,eF,A2,c2,q4,q5,ba⟩:=(hrow.get G).open;have aw:Below B w0 wr:=nH.trans HO.below;have bn:g<B:=by rw[qY];exact hg
     rw[←aw.cell (p:=⟨g,_,none⟩) bn]at q0 q1 q2 q3 q4 q5;have bC:g<wr.heap.size:=by omega
     obtain⟨n2,kU⟩:=ak J.kids.length;rw[←kU]at q5;have kJ:=Hd aw;have jm:=Hd ba
     have bj:Hid (t.kids.drop k=J::t.kids.drop (k+1)):=by
      obtain⟨hj,bo⟩:=gE.1 G;show _=_;rw[List.drop_eq_getElem_cons hj,bo]
     have Gq:=Hd (Fm.Fp G);have av:=Hd (mg J af);have bE:(0:Int)≤(k:Int):=by omega
     have bp:(k:Int)<(n:Int):=by omega
     have e1:off+6*k=off+k*6:=by omega
     rw[e1]at q0 q1 q2 q3 q4 q5;clear G af hrow aw ba e1;obtain⟨wk,aE⟩:=aj (wr.alloc (.cells #[.int .i64 J.op,.int .i64 J.tm.op,.int .i64 J.tm.num,.string J.tm.name,.slice eD J.tm.kids.length eF,.slice A2 n2 c2] 67));have ae:=dz aE;have a7:B≤wr.heap.size:=by omega
     have b0:w.heap.size<wk.heap.size:=by have:=ae.size;omega
     have hok:KT 67 B w wk:=HO.jV ae (by omega) a7;have aa:=bl J (d+1) eD eF A2 c2 x wk av.1 av.2.1 av.2.2 (by have h1:=aP.out;rw[Gq]at h1;omega) jm (V.keep x wr wk HI ae) (kJ.trans (ae.mono a7))
     have aJ:Hid (Fm.aA (t.kids.drop (k+1))≤room (nL step J (d+1) x).1):=by
      have h1:=aP.out;rw[Gq]at h1;have h2:=Mc V.lose J (d+1) x;show _≤_;omega
     rw[show((d+1:Nat):Int)=(d:Int)+1 from by omega]at aa;unfold Fm.val at aa;rw[←kU]at aa;obtain⟨z,HZ⟩:=ak (nL step J (d+1) x);rw[←HZ]at aa aJ;have qm:=Hd aa;have yj:=Hd aE;have BQ:=Hd hok;rw[yj]at qm;clear aa aE ae hok;go_wp2_with fail;refine qm.mono ?_;rintro e w2 ⟨rfl,a8,ar⟩;rw[←yj]at ar;have bZ:=ar.below.size;have aF:=Hd a8;have Ah:=Hd (BQ.trans ar);clear a8 ar;obtain⟨y2,b2⟩:=z
     have aS:Hid (nM step (t.kids.drop k) (d+1) x=if b2=true then nM step (t.kids.drop (k+1)) (d+1) y2 else(y2,false)):=by
      show _=_;rw[bj,nM,←HZ];cases b2<;>rfl
     cases b2 with
     |false=>
      have HR:Hid (r=(y2,false)):=by show _=_;rw[←Ww,aS];rfl
      go_wp2_with fail;go_ret;rw[HR];exact⟨rfl,⟨aF.1,fun h=>by cases h⟩,Ah⟩
     |true=>
      go_wp2_with fail
      go_roundw
      case rel=>exact⟨k+1,y2,by omega,by go_num,aF.2 (by first|rfl|trivial),Ah,by omega,aJ,by rw[←Ww,aS];rfl⟩
      case measure=>first|(simp[intOf];done)|(simp[intOf];omega)
    ·have bJ:k=n:=by omega
     have HR:Hid (r=(x,true)):=by
      show _=_;rw[←Ww,List.drop_eq_nil_of_le (by have:=HN.out;omega)]
      rfl
     have bp:¬(k:Int)<(n:Int):=by omega
     go_wp2_with fail;go_ret;rw[HR];exact⟨rfl,⟨V.fin _ _ HI,fun _=>HI⟩,HO⟩
def sD(l:List Tok)(k:Nat):Nat:=((l.take k).map fun t=>t.text.length+1).sum
theorem Gy{l:List Tok}{k:Nat}{t:Tok}(h:l[k]?=some t):sD l (k+1)=sD l k+(t.text.length+1):=by
 unfold sD;obtain⟨h1,h2⟩:=gE.1 h;rw[List.take_succ_eq_append_getElem h1,h2];simp
mutual
def vo:Tm→Nat
 |.mk op n s l=>if op=1 then 4 else if op=2 then 5 else if op=3 then s.size else if op=4 then s.size+6 else if op=5 then 3+mD l else if op=18 then 20+mD l else 2+mD l+(l.length-1)*((iy op).length+2)
def mD:List Tm→Nat
 |[]=>0
 |t::r=>vo t+mD r
end
theorem Ph:∀(a b:List Tm),mD (a++b)=mD a+mD b
 |[],b=>by simp[mD]
 |t::r,b=>by rw[List.cons_append,mD,mD,Ph r b];omega
theorem Pj:∀(a b:List Tm),Tm.aA (a++b)=Tm.aA a+Tm.aA b
 |[],b=>by simp[Tm.aA]
 |t::r,b=>by rw[List.cons_append,Tm.aA,Tm.aA,Pj r b];omega
theorem Pk:∀(a b:List Tm),j_ (a++b)=(j_ a&&j_ b)
 |[],b=>by simp[j_]
 |t::r,b=>by rw[List.cons_append,j_,j_,Pk r b,Bool.and_assoc]
def Gz(l:List Tok):Prop:=∀t∈l,t.kind=2→isName t.text=true
structure Gd(l:List Tok)(i:Nat)(t:Tm)(j:Nat):Prop where
 ij:i<j
 jl:j≤l.length
 sz:t.size≤j-i
 len:vo t+4*sD l i≤4*sD l j
 told:Gz l→iW t=true
def wu(l:List Tok)(P:jN):Prop:=∀i t j,P i=.ok t j→Gd l i t j
section
variable {l:List Tok} {i j:Nat}
theorem dW{k:Int}{s:Bs}(h:ah l i k s=true):i<l.length∧sD l (i+1)=sD l i+(s.length+1):=by
 unfold ah at h
 cases ht:l[i]? with
 |none=>rw[ht]at h;cases h
 |some t=>
  rw[ht]at h;simp at h;exact⟨(gE.1 ht).1,by rw[Gy ht,h.2]⟩
theorem KJ{k:Int}(h:jd l i k=true):∃t,l[i]?=some t∧t.kind=k∧i<l.length∧sD l (i+1)=sD l i+(t.text.length+1):=by
 unfold jd at h
 cases ht:l[i]? with
 |none=>rw[ht]at h;cases h
 |some t=>
  rw[ht]at h;exact⟨t,rfl,by simpa using h,(gE.1 ht).1,Gy ht⟩
theorem sU:∀{ops:List Int},au l i ops≠0→au l i ops∈ops∧i<l.length∧sD l (i+1)=sD l i+((iy (au l i ops)).length+1)
 |[],h=>absurd rfl h
 |op::r,h=>by
  rw[au]at h⊢
  by_cases hc:(if op=17 then ah l i 3 [109,111,100]else ah l i 4 (iy op))=true
  ·rw[iP hc]
   by_cases D:op=17
   ·rw[iP D]at hc;obtain⟨h1,h2⟩:=dW hc;exact⟨by simp,h1,by rw[h2,D];rfl⟩
   ·rw[iN D]at hc;obtain⟨h1,h2⟩:=dW hc;exact⟨by simp,h1,h2⟩
  ·rw[iN hc]at h⊢;obtain⟨h1,h2,h3⟩:=sU h;exact⟨by simp[h1],h2,h3⟩
theorem then_ok{α β:Type}{r:Rs α}{f:α→Nat→Rs β}{y:β}{j:Nat}(h:r.then f=.ok y j):∃x k,r=.ok x k∧f x k=.ok y j:=by
 cases r with
 |bad a b=>cases h
 |ok x k=>exact⟨x,k,rfl,h⟩
theorem bH{α:Type}{x y:α}{i j:Nat}(h:(Rs.ok x i)=.ok y j):x=y∧i=j:=by cases h;exact⟨rfl,rfl⟩
theorem aby(op:Int):1≤(iy op).length:=by
 unfold iy
 iterate 11 (split;· simp)
 simp
theorem KL{op:Int}{D:List Tm}(h3:op≠3)(G:op≠4)(h:(op=6∨op=7)→D.length≠1)(I:j_ D=true):iW (dD op D)=true:=by
 unfold dD;rw[iW,iN (fun e=>h e.1 e.2),iN (fun e=>e.elim h3 G)];exact I
theorem QL{op:Int}{t u:Tm}{k m:Nat}(J:7<op∧op<18)(h1:Gd l i t k)(hw:sD l (k+1)=sD l k+((iy op).length+1))(h2:Gd l (k+1) u m):Gd l i (dD op [t,u]) m:=by
 have a1:=h1.ij;have a2:=h1.sz;have a3:=h1.len;have D:=h2.ij;have G:=h2.sz;have I:=h2.len;have hs:=aby op;refine⟨by omega,h2.jl,?_,?_,fun hn=>KL (by omega) (by omega) (fun e=>by omega) (by simp[j_,h1.told hn,h2.told hn])⟩
 ·unfold dD;simp[Tm.size,Tm.aA];omega
 ·unfold dD;rw[vo,iN (by omega),iN (by omega),iN (by omega),iN (by omega),iN (by omega),iN (by omega)];simp[mD];omega
end
theorem KM{l:List Tok}{one:jN}{ops:List Int}(D:∀op∈ops,7<op∧op<18)(h:wu l one):wu l (left l one ops):=by
 have key:∀fuel i t j u m,Gd l i t j→jK l one ops fuel t j=.ok u m→Gd l i u m:=by
  intro fuel
  induction fuel with
  |zero=>intro i t j u m G he;rw[jK]at he;obtain⟨rfl,rfl⟩:=bH he;exact G
  |succ n J=>
   intro i t j u m G he;rw[jK]at he
   by_cases I:au l j ops=0
   ·rw[iP I]at he;obtain⟨rfl,rfl⟩:=bH he;exact G
   ·rw[iN I]at he;obtain⟨x,k,h1,h2⟩:=then_ok he;obtain⟨w1,w2,w3⟩:=sU I;exact J i _ k u m (QL (D _ w1) G w3 (h _ _ _ h1)) h2
 intro i t j he;obtain⟨x,k,h1,h2⟩:=then_ok he;exact key _ i x k t j (h _ _ _ h1) h2
structure GdL(l:List Tok)(op:Int)(i:Nat)(acc:List Tm)(j:Nat):Prop where
 ij:i<j
 jl:j≤l.length
 pos:0<acc.length
 sz:Tm.aA acc+(acc.length-1)≤j-i
 len:mD acc+6*(acc.length-1)+4*sD l i≤4*sD l j
 told:Gz l→j_ acc=true
theorem GA{l:List Tok}{one:jN}{op:Int}(ho:op=6∨op=7)(h:wu l one):wu l (many l op one):=by
 have I:(iy op).length=1:=by rcases ho with rfl|rfl<;>rfl
 have G:∀i acc j,GdL l op i acc j→Gd l i (ql op acc) j:=by
  intro i acc j D;have a1:=D.ij;have a2:=D.pos;have a3:=D.sz;have a4:=D.len
  match acc,D with
  |[t],D=>exact⟨D.ij,D.jl,by have:=D.sz;simp[Tm.aA]at this;exact this,by have:=D.len;simp[mD]at this;exact this,fun hn=>by have:=D.told hn;simp[j_]at this;exact this⟩
  |a::b::r,D=>
   refine⟨D.ij,D.jl,?_,?_,fun hn=>KL (by omega) (by omega) (fun _=>by simp) (D.told hn)⟩
   ·have:=D.sz;show(dD op (a::b::r)).size≤_;unfold dD;rw[Tm.size];simp at this⊢;omega
   ·have:=D.len;show vo (dD op (a::b::r))+_≤_;unfold dD;rw[vo,iN (by omega),iN (by omega),iN (by omega),iN (by omega),iN (by omega),iN (by omega),I];simp at this⊢;omega
 have key:∀fuel i acc j u m,GdL l op i acc j→lD l op one fuel acc j=.ok u m→Gd l i u m:=by
  intro fuel
  induction fuel with
  |zero=>intro i acc j u m D he;rw[lD]at he;obtain⟨rfl,rfl⟩:=bH he;exact G _ _ _ D
  |succ n ih=>
   intro i acc j u m D he;rw[lD]at he
   by_cases J:au l j [op]=0
   ·rw[iP J]at he;obtain⟨rfl,rfl⟩:=bH he;exact G _ _ _ D
   ·rw[iN J]at he;obtain⟨x,k,h1,h2⟩:=then_ok he;obtain⟨w1,w2,w3⟩:=sU J;have w4:au l j [op]=op:=by simpa using w1
    rw[w4,I]at w3;have hx:=h _ _ _ h1;have b1:=hx.ij;have O:=hx.sz;have Y:=hx.len;have a1:=D.ij;have a2:=D.pos;have a3:=D.sz;have a4:=D.len;refine ih i _ k u m ⟨by omega,hx.jl,by simp,?_,?_,fun hn=>by rw[Pk,D.told hn];simp[j_,hx.told hn]⟩ h2
    ·rw[Pj,List.length_append];simp[Tm.aA];omega
    ·rw[Ph,List.length_append];simp[mD];omega
 intro i t j he;obtain⟨x,k,h1,h2⟩:=then_ok he;have hx:=h _ _ _ h1;have b1:=hx.ij;have O:=hx.sz;have Y:=hx.len;exact key _ i [x] k t j ⟨hx.ij,hx.jl,by simp,by simp[Tm.aA];exact O,by simp[mD];exact Y,fun hn=>by simp[j_,hx.told hn]⟩ h2
def GdS(l:List Tok)(s:Option jN):Prop:=∀p,s=some p→wu l p
theorem zJ{l:List Tok}{s:Option jN}(h:GdS l s){i:Nat}{t:Tm}{j:Nat}(he:inner s i=.ok t j):Gd l (i+1) t j:=by
 unfold inner at he
 cases s with
 |none=>cases he
 |some p=>exact h p rfl _ _ _ he
theorem aaI{l:List Tok}{s:Option jN}(h:GdS l s):wu l (bM l s):=by
 intro i t j he;unfold bM at he
 by_cases h1:ah l i 4 [45]=true
 ·rw[iP h1]at he;obtain⟨a1,a2⟩:=dW h1
  by_cases J:jd l (i+1) 1=true
  ·rw[iP J]at he;obtain⟨rfl,rfl⟩:=bH he;obtain⟨z,-,-,b1,Y⟩:=KJ J;simp at a2;refine⟨by omega,by omega,by simp[j6,Tm.size,Tm.aA],?_,fun _=>by simp[j6,iW,j_]⟩;have hl:vo (j6 (-rC l (i+1)))≤4:=by unfold j6;rw[vo,iP rfl];omega
   show _+4*sD l i≤4*sD l (i+1+1);omega
  ·rw[iN J]at he;cases he
 rw[iN h1]at he
 by_cases h2:ah l i 3 yh=true
 ·rw[iP h2]at he;obtain⟨a1,a2⟩:=dW h2;obtain⟨rfl,rfl⟩:=bH he;have hw:yh.length=4:=rfl;exact⟨by omega,by omega,by simp[jv,Tm.size,Tm.aA],by simp[jv,vo];omega,fun _=>by simp[jv,iW,j_]⟩
 rw[iN h2]at he
 by_cases h3:ah l i 3 rD=true
 ·rw[iP h3]at he;obtain⟨a1,a2⟩:=dW h3;obtain⟨rfl,rfl⟩:=bH he;have hw:rD.length=5:=rfl;exact⟨by omega,by omega,by simp[jv,Tm.size,Tm.aA],by simp[jv,vo];omega,fun _=>by simp[jv,iW,j_]⟩
 rw[iN h3]at he
 by_cases h4:ah l i 3 fE=true
 ·rw[iP h4]at he
  by_cases ho:ah l (i+1) 4 [40]=true
  ·rw[iP ho]at he
   by_cases J:jd l (i+2) 2=true
   ·rw[iP J]at he
    by_cases hc:ah l (i+3) 4 [41]=true
    ·rw[iP hc]at he;obtain⟨rfl,rfl⟩:=bH he;obtain⟨a1,a2⟩:=dW h4;obtain⟨b1,Y⟩:=dW ho;obtain⟨z,O,D,c1,c2⟩:=KJ J;obtain⟨d1,d2⟩:=dW hc;have hw:fE.length=4:=rfl;simp at Y d2;have e1:i+1+1=i+2:=rfl;have e2:i+2+1=i+3:=rfl;have e3:i+3+1=i+4:=rfl;rw[e1]at Y;rw[e2]at c2;rw[e3]at d2;have ht:pJ l (i+2)=z.text:=by unfold pJ;rw[O]
     rw[ht];refine⟨by omega,by omega,by simp[iH,Tm.size,Tm.aA];try omega,?_,fun hn=>?_⟩
     ·have hl:vo (iH 4 z.text)=z.text.length+6:=by unfold iH;rw[vo,iN (by decide),iN (by decide),iN (by decide),iP rfl];show z.text.toArray.size+6=_;simp
      omega
     ·unfold iH;rw[iW,iN (by omega),iP (.inr rfl)];exact hn z (mG O) D
    ·rw[iN hc]at he;cases he
   ·rw[iN J]at he;cases he
  ·rw[iN ho]at he;cases he
 rw[iN h4]at he
 by_cases h5:ah l i 4 [40]=true
 ·rw[iP h5]at he;obtain⟨x,k,e1,e2⟩:=then_ok he
  by_cases hc:ah l k 4 [41]=true
  ·rw[iP hc]at e2;obtain⟨rfl,rfl⟩:=bH e2;have hx:=zJ h e1;obtain⟨a1,a2⟩:=dW h5;obtain⟨d1,d2⟩:=dW hc;have b1:=hx.ij;have Y:=hx.sz;have b3:=hx.len;exact⟨by omega,by omega,by omega,by omega,hx.told⟩
  ·rw[iN hc]at e2;cases e2
 rw[iN h5]at he
 by_cases h6:ah l i 3 wIf=true
 ·rw[iP h6]at he;unfold Gm at he;obtain⟨a,k1,e1,he⟩:=then_ok he
  by_cases G:ah l k1 3 um=true
  ·rw[iP G]at he;obtain⟨b,k2,e2,he⟩:=then_ok he
   by_cases I:ah l k2 3 uo=true
   ·rw[iP I]at he;obtain⟨c,k3,e3,he⟩:=then_ok he;obtain⟨rfl,rfl⟩:=bH he;have ha:=zJ h e1;have hb:=zJ h e2;have hc:=zJ h e3;obtain⟨w1,w2⟩:=dW h6;obtain⟨w3,w4⟩:=dW G;obtain⟨w5,w6⟩:=dW I;have q1:wIf.length=2:=rfl;have q2:um.length=4:=rfl;have q3:uo.length=4:=rfl;have a1:=ha.ij;have a2:=ha.sz;have a3:=ha.len;have b1:=hb.ij;have Y:=hb.sz;have b3:=hb.len;have c1:=hc.ij;have c2:=hc.sz;have c3:=hc.len;refine⟨by omega,hc.jl,by unfold dD;simp[Tm.size,Tm.aA];omega,by unfold dD;simp[vo,mD];omega,fun hn=>KL (by decide) (by decide) (fun _=>by simp) (by simp[j_,ha.told hn,hb.told hn,hc.told hn])⟩
   ·rw[iN I]at he;cases he
  ·rw[iN G]at he;cases he
 rw[iN h6]at he
 by_cases h7:jd l i 2=true
 ·rw[iP h7]at he;obtain⟨z,O,D,c1,c2⟩:=KJ h7;obtain⟨rfl,rfl⟩:=bH he;have ht:pJ l i=z.text:=by unfold pJ;rw[O]
  rw[ht];refine⟨by omega,by omega,by simp[iH,Tm.size,Tm.aA],?_,fun hn=>?_⟩
  ·have hl:vo (iH 3 z.text)=z.text.length:=by unfold iH;rw[vo,iN (by decide),iN (by decide),iP rfl];show z.text.toArray.size=_;simp
   omega
  ·unfold iH;rw[iW,iN (by omega),iP (.inl rfl)];exact hn z (mG O) D
 rw[iN h7]at he
 by_cases h8:jd l i 1=true
 ·rw[iP h8]at he;obtain⟨z,O,D,c1,c2⟩:=KJ h8;obtain⟨rfl,rfl⟩:=bH he;refine⟨by omega,by omega,by simp[j6,Tm.size,Tm.aA],?_,fun _=>by simp[j6,iW,j_]⟩;have hl:vo (j6 (rC l i))≤4:=by unfold j6;rw[vo,iP rfl];omega
  omega
 rw[iN h8]at he;cases he
theorem ade{l:List Tok}{s:Option jN}{or:jN}(h:GdS l s)(G:wu l or):wu l (Gn l s or):=by
 intro i t j he;unfold Gn at he;obtain⟨x,k,e1,he⟩:=then_ok he;have hx:=G _ _ _ e1
 by_cases D:au l k [8]=0
 ·rw[iP D]at he;obtain⟨rfl,rfl⟩:=bH he;exact hx
 ·rw[iN D]at he;obtain⟨u,m,e2,he⟩:=then_ok he;obtain⟨rfl,rfl⟩:=bH he;obtain⟨w1,w2,w3⟩:=sU D;have I:au l k [8]=8:=by simpa using w1
  rw[I]at w3;exact QL (by omega) hx w3 (zJ h e2)
theorem afN{l:List Tok}{imp:jN}(h:wu l imp):wu l (Bu l imp):=by
 intro i t j he;unfold Bu at he;obtain⟨x,k,e1,he⟩:=then_ok he;have hx:=h _ _ _ e1
 by_cases D:au l k [9]=0
 ·rw[iP D]at he;obtain⟨rfl,rfl⟩:=bH he;exact hx
 ·rw[iN D]at he;obtain⟨u,m,e2,he⟩:=then_ok he;obtain⟨rfl,rfl⟩:=bH he;obtain⟨w1,w2,w3⟩:=sU D;have G:au l k [9]=9:=by simpa using w1
  rw[G]at w3;exact QL (by omega) hx w3 (h _ _ _ e2)
theorem adf{l:List Tok}{s:Option jN}{sum:jN}(h:GdS l s)(G:wu l sum):wu l (Kk l s sum):=by
 intro i t j he;unfold Kk at he
 by_cases h1:ah l i 4 [33]=true
 ·rw[iP h1]at he;obtain⟨x,k,e1,he⟩:=then_ok he;obtain⟨rfl,rfl⟩:=bH he;have hx:=zJ h e1;obtain⟨a1,a2⟩:=dW h1;have I:=hx.ij;have J:=hx.sz;have O:=hx.len;simp at a2;refine⟨by omega,hx.jl,by unfold dD;simp[Tm.size,Tm.aA];omega,by unfold dD;simp[vo,mD];omega,fun hn=>KL (by decide) (by decide) (fun e=>by omega) (by simp[j_,hx.told hn])⟩
 rw[iN h1]at he;obtain⟨x,k,e1,he⟩:=then_ok he;have hx:=G _ _ _ e1
 by_cases D:au l k [10,11,12,13]=0
 ·rw[iP D]at he;obtain⟨rfl,rfl⟩:=bH he;exact hx
 ·rw[iN D]at he;obtain⟨u,m,e2,he⟩:=then_ok he;obtain⟨rfl,rfl⟩:=bH he;obtain⟨w1,w2,w3⟩:=sU D;exact QL (by simp at w1;omega) hx w3 (G _ _ _ e2)
structure TF(l:List Tok)(v:p8):Prop where
 term:wu l v.term
 imp:wu l v.imp
 not:wu l v.not
theorem aaJ{l:List Tok}{s:Option p8}(h:∀v,s=some v→TF l v):TF l (QB l s):=by
 have ht:GdS l (s.map p8.term):=fun p hp=>by
  cases s with
  |none=>cases hp
  |some v=>simp at hp;subst hp;exact(h v rfl).term
 have hi:GdS l (s.map p8.imp):=fun p hp=>by
  cases s with
  |none=>cases hp
  |some v=>simp at hp;subst hp;exact(h v rfl).imp
 have hn:GdS l (s.map p8.not):=fun p hp=>by
  cases s with
  |none=>cases hp
  |some v=>simp at hp;subst hp;exact(h v rfl).not
 have G:wu l (Gp l (s.map p8.term)):=KM (fun op I=>by simp at I;omega) (KM (fun op I=>by simp at I;omega) (aaI ht));have D:wu l (EM l s):=adf hn G;have himp:wu l (Ch l s):=ade hi (GA (.inr rfl) (GA (.inl rfl) D));exact⟨afN himp,himp,D⟩
theorem IV(l:List Tok):∀r,TF l (lvl l r)
 |0=>by rw[lvl];exact aaJ (fun v h=>by cases h)
 |r+1=>by rw[lvl];exact aaJ (fun v h=>by cases h;exact IV l r)
structure Mf(t:Tok):Prop where
 pos:0<t.text.length
 n0:0≤t.n
 n1:t.n≤255
 name:t.kind=2→isName t.text=true
theorem WI(l:Bs):(eX l).1≤255:=by
 unfold eX
 split
 ·exact zl _
 ·split
  ·exact zl _
  ·split
   ·exact zl _
   ·show valOf _≤255;omega
theorem zK(p:UInt8→Bool):∀r:Bs,rowLen p (r.take (rowLen p r))=rowLen p r∧(r.take (rowLen p r)).length=rowLen p r
 |[]=>⟨rfl,rfl⟩
 |c::r=>by
  cases h:p c with
  |true=>
   have D:=zK p r;rw[fG h,List.take_succ_cons,fG h,D.1,List.length_cons,D.2];exact⟨rfl,rfl⟩
  |false=>
   rw[nK h];exact⟨rfl,rfl⟩
theorem adg{l:Bs}{k:Int}{n len:Nat}(h:scan l=(k,n,len,0)):n≤255∧(k=2→isName (l.take len)=true):=by
 cases l with
 |nil=>
  rw[Lu]at h;simp only[Prod.mk.injEq]at h;obtain⟨h1,h2,-,-⟩:=h;exact⟨by omega,fun h3=>by omega⟩
 |cons c r=>
  cases hl:dV c
  ·cases hd:isDigit c
   ·rw[Dx hl hd]at h
    cases hs:jC (c::r) gQ 0 with
    |none=>rw[hs]at h;simp at h
    |some i=>
     rw[hs]at h;simp only[Prod.mk.injEq]at h;obtain⟨h1,h2,_,_⟩:=h;exact⟨by omega,fun h3=>by omega⟩
   ·rw[wC hl hd]at h
    split at h
    ·simp only[Prod.mk.injEq]at h;obtain⟨h1,h2,_,_⟩:=h;have:=WI (c::r);exact⟨by omega,fun h3=>by omega⟩
    ·rename_i he
     simp only[Prod.mk.injEq]at h;obtain⟨-,-,-,I⟩:=h;omega
  ·rw[uh hl]at h;have D:0<rowLen bD (c::r):=by rw[fG (yT hl)];omega
   have hf:=zK bD (c::r)
   split at h
   ·simp at h
   ·rename_i S_
    split at h
    ·simp only[Prod.mk.injEq]at h;obtain⟨h1,h2,_,_⟩:=h;exact⟨by omega,fun h3=>by omega⟩
    ·rename_i hw
     simp only[Prod.mk.injEq]at h;obtain⟨h1,h2,h3,_⟩:=h;refine⟨by omega,fun _=>?_⟩;rw[←h3];unfold isName;have G:(c::r).take (rowLen bD (c::r))≠[]:=fun e=>by rw[e]at hf;have:=hf.2;simp at this;omega
     have e1:((c::r).take (rowLen bD (c::r))).headD 0=c:=by
      cases hr:rowLen bD (c::r)with
      |zero=>omega
      |succ m=>rw[List.take_succ_cons];rfl
     rw[e1,hl,hf.1,hf.2];simp at hw;simp[G,hw];omega
theorem adh{l:Bs}{p:Nat}(hp:p≤l.length)(h:(next l p).2.2=0)(D:(next l p).1.kind≠5):Mf (next l p).1∧p+(next l p).1.text.length≤(next l p).2.1∧(next l p).2.1≤l.length:=by
 have hb:=O6 (l.drop p);rw[List.length_drop]at hb
 have hs:scan (blank (l.drop p))=((scan (blank (l.drop p))).1,(scan (blank (l.drop p))).2.1,(scan (blank (l.drop p))).2.2.1,0):=by
  unfold next at h;simp only at h
  split at h
  ·rename_i he
   rw[←he]
  ·rename_i he
   simp at h;exact absurd h he
 unfold next at D⊢;simp only at D⊢;rw[iP (by rw[hs])]at D⊢;simp only at D⊢;have ht:=adg hs
 rcases QA hs with⟨h1,h2,h3,G⟩|⟨h1,h2,h3⟩
 ·exact absurd h1 D
 ·refine⟨⟨by simp only[List.length_take];omega,by simp,by simp only;omega,ht.2⟩,?_,?_⟩
  ·rw[List.length_take];omega
  ·omega
def xU(l:List Tok):Nat:=(l.map fun t=>t.text.length).sum
theorem aaK:∀(n:Nat) (l:Bs) (p:Nat) (acc:List Tok),p≤l.length→(∀t∈acc,Mf t)→xU acc≤p→(∀t∈(Gi n l p acc).1,Mf t)∧xU (Gi n l p acc).1≤l.length
 |0,l,p,acc,hp,ha,hs=>by
  rw[Gi];exact⟨fun t ht=>by simp at ht,zl _⟩
 |n+1,l,p,acc,hp,ha,hs=>by
  rw[Gi]
  by_cases h:(next l p).2.2=0
  ·rw[iP h]
   by_cases D:(next l p).1.kind=5
   ·rw[iP D];exact⟨ha,by show xU acc≤_;omega⟩
   ·rw[iN D];obtain⟨h1,h2,h3⟩:=adh hp h D;refine aaK n l _ _ h3 (fun t ht=>?_) ?_
    ·rcases List.mem_append.1 ht with ht|ht
     ·exact ha t ht
     ·rw[List.mem_singleton.1 ht];exact h1
    ·unfold xU at hs⊢;simp;omega
  ·rw[iN h];exact⟨fun t ht=>by simp at ht,zl _⟩
theorem WJ(s:Bs):(∀t∈(all s).1,Mf t)∧xU (all s).1≤s.length∧xU (all s).1≤65536:=by
 unfold all
 by_cases h:65536<s.length
 ·rw[iP h];exact⟨fun t ht=>by simp at ht,zl _,zl _⟩
 ·rw[iN h];have hx:=aaK (s.length+1) s 0 [] (zl _) (fun t ht=>by simp at ht) (zl _);exact⟨hx.1,hx.2,by omega⟩
theorem TG:∀{l:List Tok} {t:Tok},t∈l→t.text.length≤xU l
 |x::r,t,h=>by
  unfold xU;rw[List.map_cons,List.sum_cons]
  rcases List.mem_cons.1 h with rfl|h
  ·omega
  ·have:=TG h;unfold xU at this;omega
theorem zL:∀{l:List Tok},(∀t∈l,Mf t)→l.length≤xU l
 |[],_=>zl _
 |x::r,h=>by
  have h1:=(h x (by simp)).pos;have h2:=zL (l:=r) (fun t ht=>h t (by simp[ht]));unfold xU at h2⊢;rw[List.map_cons,List.sum_cons,List.length_cons];omega
def rG(P:jN):Prop:=∀i j e,P i=.bad j e→e≠0
theorem dh{α β:Type}{r:Rs α}{f:α→Nat→Rs β}{j:Nat}{e:Int}(h:r.then f=.bad j e):r=.bad j e∨∃x k,r=.ok x k∧f x k=.bad j e:=by
 cases r with
 |bad a b=>exact .inl (by simpa using h)
 |ok x k=>exact .inr ⟨x,k,rfl,h⟩
theorem jO{α:Type}{i j:Nat}{e f:Int}(h:(Rs.bad i e:Rs α)=.bad j f):e=f:=by cases h;rfl
def NzS(s:Option jN):Prop:=∀p,s=some p→rG p
theorem Co{s:Option jN}(h:NzS s):rG (inner s):=by
 intro i j e he;unfold inner at he
 cases s with
 |none=>have:=jO he;omega
 |some p=>exact h p rfl _ _ _ he
theorem KN{l:List Tok}{one:jN}{ops:List Int}(h:rG one):rG (left l one ops):=by
 have key:∀fuel t i j e,jK l one ops fuel t i=.bad j e→e≠0:=by
  intro fuel
  induction fuel with
  |zero=>intro t i j e he;rw[jK]at he;cases he
  |succ n G=>
   intro t i j e he;rw[jK]at he
   by_cases D:au l i ops=0
   ·rw[iP D]at he;cases he
   ·rw[iN D]at he
    rcases dh he with h1|⟨x,k,-,h1⟩
    ·exact h _ _ _ h1
    ·exact G _ _ _ _ h1
 intro i j e he
 rcases dh he with h1|⟨x,k,-,h1⟩
 ·exact h _ _ _ h1
 ·exact key _ _ _ _ _ h1
theorem GI{l:List Tok}{one:jN}{op:Int}(h:rG one):rG (many l op one):=by
 have key:∀fuel acc i j e,lD l op one fuel acc i=.bad j e→e≠0:=by
  intro fuel
  induction fuel with
  |zero=>intro acc i j e he;rw[lD]at he;cases he
  |succ n G=>
   intro acc i j e he;rw[lD]at he
   by_cases D:au l i [op]=0
   ·rw[iP D]at he;cases he
   ·rw[iN D]at he
    rcases dh he with h1|⟨x,k,-,h1⟩
    ·exact h _ _ _ h1
    ·exact G _ _ _ _ h1
 intro i j e he
 rcases dh he with h1|⟨x,k,-,h1⟩
 ·exact h _ _ _ h1
 ·exact key _ _ _ _ _ h1
theorem aaL{l:List Tok}{s:Option jN}(h:NzS s):rG (bM l s):=by
 have hi:=Co h;intro i j e he;unfold bM at he
 by_cases h1:ah l i 4 [45]=true
 ·rw[iP h1]at he
  split at he
  ·cases he
  ·have:=jO he;omega
 rw[iN h1]at he
 by_cases h2:ah l i 3 yh=true
 ·rw[iP h2]at he;cases he
 rw[iN h2]at he
 by_cases h3:ah l i 3 rD=true
 ·rw[iP h3]at he;cases he
 rw[iN h3]at he
 by_cases D:ah l i 3 fE=true
 ·rw[iP D]at he
  split at he
  ·split at he
   ·split at he
    ·cases he
    ·have:=jO he;omega
   ·have:=jO he;omega
  ·have:=jO he;omega
 rw[iN D]at he
 by_cases h5:ah l i 4 [40]=true
 ·rw[iP h5]at he
  rcases dh he with h1|⟨x,k,-,h1⟩
  ·exact hi _ _ _ h1
  ·split at h1
   ·cases h1
   ·have:=jO h1;omega
 rw[iN h5]at he
 by_cases G:ah l i 3 wIf=true
 ·rw[iP G]at he;unfold Gm at he
  rcases dh he with h1|⟨x,k,-,h1⟩
  ·exact hi _ _ _ h1
  ·split at h1
   ·rcases dh h1 with h1|⟨x,k,-,h1⟩
    ·exact hi _ _ _ h1
    ·split at h1
     ·rcases dh h1 with h1|⟨x,k,-,h1⟩
      ·exact hi _ _ _ h1
      ·cases h1
     ·have:=jO h1;omega
   ·have:=jO h1;omega
 rw[iN G]at he
 by_cases I:jd l i 2=true
 ·rw[iP I]at he;cases he
 rw[iN I]at he
 by_cases J:jd l i 1=true
 ·rw[iP J]at he;cases he
 rw[iN J]at he;have:=jO he;omega
theorem aaM{l:List Tok}{s:Option p8}(h:∀v,s=some v→rG v.term∧rG v.imp∧rG v.not):rG (QB l s).term∧rG (QB l s).imp∧rG (QB l s).not:=by
 have ht:NzS (s.map p8.term):=fun p hp=>by
  cases s with
  |none=>cases hp
  |some v=>simp at hp;subst hp;exact(h v rfl).1
 have hi:NzS (s.map p8.imp):=fun p hp=>by
  cases s with
  |none=>cases hp
  |some v=>simp at hp;subst hp;exact(h v rfl).2.1
 have hn:NzS (s.map p8.not):=fun p hp=>by
  cases s with
  |none=>cases hp
  |some v=>simp at hp;subst hp;exact(h v rfl).2.2
 have G:rG (Gp l (s.map p8.term)):=KN (KN (aaL ht))
 have D:rG (EM l s):=by
  intro i j e he;unfold EM Kk at he
  split at he
  ·rcases dh he with h1|⟨x,k,-,h1⟩
   ·exact Co hn _ _ _ h1
   ·cases h1
  ·rcases dh he with h1|⟨x,k,-,h1⟩
   ·exact G _ _ _ h1
   ·split at h1
    ·cases h1
    ·rcases dh h1 with h1|⟨x,k,-,h1⟩
     ·exact G _ _ _ h1
     ·cases h1
 have himp:rG (Ch l s):=by
  intro i j e he;unfold Ch Gn at he
  rcases dh he with h1|⟨x,k,-,h1⟩
  ·exact GI (GI D) _ _ _ h1
  ·split at h1
   ·cases h1
   ·rcases dh h1 with h1|⟨x,k,-,h1⟩
    ·exact Co hi _ _ _ h1
    ·cases h1
 refine⟨?_,himp,D⟩;intro i j e he;have I:Bu l (Ch l s) i=.bad j e:=he;unfold Bu at I
 rcases dh I with h1|⟨x,k,-,h1⟩
 ·exact himp _ _ _ h1
 ·split at h1
  ·cases h1
  ·rcases dh h1 with h1|⟨x,k,-,h1⟩
   ·exact himp _ _ _ h1
   ·cases h1
theorem Mh(l:List Tok):∀r,rG (lvl l r).term∧rG (lvl l r).imp∧rG (lvl l r).not
 |0=>by rw[lvl];exact aaM (fun v h=>by cases h)
 |r+1=>by rw[lvl];exact aaM (fun v h=>by cases h;exact Mh l r)
end Go.Proofs.YtkhoeoilamddaaaGreatDoor
