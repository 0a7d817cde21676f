/- Walks and plain words: StR StS. -/
import Derived.Test.YtpijlhlpejlhhaaGreatVStQ
namespace Go.Proofs.YtpijlhlpejlhhaaGreat
open Go.RowKit
set_option linter.unusedVariables false
set_option maxRecDepth 100000
set_option maxHeartbeats 8000000
section
/-- The two keys of a node. -/
def Ei(S:Bd.St)(y t:Nat):List (Nat×Nat):=match S.nd t with|some d=>Bd.keysOf S.nd y d|none=>[]
/-- The keys wanted by the first j nodes,and by the first i keys of the next. -/
def dK(S:Bd.St)(x y j i:Nat):List (Nat×Nat):=(((S.turned x y).take j).flatMap (Ei S y)++(Ei S y ((S.turned x y).getD j 0)).take i).foldl (Bd.dF S x) []
section
variable {S:Bd.St} {x y j i:Nat}
theorem Fh(h:(S.turned x y).length≤j):dK S x y j 0=S.wants x y:=by
 unfold dK Bd.St.wants Bd.Ma Ei;rw[List.take_of_length_le h];simp
 rfl
theorem qV:dK S x y 0 0=[]:=by simp[dK]
theorem QF(hd:∃d,S.nd i=some d):(Ei S y i).length=2:=by
 obtain⟨d,hd⟩:=hd;unfold Ei;rw[hd]
 rfl
theorem Di(hj:j<(S.turned x y).length)(hd:∃d,S.nd ((S.turned x y).getD j 0)=some d):dK S x y j 2=dK S x y (j+1) 0:=by
 unfold dK;have h2:=QF (y:=y) hd;have hg:(S.turned x y)[j]?=some ((S.turned x y).getD j 0):=by simp[List.getD,hj]
 rw[show((S.turned x y).take (j+1))=(S.turned x y).take j++[(S.turned x y).getD j 0]from by rw[List.take_add_one,hg];rfl];rw[show(Ei S y ((S.turned x y).getD j 0)).take 2=Ei S y ((S.turned x y).getD j 0)from List.take_of_length_le (by omega)];rw[List.flatMap_append];simp
theorem Dj{k:Nat×Nat}(hk:(Ei S y ((S.turned x y).getD j 0))[i]?=some k):dK S x y j (i+1)=Bd.dF S x (dK S x y j i) k:=by
 unfold dK;rw[List.take_add_one,hk,←List.append_assoc,List.foldl_append]
 rfl
theorem NK:∀(ks l:List (Nat×Nat)),(ks.foldl (Bd.dF S x) l).length≤l.length+ks.length:=by
 intro ks
 induction ks with
 |nil=>intro l;simp
 |cons k ks ih=>
  intro l;simp only[List.foldl_cons,List.length_cons];have h1:=ih (Bd.dF S x l k)
  have h2:(Bd.dF S x l k).length≤l.length+1:=by
   unfold Bd.dF
   split
   ·omega
   ·simp
  omega
theorem qy(f:Nat→List (Nat×Nat))(hf:∀t,(f t).length≤2):∀l:List Nat,(l.flatMap f).length≤2*l.length:=by
 intro l
 induction l with
 |nil=>simp
 |cons a l ih=>
  have:=hf a;simp only[List.flatMap_cons,List.length_append,List.length_cons];omega
theorem Fj:(dK S x y j i).length≤2*j+i:=by
 have h1:=NK (S:=S) (x:=x) (((S.turned x y).take j).flatMap (Ei S y)++(Ei S y ((S.turned x y).getD j 0)).take i) [];have h2:=qy (Ei S y) (fun t=>by unfold Ei;cases S.nd t<;>simp[Bd.keysOf]) ((S.turned x y).take j);have h3:((S.turned x y).take j).length≤j:=by rw[List.length_take];omega
 have h4:((Ei S y ((S.turned x y).getD j 0)).take i).length≤i:=by rw[List.length_take];omega
 unfold dK;simp only[List.length_append,List.length_nil]at h1;omega
end
/-- The set of the keys seen. -/
def kU(l:List (Nat×Nat))(k:Nat×Nat):Option Bool:=if k∈l then some true else none
theorem JX(l:List (Nat×Nat))(k:Nat×Nat):iC (kU l) k (some true)=kU (l++[k]):=by
 funext z
 unfold iC kU
 by_cases e:z=k
 ·subst e;simp
 ·simp[e]
end
section
section
variable {sb n room:Nat} {S:Bd.St} {ah:Nat→Nat} {ord:List Nat} {ext:Nat→Int}
theorem Fp(hs:Bd.SI n room (fun _=>false) ext S)(hrm:room≤1048576)(he:∀i d,S.nd i=some d→d.v<n∧d.lo<4611686018427387904∧d.hi<4611686018427387904)(hnn:n≤1000000)
 (hcf:∀e y,e<4611686018427387904→Bd.aB S.nd e y<4611686018427387904∧Bd.aI S.nd e y<4611686018427387904)
 (K:Nat→Nat) (w:World) (h:dG K w sb n room S ah ord) (x y:Nat) (hx:x<n) {v:Value} (hv:Sl w 233 9 v (S.turned x y).length (fun j=>iA S y ((S.turned x y).getD j 0))) :
 Calls Tryz.prog 165 #[.pointer (some ⟨sb,0,none⟩),.int .i64 (x:Nat),v] w fun r w'=>r=.returned (.int .i64 ((S.wants x y).length:Nat))∧Below w.heap.size w w':=by
 obtain⟨F,HF⟩:=aJ (fun(r:Ending)(w':World)=>r=.returned (.int .i64 ((S.wants x y).length:Nat))∧Below w.heap.size w w');rw[←HF];obtain⟨L,h⟩:=h;obtain⟨N,hN⟩:∃N,N=(S.turned x y).length:=⟨_,rfl⟩;rw[←hN]at hv
 have hNb:N≤1048577:=by
  have h1:(S.turned x y).length≤S.N:=by unfold Bd.St.turned;exact Nat.le_trans (List.length_filter_le _ _) (by simp)
  have:=hs.Nr;omega
 obtain⟨pp,cc,hvv,hrw⟩:∃(pp:Option Addr)(cc:Nat),v=.slice pp N cc∧(0<N→∃g,pp=some ⟨g,0,none⟩∧Rw w 233 9 N cc g (fun j=>iA S y ((S.turned x y).getD j 0))):=by
  rcases hv with⟨f1,f2⟩|⟨g,c,f1,f2⟩
  ·exact⟨none,0,by rw[f1,f2],fun h=>by omega⟩
  ·exact⟨_,c,f1,fun _=>⟨g,rfl,f2⟩⟩
 subst hvv;have hmm:=@run_makeMap Tryz.prog;have HH:=Lib.hid h;have HS:=Lib.hid hs;have HE:=Lib.hid he;have HCF:=Lib.hid hcf;have HN:=Lib.hid hN;have HRW:=Lib.hid hrw;have hm0:=bV.made (t:=Cx) w;have yG:=Lib.hid hm0;have HB0:=Lib.hid ((Below.refl w.heap.size w).alloc (Nat.le_refl _) (.map #[] 0));clear h hs he hcf hN hrw hv hm0;go_in
 go_wp2
 go_loopg [8,10,12,13,14,15,16,17,18,22,23,24,25,26,27,28,29,30,31,32,33,34,35,36,37,38,39,40,41,42,43,44,45,46,47,48,49,50,51,52,53,54,55,56,57,58,59,60,61,62,63,64,65,66,67,68,69,70,71,72,73,74,75,76,77,78,79,80,81,82,83] N (fun k v8 v10 v12 v13 v14 v15 v16 v17 v18 v22 v23 v24 v25 v26 v27 v28 v29 v30 v31 v32 v33 v34 v35 v36 v37 v38 v39 v40 v41 v42 v43 v44 v45 v46 v47 v48 v49 v50 v51 v52 v53 v54 v55 v56 v57 v58 v59 v60 v61 v62 v63 v64 v65 v66 v67 v68 v69 v70 v71 v72 v73 v74 v75 v76 v77 v78 v79 v80 v81 v82 v83 wr=>∃j:Nat,k=N-j∧j≤N∧v22=.int .i64 (j:Nat)∧v8=.int .i64 ((dK S x y j 0).length:Nat)∧Below w.heap.size w wr∧bV Cx wr w.heap.size (dK S x y j 0).length (kU (dK S x y j 0)))
 case atStart=>
  refine⟨0,rfl,Nat.zero_le _,rfl,by rw[qV];rfl,HB0,?_⟩;rw[qV];have:=yG.out;rw[show kU []=fun _=>none from by funext z;unfold kU;simp];exact this
 case round=>
  obtain⟨j,rfl,hj,rfl,rfl,hb,hm⟩:=hrel;have HB:=Lib.hid hb;have HM:=Lib.hid hm;clear hb hm
  by_cases hlt:j<N
  ·obtain⟨g,hpp,hrw⟩:=HRW (by omega);subst hpp;obtain⟨z,hz⟩:∃z,z=(S.turned x y).getD j 0:=⟨_,rfl⟩
   have Wx:z∈S.turned x y:=by
    rw[hz];have:j<(S.turned x y).length:=by rw[←HN];exact hlt
    simp[List.getD,this]
   have hzd:∃d,S.nd z=some d:=by
    unfold Bd.St.turned at Wx;have h1:=(List.mem_filter.1 Wx).2;unfold Bd.tp at h1
    cases hd:S.nd z with
    |none=>rw[hd]at h1;cases h1
    |some d=>exact⟨d,rfl⟩
   obtain⟨d,hd⟩:=hzd;obtain⟨ev,Lu,Lv⟩:=HE z d hd;have hr2:=hrw.kept (HB.block _ hrw.lt)
   have Lx:iA S y z=[.int .i64 (z:Nat),.int .i64 (d.v:Nat),.int .i64 (d.lo:Nat),.int .i64 (d.hi:Nat),.int .i64 (S.refs z:Nat),.int .i64 (Bd.aB S.nd d.lo y:Nat),.int .i64 (Bd.aI S.nd d.lo y:Nat),.int .i64 (Bd.aB S.nd d.hi y:Nat),.int .i64 (Bd.aI S.nd d.hi y:Nat)]:=by
    unfold iA bC;rw[hd]
    rfl
   have z0:=hr2.cell (i:=j) (j:=0) hlt (by omega);have z1:=hr2.cell (i:=j) (j:=1) hlt (by omega);have z2:=hr2.cell (i:=j) (j:=2) hlt (by omega);have z3:=hr2.cell (i:=j) (j:=3) hlt (by omega);have z4:=hr2.cell (i:=j) (j:=4) hlt (by omega);have z5:=hr2.cell (i:=j) (j:=5) hlt (by omega);have z6:=hr2.cell (i:=j) (j:=6) hlt (by omega);have z7:=hr2.cell (i:=j) (j:=7) hlt (by omega);have z8:=hr2.cell (i:=j) (j:=8) hlt (by omega);rw[←hz,Lx]at z0 z1 z2 z3 z4 z5 z6 z7 z8;simp only[List.getElem?_cons_zero,List.getElem?_cons_succ,Nat.add_zero]at z0 z1 z2 z3 z4 z5 z6 z7 z8;have hji:(j:Int)<(N:Int):=by omega
   have HD:=Lib.hid (And.intro hz (And.intro hd ev));have lH:=Lib.hid (And.intro (HCF.out d.lo y Lu) (HCF d.hi y Lv));clear hr2 hrw hz hd Wx Lx;have HKK:=Lib.hid (show Ei S y z=[Bd.norm (Bd.aB S.nd d.lo y) (Bd.aB S.nd d.hi y),Bd.norm (Bd.aI S.nd d.lo y) (Bd.aI S.nd d.hi y)]from by unfold Ei;rw[HD.2.1];rfl)
   generalize Bd.aB S.nd d.lo y=a1 at *
   generalize Bd.aI S.nd d.lo y=a2 at *
   generalize Bd.aB S.nd d.hi y=a3 at *
   generalize Bd.aI S.nd d.hi y=a4 at *
   obtain⟨W1,hW1⟩:∃W1,W1=(wr.alloc (.cells #[.int .i64 (z:Nat),.int .i64 (d.v:Nat),.int .i64 (d.lo:Nat),.int .i64 (d.hi:Nat),.int .i64 (S.refs z:Nat),.int .i64 (a1:Nat),.int .i64 (a2:Nat),.int .i64 (a3:Nat),.int .i64 (a4:Nat)] 233)).alloc (.cells #[.int .i64 (a1:Nat),.int .i64 (a3:Nat),.int .i64 (a2:Nat),.int .i64 (a4:Nat)] 217):=⟨_,rfl⟩;have hb1:Below wr.heap.size wr W1:=by rw[hW1];exact((Below.refl _ _).alloc (Nat.le_refl _) _).alloc (by simp) _
   have hbw:Below w.heap.size w W1:=HB.trans (hb1.mono HB.size);have hm1:=HM.kept (hb1.block _ HM.lt);have hg1:W1.heap[wr.heap.size+1]?=some (.cells #[.int .i64 (a1:Nat),.int .i64 (a3:Nat),.int .i64 (a2:Nat),.int .i64 (a4:Nat)] 217 (0,0)):=by rw[hW1];exact aL (by simp)
   have H1:=Lib.hid (And.intro hbw (And.intro hm1 hg1));have lw1:w.heap.size<wr.heap.size:=HM.lt;clear hb1 hbw hm1 hg1
   go_wp2
   rw[←hW1];clear hW1
   generalize hG:wr.heap.size+1=G at *
   go_loopg [8,12,13,14,15,16,17,18,38,39,40,41,42,43,44,45,46,47,48,49,50,51,52,53,54,55,56,57,58,59,60,61,62,63,64,65,66,67,68,69,70,71,72,73,74,75,76,77,78,79,80,81,82] 2
    (fun k v8 v12 v13 v14 v15 v16 v17 v18 v38 v39 v40 v41 v42 v43 v44 v45 v46 v47 v48 v49 v50 v51 v52 v53 v54 v55 v56 v57 v58 v59 v60 v61 v62 v63 v64 v65 v66 v67 v68 v69 v70 v71 v72 v73 v74 v75 v76 v77 v78 v79 v80 v81 v82 wr2=>∃i:Nat,k=2-i∧i≤2∧v38=.int .i64 (i:Nat)∧v8=.int .i64 ((dK S x y j i).length:Nat)∧Below w.heap.size w wr2∧bV Cx wr2 w.heap.size (dK S x y j i).length (kU (dK S x y j i))∧wr2.heap[G]?=some (.cells #[.int .i64 (a1:Nat),.int .i64 (a3:Nat),.int .i64 (a2:Nat),.int .i64 (a4:Nat)] 217 (0,0)))
   case atStart=>exact⟨0,rfl,by omega,rfl,rfl,H1⟩
   case round=>
    obtain⟨i,rfl,hi,rfl,rfl,hb,hm,hg⟩:=hrel;have HBI:=Lib.hid hb;have HMI:=Lib.hid hm;have HGI:=Lib.hid hg
    by_cases hi2:i<2
    ·obtain⟨c0,c1,w0,w1,hkey,hc0,hc1⟩:∃c0 c1:Nat,wr.cell? ⟨G,i*2,none⟩=some (.int .i64 (c0:Nat))∧wr.cell? ⟨G,i*2+1,none⟩=some (.int .i64 (c1:Nat))∧(Ei S y z)[i]?=some (Bd.norm c0 c1)∧c0<4611686018427387904∧c1<4611686018427387904:=by
      rw[HKK]
      rcases(show i=0∨i=1 by omega)with rfl|rfl
      ·exact⟨a1,a3,au hg 0 rfl,au hg 1 rfl,rfl,lH.1.1,lH.2.1⟩
      ·exact⟨a2,a4,au hg 2 rfl,au hg 3 rfl,rfl,lH.1.2,lH.2.2⟩
     have hstep:=Dj (S:=S) (x:=x) (y:=y) (j:=j) (i:=i) (k:=Bd.norm c0 c1) (by rw[←HD.1];exact hkey);have hii:(i:Int)<2:=by omega
     obtain⟨W2,hW2⟩:∃W2,W2=wr.alloc (.cells #[.int .i64 (c0:Nat),.int .i64 (c1:Nat)] 217):=⟨_,rfl⟩;have hb2:Below wr.heap.size wr W2:=by rw[hW2];exact(Below.refl _ _).alloc (Nat.le_refl _) _
     have hbw:=hb.trans (hb2.mono hb.size);have cN:=sH c0 c1 W2 hc0 hc1;have hn0:Bd.flip c0 (Bd.odd c1)<4611686018427387904:=by have:=Bd.bH c0 (Bd.odd c1);omega
     have hn1:Bd.flip c1 (Bd.odd c1)<4611686018427387904:=by have:=Bd.bH c1 (Bd.odd c1);omega
     have hSt:=HH.below hbw;have cF:=ou (hSt.tab x hx) _ _ hn0 hn1;have t2:W2.cell? ⟨sb,2,none⟩=some (.slice (some ⟨L.kE,0,none⟩) n L.qM):=au hSt.row 2 rfl;have t3:=hSt.tabs.cell (i:=x) (j:=0) hx (by omega);simp only[Nat.mul_one,Nat.add_zero,List.getElem?_cons_zero]at t3;have hxn:(x:Int)<(n:Int):=by omega
     unfold Bd.norm at hstep
     generalize Bd.flip c0 (Bd.odd c1)=n0 at *
     generalize Bd.flip c1 (Bd.odd c1)=n1 at *
     have HST:=Lib.hid (And.intro hstep (And.intro hn0 hn1));have HB2:=Lib.hid hbw;have lG:=aV hg;clear hstep hb hm hg hb2 hbw hSt hkey hn0 hn1;subst hW2;have hbF:Below wr.heap.size wr ((wr.alloc (.cells #[.int .i64 (c0:Nat),.int .i64 (c1:Nat)] 217)).alloc (.cells #[.int .i64 (n0:Nat),.int .i64 (n1:Nat)] 217)):=((Below.refl _ _).alloc (Nat.le_refl _) _).alloc (by simp) _;have hmF:=HMI.kept (hbF.block _ HMI.lt);have SH:=Lib.hid (And.intro (HBI.trans (hbF.mono HBI.size)) (And.intro hmF ((hbF.block _ lG).trans HGI)));have lk:=hmF.qI (x:=(n0,n1)) ⟨HST.2.1,HST.2.2⟩;simp only[Cx,gQ]at lk;have HMF:=Lib.hid hmF;clear hbF hmF
     by_cases hf:n0=n1∨(S.tab x n0 n1).isSome=true∨(n0,n1)∈dK S x y j i
     ·have hsame:dK S x y j (i+1)=dK S x y j i:=by
       rw[HST.1];unfold Bd.dF;exact if_pos hf
      by_cases e1:n0=n1
      ·subst e1;clear lk hf
       go_wp2_with (first|(go_at_call 158;refine cN.mono ?_;rintro r w' ⟨rfl,rfl⟩)|(go_at_call 159;refine cF.mono ?_;rintro r w' ⟨rfl,rfl⟩))
       go_roundg (2-(i+1))
       case rel=>exact⟨i+1,rfl,by omega,by simp,by rw[hsame],by rw[hsame];exact SH⟩
       case measure=>omega
      ·have ne:(((n0:Nat):Int)==((n1:Nat):Int))=false:=by simp;omega
       by_cases e2:(S.tab x n0 n1).isSome=true
       ·rw[e2]at cF;clear lk hf
        go_wp2_with (first|(go_at_call 158;refine cN.mono ?_;rintro r w' ⟨rfl,rfl⟩)|(go_at_call 159;refine cF.mono ?_;rintro r w' ⟨rfl,rfl⟩))
        go_roundg (2-(i+1))
        case rel=>exact⟨i+1,rfl,by omega,by simp,by rw[hsame],by rw[hsame];exact SH⟩
        case measure=>omega
       ·have e3:(S.tab x n0 n1).isSome=false:=by simpa using e2
        have e4:(kU (dK S x y j i) (n0,n1)).getD false=true:=by
         unfold kU;rw[if_pos (hf.resolve_left e1|>.resolve_left e2)]
         rfl
        rw[e3]at cF;rw[e4]at lk;clear hf e2 e3 e4
        go_wp2_with (first|(go_at_call 158;refine cN.mono ?_;rintro r w' ⟨rfl,rfl⟩)|(go_at_call 159;refine cF.mono ?_;rintro r w' ⟨rfl,rfl⟩))
        go_roundg (2-(i+1))
        case rel=>exact⟨i+1,rfl,by omega,by simp,by rw[hsame],by rw[hsame];exact SH⟩
        case measure=>omega
     ·simp only[not_or]at hf;obtain⟨e1,e2,e5⟩:=hf;have ne:(((n0:Nat):Int)==((n1:Nat):Int))=false:=by simp;omega
      have e3:(S.tab x n0 n1).isSome=false:=by simpa using e2
      have e4:(kU (dK S x y j i) (n0,n1)).getD false=false:=by
       unfold kU;rw[if_neg e5]
       rfl
      rw[e3]at cF;rw[e4]at lk;have hwl:=Fj (S:=S) (x:=x) (y:=y) (j:=j) (i:=i);have E5:=Lib.hid e5
      have hnew:dK S x y j (i+1)=dK S x y j i++[(n0,n1)]:=by
       rw[HST.1];unfold Bd.dF;rw[if_neg (by simp only[not_or];exact⟨e1,e2,e5⟩)]
      obtain⟨W5,u1,u2,u3⟩:=HMF.store (x:=(n0,n1)) ⟨HST.2.1,HST.2.2⟩ (y:=true) trivial (by unfold maxLen;omega);simp only[Cx,gQ]at u1;have HU:=Lib.hid (And.intro u2 u3);have NM:=Lib.hid hnew;clear hnew u2 u3 e2 e3 e4 e5
      go_wp2_with (first|(go_at_call 158;refine cN.mono ?_;rintro r w' ⟨rfl,rfl⟩)|(go_at_call 159;refine cF.mono ?_;rintro r w' ⟨rfl,rfl⟩))
      go_roundg (2-(i+1))
      case rel=>
       obtain⟨r1,r2,r3⟩:=SH.out;obtain⟨u2,u3⟩:=HU.out;have hno:kU (dK S x y j i) (n0,n1)=none:=by unfold kU;rw[if_neg E5.out]
       rw[hno,JX]at u2;refine⟨i+1,rfl,by omega,by simp,by rw[NM];simp,⟨u3.os.trans r1.os,u3.tape.trans r1.tape,u3.output.trans r1.output,Nat.le_trans r1.size u3.size,fun q hq=>(u3.block q (Nat.lt_of_lt_of_le hq r1.size) (by omega)).trans (r1.block q hq)⟩,?_,(u3.block G (aV r3) (by omega)).trans r3⟩;rw[NM]
       simpa using u2
      case measure=>omega
    ·obtain rfl:i=2:=by omega
     have hnx:=Di (S:=S) (x:=x) (y:=y) (j:=j) (by rw[←HN];exact hlt) ⟨d,by rw[←HD.1];exact HD.2.1⟩;clear hb hm hg
     go_wp2
     go_roundg (N-(j+1))
     case rel=>exact⟨j+1,rfl,by omega,by simp,by rw[←hnx],HBI,by rw[←hnx];exact HMI⟩
     case measure=>omega
  ·obtain rfl:j=N:=by omega
   have hE:=Fh (S:=S) (x:=x) (y:=y) (j:=j) (by rw[←HN];exact Nat.le_refl _)
   go_wp2
   rw[HF];exact⟨by rw[←hE];rfl,HB⟩
end
end
end Go.Proofs.YtpijlhlpejlhhaaGreat
