/- Walks and plain words: PrsD PrsE. -/
import Derived.Test.YtkhoeoilamddaaaGreatDoorQMdE
import Derived.Laws.OwnMore
namespace Go.Proofs.YtkhoeoilamddaaaGreatDoor
open Go.RowKit
set_option linter.unusedVariables false
set_option maxRecDepth 100000
set_option maxHeartbeats 8000000
structure jo where
 t:Tm
 A:Option Addr
 c:Nat
def jo.cells(e:jo):List Value:=[.int .i64 e.t.op,.int .i64 e.t.num,.string e.t.name,.slice e.A e.t.kids.length e.c]
def bY(l:List jo):List Value:=l.flatMap jo.cells
theorem Fx(l:List jo)(e:jo):bY (l++[e])=bY l++e.cells:=by simp[bY]
theorem tu:∀l:List jo,(bY l).length=l.length*4
 |[]=>rfl
 |e::r=>by
  have:=tu r;unfold bY at this⊢;rw[List.flatMap_cons,List.length_append,this,List.length_cons];simp[jo.cells];omega
theorem Xb(e:jo)(r:List jo):bY (e::r)=e.cells++bY r:=by simp[bY]
theorem jP{S:Nat→Prop}{w:World}{g:Nat}:∀(acc:List jo)(o:Nat),(∀j v,(bY acc)[j]?=some v→w.cell? ⟨g,o+j,none⟩=some v)→(∀e∈acc,aD S w e.A e.c e.t)→kZ S w g o (acc.map jo.t)
 |[],o,_,_=>by rw[List.map_nil,kZ];trivial
 |e::r,o,h,hv=>by
  rw[List.map_cons,kZ];rw[Xb]at h;have hc:∀j,j<4→(e.cells++bY r)[j]?=e.cells[j]?:=fun j D=>List.getElem?_append_left (by show j<4;exact D);refine⟨uG.mk (A:=e.A) (c:=e.c) (h 0 _ ((hc 0 (by omega)).trans rfl)) (h 1 _ ((hc 1 (by omega)).trans rfl)) (h 2 _ ((hc 2 (by omega)).trans rfl)) (h 3 _ ((hc 3 (by omega)).trans rfl)) (hv e (by simp)),jP r (o+4) (fun j v D=>?_) (fun x hx=>hv x (by simp[hx]))⟩;have:=h (4+j) v (by rw[List.getElem?_append_right (by show 4≤4+j;omega)];show(bY r)[4+j-4]?=some v;rw[Nat.add_sub_cancel_left];exact D);rw[show o+4+j=o+(4+j) by omega];exact this
theorem Cv:(Tryz.prog.info? 64).map (fun i=>(i.zero,i.size,i.bytes))=some (some (.agg #[.int .i64 0,.int .i64 0,.string ⟨#[]⟩,.slice none 0 0]),4,56):=by kernel_rfl
theorem rO{l:List Tok}{i:Nat}:∀{ops:List Int},au l i ops≠0→i<l.length
 |[],h=>absurd rfl h
 |op::r,h=>by
  rw[au]at h
  by_cases hc:(if op=17 then ah l i 3 [109,111,100]else ah l i 4 (iy op))=true
  ·rcases Nat.lt_or_ge i l.length with h1|h1
   ·exact h1
   ·exfalso
    have hn:l[i]?=none:=List.getElem?_eq_none h1;unfold ah at hc;rw[hn]at hc
    split at hc<;>cases hc
  ·rw[iN hc]at h;exact rO h
structure JU(R:Nat)(A:Option Addr)(c d:Nat)(l:List Tok)(i B0:Nat)(w1 wr:World)(v:Value)(acc:List jo)(j:Nat):Prop where
 pos:0<acc.length
 own:wr.ownsRow B0 64 4 v acc.length (bY acc)
 vals:∀e∈acc,aD (fun q=>B0≤q∧v.ownBlock≠some q) wr e.A e.c e.t
 bN:iZ wr R A l.length c j d
 only:Only (fun q=>q=R) w1 wr
 cnt:acc.length≤j
 ij:i<j
 jl:j≤l.length
theorem JU.first{R c d i j:Nat}{A A':Option Addr}{c':Nat}{l:List Tok}{w1 D:World}{t:Tm}(hR:R<w1.heap.size)(G:i<j)(O:j≤l.length)(J:aD (fun q=>w1.heap.size≤q) D A' c' t)(hr:iZ D R A l.length c j d)(I:Only (fun q=>q=R) w1 D) :
 JU R A c d l i w1.heap.size w1 (D.alloc (.cells #[.int .i64 t.op,.int .i64 t.num,.string t.name,.slice A' t.kids.length c'] 64)) (.slice (some ⟨D.heap.size,0,none⟩) 1 1) [⟨t,A',c'⟩] j:=by
 have hs:=I.size;have hb:Below D.heap.size D (D.alloc (.cells #[.int .i64 t.op,.int .i64 t.num,.string t.name,.slice A' t.kids.length c'] 64)):=(Br _ _).alloc (lr _) _;refine⟨by simp,World.ownsRow_lit D #[.int .i64 t.op,.int .i64 t.num,.string t.name,.slice A' t.kids.length c'] 1 hs (by unfold maxLen;omega) rfl,fun e he=>?_,hr.below hb hr.lt,I.jV hb hs,by simp;omega,G,O⟩;rw[List.mem_singleton.1 he]
 exact J.keep (Kb hb) (fun q hq h=>⟨h,fun e=>by
  have:D.heap.size=q:=by simpa[Value.ownBlock]using e
  omega⟩)
theorem JU.next{R c d i j j' G:Nat}{A A':Option Addr}{c':Nat}{l:List Tok}{w1 wr D w6:World}{o:Obj}{v v':Value}{acc:List jo}{t:Tm}(h:JU R A c d l i G w1 wr v acc j)(af:R<G)(ae:G=w1.heap.size)
 (ho:Only (fun q=>q=R) wr D) (hj:j<j') (hjl:j'≤l.length) (hr:iZ D R A l.length c j' d) (hV:aD (fun q=>wr.heap.size≤q) D A' c' t)
 (hown:w6.ownsRow G 64 4 v' (acc.length+1) (bY acc++(jo.mk t A' c').cells)) (hg:(D.alloc o).grownBy w6 v.ownBlock) (hat:v'.ownBlock=v.ownBlock∨∀q,v'.ownBlock=some q→D.heap.size≤q) :
 JU R A c d l i G w1 w6 v' (acc++[⟨t,A',c'⟩]) j':=by
 have ai:=ho.size;have ag:=h.only.size;have J:∀q,v.ownBlock=some q→G≤q∧q<wr.heap.size:=fun q hq=>h.own.lt q hq;have ab:Below D.heap.size D (D.alloc o):=(Br _ _).alloc (lr _) o;have hk:∀q,v.ownBlock≠some q→q<D.heap.size→w6.heap[q]?=D.heap[q]?:=fun q hq Y=>(hg.block q (by simp;omega) (fun e=>hq e.symm)).trans (ab.block q Y);have O:D.heap.size≤w6.heap.size:=by have:=hg.size;simp at this;omega
 have aa:v.ownBlock≠some R:=fun e=>by have:=(J R e).1;omega
 refine⟨by simp,by rw[List.length_append,Fx];exact hown,fun e he=>?_,(hk R aa hr.lt).trans hr,?_,by rw[List.length_append];have:=h.cnt;simp;omega,by have:=h.ij;omega,hjl⟩
 ·have I:∀q,q<D.heap.size→(G≤q∧v.ownBlock≠some q)→(G≤q∧v'.ownBlock≠some q):=fun q hq ⟨h1,h2⟩=>⟨h1,fun e=>by
   rcases hat with h3|h3
   ·exact h2 (h3 ▸ e)
   ·have:=h3 q e;omega⟩
  rcases List.mem_append.1 he with he|he
  ·have h1:=(h.vals e he).keep (S':=fun q=>(G≤q∧v.ownBlock≠some q)) (aR.cO ho (fun h=>by have:=h.1;omega)) (fun _ _ h=>h);exact h1.keep ⟨O,fun q hq Y=>hk q hq.2 Y⟩ I
  ·rw[List.mem_singleton.1 he];have h1:=hV.keep (S':=fun q=>(G≤q∧v.ownBlock≠some q)) Kr (fun q _ h=>⟨by omega,fun e=>by have:=(J q e).2;omega⟩);exact h1.keep ⟨O,fun q hq Y=>hk q hq.2 Y⟩ I
 ·have h1:=h.only.trans ho;refine⟨by rw[hg.os];exact h1.os,by rw[hg.tape];exact h1.tape,by rw[hg.output];exact h1.output,Nat.le_trans h1.size O,fun q hq hne=>?_⟩;rw[hk q (fun e=>by have:=(J q e).1;omega) (by omega)];exact h1.block q hq hne
def afY(R:Nat)(w:World):Nat:=match w.cell? ⟨R,1,none⟩with
 |some (.int _ z)=>z.toNat
 |_=>0
theorem DV{R n c i d:Nat}{A:Option Addr}{w:World}(h:iZ w R A n c i d):afY R w=i:=by unfold afY;rw[h.c1];simp
theorem I_{l:List Tok}{op:Int}{one:jN}{fuel j:Nat}{acc:List Tm}(h:au l j [op]=0):lD l op one fuel acc j=.ok (ql op acc) j:=by
 cases fuel with
 |zero=>rfl
 |succ k=>rw[lD,iP h]
theorem QZ{l:List Tok}{op:Int}{one:jN}{fuel j:Nat}{acc:List Tm}(h:au l j [op]≠0):lD l op one (fuel+1) acc j=(one (j+1)).then fun t j=>lD l op one fuel (acc++[t]) j:=by rw[lD,iN h]
theorem Cw{op:Int}{l:List Tm}(h:l.length≠1):ql op l=dD op l:=by
 unfold ql
 split
 ·exact absurd rfl h
 ·rfl
theorem Ja{R:Nat}{w W:World}{v0 v1 v2 v3:Value}(h:Only (fun q=>q=R) w W):Only (fun q=>q=R) w ((((W.setCell ⟨w.heap.size,0,none⟩ v0).setCell ⟨w.heap.size,1,none⟩ v1).setCell ⟨w.heap.size,2,none⟩ v2).setCell ⟨w.heap.size,3,none⟩ v3):=by
 refine⟨h.os,h.tape,h.output,by simpa using h.size,fun q hq hf=>?_⟩;have hne:q≠w.heap.size:=by omega
 rw[iw _ ⟨w.heap.size,3,none⟩ q _ hne,iw _ ⟨w.heap.size,2,none⟩ q _ hne,iw _ ⟨w.heap.size,1,none⟩ q _ hne,iw _ ⟨w.heap.size,0,none⟩ q _ hne];exact h.block q hq hf
theorem oq{R c d i j:Nat}{A A':Option Addr}{c':Nat}{l:List Tok}{w W:World}{t:Tm}(v0 v1 v2 v3:Value)(D:i<j)(G:j≤l.length)(O:R<w.heap.size)(hR:iZ W R A l.length c j d)(I:Only (fun q=>q=R) w W)(J:aD (fun q=>w.heap.size<q) W A' c' t) :
 PQ R A c d l i (.ok t j) w (.returned (t.val A' c')) ((((W.setCell ⟨w.heap.size,0,none⟩ v0).setCell ⟨w.heap.size,1,none⟩ v1).setCell ⟨w.heap.size,2,none⟩ v2).setCell ⟨w.heap.size,3,none⟩ v3):=by
 refine⟨⟨A',c',rfl,J.keep ((((aR.refl.set (by omega) _).set (by omega) _).set (by omega) _).set (by omega) _) (fun q _ h=>Nat.le_of_lt h)⟩,D,G,?_,Ja I⟩;have hne:R≠w.heap.size:=by omega
 unfold iZ;rw[iw _ ⟨w.heap.size,3,none⟩ R _ hne,iw _ ⟨w.heap.size,2,none⟩ R _ hne,iw _ ⟨w.heap.size,1,none⟩ R _ hne,iw _ ⟨w.heap.size,0,none⟩ R _ hne];exact hR
theorem Ui{R B n sz:Nat}{T:TypeId}{w w':World}{v:Value}{xs:List Value}(h:w.ownsRow B T sz v n xs)(D:Only (fun q=>q=R) w w')(hR:R<B):w'.ownsRow B T sz v n xs:=
 h.kept (row:=some R) ⟨D.os,D.tape,D.output,D.size,fun k G hne=>D.block k G (fun e=>hne (by rw[e]))⟩ (by
  cases hv:v.ownBlock with
  |none=>exact .inl rfl
  |some q=>exact .inr (fun e=>by have:=(h.lt q hv).1;injection e with e;omega))
theorem Pt(R:Nat)(A:Option Addr)(c d:Nat)(l:List Tok)(K:FuncId)(x:Value)(m:Bool)(Inv:World→Prop)(one:jN)(op:Int)(i:Nat)(w:World)(bJ:∀args W,(callFunc K args).run Tryz.prog W=.ok (.enter K args) W)
 (hInv:∀w w',Inv w→Only (fun q=>q=R) w w'→Inv w') (hF:KR R A c d l K x Inv one) (hi:i≤l.length) (hR:iZ w R A l.length c i d) (hP:iI w R A c l) (hw:Inv w) :
 Calls Tryz.prog 171 #[.pointer (some ⟨R,0,none⟩),.int .i64 op,abI m K x] w (PQ R A c d l i (many l op one i) w):=by
 obtain⟨i0,bw,bW,bZ,b0⟩:=info_parts Cv;have hlen:=hP.len;have fC:=hR.lt;obtain⟨w1,hw1⟩:=aj (w.alloc (.cells #[.int .i64 0,.int .i64 0,.string ⟨#[]⟩,.slice none 0 0] 64));have hb1:=dz hw1;have bL:w1.heap.size=w.heap.size+1:=by rw[hw1];simp
 have ba:w1.heap[w.heap.size]?=some (.cells #[.int .i64 0,.int .i64 0,.string ⟨#[]⟩,.slice none 0 0] 64 (0,0)):=by rw[hw1];exact eu w _
 have ae:Only (fun q=>q=R) w w1:=Ob hb1;have ar:=hF i w1 hi (hR.below hb1 fC) (hP.only ae) (hInv w w1 hw ae);obtain⟨r1,az⟩:=aj (one i);obtain⟨F,vU⟩:=aj (PQ R A c d l i (many l op one i) w);have bE:Hid (F=PQ R A c d l i (r1.then fun t j=>lD l op one l.length [t] j) w):=by show _=_;rw[vU,az];rfl
 rw[←vU];rw[←az]at ar;have bj:=Hd ar;have bk:=Hd hw1;have b2:=Hd hb1;have wH:=Hd ae;have qH:=Hd ba;have Am:=Hd hF;have bl:=Hd hInv;have HP:=Hd hP;have Oe:=Hd hw;clear ar az vU hw1 hb1 ae ba hF hInv hP hw hR;cases m
 all_goals
  unfold abI;simp only[if_true,Bool.false_eq_true,if_false];go_in;go_wp2_with fail;rw[←bk];refine bj.mono ?_;intro e w4 hq
  cases r1 with
  |bad j x=>
   obtain⟨rfl,iC⟩:=hq;refine(show _∧_ from⟨rfl,?_⟩);rw[bE];exact⟨rfl,wH.trans iC⟩
  |ok t j=>
   obtain⟨⟨A',c',rfl,hV⟩,bd,bC,vD,iC⟩:=hq;have HM:=Hd (JU.first (i:=i) (by omega) bd bC hV vD iC);obtain⟨n2,ay⟩:=aj t.kids.length;unfold Tm.val;rw[←ay];rw[←ay]at HM;have dJ:Hid (F=PQ R A c d l i (lD l op one l.length [t] j) w):=bE;obtain⟨r,HR⟩:=ak (lD l op one l.length [t] j);rw[←HR]at dJ;clear hV vD iC ay bd;go_wp2_with fail
   go_loopw [7] (fun sv wr=>∃(acc:List jo)(j fuel:Nat),JU R A c d l i w1.heap.size w1 wr sv acc j∧l.length≤fuel+j∧lD l op one fuel (acc.map jo.t) j=r) (fun _ wr=>l.length-afY R wr)
   case atStart=>exact⟨[⟨t,A',c'⟩],j,l.length,HM,by omega,HR.symm⟩
   case round=>
    obtain⟨acc,j,fuel,hM,b6,bh⟩:=hrel
    rcases hM.own.2 with⟨-,h9⟩|⟨g,cap,cur,rfl,b5,hg,bf,bp,br,bP⟩
    ·have:=hM.pos;omega
    have G:=Hd hM;have pR:=Hd bh;have bb:g<wr.heap.size:=lH hg;obtain⟨n,hn⟩:=aj acc.length;have HN:=Hd hn;have vE:=hM.jl;have b9:=hM.only.size;have O:Below wr.heap.size wr (wr.alloc (.cells #[.int .i64 op] 3)):=(Br _ _).alloc (lr _) _;have qj:=Hd (zR R A c j d l wr.heap.size 1 [op] (wr.alloc (.cells #[.int .i64 op] 3)) (hM.bN.below O hM.bN.lt) ((HP.only (wH.trans hM.only)).only (Ob O)) (by omega) (tY wr [op]) (by simp) (by simp));have ao:=hM.bN.lt;rw[←hn];rw[←hn]at bf;clear hM bh hg br bP hn;have Xc:=(G.only.block w.heap.size (by omega) (by omega)).trans qH;obtain⟨v0,v1,v2,v3,zq⟩:=q4 Xc;have aJ:=Hd Xc;have Jb:w.heap.size<wr.heap.size:=by omega
    clear Xc
    by_cases hz:au l j [op]=0
    ·have aF:Hid (r=.ok (ql op (acc.map jo.t)) j):=by show _=_;rw[←pR];exact I_ hz
     rw[hz]at qj;clear hz
     by_cases ax:n=1
     ·subst ax
      obtain⟨e1,bu⟩:∃e1,acc=[e1]:=by
       match acc,HN with
       |[e1],_=>exact⟨e1,rfl⟩
      subst bu
      have Y:∀jj vv,(bY [e1])[jj]?=some vv→wr.cell? ⟨g,jj,none⟩=some vv:=fun jj vv hv=>by
       have h:=G.own.cells (g:=g) rfl jj vv hv;rw[addr_add,Nat.zero_add]at h;exact h
      have y0:=Y 0 _ rfl;have y1:=Y 1 _ rfl;have y2:=Y 2 _ rfl;have y3:=Y 3 _ rfl;obtain⟨ne,vM⟩:=ak e1.t.kids.length;rw[←vM]at y3;clear Y;go_wp2_with fail;refine qj.mono ?_;rintro e w5 ⟨rfl,q,gH⟩;rw[gH];clear gH;go_wp2_with fail;have D:Hid (Only (fun q=>q=R) wr ((wr.alloc (.cells #[.int .i64 op] 3)).drewN q)):=(Ob ((Br _ _).alloc (lr _) _)).drewN q;obtain⟨WX,I⟩:=aj ((wr.alloc (.cells #[.int .i64 op] 3)).drewN q)
      have af:Hid (iZ WX R A l.length c j d):=by
       show iZ _ _ _ _ _ _ _;rw[I];exact(G.bN.below ((Br wr.heap.size wr).alloc (lr _) (.cells #[.int .i64 op] 3)) ao).drewN q
      rw[←I]at D⊢;clear I;have O:=(D.block w.heap.size (by omega) (by omega)).trans aJ;refine bR (Gg (ni O)) rfl ?_;rw[dJ,aF];have ai:iZ WX R A l.length c j d:=af;have ag:=wH.trans (G.only.trans D);have h:=oq (A':=e1.A) (c':=e1.c) (.int .i64 e1.t.op) (.int .i64 e1.t.num) (.string e1.t.name) (.slice e1.A ne e1.c) G.ij G.jl fC ai ag ((G.vals e1 (by simp)).keep (aR.cO D (fun h=>by have:=h.1;omega)) (fun q _ h=>by have:=h.1;omega));unfold Tm.val at h;rw[←vM]at h;exact h
     ·have b4:((n:Int)==1)=false:=by simp;omega
      have Iz:Hid (n≠1):=ax;clear ax;go_wp2_with fail;refine qj.mono ?_;rintro e w5 ⟨rfl,q,gH⟩;rw[gH];clear gH;go_wp2_with fail;have D:Hid (Only (fun q=>q=R) wr ((wr.alloc (.cells #[.int .i64 op] 3)).drewN q)):=(Ob ((Br _ _).alloc (lr _) _)).drewN q;obtain⟨WX,I⟩:=aj ((wr.alloc (.cells #[.int .i64 op] 3)).drewN q)
      have af:Hid (iZ WX R A l.length c j d):=by
       show iZ _ _ _ _ _ _ _;rw[I];exact(G.bN.below ((Br wr.heap.size wr).alloc (lr _) (.cells #[.int .i64 op] 3)) ao).drewN q
      rw[←I]at D⊢;clear I;have O:=(D.block w.heap.size (by omega) (by omega)).trans aJ;refine bR (Gg (ni O)) rfl ?_;rw[dJ,aF];have ai:iZ WX R A l.length c j d:=af;have ag:=wH.trans (G.only.trans D);have aw:(acc.map jo.t).length=n:=by rw[List.length_map,←HN]
      rw[Cw (by rw[aw];exact Iz)]
      have h:=oq (t:=dD op (acc.map jo.t)) (A':=some ⟨g,0,none⟩) (c':=cap) (.int .i64 op) (.int .i64 0) (.string ⟨#[]⟩) (.slice (some ⟨g,0,none⟩) n cap) G.ij G.jl fC ai ag ⟨by show(acc.map jo.t).length≤cap;rw[aw];exact bf,bp,by show 0≤_;exact zl _,.inr ⟨g,0,rfl,by show w.heap.size<g;omega,lL bb D.size,by
       refine jP acc 0 (fun jj vv hv=>?_) (fun e9 bv=>(G.vals e9 bv).keep (aR.cO D (fun h=>by have:=h.1;omega)) (fun q _ h=>by have:=h.1;omega));have h:=G.own.cells (g:=g) rfl jj vv hv;rw[addr_add]at h;rw[D.cell bb (by omega)]
       exact h⟩⟩
      unfold Tm.val at h;have hk:(dD op (acc.map jo.t)).kids.length=n:=aw;rw[hk]at h;exact h
    ·have b1:(au l j [op] != 0)=true:=by simpa using hz
     have b3:=rO hz;have HZ:Hid (au l j [op]≠0):=hz;obtain⟨zz,bi⟩:=aj (au l j [op]);rw[←bi]at qj b1;have c1:=G.bN.c1;have f1:=G.bN.frozen 1;clear hz bi;go_wp2_with fail;refine qj.mono ?_;rintro e w5 ⟨rfl,q,gH⟩;rw[gH];clear gH;go_wp2_with fail;obtain⟨W3,a7⟩:=aj (((wr.alloc (.cells #[.int .i64 op] 3)).drewN q).setCell ⟨R,1,none⟩ (.int .i64 ((j:Int)+1)));have a8:=G.bN.below ((Br wr.heap.size wr).alloc (lr _) (.cells #[.int .i64 op] 3)) ao;have hwn:=jf (m:=q) a8;rw[←a7]at hwn⊢;have aa:Only (fun q=>q=R) wr W3:=(Ob ((Br wr.heap.size wr).alloc (lr _) _)).trans hwn.2.1;have b7:=aa.size;have aS:=HP.only (wH.trans (G.only.trans aa));have aQ:=bl w W3 Oe (wH.trans (G.only.trans aa));have J:=Am (j+1) W3 (by omega) hwn.1 aS aQ;obtain⟨fu,rfl⟩:∃fu,fuel=fu+1:=⟨fuel-1,by omega⟩;have ab:=pR.out;rw[QZ HZ]at ab;obtain⟨r2,bg⟩:=aj (one (j+1));rw[←bg]at ab J;have OH:=Hd ab;have Cx:=Hd J;have Ai:=Hd aa;clear a7 a8 hwn aa aS aQ J ab bg c1 f1 zq;refine Cx.mono ?_;intro e w6 hq
     cases r2 with
     |bad jb xb=>
      obtain⟨rfl,iX⟩:=hq;refine(show _∧_ from⟨rfl,?_⟩);rw[dJ,←OH];exact⟨rfl,wH.trans (G.only.trans (Ai.trans iX))⟩
     |ok t2 j2=>
      obtain⟨⟨A2,c2,rfl,a6⟩,bz,uH,uI,iX⟩:=hq;have aP:=Hd (Ai.trans iX);have jm:Hid (aD (fun q=>wr.heap.size≤q) w6 A2 c2 t2):=a6.keep Kr (fun q _ h=>by omega);have o7:=Hd uI;have b8:=iX.size;have Fy:=Hd (Ui G.own aP (by omega));rw[←HN]at Fy;obtain⟨n3,AV⟩:=ak t2.kids.length;unfold Tm.val;rw[←AV];have av:=G.cnt;rw[←HN]at av;clear a6 uI iX
      go_wp2_with (at_builtin;refine wpList_append_lies _ (by rfl) _ _ _ (by rfl) w1.heap.size 64 i0 (.agg #[.int .i64 0,.int .i64 0,.string ⟨#[]⟩,.slice none 0 0]) 4 56 Tryz.underlying25 bw bW bZ b0 rfl (by decide) _ n _ (by rfl) (Fy.alloc _) ⟨w6.heap.size,0,none⟩ 1 1 [.int .i64 t2.op,.int .i64 t2.num,.string t2.name,.slice A2 n3 c2] (by rfl) rfl (World.news_of_block (eu w6 _)) (fun u hu=>by simp at hu;rcases hu with rfl|rfl|rfl|rfl<;>rfl) (by decide) ?c3 ?c4 ?c5 (w6.heap.size+1) (by simp) ?_)
      case c3=>unfold maxLen;omega
      case c4=>omega
      case c5=>first|omega|(simp;omega)
      intro g' bo w7 dN dO ku yV
      have aE:=Hd (JU.next (acc:=acc) (t:=t2) (A':=A2) (c':=c2) G (by omega) rfl aP (by omega) uH o7 jm (by rw[←HN,bL];unfold jo.cells;simp only;rw[←AV];exact dN) dO (by
       rcases ku with h|h
       ·exact .inl h.symm
       ·exact .inr (fun q hq=>by
         have:g'=q:=by simpa[Value.ownBlock]using hq
         omega)))
      have bm:=DV aE.bN;have bn:=DV G.bN;clear dN dO ku;go_wp2_with fail
      go_roundw
      case rel=>exact⟨acc++[⟨t2,A2,c2⟩],j2,fu,by have h:=aE.out;rw[←HN]at *;exact h,by omega,by rw[List.map_append];exact OH⟩
      case measure=>rw[bm,bn];omega
set_option linter.unusedSimpArgs false
theorem dU{F:Nat→Prop}{w W:World}{b o:Nat}(h:Only F w W)(hb:w.heap.size≤b)(v:Value):Only F w (W.setCell ⟨b,o,none⟩ v):=by
 refine⟨h.os,h.tape,h.output,by simpa using h.size,fun q hq hf=>?_⟩;have hne:q≠b:=by omega
 rw[iw _ ⟨b,o,none⟩ q _ hne];exact h.block q hq hf
theorem left_stop{l:List Tok}{ops:List Int}{one:jN}{fuel j:Nat}{t:Tm}(h:au l j ops=0):jK l one ops fuel t j=.ok t j:=by
 cases fuel with
 |zero=>rfl
 |succ k=>rw[jK,iP h]
theorem Q6{l:List Tok}{ops:List Int}{one:jN}{fuel j:Nat}{t:Tm}(h:au l j ops≠0):jK l one ops (fuel+1) t j=(one (j+1)).then fun u j2=>jK l one ops fuel (dD (au l j ops) [t,u]) j2:=by rw[jK,iN h]
theorem uF.only{w w':World}{b R:Nat}{l:List Int}(h:uF w b l)(D:Only (fun q=>q=R) w w')(hb:b<w.heap.size)(hne:b≠R):uF w' b l:=fun j z G=>by rw[D.cell hb hne];exact h j z G
structure GX(R:Nat)(A:Option Addr)(c d:Nat)(l:List Tok)(i B0 bt:Nat)(w1 wr:World)(t:Tm)(A':Option Addr)(c' j:Nat):Prop where
 box:wr.heap[bt]?=some (.cells #[.int .i64 t.op,.int .i64 t.num,.string t.name,.slice A' t.kids.length c'] 64 (0,0))
 val:aD (fun q=>B0≤q∧q≠bt) wr A' c' t
 bN:iZ wr R A l.length c j d
 only:Only (fun q=>q=R) w1 wr
 ij:i<j
 jl:j≤l.length
theorem GX.first{R c d i j:Nat}{A A':Option Addr}{c':Nat}{l:List Tok}{w1 D:World}{t:Tm}(hR:R<w1.heap.size)(G:i<j)(J:j≤l.length)(I:aD (fun q=>w1.heap.size≤q) D A' c' t)(hr:iZ D R A l.length c j d)(Y:Only (fun q=>q=R) w1 D)(q:Nat) :
 GX R A c d l i w1.heap.size D.heap.size w1 ((D.alloc (.cells #[.int .i64 t.op,.int .i64 t.num,.string t.name,.slice A' t.kids.length c'] 64)).drewN q) t A' c' j:=by
 have hb:Below D.heap.size D (D.alloc (.cells #[.int .i64 t.op,.int .i64 t.num,.string t.name,.slice A' t.kids.length c'] 64)):=(Br _ _).alloc (lr _) _;refine⟨eu D _,?_,(hr.below hb hr.lt).drewN q,(Y.trans (Ob hb)).drewN q,G,J⟩;have O:aR (fun q=>w1.heap.size≤q) D ((D.alloc (.cells #[.int .i64 t.op,.int .i64 t.num,.string t.name,.slice A' t.kids.length c'] 64)).drewN q):=⟨(Kb (S:=fun _=>True) hb).size,fun q _ hq=>hb.block q hq⟩;exact I.keep O (fun q hq h=>⟨h,by omega⟩)
theorem GX.next{R c d i j j2 D bt g:Nat}{A A' I:Option Addr}{c' c2:Nat}{l:List Tok}{w1 wr G W:World}{t t2:Tm}{op:Int}(h:GX R A c d l i D bt w1 wr t A' c' j)(ab:R<D)(aa:D=w1.heap.size)(Y:Only (fun q=>q=R) wr G)(hj:j<j2)(O:j2≤l.length)(J:aD (fun q=>wr.heap.size≤q) G I c2 t2)
 (hk:aR (fun q=>D≤q∧q≠bt) G W) (hR:iZ W R A l.length c j2 d) (hO:Only (fun q=>q=R) w1 W) (hbx:W.heap[bt]?=some (.cells #[.int .i64 op,.int .i64 0,.string ⟨#[]⟩,.slice (some ⟨g,0,none⟩) 2 2] 64 (0,0)))
 (hg:G.heap.size≤g) (hrow:∀k v,(bY [⟨t,A',c'⟩,⟨t2,I,c2⟩])[k]?=some v→W.cell? ⟨g,k,none⟩=some v) (hgW:g<W.heap.size):GX R A c d l i D bt w1 W (dD op [t,t2]) (some ⟨g,0,none⟩) 2 j2:=by
 have ae:bt<wr.heap.size:=lH h.box;have af:=Y.size;have hos:=h.only.size;refine⟨hbx,⟨lr _,by unfold maxLen;omega,zl _,.inr ⟨g,0,rfl,⟨by omega,by omega⟩,hgW,?_⟩⟩,hR,hO,by have:=h.ij;omega,O⟩;refine jP [⟨t,A',c'⟩,⟨t2,I,c2⟩] 0 (fun k v hv=>by rw[Nat.zero_add];exact hrow k v hv) ?_;intro e he;have h1:aD (fun q=>D≤q∧q≠bt) G A' c' t:=h.val.keep (aR.cO Y (fun h=>by have:=h.1;omega)) (fun q _ h=>h);have h2:aD (fun q=>D≤q∧q≠bt) G I c2 t2:=J.keep Kr (fun q _ h=>⟨by omega,by omega⟩);simp only[List.mem_cons,List.not_mem_nil,or_false]at he
 rcases he with rfl|rfl
 ·exact h1.keep hk (fun q _ h=>h)
 ·exact h2.keep hk (fun q _ h=>h)
theorem Pv(R:Nat)(A:Option Addr)(c d:Nat)(l:List Tok)(K:FuncId)(x:Value)(m:Bool)(Inv:World→Prop)(one:jN)(bo co:Nat)(ops:List Int)(i:Nat)(w:World)(b7:∀args W,(callFunc K args).run Tryz.prog W=.ok (.enter K args) W)
 (hInv:∀w w',Inv w→Only (fun q=>q=R) w w'→Inv w') (hF:KR R A c d l K x Inv one) (hi:i≤l.length) (hR:iZ w R A l.length c i d) (hP:iI w R A c l) (hw:Inv w) (hops:uF w bo ops) (hol:ops.length≤20) (hbo:bo<w.heap.size) (akf:bo≠R) :
 Calls Tryz.prog 202 #[.pointer (some ⟨R,0,none⟩),abI m K x,.slice (some ⟨bo,0,none⟩) ops.length co] w (PQ R A c d l i (left l one ops i) w):=by
 have hlen:=hP.len;have fC:=hR.lt;obtain⟨w1,hw1⟩:=aj (w.alloc (.cells #[.int .i64 0,.int .i64 0,.string ⟨#[]⟩,.slice none 0 0] 64));have hb1:=dz hw1;have cg:w1.heap.size=w.heap.size+1:=by rw[hw1];simp
 have bu:w1.heap[w.heap.size]?=some (.cells #[.int .i64 0,.int .i64 0,.string ⟨#[]⟩,.slice none 0 0] 64 (0,0)):=by rw[hw1];exact eu w _
 have aP:Only (fun q=>q=R) w w1:=Ob hb1;have bg:=hF i w1 hi (hR.below hb1 fC) (hP.only aP) (hInv w w1 hw aP);obtain⟨r1,bj⟩:=aj (one i);obtain⟨F,vU⟩:=aj (PQ R A c d l i (left l one ops i) w);have bE:Hid (F=PQ R A c d l i (r1.then fun t j=>jK l one ops l.length t j) w):=by show _=_;rw[vU,bj];rfl
 rw[←vU];rw[←bj]at bg
 have aF:∀(j:Nat)(W:World),iZ W R A l.length c j d→Only (fun q=>q=R) w W→j≤l.length→Calls Tryz.prog 146 #[.pointer (some ⟨R,0,none⟩),.slice (some ⟨bo,0,none⟩) ops.length co] W fun e w'=>e=.returned (.int .i64 (au l j ops))∧∃n,w'=W.drewN n:=fun j W b6 bf hj=>
  zR R A c j d l bo co ops W b6 (hP.only bf) (by omega) (hops.only bf hbo akf) hol (lL hbo bf.size)
 have AX:=Hd aF;have bP:=Hd bg;have b0:=Hd hw1;have cb:=Hd hb1;have wH:=Hd aP;have qH:=Hd bu;have Am:=Hd hF;have b2:=Hd hInv;have HP:=Hd hP;have Oe:=Hd hw;obtain⟨no,bz⟩:=aj ops.length;rw[←bz]at aF⊢;have AX:=Hd aF;clear bg bj vU hw1 hb1 aP bu hF hInv hP hw hR aF hops bz;cases m
 all_goals
  unfold abI;simp only[if_true,Bool.false_eq_true,if_false];go_in;go_wp2_with fail;rw[←b0];refine bP.mono ?_;intro e w4 hq
  cases r1 with
  |bad j x=>
   obtain⟨rfl,iC⟩:=hq;refine(show _∧_ from⟨rfl,?_⟩);rw[bE];exact⟨rfl,wH.trans iC⟩
  |ok t j=>
   obtain⟨⟨A',c',rfl,hV⟩,bv,bw,vD,iC⟩:=hq;have bk:=fun(W:World)(hW:W=w4.alloc (.cells #[.int .i64 t.op,.int .i64 t.num,.string t.name,.slice A' t.kids.length c'] 64))=>AX j W (by rw[hW];exact vD.below ((Br _ _).alloc (lr _) _) vD.lt) (by rw[hW];exact wH.trans (iC.trans (Ob ((Br _ _).alloc (lr _) _)))) bw;have hm:=fun q=>GX.first (i:=i) (by omega) bv bw hV vD iC q;obtain⟨n2,kU⟩:=ak t.kids.length;unfold Tm.val;rw[←kU];rw[←kU]at bk;have qj:=Hd bk;have HM:=Hd hm;have dJ:Hid (F=PQ R A c d l i (jK l one ops l.length t j) w):=bE;obtain⟨r,hr⟩:=aj (jK l one ops l.length t j);rw[←hr]at dJ;have HR:=Hd hr;clear hV vD hr bv bk hm;go_wp2_with fail;refine(qj _ rfl).mono ?_;rintro e w5 ⟨rfl,q,gH⟩;have bi:=HM q;rw[←kU,←gH]at bi;have bm:=Hd bi;have G:w4.heap.size≥w1.heap.size:=iC.size;clear bi gH;obtain⟨bt,bb⟩:=aj w4.heap.size;rw[←bb]at G bm;go_wp2_with fail;rw[←bb];clear bb
   go_loopw [8] (fun sv wr=>∃(t:Tm)(A':Option Addr)(c' j fuel:Nat),sv=.int .i64 (au l j ops)∧GX R A c d l i w1.heap.size bt w1 wr t A' c' j∧l.length≤fuel+j∧jK l one ops fuel t j=r) (fun _ wr=>l.length-afY R wr)
   case atStart=>exact⟨t,A',c',j,l.length,rfl,bm,by omega,HR.symm⟩
   case round=>
    obtain⟨t,A',c',j,fuel,rfl,hM,cf,bJ⟩:=hrel;have J:=Hd hM;have pR:=Hd bJ;have vE:=hM.jl;have ci:=hM.only.size;have cd:=hM.bN.lt;have b5:bt<wr.heap.size:=lH hM.box;have Jb:w.heap.size<wr.heap.size:=by omega
    have Xc:=(hM.only.block w.heap.size (by omega) (by omega)).trans qH;have vF:=hM.box;obtain⟨n,HN⟩:=ak t.kids.length;rw[←HN]at vF;have b3:=Hd Xc;have b4:=Hd vF;obtain⟨v0,v1,v2,v3,zq⟩:=q4 Xc;obtain⟨y0,y1,y2,y3,xq⟩:=q4 vF;clear hM bJ Xc vF
    by_cases hz:au l j ops=0
    ·have bl:(au l j ops != 0)=false:=by simpa using hz
     have bW:Hid (r=.ok t j):=by show _=_;rw[←pR];exact left_stop hz
     clear hz;obtain⟨zz,bL⟩:=aj (au l j ops);rw[←bL]at bl⊢;clear bL;go_wp2_with fail;refine bR (Gg (ni b3)) rfl ?_;rw[dJ,bW];have h:=oq (.int .i64 t.op) (.int .i64 t.num) (.string t.name) (.slice A' n c') J.ij J.jl fC J.bN (wH.trans J.only) (J.val.keep Kr (fun q _ h=>by have:=h.1;omega));unfold Tm.val at h;rw[←HN]at h;exact h
    ·have bl:(au l j ops != 0)=true:=by simpa using hz
     have cc:=rO hz;have HZ:Hid (au l j ops≠0):=hz;obtain⟨zz,a7⟩:=ak (au l j ops);rw[←a7]at bl⊢;have c1:=J.bN.c1;have f1:=J.bN.frozen 1;have ax:bt≠R:=by omega
     clear hz;go_wp2_with fail
     -- REGION
     refine wp_region_any (by kernel_rfl) ?_
     change wpAny _ _ _ _ _ _ _ (World.drew _)
     obtain⟨W3,br⟩:=aj ((wr.setCell ⟨R,1,none⟩ (.int .i64 ((j:Int)+1))).drew);have hwn:yU R A l.length c d (j+1) wr ((wr.setCell ⟨R,1,none⟩ (.int .i64 ((j:Int)+1))).drew):=zG (m:=1) (jf (m:=0) J.bN);rw[← br]at hwn⊢;have az:Only (fun q=>q=R) wr W3:=hwn.2.1;have ch:W3.heap.size=wr.heap.size:=hwn.2.2;have bp:=HP.only (wH.trans (J.only.trans az));have bn:=b2 w W3 Oe (wH.trans (J.only.trans az));have aa:=Am (j+1) W3 (by omega) hwn.1 bp bn;have aQ:=Lib.hid ((az.block bt b5 ax).trans b4);obtain⟨fu,rfl⟩:∃fu,fuel=fu+1:=⟨fuel-1,by omega⟩;have aJ:=pR;rw[Q6 HZ]at aJ;obtain⟨r2,bC⟩:=aj (one (j+1));rw[← bC]at aJ aa;have OH:=Lib.hid aJ;have Cx:=Lib.hid aa;have Ai:=Lib.hid az;clear br hwn az bp bn aa aJ bC c1 f1 zq y0 y1 y2 y3 xq;obtain⟨y0,y1,y2,y3,xq⟩:=q4 aQ;clear xq;refine wpAny_take (i:=0) (oi:={dst:=some 28,op:=Op.move (Operand.tmp 8),type:=3,pos := "ttext.go:287",after:=#[],guard:=none}) (v:=?_) rfl (by kernel_rfl) (by kernel_rfl) (by kernel_rfl) (fun _ _ _ h=>h) (Or.inl ⟨by rfl,?hy⟩) ?_
     case hy=>intro w0;go_simp;(first|done|with_reducible rfl)
     (try simp only[Act.put,aT,aU,aV]);refine wpAny_take (i:=2) (oi:={dst:=some 30,op:=Op.move (Operand.tmp 1),type:=107,pos := "ttext.go:287",after:=#[],guard:=none}) (v:=?_) rfl (by kernel_rfl) (by kernel_rfl) (by kernel_rfl) (fun _ _ _ h=>h) (Or.inl ⟨by rfl,?hy⟩) ?_
     case hy=>intro w0;go_simp;(first|done|with_reducible rfl)
     try simp only[Act.put,aT,aU,aV]
     cases r2 with
     |bad jb xb=>
      refine wpAny_ready (rs:=[1,3]) (by kernel_rfl) (by simp) ?_;refine AllReady.cons (o:={dst:=some 29,op:=Op.load 64 (Operand.tmp 7),type:=64,pos := "ttext.go:287",after:=#[],guard:=none}) rfl (fun K hK=>?_) ?_
      ·go_simp;refine hK _ _ ?_;clear hK K;(try simp only[Act.put,aT,aU,aV]);refine wpAny_ready (rs:=[3]) (by kernel_rfl) (by simp) ?_;refine AllReady.cons (o:={dst:=some 31,op:=Op.call {callee:=Callee.value (Operand.tmp 30),args:=#[],argTypes:=#[]},type:=64,pos := "ttext.go:287",after:=#[{on:=2,ground:=Ground.data}],guard:=none}) rfl (fun K hK=>?_) AllReady.nil;go_simp;(with_reducible refine(Cx.out).mono ?_);intro e D hq;obtain⟨rfl,iX⟩:=hq;refine(show _∧_ from⟨rfl,?_⟩);rw[dJ,← OH];exact⟨rfl,wH.trans (J.only.trans (Ai.trans iX))⟩
      ·refine AllReady.cons (o:={dst:=some 31,op:=Op.call {callee:=Callee.value (Operand.tmp 30),args:=#[],argTypes:=#[]},type:=64,pos := "ttext.go:287",after:=#[{on:=2,ground:=Ground.data}],guard:=none}) rfl (fun K hK=>?_) AllReady.nil;go_simp;(with_reducible refine(Cx.out).mono ?_);intro e D hq;obtain⟨rfl,iX⟩:=hq;refine(show _∧_ from⟨rfl,?_⟩);rw[dJ,← OH];exact⟨rfl,wH.trans (J.only.trans (Ai.trans iX))⟩
     |ok t2 j2=>
      refine wpAny_ready (rs:=[1,3]) (by kernel_rfl) (by simp) ?_;refine AllReady.cons (o:={dst:=some 29,op:=Op.load 64 (Operand.tmp 7),type:=64,pos := "ttext.go:287",after:=#[],guard:=none}) rfl (fun K hK=>?_) ?_
      ·go_simp;refine hK _ _ ?_;clear hK K;(try simp only[Act.put,aT,aU,aV]);refine wpAny_ready (rs:=[3]) (by kernel_rfl) (by simp) ?_;refine AllReady.cons (o:={dst:=some 31,op:=Op.call {callee:=Callee.value (Operand.tmp 30),args:=#[],argTypes:=#[]},type:=64,pos := "ttext.go:287",after:=#[{on:=2,ground:=Ground.data}],guard:=none}) rfl (fun K hK=>?_) AllReady.nil;go_simp;(with_reducible refine(Cx.out).mono ?_);intro e D hq;obtain⟨⟨A2,c2,rfl,av⟩,bh,uH,uI,iX⟩:=hq;obtain⟨n3,AV⟩:=ak t2.kids.length;unfold Tm.val;rw[← AV];have Fy:=Lib.hid iX;have jm:=Lib.hid av;have o7:=Lib.hid uI;have b8:=iX.size;have b1:bt<D.heap.size:=by omega
       have bZ:=Lib.hid ((iX.block bt (by omega) ax).trans aQ);clear av uI iX y0 y1 y2 y3;obtain⟨y0,y1,y2,y3,xq⟩:=q4 bZ;refine hK _ _ ?_;clear hK K;(try simp only[Act.put,aT,aU,aV]);refine wpAny_ready (rs:=[4]) (by kernel_rfl) (by simp) ?_;refine AllReady.cons (o:={dst:=some 32,op:=Op.buildSlice 25 2 #[(0,Operand.tmp 29),(1,Operand.tmp 31)],type:=25,pos := "ttext.go:287",after:=#[{on:=1,ground:=Ground.data},{on:=3,ground:=Ground.data}],guard:=none}) rfl (fun K hK=>?_) AllReady.nil;go_simp;refine hK _ _ ?_;clear hK K;(try simp only[Act.put,aT,aU,aV]);refine wpAny_ready (rs:=[5]) (by kernel_rfl) (by simp) ?_;refine AllReady.cons (o:={dst:=some 33,op:=Op.build 64 #[(0,Operand.tmp 28),(3,Operand.tmp 32)],type:=64,pos := "ttext.go:287",after:=#[{on:=0,ground:=Ground.data},{on:=4,ground:=Ground.data}],guard:=none}) rfl (fun K hK=>?_) AllReady.nil;go_simp;refine hK _ _ ?_;clear hK K;(try simp only[Act.put,aT,aU,aV]);refine wpAny_ready (rs:=[6]) (by kernel_rfl) (by simp) ?_
       refine AllReady.cons (o:={dst:=none,op:=Op.store 64 (Operand.tmp 7) (Operand.tmp 33),type:=0,pos := "ttext.go:287",after:=#[{on:=5,ground:=Ground.data},{on:=3,ground:=Ground.chain},{on:=0,ground:=Ground.phase},{on:=1,ground:=Ground.phase},{on:=2,ground:=Ground.phase},{on:=3,ground:=Ground.phase},{on:=4,ground:=Ground.phase},{on:=5,ground:=Ground.phase}],guard:=none}) rfl (fun K hK=>?_) AllReady.nil;go_simp;refine hK _ _ ?_;clear hK K;(try simp only[Act.put,aT,aU,aV]);refine wpAny_done (by kernel_rfl) ?_ _;go_wp2_with fail;obtain⟨WQ,O⟩:=aj ((((D.setCell ⟨bt,0,none⟩ (.int .i64 zz)).setCell ⟨bt,1,none⟩ (.int .i64 0)).setCell ⟨bt,2,none⟩ (.string ⟨#[]⟩)).setCell ⟨bt,3,none⟩ (.slice (some ⟨D.heap.size,0,none⟩) 2 2));rw[← O];have N_:WQ.heap.size=D.heap.size:=by rw[O]; simp
       have aw:WQ.heap[bt]?=some (.cells #[.int .i64 zz,.int .i64 0,.string ⟨#[]⟩,.slice (some ⟨D.heap.size,0,none⟩) 2 2] 64 (0,0)):=by rw[O];exact ni bZ
       have ar:iZ WQ R A l.length c j2 d:=by
        have hne:R≠bt:=fun h=>ax h.symm;rw[O];unfold iZ;rw[iw _ ⟨bt,3,none⟩ R _ hne,iw _ ⟨bt,2,none⟩ R _ hne,iw _ ⟨bt,1,none⟩ R _ hne,iw _ ⟨bt,0,none⟩ R _ hne];exact o7
       have ay:aR (fun q=>w1.heap.size≤q∧q≠bt) D WQ:=by
        rw[O];exact(((aR.refl.set (fun h=>h.2 rfl) _).set (fun h=>h.2 rfl) _).set (fun h=>h.2 rfl) _).set (fun h=>h.2 rfl) _
       have af:=J.only.trans (Ai.trans Fy)
       have ao:Only (fun q=>q=R) w1 WQ:=by
        rw[O];exact dU (dU (dU (dU af G _) G _) G _) G _
       clear O;rw[HN,AV];obtain⟨Y,OJ⟩:=aj (WQ.alloc (.cells #[.int .i64 t.op,.int .i64 t.num,.string t.name,.slice A' t.kids.length c',.int .i64 t2.op,.int .i64 t2.num,.string t2.name,.slice A2 t2.kids.length c2] 64));rw[←OJ];have iY:=dz OJ;have b9:Y.heap.size=D.heap.size+1:=by rw[OJ];simp[N_]
       have GY:Y.heap[D.heap.size]?=some (.cells (bY [⟨t,A',c'⟩,⟨t2,A2,c2⟩]).toArray 64 (0,0)):=by rw[OJ,←N_];exact eu WQ _
       have ae:=ar.below iY (by omega);have ab:=ao.trans (Ob (F:=fun q=>q=R) iY);have nS:aR (fun q=>w1.heap.size≤q∧q≠bt) D Y:=ay.trans (Kb iY);have ag:=(iY.block bt (by omega)).trans aw
       have aS:=Hd (fun q=>GX.next (j2:=j2) (t2:=t2) (W:=Y.drewN q) (op:=zz) J (by omega) rfl (Ai.trans Fy) (by omega) uH (jm.keep Kr (fun q _ h=>by omega)) ⟨nS.size,nS.block⟩ (ae.drewN q) (ab.drewN q) ag (lr _) (fun k v hv=>by
        have hr:(Y.drewN q).heap[D.heap.size]?=some (.cells (bY [⟨t,A',c'⟩,⟨t2,A2,c2⟩]).toArray 64 (0,0)):=GY;rw[cR _ _ k _ _ (0,0) hr]
        simpa using hv) (by show _<Y.heap.size;omega))
       have ai:=AX j2 Y ae (wH.trans ab) uH;have bd:=Hd ai;clear OJ iY GY ae ab nS ag ai N_ aw ar ay af ao y0 y1 y2 y3 xq;refine bd.mono ?_;rintro e w7 ⟨rfl,q,aE⟩;have I:=aS q;rw[←aE]at I;have a6:=Hd I;have a8:=DV I.bN;have ba:=DV J.bN
       have Jd:Hid (jK l one ops fu (dD zz [t,t2]) j2=r):=by
        show _=_;rw[a7];exact OH
       clear I aE;go_wp2_with fail
       go_roundw
       case rel=>exact⟨dD zz [t,t2],some ⟨D.heap.size,0,none⟩,2,j2,fu,rfl,a6,by omega,Jd⟩
       case measure=>rw[a8,ba];omega
      ·refine AllReady.cons (o:={dst:=some 31,op:=Op.call {callee:=Callee.value (Operand.tmp 30),args:=#[],argTypes:=#[]},type:=64,pos := "ttext.go:287",after:=#[{on:=2,ground:=Ground.data}],guard:=none}) rfl (fun K hK=>?_) AllReady.nil;go_simp;(with_reducible refine(Cx.out).mono ?_);intro e D hq;obtain⟨⟨A2,c2,rfl,av⟩,bh,uH,uI,iX⟩:=hq;obtain⟨n3,AV⟩:=ak t2.kids.length;unfold Tm.val;rw[← AV];have Fy:=Lib.hid iX;have jm:=Lib.hid av;have o7:=Lib.hid uI;have b8:=iX.size;have b1:bt<D.heap.size:=by omega
       have bZ:=Lib.hid ((iX.block bt (by omega) ax).trans aQ);clear av uI iX y0 y1 y2 y3;obtain⟨y0,y1,y2,y3,xq⟩:=q4 bZ;refine hK _ _ ?_;clear hK K;(try simp only[Act.put,aT,aU,aV]);refine wpAny_ready (rs:=[1]) (by kernel_rfl) (by simp) ?_;refine AllReady.cons (o:={dst:=some 29,op:=Op.load 64 (Operand.tmp 7),type:=64,pos := "ttext.go:287",after:=#[],guard:=none}) rfl (fun K hK=>?_) AllReady.nil;go_simp;refine hK _ _ ?_;clear hK K;(try simp only[Act.put,aT,aU,aV]);refine wpAny_ready (rs:=[4]) (by kernel_rfl) (by simp) ?_;refine AllReady.cons (o:={dst:=some 32,op:=Op.buildSlice 25 2 #[(0,Operand.tmp 29),(1,Operand.tmp 31)],type:=25,pos := "ttext.go:287",after:=#[{on:=1,ground:=Ground.data},{on:=3,ground:=Ground.data}],guard:=none}) rfl (fun K hK=>?_) AllReady.nil;go_simp;refine hK _ _ ?_;clear hK K;(try simp only[Act.put,aT,aU,aV]);refine wpAny_ready (rs:=[5]) (by kernel_rfl) (by simp) ?_;refine AllReady.cons (o:={dst:=some 33,op:=Op.build 64 #[(0,Operand.tmp 28),(3,Operand.tmp 32)],type:=64,pos := "ttext.go:287",after:=#[{on:=0,ground:=Ground.data},{on:=4,ground:=Ground.data}],guard:=none}) rfl (fun K hK=>?_) AllReady.nil;go_simp;refine hK _ _ ?_;clear hK K;(try simp only[Act.put,aT,aU,aV]);refine wpAny_ready (rs:=[6]) (by kernel_rfl) (by simp) ?_
       refine AllReady.cons (o:={dst:=none,op:=Op.store 64 (Operand.tmp 7) (Operand.tmp 33),type:=0,pos := "ttext.go:287",after:=#[{on:=5,ground:=Ground.data},{on:=3,ground:=Ground.chain},{on:=0,ground:=Ground.phase},{on:=1,ground:=Ground.phase},{on:=2,ground:=Ground.phase},{on:=3,ground:=Ground.phase},{on:=4,ground:=Ground.phase},{on:=5,ground:=Ground.phase}],guard:=none}) rfl (fun K hK=>?_) AllReady.nil;go_simp;refine hK _ _ ?_;clear hK K;(try simp only[Act.put,aT,aU,aV]);refine wpAny_done (by kernel_rfl) ?_ _;go_wp2_with fail;obtain⟨WQ,O⟩:=aj ((((D.setCell ⟨bt,0,none⟩ (.int .i64 zz)).setCell ⟨bt,1,none⟩ (.int .i64 0)).setCell ⟨bt,2,none⟩ (.string ⟨#[]⟩)).setCell ⟨bt,3,none⟩ (.slice (some ⟨D.heap.size,0,none⟩) 2 2));rw[← O];have N_:WQ.heap.size=D.heap.size:=by rw[O]; simp
       have aw:WQ.heap[bt]?=some (.cells #[.int .i64 zz,.int .i64 0,.string ⟨#[]⟩,.slice (some ⟨D.heap.size,0,none⟩) 2 2] 64 (0,0)):=by rw[O];exact ni bZ
       have ar:iZ WQ R A l.length c j2 d:=by
        have hne:R≠bt:=fun h=>ax h.symm;rw[O];unfold iZ;rw[iw _ ⟨bt,3,none⟩ R _ hne,iw _ ⟨bt,2,none⟩ R _ hne,iw _ ⟨bt,1,none⟩ R _ hne,iw _ ⟨bt,0,none⟩ R _ hne];exact o7
       have ay:aR (fun q=>w1.heap.size≤q∧q≠bt) D WQ:=by
        rw[O];exact(((aR.refl.set (fun h=>h.2 rfl) _).set (fun h=>h.2 rfl) _).set (fun h=>h.2 rfl) _).set (fun h=>h.2 rfl) _
       have af:=J.only.trans (Ai.trans Fy)
       have ao:Only (fun q=>q=R) w1 WQ:=by
        rw[O];exact dU (dU (dU (dU af G _) G _) G _) G _
       clear O;rw[HN,AV];obtain⟨Y,OJ⟩:=aj (WQ.alloc (.cells #[.int .i64 t.op,.int .i64 t.num,.string t.name,.slice A' t.kids.length c',.int .i64 t2.op,.int .i64 t2.num,.string t2.name,.slice A2 t2.kids.length c2] 64));rw[←OJ];have iY:=dz OJ;have b9:Y.heap.size=D.heap.size+1:=by rw[OJ];simp[N_]
       have GY:Y.heap[D.heap.size]?=some (.cells (bY [⟨t,A',c'⟩,⟨t2,A2,c2⟩]).toArray 64 (0,0)):=by rw[OJ,←N_];exact eu WQ _
       have ae:=ar.below iY (by omega);have ab:=ao.trans (Ob (F:=fun q=>q=R) iY);have nS:aR (fun q=>w1.heap.size≤q∧q≠bt) D Y:=ay.trans (Kb iY);have ag:=(iY.block bt (by omega)).trans aw
       have aS:=Hd (fun q=>GX.next (j2:=j2) (t2:=t2) (W:=Y.drewN q) (op:=zz) J (by omega) rfl (Ai.trans Fy) (by omega) uH (jm.keep Kr (fun q _ h=>by omega)) ⟨nS.size,nS.block⟩ (ae.drewN q) (ab.drewN q) ag (lr _) (fun k v hv=>by
        have hr:(Y.drewN q).heap[D.heap.size]?=some (.cells (bY [⟨t,A',c'⟩,⟨t2,A2,c2⟩]).toArray 64 (0,0)):=GY;rw[cR _ _ k _ _ (0,0) hr]
        simpa using hv) (by show _<Y.heap.size;omega))
       have ai:=AX j2 Y ae (wH.trans ab) uH;have bd:=Hd ai;clear OJ iY GY ae ab nS ag ai N_ aw ar ay af ao y0 y1 y2 y3 xq;refine bd.mono ?_;rintro e w7 ⟨rfl,q,aE⟩;have I:=aS q;rw[←aE]at I;have a6:=Hd I;have a8:=DV I.bN;have ba:=DV J.bN
       have Jd:Hid (jK l one ops fu (dD zz [t,t2]) j2=r):=by
        show _=_;rw[a7];exact OH
       clear I aE;go_wp2_with fail
       go_roundw
       case rel=>exact⟨dD zz [t,t2],some ⟨D.heap.size,0,none⟩,2,j2,fu,rfl,a6,by omega,Jd⟩
       case measure=>rw[a8,ba];omega
end Go.Proofs.YtkhoeoilamddaaaGreatDoor
