/- Walks and plain words: PrsD PrsE. -/
import Derived.Test.YtkhoeoilamddaaaGreatDoorYMtB
import Derived.Laws.OwnMore
namespace Go.Proofs.YtkhoeoilamddaaaGreatDoor
open Go.RowKit
set_option linter.unusedVariables false
set_option maxRecDepth 100000
set_option maxHeartbeats 8000000
structure jo where
 t:Tm
 A:Option Addr
 c:Nat
def jo.cells(e:jo):List Value:=[.int .i64 e.t.op,.int .i64 e.t.num,.string e.t.name,.slice e.A e.t.kids.length e.c]
def bY(l:List jo):List Value:=l.flatMap jo.cells
theorem Fx(l:List jo)(e:jo):bY (l++[e])=bY l++e.cells:=by simp[bY]
theorem tu:∀l:List jo,(bY l).length=l.length*4
 |[]=>rfl
 |e::r=>by
  have:=tu r;unfold bY at this⊢;rw[List.flatMap_cons,List.length_append,this,List.length_cons];simp[jo.cells];omega
theorem Xb(e:jo)(r:List jo):bY (e::r)=e.cells++bY r:=by simp[bY]
theorem jP{S:Nat→Prop}{w:World}{g:Nat}:∀(acc:List jo)(o:Nat),(∀j v,(bY acc)[j]?=some v→w.cell? ⟨g,o+j,none⟩=some v)→(∀e∈acc,aD S w e.A e.c e.t)→kZ S w g o (acc.map jo.t)
 |[],o,_,_=>by rw[List.map_nil,kZ];trivial
 |e::r,o,h,hv=>by
  rw[List.map_cons,kZ];rw[Xb]at h;have hc:∀j,j<4→(e.cells++bY r)[j]?=e.cells[j]?:=fun j hj=>List.getElem?_append_left (by show j<4;exact hj);refine⟨uG.mk (A:=e.A) (c:=e.c) (h 0 _ ((hc 0 (by omega)).trans rfl)) (h 1 _ ((hc 1 (by omega)).trans rfl)) (h 2 _ ((hc 2 (by omega)).trans rfl)) (h 3 _ ((hc 3 (by omega)).trans rfl)) (hv e (by simp)),jP r (o+4) (fun j v hj=>?_) (fun x hx=>hv x (by simp[hx]))⟩;have:=h (4+j) v (by rw[List.getElem?_append_right (by show 4≤4+j;omega)];show(bY r)[4+j-4]?=some v;rw[Nat.add_sub_cancel_left];exact hj);rw[show o+4+j=o+(4+j) by omega];exact this
theorem Cv:(Tryz.prog.info? 64).map (fun i=>(i.zero,i.size,i.bytes))=some (some (.agg #[.int .i64 0,.int .i64 0,.string ⟨#[]⟩,.slice none 0 0]),4,56):=by kernel_rfl
theorem rO{l:List Tok}{i:Nat}:∀{ops:List Int},au l i ops≠0→i<l.length
 |[],h=>absurd rfl h
 |op::r,h=>by
  rw[au]at h
  by_cases hc:(if op=17 then ah l i 3 [109,111,100]else ah l i 4 (iy op))=true
  ·rcases Nat.lt_or_ge i l.length with h1|h1
   ·exact h1
   ·exfalso
    have hn:l[i]?=none:=List.getElem?_eq_none h1;unfold ah at hc;rw[hn]at hc
    split at hc<;>cases hc
  ·rw[iN hc]at h;exact rO h
structure JU(R:Nat)(A:Option Addr)(c d:Nat)(l:List Tok)(i B0:Nat)(w1 wr:World)(v:Value)(acc:List jo)(j:Nat):Prop where
 pos:0<acc.length
 own:wr.ownsRow B0 64 4 v acc.length (bY acc)
 vals:∀e∈acc,aD (fun q=>B0≤q∧v.ownBlock≠some q) wr e.A e.c e.t
 bN:iZ wr R A l.length c j d
 only:Only (fun q=>q=R) w1 wr
 cnt:acc.length≤j
 ij:i<j
 jl:j≤l.length
theorem JU.first{R c d i j:Nat}{A A':Option Addr}{c':Nat}{l:List Tok}{w1 w4:World}{t:Tm}(hR:R<w1.heap.size)(hij:i<j)(hj:j≤l.length)(hV:aD (fun q=>w1.heap.size≤q) w4 A' c' t)(hr:iZ w4 R A l.length c j d)(ho:Only (fun q=>q=R) w1 w4) :
 JU R A c d l i w1.heap.size w1 (w4.alloc (.cells #[.int .i64 t.op,.int .i64 t.num,.string t.name,.slice A' t.kids.length c'] 64)) (.slice (some ⟨w4.heap.size,0,none⟩) 1 1) [⟨t,A',c'⟩] j:=by
 have hs:=ho.size;have hb:Below w4.heap.size w4 (w4.alloc (.cells #[.int .i64 t.op,.int .i64 t.num,.string t.name,.slice A' t.kids.length c'] 64)):=(Br _ _).alloc (lr _) _;refine⟨by simp,World.ownsRow_lit w4 #[.int .i64 t.op,.int .i64 t.num,.string t.name,.slice A' t.kids.length c'] 1 hs (by unfold maxLen;omega) rfl,fun e he=>?_,hr.below hb hr.lt,ho.jV hb hs,by simp;omega,hij,hj⟩;rw[List.mem_singleton.1 he]
 exact hV.keep (Kb hb) (fun q hq h=>⟨h,fun e=>by
  have:w4.heap.size=q:=by simpa[Value.ownBlock]using e
  omega⟩)
theorem JU.next{R c d i j j' B0:Nat}{A A':Option Addr}{c':Nat}{l:List Tok}{w1 wr w4 w6:World}{o:Obj}{v v':Value}{acc:List jo}{t:Tm}(h:JU R A c d l i B0 w1 wr v acc j)(hRB:R<B0)(hB1:B0=w1.heap.size)
 (ho:Only (fun q=>q=R) wr w4) (hj:j<j') (hjl:j'≤l.length) (hr:iZ w4 R A l.length c j' d) (hV:aD (fun q=>wr.heap.size≤q) w4 A' c' t)
 (hown:w6.ownsRow B0 64 4 v' (acc.length+1) (bY acc++(jo.mk t A' c').cells)) (hg:(w4.alloc o).grownBy w6 v.ownBlock) (hat:v'.ownBlock=v.ownBlock∨∀q,v'.ownBlock=some q→w4.heap.size≤q) :
 JU R A c d l i B0 w1 w6 v' (acc++[⟨t,A',c'⟩]) j':=by
 have hs4:=ho.size;have hs1:=h.only.size;have hlt:∀q,v.ownBlock=some q→B0≤q∧q<wr.heap.size:=fun q hq=>h.own.lt q hq;have hal:Below w4.heap.size w4 (w4.alloc o):=(Br _ _).alloc (lr _) o;have hk:∀q,v.ownBlock≠some q→q<w4.heap.size→w6.heap[q]?=w4.heap[q]?:=fun q hq hl=>(hg.block q (by simp;omega) (fun e=>hq e.symm)).trans (hal.block q hl);have hs6:w4.heap.size≤w6.heap.size:=by have:=hg.size;simp at this;omega
 have hRv:v.ownBlock≠some R:=fun e=>by have:=(hlt R e).1;omega
 refine⟨by simp,by rw[List.length_append,Fx];exact hown,fun e he=>?_,(hk R hRv hr.lt).trans hr,?_,by rw[List.length_append];have:=h.cnt;simp;omega,by have:=h.ij;omega,hjl⟩
 ·have hfin:∀q,q<w4.heap.size→(B0≤q∧v.ownBlock≠some q)→(B0≤q∧v'.ownBlock≠some q):=fun q hq ⟨h1,h2⟩=>⟨h1,fun e=>by
   rcases hat with h3|h3
   ·exact h2 (h3 ▸ e)
   ·have:=h3 q e;omega⟩
  rcases List.mem_append.1 he with he|he
  ·have h1:=(h.vals e he).keep (S':=fun q=>(B0≤q∧v.ownBlock≠some q)) (aR.cO ho (fun h=>by have:=h.1;omega)) (fun _ _ h=>h);exact h1.keep ⟨hs6,fun q hq hl=>hk q hq.2 hl⟩ hfin
  ·rw[List.mem_singleton.1 he];have h1:=hV.keep (S':=fun q=>(B0≤q∧v.ownBlock≠some q)) Kr (fun q _ h=>⟨by omega,fun e=>by have:=(hlt q e).2;omega⟩);exact h1.keep ⟨hs6,fun q hq hl=>hk q hq.2 hl⟩ hfin
 ·have h1:=h.only.trans ho;refine⟨by rw[hg.os];exact h1.os,by rw[hg.tape];exact h1.tape,by rw[hg.output];exact h1.output,Nat.le_trans h1.size hs6,fun q hq hne=>?_⟩;rw[hk q (fun e=>by have:=(hlt q e).1;omega) (by omega)];exact h1.block q hq hne
def afY(R:Nat)(w:World):Nat:=match w.cell? ⟨R,1,none⟩with
 |some (.int _ z)=>z.toNat
 |_=>0
theorem DV{R n c i d:Nat}{A:Option Addr}{w:World}(h:iZ w R A n c i d):afY R w=i:=by unfold afY;rw[h.c1];simp
theorem I_{l:List Tok}{op:Int}{one:jN}{fuel j:Nat}{acc:List Tm}(h:au l j [op]=0):lD l op one fuel acc j=.ok (ql op acc) j:=by
 cases fuel with
 |zero=>rfl
 |succ k=>rw[lD,iP h]
theorem QZ{l:List Tok}{op:Int}{one:jN}{fuel j:Nat}{acc:List Tm}(h:au l j [op]≠0):lD l op one (fuel+1) acc j=(one (j+1)).then fun t j=>lD l op one fuel (acc++[t]) j:=by rw[lD,iN h]
theorem Cw{op:Int}{l:List Tm}(h:l.length≠1):ql op l=dD op l:=by
 unfold ql
 split
 ·exact absurd rfl h
 ·rfl
theorem Ja{R:Nat}{w W:World}{v0 v1 v2 v3:Value}(h:Only (fun q=>q=R) w W):Only (fun q=>q=R) w ((((W.setCell ⟨w.heap.size,0,none⟩ v0).setCell ⟨w.heap.size,1,none⟩ v1).setCell ⟨w.heap.size,2,none⟩ v2).setCell ⟨w.heap.size,3,none⟩ v3):=by
 refine⟨h.os,h.tape,h.output,by simpa using h.size,fun q hq hf=>?_⟩;have hne:q≠w.heap.size:=by omega
 rw[iw _ ⟨w.heap.size,3,none⟩ q _ hne,iw _ ⟨w.heap.size,2,none⟩ q _ hne,iw _ ⟨w.heap.size,1,none⟩ q _ hne,iw _ ⟨w.heap.size,0,none⟩ q _ hne];exact h.block q hq hf
theorem oq{R c d i j:Nat}{A A':Option Addr}{c':Nat}{l:List Tok}{w W:World}{t:Tm}(v0 v1 v2 v3:Value)(hij:i<j)(hjl:j≤l.length)(Og:R<w.heap.size)(hR:iZ W R A l.length c j d)(hO:Only (fun q=>q=R) w W)(hV:aD (fun q=>w.heap.size<q) W A' c' t) :
 PQ R A c d l i (.ok t j) w (.returned (t.val A' c')) ((((W.setCell ⟨w.heap.size,0,none⟩ v0).setCell ⟨w.heap.size,1,none⟩ v1).setCell ⟨w.heap.size,2,none⟩ v2).setCell ⟨w.heap.size,3,none⟩ v3):=by
 refine⟨⟨A',c',rfl,hV.keep ((((aR.refl.set (by omega) _).set (by omega) _).set (by omega) _).set (by omega) _) (fun q _ h=>Nat.le_of_lt h)⟩,hij,hjl,?_,Ja hO⟩;have hne:R≠w.heap.size:=by omega
 unfold iZ;rw[iw _ ⟨w.heap.size,3,none⟩ R _ hne,iw _ ⟨w.heap.size,2,none⟩ R _ hne,iw _ ⟨w.heap.size,1,none⟩ R _ hne,iw _ ⟨w.heap.size,0,none⟩ R _ hne];exact hR
theorem Ui{R B n sz:Nat}{T:TypeId}{w w':World}{v:Value}{xs:List Value}(h:w.ownsRow B T sz v n xs)(ho:Only (fun q=>q=R) w w')(hR:R<B):w'.ownsRow B T sz v n xs:=
 h.kept (row:=some R) ⟨ho.os,ho.tape,ho.output,ho.size,fun k hk hne=>ho.block k hk (fun e=>hne (by rw[e]))⟩ (by
  cases hv:v.ownBlock with
  |none=>exact .inl rfl
  |some q=>exact .inr (fun e=>by have:=(h.lt q hv).1;injection e with e;omega))
theorem Pt(R:Nat)(A:Option Addr)(c d:Nat)(l:List Tok)(K:FuncId)(x:Value)(m:Bool)(Inv:World→Prop)(one:jN)(op:Int)(i:Nat)(w:World)(hrun:∀args W,(callFunc K args).run Tryz.prog W=.ok (.enter K args) W)
 (hInv:∀w w',Inv w→Only (fun q=>q=R) w w'→Inv w') (hF:KR R A c d l K x Inv one) (hi:i≤l.length) (hR:iZ w R A l.length c i d) (hP:iI w R A c l) (hw:Inv w) :
 Calls Tryz.prog 171 #[.pointer (some ⟨R,0,none⟩),.int .i64 op,abI m K x] w (PQ R A c d l i (many l op one i) w):=by
 obtain⟨i0,hi0,hz0,hz1,hz2⟩:=info_parts Cv;have hlen:=hP.len;have fC:=hR.lt;obtain⟨w1,hw1⟩:=aj (w.alloc (.cells #[.int .i64 0,.int .i64 0,.string ⟨#[]⟩,.slice none 0 0] 64));have hb1:=dz hw1;have hs1:w1.heap.size=w.heap.size+1:=by rw[hw1];simp
 have hbx:w1.heap[w.heap.size]?=some (.cells #[.int .i64 0,.int .i64 0,.string ⟨#[]⟩,.slice none 0 0] 64 (0,0)):=by rw[hw1];exact eu w _
 have ho1:Only (fun q=>q=R) w w1:=Ob hb1;have hc1:=hF i w1 hi (hR.below hb1 fC) (hP.only ho1) (hInv w w1 hw ho1);obtain⟨r1,hr1⟩:=aj (one i);obtain⟨F,vU⟩:=aj (PQ R A c d l i (many l op one i) w);have bE:Hid (F=PQ R A c d l i (r1.then fun t j=>lD l op one l.length [t] j) w):=by show _=_;rw[vU,hr1];rfl
 rw[←vU];rw[←hr1]at hc1;have HC1:=Hd hc1;have HW1:=Hd hw1;have HB1:=Hd hb1;have wH:=Hd ho1;have qH:=Hd hbx;have Am:=Hd hF;have adt:=Hd hInv;have HP:=Hd hP;have Oe:=Hd hw;clear hc1 hr1 vU hw1 hb1 ho1 hbx hF hInv hP hw hR;cases m
 all_goals
  unfold abI;simp only[if_true,Bool.false_eq_true,if_false];go_in;go_wp2_with fail;rw[←HW1];refine HC1.mono ?_;intro e w4 hq
  cases r1 with
  |bad j x=>
   obtain⟨rfl,iC⟩:=hq;refine(show _∧_ from⟨rfl,?_⟩);rw[bE];exact⟨rfl,wH.trans iC⟩
  |ok t j=>
   obtain⟨⟨A',c',rfl,hV⟩,hij,hjl,vD,iC⟩:=hq;have HM:=Hd (JU.first (i:=i) (by omega) hij hjl hV vD iC);obtain⟨n2,hn2⟩:=aj t.kids.length;unfold Tm.val;rw[←hn2];rw[←hn2]at HM;have dJ:Hid (F=PQ R A c d l i (lD l op one l.length [t] j) w):=bE;obtain⟨r,HR⟩:=ak (lD l op one l.length [t] j);rw[←HR]at dJ;clear hV vD iC hn2 hij;go_wp2_with fail
   go_loopw [7] (fun sv wr=>∃(acc:List jo)(j fuel:Nat),JU R A c d l i w1.heap.size w1 wr sv acc j∧l.length≤fuel+j∧lD l op one fuel (acc.map jo.t) j=r) (fun _ wr=>l.length-afY R wr)
   case atStart=>exact⟨[⟨t,A',c'⟩],j,l.length,HM,by omega,HR.symm⟩
   case round=>
    obtain⟨acc,j,fuel,hM,hfu,hre⟩:=hrel
    rcases hM.own.2 with⟨-,h9⟩|⟨g,cap,cur,rfl,hBg,hg,hnc,hcm,hcs,htk⟩
    ·have:=hM.pos;omega
    have sH:=Hd hM;have pR:=Hd hre;have hgl:g<wr.heap.size:=lH hg;obtain⟨n,hn⟩:=aj acc.length;have HN:=Hd hn;have vE:=hM.jl;have hsr:=hM.only.size;have hbW:Below wr.heap.size wr (wr.alloc (.cells #[.int .i64 op] 3)):=(Br _ _).alloc (lr _) _;have qj:=Hd (zR R A c j d l wr.heap.size 1 [op] (wr.alloc (.cells #[.int .i64 op] 3)) (hM.bN.below hbW hM.bN.lt) ((HP.only (wH.trans hM.only)).only (Ob hbW)) (by omega) (tY wr [op]) (by simp) (by simp));have hRr:=hM.bN.lt;rw[←hn];rw[←hn]at hnc;clear hM hre hg hcs htk hn;have Xc:=(sH.only.block w.heap.size (by omega) (by omega)).trans qH;obtain⟨v0,v1,v2,v3,zq⟩:=q4 Xc;have afZ:=Hd Xc;have Jb:w.heap.size<wr.heap.size:=by omega
    clear Xc
    by_cases hz:au l j [op]=0
    ·have HRR:Hid (r=.ok (ql op (acc.map jo.t)) j):=by show _=_;rw[←pR];exact I_ hz
     rw[hz]at qj;clear hz
     by_cases hn1:n=1
     ·subst hn1
      obtain⟨e1,he1⟩:∃e1,acc=[e1]:=by
       match acc,HN with
       |[e1],_=>exact⟨e1,rfl⟩
      subst he1
      have hcl:∀jj vv,(bY [e1])[jj]?=some vv→wr.cell? ⟨g,jj,none⟩=some vv:=fun jj vv hv=>by
       have h:=sH.own.cells (g:=g) rfl jj vv hv;rw[addr_add,Nat.zero_add]at h;exact h
      have y0:=hcl 0 _ rfl;have y1:=hcl 1 _ rfl;have y2:=hcl 2 _ rfl;have y3:=hcl 3 _ rfl;obtain⟨ne,vM⟩:=ak e1.t.kids.length;rw[←vM]at y3;clear hcl;go_wp2_with fail;refine qj.mono ?_;rintro e w5 ⟨rfl,q,gH⟩;rw[gH];clear gH;go_wp2_with fail;have HWX:Hid (Only (fun q=>q=R) wr ((wr.alloc (.cells #[.int .i64 op] 3)).drewN q)):=(Ob ((Br _ _).alloc (lr _) _)).drewN q;obtain⟨WX,hWX⟩:=aj ((wr.alloc (.cells #[.int .i64 op] 3)).drewN q)
      have ahv:Hid (iZ WX R A l.length c j d):=by
       show iZ _ _ _ _ _ _ _;rw[hWX];exact(sH.bN.below ((Br wr.heap.size wr).alloc (lr _) (.cells #[.int .i64 op] 3)) hRr).drewN q
      rw[←hWX]at HWX⊢;clear hWX;have hbW:=(HWX.block w.heap.size (by omega) (by omega)).trans afZ;refine bR (Gg (ni hbW)) rfl ?_;rw[dJ,HRR];have hRX:iZ WX R A l.length c j d:=ahv;have hOX:=wH.trans (sH.only.trans HWX);have h:=oq (A':=e1.A) (c':=e1.c) (.int .i64 e1.t.op) (.int .i64 e1.t.num) (.string e1.t.name) (.slice e1.A ne e1.c) sH.ij sH.jl fC hRX hOX ((sH.vals e1 (by simp)).keep (aR.cO HWX (fun h=>by have:=h.1;omega)) (fun q _ h=>by have:=h.1;omega));unfold Tm.val at h;rw[←vM]at h;exact h
     ·have alA:((n:Int)==1)=false:=by simp;omega
      have Iz:Hid (n≠1):=hn1;clear hn1;go_wp2_with fail;refine qj.mono ?_;rintro e w5 ⟨rfl,q,gH⟩;rw[gH];clear gH;go_wp2_with fail;have HWX:Hid (Only (fun q=>q=R) wr ((wr.alloc (.cells #[.int .i64 op] 3)).drewN q)):=(Ob ((Br _ _).alloc (lr _) _)).drewN q;obtain⟨WX,hWX⟩:=aj ((wr.alloc (.cells #[.int .i64 op] 3)).drewN q)
      have ahv:Hid (iZ WX R A l.length c j d):=by
       show iZ _ _ _ _ _ _ _;rw[hWX];exact(sH.bN.below ((Br wr.heap.size wr).alloc (lr _) (.cells #[.int .i64 op] 3)) hRr).drewN q
      rw[←hWX]at HWX⊢;clear hWX;have hbW:=(HWX.block w.heap.size (by omega) (by omega)).trans afZ;refine bR (Gg (ni hbW)) rfl ?_;rw[dJ,HRR];have hRX:iZ WX R A l.length c j d:=ahv;have hOX:=wH.trans (sH.only.trans HWX);have hl1:(acc.map jo.t).length=n:=by rw[List.length_map,←HN]
      rw[Cw (by rw[hl1];exact Iz)]
      have h:=oq (t:=dD op (acc.map jo.t)) (A':=some ⟨g,0,none⟩) (c':=cap) (.int .i64 op) (.int .i64 0) (.string ⟨#[]⟩) (.slice (some ⟨g,0,none⟩) n cap) sH.ij sH.jl fC hRX hOX ⟨by show(acc.map jo.t).length≤cap;rw[hl1];exact hnc,hcm,by show 0≤_;exact zl _,.inr ⟨g,0,rfl,by show w.heap.size<g;omega,lL hgl HWX.size,by
       refine jP acc 0 (fun jj vv hv=>?_) (fun e9 he9=>(sH.vals e9 he9).keep (aR.cO HWX (fun h=>by have:=h.1;omega)) (fun q _ h=>by have:=h.1;omega));have h:=sH.own.cells (g:=g) rfl jj vv hv;rw[addr_add]at h;rw[HWX.cell hgl (by omega)]
       exact h⟩⟩
      unfold Tm.val at h;have hk:(dD op (acc.map jo.t)).kids.length=n:=hl1;rw[hk]at h;exact h
    ·have hzb:(au l j [op] != 0)=true:=by simpa using hz
     have adu:=rO hz;have HZ:Hid (au l j [op]≠0):=hz;obtain⟨zz,hzz⟩:=aj (au l j [op]);rw[←hzz]at qj hzb;have c1:=sH.bN.c1;have f1:=sH.bN.frozen 1;clear hz hzz;go_wp2_with fail;refine qj.mono ?_;rintro e w5 ⟨rfl,q,gH⟩;rw[gH];clear gH;go_wp2_with fail;obtain⟨W3,hW3⟩:=aj (((wr.alloc (.cells #[.int .i64 op] 3)).drewN q).setCell ⟨R,1,none⟩ (.int .i64 ((j:Int)+1)));have hal:=sH.bN.below ((Br wr.heap.size wr).alloc (lr _) (.cells #[.int .i64 op] 3)) hRr;have hwn:=jf (m:=q) hal;rw[←hW3]at hwn⊢;have ho3:Only (fun q=>q=R) wr W3:=(Ob ((Br wr.heap.size wr).alloc (lr _) _)).trans hwn.2.1;have hs3:=ho3.size;have hP3:=HP.only (wH.trans (sH.only.trans ho3));have hI3:=adt w W3 Oe (wH.trans (sH.only.trans ho3));have hcall:=Am (j+1) W3 (by omega) hwn.1 hP3 hI3;obtain⟨fu,rfl⟩:∃fu,fuel=fu+1:=⟨fuel-1,by omega⟩;have hgo:=pR.out;rw[QZ HZ]at hgo;obtain⟨r2,hr2⟩:=aj (one (j+1));rw[←hr2]at hgo hcall;have OH:=Hd hgo;have Cx:=Hd hcall;have Ai:=Hd ho3;clear hW3 hal hwn ho3 hP3 hI3 hcall hgo hr2 c1 f1 zq;refine Cx.mono ?_;intro e w6 hq
     cases r2 with
     |bad jb xb=>
      obtain⟨rfl,iX⟩:=hq;refine(show _∧_ from⟨rfl,?_⟩);rw[dJ,←OH];exact⟨rfl,wH.trans (sH.only.trans (Ai.trans iX))⟩
     |ok t2 j2=>
      obtain⟨⟨A2,c2,rfl,hV2⟩,hij2,uH,uI,iX⟩:=hq;have ai9:=Hd (Ai.trans iX);have jm:Hid (aD (fun q=>wr.heap.size≤q) w6 A2 c2 t2):=hV2.keep Kr (fun q _ h=>by omega);have o7:=Hd uI;have hs6:=iX.size;have Fy:=Hd (Ui sH.own ai9 (by omega));rw[←HN]at Fy;obtain⟨n3,AV⟩:=ak t2.kids.length;unfold Tm.val;rw[←AV];have hcnt:=sH.cnt;rw[←HN]at hcnt;clear hV2 uI iX
      go_wp2_with (at_builtin;refine wpList_append_lies _ (by rfl) _ _ _ (by rfl) w1.heap.size 64 i0 (.agg #[.int .i64 0,.int .i64 0,.string ⟨#[]⟩,.slice none 0 0]) 4 56 Tryz.underlying25 hi0 hz0 hz1 hz2 rfl (by decide) _ n _ (by rfl) (Fy.alloc _) ⟨w6.heap.size,0,none⟩ 1 1 [.int .i64 t2.op,.int .i64 t2.num,.string t2.name,.slice A2 n3 c2] (by rfl) rfl (World.news_of_block (eu w6 _)) (fun u hu=>by simp at hu;rcases hu with rfl|rfl|rfl|rfl<;>rfl) (by decide) ?c3 ?c4 ?c5 (w6.heap.size+1) (by simp) ?_)
      case c3=>unfold maxLen;omega
      case c4=>omega
      case c5=>first|omega|(simp;omega)
      intro g' cap' w7 dN dO ku yV
      have HM7:=Hd (JU.next (acc:=acc) (t:=t2) (A':=A2) (c':=c2) sH (by omega) rfl ai9 (by omega) uH o7 jm (by rw[←HN,hs1];unfold jo.cells;simp only;rw[←AV];exact dN) dO (by
       rcases ku with h|h
       ·exact .inl h.symm
       ·exact .inr (fun q hq=>by
         have:g'=q:=by simpa[Value.ownBlock]using hq
         omega)))
      have adv:=DV HM7.bN;have adw:=DV sH.bN;clear dN dO ku;go_wp2_with fail
      go_roundw
      case rel=>exact⟨acc++[⟨t2,A2,c2⟩],j2,fu,by have h:=HM7.out;rw[←HN]at *;exact h,by omega,by rw[List.map_append];exact OH⟩
      case measure=>rw[adv,adw];omega
set_option linter.unusedSimpArgs false
theorem dU{F:Nat→Prop}{w W:World}{b o:Nat}(h:Only F w W)(hb:w.heap.size≤b)(v:Value):Only F w (W.setCell ⟨b,o,none⟩ v):=by
 refine⟨h.os,h.tape,h.output,by simpa using h.size,fun q hq hf=>?_⟩;have hne:q≠b:=by omega
 rw[iw _ ⟨b,o,none⟩ q _ hne];exact h.block q hq hf
theorem left_stop{l:List Tok}{ops:List Int}{one:jN}{fuel j:Nat}{t:Tm}(h:au l j ops=0):jK l one ops fuel t j=.ok t j:=by
 cases fuel with
 |zero=>rfl
 |succ k=>rw[jK,iP h]
theorem Q6{l:List Tok}{ops:List Int}{one:jN}{fuel j:Nat}{t:Tm}(h:au l j ops≠0):jK l one ops (fuel+1) t j=(one (j+1)).then fun u j2=>jK l one ops fuel (dD (au l j ops) [t,u]) j2:=by rw[jK,iN h]
theorem uF.only{w w':World}{b R:Nat}{l:List Int}(h:uF w b l)(ho:Only (fun q=>q=R) w w')(hb:b<w.heap.size)(hne:b≠R):uF w' b l:=fun j z hz=>by rw[ho.cell hb hne];exact h j z hz
structure GX(R:Nat)(A:Option Addr)(c d:Nat)(l:List Tok)(i B0 bt:Nat)(w1 wr:World)(t:Tm)(A':Option Addr)(c' j:Nat):Prop where
 box:wr.heap[bt]?=some (.cells #[.int .i64 t.op,.int .i64 t.num,.string t.name,.slice A' t.kids.length c'] 64 (0,0))
 val:aD (fun q=>B0≤q∧q≠bt) wr A' c' t
 bN:iZ wr R A l.length c j d
 only:Only (fun q=>q=R) w1 wr
 ij:i<j
 jl:j≤l.length
theorem GX.first{R c d i j:Nat}{A A':Option Addr}{c':Nat}{l:List Tok}{w1 w4:World}{t:Tm}(hR:R<w1.heap.size)(hij:i<j)(hj:j≤l.length)(hV:aD (fun q=>w1.heap.size≤q) w4 A' c' t)(hr:iZ w4 R A l.length c j d)(ho:Only (fun q=>q=R) w1 w4)(q:Nat) :
 GX R A c d l i w1.heap.size w4.heap.size w1 ((w4.alloc (.cells #[.int .i64 t.op,.int .i64 t.num,.string t.name,.slice A' t.kids.length c'] 64)).drewN q) t A' c' j:=by
 have hb:Below w4.heap.size w4 (w4.alloc (.cells #[.int .i64 t.op,.int .i64 t.num,.string t.name,.slice A' t.kids.length c'] 64)):=(Br _ _).alloc (lr _) _;refine⟨eu w4 _,?_,(hr.below hb hr.lt).drewN q,(ho.trans (Ob hb)).drewN q,hij,hj⟩;have hk:aR (fun q=>w1.heap.size≤q) w4 ((w4.alloc (.cells #[.int .i64 t.op,.int .i64 t.num,.string t.name,.slice A' t.kids.length c'] 64)).drewN q):=⟨(Kb (S:=fun _=>True) hb).size,fun q _ hq=>hb.block q hq⟩;exact hV.keep hk (fun q hq h=>⟨h,by omega⟩)
theorem GX.next{R c d i j j2 B0 bt g:Nat}{A A' A2:Option Addr}{c' c2:Nat}{l:List Tok}{w1 wr w6 W:World}{t t2:Tm}{op:Int}(h:GX R A c d l i B0 bt w1 wr t A' c' j)(hRB:R<B0)(hB1:B0=w1.heap.size)(ho:Only (fun q=>q=R) wr w6)(hj:j<j2)(hj2:j2≤l.length)(hV2:aD (fun q=>wr.heap.size≤q) w6 A2 c2 t2)
 (hk:aR (fun q=>B0≤q∧q≠bt) w6 W) (hR:iZ W R A l.length c j2 d) (hO:Only (fun q=>q=R) w1 W) (hbx:W.heap[bt]?=some (.cells #[.int .i64 op,.int .i64 0,.string ⟨#[]⟩,.slice (some ⟨g,0,none⟩) 2 2] 64 (0,0)))
 (hg:w6.heap.size≤g) (hrow:∀k v,(bY [⟨t,A',c'⟩,⟨t2,A2,c2⟩])[k]?=some v→W.cell? ⟨g,k,none⟩=some v) (hgW:g<W.heap.size):GX R A c d l i B0 bt w1 W (dD op [t,t2]) (some ⟨g,0,none⟩) 2 j2:=by
 have hbl:bt<wr.heap.size:=lH h.box;have hs6:=ho.size;have hos:=h.only.size;refine⟨hbx,⟨lr _,by unfold maxLen;omega,zl _,.inr ⟨g,0,rfl,⟨by omega,by omega⟩,hgW,?_⟩⟩,hR,hO,by have:=h.ij;omega,hj2⟩;refine jP [⟨t,A',c'⟩,⟨t2,A2,c2⟩] 0 (fun k v hv=>by rw[Nat.zero_add];exact hrow k v hv) ?_;intro e he;have h1:aD (fun q=>B0≤q∧q≠bt) w6 A' c' t:=h.val.keep (aR.cO ho (fun h=>by have:=h.1;omega)) (fun q _ h=>h);have h2:aD (fun q=>B0≤q∧q≠bt) w6 A2 c2 t2:=hV2.keep Kr (fun q _ h=>⟨by omega,by omega⟩);simp only[List.mem_cons,List.not_mem_nil,or_false]at he
 rcases he with rfl|rfl
 ·exact h1.keep hk (fun q _ h=>h)
 ·exact h2.keep hk (fun q _ h=>h)
theorem Pv(R:Nat)(A:Option Addr)(c d:Nat)(l:List Tok)(K:FuncId)(x:Value)(m:Bool)(Inv:World→Prop)(one:jN)(bo co:Nat)(ops:List Int)(i:Nat)(w:World)(hrun:∀args W,(callFunc K args).run Tryz.prog W=.ok (.enter K args) W)
 (hInv:∀w w',Inv w→Only (fun q=>q=R) w w'→Inv w') (hF:KR R A c d l K x Inv one) (hi:i≤l.length) (hR:iZ w R A l.length c i d) (hP:iI w R A c l) (hw:Inv w) (hops:uF w bo ops) (hol:ops.length≤20) (hbo:bo<w.heap.size) (akf:bo≠R) :
 Calls Tryz.prog 202 #[.pointer (some ⟨R,0,none⟩),abI m K x,.slice (some ⟨bo,0,none⟩) ops.length co] w (PQ R A c d l i (left l one ops i) w):=by
 have hlen:=hP.len;have fC:=hR.lt;obtain⟨w1,hw1⟩:=aj (w.alloc (.cells #[.int .i64 0,.int .i64 0,.string ⟨#[]⟩,.slice none 0 0] 64));have hb1:=dz hw1;have hs1:w1.heap.size=w.heap.size+1:=by rw[hw1];simp
 have hbx:w1.heap[w.heap.size]?=some (.cells #[.int .i64 0,.int .i64 0,.string ⟨#[]⟩,.slice none 0 0] 64 (0,0)):=by rw[hw1];exact eu w _
 have ho1:Only (fun q=>q=R) w w1:=Ob hb1;have hc1:=hF i w1 hi (hR.below hb1 fC) (hP.only ho1) (hInv w w1 hw ho1);obtain⟨r1,hr1⟩:=aj (one i);obtain⟨F,vU⟩:=aj (PQ R A c d l i (left l one ops i) w);have bE:Hid (F=PQ R A c d l i (r1.then fun t j=>jK l one ops l.length t j) w):=by show _=_;rw[vU,hr1];rfl
 rw[←vU];rw[←hr1]at hc1
 have af0:∀(j:Nat)(W:World),iZ W R A l.length c j d→Only (fun q=>q=R) w W→j≤l.length→Calls Tryz.prog 146 #[.pointer (some ⟨R,0,none⟩),.slice (some ⟨bo,0,none⟩) ops.length co] W fun e w'=>e=.returned (.int .i64 (au l j ops))∧∃n,w'=W.drewN n:=fun j W hRW hOW hj=>
  zR R A c j d l bo co ops W hRW (hP.only hOW) (by omega) (hops.only hOW hbo akf) hol (lL hbo hOW.size)
 have AX:=Hd af0;have HC1:=Hd hc1;have HW1:=Hd hw1;have HB1:=Hd hb1;have wH:=Hd ho1;have qH:=Hd hbx;have Am:=Hd hF;have adt:=Hd hInv;have HP:=Hd hP;have Oe:=Hd hw;obtain⟨no,hno⟩:=aj ops.length;rw[←hno]at af0⊢;have AX:=Hd af0;clear hc1 hr1 vU hw1 hb1 ho1 hbx hF hInv hP hw hR af0 hops hno;cases m
 all_goals
  unfold abI;simp only[if_true,Bool.false_eq_true,if_false];go_in;go_wp2_with fail;rw[←HW1];refine HC1.mono ?_;intro e w4 hq
  cases r1 with
  |bad j x=>
   obtain⟨rfl,iC⟩:=hq;refine(show _∧_ from⟨rfl,?_⟩);rw[bE];exact⟨rfl,wH.trans iC⟩
  |ok t j=>
   obtain⟨⟨A',c',rfl,hV⟩,hij,hjl,vD,iC⟩:=hq;have hsg:=fun(W:World)(hW:W=w4.alloc (.cells #[.int .i64 t.op,.int .i64 t.num,.string t.name,.slice A' t.kids.length c'] 64))=>AX j W (by rw[hW];exact vD.below ((Br _ _).alloc (lr _) _) vD.lt) (by rw[hW];exact wH.trans (iC.trans (Ob ((Br _ _).alloc (lr _) _)))) hjl;have hm:=fun q=>GX.first (i:=i) (by omega) hij hjl hV vD iC q;obtain⟨n2,kU⟩:=ak t.kids.length;unfold Tm.val;rw[←kU];rw[←kU]at hsg;have qj:=Hd hsg;have HM:=Hd hm;have dJ:Hid (F=PQ R A c d l i (jK l one ops l.length t j) w):=bE;obtain⟨r,hr⟩:=aj (jK l one ops l.length t j);rw[←hr]at dJ;have HR:=Hd hr;clear hV vD hr hij hsg hm;go_wp2_with fail;refine(qj _ rfl).mono ?_;rintro e w5 ⟨rfl,q,gH⟩;have hmq:=HM q;rw[←kU,←gH]at hmq;have HMQ:=Hd hmq;have hbt:w4.heap.size≥w1.heap.size:=iC.size;clear hmq gH;obtain⟨bt,ahw⟩:=aj w4.heap.size;rw[←ahw]at hbt HMQ;go_wp2_with fail;rw[←ahw];clear ahw
   go_loopw [8] (fun sv wr=>∃(t:Tm)(A':Option Addr)(c' j fuel:Nat),sv=.int .i64 (au l j ops)∧GX R A c d l i w1.heap.size bt w1 wr t A' c' j∧l.length≤fuel+j∧jK l one ops fuel t j=r) (fun _ wr=>l.length-afY R wr)
   case atStart=>exact⟨t,A',c',j,l.length,rfl,HMQ,by omega,HR.symm⟩
   case round=>
    obtain⟨t,A',c',j,fuel,rfl,hM,hfu,hre⟩:=hrel;have sH:=Hd hM;have pR:=Hd hre;have vE:=hM.jl;have hsr:=hM.only.size;have hRr:=hM.bN.lt;have akg:bt<wr.heap.size:=lH hM.box;have Jb:w.heap.size<wr.heap.size:=by omega
    have Xc:=(hM.only.block w.heap.size (by omega) (by omega)).trans qH;have vF:=hM.box;obtain⟨n,HN⟩:=ak t.kids.length;rw[←HN]at vF;have afZ:=Hd Xc;have ahx:=Hd vF;obtain⟨v0,v1,v2,v3,zq⟩:=q4 Xc;obtain⟨y0,y1,y2,y3,xq⟩:=q4 vF;clear hM hre Xc vF
    by_cases hz:au l j ops=0
    ·have hzb:(au l j ops != 0)=false:=by simpa using hz
     have HRR:Hid (r=.ok t j):=by show _=_;rw[←pR];exact left_stop hz
     clear hz;obtain⟨zz,hzz⟩:=aj (au l j ops);rw[←hzz]at hzb⊢;clear hzz;go_wp2_with fail;refine bR (Gg (ni afZ)) rfl ?_;rw[dJ,HRR];have h:=oq (.int .i64 t.op) (.int .i64 t.num) (.string t.name) (.slice A' n c') sH.ij sH.jl fC sH.bN (wH.trans sH.only) (sH.val.keep Kr (fun q _ h=>by have:=h.1;omega));unfold Tm.val at h;rw[←HN]at h;exact h
    ·have hzb:(au l j ops != 0)=true:=by simpa using hz
     have adu:=rO hz;have HZ:Hid (au l j ops≠0):=hz;obtain⟨zz,HZZ⟩:=ak (au l j ops);rw[←HZZ]at hzb⊢;have c1:=sH.bN.c1;have f1:=sH.bN.frozen 1;have hbr:bt≠R:=by omega
     clear hz;go_wp2_with fail
     -- REGION
     refine wp_region_any (by kernel_rfl) ?_
     change wpAny _ _ _ _ _ _ _ (World.drew _)
     obtain⟨W3,hW3⟩:=aj ((wr.setCell ⟨R,1,none⟩ (.int .i64 ((j:Int)+1))).drew);have hwn:yU R A l.length c d (j+1) wr ((wr.setCell ⟨R,1,none⟩ (.int .i64 ((j:Int)+1))).drew):=zG (m:=1) (jf (m:=0) sH.bN);rw[← hW3]at hwn⊢;have ho3:Only (fun q=>q=R) wr W3:=hwn.2.1;have hs3:W3.heap.size=wr.heap.size:=hwn.2.2;have hP3:=HP.only (wH.trans (sH.only.trans ho3));have hI3:=adt w W3 Oe (wH.trans (sH.only.trans ho3));have hcall:=Am (j+1) W3 (by omega) hwn.1 hP3 hI3;have HB3:=Lib.hid ((ho3.block bt akg hbr).trans ahx);obtain⟨fu,rfl⟩:∃fu,fuel=fu+1:=⟨fuel-1,by omega⟩;have hgo:=pR;rw[Q6 HZ]at hgo;obtain⟨r2,hr2⟩:=aj (one (j+1));rw[← hr2]at hgo hcall;have OH:=Lib.hid hgo;have Cx:=Lib.hid hcall;have Ai:=Lib.hid ho3;clear hW3 hwn ho3 hP3 hI3 hcall hgo hr2 c1 f1 zq y0 y1 y2 y3 xq;obtain⟨y0,y1,y2,y3,xq⟩:=q4 HB3;clear xq;refine wpAny_take (i:=0) (oi:={dst:=some 28,op:=Op.move (Operand.tmp 8),type:=3,pos := "ttext.go:287",after:=#[],guard:=none}) (v:=?_) rfl (by kernel_rfl) (by kernel_rfl) (by kernel_rfl) (fun _ _ _ h=>h) (Or.inl ⟨by rfl,?hy⟩) ?_
     case hy=>intro w0;go_simp;(first|done|with_reducible rfl)
     (try simp only[Act.put,aT,aU,aV]);refine wpAny_take (i:=2) (oi:={dst:=some 30,op:=Op.move (Operand.tmp 1),type:=107,pos := "ttext.go:287",after:=#[],guard:=none}) (v:=?_) rfl (by kernel_rfl) (by kernel_rfl) (by kernel_rfl) (fun _ _ _ h=>h) (Or.inl ⟨by rfl,?hy⟩) ?_
     case hy=>intro w0;go_simp;(first|done|with_reducible rfl)
     try simp only[Act.put,aT,aU,aV]
     cases r2 with
     |bad jb xb=>
      refine wpAny_ready (rs:=[1,3]) (by kernel_rfl) (by simp) ?_;refine AllReady.cons (o:={dst:=some 29,op:=Op.load 64 (Operand.tmp 7),type:=64,pos := "ttext.go:287",after:=#[],guard:=none}) rfl (fun K hK=>?_) ?_
      ·go_simp;refine hK _ _ ?_;clear hK K;(try simp only[Act.put,aT,aU,aV]);refine wpAny_ready (rs:=[3]) (by kernel_rfl) (by simp) ?_;refine AllReady.cons (o:={dst:=some 31,op:=Op.call {callee:=Callee.value (Operand.tmp 30),args:=#[],argTypes:=#[]},type:=64,pos := "ttext.go:287",after:=#[{on:=2,ground:=Ground.data}],guard:=none}) rfl (fun K hK=>?_) AllReady.nil;go_simp;(with_reducible refine(Cx.out).mono ?_);intro e w6 hq;obtain⟨rfl,iX⟩:=hq;refine(show _∧_ from⟨rfl,?_⟩);rw[dJ,← OH];exact⟨rfl,wH.trans (sH.only.trans (Ai.trans iX))⟩
      ·refine AllReady.cons (o:={dst:=some 31,op:=Op.call {callee:=Callee.value (Operand.tmp 30),args:=#[],argTypes:=#[]},type:=64,pos := "ttext.go:287",after:=#[{on:=2,ground:=Ground.data}],guard:=none}) rfl (fun K hK=>?_) AllReady.nil;go_simp;(with_reducible refine(Cx.out).mono ?_);intro e w6 hq;obtain⟨rfl,iX⟩:=hq;refine(show _∧_ from⟨rfl,?_⟩);rw[dJ,← OH];exact⟨rfl,wH.trans (sH.only.trans (Ai.trans iX))⟩
     |ok t2 j2=>
      refine wpAny_ready (rs:=[1,3]) (by kernel_rfl) (by simp) ?_;refine AllReady.cons (o:={dst:=some 29,op:=Op.load 64 (Operand.tmp 7),type:=64,pos := "ttext.go:287",after:=#[],guard:=none}) rfl (fun K hK=>?_) ?_
      ·go_simp;refine hK _ _ ?_;clear hK K;(try simp only[Act.put,aT,aU,aV]);refine wpAny_ready (rs:=[3]) (by kernel_rfl) (by simp) ?_;refine AllReady.cons (o:={dst:=some 31,op:=Op.call {callee:=Callee.value (Operand.tmp 30),args:=#[],argTypes:=#[]},type:=64,pos := "ttext.go:287",after:=#[{on:=2,ground:=Ground.data}],guard:=none}) rfl (fun K hK=>?_) AllReady.nil;go_simp;(with_reducible refine(Cx.out).mono ?_);intro e w6 hq;obtain⟨⟨A2,c2,rfl,hV2⟩,hij2,uH,uI,iX⟩:=hq;obtain⟨n3,AV⟩:=ak t2.kids.length;unfold Tm.val;rw[← AV];have Fy:=Lib.hid iX;have jm:=Lib.hid hV2;have o7:=Lib.hid uI;have hs6:=iX.size;have abJ:bt<w6.heap.size:=by omega
       have bZ:=Lib.hid ((iX.block bt (by omega) hbr).trans HB3);clear hV2 uI iX y0 y1 y2 y3;obtain⟨y0,y1,y2,y3,xq⟩:=q4 bZ;refine hK _ _ ?_;clear hK K;(try simp only[Act.put,aT,aU,aV]);refine wpAny_ready (rs:=[4]) (by kernel_rfl) (by simp) ?_;refine AllReady.cons (o:={dst:=some 32,op:=Op.buildSlice 25 2 #[(0,Operand.tmp 29),(1,Operand.tmp 31)],type:=25,pos := "ttext.go:287",after:=#[{on:=1,ground:=Ground.data},{on:=3,ground:=Ground.data}],guard:=none}) rfl (fun K hK=>?_) AllReady.nil;go_simp;refine hK _ _ ?_;clear hK K;(try simp only[Act.put,aT,aU,aV]);refine wpAny_ready (rs:=[5]) (by kernel_rfl) (by simp) ?_;refine AllReady.cons (o:={dst:=some 33,op:=Op.build 64 #[(0,Operand.tmp 28),(3,Operand.tmp 32)],type:=64,pos := "ttext.go:287",after:=#[{on:=0,ground:=Ground.data},{on:=4,ground:=Ground.data}],guard:=none}) rfl (fun K hK=>?_) AllReady.nil;go_simp;refine hK _ _ ?_;clear hK K;(try simp only[Act.put,aT,aU,aV]);refine wpAny_ready (rs:=[6]) (by kernel_rfl) (by simp) ?_
       refine AllReady.cons (o:={dst:=none,op:=Op.store 64 (Operand.tmp 7) (Operand.tmp 33),type:=0,pos := "ttext.go:287",after:=#[{on:=5,ground:=Ground.data},{on:=3,ground:=Ground.chain},{on:=0,ground:=Ground.phase},{on:=1,ground:=Ground.phase},{on:=2,ground:=Ground.phase},{on:=3,ground:=Ground.phase},{on:=4,ground:=Ground.phase},{on:=5,ground:=Ground.phase}],guard:=none}) rfl (fun K hK=>?_) AllReady.nil;go_simp;refine hK _ _ ?_;clear hK K;(try simp only[Act.put,aT,aU,aV]);refine wpAny_done (by kernel_rfl) ?_ _;go_wp2_with fail;obtain⟨WQ,Jc⟩:=aj ((((w6.setCell ⟨bt,0,none⟩ (.int .i64 zz)).setCell ⟨bt,1,none⟩ (.int .i64 0)).setCell ⟨bt,2,none⟩ (.string ⟨#[]⟩)).setCell ⟨bt,3,none⟩ (.slice (some ⟨w6.heap.size,0,none⟩) 2 2));rw[← Jc];have N_:WQ.heap.size=w6.heap.size:=by rw[Jc]; simp
       have hbQ:WQ.heap[bt]?=some (.cells #[.int .i64 zz,.int .i64 0,.string ⟨#[]⟩,.slice (some ⟨w6.heap.size,0,none⟩) 2 2] 64 (0,0)):=by rw[Jc];exact ni bZ
       have hRQ:iZ WQ R A l.length c j2 d:=by
        have hne:R≠bt:=fun h=>hbr h.symm;rw[Jc];unfold iZ;rw[iw _ ⟨bt,3,none⟩ R _ hne,iw _ ⟨bt,2,none⟩ R _ hne,iw _ ⟨bt,1,none⟩ R _ hne,iw _ ⟨bt,0,none⟩ R _ hne];exact o7
       have hkQ:aR (fun q=>w1.heap.size≤q∧q≠bt) w6 WQ:=by
        rw[Jc];exact(((aR.refl.set (fun h=>h.2 rfl) _).set (fun h=>h.2 rfl) _).set (fun h=>h.2 rfl) _).set (fun h=>h.2 rfl) _
       have adx:=sH.only.trans (Ai.trans Fy)
       have hOQ:Only (fun q=>q=R) w1 WQ:=by
        rw[Jc];exact dU (dU (dU (dU adx hbt _) hbt _) hbt _) hbt _
       clear Jc;rw[HN,AV];obtain⟨W7,OJ⟩:=aj (WQ.alloc (.cells #[.int .i64 t.op,.int .i64 t.num,.string t.name,.slice A' t.kids.length c',.int .i64 t2.op,.int .i64 t2.num,.string t2.name,.slice A2 t2.kids.length c2] 64));rw[←OJ];have iY:=dz OJ;have hs7:W7.heap.size=w6.heap.size+1:=by rw[OJ];simp[N_]
       have GY:W7.heap[w6.heap.size]?=some (.cells (bY [⟨t,A',c'⟩,⟨t2,A2,c2⟩]).toArray 64 (0,0)):=by rw[OJ,←N_];exact eu WQ _
       have hR7:=hRQ.below iY (by omega);have hO7:=hOQ.trans (Ob (F:=fun q=>q=R) iY);have nS:aR (fun q=>w1.heap.size≤q∧q≠bt) w6 W7:=hkQ.trans (Kb iY);have ady:=(iY.block bt (by omega)).trans hbQ
       have HM7:=Hd (fun q=>GX.next (j2:=j2) (t2:=t2) (W:=W7.drewN q) (op:=zz) sH (by omega) rfl (Ai.trans Fy) (by omega) uH (jm.keep Kr (fun q _ h=>by omega)) ⟨nS.size,nS.block⟩ (hR7.drewN q) (hO7.drewN q) ady (lr _) (fun k v hv=>by
        have hr:(W7.drewN q).heap[w6.heap.size]?=some (.cells (bY [⟨t,A',c'⟩,⟨t2,A2,c2⟩]).toArray 64 (0,0)):=GY;rw[cR _ _ k _ _ (0,0) hr]
        simpa using hv) (by show _<W7.heap.size;omega))
       have adz:=AX j2 W7 hR7 (wH.trans hO7) uH;have ahy:=Hd adz;clear OJ iY GY hR7 hO7 nS ady adz N_ hbQ hRQ hkQ adx hOQ y0 y1 y2 y3 xq;refine ahy.mono ?_;rintro e w7 ⟨rfl,q,hw7⟩;have hm7:=HM7 q;rw[←hw7]at hm7;have HM8:=Hd hm7;have adv:=DV hm7.bN;have adw:=DV sH.bN
       have Jd:Hid (jK l one ops fu (dD zz [t,t2]) j2=r):=by
        show _=_;rw[HZZ];exact OH
       clear hm7 hw7;go_wp2_with fail
       go_roundw
       case rel=>exact⟨dD zz [t,t2],some ⟨w6.heap.size,0,none⟩,2,j2,fu,rfl,HM8,by omega,Jd⟩
       case measure=>rw[adv,adw];omega
      ·refine AllReady.cons (o:={dst:=some 31,op:=Op.call {callee:=Callee.value (Operand.tmp 30),args:=#[],argTypes:=#[]},type:=64,pos := "ttext.go:287",after:=#[{on:=2,ground:=Ground.data}],guard:=none}) rfl (fun K hK=>?_) AllReady.nil;go_simp;(with_reducible refine(Cx.out).mono ?_);intro e w6 hq;obtain⟨⟨A2,c2,rfl,hV2⟩,hij2,uH,uI,iX⟩:=hq;obtain⟨n3,AV⟩:=ak t2.kids.length;unfold Tm.val;rw[← AV];have Fy:=Lib.hid iX;have jm:=Lib.hid hV2;have o7:=Lib.hid uI;have hs6:=iX.size;have abJ:bt<w6.heap.size:=by omega
       have bZ:=Lib.hid ((iX.block bt (by omega) hbr).trans HB3);clear hV2 uI iX y0 y1 y2 y3;obtain⟨y0,y1,y2,y3,xq⟩:=q4 bZ;refine hK _ _ ?_;clear hK K;(try simp only[Act.put,aT,aU,aV]);refine wpAny_ready (rs:=[1]) (by kernel_rfl) (by simp) ?_;refine AllReady.cons (o:={dst:=some 29,op:=Op.load 64 (Operand.tmp 7),type:=64,pos := "ttext.go:287",after:=#[],guard:=none}) rfl (fun K hK=>?_) AllReady.nil;go_simp;refine hK _ _ ?_;clear hK K;(try simp only[Act.put,aT,aU,aV]);refine wpAny_ready (rs:=[4]) (by kernel_rfl) (by simp) ?_;refine AllReady.cons (o:={dst:=some 32,op:=Op.buildSlice 25 2 #[(0,Operand.tmp 29),(1,Operand.tmp 31)],type:=25,pos := "ttext.go:287",after:=#[{on:=1,ground:=Ground.data},{on:=3,ground:=Ground.data}],guard:=none}) rfl (fun K hK=>?_) AllReady.nil;go_simp;refine hK _ _ ?_;clear hK K;(try simp only[Act.put,aT,aU,aV]);refine wpAny_ready (rs:=[5]) (by kernel_rfl) (by simp) ?_;refine AllReady.cons (o:={dst:=some 33,op:=Op.build 64 #[(0,Operand.tmp 28),(3,Operand.tmp 32)],type:=64,pos := "ttext.go:287",after:=#[{on:=0,ground:=Ground.data},{on:=4,ground:=Ground.data}],guard:=none}) rfl (fun K hK=>?_) AllReady.nil;go_simp;refine hK _ _ ?_;clear hK K;(try simp only[Act.put,aT,aU,aV]);refine wpAny_ready (rs:=[6]) (by kernel_rfl) (by simp) ?_
       refine AllReady.cons (o:={dst:=none,op:=Op.store 64 (Operand.tmp 7) (Operand.tmp 33),type:=0,pos := "ttext.go:287",after:=#[{on:=5,ground:=Ground.data},{on:=3,ground:=Ground.chain},{on:=0,ground:=Ground.phase},{on:=1,ground:=Ground.phase},{on:=2,ground:=Ground.phase},{on:=3,ground:=Ground.phase},{on:=4,ground:=Ground.phase},{on:=5,ground:=Ground.phase}],guard:=none}) rfl (fun K hK=>?_) AllReady.nil;go_simp;refine hK _ _ ?_;clear hK K;(try simp only[Act.put,aT,aU,aV]);refine wpAny_done (by kernel_rfl) ?_ _;go_wp2_with fail;obtain⟨WQ,Jc⟩:=aj ((((w6.setCell ⟨bt,0,none⟩ (.int .i64 zz)).setCell ⟨bt,1,none⟩ (.int .i64 0)).setCell ⟨bt,2,none⟩ (.string ⟨#[]⟩)).setCell ⟨bt,3,none⟩ (.slice (some ⟨w6.heap.size,0,none⟩) 2 2));rw[← Jc];have N_:WQ.heap.size=w6.heap.size:=by rw[Jc]; simp
       have hbQ:WQ.heap[bt]?=some (.cells #[.int .i64 zz,.int .i64 0,.string ⟨#[]⟩,.slice (some ⟨w6.heap.size,0,none⟩) 2 2] 64 (0,0)):=by rw[Jc];exact ni bZ
       have hRQ:iZ WQ R A l.length c j2 d:=by
        have hne:R≠bt:=fun h=>hbr h.symm;rw[Jc];unfold iZ;rw[iw _ ⟨bt,3,none⟩ R _ hne,iw _ ⟨bt,2,none⟩ R _ hne,iw _ ⟨bt,1,none⟩ R _ hne,iw _ ⟨bt,0,none⟩ R _ hne];exact o7
       have hkQ:aR (fun q=>w1.heap.size≤q∧q≠bt) w6 WQ:=by
        rw[Jc];exact(((aR.refl.set (fun h=>h.2 rfl) _).set (fun h=>h.2 rfl) _).set (fun h=>h.2 rfl) _).set (fun h=>h.2 rfl) _
       have adx:=sH.only.trans (Ai.trans Fy)
       have hOQ:Only (fun q=>q=R) w1 WQ:=by
        rw[Jc];exact dU (dU (dU (dU adx hbt _) hbt _) hbt _) hbt _
       clear Jc;rw[HN,AV];obtain⟨W7,OJ⟩:=aj (WQ.alloc (.cells #[.int .i64 t.op,.int .i64 t.num,.string t.name,.slice A' t.kids.length c',.int .i64 t2.op,.int .i64 t2.num,.string t2.name,.slice A2 t2.kids.length c2] 64));rw[←OJ];have iY:=dz OJ;have hs7:W7.heap.size=w6.heap.size+1:=by rw[OJ];simp[N_]
       have GY:W7.heap[w6.heap.size]?=some (.cells (bY [⟨t,A',c'⟩,⟨t2,A2,c2⟩]).toArray 64 (0,0)):=by rw[OJ,←N_];exact eu WQ _
       have hR7:=hRQ.below iY (by omega);have hO7:=hOQ.trans (Ob (F:=fun q=>q=R) iY);have nS:aR (fun q=>w1.heap.size≤q∧q≠bt) w6 W7:=hkQ.trans (Kb iY);have ady:=(iY.block bt (by omega)).trans hbQ
       have HM7:=Hd (fun q=>GX.next (j2:=j2) (t2:=t2) (W:=W7.drewN q) (op:=zz) sH (by omega) rfl (Ai.trans Fy) (by omega) uH (jm.keep Kr (fun q _ h=>by omega)) ⟨nS.size,nS.block⟩ (hR7.drewN q) (hO7.drewN q) ady (lr _) (fun k v hv=>by
        have hr:(W7.drewN q).heap[w6.heap.size]?=some (.cells (bY [⟨t,A',c'⟩,⟨t2,A2,c2⟩]).toArray 64 (0,0)):=GY;rw[cR _ _ k _ _ (0,0) hr]
        simpa using hv) (by show _<W7.heap.size;omega))
       have adz:=AX j2 W7 hR7 (wH.trans hO7) uH;have ahy:=Hd adz;clear OJ iY GY hR7 hO7 nS ady adz N_ hbQ hRQ hkQ adx hOQ y0 y1 y2 y3 xq;refine ahy.mono ?_;rintro e w7 ⟨rfl,q,hw7⟩;have hm7:=HM7 q;rw[←hw7]at hm7;have HM8:=Hd hm7;have adv:=DV hm7.bN;have adw:=DV sH.bN
       have Jd:Hid (jK l one ops fu (dD zz [t,t2]) j2=r):=by
        show _=_;rw[HZZ];exact OH
       clear hm7 hw7;go_wp2_with fail
       go_roundw
       case rel=>exact⟨dD zz [t,t2],some ⟨w6.heap.size,0,none⟩,2,j2,fu,rfl,HM8,by omega,Jd⟩
       case measure=>rw[adv,adw];omega
end Go.Proofs.YtkhoeoilamddaaaGreatDoor
