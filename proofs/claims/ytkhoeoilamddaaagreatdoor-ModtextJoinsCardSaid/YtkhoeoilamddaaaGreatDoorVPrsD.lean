/- Walks and plain words: PrsD PrsE. -/
import Derived.Test.YtkhoeoilamddaaaGreatDoorVSm2
import Derived.Laws.OwnMore
namespace Go.Proofs.YtkhoeoilamddaaaGreatDoor
open Go.RowKit
set_option linter.unusedVariables false
set_option maxRecDepth 100000
set_option maxHeartbeats 8000000
structure TmE where
 t:Tm
 A:Option Addr
 c:Nat
def TmE.cells (e:TmE):List Value:=[.int .i64 e.t.op,.int .i64 e.t.num,.string e.t.name,.slice e.A e.t.kids.length e.c]
def flatE (l:List TmE):List Value:=l.flatMap TmE.cells
theorem flatE_snoc (l:List TmE) (e:TmE):flatE (l++[e])=flatE l++e.cells:=by simp [flatE]
theorem flatE_len:∀ l:List TmE,(flatE l).length=l.length*4
 | []=>rfl
 | e :: r=>by
  have:=flatE_len r;unfold flatE at this ⊢;rw [List.flatMap_cons,List.length_append,this,List.length_cons];simp [TmE.cells];omega
theorem flatE_cons (e:TmE) (r:List TmE):flatE (e :: r)=e.cells++flatE r:=by simp [flatE]
theorem row_of_cells {S:Nat→Prop} {w:World} {g:Nat}:∀ (acc:List TmE) (o:Nat),(∀ j v,(flatE acc)[j]?=some v→w.cell? ⟨g,o+j,none⟩=some v)→(∀ e∈acc,TmVS S w e.A e.c e.t)→TmRowS S w g o (acc.map TmE.t)
 | [],o,_,_=>by rw [List.map_nil,TmRowS];trivial
 | e :: r,o,h,hv=>by
  rw [List.map_cons,TmRowS];rw [flatE_cons] at h;have hc:∀ j,j<4→(e.cells++flatE r)[j]?=e.cells[j]?:=fun j hj=>List.getElem?_append_left (by show j<4;exact hj);refine ⟨TmAtS.mk (A:=e.A) (c:=e.c) (h 0 _ ((hc 0 (by omega)).trans rfl)) (h 1 _ ((hc 1 (by omega)).trans rfl)) (h 2 _ ((hc 2 (by omega)).trans rfl)) (h 3 _ ((hc 3 (by omega)).trans rfl)) (hv e (by simp)),row_of_cells r (o+4) (fun j v hj=>?_) (fun x hx=>hv x (by simp [hx]))⟩;have:=h (4+j) v (by rw [List.getElem?_append_right (by show 4≤4+j;omega)];show (flatE r)[4+j - 4]?=some v;rw [Nat.add_sub_cancel_left];exact hj);rw [show o+4+j=o+(4+j) by omega];exact this
theorem infoTm:(Tryz.prog.info? 64).map (fun i=>(i.zero,i.size,i.bytes))=some (some (.agg #[.int .i64 0,.int .i64 0,.string ⟨#[]⟩,.slice none 0 0]),4,56):=by kernel_rfl
theorem which_lt {l:List Tok} {i:Nat}:∀ {ops:List Int},whichOp l i ops≠0→i<l.length
 | [],h=>absurd rfl h
 | op :: r,h=>by
  rw [whichOp] at h
  by_cases hc:(if op=17 then isTk l i 3 [109,111,100] else isTk l i 4 (signB op))=true
  · rcases Nat.lt_or_ge i l.length with h1 | h1
    · exact h1
    · exfalso
      have hn:l[i]?=none:=List.getElem?_eq_none h1;unfold isTk at hc;rw [hn] at hc
      split at hc <;> cases hc
  · rw [iN hc] at h;exact which_lt h
structure ManyS (R:Nat) (A:Option Addr) (c d:Nat) (l:List Tok) (i B0:Nat) (w1 wr:World) (v:Value) (acc:List TmE) (j:Nat):Prop where
 pos:0<acc.length
 own:wr.ownsRow B0 64 4 v acc.length (flatE acc)
 vals:∀ e∈acc,TmVS (fun q=>B0≤q∧v.ownBlock≠some q) wr e.A e.c e.t
 rdr:Rdr wr R A l.length c j d
 only:Only (fun q=>q=R) w1 wr
 cnt:acc.length≤j
 ij:i<j
 jl:j≤l.length
theorem ManyS.first {R c d i j:Nat} {A A':Option Addr} {c':Nat} {l:List Tok} {w1 w4:World} {t:Tm} (hR:R<w1.heap.size) (hij:i<j) (hj:j≤l.length) (hV:TmVS (fun q=>w1.heap.size≤q) w4 A' c' t) (hr:Rdr w4 R A l.length c j d) (ho:Only (fun q=>q=R) w1 w4) :
 ManyS R A c d l i w1.heap.size w1 (w4.alloc (.cells #[.int .i64 t.op,.int .i64 t.num,.string t.name,.slice A' t.kids.length c'] 64)) (.slice (some ⟨w4.heap.size,0,none⟩) 1 1) [⟨t,A',c'⟩] j:=by
 have hs:=ho.size;have hb:Below w4.heap.size w4 (w4.alloc (.cells #[.int .i64 t.op,.int .i64 t.num,.string t.name,.slice A' t.kids.length c'] 64)):=(Br _ _).alloc (lr _) _;refine ⟨by simp,World.ownsRow_lit w4 #[.int .i64 t.op,.int .i64 t.num,.string t.name,.slice A' t.kids.length c'] 1 hs (by unfold maxLen;omega) rfl,fun e he=>?_,hr.below hb hr.lt,ho.thenBelow hb hs,by simp;omega,hij,hj⟩;rw [List.mem_singleton.1 he]
 exact hV.keep (Kb hb) (fun q hq h=>⟨h,fun e=>by
  have:w4.heap.size=q:=by simpa [Value.ownBlock] using e
  omega⟩)
theorem ManyS.next {R c d i j j' B0:Nat} {A A':Option Addr} {c':Nat} {l:List Tok} {w1 wr w4 w6:World} {o:Obj} {v v':Value} {acc:List TmE} {t:Tm} (h:ManyS R A c d l i B0 w1 wr v acc j) (hRB:R<B0) (hB1:B0=w1.heap.size)
 (ho:Only (fun q=>q=R) wr w4) (hj:j<j') (hjl:j'≤l.length) (hr:Rdr w4 R A l.length c j' d) (hV:TmVS (fun q=>wr.heap.size≤q) w4 A' c' t)
 (hown:w6.ownsRow B0 64 4 v' (acc.length+1) (flatE acc++(TmE.mk t A' c').cells)) (hg:(w4.alloc o).grownBy w6 v.ownBlock) (hat:v'.ownBlock=v.ownBlock∨∀ q,v'.ownBlock=some q→w4.heap.size≤q) :
 ManyS R A c d l i B0 w1 w6 v' (acc++[⟨t,A',c'⟩]) j':=by
 have hs4:=ho.size;have hs1:=h.only.size;have hlt:∀ q,v.ownBlock=some q→B0≤q∧q<wr.heap.size:=fun q hq=>h.own.lt q hq;have hal:Below w4.heap.size w4 (w4.alloc o):=(Br _ _).alloc (lr _) o;have hk:∀ q,v.ownBlock≠some q→q<w4.heap.size→w6.heap[q]?=w4.heap[q]?:=fun q hq hl=>(hg.block q (by simp;omega) (fun e=>hq e.symm)).trans (hal.block q hl);have hs6:w4.heap.size≤w6.heap.size:=by have:=hg.size;simp at this;omega
 have hRv:v.ownBlock≠some R:=fun e=>by have:=(hlt R e).1;omega
 refine ⟨by simp,by rw [List.length_append,flatE_snoc];exact hown,fun e he=>?_,(hk R hRv hr.lt).trans hr,?_,by rw [List.length_append];have:=h.cnt;simp;omega,by have:=h.ij;omega,hjl⟩
 · have hfin:∀ q,q<w4.heap.size→(B0≤q∧v.ownBlock≠some q)→(B0≤q∧v'.ownBlock≠some q):=fun q hq ⟨h1,h2⟩=>⟨h1,fun e=>by
    rcases hat with h3 | h3
    · exact h2 (h3 ▸ e)
    · have:=h3 q e;omega⟩
   rcases List.mem_append.1 he with he | he
   · have h1:=(h.vals e he).keep (S':=fun q=>(B0≤q∧v.ownBlock≠some q)) (KeepS.of_only ho (fun h=>by have:=h.1;omega)) (fun _ _ h=>h);exact h1.keep ⟨hs6,fun q hq hl=>hk q hq.2 hl⟩ hfin
   · rw [List.mem_singleton.1 he];have h1:=hV.keep (S':=fun q=>(B0≤q∧v.ownBlock≠some q)) Kr (fun q _ h=>⟨by omega,fun e=>by have:=(hlt q e).2;omega⟩);exact h1.keep ⟨hs6,fun q hq hl=>hk q hq.2 hl⟩ hfin
 · have h1:=h.only.trans ho;refine ⟨by rw [hg.os];exact h1.os,by rw [hg.tape];exact h1.tape,by rw [hg.output];exact h1.output,Nat.le_trans h1.size hs6,fun q hq hne=>?_⟩;rw [hk q (fun e=>by have:=(hlt q e).1;omega) (by omega)];exact h1.block q hq hne
def rdAt (R:Nat) (w:World):Nat:=match w.cell? ⟨R,1,none⟩ with
 | some (.int _ z)=>z.toNat
 | _=>0
theorem rdAt_of {R n c i d:Nat} {A:Option Addr} {w:World} (h:Rdr w R A n c i d):rdAt R w=i:=by unfold rdAt;rw [h.c1];simp
theorem many_stop {l:List Tok} {op:Int} {one:Par} {fuel j:Nat} {acc:List Tm} (h:whichOp l j [op]=0):manyF l op one fuel acc j=.ok (manyEnd op acc) j:=by
 cases fuel with
 | zero=>rfl
 | succ k=>rw [manyF,iP h]
theorem many_go {l:List Tok} {op:Int} {one:Par} {fuel j:Nat} {acc:List Tm} (h:whichOp l j [op]≠0):manyF l op one (fuel+1) acc j=(one (j+1)).then fun t j=>manyF l op one fuel (acc++[t]) j:=by rw [manyF,iN h]
theorem manyEnd_two {op:Int} {l:List Tm} (h:l.length≠1):manyEnd op l=tmOf op l:=by
 unfold manyEnd
 split
 · exact absurd rfl h
 · rfl
theorem only_sets {R:Nat} {w W:World} {v0 v1 v2 v3:Value} (h:Only (fun q=>q=R) w W):Only (fun q=>q=R) w ((((W.setCell ⟨w.heap.size,0,none⟩ v0).setCell ⟨w.heap.size,1,none⟩ v1).setCell ⟨w.heap.size,2,none⟩ v2).setCell ⟨w.heap.size,3,none⟩ v3):=by
 refine ⟨h.os,h.tape,h.output,by simpa using h.size,fun q hq hf=>?_⟩;have hne:q≠w.heap.size:=by omega
 rw [hO_ _ ⟨w.heap.size,3,none⟩ q _ hne,hO_ _ ⟨w.heap.size,2,none⟩ q _ hne,hO_ _ ⟨w.heap.size,1,none⟩ q _ hne,hO_ _ ⟨w.heap.size,0,none⟩ q _ hne];exact h.block q hq hf
theorem pq_end {R c d i j:Nat} {A A':Option Addr} {c':Nat} {l:List Tok} {w W:World} {t:Tm} (v0 v1 v2 v3:Value) (hij:i<j) (hjl:j≤l.length) (hRw:R<w.heap.size) (hR:Rdr W R A l.length c j d) (hO:Only (fun q=>q=R) w W) (hV:TmVS (fun q=>w.heap.size<q) W A' c' t) :
 PQ R A c d l i (.ok t j) w (.returned (t.val A' c')) ((((W.setCell ⟨w.heap.size,0,none⟩ v0).setCell ⟨w.heap.size,1,none⟩ v1).setCell ⟨w.heap.size,2,none⟩ v2).setCell ⟨w.heap.size,3,none⟩ v3):=by
 refine ⟨⟨A',c',rfl,hV.keep ((((KeepS.refl.set (by omega) _).set (by omega) _).set (by omega) _).set (by omega) _) (fun q _ h=>Nat.le_of_lt h)⟩,hij,hjl,?_,only_sets hO⟩;have hne:R≠w.heap.size:=by omega
 unfold Rdr;rw [hO_ _ ⟨w.heap.size,3,none⟩ R _ hne,hO_ _ ⟨w.heap.size,2,none⟩ R _ hne,hO_ _ ⟨w.heap.size,1,none⟩ R _ hne,hO_ _ ⟨w.heap.size,0,none⟩ R _ hne];exact hR
theorem own_only {R B n sz:Nat} {T:TypeId} {w w':World} {v:Value} {xs:List Value} (h:w.ownsRow B T sz v n xs) (ho:Only (fun q=>q=R) w w') (hR:R<B):w'.ownsRow B T sz v n xs:=
 h.kept (row:=some R) ⟨ho.os,ho.tape,ho.output,ho.size,fun k hk hne=>ho.block k hk (fun e=>hne (by rw [e]))⟩ (by
  cases hv:v.ownBlock with
  | none=>exact .inl rfl
  | some q=>exact .inr (fun e=>by have:=(h.lt q hv).1;injection e with e;omega))
theorem pmany_any (R:Nat) (A:Option Addr) (c d:Nat) (l:List Tok) (K:FuncId) (x:Value) (m:Bool) (Inv:World→Prop) (one:Par) (op:Int) (i:Nat) (w:World) (hrun:∀ args W,(callFunc K args).run Tryz.prog W=.ok (.enter K args) W)
 (hInv:∀ w w',Inv w→Only (fun q=>q=R) w w'→Inv w') (hF:FnC R A c d l K x Inv one) (hi:i≤l.length) (hR:Rdr w R A l.length c i d) (hP:PTok w R A c l) (hw:Inv w) :
 Calls Tryz.prog 171 #[.pointer (some ⟨R,0,none⟩),.int .i64 op,fvOf m K x] w (PQ R A c d l i (many l op one i) w):=by
 obtain ⟨i0,hi0,hz0,hz1,hz2⟩:=info_parts infoTm;have hlen:=hP.len;have hRlt:=hR.lt;obtain ⟨w1,hw1⟩:=ex_ (w.alloc (.cells #[.int .i64 0,.int .i64 0,.string ⟨#[]⟩,.slice none 0 0] 64));have hb1:=bAl hw1;have hs1:w1.heap.size=w.heap.size+1:=by rw [hw1];simp
 have hbx:w1.heap[w.heap.size]?=some (.cells #[.int .i64 0,.int .i64 0,.string ⟨#[]⟩,.slice none 0 0] 64 (0,0)):=by rw [hw1];exact hA_ w _
 have ho1:Only (fun q=>q=R) w w1:=Ob hb1;have hc1:=hF i w1 hi (hR.below hb1 hRlt) (hP.only ho1) (hInv w w1 hw ho1);obtain ⟨r1,hr1⟩:=ex_ (one i);obtain ⟨F,hF0⟩:=ex_ (PQ R A c d l i (many l op one i) w);have HRE:Hid (F=PQ R A c d l i (r1.then fun t j=>manyF l op one l.length [t] j) w):=by show _=_;rw [hF0,hr1];rfl
 rw [←hF0];rw [←hr1] at hc1;have HC1:=Hd hc1;have HW1:=Hd hw1;have HB1:=Hd hb1;have HO1:=Hd ho1;have HBX:=Hd hbx;have HFN:=Hd hF;have HINV:=Hd hInv;have HP:=Hd hP;have HWI:=Hd hw;clear hc1 hr1 hF0 hw1 hb1 ho1 hbx hF hInv hP hw hR;cases m
 all_goals
  unfold fvOf;simp only [if_true,Bool.false_eq_true,if_false];go_enter Tryz.func171,Tryz.ntmps171;go_wp2_with fail;rw [←HW1.out];refine (HC1.out).mono ?_;intro e w4 hq
  cases r1 with
  | bad j x=>
   obtain ⟨rfl,ho4⟩:=hq;refine (show _∧_ from ⟨rfl,?_⟩);rw [HRE.out];exact ⟨rfl,HO1.out.trans ho4⟩
  | ok t j=>
   obtain ⟨⟨A',c',rfl,hV⟩,hij,hjl,hR4,ho4⟩:=hq;have HM:=Hd (ManyS.first (i:=i) (by omega) hij hjl hV hR4 ho4);obtain ⟨n2,hn2⟩:=ex_ t.kids.length;unfold Tm.val;rw [←hn2];rw [←hn2] at HM;have HRE2:Hid (F=PQ R A c d l i (manyF l op one l.length [t] j) w):=HRE.out;obtain ⟨r,HR⟩:=exh_ (manyF l op one l.length [t] j);rw [←HR.out] at HRE2;clear hV hR4 ho4 hn2 hij;go_wp2_with fail
   go_loopw [7] (fun sv wr=>∃ (acc:List TmE) (j fuel:Nat),ManyS R A c d l i w1.heap.size w1 wr sv acc j∧l.length≤fuel+j∧manyF l op one fuel (acc.map TmE.t) j=r) (fun _ wr=>l.length - rdAt R wr)
   case atStart=>exact ⟨[⟨t,A',c'⟩],j,l.length,HM.out,by omega,HR.out.symm⟩
   case round=>
    obtain ⟨acc,j,fuel,hM,hfu,hre⟩:=hrel
    rcases hM.own.2 with ⟨-,h9⟩ | ⟨g,cap,cur,rfl,hBg,hg,hnc,hcm,hcs,htk⟩
    · have:=hM.pos;omega
    have HM2:=Hd hM;have HRE3:=Hd hre;have hgl:g<wr.heap.size:=lH hg;obtain ⟨n,hn⟩:=ex_ acc.length;have HN:=Hd hn;have hjl2:=hM.jl;have hsr:=hM.only.size;have hbW:Below wr.heap.size wr (wr.alloc (.cells #[.int .i64 op] 3)):=(Br _ _).alloc (lr _) _;have HSG:=Hd (psign_any R A c j d l wr.heap.size 1 [op] (wr.alloc (.cells #[.int .i64 op] 3)) (hM.rdr.below hbW hM.rdr.lt) ((HP.out.only (HO1.out.trans hM.only)).only (Ob hbW)) (by omega) (ops_new wr [op]) (by simp) (by simp));have hRr:=hM.rdr.lt;rw [←hn];rw [←hn] at hnc;clear hM hre hg hcs htk hn;have hbxr:=(HM2.out.only.block w.heap.size (by omega) (by omega)).trans HBX.out;obtain ⟨v0,v1,v2,v3,zq⟩:=q4 hbxr;have HBXR:=Hd hbxr;have hbwr:w.heap.size<wr.heap.size:=by omega
    clear hbxr
    by_cases hz:whichOp l j [op]=0
    · have HRR:Hid (r=.ok (manyEnd op (acc.map TmE.t)) j):=by show _=_;rw [←HRE3.out];exact many_stop hz
      rw [hz] at HSG;clear hz
      by_cases hn1:n=1
      · subst hn1
        obtain ⟨e1,he1⟩:∃ e1,acc=[e1]:=by
         match acc,HN.out with
         | [e1],_=>exact ⟨e1,rfl⟩
        subst he1
        have hcl:∀ jj vv,(flatE [e1])[jj]?=some vv→wr.cell? ⟨g,jj,none⟩=some vv:=fun jj vv hv=>by
         have h:=HM2.out.own.cells (g:=g) rfl jj vv hv;rw [addr_add,Nat.zero_add] at h;exact h
        have y0:=hcl 0 _ rfl;have y1:=hcl 1 _ rfl;have y2:=hcl 2 _ rfl;have y3:=hcl 3 _ rfl;obtain ⟨ne,HNE⟩:=exh_ e1.t.kids.length;rw [←HNE.out] at y3;clear hcl;go_wp2_with fail;refine (HSG.out).mono ?_;rintro e w5 ⟨rfl,q,hw5⟩;rw [hw5];clear hw5;go_wp2_with fail;have HWX:Hid (Only (fun q=>q=R) wr ((wr.alloc (.cells #[.int .i64 op] 3)).drewN q)):=(Ob ((Br _ _).alloc (lr _) _)).drewN q;obtain ⟨WX,hWX⟩:=ex_ ((wr.alloc (.cells #[.int .i64 op] 3)).drewN q)
        have HRDX:Hid (Rdr WX R A l.length c j d):=by
         show Rdr _ _ _ _ _ _ _;rw [hWX];exact (HM2.out.rdr.below ((Br wr.heap.size wr).alloc (lr _) (.cells #[.int .i64 op] 3)) hRr).drewN q
        rw [←hWX] at HWX ⊢;clear hWX;have hbW:=(HWX.out.block w.heap.size (by omega) (by omega)).trans HBXR.out;refine bR (results_cell_row (t:=64) (fr:=(0,0)) rfl _ _ w.heap.size _ _ rfl (res4 hbW) Tryz.underlying64 rfl (by kernel_rfl)) rfl ?_;rw [HRE2.out,HRR.out];have hRX:Rdr WX R A l.length c j d:=HRDX.out;have hOX:=HO1.out.trans (HM2.out.only.trans HWX.out);have h:=pq_end (A':=e1.A) (c':=e1.c) (.int .i64 e1.t.op) (.int .i64 e1.t.num) (.string e1.t.name) (.slice e1.A ne e1.c) HM2.out.ij HM2.out.jl hRlt hRX hOX ((HM2.out.vals e1 (by simp)).keep (KeepS.of_only HWX.out (fun h=>by have:=h.1;omega)) (fun q _ h=>by have:=h.1;omega));unfold Tm.val at h;rw [←HNE.out] at h;exact h
      · have hn1b:((n:Int) == 1)=false:=by simp;omega
        have HN1:Hid (n≠1):=hn1;clear hn1;go_wp2_with fail;refine (HSG.out).mono ?_;rintro e w5 ⟨rfl,q,hw5⟩;rw [hw5];clear hw5;go_wp2_with fail;have HWX:Hid (Only (fun q=>q=R) wr ((wr.alloc (.cells #[.int .i64 op] 3)).drewN q)):=(Ob ((Br _ _).alloc (lr _) _)).drewN q;obtain ⟨WX,hWX⟩:=ex_ ((wr.alloc (.cells #[.int .i64 op] 3)).drewN q)
        have HRDX:Hid (Rdr WX R A l.length c j d):=by
         show Rdr _ _ _ _ _ _ _;rw [hWX];exact (HM2.out.rdr.below ((Br wr.heap.size wr).alloc (lr _) (.cells #[.int .i64 op] 3)) hRr).drewN q
        rw [←hWX] at HWX ⊢;clear hWX;have hbW:=(HWX.out.block w.heap.size (by omega) (by omega)).trans HBXR.out;refine bR (results_cell_row (t:=64) (fr:=(0,0)) rfl _ _ w.heap.size _ _ rfl (res4 hbW) Tryz.underlying64 rfl (by kernel_rfl)) rfl ?_;rw [HRE2.out,HRR.out];have hRX:Rdr WX R A l.length c j d:=HRDX.out;have hOX:=HO1.out.trans (HM2.out.only.trans HWX.out);have hl1:(acc.map TmE.t).length=n:=by rw [List.length_map,←HN.out]
        rw [manyEnd_two (by rw [hl1];exact HN1.out)]
        have h:=pq_end (t:=tmOf op (acc.map TmE.t)) (A':=some ⟨g,0,none⟩) (c':=cap) (.int .i64 op) (.int .i64 0) (.string ⟨#[]⟩) (.slice (some ⟨g,0,none⟩) n cap) HM2.out.ij HM2.out.jl hRlt hRX hOX ⟨by show (acc.map TmE.t).length≤cap;rw [hl1];exact hnc,hcm,by show 0≤_;exact zl _,.inr ⟨g,0,rfl,by show w.heap.size<g;omega,lL hgl HWX.out.size,by
         refine row_of_cells acc 0 (fun jj vv hv=>?_) (fun e9 he9=>(HM2.out.vals e9 he9).keep (KeepS.of_only HWX.out (fun h=>by have:=h.1;omega)) (fun q _ h=>by have:=h.1;omega));have h:=HM2.out.own.cells (g:=g) rfl jj vv hv;rw [addr_add] at h;rw [HWX.out.cell hgl (by omega)]
         exact h⟩⟩
        unfold Tm.val at h;have hk:(tmOf op (acc.map TmE.t)).kids.length=n:=hl1;rw [hk] at h;exact h
    · have hzb:(whichOp l j [op] != 0)=true:=by simpa using hz
      have hjl3:=which_lt hz;have HZ:Hid (whichOp l j [op]≠0):=hz;obtain ⟨zz,hzz⟩:=ex_ (whichOp l j [op]);rw [←hzz] at HSG hzb;have c1:=HM2.out.rdr.c1;have f1:=HM2.out.rdr.frozen 1;clear hz hzz;go_wp2_with fail;refine (HSG.out).mono ?_;rintro e w5 ⟨rfl,q,hw5⟩;rw [hw5];clear hw5;go_wp2_with fail;obtain ⟨W3,hW3⟩:=ex_ (((wr.alloc (.cells #[.int .i64 op] 3)).drewN q).setCell ⟨R,1,none⟩ (.int .i64 ((j:Int)+1)));have hal:=HM2.out.rdr.below ((Br wr.heap.size wr).alloc (lr _) (.cells #[.int .i64 op] 3)) hRr;have hwn:=went_next (m:=q) hal;rw [←hW3] at hwn ⊢;have ho3:Only (fun q=>q=R) wr W3:=(Ob ((Br wr.heap.size wr).alloc (lr _) _)).trans hwn.2.1;have hs3:=ho3.size;have hP3:=HP.out.only (HO1.out.trans (HM2.out.only.trans ho3));have hI3:=HINV.out w W3 HWI.out (HO1.out.trans (HM2.out.only.trans ho3));have hcall:=HFN.out (j+1) W3 (by omega) hwn.1 hP3 hI3;obtain ⟨fu,rfl⟩:∃ fu,fuel=fu+1:=⟨fuel - 1,by omega⟩;have hgo:=HRE3.out;rw [many_go HZ.out] at hgo;obtain ⟨r2,hr2⟩:=ex_ (one (j+1));rw [←hr2] at hgo hcall;have HGO:=Hd hgo;have HC2:=Hd hcall;have HO3:=Hd ho3;clear hW3 hal hwn ho3 hP3 hI3 hcall hgo hr2 c1 f1 zq;refine (HC2.out).mono ?_;intro e w6 hq
      cases r2 with
      | bad jb xb=>
       obtain ⟨rfl,ho6⟩:=hq;refine (show _∧_ from ⟨rfl,?_⟩);rw [HRE2.out,←HGO.out];exact ⟨rfl,HO1.out.trans (HM2.out.only.trans (HO3.out.trans ho6))⟩
      | ok t2 j2=>
       obtain ⟨⟨A2,c2,rfl,hV2⟩,hij2,hjl2',hR6,ho6⟩:=hq;have HO36:=Hd (HO3.out.trans ho6);have HV2:Hid (TmVS (fun q=>wr.heap.size≤q) w6 A2 c2 t2):=hV2.keep Kr (fun q _ h=>by omega);have HR6:=Hd hR6;have hs6:=ho6.size;have HO6:=Hd (own_only HM2.out.own HO36.out (by omega));rw [←HN.out] at HO6;obtain ⟨n3,HN3⟩:=exh_ t2.kids.length;unfold Tm.val;rw [←HN3.out];have hcnt:=HM2.out.cnt;rw [←HN.out] at hcnt;clear hV2 hR6 ho6
       go_wp2_with (at_builtin;refine wpList_append_lies _ (by rfl) _ _ _ (by rfl) w1.heap.size 64 i0 (.agg #[.int .i64 0,.int .i64 0,.string ⟨#[]⟩,.slice none 0 0]) 4 56 Tryz.underlying25 hi0 hz0 hz1 hz2 rfl (by decide) _ n _ (by rfl) (HO6.out.alloc _) ⟨w6.heap.size,0,none⟩ 1 1 [.int .i64 t2.op,.int .i64 t2.num,.string t2.name,.slice A2 n3 c2] (by rfl) rfl (World.news_of_block (hA_ w6 _)) (fun u hu=>by simp at hu;rcases hu with rfl | rfl | rfl | rfl <;> rfl) (by decide) ?c3 ?c4 ?c5 (w6.heap.size+1) (by simp) ?_)
       case c3=>unfold maxLen;omega
       case c4=>omega
       case c5=>first | omega | (simp;omega)
       intro g' cap' w7 hown7 hgrow7 hat7 hlt7
       have HM7:=Hd (ManyS.next (acc:=acc) (t:=t2) (A':=A2) (c':=c2) HM2.out (by omega) rfl HO36.out (by omega) hjl2' HR6.out HV2.out (by rw [←HN.out,hs1];unfold TmE.cells;simp only;rw [←HN3.out];exact hown7) hgrow7 (by
        rcases hat7 with h | h
        · exact .inl h.symm
        · exact .inr (fun q hq=>by
           have:g'=q:=by simpa [Value.ownBlock] using hq
           omega)))
       have hrd7:=rdAt_of HM7.out.rdr;have hrdr:=rdAt_of HM2.out.rdr;clear hown7 hgrow7 hat7;go_wp2_with fail
       go_roundw
       case rel=>exact ⟨acc++[⟨t2,A2,c2⟩],j2,fu,by have h:=HM7.out;rw [←HN.out] at *;exact h,by omega,by rw [List.map_append];exact HGO.out⟩
       case measure=>rw [hrd7,hrdr];omega
set_option linter.unusedSimpArgs false
theorem only_setN {F:Nat→Prop} {w W:World} {b o:Nat} (h:Only F w W) (hb:w.heap.size≤b) (v:Value):Only F w (W.setCell ⟨b,o,none⟩ v):=by
 refine ⟨h.os,h.tape,h.output,by simpa using h.size,fun q hq hf=>?_⟩;have hne:q≠b:=by omega
 rw [hO_ _ ⟨b,o,none⟩ q _ hne];exact h.block q hq hf
theorem left_stop {l:List Tok} {ops:List Int} {one:Par} {fuel j:Nat} {t:Tm} (h:whichOp l j ops=0):leftL l one ops fuel t j=.ok t j:=by
 cases fuel with
 | zero=>rfl
 | succ k=>rw [leftL,iP h]
theorem left_go {l:List Tok} {ops:List Int} {one:Par} {fuel j:Nat} {t:Tm} (h:whichOp l j ops≠0):leftL l one ops (fuel+1) t j=(one (j+1)).then fun u j2=>leftL l one ops fuel (tmOf (whichOp l j ops) [t,u]) j2:=by rw [leftL,iN h]
theorem OpsAt.only {w w':World} {b R:Nat} {l:List Int} (h:OpsAt w b l) (ho:Only (fun q=>q=R) w w') (hb:b<w.heap.size) (hne:b≠R):OpsAt w' b l:=fun j z hz=>by rw [ho.cell hb hne];exact h j z hz
structure LeftS (R:Nat) (A:Option Addr) (c d:Nat) (l:List Tok) (i B0 bt:Nat) (w1 wr:World) (t:Tm) (A':Option Addr) (c' j:Nat):Prop where
 box:wr.heap[bt]?=some (.cells #[.int .i64 t.op,.int .i64 t.num,.string t.name,.slice A' t.kids.length c'] 64 (0,0))
 val:TmVS (fun q=>B0≤q∧q≠bt) wr A' c' t
 rdr:Rdr wr R A l.length c j d
 only:Only (fun q=>q=R) w1 wr
 ij:i<j
 jl:j≤l.length
theorem LeftS.first {R c d i j:Nat} {A A':Option Addr} {c':Nat} {l:List Tok} {w1 w4:World} {t:Tm} (hR:R<w1.heap.size) (hij:i<j) (hj:j≤l.length) (hV:TmVS (fun q=>w1.heap.size≤q) w4 A' c' t) (hr:Rdr w4 R A l.length c j d) (ho:Only (fun q=>q=R) w1 w4) (q:Nat) :
 LeftS R A c d l i w1.heap.size w4.heap.size w1 ((w4.alloc (.cells #[.int .i64 t.op,.int .i64 t.num,.string t.name,.slice A' t.kids.length c'] 64)).drewN q) t A' c' j:=by
 have hb:Below w4.heap.size w4 (w4.alloc (.cells #[.int .i64 t.op,.int .i64 t.num,.string t.name,.slice A' t.kids.length c'] 64)):=(Br _ _).alloc (lr _) _;refine ⟨hA_ w4 _,?_,(hr.below hb hr.lt).drewN q,(ho.trans (Ob hb)).drewN q,hij,hj⟩;have hk:KeepS (fun q=>w1.heap.size≤q) w4 ((w4.alloc (.cells #[.int .i64 t.op,.int .i64 t.num,.string t.name,.slice A' t.kids.length c'] 64)).drewN q):=⟨(Kb (S:=fun _=>True) hb).size,fun q _ hq=>hb.block q hq⟩;exact hV.keep hk (fun q hq h=>⟨h,by omega⟩)
theorem LeftS.next {R c d i j j2 B0 bt g:Nat} {A A' A2:Option Addr} {c' c2:Nat} {l:List Tok} {w1 wr w6 W:World} {t t2:Tm} {op:Int} (h:LeftS R A c d l i B0 bt w1 wr t A' c' j) (hRB:R<B0) (hB1:B0=w1.heap.size) (ho:Only (fun q=>q=R) wr w6) (hj:j<j2) (hj2:j2≤l.length) (hV2:TmVS (fun q=>wr.heap.size≤q) w6 A2 c2 t2)
 (hk:KeepS (fun q=>B0≤q∧q≠bt) w6 W) (hR:Rdr W R A l.length c j2 d) (hO:Only (fun q=>q=R) w1 W) (hbx:W.heap[bt]?=some (.cells #[.int .i64 op,.int .i64 0,.string ⟨#[]⟩,.slice (some ⟨g,0,none⟩) 2 2] 64 (0,0)))
 (hg:w6.heap.size≤g) (hrow:∀ k v,(flatE [⟨t,A',c'⟩,⟨t2,A2,c2⟩])[k]?=some v→W.cell? ⟨g,k,none⟩=some v) (hgW:g<W.heap.size):LeftS R A c d l i B0 bt w1 W (tmOf op [t,t2]) (some ⟨g,0,none⟩) 2 j2:=by
 have hbl:bt<wr.heap.size:=lH h.box;have hs6:=ho.size;have hos:=h.only.size;refine ⟨hbx,⟨lr _,by unfold maxLen;omega,zl _,.inr ⟨g,0,rfl,⟨by omega,by omega⟩,hgW,?_⟩⟩,hR,hO,by have:=h.ij;omega,hj2⟩;refine row_of_cells [⟨t,A',c'⟩,⟨t2,A2,c2⟩] 0 (fun k v hv=>by rw [Nat.zero_add];exact hrow k v hv) ?_;intro e he;have h1:TmVS (fun q=>B0≤q∧q≠bt) w6 A' c' t:=h.val.keep (KeepS.of_only ho (fun h=>by have:=h.1;omega)) (fun q _ h=>h);have h2:TmVS (fun q=>B0≤q∧q≠bt) w6 A2 c2 t2:=hV2.keep Kr (fun q _ h=>⟨by omega,by omega⟩);simp only [List.mem_cons,List.not_mem_nil,or_false] at he
 rcases he with rfl | rfl
 · exact h1.keep hk (fun q _ h=>h)
 · exact h2.keep hk (fun q _ h=>h)
theorem pleft_any (R:Nat) (A:Option Addr) (c d:Nat) (l:List Tok) (K:FuncId) (x:Value) (m:Bool) (Inv:World→Prop) (one:Par) (bo co:Nat) (ops:List Int) (i:Nat) (w:World) (hrun:∀ args W,(callFunc K args).run Tryz.prog W=.ok (.enter K args) W)
 (hInv:∀ w w',Inv w→Only (fun q=>q=R) w w'→Inv w') (hF:FnC R A c d l K x Inv one) (hi:i≤l.length) (hR:Rdr w R A l.length c i d) (hP:PTok w R A c l) (hw:Inv w) (hops:OpsAt w bo ops) (hol:ops.length≤20) (hbo:bo<w.heap.size) (hboR:bo≠R) :
 Calls Tryz.prog 202 #[.pointer (some ⟨R,0,none⟩),fvOf m K x,.slice (some ⟨bo,0,none⟩) ops.length co] w (PQ R A c d l i (left l one ops i) w):=by
 have hlen:=hP.len;have hRlt:=hR.lt;obtain ⟨w1,hw1⟩:=ex_ (w.alloc (.cells #[.int .i64 0,.int .i64 0,.string ⟨#[]⟩,.slice none 0 0] 64));have hb1:=bAl hw1;have hs1:w1.heap.size=w.heap.size+1:=by rw [hw1];simp
 have hbx:w1.heap[w.heap.size]?=some (.cells #[.int .i64 0,.int .i64 0,.string ⟨#[]⟩,.slice none 0 0] 64 (0,0)):=by rw [hw1];exact hA_ w _
 have ho1:Only (fun q=>q=R) w w1:=Ob hb1;have hc1:=hF i w1 hi (hR.below hb1 hRlt) (hP.only ho1) (hInv w w1 hw ho1);obtain ⟨r1,hr1⟩:=ex_ (one i);obtain ⟨F,hF0⟩:=ex_ (PQ R A c d l i (left l one ops i) w);have HRE:Hid (F=PQ R A c d l i (r1.then fun t j=>leftL l one ops l.length t j) w):=by show _=_;rw [hF0,hr1];rfl
 rw [←hF0];rw [←hr1] at hc1
 have hsgn:∀ (j:Nat) (W:World),Rdr W R A l.length c j d→Only (fun q=>q=R) w W→j≤l.length→Calls Tryz.prog 146 #[.pointer (some ⟨R,0,none⟩),.slice (some ⟨bo,0,none⟩) ops.length co] W fun e w'=>e=.returned (.int .i64 (whichOp l j ops))∧∃ n,w'=W.drewN n:=fun j W hRW hOW hj=>
  psign_any R A c j d l bo co ops W hRW (hP.only hOW) (by omega) (hops.only hOW hbo hboR) hol (lL hbo hOW.size)
 have HSGN:=Hd hsgn;have HC1:=Hd hc1;have HW1:=Hd hw1;have HB1:=Hd hb1;have HO1:=Hd ho1;have HBX:=Hd hbx;have HFN:=Hd hF;have HINV:=Hd hInv;have HP:=Hd hP;have HWI:=Hd hw;obtain ⟨no,hno⟩:=ex_ ops.length;rw [←hno] at hsgn ⊢;have HSGN:=Hd hsgn;clear hc1 hr1 hF0 hw1 hb1 ho1 hbx hF hInv hP hw hR hsgn hops hno;cases m
 all_goals
  unfold fvOf;simp only [if_true,Bool.false_eq_true,if_false];go_enter Tryz.func202,Tryz.ntmps202;go_wp2_with fail;rw [←HW1.out];refine (HC1.out).mono ?_;intro e w4 hq
  cases r1 with
  | bad j x=>
   obtain ⟨rfl,ho4⟩:=hq;refine (show _∧_ from ⟨rfl,?_⟩);rw [HRE.out];exact ⟨rfl,HO1.out.trans ho4⟩
  | ok t j=>
   obtain ⟨⟨A',c',rfl,hV⟩,hij,hjl,hR4,ho4⟩:=hq;have hsg:=fun (W:World) (hW:W=w4.alloc (.cells #[.int .i64 t.op,.int .i64 t.num,.string t.name,.slice A' t.kids.length c'] 64))=>HSGN.out j W (by rw [hW];exact hR4.below ((Br _ _).alloc (lr _) _) hR4.lt) (by rw [hW];exact HO1.out.trans (ho4.trans (Ob ((Br _ _).alloc (lr _) _)))) hjl;have hm:=fun q=>LeftS.first (i:=i) (by omega) hij hjl hV hR4 ho4 q;obtain ⟨n2,HN2⟩:=exh_ t.kids.length;unfold Tm.val;rw [←HN2.out];rw [←HN2.out] at hsg;have HSG:=Hd hsg;have HM:=Hd hm;have HRE2:Hid (F=PQ R A c d l i (leftL l one ops l.length t j) w):=HRE.out;obtain ⟨r,hr⟩:=ex_ (leftL l one ops l.length t j);rw [←hr] at HRE2;have HR:=Hd hr;clear hV hR4 hr hij hsg hm;go_wp2_with fail;refine (HSG.out _ rfl).mono ?_;rintro e w5 ⟨rfl,q,hw5⟩;have hmq:=HM.out q;rw [←HN2.out,←hw5] at hmq;have HMQ:=Hd hmq;have hbt:w4.heap.size ≥ w1.heap.size:=ho4.size;clear hmq hw5;obtain ⟨bt,hbt0⟩:=ex_ w4.heap.size;rw [←hbt0] at hbt HMQ;go_wp2_with fail;rw [←hbt0];clear hbt0
   go_loopw [8] (fun sv wr=>∃ (t:Tm) (A':Option Addr) (c' j fuel:Nat),sv=.int .i64 (whichOp l j ops)∧LeftS R A c d l i w1.heap.size bt w1 wr t A' c' j∧l.length≤fuel+j∧leftL l one ops fuel t j=r) (fun _ wr=>l.length - rdAt R wr)
   case atStart=>exact ⟨t,A',c',j,l.length,rfl,HMQ.out,by omega,HR.out.symm⟩
   case round=>
    obtain ⟨t,A',c',j,fuel,rfl,hM,hfu,hre⟩:=hrel;have HM2:=Hd hM;have HRE3:=Hd hre;have hjl2:=hM.jl;have hsr:=hM.only.size;have hRr:=hM.rdr.lt;have hbtl:bt<wr.heap.size:=lH hM.box;have hbwr:w.heap.size<wr.heap.size:=by omega
    have hbxr:=(hM.only.block w.heap.size (by omega) (by omega)).trans HBX.out;have hbox:=hM.box;obtain ⟨n,HN⟩:=exh_ t.kids.length;rw [←HN.out] at hbox;have HBXR:=Hd hbxr;have HBOX:=Hd hbox;obtain ⟨v0,v1,v2,v3,zq⟩:=q4 hbxr;obtain ⟨y0,y1,y2,y3,xq⟩:=q4 hbox;clear hM hre hbxr hbox
    by_cases hz:whichOp l j ops=0
    · have hzb:(whichOp l j ops != 0)=false:=by simpa using hz
      have HRR:Hid (r=.ok t j):=by show _=_;rw [←HRE3.out];exact left_stop hz
      clear hz;obtain ⟨zz,hzz⟩:=ex_ (whichOp l j ops);rw [←hzz] at hzb ⊢;clear hzz;go_wp2_with fail;refine bR (results_cell_row (t:=64) (fr:=(0,0)) rfl _ _ w.heap.size _ _ rfl (res4 HBXR.out) Tryz.underlying64 rfl (by kernel_rfl)) rfl ?_;rw [HRE2.out,HRR.out];have h:=pq_end (.int .i64 t.op) (.int .i64 t.num) (.string t.name) (.slice A' n c') HM2.out.ij HM2.out.jl hRlt HM2.out.rdr (HO1.out.trans HM2.out.only) (HM2.out.val.keep Kr (fun q _ h=>by have:=h.1;omega));unfold Tm.val at h;rw [←HN.out] at h;exact h
    · have hzb:(whichOp l j ops != 0)=true:=by simpa using hz
      have hjl3:=which_lt hz;have HZ:Hid (whichOp l j ops≠0):=hz;obtain ⟨zz,HZZ⟩:=exh_ (whichOp l j ops);rw [←HZZ.out] at hzb ⊢;have c1:=HM2.out.rdr.c1;have f1:=HM2.out.rdr.frozen 1;have hbr:bt≠R:=by omega
      clear hz;go_wp2_with fail
      -- REGION
      refine wp_region_any (by kernel_rfl) ?_
      change wpAny _ _ _ _ _ _ _ (World.drew _)
      obtain ⟨W3, hW3⟩ := ex_ ((wr.setCell ⟨R, 1, none⟩ (.int .i64 ((j : Int) + 1))).drew);have hwn : Went R A l.length c d (j + 1) wr ((wr.setCell ⟨R, 1, none⟩ (.int .i64 ((j : Int) + 1))).drew) := went_more (m := 1) (went_next (m := 0) HM2.out.rdr);rw [← hW3] at hwn ⊢;have ho3 : Only (fun q => q = R) wr W3 := hwn.2.1;have hs3 : W3.heap.size = wr.heap.size := hwn.2.2;have hP3 := HP.out.only (HO1.out.trans (HM2.out.only.trans ho3));have hI3 := HINV.out w W3 HWI.out (HO1.out.trans (HM2.out.only.trans ho3));have hcall := HFN.out (j + 1) W3 (by omega) hwn.1 hP3 hI3;have HB3 := Lib.hid ((ho3.block bt hbtl hbr).trans HBOX.out);obtain ⟨fu, rfl⟩ : ∃ fu, fuel = fu + 1 := ⟨fuel - 1, by omega⟩;have hgo := HRE3.out;rw [left_go HZ.out] at hgo;obtain ⟨r2, hr2⟩ := ex_ (one (j + 1));rw [← hr2] at hgo hcall;have HGO := Lib.hid hgo;have HC2 := Lib.hid hcall;have HO3 := Lib.hid ho3;clear hW3 hwn ho3 hP3 hI3 hcall hgo hr2 c1 f1 zq y0 y1 y2 y3 xq;obtain ⟨y0, y1, y2, y3, xq⟩ := q4 HB3.out;clear xq;refine wpAny_take (i := 0) (oi := { dst := some 28, op := Op.move (Operand.tmp 8), type := 3, pos := "ttext.go:287", after := #[], guard := none }) (v := ?_) rfl (by kernel_rfl) (by kernel_rfl) (by kernel_rfl) (fun _ _ _ h => h) (Or.inl ⟨by rfl, ?hy⟩) ?_
      case hy=>intro w0;go_simp;(first | done | with_reducible rfl)
      (try simp only [Act.put, sAr, sZe, sSu]);refine wpAny_take (i := 2) (oi := { dst := some 30, op := Op.move (Operand.tmp 1), type := 107, pos := "ttext.go:287", after := #[], guard := none }) (v := ?_) rfl (by kernel_rfl) (by kernel_rfl) (by kernel_rfl) (fun _ _ _ h => h) (Or.inl ⟨by rfl, ?hy⟩) ?_
      case hy=>intro w0;go_simp;(first | done | with_reducible rfl)
      try simp only [Act.put,sAr,sZe,sSu]
      cases r2 with
      | bad jb xb=>
       refine wpAny_ready (rs := [1, 3]) (by kernel_rfl) (by simp) ?_;refine AllReady.cons (o := { dst := some 29, op := Op.load 64 (Operand.tmp 7), type := 64, pos := "ttext.go:287", after := #[], guard := none }) rfl (fun K hK => ?_) ?_
       · go_simp;refine hK _ _ ?_;clear hK K;(try simp only [Act.put, sAr, sZe, sSu]);refine wpAny_ready (rs := [3]) (by kernel_rfl) (by simp) ?_;refine AllReady.cons (o := { dst := some 31, op := Op.call { callee := Callee.value (Operand.tmp 30), args := #[], argTypes := #[] }, type := 64, pos := "ttext.go:287", after := #[{ on := 2, ground := Ground.data }], guard := none }) rfl (fun K hK => ?_) AllReady.nil;go_simp;(with_reducible refine (HC2.out).mono ?_);intro e w6 hq;obtain ⟨rfl, ho6⟩ := hq;refine (show _ ∧ _ from ⟨rfl, ?_⟩);rw [HRE2.out, ← HGO.out];exact ⟨rfl, HO1.out.trans (HM2.out.only.trans (HO3.out.trans ho6))⟩
       · refine AllReady.cons (o := { dst := some 31, op := Op.call { callee := Callee.value (Operand.tmp 30), args := #[], argTypes := #[] }, type := 64, pos := "ttext.go:287", after := #[{ on := 2, ground := Ground.data }], guard := none }) rfl (fun K hK => ?_) AllReady.nil;go_simp;(with_reducible refine (HC2.out).mono ?_);intro e w6 hq;obtain ⟨rfl, ho6⟩ := hq;refine (show _ ∧ _ from ⟨rfl, ?_⟩);rw [HRE2.out, ← HGO.out];exact ⟨rfl, HO1.out.trans (HM2.out.only.trans (HO3.out.trans ho6))⟩
      | ok t2 j2=>
       refine wpAny_ready (rs := [1, 3]) (by kernel_rfl) (by simp) ?_;refine AllReady.cons (o := { dst := some 29, op := Op.load 64 (Operand.tmp 7), type := 64, pos := "ttext.go:287", after := #[], guard := none }) rfl (fun K hK => ?_) ?_
       · go_simp;refine hK _ _ ?_;clear hK K;(try simp only [Act.put, sAr, sZe, sSu]);refine wpAny_ready (rs := [3]) (by kernel_rfl) (by simp) ?_;refine AllReady.cons (o := { dst := some 31, op := Op.call { callee := Callee.value (Operand.tmp 30), args := #[], argTypes := #[] }, type := 64, pos := "ttext.go:287", after := #[{ on := 2, ground := Ground.data }], guard := none }) rfl (fun K hK => ?_) AllReady.nil;go_simp;(with_reducible refine (HC2.out).mono ?_);intro e w6 hq;obtain ⟨⟨A2, c2, rfl, hV2⟩, hij2, hjl2', hR6, ho6⟩ := hq;obtain ⟨n3, HN3⟩ := exh_ t2.kids.length;unfold Tm.val;rw [← HN3.out];have HO6 := Lib.hid ho6;have HV2 := Lib.hid hV2;have HR6 := Lib.hid hR6;have hs6 := ho6.size;have hbt6 : bt < w6.heap.size := by omega
         have HB6 := Lib.hid ((ho6.block bt (by omega) hbr).trans HB3.out);clear hV2 hR6 ho6 y0 y1 y2 y3;obtain ⟨y0, y1, y2, y3, xq⟩ := q4 HB6.out;refine hK _ _ ?_;clear hK K;(try simp only [Act.put, sAr, sZe, sSu]);refine wpAny_ready (rs := [4]) (by kernel_rfl) (by simp) ?_;refine AllReady.cons (o := { dst := some 32, op := Op.buildSlice 25 2 #[(0, Operand.tmp 29), (1, Operand.tmp 31)], type := 25, pos := "ttext.go:287", after := #[{ on := 1, ground := Ground.data }, { on := 3, ground := Ground.data }], guard := none }) rfl (fun K hK => ?_) AllReady.nil;go_simp;refine hK _ _ ?_;clear hK K;(try simp only [Act.put, sAr, sZe, sSu]);refine wpAny_ready (rs := [5]) (by kernel_rfl) (by simp) ?_;refine AllReady.cons (o := { dst := some 33, op := Op.build 64 #[(0, Operand.tmp 28), (3, Operand.tmp 32)], type := 64, pos := "ttext.go:287", after := #[{ on := 0, ground := Ground.data }, { on := 4, ground := Ground.data }], guard := none }) rfl (fun K hK => ?_) AllReady.nil;go_simp;refine hK _ _ ?_;clear hK K;(try simp only [Act.put, sAr, sZe, sSu]);refine wpAny_ready (rs := [6]) (by kernel_rfl) (by simp) ?_
         refine AllReady.cons (o := { dst := none, op := Op.store 64 (Operand.tmp 7) (Operand.tmp 33), type := 0, pos := "ttext.go:287", after := #[{ on := 5, ground := Ground.data }, { on := 3, ground := Ground.chain }, { on := 0, ground := Ground.phase }, { on := 1, ground := Ground.phase }, { on := 2, ground := Ground.phase }, { on := 3, ground := Ground.phase }, { on := 4, ground := Ground.phase }, { on := 5, ground := Ground.phase }], guard := none }) rfl (fun K hK => ?_) AllReady.nil;go_simp;refine hK _ _ ?_;clear hK K;(try simp only [Act.put, sAr, sZe, sSu]);refine wpAny_done (by kernel_rfl) ?_ _;go_wp2_with fail;obtain ⟨WQ, hWQ⟩ := ex_ ((((w6.setCell ⟨bt, 0, none⟩ (.int .i64 zz)).setCell ⟨bt, 1, none⟩ (.int .i64 0)).setCell ⟨bt, 2, none⟩ (.string ⟨#[]⟩)).setCell ⟨bt, 3, none⟩ (.slice (some ⟨w6.heap.size, 0, none⟩) 2 2));rw [← hWQ];have hqs : WQ.heap.size = w6.heap.size := by rw [hWQ]; simp
         have hbQ:WQ.heap[bt]?=some (.cells #[.int .i64 zz,.int .i64 0,.string ⟨#[]⟩,.slice (some ⟨w6.heap.size,0,none⟩) 2 2] 64 (0,0)):=by rw [hWQ];exact res4 HB6.out
         have hRQ:Rdr WQ R A l.length c j2 d:=by
          have hne:R≠bt:=fun h=>hbr h.symm;rw [hWQ];unfold Rdr;rw [hO_ _ ⟨bt,3,none⟩ R _ hne,hO_ _ ⟨bt,2,none⟩ R _ hne,hO_ _ ⟨bt,1,none⟩ R _ hne,hO_ _ ⟨bt,0,none⟩ R _ hne];exact HR6.out
         have hkQ:KeepS (fun q=>w1.heap.size≤q∧q≠bt) w6 WQ:=by
          rw [hWQ];exact (((KeepS.refl.set (fun h=>h.2 rfl) _).set (fun h=>h.2 rfl) _).set (fun h=>h.2 rfl) _).set (fun h=>h.2 rfl) _
         have ho36:=HM2.out.only.trans (HO3.out.trans HO6.out)
         have hOQ:Only (fun q=>q=R) w1 WQ:=by
          rw [hWQ];exact only_setN (only_setN (only_setN (only_setN ho36 hbt _) hbt _) hbt _) hbt _
         clear hWQ;rw [HN.out,HN3.out];obtain ⟨W7,hW7⟩:=ex_ (WQ.alloc (.cells #[.int .i64 t.op,.int .i64 t.num,.string t.name,.slice A' t.kids.length c',.int .i64 t2.op,.int .i64 t2.num,.string t2.name,.slice A2 t2.kids.length c2] 64));rw [←hW7];have hb7:=bAl hW7;have hs7:W7.heap.size=w6.heap.size+1:=by rw [hW7];simp [hqs]
         have hrow7:W7.heap[w6.heap.size]?=some (.cells (flatE [⟨t,A',c'⟩,⟨t2,A2,c2⟩]).toArray 64 (0,0)):=by rw [hW7,←hqs];exact hA_ WQ _
         have hR7:=hRQ.below hb7 (by omega);have hO7:=hOQ.trans (Ob (F:=fun q=>q=R) hb7);have hk7:KeepS (fun q=>w1.heap.size≤q∧q≠bt) w6 W7:=hkQ.trans (Kb hb7);have hbx7:=(hb7.block bt (by omega)).trans hbQ
         have HM7:=Hd (fun q=>LeftS.next (j2:=j2) (t2:=t2) (W:=W7.drewN q) (op:=zz) HM2.out (by omega) rfl (HO3.out.trans HO6.out) (by omega) hjl2' (HV2.out.keep Kr (fun q _ h=>by omega)) ⟨hk7.size,hk7.block⟩ (hR7.drewN q) (hO7.drewN q) hbx7 (lr _) (fun k v hv=>by
          have hr:(W7.drewN q).heap[w6.heap.size]?=some (.cells (flatE [⟨t,A',c'⟩,⟨t2,A2,c2⟩]).toArray 64 (0,0)):=hrow7;rw [cR _ _ k _ _ (0,0) hr]
          simpa using hv) (by show _<W7.heap.size;omega))
         have hsg7:=HSGN.out j2 W7 hR7 (HO1.out.trans hO7) hjl2';have HSG7:=Hd hsg7;clear hW7 hb7 hrow7 hR7 hO7 hk7 hbx7 hsg7 hqs hbQ hRQ hkQ ho36 hOQ y0 y1 y2 y3 xq;refine (HSG7.out).mono ?_;rintro e w7 ⟨rfl,q,hw7⟩;have hm7:=HM7.out q;rw [←hw7] at hm7;have HM8:=Hd hm7;have hrd7:=rdAt_of hm7.rdr;have hrdr:=rdAt_of HM2.out.rdr
         have HGO2:Hid (leftL l one ops fu (tmOf zz [t,t2]) j2=r):=by
          show _=_;rw [HZZ.out];exact HGO.out
         clear hm7 hw7;go_wp2_with fail
         go_roundw
         case rel=>exact ⟨tmOf zz [t,t2],some ⟨w6.heap.size,0,none⟩,2,j2,fu,rfl,HM8.out,by omega,HGO2.out⟩
         case measure=>rw [hrd7,hrdr];omega
       · refine AllReady.cons (o := { dst := some 31, op := Op.call { callee := Callee.value (Operand.tmp 30), args := #[], argTypes := #[] }, type := 64, pos := "ttext.go:287", after := #[{ on := 2, ground := Ground.data }], guard := none }) rfl (fun K hK => ?_) AllReady.nil;go_simp;(with_reducible refine (HC2.out).mono ?_);intro e w6 hq;obtain ⟨⟨A2, c2, rfl, hV2⟩, hij2, hjl2', hR6, ho6⟩ := hq;obtain ⟨n3, HN3⟩ := exh_ t2.kids.length;unfold Tm.val;rw [← HN3.out];have HO6 := Lib.hid ho6;have HV2 := Lib.hid hV2;have HR6 := Lib.hid hR6;have hs6 := ho6.size;have hbt6 : bt < w6.heap.size := by omega
         have HB6 := Lib.hid ((ho6.block bt (by omega) hbr).trans HB3.out);clear hV2 hR6 ho6 y0 y1 y2 y3;obtain ⟨y0, y1, y2, y3, xq⟩ := q4 HB6.out;refine hK _ _ ?_;clear hK K;(try simp only [Act.put, sAr, sZe, sSu]);refine wpAny_ready (rs := [1]) (by kernel_rfl) (by simp) ?_;refine AllReady.cons (o := { dst := some 29, op := Op.load 64 (Operand.tmp 7), type := 64, pos := "ttext.go:287", after := #[], guard := none }) rfl (fun K hK => ?_) AllReady.nil;go_simp;refine hK _ _ ?_;clear hK K;(try simp only [Act.put, sAr, sZe, sSu]);refine wpAny_ready (rs := [4]) (by kernel_rfl) (by simp) ?_;refine AllReady.cons (o := { dst := some 32, op := Op.buildSlice 25 2 #[(0, Operand.tmp 29), (1, Operand.tmp 31)], type := 25, pos := "ttext.go:287", after := #[{ on := 1, ground := Ground.data }, { on := 3, ground := Ground.data }], guard := none }) rfl (fun K hK => ?_) AllReady.nil;go_simp;refine hK _ _ ?_;clear hK K;(try simp only [Act.put, sAr, sZe, sSu]);refine wpAny_ready (rs := [5]) (by kernel_rfl) (by simp) ?_;refine AllReady.cons (o := { dst := some 33, op := Op.build 64 #[(0, Operand.tmp 28), (3, Operand.tmp 32)], type := 64, pos := "ttext.go:287", after := #[{ on := 0, ground := Ground.data }, { on := 4, ground := Ground.data }], guard := none }) rfl (fun K hK => ?_) AllReady.nil;go_simp;refine hK _ _ ?_;clear hK K;(try simp only [Act.put, sAr, sZe, sSu]);refine wpAny_ready (rs := [6]) (by kernel_rfl) (by simp) ?_
         refine AllReady.cons (o := { dst := none, op := Op.store 64 (Operand.tmp 7) (Operand.tmp 33), type := 0, pos := "ttext.go:287", after := #[{ on := 5, ground := Ground.data }, { on := 3, ground := Ground.chain }, { on := 0, ground := Ground.phase }, { on := 1, ground := Ground.phase }, { on := 2, ground := Ground.phase }, { on := 3, ground := Ground.phase }, { on := 4, ground := Ground.phase }, { on := 5, ground := Ground.phase }], guard := none }) rfl (fun K hK => ?_) AllReady.nil;go_simp;refine hK _ _ ?_;clear hK K;(try simp only [Act.put, sAr, sZe, sSu]);refine wpAny_done (by kernel_rfl) ?_ _;go_wp2_with fail;obtain ⟨WQ, hWQ⟩ := ex_ ((((w6.setCell ⟨bt, 0, none⟩ (.int .i64 zz)).setCell ⟨bt, 1, none⟩ (.int .i64 0)).setCell ⟨bt, 2, none⟩ (.string ⟨#[]⟩)).setCell ⟨bt, 3, none⟩ (.slice (some ⟨w6.heap.size, 0, none⟩) 2 2));rw [← hWQ];have hqs : WQ.heap.size = w6.heap.size := by rw [hWQ]; simp
         have hbQ:WQ.heap[bt]?=some (.cells #[.int .i64 zz,.int .i64 0,.string ⟨#[]⟩,.slice (some ⟨w6.heap.size,0,none⟩) 2 2] 64 (0,0)):=by rw [hWQ];exact res4 HB6.out
         have hRQ:Rdr WQ R A l.length c j2 d:=by
          have hne:R≠bt:=fun h=>hbr h.symm;rw [hWQ];unfold Rdr;rw [hO_ _ ⟨bt,3,none⟩ R _ hne,hO_ _ ⟨bt,2,none⟩ R _ hne,hO_ _ ⟨bt,1,none⟩ R _ hne,hO_ _ ⟨bt,0,none⟩ R _ hne];exact HR6.out
         have hkQ:KeepS (fun q=>w1.heap.size≤q∧q≠bt) w6 WQ:=by
          rw [hWQ];exact (((KeepS.refl.set (fun h=>h.2 rfl) _).set (fun h=>h.2 rfl) _).set (fun h=>h.2 rfl) _).set (fun h=>h.2 rfl) _
         have ho36:=HM2.out.only.trans (HO3.out.trans HO6.out)
         have hOQ:Only (fun q=>q=R) w1 WQ:=by
          rw [hWQ];exact only_setN (only_setN (only_setN (only_setN ho36 hbt _) hbt _) hbt _) hbt _
         clear hWQ;rw [HN.out,HN3.out];obtain ⟨W7,hW7⟩:=ex_ (WQ.alloc (.cells #[.int .i64 t.op,.int .i64 t.num,.string t.name,.slice A' t.kids.length c',.int .i64 t2.op,.int .i64 t2.num,.string t2.name,.slice A2 t2.kids.length c2] 64));rw [←hW7];have hb7:=bAl hW7;have hs7:W7.heap.size=w6.heap.size+1:=by rw [hW7];simp [hqs]
         have hrow7:W7.heap[w6.heap.size]?=some (.cells (flatE [⟨t,A',c'⟩,⟨t2,A2,c2⟩]).toArray 64 (0,0)):=by rw [hW7,←hqs];exact hA_ WQ _
         have hR7:=hRQ.below hb7 (by omega);have hO7:=hOQ.trans (Ob (F:=fun q=>q=R) hb7);have hk7:KeepS (fun q=>w1.heap.size≤q∧q≠bt) w6 W7:=hkQ.trans (Kb hb7);have hbx7:=(hb7.block bt (by omega)).trans hbQ
         have HM7:=Hd (fun q=>LeftS.next (j2:=j2) (t2:=t2) (W:=W7.drewN q) (op:=zz) HM2.out (by omega) rfl (HO3.out.trans HO6.out) (by omega) hjl2' (HV2.out.keep Kr (fun q _ h=>by omega)) ⟨hk7.size,hk7.block⟩ (hR7.drewN q) (hO7.drewN q) hbx7 (lr _) (fun k v hv=>by
          have hr:(W7.drewN q).heap[w6.heap.size]?=some (.cells (flatE [⟨t,A',c'⟩,⟨t2,A2,c2⟩]).toArray 64 (0,0)):=hrow7;rw [cR _ _ k _ _ (0,0) hr]
          simpa using hv) (by show _<W7.heap.size;omega))
         have hsg7:=HSGN.out j2 W7 hR7 (HO1.out.trans hO7) hjl2';have HSG7:=Hd hsg7;clear hW7 hb7 hrow7 hR7 hO7 hk7 hbx7 hsg7 hqs hbQ hRQ hkQ ho36 hOQ y0 y1 y2 y3 xq;refine (HSG7.out).mono ?_;rintro e w7 ⟨rfl,q,hw7⟩;have hm7:=HM7.out q;rw [←hw7] at hm7;have HM8:=Hd hm7;have hrd7:=rdAt_of hm7.rdr;have hrdr:=rdAt_of HM2.out.rdr
         have HGO2:Hid (leftL l one ops fu (tmOf zz [t,t2]) j2=r):=by
          show _=_;rw [HZZ.out];exact HGO.out
         clear hm7 hw7;go_wp2_with fail
         go_roundw
         case rel=>exact ⟨tmOf zz [t,t2],some ⟨w6.heap.size,0,none⟩,2,j2,fu,rfl,HM8.out,by omega,HGO2.out⟩
         case measure=>rw [hrd7,hrdr];omega
end Go.Proofs.YtkhoeoilamddaaaGreatDoor
