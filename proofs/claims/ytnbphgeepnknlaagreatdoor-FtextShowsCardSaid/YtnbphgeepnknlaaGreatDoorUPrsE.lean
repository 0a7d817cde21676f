/- Walks and plain words: PrsE PrsF PrsG. -/
import Derived.Test.YtnbphgeepnknlaaGreatDoorUPrsC
namespace Go.Proofs.YtnbphgeepnknlaaGreatDoor
open Go.RowKit
set_option linter.unusedVariables false
set_option linter.unusedSimpArgs false
set_option maxRecDepth 100000
set_option maxHeartbeats 8000000
theorem only_setN {F:Nat→Prop} {w W:World} {b o:Nat} (h:Only F w W) (hb:w.heap.size≤b) (v:Value):Only F w (W.setCell ⟨b,o,none⟩ v):=by
 refine ⟨h.os,h.tape,h.output,by simpa using h.size,fun q hq hf=>?_⟩;have hne:q≠b:=by omega
 rw [hO_ _ ⟨b,o,none⟩ q _ hne];exact h.block q hq hf
theorem left_stop {l:List Tok} {ops:List Int} {one:Par} {fuel j:Nat} {t:Tm} (h:whichOp l j ops=0):leftL l one ops fuel t j=.ok t j:=by
 cases fuel with
 | zero=>rfl
 | succ k=>rw [leftL,iP h]
theorem left_go {l:List Tok} {ops:List Int} {one:Par} {fuel j:Nat} {t:Tm} (h:whichOp l j ops≠0):leftL l one ops (fuel+1) t j=(one (j+1)).then fun u j2=>leftL l one ops fuel (tmOf (whichOp l j ops) [t,u]) j2:=by rw [leftL,iN h]
theorem OpsAt.only {w w':World} {b R:Nat} {l:List Int} (h:OpsAt w b l) (ho:Only (fun q=>q=R) w w') (hb:b<w.heap.size) (hne:b≠R):OpsAt w' b l:=fun j z hz=>by rw [ho.cell hb hne];exact h j z hz
structure LeftS (R:Nat) (A:Option Addr) (c d:Nat) (l:List Tok) (i B0 bt:Nat) (w1 wr:World) (t:Tm) (A':Option Addr) (c' j:Nat):Prop where
 box:wr.heap[bt]?=some (.cells #[.int .i64 t.op,.int .i64 t.num,.string t.name,.slice A' t.kids.length c'] 25 (0,0))
 val:TmVS (fun q=>B0≤q∧q≠bt) wr A' c' t
 rdr:Rdr wr R A l.length c j d
 only:Only (fun q=>q=R) w1 wr
 ij:i<j
 jl:j≤l.length
theorem LeftS.first {R c d i j:Nat} {A A':Option Addr} {c':Nat} {l:List Tok} {w1 w4:World} {t:Tm} (hR:R<w1.heap.size) (hij:i<j) (hj:j≤l.length) (hV:TmVS (fun q=>w1.heap.size≤q) w4 A' c' t) (hr:Rdr w4 R A l.length c j d) (ho:Only (fun q=>q=R) w1 w4) (q:Nat) :
 LeftS R A c d l i w1.heap.size w4.heap.size w1 ((w4.alloc (.cells #[.int .i64 t.op,.int .i64 t.num,.string t.name,.slice A' t.kids.length c'] 25)).drewN q) t A' c' j:=by
 have hb:Below w4.heap.size w4 (w4.alloc (.cells #[.int .i64 t.op,.int .i64 t.num,.string t.name,.slice A' t.kids.length c'] 25)):=(Br _ _).alloc (lr _) _;refine ⟨hA_ w4 _,?_,(hr.below hb hr.lt).drewN q,(ho.trans (Ob hb)).drewN q,hij,hj⟩;have hk:KeepS (fun q=>w1.heap.size≤q) w4 ((w4.alloc (.cells #[.int .i64 t.op,.int .i64 t.num,.string t.name,.slice A' t.kids.length c'] 25)).drewN q):=⟨(Kb (S:=fun _=>True) hb).size,fun q _ hq=>hb.block q hq⟩;exact hV.keep hk (fun q hq h=>⟨h,by omega⟩)
theorem LeftS.next {R c d i j j2 B0 bt g:Nat} {A A' A2:Option Addr} {c' c2:Nat} {l:List Tok} {w1 wr w6 W:World} {t t2:Tm} {op:Int} (h:LeftS R A c d l i B0 bt w1 wr t A' c' j) (hRB:R<B0) (hB1:B0=w1.heap.size) (ho:Only (fun q=>q=R) wr w6) (hj:j<j2) (hj2:j2≤l.length) (hV2:TmVS (fun q=>wr.heap.size≤q) w6 A2 c2 t2)
 (hk:KeepS (fun q=>B0≤q∧q≠bt) w6 W) (hR:Rdr W R A l.length c j2 d) (hO:Only (fun q=>q=R) w1 W) (hbx:W.heap[bt]?=some (.cells #[.int .i64 op,.int .i64 0,.string ⟨#[]⟩,.slice (some ⟨g,0,none⟩) 2 2] 25 (0,0)))
 (hg:w6.heap.size≤g) (hrow:∀ k v,(flatE [⟨t,A',c'⟩,⟨t2,A2,c2⟩])[k]?=some v→W.cell? ⟨g,k,none⟩=some v) (hgW:g<W.heap.size):LeftS R A c d l i B0 bt w1 W (tmOf op [t,t2]) (some ⟨g,0,none⟩) 2 j2:=by
 have hbl:bt<wr.heap.size:=lH h.box;have hs6:=ho.size;have hos:=h.only.size;refine ⟨hbx,⟨lr _,by unfold maxLen;omega,zl _,.inr ⟨g,0,rfl,⟨by omega,by omega⟩,hgW,?_⟩⟩,hR,hO,by have:=h.ij;omega,hj2⟩;refine row_of_cells [⟨t,A',c'⟩,⟨t2,A2,c2⟩] 0 (fun k v hv=>by rw [Nat.zero_add];exact hrow k v hv) ?_;intro e he;have h1:TmVS (fun q=>B0≤q∧q≠bt) w6 A' c' t:=h.val.keep (KeepS.of_only ho (fun h=>by have:=h.1;omega)) (fun q _ h=>h);have h2:TmVS (fun q=>B0≤q∧q≠bt) w6 A2 c2 t2:=hV2.keep Kr (fun q _ h=>⟨by omega,by omega⟩);simp only [List.mem_cons,List.not_mem_nil,or_false] at he
 rcases he with rfl | rfl
 · exact h1.keep hk (fun q _ h=>h)
 · exact h2.keep hk (fun q _ h=>h)
theorem pleft_any (R:Nat) (A:Option Addr) (c d:Nat) (l:List Tok) (K:FuncId) (x:Value) (m:Bool) (Inv:World→Prop) (one:Par) (bo co:Nat) (ops:List Int) (i:Nat) (w:World) (hrun:∀ args W,(callFunc K args).run Tryz.prog W=.ok (.enter K args) W)
 (hInv:∀ w w',Inv w→Only (fun q=>q=R) w w'→Inv w') (hF:FnC R A c d l K x Inv one) (hi:i≤l.length) (hR:Rdr w R A l.length c i d) (hP:PTok w R A c l) (hw:Inv w) (hops:OpsAt w bo ops) (hol:ops.length≤20) (hbo:bo<w.heap.size) (hboR:bo≠R) :
 Calls Tryz.prog 214 #[.pointer (some ⟨R,0,none⟩),fvOf m K x,.slice (some ⟨bo,0,none⟩) ops.length co] w (PQ R A c d l i (left l one ops i) w):=by
 have hlen:=hP.len;have hRlt:=hR.lt;obtain ⟨w1,hw1⟩:=ex_ (w.alloc (.cells #[.int .i64 0,.int .i64 0,.string ⟨#[]⟩,.slice none 0 0] 25));have hb1:=bAl hw1;have hs1:w1.heap.size=w.heap.size+1:=by rw [hw1];simp
 have hbx:w1.heap[w.heap.size]?=some (.cells #[.int .i64 0,.int .i64 0,.string ⟨#[]⟩,.slice none 0 0] 25 (0,0)):=by rw [hw1];exact hA_ w _
 have ho1:Only (fun q=>q=R) w w1:=Ob hb1;have hc1:=hF i w1 hi (hR.below hb1 hRlt) (hP.only ho1) (hInv w w1 hw ho1);obtain ⟨r1,hr1⟩:=ex_ (one i);obtain ⟨F,hF0⟩:=ex_ (PQ R A c d l i (left l one ops i) w);have HRE:Hid (F=PQ R A c d l i (r1.then fun t j=>leftL l one ops l.length t j) w):=by show _=_;rw [hF0,hr1];rfl
 rw [←hF0];rw [←hr1] at hc1
 have hsgn:∀ (j:Nat) (W:World),Rdr W R A l.length c j d→Only (fun q=>q=R) w W→j≤l.length→Calls Tryz.prog 126 #[.pointer (some ⟨R,0,none⟩),.slice (some ⟨bo,0,none⟩) ops.length co] W fun e w'=>e=.returned (.int .i64 (whichOp l j ops))∧∃ n,w'=W.drewN n:=fun j W hRW hOW hj=>
  psign_any R A c j d l bo co ops W hRW (hP.only hOW) (by omega) (hops.only hOW hbo hboR) hol (lL hbo hOW.size)
 have HSGN:=Hd hsgn;have HC1:=Hd hc1;have HW1:=Hd hw1;have HB1:=Hd hb1;have HO1:=Hd ho1;have HBX:=Hd hbx;have HFN:=Hd hF;have HINV:=Hd hInv;have HP:=Hd hP;have HWI:=Hd hw;obtain ⟨no,hno⟩:=ex_ ops.length;rw [←hno] at hsgn ⊢;have HSGN:=Hd hsgn;clear hc1 hr1 hF0 hw1 hb1 ho1 hbx hF hInv hP hw hR hsgn hops hno;cases m
 all_goals
  unfold fvOf;simp only [if_true,Bool.false_eq_true,if_false];go_enter Tryz.func214,Tryz.ntmps214;go_wp2_with fail;rw [←HW1.out];refine (HC1.out).mono ?_;intro e w4 hq
  cases r1 with
  | bad j x=>
   obtain ⟨rfl,ho4⟩:=hq;refine (show _∧_ from ⟨rfl,?_⟩);rw [HRE.out];exact ⟨rfl,HO1.out.trans ho4⟩
  | ok t j=>
   obtain ⟨⟨A',c',rfl,hV⟩,hij,hjl,hR4,ho4⟩:=hq;have hsg:=fun (W:World) (hW:W=w4.alloc (.cells #[.int .i64 t.op,.int .i64 t.num,.string t.name,.slice A' t.kids.length c'] 25))=>HSGN.out j W (by rw [hW];exact hR4.below ((Br _ _).alloc (lr _) _) hR4.lt) (by rw [hW];exact HO1.out.trans (ho4.trans (Ob ((Br _ _).alloc (lr _) _)))) hjl;have hm:=fun q=>LeftS.first (i:=i) (by omega) hij hjl hV hR4 ho4 q;obtain ⟨n2,HN2⟩:=exh_ t.kids.length;unfold Tm.val;rw [←HN2.out];rw [←HN2.out] at hsg;have HSG:=Hd hsg;have HM:=Hd hm;have HRE2:Hid (F=PQ R A c d l i (leftL l one ops l.length t j) w):=HRE.out;obtain ⟨r,hr⟩:=ex_ (leftL l one ops l.length t j);rw [←hr] at HRE2;have HR:=Hd hr;clear hV hR4 hr hij hsg hm;go_wp2_with fail;refine (HSG.out _ rfl).mono ?_;rintro e w5 ⟨rfl,q,hw5⟩;have hmq:=HM.out q;rw [←HN2.out,←hw5] at hmq;have HMQ:=Hd hmq;have hbt:w4.heap.size ≥ w1.heap.size:=ho4.size;clear hmq hw5;obtain ⟨bt,hbt0⟩:=ex_ w4.heap.size;rw [←hbt0] at hbt HMQ;go_wp2_with fail;rw [←hbt0];clear hbt0
   go_loopw [8] (fun sv wr=>∃ (t:Tm) (A':Option Addr) (c' j fuel:Nat),sv=.int .i64 (whichOp l j ops)∧LeftS R A c d l i w1.heap.size bt w1 wr t A' c' j∧l.length≤fuel+j∧leftL l one ops fuel t j=r) (fun _ wr=>l.length - rdAt R wr)
   case atStart=>exact ⟨t,A',c',j,l.length,rfl,HMQ.out,by omega,HR.out.symm⟩
   case round=>
    obtain ⟨t,A',c',j,fuel,rfl,hM,hfu,hre⟩:=hrel;have HM2:=Hd hM;have HRE3:=Hd hre;have hjl2:=hM.jl;have hsr:=hM.only.size;have hRr:=hM.rdr.lt;have hbtl:bt<wr.heap.size:=lH hM.box;have hbwr:w.heap.size<wr.heap.size:=by omega
    have hbxr:=(hM.only.block w.heap.size (by omega) (by omega)).trans HBX.out;have hbox:=hM.box;obtain ⟨n,HN⟩:=exh_ t.kids.length;rw [←HN.out] at hbox;have HBXR:=Hd hbxr;have HBOX:=Hd hbox;obtain ⟨v0,v1,v2,v3,zq⟩:=q4 hbxr;obtain ⟨y0,y1,y2,y3,xq⟩:=q4 hbox;clear hM hre hbxr hbox
    by_cases hz:whichOp l j ops=0
    · have hzb:(whichOp l j ops != 0)=false:=by simpa using hz
      have HRR:Hid (r=.ok t j):=by show _=_;rw [←HRE3.out];exact left_stop hz
      clear hz;obtain ⟨zz,hzz⟩:=ex_ (whichOp l j ops);rw [←hzz] at hzb ⊢;clear hzz;go_wp2_with fail;refine bR (rcT (res4 HBXR.out)) rfl ?_;rw [HRE2.out,HRR.out];have h:=pq_end (.int .i64 t.op) (.int .i64 t.num) (.string t.name) (.slice A' n c') HM2.out.ij HM2.out.jl hRlt HM2.out.rdr (HO1.out.trans HM2.out.only) (HM2.out.val.keep Kr (fun q _ h=>by have:=h.1;omega));unfold Tm.val at h;rw [←HN.out] at h;exact h
    · have hzb:(whichOp l j ops != 0)=true:=by simpa using hz
      have hjl3:=which_lt hz;have HZ:Hid (whichOp l j ops≠0):=hz;obtain ⟨zz,HZZ⟩:=exh_ (whichOp l j ops);rw [←HZZ.out] at hzb ⊢;have c1:=HM2.out.rdr.c1;have f1:=HM2.out.rdr.frozen 1;have hbr:bt≠R:=by omega
      clear hz;go_wp2_with fail
      -- REGION
      refine wp_region_any (by kernel_rfl) ?_
      change wpAny _ _ _ _ _ _ _ (World.drew _)
      obtain ⟨W3, hW3⟩ := ex_ ((wr.setCell ⟨R, 1, none⟩ (.int .i64 ((j : Int) + 1))).drew);have hwn : Went R A l.length c d (j + 1) wr ((wr.setCell ⟨R, 1, none⟩ (.int .i64 ((j : Int) + 1))).drew) := went_more (m := 1) (went_next (m := 0) HM2.out.rdr);rw [← hW3] at hwn ⊢;have ho3 : Only (fun q => q = R) wr W3 := hwn.2.1;have hs3 : W3.heap.size = wr.heap.size := hwn.2.2;have hP3 := HP.out.only (HO1.out.trans (HM2.out.only.trans ho3));have hI3 := HINV.out w W3 HWI.out (HO1.out.trans (HM2.out.only.trans ho3));have hcall := HFN.out (j + 1) W3 (by omega) hwn.1 hP3 hI3;have HB3 := Lib.hid ((ho3.block bt hbtl hbr).trans HBOX.out);obtain ⟨fu, rfl⟩ : ∃ fu, fuel = fu + 1 := ⟨fuel - 1, by omega⟩;have hgo := HRE3.out;rw [left_go HZ.out] at hgo;obtain ⟨r2, hr2⟩ := ex_ (one (j + 1));rw [← hr2] at hgo hcall;have HGO := Lib.hid hgo;have HC2 := Lib.hid hcall;have HO3 := Lib.hid ho3;clear hW3 hwn ho3 hP3 hI3 hcall hgo hr2 c1 f1 zq y0 y1 y2 y3 xq;obtain ⟨y0, y1, y2, y3, xq⟩ := q4 HB3.out;clear xq;refine wpAny_take (i := 0) (oi := { dst := some 28, op := Op.move (Operand.tmp 8), type := 3, pos := "ttext.go:287", after := #[], guard := none }) (v := ?_) rfl (by kernel_rfl) (by kernel_rfl) (by kernel_rfl) (fun _ _ _ h => h) (Or.inl ⟨by rfl, ?hy⟩) ?_
      case hy=>intro w0;go_simp;(first | done | with_reducible rfl)
      (try simp only [Act.put, sAr, sZe, sSu]);refine wpAny_take (i := 2) (oi := { dst := some 30, op := Op.move (Operand.tmp 1), type := 136, pos := "ttext.go:287", after := #[], guard := none }) (v := ?_) rfl (by kernel_rfl) (by kernel_rfl) (by kernel_rfl) (fun _ _ _ h => h) (Or.inl ⟨by rfl, ?hy⟩) ?_
      case hy=>intro w0;go_simp;(first | done | with_reducible rfl)
      try simp only [Act.put,sAr,sZe,sSu]
      cases r2 with
      | bad jb xb=>
       refine wpAny_ready (rs := [1, 3]) (by kernel_rfl) (by simp) ?_;refine AllReady.cons (o := { dst := some 29, op := Op.load 25 (Operand.tmp 7), type := 25, pos := "ttext.go:287", after := #[], guard := none }) rfl (fun K hK => ?_) ?_
       · go_simp;refine hK _ _ ?_;clear hK K;(try simp only [Act.put, sAr, sZe, sSu]);refine wpAny_ready (rs := [3]) (by kernel_rfl) (by simp) ?_;refine AllReady.cons (o := { dst := some 31, op := Op.call { callee := Callee.value (Operand.tmp 30), args := #[], argTypes := #[] }, type := 25, pos := "ttext.go:287", after := #[{ on := 2, ground := Ground.data }], guard := none }) rfl (fun K hK => ?_) AllReady.nil;go_simp;(with_reducible refine (HC2.out).mono ?_);intro e w6 hq;obtain ⟨rfl, ho6⟩ := hq;refine (show _ ∧ _ from ⟨rfl, ?_⟩);rw [HRE2.out, ← HGO.out];exact ⟨rfl, HO1.out.trans (HM2.out.only.trans (HO3.out.trans ho6))⟩
       · refine AllReady.cons (o := { dst := some 31, op := Op.call { callee := Callee.value (Operand.tmp 30), args := #[], argTypes := #[] }, type := 25, pos := "ttext.go:287", after := #[{ on := 2, ground := Ground.data }], guard := none }) rfl (fun K hK => ?_) AllReady.nil;go_simp;(with_reducible refine (HC2.out).mono ?_);intro e w6 hq;obtain ⟨rfl, ho6⟩ := hq;refine (show _ ∧ _ from ⟨rfl, ?_⟩);rw [HRE2.out, ← HGO.out];exact ⟨rfl, HO1.out.trans (HM2.out.only.trans (HO3.out.trans ho6))⟩
      | ok t2 j2=>
       refine wpAny_ready (rs := [1, 3]) (by kernel_rfl) (by simp) ?_;refine AllReady.cons (o := { dst := some 29, op := Op.load 25 (Operand.tmp 7), type := 25, pos := "ttext.go:287", after := #[], guard := none }) rfl (fun K hK => ?_) ?_
       · go_simp;refine hK _ _ ?_;clear hK K;(try simp only [Act.put, sAr, sZe, sSu]);refine wpAny_ready (rs := [3]) (by kernel_rfl) (by simp) ?_;refine AllReady.cons (o := { dst := some 31, op := Op.call { callee := Callee.value (Operand.tmp 30), args := #[], argTypes := #[] }, type := 25, pos := "ttext.go:287", after := #[{ on := 2, ground := Ground.data }], guard := none }) rfl (fun K hK => ?_) AllReady.nil;go_simp;(with_reducible refine (HC2.out).mono ?_);intro e w6 hq;obtain ⟨⟨A2, c2, rfl, hV2⟩, hij2, hjl2', hR6, ho6⟩ := hq;obtain ⟨n3, HN3⟩ := exh_ t2.kids.length;unfold Tm.val;rw [← HN3.out];have HO6 := Lib.hid ho6;have HV2 := Lib.hid hV2;have HR6 := Lib.hid hR6;have hs6 := ho6.size;have hbt6 : bt < w6.heap.size := by omega
         have HB6 := Lib.hid ((ho6.block bt (by omega) hbr).trans HB3.out);clear hV2 hR6 ho6 y0 y1 y2 y3;obtain ⟨y0, y1, y2, y3, xq⟩ := q4 HB6.out;refine hK _ _ ?_;clear hK K;(try simp only [Act.put, sAr, sZe, sSu]);refine wpAny_ready (rs := [4]) (by kernel_rfl) (by simp) ?_;refine AllReady.cons (o := { dst := some 32, op := Op.buildSlice 23 2 #[(0, Operand.tmp 29), (1, Operand.tmp 31)], type := 23, pos := "ttext.go:287", after := #[{ on := 1, ground := Ground.data }, { on := 3, ground := Ground.data }], guard := none }) rfl (fun K hK => ?_) AllReady.nil;go_simp;refine hK _ _ ?_;clear hK K;(try simp only [Act.put, sAr, sZe, sSu]);refine wpAny_ready (rs := [5]) (by kernel_rfl) (by simp) ?_;refine AllReady.cons (o := { dst := some 33, op := Op.build 25 #[(0, Operand.tmp 28), (3, Operand.tmp 32)], type := 25, pos := "ttext.go:287", after := #[{ on := 0, ground := Ground.data }, { on := 4, ground := Ground.data }], guard := none }) rfl (fun K hK => ?_) AllReady.nil;go_simp;refine hK _ _ ?_;clear hK K;(try simp only [Act.put, sAr, sZe, sSu]);refine wpAny_ready (rs := [6]) (by kernel_rfl) (by simp) ?_
         refine AllReady.cons (o := { dst := none, op := Op.store 25 (Operand.tmp 7) (Operand.tmp 33), type := 0, pos := "ttext.go:287", after := #[{ on := 5, ground := Ground.data }, { on := 3, ground := Ground.chain }, { on := 0, ground := Ground.phase }, { on := 1, ground := Ground.phase }, { on := 2, ground := Ground.phase }, { on := 3, ground := Ground.phase }, { on := 4, ground := Ground.phase }, { on := 5, ground := Ground.phase }], guard := none }) rfl (fun K hK => ?_) AllReady.nil;go_simp;refine hK _ _ ?_;clear hK K;(try simp only [Act.put, sAr, sZe, sSu]);refine wpAny_done (by kernel_rfl) ?_ _;go_wp2_with fail;obtain ⟨WQ, hWQ⟩ := ex_ ((((w6.setCell ⟨bt, 0, none⟩ (.int .i64 zz)).setCell ⟨bt, 1, none⟩ (.int .i64 0)).setCell ⟨bt, 2, none⟩ (.string ⟨#[]⟩)).setCell ⟨bt, 3, none⟩ (.slice (some ⟨w6.heap.size, 0, none⟩) 2 2));rw [← hWQ];have hqs : WQ.heap.size = w6.heap.size := by rw [hWQ]; simp
         have hbQ:WQ.heap[bt]?=some (.cells #[.int .i64 zz,.int .i64 0,.string ⟨#[]⟩,.slice (some ⟨w6.heap.size,0,none⟩) 2 2] 25 (0,0)):=by rw [hWQ];exact res4 HB6.out
         have hRQ:Rdr WQ R A l.length c j2 d:=by
          have hne:R≠bt:=fun h=>hbr h.symm;rw [hWQ];unfold Rdr;rw [hO_ _ ⟨bt,3,none⟩ R _ hne,hO_ _ ⟨bt,2,none⟩ R _ hne,hO_ _ ⟨bt,1,none⟩ R _ hne,hO_ _ ⟨bt,0,none⟩ R _ hne];exact HR6.out
         have hkQ:KeepS (fun q=>w1.heap.size≤q∧q≠bt) w6 WQ:=by
          rw [hWQ];exact (((KeepS.refl.set (fun h=>h.2 rfl) _).set (fun h=>h.2 rfl) _).set (fun h=>h.2 rfl) _).set (fun h=>h.2 rfl) _
         have ho36:=HM2.out.only.trans (HO3.out.trans HO6.out)
         have hOQ:Only (fun q=>q=R) w1 WQ:=by
          rw [hWQ];exact only_setN (only_setN (only_setN (only_setN ho36 hbt _) hbt _) hbt _) hbt _
         clear hWQ;rw [HN.out,HN3.out];obtain ⟨W7,hW7⟩:=ex_ (WQ.alloc (.cells #[.int .i64 t.op,.int .i64 t.num,.string t.name,.slice A' t.kids.length c',.int .i64 t2.op,.int .i64 t2.num,.string t2.name,.slice A2 t2.kids.length c2] 25));rw [←hW7];have hb7:=bAl hW7;have hs7:W7.heap.size=w6.heap.size+1:=by rw [hW7];simp [hqs]
         have hrow7:W7.heap[w6.heap.size]?=some (.cells (flatE [⟨t,A',c'⟩,⟨t2,A2,c2⟩]).toArray 25 (0,0)):=by rw [hW7,←hqs];exact hA_ WQ _
         have hR7:=hRQ.below hb7 (by omega);have hO7:=hOQ.trans (Ob (F:=fun q=>q=R) hb7);have hk7:KeepS (fun q=>w1.heap.size≤q∧q≠bt) w6 W7:=hkQ.trans (Kb hb7);have hbx7:=(hb7.block bt (by omega)).trans hbQ
         have HM7:=Hd (fun q=>LeftS.next (j2:=j2) (t2:=t2) (W:=W7.drewN q) (op:=zz) HM2.out (by omega) rfl (HO3.out.trans HO6.out) (by omega) hjl2' (HV2.out.keep Kr (fun q _ h=>by omega)) ⟨hk7.size,hk7.block⟩ (hR7.drewN q) (hO7.drewN q) hbx7 (lr _) (fun k v hv=>by
          have hr:(W7.drewN q).heap[w6.heap.size]?=some (.cells (flatE [⟨t,A',c'⟩,⟨t2,A2,c2⟩]).toArray 25 (0,0)):=hrow7;rw [cR _ _ k _ _ (0,0) hr]
          simpa using hv) (by show _<W7.heap.size;omega))
         have hsg7:=HSGN.out j2 W7 hR7 (HO1.out.trans hO7) hjl2';have HSG7:=Hd hsg7;clear hW7 hb7 hrow7 hR7 hO7 hk7 hbx7 hsg7 hqs hbQ hRQ hkQ ho36 hOQ y0 y1 y2 y3 xq;refine (HSG7.out).mono ?_;rintro e w7 ⟨rfl,q,hw7⟩;have hm7:=HM7.out q;rw [←hw7] at hm7;have HM8:=Hd hm7;have hrd7:=rdAt_of hm7.rdr;have hrdr:=rdAt_of HM2.out.rdr
         have HGO2:Hid (leftL l one ops fu (tmOf zz [t,t2]) j2=r):=by
          show _=_;rw [HZZ.out];exact HGO.out
         clear hm7 hw7;go_wp2_with fail
         go_roundw
         case rel=>exact ⟨tmOf zz [t,t2],some ⟨w6.heap.size,0,none⟩,2,j2,fu,rfl,HM8.out,by omega,HGO2.out⟩
         case measure=>rw [hrd7,hrdr];omega
       · refine AllReady.cons (o := { dst := some 31, op := Op.call { callee := Callee.value (Operand.tmp 30), args := #[], argTypes := #[] }, type := 25, pos := "ttext.go:287", after := #[{ on := 2, ground := Ground.data }], guard := none }) rfl (fun K hK => ?_) AllReady.nil;go_simp;(with_reducible refine (HC2.out).mono ?_);intro e w6 hq;obtain ⟨⟨A2, c2, rfl, hV2⟩, hij2, hjl2', hR6, ho6⟩ := hq;obtain ⟨n3, HN3⟩ := exh_ t2.kids.length;unfold Tm.val;rw [← HN3.out];have HO6 := Lib.hid ho6;have HV2 := Lib.hid hV2;have HR6 := Lib.hid hR6;have hs6 := ho6.size;have hbt6 : bt < w6.heap.size := by omega
         have HB6 := Lib.hid ((ho6.block bt (by omega) hbr).trans HB3.out);clear hV2 hR6 ho6 y0 y1 y2 y3;obtain ⟨y0, y1, y2, y3, xq⟩ := q4 HB6.out;refine hK _ _ ?_;clear hK K;(try simp only [Act.put, sAr, sZe, sSu]);refine wpAny_ready (rs := [1]) (by kernel_rfl) (by simp) ?_;refine AllReady.cons (o := { dst := some 29, op := Op.load 25 (Operand.tmp 7), type := 25, pos := "ttext.go:287", after := #[], guard := none }) rfl (fun K hK => ?_) AllReady.nil;go_simp;refine hK _ _ ?_;clear hK K;(try simp only [Act.put, sAr, sZe, sSu]);refine wpAny_ready (rs := [4]) (by kernel_rfl) (by simp) ?_;refine AllReady.cons (o := { dst := some 32, op := Op.buildSlice 23 2 #[(0, Operand.tmp 29), (1, Operand.tmp 31)], type := 23, pos := "ttext.go:287", after := #[{ on := 1, ground := Ground.data }, { on := 3, ground := Ground.data }], guard := none }) rfl (fun K hK => ?_) AllReady.nil;go_simp;refine hK _ _ ?_;clear hK K;(try simp only [Act.put, sAr, sZe, sSu]);refine wpAny_ready (rs := [5]) (by kernel_rfl) (by simp) ?_;refine AllReady.cons (o := { dst := some 33, op := Op.build 25 #[(0, Operand.tmp 28), (3, Operand.tmp 32)], type := 25, pos := "ttext.go:287", after := #[{ on := 0, ground := Ground.data }, { on := 4, ground := Ground.data }], guard := none }) rfl (fun K hK => ?_) AllReady.nil;go_simp;refine hK _ _ ?_;clear hK K;(try simp only [Act.put, sAr, sZe, sSu]);refine wpAny_ready (rs := [6]) (by kernel_rfl) (by simp) ?_
         refine AllReady.cons (o := { dst := none, op := Op.store 25 (Operand.tmp 7) (Operand.tmp 33), type := 0, pos := "ttext.go:287", after := #[{ on := 5, ground := Ground.data }, { on := 3, ground := Ground.chain }, { on := 0, ground := Ground.phase }, { on := 1, ground := Ground.phase }, { on := 2, ground := Ground.phase }, { on := 3, ground := Ground.phase }, { on := 4, ground := Ground.phase }, { on := 5, ground := Ground.phase }], guard := none }) rfl (fun K hK => ?_) AllReady.nil;go_simp;refine hK _ _ ?_;clear hK K;(try simp only [Act.put, sAr, sZe, sSu]);refine wpAny_done (by kernel_rfl) ?_ _;go_wp2_with fail;obtain ⟨WQ, hWQ⟩ := ex_ ((((w6.setCell ⟨bt, 0, none⟩ (.int .i64 zz)).setCell ⟨bt, 1, none⟩ (.int .i64 0)).setCell ⟨bt, 2, none⟩ (.string ⟨#[]⟩)).setCell ⟨bt, 3, none⟩ (.slice (some ⟨w6.heap.size, 0, none⟩) 2 2));rw [← hWQ];have hqs : WQ.heap.size = w6.heap.size := by rw [hWQ]; simp
         have hbQ:WQ.heap[bt]?=some (.cells #[.int .i64 zz,.int .i64 0,.string ⟨#[]⟩,.slice (some ⟨w6.heap.size,0,none⟩) 2 2] 25 (0,0)):=by rw [hWQ];exact res4 HB6.out
         have hRQ:Rdr WQ R A l.length c j2 d:=by
          have hne:R≠bt:=fun h=>hbr h.symm;rw [hWQ];unfold Rdr;rw [hO_ _ ⟨bt,3,none⟩ R _ hne,hO_ _ ⟨bt,2,none⟩ R _ hne,hO_ _ ⟨bt,1,none⟩ R _ hne,hO_ _ ⟨bt,0,none⟩ R _ hne];exact HR6.out
         have hkQ:KeepS (fun q=>w1.heap.size≤q∧q≠bt) w6 WQ:=by
          rw [hWQ];exact (((KeepS.refl.set (fun h=>h.2 rfl) _).set (fun h=>h.2 rfl) _).set (fun h=>h.2 rfl) _).set (fun h=>h.2 rfl) _
         have ho36:=HM2.out.only.trans (HO3.out.trans HO6.out)
         have hOQ:Only (fun q=>q=R) w1 WQ:=by
          rw [hWQ];exact only_setN (only_setN (only_setN (only_setN ho36 hbt _) hbt _) hbt _) hbt _
         clear hWQ;rw [HN.out,HN3.out];obtain ⟨W7,hW7⟩:=ex_ (WQ.alloc (.cells #[.int .i64 t.op,.int .i64 t.num,.string t.name,.slice A' t.kids.length c',.int .i64 t2.op,.int .i64 t2.num,.string t2.name,.slice A2 t2.kids.length c2] 25));rw [←hW7];have hb7:=bAl hW7;have hs7:W7.heap.size=w6.heap.size+1:=by rw [hW7];simp [hqs]
         have hrow7:W7.heap[w6.heap.size]?=some (.cells (flatE [⟨t,A',c'⟩,⟨t2,A2,c2⟩]).toArray 25 (0,0)):=by rw [hW7,←hqs];exact hA_ WQ _
         have hR7:=hRQ.below hb7 (by omega);have hO7:=hOQ.trans (Ob (F:=fun q=>q=R) hb7);have hk7:KeepS (fun q=>w1.heap.size≤q∧q≠bt) w6 W7:=hkQ.trans (Kb hb7);have hbx7:=(hb7.block bt (by omega)).trans hbQ
         have HM7:=Hd (fun q=>LeftS.next (j2:=j2) (t2:=t2) (W:=W7.drewN q) (op:=zz) HM2.out (by omega) rfl (HO3.out.trans HO6.out) (by omega) hjl2' (HV2.out.keep Kr (fun q _ h=>by omega)) ⟨hk7.size,hk7.block⟩ (hR7.drewN q) (hO7.drewN q) hbx7 (lr _) (fun k v hv=>by
          have hr:(W7.drewN q).heap[w6.heap.size]?=some (.cells (flatE [⟨t,A',c'⟩,⟨t2,A2,c2⟩]).toArray 25 (0,0)):=hrow7;rw [cR _ _ k _ _ (0,0) hr]
          simpa using hv) (by show _<W7.heap.size;omega))
         have hsg7:=HSGN.out j2 W7 hR7 (HO1.out.trans hO7) hjl2';have HSG7:=Hd hsg7;clear hW7 hb7 hrow7 hR7 hO7 hk7 hbx7 hsg7 hqs hbQ hRQ hkQ ho36 hOQ y0 y1 y2 y3 xq;refine (HSG7.out).mono ?_;rintro e w7 ⟨rfl,q,hw7⟩;have hm7:=HM7.out q;rw [←hw7] at hm7;have HM8:=Hd hm7;have hrd7:=rdAt_of hm7.rdr;have hrdr:=rdAt_of HM2.out.rdr
         have HGO2:Hid (leftL l one ops fu (tmOf zz [t,t2]) j2=r):=by
          show _=_;rw [HZZ.out];exact HGO.out
         clear hm7 hw7;go_wp2_with fail
         go_roundw
         case rel=>exact ⟨tmOf zz [t,t2],some ⟨w6.heap.size,0,none⟩,2,j2,fu,rfl,HM8.out,by omega,HGO2.out⟩
         case measure=>rw [hrd7,hrdr];omega
def BoxR (R rb:Nat) (w:World):Prop:=w.cell? ⟨rb,0,none⟩=some (.pointer (some ⟨R,0,none⟩))∧rb<w.heap.size∧rb≠R
theorem BoxR.only {R rb:Nat} {w w':World} (h:BoxR R rb w) (ho:Only (fun q=>q=R) w w'):BoxR R rb w':=⟨by rw [ho.cell h.2.1 h.2.2];exact h.1,lL h.2.1 ho.size,h.2.2⟩
theorem psum1_any (R:Nat) (A:Option Addr) (c d:Nat) (l:List Tok) (rb:Nat) (P:Par) (hF:FnC R A c d l 216 (.pointer (some ⟨R,0,none⟩)) (fun _=>True) P) :
 FnC R A c d l 215 (.pointer (some ⟨rb,0,none⟩)) (BoxR R rb) (left l P [16,17]):=by
 intro i w hi hR hP hw;have hRlt:=hR.lt;obtain ⟨w1,hw1⟩:=ex_ (w.alloc (.cells #[.int .i64 0,.int .i64 0,.string ⟨#[]⟩,.slice none 0 0] 25));have hb1:=bAl hw1;have hs1:w1.heap.size=w.heap.size+1:=by rw [hw1];simp
 have hbx:w1.heap[w.heap.size]?=some (.cells #[.int .i64 0,.int .i64 0,.string ⟨#[]⟩,.slice none 0 0] 25 (0,0)):=by rw [hw1];exact hA_ w _
 have ho1:Only (fun q=>q=R) w w1:=Ob hb1;have k0:=hw.1;have k0':=(hw.only ho1).1;have krb:=hw.2.1;obtain ⟨w2,hw2⟩:=ex_ (w1.alloc (.cells #[.int .i64 16,.int .i64 17] 3));have hb2:=bAl hw2;have hs2:w2.heap.size=w1.heap.size+1:=by rw [hw2];simp
 have ho2:Only (fun q=>q=R) w w2:=ho1.trans (Ob hb2);have hR2:Rdr w2 R A l.length c i d:=(hR.below hb1 hRlt).below hb2 (by omega);have hops:OpsAt w2 w1.heap.size [16,17]:=by rw [hw2];exact ops_new w1 [16,17]
 have hcall:Calls Tryz.prog 214 #[.pointer (some ⟨R,0,none⟩),.func (.func 216) #[.pointer (some ⟨R,0,none⟩)] #[],.slice (some ⟨w1.heap.size,0,none⟩) 2 2] w2 (PQ R A c d l i (left l P [16,17] i) w2):=pleft_any R A c d l 216 (.pointer (some ⟨R,0,none⟩)) true (fun _=>True) P w1.heap.size 2 [16,17] i w2 (fun _ _=>by kernel_rfl) (fun _ _ _ _=>trivial) hF hi hR2 (hP.only ho2) trivial hops (by decide) (by omega) (by omega);rw [hs1] at hcall;have hbx2:=(hb2.block w.heap.size (by omega)).trans hbx;obtain ⟨r,hr⟩:=ex_ (left l P [16,17] i);obtain ⟨F,hF0⟩:=ex_ (PQ R A c d l i (left l P [16,17] i) w);have HRE:Hid (F=PQ R A c d l i r w):=by show _=_;rw [hF0,hr]
 rw [←hF0];rw [←hr] at hcall;have HC:=Hd hcall;have HW1:=Hd hw1;have HW2:=Hd hw2;have HO2:=Hd ho2;have HBX2:=Hd hbx2;clear hcall hr hF0 hw1 hw2 hb1 hb2 ho1 ho2 hbx hbx2 hF hP hw hR hops hR2;go_enter Tryz.func215,Tryz.ntmps215;go_wp2_with fail;rw [←HW1.out];go_wp2_with fail;rw [←HW2.out];refine (HC.out).mono ?_;intro e w4 hq
 cases r with
 | bad j x=>
  obtain ⟨rfl,ho4⟩:=hq;refine (show _∧_ from ⟨rfl,?_⟩);rw [HRE.out];exact ⟨rfl,HO2.out.trans ho4⟩
 | ok t j=>
  obtain ⟨⟨A',c',rfl,hV⟩,hij,hjl,hR4,ho4⟩:=hq;have hbw:=(ho4.block w.heap.size (by omega) (by omega)).trans HBX2.out;have hs4:=ho4.size;obtain ⟨n2,hn2⟩:=ex_ t.kids.length;have hend:=fun v0 v1 v2 v3=>pq_end v0 v1 v2 v3 hij hjl hRlt hR4 (HO2.out.trans ho4) (hV.keep Kr (fun q _ h=>by omega));unfold Tm.val at hend ⊢;rw [←hn2] at hend ⊢;have HEND:=Hd hend;have HBW:=Hd hbw;obtain ⟨v0,v1,v2,v3,zq⟩:=q4 hbw;clear hV hR4 ho4 hn2 hij hend hbw;go_wp2_with fail;refine bR (rcT (res4 HBW.out)) rfl ?_;rw [HRE.out];exact HEND.out _ _ _ _
theorem pimp1_any (R:Nat) (A:Option Addr) (c d:Nat) (l:List Tok) (rb:Nat) (P:Par) (hF:FnC R A c d l 172 (.pointer (some ⟨R,0,none⟩)) (fun _=>True) P) :
 FnC R A c d l 171 (.pointer (some ⟨rb,0,none⟩)) (BoxR R rb) (many l 6 P):=by
 intro i w hi hR hP hw;have hRlt:=hR.lt;obtain ⟨w1,hw1⟩:=ex_ (w.alloc (.cells #[.int .i64 0,.int .i64 0,.string ⟨#[]⟩,.slice none 0 0] 25));have hb1:=bAl hw1;have hs1:w1.heap.size=w.heap.size+1:=by rw [hw1];simp
 have hbx:w1.heap[w.heap.size]?=some (.cells #[.int .i64 0,.int .i64 0,.string ⟨#[]⟩,.slice none 0 0] 25 (0,0)):=by rw [hw1];exact hA_ w _
 have ho1:Only (fun q=>q=R) w w1:=Ob hb1;have k0:=hw.1;have k0':=(hw.only ho1).1;have krb:=hw.2.1;have hR1:Rdr w1 R A l.length c i d:=hR.below hb1 hRlt;have hcall:Calls Tryz.prog 170 #[.pointer (some ⟨R,0,none⟩),.int .i64 6,.func (.func 172) #[.pointer (some ⟨R,0,none⟩)] #[]] w1 (PQ R A c d l i (many l 6 P i) w1):=pmany_any R A c d l 172 (.pointer (some ⟨R,0,none⟩)) true (fun _=>True) P 6 i w1 (fun _ _=>by kernel_rfl) (fun _ _ _ _=>trivial) hF hi hR1 (hP.only ho1) trivial;obtain ⟨r,hr⟩:=ex_ (many l 6 P i);obtain ⟨F,hF0⟩:=ex_ (PQ R A c d l i (many l 6 P i) w);have HRE:Hid (F=PQ R A c d l i r w):=by show _=_;rw [hF0,hr]
 rw [←hF0];rw [←hr] at hcall;have HC:=Hd hcall;have HW1:=Hd hw1;have HO1:=Hd ho1;have HBX1:=Hd hbx;clear hcall hr hF0 hw1 hb1 ho1 hbx hF hP hw hR hR1;go_enter Tryz.func171,Tryz.ntmps171;go_wp2_with fail;rw [←HW1.out];refine (HC.out).mono ?_;intro e w4 hq
 cases r with
 | bad j x=>
  obtain ⟨rfl,ho4⟩:=hq;refine (show _∧_ from ⟨rfl,?_⟩);rw [HRE.out];exact ⟨rfl,HO1.out.trans ho4⟩
 | ok t j=>
  obtain ⟨⟨A',c',rfl,hV⟩,hij,hjl,hR4,ho4⟩:=hq;have hbw:=(ho4.block w.heap.size (by omega) (by omega)).trans HBX1.out;have hs4:=ho4.size;obtain ⟨n2,hn2⟩:=ex_ t.kids.length;have hend:=fun v0 v1 v2 v3=>pq_end v0 v1 v2 v3 hij hjl hRlt hR4 (HO1.out.trans ho4) (hV.keep Kr (fun q _ h=>by omega));unfold Tm.val at hend ⊢;rw [←hn2] at hend ⊢;have HEND:=Hd hend;have HBW:=Hd hbw;obtain ⟨v0,v1,v2,v3,zq⟩:=q4 hbw;clear hV hR4 ho4 hn2 hij hend hbw;go_wp2_with fail;refine bR (rcT (res4 HBW.out)) rfl ?_;rw [HRE.out];exact HEND.out _ _ _ _
theorem PQ.back {R c d i:Nat} {A:Option Addr} {l:List Tok} {r:Rs Tm} {w wb w':World} {e:Ending} (h:PQ R A c d l i r wb e w') (ho:Only (fun q=>q=R) w wb):PQ R A c d l i r w e w':=by
 have hs:=ho.size
 cases r with
 | bad j x=>exact ⟨h.1,ho.trans h.2⟩
 | ok t j=>
  obtain ⟨⟨A',c',he,hV⟩,h1,h2,h3,h4⟩:=h;exact ⟨⟨A',c',he,hV.keep Kr (fun q _ hq=>Nat.le_trans hs hq)⟩,h1,h2,h3,ho.trans h4⟩
theorem psum_any (R:Nat) (A:Option Addr) (c d:Nat) (l:List Tok) (P:Par) (hF:FnC R A c d l 216 (.pointer (some ⟨R,0,none⟩)) (fun _=>True) P) :
 FnC R A c d l 200 (.pointer (some ⟨R,0,none⟩)) (fun _=>True) (left l (left l P [16,17]) [14,15]):=by
 intro i w hi hR hP hw;have hRlt:=hR.lt;obtain ⟨wb,hwb⟩:=ex_ (w.alloc (.cells #[.pointer (some ⟨R,0,none⟩)] 131));have hbb:=bAl hwb;have hsb:wb.heap.size=w.heap.size+1:=by rw [hwb];simp
 have hob:Only (fun q=>q=R) w wb:=Ob hbb;have hRb:Rdr wb R A l.length c i d:=hR.below hbb hRlt;have hbox:BoxR R w.heap.size wb:=⟨by rw [hwb];exact (cR _ _ 0 _ _ (0,0) (hA_ w _)).trans rfl,by omega,by omega⟩;obtain ⟨w1,hw1⟩:=ex_ (wb.alloc (.cells #[.int .i64 0,.int .i64 0,.string ⟨#[]⟩,.slice none 0 0] 25));have hb1:=bAl hw1;have hs1:w1.heap.size=w.heap.size+1+1:=by rw [hw1];simp [hsb]
 have hbx:w1.heap[wb.heap.size]?=some (.cells #[.int .i64 0,.int .i64 0,.string ⟨#[]⟩,.slice none 0 0] 25 (0,0)):=by rw [hw1];exact hA_ wb _
 have ho1:Only (fun q=>q=R) wb w1:=Ob hb1;obtain ⟨w2,hw2⟩:=ex_ (w1.alloc (.cells #[.int .i64 14,.int .i64 15] 3));have hb2:=bAl hw2;have hs2:w2.heap.size=w.heap.size+3:=by rw [hw2];simp [hs1]
 have ho2:Only (fun q=>q=R) wb w2:=ho1.trans (Ob hb2);have hR2:Rdr w2 R A l.length c i d:=(hRb.below hb1 (by omega)).below hb2 (by omega);have hops:OpsAt w2 w1.heap.size [14,15]:=by rw [hw2];exact ops_new w1 [14,15]
 have k0:=hbox.1;have k0':=(hbox.only ho1).1
 have hcall:Calls Tryz.prog 214 #[.pointer (some ⟨R,0,none⟩),.func (.func 215) #[] #[.pointer (some ⟨w.heap.size,0,none⟩)],.slice (some ⟨w1.heap.size,0,none⟩) 2 2] w2 (PQ R A c d l i (left l (left l P [16,17]) [14,15] i) w2):=
  pleft_any R A c d l 215 (.pointer (some ⟨w.heap.size,0,none⟩)) false (BoxR R w.heap.size) (left l P [16,17]) w1.heap.size 2 [14,15] i w2 (fun _ _=>by kernel_rfl) (fun _ _ h ho=>h.only ho) (psum1_any R A c d l w.heap.size P hF) hi hR2 (hP.only (hob.trans ho2)) (hbox.only ho2) hops (by decide) (by omega) (by omega)
 rw [hs1] at hcall;have hbx2:=(hb2.block wb.heap.size (by omega)).trans hbx;obtain ⟨r,hr⟩:=ex_ (left l (left l P [16,17]) [14,15] i);obtain ⟨F,hF0⟩:=ex_ (PQ R A c d l i (left l (left l P [16,17]) [14,15] i) w);have HRE:Hid (F=PQ R A c d l i r w):=by show _=_;rw [hF0,hr]
 rw [←hF0];rw [←hr] at hcall;have HC:=Hd hcall;have HWB:=Hd hwb;have HSB:=Hd hsb;have HOB:=Hd hob;have HW1:=Hd hw1;have HW2:=Hd hw2;have HO2:=Hd ho2;have HBX2:=Hd hbx2;clear hcall hr hF0 hwb hbb hob hRb hbox hw1 hw2 hb1 hb2 ho1 ho2 hbx hbx2 hF hP hw hR hops hR2;go_enter Tryz.func200,Tryz.ntmps200;go_wp2_with fail;rw [←HWB.out,←HW1.out,←HW2.out];refine (HC.out).mono ?_;intro e w4 hq
 cases r with
 | bad j x=>
  obtain ⟨rfl,ho4⟩:=hq;refine (show _∧_ from ⟨rfl,?_⟩);rw [HRE.out];exact ⟨rfl,HOB.out.trans (HO2.out.trans ho4)⟩
 | ok t j=>
  obtain ⟨⟨A',c',rfl,hV⟩,hij,hjl,hR4,ho4⟩:=hq;have hbw:=(ho4.block wb.heap.size (by omega) (by omega)).trans HBX2.out;have hs4:=ho4.size;obtain ⟨n2,hn2⟩:=ex_ t.kids.length;have hend:=fun v0 v1 v2 v3=>PQ.back (pq_end v0 v1 v2 v3 hij hjl (by omega) hR4 (HO2.out.trans ho4) (hV.keep Kr (fun q _ h=>by omega))) HOB.out;unfold Tm.val at hend ⊢;rw [←hn2] at hend ⊢;rw [HSB.out] at hend hbw;have HEND:=Hd hend;have HBW:=Hd hbw;obtain ⟨v0,v1,v2,v3,zq⟩:=q4 hbw;clear hV hR4 ho4 hn2 hij hend hbw;go_wp2_with fail;refine bR (rcT (res4 HBW.out)) rfl ?_;rw [HRE.out];exact HEND.out _ _ _ _
end Go.Proofs.YtnbphgeepnknlaaGreatDoor
