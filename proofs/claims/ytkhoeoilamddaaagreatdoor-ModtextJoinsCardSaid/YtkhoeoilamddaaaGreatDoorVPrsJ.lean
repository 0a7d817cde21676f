/- Walks and plain words: PrsJ PrsK0. -/
import Derived.Test.YtkhoeoilamddaaaGreatDoorVPrsF
import Derived.Deep.Cut
namespace Go.Proofs.YtkhoeoilamddaaaGreatDoor
open Go.RowKit
set_option linter.unusedVariables false
set_option linter.unusedSimpArgs false
set_option maxRecDepth 100000
set_option maxHeartbeats 8000000
theorem pq_row1 {R c d i j:Nat} {A A':Option Addr} {c':Nat} {l:List Tok} {w w6:World} {t:Tm} (op:Int) (hij:i<j) (hjl:j≤l.length) (hRw:R<w.heap.size) (hR:Rdr w6 R A l.length c j d) (hO:Only (fun q=>q=R) w w6) (hs:w.heap.size<w6.heap.size) (hV:TmVS (fun q=>w.heap.size<q) w6 A' c' t) :
 PQ R A c d l i (.ok (tmOf op [t]) j) w (.returned (.agg #[.int .i64 op,.int .i64 0,.string ⟨#[]⟩,.slice (some ⟨w6.heap.size,0,none⟩) 1 1])) (((((w6.setCell ⟨w.heap.size,0,none⟩ (.int .i64 op)).setCell ⟨w.heap.size,1,none⟩ (.int .i64 0)).setCell ⟨w.heap.size,2,none⟩ (.string ⟨#[]⟩)).setCell ⟨w.heap.size,3,none⟩ (.slice (some ⟨w6.heap.size,0,none⟩) 1 1)).alloc (.cells #[.int .i64 t.op,.int .i64 t.num,.string t.name,.slice A' t.kids.length c'] 64)):=by
 obtain ⟨WQ,hWQ⟩:=ex_ ((((w6.setCell ⟨w.heap.size,0,none⟩ (.int .i64 op)).setCell ⟨w.heap.size,1,none⟩ (.int .i64 0)).setCell ⟨w.heap.size,2,none⟩ (.string ⟨#[]⟩)).setCell ⟨w.heap.size,3,none⟩ (.slice (some ⟨w6.heap.size,0,none⟩) 1 1));rw [←hWQ];have hne:R≠w.heap.size:=by omega
 have hqs:WQ.heap.size=w6.heap.size:=by rw [hWQ];simp
 have hRQ:Rdr WQ R A l.length c j d:=by
  rw [hWQ];unfold Rdr;rw [hO_ _ ⟨w.heap.size,3,none⟩ R _ hne,hO_ _ ⟨w.heap.size,2,none⟩ R _ hne,hO_ _ ⟨w.heap.size,1,none⟩ R _ hne,hO_ _ ⟨w.heap.size,0,none⟩ R _ hne];exact hR
 have hkQ:KeepS (fun q=>w.heap.size<q) w6 WQ:=by
  rw [hWQ];exact (((KeepS.refl.set (by omega) _).set (by omega) _).set (by omega) _).set (by omega) _
 have hOQ:Only (fun q=>q=R) w WQ:=by rw [hWQ];exact only_sets hO
 obtain ⟨W7,hW7⟩:=ex_ (WQ.alloc (.cells #[.int .i64 t.op,.int .i64 t.num,.string t.name,.slice A' t.kids.length c'] 64));rw [←hW7];have hb7:=bAl hW7;have hs7:W7.heap.size=w6.heap.size+1:=by rw [hW7];simp [hqs]
 have hrow7:W7.heap[w6.heap.size]?=some (.cells (flatE [⟨t,A',c'⟩]).toArray 64 (0,0)):=by rw [hW7,←hqs];exact hA_ WQ _
 have hk7:KeepS (fun q=>w.heap.size<q) w6 W7:=hkQ.trans (Kb hb7);refine ⟨⟨some ⟨w6.heap.size,0,none⟩,1,rfl,lr _,by unfold maxLen;omega,zl _,.inr ⟨w6.heap.size,0,rfl,Nat.le_of_lt hs,by omega,?_⟩⟩,hij,hjl,hRQ.below hb7 (by omega),hOQ.trans (Ob hb7)⟩
 refine row_of_cells [⟨t,A',c'⟩] 0 (fun k v hv=>by
  rw [Nat.zero_add,cR _ _ k _ _ (0,0) hrow7]
  simpa using hv) ?_
 intro e he;rw [List.mem_singleton.1 he];exact hV.keep hk7 (fun q _ h=>Nat.le_of_lt h)
theorem isTk_lt {l:List Tok} {i:Nat} {k:Int} {s:Bs} (h:isTk l i k s=true):i<l.length:=by
 rcases Nat.lt_or_ge i l.length with h1 | h1
 · exact h1
 · exfalso
   have hn:l[i]?=none:=List.getElem?_eq_none h1;unfold isTk at h;rw [hn] at h;cases h
theorem pnot_any (R:Nat) (A:Option Addr) (c d:Nat) (l:List Tok) (P PN:Par) (hd:d≤256) (hF:FnC R A c d l 192 (.pointer (some ⟨R,0,none⟩)) (fun _=>True) P) (hI:d<256→FnC R A c (d+1) l 173 (.pointer (some ⟨R,0,none⟩)) (fun _=>True) PN) :
 FnC R A c d l 173 (.pointer (some ⟨R,0,none⟩)) (fun _=>True) (notB l (if d=256 then none else some PN) P):=by
 intro i w hi hR hP hw;have hlen:=hP.len;have hRlt:=hR.lt;obtain ⟨wa,hwa⟩:=ex_ (w.alloc (.cells #[.int .i64 0,.int .i64 0,.string ⟨#[]⟩,.slice none 0 0] 64));have hba:=bAl hwa;have hsa:wa.heap.size=w.heap.size+1:=by rw [hwa];simp
 have hbxa:wa.heap[w.heap.size]?=some (.cells #[.int .i64 0,.int .i64 0,.string ⟨#[]⟩,.slice none 0 0] 64 (0,0)):=by rw [hwa];exact hA_ w _
 have hoa:Only (fun q=>q=R) w wa:=Ob hba;have his:Calls Tryz.prog 175 #[.pointer (some ⟨R,0,none⟩),.int .i64 4,.string ⟨#[33]⟩] wa fun e w'=>e=.returned (.bool (isTk l i 4 [33]))∧∃ n,w'=wa.drewN n:=pis_any R A c i d l 4 ⟨#[33]⟩ wa (hR.below hba hRlt) (hP.only hoa) (by omega);obtain ⟨F,hF0⟩:=ex_ (PQ R A c d l i (notB l (if d=256 then none else some PN) P i) w)
 have HRE0:Hid (F=PQ R A c d l i (if isTk l i 4 [33] then (if d=256 then .bad i 17 else PN (i+1)).then fun t j=>.ok (tmOf 5 [t]) j else (P i).then fun t j=>if whichOp l j [10,11,12,13]=0 then .ok t j else (P (j+1)).then fun u k=>.ok (tmOf (whichOp l j [10,11,12,13]) [t,u]) k) w):=by
  show _=_;rw [hF0]
  by_cases h:d=256
  · simp only [h,if_true];rfl
  · simp only [h,if_false];rfl
 rw [←hF0];have HIN:=Hd (fun (W:World) (j:Nat) (hj:j<l.length) (hRW:Rdr W R A l.length c j d) (hPW:PTok W R A c l)=>pinside_any R A c d l 173 (.pointer (some ⟨R,0,none⟩)) true (fun _=>True) PN j W (fun _ _=>by kernel_rfl) (fun _ _ _ _=>trivial) hI hd hj hRW hPW trivial);have HIS:=Hd his;have HWA:=Hd hwa;have HOA:=Hd hoa;have HBXA:=Hd hbxa;have HFN:=Hd hF;have HP:=Hd hP;have HRA:=Hd (hR.below hba hRlt);clear his hF0 hwa hba hoa hbxa hF hP hw hR hI;go_enter Tryz.func173,Tryz.ntmps173;go_wp2_with fail;rw [←HWA.out];refine (HIS.out).mono ?_;rintro e w1 ⟨rfl,n1,hw1⟩;have HO1:Hid (Only (fun q=>q=R) w w1):=by show Only _ _ _;rw [hw1];exact HOA.out.drewN n1
 have HBX:Hid (w1.heap[w.heap.size]?=some (.cells #[.int .i64 0,.int .i64 0,.string ⟨#[]⟩,.slice none 0 0] 64 (0,0))):=by show _=_;rw [hw1];exact HBXA.out
 have hs1:w1.heap.size=w.heap.size+1:=by rw [hw1];exact hsa
 have HR1:Hid (Rdr w1 R A l.length c i d):=by show Rdr _ _ _ _ _ _ _;rw [hw1];exact HRA.out.drewN n1
 have hP1:=HP.out.only HO1.out;clear hw1
 by_cases hbang:isTk l i 4 [33]=true
 · have HRE:Hid (F=PQ R A c d l i ((if d=256 then .bad i 17 else PN (i+1)).then fun t j=>.ok (tmOf 5 [t]) j) w):=by show _=_;rw [HRE0.out,iP hbang]
   have hcall:Calls Tryz.prog 174 #[.pointer (some ⟨R,0,none⟩),.func (.func 173) #[.pointer (some ⟨R,0,none⟩)] #[]] w1 (PQ R A c d l i (if d=256 then .bad i 17 else PN (i+1)) w1):=HIN.out w1 i (isTk_lt hbang) HR1.out hP1;rw [hbang];obtain ⟨r2,hr2⟩:=ex_ ((if d=256 then .bad i 17 else PN (i+1)));have HRE2:Hid (F=PQ R A c d l i (r2.then fun t j=>.ok (tmOf 5 [t]) j) w):=by show _=_;rw [HRE.out,hr2]
   rw [←hr2] at hcall;have HC2:=Hd hcall;clear hcall hr2 hbang hP1;go_wp2_with fail;refine (HC2.out).mono ?_;intro e w6 hq
   cases r2 with
   | bad j x=>
    obtain ⟨rfl,ho4⟩:=hq;refine (show _∧_ from ⟨rfl,?_⟩);rw [HRE2.out];exact ⟨rfl,HO1.out.trans ho4⟩
   | ok t j=>
    obtain ⟨⟨A',c',rfl,hV⟩,hij,hjl,hR6,ho6⟩:=hq;have hs6:=ho6.size;obtain ⟨n2,hn2⟩:=ex_ t.kids.length;unfold Tm.val;rw [←hn2];have HX6:=Hd ((ho6.block w.heap.size (by omega) (by omega)).trans HBX.out);obtain ⟨v0,v1,v2,v3,zq⟩:=q4 HX6.out;have hbw6:w.heap.size<w6.heap.size:=by omega
    have HN2:=Hd hn2;have HR6:=Hd hR6;have HO6:=Hd ho6;have HV:=Hd hV;clear hn2 hR6 ho6 hV;go_wp2_with fail;refine bR (results_cell_row (t:=64) (fr:=(0,0)) rfl _ _ w.heap.size _ _ rfl (aK (res4 HX6.out)) Tryz.underlying64 rfl (by kernel_rfl)) rfl ?_;rw [HRE2.out,HN2.out];exact pq_row1 5 hij hjl hRlt HR6.out (HO1.out.trans HO6.out) hbw6 (HV.out.keep Kr (fun q _ h=>by omega))
 · have hc1:Calls Tryz.prog 192 #[.pointer (some ⟨R,0,none⟩)] w1 (PQ R A c d l i (P i) w1):=HFN.out i w1 hi HR1.out hP1 trivial;obtain ⟨r1,hr1⟩:=ex_ (P i);have HRE:Hid (F=PQ R A c d l i (r1.then fun t j=>if whichOp l j [10,11,12,13]=0 then .ok t j else (P (j+1)).then fun u k=>.ok (tmOf (whichOp l j [10,11,12,13]) [t,u]) k) w):=by show _=_;rw [HRE0.out,iN hbang,hr1]
   rw [←hr1] at hc1;have hbf:isTk l i 4 [33]=false:=by simpa using hbang
   rw [hbf];have HC1:=Hd hc1;clear hc1 hr1 hbang hP1 hbf HR1;go_wp2_with fail;refine (HC1.out).mono ?_;intro e w4 hq
   cases r1 with
   | bad j x=>
    obtain ⟨rfl,ho4⟩:=hq;refine (show _∧_ from ⟨rfl,?_⟩);rw [HRE.out];exact ⟨rfl,HO1.out.trans ho4⟩
   | ok t j=>
    obtain ⟨⟨A',c',rfl,hV⟩,hij,hjl,hR4,ho4⟩:=hq;have hs4:=ho4.size;obtain ⟨n2,hn2⟩:=ex_ t.kids.length;unfold Tm.val;rw [←hn2];obtain ⟨bt,hbt⟩:=ex_ w4.heap.size;obtain ⟨wt,hwt⟩:=ex_ (w4.alloc (.cells #[.int .i64 t.op,.int .i64 t.num,.string t.name,.slice A' n2 c'] 64));have hbT:=bAl hwt;have hst:wt.heap.size=bt+1:=by rw [hwt,hbt];simp
    have hbox:wt.heap[bt]?=some (.cells #[.int .i64 t.op,.int .i64 t.num,.string t.name,.slice A' n2 c'] 64 (0,0)):=by rw [hwt,hbt];exact hA_ w4 _
    obtain ⟨wo,hwo⟩:=ex_ (wt.alloc (.cells #[.int .i64 10,.int .i64 11,.int .i64 12,.int .i64 13] 3));have hbO:=bAl hwo;have hso:wo.heap.size=bt+2:=by rw [hwo];simp [hst]
    have hOO:Only (fun q=>q=R) w1 wo:=ho4.trans ((Ob hbT).trans (Ob hbO));have hRO:Rdr wo R A l.length c j d:=(hR4.below hbT (by omega)).below hbO (by omega);have hboxo:=(hbO.block bt (by omega)).trans hbox
    have hsg:Calls Tryz.prog 146 #[.pointer (some ⟨R,0,none⟩),.slice (some ⟨wt.heap.size,0,none⟩) 4 4] wo fun e w'=>e=.returned (.int .i64 (whichOp l j [10,11,12,13]))∧∃ n,w'=wo.drewN n:=
     psign_any R A c j d l wt.heap.size 4 [10,11,12,13] wo hRO (HP.out.only (HO1.out.trans hOO)) (by omega) (by rw [hwo];exact ops_new wt [10,11,12,13]) (by simp) (by omega)
    rw [hst] at hsg;have HK:Hid (KeepS (fun q=>w1.heap.size≤q) w4 wo):=(Kb hbT).trans (Kb hbO);have HSG:=Hd hsg;have HWT:=Hd hwt;have HWO:=Hd hwo;have HBT:=Hd hbt;have HN2:=Hd hn2;clear hn2 hwt hwo hbT hbO hbox hsg;go_wp2_with fail;rw [←HBT.out,←HWT.out,←HWO.out];refine (HSG.out).mono ?_;rintro e w5 ⟨rfl,q,hw5⟩;have hO5:Only (fun q=>q=R) w1 w5:=by rw [hw5];exact hOO.drewN q
    have hR5:Rdr w5 R A l.length c j d:=by rw [hw5];exact hRO.drewN q
    have hb5:w5.heap[bt]?=some (.cells #[.int .i64 t.op,.int .i64 t.num,.string t.name,.slice A' n2 c'] 64 (0,0)):=by rw [hw5];exact hboxo
    have hs5:w5.heap.size=bt+2:=by rw [hw5];exact hso
    have hbt1:w1.heap.size≤bt:=by rw [hbt];exact hs4
    have hbr:bt≠R:=by omega
    have hx5:=(hO5.block w.heap.size (by omega) (by omega)).trans HBX.out;have hk5:KeepS (fun q=>w1.heap.size≤q) w4 w5:=by rw [hw5];exact ⟨by show w4.heap.size≤wo.heap.size;omega,fun q hq hl=>HK.out.block q hq hl⟩
    have hV5:TmVS (fun q=>w.heap.size<q) w5 A' c' t:=hV.keep hk5 (fun q _ h=>by omega);clear hk5 hbt hw5 hso hOO hRO hboxo hR4;have HR5:=Hd hR5;have HO5:=Hd hO5;have HV5:=Hd hV5;have HX5:=Hd hx5;have HB5:=Hd hb5;obtain ⟨v0,v1,v2,v3,zq⟩:=q4 hx5;obtain ⟨y0,y1,y2,y3,xq⟩:=q4 hb5;have hbwr:w.heap.size<w5.heap.size:=by omega
    have hbtr:bt<w5.heap.size:=by omega
    clear hR5 hO5 hV5 hx5 hb5 hV
    by_cases hz:whichOp l j [10,11,12,13]=0
    · have HRR:Hid (F=PQ R A c d l i (.ok t j) w):=by show _=_;rw [HRE.out];show PQ R A c d l i (if whichOp l j [10,11,12,13]=0 then _ else _) w=_;rw [iP hz]
      rw [hz];clear hz;go_wp2_with fail;refine bR (results_cell_row (t:=64) (fr:=(0,0)) rfl _ _ w.heap.size _ _ rfl (res4 HX5.out) Tryz.underlying64 rfl (by kernel_rfl)) rfl ?_;rw [HRR.out];have h:=pq_end (.int .i64 t.op) (.int .i64 t.num) (.string t.name) (.slice A' n2 c') hij hjl hRlt HR5.out (HO1.out.trans HO5.out) HV5.out;unfold Tm.val at h;rw [←HN2.out] at h;exact h
    · have hzb:(whichOp l j [10,11,12,13] == 0)=false:=by simpa using hz
      have hjl3:=which_lt hz;have HRR:Hid (F=PQ R A c d l i ((P (j+1)).then fun u k=>.ok (tmOf (whichOp l j [10,11,12,13]) [t,u]) k) w):=by show _=_;rw [HRE.out];show PQ R A c d l i (if whichOp l j [10,11,12,13]=0 then _ else _) w=_;rw [iN hz]
      obtain ⟨zz,HZZ⟩:=exh_ (whichOp l j [10,11,12,13]);rw [←HZZ.out] at hzb ⊢;have c1:=HR5.out.c1;have f1:=HR5.out.frozen 1;clear hz;go_wp2_with fail;refine wp_region_any (by kernel_rfl) ?_
      change wpAny _ _ _ _ _ _ _ (World.drew _)
      obtain ⟨W3,hW3⟩:=ex_ ((w5.setCell ⟨R,1,none⟩ (.int .i64 ((j:Int)+1))).drew);have hwn:Went R A l.length c d (j+1) w5 ((w5.setCell ⟨R,1,none⟩ (.int .i64 ((j:Int)+1))).drew):=went_more (m:=1) (went_next (m:=0) HR5.out);rw [←hW3] at hwn ⊢;have ho3:Only (fun q=>q=R) w5 W3:=hwn.2.1;have hs3:W3.heap.size=w5.heap.size:=hwn.2.2;have ho13:=HO1.out.trans (HO5.out.trans ho3);have hcall:Calls Tryz.prog 192 #[.pointer (some ⟨R,0,none⟩)] W3 (PQ R A c d l (j+1) (P (j+1)) W3):=HFN.out (j+1) W3 (by omega) hwn.1 (HP.out.only ho13) trivial;have hb3:=(ho3.block bt hbtr hbr).trans HB5.out;have HX3:=Hd ((ho3.block w.heap.size hbwr (by omega)).trans HX5.out);have HB3:=Hd hb3;have HK3:Hid (KeepS (fun q=>w.heap.size<q) w5 W3):=KeepS.of_only ho3 (by omega);obtain ⟨r2,hr2⟩:=ex_ (P (j+1));have HRE2:Hid (F=PQ R A c d l i (r2.then fun u k=>.ok (tmOf zz [t,u]) k) w):=by show _=_;rw [HRR.out,hr2,HZZ.out]
      rw [← hr2] at hcall;have HC2 := Lib.hid hcall;have HO13 := Lib.hid ho13;clear hW3 hwn ho3 ho13 hcall hr2 hb3 c1 f1 zq v0 v1 v2 v3 y0 y1 y2 y3 xq;obtain ⟨y0, y1, y2, y3, xq⟩ := q4 HB3.out;clear xq;refine wpAny_take (i := 0) (oi := { dst := some 32, op := Op.move (Operand.tmp 4), type := 3, pos := "ttext.go:279", after := #[], guard := none }) (v := ?_) rfl (by kernel_rfl) (by kernel_rfl) (by kernel_rfl) (fun _ _ _ h => h) (Or.inl ⟨by rfl, ?hy⟩) ?_
      case hy=>intro w0;go_simp;(first | done | with_reducible rfl)
      (try simp only [Act.put, sAr, sZe, sSu]);refine wpAny_take (i := 2) (oi := { dst := some 34, op := Op.move (Operand.tmp 0), type := 182, pos := "ttext.go:279", after := #[], guard := none }) (v := ?_) rfl (by kernel_rfl) (by kernel_rfl) (by kernel_rfl) (fun _ _ _ h => h) (Or.inl ⟨by rfl, ?hy⟩) ?_
      case hy=>intro w0;go_simp;(first | done | with_reducible rfl)
      try simp only [Act.put,sAr,sZe,sSu]
      cases r2 with
      | bad jb xb=>
       refine wpAny_ready (rs := [1, 3]) (by kernel_rfl) (by simp) ?_;refine AllReady.cons (o := { dst := some 33, op := Op.load 64 (Operand.tmp 3), type := 64, pos := "ttext.go:279", after := #[], guard := none }) rfl (fun K hK => ?_) ?_
       · go_simp;refine hK _ _ ?_;clear hK K;(try simp only [Act.put, sAr, sZe, sSu]);refine wpAny_ready (rs := [3]) (by kernel_rfl) (by simp) ?_;refine AllReady.cons (o := { dst := some 35, op := Op.call { callee := Callee.value (Operand.func 192), args := #[Operand.tmp 34], argTypes := #[182] }, type := 64, pos := "ttext.go:279", after := #[{ on := 2, ground := Ground.data }], guard := none }) rfl (fun K hK => ?_) AllReady.nil;go_simp;(with_reducible refine (HC2.out).mono ?_);intro e w6 hq;obtain ⟨rfl, ho6⟩ := hq;refine (show _ ∧ _ from ⟨rfl, ?_⟩);rw [HRE2.out];exact ⟨rfl, HO13.out.trans ho6⟩
       · refine AllReady.cons (o := { dst := some 35, op := Op.call { callee := Callee.value (Operand.func 192), args := #[Operand.tmp 34], argTypes := #[182] }, type := 64, pos := "ttext.go:279", after := #[{ on := 2, ground := Ground.data }], guard := none }) rfl (fun K hK => ?_) AllReady.nil;go_simp;(with_reducible refine (HC2.out).mono ?_);intro e w6 hq;obtain ⟨rfl, ho6⟩ := hq;refine (show _ ∧ _ from ⟨rfl, ?_⟩);rw [HRE2.out];exact ⟨rfl, HO13.out.trans ho6⟩
      | ok t2 j2=>
       refine wpAny_ready (rs := [1, 3]) (by kernel_rfl) (by simp) ?_;refine AllReady.cons (o := { dst := some 33, op := Op.load 64 (Operand.tmp 3), type := 64, pos := "ttext.go:279", after := #[], guard := none }) rfl (fun K hK => ?_) ?_
       · go_simp;refine hK _ _ ?_;clear hK K;(try simp only [Act.put, sAr, sZe, sSu]);refine wpAny_ready (rs := [3]) (by kernel_rfl) (by simp) ?_;refine AllReady.cons (o := { dst := some 35, op := Op.call { callee := Callee.value (Operand.func 192), args := #[Operand.tmp 34], argTypes := #[182] }, type := 64, pos := "ttext.go:279", after := #[{ on := 2, ground := Ground.data }], guard := none }) rfl (fun K hK => ?_) AllReady.nil;go_simp;(with_reducible refine (HC2.out).mono ?_);intro e w6 hq;obtain ⟨⟨A2, c2, rfl, hV2⟩, hij2, hjl2', hR6, ho6⟩ := hq;obtain ⟨n3, HN3⟩ := exh_ t2.kids.length;unfold Tm.val;rw [← HN3.out];have HO6 := Lib.hid ho6;have HV2 := Lib.hid hV2;have HR6 := Lib.hid hR6;have hs6 := ho6.size;have hbt6 : bt < w6.heap.size := by omega
         have hbw6:w.heap.size<w6.heap.size:=by omega
         have hb6 := (ho6.block bt (by omega) hbr).trans HB3.out;have HX6 := Lib.hid ((ho6.block w.heap.size (by omega) (by omega)).trans HX3.out);clear hV2 hR6 ho6 y0 y1 y2 y3;obtain ⟨y0, y1, y2, y3, xq⟩ := q4 hb6;clear xq hb6;obtain ⟨v0, v1, v2, v3, zq⟩ := q4 HX6.out;refine hK _ _ ?_;clear hK K;(try simp only [Act.put, sAr, sZe, sSu]);refine wpAny_ready (rs := [4]) (by kernel_rfl) (by simp) ?_;refine AllReady.cons (o := { dst := some 36, op := Op.buildSlice 25 2 #[(0, Operand.tmp 33), (1, Operand.tmp 35)], type := 25, pos := "ttext.go:279", after := #[{ on := 1, ground := Ground.data }, { on := 3, ground := Ground.data }], guard := none }) rfl (fun K hK => ?_) AllReady.nil;go_simp;refine hK _ _ ?_;clear hK K;(try simp only [Act.put, sAr, sZe, sSu]);refine wpAny_ready (rs := [5]) (by kernel_rfl) (by simp) ?_;refine AllReady.cons (o := { dst := some 37, op := Op.build 64 #[(0, Operand.tmp 32), (3, Operand.tmp 36)], type := 64, pos := "ttext.go:279", after := #[{ on := 0, ground := Ground.data }, { on := 4, ground := Ground.data }], guard := none }) rfl (fun K hK => ?_) AllReady.nil;go_simp;refine hK _ _ ?_;clear hK K;(try simp only [Act.put, sAr, sZe, sSu]);refine wpAny_ready (rs := [6]) (by kernel_rfl) (by simp) ?_
         refine AllReady.cons (o := { dst := none, op := Op.store 64 (Operand.tmp 2) (Operand.tmp 37), type := 0, pos := "ttext.go:279", after := #[{ on := 5, ground := Ground.data }, { on := 3, ground := Ground.chain }, { on := 0, ground := Ground.phase }, { on := 1, ground := Ground.phase }, { on := 2, ground := Ground.phase }, { on := 3, ground := Ground.phase }, { on := 4, ground := Ground.phase }, { on := 5, ground := Ground.phase }], guard := none }) rfl (fun K hK => ?_) AllReady.nil;go_simp;refine hK _ _ ?_;clear hK K;(try simp only [Act.put, sAr, sZe, sSu]);refine wpAny_done (by kernel_rfl) ?_ _;go_wp2_with fail;refine bodyPost_ret (results_cell_row (t := 64) (fr := (0, 0)) rfl _ _ w.heap.size _ _ rfl (alloc_keep (res4 HX6.out)) Tryz.underlying64 rfl (by kernel_rfl)) rfl ?_;rw [HRE2.out, HN2.out, HN3.out];exact pq_row2 zz (by omega) hjl2' hRlt HR6.out (HO13.out.trans HO6.out) (by omega) ((HV5.out.keep HK3.out (fun q _ h => h)).keep (KeepS.of_only HO6.out (by omega)) (fun q _ h => h)) (HV2.out.keep KeepS.refl (fun q _ h => by omega))
       · refine AllReady.cons (o := { dst := some 35, op := Op.call { callee := Callee.value (Operand.func 192), args := #[Operand.tmp 34], argTypes := #[182] }, type := 64, pos := "ttext.go:279", after := #[{ on := 2, ground := Ground.data }], guard := none }) rfl (fun K hK => ?_) AllReady.nil;go_simp;(with_reducible refine (HC2.out).mono ?_);intro e w6 hq;obtain ⟨⟨A2, c2, rfl, hV2⟩, hij2, hjl2', hR6, ho6⟩ := hq;obtain ⟨n3, HN3⟩ := exh_ t2.kids.length;unfold Tm.val;rw [← HN3.out];have HO6 := Lib.hid ho6;have HV2 := Lib.hid hV2;have HR6 := Lib.hid hR6;have hs6 := ho6.size;have hbt6 : bt < w6.heap.size := by omega
         have hbw6:w.heap.size<w6.heap.size:=by omega
         have hb6 := (ho6.block bt (by omega) hbr).trans HB3.out;have HX6 := Lib.hid ((ho6.block w.heap.size (by omega) (by omega)).trans HX3.out);clear hV2 hR6 ho6 y0 y1 y2 y3;obtain ⟨y0, y1, y2, y3, xq⟩ := q4 hb6;clear xq hb6;obtain ⟨v0, v1, v2, v3, zq⟩ := q4 HX6.out;refine hK _ _ ?_;clear hK K;(try simp only [Act.put, sAr, sZe, sSu]);refine wpAny_ready (rs := [1]) (by kernel_rfl) (by simp) ?_;refine AllReady.cons (o := { dst := some 33, op := Op.load 64 (Operand.tmp 3), type := 64, pos := "ttext.go:279", after := #[], guard := none }) rfl (fun K hK => ?_) AllReady.nil;go_simp;refine hK _ _ ?_;clear hK K;(try simp only [Act.put, sAr, sZe, sSu]);refine wpAny_ready (rs := [4]) (by kernel_rfl) (by simp) ?_;refine AllReady.cons (o := { dst := some 36, op := Op.buildSlice 25 2 #[(0, Operand.tmp 33), (1, Operand.tmp 35)], type := 25, pos := "ttext.go:279", after := #[{ on := 1, ground := Ground.data }, { on := 3, ground := Ground.data }], guard := none }) rfl (fun K hK => ?_) AllReady.nil;go_simp;refine hK _ _ ?_;clear hK K;(try simp only [Act.put, sAr, sZe, sSu]);refine wpAny_ready (rs := [5]) (by kernel_rfl) (by simp) ?_;refine AllReady.cons (o := { dst := some 37, op := Op.build 64 #[(0, Operand.tmp 32), (3, Operand.tmp 36)], type := 64, pos := "ttext.go:279", after := #[{ on := 0, ground := Ground.data }, { on := 4, ground := Ground.data }], guard := none }) rfl (fun K hK => ?_) AllReady.nil;go_simp;refine hK _ _ ?_;clear hK K;try simp only [Act.put, sAr, sZe, sSu]
         refine wpAny_ready (rs := [6]) (by kernel_rfl) (by simp) ?_;refine AllReady.cons (o := { dst := none, op := Op.store 64 (Operand.tmp 2) (Operand.tmp 37), type := 0, pos := "ttext.go:279", after := #[{ on := 5, ground := Ground.data }, { on := 3, ground := Ground.chain }, { on := 0, ground := Ground.phase }, { on := 1, ground := Ground.phase }, { on := 2, ground := Ground.phase }, { on := 3, ground := Ground.phase }, { on := 4, ground := Ground.phase }, { on := 5, ground := Ground.phase }], guard := none }) rfl (fun K hK => ?_) AllReady.nil;go_simp;refine hK _ _ ?_;clear hK K;(try simp only [Act.put, sAr, sZe, sSu]);refine wpAny_done (by kernel_rfl) ?_ _;go_wp2_with fail;refine bodyPost_ret (results_cell_row (t := 64) (fr := (0, 0)) rfl _ _ w.heap.size _ _ rfl (alloc_keep (res4 HX6.out)) Tryz.underlying64 rfl (by kernel_rfl)) rfl ?_;rw [HRE2.out, HN2.out, HN3.out];exact pq_row2 zz (by omega) hjl2' hRlt HR6.out (HO13.out.trans HO6.out) (by omega) ((HV5.out.keep HK3.out (fun q _ h => h)).keep (KeepS.of_only HO6.out (by omega)) (fun q _ h => h)) (HV2.out.keep KeepS.refl (fun q _ h => by omega))
structure IfS (R:Nat) (A:Option Addr) (c d:Nat) (l:List Tok) (i tb rb rs B0:Nat) (w0 wE wr:World) (v:Value) (acc:List TmE) (j:Nat):Prop where
 own:wr.ownsRow B0 64 4 v acc.length (flatE acc)
 vals:∀ e∈acc,TmVS (fun q=>B0≤q∧v.ownBlock≠some q) wr e.A e.c e.t
 rdr:Rdr wr R A l.length c j d
 only:Only (fun q=>q=R) w0 wr
 box:BoxR R rb wr
 tbx:wr.heap[tb]?=some (.cells #[.int .i64 18,.int .i64 0,.string ⟨#[]⟩,v] 64 (0,0))
 res:wr.heap[rs]?=some (.cells #[.int .i64 0,.int .i64 0,.string ⟨#[]⟩,.slice none 0 0] 64 (0,0))
 ij:i≤j
 jl:j≤l.length
 big:B0≤wr.heap.size
 two:Only (fun q=>q=R∨q=tb) wE wr
 eB:wE.heap.size≤B0
 rsE:wE.heap.size≤rs
structure IfN (R tb rb rs B0:Nat) (w0:World):Prop where
 r0:R<w0.heap.size
 tb0:w0.heap.size≤tb
 rb0:w0.heap.size≤rb
 rs0:w0.heap.size≤rs
 tbB:tb<B0
 rbB:rb<B0
 rsB:rs<B0
 ne1:tb≠rb
 ne2:tb≠rs
 ne3:rb≠rs
section
variable {R c d i tb rb rs B0 j j2:Nat} {A:Option Addr} {l:List Tok} {w0 wE wr w':World} {v:Value} {acc:List TmE}
theorem IfS.onw (h:IfS R A c d l i tb rb rs B0 w0 wE wr v acc j) (hn:IfN R tb rb rs B0 w0) (ho:Only (fun q=>q=R) wr w') (hr:Rdr w' R A l.length c j2 d) (hj:j≤j2) (hjl:j2≤l.length):IfS R A c d l i tb rb rs B0 w0 wE w' v acc j2:=by
 have hRB:R<B0:=by have:=hn.r0;have:=hn.tb0;have:=hn.tbB;omega
 have h1:=hn.r0;have h2:=hn.tb0;have h3:=hn.rs0;have h4:=hn.tbB;have h5:=hn.rsB;have h6:=h.big;refine ⟨own_only h.own ho hRB,fun e he=>(h.vals e he).keep (KeepS.of_only ho (fun hq=>by have:=hq.1;omega)) (fun _ _ h=>h),hr,h.only.trans ho,h.box.only ho,(ho.block tb (by omega) (by omega)).trans h.tbx,(ho.block rs (by omega) (by omega)).trans h.res,Nat.le_trans h.ij hj,hjl,Nat.le_trans h.big ho.size,h.two.trans (ho.mono fun q h=>.inl h),h.eB,h.rsE⟩
theorem IfS.alloc (h:IfS R A c d l i tb rb rs B0 w0 wE wr v acc j) (hn:IfN R tb rb rs B0 w0) (o:Obj):IfS R A c d l i tb rb rs B0 w0 wE (wr.alloc o) v acc j:=
 h.onw hn (Ob ((Br _ _).alloc (lr _) _)) (h.rdr.below ((Br _ _).alloc (lr _) _) h.rdr.lt) (lr _) h.jl
theorem IfS.drew (h:IfS R A c d l i tb rb rs B0 w0 wE wr v acc j) (hn:IfN R tb rb rs B0 w0):IfS R A c d l i tb rb rs B0 w0 wE wr.drew v acc j:=
 h.onw hn ((Only.refl (F:=fun q=>q=R)).drewN 1) (h.rdr.drewN 1) (lr _) h.jl
theorem IfS.put {W7:World} {A2:Option Addr} {c2 g cap o:Nat} {t2:Tm} (h:IfS R A c d l i tb rb rs B0 w0 wE wr v acc j) (hn:IfN R tb rb rs B0 w0) (hV:TmVS (fun q=>B0≤q∧v.ownBlock≠some q) wr A2 c2 t2)
 (hown:W7.ownsRow B0 64 4 (.slice (some ⟨g,0,none⟩) (acc.length+1) cap) (acc.length+1) (flatE acc++[.int .i64 0,.int .i64 0,.string ⟨#[]⟩,.slice none 0 0])) (hg:wr.grownBy W7 v.ownBlock) (hat:v.ownBlock=some g∨g=wr.heap.size) (ho:o=acc.length*4) :
 IfS R A c d l i tb rb rs B0 w0 wE (((((W7.setCell ⟨g,o,none⟩ (.int .i64 t2.op)).setCell ⟨g,o+1,none⟩ (.int .i64 t2.num)).setCell ⟨g,o+2,none⟩ (.string t2.name)).setCell ⟨g,o+3,none⟩ (.slice A2 t2.kids.length c2)).setCell ⟨tb,3,none⟩ (.slice (some ⟨g,0,none⟩) (acc.length+1) cap)) (.slice (some ⟨g,0,none⟩) (acc.length+1) cap) (acc++[⟨t2,A2,c2⟩]) j:=by
 have h1:=hn.r0;have h2:=hn.tb0;have h3:=hn.rs0;have h4:=hn.tbB;have h5:=hn.rsB;have h6:=h.big;have h7:=hn.rbB;have h8:=hn.rb0;have hlt:∀ q,v.ownBlock=some q→B0≤q∧q<wr.heap.size:=fun q hq=>h.own.lt q hq
 have hgB:B0≤g:=by
  rcases hat with hat | hat
  · exact (hlt g hat).1
  · omega
 have hk:∀ q,v.ownBlock≠some q→q<wr.heap.size→W7.heap[q]?=wr.heap[q]?:=fun q hq hl=>hg.block q hl (fun e=>hq e.symm)
 have hkg:∀ q,v.ownBlock≠some q→q<wr.heap.size→q≠g:=fun q hq hl e=>by
  rcases hat with hat | hat
  · exact hq (e ▸ hat)
  · omega
 have hold:∀ q,q<B0→v.ownBlock≠some q:=fun q hq e=>by have:=(hlt q e).1;omega
 obtain ⟨WS,hWS⟩:=ex_ ((((W7.setCell ⟨g,o,none⟩ (.int .i64 t2.op)).setCell ⟨g,o+1,none⟩ (.int .i64 t2.num)).setCell ⟨g,o+2,none⟩ (.string t2.name)).setCell ⟨g,o+3,none⟩ (.slice A2 t2.kids.length c2));rw [←hWS]
 have hS:∀ q,q≠g→WS.heap[q]?=W7.heap[q]?:=fun q hq=>by
  rw [hWS,hO_ _ ⟨g,o+3,none⟩ q _ hq,hO_ _ ⟨g,o+2,none⟩ q _ hq,hO_ _ ⟨g,o+1,none⟩ q _ hq,hO_ _ ⟨g,o,none⟩ q _ hq]
 have hSs:WS.heap.size=W7.heap.size:=by rw [hWS];simp
 have hs7:=hg.size
 have hownS:WS.ownsRow B0 64 4 (.slice (some ⟨g,0,none⟩) (acc.length+1) cap) (acc.length+1) (flatE (acc++[⟨t2,A2,c2⟩])):=by
  have x:=((((hown.stored o (.int .i64 t2.op)).1.stored (o+1) (.int .i64 t2.num)).1.stored (o+2) (.string t2.name)).1.stored (o+3) (.slice A2 t2.kids.length c2)).1;rw [←hWS] at x;have hl:(flatE acc).length=o:=by rw [flatE_len,ho]
  have e:((((flatE acc++([.int .i64 0,.int .i64 0,.string ⟨#[]⟩,.slice none 0 0]:List Value)).set o (.int .i64 t2.op)).set (o+1) (.int .i64 t2.num)).set (o+2) (.string t2.name)).set (o+3) (.slice A2 t2.kids.length c2)=flatE (acc++[⟨t2,A2,c2⟩]):=by
   rw [flatE_snoc,←hl];simp [TmE.cells,List.set_append_right]
  rw [e] at x;exact x
 have hall:∀ q,v.ownBlock≠some q→q<wr.heap.size→q≠tb→(WS.setCell ⟨tb,3,none⟩ (.slice (some ⟨g,0,none⟩) (acc.length+1) cap)).heap[q]?=wr.heap[q]?:=fun q hq hl hne=>by
  rw [hO_ _ ⟨tb,3,none⟩ q _ hne,hS q (hkg q hq hl)];exact hk q hq hl
 have hsF:(WS.setCell ⟨tb,3,none⟩ (.slice (some ⟨g,0,none⟩) (acc.length+1) cap)).heap.size=W7.heap.size:=by simp [hSs]
 have hkeep:KeepS (fun q=>B0≤q∧v.ownBlock≠some q) wr (WS.setCell ⟨tb,3,none⟩ (.slice (some ⟨g,0,none⟩) (acc.length+1) cap)):=⟨by rw [hsF];exact hs7,fun q hq hl=>hall q hq.2 hl (by have:=hq.1;omega)⟩
 have hfin:∀ q,q<wr.heap.size→(B0≤q∧v.ownBlock≠some q)→(B0≤q∧(Value.slice (some ⟨g,0,none⟩) (acc.length+1) cap).ownBlock≠some q):=fun q hq hh=>⟨hh.1,fun e=>by
  have e2:g=q:=by simpa [Value.ownBlock] using e
  exact hkg q hh.2 hq e2.symm⟩
 refine ⟨?_,?_,?_,?_,?_,?_,?_,h.ij,h.jl,by rw [hsF];omega,?_,h.eB,h.rsE⟩
 · rw [List.length_append];have hgl:=(hownS.lt g rfl).2
   exact hownS.kept (row:=some tb) ⟨rfl,rfl,rfl,by simp,fun k hk hne=>hO_ _ ⟨tb,3,none⟩ k _ (fun e=>hne (by rw [e]))⟩ (.inr (fun e=>by
    have e2:g=tb:=by simpa [Value.ownBlock] using e
    omega))
 · intro e he
   rcases List.mem_append.1 he with he | he
   · exact (h.vals e he).keep hkeep hfin
   · rw [List.mem_singleton.1 he];exact hV.keep hkeep hfin
 · exact (hall R (hold R (by omega)) (by omega) (by omega)).trans h.rdr
 · have hO:=h.only;have e1:WS.os=W7.os:=by rw [hWS];rfl
   have e2:WS.tape=W7.tape:=by rw [hWS];rfl
   have e3:WS.output=W7.output:=by rw [hWS];rfl
   refine ⟨e1.trans (hg.os.trans hO.os),e2.trans (hg.tape.trans hO.tape),e3.trans (hg.output.trans hO.output),by rw [hsF];exact Nat.le_trans hO.size hs7,fun q hq hf=>?_⟩;rw [hall q (hold q (by omega)) (lL hq hO.size) (by omega)];exact hO.block q hq hf
 · exact h.box.block (hall rb (hold rb h7) (by omega) (fun e=>hn.ne1 e.symm)) (by rw [hsF];exact hs7)
 · have hx:WS.heap[tb]?=some (.cells #[.int .i64 18,.int .i64 0,.string ⟨#[]⟩,v] 64 (0,0)):=(hS tb (by omega)).trans ((hk tb (hold tb h4) (by omega)).trans h.tbx);simp [World.setCell,Array.getElem?_modify,hx]
 · exact (hall rs (hold rs h5) (by omega) (fun e=>hn.ne2 e.symm)).trans h.res
 · have hO:=h.two;have h9:=h.eB;have e1:WS.os=W7.os:=by rw [hWS];rfl
   have e2:WS.tape=W7.tape:=by rw [hWS];rfl
   have e3:WS.output=W7.output:=by rw [hWS];rfl
   refine ⟨e1.trans (hg.os.trans hO.os),e2.trans (hg.tape.trans hO.tape),e3.trans (hg.output.trans hO.output),by rw [hsF];exact Nat.le_trans hO.size hs7,fun q hq hf=>?_⟩;rw [hall q (hold q (by omega)) (lL hq hO.size) (fun e=>hf (.inr e))];exact hO.block q hq hf
end
end Go.Proofs.YtkhoeoilamddaaaGreatDoor
