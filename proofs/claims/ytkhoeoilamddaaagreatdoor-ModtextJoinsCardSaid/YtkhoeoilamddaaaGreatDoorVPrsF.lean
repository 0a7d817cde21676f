/- Walks and plain words: PrsF PrsG PrsH PrsI. -/
import Derived.Test.YtkhoeoilamddaaaGreatDoorVPrsD
namespace Go.Proofs.YtkhoeoilamddaaaGreatDoor
open Go.RowKit
set_option linter.unusedVariables false
set_option maxRecDepth 100000
set_option maxHeartbeats 8000000
def BoxR (R rb:Nat) (w:World):Prop:=w.cell? ⟨rb,0,none⟩=some (.pointer (some ⟨R,0,none⟩))∧rb<w.heap.size∧rb≠R
theorem BoxR.only {R rb:Nat} {w w':World} (h:BoxR R rb w) (ho:Only (fun q=>q=R) w w'):BoxR R rb w':=⟨by rw [ho.cell h.2.1 h.2.2];exact h.1,lL h.2.1 ho.size,h.2.2⟩
theorem psum1_any (R:Nat) (A:Option Addr) (c d:Nat) (l:List Tok) (rb:Nat) (P:Par) (hF:FnC R A c d l 204 (.pointer (some ⟨R,0,none⟩)) (fun _=>True) P) :
 FnC R A c d l 203 (.pointer (some ⟨rb,0,none⟩)) (BoxR R rb) (left l P [16,17]):=by
 intro i w hi hR hP hw;have hRlt:=hR.lt;obtain ⟨w1,hw1⟩:=ex_ (w.alloc (.cells #[.int .i64 0,.int .i64 0,.string ⟨#[]⟩,.slice none 0 0] 64));have hb1:=bAl hw1;have hs1:w1.heap.size=w.heap.size+1:=by rw [hw1];simp
 have hbx:w1.heap[w.heap.size]?=some (.cells #[.int .i64 0,.int .i64 0,.string ⟨#[]⟩,.slice none 0 0] 64 (0,0)):=by rw [hw1];exact hA_ w _
 have ho1:Only (fun q=>q=R) w w1:=Ob hb1;have k0:=hw.1;have k0':=(hw.only ho1).1;have krb:=hw.2.1;obtain ⟨w2,hw2⟩:=ex_ (w1.alloc (.cells #[.int .i64 16,.int .i64 17] 3));have hb2:=bAl hw2;have hs2:w2.heap.size=w1.heap.size+1:=by rw [hw2];simp
 have ho2:Only (fun q=>q=R) w w2:=ho1.trans (Ob hb2);have hR2:Rdr w2 R A l.length c i d:=(hR.below hb1 hRlt).below hb2 (by omega);have hops:OpsAt w2 w1.heap.size [16,17]:=by rw [hw2];exact ops_new w1 [16,17]
 have hcall:Calls Tryz.prog 202 #[.pointer (some ⟨R,0,none⟩),.func (.func 204) #[.pointer (some ⟨R,0,none⟩)] #[],.slice (some ⟨w1.heap.size,0,none⟩) 2 2] w2 (PQ R A c d l i (left l P [16,17] i) w2):=pleft_any R A c d l 204 (.pointer (some ⟨R,0,none⟩)) true (fun _=>True) P w1.heap.size 2 [16,17] i w2 (fun _ _=>by kernel_rfl) (fun _ _ _ _=>trivial) hF hi hR2 (hP.only ho2) trivial hops (by decide) (by omega) (by omega);rw [hs1] at hcall;have hbx2:=(hb2.block w.heap.size (by omega)).trans hbx;obtain ⟨r,hr⟩:=ex_ (left l P [16,17] i);obtain ⟨F,hF0⟩:=ex_ (PQ R A c d l i (left l P [16,17] i) w);have HRE:Hid (F=PQ R A c d l i r w):=by show _=_;rw [hF0,hr]
 rw [←hF0];rw [←hr] at hcall;have HC:=Hd hcall;have HW1:=Hd hw1;have HW2:=Hd hw2;have HO2:=Hd ho2;have HBX2:=Hd hbx2;clear hcall hr hF0 hw1 hw2 hb1 hb2 ho1 ho2 hbx hbx2 hF hP hw hR hops hR2;go_enter Tryz.func203,Tryz.ntmps203;go_wp2_with fail;rw [←HW1.out];go_wp2_with fail;rw [←HW2.out];refine (HC.out).mono ?_;intro e w4 hq
 cases r with
 | bad j x=>
  obtain ⟨rfl,ho4⟩:=hq;refine (show _∧_ from ⟨rfl,?_⟩);rw [HRE.out];exact ⟨rfl,HO2.out.trans ho4⟩
 | ok t j=>
  obtain ⟨⟨A',c',rfl,hV⟩,hij,hjl,hR4,ho4⟩:=hq;have hbw:=(ho4.block w.heap.size (by omega) (by omega)).trans HBX2.out;have hs4:=ho4.size;obtain ⟨n2,hn2⟩:=ex_ t.kids.length;have hend:=fun v0 v1 v2 v3=>pq_end v0 v1 v2 v3 hij hjl hRlt hR4 (HO2.out.trans ho4) (hV.keep Kr (fun q _ h=>by omega));unfold Tm.val at hend ⊢;rw [←hn2] at hend ⊢;have HEND:=Hd hend;have HBW:=Hd hbw;obtain ⟨v0,v1,v2,v3,zq⟩:=q4 hbw;clear hV hR4 ho4 hn2 hij hend hbw;go_wp2_with fail;refine bR (results_cell_row (t:=64) (fr:=(0,0)) rfl _ _ w.heap.size _ _ rfl (res4 HBW.out) Tryz.underlying64 rfl (by kernel_rfl)) rfl ?_;rw [HRE.out];exact HEND.out _ _ _ _
theorem pimp1_any (R:Nat) (A:Option Addr) (c d:Nat) (l:List Tok) (rb:Nat) (P:Par) (hF:FnC R A c d l 173 (.pointer (some ⟨R,0,none⟩)) (fun _=>True) P) :
 FnC R A c d l 172 (.pointer (some ⟨rb,0,none⟩)) (BoxR R rb) (many l 6 P):=by
 intro i w hi hR hP hw;have hRlt:=hR.lt;obtain ⟨w1,hw1⟩:=ex_ (w.alloc (.cells #[.int .i64 0,.int .i64 0,.string ⟨#[]⟩,.slice none 0 0] 64));have hb1:=bAl hw1;have hs1:w1.heap.size=w.heap.size+1:=by rw [hw1];simp
 have hbx:w1.heap[w.heap.size]?=some (.cells #[.int .i64 0,.int .i64 0,.string ⟨#[]⟩,.slice none 0 0] 64 (0,0)):=by rw [hw1];exact hA_ w _
 have ho1:Only (fun q=>q=R) w w1:=Ob hb1;have k0:=hw.1;have k0':=(hw.only ho1).1;have krb:=hw.2.1;have hR1:Rdr w1 R A l.length c i d:=hR.below hb1 hRlt;have hcall:Calls Tryz.prog 171 #[.pointer (some ⟨R,0,none⟩),.int .i64 6,.func (.func 173) #[.pointer (some ⟨R,0,none⟩)] #[]] w1 (PQ R A c d l i (many l 6 P i) w1):=pmany_any R A c d l 173 (.pointer (some ⟨R,0,none⟩)) true (fun _=>True) P 6 i w1 (fun _ _=>by kernel_rfl) (fun _ _ _ _=>trivial) hF hi hR1 (hP.only ho1) trivial;obtain ⟨r,hr⟩:=ex_ (many l 6 P i);obtain ⟨F,hF0⟩:=ex_ (PQ R A c d l i (many l 6 P i) w);have HRE:Hid (F=PQ R A c d l i r w):=by show _=_;rw [hF0,hr]
 rw [←hF0];rw [←hr] at hcall;have HC:=Hd hcall;have HW1:=Hd hw1;have HO1:=Hd ho1;have HBX1:=Hd hbx;clear hcall hr hF0 hw1 hb1 ho1 hbx hF hP hw hR hR1;go_enter Tryz.func172,Tryz.ntmps172;go_wp2_with fail;rw [←HW1.out];refine (HC.out).mono ?_;intro e w4 hq
 cases r with
 | bad j x=>
  obtain ⟨rfl,ho4⟩:=hq;refine (show _∧_ from ⟨rfl,?_⟩);rw [HRE.out];exact ⟨rfl,HO1.out.trans ho4⟩
 | ok t j=>
  obtain ⟨⟨A',c',rfl,hV⟩,hij,hjl,hR4,ho4⟩:=hq;have hbw:=(ho4.block w.heap.size (by omega) (by omega)).trans HBX1.out;have hs4:=ho4.size;obtain ⟨n2,hn2⟩:=ex_ t.kids.length;have hend:=fun v0 v1 v2 v3=>pq_end v0 v1 v2 v3 hij hjl hRlt hR4 (HO1.out.trans ho4) (hV.keep Kr (fun q _ h=>by omega));unfold Tm.val at hend ⊢;rw [←hn2] at hend ⊢;have HEND:=Hd hend;have HBW:=Hd hbw;obtain ⟨v0,v1,v2,v3,zq⟩:=q4 hbw;clear hV hR4 ho4 hn2 hij hend hbw;go_wp2_with fail;refine bR (results_cell_row (t:=64) (fr:=(0,0)) rfl _ _ w.heap.size _ _ rfl (res4 HBW.out) Tryz.underlying64 rfl (by kernel_rfl)) rfl ?_;rw [HRE.out];exact HEND.out _ _ _ _
theorem PQ.back {R c d i:Nat} {A:Option Addr} {l:List Tok} {r:Rs Tm} {w wb w':World} {e:Ending} (h:PQ R A c d l i r wb e w') (ho:Only (fun q=>q=R) w wb):PQ R A c d l i r w e w':=by
 have hs:=ho.size
 cases r with
 | bad j x=>exact ⟨h.1,ho.trans h.2⟩
 | ok t j=>
  obtain ⟨⟨A',c',he,hV⟩,h1,h2,h3,h4⟩:=h;exact ⟨⟨A',c',he,hV.keep Kr (fun q _ hq=>Nat.le_trans hs hq)⟩,h1,h2,h3,ho.trans h4⟩
theorem psum_any (R:Nat) (A:Option Addr) (c d:Nat) (l:List Tok) (P:Par) (hF:FnC R A c d l 204 (.pointer (some ⟨R,0,none⟩)) (fun _=>True) P) :
 FnC R A c d l 192 (.pointer (some ⟨R,0,none⟩)) (fun _=>True) (left l (left l P [16,17]) [14,15]):=by
 intro i w hi hR hP hw;have hRlt:=hR.lt;obtain ⟨wb,hwb⟩:=ex_ (w.alloc (.cells #[.pointer (some ⟨R,0,none⟩)] 182));have hbb:=bAl hwb;have hsb:wb.heap.size=w.heap.size+1:=by rw [hwb];simp
 have hob:Only (fun q=>q=R) w wb:=Ob hbb;have hRb:Rdr wb R A l.length c i d:=hR.below hbb hRlt;have hbox:BoxR R w.heap.size wb:=⟨by rw [hwb];exact (cR _ _ 0 _ _ (0,0) (hA_ w _)).trans rfl,by omega,by omega⟩;obtain ⟨w1,hw1⟩:=ex_ (wb.alloc (.cells #[.int .i64 0,.int .i64 0,.string ⟨#[]⟩,.slice none 0 0] 64));have hb1:=bAl hw1;have hs1:w1.heap.size=w.heap.size+1+1:=by rw [hw1];simp [hsb]
 have hbx:w1.heap[wb.heap.size]?=some (.cells #[.int .i64 0,.int .i64 0,.string ⟨#[]⟩,.slice none 0 0] 64 (0,0)):=by rw [hw1];exact hA_ wb _
 have ho1:Only (fun q=>q=R) wb w1:=Ob hb1;obtain ⟨w2,hw2⟩:=ex_ (w1.alloc (.cells #[.int .i64 14,.int .i64 15] 3));have hb2:=bAl hw2;have hs2:w2.heap.size=w.heap.size+3:=by rw [hw2];simp [hs1]
 have ho2:Only (fun q=>q=R) wb w2:=ho1.trans (Ob hb2);have hR2:Rdr w2 R A l.length c i d:=(hRb.below hb1 (by omega)).below hb2 (by omega);have hops:OpsAt w2 w1.heap.size [14,15]:=by rw [hw2];exact ops_new w1 [14,15]
 have k0:=hbox.1;have k0':=(hbox.only ho1).1
 have hcall:Calls Tryz.prog 202 #[.pointer (some ⟨R,0,none⟩),.func (.func 203) #[] #[.pointer (some ⟨w.heap.size,0,none⟩)],.slice (some ⟨w1.heap.size,0,none⟩) 2 2] w2 (PQ R A c d l i (left l (left l P [16,17]) [14,15] i) w2):=
  pleft_any R A c d l 203 (.pointer (some ⟨w.heap.size,0,none⟩)) false (BoxR R w.heap.size) (left l P [16,17]) w1.heap.size 2 [14,15] i w2 (fun _ _=>by kernel_rfl) (fun _ _ h ho=>h.only ho) (psum1_any R A c d l w.heap.size P hF) hi hR2 (hP.only (hob.trans ho2)) (hbox.only ho2) hops (by decide) (by omega) (by omega)
 rw [hs1] at hcall;have hbx2:=(hb2.block wb.heap.size (by omega)).trans hbx;obtain ⟨r,hr⟩:=ex_ (left l (left l P [16,17]) [14,15] i);obtain ⟨F,hF0⟩:=ex_ (PQ R A c d l i (left l (left l P [16,17]) [14,15] i) w);have HRE:Hid (F=PQ R A c d l i r w):=by show _=_;rw [hF0,hr]
 rw [←hF0];rw [←hr] at hcall;have HC:=Hd hcall;have HWB:=Hd hwb;have HSB:=Hd hsb;have HOB:=Hd hob;have HW1:=Hd hw1;have HW2:=Hd hw2;have HO2:=Hd ho2;have HBX2:=Hd hbx2;clear hcall hr hF0 hwb hbb hob hRb hbox hw1 hw2 hb1 hb2 ho1 ho2 hbx hbx2 hF hP hw hR hops hR2;go_enter Tryz.func192,Tryz.ntmps192;go_wp2_with fail;rw [←HWB.out,←HW1.out,←HW2.out];refine (HC.out).mono ?_;intro e w4 hq
 cases r with
 | bad j x=>
  obtain ⟨rfl,ho4⟩:=hq;refine (show _∧_ from ⟨rfl,?_⟩);rw [HRE.out];exact ⟨rfl,HOB.out.trans (HO2.out.trans ho4)⟩
 | ok t j=>
  obtain ⟨⟨A',c',rfl,hV⟩,hij,hjl,hR4,ho4⟩:=hq;have hbw:=(ho4.block wb.heap.size (by omega) (by omega)).trans HBX2.out;have hs4:=ho4.size;obtain ⟨n2,hn2⟩:=ex_ t.kids.length;have hend:=fun v0 v1 v2 v3=>PQ.back (pq_end v0 v1 v2 v3 hij hjl (by omega) hR4 (HO2.out.trans ho4) (hV.keep Kr (fun q _ h=>by omega))) HOB.out;unfold Tm.val at hend ⊢;rw [←hn2] at hend ⊢;rw [HSB.out] at hend hbw;have HEND:=Hd hend;have HBW:=Hd hbw;obtain ⟨v0,v1,v2,v3,zq⟩:=q4 hbw;clear hV hR4 ho4 hn2 hij hend hbw;go_wp2_with fail;refine bR (results_cell_row (t:=64) (fr:=(0,0)) rfl _ _ (w.heap.size+1) _ _ rfl (res4 HBW.out) Tryz.underlying64 rfl (by kernel_rfl)) rfl ?_;rw [HRE.out];exact HEND.out _ _ _ _
set_option linter.unusedSimpArgs false
theorem pq_row2 {R c d i j:Nat} {A A' A2:Option Addr} {c' c2:Nat} {l:List Tok} {w w6:World} {t t2:Tm} (op:Int) (hij:i<j) (hjl:j≤l.length) (hRw:R<w.heap.size) (hR:Rdr w6 R A l.length c j d) (hO:Only (fun q=>q=R) w w6) (hs:w.heap.size<w6.heap.size) (hV:TmVS (fun q=>w.heap.size<q) w6 A' c' t) (hV2:TmVS (fun q=>w.heap.size<q) w6 A2 c2 t2) :
 PQ R A c d l i (.ok (tmOf op [t,t2]) j) w (.returned (.agg #[.int .i64 op,.int .i64 0,.string ⟨#[]⟩,.slice (some ⟨w6.heap.size,0,none⟩) 2 2])) (((((w6.setCell ⟨w.heap.size,0,none⟩ (.int .i64 op)).setCell ⟨w.heap.size,1,none⟩ (.int .i64 0)).setCell ⟨w.heap.size,2,none⟩ (.string ⟨#[]⟩)).setCell ⟨w.heap.size,3,none⟩ (.slice (some ⟨w6.heap.size,0,none⟩) 2 2)).alloc (.cells #[.int .i64 t.op,.int .i64 t.num,.string t.name,.slice A' t.kids.length c',.int .i64 t2.op,.int .i64 t2.num,.string t2.name,.slice A2 t2.kids.length c2] 64)):=by
 obtain ⟨WQ,hWQ⟩:=ex_ ((((w6.setCell ⟨w.heap.size,0,none⟩ (.int .i64 op)).setCell ⟨w.heap.size,1,none⟩ (.int .i64 0)).setCell ⟨w.heap.size,2,none⟩ (.string ⟨#[]⟩)).setCell ⟨w.heap.size,3,none⟩ (.slice (some ⟨w6.heap.size,0,none⟩) 2 2));rw [←hWQ];have hne:R≠w.heap.size:=by omega
 have hqs:WQ.heap.size=w6.heap.size:=by rw [hWQ];simp
 have hRQ:Rdr WQ R A l.length c j d:=by
  rw [hWQ];unfold Rdr;rw [hO_ _ ⟨w.heap.size,3,none⟩ R _ hne,hO_ _ ⟨w.heap.size,2,none⟩ R _ hne,hO_ _ ⟨w.heap.size,1,none⟩ R _ hne,hO_ _ ⟨w.heap.size,0,none⟩ R _ hne];exact hR
 have hkQ:KeepS (fun q=>w.heap.size<q) w6 WQ:=by
  rw [hWQ];exact (((KeepS.refl.set (by omega) _).set (by omega) _).set (by omega) _).set (by omega) _
 have hOQ:Only (fun q=>q=R) w WQ:=by rw [hWQ];exact only_sets hO
 obtain ⟨W7,hW7⟩:=ex_ (WQ.alloc (.cells #[.int .i64 t.op,.int .i64 t.num,.string t.name,.slice A' t.kids.length c',.int .i64 t2.op,.int .i64 t2.num,.string t2.name,.slice A2 t2.kids.length c2] 64));rw [←hW7];have hb7:=bAl hW7;have hs7:W7.heap.size=w6.heap.size+1:=by rw [hW7];simp [hqs]
 have hrow7:W7.heap[w6.heap.size]?=some (.cells (flatE [⟨t,A',c'⟩,⟨t2,A2,c2⟩]).toArray 64 (0,0)):=by rw [hW7,←hqs];exact hA_ WQ _
 have hk7:KeepS (fun q=>w.heap.size<q) w6 W7:=hkQ.trans (Kb hb7);refine ⟨⟨some ⟨w6.heap.size,0,none⟩,2,rfl,lr _,by unfold maxLen;omega,zl _,.inr ⟨w6.heap.size,0,rfl,Nat.le_of_lt hs,by omega,?_⟩⟩,hij,hjl,hRQ.below hb7 (by omega),hOQ.trans (Ob hb7)⟩
 refine row_of_cells [⟨t,A',c'⟩,⟨t2,A2,c2⟩] 0 (fun k v hv=>by
  rw [Nat.zero_add,cR _ _ k _ _ (0,0) hrow7]
  simpa using hv) ?_
 intro e he;simp only [List.mem_cons,List.not_mem_nil,or_false] at he
 rcases he with rfl | rfl
 · exact hV.keep hk7 (fun q _ h=>Nat.le_of_lt h)
 · exact hV2.keep hk7 (fun q _ h=>Nat.le_of_lt h)
theorem pterm_any (R:Nat) (A:Option Addr) (c d:Nat) (l:List Tok) (P:Par) (hF:FnC R A c d l 145 (.pointer (some ⟨R,0,none⟩)) (fun _=>True) P) :
 FnC R A c d l 122 (.pointer (some ⟨R,0,none⟩)) (fun _=>True) (termB l P):=by
 intro i w hi hR hP hw;have hlen:=hP.len;have hRlt:=hR.lt;obtain ⟨w1,hw1⟩:=ex_ (w.alloc (.cells #[.int .i64 0,.int .i64 0,.string ⟨#[]⟩,.slice none 0 0] 64));have hb1:=bAl hw1;have hs1:w1.heap.size=w.heap.size+1:=by rw [hw1];simp
 have hbx:w1.heap[w.heap.size]?=some (.cells #[.int .i64 0,.int .i64 0,.string ⟨#[]⟩,.slice none 0 0] 64 (0,0)):=by rw [hw1];exact hA_ w _
 have ho1:Only (fun q=>q=R) w w1:=Ob hb1;have hc1:Calls Tryz.prog 145 #[.pointer (some ⟨R,0,none⟩)] w1 (PQ R A c d l i (P i) w1):=hF i w1 hi (hR.below hb1 hRlt) (hP.only ho1) trivial;obtain ⟨r1,hr1⟩:=ex_ (P i);obtain ⟨F,hF0⟩:=ex_ (PQ R A c d l i (termB l P i) w);have HRE:Hid (F=PQ R A c d l i (r1.then fun t j=>if whichOp l j [9]=0 then .ok t j else (P (j+1)).then fun u k=>.ok (tmOf 9 [t,u]) k) w):=by show _=_;rw [hF0,hr1];rfl
 rw [←hF0];rw [←hr1] at hc1;have HC1:=Hd hc1;have HW1:=Hd hw1;have HO1:=Hd ho1;have HBX:=Hd hbx;have HFN:=Hd hF;have HP:=Hd hP;clear hc1 hr1 hF0 hw1 hb1 ho1 hbx hF hP hw hR;go_enter Tryz.func122,Tryz.ntmps122;go_wp2_with fail;rw [←HW1.out];refine (HC1.out).mono ?_;intro e w4 hq
 cases r1 with
 | bad j x=>
  obtain ⟨rfl,ho4⟩:=hq;refine (show _∧_ from ⟨rfl,?_⟩);rw [HRE.out];exact ⟨rfl,HO1.out.trans ho4⟩
 | ok t j=>
  obtain ⟨⟨A',c',rfl,hV⟩,hij,hjl,hR4,ho4⟩:=hq;have hs4:=ho4.size;obtain ⟨n2,hn2⟩:=ex_ t.kids.length;unfold Tm.val;rw [←hn2];obtain ⟨bt,hbt⟩:=ex_ w4.heap.size;obtain ⟨wt,hwt⟩:=ex_ (w4.alloc (.cells #[.int .i64 t.op,.int .i64 t.num,.string t.name,.slice A' n2 c'] 64));have hbT:=bAl hwt;have hst:wt.heap.size=bt+1:=by rw [hwt,hbt];simp
  have hbox:wt.heap[bt]?=some (.cells #[.int .i64 t.op,.int .i64 t.num,.string t.name,.slice A' n2 c'] 64 (0,0)):=by rw [hwt,hbt];exact hA_ w4 _
  obtain ⟨wo,hwo⟩:=ex_ (wt.alloc (.cells #[.int .i64 9] 3));have hbO:=bAl hwo;have hso:wo.heap.size=bt+2:=by rw [hwo];simp [hst]
  have hOO:Only (fun q=>q=R) w1 wo:=ho4.trans ((Ob hbT).trans (Ob hbO));have hRO:Rdr wo R A l.length c j d:=(hR4.below hbT (by omega)).below hbO (by omega);have hboxo:=(hbO.block bt (by omega)).trans hbox
  have hsg:Calls Tryz.prog 146 #[.pointer (some ⟨R,0,none⟩),.slice (some ⟨wt.heap.size,0,none⟩) 1 1] wo fun e w'=>e=.returned (.int .i64 (whichOp l j [9]))∧∃ n,w'=wo.drewN n:=
   psign_any R A c j d l wt.heap.size 1 [9] wo hRO (HP.out.only (HO1.out.trans hOO)) (by omega) (by rw [hwo];exact ops_new wt [9]) (by simp) (by omega)
  rw [hst] at hsg;have HK:Hid (KeepS (fun q=>w1.heap.size≤q) w4 wo):=(Kb hbT).trans (Kb hbO);have HSG:=Hd hsg;have HWT:=Hd hwt;have HWO:=Hd hwo;have HBT:=Hd hbt;have HN2:=Hd hn2;clear hn2 hwt hwo hbT hbO hbox hsg;go_wp2_with fail;rw [←HBT.out,←HWT.out,←HWO.out];refine (HSG.out).mono ?_;rintro e w5 ⟨rfl,q,hw5⟩;have hO5:Only (fun q=>q=R) w1 w5:=by rw [hw5];exact hOO.drewN q
  have hR5:Rdr w5 R A l.length c j d:=by rw [hw5];exact hRO.drewN q
  have hb5:w5.heap[bt]?=some (.cells #[.int .i64 t.op,.int .i64 t.num,.string t.name,.slice A' n2 c'] 64 (0,0)):=by rw [hw5];exact hboxo
  have hs5:w5.heap.size=bt+2:=by rw [hw5];exact hso
  have hbt1:w1.heap.size≤bt:=by rw [hbt];exact hs4
  have hbr:bt≠R:=by omega
  have hx5:=(hO5.block w.heap.size (by omega) (by omega)).trans HBX.out;have hk5:KeepS (fun q=>w1.heap.size≤q) w4 w5:=by rw [hw5];exact ⟨by show w4.heap.size≤wo.heap.size;omega,fun q hq hl=>HK.out.block q hq hl⟩
  have hV5:TmVS (fun q=>w.heap.size<q) w5 A' c' t:=hV.keep hk5 (fun q _ h=>by omega);clear hk5 hbt hw5 hso hOO hRO hboxo hR4;have HR5:=Hd hR5;have HO5:=Hd hO5;have HV5:=Hd hV5;have HX5:=Hd hx5;have HB5:=Hd hb5;obtain ⟨v0,v1,v2,v3,zq⟩:=q4 hx5;obtain ⟨y0,y1,y2,y3,xq⟩:=q4 hb5;have hbwr:w.heap.size<w5.heap.size:=by omega
  have hbtr:bt<w5.heap.size:=by omega
  clear hR5 hO5 hV5 hx5 hb5 hV
  by_cases hz:whichOp l j [9]=0
  · have HRR:Hid (F=PQ R A c d l i (.ok t j) w):=by show _=_;rw [HRE.out];show PQ R A c d l i (if whichOp l j [9]=0 then _ else _) w=_;rw [iP hz]
    rw [hz];clear hz;go_wp2_with fail;refine bR (results_cell_row (t:=64) (fr:=(0,0)) rfl _ _ w.heap.size _ _ rfl (res4 HX5.out) Tryz.underlying64 rfl (by kernel_rfl)) rfl ?_;rw [HRR.out];have h:=pq_end (.int .i64 t.op) (.int .i64 t.num) (.string t.name) (.slice A' n2 c') hij hjl hRlt HR5.out (HO1.out.trans HO5.out) HV5.out;unfold Tm.val at h;rw [←HN2.out] at h;exact h
  · have hzb:(whichOp l j [9] == 0)=false:=by simpa using hz
    have hjl3:=which_lt hz;have HRR:Hid (F=PQ R A c d l i ((P (j+1)).then fun u k=>.ok (tmOf 9 [t,u]) k) w):=by show _=_;rw [HRE.out];show PQ R A c d l i (if whichOp l j [9]=0 then _ else _) w=_;rw [iN hz]
    obtain ⟨zz,hzz⟩:=ex_ (whichOp l j [9]);rw [←hzz] at hzb ⊢;have c1:=HR5.out.c1;have f1:=HR5.out.frozen 1;clear hz hzz;go_wp2_with fail;refine wp_region_any (by kernel_rfl) ?_
    change wpAny _ _ _ _ _ _ _ (World.drew _)
    obtain ⟨W3,hW3⟩:=ex_ ((w5.setCell ⟨R,1,none⟩ (.int .i64 ((j:Int)+1))).drew);have hwn:Went R A l.length c d (j+1) w5 ((w5.setCell ⟨R,1,none⟩ (.int .i64 ((j:Int)+1))).drew):=went_more (m:=1) (went_next (m:=0) HR5.out);rw [←hW3] at hwn ⊢;have ho3:Only (fun q=>q=R) w5 W3:=hwn.2.1;have hs3:W3.heap.size=w5.heap.size:=hwn.2.2;have ho13:=HO1.out.trans (HO5.out.trans ho3);have hcall:Calls Tryz.prog 145 #[.pointer (some ⟨R,0,none⟩)] W3 (PQ R A c d l (j+1) (P (j+1)) W3):=HFN.out (j+1) W3 (by omega) hwn.1 (HP.out.only ho13) trivial;have hb3:=(ho3.block bt hbtr hbr).trans HB5.out;have HX3:=Hd ((ho3.block w.heap.size hbwr (by omega)).trans HX5.out);have HB3:=Hd hb3;have HK3:Hid (KeepS (fun q=>w.heap.size<q) w5 W3):=KeepS.of_only ho3 (by omega);obtain ⟨r2,hr2⟩:=ex_ (P (j+1));have HRE2:Hid (F=PQ R A c d l i (r2.then fun u k=>.ok (tmOf 9 [t,u]) k) w):=by show _=_;rw [HRR.out,hr2]
    rw [← hr2] at hcall;have HC2 := Lib.hid hcall;have HO13 := Lib.hid ho13;clear hW3 hwn ho3 ho13 hcall hr2 hb3 c1 f1 zq v0 v1 v2 v3 y0 y1 y2 y3 xq;obtain ⟨y0, y1, y2, y3, xq⟩ := q4 HB3.out;clear xq;refine wpAny_take (i := 1) (oi := { dst := some 21, op := Op.move (Operand.tmp 0), type := 182, pos := "ttext.go:245", after := #[], guard := none }) (v := ?_) rfl (by kernel_rfl) (by kernel_rfl) (by kernel_rfl) (fun _ _ _ h => h) (Or.inl ⟨by rfl, ?hy⟩) ?_
    case hy=>intro w0;go_simp;(first | done | with_reducible rfl)
    try simp only [Act.put,sAr,sZe,sSu]
    cases r2 with
    | bad jb xb=>
     refine wpAny_ready (rs := [0, 2]) (by kernel_rfl) (by simp) ?_;refine AllReady.cons (o := { dst := some 20, op := Op.load 64 (Operand.tmp 3), type := 64, pos := "ttext.go:245", after := #[], guard := none }) rfl (fun K hK => ?_) ?_
     · go_simp;refine hK _ _ ?_;clear hK K;(try simp only [Act.put, sAr, sZe, sSu]);refine wpAny_ready (rs := [2]) (by kernel_rfl) (by simp) ?_;refine AllReady.cons (o := { dst := some 22, op := Op.call { callee := Callee.value (Operand.func 145), args := #[Operand.tmp 21], argTypes := #[182] }, type := 64, pos := "ttext.go:245", after := #[{ on := 1, ground := Ground.data }], guard := none }) rfl (fun K hK => ?_) AllReady.nil;go_simp;(with_reducible refine (HC2.out).mono ?_);intro e w6 hq;obtain ⟨rfl, ho6⟩ := hq;refine (show _ ∧ _ from ⟨rfl, ?_⟩);rw [HRE2.out];exact ⟨rfl, HO13.out.trans ho6⟩
     · refine AllReady.cons (o := { dst := some 22, op := Op.call { callee := Callee.value (Operand.func 145), args := #[Operand.tmp 21], argTypes := #[182] }, type := 64, pos := "ttext.go:245", after := #[{ on := 1, ground := Ground.data }], guard := none }) rfl (fun K hK => ?_) AllReady.nil;go_simp;(with_reducible refine (HC2.out).mono ?_);intro e w6 hq;obtain ⟨rfl, ho6⟩ := hq;refine (show _ ∧ _ from ⟨rfl, ?_⟩);rw [HRE2.out];exact ⟨rfl, HO13.out.trans ho6⟩
    | ok t2 j2=>
     refine wpAny_ready (rs := [0, 2]) (by kernel_rfl) (by simp) ?_;refine AllReady.cons (o := { dst := some 20, op := Op.load 64 (Operand.tmp 3), type := 64, pos := "ttext.go:245", after := #[], guard := none }) rfl (fun K hK => ?_) ?_
     · go_simp;refine hK _ _ ?_;clear hK K;(try simp only [Act.put, sAr, sZe, sSu]);refine wpAny_ready (rs := [2]) (by kernel_rfl) (by simp) ?_;refine AllReady.cons (o := { dst := some 22, op := Op.call { callee := Callee.value (Operand.func 145), args := #[Operand.tmp 21], argTypes := #[182] }, type := 64, pos := "ttext.go:245", after := #[{ on := 1, ground := Ground.data }], guard := none }) rfl (fun K hK => ?_) AllReady.nil;go_simp;(with_reducible refine (HC2.out).mono ?_);intro e w6 hq;obtain ⟨⟨A2, c2, rfl, hV2⟩, hij2, hjl2', hR6, ho6⟩ := hq;obtain ⟨n3, HN3⟩ := exh_ t2.kids.length;unfold Tm.val;rw [← HN3.out];have HO6 := Lib.hid ho6;have HV2 := Lib.hid hV2;have HR6 := Lib.hid hR6;have hs6 := ho6.size;have hbt6 : bt < w6.heap.size := by omega
       have hbw6:w.heap.size<w6.heap.size:=by omega
       have hb6 := (ho6.block bt (by omega) hbr).trans HB3.out;have HX6 := Lib.hid ((ho6.block w.heap.size (by omega) (by omega)).trans HX3.out);clear hV2 hR6 ho6 y0 y1 y2 y3;obtain ⟨y0, y1, y2, y3, xq⟩ := q4 hb6;clear xq hb6;obtain ⟨v0, v1, v2, v3, zq⟩ := q4 HX6.out;refine hK _ _ ?_;clear hK K;(try simp only [Act.put, sAr, sZe, sSu]);refine wpAny_ready (rs := [3]) (by kernel_rfl) (by simp) ?_;refine AllReady.cons (o := { dst := some 23, op := Op.buildSlice 25 2 #[(0, Operand.tmp 20), (1, Operand.tmp 22)], type := 25, pos := "ttext.go:245", after := #[{ on := 0, ground := Ground.data }, { on := 2, ground := Ground.data }], guard := none }) rfl (fun K hK => ?_) AllReady.nil;go_simp;refine hK _ _ ?_;clear hK K;(try simp only [Act.put, sAr, sZe, sSu]);refine wpAny_ready (rs := [4]) (by kernel_rfl) (by simp) ?_;refine AllReady.cons (o := { dst := some 24, op := Op.build 64 #[(0, Operand.const (Value.int IntKind.i64 9)), (3, Operand.tmp 23)], type := 64, pos := "ttext.go:245", after := #[{ on := 3, ground := Ground.data }], guard := none }) rfl (fun K hK => ?_) AllReady.nil;go_simp;refine hK _ _ ?_;clear hK K;(try simp only [Act.put, sAr, sZe, sSu]);refine wpAny_ready (rs := [5]) (by kernel_rfl) (by simp) ?_
       refine AllReady.cons (o := { dst := none, op := Op.store 64 (Operand.tmp 2) (Operand.tmp 24), type := 0, pos := "ttext.go:245", after := #[{ on := 4, ground := Ground.data }, { on := 2, ground := Ground.chain }, { on := 0, ground := Ground.phase }, { on := 1, ground := Ground.phase }, { on := 2, ground := Ground.phase }, { on := 3, ground := Ground.phase }, { on := 4, ground := Ground.phase }], guard := none }) rfl (fun K hK => ?_) AllReady.nil;go_simp;refine hK _ _ ?_;clear hK K;(try simp only [Act.put, sAr, sZe, sSu]);refine wpAny_done (by kernel_rfl) ?_ _;go_wp2_with fail;refine bodyPost_ret (results_cell_row (t := 64) (fr := (0, 0)) rfl _ _ w.heap.size _ _ rfl (alloc_keep (res4 HX6.out)) Tryz.underlying64 rfl (by kernel_rfl)) rfl ?_;rw [HRE2.out, HN2.out, HN3.out];exact pq_row2 9 (by omega) hjl2' hRlt HR6.out (HO13.out.trans HO6.out) (by omega) ((HV5.out.keep HK3.out (fun q _ h => h)).keep (KeepS.of_only HO6.out (by omega)) (fun q _ h => h)) (HV2.out.keep KeepS.refl (fun q _ h => by omega))
     · refine AllReady.cons (o := { dst := some 22, op := Op.call { callee := Callee.value (Operand.func 145), args := #[Operand.tmp 21], argTypes := #[182] }, type := 64, pos := "ttext.go:245", after := #[{ on := 1, ground := Ground.data }], guard := none }) rfl (fun K hK => ?_) AllReady.nil;go_simp;(with_reducible refine (HC2.out).mono ?_);intro e w6 hq;obtain ⟨⟨A2, c2, rfl, hV2⟩, hij2, hjl2', hR6, ho6⟩ := hq;obtain ⟨n3, HN3⟩ := exh_ t2.kids.length;unfold Tm.val;rw [← HN3.out];have HO6 := Lib.hid ho6;have HV2 := Lib.hid hV2;have HR6 := Lib.hid hR6;have hs6 := ho6.size;have hbt6 : bt < w6.heap.size := by omega
       have hbw6:w.heap.size<w6.heap.size:=by omega
       have hb6 := (ho6.block bt (by omega) hbr).trans HB3.out;have HX6 := Lib.hid ((ho6.block w.heap.size (by omega) (by omega)).trans HX3.out);clear hV2 hR6 ho6 y0 y1 y2 y3;obtain ⟨y0, y1, y2, y3, xq⟩ := q4 hb6;clear xq hb6;obtain ⟨v0, v1, v2, v3, zq⟩ := q4 HX6.out;refine hK _ _ ?_;clear hK K;(try simp only [Act.put, sAr, sZe, sSu]);refine wpAny_ready (rs := [0]) (by kernel_rfl) (by simp) ?_;refine AllReady.cons (o := { dst := some 20, op := Op.load 64 (Operand.tmp 3), type := 64, pos := "ttext.go:245", after := #[], guard := none }) rfl (fun K hK => ?_) AllReady.nil;go_simp;refine hK _ _ ?_;clear hK K;(try simp only [Act.put, sAr, sZe, sSu]);refine wpAny_ready (rs := [3]) (by kernel_rfl) (by simp) ?_;refine AllReady.cons (o := { dst := some 23, op := Op.buildSlice 25 2 #[(0, Operand.tmp 20), (1, Operand.tmp 22)], type := 25, pos := "ttext.go:245", after := #[{ on := 0, ground := Ground.data }, { on := 2, ground := Ground.data }], guard := none }) rfl (fun K hK => ?_) AllReady.nil;go_simp;refine hK _ _ ?_;clear hK K;(try simp only [Act.put, sAr, sZe, sSu]);refine wpAny_ready (rs := [4]) (by kernel_rfl) (by simp) ?_;refine AllReady.cons (o := { dst := some 24, op := Op.build 64 #[(0, Operand.const (Value.int IntKind.i64 9)), (3, Operand.tmp 23)], type := 64, pos := "ttext.go:245", after := #[{ on := 3, ground := Ground.data }], guard := none }) rfl (fun K hK => ?_) AllReady.nil;go_simp;refine hK _ _ ?_;clear hK K;(try simp only [Act.put, sAr, sZe, sSu]);refine wpAny_ready (rs := [5]) (by kernel_rfl) (by simp) ?_
       refine AllReady.cons (o := { dst := none, op := Op.store 64 (Operand.tmp 2) (Operand.tmp 24), type := 0, pos := "ttext.go:245", after := #[{ on := 4, ground := Ground.data }, { on := 2, ground := Ground.chain }, { on := 0, ground := Ground.phase }, { on := 1, ground := Ground.phase }, { on := 2, ground := Ground.phase }, { on := 3, ground := Ground.phase }, { on := 4, ground := Ground.phase }], guard := none }) rfl (fun K hK => ?_) AllReady.nil;go_simp;refine hK _ _ ?_;clear hK K;(try simp only [Act.put, sAr, sZe, sSu]);refine wpAny_done (by kernel_rfl) ?_ _;go_wp2_with fail;refine bodyPost_ret (results_cell_row (t := 64) (fr := (0, 0)) rfl _ _ w.heap.size _ _ rfl (alloc_keep (res4 HX6.out)) Tryz.underlying64 rfl (by kernel_rfl)) rfl ?_;rw [HRE2.out, HN2.out, HN3.out];exact pq_row2 9 (by omega) hjl2' hRlt HR6.out (HO13.out.trans HO6.out) (by omega) ((HV5.out.keep HK3.out (fun q _ h => h)).keep (KeepS.of_only HO6.out (by omega)) (fun q _ h => h)) (HV2.out.keep KeepS.refl (fun q _ h => by omega))
abbrev qPrsI4:=@q4
theorem sets4_other {W:World} {b q:Nat} {v0 v1 v2 v3:Value} (h:q≠b):((((W.setCell ⟨b,0,none⟩ v0).setCell ⟨b,1,none⟩ v1).setCell ⟨b,2,none⟩ v2).setCell ⟨b,3,none⟩ v3).heap[q]?=W.heap[q]?:=by
 rw [hO_ _ ⟨b,3,none⟩ q _ h,hO_ _ ⟨b,2,none⟩ q _ h,hO_ _ ⟨b,1,none⟩ q _ h,hO_ _ ⟨b,0,none⟩ q _ h]
theorem BoxR.block {R rb:Nat} {w w':World} (h:BoxR R rb w) (hb:w'.heap[rb]?=w.heap[rb]?) (hs:w.heap.size≤w'.heap.size):BoxR R rb w':=⟨by rw [World.cell?_of_block (a:=⟨rb,0,none⟩) hb];exact h.1,lL h.2.1 hs,h.2.2⟩
theorem pimp_any (R:Nat) (A:Option Addr) (c d:Nat) (l:List Tok) (P PI:Par) (hd:d≤256) (hF:FnC R A c d l 173 (.pointer (some ⟨R,0,none⟩)) (fun _=>True) P) (hI:d<256→FnC R A c (d+1) l 145 (.pointer (some ⟨R,0,none⟩)) (fun _=>True) PI) :
 FnC R A c d l 145 (.pointer (some ⟨R,0,none⟩)) (fun _=>True) (impB l (if d=256 then none else some PI) (many l 7 (many l 6 P))):=by
 intro i w hi hR hP hw;have hlen:=hP.len;have hRw:=hR.lt;obtain ⟨wb,hwb⟩:=ex_ (w.alloc (.cells #[.pointer (some ⟨R,0,none⟩)] 182));have hbb:=bAl hwb;have hsb:wb.heap.size=w.heap.size+1:=by rw [hwb];simp
 have hob:Only (fun q=>q=R) w wb:=Ob hbb;have hRb:Rdr wb R A l.length c i d:=hR.below hbb hRw;have hRlt:=hRb.lt;have hPb:=hP.only hob;obtain ⟨rb,hrb⟩:=ex_ w.heap.size;have hbox0:BoxR R rb wb:=⟨by rw [hwb,hrb];exact (cR _ _ 0 _ _ (0,0) (hA_ w _)).trans rfl,by omega,by omega⟩;have hrbl:rb<wb.heap.size:=hbox0.2.1;have hrbR:rb≠R:=hbox0.2.2;obtain ⟨w1,hw1⟩:=ex_ (wb.alloc (.cells #[.int .i64 0,.int .i64 0,.string ⟨#[]⟩,.slice none 0 0] 64));have hb1:=bAl hw1;have hs1:w1.heap.size=wb.heap.size+1:=by rw [hw1];simp
 have hbx:w1.heap[wb.heap.size]?=some (.cells #[.int .i64 0,.int .i64 0,.string ⟨#[]⟩,.slice none 0 0] 64 (0,0)):=by rw [hw1];exact hA_ wb _
 have ho1:Only (fun q=>q=R) wb w1:=Ob hb1;have hbox1:=hbox0.only ho1;have k0:=hbox0.1;have k0':=hbox1.1;rw [hrb] at k0 k0'
 have hc1:Calls Tryz.prog 171 #[.pointer (some ⟨R,0,none⟩),.int .i64 7,.func (.func 172) #[] #[.pointer (some ⟨rb,0,none⟩)]] w1 (PQ R A c d l i (many l 7 (many l 6 P) i) w1):=
  pmany_any R A c d l 172 (.pointer (some ⟨rb,0,none⟩)) false (BoxR R rb) (many l 6 P) 7 i w1 (fun _ _=>by kernel_rfl) (fun _ _ h ho=>h.only ho) (pimp1_any R A c d l rb P hF) hi (hRb.below hb1 hRlt) (hPb.only ho1) hbox1
 obtain ⟨r1,hr1⟩:=ex_ (many l 7 (many l 6 P) i);obtain ⟨F0,hF00⟩:=ex_ (PQ R A c d l i (impB l (if d=256 then none else some PI) (many l 7 (many l 6 P)) i) w);obtain ⟨F,hF0⟩:=ex_ (PQ R A c d l i (impB l (if d=256 then none else some PI) (many l 7 (many l 6 P)) i) wb);have HBK:Hid (∀ e w',F e w'→F0 e w'):=fun e w' h=>by rw [hF0] at h;rw [hF00];exact h.back hob
 have HRE:Hid (F=PQ R A c d l i (r1.then fun t j=>if whichOp l j [8]=0 then .ok t j else (if d=256 then .bad j 17 else PI (j+1)).then fun u k=>.ok (tmOf 8 [t,u]) k) wb):=by
  show _=_;rw [hF0,hr1]
  by_cases h:d=256
  · simp only [h,if_true];rfl
  · simp only [h,if_false];rfl
 rw [←hF00];rw [←hr1] at hc1;have HIN:=Hd (fun (W:World) (j:Nat) (hj:j<l.length) (hRW:Rdr W R A l.length c j d) (hPW:PTok W R A c l)=>pinside_any R A c d l 145 (.pointer (some ⟨R,0,none⟩)) true (fun _=>True) PI j W (fun _ _=>by kernel_rfl) (fun _ _ _ _=>trivial) hI hd hj hRW hPW trivial);have HC1:=Hd hc1;have HWB:=Hd hwb;have HSB:=Hd hsb;have HRB:=Hd hrb;have HW1:=Hd hw1;have HO1:=Hd ho1;have HBX:=Hd hbx;have HP:=Hd hPb;have HB0:=Hd hbox0;clear hc1 hr1 hF0 hF00 hw1 hb1 ho1 hbx hF hP hPb hw hR hRb hbb hob hbox0 hbox1 hI hwb hsb hrb;go_enter Tryz.func145,Tryz.ntmps145;go_wp2_with fail;rw [←HWB.out,←HW1.out,←HSB.out,←HRB.out];clear k0 k0';have hbk:∀ e w',F e w'→F0 e w':=HBK.out;refine (HC1.out).mono ?_;intro e w4 hq
 cases r1 with
 | bad j x=>
  obtain ⟨rfl,ho4⟩:=hq;refine (show _∧_ from ⟨rfl,?_⟩);refine HBK.out _ _ ?_;rw [HRE.out];exact ⟨rfl,HO1.out.trans ho4⟩
 | ok t j=>
  obtain ⟨⟨A',c',rfl,hV⟩,hij,hjl,hR4,ho4⟩:=hq;have hs4:=ho4.size;clear hbk;have hb4:=(HB0.out.only HO1.out).only ho4;have q4:=hb4.1;have q4l:=hb4.2.1;obtain ⟨n2,hn2⟩:=ex_ t.kids.length;unfold Tm.val;rw [←hn2];obtain ⟨bt,hbt⟩:=ex_ w4.heap.size;obtain ⟨wt,hwt⟩:=ex_ (w4.alloc (.cells #[.int .i64 t.op,.int .i64 t.num,.string t.name,.slice A' n2 c'] 64));have hbT:=bAl hwt;have hst:wt.heap.size=bt+1:=by rw [hwt,hbt];simp
  have hbox:wt.heap[bt]?=some (.cells #[.int .i64 t.op,.int .i64 t.num,.string t.name,.slice A' n2 c'] 64 (0,0)):=by rw [hwt,hbt];exact hA_ w4 _
  obtain ⟨wo,hwo⟩:=ex_ (wt.alloc (.cells #[.int .i64 8] 3));have hbO:=bAl hwo;have hso:wo.heap.size=bt+2:=by rw [hwo];simp [hst]
  have hOO:Only (fun q=>q=R) w1 wo:=ho4.trans ((Ob hbT).trans (Ob hbO));have hRO:Rdr wo R A l.length c j d:=(hR4.below hbT (by omega)).below hbO (by omega);have hboxo:=(hbO.block bt (by omega)).trans hbox
  have hsg:Calls Tryz.prog 146 #[.pointer (some ⟨R,0,none⟩),.slice (some ⟨wt.heap.size,0,none⟩) 1 1] wo fun e w'=>e=.returned (.int .i64 (whichOp l j [8]))∧∃ n,w'=wo.drewN n:=
   psign_any R A c j d l wt.heap.size 1 [8] wo hRO (HP.out.only (HO1.out.trans hOO)) (by omega) (by rw [hwo];exact ops_new wt [8]) (by simp) (by omega)
  rw [hst] at hsg;have HK:Hid (KeepS (fun q=>w1.heap.size≤q) w4 wo):=(Kb hbT).trans (Kb hbO);have HSG:=Hd hsg;have HBo:=Hd ((HB0.out.only HO1.out).only hOO);have qt:wt.cell? ⟨rb,0,none⟩=_:=((HB0.out.only HO1.out).only (ho4.trans (Ob hbT))).1;clear hb4;have HWT:=Hd hwt;have HWO:=Hd hwo;have HBT:=Hd hbt;have HN2:=Hd hn2;clear hn2 hwt hwo hbT hbO hbox hsg;go_wp2_with fail;rw [←HBT.out,←HWT.out,←HWO.out];refine (HSG.out).mono ?_;rintro e w5 ⟨rfl,q,hw5⟩;have HBo5:Hid (BoxR R rb w5):=by show BoxR R rb w5;rw [hw5];exact HBo.out
  have hO5:Only (fun q=>q=R) w1 w5:=by rw [hw5];exact hOO.drewN q
  have hR5:Rdr w5 R A l.length c j d:=by rw [hw5];exact hRO.drewN q
  have hb5:w5.heap[bt]?=some (.cells #[.int .i64 t.op,.int .i64 t.num,.string t.name,.slice A' n2 c'] 64 (0,0)):=by rw [hw5];exact hboxo
  have hs5:w5.heap.size=bt+2:=by rw [hw5];exact hso
  have hbt1:w1.heap.size≤bt:=by rw [hbt];exact hs4
  have hbr:bt≠R:=by omega
  have hx5:=(hO5.block wb.heap.size (by omega) (by omega)).trans HBX.out;have hk5:KeepS (fun q=>w1.heap.size≤q) w4 w5:=by rw [hw5];exact ⟨by show w4.heap.size≤wo.heap.size;omega,fun q hq hl=>HK.out.block q hq hl⟩
  have hV5:TmVS (fun q=>wb.heap.size<q) w5 A' c' t:=hV.keep hk5 (fun q _ h=>by omega);clear hk5 hbt hw5 hso hOO hRO hboxo hR4;have HR5:=Hd hR5;have HO5:=Hd hO5;have HV5:=Hd hV5;have HX5:=Hd hx5;have HB5:=Hd hb5;obtain ⟨v0,v1,v2,v3,zq⟩:=qPrsI4 hx5;obtain ⟨y0,y1,y2,y3,xq⟩:=qPrsI4 hb5;have hbwr:wb.heap.size<w5.heap.size:=by omega
  have hbtr:bt<w5.heap.size:=by omega
  clear hR5 hO5 hV5 hx5 hb5 hV
  by_cases hz:whichOp l j [8]=0
  · have HRR:Hid (F=PQ R A c d l i (.ok t j) wb):=by show _=_;rw [HRE.out];show PQ R A c d l i (if whichOp l j [8]=0 then _ else _) wb=_;rw [iP hz]
    rw [hz];clear hz;go_wp2_with fail;refine bR (results_cell_row (t:=64) (fr:=(0,0)) rfl _ _ wb.heap.size _ _ rfl (res4 HX5.out) Tryz.underlying64 rfl (by kernel_rfl)) rfl ?_;refine HBK.out _ _ ?_;rw [HRR.out];have h:=pq_end (.int .i64 t.op) (.int .i64 t.num) (.string t.name) (.slice A' n2 c') hij hjl hRlt HR5.out (HO1.out.trans HO5.out) HV5.out;unfold Tm.val at h;rw [←HN2.out] at h;exact h
  · have hzb:(whichOp l j [8] == 0)=false:=by simpa using hz
    have hjl3:=which_lt hz;have HRR:Hid (F=PQ R A c d l i ((if d=256 then .bad j 17 else PI (j+1)).then fun u k=>.ok (tmOf 8 [t,u]) k) wb):=by show _=_;rw [HRE.out];show PQ R A c d l i (if whichOp l j [8]=0 then _ else _) wb=_;rw [iN hz]
    obtain ⟨zz,hzz⟩:=ex_ (whichOp l j [8]);rw [←hzz] at hzb ⊢;have c1:=HR5.out.c1;have f1:=HR5.out.frozen 1;clear hz hzz;go_wp2_with fail;refine wp_region_held_drew (S:=fun w'=>w'.heap[bt]?=some (.cells #[.int .i64 t.op,.int .i64 t.num,.string t.name,.slice A' n2 c'] 64 (0,0))∧BoxR R rb w') (by kernel_rfl) ⟨HB5.out,HBo5.out⟩ (fun hHeld=>?_);obtain ⟨W3,hW3⟩:=ex_ w5.drew;rw [←hW3] at hHeld ⊢;have hR3:Rdr W3 R A l.length c j d:=by rw [hW3];exact HR5.out
    have ho3:Only (fun q=>q=R) w5 W3:=by rw [hW3];exact (Only.refl (F:=fun q=>q=R)).drewN 1
    have hs3:W3.heap.size=w5.heap.size:=by rw [hW3];rfl
    have ho13:=HO1.out.trans (HO5.out.trans ho3);have hcall:Calls Tryz.prog 174 #[.pointer (some ⟨R,0,none⟩),.func (.func 145) #[.pointer (some ⟨R,0,none⟩)] #[]] W3 (PQ R A c d l j (if d=256 then .bad j 17 else PI (j+1)) W3):=HIN.out W3 j hjl3 hR3 (HP.out.only ho13);have HX3:=Hd ((ho3.block wb.heap.size hbwr (by omega)).trans HX5.out);have HK3:Hid (KeepS (fun q=>wb.heap.size<q) w5 W3):=KeepS.of_only ho3 (by omega);obtain ⟨r2,hr2⟩:=ex_ ((if d=256 then .bad j 17 else PI (j+1)));have HRE2:Hid (F=PQ R A c d l i (r2.then fun u k=>.ok (tmOf 8 [t,u]) k) wb):=by show _=_;rw [HRR.out,hr2]
    rw [←hr2] at hcall;have HC2:=Hd hcall;have HO13:=Hd ho13;clear hW3 hR3 ho3 ho13 hcall hr2 c1 f1 zq v0 v1 v2 v3 y0 y1 y2 y3 xq;refine tkH 0 (v:=?_) rfl (Or.inl ⟨by rfl,?hy⟩) (by assumption) ?_
    case hy=>
     intro w0 hSw;have e0:=(cells4 hSw.1).1.1;have e1:=(cells4 hSw.1).2.1.1;have e2:=(cells4 hSw.1).2.2.1.1;have e3:=(cells4 hSw.1).2.2.2.1;have e4:=hSw.2.1;clear hSw;go_simp
     (first | done | with_reducible rfl)
    (try simp only [Act.put,sAr,sZe,sSu]);refine tkH 1 (v:=?_) rfl (Or.inl ⟨by rfl,?hy⟩) (by assumption) ?_
    case hy=>
     intro w0 hSw;have e0:=(cells4 hSw.1).1.1;have e1:=(cells4 hSw.1).2.1.1;have e2:=(cells4 hSw.1).2.2.1.1;have e3:=(cells4 hSw.1).2.2.2.1;have e4:=hSw.2.1;clear hSw;go_simp
     (first | done | with_reducible rfl)
    (try simp only [Act.put,sAr,sZe,sSu]);refine tkH 2 (v:=?_) rfl (Or.inl ⟨by rfl,?hy⟩) (by assumption) ?_
    case hy=>
     intro w0 hSw;have e0:=(cells4 hSw.1).1.1;have e1:=(cells4 hSw.1).2.1.1;have e2:=(cells4 hSw.1).2.2.1.1;have e3:=(cells4 hSw.1).2.2.2.1;have e4:=hSw.2.1;clear hSw;go_simp
     (first | done | with_reducible rfl)
    (try simp only [Act.put,sAr,sZe,sSu]);refine tkH 3 (v:=?_) rfl (Or.inl ⟨by rfl,?hy⟩) (by assumption) ?_
    case hy=>
     intro w0 hSw;have e0:=(cells4 hSw.1).1.1;have e1:=(cells4 hSw.1).2.1.1;have e2:=(cells4 hSw.1).2.2.1.1;have e3:=(cells4 hSw.1).2.2.2.1;have e4:=hSw.2.1;clear hSw;go_simp
     (first | done | with_reducible rfl)
    try simp only [Act.put,sAr,sZe,sSu]
    cases r2 with
    | bad jb xb=>
     refine Rd (rs:=[4]) (by kernel_rfl) (by simp) ?_;refine Rc rfl (fun K hK=>?_) Rn;go_simp;(with_reducible refine (HC2.out).mono ?_);intro e w6 hq;obtain ⟨rfl,ho6⟩:=hq;refine (show _∧_ from ⟨rfl,?_⟩);refine HBK.out _ _ ?_;rw [HRE2.out];exact ⟨rfl,HO13.out.trans ho6⟩
    | ok t2 j2=>
     refine Rd (rs:=[4]) (by kernel_rfl) (by simp) ?_;refine Rc rfl (fun K hK=>?_) Rn;go_simp;(with_reducible refine (HC2.out).mono ?_);intro e w6 hq;obtain ⟨⟨A2,c2,rfl,hV2⟩,hij2,hjl2',hR6,ho6⟩:=hq;obtain ⟨n3,HN3⟩:=exh_ t2.kids.length;unfold Tm.val;rw [←HN3.out];have HO6:=Hd ho6;have HV2:=Hd hV2;have HR6:=Hd hR6;have hs6:=ho6.size;have hbt6:bt<w6.heap.size:=by omega
     have hbw6:wb.heap.size<w6.heap.size:=by omega
     have HX6:=Hd ((ho6.block wb.heap.size (by omega) (by omega)).trans HX3.out);have HH6:Hid (w6.heap[bt]?=some (.cells #[.int .i64 t.op,.int .i64 t.num,.string t.name,.slice A' n2 c'] 64 (0,0))∧BoxR R rb w6):=⟨(ho6.block bt (by omega) hbr).trans hHeld.1,hHeld.2.only ho6⟩;clear hV2 hR6 ho6 hHeld;obtain ⟨v0,v1,v2,v3,zq⟩:=qPrsI4 HX6.out;refine hK.out _ _ (HH6.out) (fun hHeld=>?_);clear hK K;(try simp only [Act.put,sAr,sZe,sSu]);refine Rd (rs:=[5]) (by kernel_rfl) (by simp) ?_;refine Rc rfl (fun K hK=>?_) Rn;go_simp;refine hK.out _ _ (⟨aK HH6.out.1,HH6.out.2.only (Ob ((Br _ _).alloc (lr _) _))⟩) (fun hHeld=>?_);clear hK K;(try simp only [Act.put,sAr,sZe,sSu]);refine Rd (rs:=[6]) (by kernel_rfl) (by simp) ?_;refine Rc rfl (fun K hK=>?_) Rn;go_simp;refine hK.out _ _ (⟨aK HH6.out.1,HH6.out.2.only (Ob ((Br _ _).alloc (lr _) _))⟩) (fun hHeld=>?_);clear hK K;(try simp only [Act.put,sAr,sZe,sSu]);refine Rd (rs:=[7]) (by kernel_rfl) (by simp) ?_;refine Rc rfl (fun K hK=>?_) Rn;go_simp;refine hK.out _ _ (⟨aK ((sets4_other (by omega)).trans HH6.out.1),(HH6.out.2.block (sets4_other (by omega)) (by simp)).only (Ob ((Br _ _).alloc (lr _) _))⟩) (fun hHeld=>?_);clear hK K;(try simp only [Act.put,sAr,sZe,sSu]);refine wpAnyH_done (by kernel_rfl) ?_ _;clear hHeld
     go_wp2_with fail;refine bR (results_cell_row (t:=64) (fr:=(0,0)) rfl _ _ wb.heap.size _ _ rfl (aK (res4 HX6.out)) Tryz.underlying64 rfl (by kernel_rfl)) rfl ?_;refine HBK.out _ _ ?_;rw [HRE2.out,HN2.out,HN3.out];exact pq_row2 8 (by omega) hjl2' hRlt HR6.out (HO13.out.trans HO6.out) (by omega) ((HV5.out.keep HK3.out (fun q _ h=>h)).keep (KeepS.of_only HO6.out (by omega)) (fun q _ h=>h)) (HV2.out.keep Kr (fun q _ h=>by omega))
end Go.Proofs.YtkhoeoilamddaaaGreatDoor
