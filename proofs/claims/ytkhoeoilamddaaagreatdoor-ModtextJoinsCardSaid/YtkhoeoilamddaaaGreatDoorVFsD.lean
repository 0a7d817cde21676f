/- Walks and plain words: FsD FsE. -/
import Derived.Test.YtkhoeoilamddaaaGreatDoorVFsM
namespace Go.Proofs.YtkhoeoilamddaaaGreatDoor
open Go.RowKit
set_option linter.unusedVariables false
set_option linter.unusedSimpArgs false
set_option maxRecDepth 100000
set_option maxHeartbeats 8000000
def opft_0 : Oper := { dst := some 7, op := Op.move (Operand.tmp 0), type := 188, pos := "ftext.go:125", after := #[], guard := none }
def opft_1 : Oper := { dst := some 8, op := Op.nilCheck (Operand.tmp 7), type := 0, pos := "ftext.go:125", after := #[{ on := 0, ground := Ground.data }], guard := none }
def opft_2 : Oper := { dst := some 9, op := Op.fieldAddr 192 (Operand.tmp 8) 0, type := 0, pos := "ftext.go:125", after := #[{ on := 1, ground := Ground.data }], guard := none }
def opft_3 : Oper := { dst := some 10, op := Op.fieldAddr 190 (Operand.tmp 9) 0, type := 0, pos := "ftext.go:125", after := #[{ on := 2, ground := Ground.data }], guard := none }
def opft_4 : Oper := { dst := some 11, op := Op.load 46 (Operand.tmp 10), type := 46, pos := "ftext.go:125", after := #[{ on := 3, ground := Ground.data }], guard := none }
def opft_5 : Oper := { dst := some 12, op := Op.move (Operand.tmp 0), type := 188, pos := "ftext.go:125", after := #[], guard := none }
def opft_6 : Oper := { dst := some 13, op := Op.nilCheck (Operand.tmp 12), type := 0, pos := "ftext.go:125", after := #[{ on := 5, ground := Ground.data }], guard := none }
def opft_7 : Oper := { dst := some 14, op := Op.fieldAddr 192 (Operand.tmp 13) 1, type := 0, pos := "ftext.go:125", after := #[{ on := 6, ground := Ground.data }], guard := none }
def opft_8 : Oper := { dst := some 15, op := Op.load 3 (Operand.tmp 14), type := 3, pos := "ftext.go:125", after := #[{ on := 7, ground := Ground.data }], guard := none }
def opft_9 : Oper := { dst := some 16, op := Op.binOp BinOp.add 3 (Operand.tmp 15) (Operand.const (Value.int IntKind.i64 1)) 3, type := 3, pos := "ftext.go:125", after := #[{ on := 8, ground := Ground.data }], guard := none }
def opft_10 : Oper := { dst := some 17, op := Op.call { callee := Callee.value (Operand.func 81), args := #[Operand.tmp 11, Operand.tmp 16], argTypes := #[46, 3] }, type := 140, pos := "ftext.go:125", after := #[{ on := 4, ground := Ground.data }, { on := 9, ground := Ground.data }], guard := none }
def opft_11 : Oper := { dst := some 6, op := Op.move (Operand.tmp 17), type := 140, pos := "ftext.go:125", after := #[{ on := 10, ground := Ground.data }], guard := none }
def opft_12 : Oper := { dst := some 18, op := Op.extract (Operand.tmp 6) 0, type := 64, pos := "ftext.go:125", after := #[{ on := 11, ground := Ground.data }], guard := none }
def opft_13 : Oper := { dst := some 19, op := Op.extract (Operand.tmp 6) 1, type := 3, pos := "ftext.go:125", after := #[{ on := 11, ground := Ground.data }, { on := 16, ground := Ground.gcOnly Departure.lateStores }], guard := none }
def opft_14 : Oper := { dst := some 20, op := Op.extract (Operand.tmp 6) 2, type := 29, pos := "ftext.go:125", after := #[{ on := 11, ground := Ground.data }, { on := 17, ground := Ground.gcOnly Departure.lateStores }], guard := none }
def opft_15 : Oper := { dst := some 3, op := Op.alloc 64, type := 0, pos := "ftext.go:125", after := #[], guard := none }
def opft_16 : Oper := { dst := none, op := Op.store 64 (Operand.tmp 3) (Operand.tmp 18), type := 0, pos := "ftext.go:125", after := #[{ on := 15, ground := Ground.data }, { on := 12, ground := Ground.data }, { on := 10, ground := Ground.chain }, { on := 0, ground := Ground.phase }, { on := 1, ground := Ground.phase }, { on := 2, ground := Ground.phase }, { on := 3, ground := Ground.phase }, { on := 4, ground := Ground.phase }, { on := 5, ground := Ground.phase }, { on := 6, ground := Ground.phase }, { on := 7, ground := Ground.phase }, { on := 8, ground := Ground.phase }, { on := 9, ground := Ground.phase }, { on := 10, ground := Ground.phase }, { on := 11, ground := Ground.phase }, { on := 12, ground := Ground.phase }, { on := 13, ground := Ground.textOnly Departure.lateStores }, { on := 14, ground := Ground.textOnly Departure.lateStores }, { on := 15, ground := Ground.phase }], guard := none }
def opft_17 : Oper := { dst := some 4, op := Op.assign (Operand.tmp 19), type := 3, pos := "ftext.go:125", after := #[{ on := 13, ground := Ground.data }, { on := 16, ground := Ground.chain }, { on := 0, ground := Ground.phase }, { on := 1, ground := Ground.phase }, { on := 2, ground := Ground.phase }, { on := 3, ground := Ground.phase }, { on := 4, ground := Ground.phase }, { on := 5, ground := Ground.phase }, { on := 6, ground := Ground.phase }, { on := 7, ground := Ground.phase }, { on := 8, ground := Ground.phase }, { on := 9, ground := Ground.phase }, { on := 10, ground := Ground.phase }, { on := 11, ground := Ground.phase }, { on := 12, ground := Ground.phase }, { on := 13, ground := Ground.phase }, { on := 14, ground := Ground.textOnly Departure.lateStores }, { on := 15, ground := Ground.phase }, { on := 16, ground := Ground.phase }], guard := none }
def opft_18 : Oper := { dst := some 5, op := Op.assign (Operand.tmp 20), type := 29, pos := "ftext.go:125", after := #[{ on := 14, ground := Ground.data }, { on := 17, ground := Ground.chain }, { on := 0, ground := Ground.phase }, { on := 1, ground := Ground.phase }, { on := 2, ground := Ground.phase }, { on := 3, ground := Ground.phase }, { on := 4, ground := Ground.phase }, { on := 5, ground := Ground.phase }, { on := 6, ground := Ground.phase }, { on := 7, ground := Ground.phase }, { on := 8, ground := Ground.phase }, { on := 9, ground := Ground.phase }, { on := 10, ground := Ground.phase }, { on := 11, ground := Ground.phase }, { on := 12, ground := Ground.phase }, { on := 13, ground := Ground.phase }, { on := 14, ground := Ground.phase }, { on := 15, ground := Ground.phase }, { on := 16, ground := Ground.phase }, { on := 17, ground := Ground.phase }], guard := none }
theorem frterm_any (R:Nat) (A:Option Addr) (c d:Nat) (l:List Tok) (i:Nat) (w:World) (hi:i<l.length) (hR:FRd w R A l.length c i d 0) (hP:PTok w R A c l) :
 Calls Tryz.prog 197 #[.pointer (some ⟨R,0,none⟩)] w (FPQ R A c d l (fTerm l i) w):=by
 obtain ⟨w1,hw1⟩:=ex_ (w.alloc (.cells #[.int .i64 0,.int .i64 0,.int .i64 0,.string ⟨#[]⟩,.slice none 0 0,.slice none 0 0] 67));have hb1:=bAl hw1;have hs1:w1.heap.size=w.heap.size+1:=by rw [hw1];simp
 have x1:w1.heap[w.heap.size]?=some (.cells #[.int .i64 0,.int .i64 0,.int .i64 0,.string ⟨#[]⟩,.slice none 0 0,.slice none 0 0] 67 (0,0)):=by rw [hw1];exact hA_ w _
 have hR1:=hR.below hb1 hR.lt;have hRl:=hR.lt;have hlen:=hP.len;have hcap:=hP.cap;have hcapm:=hP.capm;unfold maxLen at hcapm;obtain ⟨n,hn⟩:=ex_ l.length;obtain ⟨q,hq⟩:=ex_ (takeT l (i+1))
 have HTK:Hid (∀ W,Only (fun q=>q=R) w W→Calls Tryz.prog 81 #[.slice A n c,.int .i64 ((i:Int)+1)] W (TkQ l W q)):=by
  intro W ho;have hPW:=hP.only ho
  have h:=ptake_any l A c (i+1) W (by omega) ⟨hPW.toks,hPW.cap,hPW.capm,hPW.len,hPW.txt,hPW.rng,fun a ha=>by
   rcases hPW.toks with h0 | ⟨b,off,h1,h2,h3⟩
   · rw [h0] at hi;simp at hi
   · rw [h1] at ha;cases ha;exact h2⟩
  rw [←hq,←hn] at h;exact h
 obtain ⟨t,j,x⟩:=q;obtain ⟨F,hF0⟩:=ex_ (FPQ R A c d l (fTerm l i) w);rw [←hF0];have HRE:Hid (F=FPQ R A c d l (if x≠0 then .bad j x else if isTk l j 4 [93]=true then .ok (.mk 1 t []) (j+1) else .bad j 16) w):=by show _=_;rw [hF0];unfold fTerm;rw [←hq]
 have HQ:=Hd hq;have HN:=Hd hn;have HW1:=Hd hw1;have HO:Hid (Only (fun q=>q=R) w w1):=Ob hb1;have HRD:Hid (FRd w1 R A n c i d 0):=by show FRd _ _ _ _ _ _ _ _;rw [hn];exact hR1
 have HP:=Hd hP;have XB:=Hd x1;clear hF0 hw1 hb1 hR hR1 hP x1 hq hs1;rw [←hn] at hi hlen hcap;clear hn;have hwr:IntKind.i64.wrap ((i:Int)+1)=(i:Int)+1:=IntWalk.i64_in _ (by omega);go_enter Tryz.func197,Tryz.ntmps197;go_wp2_with fail;rw [←HW1.out];refine wp_region_held_drew (S:=fun w'=>FRd w' R A n c i d 0) (by kernel_rfl) HRD.out (fun hHeld=>?_);obtain ⟨Wc,hWc⟩:=ex_ w1.drew;have YB:Hid (Wc.heap[w.heap.size]?=some (.cells #[.int .i64 0,.int .i64 0,.int .i64 0,.string ⟨#[]⟩,.slice none 0 0,.slice none 0 0] 67 (0,0))):=by show _=_;rw [hWc];exact XB.out
 have YO:Hid (Only (fun q=>q=R) w Wc):=by show Only _ _ _;rw [hWc];exact HO.out.drewN 1
 have YRD:Hid (FRd Wc R A n c i d 0):=by show FRd _ _ _ _ _ _ _ _;rw [hWc];exact HRD.out
 rw [←hWc] at hHeld ⊢;clear hWc XB HO HRD;have XB:=YB;have HO:=YO;have HRD:=YRD;clear YB YO YRD;refine wpAnyH_take (i:=0) (oi:=opft_0) (v:=?_) rfl (by kernel_rfl) (by kernel_rfl) (by kernel_rfl) (fun _ _ _ h=>h) (Or.inl ⟨by rfl,?hy⟩) (by assumption) ?_
 case hy=>
  unfold opft_0;intro w0 hSw;obtain ⟨c0,c1,-⟩:=q4 hSw;clear hSw;go_simp
  (first | done | with_reducible rfl)
 (try simp only [opft_0,Act.put,sAr,sZe,sSu]);refine wpAnyH_take (i:=1) (oi:=opft_1) (v:=?_) rfl (by kernel_rfl) (by kernel_rfl) (by kernel_rfl) (fun _ _ _ h=>h) (Or.inl ⟨by rfl,?hy⟩) (by assumption) ?_
 case hy=>
  unfold opft_1;intro w0 hSw;obtain ⟨c0,c1,-⟩:=q4 hSw;clear hSw;go_simp
  (first | done | with_reducible rfl)
 (try simp only [opft_1,Act.put,sAr,sZe,sSu]);refine wpAnyH_take (i:=2) (oi:=opft_2) (v:=?_) rfl (by kernel_rfl) (by kernel_rfl) (by kernel_rfl) (fun _ _ _ h=>h) (Or.inl ⟨by rfl,?hy⟩) (by assumption) ?_
 case hy=>
  unfold opft_2;intro w0 hSw;obtain ⟨c0,c1,-⟩:=q4 hSw;clear hSw;go_simp
  (first | done | with_reducible rfl)
 (try simp only [opft_2,Act.put,sAr,sZe,sSu]);refine wpAnyH_take (i:=3) (oi:=opft_3) (v:=?_) rfl (by kernel_rfl) (by kernel_rfl) (by kernel_rfl) (fun _ _ _ h=>h) (Or.inl ⟨by rfl,?hy⟩) (by assumption) ?_
 case hy=>
  unfold opft_3;intro w0 hSw;obtain ⟨c0,c1,-⟩:=q4 hSw;clear hSw;go_simp
  (first | done | with_reducible rfl)
 (try simp only [opft_3,Act.put,sAr,sZe,sSu]);refine wpAnyH_take (i:=4) (oi:=opft_4) (v:=?_) rfl (by kernel_rfl) (by kernel_rfl) (by kernel_rfl) (fun _ _ _ h=>h) (Or.inl ⟨by rfl,?hy⟩) (by assumption) ?_
 case hy=>
  unfold opft_4;intro w0 hSw;obtain ⟨c0,c1,-⟩:=q4 hSw;clear hSw;go_simp
  (first | done | with_reducible rfl)
 (try simp only [opft_4,Act.put,sAr,sZe,sSu]);refine wpAnyH_take (i:=5) (oi:=opft_5) (v:=?_) rfl (by kernel_rfl) (by kernel_rfl) (by kernel_rfl) (fun _ _ _ h=>h) (Or.inl ⟨by rfl,?hy⟩) (by assumption) ?_
 case hy=>
  unfold opft_5;intro w0 hSw;obtain ⟨c0,c1,-⟩:=q4 hSw;clear hSw;go_simp
  (first | done | with_reducible rfl)
 (try simp only [opft_5,Act.put,sAr,sZe,sSu]);refine wpAnyH_take (i:=6) (oi:=opft_6) (v:=?_) rfl (by kernel_rfl) (by kernel_rfl) (by kernel_rfl) (fun _ _ _ h=>h) (Or.inl ⟨by rfl,?hy⟩) (by assumption) ?_
 case hy=>
  unfold opft_6;intro w0 hSw;obtain ⟨c0,c1,-⟩:=q4 hSw;clear hSw;go_simp
  (first | done | with_reducible rfl)
 (try simp only [opft_6,Act.put,sAr,sZe,sSu]);refine wpAnyH_take (i:=7) (oi:=opft_7) (v:=?_) rfl (by kernel_rfl) (by kernel_rfl) (by kernel_rfl) (fun _ _ _ h=>h) (Or.inl ⟨by rfl,?hy⟩) (by assumption) ?_
 case hy=>
  unfold opft_7;intro w0 hSw;obtain ⟨c0,c1,-⟩:=q4 hSw;clear hSw;go_simp
  (first | done | with_reducible rfl)
 (try simp only [opft_7,Act.put,sAr,sZe,sSu]);refine wpAnyH_take (i:=8) (oi:=opft_8) (v:=?_) rfl (by kernel_rfl) (by kernel_rfl) (by kernel_rfl) (fun _ _ _ h=>h) (Or.inl ⟨by rfl,?hy⟩) (by assumption) ?_
 case hy=>
  unfold opft_8;intro w0 hSw;obtain ⟨c0,c1,-⟩:=q4 hSw;clear hSw;go_simp
  (first | done | with_reducible rfl)
 (try simp only [opft_8,Act.put,sAr,sZe,sSu]);refine wpAnyH_take (i:=9) (oi:=opft_9) (v:=?_) rfl (by kernel_rfl) (by kernel_rfl) (by kernel_rfl) (fun _ _ _ h=>h) (Or.inl ⟨by rfl,?hy⟩) (by assumption) ?_
 case hy=>
  unfold opft_9;intro w0 hSw;obtain ⟨c0,c1,-⟩:=q4 hSw;clear hSw;go_simp
  (first | done | with_reducible rfl)
 (try simp only [opft_9,Act.put,sAr,sZe,sSu]);refine Rd (rs:=[10,15]) (by kernel_rfl) (by simp) ?_;refine Rc (o:=opft_10) rfl (fun K hK=>?_) (Rc (o:=opft_15) rfl (fun K hK=>?_) Rn)
 iterate 3
  all_goals first
   | (unfold opft_10
      go_simp;(with_reducible refine (HTK.out _ HO.out).mono ?_);rintro e Wc ⟨A5,c5,rfl,hv5,hb5⟩;simp only [Tm.val];obtain ⟨n5,HN5⟩:=exh_ t.kids.length;rw [←HN5.out];refine hK.out _ _ (HRD.out.below hb5 HRD.out.lt) (fun hHeld=>?_);clear hK K;try simp only [Act.put,sAr,sZe,sSu]
      first
       | (have hx3:=(hb5.block b3 (lH X3.out)).trans X3.out
          have HV:Hid (TmVS (fun q=>w.heap.size<q∧q≠b3) Wc A5 c5 t):=hv5.keep Kr (fun q _ h=>by have:=lH X3.out;omega);clear X3;have X3:=Hd hx3
          clear hx3)
       | (have HV0:Hid (TmVS (fun q=>w.heap.size<q) Wc A5 c5 t):=hv5.keep Kr (fun q _ h=>by have:=lH XB.out;omega))
      replace XB:=kX hb5 XB;replace HO:=Hd (HO.out.trans (Ob hb5));replace HRD:=Hd (HRD.out.below hb5 HRD.out.lt);clear hv5 hb5
      obtain ⟨D10,-⟩:∃ n:Nat,n=n:=⟨0,rfl⟩)
   | (unfold opft_15
      go_simp;have hb5:Below Wc.heap.size Wc (Wc.alloc (.cells #[.int .i64 0,.int .i64 0,.string ⟨#[]⟩,.slice none 0 0] 64)):=(Br _ _).alloc (lr _) _;refine hK.out _ _ (HRD.out.below hb5 HRD.out.lt) (fun hHeld=>?_);clear hK K;(try simp only [Act.put,sAr,sZe,sSu]);obtain ⟨b3,hb3⟩:=ex_ Wc.heap.size;have hb3R:b3≠R:=by have:=HRD.out.lt;omega
      have hb3w:w.heap.size<b3:=by have:=lH XB.out;omega
      first
       | (have hv1:TmVS (fun q=>w.heap.size<q∧q≠b3) (Wc.alloc (.cells #[.int .i64 0,.int .i64 0,.string ⟨#[]⟩,.slice none 0 0] 64)) A5 c5 t:=(HV0.out.keep (S':=fun q=>w.heap.size<q∧q≠b3) Kr (fun q hq h=>⟨h,by omega⟩)).keep (Kb hb5) (fun _ _ h=>h)
          have HV:=Hd hv1
          clear HV0 hv1)
       | skip
      have X3:Hid ((Wc.alloc (.cells #[.int .i64 0,.int .i64 0,.string ⟨#[]⟩,.slice none 0 0] 64)).heap[b3]?=some (.cells #[.int .i64 0,.int .i64 0,.string ⟨#[]⟩,.slice none 0 0] 64 (0,0))):=by show _=_;rw [hb3];exact hA_ _ _
      replace XB:=kX hb5 XB;replace HO:=Hd (HO.out.trans (Ob hb5));replace HRD:=Hd (HRD.out.below hb5 HRD.out.lt);obtain ⟨Wc,hV⟩:=ex_ (Wc.alloc (.cells #[.int .i64 0,.int .i64 0,.string ⟨#[]⟩,.slice none 0 0] 64));rw [←hV] at XB HO HRD X3 hHeld
      try rw [←hV] at HV
      rw [←hV,←hb3];clear hV hb3 hb5
      obtain ⟨D15,-⟩:∃ n:Nat,n=n:=⟨0,rfl⟩)
   | (unfold opft_16
      obtain ⟨v0,v1,v2,v3,vzq⟩:=q4 X3.out;go_simp;clear v0 v1 v2 v3 vzq;refine hK.out _ _ ((sets4_far (Ne.symm hb3R)).trans HRD.out) (fun hHeld=>?_);clear hK K;try simp only [Act.put,sAr,sZe,sSu]
      obtain ⟨D16,-⟩:∃ n:Nat,n=n:=⟨0,rfl⟩)
   | fail
  all_goals first
   | have:=T11
   | (have:=D10
      refine wpAnyH_take (i:=11) (oi:=opft_11) (v:=?_) rfl (by kernel_rfl) (by kernel_rfl) (by kernel_rfl) (fun _ _ _ h=>h) (Or.inl ⟨by rfl,?hy⟩) (by assumption) ?_
      case hy=>
       unfold opft_11;intro w0 hSw;obtain ⟨c0,c1,-⟩:=q4 hSw;clear hSw;go_simp
       (first | done | with_reducible rfl)
      try simp only [opft_11,Act.put,sAr,sZe,sSu]
      obtain ⟨T11,-⟩:∃ n:Nat,n=n:=⟨0,rfl⟩)
   | skip
  all_goals first
   | have:=T12
   | (have:=D10
      refine wpAnyH_take (i:=12) (oi:=opft_12) (v:=?_) rfl (by kernel_rfl) (by kernel_rfl) (by kernel_rfl) (fun _ _ _ h=>h) (Or.inl ⟨by rfl,?hy⟩) (by assumption) ?_
      case hy=>
       unfold opft_12;intro w0 hSw;obtain ⟨c0,c1,-⟩:=q4 hSw;clear hSw;go_simp
       (first | done | with_reducible rfl)
      try simp only [opft_12,Act.put,sAr,sZe,sSu]
      obtain ⟨T12,-⟩:∃ n:Nat,n=n:=⟨0,rfl⟩)
   | skip
  all_goals first
   | have:=T13
   | (have:=D10
      refine wpAnyH_take (i:=13) (oi:=opft_13) (v:=?_) rfl (by kernel_rfl) (by kernel_rfl) (by kernel_rfl) (fun _ _ _ h=>h) (Or.inl ⟨by rfl,?hy⟩) (by assumption) ?_
      case hy=>
       unfold opft_13;intro w0 hSw;obtain ⟨c0,c1,-⟩:=q4 hSw;clear hSw;go_simp
       (first | done | with_reducible rfl)
      try simp only [opft_13,Act.put,sAr,sZe,sSu]
      obtain ⟨T13,-⟩:∃ n:Nat,n=n:=⟨0,rfl⟩)
   | skip
  all_goals first
   | have:=T14
   | (have:=D10
      refine wpAnyH_take (i:=14) (oi:=opft_14) (v:=?_) rfl (by kernel_rfl) (by kernel_rfl) (by kernel_rfl) (fun _ _ _ h=>h) (Or.inl ⟨by rfl,?hy⟩) (by assumption) ?_
      case hy=>
       unfold opft_14;intro w0 hSw;obtain ⟨c0,c1,-⟩:=q4 hSw;clear hSw;go_simp
       (first | done | with_reducible rfl)
      try simp only [opft_14,Act.put,sAr,sZe,sSu]
      obtain ⟨T14,-⟩:∃ n:Nat,n=n:=⟨0,rfl⟩)
   | skip
  all_goals first
   | have:=T17
   | (have:=D10
      have:=D15;have:=D16;refine wpAnyH_take (i:=17) (oi:=opft_17) (v:=?_) rfl (by kernel_rfl) (by kernel_rfl) (by kernel_rfl) (fun _ _ _ h=>h) (Or.inl ⟨by rfl,?hy⟩) (by assumption) ?_
      case hy=>
       unfold opft_17;intro w0 hSw;obtain ⟨c0,c1,-⟩:=q4 hSw;clear hSw;go_simp
       (first | done | with_reducible rfl)
      try simp only [opft_17,Act.put,sAr,sZe,sSu]
      obtain ⟨T17,-⟩:∃ n:Nat,n=n:=⟨0,rfl⟩)
   | skip
  all_goals first
   | have:=T18
   | (have:=D10
      have:=D15;have:=D16;refine wpAnyH_take (i:=18) (oi:=opft_18) (v:=?_) rfl (by kernel_rfl) (by kernel_rfl) (by kernel_rfl) (fun _ _ _ h=>h) (Or.inl ⟨by rfl,?hy⟩) (by assumption) ?_
      case hy=>
       unfold opft_18;intro w0 hSw;obtain ⟨c0,c1,-⟩:=q4 hSw;clear hSw;go_simp
       (first | done | with_reducible rfl)
      try simp only [opft_18,Act.put,sAr,sZe,sSu]
      obtain ⟨T18,-⟩:∃ n:Nat,n=n:=⟨0,rfl⟩)
   | skip
  all_goals first
   | (have:=D10
      have:=D15;have:=D16;refine wpAnyH_done (by kernel_rfl) ?_ _;clear hHeld;obtain ⟨w6,hw6⟩:=ex_ (((((Wc.setCell ⟨b3,0,none⟩ (.int .i64 t.op)).setCell ⟨b3,1,none⟩ (.int .i64 t.num)).setCell ⟨b3,2,none⟩ (.string t.name)).setCell ⟨b3,3,none⟩ (.slice A5 n5 c5)));have X36:Hid (w6.heap[b3]?=some (.cells #[.int .i64 t.op,.int .i64 t.num,.string t.name,.slice A5 n5 c5] 64 (0,0))):=by show _=_;rw [hw6];exact res4 X3.out
      have XB6:Hid (w6.heap[w.heap.size]?=some (.cells #[.int .i64 0,.int .i64 0,.int .i64 0,.string ⟨#[]⟩,.slice none 0 0,.slice none 0 0] 67 (0,0))):=by show _=_;rw [hw6];exact (sets4_far (by omega)).trans XB.out
      have HV6:Hid (TmVS (fun q=>w.heap.size<q∧q≠b3) w6 A5 c5 t):=by show TmVS _ _ _ _ _;rw [hw6];exact HV.out.keep ((((KeepS.refl.set (by simp) _).set (by simp) _).set (by simp) _).set (by simp) _) (fun _ _ h=>h)
      have HO6:Hid (Only (fun q=>q=R) w w6):=by show Only _ _ _;rw [hw6];exact only_setNew (only_setNew (only_setNew (only_setNew HO.out (Nat.le_of_lt hb3w) _) (Nat.le_of_lt hb3w) _) (Nat.le_of_lt hb3w) _) (Nat.le_of_lt hb3w) _
      have HRD6:Hid (FRd w6 R A n c i d 0):=by show FRd _ _ _ _ _ _ _ _;rw [hw6];exact (sets4_far (Ne.symm hb3R)).trans HRD.out
      rw [←hw6];clear hw6 X3 XB HV HO HRD;have XB:=XB6;have HO:=HO6;have HV:=HV6;have X3:=X36;obtain ⟨-,c1,-,-,fq⟩:=q4 HRD6.out;have hRl6:=HRD6.out.lt;clear XB6 HO6 HV6 X36
      by_cases hx:x=0
      · subst hx;have hgd:=(takeT_ok HQ.out.symm).2.jl;have HRE2:Hid (F=FPQ R A c d l (if isTk l j 4 [93]=true then .ok (.mk 1 t []) (j+1) else .bad j 16) w):=by show _=_;rw [HRE.out,iN (by simp)]
        have hgd2:j≤n:=by rw [HN.out];exact hgd
        go_wp2_with fail;clear c1 fq;obtain ⟨w7,hw7⟩:=ex_ (w6.setCell ⟨R,1,none⟩ (.int .i64 (j:Nat)));have YRD:Hid (FRd w7 R A n c j d 0):=by show FRd _ _ _ _ _ _ _ _;rw [hw7];exact HRD6.out.at_ j
        have YB:Hid (w7.heap[w.heap.size]?=some (.cells #[.int .i64 0,.int .i64 0,.int .i64 0,.string ⟨#[]⟩,.slice none 0 0,.slice none 0 0] 67 (0,0))):=by show _=_;rw [hw7];exact (hO_ w6 ⟨R,1,none⟩ w.heap.size _ (by show w.heap.size≠R;omega)).trans XB.out
        have Y3:Hid (w7.heap[b3]?=some (.cells #[.int .i64 t.op,.int .i64 t.num,.string t.name,.slice A5 n5 c5] 64 (0,0))):=by show _=_;rw [hw7];exact (hO_ w6 ⟨R,1,none⟩ b3 _ hb3R).trans X3.out
        have YV:Hid (TmVS (fun q=>w.heap.size<q∧q≠b3) w7 A5 c5 t):=by show TmVS _ _ _ _ _;rw [hw7];exact HV.out.keep (KeepS.refl.set (by omega) _) (fun _ _ h=>h)
        have YO:Hid (Only (fun q=>q=R) w w7):=by show Only _ _ _;rw [hw7];exact HO.out.setF (show R=R from rfl) _
        rw [←hw7];clear hw7 XB X3 HV HO HRD6;have XB:=YB;have X3:=Y3;have HV:=YV;have HO:=YO;have HRD:=YRD;clear YB Y3 YV YO YRD;replace HRD:Hid (FRd w7 R A l.length c j d 0):=by show FRd _ _ _ _ _ _ _ _;rw [←HN.out];exact HRD.out
        have hwn:=fwant_all R A c j d l 0 4 ⟨#[93]⟩ w7 HRD.out (HP.out.only HO.out) (by first | (intro _;omega) | (intro h;have:=HLE.out h;omega));obtain ⟨jw,HJW⟩:=exh_ (wantAt l (j) (0) 4 [93]);rw [show wantAt l (j) (0) 4 (bs ⟨#[93]⟩)=jw from HJW.out.symm] at hwn;have HC:=Hd hwn;clear hwn;go_wp2_with fail;refine (HC.out).mono ?_;rintro e w8 ⟨rfl,hR2,ho2⟩;have YB:=Hd ((ho2.block w.heap.size (lH XB.out) (by omega)).trans XB.out);have YO:=Hd (HO.out.trans ho2);have YRD:=Hd hR2;replace X3:=Hd ((ho2.block b3 (lH X3.out) hb3R).trans X3.out);replace HV:Hid (TmVS (fun q=>w.heap.size<q∧q≠b3) w8 A5 c5 t):=HV.out.keep (KeepS.of_only ho2 (by omega)) (fun _ _ h=>h);clear HC hR2 ho2 XB HO HRD;have XB:=YB;have HO:=YO;have HRD:=YRD;clear YB YO YRD;have hvl:=lH XB.out;have hvl3:=lH X3.out;obtain ⟨a0,a1,a2,a3,azq⟩:=q4 X3.out;obtain ⟨v0,v1,v2,v3,v4,v5,vzq⟩:=q6 XB.out;go_wp2_with fail;clear v0 vzq v1 v2 v3 v4 v5 a0 a1 a2 a3 azq;obtain ⟨W0,hW0⟩:=ex_ (((((((w8.setCell ⟨w.heap.size,0,none⟩ (.int .i64 1)).setCell ⟨w.heap.size,1,none⟩ (.int .i64 t.op)).setCell ⟨w.heap.size,2,none⟩ (.int .i64 t.num)).setCell ⟨w.heap.size,3,none⟩ (.string t.name)).setCell ⟨w.heap.size,4,none⟩ (.slice A5 n5 c5)).setCell ⟨w.heap.size,5,none⟩ (.slice none 0 0)))
        have xb0:W0.heap[w.heap.size]?=some (.cells #[.int .i64 1,.int .i64 t.op,.int .i64 t.num,.string t.name,.slice A5 n5 c5,.slice none 0 0] 67 (0,0)):=by rw [hW0];exact s6_at XB.out
        have hR0:FRd W0 R A l.length c jw.1 d jw.2:=by rw [hW0];exact (s6_far (by omega)).trans HRD.out
        have hO0:Only (fun q=>q=R) w W0:=by rw [hW0];exact s6_only HO.out (lr _)
        have hV0:TmVS (fun q=>w.heap.size≤q) W0 A5 c5 t:=by rw [hW0];exact HV.out.keep (s6_keep Kr (by omega)) (fun q _ h=>by omega)
        rw [←hW0];clear hW0;refine bR (results_cell_row (t:=67) (fr:=(0,0)) rfl _ _ w.heap.size _ _ rfl xb0 Tryz.underlying67 rfl (by kernel_rfl)) rfl ?_;rw [HRE2.out];have hw:jw=wantAt l j 0 4 [93]:=HJW.out;unfold wantAt at hw;rw [iN (by simp)] at hw;refine ⟨⟨1,t.op,t.num,t.name,A5,n5,c5,none,0,0⟩,rfl,fun f k h=>?_,?_,hO0⟩
        · by_cases h4:isTk l j 4 [93]=true
          · rw [iP h4] at h;obtain ⟨rfl,-⟩:=ok_inj h;exact ⟨rfl,rfl,rfl,rfl,HN5.out,rfl,hV0,lr _,zl _,.inl rfl⟩
          · rw [iN h4] at h;cases h
        · by_cases h4:isTk l j 4 [93]=true
          · rw [iP h4] at hw ⊢;rw [hw] at hR0;exact hR0
          · rw [iN h4] at hw ⊢;rw [hw] at hR0;exact hR0
      · have HRE2:Hid (F=FPQ R A c d l (.bad j x) w):=by show _=_;rw [HRE.out,iP hx]
        have hxb:(x != 0)=true:=by simpa using hx
        clear hx;go_wp2_with fail;clear c1 fq;obtain ⟨w7,hw7⟩:=ex_ (w6.setCell ⟨R,1,none⟩ (.int .i64 (j:Nat)));have YRD:Hid (FRd w7 R A n c j d 0):=by show FRd _ _ _ _ _ _ _ _;rw [hw7];exact HRD6.out.at_ j
        have YB:Hid (w7.heap[w.heap.size]?=some (.cells #[.int .i64 0,.int .i64 0,.int .i64 0,.string ⟨#[]⟩,.slice none 0 0,.slice none 0 0] 67 (0,0))):=by show _=_;rw [hw7];exact (hO_ w6 ⟨R,1,none⟩ w.heap.size _ (by show w.heap.size≠R;omega)).trans XB.out
        have Y3:Hid (w7.heap[b3]?=some (.cells #[.int .i64 t.op,.int .i64 t.num,.string t.name,.slice A5 n5 c5] 64 (0,0))):=by show _=_;rw [hw7];exact (hO_ w6 ⟨R,1,none⟩ b3 _ hb3R).trans X3.out
        have YV:Hid (TmVS (fun q=>w.heap.size<q∧q≠b3) w7 A5 c5 t):=by show TmVS _ _ _ _ _;rw [hw7];exact HV.out.keep (KeepS.refl.set (by omega) _) (fun _ _ h=>h)
        have YO:Hid (Only (fun q=>q=R) w w7):=by show Only _ _ _;rw [hw7];exact HO.out.setF (show R=R from rfl) _
        rw [←hw7];clear hw7 XB X3 HV HO HRD6;have XB:=YB;have X3:=Y3;have HV:=YV;have HO:=YO;have HRD:=YRD;clear YB Y3 YV YO YRD;have HST:=Hd (fstop_any R A n c j d x w7 HRD.out);refine (HST.out).mono ?_;rintro e w8 ⟨rfl,hR8,ho8⟩;unfold FV.val FV.zero;simp only;have Y8:=Hd ((ho8.block w.heap.size (lH XB.out) (by omega)).trans XB.out);have HR8:=Hd hR8;have HO8:=Hd (HO.out.trans ho8);have hvl:=lH Y8.out;clear hR8 ho8 XB;obtain ⟨v0,v1,v2,v3,v4,v5,vzq⟩:=q6 Y8.out;go_wp2_with fail;clear v0 vzq v1 v2 v3 v4 v5;refine bR (results_cell_row (t:=67) (fr:=(0,0)) rfl _ _ w.heap.size _ _ rfl (s6_at Y8.out) Tryz.underlying67 rfl (by kernel_rfl)) rfl ?_;rw [HRE2.out];have hRf:=HR8.out;rw [HN.out] at hRf
        exact fpq_zero (r:=.bad j x) (fun f j h=>nomatch h) hRl hRf HO8.out _ _ _ _ _ _)
   | (have:=D10
      have:=D15;refine Rd (rs:=[16]) (by kernel_rfl) (by simp) ?_
      refine Rc (o:=opft_16) rfl (fun K hK=>?_) Rn)
   | (have:=D10
      refine Rd (rs:=[15]) (by kernel_rfl) (by simp) ?_
      refine Rc (o:=opft_15) rfl (fun K hK=>?_) Rn)
   | (have:=D15
      refine Rd (rs:=[10]) (by kernel_rfl) (by simp) ?_
      refine Rc (o:=opft_10) rfl (fun K hK=>?_) Rn)
   | fail
def oneK (l:List Tok) (i k:Nat):Int:=if k≤0∧isTk l i 3 [69,88]=true then 6 else if k≤1∧isTk l i 3 [69,70]=true then 7 else if k≤2∧isTk l i 3 [69,71]=true then 8 else if k≤3∧isTk l i 3 [65,88]=true then 10 else if k≤4∧isTk l i 3 [65,70]=true then 11 else if k≤5∧isTk l i 3 [65,71]=true then 12 else 0
theorem oneK_eq (l:List Tok) (i:Nat) (h:isTk l i 4 [33]=false):oneOp l i=oneK l i 0:=by
 unfold oneOp oneK;rw [iN (by rw [h];simp)];simp only [zl,true_and]
theorem fone_any (R:Nat) (A:Option Addr) (c i d:Nat) (l:List Tok) (w:World) (hR:FRd w R A l.length c i d 0) (hP:PTok w R A c l) (hi:i≤1000000) :
 Calls Tryz.prog 194 #[.pointer (some ⟨R,0,none⟩)] w fun e w'=>e=.returned (.int .i64 (oneOp l i))∧Below w.heap.size w w':=by
 obtain ⟨n,HN⟩:=exh_ l.length;obtain ⟨r,hr⟩:=ex_ (oneOp l i);have hlen:=hP.len;have hcap:=hP.cap;have hcapm:=hP.capm;unfold maxLen at hcapm
 have HIS:Hid (∀ (W:World) (s:ByteArray),Below w.heap.size w W→Calls Tryz.prog 179 #[.agg #[.slice A n c],.int .i64 (i:Nat),.int .i64 3,.string s] W.drew fun e w'=>e=.returned (.bool (isTk l i 3 (bs s)))∧Below W.drew.heap.size W.drew w'):=by
  intro W s hb;rw [HN.out];exact fis_any A c i l 3 s W.drew (hP.toks.belowB hb rfl).drew1 hP.len hP.cap hP.capm hi
 have hsg:=fsign_any A c i l ⟨#[33]⟩ w.drew hP.toks.drew1 hP.len hP.cap hP.capm hi;rw [show isTk l i 4 (bs ⟨#[33]⟩)=isTk l i 4 [33] from rfl] at hsg;rw [←HN.out] at hsg hR hlen hcap;obtain ⟨c0,c1,-⟩:=q4 hR;have hRl:=hR.lt;have HR:=Hd hR;obtain ⟨F,hF⟩:∃ F:Ending→World→Prop,F=fun e w'=>e=.returned (.int .i64 r)∧Below w.heap.size w w':=⟨_,rfl⟩;rw [←hr,←hF];have HF:=Hd hF;clear hF hR hP
 by_cases h33:isTk l i 4 [33]=true
 · rw [h33] at hsg;have HSG:=Hd hsg;have HRR:Hid (r=2):=by show _=_;rw [hr];unfold oneOp;rw [iP h33]
   clear hsg h33 hr;go_enter Tryz.func194,Tryz.ntmps194;go_wp2_with fail
   go_region_held3 (fun w'=>w'.cell? ⟨R,0,none⟩=some (.slice A n c)∧w'.cell? ⟨R,1,none⟩=some (.int .i64 (i:Nat)))
    (first
      | (go_keep;done)
      | (go_split_ands
         refine ⟨?_,?_⟩
         · (rw [hb5.cell (p:=⟨R,_,none⟩) (by simp;omega)];simpa using c0)
         · (rw [hb5.cell (p:=⟨R,_,none⟩) (by simp;omega)];simpa using c1))
      | fail)
    ((go_at_call 151;refine (HSG.out).mono ?_;rintro e w5 ⟨rfl,hb5⟩))
   have HB6:=Hd ((((Br _ _).drew).trans hb5:Below w.heap.size w w5));clear hb5 c0 c1;go_wp2_with fail;rw [HF.out,HRR.out];exact ⟨rfl,HB6.out⟩
 · have hf33:isTk l i 4 [33]=false:=by simpa using h33
   rw [hf33] at hsg;have HSG:=Hd hsg;have HK0:Hid (oneK l i 0=r):=by show _=_;rw [hr,oneK_eq l i hf33]
   clear hsg h33 hf33 hr;go_enter Tryz.func194,Tryz.ntmps194;go_wp2_with fail
   go_region_held3 (fun w'=>w'.cell? ⟨R,0,none⟩=some (.slice A n c)∧w'.cell? ⟨R,1,none⟩=some (.int .i64 (i:Nat)))
    (first
      | (go_keep;done)
      | (go_split_ands
         refine ⟨?_,?_⟩
         · (rw [hb5.cell (p:=⟨R,_,none⟩) (by simp;omega)];simpa using c0)
         · (rw [hb5.cell (p:=⟨R,_,none⟩) (by simp;omega)];simpa using c1))
      | fail)
    ((go_at_call 151;refine (HSG.out).mono ?_;rintro e w5 ⟨rfl,hb5⟩))
   have HB6:=Hd ((((Br _ _).drew).trans hb5:Below w.heap.size w w5));clear hb5 c0 c1;go_wp2_with fail;obtain ⟨b4,hb4⟩:=ex_ (w5.heap.size+1);obtain ⟨w2,hw2⟩:=ex_ ((w5.alloc (.cells #[.string ⟨#[69,88]⟩,.string ⟨#[69,70]⟩,.string ⟨#[69,71]⟩,.string ⟨#[65,88]⟩,.string ⟨#[65,70]⟩,.string ⟨#[65,71]⟩] 246)).alloc (.cells #[.int .i64 6,.int .i64 7,.int .i64 8,.int .i64 10,.int .i64 11,.int .i64 12] 247));rw [←hw2,←hb4];have hb2:Below w.heap.size w w2:=by rw [hw2];exact (HB6.out.alloc HB6.out.size _).alloc (by simp;have:=HB6.out.size;omega) _
   have hx2:w2.heap[b4]?=some (.cells #[.int .i64 6,.int .i64 7,.int .i64 8,.int .i64 10,.int .i64 11,.int .i64 12] 247 (0,0)):=by
    have h:=hA_ (w5.alloc (.cells #[.string ⟨#[69,88]⟩,.string ⟨#[69,70]⟩,.string ⟨#[69,71]⟩,.string ⟨#[65,88]⟩,.string ⟨#[65,70]⟩,.string ⟨#[65,71]⟩] 246)) (.cells #[.int .i64 6,.int .i64 7,.int .i64 8,.int .i64 10,.int .i64 11,.int .i64 12] 247);rw [hw2,hb4]
    simpa using h
   have HB2:=Hd hb2;have HX2:=Hd hx2;have HR2:=Hd (HR.out.below hb2 hRl);clear hb2 hx2 hw2 hb4 HB6 HR
   go_loopw [19] (fun si wr=>∃ k:Nat,si=.int .i64 (k:Nat)∧k≤6∧Below w2.heap.size w2 wr∧oneK l i k=r) (fun si _=>6 - (intOf si).toNat)
   case atStart=>exact ⟨0,rfl,by omega,Br _ _,HK0.out⟩
   case round=>
    obtain ⟨k,rfl,hk6,hbr,hkr⟩:=hrel;have HBR:=Hd hbr;have HK:=Hd hkr;have hrr:=HR2.out.below hbr HR2.out.lt;obtain ⟨c0,c1,-⟩:=q4 hrr;have hRlr:=hrr.lt;have hx4:=(hbr.block b4 (lH HX2.out)).trans HX2.out;have hl4:=lH hx4;have x4:∀ j v,(#[.int .i64 6,.int .i64 7,.int .i64 8,.int .i64 10,.int .i64 11,.int .i64 12]:Array Value)[j]?=some v→wr.cell? ⟨b4,j,none⟩=some v:=fun j v hv=>by rw [cR wr b4 j _ _ (0,0) hx4];exact hv
    clear hbr hkr hrr hx4;have hcs:k=0∨k=1∨k=2∨k=3∨k=4∨k=5∨k=6:=by omega
    rcases hcs with rfl | rfl | rfl | rfl | rfl | rfl | rfl
    · rw [show ((0:Nat):Int)=0 from rfl];have hix:∀ W,(Instr.index 246 (.agg #[.string ⟨#[69,88]⟩,.string ⟨#[69,70]⟩,.string ⟨#[69,71]⟩,.string ⟨#[65,88]⟩,.string ⟨#[65,70]⟩,.string ⟨#[65,71]⟩]) (.int .i64 0)).run Tryz.prog W=.ok (.string ⟨#[69,88]⟩) W:=fun W=>by kernel_rfl
      have hI:=HIS.out wr ⟨#[69,88]⟩ (HB2.out.trans (HBR.out.mono HB2.out.size));rw [show isTk l i 3 (bs ⟨#[69,88]⟩)=isTk l i 3 [69,88] from rfl] at hI
      by_cases hk:isTk l i 3 [69,88]=true
      · have HRR:Hid (r=6):=by show _=_;rw [←HK.out];unfold oneK;rw [iP ⟨by omega,hk⟩]
        rw [hk] at hI;have HI:=Hd hI;clear hI hk;go_wp2_with fail
        go_region_held3 (fun w'=>w'.cell? ⟨R,0,none⟩=some (.slice A n c)∧w'.cell? ⟨R,1,none⟩=some (.int .i64 (i:Nat)))
         (first
           | (go_keep;done)
           | (go_split_ands
              refine ⟨?_,?_⟩
              · (rw [hb5.cell (p:=⟨R,_,none⟩) (by simp;omega)];simpa using c0)
              · (rw [hb5.cell (p:=⟨R,_,none⟩) (by simp;omega)];simpa using c1))
           | fail)
         ((go_at_call 179;refine (HI.out).mono ?_;rintro e w5 ⟨rfl,hb5⟩))
        have y4:=(hb5.cell (p:=⟨b4,0,none⟩) (by simp;omega)).trans (x4 0 _ rfl);have HB6:=Hd (HB2.out.trans ((HBR.out.trans (((Br _ _).drew.trans hb5).mono HBR.out.size)).mono HB2.out.size));clear hb5 c0 c1;go_wp2_with fail;rw [HF.out,HRR.out];exact ⟨rfl,HB6.out⟩
      · have hkf:isTk l i 3 [69,88]=false:=by simpa using hk
        have HRR:Hid (oneK l i 1=r):=by show _=_;rw [←HK.out];unfold oneK;simp [hkf]
        rw [hkf] at hI;have HI:=Hd hI;clear hI hk hkf;go_wp2_with fail
        go_region_held3 (fun w'=>w'.cell? ⟨R,0,none⟩=some (.slice A n c)∧w'.cell? ⟨R,1,none⟩=some (.int .i64 (i:Nat)))
         (first
           | (go_keep;done)
           | (go_split_ands
              refine ⟨?_,?_⟩
              · (rw [hb5.cell (p:=⟨R,_,none⟩) (by simp;omega)];simpa using c0)
              · (rw [hb5.cell (p:=⟨R,_,none⟩) (by simp;omega)];simpa using c1))
           | fail)
         ((go_at_call 179;refine (HI.out).mono ?_;rintro e w5 ⟨rfl,hb5⟩))
        have HB6:=Hd (HBR.out.trans (((Br _ _).drew.trans hb5).mono HBR.out.size));clear hb5 c0 c1;go_wp2_with fail
        go_roundw
        case rel=>exact ⟨1,by go_num,by omega,HB6.out,HRR.out⟩
        case measure=>simp [intOf]
    · rw [show ((1:Nat):Int)=1 from rfl];have hix:∀ W,(Instr.index 246 (.agg #[.string ⟨#[69,88]⟩,.string ⟨#[69,70]⟩,.string ⟨#[69,71]⟩,.string ⟨#[65,88]⟩,.string ⟨#[65,70]⟩,.string ⟨#[65,71]⟩]) (.int .i64 1)).run Tryz.prog W=.ok (.string ⟨#[69,70]⟩) W:=fun W=>by kernel_rfl
      have hI:=HIS.out wr ⟨#[69,70]⟩ (HB2.out.trans (HBR.out.mono HB2.out.size));rw [show isTk l i 3 (bs ⟨#[69,70]⟩)=isTk l i 3 [69,70] from rfl] at hI
      by_cases hk:isTk l i 3 [69,70]=true
      · have HRR:Hid (r=7):=by show _=_;rw [←HK.out];unfold oneK;rw [iN (by omega)];rw [iP ⟨by omega,hk⟩]
        rw [hk] at hI;have HI:=Hd hI;clear hI hk;go_wp2_with fail
        go_region_held3 (fun w'=>w'.cell? ⟨R,0,none⟩=some (.slice A n c)∧w'.cell? ⟨R,1,none⟩=some (.int .i64 (i:Nat)))
         (first
           | (go_keep;done)
           | (go_split_ands
              refine ⟨?_,?_⟩
              · (rw [hb5.cell (p:=⟨R,_,none⟩) (by simp;omega)];simpa using c0)
              · (rw [hb5.cell (p:=⟨R,_,none⟩) (by simp;omega)];simpa using c1))
           | fail)
         ((go_at_call 179;refine (HI.out).mono ?_;rintro e w5 ⟨rfl,hb5⟩))
        have y4:=(hb5.cell (p:=⟨b4,1,none⟩) (by simp;omega)).trans (x4 1 _ rfl);have HB6:=Hd (HB2.out.trans ((HBR.out.trans (((Br _ _).drew.trans hb5).mono HBR.out.size)).mono HB2.out.size));clear hb5 c0 c1;go_wp2_with fail;rw [HF.out,HRR.out];exact ⟨rfl,HB6.out⟩
      · have hkf:isTk l i 3 [69,70]=false:=by simpa using hk
        have HRR:Hid (oneK l i 2=r):=by show _=_;rw [←HK.out];unfold oneK;simp [hkf]
        rw [hkf] at hI;have HI:=Hd hI;clear hI hk hkf;go_wp2_with fail
        go_region_held3 (fun w'=>w'.cell? ⟨R,0,none⟩=some (.slice A n c)∧w'.cell? ⟨R,1,none⟩=some (.int .i64 (i:Nat)))
         (first
           | (go_keep;done)
           | (go_split_ands
              refine ⟨?_,?_⟩
              · (rw [hb5.cell (p:=⟨R,_,none⟩) (by simp;omega)];simpa using c0)
              · (rw [hb5.cell (p:=⟨R,_,none⟩) (by simp;omega)];simpa using c1))
           | fail)
         ((go_at_call 179;refine (HI.out).mono ?_;rintro e w5 ⟨rfl,hb5⟩))
        have HB6:=Hd (HBR.out.trans (((Br _ _).drew.trans hb5).mono HBR.out.size));clear hb5 c0 c1;go_wp2_with fail
        go_roundw
        case rel=>exact ⟨2,by go_num,by omega,HB6.out,HRR.out⟩
        case measure=>simp [intOf]
    · rw [show ((2:Nat):Int)=2 from rfl];have hix:∀ W,(Instr.index 246 (.agg #[.string ⟨#[69,88]⟩,.string ⟨#[69,70]⟩,.string ⟨#[69,71]⟩,.string ⟨#[65,88]⟩,.string ⟨#[65,70]⟩,.string ⟨#[65,71]⟩]) (.int .i64 2)).run Tryz.prog W=.ok (.string ⟨#[69,71]⟩) W:=fun W=>by kernel_rfl
      have hI:=HIS.out wr ⟨#[69,71]⟩ (HB2.out.trans (HBR.out.mono HB2.out.size));rw [show isTk l i 3 (bs ⟨#[69,71]⟩)=isTk l i 3 [69,71] from rfl] at hI
      by_cases hk:isTk l i 3 [69,71]=true
      · have HRR:Hid (r=8):=by show _=_;rw [←HK.out];unfold oneK;rw [iN (by omega),iN (by omega)];rw [iP ⟨by omega,hk⟩]
        rw [hk] at hI;have HI:=Hd hI;clear hI hk;go_wp2_with fail
        go_region_held3 (fun w'=>w'.cell? ⟨R,0,none⟩=some (.slice A n c)∧w'.cell? ⟨R,1,none⟩=some (.int .i64 (i:Nat)))
         (first
           | (go_keep;done)
           | (go_split_ands
              refine ⟨?_,?_⟩
              · (rw [hb5.cell (p:=⟨R,_,none⟩) (by simp;omega)];simpa using c0)
              · (rw [hb5.cell (p:=⟨R,_,none⟩) (by simp;omega)];simpa using c1))
           | fail)
         ((go_at_call 179;refine (HI.out).mono ?_;rintro e w5 ⟨rfl,hb5⟩))
        have y4:=(hb5.cell (p:=⟨b4,2,none⟩) (by simp;omega)).trans (x4 2 _ rfl);have HB6:=Hd (HB2.out.trans ((HBR.out.trans (((Br _ _).drew.trans hb5).mono HBR.out.size)).mono HB2.out.size));clear hb5 c0 c1;go_wp2_with fail;rw [HF.out,HRR.out];exact ⟨rfl,HB6.out⟩
      · have hkf:isTk l i 3 [69,71]=false:=by simpa using hk
        have HRR:Hid (oneK l i 3=r):=by show _=_;rw [←HK.out];unfold oneK;simp [hkf]
        rw [hkf] at hI;have HI:=Hd hI;clear hI hk hkf;go_wp2_with fail
        go_region_held3 (fun w'=>w'.cell? ⟨R,0,none⟩=some (.slice A n c)∧w'.cell? ⟨R,1,none⟩=some (.int .i64 (i:Nat)))
         (first
           | (go_keep;done)
           | (go_split_ands
              refine ⟨?_,?_⟩
              · (rw [hb5.cell (p:=⟨R,_,none⟩) (by simp;omega)];simpa using c0)
              · (rw [hb5.cell (p:=⟨R,_,none⟩) (by simp;omega)];simpa using c1))
           | fail)
         ((go_at_call 179;refine (HI.out).mono ?_;rintro e w5 ⟨rfl,hb5⟩))
        have HB6:=Hd (HBR.out.trans (((Br _ _).drew.trans hb5).mono HBR.out.size));clear hb5 c0 c1;go_wp2_with fail
        go_roundw
        case rel=>exact ⟨3,by go_num,by omega,HB6.out,HRR.out⟩
        case measure=>simp [intOf]
    · rw [show ((3:Nat):Int)=3 from rfl];have hix:∀ W,(Instr.index 246 (.agg #[.string ⟨#[69,88]⟩,.string ⟨#[69,70]⟩,.string ⟨#[69,71]⟩,.string ⟨#[65,88]⟩,.string ⟨#[65,70]⟩,.string ⟨#[65,71]⟩]) (.int .i64 3)).run Tryz.prog W=.ok (.string ⟨#[65,88]⟩) W:=fun W=>by kernel_rfl
      have hI:=HIS.out wr ⟨#[65,88]⟩ (HB2.out.trans (HBR.out.mono HB2.out.size));rw [show isTk l i 3 (bs ⟨#[65,88]⟩)=isTk l i 3 [65,88] from rfl] at hI
      by_cases hk:isTk l i 3 [65,88]=true
      · have HRR:Hid (r=10):=by show _=_;rw [←HK.out];unfold oneK;rw [iN (by omega),iN (by omega),iN (by omega)];rw [iP ⟨by omega,hk⟩]
        rw [hk] at hI;have HI:=Hd hI;clear hI hk;go_wp2_with fail
        go_region_held3 (fun w'=>w'.cell? ⟨R,0,none⟩=some (.slice A n c)∧w'.cell? ⟨R,1,none⟩=some (.int .i64 (i:Nat)))
         (first
           | (go_keep;done)
           | (go_split_ands
              refine ⟨?_,?_⟩
              · (rw [hb5.cell (p:=⟨R,_,none⟩) (by simp;omega)];simpa using c0)
              · (rw [hb5.cell (p:=⟨R,_,none⟩) (by simp;omega)];simpa using c1))
           | fail)
         ((go_at_call 179;refine (HI.out).mono ?_;rintro e w5 ⟨rfl,hb5⟩))
        have y4:=(hb5.cell (p:=⟨b4,3,none⟩) (by simp;omega)).trans (x4 3 _ rfl);have HB6:=Hd (HB2.out.trans ((HBR.out.trans (((Br _ _).drew.trans hb5).mono HBR.out.size)).mono HB2.out.size));clear hb5 c0 c1;go_wp2_with fail;rw [HF.out,HRR.out];exact ⟨rfl,HB6.out⟩
      · have hkf:isTk l i 3 [65,88]=false:=by simpa using hk
        have HRR:Hid (oneK l i 4=r):=by show _=_;rw [←HK.out];unfold oneK;simp [hkf]
        rw [hkf] at hI;have HI:=Hd hI;clear hI hk hkf;go_wp2_with fail
        go_region_held3 (fun w'=>w'.cell? ⟨R,0,none⟩=some (.slice A n c)∧w'.cell? ⟨R,1,none⟩=some (.int .i64 (i:Nat)))
         (first
           | (go_keep;done)
           | (go_split_ands
              refine ⟨?_,?_⟩
              · (rw [hb5.cell (p:=⟨R,_,none⟩) (by simp;omega)];simpa using c0)
              · (rw [hb5.cell (p:=⟨R,_,none⟩) (by simp;omega)];simpa using c1))
           | fail)
         ((go_at_call 179;refine (HI.out).mono ?_;rintro e w5 ⟨rfl,hb5⟩))
        have HB6:=Hd (HBR.out.trans (((Br _ _).drew.trans hb5).mono HBR.out.size));clear hb5 c0 c1;go_wp2_with fail
        go_roundw
        case rel=>exact ⟨4,by go_num,by omega,HB6.out,HRR.out⟩
        case measure=>simp [intOf]
    · rw [show ((4:Nat):Int)=4 from rfl];have hix:∀ W,(Instr.index 246 (.agg #[.string ⟨#[69,88]⟩,.string ⟨#[69,70]⟩,.string ⟨#[69,71]⟩,.string ⟨#[65,88]⟩,.string ⟨#[65,70]⟩,.string ⟨#[65,71]⟩]) (.int .i64 4)).run Tryz.prog W=.ok (.string ⟨#[65,70]⟩) W:=fun W=>by kernel_rfl
      have hI:=HIS.out wr ⟨#[65,70]⟩ (HB2.out.trans (HBR.out.mono HB2.out.size));rw [show isTk l i 3 (bs ⟨#[65,70]⟩)=isTk l i 3 [65,70] from rfl] at hI
      by_cases hk:isTk l i 3 [65,70]=true
      · have HRR:Hid (r=11):=by show _=_;rw [←HK.out];unfold oneK;rw [iN (by omega),iN (by omega),iN (by omega),iN (by omega)];rw [iP ⟨by omega,hk⟩]
        rw [hk] at hI;have HI:=Hd hI;clear hI hk;go_wp2_with fail
        go_region_held3 (fun w'=>w'.cell? ⟨R,0,none⟩=some (.slice A n c)∧w'.cell? ⟨R,1,none⟩=some (.int .i64 (i:Nat)))
         (first
           | (go_keep;done)
           | (go_split_ands
              refine ⟨?_,?_⟩
              · (rw [hb5.cell (p:=⟨R,_,none⟩) (by simp;omega)];simpa using c0)
              · (rw [hb5.cell (p:=⟨R,_,none⟩) (by simp;omega)];simpa using c1))
           | fail)
         ((go_at_call 179;refine (HI.out).mono ?_;rintro e w5 ⟨rfl,hb5⟩))
        have y4:=(hb5.cell (p:=⟨b4,4,none⟩) (by simp;omega)).trans (x4 4 _ rfl);have HB6:=Hd (HB2.out.trans ((HBR.out.trans (((Br _ _).drew.trans hb5).mono HBR.out.size)).mono HB2.out.size));clear hb5 c0 c1;go_wp2_with fail;rw [HF.out,HRR.out];exact ⟨rfl,HB6.out⟩
      · have hkf:isTk l i 3 [65,70]=false:=by simpa using hk
        have HRR:Hid (oneK l i 5=r):=by show _=_;rw [←HK.out];unfold oneK;simp [hkf]
        rw [hkf] at hI;have HI:=Hd hI;clear hI hk hkf;go_wp2_with fail
        go_region_held3 (fun w'=>w'.cell? ⟨R,0,none⟩=some (.slice A n c)∧w'.cell? ⟨R,1,none⟩=some (.int .i64 (i:Nat)))
         (first
           | (go_keep;done)
           | (go_split_ands
              refine ⟨?_,?_⟩
              · (rw [hb5.cell (p:=⟨R,_,none⟩) (by simp;omega)];simpa using c0)
              · (rw [hb5.cell (p:=⟨R,_,none⟩) (by simp;omega)];simpa using c1))
           | fail)
         ((go_at_call 179;refine (HI.out).mono ?_;rintro e w5 ⟨rfl,hb5⟩))
        have HB6:=Hd (HBR.out.trans (((Br _ _).drew.trans hb5).mono HBR.out.size));clear hb5 c0 c1;go_wp2_with fail
        go_roundw
        case rel=>exact ⟨5,by go_num,by omega,HB6.out,HRR.out⟩
        case measure=>simp [intOf]
    · rw [show ((5:Nat):Int)=5 from rfl];have hix:∀ W,(Instr.index 246 (.agg #[.string ⟨#[69,88]⟩,.string ⟨#[69,70]⟩,.string ⟨#[69,71]⟩,.string ⟨#[65,88]⟩,.string ⟨#[65,70]⟩,.string ⟨#[65,71]⟩]) (.int .i64 5)).run Tryz.prog W=.ok (.string ⟨#[65,71]⟩) W:=fun W=>by kernel_rfl
      have hI:=HIS.out wr ⟨#[65,71]⟩ (HB2.out.trans (HBR.out.mono HB2.out.size));rw [show isTk l i 3 (bs ⟨#[65,71]⟩)=isTk l i 3 [65,71] from rfl] at hI
      by_cases hk:isTk l i 3 [65,71]=true
      · have HRR:Hid (r=12):=by show _=_;rw [←HK.out];unfold oneK;rw [iN (by omega),iN (by omega),iN (by omega),iN (by omega),iN (by omega)];rw [iP ⟨by omega,hk⟩]
        rw [hk] at hI;have HI:=Hd hI;clear hI hk;go_wp2_with fail
        go_region_held3 (fun w'=>w'.cell? ⟨R,0,none⟩=some (.slice A n c)∧w'.cell? ⟨R,1,none⟩=some (.int .i64 (i:Nat)))
         (first
           | (go_keep;done)
           | (go_split_ands
              refine ⟨?_,?_⟩
              · (rw [hb5.cell (p:=⟨R,_,none⟩) (by simp;omega)];simpa using c0)
              · (rw [hb5.cell (p:=⟨R,_,none⟩) (by simp;omega)];simpa using c1))
           | fail)
         ((go_at_call 179;refine (HI.out).mono ?_;rintro e w5 ⟨rfl,hb5⟩))
        have y4:=(hb5.cell (p:=⟨b4,5,none⟩) (by simp;omega)).trans (x4 5 _ rfl);have HB6:=Hd (HB2.out.trans ((HBR.out.trans (((Br _ _).drew.trans hb5).mono HBR.out.size)).mono HB2.out.size));clear hb5 c0 c1;go_wp2_with fail;rw [HF.out,HRR.out];exact ⟨rfl,HB6.out⟩
      · have hkf:isTk l i 3 [65,71]=false:=by simpa using hk
        have HRR:Hid (oneK l i 6=r):=by show _=_;rw [←HK.out];unfold oneK;simp [hkf]
        rw [hkf] at hI;have HI:=Hd hI;clear hI hk hkf;go_wp2_with fail
        go_region_held3 (fun w'=>w'.cell? ⟨R,0,none⟩=some (.slice A n c)∧w'.cell? ⟨R,1,none⟩=some (.int .i64 (i:Nat)))
         (first
           | (go_keep;done)
           | (go_split_ands
              refine ⟨?_,?_⟩
              · (rw [hb5.cell (p:=⟨R,_,none⟩) (by simp;omega)];simpa using c0)
              · (rw [hb5.cell (p:=⟨R,_,none⟩) (by simp;omega)];simpa using c1))
           | fail)
         ((go_at_call 179;refine (HI.out).mono ?_;rintro e w5 ⟨rfl,hb5⟩))
        have HB6:=Hd (HBR.out.trans (((Br _ _).drew.trans hb5).mono HBR.out.size));clear hb5 c0 c1;go_wp2_with fail
        go_roundw
        case rel=>exact ⟨6,by go_num,by omega,HB6.out,HRR.out⟩
        case measure=>simp [intOf]
    · rw [show ((6:Nat):Int)=6 from rfl];have HRR:Hid (r=0):=by show _=_;rw [←HK.out];unfold oneK;rw [iN (by omega),iN (by omega),iN (by omega),iN (by omega),iN (by omega),iN (by omega)]
      clear c0 c1 x4;go_wp2_with fail;rw [HF.out,HRR.out];exact ⟨rfl,HB2.out.trans (HBR.out.mono HB2.out.size)⟩
end Go.Proofs.YtkhoeoilamddaaaGreatDoor
