/- Walks: ref35.Terms, Defs, Same at two modules that are the same. -/
import Derived.Test.YtkhoeoilamddaaaGreatDoorWMsA
import Derived.Test.YtkhoeoilamddaaaGreatDoorWMwE
import Derived.Laws.StructEq
import Derived.BigQuiet
namespace Go.Proofs.YtkhoeoilamddaaaGreatDoor
open Go.RowKit
set_option linter.unusedVariables false
set_option linter.unusedSimpArgs false
set_option maxRecDepth 100000
set_option maxHeartbeats 16000000
theorem tLMsB {o:Array Oper} {i:Nat} {x:Oper} (h:o.toList[i]?=some x):o[i]?=some x:=by simpa using h
theorem rterms35_any (ts:List Tm) (A1:Option Addr) (c1:Nat) (A2:Option Addr) (c2:Nat) (w:World) (h1:RowV TmAt 4 w (.slice A1 ts.length c1) ts) (h2:RowV TmAt 4 w (.slice A2 ts.length c2) ts) :
 Calls Tryz.prog 20 #[.slice A1 ts.length c1,.slice A2 ts.length c2] w (SmQ w):=by
 obtain ⟨F,HF⟩:=exh_ (SmQ w);rw [←HF.out];obtain ⟨A',c',he,hcap1,hcapm1,hr1⟩:=h1
 injection he with he1 _ he2
 subst he1 he2;obtain ⟨A',c',he,hcap2,hcapm2,hr2⟩:=h2
 injection he with he1 _ he2
 subst he1 he2;obtain ⟨n,HN⟩:=exh_ ts.length;rw [←HN.out] at hcap1 hcap2 ⊢;unfold maxLen at hcapm1 hcapm2;have HR1:=Hd hr1;have HR2:=Hd hr2;clear hr1 hr2;go_enter Tryz.func20,Tryz.ntmps20;go_wp2_with fail
 go_loopw [5] (fun si wr=>∃ k:Nat,k≤n∧si=.int .i64 k∧Below w.heap.size w wr) (fun i _=>n - (intOf i).toNat)
 case atStart=>exact ⟨0,zl _,rfl,Br _ _⟩
 case round=>
  obtain ⟨k,hk,rfl,hbt⟩:=hrel
  by_cases hlt:k<n
  · obtain ⟨q,hq⟩:∃ q,ts[k]?=some q:=⟨_,gG (by have:=HN.out;omega)⟩
    rcases HR1.out with h9 | ⟨g1,o1,rfl,hg1,hr1⟩
    · rw [h9] at hq;simp at hq
    rcases HR2.out with h9 | ⟨g2,o2,rfl,hg2,hr2⟩
    · rw [h9] at hq;simp at hq
    obtain ⟨x10,x11,x12,B1,d1,x13,hv1⟩:=(TmAt.below hbt rfl hg1 (hr1 k q hq)).open;have hl1:g1<wr.heap.size:=lL hg1 hbt.size;obtain ⟨x20,x21,x22,B2,d2,x23,hv2⟩:=(TmAt.below hbt rfl hg2 (hr2 k q hq)).open;have hl2:g2<wr.heap.size:=lL hg2 hbt.size;obtain ⟨nq,hnq⟩:=ex_ q.kids.length
    have HC:Hid (∀ W,Below wr.heap.size wr W→Calls Tryz.prog 54 #[.agg #[.int .i64 q.op,.int .i64 q.num,.string q.name,.slice B1 nq d1],.agg #[.int .i64 q.op,.int .i64 q.num,.string q.name,.slice B2 nq d2]] W (SmQ W)):=fun W hb=>by
     have h:=rsame30_any q.size q B1 d1 B2 d2 W (lr _) (hv1.below hb rfl) (hv2.below hb rfl);unfold Tm.val at h;rw [←hnq] at h;exact h
    rw [←hnq] at x13 x23;have HBT:=Hd hbt;have hk0:(0:Int)≤(k:Int):=by omega
    have hk1:(k:Int)<(n:Int):=by omega
    clear hnq hq hv1 hv2 hr1 hr2 hg1 hg2 hbt;go_wp2_with fail;refine wp_region_held_drew (S:=fun W=>Below wr.heap.size wr W) (by kernel_rfl) (Br _ _).drew (fun hHeld=>?_);obtain ⟨Wc,hWc⟩:=ex_ wr.drew;rw [←hWc] at hHeld ⊢;clear hWc
    repeat
     (first | refine tkI 0 (v:=?_) rfl ?hy ?_ | refine tkI 1 (v:=?_) rfl ?hy ?_ | refine tkI 2 (v:=?_) rfl ?hy ?_ | refine tkI 3 (v:=?_) rfl ?hy ?_ | refine tkI 4 (v:=?_) rfl ?hy ?_ | refine tkI 5 (v:=?_) rfl ?hy ?_ | refine tkI 6 (v:=?_) rfl ?hy ?_ | refine tkI 7 (v:=?_) rfl ?hy ?_ | refine tkI 9 (v:=?_) rfl ?hy ?_
      case hy=>
       intro w0 hS;have e3:=below_all hS hl1;have e4:=below_all hS hl2;clear hS;go_simp
       (first | done | with_reducible rfl)
      try simp only [Act.put,sAr,sZe,sSu])
    iterate 1
     all_goals first
      | refine Rd (rs:=[8]) (by decide +kernel) (by simp) (Rc (tLMsB rfl) (fun K hK=>?_) Rn)
      | fail
     all_goals first
      | (go_simp
         (with_reducible refine (HC.out _ hHeld).mono ?_);rintro e We ⟨rfl,hb5⟩;have hb6:=hHeld.trans (hb5.mono hHeld.size);clear hHeld;refine hK.out _ _ hb6 (fun hHeld=>?_);clear hK K hb5 hb6
         try simp only [Act.put,sAr,sZe,sSu])
      | fail
     all_goals
      repeat
       (first | refine tkI 0 (v:=?_) rfl ?hy ?_ | refine tkI 1 (v:=?_) rfl ?hy ?_ | refine tkI 2 (v:=?_) rfl ?hy ?_ | refine tkI 3 (v:=?_) rfl ?hy ?_ | refine tkI 4 (v:=?_) rfl ?hy ?_ | refine tkI 5 (v:=?_) rfl ?hy ?_ | refine tkI 6 (v:=?_) rfl ?hy ?_ | refine tkI 7 (v:=?_) rfl ?hy ?_ | refine tkI 9 (v:=?_) rfl ?hy ?_
        case hy=>
         intro w0 hS;have e3:=below_all hS hl1;have e4:=below_all hS hl2;clear hS;go_simp
         (first | done | with_reducible rfl)
        try simp only [Act.put,sAr,sZe,sSu])
    all_goals refine wpAnyH_done (by decide +kernel) ?_ _
    all_goals
     go_wp2_with fail
     go_round
     case rel=>exact ⟨k+1,by omega,by go_num,HBT.out.trans (hHeld.mono HBT.out.size)⟩
     case measure=>simp [intOf];omega
  · have hkn:k=n:=by omega
    subst hkn;have hlt2:¬(k:Int)<(k:Int):=by omega
    have HBT:=Hd hbt;clear hbt;go_wp2_with fail;rw [HF.out];exact ⟨rfl,HBT.out⟩
theorem rdefs35_any (ts:List Df) (A1:Option Addr) (c1:Nat) (A2:Option Addr) (c2:Nat) (w:World) (h1:RowV DfAt 5 w (.slice A1 ts.length c1) ts) (h2:RowV DfAt 5 w (.slice A2 ts.length c2) ts) :
 Calls Tryz.prog 19 #[.slice A1 ts.length c1,.slice A2 ts.length c2] w (SmQ w):=by
 obtain ⟨F,HF⟩:=exh_ (SmQ w);rw [←HF.out];obtain ⟨A',c',he,hcap1,hcapm1,hr1⟩:=h1
 injection he with he1 _ he2
 subst he1 he2;obtain ⟨A',c',he,hcap2,hcapm2,hr2⟩:=h2
 injection he with he1 _ he2
 subst he1 he2;obtain ⟨n,HN⟩:=exh_ ts.length;rw [←HN.out] at hcap1 hcap2 ⊢;unfold maxLen at hcapm1 hcapm2;have HR1:=Hd hr1;have HR2:=Hd hr2;clear hr1 hr2;go_enter Tryz.func19,Tryz.ntmps19;go_wp2_with fail
 go_loopw [5] (fun si wr=>∃ k:Nat,k≤n∧si=.int .i64 k∧Below w.heap.size w wr) (fun i _=>n - (intOf i).toNat)
 case atStart=>exact ⟨0,zl _,rfl,Br _ _⟩
 case round=>
  obtain ⟨k,hk,rfl,hbt⟩:=hrel
  by_cases hlt:k<n
  · obtain ⟨q,hq⟩:∃ q,ts[k]?=some q:=⟨_,gG (by have:=HN.out;omega)⟩
    rcases HR1.out with h9 | ⟨g1,o1,rfl,hg1,hr1⟩
    · rw [h9] at hq;simp at hq
    rcases HR2.out with h9 | ⟨g2,o2,rfl,hg2,hr2⟩
    · rw [h9] at hq;simp at hq
    obtain ⟨x10,ha1⟩:=DfAt.below hbt _ _ _ hg1 (hr1 k q hq);obtain ⟨x11,x12,x13,B1,d1,x14,hv1⟩:=ha1.open;rw [show o1+k*5+1+1=o1+k*5+2 from rfl] at x12;rw [show o1+k*5+1+2=o1+k*5+3 from rfl] at x13;rw [show o1+k*5+1+3=o1+k*5+4 from rfl] at x14;have hl1:g1<wr.heap.size:=lL hg1 hbt.size;obtain ⟨x20,ha2⟩:=DfAt.below hbt _ _ _ hg2 (hr2 k q hq);obtain ⟨x21,x22,x23,B2,d2,x24,hv2⟩:=ha2.open;rw [show o2+k*5+1+1=o2+k*5+2 from rfl] at x22;rw [show o2+k*5+1+2=o2+k*5+3 from rfl] at x23;rw [show o2+k*5+1+3=o2+k*5+4 from rfl] at x24;have hl2:g2<wr.heap.size:=lL hg2 hbt.size;clear ha1 ha2;obtain ⟨nm,q⟩:=q;simp only at x10 x11 x12 x13 x14 x20 x21 x22 x23 x24 hv1 hv2;obtain ⟨nq,hnq⟩:=ex_ q.kids.length
    have HC:Hid (∀ W,Below wr.heap.size wr W→Calls Tryz.prog 54 #[.agg #[.int .i64 q.op,.int .i64 q.num,.string q.name,.slice B1 nq d1],.agg #[.int .i64 q.op,.int .i64 q.num,.string q.name,.slice B2 nq d2]] W (SmQ W)):=fun W hb=>by
     have h:=rsame30_any q.size q B1 d1 B2 d2 W (lr _) (hv1.below hb rfl) (hv2.below hb rfl);unfold Tm.val at h;rw [←hnq] at h;exact h
    rw [←hnq] at x14 x24;have HBT:=Hd hbt;have hk0:(0:Int)≤(k:Int):=by omega
    have hk1:(k:Int)<(n:Int):=by omega
    clear hnq hq hv1 hv2 hr1 hr2 hg1 hg2 hbt;go_wp2_with fail;refine wp_region_held_drew (S:=fun W=>Below wr.heap.size wr W) (by kernel_rfl) (Br _ _).drew (fun hHeld=>?_);obtain ⟨Wc,hWc⟩:=ex_ wr.drew;rw [←hWc] at hHeld ⊢;clear hWc
    repeat
     (first | refine tkI 0 (v:=?_) rfl ?hy ?_ | refine tkI 1 (v:=?_) rfl ?hy ?_ | refine tkI 2 (v:=?_) rfl ?hy ?_ | refine tkI 3 (v:=?_) rfl ?hy ?_ | refine tkI 4 (v:=?_) rfl ?hy ?_ | refine tkI 5 (v:=?_) rfl ?hy ?_ | refine tkI 6 (v:=?_) rfl ?hy ?_ | refine tkI 7 (v:=?_) rfl ?hy ?_ | refine tkI 8 (v:=?_) rfl ?hy ?_ | refine tkI 9 (v:=?_) rfl ?hy ?_ | refine tkI 10 (v:=?_) rfl ?hy ?_ | refine tkI 11 (v:=?_) rfl ?hy ?_ | refine tkI 12 (v:=?_) rfl ?hy ?_ | refine tkI 13 (v:=?_) rfl ?hy ?_ | refine tkI 14 (v:=?_) rfl ?hy ?_ | refine tkI 15 (v:=?_) rfl ?hy ?_ | refine tkI 16 (v:=?_) rfl ?hy ?_ | refine tkI 17 (v:=?_) rfl ?hy ?_ | refine tkI 18 (v:=?_) rfl ?hy ?_ | refine tkI 19 (v:=?_) rfl ?hy ?_ | refine tkI 20 (v:=?_) rfl ?hy ?_ | refine tkI 21 (v:=?_) rfl ?hy ?_ | refine tkI 23 (v:=?_) rfl ?hy ?_ | refine tkI 24 (v:=?_) rfl ?hy ?_
      case hy=>
       intro w0 hS;have e3:=below_all hS hl1;have e4:=below_all hS hl2;clear hS;go_simp
       (first | done | with_reducible rfl)
      try simp only [Act.put,sAr,sZe,sSu])
    iterate 1
     all_goals first
      | refine Rd (rs:=[22]) (by decide +kernel) (by simp) (Rc (tLMsB rfl) (fun K hK=>?_) Rn)
      | fail
     all_goals first
      | (go_simp
         (with_reducible refine (HC.out _ hHeld).mono ?_);rintro e We ⟨rfl,hb5⟩;have hb6:=hHeld.trans (hb5.mono hHeld.size);clear hHeld;refine hK.out _ _ hb6 (fun hHeld=>?_);clear hK K hb5 hb6
         try simp only [Act.put,sAr,sZe,sSu])
      | fail
     all_goals
      repeat
       (first | refine tkI 0 (v:=?_) rfl ?hy ?_ | refine tkI 1 (v:=?_) rfl ?hy ?_ | refine tkI 2 (v:=?_) rfl ?hy ?_ | refine tkI 3 (v:=?_) rfl ?hy ?_ | refine tkI 4 (v:=?_) rfl ?hy ?_ | refine tkI 5 (v:=?_) rfl ?hy ?_ | refine tkI 6 (v:=?_) rfl ?hy ?_ | refine tkI 7 (v:=?_) rfl ?hy ?_ | refine tkI 8 (v:=?_) rfl ?hy ?_ | refine tkI 9 (v:=?_) rfl ?hy ?_ | refine tkI 10 (v:=?_) rfl ?hy ?_ | refine tkI 11 (v:=?_) rfl ?hy ?_ | refine tkI 12 (v:=?_) rfl ?hy ?_ | refine tkI 13 (v:=?_) rfl ?hy ?_ | refine tkI 14 (v:=?_) rfl ?hy ?_ | refine tkI 15 (v:=?_) rfl ?hy ?_ | refine tkI 16 (v:=?_) rfl ?hy ?_ | refine tkI 17 (v:=?_) rfl ?hy ?_ | refine tkI 18 (v:=?_) rfl ?hy ?_ | refine tkI 19 (v:=?_) rfl ?hy ?_ | refine tkI 20 (v:=?_) rfl ?hy ?_ | refine tkI 21 (v:=?_) rfl ?hy ?_ | refine tkI 23 (v:=?_) rfl ?hy ?_ | refine tkI 24 (v:=?_) rfl ?hy ?_
        case hy=>
         intro w0 hS;have e3:=below_all hS hl1;have e4:=below_all hS hl2;clear hS;go_simp
         (first | done | with_reducible rfl)
        try simp only [Act.put,sAr,sZe,sSu])
    all_goals refine wpAnyH_done (by decide +kernel) ?_ _
    all_goals
     go_wp2_with fail
     go_round
     case rel=>exact ⟨k+1,by omega,by go_num,HBT.out.trans (hHeld.mono HBT.out.size)⟩
     case measure=>simp [intOf];omega
  · have hkn:k=n:=by omega
    subst hkn;have hlt2:¬(k:Int)<(k:Int):=by omega
    have HBT:=Hd hbt;clear hbt;go_wp2_with fail;rw [HF.out];exact ⟨rfl,HBT.out⟩
theorem neq_var (s:ByteArray) (b:Bool) (lo hi:Int) (W:World):(binOp .neq 45 (.agg #[.string s,.bool b,.int .i64 lo,.int .i64 hi]) (.agg #[.string s,.bool b,.int .i64 lo,.int .i64 hi])).run Tryz.prog W=.ok (.bool false) W:=by
 have h:∀ d:Nat,(Op.equalIn (d+2) 45 (.agg #[.string s,.bool b,.int .i64 lo,.int .i64 hi]) (.agg #[.string s,.bool b,.int .i64 lo,.int .i64 hi])).run Tryz.prog W=.ok true W:=fun d=>by
  rw [run_equalIn_struct W (d+1) 45 _ _ (by kernel_rfl) (by kernel_rfl)];go_simp
 simp only [binOp];simp [Op.equal,Op.maxDepth,h 9998]
theorem rsame35_any (V1 V2:Nat→Value) (m:Md) (w:World) (h1:MdIn w V1 m) (h2:MdIn w V2 m) :
 Calls Tryz.prog 10 #[.agg #[V1 0,V1 1,V1 2,V1 3,V1 4,V1 5,V1 6,V1 7],.agg #[V2 0,V2 1,V2 2,V2 3,V2 4,V2 5,V2 6,V2 7]] w (SmQ w):=by
 obtain ⟨F,HF⟩:=exh_ (SmQ w);rw [←HF.out];obtain ⟨P10,c10,e10,p10,q10,r10⟩:=h1.vars;have R10:=Hd (show RowV VrAt 4 w (.slice P10 m.vars.length c10) m.vars from ⟨P10,c10,rfl,p10,q10,r10⟩);obtain ⟨P11,c11,e11,p11,q11,r11⟩:=h1.defs;have R11:=Hd (show RowV DfAt 5 w (.slice P11 m.defs.length c11) m.defs from ⟨P11,c11,rfl,p11,q11,r11⟩);obtain ⟨P12,c12,e12,p12,q12,r12⟩:=h1.init;have R12:=Hd (show RowV TmAt 4 w (.slice P12 m.init.length c12) m.init from ⟨P12,c12,rfl,p12,q12,r12⟩);obtain ⟨P13,c13,e13,p13,q13,r13⟩:=h1.invar;have R13:=Hd (show RowV TmAt 4 w (.slice P13 m.invar.length c13) m.invar from ⟨P13,c13,rfl,p13,q13,r13⟩);obtain ⟨P14,c14,e14,p14,q14,r14⟩:=h1.next;have R14:=Hd (show RowV DfAt 5 w (.slice P14 m.next.length c14) m.next from ⟨P14,c14,rfl,p14,q14,r14⟩);obtain ⟨P15,c15,e15,p15,q15,r15⟩:=h1.trans;have R15:=Hd (show RowV TmAt 4 w (.slice P15 m.trans.length c15) m.trans from ⟨P15,c15,rfl,p15,q15,r15⟩);obtain ⟨P16,c16,e16,p16,q16,r16⟩:=h1.fair;have R16:=Hd (show RowV TmAt 4 w (.slice P16 m.fair.length c16) m.fair from ⟨P16,c16,rfl,p16,q16,r16⟩);obtain ⟨P17,c17,e17,p17,q17,r17⟩:=h1.specs;have R17:=Hd (show RowV SpAt 7 w (.slice P17 m.specs.length c17) m.specs from ⟨P17,c17,rfl,p17,q17,r17⟩);obtain ⟨P20,c20,e20,p20,q20,r20⟩:=h2.vars
 have R20:=Hd (show RowV VrAt 4 w (.slice P20 m.vars.length c20) m.vars from ⟨P20,c20,rfl,p20,q20,r20⟩);obtain ⟨P21,c21,e21,p21,q21,r21⟩:=h2.defs;have R21:=Hd (show RowV DfAt 5 w (.slice P21 m.defs.length c21) m.defs from ⟨P21,c21,rfl,p21,q21,r21⟩);obtain ⟨P22,c22,e22,p22,q22,r22⟩:=h2.init;have R22:=Hd (show RowV TmAt 4 w (.slice P22 m.init.length c22) m.init from ⟨P22,c22,rfl,p22,q22,r22⟩);obtain ⟨P23,c23,e23,p23,q23,r23⟩:=h2.invar;have R23:=Hd (show RowV TmAt 4 w (.slice P23 m.invar.length c23) m.invar from ⟨P23,c23,rfl,p23,q23,r23⟩);obtain ⟨P24,c24,e24,p24,q24,r24⟩:=h2.next;have R24:=Hd (show RowV DfAt 5 w (.slice P24 m.next.length c24) m.next from ⟨P24,c24,rfl,p24,q24,r24⟩);obtain ⟨P25,c25,e25,p25,q25,r25⟩:=h2.trans;have R25:=Hd (show RowV TmAt 4 w (.slice P25 m.trans.length c25) m.trans from ⟨P25,c25,rfl,p25,q25,r25⟩);obtain ⟨P26,c26,e26,p26,q26,r26⟩:=h2.fair;have R26:=Hd (show RowV TmAt 4 w (.slice P26 m.fair.length c26) m.fair from ⟨P26,c26,rfl,p26,q26,r26⟩);obtain ⟨P27,c27,e27,p27,q27,r27⟩:=h2.specs;have R27:=Hd (show RowV SpAt 7 w (.slice P27 m.specs.length c27) m.specs from ⟨P27,c27,rfl,p27,q27,r27⟩);rw [e10,e11,e12,e13,e14,e15,e16,e17,e20,e21,e22,e23,e24,e25,e26,e27];obtain ⟨n0,N0⟩:=exh_ m.vars.length;rw [←N0.out] at R10 R20 p10 p20 ⊢;unfold maxLen at q10 q20;obtain ⟨n1,N1⟩:=exh_ m.defs.length
 rw [←N1.out] at R11 R21 p11 p21 ⊢;unfold maxLen at q11 q21;obtain ⟨n2,N2⟩:=exh_ m.init.length;rw [←N2.out] at R12 R22 p12 p22 ⊢;unfold maxLen at q12 q22;obtain ⟨n3,N3⟩:=exh_ m.invar.length;rw [←N3.out] at R13 R23 p13 p23 ⊢;unfold maxLen at q13 q23;obtain ⟨n4,N4⟩:=exh_ m.next.length;rw [←N4.out] at R14 R24 p14 p24 ⊢;unfold maxLen at q14 q24;obtain ⟨n5,N5⟩:=exh_ m.trans.length;rw [←N5.out] at R15 R25 p15 p25 ⊢;unfold maxLen at q15 q25;obtain ⟨n6,N6⟩:=exh_ m.fair.length;rw [←N6.out] at R16 R26 p16 p26 ⊢;unfold maxLen at q16 q26;obtain ⟨n7,N7⟩:=exh_ m.specs.length;rw [←N7.out] at R17 R27 p17 p27 ⊢;unfold maxLen at q17 q27;clear h1 h2 e10 r10 e11 r11 e12 r12 e13 r13 e14 r14 e15 r15 e16 r16 e17 r17 e20 r20 e21 r21 e22 r22 e23 r23 e24 r24 e25 r25 e26 r26 e27 r27;obtain ⟨b1,hb1⟩:=ex_ w.heap.size;obtain ⟨w1,hw1⟩:=ex_ (w.alloc (.cells #[.slice P10 n0 c10,.slice P11 n1 c11,.slice P12 n2 c12,.slice P13 n3 c13,.slice P14 n4 c14,.slice P15 n5 c15,.slice P16 n6 c16,.slice P17 n7 c17] 28));obtain ⟨b2,hb2⟩:=ex_ (b1+1);obtain ⟨w2,hw2⟩:=ex_ (w1.alloc (.cells #[.slice P20 n0 c20,.slice P21 n1 c21,.slice P22 n2 c22,.slice P23 n3 c23,.slice P24 n4 c24,.slice P25 n5 c25,.slice P26 n6 c26,.slice P27 n7 c27] 28));have hs1:=sAl hw1;have hs2:=sAl hw2;have X1:=kX (bAl hw2) (nAl hw1 hb1);have X2:=nAl hw2 (show b2=w1.heap.size by omega);have HBA:=Hd (Below.trans (bAl hw1) ((bAl hw2).mono (show w.heap.size≤w1.heap.size by omega)));have HW1:=Hd hw1
 have HW2:=Hd hw2;have HB1:=Hd hb1;have HB2:=Hd hb2;have HWW:=Hd (show w.heap.size≤w2.heap.size by omega);have HLL:Hid (∀ W,Below w2.heap.size w2 W→Below w.heap.size w W):=fun W h=>HBA.out.trans (h.mono HWW.out);clear hb1 hb2 hw1 hw2 hs1 hs2;have hne:b1≠b2:=by have:=HB2.out;omega
 obtain ⟨u0,u1,u2,u3,u4,u5,u6,u7,-⟩:=q8 X1.out;obtain ⟨v0,v1,v2,v3,v4,v5,v6,v7,-⟩:=q8 X2.out;have l1:=lH X1.out;have l2:=lH X2.out;go_enter Tryz.func10,Tryz.ntmps10;go_wp2_with fail;rw [←HW1.out,←HB1.out];try go_wp2_with fail
 try rw [←HW2.out,←HB2.out]
 (try go_wp2_with fail);clear u0 u1 u2 u3 u4 u5 u6 u7 v0 v1 v2 v3 v4 v5 v6 v7 l1 l2
 go_loopw [5] (fun si wr=>∃ k:Nat,k≤n0∧si=.int .i64 k∧Below w2.heap.size w2 wr) (fun i _=>n0 - (intOf i).toNat)
 case atStart=>exact ⟨0,zl _,rfl,Br _ _⟩
 case round=>
  obtain ⟨k,hk,rfl,hbel⟩:=hrel;have Z1:=kX hbel X1;have Z2:=kX hbel X2;obtain ⟨u0,u1,u2,u3,u4,u5,u6,u7,-⟩:=q8 Z1.out;obtain ⟨v0,v1,v2,v3,v4,v5,v6,v7,-⟩:=q8 Z2.out;have l1:=lH Z1.out;have l2:=lH Z2.out
  by_cases hlt:k<n0
  · obtain ⟨q,hq⟩:∃ q,m.vars[k]?=some q:=⟨_,gG (by have:=N0.out;omega)⟩;have hbt:=HLL.out _ hbel;obtain ⟨A',c',he,-,-,hr1⟩:=R10.out
    injection he with he1 hen he2
    clear hen;subst he1 he2
    rcases hr1 with h9 | ⟨g1,o1,rfl,hg1,hr1⟩
    · rw [h9] at hq;simp at hq
    obtain ⟨x10,x11,x12,x13⟩:=VrAt.below hbt _ _ _ hg1 (hr1 k q hq);have hl1:g1<wr.heap.size:=lL hg1 hbt.size;obtain ⟨A',c',he,-,-,hr2⟩:=R20.out
    injection he with he1 hen he2
    clear hen;subst he1 he2
    rcases hr2 with h9 | ⟨g2,o2,rfl,hg2,hr2⟩
    · rw [h9] at hq;simp at hq
    obtain ⟨x20,x21,x22,x23⟩:=VrAt.below hbt _ _ _ hg2 (hr2 k q hq);have hl2:g2<wr.heap.size:=lL hg2 hbt.size;obtain ⟨nm,bo,lo,hh⟩:=q;simp only at x10 x11 x12 x13 x20 x21 x22 x23;have hnv:=neq_var nm bo lo hh;have HBE:=Hd hbel;have hk0:(0:Int)≤(k:Int):=by omega
    have hk1:(k:Int)<(n0:Int):=by omega
    clear hq hr1 hr2 hg1 hg2 hbel hbt Z1 Z2;go_wp2_with fail
    go_quiet (fail)
    go_wp2_with fail
    go_round
    case rel=>exact ⟨k+1,by omega,by go_num,bdrewM HBE.out _⟩
    case measure=>simp [intOf];omega
  · have hkn:k=n0:=by omega
    have hk2:¬(k:Int)<(n0:Int):=by omega
    have HBEa:=Hd hbel;clear hbel;go_wp2_with fail;clear u0 u1 u2 u3 u4 u5 u6 u7 v0 v1 v2 v3 v4 v5 v6 v7 l1 l2
    go_loopw [6] (fun si ws=>∃ k:Nat,k≤n7∧si=.int .i64 k∧Below w2.heap.size w2 ws) (fun i _=>n7 - (intOf i).toNat)
    case atStart=>exact ⟨0,zl _,rfl,HBEa.out⟩
    case round=>
     clear hk hk2 hlt hkn Z1 Z2 HBEa;obtain ⟨k,hk,rfl,hbel⟩:=hrel;rename World=>ws;have Z1:=kX hbel X1;have Z2:=kX hbel X2;obtain ⟨u0,u1,u2,u3,u4,u5,u6,u7,-⟩:=q8 Z1.out;obtain ⟨v0,v1,v2,v3,v4,v5,v6,v7,-⟩:=q8 Z2.out;have l1:=lH Z1.out;have l2:=lH Z2.out
     by_cases hlt:k<n7
     · obtain ⟨q,hq⟩:∃ q,m.specs[k]?=some q:=⟨_,gG (by have:=N7.out;omega)⟩;have hbt:=HLL.out _ hbel;obtain ⟨A',c',he,-,-,hr1⟩:=R17.out
       injection he with he1 hen he2
       clear hen;subst he1 he2
       rcases hr1 with h9 | ⟨g1,o1,rfl,hg1,hr1⟩
       · rw [h9] at hq;simp at hq
       obtain ⟨x10,ha1⟩:=SpAt.below hbt _ _ _ hg1 (hr1 k q hq);obtain ⟨x11,x12,x13,x14,Be1,de1,B1,d1,x15,x16,hv1⟩:=ha1.open;have hl1:g1<ws.heap.size:=lL hg1 hbt.size;rw [show o1+k*7+1+1=o1+k*7+2 from rfl] at x12;rw [show o1+k*7+1+2=o1+k*7+3 from rfl] at x13;rw [show o1+k*7+1+3=o1+k*7+4 from rfl] at x14;rw [show o1+k*7+1+4=o1+k*7+5 from rfl] at x15;rw [show o1+k*7+1+5=o1+k*7+6 from rfl] at x16;obtain ⟨A',c',he,-,-,hr2⟩:=R27.out
       injection he with he1 hen he2
       clear hen;subst he1 he2
       rcases hr2 with h9 | ⟨g2,o2,rfl,hg2,hr2⟩
       · rw [h9] at hq;simp at hq
       obtain ⟨x20,ha2⟩:=SpAt.below hbt _ _ _ hg2 (hr2 k q hq);obtain ⟨x21,x22,x23,x24,Be2,de2,B2,d2,x25,x26,hv2⟩:=ha2.open;have hl2:g2<ws.heap.size:=lL hg2 hbt.size;rw [show o2+k*7+1+1=o2+k*7+2 from rfl] at x22;rw [show o2+k*7+1+2=o2+k*7+3 from rfl] at x23;rw [show o2+k*7+1+3=o2+k*7+4 from rfl] at x24;rw [show o2+k*7+1+4=o2+k*7+5 from rfl] at x25;rw [show o2+k*7+1+5=o2+k*7+6 from rfl] at x26;clear ha1 ha2;obtain ⟨nm,q⟩:=q;simp only at x10 x11 x12 x13 x14 x15 x16 x20 x21 x22 x23 x24 x25 x26 hv1 hv2;obtain ⟨nq,hnq⟩:=ex_ q.kids.length;obtain ⟨me,hme⟩:=ex_ q.tm.kids.length
       have HC:Hid (∀ W,Below ws.heap.size ws W→Calls Tryz.prog 18 #[.agg #[.int .i64 q.op,.int .i64 q.tm.op,.int .i64 q.tm.num,.string q.tm.name,.slice Be1 me de1,.slice B1 nq d1],.agg #[.int .i64 q.op,.int .i64 q.tm.op,.int .i64 q.tm.num,.string q.tm.name,.slice Be2 me de2,.slice B2 nq d2]] W (SmQ W)):=fun W hb=>by
        have h:=rfsame_any q.size q Be1 de1 B1 d1 Be2 de2 B2 d2 W (lr _) (hv1.below hb rfl) (hv2.below hb rfl);unfold Fm.val at h;rw [←hnq,←hme] at h;exact h
       rw [←hme] at x15 x25;rw [←hnq] at x16 x26;have HBE:=Hd hbel;have hk0:(0:Int)≤(k:Int):=by omega
       have hk1:(k:Int)<(n7:Int):=by omega
       clear hnq hme hq hv1 hv2 hr1 hr2 hg1 hg2 hbel hbt Z1 Z2;go_wp2_with fail;refine wp_region_held_drew (S:=fun W=>Below ws.heap.size ws W) (by kernel_rfl) (Br _ _).drew (fun hHeld=>?_);obtain ⟨Wc,hWc⟩:=ex_ ws.drew;rw [←hWc] at hHeld ⊢;clear hWc
       repeat
        (first | refine tkI 0 (v:=?_) rfl ?hy ?_ | refine tkI 1 (v:=?_) rfl ?hy ?_ | refine tkI 2 (v:=?_) rfl ?hy ?_ | refine tkI 3 (v:=?_) rfl ?hy ?_ | refine tkI 4 (v:=?_) rfl ?hy ?_ | refine tkI 5 (v:=?_) rfl ?hy ?_ | refine tkI 6 (v:=?_) rfl ?hy ?_ | refine tkI 7 (v:=?_) rfl ?hy ?_ | refine tkI 8 (v:=?_) rfl ?hy ?_ | refine tkI 9 (v:=?_) rfl ?hy ?_ | refine tkI 10 (v:=?_) rfl ?hy ?_ | refine tkI 11 (v:=?_) rfl ?hy ?_ | refine tkI 12 (v:=?_) rfl ?hy ?_ | refine tkI 13 (v:=?_) rfl ?hy ?_ | refine tkI 14 (v:=?_) rfl ?hy ?_ | refine tkI 15 (v:=?_) rfl ?hy ?_ | refine tkI 16 (v:=?_) rfl ?hy ?_ | refine tkI 17 (v:=?_) rfl ?hy ?_ | refine tkI 18 (v:=?_) rfl ?hy ?_ | refine tkI 19 (v:=?_) rfl ?hy ?_ | refine tkI 20 (v:=?_) rfl ?hy ?_ | refine tkI 21 (v:=?_) rfl ?hy ?_ | refine tkI 22 (v:=?_) rfl ?hy ?_ | refine tkI 23 (v:=?_) rfl ?hy ?_ | refine tkI 24 (v:=?_) rfl ?hy ?_ | refine tkI 25 (v:=?_) rfl ?hy ?_ | refine tkI 27 (v:=?_) rfl ?hy ?_ | refine tkI 28 (v:=?_) rfl ?hy ?_
         case hy=>
          intro w0 hS;have e1:=below_all hS l1;have e2:=below_all hS l2;have e3:=below_all hS hl1;have e4:=below_all hS hl2;clear hS;go_simp
          (first | done | with_reducible rfl)
         try simp only [Act.put,sAr,sZe,sSu])
       iterate 1
        all_goals first
         | refine Rd (rs:=[26]) (by decide +kernel) (by simp) (Rc (tLMsB rfl) (fun K hK=>?_) Rn)
         | fail
        all_goals first
         | (go_simp
            (with_reducible refine (HC.out _ hHeld).mono ?_);rintro e We ⟨rfl,hb5⟩;have hb6:=hHeld.trans (hb5.mono hHeld.size);clear hHeld;refine hK.out _ _ hb6 (fun hHeld=>?_);clear hK K hb5 hb6
            try simp only [Act.put,sAr,sZe,sSu])
         | fail
        all_goals
         repeat
          (first | refine tkI 0 (v:=?_) rfl ?hy ?_ | refine tkI 1 (v:=?_) rfl ?hy ?_ | refine tkI 2 (v:=?_) rfl ?hy ?_ | refine tkI 3 (v:=?_) rfl ?hy ?_ | refine tkI 4 (v:=?_) rfl ?hy ?_ | refine tkI 5 (v:=?_) rfl ?hy ?_ | refine tkI 6 (v:=?_) rfl ?hy ?_ | refine tkI 7 (v:=?_) rfl ?hy ?_ | refine tkI 8 (v:=?_) rfl ?hy ?_ | refine tkI 9 (v:=?_) rfl ?hy ?_ | refine tkI 10 (v:=?_) rfl ?hy ?_ | refine tkI 11 (v:=?_) rfl ?hy ?_ | refine tkI 12 (v:=?_) rfl ?hy ?_ | refine tkI 13 (v:=?_) rfl ?hy ?_ | refine tkI 14 (v:=?_) rfl ?hy ?_ | refine tkI 15 (v:=?_) rfl ?hy ?_ | refine tkI 16 (v:=?_) rfl ?hy ?_ | refine tkI 17 (v:=?_) rfl ?hy ?_ | refine tkI 18 (v:=?_) rfl ?hy ?_ | refine tkI 19 (v:=?_) rfl ?hy ?_ | refine tkI 20 (v:=?_) rfl ?hy ?_ | refine tkI 21 (v:=?_) rfl ?hy ?_ | refine tkI 22 (v:=?_) rfl ?hy ?_ | refine tkI 23 (v:=?_) rfl ?hy ?_ | refine tkI 24 (v:=?_) rfl ?hy ?_ | refine tkI 25 (v:=?_) rfl ?hy ?_ | refine tkI 27 (v:=?_) rfl ?hy ?_ | refine tkI 28 (v:=?_) rfl ?hy ?_
           case hy=>
            intro w0 hS;have e1:=below_all hS l1;have e2:=below_all hS l2;have e3:=below_all hS hl1;have e4:=below_all hS hl2;clear hS;go_simp
            (first | done | with_reducible rfl)
           try simp only [Act.put,sAr,sZe,sSu])
       all_goals refine wpAnyH_done (by decide +kernel) ?_ _
       all_goals
        go_wp2_with fail
        go_round
        case rel=>exact ⟨k+1,by omega,by go_num,HBE.out.trans (hHeld.mono HBE.out.size)⟩
        case measure=>simp [intOf];omega
     · have hkn:k=n7:=by omega
       have hk2:¬(k:Int)<(n7:Int):=by omega
       have HBE:=Hd hbel;clear hbel hlt hk hkn
       have hc:Calls Tryz.prog 19 #[.slice P11 n1 c11,.slice P21 n1 c21] ws (SmQ ws):=by
        have hbt:=HLL.out _ HBE.out;have h:=rdefs35_any m.defs P11 c11 P21 c21 ws (by rw [←N1.out];exact (RowV.below R11.out (DfAt.below hbt) hbt.size)) (by rw [←N1.out];exact (RowV.below R21.out (DfAt.below hbt) hbt.size));rw [←N1.out] at h;exact h
       have HC:=Hd hc;clear hc;go_wp2_with fail;refine (HC.out).mono ?_;rintro e wn ⟨rfl,hb⟩;replace HBE:=Hd (HBE.out.trans (hb.mono HBE.out.size));replace Z1:=kX hb Z1;replace Z2:=kX hb Z2;clear u0 u1 u2 u3 u4 u5 u6 u7 v0 v1 v2 v3 v4 v5 v6 v7 l1 l2 hb HC ws;rename World=>ws;obtain ⟨u0,u1,u2,u3,u4,u5,u6,u7,-⟩:=q8 Z1.out;obtain ⟨v0,v1,v2,v3,v4,v5,v6,v7,-⟩:=q8 Z2.out;have l1:=lH Z1.out;have l2:=lH Z2.out
       have hc:Calls Tryz.prog 20 #[.slice P12 n2 c12,.slice P22 n2 c22] ws (SmQ ws):=by
        have hbt:=HLL.out _ HBE.out;have h:=rterms35_any m.init P12 c12 P22 c22 ws (by rw [←N2.out];exact (RowV.below R12.out (fun g o x hg=>TmAt.below hbt rfl hg) hbt.size)) (by rw [←N2.out];exact (RowV.below R22.out (fun g o x hg=>TmAt.below hbt rfl hg) hbt.size));rw [←N2.out] at h;exact h
       have HC:=Hd hc;clear hc;go_wp2_with fail;refine (HC.out).mono ?_;rintro e wn ⟨rfl,hb⟩;replace HBE:=Hd (HBE.out.trans (hb.mono HBE.out.size));replace Z1:=kX hb Z1;replace Z2:=kX hb Z2;clear u0 u1 u2 u3 u4 u5 u6 u7 v0 v1 v2 v3 v4 v5 v6 v7 l1 l2 hb HC ws;rename World=>ws;obtain ⟨u0,u1,u2,u3,u4,u5,u6,u7,-⟩:=q8 Z1.out;obtain ⟨v0,v1,v2,v3,v4,v5,v6,v7,-⟩:=q8 Z2.out;have l1:=lH Z1.out;have l2:=lH Z2.out
       have hc:Calls Tryz.prog 20 #[.slice P13 n3 c13,.slice P23 n3 c23] ws (SmQ ws):=by
        have hbt:=HLL.out _ HBE.out;have h:=rterms35_any m.invar P13 c13 P23 c23 ws (by rw [←N3.out];exact (RowV.below R13.out (fun g o x hg=>TmAt.below hbt rfl hg) hbt.size)) (by rw [←N3.out];exact (RowV.below R23.out (fun g o x hg=>TmAt.below hbt rfl hg) hbt.size));rw [←N3.out] at h;exact h
       have HC:=Hd hc;clear hc;go_wp2_with fail;refine (HC.out).mono ?_;rintro e wn ⟨rfl,hb⟩;replace HBE:=Hd (HBE.out.trans (hb.mono HBE.out.size));replace Z1:=kX hb Z1;replace Z2:=kX hb Z2;clear u0 u1 u2 u3 u4 u5 u6 u7 v0 v1 v2 v3 v4 v5 v6 v7 l1 l2 hb HC ws;rename World=>ws;obtain ⟨u0,u1,u2,u3,u4,u5,u6,u7,-⟩:=q8 Z1.out;obtain ⟨v0,v1,v2,v3,v4,v5,v6,v7,-⟩:=q8 Z2.out;have l1:=lH Z1.out;have l2:=lH Z2.out
       have hc:Calls Tryz.prog 19 #[.slice P14 n4 c14,.slice P24 n4 c24] ws (SmQ ws):=by
        have hbt:=HLL.out _ HBE.out;have h:=rdefs35_any m.next P14 c14 P24 c24 ws (by rw [←N4.out];exact (RowV.below R14.out (DfAt.below hbt) hbt.size)) (by rw [←N4.out];exact (RowV.below R24.out (DfAt.below hbt) hbt.size));rw [←N4.out] at h;exact h
       have HC:=Hd hc;clear hc;go_wp2_with fail;refine (HC.out).mono ?_;rintro e wn ⟨rfl,hb⟩;replace HBE:=Hd (HBE.out.trans (hb.mono HBE.out.size));replace Z1:=kX hb Z1;replace Z2:=kX hb Z2;clear u0 u1 u2 u3 u4 u5 u6 u7 v0 v1 v2 v3 v4 v5 v6 v7 l1 l2 hb HC ws;rename World=>ws;obtain ⟨u0,u1,u2,u3,u4,u5,u6,u7,-⟩:=q8 Z1.out;obtain ⟨v0,v1,v2,v3,v4,v5,v6,v7,-⟩:=q8 Z2.out;have l1:=lH Z1.out;have l2:=lH Z2.out
       have hc:Calls Tryz.prog 20 #[.slice P15 n5 c15,.slice P25 n5 c25] ws (SmQ ws):=by
        have hbt:=HLL.out _ HBE.out;have h:=rterms35_any m.trans P15 c15 P25 c25 ws (by rw [←N5.out];exact (RowV.below R15.out (fun g o x hg=>TmAt.below hbt rfl hg) hbt.size)) (by rw [←N5.out];exact (RowV.below R25.out (fun g o x hg=>TmAt.below hbt rfl hg) hbt.size));rw [←N5.out] at h;exact h
       have HC:=Hd hc;clear hc;go_wp2_with fail;refine (HC.out).mono ?_;rintro e wn ⟨rfl,hb⟩;replace HBE:=Hd (HBE.out.trans (hb.mono HBE.out.size));replace Z1:=kX hb Z1;replace Z2:=kX hb Z2;clear u0 u1 u2 u3 u4 u5 u6 u7 v0 v1 v2 v3 v4 v5 v6 v7 l1 l2 hb HC ws;rename World=>ws;obtain ⟨u0,u1,u2,u3,u4,u5,u6,u7,-⟩:=q8 Z1.out;obtain ⟨v0,v1,v2,v3,v4,v5,v6,v7,-⟩:=q8 Z2.out;have l1:=lH Z1.out;have l2:=lH Z2.out
       have hc:Calls Tryz.prog 20 #[.slice P16 n6 c16,.slice P26 n6 c26] ws (SmQ ws):=by
        have hbt:=HLL.out _ HBE.out;have h:=rterms35_any m.fair P16 c16 P26 c26 ws (by rw [←N6.out];exact (RowV.below R16.out (fun g o x hg=>TmAt.below hbt rfl hg) hbt.size)) (by rw [←N6.out];exact (RowV.below R26.out (fun g o x hg=>TmAt.below hbt rfl hg) hbt.size));rw [←N6.out] at h;exact h
       have HC:=Hd hc;clear hc;go_wp2_with fail;refine (HC.out).mono ?_;rintro e wn ⟨rfl,hb⟩;replace HBE:=Hd (HBE.out.trans (hb.mono HBE.out.size));replace Z1:=kX hb Z1;replace Z2:=kX hb Z2;clear u0 u1 u2 u3 u4 u5 u6 u7 v0 v1 v2 v3 v4 v5 v6 v7 l1 l2 hb HC ws;rename World=>ws;obtain ⟨u0,u1,u2,u3,u4,u5,u6,u7,-⟩:=q8 Z1.out;obtain ⟨v0,v1,v2,v3,v4,v5,v6,v7,-⟩:=q8 Z2.out;have l1:=lH Z1.out;have l2:=lH Z2.out;go_wp2_with fail;rw [HF.out];exact ⟨rfl,HLL.out _ HBE.out⟩
end Go.Proofs.YtkhoeoilamddaaaGreatDoor
