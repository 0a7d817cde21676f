/- Walks and plain words: MsB MwG OpnA. -/
import Derived.Test.YtkhoeoilamddaaaGreatDoorXMwF
import Derived.Laws.StructEq
import Derived.Test.YtkhoeoilamddaaaGreatDoorCards
import Derived.Test.YtkhoeoilamddaaaGreatDoorTie
import Derived.ProofKit
import Derived.Lay
import Derived.Lib.LaidU8
import Derived.Lib.LaidTab
import Derived.SevenTiedAt
import Derived.LaidOnce
namespace Go.Proofs.YtkhoeoilamddaaaGreatDoor
open Go.RowKit
set_option linter.unusedVariables false
set_option linter.unusedSimpArgs false
set_option maxRecDepth 100000
set_option maxHeartbeats 16000000
theorem aep {o:Array Oper} {i:Nat} {x:Oper} (h:o.toList[i]?=some x):o[i]?=some x:=by simpa using h
theorem vW (ts:List Tm) (A1:Option Addr) (c1:Nat) (A2:Option Addr) (c2:Nat) (w:World) (h1:fK gB 4 w (.slice A1 ts.length c1) ts) (h2:fK gB 4 w (.slice A2 ts.length c2) ts) :
 Calls Tryz.prog 20 #[.slice A1 ts.length c1,.slice A2 ts.length c2] w (EA w):=by
 obtain ⟨F,HF⟩:=ak (EA w);rw [←HF.out];obtain ⟨A',c',he,hcap1,Bb,hr1⟩:=h1
 injection he with he1 _ he2
 subst he1 he2;obtain ⟨A',c',he,hcap2,Bc,hr2⟩:=h2
 injection he with he1 _ he2
 subst he1 he2;obtain ⟨n,HN⟩:=ak ts.length;rw [←HN.out] at hcap1 hcap2 ⊢;unfold maxLen at Bb Bc;have HR1:=Hd hr1;have HR2:=Hd hr2;clear hr1 hr2;go_enter Tryz.func20,Tryz.ntmps20;go_wp2_with fail
 go_loopw [5] (fun si wr=>∃ k:Nat,k≤n∧si=.int .i64 k∧Below w.heap.size w wr) (fun i _=>n - (intOf i).toNat)
 case atStart=>exact ⟨0,zl _,rfl,Br _ _⟩
 case round=>
  obtain ⟨k,hk,rfl,hbt⟩:=hrel
  by_cases hlt:k<n
  · obtain ⟨q,hq⟩:∃ q,ts[k]?=some q:=⟨_,gG (by have:=HN.out;omega)⟩
    rcases HR1.out with h9 | ⟨g1,o1,rfl,hg1,hr1⟩
    · rw [h9] at hq;simp at hq
    rcases HR2.out with h9 | ⟨g2,o2,rfl,hg2,hr2⟩
    · rw [h9] at hq;simp at hq
    obtain ⟨x10,M8,x12,B1,d1,Uv,hv1⟩:=(gB.below hbt rfl hg1 (hr1 k q hq)).open;have hl1:g1<wr.heap.size:=lL hg1 hbt.size;obtain ⟨x20,x21,x22,B2,d2,x23,hv2⟩:=(gB.below hbt rfl hg2 (hr2 k q hq)).open;have hl2:g2<wr.heap.size:=lL hg2 hbt.size;obtain ⟨nq,hnq⟩:=aj q.kids.length
    have HC:Hid (∀ W,Below wr.heap.size wr W→Calls Tryz.prog 54 #[.agg #[.int .i64 q.op,.int .i64 q.num,.string q.name,.slice B1 nq d1],.agg #[.int .i64 q.op,.int .i64 q.num,.string q.name,.slice B2 nq d2]] W (EA W)):=fun W hb=>by
     have h:=J7 q.size q B1 d1 B2 d2 W (lr _) (hv1.below hb rfl) (hv2.below hb rfl);unfold Tm.val at h;rw [←hnq] at h;exact h
    rw [←hnq] at Uv x23;have oW:=Hd hbt;have hk0:(0:Int)≤(k:Int):=by omega
    have hk1:(k:Int)<(n:Int):=by omega
    clear hnq hq hv1 hv2 hr1 hr2 hg1 hg2 hbt;go_wp2_with fail;refine wp_region_held_drew (S:=fun W=>Below wr.heap.size wr W) (by kernel_rfl) (Br _ _).drew (fun hHeld=>?_);obtain ⟨Wc,hWc⟩:=aj wr.drew;rw [←hWc] at hHeld ⊢;clear hWc
    repeat
     (first | refine aI 0 (v:=?_) rfl ?hy ?_ | refine aI 1 (v:=?_) rfl ?hy ?_ | refine aI 2 (v:=?_) rfl ?hy ?_ | refine aI 3 (v:=?_) rfl ?hy ?_ | refine aI 4 (v:=?_) rfl ?hy ?_ | refine aI 5 (v:=?_) rfl ?hy ?_ | refine aI 6 (v:=?_) rfl ?hy ?_ | refine aI 7 (v:=?_) rfl ?hy ?_ | refine aI 9 (v:=?_) rfl ?hy ?_
      case hy=>
       intro w0 hS;have e3:=bI hS hl1;have e4:=bI hS hl2;clear hS;go_simp
       (first | done | with_reducible rfl)
      try simp only [Act.put,aT,aU,aV])
    iterate 1
     all_goals first
      | refine Rd (rs:=[8]) (by decide +kernel) (by simp) (Rc (aep rfl) (fun K hK=>?_) Rn)
      | fail
     all_goals first
      | (go_simp
         (with_reducible refine (HC.out _ hHeld).mono ?_);rintro e We ⟨rfl,hb5⟩;have hb6:=hHeld.trans (hb5.mono hHeld.size);clear hHeld;refine hK.out _ _ hb6 (fun hHeld=>?_);clear hK K hb5 hb6
         try simp only [Act.put,aT,aU,aV])
      | fail
     all_goals
      repeat
       (first | refine aI 0 (v:=?_) rfl ?hy ?_ | refine aI 1 (v:=?_) rfl ?hy ?_ | refine aI 2 (v:=?_) rfl ?hy ?_ | refine aI 3 (v:=?_) rfl ?hy ?_ | refine aI 4 (v:=?_) rfl ?hy ?_ | refine aI 5 (v:=?_) rfl ?hy ?_ | refine aI 6 (v:=?_) rfl ?hy ?_ | refine aI 7 (v:=?_) rfl ?hy ?_ | refine aI 9 (v:=?_) rfl ?hy ?_
        case hy=>
         intro w0 hS;have e3:=bI hS hl1;have e4:=bI hS hl2;clear hS;go_simp
         (first | done | with_reducible rfl)
        try simp only [Act.put,aT,aU,aV])
    all_goals refine wpAnyH_done (by decide +kernel) ?_ _
    all_goals
     go_wp2_with fail
     go_round
     case rel=>exact ⟨k+1,by omega,by go_num,oW.trans (hHeld.mono oW.size)⟩
     case measure=>simp [intOf];omega
  · have hkn:k=n:=by omega
    subst hkn;have hlt2:¬(k:Int)<(k:Int):=by omega
    have oW:=Hd hbt;clear hbt;go_wp2_with fail;rw [HF.out];exact ⟨rfl,oW.out⟩
theorem J9 (ts:List Df) (A1:Option Addr) (c1:Nat) (A2:Option Addr) (c2:Nat) (w:World) (h1:fK uD 5 w (.slice A1 ts.length c1) ts) (h2:fK uD 5 w (.slice A2 ts.length c2) ts) :
 Calls Tryz.prog 19 #[.slice A1 ts.length c1,.slice A2 ts.length c2] w (EA w):=by
 obtain ⟨F,HF⟩:=ak (EA w);rw [←HF.out];obtain ⟨A',c',he,hcap1,Bb,hr1⟩:=h1
 injection he with he1 _ he2
 subst he1 he2;obtain ⟨A',c',he,hcap2,Bc,hr2⟩:=h2
 injection he with he1 _ he2
 subst he1 he2;obtain ⟨n,HN⟩:=ak ts.length;rw [←HN.out] at hcap1 hcap2 ⊢;unfold maxLen at Bb Bc;have HR1:=Hd hr1;have HR2:=Hd hr2;clear hr1 hr2;go_enter Tryz.func19,Tryz.ntmps19;go_wp2_with fail
 go_loopw [5] (fun si wr=>∃ k:Nat,k≤n∧si=.int .i64 k∧Below w.heap.size w wr) (fun i _=>n - (intOf i).toNat)
 case atStart=>exact ⟨0,zl _,rfl,Br _ _⟩
 case round=>
  obtain ⟨k,hk,rfl,hbt⟩:=hrel
  by_cases hlt:k<n
  · obtain ⟨q,hq⟩:∃ q,ts[k]?=some q:=⟨_,gG (by have:=HN.out;omega)⟩
    rcases HR1.out with h9 | ⟨g1,o1,rfl,hg1,hr1⟩
    · rw [h9] at hq;simp at hq
    rcases HR2.out with h9 | ⟨g2,o2,rfl,hg2,hr2⟩
    · rw [h9] at hq;simp at hq
    obtain ⟨x10,ha1⟩:=uD.below hbt _ _ _ hg1 (hr1 k q hq);obtain ⟨M8,x12,Uv,B1,d1,x14,hv1⟩:=ha1.open;rw [show o1+k*5+1+1=o1+k*5+2 from rfl] at x12;rw [show o1+k*5+1+2=o1+k*5+3 from rfl] at Uv;rw [show o1+k*5+1+3=o1+k*5+4 from rfl] at x14;have hl1:g1<wr.heap.size:=lL hg1 hbt.size;obtain ⟨x20,ha2⟩:=uD.below hbt _ _ _ hg2 (hr2 k q hq);obtain ⟨x21,x22,x23,B2,d2,x24,hv2⟩:=ha2.open;rw [show o2+k*5+1+1=o2+k*5+2 from rfl] at x22;rw [show o2+k*5+1+2=o2+k*5+3 from rfl] at x23;rw [show o2+k*5+1+3=o2+k*5+4 from rfl] at x24;have hl2:g2<wr.heap.size:=lL hg2 hbt.size;clear ha1 ha2;obtain ⟨nm,q⟩:=q;simp only at x10 M8 x12 Uv x14 x20 x21 x22 x23 x24 hv1 hv2;obtain ⟨nq,hnq⟩:=aj q.kids.length
    have HC:Hid (∀ W,Below wr.heap.size wr W→Calls Tryz.prog 54 #[.agg #[.int .i64 q.op,.int .i64 q.num,.string q.name,.slice B1 nq d1],.agg #[.int .i64 q.op,.int .i64 q.num,.string q.name,.slice B2 nq d2]] W (EA W)):=fun W hb=>by
     have h:=J7 q.size q B1 d1 B2 d2 W (lr _) (hv1.below hb rfl) (hv2.below hb rfl);unfold Tm.val at h;rw [←hnq] at h;exact h
    rw [←hnq] at x14 x24;have oW:=Hd hbt;have hk0:(0:Int)≤(k:Int):=by omega
    have hk1:(k:Int)<(n:Int):=by omega
    clear hnq hq hv1 hv2 hr1 hr2 hg1 hg2 hbt;go_wp2_with fail;refine wp_region_held_drew (S:=fun W=>Below wr.heap.size wr W) (by kernel_rfl) (Br _ _).drew (fun hHeld=>?_);obtain ⟨Wc,hWc⟩:=aj wr.drew;rw [←hWc] at hHeld ⊢;clear hWc
    repeat
     (first | refine aI 0 (v:=?_) rfl ?hy ?_ | refine aI 1 (v:=?_) rfl ?hy ?_ | refine aI 2 (v:=?_) rfl ?hy ?_ | refine aI 3 (v:=?_) rfl ?hy ?_ | refine aI 4 (v:=?_) rfl ?hy ?_ | refine aI 5 (v:=?_) rfl ?hy ?_ | refine aI 6 (v:=?_) rfl ?hy ?_ | refine aI 7 (v:=?_) rfl ?hy ?_ | refine aI 8 (v:=?_) rfl ?hy ?_ | refine aI 9 (v:=?_) rfl ?hy ?_ | refine aI 10 (v:=?_) rfl ?hy ?_ | refine aI 11 (v:=?_) rfl ?hy ?_ | refine aI 12 (v:=?_) rfl ?hy ?_ | refine aI 13 (v:=?_) rfl ?hy ?_ | refine aI 14 (v:=?_) rfl ?hy ?_ | refine aI 15 (v:=?_) rfl ?hy ?_ | refine aI 16 (v:=?_) rfl ?hy ?_ | refine aI 17 (v:=?_) rfl ?hy ?_ | refine aI 18 (v:=?_) rfl ?hy ?_ | refine aI 19 (v:=?_) rfl ?hy ?_ | refine aI 20 (v:=?_) rfl ?hy ?_ | refine aI 21 (v:=?_) rfl ?hy ?_ | refine aI 23 (v:=?_) rfl ?hy ?_ | refine aI 24 (v:=?_) rfl ?hy ?_
      case hy=>
       intro w0 hS;have e3:=bI hS hl1;have e4:=bI hS hl2;clear hS;go_simp
       (first | done | with_reducible rfl)
      try simp only [Act.put,aT,aU,aV])
    iterate 1
     all_goals first
      | refine Rd (rs:=[22]) (by decide +kernel) (by simp) (Rc (aep rfl) (fun K hK=>?_) Rn)
      | fail
     all_goals first
      | (go_simp
         (with_reducible refine (HC.out _ hHeld).mono ?_);rintro e We ⟨rfl,hb5⟩;have hb6:=hHeld.trans (hb5.mono hHeld.size);clear hHeld;refine hK.out _ _ hb6 (fun hHeld=>?_);clear hK K hb5 hb6
         try simp only [Act.put,aT,aU,aV])
      | fail
     all_goals
      repeat
       (first | refine aI 0 (v:=?_) rfl ?hy ?_ | refine aI 1 (v:=?_) rfl ?hy ?_ | refine aI 2 (v:=?_) rfl ?hy ?_ | refine aI 3 (v:=?_) rfl ?hy ?_ | refine aI 4 (v:=?_) rfl ?hy ?_ | refine aI 5 (v:=?_) rfl ?hy ?_ | refine aI 6 (v:=?_) rfl ?hy ?_ | refine aI 7 (v:=?_) rfl ?hy ?_ | refine aI 8 (v:=?_) rfl ?hy ?_ | refine aI 9 (v:=?_) rfl ?hy ?_ | refine aI 10 (v:=?_) rfl ?hy ?_ | refine aI 11 (v:=?_) rfl ?hy ?_ | refine aI 12 (v:=?_) rfl ?hy ?_ | refine aI 13 (v:=?_) rfl ?hy ?_ | refine aI 14 (v:=?_) rfl ?hy ?_ | refine aI 15 (v:=?_) rfl ?hy ?_ | refine aI 16 (v:=?_) rfl ?hy ?_ | refine aI 17 (v:=?_) rfl ?hy ?_ | refine aI 18 (v:=?_) rfl ?hy ?_ | refine aI 19 (v:=?_) rfl ?hy ?_ | refine aI 20 (v:=?_) rfl ?hy ?_ | refine aI 21 (v:=?_) rfl ?hy ?_ | refine aI 23 (v:=?_) rfl ?hy ?_ | refine aI 24 (v:=?_) rfl ?hy ?_
        case hy=>
         intro w0 hS;have e3:=bI hS hl1;have e4:=bI hS hl2;clear hS;go_simp
         (first | done | with_reducible rfl)
        try simp only [Act.put,aT,aU,aV])
    all_goals refine wpAnyH_done (by decide +kernel) ?_ _
    all_goals
     go_wp2_with fail
     go_round
     case rel=>exact ⟨k+1,by omega,by go_num,oW.trans (hHeld.mono oW.size)⟩
     case measure=>simp [intOf];omega
  · have hkn:k=n:=by omega
    subst hkn;have hlt2:¬(k:Int)<(k:Int):=by omega
    have oW:=Hd hbt;clear hbt;go_wp2_with fail;rw [HF.out];exact ⟨rfl,oW.out⟩
theorem aa6 (s:ByteArray) (b:Bool) (lo hi:Int) (W:World):(binOp .neq 45 (.agg #[.string s,.bool b,.int .i64 lo,.int .i64 hi]) (.agg #[.string s,.bool b,.int .i64 lo,.int .i64 hi])).run Tryz.prog W=.ok (.bool false) W:=by
 have h:∀ d:Nat,(Op.equalIn (d+2) 45 (.agg #[.string s,.bool b,.int .i64 lo,.int .i64 hi]) (.agg #[.string s,.bool b,.int .i64 lo,.int .i64 hi])).run Tryz.prog W=.ok true W:=fun d=>by
  rw [run_equalIn_struct W (d+1) 45 _ _ (by kernel_rfl) (by kernel_rfl)];go_simp
 simp only [binOp];simp [Op.equal,Op.maxDepth,h 9998]
theorem J_ (V1 V2:Nat→Value) (m:Md) (w:World) (h1:Km w V1 m) (h2:Km w V2 m) :
 Calls Tryz.prog 10 #[.agg #[V1 0,V1 1,V1 2,V1 3,V1 4,V1 5,V1 6,V1 7],.agg #[V2 0,V2 1,V2 2,V2 3,V2 4,V2 5,V2 6,V2 7]] w (EA w):=by
 obtain ⟨F,HF⟩:=ak (EA w);rw [←HF.out];obtain ⟨P10,c10,e10,p10,q10,r10⟩:=h1.vars;have R10:=Hd (show fK GN 4 w (.slice P10 m.vars.length c10) m.vars from ⟨P10,c10,rfl,p10,q10,r10⟩);obtain ⟨P11,c11,e11,p11,q11,r11⟩:=h1.defs;have R11:=Hd (show fK uD 5 w (.slice P11 m.defs.length c11) m.defs from ⟨P11,c11,rfl,p11,q11,r11⟩);obtain ⟨P12,c12,e12,p12,q12,r12⟩:=h1.init;have R12:=Hd (show fK gB 4 w (.slice P12 m.init.length c12) m.init from ⟨P12,c12,rfl,p12,q12,r12⟩);obtain ⟨P13,c13,e13,p13,q13,r13⟩:=h1.bF;have R13:=Hd (show fK gB 4 w (.slice P13 m.bF.length c13) m.bF from ⟨P13,c13,rfl,p13,q13,r13⟩);obtain ⟨P14,c14,e14,p14,q14,r14⟩:=h1.next;have R14:=Hd (show fK uD 5 w (.slice P14 m.next.length c14) m.next from ⟨P14,c14,rfl,p14,q14,r14⟩);obtain ⟨P15,c15,e15,p15,q15,r15⟩:=h1.trans;have R15:=Hd (show fK gB 4 w (.slice P15 m.trans.length c15) m.trans from ⟨P15,c15,rfl,p15,q15,r15⟩);obtain ⟨P16,c16,e16,p16,q16,r16⟩:=h1.fair;have R16:=Hd (show fK gB 4 w (.slice P16 m.fair.length c16) m.fair from ⟨P16,c16,rfl,p16,q16,r16⟩);obtain ⟨P17,c17,e17,p17,q17,r17⟩:=h1.specs;have R17:=Hd (show fK Fw 7 w (.slice P17 m.specs.length c17) m.specs from ⟨P17,c17,rfl,p17,q17,r17⟩);obtain ⟨P20,c20,e20,p20,q20,r20⟩:=h2.vars
 have R20:=Hd (show fK GN 4 w (.slice P20 m.vars.length c20) m.vars from ⟨P20,c20,rfl,p20,q20,r20⟩);obtain ⟨P21,c21,e21,p21,q21,r21⟩:=h2.defs;have R21:=Hd (show fK uD 5 w (.slice P21 m.defs.length c21) m.defs from ⟨P21,c21,rfl,p21,q21,r21⟩);obtain ⟨P22,c22,e22,p22,q22,r22⟩:=h2.init;have R22:=Hd (show fK gB 4 w (.slice P22 m.init.length c22) m.init from ⟨P22,c22,rfl,p22,q22,r22⟩);obtain ⟨P23,c23,e23,p23,q23,r23⟩:=h2.bF;have R23:=Hd (show fK gB 4 w (.slice P23 m.bF.length c23) m.bF from ⟨P23,c23,rfl,p23,q23,r23⟩);obtain ⟨P24,c24,e24,p24,q24,r24⟩:=h2.next;have R24:=Hd (show fK uD 5 w (.slice P24 m.next.length c24) m.next from ⟨P24,c24,rfl,p24,q24,r24⟩);obtain ⟨P25,c25,e25,p25,q25,r25⟩:=h2.trans;have R25:=Hd (show fK gB 4 w (.slice P25 m.trans.length c25) m.trans from ⟨P25,c25,rfl,p25,q25,r25⟩);obtain ⟨P26,c26,e26,p26,q26,r26⟩:=h2.fair;have R26:=Hd (show fK gB 4 w (.slice P26 m.fair.length c26) m.fair from ⟨P26,c26,rfl,p26,q26,r26⟩);obtain ⟨P27,c27,e27,p27,q27,r27⟩:=h2.specs;have R27:=Hd (show fK Fw 7 w (.slice P27 m.specs.length c27) m.specs from ⟨P27,c27,rfl,p27,q27,r27⟩);rw [e10,e11,e12,e13,e14,e15,e16,e17,e20,e21,e22,e23,e24,e25,e26,e27];obtain ⟨n0,N0⟩:=ak m.vars.length;rw [←N0.out] at R10 R20 p10 p20 ⊢;unfold maxLen at q10 q20;obtain ⟨n1,N1⟩:=ak m.defs.length
 rw [←N1.out] at R11 R21 p11 p21 ⊢;unfold maxLen at q11 q21;obtain ⟨n2,N2⟩:=ak m.init.length;rw [←N2.out] at R12 R22 p12 p22 ⊢;unfold maxLen at q12 q22;obtain ⟨n3,N3⟩:=ak m.bF.length;rw [←N3.out] at R13 R23 p13 p23 ⊢;unfold maxLen at q13 q23;obtain ⟨n4,N4⟩:=ak m.next.length;rw [←N4.out] at R14 R24 p14 p24 ⊢;unfold maxLen at q14 q24;obtain ⟨n5,N5⟩:=ak m.trans.length;rw [←N5.out] at R15 R25 p15 p25 ⊢;unfold maxLen at q15 q25;obtain ⟨n6,N6⟩:=ak m.fair.length;rw [←N6.out] at R16 R26 p16 p26 ⊢;unfold maxLen at q16 q26;obtain ⟨n7,N7⟩:=ak m.specs.length;rw [←N7.out] at R17 R27 p17 p27 ⊢;unfold maxLen at q17 q27;clear h1 h2 e10 r10 e11 r11 e12 r12 e13 r13 e14 r14 e15 r15 e16 r16 e17 r17 e20 r20 e21 r21 e22 r22 e23 r23 e24 r24 e25 r25 e26 r26 e27 r27;obtain ⟨b1,hb1⟩:=aj w.heap.size;obtain ⟨w1,hw1⟩:=aj (w.alloc (.cells #[.slice P10 n0 c10,.slice P11 n1 c11,.slice P12 n2 c12,.slice P13 n3 c13,.slice P14 n4 c14,.slice P15 n5 c15,.slice P16 n6 c16,.slice P17 n7 c17] 28));obtain ⟨b2,hb2⟩:=aj (b1+1);obtain ⟨w2,hw2⟩:=aj (w1.alloc (.cells #[.slice P20 n0 c20,.slice P21 n1 c21,.slice P22 n2 c22,.slice P23 n3 c23,.slice P24 n4 c24,.slice P25 n5 c25,.slice P26 n6 c26,.slice P27 n7 c27] 28));have hs1:=sAl hw1;have hs2:=sAl hw2;have X1:=kX (dz hw2) (jZ hw1 hb1);have X2:=jZ hw2 (show b2=w1.heap.size by omega);have HBA:=Hd (Below.trans (dz hw1) ((dz hw2).mono (show w.heap.size≤w1.heap.size by omega)));have HW1:=Hd hw1
 have HW2:=Hd hw2;have HB1:=Hd hb1;have HB2:=Hd hb2;have HWW:=Hd (show w.heap.size≤w2.heap.size by omega);have QJ:Hid (∀ W,Below w2.heap.size w2 W→Below w.heap.size w W):=fun W h=>HBA.trans (h.mono HWW.out);clear hb1 hb2 hw1 hw2 hs1 hs2;have hne:b1≠b2:=by have:=HB2.out;omega
 obtain ⟨u0,u1,u2,u3,u4,u5,u6,u7,-⟩:=q8 X1.out;obtain ⟨v0,v1,v2,v3,v4,v5,v6,v7,-⟩:=q8 X2.out;have l1:=lH X1.out;have l2:=lH X2.out;go_enter Tryz.func10,Tryz.ntmps10;go_wp2_with fail;rw [←HW1.out,←HB1.out];try go_wp2_with fail
 try rw [←HW2.out,←HB2.out]
 (try go_wp2_with fail);clear u0 u1 u2 u3 u4 u5 u6 u7 v0 v1 v2 v3 v4 v5 v6 v7 l1 l2
 go_loopw [5] (fun si wr=>∃ k:Nat,k≤n0∧si=.int .i64 k∧Below w2.heap.size w2 wr) (fun i _=>n0 - (intOf i).toNat)
 case atStart=>exact ⟨0,zl _,rfl,Br _ _⟩
 case round=>
  obtain ⟨k,hk,rfl,hbel⟩:=hrel;have Z1:=kX hbel X1;have Z2:=kX hbel X2;obtain ⟨u0,u1,u2,u3,u4,u5,u6,u7,-⟩:=q8 Z1.out;obtain ⟨v0,v1,v2,v3,v4,v5,v6,v7,-⟩:=q8 Z2.out;have l1:=lH Z1.out;have l2:=lH Z2.out
  by_cases hlt:k<n0
  · obtain ⟨q,hq⟩:∃ q,m.vars[k]?=some q:=⟨_,gG (by have:=N0.out;omega)⟩;have hbt:=QJ.out _ hbel;obtain ⟨A',c',he,-,-,hr1⟩:=R10.out
    injection he with he1 hen he2
    clear hen;subst he1 he2
    rcases hr1 with h9 | ⟨g1,o1,rfl,hg1,hr1⟩
    · rw [h9] at hq;simp at hq
    obtain ⟨x10,M8,x12,Uv⟩:=GN.below hbt _ _ _ hg1 (hr1 k q hq);have hl1:g1<wr.heap.size:=lL hg1 hbt.size;obtain ⟨A',c',he,-,-,hr2⟩:=R20.out
    injection he with he1 hen he2
    clear hen;subst he1 he2
    rcases hr2 with h9 | ⟨g2,o2,rfl,hg2,hr2⟩
    · rw [h9] at hq;simp at hq
    obtain ⟨x20,x21,x22,x23⟩:=GN.below hbt _ _ _ hg2 (hr2 k q hq);have hl2:g2<wr.heap.size:=lL hg2 hbt.size;obtain ⟨nm,bo,lo,hh⟩:=q;simp only at x10 M8 x12 Uv x20 x21 x22 x23;have hnv:=aa6 nm bo lo hh;have lK:=Hd hbel;have hk0:(0:Int)≤(k:Int):=by omega
    have hk1:(k:Int)<(n0:Int):=by omega
    clear hq hr1 hr2 hg1 hg2 hbel hbt Z1 Z2;go_wp2_with fail
    go_quiet (fail)
    go_wp2_with fail
    go_round
    case rel=>exact ⟨k+1,by omega,by go_num,QX lK.out _⟩
    case measure=>simp [intOf];omega
  · have hkn:k=n0:=by omega
    have hk2:¬(k:Int)<(n0:Int):=by omega
    have ajG:=Hd hbel;clear hbel;go_wp2_with fail;clear u0 u1 u2 u3 u4 u5 u6 u7 v0 v1 v2 v3 v4 v5 v6 v7 l1 l2
    go_loopw [6] (fun si ws=>∃ k:Nat,k≤n7∧si=.int .i64 k∧Below w2.heap.size w2 ws) (fun i _=>n7 - (intOf i).toNat)
    case atStart=>exact ⟨0,zl _,rfl,ajG.out⟩
    case round=>
     clear hk hk2 hlt hkn Z1 Z2 ajG;obtain ⟨k,hk,rfl,hbel⟩:=hrel;rename World=>ws;have Z1:=kX hbel X1;have Z2:=kX hbel X2;obtain ⟨u0,u1,u2,u3,u4,u5,u6,u7,-⟩:=q8 Z1.out;obtain ⟨v0,v1,v2,v3,v4,v5,v6,v7,-⟩:=q8 Z2.out;have l1:=lH Z1.out;have l2:=lH Z2.out
     by_cases hlt:k<n7
     · obtain ⟨q,hq⟩:∃ q,m.specs[k]?=some q:=⟨_,gG (by have:=N7.out;omega)⟩;have hbt:=QJ.out _ hbel;obtain ⟨A',c',he,-,-,hr1⟩:=R17.out
       injection he with he1 hen he2
       clear hen;subst he1 he2
       rcases hr1 with h9 | ⟨g1,o1,rfl,hg1,hr1⟩
       · rw [h9] at hq;simp at hq
       obtain ⟨x10,ha1⟩:=Fw.below hbt _ _ _ hg1 (hr1 k q hq);obtain ⟨M8,x12,Uv,x14,Be1,de1,B1,d1,x15,x16,hv1⟩:=ha1.open;have hl1:g1<ws.heap.size:=lL hg1 hbt.size;rw [show o1+k*7+1+1=o1+k*7+2 from rfl] at x12;rw [show o1+k*7+1+2=o1+k*7+3 from rfl] at Uv;rw [show o1+k*7+1+3=o1+k*7+4 from rfl] at x14;rw [show o1+k*7+1+4=o1+k*7+5 from rfl] at x15;rw [show o1+k*7+1+5=o1+k*7+6 from rfl] at x16;obtain ⟨A',c',he,-,-,hr2⟩:=R27.out
       injection he with he1 hen he2
       clear hen;subst he1 he2
       rcases hr2 with h9 | ⟨g2,o2,rfl,hg2,hr2⟩
       · rw [h9] at hq;simp at hq
       obtain ⟨x20,ha2⟩:=Fw.below hbt _ _ _ hg2 (hr2 k q hq);obtain ⟨x21,x22,x23,x24,Be2,de2,B2,d2,x25,x26,hv2⟩:=ha2.open;have hl2:g2<ws.heap.size:=lL hg2 hbt.size;rw [show o2+k*7+1+1=o2+k*7+2 from rfl] at x22;rw [show o2+k*7+1+2=o2+k*7+3 from rfl] at x23;rw [show o2+k*7+1+3=o2+k*7+4 from rfl] at x24;rw [show o2+k*7+1+4=o2+k*7+5 from rfl] at x25;rw [show o2+k*7+1+5=o2+k*7+6 from rfl] at x26;clear ha1 ha2;obtain ⟨nm,q⟩:=q;simp only at x10 M8 x12 Uv x14 x15 x16 x20 x21 x22 x23 x24 x25 x26 hv1 hv2;obtain ⟨nq,hnq⟩:=aj q.kids.length;obtain ⟨me,hme⟩:=aj q.tm.kids.length
       have HC:Hid (∀ W,Below ws.heap.size ws W→Calls Tryz.prog 18 #[.agg #[.int .i64 q.op,.int .i64 q.tm.op,.int .i64 q.tm.num,.string q.tm.name,.slice Be1 me de1,.slice B1 nq d1],.agg #[.int .i64 q.op,.int .i64 q.tm.op,.int .i64 q.tm.num,.string q.tm.name,.slice Be2 me de2,.slice B2 nq d2]] W (EA W)):=fun W hb=>by
        have h:=YU q.size q Be1 de1 B1 d1 Be2 de2 B2 d2 W (lr _) (hv1.below hb rfl) (hv2.below hb rfl);unfold Fm.val at h;rw [←hnq,←hme] at h;exact h
       rw [←hme] at x15 x25;rw [←hnq] at x16 x26;have lK:=Hd hbel;have hk0:(0:Int)≤(k:Int):=by omega
       have hk1:(k:Int)<(n7:Int):=by omega
       clear hnq hme hq hv1 hv2 hr1 hr2 hg1 hg2 hbel hbt Z1 Z2;go_wp2_with fail;refine wp_region_held_drew (S:=fun W=>Below ws.heap.size ws W) (by kernel_rfl) (Br _ _).drew (fun hHeld=>?_);obtain ⟨Wc,hWc⟩:=aj ws.drew;rw [←hWc] at hHeld ⊢;clear hWc
       repeat
        (first | refine aI 0 (v:=?_) rfl ?hy ?_ | refine aI 1 (v:=?_) rfl ?hy ?_ | refine aI 2 (v:=?_) rfl ?hy ?_ | refine aI 3 (v:=?_) rfl ?hy ?_ | refine aI 4 (v:=?_) rfl ?hy ?_ | refine aI 5 (v:=?_) rfl ?hy ?_ | refine aI 6 (v:=?_) rfl ?hy ?_ | refine aI 7 (v:=?_) rfl ?hy ?_ | refine aI 8 (v:=?_) rfl ?hy ?_ | refine aI 9 (v:=?_) rfl ?hy ?_ | refine aI 10 (v:=?_) rfl ?hy ?_ | refine aI 11 (v:=?_) rfl ?hy ?_ | refine aI 12 (v:=?_) rfl ?hy ?_ | refine aI 13 (v:=?_) rfl ?hy ?_ | refine aI 14 (v:=?_) rfl ?hy ?_ | refine aI 15 (v:=?_) rfl ?hy ?_ | refine aI 16 (v:=?_) rfl ?hy ?_ | refine aI 17 (v:=?_) rfl ?hy ?_ | refine aI 18 (v:=?_) rfl ?hy ?_ | refine aI 19 (v:=?_) rfl ?hy ?_ | refine aI 20 (v:=?_) rfl ?hy ?_ | refine aI 21 (v:=?_) rfl ?hy ?_ | refine aI 22 (v:=?_) rfl ?hy ?_ | refine aI 23 (v:=?_) rfl ?hy ?_ | refine aI 24 (v:=?_) rfl ?hy ?_ | refine aI 25 (v:=?_) rfl ?hy ?_ | refine aI 27 (v:=?_) rfl ?hy ?_ | refine aI 28 (v:=?_) rfl ?hy ?_
         case hy=>
          intro w0 hS;have e1:=bI hS l1;have e2:=bI hS l2;have e3:=bI hS hl1;have e4:=bI hS hl2;clear hS;go_simp
          (first | done | with_reducible rfl)
         try simp only [Act.put,aT,aU,aV])
       iterate 1
        all_goals first
         | refine Rd (rs:=[26]) (by decide +kernel) (by simp) (Rc (aep rfl) (fun K hK=>?_) Rn)
         | fail
        all_goals first
         | (go_simp
            (with_reducible refine (HC.out _ hHeld).mono ?_);rintro e We ⟨rfl,hb5⟩;have hb6:=hHeld.trans (hb5.mono hHeld.size);clear hHeld;refine hK.out _ _ hb6 (fun hHeld=>?_);clear hK K hb5 hb6
            try simp only [Act.put,aT,aU,aV])
         | fail
        all_goals
         repeat
          (first | refine aI 0 (v:=?_) rfl ?hy ?_ | refine aI 1 (v:=?_) rfl ?hy ?_ | refine aI 2 (v:=?_) rfl ?hy ?_ | refine aI 3 (v:=?_) rfl ?hy ?_ | refine aI 4 (v:=?_) rfl ?hy ?_ | refine aI 5 (v:=?_) rfl ?hy ?_ | refine aI 6 (v:=?_) rfl ?hy ?_ | refine aI 7 (v:=?_) rfl ?hy ?_ | refine aI 8 (v:=?_) rfl ?hy ?_ | refine aI 9 (v:=?_) rfl ?hy ?_ | refine aI 10 (v:=?_) rfl ?hy ?_ | refine aI 11 (v:=?_) rfl ?hy ?_ | refine aI 12 (v:=?_) rfl ?hy ?_ | refine aI 13 (v:=?_) rfl ?hy ?_ | refine aI 14 (v:=?_) rfl ?hy ?_ | refine aI 15 (v:=?_) rfl ?hy ?_ | refine aI 16 (v:=?_) rfl ?hy ?_ | refine aI 17 (v:=?_) rfl ?hy ?_ | refine aI 18 (v:=?_) rfl ?hy ?_ | refine aI 19 (v:=?_) rfl ?hy ?_ | refine aI 20 (v:=?_) rfl ?hy ?_ | refine aI 21 (v:=?_) rfl ?hy ?_ | refine aI 22 (v:=?_) rfl ?hy ?_ | refine aI 23 (v:=?_) rfl ?hy ?_ | refine aI 24 (v:=?_) rfl ?hy ?_ | refine aI 25 (v:=?_) rfl ?hy ?_ | refine aI 27 (v:=?_) rfl ?hy ?_ | refine aI 28 (v:=?_) rfl ?hy ?_
           case hy=>
            intro w0 hS;have e1:=bI hS l1;have e2:=bI hS l2;have e3:=bI hS hl1;have e4:=bI hS hl2;clear hS;go_simp
            (first | done | with_reducible rfl)
           try simp only [Act.put,aT,aU,aV])
       all_goals refine wpAnyH_done (by decide +kernel) ?_ _
       all_goals
        go_wp2_with fail
        go_round
        case rel=>exact ⟨k+1,by omega,by go_num,lK.trans (hHeld.mono lK.size)⟩
        case measure=>simp [intOf];omega
     · have hkn:k=n7:=by omega
       have hk2:¬(k:Int)<(n7:Int):=by omega
       have lK:=Hd hbel;clear hbel hlt hk hkn
       have hc:Calls Tryz.prog 19 #[.slice P11 n1 c11,.slice P21 n1 c21] ws (EA ws):=by
        have hbt:=QJ.out _ lK.out;have h:=J9 m.defs P11 c11 P21 c21 ws (by rw [←N1.out];exact (fK.below R11.out (uD.below hbt) hbt.size)) (by rw [←N1.out];exact (fK.below R21.out (uD.below hbt) hbt.size));rw [←N1.out] at h;exact h
       have HC:=Hd hc;clear hc;go_wp2_with fail;refine (HC.out).mono ?_;rintro e wn ⟨rfl,hb⟩;replace lK:=Hd (lK.trans (hb.mono lK.size));replace Z1:=kX hb Z1;replace Z2:=kX hb Z2;clear u0 u1 u2 u3 u4 u5 u6 u7 v0 v1 v2 v3 v4 v5 v6 v7 l1 l2 hb HC ws;rename World=>ws;obtain ⟨u0,u1,u2,u3,u4,u5,u6,u7,-⟩:=q8 Z1.out;obtain ⟨v0,v1,v2,v3,v4,v5,v6,v7,-⟩:=q8 Z2.out;have l1:=lH Z1.out;have l2:=lH Z2.out
       have hc:Calls Tryz.prog 20 #[.slice P12 n2 c12,.slice P22 n2 c22] ws (EA ws):=by
        have hbt:=QJ.out _ lK.out;have h:=vW m.init P12 c12 P22 c22 ws (by rw [←N2.out];exact (fK.below R12.out (fun g o x hg=>gB.below hbt rfl hg) hbt.size)) (by rw [←N2.out];exact (fK.below R22.out (fun g o x hg=>gB.below hbt rfl hg) hbt.size));rw [←N2.out] at h;exact h
       have HC:=Hd hc;clear hc;go_wp2_with fail;refine (HC.out).mono ?_;rintro e wn ⟨rfl,hb⟩;replace lK:=Hd (lK.trans (hb.mono lK.size));replace Z1:=kX hb Z1;replace Z2:=kX hb Z2;clear u0 u1 u2 u3 u4 u5 u6 u7 v0 v1 v2 v3 v4 v5 v6 v7 l1 l2 hb HC ws;rename World=>ws;obtain ⟨u0,u1,u2,u3,u4,u5,u6,u7,-⟩:=q8 Z1.out;obtain ⟨v0,v1,v2,v3,v4,v5,v6,v7,-⟩:=q8 Z2.out;have l1:=lH Z1.out;have l2:=lH Z2.out
       have hc:Calls Tryz.prog 20 #[.slice P13 n3 c13,.slice P23 n3 c23] ws (EA ws):=by
        have hbt:=QJ.out _ lK.out;have h:=vW m.bF P13 c13 P23 c23 ws (by rw [←N3.out];exact (fK.below R13.out (fun g o x hg=>gB.below hbt rfl hg) hbt.size)) (by rw [←N3.out];exact (fK.below R23.out (fun g o x hg=>gB.below hbt rfl hg) hbt.size));rw [←N3.out] at h;exact h
       have HC:=Hd hc;clear hc;go_wp2_with fail;refine (HC.out).mono ?_;rintro e wn ⟨rfl,hb⟩;replace lK:=Hd (lK.trans (hb.mono lK.size));replace Z1:=kX hb Z1;replace Z2:=kX hb Z2;clear u0 u1 u2 u3 u4 u5 u6 u7 v0 v1 v2 v3 v4 v5 v6 v7 l1 l2 hb HC ws;rename World=>ws;obtain ⟨u0,u1,u2,u3,u4,u5,u6,u7,-⟩:=q8 Z1.out;obtain ⟨v0,v1,v2,v3,v4,v5,v6,v7,-⟩:=q8 Z2.out;have l1:=lH Z1.out;have l2:=lH Z2.out
       have hc:Calls Tryz.prog 19 #[.slice P14 n4 c14,.slice P24 n4 c24] ws (EA ws):=by
        have hbt:=QJ.out _ lK.out;have h:=J9 m.next P14 c14 P24 c24 ws (by rw [←N4.out];exact (fK.below R14.out (uD.below hbt) hbt.size)) (by rw [←N4.out];exact (fK.below R24.out (uD.below hbt) hbt.size));rw [←N4.out] at h;exact h
       have HC:=Hd hc;clear hc;go_wp2_with fail;refine (HC.out).mono ?_;rintro e wn ⟨rfl,hb⟩;replace lK:=Hd (lK.trans (hb.mono lK.size));replace Z1:=kX hb Z1;replace Z2:=kX hb Z2;clear u0 u1 u2 u3 u4 u5 u6 u7 v0 v1 v2 v3 v4 v5 v6 v7 l1 l2 hb HC ws;rename World=>ws;obtain ⟨u0,u1,u2,u3,u4,u5,u6,u7,-⟩:=q8 Z1.out;obtain ⟨v0,v1,v2,v3,v4,v5,v6,v7,-⟩:=q8 Z2.out;have l1:=lH Z1.out;have l2:=lH Z2.out
       have hc:Calls Tryz.prog 20 #[.slice P15 n5 c15,.slice P25 n5 c25] ws (EA ws):=by
        have hbt:=QJ.out _ lK.out;have h:=vW m.trans P15 c15 P25 c25 ws (by rw [←N5.out];exact (fK.below R15.out (fun g o x hg=>gB.below hbt rfl hg) hbt.size)) (by rw [←N5.out];exact (fK.below R25.out (fun g o x hg=>gB.below hbt rfl hg) hbt.size));rw [←N5.out] at h;exact h
       have HC:=Hd hc;clear hc;go_wp2_with fail;refine (HC.out).mono ?_;rintro e wn ⟨rfl,hb⟩;replace lK:=Hd (lK.trans (hb.mono lK.size));replace Z1:=kX hb Z1;replace Z2:=kX hb Z2;clear u0 u1 u2 u3 u4 u5 u6 u7 v0 v1 v2 v3 v4 v5 v6 v7 l1 l2 hb HC ws;rename World=>ws;obtain ⟨u0,u1,u2,u3,u4,u5,u6,u7,-⟩:=q8 Z1.out;obtain ⟨v0,v1,v2,v3,v4,v5,v6,v7,-⟩:=q8 Z2.out;have l1:=lH Z1.out;have l2:=lH Z2.out
       have hc:Calls Tryz.prog 20 #[.slice P16 n6 c16,.slice P26 n6 c26] ws (EA ws):=by
        have hbt:=QJ.out _ lK.out;have h:=vW m.fair P16 c16 P26 c26 ws (by rw [←N6.out];exact (fK.below R16.out (fun g o x hg=>gB.below hbt rfl hg) hbt.size)) (by rw [←N6.out];exact (fK.below R26.out (fun g o x hg=>gB.below hbt rfl hg) hbt.size));rw [←N6.out] at h;exact h
       have HC:=Hd hc;clear hc;go_wp2_with fail;refine (HC.out).mono ?_;rintro e wn ⟨rfl,hb⟩;replace lK:=Hd (lK.trans (hb.mono lK.size));replace Z1:=kX hb Z1;replace Z2:=kX hb Z2;clear u0 u1 u2 u3 u4 u5 u6 u7 v0 v1 v2 v3 v4 v5 v6 v7 l1 l2 hb HC ws;rename World=>ws;obtain ⟨u0,u1,u2,u3,u4,u5,u6,u7,-⟩:=q8 Z1.out;obtain ⟨v0,v1,v2,v3,v4,v5,v6,v7,-⟩:=q8 Z2.out;have l1:=lH Z1.out;have l2:=lH Z2.out;go_wp2_with fail;rw [HF.out];exact ⟨rfl,QJ.out _ lK.out⟩
abbrev ajH:=@q8
def IG:Md:=⟨[⟨⟨#[110]⟩,false,-1,2⟩],[],[],[],[⟨⟨#[110]⟩,j6 0⟩],[],[],[⟨⟨#[115]⟩,fT 7 [.mk 1 (dD 10 [iH 3 [110],j6 1]) []]⟩]⟩
theorem YW:parseM (bs ⟨#[118,97,114,32,110,32,58,32,45,49,32,46,46,32,50,59,32,110,101,120,116,32,110,32,58,61,32,48,59,32,115,112,101,99,32,115,32,58,32,69,70,32,91,110,32,61,32,49,93,59]⟩)=(IG,50,0):=by kernel_rfl
theorem aer:parseM (bs ⟨#[105,110,105,116,32,116,114,117,101]⟩)=(bG,9,16):=by kernel_rfl
theorem acg:kg IG=([118,97,114,32,110,32,58,32,45,49,32,46,46,32,50,32,59,10,110,101,120,116,32,110,32,58,61,32,48,32,59,10,115,112,101,99,32,115,32,58,32,69,70,32,91,110,32,61,32,49,93,32,59,10],0):=by kernel_rfl
theorem YZ:WZ IG:=⟨fun d h=>by simp [IG] at h;subst h;decide,fun d h=>by simp [IG] at h,fun d h=>by simp [IG] at h;subst h;decide,fun d h=>by simp [IG] at h;subst h;decide⟩
theorem Ux (hS:JQ IG) (w:World) (hT:Tables w):Calls Tryz.prog 7 #[] w (EA w):=by
 obtain ⟨F,HF⟩:=ak (EA w);rw [←HF.out];have HT:=Hd hT;have HS:=Hd hS
 have uy:Hid (Calls Tryz.prog 8 #[.string ⟨#[118,97,114,32,110,32,58,32,45,49,32,46,46,32,50,59,32,110,101,120,116,32,110,32,58,61,32,48,59,32,115,112,101,99,32,115,32,58,32,69,70,32,91,110,32,61,32,49,93,59]⟩] w (MpQ w (IG,50,0))):=by
  have h:=FW ⟨#[118,97,114,32,110,32,58,32,45,49,32,46,46,32,50,59,32,110,101,120,116,32,110,32,58,61,32,48,59,32,115,112,101,99,32,115,32,58,32,69,70,32,91,110,32,61,32,49,93,59]⟩ w (by unfold maxLen;show 50≤_;omega) hT;rw [YW] at h;exact h
 clear hT hS;go_enter Tryz.func7,Tryz.ntmps7;go_wp2_with fail;refine (uy.out).mono ?_;rintro e w1 ⟨V,X,G,B,R,rfl,hma,hgm,hB,jU,hb⟩;have hmd:=Ho hma hgm;simp only at hmd;simp only [J5];obtain ⟨A0,c0,e0,p0,q0,r0⟩:=hmd.vars;obtain ⟨A1,c1,e1,p1,q1,r1⟩:=hmd.defs;obtain ⟨A2,c2,e2,p2,q2,r2⟩:=hmd.init;obtain ⟨A3,c3,e3,p3,q3,r3⟩:=hmd.bF;obtain ⟨A4,c4,e4,p4,q4,r4⟩:=hmd.next;obtain ⟨A5,c5,e5,p5,q5,r5⟩:=hmd.trans;obtain ⟨A6,c6,e6,p6,q6,r6⟩:=hmd.fair;obtain ⟨A7,c7,e7,p7,q7,r7⟩:=hmd.specs;rw [show IG.vars.length=1 from rfl] at e0 p0;rw [show IG.defs.length=0 from rfl] at e1 p1;rw [show IG.init.length=0 from rfl] at e2 p2;rw [show IG.bF.length=0 from rfl] at e3 p3;rw [show IG.next.length=1 from rfl] at e4 p4;rw [show IG.trans.length=0 from rfl] at e5 p5;rw [show IG.fair.length=0 from rfl] at e6 p6;rw [show IG.specs.length=1 from rfl] at e7 p7;unfold maxLen at q0 q1 q2 q3 q4 q5 q6 q7;rw [e0,e1,e2,e3,e4,e5,e6,e7];obtain ⟨g,o,he,hgl,hrow⟩:=r0.resolve_left (by simp [IG]);have hv:=hrow 0 _ rfl;rw [Nat.zero_mul,Nat.add_zero] at hv;obtain ⟨x0,x1,x2,x3⟩:=hv;simp only at x0 x1 x2 x3;obtain ⟨b1,qY⟩:=ak w1.heap.size;obtain ⟨w2,HW2⟩:=ak (w1.alloc (.cells #[.slice A0 1 c0,.slice A1 0 c1,.slice A2 0 c2,.slice A3 0 c3,.slice A4 1 c4,.slice A5 0 c5,.slice A6 0 c6,.slice A7 1 c7] 28));have hb2:=dz HW2.out;have X1:=jZ HW2.out qY.out
 have hsh:=I7 V IG w2 (hmd.below hb2) HS.out YZ ((HT.below (hb.trans (hb2.mono hb.size))).ac7);rw [e0,e1,e2,e3,e4,e5,e6,e7,acg] at hsh;have HSH:=Hd hsh;have HB:=Hd (hb.trans (hb2.mono hb.size));have hnv:=aa6 ⟨#[110]⟩ false (-1) 2;subst he;have hgn:g≠w1.heap.size:=by omega
 clear hma hgm hmd e0 e1 r1 e2 r2 e3 r3 e4 r4 e5 r5 e6 r6 e7 r7 hrow hb2 hsh hB jU hb uy;obtain ⟨v0,v1,v2,v3,v4,v5,v6,v7,-⟩:=ajH X1.out;have l1:=lH X1.out;go_wp2_with fail;rw [←HW2.out]
 try rw [←qY.out]
 (try go_wp2_with fail);refine (HSH.out).mono ?_;rintro e w3 ⟨rfl,hb3⟩;have HB3:=kB HB hb3
 have HP2:Hid (Calls Tryz.prog 8 #[.string ⟨#[105,110,105,116,32,116,114,117,101]⟩] w3 (MpQ w3 (bG,9,16))):=by
  have h:=FW ⟨#[105,110,105,116,32,116,114,117,101]⟩ w3 (by unfold maxLen;show 9≤_;omega) (HT.below HB3.out);rw [aer] at h;exact h
 clear hb3 HSH v0 v1 v2 v3 v4 v5 v6 v7 l1 x0 x1 x2 x3;go_wp2_with fail;refine (HP2.out).mono ?_;rintro e w4 ⟨V,X,G,B,R,rfl,hma,hgm,hB,jU,hb⟩;have hmd:=Ho hma hgm;simp only at hmd;simp only [J5];obtain ⟨D0,d0,e0,-,-,-⟩:=hmd.vars;obtain ⟨D1,d1,e1,-,-,-⟩:=hmd.defs;obtain ⟨D2,d2,e2,-,-,-⟩:=hmd.init;obtain ⟨D3,d3,e3,-,-,-⟩:=hmd.bF;obtain ⟨D4,d4,e4,-,-,-⟩:=hmd.next;obtain ⟨D5,d5,e5,-,-,-⟩:=hmd.trans;obtain ⟨D6,d6,e6,-,-,-⟩:=hmd.fair;obtain ⟨D7,d7,e7,-,-,-⟩:=hmd.specs;rw [e0,e1,e2,e3,e4,e5,e6,e7];have BS:=kB HB3 hb;clear e0 e1 e2 e3 e4 e5 e6 e7 hmd hma hgm hB jU hb HP2;go_wp2_with fail;rw [HF.out];exact ⟨rfl,(kB BS (dz rfl)).out⟩
open Go.ChangeShapes Go.WideShapes Go.ChangeAt Go.RowKit
theorem Ik {α:Type} {Q:Nat→α→Prop}:∀ (n:Nat),(∀ i,i<n→∃ a,Q i a)→∃ l:List α,l.length=n∧∀ j a,l[j]?=some a→Q j a
 | 0,_=>⟨[],rfl,fun j a h=>by simp at h⟩
 | n+1,h=>by
  obtain ⟨l,hl,hq⟩:=Ik n (fun i hi=>h i (by omega));obtain ⟨a,ha⟩:=h n (by omega);refine ⟨l++[a],by simp [hl],fun j b hj=>?_⟩
  rcases Nat.lt_or_ge j l.length with hlt | hge
  · rw [List.getElem?_append_left hlt] at hj;exact hq j b hj
  · rw [List.getElem?_append_right hge] at hj
    have hj0:j - l.length=0:=by
     rcases Nat.eq_zero_or_pos (j - l.length) with h0 | h0
     · exact h0
     · rw [List.getElem?_eq_none (by simp;omega)] at hj;cases hj
    rw [hj0] at hj;simp at hj;subst hj;rw [show j=n from by omega];exact ha
section
variable {H:Type} {enc:TypeId×Value→H} {P:Program} {w:World} {base:Nat} {spare:Nat→Bool} {held:Bool}
theorem F8 {α:Type} {t e:TypeId} {k fuel:Nat} {cs:List Value} {x:DataW H×List MemPlace} (ht:P.underlying t=some (.slice e)) (hc:P.cellsOf e=k) (hk:0<k) (R:Nat→Nat→α→Prop)
 (hR:∀ n,fuel=n+1→∀ b o cs' y,b<w.heap.size→cs'.length=k→(∀ i,i<k→w.cell? ⟨b,o+i,none⟩=cs'[i]?)→DataW.trod enc P w base spare held n e cs'=some y→∃ a,R b o a)
 (h:DataW.trod enc P w base spare held fuel t cs=some x) :
 ∃ A c,∃ l:List α,cs=[.slice A l.length c]∧l.length≤c∧c≤maxLen∧(l=[]∨∃ b o,A=some ⟨b,o,none⟩∧b<w.heap.size∧∀ j a,l[j]?=some a→R b (o+k*j) a):=by
 rcases DataW.trod_slice ht h with ⟨rfl,-⟩ | ⟨a,len,cap,elems,rest,n,hf,rfl,hx,hb,hl,hm,hel,hes,-,-⟩
 · exact ⟨none,0,[],rfl,lr _,zl _,.inl rfl⟩
 · by_cases h0:len=0
   · subst h0;exact ⟨some a,cap,[],rfl,zl _,hm,.inl rfl⟩
   · rw [hc] at hes
     have hone:∀ i,i<len→∃ cs' y,w.cells? base (a.add (i*k)) k=some cs'∧DataW.trod enc P w base spare held n e cs'=some y:=fun i hi=>by
      have h1:=hes i hi;rw [gG (by omega)] at h1;obtain ⟨cs',h2,h3⟩:=Option.bind_eq_some_iff.1 h1;exact ⟨cs',_,h2,h3⟩
     obtain ⟨b,o,spot⟩:=a;obtain ⟨cs0,y0,h2,-⟩:=hone 0 (by omega);obtain ⟨-,g1,g2⟩:=World.cells?_some h2;have g3:=g2 0 hk;rw [gG (by omega)] at g3;have hspot:spot=none:=by simpa [Addr.add] using World.cell?_spot g3
     subst hspot
     have hlt:b<w.heap.size:=by
      have:=World.cells?_block h2 hk
      simpa [Addr.add] using this
     obtain ⟨l,hl1,hl2⟩:=Ik (Q:=fun i (a:α)=>R b (o+k*i) a) len (fun i hi=>by
      obtain ⟨cs',y,h4,h5⟩:=hone i hi;obtain ⟨-,e1,e2⟩:=World.cells?_some h4;refine hR n hf b (o+k*i) cs' y hlt e1 (fun i' hi'=>?_) h5;have:=e2 i' hi';rw [addr_add,addr_add] at this;rw [Nat.mul_comm k i]
      exact this)
     exact ⟨_,cap,l,by rw [hl1],by omega,hm,.inr ⟨b,o,rfl,hlt,hl2⟩⟩
end
theorem mX.mk:∀ {w:World} {l:List Tm} {g o:Nat},(∀ j t,l[j]?=some t→gB w g (o+4*j) t)→mX w g o l
 | w,[],g,o,h=>by rw [mX];trivial
 | w,t :: r,g,o,h=>by
  rw [mX];exact ⟨h 0 t rfl,mX.mk fun j x hj=>by rw [show o+4+4*j=o+4*(j+1) from by omega];exact h (j+1) x (by simpa using hj)⟩
section
variable {H:Type} {enc:TypeId×Value→H} {w:World} {base:Nat} {spare:Nat→Bool} {held:Bool}
theorem Vd:∀ (fuel:Nat) (cs:List Value) (x:DataW H×List MemPlace),DataW.trod enc Tryz.prog w base spare held fuel 64 cs=some x→∃ (t:Tm) (A:Option Addr) (c:Nat),cs=[.int .i64 t.op,.int .i64 t.num,.string t.name,.slice A t.kids.length c]∧zx w A c t:=by
 intro fuel
 induction fuel using Nat.strongRecOn with
 | _ fuel ih=>
  intro cs x h;obtain ⟨xs,n,hfu,-,hl,hxl,hf⟩:=DataW.trod_struct Tryz.underlying64 h;rw [show Tryz.prog.cellsOf 64=4 from by kernel_rfl] at hl
  obtain ⟨c0,c1,c2,c3,rfl⟩:∃ c0 c1 c2 c3,cs=[c0,c1,c2,c3]:=by
   match cs,hl with
   | [c0,c1,c2,c3],_=>exact ⟨c0,c1,c2,c3,rfl⟩
  obtain ⟨y0,y1,y2,y3,rfl⟩:∃ y0 y1 y2 y3,xs=[y0,y1,y2,y3]:=by
   match xs,hxl with
   | [c0,c1,c2,c3],_=>exact ⟨c0,c1,c2,c3,rfl⟩
  have f0:=hf 0 _ rfl;have f1:=hf 1 _ rfl;have f2:=hf 2 _ rfl;have f3:=hf 3 _ rfl;simp [show Tryz.prog.cellsOf 3=1 from by kernel_rfl,show Tryz.prog.cellsOf 9=1 from by kernel_rfl,show Tryz.prog.cellsOf 25=1 from by kernel_rfl] at f0 f1 f2 f3;obtain ⟨n0,e0,-,-⟩:=DataW.trod_int Tryz.underlying3 f0;obtain ⟨n1,e1,-,-⟩:=DataW.trod_int Tryz.underlying3 f1;obtain ⟨s,e2,-,hs⟩:=DataW.trod_string Tryz.underlying9 f2
  obtain ⟨A,c,l,e3,h1,h2,h3⟩:=F8 Tryz.underlying25 (show Tryz.prog.cellsOf 64=4 from by kernel_rfl) (by decide) (fun b o (t:Tm)=>gB w b o t) (fun m hm b o cs' y hb hcl hcells htr=>by
   obtain ⟨t,A',c',rfl,hV⟩:=ih m (by omega) cs' y htr;refine ⟨t,?_⟩;have g0:=hcells 0 (by omega);have g1:=hcells 1 (by omega);have g2:=hcells 2 (by omega);have g3:=hcells 3 (by omega)
   exact gB.mk g0 g1 g2 g3 hV) f3
  injection e0 with e0
  injection e1 with e1
  injection e2 with e2
  injection e3 with e3
  subst e0 e1 e2 e3;refine ⟨.mk n0 n1 s l,A,c,rfl,h1,h2,hs,?_⟩
  rcases h3 with h3 | ⟨b,o,rfl,hb,h3⟩
  · exact .inl h3
  · exact .inr ⟨b,o,rfl,hb,mX.mk h3⟩
end
theorem own:ownKnob Tryz.prog.godebug=none:=by kernel_rfl
theorem laidOut:laidOutB Tryz.prog=true:=by kernel_rfl
theorem E8 {H:Type} {enc:TypeId×Value→H} {w:World} {base:Nat} {sp:Nat→Bool} {held:Bool} {fuel:Nat} {t e:TypeId} {n:Nat} {cs:List Value} {l:List ByteArray} {p:List MemPlace}
 (ht:Tryz.prog.underlying t=some (.array n e)) (he:Tryz.prog.underlying e=some .string) (hce:Tryz.prog.cellsOf e=1)
 (h:DataW.trod enc Tryz.prog w base sp held fuel t cs=some (.agg (l.map fun s=>.lit (.string s.data.toList)),p)):∀ j,j<l.length→cs[j]?=some (.string (l.getD j ByteArray.empty)):=by
 obtain ⟨xs,m,rfl,hx,hl,hxl,hall⟩:=DataW.trod_array ht h
 have hxs:xs.map (·.1)=l.map fun s=>(DataW.lit (.string s.data.toList):DataW H):=by
  have:=congrArg Prod.fst hx
  simpa using this.symm
 have hzl:l.length=n:=by
  have:=congrArg List.length hxs;simp at this;omega
 intro j hj;have h1:=hall j (by omega);obtain ⟨b,hb⟩:∃ b,xs[j]?=some b:=⟨xs[j]'(by omega),gG (by omega)⟩;rw [hb,hce] at h1;obtain ⟨s,hcs,rfl,_⟩:=DataW.trod_string he h1
 have h2:cs[j]?=some (.string s):=by
  have:=congrArg (·[0]?) hcs
  simpa [List.getElem?_take,List.getElem?_drop] using this
 have h3:(xs.map (·.1))[j]?=some (DataW.lit (.string s.data.toList):DataW H):=by simp [hb]
 rw [hxs] at h3;simp only [List.getElem?_map,Option.map_eq_some_iff,DataW.lit.injEq,Lit.string.injEq] at h3;obtain ⟨z,hz,hzs⟩:=h3;have:z=s:=gV hzs;subst this;rw [h2];simp [List.getD,hz]
theorem Kv {W : World} (h1 : Lib.VarReads Tryz.prog W "voussoir/lexi.words" Rows.laid_voussoir_lexi_words) (h2 : Lib.VarReads Tryz.prog W "voussoir/lexi.signs" Rows.laid_voussoir_lexi_signs) : Tables W := by
 obtain ⟨g, t, cs, fuel, p, hg, ht, hv, hd⟩ := h1;obtain rfl := Option.some.inj ((show Tryz.prog.globalNamed "voussoir/lexi.words" = some 0 by kernel_rfl).symm.trans hg);obtain rfl := Option.some.inj ((show (Tryz.prog.globals[0]?).map (·.type) = some 134 by kernel_rfl).symm.trans ht);have c1 := E8 (l := lC) Tryz.underlying134 Tryz.underlying9 (by kernel_rfl) hd
 have d1:∀ j,j<24→W.cell? ⟨0,j,none⟩=some (.string (lC.getD j ByteArray.empty)):=fun j hj=>by
  have h3:=World.var?_cell hg hv j;rw [h3,←Array.getElem?_toList];exact c1 j hj
 obtain ⟨g, t, cs, fuel, p, hg, ht, hv, hd⟩ := h2;obtain rfl := Option.some.inj ((show Tryz.prog.globalNamed "voussoir/lexi.signs" = some 1 by kernel_rfl).symm.trans hg);obtain rfl := Option.some.inj ((show (Tryz.prog.globals[1]?).map (·.type) = some 138 by kernel_rfl).symm.trans ht);have c2 := E8 (l := gQ) Tryz.underlying138 Tryz.underlying9 (by kernel_rfl) hd
 have d2:∀ j,j<21→W.cell? ⟨1,j,none⟩=some (.string (gQ.getD j ByteArray.empty)):=fun j hj=>by
  have h3:=World.var?_cell hg hv j;rw [h3,←Array.getElem?_toList];exact c2 j hj
 exact ⟨World.block_lt_of_cell? W _ (d2 0 (by omega)),d1,d2⟩
section
variable {H:Type} {enc:TypeId×Value→H} {W:World} {base:Nat} {v:Value} {d:DataW H} {p:List MemPlace}
end
end Go.Proofs.YtkhoeoilamddaaaGreatDoor
