/- Walks: ref30.Same, ref32.term, ref32.Same at two terms or formulas that are the same. -/
import Derived.Test.YtkhoeoilamddaaaGreatDoorVSm2
import Derived.Test.YtkhoeoilamddaaaGreatDoorVFsM
import Derived.Deep.RegionHeld
import Derived.Test.YtkhoeoilamddaaaGreatDoorVSml
namespace Go.Proofs.YtkhoeoilamddaaaGreatDoor
open Go.RowKit
set_option linter.unusedVariables false
set_option linter.unusedSimpArgs false
set_option maxRecDepth 100000
set_option maxHeartbeats 8000000
theorem tLMsA {o:Array Oper} {i:Nat} {x:Oper} (h:o.toList[i]?=some x):o[i]?=some x:=by simpa using h
def SmQ (w:World) (e:Ending) (w':World):Prop:=e=.returned (.bool true)∧Below w.heap.size w w'
theorem below_all {w w':World} {g:Nat} (h:Below w.heap.size w w') (hg:g<w.heap.size) (j:Nat):w'.cell? ⟨g,j,none⟩=w.cell? ⟨g,j,none⟩:=h.cell (p:=⟨g,j,none⟩) hg
theorem rsame30_any:∀ (N:Nat) (t:Tm) (A1:Option Addr) (c1:Nat) (A2:Option Addr) (c2:Nat) (w:World),t.size≤N→TmV w A1 c1 t→TmV w A2 c2 t→Calls Tryz.prog 54 #[t.val A1 c1,t.val A2 c2] w (SmQ w):=by
 intro N
 induction N with
 | zero=>intro t A1 c1 A2 c2 w hN;cases t;rw [Tm.size] at hN;omega
 | succ N ih=>
  intro t A1 c1 A2 c2 w hN hV1 hV2;have HNN:=Hd hN;have hsz:t.size=1+Tm.sizeL t.kids:=by cases t;rw [Tm.size];rfl
  have HSZ:=Hd hsz;obtain ⟨F,HF⟩:=exh_ (SmQ w);rw [←HF.out];unfold Tm.val;obtain ⟨n,hn⟩:=ex_ t.kids.length;have hcap1:=hV1.cap;have hcap2:=hV2.cap;have hcapm1:=hV1.capm;have hcapm2:=hV2.capm;unfold maxLen at hcapm1 hcapm2;have HK1:=Hd hV1.kids;have HK2:=Hd hV2.kids;rw [←hn] at hcap1 hcap2;obtain ⟨b1,hb1⟩:=ex_ w.heap.size;obtain ⟨w1,hw1⟩:=ex_ (w.alloc (.cells #[.int .i64 t.op,.int .i64 t.num,.string t.name,.slice A1 n c1] 64));obtain ⟨b2,hb2⟩:=ex_ (b1+1);obtain ⟨w2,hw2⟩:=ex_ (w1.alloc (.cells #[.int .i64 t.op,.int .i64 t.num,.string t.name,.slice A2 n c2] 64));have hs1:=sAl hw1;have hs2:=sAl hw2;have X1:=kX (bAl hw2) (nAl hw1 hb1);have X2:=nAl hw2 (show b2=w1.heap.size by omega);have HBA:=Hd (Below.trans (bAl hw1) ((bAl hw2).mono (show w.heap.size≤w1.heap.size by omega)));have HW1:=Hd hw1;have HW2:=Hd hw2;have HB1:=Hd hb1;have HB2:=Hd hb2;have HN:=Hd hn;have HWW:=Hd (show w.heap.size≤w2.heap.size by omega);rw [←hn];clear hsz hN hb1 hb2 hw1 hw2 hs1 hs2 hn hV1 hV2;obtain ⟨u0,u1,u2,u3,-⟩:=q4 X1.out;obtain ⟨v0,v1,v2,v3,-⟩:=q4 X2.out;have l1:=lH X1.out;have l2:=lH X2.out;have hne:b1≠b2:=by have:=HB2.out;omega
  go_enter Tryz.func54,Tryz.ntmps54;go_wp2_with fail;rw [←HW1.out,←HB1.out];try go_wp2_with fail
  try rw [←HW2.out,←HB2.out]
  (try go_wp2_with fail);clear u0 u1 u2 u3 v0 v1 v2 v3 l1 l2
  go_loopw [5] (fun si wr=>∃ k:Nat,k≤n∧si=.int .i64 k∧Below w2.heap.size w2 wr) (fun i _=>n - (intOf i).toNat)
  case atStart=>exact ⟨0,zl _,rfl,Br _ _⟩
  case round=>
   obtain ⟨k,hk,rfl,hbel⟩:=hrel;have Z1:=kX hbel X1;have Z2:=kX hbel X2;have hbt:Below w.heap.size w wr:=HBA.out.trans (hbel.mono HWW.out);have kb1:=cel Z1.out 3 rfl;have kb2:=cel Z2.out 3 rfl;have l1:=lH Z1.out;have l2:=lH Z2.out
   by_cases hlt:k<n
   · obtain ⟨q,hq⟩:∃ q,t.kids[k]?=some q:=⟨_,gG (by have:=HN.out;omega)⟩
     rcases HK1.out with h9 | ⟨g1,o1,rfl,hg1,hr1⟩
     · rw [h9] at hq;simp at hq
     rcases HK2.out with h9 | ⟨g2,o2,rfl,hg2,hr2⟩
     · rw [h9] at hq;simp at hq
     obtain ⟨x10,x11,x12,B1,d1,x13,hv1⟩:=((hr1.get hq).below hbt rfl hg1).open;rw [Nat.mul_comm 4 k] at x10 x11 x12 x13;have hl1:g1<wr.heap.size:=lL hg1 hbt.size;obtain ⟨x20,x21,x22,B2,d2,x23,hv2⟩:=((hr2.get hq).below hbt rfl hg2).open;rw [Nat.mul_comm 4 k] at x20 x21 x22 x23;have hl2:g2<wr.heap.size:=lL hg2 hbt.size;obtain ⟨nq,hnq⟩:=ex_ q.kids.length
     have HC:Hid (∀ W,Below wr.heap.size wr W→Calls Tryz.prog 54 #[.agg #[.int .i64 q.op,.int .i64 q.num,.string q.name,.slice B1 nq d1],.agg #[.int .i64 q.op,.int .i64 q.num,.string q.name,.slice B2 nq d2]] W (SmQ W)):=fun W hb=>by
      have h:=ih q B1 d1 B2 d2 W (by have h1:=Tm.sizeL_mem (mG hq);have:=HNN.out;have:=HSZ.out;omega) (hv1.below hb rfl) (hv2.below hb rfl);unfold Tm.val at h;rw [←hnq] at h;exact h
     rw [←hnq] at x13 x23;have HBT:=Hd hbt;have HBE:=Hd hbel;have hk0:(0:Int)≤(k:Int):=by omega
     have hk1:(k:Int)<(n:Int):=by omega
     clear hnq hq hv1 hv2 hr1 hr2 hg1 hg2 hbel hbt Z1 Z2;go_wp2_with fail;refine wp_region_held_drew (S:=fun W=>Below wr.heap.size wr W) (by kernel_rfl) (Br _ _).drew (fun hHeld=>?_);obtain ⟨Wc,hWc⟩:=ex_ wr.drew;rw [←hWc] at hHeld ⊢;clear hWc
     repeat
      (first | refine tkI 0 (v:=?_) rfl ?hy ?_ | refine tkI 1 (v:=?_) rfl ?hy ?_ | refine tkI 2 (v:=?_) rfl ?hy ?_ | refine tkI 3 (v:=?_) rfl ?hy ?_ | refine tkI 4 (v:=?_) rfl ?hy ?_ | refine tkI 5 (v:=?_) rfl ?hy ?_ | refine tkI 6 (v:=?_) rfl ?hy ?_ | refine tkI 7 (v:=?_) rfl ?hy ?_ | refine tkI 8 (v:=?_) rfl ?hy ?_ | refine tkI 9 (v:=?_) rfl ?hy ?_ | refine tkI 11 (v:=?_) rfl ?hy ?_
       case hy=>
        intro w0 hS;have e1:=below_all hS l1;have e2:=below_all hS l2;have e3:=below_all hS hl1;have e4:=below_all hS hl2;clear hS;go_simp
        (first | done | with_reducible rfl)
       try simp only [Act.put,sAr,sZe,sSu])
     iterate 1
      all_goals first
       | refine Rd (rs:=[10]) (by decide +kernel) (by simp) (Rc (tLMsA rfl) (fun K hK=>?_) Rn)
       | fail
      all_goals first
       | (go_simp
          (with_reducible refine (HC.out _ hHeld).mono ?_);rintro e We ⟨rfl,hb5⟩;have hb6:=hHeld.trans (hb5.mono hHeld.size);clear hHeld;refine hK.out _ _ hb6 (fun hHeld=>?_);clear hK K hb5 hb6
          try simp only [Act.put,sAr,sZe,sSu])
       | fail
      all_goals
       repeat
        (first | refine tkI 0 (v:=?_) rfl ?hy ?_ | refine tkI 1 (v:=?_) rfl ?hy ?_ | refine tkI 2 (v:=?_) rfl ?hy ?_ | refine tkI 3 (v:=?_) rfl ?hy ?_ | refine tkI 4 (v:=?_) rfl ?hy ?_ | refine tkI 5 (v:=?_) rfl ?hy ?_ | refine tkI 6 (v:=?_) rfl ?hy ?_ | refine tkI 7 (v:=?_) rfl ?hy ?_ | refine tkI 8 (v:=?_) rfl ?hy ?_ | refine tkI 9 (v:=?_) rfl ?hy ?_ | refine tkI 11 (v:=?_) rfl ?hy ?_
         case hy=>
          intro w0 hS;have e1:=below_all hS l1;have e2:=below_all hS l2;have e3:=below_all hS hl1;have e4:=below_all hS hl2;clear hS;go_simp
          (first | done | with_reducible rfl)
         try simp only [Act.put,sAr,sZe,sSu])
     all_goals refine wpAnyH_done (by decide +kernel) ?_ _
     all_goals
      go_wp2_with fail
      go_round
      case rel=>exact ⟨k+1,by omega,by go_num,HBE.out.trans (hHeld.mono HBE.out.size)⟩
      case measure=>simp [intOf];omega
   · have hkn:k=n:=by omega
     subst hkn;have hlt2:¬(k:Int)<(k:Int):=by omega
     have HBT:=Hd hbt;clear hbel hbt Z1 Z2;go_wp2_with fail;rw [HF.out];exact ⟨rfl,HBT.out⟩
theorem rterm32_any:∀ (N:Nat) (t:Tm) (A1:Option Addr) (c1:Nat) (A2:Option Addr) (c2:Nat) (w:World),t.size≤N→TmV w A1 c1 t→TmV w A2 c2 t→Calls Tryz.prog 53 #[t.val A1 c1,t.val A2 c2] w (SmQ w):=by
 intro N
 induction N with
 | zero=>intro t A1 c1 A2 c2 w hN;cases t;rw [Tm.size] at hN;omega
 | succ N ih=>
  intro t A1 c1 A2 c2 w hN hV1 hV2;have HNN:=Hd hN;have hsz:t.size=1+Tm.sizeL t.kids:=by cases t;rw [Tm.size];rfl
  have HSZ:=Hd hsz;obtain ⟨F,HF⟩:=exh_ (SmQ w);rw [←HF.out];unfold Tm.val;obtain ⟨n,hn⟩:=ex_ t.kids.length;have hcap1:=hV1.cap;have hcap2:=hV2.cap;have hcapm1:=hV1.capm;have hcapm2:=hV2.capm;unfold maxLen at hcapm1 hcapm2;have HK1:=Hd hV1.kids;have HK2:=Hd hV2.kids;rw [←hn] at hcap1 hcap2;obtain ⟨b1,hb1⟩:=ex_ w.heap.size;obtain ⟨w1,hw1⟩:=ex_ (w.alloc (.cells #[.int .i64 t.op,.int .i64 t.num,.string t.name,.slice A1 n c1] 64));obtain ⟨b2,hb2⟩:=ex_ (b1+1);obtain ⟨w2,hw2⟩:=ex_ (w1.alloc (.cells #[.int .i64 t.op,.int .i64 t.num,.string t.name,.slice A2 n c2] 64));have hs1:=sAl hw1;have hs2:=sAl hw2;have X1:=kX (bAl hw2) (nAl hw1 hb1);have X2:=nAl hw2 (show b2=w1.heap.size by omega);have HBA:=Hd (Below.trans (bAl hw1) ((bAl hw2).mono (show w.heap.size≤w1.heap.size by omega)));have HW1:=Hd hw1;have HW2:=Hd hw2;have HB1:=Hd hb1;have HB2:=Hd hb2;have HN:=Hd hn;have HWW:=Hd (show w.heap.size≤w2.heap.size by omega);rw [←hn];clear hsz hN hb1 hb2 hw1 hw2 hs1 hs2 hn hV1 hV2;obtain ⟨u0,u1,u2,u3,-⟩:=q4 X1.out;obtain ⟨v0,v1,v2,v3,-⟩:=q4 X2.out;have l1:=lH X1.out;have l2:=lH X2.out;have hne:b1≠b2:=by have:=HB2.out;omega
  go_enter Tryz.func53,Tryz.ntmps53;go_wp2_with fail;rw [←HW1.out,←HB1.out];try go_wp2_with fail
  try rw [←HW2.out,←HB2.out]
  (try go_wp2_with fail);clear u0 u1 u2 u3 v0 v1 v2 v3 l1 l2
  go_loopw [5] (fun si wr=>∃ k:Nat,k≤n∧si=.int .i64 k∧Below w2.heap.size w2 wr) (fun i _=>n - (intOf i).toNat)
  case atStart=>exact ⟨0,zl _,rfl,Br _ _⟩
  case round=>
   obtain ⟨k,hk,rfl,hbel⟩:=hrel;have Z1:=kX hbel X1;have Z2:=kX hbel X2;have hbt:Below w.heap.size w wr:=HBA.out.trans (hbel.mono HWW.out);have kb1:=cel Z1.out 3 rfl;have kb2:=cel Z2.out 3 rfl;have l1:=lH Z1.out;have l2:=lH Z2.out
   by_cases hlt:k<n
   · obtain ⟨q,hq⟩:∃ q,t.kids[k]?=some q:=⟨_,gG (by have:=HN.out;omega)⟩
     rcases HK1.out with h9 | ⟨g1,o1,rfl,hg1,hr1⟩
     · rw [h9] at hq;simp at hq
     rcases HK2.out with h9 | ⟨g2,o2,rfl,hg2,hr2⟩
     · rw [h9] at hq;simp at hq
     obtain ⟨x10,x11,x12,B1,d1,x13,hv1⟩:=((hr1.get hq).below hbt rfl hg1).open;rw [Nat.mul_comm 4 k] at x10 x11 x12 x13;have hl1:g1<wr.heap.size:=lL hg1 hbt.size;obtain ⟨x20,x21,x22,B2,d2,x23,hv2⟩:=((hr2.get hq).below hbt rfl hg2).open;rw [Nat.mul_comm 4 k] at x20 x21 x22 x23;have hl2:g2<wr.heap.size:=lL hg2 hbt.size;obtain ⟨nq,hnq⟩:=ex_ q.kids.length
     have HC:Hid (∀ W,Below wr.heap.size wr W→Calls Tryz.prog 53 #[.agg #[.int .i64 q.op,.int .i64 q.num,.string q.name,.slice B1 nq d1],.agg #[.int .i64 q.op,.int .i64 q.num,.string q.name,.slice B2 nq d2]] W (SmQ W)):=fun W hb=>by
      have h:=ih q B1 d1 B2 d2 W (by have h1:=Tm.sizeL_mem (mG hq);have:=HNN.out;have:=HSZ.out;omega) (hv1.below hb rfl) (hv2.below hb rfl);unfold Tm.val at h;rw [←hnq] at h;exact h
     rw [←hnq] at x13 x23;have HBT:=Hd hbt;have HBE:=Hd hbel;have hk0:(0:Int)≤(k:Int):=by omega
     have hk1:(k:Int)<(n:Int):=by omega
     clear hnq hq hv1 hv2 hr1 hr2 hg1 hg2 hbel hbt Z1 Z2;go_wp2_with fail;refine wp_region_held_drew (S:=fun W=>Below wr.heap.size wr W) (by kernel_rfl) (Br _ _).drew (fun hHeld=>?_);obtain ⟨Wc,hWc⟩:=ex_ wr.drew;rw [←hWc] at hHeld ⊢;clear hWc
     repeat
      (first | refine tkI 0 (v:=?_) rfl ?hy ?_ | refine tkI 1 (v:=?_) rfl ?hy ?_ | refine tkI 2 (v:=?_) rfl ?hy ?_ | refine tkI 3 (v:=?_) rfl ?hy ?_ | refine tkI 4 (v:=?_) rfl ?hy ?_ | refine tkI 5 (v:=?_) rfl ?hy ?_ | refine tkI 6 (v:=?_) rfl ?hy ?_ | refine tkI 7 (v:=?_) rfl ?hy ?_ | refine tkI 8 (v:=?_) rfl ?hy ?_ | refine tkI 9 (v:=?_) rfl ?hy ?_ | refine tkI 11 (v:=?_) rfl ?hy ?_
       case hy=>
        intro w0 hS;have e1:=below_all hS l1;have e2:=below_all hS l2;have e3:=below_all hS hl1;have e4:=below_all hS hl2;clear hS;go_simp
        (first | done | with_reducible rfl)
       try simp only [Act.put,sAr,sZe,sSu])
     iterate 1
      all_goals first
       | refine Rd (rs:=[10]) (by decide +kernel) (by simp) (Rc (tLMsA rfl) (fun K hK=>?_) Rn)
       | fail
      all_goals first
       | (go_simp
          (with_reducible refine (HC.out _ hHeld).mono ?_);rintro e We ⟨rfl,hb5⟩;have hb6:=hHeld.trans (hb5.mono hHeld.size);clear hHeld;refine hK.out _ _ hb6 (fun hHeld=>?_);clear hK K hb5 hb6
          try simp only [Act.put,sAr,sZe,sSu])
       | fail
      all_goals
       repeat
        (first | refine tkI 0 (v:=?_) rfl ?hy ?_ | refine tkI 1 (v:=?_) rfl ?hy ?_ | refine tkI 2 (v:=?_) rfl ?hy ?_ | refine tkI 3 (v:=?_) rfl ?hy ?_ | refine tkI 4 (v:=?_) rfl ?hy ?_ | refine tkI 5 (v:=?_) rfl ?hy ?_ | refine tkI 6 (v:=?_) rfl ?hy ?_ | refine tkI 7 (v:=?_) rfl ?hy ?_ | refine tkI 8 (v:=?_) rfl ?hy ?_ | refine tkI 9 (v:=?_) rfl ?hy ?_ | refine tkI 11 (v:=?_) rfl ?hy ?_
         case hy=>
          intro w0 hS;have e1:=below_all hS l1;have e2:=below_all hS l2;have e3:=below_all hS hl1;have e4:=below_all hS hl2;clear hS;go_simp
          (first | done | with_reducible rfl)
         try simp only [Act.put,sAr,sZe,sSu])
     all_goals refine wpAnyH_done (by decide +kernel) ?_ _
     all_goals
      go_wp2_with fail
      go_round
      case rel=>exact ⟨k+1,by omega,by go_num,HBE.out.trans (hHeld.mono HBE.out.size)⟩
      case measure=>simp [intOf];omega
   · have hkn:k=n:=by omega
     subst hkn;have hlt2:¬(k:Int)<(k:Int):=by omega
     have HBT:=Hd hbt;clear hbel hbt Z1 Z2;go_wp2_with fail;rw [HF.out];exact ⟨rfl,HBT.out⟩
theorem rfsame_any:∀ (N:Nat) (t:Fm) (Ae1:Option Addr) (ce1:Nat) (A1:Option Addr) (c1:Nat) (Ae2:Option Addr) (ce2:Nat) (A2:Option Addr) (c2:Nat) (w:World),t.size≤N→FmV w Ae1 ce1 A1 c1 t→FmV w Ae2 ce2 A2 c2 t→Calls Tryz.prog 18 #[t.val Ae1 ce1 A1 c1,t.val Ae2 ce2 A2 c2] w (SmQ w):=by
 intro N
 induction N with
 | zero=>intro t Ae1 ce1 A1 c1 Ae2 ce2 A2 c2 w hN;cases t;rw [Fm.size] at hN;omega
 | succ N ih=>
  intro t Ae1 ce1 A1 c1 Ae2 ce2 A2 c2 w hN hV1 hV2;have HNN:=Hd hN;have hsz:t.size=1+Fm.sizeL t.kids:=by cases t;rw [Fm.size];rfl
  have HSZ:=Hd hsz;obtain ⟨F,HF⟩:=exh_ (SmQ w);rw [←HF.out];unfold Fm.val;obtain ⟨n,hn⟩:=ex_ t.kids.length;obtain ⟨m1,hm⟩:=ex_ t.tm.kids.length;obtain ⟨m2,hm2⟩:=ex_ m1;have hcap1:=hV1.cap;have hcap2:=hV2.cap;have hcapm1:=hV1.capm;have hcapm2:=hV2.capm;unfold maxLen at hcapm1 hcapm2;have HK1:=Hd hV1.kids;have HK2:=Hd hV2.kids;rw [←hn] at hcap1 hcap2;obtain ⟨b1,hb1⟩:=ex_ w.heap.size;obtain ⟨w1,hw1⟩:=ex_ (w.alloc (.cells #[.int .i64 t.op,.int .i64 t.tm.op,.int .i64 t.tm.num,.string t.tm.name,.slice Ae1 m1 ce1,.slice A1 n c1] 67));obtain ⟨b2,hb2⟩:=ex_ (b1+1);obtain ⟨w2,hw2⟩:=ex_ (w1.alloc (.cells #[.int .i64 t.op,.int .i64 t.tm.op,.int .i64 t.tm.num,.string t.tm.name,.slice Ae2 m1 ce2,.slice A2 n c2] 67));have hs1:=sAl hw1;have hs2:=sAl hw2;have X1:=kX (bAl hw2) (nAl hw1 hb1);have X2:=nAl hw2 (show b2=w1.heap.size by omega);have HBA:=Hd (Below.trans (bAl hw1) ((bAl hw2).mono (show w.heap.size≤w1.heap.size by omega)));have HW1:=Hd hw1;have HW2:=Hd hw2;have HB1:=Hd hb1;have HB2:=Hd hb2;have HN:=Hd hn;have HWW:=Hd (show w.heap.size≤w2.heap.size by omega)
  have HTM:Hid (∀ W,Below w.heap.size w W→Calls Tryz.prog 53 #[.agg #[.int .i64 t.tm.op,.int .i64 t.tm.num,.string t.tm.name,.slice Ae1 m1 ce1],.agg #[.int .i64 t.tm.op,.int .i64 t.tm.num,.string t.tm.name,.slice Ae2 m1 ce2]] W (SmQ W)):=fun W hb=>by
   have h:=rterm32_any t.tm.size t.tm Ae1 ce1 Ae2 ce2 W (lr _) (hV1.tm.below hb rfl) (hV2.tm.below hb rfl);unfold Tm.val at h;rw [←hm] at h;exact h
  rw [←hn,←hm];clear hm hm2 m2 hsz hN hb1 hb2 hw1 hw2 hs1 hs2 hn hV1 hV2;obtain ⟨u0,u1,u2,u3,u4,u5,-⟩:=q6 X1.out;obtain ⟨v0,v1,v2,v3,v4,v5,-⟩:=q6 X2.out;have l1:=lH X1.out;have l2:=lH X2.out;have hne:b1≠b2:=by have:=HB2.out;omega
  go_enter Tryz.func18,Tryz.ntmps18;go_wp2_with fail;rw [←HW1.out,←HB1.out];try go_wp2_with fail
  try rw [←HW2.out,←HB2.out]
  (try go_wp2_with fail);refine (HTM.out _ HBA.out).mono ?_;rintro e w3 ⟨rfl,hb3⟩;replace HBA:=Hd (HBA.out.trans (hb3.mono HWW.out));replace X1:=kX hb3 X1;replace X2:=kX hb3 X2;replace HWW:=Hd (Nat.le_trans HWW.out hb3.size);clear hb3 u0 u1 u2 u3 u4 u5 v0 v1 v2 v3 v4 v5 l1 l2 HTM HW1 HW2;obtain ⟨u0,u1,u2,u3,u4,u5,-⟩:=q6 X1.out;obtain ⟨v0,v1,v2,v3,v4,v5,-⟩:=q6 X2.out;have l1:=lH X1.out;have l2:=lH X2.out;go_wp2_with fail;clear u0 u1 u2 u3 u4 u5 v0 v1 v2 v3 v4 v5 l1 l2
  go_loopw [5] (fun si wr=>∃ k:Nat,k≤n∧si=.int .i64 k∧Below w3.heap.size w3 wr) (fun i _=>n - (intOf i).toNat)
  case atStart=>exact ⟨0,zl _,rfl,Br _ _⟩
  case round=>
   obtain ⟨k,hk,rfl,hbel⟩:=hrel;have Z1:=kX hbel X1;have Z2:=kX hbel X2;have hbt:Below w.heap.size w wr:=HBA.out.trans (hbel.mono HWW.out);have kb1:=cel Z1.out 5 rfl;have kb2:=cel Z2.out 5 rfl;have l1:=lH Z1.out;have l2:=lH Z2.out
   by_cases hlt:k<n
   · obtain ⟨q,hq⟩:∃ q,t.kids[k]?=some q:=⟨_,gG (by have:=HN.out;omega)⟩
     rcases HK1.out with h9 | ⟨g1,o1,rfl,hg1,hr1⟩
     · rw [h9] at hq;simp at hq
     rcases HK2.out with h9 | ⟨g2,o2,rfl,hg2,hr2⟩
     · rw [h9] at hq;simp at hq
     obtain ⟨x10,x11,x12,x13,Be1,de1,B1,d1,x14,x15,hv1⟩:=((hr1.get hq).below hbt rfl hg1).open;rw [Nat.mul_comm 6 k] at x10 x11 x12 x13 x14 x15;have hl1:g1<wr.heap.size:=lL hg1 hbt.size;obtain ⟨x20,x21,x22,x23,Be2,de2,B2,d2,x24,x25,hv2⟩:=((hr2.get hq).below hbt rfl hg2).open;rw [Nat.mul_comm 6 k] at x20 x21 x22 x23 x24 x25;have hl2:g2<wr.heap.size:=lL hg2 hbt.size;obtain ⟨nq,hnq⟩:=ex_ q.kids.length;obtain ⟨me,hme⟩:=ex_ q.tm.kids.length;rw [←hme] at x14 x24
     have HC:Hid (∀ W,Below wr.heap.size wr W→Calls Tryz.prog 18 #[.agg #[.int .i64 q.op,.int .i64 q.tm.op,.int .i64 q.tm.num,.string q.tm.name,.slice Be1 me de1,.slice B1 nq d1],.agg #[.int .i64 q.op,.int .i64 q.tm.op,.int .i64 q.tm.num,.string q.tm.name,.slice Be2 me de2,.slice B2 nq d2]] W (SmQ W)):=fun W hb=>by
      have h:=ih q Be1 de1 B1 d1 Be2 de2 B2 d2 W (by have h1:=Fm.sizeL_mem (mG hq);have:=HNN.out;have:=HSZ.out;omega) (hv1.below hb rfl) (hv2.below hb rfl);unfold Fm.val at h;rw [←hnq,←hme] at h;exact h
     rw [←hnq] at x15 x25;have HBT:=Hd hbt;have HBE:=Hd hbel;have hk0:(0:Int)≤(k:Int):=by omega
     have hk1:(k:Int)<(n:Int):=by omega
     clear hnq hme hq hv1 hv2 hr1 hr2 hg1 hg2 hbel hbt Z1 Z2;go_wp2_with fail;refine wp_region_held_drew (S:=fun W=>Below wr.heap.size wr W) (by kernel_rfl) (Br _ _).drew (fun hHeld=>?_);obtain ⟨Wc,hWc⟩:=ex_ wr.drew;rw [←hWc] at hHeld ⊢;clear hWc
     repeat
      (first | refine tkI 0 (v:=?_) rfl ?hy ?_ | refine tkI 1 (v:=?_) rfl ?hy ?_ | refine tkI 2 (v:=?_) rfl ?hy ?_ | refine tkI 3 (v:=?_) rfl ?hy ?_ | refine tkI 4 (v:=?_) rfl ?hy ?_ | refine tkI 5 (v:=?_) rfl ?hy ?_ | refine tkI 6 (v:=?_) rfl ?hy ?_ | refine tkI 7 (v:=?_) rfl ?hy ?_ | refine tkI 8 (v:=?_) rfl ?hy ?_ | refine tkI 9 (v:=?_) rfl ?hy ?_ | refine tkI 11 (v:=?_) rfl ?hy ?_
       case hy=>
        intro w0 hS;have e1:=below_all hS l1;have e2:=below_all hS l2;have e3:=below_all hS hl1;have e4:=below_all hS hl2;clear hS;go_simp
        (first | done | with_reducible rfl)
       try simp only [Act.put,sAr,sZe,sSu])
     iterate 1
      all_goals first
       | refine Rd (rs:=[10]) (by decide +kernel) (by simp) (Rc (tLMsA rfl) (fun K hK=>?_) Rn)
       | fail
      all_goals first
       | (go_simp
          (with_reducible refine (HC.out _ hHeld).mono ?_);rintro e We ⟨rfl,hb5⟩;have hb6:=hHeld.trans (hb5.mono hHeld.size);clear hHeld;refine hK.out _ _ hb6 (fun hHeld=>?_);clear hK K hb5 hb6
          try simp only [Act.put,sAr,sZe,sSu])
       | fail
      all_goals
       repeat
        (first | refine tkI 0 (v:=?_) rfl ?hy ?_ | refine tkI 1 (v:=?_) rfl ?hy ?_ | refine tkI 2 (v:=?_) rfl ?hy ?_ | refine tkI 3 (v:=?_) rfl ?hy ?_ | refine tkI 4 (v:=?_) rfl ?hy ?_ | refine tkI 5 (v:=?_) rfl ?hy ?_ | refine tkI 6 (v:=?_) rfl ?hy ?_ | refine tkI 7 (v:=?_) rfl ?hy ?_ | refine tkI 8 (v:=?_) rfl ?hy ?_ | refine tkI 9 (v:=?_) rfl ?hy ?_ | refine tkI 11 (v:=?_) rfl ?hy ?_
         case hy=>
          intro w0 hS;have e1:=below_all hS l1;have e2:=below_all hS l2;have e3:=below_all hS hl1;have e4:=below_all hS hl2;clear hS;go_simp
          (first | done | with_reducible rfl)
         try simp only [Act.put,sAr,sZe,sSu])
     all_goals refine wpAnyH_done (by decide +kernel) ?_ _
     all_goals
      go_wp2_with fail
      go_round
      case rel=>exact ⟨k+1,by omega,by go_num,HBE.out.trans (hHeld.mono HBE.out.size)⟩
      case measure=>simp [intOf];omega
   · have hkn:k=n:=by omega
     subst hkn;have hlt2:¬(k:Int)<(k:Int):=by omega
     have HBT:=Hd hbt;clear hbel hbt Z1 Z2;go_wp2_with fail;rw [HF.out];exact ⟨rfl,HBT.out⟩
end Go.Proofs.YtkhoeoilamddaaaGreatDoor
