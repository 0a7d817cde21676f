/- Walks: ref32.term, Same, at two terms or formulas that are the same. -/
import Derived.Test.YtnbphgeepnknlaaGreatDoorUFsJ
namespace Go.Proofs.YtnbphgeepnknlaaGreatDoor
open Go.RowKit
set_option linter.unusedVariables false
set_option linter.unusedSimpArgs false
set_option maxRecDepth 100000
set_option maxHeartbeats 8000000
theorem tLFSam {o:Array Oper} {i:Nat} {x:Oper} (h:o.toList[i]?=some x):o[i]?=some x:=by simpa using h
abbrev qFSam4:=@q4
abbrev qFSam6:=@q6
theorem rterm32_any:∀ (N:Nat) (t:Tm) (A:Option Addr) (c:Nat) (A2:Option Addr) (c2:Nat) (w:World),t.size≤N→TmV w A c t→TmV w A2 c2 t →
 Calls Tryz.prog 37 #[t.val A c,t.val A2 c2] w fun e w'=>e=.returned (.bool true)∧Below w.heap.size w w':=by
 intro N
 induction N with
 | zero=>
  intro t A c A2 c2 w hN;cases t;rw [Tm.size] at hN;omega
 | succ N ih=>
  intro t A c A2 c2 w hN hV hV2;obtain ⟨n,hn⟩:=ex_ t.kids.length;obtain ⟨F,hF⟩:∃ F:Ending→World→Prop,F=fun e w'=>e=.returned (.bool true)∧Below w.heap.size w w':=⟨_,rfl⟩;rw [←hF];have hsz:t.size=1+Tm.sizeL t.kids:=by cases t;rw [Tm.size];rfl
  have hcap:=hV.cap;have hcapm:=hV.capm;unfold maxLen at hcapm;have hcap2:=hV2.cap;have hcapm2:=hV2.capm;unfold maxLen at hcapm2;rw [←hn] at hcap hcap2;have hk:=hV.kids;have hk2:=hV2.kids;obtain ⟨b1,hb1n⟩:=ex_ w.heap.size;obtain ⟨b2,hb2n⟩:=ex_ (w.heap.size+1);obtain ⟨w2,hw2⟩:=ex_ ((w.alloc (.cells #[.int .i64 t.op,.int .i64 t.num,.string t.name,.slice A n c] 25)).alloc (.cells #[.int .i64 t.op,.int .i64 t.num,.string t.name,.slice A2 n c2] 25));have hbA:Below w.heap.size w w2:=by rw [hw2];exact ((Br _ _).alloc (lr _) _).alloc (by simp) _
  have hs2:w2.heap.size=w.heap.size+2:=by rw [hw2];simp
  have hx1:w2.heap[b1]?=some (.cells #[.int .i64 t.op,.int .i64 t.num,.string t.name,.slice A n c] 25 (0,0)):=by
   rw [hw2,hb1n];exact (((Br _ _).alloc (lr _) _).block _ (by simp)).trans (hA_ w _)
  have hx2:w2.heap[b2]?=some (.cells #[.int .i64 t.op,.int .i64 t.num,.string t.name,.slice A2 n c2] 25 (0,0)):=by
   rw [hw2,hb2n];have h:=hA_ (w.alloc (.cells #[.int .i64 t.op,.int .i64 t.num,.string t.name,.slice A n c] 25)) (.cells #[.int .i64 t.op,.int .i64 t.num,.string t.name,.slice A2 n c2] 25)
   simpa using h
  show Calls Tryz.prog 37 #[.agg #[.int .i64 t.op,.int .i64 t.num,.string t.name,.slice A t.kids.length c],.agg #[.int .i64 t.op,.int .i64 t.num,.string t.name,.slice A2 t.kids.length c2]] w F;rw [←hn];have HF:=Hd hF;have HIH:=Hd ih;have HN:=Hd hn;have HSZ:=Hd hsz;have HK:=Hd hk;have HK2:=Hd hk2;have HBA:=Hd hbA;have HS2:=Hd hs2;have HX1:=Hd hx1;have HX2:=Hd hx2;have HW2:=Hd hw2;have HNN:=Hd hN;have HB1N:=Hd hb1n;have HB2N:=Hd hb2n;have hb1w:b1<w2.heap.size:=by omega
  have hb2w:b2<w2.heap.size:=by omega
  have hww2:w.heap.size≤w2.heap.size:=by omega
  clear hF ih hn hsz hk hk2 hbA hs2 hw2 hV hV2 hN hb1n hb2n;go_enter Tryz.func37,Tryz.ntmps37;obtain ⟨y0,y1,y2,y3,-⟩:=qFSam4 hx1;obtain ⟨v0,v1,v2,v3,-⟩:=qFSam4 hx2;clear hx1 hx2;go_wp2_with fail
  try rw [←HW2.out,←HB2N.out,←HB1N.out]
  (try go_wp2_with fail);clear y0 y1 y2 y3 v0 v1 v2 v3
  go_loopw [5] (fun si wr=>∃ k:Nat,k≤n∧si=.int .i64 k∧Below w2.heap.size w2 wr) (fun i _=>n - (intOf i).toNat)
  case atStart=>exact ⟨0,zl _,rfl,Br _ _⟩
  case round=>
   obtain ⟨k,hk,rfl,hbel⟩:=hrel;have HB:=Hd hbel;have hszr:=hbel.size;have kb1:wr.cell? ⟨b1,3,none⟩=some (.slice A n c):=(cells4 ((hbel.block _ hb1w).trans HX1.out)).2.2.2.1;have kb2:wr.cell? ⟨b2,3,none⟩=some (.slice A2 n c2):=(cells4 ((hbel.block _ hb2w).trans HX2.out)).2.2.2.1;have hb1r:b1<wr.heap.size:=by omega
   have hb2r:b2<wr.heap.size:=by omega
   have hbt:Below w.heap.size w wr:=HBA.out.trans (hbel.mono hww2)
   by_cases hlt:k<n
   · obtain ⟨q,hq'⟩:∃ q,t.kids[k]?=some q:=⟨_,gG (by have:=HN.out;omega)⟩
     rcases HK.out with h9 | ⟨g,o,rfl,hg,hrow⟩
     · rw [h9] at hq';simp at hq'
     rcases HK2.out with h9 | ⟨g2,o2,rfl,hg2,hrow2⟩
     · rw [h9] at hq';simp at hq'
     have hat:=(hrow.get hq').below hbt rfl hg;obtain ⟨q0,q1,q2,A',c',q3,hVq⟩:=hat.open;have hat2:=(hrow2.get hq').below hbt rfl hg2;obtain ⟨r0,r1,r2,A2',c2',r3,hVq2⟩:=hat2.open;have e1:o+4*k=o+k*4:=by omega
     have e2:o2+4*k=o2+k*4:=by omega
     rw [e1] at q0 q1 q2 q3;rw [e2] at r0 r1 r2 r3;have hgr:g<wr.heap.size:=by have:=hbt.size;omega
     have hgr2:g2<wr.heap.size:=by have:=hbt.size;omega
     have hqs:q.size≤N:=by
      have h1:=Tm.sizeL_mem (mG hq');have:=HNN.out;have:=HSZ.out;omega
     obtain ⟨wd,hwd⟩:=ex_ wr.drew;have hbd:Below wr.heap.size wr wd:=by rw [hwd];exact (Br _ _).drew
     obtain ⟨nq,hnq⟩:=ex_ q.kids.length
     have HC:Hid (Calls Tryz.prog 37 #[.agg #[.int .i64 q.op,.int .i64 q.num,.string q.name,.slice A' nq c'],.agg #[.int .i64 q.op,.int .i64 q.num,.string q.name,.slice A2' nq c2']] wd fun e w'=>e=.returned (.bool true)∧Below wd.heap.size wd w'):=by
      have h:=HIH.out q A' c' A2' c2' wd hqs (hVq.below hbd rfl) (hVq2.below hbd rfl);unfold Tm.val at h;rw [←hnq] at h;exact h
     rw [←hnq] at q3 r3;have HBD:=Hd hbd;have hk0:(0:Int)≤(k:Int):=by omega
     have hk1:(k:Int)<(n:Int):=by omega
     clear hnq hqs hVq hVq2 hat hat2 hrow hrow2 hq' e1 e2 hbel hbt;go_wp2_with fail;refine wp_region_held_drew (S:=fun w'=>Below wr.heap.size wr w') (by kernel_rfl) (by rw [←hwd];exact hbd) (fun hHeld=>?_);rw [←hwd] at hHeld ⊢;clear hwd hbd;refine tkH 0 (v:=?_) (tLFSam rfl) (Or.inl ⟨by rfl,?hy⟩) (by assumption) ?_
     case hy=>
      intro w0 hSw;clear hSw;go_simp
      (first | done | with_reducible rfl)
     (try simp only [Act.put,sAr,sZe,sSu]);refine tkH 1 (v:=?_) (tLFSam rfl) (Or.inl ⟨by rfl,?hy⟩) (by assumption) ?_
     case hy=>
      intro w0 hSw;have e0:=(hSw.cell (p:=⟨b1,3,none⟩) hb1r).trans kb1;have e1:=(hSw.cell (p:=⟨b2,3,none⟩) hb2r).trans kb2;have f0:=(hSw.cell (p:=⟨g,o+k*4,none⟩) hgr).trans q0;have f1:=(hSw.cell (p:=⟨g,o+k*4+1,none⟩) hgr).trans q1;have f2:=(hSw.cell (p:=⟨g,o+k*4+2,none⟩) hgr).trans q2;have f3:=(hSw.cell (p:=⟨g,o+k*4+3,none⟩) hgr).trans q3;have h0:=(hSw.cell (p:=⟨g2,o2+k*4,none⟩) hgr2).trans r0;have h1:=(hSw.cell (p:=⟨g2,o2+k*4+1,none⟩) hgr2).trans r1;have h2:=(hSw.cell (p:=⟨g2,o2+k*4+2,none⟩) hgr2).trans r2;have h3:=(hSw.cell (p:=⟨g2,o2+k*4+3,none⟩) hgr2).trans r3;clear hSw;go_simp
      (first | done | with_reducible rfl)
     (try simp only [Act.put,sAr,sZe,sSu]);refine tkH 2 (v:=?_) (tLFSam rfl) (Or.inl ⟨by rfl,?hy⟩) (by assumption) ?_
     case hy=>
      intro w0 hSw;clear hSw;go_simp
      (first | done | with_reducible rfl)
     (try simp only [Act.put,sAr,sZe,sSu]);refine tkH 3 (v:=?_) (tLFSam rfl) (Or.inl ⟨by rfl,?hy⟩) (by assumption) ?_
     case hy=>
      intro w0 hSw;clear hSw;go_simp
      (first | done | with_reducible rfl)
     (try simp only [Act.put,sAr,sZe,sSu]);refine tkH 4 (v:=?_) (tLFSam rfl) (Or.inl ⟨by rfl,?hy⟩) (by assumption) ?_
     case hy=>
      intro w0 hSw;have e0:=(hSw.cell (p:=⟨b1,3,none⟩) hb1r).trans kb1;have e1:=(hSw.cell (p:=⟨b2,3,none⟩) hb2r).trans kb2;have f0:=(hSw.cell (p:=⟨g,o+k*4,none⟩) hgr).trans q0;have f1:=(hSw.cell (p:=⟨g,o+k*4+1,none⟩) hgr).trans q1;have f2:=(hSw.cell (p:=⟨g,o+k*4+2,none⟩) hgr).trans q2;have f3:=(hSw.cell (p:=⟨g,o+k*4+3,none⟩) hgr).trans q3;have h0:=(hSw.cell (p:=⟨g2,o2+k*4,none⟩) hgr2).trans r0;have h1:=(hSw.cell (p:=⟨g2,o2+k*4+1,none⟩) hgr2).trans r1;have h2:=(hSw.cell (p:=⟨g2,o2+k*4+2,none⟩) hgr2).trans r2;have h3:=(hSw.cell (p:=⟨g2,o2+k*4+3,none⟩) hgr2).trans r3;clear hSw;go_simp
      (first | done | with_reducible rfl)
     (try simp only [Act.put,sAr,sZe,sSu]);refine tkH 5 (v:=?_) (tLFSam rfl) (Or.inl ⟨by rfl,?hy⟩) (by assumption) ?_
     case hy=>
      intro w0 hSw;clear hSw;go_simp
      (first | done | with_reducible rfl)
     (try simp only [Act.put,sAr,sZe,sSu]);refine tkH 6 (v:=?_) (tLFSam rfl) (Or.inl ⟨by rfl,?hy⟩) (by assumption) ?_
     case hy=>
      intro w0 hSw;have e0:=(hSw.cell (p:=⟨b1,3,none⟩) hb1r).trans kb1;have e1:=(hSw.cell (p:=⟨b2,3,none⟩) hb2r).trans kb2;have f0:=(hSw.cell (p:=⟨g,o+k*4,none⟩) hgr).trans q0;have f1:=(hSw.cell (p:=⟨g,o+k*4+1,none⟩) hgr).trans q1;have f2:=(hSw.cell (p:=⟨g,o+k*4+2,none⟩) hgr).trans q2;have f3:=(hSw.cell (p:=⟨g,o+k*4+3,none⟩) hgr).trans q3;have h0:=(hSw.cell (p:=⟨g2,o2+k*4,none⟩) hgr2).trans r0;have h1:=(hSw.cell (p:=⟨g2,o2+k*4+1,none⟩) hgr2).trans r1;have h2:=(hSw.cell (p:=⟨g2,o2+k*4+2,none⟩) hgr2).trans r2;have h3:=(hSw.cell (p:=⟨g2,o2+k*4+3,none⟩) hgr2).trans r3;clear hSw;go_simp
      (first | done | with_reducible rfl)
     (try simp only [Act.put,sAr,sZe,sSu]);refine tkH 7 (v:=?_) (tLFSam rfl) (Or.inl ⟨by rfl,?hy⟩) (by assumption) ?_
     case hy=>
      intro w0 hSw;clear hSw;go_simp
      (first | done | with_reducible rfl)
     (try simp only [Act.put,sAr,sZe,sSu]);refine tkH 8 (v:=?_) (tLFSam rfl) (Or.inl ⟨by rfl,?hy⟩) (by assumption) ?_
     case hy=>
      intro w0 hSw;clear hSw;go_simp
      (first | done | with_reducible rfl)
     (try simp only [Act.put,sAr,sZe,sSu]);refine tkH 9 (v:=?_) (tLFSam rfl) (Or.inl ⟨by rfl,?hy⟩) (by assumption) ?_
     case hy=>
      intro w0 hSw;have e0:=(hSw.cell (p:=⟨b1,3,none⟩) hb1r).trans kb1;have e1:=(hSw.cell (p:=⟨b2,3,none⟩) hb2r).trans kb2;have f0:=(hSw.cell (p:=⟨g,o+k*4,none⟩) hgr).trans q0;have f1:=(hSw.cell (p:=⟨g,o+k*4+1,none⟩) hgr).trans q1;have f2:=(hSw.cell (p:=⟨g,o+k*4+2,none⟩) hgr).trans q2;have f3:=(hSw.cell (p:=⟨g,o+k*4+3,none⟩) hgr).trans q3;have h0:=(hSw.cell (p:=⟨g2,o2+k*4,none⟩) hgr2).trans r0;have h1:=(hSw.cell (p:=⟨g2,o2+k*4+1,none⟩) hgr2).trans r1;have h2:=(hSw.cell (p:=⟨g2,o2+k*4+2,none⟩) hgr2).trans r2;have h3:=(hSw.cell (p:=⟨g2,o2+k*4+3,none⟩) hgr2).trans r3;clear hSw;go_simp
      (first | done | with_reducible rfl)
     (try simp only [Act.put,sAr,sZe,sSu]);refine Rd (rs:=[10]) (by kernel_rfl) (by simp) ?_;refine Rc (tLFSam rfl) (fun K hK=>?_) Rn;go_simp;(with_reducible refine (HC.out).mono ?_);rintro e w6 ⟨rfl,hb6⟩;have HB6:=kB HBD hb6;clear hb6 q0 q1 q2 q3 r0 r1 r2 r3 kb1 kb2;refine hK.out _ _ HB6.out (fun hHeld=>?_);clear hK K;(try simp only [Act.put,sAr,sZe,sSu]);refine tkH 11 (v:=?_) (tLFSam rfl) (Or.inl ⟨by rfl,?hy⟩) (by assumption) ?_
     case hy=>
      intro w0 hSw;clear hSw;go_simp
      (first | done | with_reducible rfl)
     (try simp only [Act.put,sAr,sZe,sSu]);refine wpAnyH_done (by kernel_rfl) ?_ _;clear hHeld;go_wp2_with fail
     go_roundw
     case rel=>exact ⟨k+1,by omega,by go_num,HB.out.trans (HB6.out.mono hszr)⟩
     case measure=>simp [intOf];omega
   · have hk1:¬(k:Int)<(n:Int):=by omega
     have HBE:=Hd hbt;clear hlt hbel hbt;go_wp2_with fail;rw [HF.out];exact ⟨rfl,HBE.out⟩
theorem rfsame_any:∀ (N:Nat) (t:Fm) (Ae:Option Addr) (ce:Nat) (A:Option Addr) (c:Nat) (Ae2:Option Addr) (ce2:Nat) (A2:Option Addr) (c2:Nat) (w:World),t.size≤N→FmV w Ae ce A c t→FmV w Ae2 ce2 A2 c2 t →
 Calls Tryz.prog 19 #[t.val Ae ce A c,t.val Ae2 ce2 A2 c2] w fun e w'=>e=.returned (.bool true)∧Below w.heap.size w w':=by
 intro N
 induction N with
 | zero=>
  intro t Ae ce A c Ae2 ce2 A2 c2 w hN;cases t;rw [Fm.size] at hN;omega
 | succ N ih=>
  intro t Ae ce A c Ae2 ce2 A2 c2 w hN hV hV2;obtain ⟨n,hn⟩:=ex_ t.kids.length;obtain ⟨ne,hne⟩:=ex_ t.tm.kids.length;obtain ⟨F,hF⟩:∃ F:Ending→World→Prop,F=fun e w'=>e=.returned (.bool true)∧Below w.heap.size w w':=⟨_,rfl⟩;rw [←hF];have hsz:t.size=1+Fm.sizeL t.kids:=by cases t;rw [Fm.size];rfl
  have hcap:=hV.cap;have hcapm:=hV.capm;unfold maxLen at hcapm;have hcap2:=hV2.cap;have hcapm2:=hV2.capm;unfold maxLen at hcapm2;rw [←hn] at hcap hcap2;have hk:=hV.kids;have hk2:=hV2.kids;obtain ⟨b1,hb1n⟩:=ex_ w.heap.size;obtain ⟨b2,hb2n⟩:=ex_ (w.heap.size+1);obtain ⟨w2,hw2⟩:=ex_ ((w.alloc (.cells #[.int .i64 t.op,.int .i64 t.tm.op,.int .i64 t.tm.num,.string t.tm.name,.slice Ae ne ce,.slice A n c] 35)).alloc (.cells #[.int .i64 t.op,.int .i64 t.tm.op,.int .i64 t.tm.num,.string t.tm.name,.slice Ae2 ne ce2,.slice A2 n c2] 35));have hbA:Below w.heap.size w w2:=by rw [hw2];exact ((Br _ _).alloc (lr _) _).alloc (by simp) _
  have hs2:w2.heap.size=w.heap.size+2:=by rw [hw2];simp
  have hx1:w2.heap[b1]?=some (.cells #[.int .i64 t.op,.int .i64 t.tm.op,.int .i64 t.tm.num,.string t.tm.name,.slice Ae ne ce,.slice A n c] 35 (0,0)):=by
   rw [hw2,hb1n];exact (((Br _ _).alloc (lr _) _).block _ (by simp)).trans (hA_ w _)
  have hx2:w2.heap[b2]?=some (.cells #[.int .i64 t.op,.int .i64 t.tm.op,.int .i64 t.tm.num,.string t.tm.name,.slice Ae2 ne ce2,.slice A2 n c2] 35 (0,0)):=by
   rw [hw2,hb2n];have h:=hA_ (w.alloc (.cells #[.int .i64 t.op,.int .i64 t.tm.op,.int .i64 t.tm.num,.string t.tm.name,.slice Ae ne ce,.slice A n c] 35)) (.cells #[.int .i64 t.op,.int .i64 t.tm.op,.int .i64 t.tm.num,.string t.tm.name,.slice Ae2 ne ce2,.slice A2 n c2] 35)
   simpa using h
  have ht:=rterm32_any t.tm.size t.tm Ae ce Ae2 ce2 w2 (lr _) (hV.tm.below hbA rfl) (hV2.tm.below hbA rfl);unfold Tm.val at ht;rw [←hne] at ht;show Calls Tryz.prog 19 #[.agg #[.int .i64 t.op,.int .i64 t.tm.op,.int .i64 t.tm.num,.string t.tm.name,.slice Ae t.tm.kids.length ce,.slice A t.kids.length c],.agg #[.int .i64 t.op,.int .i64 t.tm.op,.int .i64 t.tm.num,.string t.tm.name,.slice Ae2 t.tm.kids.length ce2,.slice A2 t.kids.length c2]] w F;rw [←hn,←hne];have HF:=Hd hF;have HIH:=Hd ih;have HN:=Hd hn;have HSZ:=Hd hsz;have HK:=Hd hk;have HK2:=Hd hk2;have HBA:=Hd hbA;have HS2:=Hd hs2;have HX1:=Hd hx1;have HX2:=Hd hx2;have HW2:=Hd hw2;have HNN:=Hd hN;have HB1N:=Hd hb1n;have HB2N:=Hd hb2n;have HT:=Hd ht;have hb1w:b1<w2.heap.size:=by omega
  have hb2w:b2<w2.heap.size:=by omega
  have hww2:w.heap.size≤w2.heap.size:=by omega
  clear hF ih hn hne hsz hk hk2 hbA hs2 hw2 hV hV2 hN hb1n hb2n ht;go_enter Tryz.func19,Tryz.ntmps19;obtain ⟨kb0,kb1,kb2,kb3,kb4,kb5,-⟩:=qFSam6 hx1;obtain ⟨kc0,kc1,kc2,kc3,kc4,kc5,-⟩:=qFSam6 hx2;clear hx1 hx2;go_wp2_with fail
  try rw [←HW2.out,←HB2N.out,←HB1N.out]
  (try go_wp2_with fail);refine (HT.out).mono ?_;rintro e w6 ⟨rfl,hb6⟩;have HB6:=Hd hb6;have hs6:=hb6.size;clear kb0 kc0 kb1 kc1 kb2 kc2 kb3 kc3 kb4 kc4 kb5 kc5 hb6;obtain ⟨kb0,kb1,kb2,kb3,kb4,kb5,-⟩:=qFSam6 ((HB6.out.block _ hb1w).trans HX1.out);obtain ⟨kc0,kc1,kc2,kc3,kc4,kc5,-⟩:=qFSam6 ((HB6.out.block _ hb2w).trans HX2.out);go_wp2_with fail;clear kb0 kc0 kb1 kc1 kb2 kc2 kb3 kc3 kb4 kc4 kb5 kc5 hs6;obtain ⟨w3,hw3⟩:=ex_ w6;have HB3:Hid (Below w2.heap.size w2 w3):=by show Below _ _ _;rw [hw3];exact HB6.out
  rw [←hw3];have hs3:=HB3.out.size;clear hw3 HB6 HT
  go_loopw [5] (fun si wr=>∃ k:Nat,k≤n∧si=.int .i64 k∧Below w2.heap.size w2 wr) (fun i _=>n - (intOf i).toNat)
  case atStart=>exact ⟨0,zl _,rfl,HB3.out⟩
  case round=>
   obtain ⟨k,hk,rfl,hbel⟩:=hrel;have HB:=Hd hbel;have hszr:=hbel.size;have kb1:wr.cell? ⟨b1,5,none⟩=some (.slice A n c):=(cells6f ((hbel.block _ hb1w).trans HX1.out)).2.2.2.2.2.1;have kb2:wr.cell? ⟨b2,5,none⟩=some (.slice A2 n c2):=(cells6f ((hbel.block _ hb2w).trans HX2.out)).2.2.2.2.2.1;have hb1r:b1<wr.heap.size:=by omega
   have hb2r:b2<wr.heap.size:=by omega
   have hbt:Below w.heap.size w wr:=HBA.out.trans (hbel.mono hww2)
   by_cases hlt:k<n
   · obtain ⟨q,hq'⟩:∃ q,t.kids[k]?=some q:=⟨_,gG (by have:=HN.out;omega)⟩
     rcases HK.out with h9 | ⟨g,o,rfl,hg,hrow⟩
     · rw [h9] at hq';simp at hq'
     rcases HK2.out with h9 | ⟨g2,o2,rfl,hg2,hrow2⟩
     · rw [h9] at hq';simp at hq'
     have hat:=(hrow.get hq').below hbt rfl hg;obtain ⟨q0,q1,q2,q3,Ae',ce',A',c',q4,q5,hVq⟩:=hat.open;have hat2:=(hrow2.get hq').below hbt rfl hg2;obtain ⟨r0,r1,r2,r3,Ae2',ce2',A2',c2',r4,r5,hVq2⟩:=hat2.open;have e1:o+6*k=o+k*6:=by omega
     have e2:o2+6*k=o2+k*6:=by omega
     rw [e1] at q0 q1 q2 q3 q4 q5;rw [e2] at r0 r1 r2 r3 r4 r5;have hgr:g<wr.heap.size:=by have:=hbt.size;omega
     have hgr2:g2<wr.heap.size:=by have:=hbt.size;omega
     have hqs:q.size≤N:=by
      have h1:=Fm.sizeL_mem (mG hq');have:=HNN.out;have:=HSZ.out;omega
     obtain ⟨wd,hwd⟩:=ex_ wr.drew;have hbd:Below wr.heap.size wr wd:=by rw [hwd];exact (Br _ _).drew
     obtain ⟨nq,hnq⟩:=ex_ q.kids.length;obtain ⟨nqe,hnqe⟩:=ex_ q.tm.kids.length
     have HC:Hid (Calls Tryz.prog 19 #[.agg #[.int .i64 q.op,.int .i64 q.tm.op,.int .i64 q.tm.num,.string q.tm.name,.slice Ae' nqe ce',.slice A' nq c'],.agg #[.int .i64 q.op,.int .i64 q.tm.op,.int .i64 q.tm.num,.string q.tm.name,.slice Ae2' nqe ce2',.slice A2' nq c2']] wd fun e w'=>e=.returned (.bool true)∧Below wd.heap.size wd w'):=by
      have h:=HIH.out q Ae' ce' A' c' Ae2' ce2' A2' c2' wd hqs (hVq.below hbd rfl) (hVq2.below hbd rfl);unfold Fm.val at h;rw [←hnq,←hnqe] at h;exact h
     rw [←hnq] at q5 r5;rw [←hnqe] at q4 r4;have HBD:=Hd hbd;have hk0:(0:Int)≤(k:Int):=by omega
     have hk1:(k:Int)<(n:Int):=by omega
     clear hnq hnqe hqs hVq hVq2 hat hat2 hrow hrow2 hq' e1 e2 hbel hbt;go_wp2_with fail;refine wp_region_held_drew (S:=fun w'=>Below wr.heap.size wr w') (by kernel_rfl) (by rw [←hwd];exact hbd) (fun hHeld=>?_);rw [←hwd] at hHeld ⊢;clear hwd hbd;refine tkH 0 (v:=?_) (tLFSam rfl) (Or.inl ⟨by rfl,?hy⟩) (by assumption) ?_
     case hy=>
      intro w0 hSw;clear hSw;go_simp
      (first | done | with_reducible rfl)
     (try simp only [Act.put,sAr,sZe,sSu]);refine tkH 1 (v:=?_) (tLFSam rfl) (Or.inl ⟨by rfl,?hy⟩) (by assumption) ?_
     case hy=>
      intro w0 hSw;have e0:=(hSw.cell (p:=⟨b1,5,none⟩) hb1r).trans kb1;have e1:=(hSw.cell (p:=⟨b2,5,none⟩) hb2r).trans kb2;have f0:=(hSw.cell (p:=⟨g,o+k*6,none⟩) hgr).trans q0;have h0:=(hSw.cell (p:=⟨g2,o2+k*6,none⟩) hgr2).trans r0;have f1:=(hSw.cell (p:=⟨g,o+k*6+1,none⟩) hgr).trans q1;have h1:=(hSw.cell (p:=⟨g2,o2+k*6+1,none⟩) hgr2).trans r1;have f2:=(hSw.cell (p:=⟨g,o+k*6+2,none⟩) hgr).trans q2;have h2:=(hSw.cell (p:=⟨g2,o2+k*6+2,none⟩) hgr2).trans r2;have f3:=(hSw.cell (p:=⟨g,o+k*6+3,none⟩) hgr).trans q3;have h3:=(hSw.cell (p:=⟨g2,o2+k*6+3,none⟩) hgr2).trans r3;have f4:=(hSw.cell (p:=⟨g,o+k*6+4,none⟩) hgr).trans q4;have h4:=(hSw.cell (p:=⟨g2,o2+k*6+4,none⟩) hgr2).trans r4;have f5:=(hSw.cell (p:=⟨g,o+k*6+5,none⟩) hgr).trans q5;have h5:=(hSw.cell (p:=⟨g2,o2+k*6+5,none⟩) hgr2).trans r5;clear hSw;go_simp
      (first | done | with_reducible rfl)
     (try simp only [Act.put,sAr,sZe,sSu]);refine tkH 2 (v:=?_) (tLFSam rfl) (Or.inl ⟨by rfl,?hy⟩) (by assumption) ?_
     case hy=>
      intro w0 hSw;clear hSw;go_simp
      (first | done | with_reducible rfl)
     (try simp only [Act.put,sAr,sZe,sSu]);refine tkH 3 (v:=?_) (tLFSam rfl) (Or.inl ⟨by rfl,?hy⟩) (by assumption) ?_
     case hy=>
      intro w0 hSw;clear hSw;go_simp
      (first | done | with_reducible rfl)
     (try simp only [Act.put,sAr,sZe,sSu]);refine tkH 4 (v:=?_) (tLFSam rfl) (Or.inl ⟨by rfl,?hy⟩) (by assumption) ?_
     case hy=>
      intro w0 hSw;have e0:=(hSw.cell (p:=⟨b1,5,none⟩) hb1r).trans kb1;have e1:=(hSw.cell (p:=⟨b2,5,none⟩) hb2r).trans kb2;have f0:=(hSw.cell (p:=⟨g,o+k*6,none⟩) hgr).trans q0;have h0:=(hSw.cell (p:=⟨g2,o2+k*6,none⟩) hgr2).trans r0;have f1:=(hSw.cell (p:=⟨g,o+k*6+1,none⟩) hgr).trans q1;have h1:=(hSw.cell (p:=⟨g2,o2+k*6+1,none⟩) hgr2).trans r1;have f2:=(hSw.cell (p:=⟨g,o+k*6+2,none⟩) hgr).trans q2;have h2:=(hSw.cell (p:=⟨g2,o2+k*6+2,none⟩) hgr2).trans r2;have f3:=(hSw.cell (p:=⟨g,o+k*6+3,none⟩) hgr).trans q3;have h3:=(hSw.cell (p:=⟨g2,o2+k*6+3,none⟩) hgr2).trans r3;have f4:=(hSw.cell (p:=⟨g,o+k*6+4,none⟩) hgr).trans q4;have h4:=(hSw.cell (p:=⟨g2,o2+k*6+4,none⟩) hgr2).trans r4;have f5:=(hSw.cell (p:=⟨g,o+k*6+5,none⟩) hgr).trans q5;have h5:=(hSw.cell (p:=⟨g2,o2+k*6+5,none⟩) hgr2).trans r5;clear hSw;go_simp
      (first | done | with_reducible rfl)
     (try simp only [Act.put,sAr,sZe,sSu]);refine tkH 5 (v:=?_) (tLFSam rfl) (Or.inl ⟨by rfl,?hy⟩) (by assumption) ?_
     case hy=>
      intro w0 hSw;clear hSw;go_simp
      (first | done | with_reducible rfl)
     (try simp only [Act.put,sAr,sZe,sSu]);refine tkH 6 (v:=?_) (tLFSam rfl) (Or.inl ⟨by rfl,?hy⟩) (by assumption) ?_
     case hy=>
      intro w0 hSw;have e0:=(hSw.cell (p:=⟨b1,5,none⟩) hb1r).trans kb1;have e1:=(hSw.cell (p:=⟨b2,5,none⟩) hb2r).trans kb2;have f0:=(hSw.cell (p:=⟨g,o+k*6,none⟩) hgr).trans q0;have h0:=(hSw.cell (p:=⟨g2,o2+k*6,none⟩) hgr2).trans r0;have f1:=(hSw.cell (p:=⟨g,o+k*6+1,none⟩) hgr).trans q1;have h1:=(hSw.cell (p:=⟨g2,o2+k*6+1,none⟩) hgr2).trans r1;have f2:=(hSw.cell (p:=⟨g,o+k*6+2,none⟩) hgr).trans q2;have h2:=(hSw.cell (p:=⟨g2,o2+k*6+2,none⟩) hgr2).trans r2;have f3:=(hSw.cell (p:=⟨g,o+k*6+3,none⟩) hgr).trans q3;have h3:=(hSw.cell (p:=⟨g2,o2+k*6+3,none⟩) hgr2).trans r3;have f4:=(hSw.cell (p:=⟨g,o+k*6+4,none⟩) hgr).trans q4;have h4:=(hSw.cell (p:=⟨g2,o2+k*6+4,none⟩) hgr2).trans r4;have f5:=(hSw.cell (p:=⟨g,o+k*6+5,none⟩) hgr).trans q5;have h5:=(hSw.cell (p:=⟨g2,o2+k*6+5,none⟩) hgr2).trans r5;clear hSw;go_simp
      (first | done | with_reducible rfl)
     (try simp only [Act.put,sAr,sZe,sSu]);refine tkH 7 (v:=?_) (tLFSam rfl) (Or.inl ⟨by rfl,?hy⟩) (by assumption) ?_
     case hy=>
      intro w0 hSw;clear hSw;go_simp
      (first | done | with_reducible rfl)
     (try simp only [Act.put,sAr,sZe,sSu]);refine tkH 8 (v:=?_) (tLFSam rfl) (Or.inl ⟨by rfl,?hy⟩) (by assumption) ?_
     case hy=>
      intro w0 hSw;clear hSw;go_simp
      (first | done | with_reducible rfl)
     (try simp only [Act.put,sAr,sZe,sSu]);refine tkH 9 (v:=?_) (tLFSam rfl) (Or.inl ⟨by rfl,?hy⟩) (by assumption) ?_
     case hy=>
      intro w0 hSw;have e0:=(hSw.cell (p:=⟨b1,5,none⟩) hb1r).trans kb1;have e1:=(hSw.cell (p:=⟨b2,5,none⟩) hb2r).trans kb2;have f0:=(hSw.cell (p:=⟨g,o+k*6,none⟩) hgr).trans q0;have h0:=(hSw.cell (p:=⟨g2,o2+k*6,none⟩) hgr2).trans r0;have f1:=(hSw.cell (p:=⟨g,o+k*6+1,none⟩) hgr).trans q1;have h1:=(hSw.cell (p:=⟨g2,o2+k*6+1,none⟩) hgr2).trans r1;have f2:=(hSw.cell (p:=⟨g,o+k*6+2,none⟩) hgr).trans q2;have h2:=(hSw.cell (p:=⟨g2,o2+k*6+2,none⟩) hgr2).trans r2;have f3:=(hSw.cell (p:=⟨g,o+k*6+3,none⟩) hgr).trans q3;have h3:=(hSw.cell (p:=⟨g2,o2+k*6+3,none⟩) hgr2).trans r3;have f4:=(hSw.cell (p:=⟨g,o+k*6+4,none⟩) hgr).trans q4;have h4:=(hSw.cell (p:=⟨g2,o2+k*6+4,none⟩) hgr2).trans r4;have f5:=(hSw.cell (p:=⟨g,o+k*6+5,none⟩) hgr).trans q5;have h5:=(hSw.cell (p:=⟨g2,o2+k*6+5,none⟩) hgr2).trans r5;clear hSw;go_simp
      (first | done | with_reducible rfl)
     (try simp only [Act.put,sAr,sZe,sSu]);refine Rd (rs:=[10]) (by kernel_rfl) (by simp) ?_;refine Rc (tLFSam rfl) (fun K hK=>?_) Rn;go_simp;(with_reducible refine (HC.out).mono ?_);rintro e w6 ⟨rfl,hb6⟩;have HB6:=kB HBD hb6;clear hb6 q0 q1 q2 q3 q4 q5 r0 r1 r2 r3 r4 r5 kb1 kb2;refine hK.out _ _ HB6.out (fun hHeld=>?_);clear hK K;(try simp only [Act.put,sAr,sZe,sSu]);refine tkH 11 (v:=?_) (tLFSam rfl) (Or.inl ⟨by rfl,?hy⟩) (by assumption) ?_
     case hy=>
      intro w0 hSw;clear hSw;go_simp
      (first | done | with_reducible rfl)
     (try simp only [Act.put,sAr,sZe,sSu]);refine wpAnyH_done (by kernel_rfl) ?_ _;clear hHeld;go_wp2_with fail
     go_roundw
     case rel=>exact ⟨k+1,by omega,by go_num,HB.out.trans (HB6.out.mono hszr)⟩
     case measure=>simp [intOf];omega
   · have hk1:¬(k:Int)<(n:Int):=by omega
     have HBE:=Hd hbt;clear hlt hbel hbt;go_wp2_with fail;rw [HF.out];exact ⟨rfl,HBE.out⟩
end Go.Proofs.YtnbphgeepnknlaaGreatDoor
