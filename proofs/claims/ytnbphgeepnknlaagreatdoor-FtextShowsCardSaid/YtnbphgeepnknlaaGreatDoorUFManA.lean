/- Walks and plain words: FManA FtxS OpnF FtxSd. -/
import Derived.Test.YtnbphgeepnknlaaGreatDoorUFSam
import Derived.Test.YtnbphgeepnknlaaGreatDoorUFRdA
namespace Go.Proofs.YtnbphgeepnknlaaGreatDoor
open Go.RowKit
set_option linter.unusedVariables false
set_option maxRecDepth 100000
set_option maxHeartbeats 4000000
theorem tLFManA {o:Array Oper} {i:Nat} {x:Oper} (h:o.toList[i]?=some x):o[i]?=some x:=by simpa using h
def LeftQ (m k r:Int):Prop:=r≤m∧(m≤r∨-1≤r)∧(0≤r→k+r≤m)
theorem rterm_any:∀ (N:Nat) (t:Tm) (m:Int) (A:Option Addr) (c:Nat) (w:World),t.size≤N→TmV w A c t→-1000000000000000000≤m→m≤1000000000000000000 →
 Calls Tryz.prog 73 #[t.val A c,.int .i64 m] w fun e w'=>(∃ r:Int,e=.returned (.int .i64 r)∧LeftQ m (Tm.sizeL t.kids:Nat) r)∧Below w.heap.size w w':=by
 intro N
 induction N with
 | zero=>
  intro t m A c w hN;cases t;rw [Tm.size] at hN;omega
 | succ N ih=>
  intro t m A c w hN hV hm1 hm2;obtain ⟨n,hn⟩:=ex_ t.kids.length;obtain ⟨F,hF⟩:∃ F:Ending→World→Prop,F=fun e w'=>(∃ r:Int,e=.returned (.int .i64 r)∧LeftQ m (Tm.sizeL t.kids:Nat) r)∧Below w.heap.size w w':=⟨_,rfl⟩;rw [←hF];have hsz:t.size=1+Tm.sizeL t.kids:=by cases t;rw [Tm.size];rfl
  have hcap:=hV.cap;have hcapm:=hV.capm;unfold maxLen at hcapm;rw [←hn] at hcap;have hk:=hV.kids;obtain ⟨w1,hw1⟩:=ex_ (w.alloc (.cells #[.int .i64 t.op,.int .i64 t.num,.string t.name,.slice A n c] 25));have hb1:=bAl hw1;have hs1:w1.heap.size=w.heap.size+1:=by rw [hw1];simp
  have hbx:w1.heap[w.heap.size]?=some (.cells #[.int .i64 t.op,.int .i64 t.num,.string t.name,.slice A n c] 25 (0,0)):=by rw [hw1];exact hA_ w _
  show Calls Tryz.prog 73 #[.agg #[.int .i64 t.op,.int .i64 t.num,.string t.name,.slice A t.kids.length c],.int .i64 m] w F;rw [←hn];have HF:=Hd hF;have HIH:=Hd ih;have HN:=Hd hn;have HSZ:=Hd hsz;have HK:=Hd hk;have HB1:=Hd hb1;have HS1:=Hd hs1;have HBX:=Hd hbx;have HW1:=Hd hw1;have HNN:=Hd hN;clear hF ih hn hsz hk hb1 hs1 hbx hw1 hV hN;go_enter Tryz.func73,Tryz.ntmps73;go_wp2_with fail;rw [←HW1.out]
  go_loopw [1,5] (fun sm si wr=>∃ (k:Nat) (x:Int),k≤n∧sm=.int .i64 x∧si=.int .i64 k∧LeftQ m (Tm.sizeL (t.kids.take k):Nat) x∧Below w1.heap.size w1 wr) (fun _ i _=>n - (intOf i).toNat)
  case atStart=>exact ⟨0,m,zl _,rfl,rfl,⟨Int.le_refl _,.inl (Int.le_refl _),fun _=>by simp [Tm.sizeL]⟩,Br _ _⟩
  case round=>
   obtain ⟨k,x,hk,rfl,rfl,hq,hbel⟩:=hrel;have HQ:=Hd hq;have HB:=Hd hbel;have hszr:=hbel.size;have hbw:w.heap.size<wr.heap.size:=by have:=HS1.out;omega
   have kc3:wr.cell? ⟨w.heap.size,3,none⟩=some (.slice A n c):=by rw [cR wr w.heap.size 3 _ _ (0,0) ((hbel.block _ (by have:=HS1.out;omega)).trans HBX.out)];rfl
   have hbt:Below w.heap.size w wr:=HB1.out.trans (hbel.mono (by have:=HS1.out;omega))
   by_cases hgo:k<n∧0≤x
   · obtain ⟨hlt,hx0⟩:=hgo;obtain ⟨q,hq'⟩:∃ q,t.kids[k]?=some q:=⟨_,gG (by have:=HN.out;omega)⟩
     rcases HK.out with h9 | ⟨g,o,rfl,hg,hrow⟩
     · rw [h9] at hq';simp at hq'
     have hat:=(hrow.get hq').below hbt rfl hg;obtain ⟨q0,q1,q2,A',c',q3,hVq⟩:=hat.open;have e1:o+4*k=o+k*4:=by omega
     rw [e1] at q0 q1 q2 q3;have hgr:g<wr.heap.size:=by have:=hbt.size;omega
     have HTK:=Hd (Tm.sizeL_take hq')
     have hqs:q.size≤N:=by
      have h1:=Tm.sizeL_mem (mG hq');have:=HNN.out;have:=HSZ.out;omega
     have hx2:x≤1000000000000000000:=by have:=HQ.out.1;omega
     have hcall:=HIH.out q (x - 1) A' c' wr hqs hVq (by omega) (by omega);have hqz:q.size=1+Tm.sizeL q.kids:=by cases q;rw [Tm.size];rfl
     have HQZ:=Hd hqz;obtain ⟨nq,hnq⟩:=ex_ q.kids.length;have hcall':Calls Tryz.prog 73 #[.agg #[.int .i64 q.op,.int .i64 q.num,.string q.name,.slice A' nq c'],.int .i64 (x - 1)] wr fun e w'=>(∃ r:Int,e=.returned (.int .i64 r)∧LeftQ (x - 1) (Tm.sizeL q.kids:Nat) r)∧Below wr.heap.size wr w':=by rw [hnq];exact hcall
     rw [←hnq] at q3;have HC:=Hd hcall';have hk0:(0:Int)≤(k:Int):=by omega
     have hk1:(k:Int)<(n:Int):=by omega
     clear hcall hcall' hnq hqz hqs hVq hat hrow hq' e1 hbel hq hbt;go_wp2_with fail;refine (HC.out).mono ?_;rintro e w2 ⟨⟨r,rfl,hr⟩,hb2⟩
     have HR:Hid (LeftQ m (Tm.sizeL (t.kids.take (k+1)):Nat) r):=by
      obtain ⟨a1,a2,a3⟩:=HQ.out;obtain ⟨b1,b2,b3⟩:=hr;have:=HTK.out;have:=HQZ.out;refine ⟨by omega,.inr (by omega),fun h=>?_⟩;have:=a3 hx0;have:=b3 h;omega
     have HB3:=Hd (HB.out.trans (hb2.mono hszr));clear hb2 hr q0 q1 q2 q3 kc3;go_wp2_with fail
     go_roundw
     case rel=>exact ⟨k+1,r,by omega,rfl,by go_num,HR.out,HB3.out⟩
     case measure=>simp [intOf];omega
   · have HE:Hid (LeftQ m (Tm.sizeL t.kids:Nat) x):=by
      obtain ⟨a1,a2,a3⟩:=HQ.out;refine ⟨a1,a2,fun h=>?_⟩
      have hkn:k=n:=by
       by_cases h2:k<n
       · exact absurd ⟨h2,h⟩ hgo
       · omega
      have:=a3 h;rw [hkn,List.take_of_length_le (by rw [←HN.out];exact lr _)] at this;exact this
     have HBE:=Hd hbt
     by_cases hlt:k<n
     · have hk1:(k:Int)<(n:Int):=by omega
       have hx0:¬(0:Int)≤x:=fun h=>hgo ⟨hlt,h⟩;clear hgo hlt hq hbel hbt;go_wp2_with fail;rw [HF.out];exact ⟨⟨x,rfl,HE.out⟩,HBE.out⟩
     · have hk1:¬(k:Int)<(n:Int):=by omega
       clear hgo hlt hq hbel hbt;go_wp2_with fail;rw [HF.out];exact ⟨⟨x,rfl,HE.out⟩,HBE.out⟩
mutual
def Fm.cost:Fm→Nat
 | .mk _ e l=>e.size+Fm.costL l
def Fm.costL:List Fm→Nat
 | []=>0
 | t :: r=>t.cost+Fm.costL r
end
theorem Fm.cost_eq (t:Fm):t.cost=1+Tm.sizeL t.tm.kids+Fm.costL t.kids:=by
 cases t with
 | mk op e l=>
  rw [Fm.cost];cases e;rw [Tm.size]
  rfl
theorem Fm.costL_take {l:List Fm} {k:Nat} {t:Fm} (h:l[k]?=some t):Fm.costL (l.take (k+1))=Fm.costL (l.take k)+t.cost:=by
 obtain ⟨hj,hj2⟩:=gE.1 h;rw [List.take_succ_eq_append_getElem hj,hj2]
 generalize l.take k=a
 induction a with
 | nil=>simp [Fm.costL]
 | cons x r ih=>rw [List.cons_append,Fm.costL,Fm.costL,ih];omega
def FLeftQ (m k r:Int):Prop:=r≤m∧(m - 1≤r∨-1≤r)∧(0≤r→k+r≤m)
theorem rform_any:∀ (N:Nat) (t:Fm) (m:Int) (Ae:Option Addr) (ce:Nat) (A:Option Addr) (c:Nat) (w:World),t.size≤N→FmV w Ae ce A c t→-900000000000000000≤m→m≤900000000000000000 →
 Calls Tryz.prog 38 #[t.val Ae ce A c,.int .i64 m] w fun e w'=>(∃ r:Int,e=.returned (.int .i64 r)∧FLeftQ m (t.cost:Nat) r)∧Below w.heap.size w w':=by
 intro N
 induction N with
 | zero=>
  intro t m Ae ce A c w hN;cases t;rw [Fm.size] at hN;omega
 | succ N ih=>
  intro t m Ae ce A c w hN hV hm1 hm2;obtain ⟨n,hn⟩:=ex_ t.kids.length;obtain ⟨ne,hne⟩:=ex_ t.tm.kids.length;obtain ⟨F,hF⟩:∃ F:Ending→World→Prop,F=fun e w'=>(∃ r:Int,e=.returned (.int .i64 r)∧FLeftQ m (t.cost:Nat) r)∧Below w.heap.size w w':=⟨_,rfl⟩;rw [←hF];have hsz:t.size=1+Fm.sizeL t.kids:=by cases t;rw [Fm.size];rfl
  have hcap:=hV.cap;have hcapm:=hV.capm;unfold maxLen at hcapm;rw [←hn] at hcap;have hk:=hV.kids;obtain ⟨w1,hw1⟩:=ex_ (w.alloc (.cells #[.int .i64 t.op,.int .i64 t.tm.op,.int .i64 t.tm.num,.string t.tm.name,.slice Ae ne ce,.slice A n c] 35));have hb1:=bAl hw1;have hs1:w1.heap.size=w.heap.size+1:=by rw [hw1];simp
  have hbx:w1.heap[w.heap.size]?=some (.cells #[.int .i64 t.op,.int .i64 t.tm.op,.int .i64 t.tm.num,.string t.tm.name,.slice Ae ne ce,.slice A n c] 35 (0,0)):=by rw [hw1];exact hA_ w _
  have hterm0:=rterm_any t.tm.size t.tm (m - 1) Ae ce w1 (lr _) (hV.tm.below hb1 rfl) (by omega) (by omega);have hterm:Calls Tryz.prog 73 #[.agg #[.int .i64 t.tm.op,.int .i64 t.tm.num,.string t.tm.name,.slice Ae ne ce],.int .i64 (m - 1)] w1 fun e w'=>(∃ r:Int,e=.returned (.int .i64 r)∧LeftQ (m - 1) (Tm.sizeL t.tm.kids:Nat) r)∧Below w1.heap.size w1 w':=by rw [hne];exact hterm0
  show Calls Tryz.prog 38 #[.agg #[.int .i64 t.op,.int .i64 t.tm.op,.int .i64 t.tm.num,.string t.tm.name,.slice Ae t.tm.kids.length ce,.slice A t.kids.length c],.int .i64 m] w F;rw [←hn,←hne];have HF:=Hd hF;have HIH:=Hd ih;have HN:=Hd hn;have HSZ:=Hd hsz;have HK:=Hd hk;have HB1:=Hd hb1;have HS1:=Hd hs1;have HBX:=Hd hbx;have HW1:=Hd hw1;have HNN:=Hd hN;have HTERM:=Hd hterm;have HCO:=Hd (Fm.cost_eq t);clear hF ih hn hne hsz hk hb1 hs1 hbx hw1 hV hN hterm hterm0;go_enter Tryz.func38,Tryz.ntmps38;go_wp2_with fail;rw [←HW1.out];refine (HTERM.out).mono ?_;rintro e w2 ⟨⟨r0,rfl,hr0⟩,hb2⟩;have HR0:=Hd hr0;have HB2:=Hd hb2;clear hr0 hb2;go_wp2_with fail
  go_loopw [1,5] (fun sm si wr=>∃ (k:Nat) (x:Int),k≤n∧sm=.int .i64 x∧si=.int .i64 k∧FLeftQ m (1+(Tm.sizeL t.tm.kids:Nat)+(Fm.costL (t.kids.take k):Nat)) x∧Below w1.heap.size w1 wr) (fun _ i _=>n - (intOf i).toNat)
  case atStart=>
   obtain ⟨a1,a2,a3⟩:=HR0.out;exact ⟨0,r0,zl _,rfl,rfl,⟨by omega,by omega,fun h=>by have:=a3 h;simp [Fm.costL];omega⟩,HB2.out⟩
  case round=>
   obtain ⟨k,x,hk,rfl,rfl,hq,hbel⟩:=hrel;have HQ:=Hd hq;have HB:=Hd hbel;have hszr:=hbel.size;have hbw:w.heap.size<wr.heap.size:=by have:=HS1.out;omega
   have kc5:wr.cell? ⟨w.heap.size,5,none⟩=some (.slice A n c):=by rw [cR wr w.heap.size 5 _ _ (0,0) ((hbel.block _ (by have:=HS1.out;omega)).trans HBX.out)];rfl
   have hbt:Below w.heap.size w wr:=HB1.out.trans (hbel.mono (by have:=HS1.out;omega))
   by_cases hgo:k<n∧0≤x
   · obtain ⟨hlt,hx0⟩:=hgo;obtain ⟨q,hq'⟩:∃ q,t.kids[k]?=some q:=⟨_,gG (by have:=HN.out;omega)⟩
     rcases HK.out with h9 | ⟨g,o,rfl,hg,hrow⟩
     · rw [h9] at hq';simp at hq'
     have hat:=(hrow.get hq').below hbt rfl hg;obtain ⟨q0,q1,q2,q3,Ae',ce',A',c',q4,q5,hVq⟩:=hat.open;have e1:o+6*k=o+k*6:=by omega
     rw [e1] at q0 q1 q2 q3 q4 q5;have hgr:g<wr.heap.size:=by have:=hbt.size;omega
     have HTK:=Hd (Fm.costL_take hq')
     have hqs:q.size≤N:=by
      have h1:=Fm.sizeL_mem (mG hq');have:=HNN.out;have:=HSZ.out;omega
     have hx2:x≤900000000000000000:=by have:=HQ.out.1;omega
     have hcall:=HIH.out q x Ae' ce' A' c' wr hqs hVq (by omega) (by omega);obtain ⟨nq,hnq⟩:=ex_ q.kids.length;obtain ⟨nqe,hnqe⟩:=ex_ q.tm.kids.length;have hcall':Calls Tryz.prog 38 #[.agg #[.int .i64 q.op,.int .i64 q.tm.op,.int .i64 q.tm.num,.string q.tm.name,.slice Ae' nqe ce',.slice A' nq c'],.int .i64 x] wr fun e w'=>(∃ r:Int,e=.returned (.int .i64 r)∧FLeftQ x (q.cost:Nat) r)∧Below wr.heap.size wr w':=by rw [hnq,hnqe];exact hcall
     rw [←hnq] at q5;rw [←hnqe] at q4;have HC:=Hd hcall';have hk0:(0:Int)≤(k:Int):=by omega
     have hk1:(k:Int)<(n:Int):=by omega
     clear hcall hcall' hnq hnqe hqs hVq hat hrow hq' e1 hbel hq hbt;go_wp2_with fail;refine (HC.out).mono ?_;rintro e w3 ⟨⟨r,rfl,hr⟩,hb3⟩
     have HR:Hid (FLeftQ m (1+(Tm.sizeL t.tm.kids:Nat)+(Fm.costL (t.kids.take (k+1)):Nat)) r):=by
      obtain ⟨a1,a2,a3⟩:=HQ.out;obtain ⟨b1,b2,b3⟩:=hr;have:=HTK.out;refine ⟨by omega,.inr (by omega),fun h=>?_⟩;have:=a3 hx0;have:=b3 h;omega
     have HB3:=Hd (HB.out.trans (hb3.mono hszr));clear hb3 hr q0 q1 q2 q3 q4 q5 kc5;go_wp2_with fail
     go_roundw
     case rel=>exact ⟨k+1,r,by omega,rfl,by go_num,HR.out,HB3.out⟩
     case measure=>simp [intOf];omega
   · have HE:Hid (FLeftQ m (t.cost:Nat) x):=by
      obtain ⟨a1,a2,a3⟩:=HQ.out;refine ⟨a1,a2,fun h=>?_⟩
      have hkn:k=n:=by
       by_cases h2:k<n
       · exact absurd ⟨h2,h⟩ hgo
       · omega
      have:=a3 h;rw [hkn,List.take_of_length_le (by rw [←HN.out];exact lr _)] at this;rw [HCO.out];omega
     have HBE:=Hd hbt
     by_cases hlt:k<n
     · have hk1:(k:Int)<(n:Int):=by omega
       have hx0:¬(0:Int)≤x:=fun h=>hgo ⟨hlt,h⟩;clear hgo hlt hq hbel hbt;go_wp2_with fail;rw [HF.out];exact ⟨⟨x,rfl,HE.out⟩,HBE.out⟩
     · have hk1:¬(k:Int)<(n:Int):=by omega
       clear hgo hlt hq hbel hbt;go_wp2_with fail;rw [HF.out];exact ⟨⟨x,rfl,HE.out⟩,HBE.out⟩
theorem fmany_any (t:Fm) (m:Int) (Ae:Option Addr) (ce:Nat) (A:Option Addr) (c:Nat) (w:World) (hV:FmV w Ae ce A c t) (h0:0≤m) (h1:m≤1000000) :
 Calls Tryz.prog 20 #[t.val Ae ce A c,.int .i64 m] w fun e w'=>(∃ b:Bool,e=.returned (.bool b)∧(b=true→(t.cost:Int)≤m))∧Below w.heap.size w w':=by
 obtain ⟨F,hF⟩:∃ F:Ending→World→Prop,F=fun e w'=>(∃ b:Bool,e=.returned (.bool b)∧(b=true→(t.cost:Int)≤m))∧Below w.heap.size w w':=⟨_,rfl⟩;rw [←hF];have HF:=Hd hF;obtain ⟨w1,hw1⟩:=ex_ (w.alloc (.cells #[.int .i64 t.op,.int .i64 t.tm.op,.int .i64 t.tm.num,.string t.tm.name,.slice Ae t.tm.kids.length ce,.slice A t.kids.length c] 35));have hb1:=bAl hw1;have hc:=rform_any t.size t m Ae ce A c w1 (lr _) (hV.below hb1 rfl) (by omega) (by omega);unfold Fm.val at hc ⊢;obtain ⟨n,hn⟩:=ex_ t.kids.length;obtain ⟨ne,hne⟩:=ex_ t.tm.kids.length;rw [←hn,←hne] at hc hw1;rw [←hn,←hne];have HC:=Hd hc;have HB:=Hd hb1;have HW1:=Hd hw1;clear hF hc hb1 hw1 hn hne hV;go_enter Tryz.func20,Tryz.ntmps20;go_wp2_with fail;rw [←HW1.out];(try go_wp2_with fail);refine (HC.out).mono ?_;rintro e w2 ⟨⟨r,rfl,hr⟩,hb2⟩;have HR:=Hd hr;have HB2:=kB HB hb2;clear hr hb2
 by_cases h:0≤r
 · go_wp2_with fail;rw [HF.out];exact ⟨⟨_,rfl,fun _=>by have:=HR.out.2.2 h;omega⟩,HB2.out⟩
 · go_wp2_with fail;rw [HF.out];exact ⟨⟨_,rfl,fun hb=>by simp at hb;omega⟩,HB2.out⟩
set_option maxHeartbeats 8000000
mutual
theorem Fm.wsize_cost:∀ f:Fm,f.wsize≤2*f.cost
 | .mk o e l=>by
  have h1:=Fm.wsizeL_cost l;have h2:1≤e.size:=by cases e;rw [Tm.size];omega
  rw [Fm.wsize,Fm.cost];omega
theorem Fm.wsizeL_cost:∀ l:List Fm,Fm.wsizeL l≤2*Fm.costL l
 | []=>by rw [Fm.wsizeL];omega
 | t :: r=>by
  have h1:=Fm.wsize_cost t;have h2:=Fm.wsizeL_cost r;rw [Fm.wsizeL,Fm.costL];omega
end
theorem ftextShows_any (f:Fm) (Ae:Option Addr) (ce:Nat) (A:Option Addr) (c:Nat) (w:World) (hV:FmV w Ae ce A c f) (hT:Tables w) :
 Calls Tryz.prog 5 #[f.val Ae ce A c] w fun e w'=>e=.returned (.bool true)∧Below w.heap.size w w':=by
 obtain ⟨F,hF⟩:∃ F:Ending→World→Prop,F=fun e w'=>e=.returned (.bool true)∧Below w.heap.size w w':=⟨_,rfl⟩;rw [←hF];have HF:=Hd hF;have HT:=Hd hT;clear hF hT;have HB:=Hd (Br w.heap.size w);obtain ⟨x,hx⟩:∃ x:FV,x=⟨f.op,f.tm.op,f.tm.num,f.tm.name,Ae,f.tm.kids.length,ce,A,f.kids.length,c⟩:=⟨_,rfl⟩;have Ex:Hid (x.val=f.val x.Ae x.ce x.A x.c):=by show _=_;rw [hx];rfl
 have Vx:Hid (FmV w x.Ae x.ce x.A x.c f):=by rw [hx];exact hV
 rw [show f.val Ae ce A c=x.val by rw [hx];rfl];clear hx hV;obtain ⟨b1,Qb1⟩:=exh_ w.heap.size;obtain ⟨w1,Qw1⟩:=exh_ (w.alloc (.cells #[.int .i64 x.o,.int .i64 x.tn,.int .i64 x.tm,.string x.s,.slice x.Ae x.ne x.ce,.slice x.A x.n x.c] 35));have Xb1:=nAl Qw1.out Qb1.out;have hal:=bAl Qw1.out;replace HB:=kB HB hal;replace Vx:=Hd (FmV.below Vx.out hal rfl);clear hal;have hm:=fmany_any f 300 x.Ae x.ce x.A x.c w1 Vx.out (by decide) (by decide);rw [←Ex.out] at hm;unfold FV.val at hm ⊢;have HM:=Hd hm;clear hm;go_enter Tryz.func5,Tryz.ntmps5;go_wp2_with fail;rw [←Qw1.out,←Qb1.out];obtain ⟨cb10,cb11,cb12,cb13,cb14,cb15,zb1q⟩:=q6 Xb1.out;have lb1:=lH Xb1.out;(try go_wp2_with fail);refine (HM.out).mono ?_;rintro e w2 ⟨⟨bb,rfl,hm⟩,hb⟩;clear HM;replace HB:=kB HB hb;replace Xb1:=kX hb Xb1;replace Vx:=Hd (FmV.below Vx.out hb rfl);clear hb cb10 zb1q cb11 cb12 cb13 cb14 cb15 lb1;cases bb
 · clear hm;have HLV:=Hd (lives33_any w2 (HT.out.below HB.out));go_wp2_with fail;refine (HLV.out).mono ?_;rintro e w3 ⟨rfl,hb⟩;clear HLV;replace HB:=kB HB hb;replace Xb1:=kX hb Xb1;replace Vx:=Hd (FmV.below Vx.out hb rfl);clear hb;go_wp2_with fail;rw [HF.out];exact ⟨rfl,HB.out⟩
 · have HSZ:Hid (f.wsize≤9000000):=by show _≤_;have:=Fm.wsize_cost f;have:=hm rfl;omega
   clear hm;obtain ⟨S,HSQ⟩:=exh_ (showFm f);have hsh:=fshow_any f x.Ae x.ce x.A x.c w2 HSZ.out Vx.out (HT.out.below HB.out).wordsT;rw [←Ex.out] at hsh;unfold FV.val at hsh;rw [←HSQ.out] at hsh;have HSH:=Hd hsh;clear hsh;obtain ⟨st,g⟩:=S;simp only at HSH;obtain ⟨cb10,cb11,cb12,cb13,cb14,cb15,zb1q⟩:=q6 Xb1.out;have lb1:=lH Xb1.out;go_wp2_with fail;refine (HSH.out).mono ?_;rintro e w3 ⟨rfl,hb⟩;clear HSH;replace HB:=kB HB hb;replace Xb1:=kX hb Xb1;replace Vx:=Hd (FmV.below Vx.out hb rfl);clear hb cb10 zb1q cb11 cb12 cb13 cb14 cb15 lb1;have hsh:=rfshow_any f x.Ae x.ce x.A x.c w3 Vx.out HSZ.out;rw [←Ex.out] at hsh;unfold FV.val at hsh;rw [←HSQ.out] at hsh;have HSR:=Hd hsh;clear hsh;obtain ⟨cb10,cb11,cb12,cb13,cb14,cb15,zb1q⟩:=q6 Xb1.out;have lb1:=lH Xb1.out;go_wp2_with fail;refine (HSR.out).mono ?_;rintro e w4 ⟨rfl,hb⟩;clear HSR;replace HB:=kB HB hb;replace Xb1:=kX hb Xb1;replace Vx:=Hd (FmV.below Vx.out hb rfl);clear hb cb10 zb1q cb11 cb12 cb13 cb14 cb15 lb1
   by_cases hg:g=0
   · subst hg;have hps:=parse_showF (f:=f) (by rw [←HSQ.out]);rw [←HSQ.out] at hps;simp only at hps;have hlen:=(showFm_ok (f:=f) (by rw [←HSQ.out])).2.2;rw [←HSQ.out] at hlen;simp only at hlen;have hst:st.length≤65536:=by rw [hlen.1];exact hlen.2
     obtain ⟨T,hTT⟩:∃ T:ByteArray,T=⟨st.toArray⟩:=⟨_,rfl⟩;have hTs:T.size=st.length:=by rw [hTT];rfl
     have hTb:bs T=st:=by rw [hTT];rfl
     have hp2:=fparse_any T w4 (by unfold maxLen;omega) (HT.out.below HB.out);rw [hTb,hps,←hTs] at hp2;rw [←hTT];have HP2:=Hd hp2;have hTz:T.size≤65536:=by omega
     clear hps hlen hst hTT hTs hTb hp2;go_wp2_with fail;refine (HP2.out).mono ?_;rintro e w5 ⟨y,rfl,hx,hb⟩;simp only at hx;simp only [FV.val];have Ey:Hid (y.val=(f).val y.Ae y.ce y.A y.c):=hx.val;have Oy:=Hd hx.o;have Vy:=Hd hx.v.toV;clear hx HP2;replace HB:=kB HB hb;replace Xb1:=kX hb Xb1;replace Vx:=Hd (FmV.below Vx.out hb rfl);clear hb;obtain ⟨cb10,cb11,cb12,cb13,cb14,cb15,zb1q⟩:=q6 Xb1.out;have lb1:=lH Xb1.out;obtain ⟨b2,Qb2⟩:=exh_ w5.heap.size;obtain ⟨w6,Qw6⟩:=exh_ (w5.alloc (.cells #[.int .i64 y.o,.int .i64 y.tn,.int .i64 y.tm,.string y.s,.slice y.Ae y.ne y.ce,.slice y.A y.n y.c] 35));have Xb2:=nAl Qw6.out Qb2.out;have hal:=bAl Qw6.out;replace HB:=kB HB hal;replace Xb1:=kX hal Xb1;replace Vx:=Hd (FmV.below Vx.out hal rfl);replace Vy:=Hd (FmV.below Vy.out hal rfl);clear hal;have hsame:=rfsame_any (f).size (f) x.Ae x.ce x.A x.c y.Ae y.ce y.A y.c w6 (lr _) Vx.out Vy.out;rw [←Ex.out,←Ey.out] at hsame;unfold FV.val at hsame;have HSA:=Hd hsame;clear hsame;go_wp2_with fail;rw [←Qw6.out];refine (HSA.out).mono ?_;rintro e w7 ⟨rfl,hb⟩;clear HSA;replace HB:=kB HB hb;replace Xb1:=kX hb Xb1;replace Xb2:=kX hb Xb2;replace Vx:=Hd (FmV.below Vx.out hb rfl);replace Vy:=Hd (FmV.below Vy.out hb rfl);clear hb cb10 zb1q cb11 cb12 cb13 cb14 cb15 lb1;have HLV:=Hd (lives33_any w7 (HT.out.below HB.out));go_wp2_with fail;refine (HLV.out).mono ?_;rintro e w8 ⟨rfl,hb⟩;clear HLV;replace HB:=kB HB hb
     replace Xb1:=kX hb Xb1;replace Xb2:=kX hb Xb2;replace Vx:=Hd (FmV.below Vx.out hb rfl);replace Vy:=Hd (FmV.below Vy.out hb rfl);clear hb;go_wp2_with fail;rw [HF.out];exact ⟨rfl,HB.out⟩
   · have hgb:(g != 0)=true:=by simpa using hg
     clear hg;have HLV:=Hd (lives33_any w4 (HT.out.below HB.out));go_wp2_with fail;refine (HLV.out).mono ?_;rintro e w5 ⟨rfl,hb⟩;clear HLV;replace HB:=kB HB hb;replace Xb1:=kX hb Xb1;replace Vx:=Hd (FmV.below Vx.out hb rfl);clear hb;go_wp2_with fail;rw [HF.out];exact ⟨rfl,HB.out⟩
open Go.ChangeShapes Go.WideShapes Go.ChangeAt Go.RowKit
theorem FmRow.mk:∀ {w:World} {l:List Fm} {g o:Nat},(∀ j t,l[j]?=some t→FmAt w g (o+6*j) t)→FmRow w g o l
 | w,[],g,o,h=>by rw [FmRow];trivial
 | w,t :: r,g,o,h=>by
  rw [FmRow];exact ⟨h 0 t rfl,FmRow.mk fun j x hj=>by rw [show o+6+6*j=o+6*(j+1) from by omega];exact h (j+1) x (by simpa using hj)⟩
section
variable {H:Type} {enc:TypeId×Value→H} {w:World} {base:Nat} {spare:Nat→Bool} {held:Bool}
theorem opn_form:∀ (fuel:Nat) (cs:List Value) (x:DataW H×List MemPlace),DataW.trod enc Tryz.prog w base spare held fuel 35 cs=some x→∃ (t:Fm) (Ae:Option Addr) (ce:Nat) (A:Option Addr) (c:Nat),cs=[.int .i64 t.op,.int .i64 t.tm.op,.int .i64 t.tm.num,.string t.tm.name,.slice Ae t.tm.kids.length ce,.slice A t.kids.length c]∧FmV w Ae ce A c t:=by
 intro fuel
 induction fuel using Nat.strongRecOn with
 | _ fuel ih=>
  intro cs x h;obtain ⟨xs,n,hfu,-,hl,hxl,hf⟩:=DataW.trod_struct Tryz.underlying35 h;rw [show Tryz.prog.cellsOf 35=6 from by kernel_rfl] at hl
  obtain ⟨c0,c1,c2,c3,c4,c5,rfl⟩:∃ c0 c1 c2 c3 c4 c5,cs=[c0,c1,c2,c3,c4,c5]:=by
   match cs,hl with
   | [c0,c1,c2,c3,c4,c5],_=>exact ⟨c0,c1,c2,c3,c4,c5,rfl⟩
  obtain ⟨y0,y1,y2,rfl⟩:∃ y0 y1 y2,xs=[y0,y1,y2]:=by
   match xs,hxl with
   | [c0,c1,c2],_=>exact ⟨c0,c1,c2,rfl⟩
  have f0:=hf 0 _ rfl;have f1:=hf 1 _ rfl;have f2:=hf 2 _ rfl;simp [show Tryz.prog.cellsOf 3=1 from by kernel_rfl,show Tryz.prog.cellsOf 25=4 from by kernel_rfl,show Tryz.prog.cellsOf 33=1 from by kernel_rfl] at f0 f1 f2;obtain ⟨n0,e0,-,-⟩:=DataW.trod_int Tryz.underlying3 f0;obtain ⟨e,Ae,ce,e1,hE⟩:=opn_term _ _ _ f1
  obtain ⟨A,c,l,e2,h1,h2,h3⟩:=slice_rows Tryz.underlying33 (show Tryz.prog.cellsOf 35=6 from by kernel_rfl) (by decide) (fun b o (t:Fm)=>FmAt w b o t) (fun m hm b o cs' y hb hcl hcells htr=>by
   obtain ⟨t,Ae',ce',A',c',rfl,hV⟩:=ih m (by omega) cs' y htr;refine ⟨t,?_⟩;have g0:=hcells 0 (by omega);have g1:=hcells 1 (by omega);have g2:=hcells 2 (by omega);have g3:=hcells 3 (by omega);have g4:=hcells 4 (by omega);have g5:=hcells 5 (by omega)
   exact FmAt.mk g0 g1 g2 g3 g4 g5 hV) f2
  injection e0 with e0
  injection e1 with e1 e1'
  injection e1' with e11 e1'
  injection e1' with e12 e1'
  injection e1' with e13 e1'
  injection e2 with e2
  subst e0 e1 e11 e12 e13 e2;refine ⟨.mk n0 e l,Ae,ce,A,c,rfl,hE,h1,h2,?_⟩
  rcases h3 with h3 | ⟨b,o,rfl,hb,h3⟩
  · exact .inl h3
  · exact .inr ⟨b,o,rfl,hb,FmRow.mk h3⟩
end
section
variable {H:Type} {enc:TypeId×Value→H} {W:World} {base:Nat} {v:Value} {d:DataW H} {p:List MemPlace}
theorem arg_form (hv:Value.okWide Tryz.prog W .any base 35 v) (h:DataW.Trod enc Tryz.prog W 0 (fun _=>true) true 35 v d p):∃ (t:Fm) (Ae:Option Addr) (ce:Nat) (A:Option Addr) (c:Nat),v=t.val Ae ce A c∧FmV W Ae ce A c t:=by
 obtain ⟨cs,rfl,-⟩:=okWide_struct Tryz.underlying35 hv;obtain ⟨fuel,hf⟩:=h;obtain ⟨t,Ae,ce,A,c,e,hV⟩:=opn_form _ _ _ hf;have e':cs.toList=[.int .i64 t.op,.int .i64 t.tm.op,.int .i64 t.tm.num,.string t.tm.name,.slice Ae t.tm.kids.length ce,.slice A t.kids.length c]:=e;refine ⟨t,Ae,ce,A,c,?_,hV⟩
 have:cs=#[.int .i64 t.op,.int .i64 t.tm.op,.int .i64 t.tm.num,.string t.tm.name,.slice Ae t.tm.kids.length ce,.slice A t.kids.length c]:=by
  rw [←Array.toList_inj,e']
 rw [this]
 rfl
end
open Go.ChangeMaps (open_string shut_string)
namespace lawFtextShows
theorem lifted (os:Os) (started:os.Started) (H:Type) (enc:TypeId×Value→H) :
 ReturnsInHanded {} Tryz.checked os 5 .any (fun w args=>(Rows.ftextShowsSpec.pre enc Tryz.prog Tryz.f5 Rows.ftextShowsRow.domain false w args∧laidMetH Tryz.prog Rows.ftextShowsRow.laid w)∧sizedMet enc Tryz.prog Tryz.f5 (OpenSpec.ofChange Rows.ftextShowsSpec) false w args)
  (Rows.ftextShowsSpec.post enc Tryz.prog Tryz.f5 false true false false):=by
 refine returnsInHanded_of_change_and (C:=Tryz.checked) (X:=fun w _=>laidMetH Tryz.prog Rows.ftextShowsRow.laid w) (fun _ _ _ hh h=>h.of_heap hh) own started (by kernel_rfl) Tryz.func5
  (ChangeSpec.witness_shaped (enc:=enc) (C:=Tryz.checked) (os:=os) (X:=fun w _=>laidMetH Tryz.prog Rows.ftextShowsRow.laid w) false (World.laidAll Tryz.prog os Rows.ftextShowsRow.laid) #[.agg #[.int .i64 0,.int .i64 0,.int .i64 0,.string ⟨#[]⟩,.slice none 0 0,.slice none 0 0]] 8 (World.laidAll_os _ _ _)
    (World.shaped_of_ZipB (by kernel_rfl) (by kernel_rfl)) (by kernel_rfl) (by kernel_rfl) (by kernel_rfl)
    (by rw [MakeChecks.laidMetH_plain _ _ _ (by kernel_rfl)];exact laidMet_laidAll _ (by kernel_rfl) (by kernel_rfl))) ?_
 intro W base args ds gs before hval0 hW hcnd hsz hL _;have hval:∀ (j:Nat) t v,Tryz.f5.params[j]?=some t→args[j]?=some v→Value.okWide Tryz.prog W .any base t v:=hval0;have hW':=hW;obtain ⟨p,q,hA0,hV,rfl,hfz,hnd⟩:=hW;have hA:DataW.TrodAll enc Tryz.prog W 0 (fun _=>true) true Tryz.f5.params.toList args.toList ds p:=hA0;rw [Tryz.params5] at hA hval;obtain ⟨v0,vs0,d0,ds0,p0,q0,hargs,rfl,rfl,h0,r0⟩:=trodAll_cons hA;obtain ⟨rfl,rfl,rfl⟩:=trodAll_nil r0;obtain rfl:args=#[v0]:=by cases args;simp_all
 obtain ⟨rfl,rfl⟩:=trodVars_none hV;rw [MakeChecks.laidMetH_plain _ _ _ (by kernel_rfl)] at hL;have hT:Tables W:=tables_of_reads (Lib.laidMet.reads hL (by simp [Rows.ftextShowsRow])) (Lib.laidMet.reads hL (by simp [Rows.ftextShowsRow]));have k0:=h0;have lt0:∀ x∈p0,x.block<W.heap.size:=by obtain ⟨m,hm⟩:=k0;exact DataW.trod_lt m _ _ _ hm
 obtain ⟨f,Ae,ce,A,c,rfl,hV⟩:=arg_form (hval 0 35 v0 rfl rfl) h0;clear hA0 hval0;refine (ftextShows_any f Ae ce A c W hV hT).mono fun e W' ⟨he,bel⟩=>?_;subst he;exact ⟨_,rfl,_,_,_,[],_,[],hW',trodAll_mk1 (shut_bool Tryz.underlying4 _),(trodAll_cons_mk (Below.trod laidOut (by kernel_rfl) (of_decide_eq_true (by kernel_rfl)) k0 bel lt0) trodAll_mk0),rfl,bel.frame _,fun h=>by cases h⟩
theorem said:Rows.FtextShowsSaid:=
 OpenClaim.holds_of_wide 5 Tryz.f5 rfl rfl rfl rfl rfl rfl rfl ⟨rfl,rfl,rfl,rfl,rfl⟩ rfl rfl rfl rfl rfl (by kernel_rfl) Tryz.func5 (by kernel_rfl)
  (of_decide_eq_true (by kernel_rfl)) (by unfold Func.isWrapper;first | (rw [iP (by decide +kernel)];kernel_rfl) | (rw [iN (by decide +kernel)];exact ⟨rfl,rfl⟩))
  (fun os started H enc _=>lifted os started H enc)
theorem card:Rows.FtextShowsCardSaid:=
 Claim7.holds_tied_plain_at .later [] _ _ _ _ said (fun _ h=>by cases h) (by kernel_rfl) (fun _ h=>by cases h) ftextShows_row_tie rfl ⟨rfl,rfl⟩ (by kernel_rfl) rfl
  (fun f fn hf hfn=>by
    obtain rfl:f=5:=Option.some.inj ((show Tryz.prog.funcNamed Rows.ftextShowsRow.func=some 5 by kernel_rfl).symm.trans hf) |>.symm;obtain rfl:fn=Tryz.f5:=(Option.some.inj (Tryz.func5.symm.trans hfn)).symm
    exact ⟨by kernel_rfl,fun j t ht=>by
     rw [Tryz.params5] at ht;have hm:t∈[35]:=by simpa using Array.mem_of_getElem? ht
     have hall:([35].all fun u=>!Tryz.prog.wantsStandIn u)=true:=by kernel_rfl
     exact (show Tryz.prog.wantsStandIn t=false by simpa using List.all_eq_true.1 hall t hm)⟩)
  (by kernel_rfl)
#print axioms card
end lawFtextShows
end Go.Proofs.YtnbphgeepnknlaaGreatDoor
