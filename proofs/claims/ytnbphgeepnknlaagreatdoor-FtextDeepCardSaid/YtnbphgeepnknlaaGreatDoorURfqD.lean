/- Walks: the reference's Over, between. -/
import Derived.Test.YtnbphgeepnknlaaGreatDoorURfqC
import Derived.Test.YtnbphgeepnknlaaGreatDoorURprY
namespace Go.Proofs.YtnbphgeepnknlaaGreatDoor
open Go.RowKit
set_option linter.unusedVariables false
set_option linter.unusedSimpArgs false
set_option maxRecDepth 100000
set_option maxHeartbeats 16000000
theorem tLRfqD {o:Array Oper} {i:Nat} {x:Oper} (h:o.toList[i]?=some x):o[i]?=some x:=by simpa using h
def overK (s:Bs) (k:Nat):Int:=if k≤0∧s=[69,88] then 6 else if k≤1∧s=[69,70] then 7 else if k≤2∧s=[69,71] then 8 else if k≤3∧s=[65,88] then 10 else if k≤4∧s=[65,70] then 11 else if k≤5∧s=[65,71] then 12 else 0
theorem rfover_any (s:ByteArray) (w:World):Calls Tryz.prog 208 #[.string s] w fun e w'=>e=.returned (.int .i64 (overK (bs s) 0))∧Below w.heap.size w w':=by
 obtain ⟨r,HR⟩:=exh_ (overK (bs s) 0);obtain ⟨F,hF⟩:∃ F:Ending→World→Prop,F=fun e w'=>e=.returned (.int .i64 r)∧Below w.heap.size w w':=⟨_,rfl⟩;rw [←HR.out,←hF];have HF:=Hd hF;obtain ⟨w2,hw2⟩:=ex_ ((w.alloc (.cells #[.string ⟨#[69,88]⟩,.string ⟨#[69,70]⟩,.string ⟨#[69,71]⟩,.string ⟨#[65,88]⟩,.string ⟨#[65,70]⟩,.string ⟨#[65,71]⟩] 9)).alloc (.cells #[.int .i64 6,.int .i64 7,.int .i64 8,.int .i64 10,.int .i64 11,.int .i64 12] 3));have HB:Hid (Below w.heap.size w w2):=by show Below _ _ _;rw [hw2];exact ((Br _ _).alloc (lr _) _).alloc (by simp) _
 have hxw:w2.heap[w.heap.size]?=some (.cells #[.string ⟨#[69,88]⟩,.string ⟨#[69,70]⟩,.string ⟨#[69,71]⟩,.string ⟨#[65,88]⟩,.string ⟨#[65,70]⟩,.string ⟨#[65,71]⟩] 9 (0,0)):=by rw [hw2];exact aK (hA_ w _)
 have hxo:w2.heap[w.heap.size+1]?=some (.cells #[.int .i64 6,.int .i64 7,.int .i64 8,.int .i64 10,.int .i64 11,.int .i64 12] 3 (0,0)):=by
  have h:=hA_ (w.alloc (.cells #[.string ⟨#[69,88]⟩,.string ⟨#[69,70]⟩,.string ⟨#[69,71]⟩,.string ⟨#[65,88]⟩,.string ⟨#[65,70]⟩,.string ⟨#[65,71]⟩] 9)) (.cells #[.int .i64 6,.int .i64 7,.int .i64 8,.int .i64 10,.int .i64 11,.int .i64 12] 3);rw [hw2]
  simpa using h
 have xw:∀ j v,(#[.string ⟨#[69,88]⟩,.string ⟨#[69,70]⟩,.string ⟨#[69,71]⟩,.string ⟨#[65,88]⟩,.string ⟨#[65,70]⟩,.string ⟨#[65,71]⟩]:Array Value)[j]?=some v→w2.cell? ⟨w.heap.size,j,none⟩=some v:=fun j v hv=>by rw [cR w2 _ j _ _ (0,0) hxw];exact hv
 have xo:∀ j v,(#[.int .i64 6,.int .i64 7,.int .i64 8,.int .i64 10,.int .i64 11,.int .i64 12]:Array Value)[j]?=some v→w2.cell? ⟨w.heap.size+1,j,none⟩=some v:=fun j v hv=>by rw [cR w2 _ j _ _ (0,0) hxo];exact hv
 have HW2:=Hd hw2;clear hF hw2 hxw hxo;go_enter Tryz.func208,Tryz.ntmps208;go_wp2_with fail;rw [←HW2.out]
 go_loopw [5] (fun si wr=>∃ k:Nat,si=.int .i64 (k:Nat)∧k≤6∧wr=w2∧overK (bs s) k=r) (fun si _=>6 - (intOf si).toNat)
 case atStart=>exact ⟨0,rfl,by omega,rfl,HR.out.symm⟩
 case round=>
  obtain ⟨k,rfl,hk6,hwr,hkr⟩:=hrel;rw [hwr];clear hwr;have HK:=Hd hkr;clear hkr;have hcs:k=0∨k=1∨k=2∨k=3∨k=4∨k=5∨k=6:=by omega
  rcases hcs with rfl | rfl | rfl | rfl | rfl | rfl | rfl
  · rw [show ((0:Nat):Int)=0 from rfl];have y0:=xw 0 _ rfl
    by_cases hk:bs s=[69,88]
    · have hc:(([69,88]:List UInt8) == s.toList)=true:=by rw [ByteArray.toList_eq,show s.data.toList=bs s from rfl,hk];decide
      have HRR:Hid (r=6):=by show _=_;rw [←HK.out];unfold overK;rw [iP ⟨by omega,hk⟩]
      have y1:=xo 0 _ rfl;clear hk;go_wp2_with fail;rw [HF.out,HRR.out];exact ⟨rfl,HB.out⟩
    · have hc:(([69,88]:List UInt8) == s.toList)=false:=by rw [ByteArray.toList_eq,show s.data.toList=bs s from rfl];simp;exact fun h=>hk h.symm
      have HRR:Hid (overK (bs s) 1=r):=by show _=_;rw [←HK.out];unfold overK;simp [hk]
      clear hk;go_wp2_with fail
      go_roundw
      case rel=>exact ⟨1,by go_num,by omega,trivial,HRR.out⟩
      case measure=>simp [intOf]
  · rw [show ((1:Nat):Int)=1 from rfl];have y0:=xw 1 _ rfl
    by_cases hk:bs s=[69,70]
    · have hc:(([69,70]:List UInt8) == s.toList)=true:=by rw [ByteArray.toList_eq,show s.data.toList=bs s from rfl,hk];decide
      have HRR:Hid (r=7):=by show _=_;rw [←HK.out];unfold overK;rw [iN (by omega)];rw [iP ⟨by omega,hk⟩]
      have y1:=xo 1 _ rfl;clear hk;go_wp2_with fail;rw [HF.out,HRR.out];exact ⟨rfl,HB.out⟩
    · have hc:(([69,70]:List UInt8) == s.toList)=false:=by rw [ByteArray.toList_eq,show s.data.toList=bs s from rfl];simp;exact fun h=>hk h.symm
      have HRR:Hid (overK (bs s) 2=r):=by show _=_;rw [←HK.out];unfold overK;simp [hk]
      clear hk;go_wp2_with fail
      go_roundw
      case rel=>exact ⟨2,by go_num,by omega,trivial,HRR.out⟩
      case measure=>simp [intOf]
  · rw [show ((2:Nat):Int)=2 from rfl];have y0:=xw 2 _ rfl
    by_cases hk:bs s=[69,71]
    · have hc:(([69,71]:List UInt8) == s.toList)=true:=by rw [ByteArray.toList_eq,show s.data.toList=bs s from rfl,hk];decide
      have HRR:Hid (r=8):=by show _=_;rw [←HK.out];unfold overK;rw [iN (by omega),iN (by omega)];rw [iP ⟨by omega,hk⟩]
      have y1:=xo 2 _ rfl;clear hk;go_wp2_with fail;rw [HF.out,HRR.out];exact ⟨rfl,HB.out⟩
    · have hc:(([69,71]:List UInt8) == s.toList)=false:=by rw [ByteArray.toList_eq,show s.data.toList=bs s from rfl];simp;exact fun h=>hk h.symm
      have HRR:Hid (overK (bs s) 3=r):=by show _=_;rw [←HK.out];unfold overK;simp [hk]
      clear hk;go_wp2_with fail
      go_roundw
      case rel=>exact ⟨3,by go_num,by omega,trivial,HRR.out⟩
      case measure=>simp [intOf]
  · rw [show ((3:Nat):Int)=3 from rfl];have y0:=xw 3 _ rfl
    by_cases hk:bs s=[65,88]
    · have hc:(([65,88]:List UInt8) == s.toList)=true:=by rw [ByteArray.toList_eq,show s.data.toList=bs s from rfl,hk];decide
      have HRR:Hid (r=10):=by show _=_;rw [←HK.out];unfold overK;rw [iN (by omega),iN (by omega),iN (by omega)];rw [iP ⟨by omega,hk⟩]
      have y1:=xo 3 _ rfl;clear hk;go_wp2_with fail;rw [HF.out,HRR.out];exact ⟨rfl,HB.out⟩
    · have hc:(([65,88]:List UInt8) == s.toList)=false:=by rw [ByteArray.toList_eq,show s.data.toList=bs s from rfl];simp;exact fun h=>hk h.symm
      have HRR:Hid (overK (bs s) 4=r):=by show _=_;rw [←HK.out];unfold overK;simp [hk]
      clear hk;go_wp2_with fail
      go_roundw
      case rel=>exact ⟨4,by go_num,by omega,trivial,HRR.out⟩
      case measure=>simp [intOf]
  · rw [show ((4:Nat):Int)=4 from rfl];have y0:=xw 4 _ rfl
    by_cases hk:bs s=[65,70]
    · have hc:(([65,70]:List UInt8) == s.toList)=true:=by rw [ByteArray.toList_eq,show s.data.toList=bs s from rfl,hk];decide
      have HRR:Hid (r=11):=by show _=_;rw [←HK.out];unfold overK;rw [iN (by omega),iN (by omega),iN (by omega),iN (by omega)];rw [iP ⟨by omega,hk⟩]
      have y1:=xo 4 _ rfl;clear hk;go_wp2_with fail;rw [HF.out,HRR.out];exact ⟨rfl,HB.out⟩
    · have hc:(([65,70]:List UInt8) == s.toList)=false:=by rw [ByteArray.toList_eq,show s.data.toList=bs s from rfl];simp;exact fun h=>hk h.symm
      have HRR:Hid (overK (bs s) 5=r):=by show _=_;rw [←HK.out];unfold overK;simp [hk]
      clear hk;go_wp2_with fail
      go_roundw
      case rel=>exact ⟨5,by go_num,by omega,trivial,HRR.out⟩
      case measure=>simp [intOf]
  · rw [show ((5:Nat):Int)=5 from rfl];have y0:=xw 5 _ rfl
    by_cases hk:bs s=[65,71]
    · have hc:(([65,71]:List UInt8) == s.toList)=true:=by rw [ByteArray.toList_eq,show s.data.toList=bs s from rfl,hk];decide
      have HRR:Hid (r=12):=by show _=_;rw [←HK.out];unfold overK;rw [iN (by omega),iN (by omega),iN (by omega),iN (by omega),iN (by omega)];rw [iP ⟨by omega,hk⟩]
      have y1:=xo 5 _ rfl;clear hk;go_wp2_with fail;rw [HF.out,HRR.out];exact ⟨rfl,HB.out⟩
    · have hc:(([65,71]:List UInt8) == s.toList)=false:=by rw [ByteArray.toList_eq,show s.data.toList=bs s from rfl];simp;exact fun h=>hk h.symm
      have HRR:Hid (overK (bs s) 6=r):=by show _=_;rw [←HK.out];unfold overK;simp [hk]
      clear hk;go_wp2_with fail
      go_roundw
      case rel=>exact ⟨6,by go_num,by omega,trivial,HRR.out⟩
      case measure=>simp [intOf]
  · rw [show ((6:Nat):Int)=6 from rfl];have HRR:Hid (r=0):=by show _=_;rw [←HK.out];unfold overK;rw [iN (by omega),iN (by omega),iN (by omega),iN (by omega),iN (by omega),iN (by omega)]
    clear xw xo;go_wp2_with fail;rw [HF.out,HRR.out];exact ⟨rfl,HB.out⟩
def betP (l:List Tok) (PF:FPar) (op:Int) (i:Nat):Rs Fm:=if isTk l (i+1) 4 [91]=true then (PF (i+2)).then fun f j=>if isTk l j 3 [85]=true then (PF (j+1)).then fun g k=>if isTk l k 4 [93]=true then .ok (fmOf op [f,g]) (k+1) else .bad k 16 else .bad j 16 else .bad (i+1) 16
theorem rfbetween_any (l:List Tok) (d:Nat) (PF:FPar) (op:Int) (i:Nat) (hd:d<256) (hF:FnG l (d+1) 72 PF) (hG:FGdP l PF) (hZ:FNzP PF) (t:Tok) (ht:l[i]?=some t) (hop:(op=9∧t.text=[69])∨(op=13∧t.text=[65])) (A:Option Addr) (c:Nat) (w:World) (hP:TokIn w A c l) :
 Calls Tryz.prog 209 #[.slice A l.length c,.int .i64 (i:Nat),.int .i64 (d:Nat)] w (GFQ w (betP l PF op i)):=by
 have hi:i<l.length:=(gE.1 ht).1;obtain ⟨w1,hw1⟩:=ex_ (w.alloc (.cells #[.int .i64 0,.int .i64 0,.int .i64 0,.string ⟨#[]⟩,.slice none 0 0,.slice none 0 0,.int .i64 0,.int .i64 0] 150));have hb1:=bAl hw1;have hs1:w1.heap.size=w.heap.size+1:=by rw [hw1];simp
 have X6:=nAl hw1 rfl;have HB:=Hd hb1;have HW1:=Hd hw1;have HP:=Hd hP;have hlen:=hP.len;have hcap:=hP.cap;have hcapm:=hP.capm;unfold maxLen at hcapm;obtain ⟨n,hn⟩:=ex_ l.length;have HN:=Hd hn;rw [←hn] at hi hlen hcap;obtain ⟨F,HF⟩:=exh_ (GFQ w (betP l PF op i));rw [←HF.out];have HG:=Hd hG;have HZ:=Hd hZ;have HFN:=Hd (hF A c);rw [←hn];obtain ⟨b,off,hA,hbw0,hil,hbw,hk0,hk1,hcell,-⟩:=rtok HP (Hd hb1) HN ht;have y2:=hcell i t ht 2 (by omega);simp only [tokV] at y2;have HA:=Hd hA;obtain ⟨T,hT⟩:∃ T:ByteArray,T=⟨t.text.toArray⟩:=⟨_,rfl⟩;rw [←hT] at y2;have hTl:T.toList=t.text:=by rw [hT,ByteArray.toList_eq]
 have hwr:IntKind.i64.wrap ((i:Int)+1)=(i:Int)+1:=IntWalk.i64_in _ (by omega)
 have hc:([65] == T.toList)=decide (op=13)∧(T.toList == [65])=decide (op=13):=by
  rw [hTl]
  rcases hop with ⟨h1,h2⟩ | ⟨h1,h2⟩ <;> rw [h1,h2] <;> decide
 obtain ⟨hc1,hc2⟩:=hc;have hopv:op=9∨op=13:=hop.imp (fun h=>h.1) (fun h=>h.1);clear hF hG hZ hP hn ht hop hT hTl hcell hb1 hw1
 rcases hopv with rfl | rfl
 all_goals
  first
   | rw [show decide ((9:Int)=13)=false from by decide] at hc1 hc2
   | rw [show decide ((13:Int)=13)=true from by decide] at hc1 hc2
  go_enter Tryz.func209,Tryz.ntmps209;have hI:=rfis_any _ c (i+1) l 4 ⟨#[91]⟩ w1 (HP.out.below HB.out) (by omega);rw [show isTk l (i+1) 4 (bs ⟨#[91]⟩)=isTk l (i+1) 4 [91] from rfl,←HN.out] at hI;rw [show ((i+1:Nat):Int)=(i:Int)+1 from by omega] at hI
  by_cases hk:isTk l (i+1) 4 [91]=true
  · have HT1:Hid (isTk l (i+1) 4 [91]=true):=hk;rw [hk] at hI;have HI:=Hd hI;have hi1:=isTk_lt hk;clear hI hk;subst hA;go_wp2_with fail;rw [←HW1.out];(try go_wp2_with fail);refine (HI.out).mono ?_;rintro e w' ⟨rfl,hww⟩;rw [hww];clear hww HI y2 hc1 hc2;have hcf:=HFN.out (i+2) w1 (by omega) (HP.out.below HB.out);rw [show ((i+2:Nat):Int)=(i:Int)+2 from by omega] at hcf;rw [show ((d+1:Nat):Int)=(d:Int)+1 from by omega] at hcf;obtain ⟨r1,HRr1⟩:=exh_ (PF (i+2));rw [←HRr1.out,←HN.out] at hcf;have HC:=Hd hcf;clear hcf;go_wp2_with fail;refine (HC.out).mono ?_;rintro e w2 ⟨x,rfl,hx,hb2⟩;obtain ⟨jr1,HJr1⟩:=exh_ r1.at_;obtain ⟨yr1,HYr1⟩:=exh_ r1.err;rw [←HJr1.out,←HYr1.out];have HXx:Hid (∀ f j,r1=.ok f j→x.Is (fun q=>w.heap.size<q) w2 f):=fun f j h=>(hx f j h).keep Kr (fun q _ h=>by have:=lH X6.out;omega);clear hx HC;replace X6:=kX hb2 X6;replace HB:=kB HB hb2;clear hb2;have XPb7:=X6;have HBPb7:=HB;obtain ⟨b7,hb7⟩:=ex_ w2.heap.size;obtain ⟨w3,hw3⟩:=ex_ (w2.alloc (.cells #[.int .i64 x.o,.int .i64 x.tn,.int .i64 x.tm,.string x.s,.slice x.Ae x.ne x.ce,.slice x.A x.n x.c,.int .i64 (jr1:Nat),.int .i64 yr1] 150));have Xb7:=nAl hw3 hb7;have hal:=bAl hw3;have GTb7:w.heap.size<b7:=by have:=lH X6.out;omega
    have Qb7:=Hd hb7;have Qw3:=Hd hw3;clear hb7 hw3;replace X6:=kX hal X6;replace HB:=kB HB hal;replace HXx:Hid (∀ f j,r1=.ok f j→x.Is (fun q=>w.heap.size<q) w3 f):=fun f j h=>(HXx.out f j h).keep (Kb hal) (fun _ _ h=>h);clear hal
    by_cases hy:yr1=0
    · obtain ⟨f,hf⟩:=rs_ok HJr1.out HYr1.out hy (fun j e h=>HZ.out (i+2) j e (by rw [←HRr1.out];exact h));have HP1:=Hd (HRr1.out.symm.trans hf);have hjl:=(HG.out (i+2) f jr1 HP1.out).jl;rw [←HN.out] at hjl;have HI1:Hid (x.Is (fun q=>w.heap.size<q) w3 f):=HXx.out f jr1 hf;subst hy;clear hf HXx;have hI:=rfis_any _ c (jr1) l 3 ⟨#[85]⟩ w3 (HP.out.below HB.out) (by omega);rw [show isTk l (jr1) 3 (bs ⟨#[85]⟩)=isTk l (jr1) 3 [85] from rfl,←HN.out] at hI
      by_cases hk:isTk l (jr1) 3 [85]=true
      · have HT2:Hid (isTk l jr1 3 [85]=true):=hk;rw [hk] at hI;have HI:=Hd hI;have hj1:jr1<n:=by rw [HN.out];exact isTk_lt hk
        clear hI hk;obtain ⟨u0,u1,u2,u3,u4,u5,u6,u7,uzq⟩:=q8 Xb7.out;have hul:=lH Xb7.out;go_wp2_with fail;rw [←Qw3.out,←Qb7.out];(try go_wp2_with fail);refine (HI.out).mono ?_;rintro e w' ⟨rfl,hww⟩;rw [hww];clear hww HI;have hcf:=HFN.out (jr1+1) w3 (by rw [←HN.out];omega) (HP.out.below HB.out);rw [show ((jr1+1:Nat):Int)=(jr1:Int)+1 from by omega] at hcf;rw [show ((d+1:Nat):Int)=(d:Int)+1 from by omega] at hcf;obtain ⟨r2,HRr2⟩:=exh_ (PF (jr1+1));rw [←HRr2.out,←HN.out] at hcf;have HC:=Hd hcf;clear hcf;go_wp2_with fail;refine (HC.out).mono ?_;rintro e w4 ⟨y,rfl,hx,hb2⟩;obtain ⟨jr2,HJr2⟩:=exh_ r2.at_;obtain ⟨yr2,HYr2⟩:=exh_ r2.err;rw [←HJr2.out,←HYr2.out];have HXy:Hid (∀ f j,r2=.ok f j→y.Is (fun q=>w.heap.size<q) w4 f):=fun f j h=>(hx f j h).keep Kr (fun q _ h=>by have:=lH X6.out;omega);clear hx HC;replace X6:=kX hb2 X6;replace Xb7:=kX hb2 Xb7;replace HB:=kB HB hb2;replace HI1:Hid (x.Is (fun q=>w.heap.size<q) w4 f):=HI1.out.keep (Kb hb2) (fun _ _ h=>h);clear hb2 hul u0 uzq u1 u2 u3 u4 u5 u6 u7;have XPb8:=X6;have HBPb8:=HB;obtain ⟨b8,hb8⟩:=ex_ w4.heap.size;obtain ⟨w5,hw5⟩:=ex_ (w4.alloc (.cells #[.int .i64 y.o,.int .i64 y.tn,.int .i64 y.tm,.string y.s,.slice y.Ae y.ne y.ce,.slice y.A y.n y.c,.int .i64 (jr2:Nat),.int .i64 yr2] 150));have Xb8:=nAl hw5 hb8;have hal:=bAl hw5;have GTb8:w.heap.size<b8:=by have:=lH X6.out;omega
        have Qb8:=Hd hb8;have Qw5:=Hd hw5;clear hb8 hw5;replace X6:=kX hal X6;replace Xb7:=kX hal Xb7;replace HB:=kB HB hal;replace HI1:Hid (x.Is (fun q=>w.heap.size<q) w5 f):=HI1.out.keep (Kb hal) (fun _ _ h=>h);replace HXy:Hid (∀ f j,r2=.ok f j→y.Is (fun q=>w.heap.size<q) w5 f):=fun f j h=>(HXy.out f j h).keep (Kb hal) (fun _ _ h=>h);clear hal
        by_cases hy:yr2=0
        · obtain ⟨g2,hg2⟩:=rs_ok HJr2.out HYr2.out hy (fun j e h=>HZ.out (jr1+1) j e (by rw [←HRr2.out];exact h));have HP2:=Hd (HRr2.out.symm.trans hg2);have hjl2:=(HG.out (jr1+1) g2 jr2 HP2.out).jl;rw [←HN.out] at hjl2;have HI2:Hid (y.Is (fun q=>w.heap.size<q) w5 g2):=HXy.out g2 jr2 hg2;subst hy;clear hg2 HXy;have hI:=rfis_any _ c (jr2) l 4 ⟨#[93]⟩ w5 (HP.out.below HB.out) (by omega);rw [show isTk l (jr2) 4 (bs ⟨#[93]⟩)=isTk l (jr2) 4 [93] from rfl,←HN.out] at hI
          by_cases hk:isTk l (jr2) 4 [93]=true
          · have HT3:Hid (isTk l jr2 4 [93]=true):=hk;rw [hk] at hI;have HI:=Hd hI;clear hI hk;obtain ⟨u0,u1,u2,u3,u4,u5,u6,u7,uzq⟩:=q8 Xb8.out;have hul:=lH Xb8.out;go_wp2_with fail;rw [←Qw5.out,←Qb8.out];(try go_wp2_with fail);refine (HI.out).mono ?_;rintro e w' ⟨rfl,hww⟩;rw [hww];clear hww HI;go_wp2_with fail;clear hul u0 uzq u1 u2 u3 u4 u5 u6 u7;have hwj:IntKind.i64.wrap ((jr2:Int)+1)=(jr2:Int)+1:=IntWalk.i64_in _ (by omega);obtain ⟨wd,hwd⟩:=ex_ w5.drew;have hbd:Below w5.heap.size w5 wd:=by rw [hwd];exact (Br _ _).drew
            replace X6:=kX hbd X6;replace Xb7:=kX hbd Xb7;replace Xb8:=kX hbd Xb8;replace HB:=kB HB hbd;replace HI1:Hid (x.Is (fun q=>w.heap.size<q) wd f):=HI1.out.keep (Kb hbd) (fun _ _ h=>h);replace HI2:Hid (y.Is (fun q=>w.heap.size<q) wd g2):=HI2.out.keep (Kb hbd) (fun _ _ h=>h);have htw:=fun o=>rftwo_any o x y wd;unfold FV.val at htw;have HTW:=Hd htw;refine wp_region_held_drew (S:=fun w'=>w'.heap[b7]?=some (.cells #[.int .i64 x.o,.int .i64 x.tn,.int .i64 x.tm,.string x.s,.slice x.Ae x.ne x.ce,.slice x.A x.n x.c,.int .i64 (jr1:Nat),.int .i64 0] 150 (0,0))∧w'.heap[b8]?=some (.cells #[.int .i64 y.o,.int .i64 y.tn,.int .i64 y.tm,.string y.s,.slice y.Ae y.ne y.ce,.slice y.A y.n y.c,.int .i64 (jr2:Nat),.int .i64 0] 150 (0,0))) (by kernel_rfl) (by rw [←hwd];exact ⟨Xb7.out,Xb8.out⟩) (fun hHeld=>?_);rw [←hwd] at hHeld ⊢;clear hwd hbd htw;refine tkH 0 (v:=?_) (tLRfqD rfl) (Or.inl ⟨by rfl,?hy⟩) (by assumption) ?_
            case hy=>
             intro w0 hSw;obtain ⟨h0,h1,h2,h3,h4,h5,h6,h7,-⟩:=q8 hSw.1;obtain ⟨k0,k1,k2,k3,k4,k5,k6,k7,-⟩:=q8 hSw.2;clear hSw;go_simp
             (first | done | with_reducible rfl)
            (try simp only [Act.put,sAr,sZe,sSu]);refine tkH 1 (v:=?_) (tLRfqD rfl) (Or.inl ⟨by rfl,?hy⟩) (by assumption) ?_
            case hy=>
             intro w0 hSw;obtain ⟨h0,h1,h2,h3,h4,h5,h6,h7,-⟩:=q8 hSw.1;obtain ⟨k0,k1,k2,k3,k4,k5,k6,k7,-⟩:=q8 hSw.2;clear hSw;go_simp
             (first | done | with_reducible rfl)
            (try simp only [Act.put,sAr,sZe,sSu]);refine tkH 2 (v:=?_) (tLRfqD rfl) (Or.inl ⟨by rfl,?hy⟩) (by assumption) ?_
            case hy=>
             intro w0 hSw;obtain ⟨h0,h1,h2,h3,h4,h5,h6,h7,-⟩:=q8 hSw.1;obtain ⟨k0,k1,k2,k3,k4,k5,k6,k7,-⟩:=q8 hSw.2;clear hSw;go_simp
             (first | done | with_reducible rfl)
            (try simp only [Act.put,sAr,sZe,sSu]);refine tkH 3 (v:=?_) (tLRfqD rfl) (Or.inl ⟨by rfl,?hy⟩) (by assumption) ?_
            case hy=>
             intro w0 hSw;obtain ⟨h0,h1,h2,h3,h4,h5,h6,h7,-⟩:=q8 hSw.1;obtain ⟨k0,k1,k2,k3,k4,k5,k6,k7,-⟩:=q8 hSw.2;clear hSw;go_simp
             (first | done | with_reducible rfl)
            (try simp only [Act.put,sAr,sZe,sSu]);refine tkH 4 (v:=?_) (tLRfqD rfl) (Or.inl ⟨by rfl,?hy⟩) (by assumption) ?_
            case hy=>
             intro w0 hSw;obtain ⟨h0,h1,h2,h3,h4,h5,h6,h7,-⟩:=q8 hSw.1;obtain ⟨k0,k1,k2,k3,k4,k5,k6,k7,-⟩:=q8 hSw.2;clear hSw;go_simp
             (first | done | with_reducible rfl)
            (try simp only [Act.put,sAr,sZe,sSu]);refine tkH 6 (v:=?_) (tLRfqD rfl) (Or.inl ⟨by rfl,?hy⟩) (by assumption) ?_
            case hy=>
             intro w0 hSw;obtain ⟨h0,h1,h2,h3,h4,h5,h6,h7,-⟩:=q8 hSw.1;obtain ⟨k0,k1,k2,k3,k4,k5,k6,k7,-⟩:=q8 hSw.2;clear hSw;go_simp
             (first | done | with_reducible rfl)
            (try simp only [Act.put,sAr,sZe,sSu]);refine tkH 7 (v:=?_) (tLRfqD rfl) (Or.inl ⟨by rfl,?hy⟩) (by assumption) ?_
            case hy=>
             intro w0 hSw;obtain ⟨h0,h1,h2,h3,h4,h5,h6,h7,-⟩:=q8 hSw.1;obtain ⟨k0,k1,k2,k3,k4,k5,k6,k7,-⟩:=q8 hSw.2;clear hSw;go_simp
             (first | done | with_reducible rfl)
            (try simp only [Act.put,sAr,sZe,sSu]);refine tkH 8 (v:=?_) (tLRfqD rfl) (Or.inl ⟨by rfl,?hy⟩) (by assumption) ?_
            case hy=>
             intro w0 hSw;obtain ⟨h0,h1,h2,h3,h4,h5,h6,h7,-⟩:=q8 hSw.1;obtain ⟨k0,k1,k2,k3,k4,k5,k6,k7,-⟩:=q8 hSw.2;clear hSw;go_simp
             (first | done | with_reducible rfl)
            (try simp only [Act.put,sAr,sZe,sSu]);refine Rd (rs:=[5]) (by kernel_rfl) (by simp) ?_;refine Rc (tLRfqD rfl) (fun K hK=>?_) Rn;go_simp;(with_reducible refine (HTW.out _).mono ?_);rintro e w8 ⟨g,rfl,hrow,hgw,hb2⟩;refine hK.out _ _ ⟨(hb2.block b7 (lH Xb7.out)).trans Xb7.out,(hb2.block b8 (lH Xb8.out)).trans Xb8.out⟩ (fun hHeld=>?_);clear hK K;(try simp only [Act.put,sAr,sZe,sSu]);replace X6:=kX hb2 X6;replace HB:=kB HB hb2;replace HI1:Hid (x.Is (fun q=>w.heap.size<q) w8 f):=HI1.out.keep (Kb hb2) (fun _ _ h=>h);replace HI2:Hid (y.Is (fun q=>w.heap.size<q) w8 g2):=HI2.out.keep (Kb hb2) (fun _ _ h=>h);have HROW:=Hd hrow;have hgg:w.heap.size<g:=by have:=GTb7;have:=hb2.size;have:=lH Xb7.out;omega
            clear hb2 hrow;refine tkH 9 (v:=?_) (tLRfqD rfl) (Or.inl ⟨by rfl,?hy⟩) (by assumption) ?_
            case hy=>
             intro w0 hSw;obtain ⟨h0,h1,h2,h3,h4,h5,h6,h7,-⟩:=q8 hSw.1;obtain ⟨k0,k1,k2,k3,k4,k5,k6,k7,-⟩:=q8 hSw.2;clear hSw;go_simp
             (first | done | with_reducible rfl)
            (try simp only [Act.put,sAr,sZe,sSu]);refine Rd (rs:=[10]) (by kernel_rfl) (by simp) ?_;refine Rc (tLRfqD rfl) (fun K hK=>?_) Rn;obtain ⟨v0,v1,v2,v3,v4,v5,v6,v7,vzq⟩:=q8 X6.out;go_simp;clear v0 vzq v1 v2 v3 v4 v5 v6 v7;refine hK.out _ _ ⟨(s8_far (by omega)).trans hHeld.1,(s8_far (by omega)).trans hHeld.2⟩ (fun hHeld=>?_);clear hK K;(try simp only [Act.put,sAr,sZe,sSu]);refine wpAnyH_done (by kernel_rfl) ?_ _;clear hHeld;go_wp2_with fail;refine bR (rcH (s8_at X6.out)) rfl ?_;rw [HF.out];unfold betP;rw [iP HT1.out,HP1.out,Rs.then_ok,iP HT2.out,HP2.out,Rs.then_ok,iP HT3.out]
            exact gfq_sets (x:=FV.mk _ 0 0 ⟨#[]⟩ none 0 0 (some ⟨g,0,none⟩) 2 2) (fun f' j' h=>by
             obtain ⟨rfl,rfl⟩:=ok_inj h
             exact FV.two_is HI1.out HI2.out hgg HROW.out) HB.out
          · have HT3:Hid (¬isTk l jr2 4 [93]=true):=hk;have hkf:isTk l (jr2) 4 [93]=false:=by simpa using hk
            rw [hkf] at hI;have HI:=Hd hI;clear hI hk hkf HI1 HI2;obtain ⟨u0,u1,u2,u3,u4,u5,u6,u7,uzq⟩:=q8 Xb8.out;have hul:=lH Xb8.out;go_wp2_with fail;rw [←Qw5.out,←Qb8.out];(try go_wp2_with fail);refine (HI.out).mono ?_;rintro e w' ⟨rfl,hww⟩;rw [hww];clear hww HI;have HFL:=Hd (rffail_any (jr2) 16 w5 (by decide));go_wp2_with fail;clear hul u0 uzq u1 u2 u3 u4 u5 u6 u7;refine (HFL.out).mono ?_;rintro e w6 ⟨z,rfl,-,hb2⟩;replace X6:=kX hb2 X6;replace HB:=kB HB hb2;clear hb2 HFL;simp only [Rs.at_,Rs.err];obtain ⟨v0,v1,v2,v3,v4,v5,v6,v7,vzq⟩:=q8 X6.out;have hvl:=lH X6.out;go_wp2_with fail;clear v0 vzq v1 v2 v3 v4 v5 v6 v7;refine bR (rcH (s8_at X6.out)) rfl ?_;rw [HF.out];unfold betP;rw [iP HT1.out,HP1.out,Rs.then_ok,iP HT2.out,HP2.out,Rs.then_ok,iN HT3.out];exact gfq_sets (r:=.bad (jr2) 16) (x:=z) (fun f j h=>nomatch h) HB.out
        · have hyb:(yr2 != 0)=true:=by simpa using hy
          have hrb:r2=.bad jr2 yr2:=rs_bad HJr2.out HYr2.out hy;have HPB:=Hd (HRr2.out.symm.trans hrb);clear hy hrb;obtain ⟨v0,v1,v2,v3,v4,v5,v6,v7,vzq⟩:=q8 XPb8.out;have hvl:=lH XPb8.out;go_wp2_with fail;clear v0 vzq v1 v2 v3 v4 v5 v6 v7;refine bR (rcH (aK (s8_at XPb8.out))) rfl ?_;rw [HF.out];unfold betP;rw [iP HT1.out,HP1.out,Rs.then_ok,iP HT2.out,HPB.out,Rs.then_bad];exact gfq_alloc (gfq_sets (r:=.bad jr2 yr2) (x:=y) (fun f j h=>nomatch h) HBPb8.out) _
      · have HT2:Hid (¬isTk l jr1 3 [85]=true):=hk;have hkf:isTk l (jr1) 3 [85]=false:=by simpa using hk
        rw [hkf] at hI;have HI:=Hd hI;clear hI hk hkf HI1;obtain ⟨u0,u1,u2,u3,u4,u5,u6,u7,uzq⟩:=q8 Xb7.out;have hul:=lH Xb7.out;go_wp2_with fail;rw [←Qw3.out,←Qb7.out];(try go_wp2_with fail);refine (HI.out).mono ?_;rintro e w' ⟨rfl,hww⟩;rw [hww];clear hww HI;have HFL:=Hd (rffail_any (jr1) 16 w3 (by decide));go_wp2_with fail;clear hul u0 uzq u1 u2 u3 u4 u5 u6 u7;refine (HFL.out).mono ?_;rintro e w4 ⟨z,rfl,-,hb2⟩;replace X6:=kX hb2 X6;replace HB:=kB HB hb2;clear hb2 HFL;simp only [Rs.at_,Rs.err];obtain ⟨v0,v1,v2,v3,v4,v5,v6,v7,vzq⟩:=q8 X6.out;have hvl:=lH X6.out;go_wp2_with fail;clear v0 vzq v1 v2 v3 v4 v5 v6 v7;refine bR (rcH (s8_at X6.out)) rfl ?_;rw [HF.out];unfold betP;rw [iP HT1.out,HP1.out,Rs.then_ok,iN HT2.out];exact gfq_sets (r:=.bad (jr1) 16) (x:=z) (fun f j h=>nomatch h) HB.out
    · have hyb:(yr1 != 0)=true:=by simpa using hy
      have hrb:r1=.bad jr1 yr1:=rs_bad HJr1.out HYr1.out hy;have HPB:=Hd (HRr1.out.symm.trans hrb);clear hy hrb;obtain ⟨v0,v1,v2,v3,v4,v5,v6,v7,vzq⟩:=q8 XPb7.out;have hvl:=lH XPb7.out;go_wp2_with fail;clear v0 vzq v1 v2 v3 v4 v5 v6 v7;refine bR (rcH (aK (s8_at XPb7.out))) rfl ?_;rw [HF.out];unfold betP;rw [iP HT1.out,HPB.out,Rs.then_bad];exact gfq_alloc (gfq_sets (r:=.bad jr1 yr1) (x:=x) (fun f j h=>nomatch h) HBPb7.out) _
  · have HT1:Hid (¬isTk l (i+1) 4 [91]=true):=hk;have hkf:isTk l (i+1) 4 [91]=false:=by simpa using hk
    rw [hkf] at hI;have HI:=Hd hI;clear hI hk hkf;subst hA;go_wp2_with fail;rw [←HW1.out];(try go_wp2_with fail);refine (HI.out).mono ?_;rintro e w' ⟨rfl,hww⟩;rw [hww];clear hww HI y2 hc1 hc2;have HFL:=Hd (rffail_any (i+1) 16 w1 (by decide));rw [show ((i+1:Nat):Int)=(i:Int)+1 from by omega] at HFL;go_wp2_with fail;refine (HFL.out).mono ?_;rintro e w2 ⟨z,rfl,-,hb2⟩;replace X6:=kX hb2 X6;replace HB:=kB HB hb2;clear hb2 HFL;simp only [Rs.at_,Rs.err];obtain ⟨v0,v1,v2,v3,v4,v5,v6,v7,vzq⟩:=q8 X6.out;have hvl:=lH X6.out;go_wp2_with fail;clear v0 vzq v1 v2 v3 v4 v5 v6 v7;refine bR (rcH (s8_at X6.out)) rfl ?_;rw [HF.out];unfold betP;rw [iN HT1.out];exact gfq_sets (r:=.bad (i+1) 16) (x:=z) (fun f j h=>nomatch h) HB.out
end Go.Proofs.YtnbphgeepnknlaaGreatDoor
