/- Walks: ftext's reader.ands, until, term. -/
import Derived.Test.YtnbphgeepnknlaaGreatDoorUFsM
namespace Go.Proofs.YtnbphgeepnknlaaGreatDoor
open Go.RowKit
set_option linter.unusedVariables false
set_option maxRecDepth 100000
set_option maxHeartbeats 8000000
def wantAt (l:List Tok) (j:Nat) (y k:Int) (s:Bs):Nat×Int:=if y≠0 then (j,y) else if isTk l j k s=true then (j+1,0) else (j,16)
theorem fwant_all (R:Nat) (A:Option Addr) (c i d:Nat) (l:List Tok) (y k:Int) (s:ByteArray) (w:World) (hR:FRd w R A l.length c i d y) (hP:PTok w R A c l) (hi:y=0→i≤1000000) :
 Calls Tryz.prog 206 #[.pointer (some ⟨R,0,none⟩),.int .i64 k,.string s] w fun e w'=>e=.returned (.tuple #[])∧FRd w' R A l.length c (wantAt l i y k (bs s)).1 d (wantAt l i y k (bs s)).2∧Only (fun q=>q=R) w w':=by
 by_cases hy:y=0
 · subst hy;refine (fwant_any R A c i d l k s w hR hP (hi rfl)).mono ?_;rintro e w' ⟨rfl,h1,h2⟩;refine ⟨rfl,?_,h2⟩;unfold wantAt;rw [iN (by simp)]
   split at h1 <;> rename_i hc <;> simp only [hc] at h1 ⊢
   · exact h1
   · simpa [hc] using h1
 · refine (fwant_bad R A l.length c i d y k s w hR hy).mono ?_;rintro e w' ⟨rfl,rfl⟩;unfold wantAt;rw [iP hy];exact ⟨rfl,hR,Only.refl⟩
def thenTk (l:List Tok) (r:Rs Fm) (k:Int) (s:Bs) (F:Fm→Fm):Rs Fm:=r.then fun g j=>if isTk l j k s=true then .ok (F g) (j+1) else .bad j 16
theorem then_want {l:List Tok} {r:Rs Fm} {k:Int} {s:Bs} {F:Fm→Fm} (hz:∀ j e,r=.bad j e→e≠0) :
 (thenTk l r k s F).at_=(wantAt l r.at_ r.err k s).1∧(thenTk l r k s F).err=(wantAt l r.at_ r.err k s).2∧∀ f m,thenTk l r k s F=.ok f m→∃ g j,r=.ok g j∧f=F g:=by
 unfold thenTk wantAt
 cases r with
 | bad j e=>
  have:=hz j e rfl;simp [Rs.at_,Rs.err,this]
 | ok g j=>
  by_cases hc:isTk l j k s=true
  · simp only [Rs.then_ok,Rs.err,Rs.at_,hc,if_true];exact ⟨by simp,by simp,fun f m h=>⟨g,j,rfl,(ok_inj h).1.symm⟩⟩
  · simp only [Rs.then_ok,Rs.err,Rs.at_,iN hc];exact ⟨by simp [hc],by simp [hc],fun f m h=>nomatch h⟩
theorem fpq_mk2 {R:Nat} {A:Option Addr} {c d:Nat} {l:List Tok} {r:Rs Fm} {w W:World} {op:Int} {x y:FV} {g:Nat} (hg:w.heap.size≤g) (hrow:W.heap[g]?=some (.cells (x.cells++y.cells).toArray 35 (0,0)))
 (hok:∀ q m,r=.ok q m→∃ f h,q=fmOf op [f,h]∧x.Is (fun q=>w.heap.size≤q) W f∧y.Is (fun q=>w.heap.size≤q) W h) (hR:FRd W R A l.length c r.at_ d r.err) (hO:Only (fun q=>q=R) w W) :
 FPQ R A c d l r w (.returned (.agg #[.int .i64 op,.int .i64 0,.int .i64 0,.string ⟨#[]⟩,.slice none 0 0,.slice (some ⟨g,0,none⟩) 2 2])) W:=
 ⟨⟨op,0,0,⟨#[]⟩,none,0,0,some ⟨g,0,none⟩,2,2⟩,rfl,fun q m h=>by
   obtain ⟨f,k,rfl,h1,h2⟩:=hok q m h
   exact FV.two_is h1 h2 hg hrow,hR,hO⟩
theorem fpq_mk1 {R:Nat} {A:Option Addr} {c d:Nat} {l:List Tok} {r:Rs Fm} {w W:World} {op:Int} {x:FV} {g:Nat} (hg:w.heap.size≤g) (hrow:W.heap[g]?=some (.cells x.cells.toArray 35 (0,0)))
 (hok:∀ q m,r=.ok q m→∃ f,q=fmOf op [f]∧x.Is (fun q=>w.heap.size≤q) W f) (hR:FRd W R A l.length c r.at_ d r.err) (hO:Only (fun q=>q=R) w W) :
 FPQ R A c d l r w (.returned (.agg #[.int .i64 op,.int .i64 0,.int .i64 0,.string ⟨#[]⟩,.slice none 0 0,.slice (some ⟨g,0,none⟩) 1 1])) W:=
 ⟨⟨op,0,0,⟨#[]⟩,none,0,0,some ⟨g,0,none⟩,1,1⟩,rfl,fun q m h=>by
   obtain ⟨f,rfl,h1⟩:=hok q m h
   exact FV.one_is h1 hg hrow,hR,hO⟩
theorem fpq_zero {R:Nat} {A:Option Addr} {c d:Nat} {l:List Tok} {w w2:World} {r:Rs Fm} (hr:∀ f j,r≠.ok f j) (hRl:R<w.heap.size) (hR:FRd w2 R A l.length c r.at_ d r.err) (hO:Only (fun q=>q=R) w w2) (v0 v1 v2 v3 v4 v5:Value) :
 FPQ R A c d l r w (.returned (.agg #[.int .i64 0,.int .i64 0,.int .i64 0,.string ⟨#[]⟩,.slice none 0 0,.slice none 0 0])) ((((((w2.setCell ⟨w.heap.size,0,none⟩ (v0)).setCell ⟨w.heap.size,1,none⟩ (v1)).setCell ⟨w.heap.size,2,none⟩ (v2)).setCell ⟨w.heap.size,3,none⟩ (v3)).setCell ⟨w.heap.size,4,none⟩ (v4)).setCell ⟨w.heap.size,5,none⟩ (v5)):=
 ⟨FV.zero,rfl,fun f j h=>absurd h (hr f j),(s6_far (by omega)).trans hR,s6_only hO (lr _)⟩
def FnO (R:Nat) (A:Option Addr) (c d:Nat) (l:List Tok) (op:Int) (P:FPar):Prop:=
 ∀ (i:Nat) (w:World),i≤l.length→FRd w R A l.length c i d 0→PTok w R A c l→Calls Tryz.prog 140 #[.pointer (some ⟨R,0,none⟩),.int .i64 op] w (FPQ R A c d l (P i) w)
theorem fands_any (R:Nat) (A:Option Addr) (c d:Nat) (l:List Tok) (P:FPar) (hF:FnO R A c d l 3 P):FnF R A c d l 180 P:=by
 intro i w hi hR hP;obtain ⟨w1,hw1⟩:=ex_ (w.alloc (.cells #[.int .i64 0,.int .i64 0,.int .i64 0,.string ⟨#[]⟩,.slice none 0 0,.slice none 0 0] 35));have hb1:=bAl hw1;have hs1:w1.heap.size=w.heap.size+1:=by rw [hw1];simp
 have x1:w1.heap[w.heap.size]?=some (.cells #[.int .i64 0,.int .i64 0,.int .i64 0,.string ⟨#[]⟩,.slice none 0 0,.slice none 0 0] 35 (0,0)):=by rw [hw1];exact hA_ w _
 have hR1:=hR.below hb1 hR.lt;have hRl:=hR.lt;have hlen:=hP.len;have hcall:=hF i w1 hi hR1 (hP.only (Ob hb1));obtain ⟨r,hr⟩:=ex_ (P i);rw [←hr] at hcall ⊢;obtain ⟨F,HF⟩:=exh_ (FPQ R A c d l r w);rw [←HF.out];have HC:=Hd hcall;have HW1:=Hd hw1;have HB1:=Hd hb1;have X1:=Hd x1;clear hw1 hb1 hR hR1 hF hP x1 hcall hr;go_enter Tryz.func180,Tryz.ntmps180;go_wp2_with fail;rw [←HW1.out];refine (HC.out).mono ?_;rintro e w2 ⟨x,rfl,hx,hR2,ho2⟩;unfold FV.val;have HX:=Hd hx;have HR2:=Hd hR2;have HO2:=Hd ((Ob HB1.out).trans ho2);have X2:=Hd ((ho2.block w.heap.size (by omega) (by omega)).trans X1.out);have hl2:w.heap.size<w2.heap.size:=lH X2.out;clear hx hR2 ho2;obtain ⟨v0,v1,v2,v3,v4,v5,vzq⟩:=q6 X2.out;go_wp2_with fail;clear v0 vzq v1 v2 v3 v4 v5;refine bR (rcF (s6_at X2.out)) rfl ?_;rw [HF.out];exact fpq_sets (w1:=w1) HX.out (by omega) hRl HR2.out HO2.out
def untP (l:List Tok) (P:FPar):FPar:=fun i=>if isTk l i 4 [91]=true then (P (i+1)).then fun f j=>if isTk l j 3 [85]=true then thenTk l (P (j+1)) 4 [93] fun g=>fmOf 0 [f,g] else .bad j 16 else .bad i 16
theorem funtil_any (R:Nat) (A:Option Addr) (c d:Nat) (l:List Tok) (P:FPar) (hF:FnF R A c d l 71 P) (hG:FGdP l P) (hZ:FNzP P):FnF R A c d l 205 (untP l P):=by
 intro i w hi hR hP;obtain ⟨w1,hw1⟩:=ex_ (w.alloc (.cells #[.int .i64 0,.int .i64 0,.int .i64 0,.string ⟨#[]⟩,.slice none 0 0,.slice none 0 0] 35));have hb1:=bAl hw1;have hs1:w1.heap.size=w.heap.size+1:=by rw [hw1];simp
 have x1:w1.heap[w.heap.size]?=some (.cells #[.int .i64 0,.int .i64 0,.int .i64 0,.string ⟨#[]⟩,.slice none 0 0,.slice none 0 0] 35 (0,0)):=by rw [hw1];exact hA_ w _
 have hR1:=hR.below hb1 hR.lt;have hRl:=hR.lt;have hlen:=hP.len;obtain ⟨F,HF⟩:=exh_ (FPQ R A c d l (untP l P i) w);rw [←HF.out];have HW1:=Hd hw1;have HO:Hid (Only (fun q=>q=R) w w1):=Ob hb1;have HRD:=Hd hR1;have HFN:=Hd hF;have HP:=Hd hP;have XB:=Hd x1;have HG:=Hd hG;have HZ:=Hd hZ;clear hw1 hb1 hR hR1 hF hP x1 hG hZ hs1;go_enter Tryz.func205,Tryz.ntmps205;have hwn:=fwant_all R A c i d l 0 4 ⟨#[91]⟩ w1 HRD.out (HP.out.only HO.out) (by first | (intro _;omega) | (intro h;have:=HLE.out h;omega));obtain ⟨jw,hjw⟩:=ex_ (wantAt l (i) (0) 4 [91]);rw [show wantAt l (i) (0) 4 (bs ⟨#[91]⟩)=jw from hjw.symm] at hwn;have HC:=Hd hwn;have HJW:=Hd hjw;clear hwn hjw;go_wp2_with fail;rw [←HW1.out];refine (HC.out).mono ?_;rintro e w2 ⟨rfl,hR2,ho2⟩;replace XB:=Hd ((ho2.block w.heap.size (lH XB.out) (by omega)).trans XB.out);replace HO:=Hd (HO.out.trans ho2);replace HRD:=Hd hR2;clear HC hR2 ho2
 by_cases h1:isTk l i 4 [91]=true
 · have hw:jw=(i+1,0):=by rw [HJW.out];unfold wantAt;rw [iN (by simp),iP h1]
   have HRE:Hid (F=FPQ R A c d l ((P (i+1)).then fun f j=>if isTk l j 3 [85]=true then thenTk l (P (j+1)) 4 [93] fun g=>fmOf 0 [f,g] else .bad j 16) w):=by show _=_;rw [HF.out];unfold untP;rw [iP h1]
   have hil:=isTk_lt h1;subst hw;simp only at HRD;clear h1;obtain ⟨-,-,-,e3,-⟩:=q4 HRD.out;have hrl2:=HRD.out.lt;have hcall:=HFN.out (i+1) w2 (by omega) HRD.out (HP.out.only HO.out);obtain ⟨r1,hr1⟩:=ex_ (P (i+1));rw [←hr1] at hcall;have HC:=Hd hcall;have HRr1:=Hd hr1;clear hcall hr1;go_wp2_with fail;clear e3;refine (HC.out).mono ?_;rintro e w3 ⟨x,rfl,hx,hR2,ho2⟩;unfold FV.val;obtain ⟨b3,hb3⟩:=ex_ w3.heap.size;obtain ⟨w4,hw4⟩:=ex_ (w3.alloc (.cells #[.int .i64 x.o,.int .i64 x.tn,.int .i64 x.tm,.string x.s,.slice x.Ae x.ne x.ce,.slice x.A x.n x.c] 35));have hal:=bAl hw4;have Xb3:=nAl hw4 hb3;have HXx:Hid (∀ f j,r1=.ok f j→x.Is (fun q=>w.heap.size<q) w4 f):=fun f j h=>(hx f j h).keep (Kb hal) (fun q _ h=>by have:=HO.out.size;have:=lH XB.out;omega);have hn2:=Ob (F:=fun q=>q=R) hal;have YB:=Hd ((hal.block w.heap.size (lL (lH XB.out) ho2.size)).trans ((ho2.block w.heap.size (lH XB.out) (by omega)).trans XB.out));have YO:=Hd (HO.out.trans (ho2.trans hn2));have YRD:=Hd (hR2.below hal hR2.lt);have NEb3:b3≠R:=by have:=hR2.lt;omega
   have GTb3:w.heap.size<b3:=by have:=lL (lH XB.out) ho2.size;omega
   have Qw4:=Hd hw4;have Qb3:=Hd hb3;clear HC hx hR2 ho2 hal hn2 hb3 hw4 XB HO HRD;have XB:=YB;have HO:=YO;have HRD:=YRD;clear YB YO YRD;obtain ⟨j1,hj1⟩:=ex_ r1.at_;obtain ⟨y1,hy1⟩:=ex_ r1.err;rw [←hj1,←hy1] at HRD
   have HLE:Hid (y1=0→j1≤l.length∧∃ f,r1=.ok f j1):=by
    intro h
    cases hr1:r1 with
    | bad a b=>
     rw [hr1] at hy1;exact absurd (show b=0 from hy1.symm.trans h) (HZ.out (i+1) a b (by rw [←HRr1.out,hr1]))
    | ok f j=>rw [hr1] at hj1;have hg:=HG.out (i+1) f j (by rw [←HRr1.out,hr1]);rw [show j1=j from hj1];exact ⟨hg.jl,f,rfl⟩
   have HY1:=Hd hy1;have HJ1:=Hd hj1;clear hj1 hy1;have hwn:=fwant_all R A c j1 d l y1 3 ⟨#[85]⟩ w4 HRD.out (HP.out.only HO.out) (by first | (intro _;omega) | (intro h;have:=(HLE.out h).1;omega));obtain ⟨jw,hjw⟩:=ex_ (wantAt l (j1) (y1) 3 [85]);rw [show wantAt l (j1) (y1) 3 (bs ⟨#[85]⟩)=jw from hjw.symm] at hwn;have HC:=Hd hwn;have HJW:=Hd hjw;clear hwn hjw;go_wp2_with fail;rw [←Qw4.out,←Qb3.out];refine (HC.out).mono ?_;rintro e w5 ⟨rfl,hR2,ho2⟩;have YB:=Hd ((ho2.block w.heap.size (lH XB.out) (by omega)).trans XB.out);have YO:=Hd (HO.out.trans ho2);have YRD:=Hd hR2;replace Xb3:=Hd ((ho2.block b3 (lH Xb3.out) NEb3).trans Xb3.out);replace HXx:Hid (∀ f j,r1=.ok f j→x.Is (fun q=>w.heap.size<q) w5 f):=fun f j h=>(HXx.out f j h).keep (KeepS.of_only ho2 (by omega)) (fun _ _ h=>h);clear HC hR2 ho2 XB HO HRD;have XB:=YB;have HO:=YO;have HRD:=YRD;clear YB YO YRD
   by_cases hy:y1=0
   · obtain ⟨hjl,f1,hf1⟩:=HLE.out hy;have HRE2:Hid (F=FPQ R A c d l (if isTk l j1 3 [85]=true then thenTk l (P (j1+1)) 4 [93] fun g=>fmOf 0 [f1,g] else .bad j1 16) w):=by show _=_;rw [HRE.out,←HRr1.out,hf1];rfl
     have HXF:Hid (x.Is (fun q=>w.heap.size<q) w5 f1):=HXx.out f1 j1 hf1;subst hy;clear hf1 HXx HLE
     by_cases h2:isTk l j1 3 [85]=true
     · have hw:jw=(j1+1,0):=by rw [HJW.out];unfold wantAt;rw [iN (by simp),iP h2]
       have HRE3:Hid (F=FPQ R A c d l (thenTk l (P (j1+1)) 4 [93] fun g=>fmOf 0 [f1,g]) w):=by show _=_;rw [HRE2.out,iP h2]
       have hjl2:=isTk_lt h2;clear HJW;subst hw;simp only at HRD;clear h2;obtain ⟨-,-,-,e3,-⟩:=q4 HRD.out;have hrl5:=HRD.out.lt;have hcall:=HFN.out (j1+1) w5 (by omega) HRD.out (HP.out.only HO.out);obtain ⟨r2,hr2⟩:=ex_ (P (j1+1));rw [←hr2] at hcall;have HC:=Hd hcall;have HRr2:=Hd hr2;clear hcall hr2;go_wp2_with fail;clear e3;refine (HC.out).mono ?_;rintro e w6 ⟨y,rfl,hx,hR2,ho2⟩;unfold FV.val;obtain ⟨b4,hb4⟩:=ex_ w6.heap.size;obtain ⟨w7,hw7⟩:=ex_ (w6.alloc (.cells #[.int .i64 y.o,.int .i64 y.tn,.int .i64 y.tm,.string y.s,.slice y.Ae y.ne y.ce,.slice y.A y.n y.c] 35));have hal:=bAl hw7;have Xb4:=nAl hw7 hb4;have HXy:Hid (∀ f j,r2=.ok f j→y.Is (fun q=>w.heap.size<q) w7 f):=fun f j h=>(hx f j h).keep (Kb hal) (fun q _ h=>by have:=HO.out.size;have:=lH XB.out;omega);have hn2:=Ob (F:=fun q=>q=R) hal;have YB:=Hd ((hal.block w.heap.size (lL (lH XB.out) ho2.size)).trans ((ho2.block w.heap.size (lH XB.out) (by omega)).trans XB.out));have YO:=Hd (HO.out.trans (ho2.trans hn2));have YRD:=Hd (hR2.below hal hR2.lt);have NEb4:b4≠R:=by have:=hR2.lt;omega
       have GTb4:w.heap.size<b4:=by have:=lL (lH XB.out) ho2.size;omega
       replace Xb3:=Hd ((hal.block b3 (lL (lH Xb3.out) ho2.size)).trans ((ho2.block b3 (lH Xb3.out) NEb3).trans Xb3.out));replace HXF:Hid (x.Is (fun q=>w.heap.size<q) w7 f1):=(HXF.out.keep (KeepS.of_only ho2 (by omega)) (fun _ _ h=>h)).keep (Kb hal) (fun _ _ h=>h);have Qw7:=Hd hw7;have Qb4:=Hd hb4;clear HC hx hR2 ho2 hal hn2 hb4 hw7 XB HO HRD;have XB:=YB;have HO:=YO;have HRD:=YRD;clear YB YO YRD;have hZ2:∀ j e,r2=.bad j e→e≠0:=fun j e h=>HZ.out _ _ _ (by rw [←HRr2.out,h]);obtain ⟨hq1,hq2,hq3⟩:=then_want (l:=l) (k:=4) (s:=[93]) (F:=fun g=>fmOf 0 [f1,g]) hZ2;rw [←HRr2.out] at HRE3;obtain ⟨q,hq⟩:=ex_ (thenTk l r2 4 [93] fun g=>fmOf 0 [f1,g]);rw [←hq] at hq1 hq2 hq3 HRE3
       have HLE:Hid (r2.err=0→r2.at_≤l.length):=by
        intro h
        cases hr2:r2 with
        | bad a b=>rw [hr2] at h;exact absurd h (hZ2 a b hr2)
        | ok f j=>have hg:=HG.out (j1+1) f j (by rw [←HRr2.out,hr2]);exact hg.jl
       obtain ⟨j2,hj2⟩:=ex_ r2.at_;obtain ⟨y2,hy2⟩:=ex_ r2.err;rw [←hj2,←hy2] at HRD HLE hq1 hq2;have HQ1:=Hd hq1;have HQ2:=Hd hq2;have HQ3:=Hd hq3;clear hj2 hy2 hZ2 hq hq1 hq2 hq3;have hwn:=fwant_all R A c j2 d l y2 4 ⟨#[93]⟩ w7 HRD.out (HP.out.only HO.out) (by first | (intro _;omega) | (intro h;have:=HLE.out h;omega));obtain ⟨jw,HJW⟩:=exh_ (wantAt l (j2) (y2) 4 [93]);rw [show wantAt l (j2) (y2) 4 (bs ⟨#[93]⟩)=jw from HJW.out.symm] at hwn;have HC:=Hd hwn;clear hwn;go_wp2_with fail;rw [←Qw7.out,←Qb4.out];refine (HC.out).mono ?_;rintro e w8 ⟨rfl,hR2,ho2⟩;have YB:=Hd ((ho2.block w.heap.size (lH XB.out) (by omega)).trans XB.out);have YO:=Hd (HO.out.trans ho2);have YRD:=Hd hR2;replace Xb3:=Hd ((ho2.block b3 (lH Xb3.out) NEb3).trans Xb3.out);replace Xb4:=Hd ((ho2.block b4 (lH Xb4.out) NEb4).trans Xb4.out);replace HXF:Hid (x.Is (fun q=>w.heap.size<q) w8 f1):=HXF.out.keep (KeepS.of_only ho2 (by omega)) (fun _ _ h=>h);replace HXy:Hid (∀ f j,r2=.ok f j→y.Is (fun q=>w.heap.size<q) w8 f):=fun f j h=>(HXy.out f j h).keep (KeepS.of_only ho2 (by omega)) (fun _ _ h=>h);clear HC hR2 ho2 XB HO HRD;have XB:=YB;have HO:=YO;have HRD:=YRD;clear YB YO YRD;rw [←HJW.out] at HQ1 HQ2;obtain ⟨v0,v1,v2,v3,v4,v5,vzq⟩:=q6 XB.out;obtain ⟨a0,a1,a2,a3,a4,a5,azq⟩:=q6 Xb3.out;obtain ⟨b0,b1,b2,b3,b4,b5,bzq⟩:=q6 Xb4.out;have hvl:=lH XB.out;have hal3:=lH Xb3.out
       have hal4:=lH Xb4.out;go_wp2_with fail;clear v0 vzq v1 v2 v3 v4 v5 a0 azq a1 a2 a3 a4 a5;clear b0 bzq b1 b2 b3 b4 b5;obtain ⟨W0,hW0⟩:=ex_ (((((((w8.setCell ⟨w.heap.size,0,none⟩ (.int .i64 0)).setCell ⟨w.heap.size,1,none⟩ (.int .i64 0)).setCell ⟨w.heap.size,2,none⟩ (.int .i64 0)).setCell ⟨w.heap.size,3,none⟩ (.string ⟨#[]⟩)).setCell ⟨w.heap.size,4,none⟩ (.slice none 0 0)).setCell ⟨w.heap.size,5,none⟩ (.slice (some ⟨w8.heap.size,0,none⟩) 2 2)));have hz0:W0.heap.size=w8.heap.size:=by rw [hW0];simp
       have xb0:=s6_at (v0:=.int .i64 0) (v1:=.int .i64 0) (v2:=.int .i64 0) (v3:=.string ⟨#[]⟩) (v4:=.slice none 0 0) (v5:=.slice (some ⟨w8.heap.size,0,none⟩) 2 2) XB.out;rw [←hW0] at xb0;have hR0:FRd W0 R A l.length c q.at_ d q.err:=by rw [hW0,HQ1.out,HQ2.out];exact (s6_far (by omega)).trans HRD.out
       have hO0:Only (fun q=>q=R) w W0:=by rw [hW0];exact s6_only HO.out (lr _)
       have hk0:KeepS (fun q=>w.heap.size<q) w8 W0:=by rw [hW0];exact s6_keep Kr (by omega)
       rw [←hW0];clear hW0;refine bR (rcF (aK xb0)) rfl ?_;rw [HRE3.out];have hnew:=hA_ W0 (.cells (x.cells++y.cells).toArray 35);rw [hz0] at hnew;refine fpq_mk2 (x:=x) (y:=y) (op:=0) (by omega) hnew (fun q' m h=>?_) (hR0.below ((Br _ _).alloc (lr _) _) hR0.lt) (only_alloc hO0 _);obtain ⟨g,j,hr2,rfl⟩:=HQ3.out q' m h;exact ⟨f1,g,rfl,HXF.out.keep (hk0.alloc _) (fun _ _ h=>Nat.le_of_lt h),(HXy.out g j hr2).keep (hk0.alloc _) (fun _ _ h=>Nat.le_of_lt h)⟩
     · have hw:jw=(j1,16):=by rw [HJW.out];unfold wantAt;rw [iN (by simp),iN h2]
       have HRE3:Hid (F=FPQ R A c d l (.bad j1 16) w):=by show _=_;rw [HRE2.out,iN h2]
       subst hw;simp only at HRD;clear h2;obtain ⟨v0,v1,v2,v3,v4,v5,vzq⟩:=q6 XB.out;obtain ⟨-,-,-,e3,-⟩:=q4 HRD.out;have hvl:=lH XB.out;have hrl2:=HRD.out.lt;go_wp2_with fail;clear v0 vzq v1 v2 v3 v4 v5 e3;refine bR (rcF (s6_at XB.out)) rfl ?_;rw [HRE3.out];exact fpq_zero (r:=.bad j1 16) (fun f j h=>nomatch h) hRl HRD.out HO.out _ _ _ _ _ _
   · have hw:jw=(j1,y1):=by rw [HJW.out];unfold wantAt;rw [iP hy]
     have hrb:r1=.bad j1 y1:=by
      cases hr1:r1 with
      | bad a b=>
       have h1:j1=a:=by have h:=HJ1.out;rw [hr1] at h;exact h
       have h2:y1=b:=by have h:=HY1.out;rw [hr1] at h;exact h
       rw [h1,h2]
      | ok f j=>have h2:=HY1.out;rw [hr1] at h2;exact absurd h2 hy
     have HRE2:Hid (F=FPQ R A c d l (.bad j1 y1) w):=by show _=_;rw [HRE.out,←HRr1.out,hrb];rfl
     subst hw;simp only at HRD;have hyb:(y1 != 0)=true:=by simpa using hy
     clear hy hrb;obtain ⟨v0,v1,v2,v3,v4,v5,vzq⟩:=q6 XB.out;obtain ⟨-,-,-,e3,-⟩:=q4 HRD.out;have hvl:=lH XB.out;have hrl2:=HRD.out.lt;go_wp2_with fail;clear v0 vzq v1 v2 v3 v4 v5 e3;refine bR (rcF (s6_at XB.out)) rfl ?_;rw [HRE2.out];exact fpq_zero (r:=.bad j1 y1) (fun f j h=>nomatch h) hRl HRD.out HO.out _ _ _ _ _ _
 · have hw:jw=(i,16):=by rw [HJW.out];unfold wantAt;rw [iN (by simp),iN h1]
   have HRE:Hid (F=FPQ R A c d l (.bad i 16) w):=by show _=_;rw [HF.out];unfold untP;rw [iN h1]
   subst hw;simp only at HRD;clear h1;obtain ⟨v0,v1,v2,v3,v4,v5,vzq⟩:=q6 XB.out;obtain ⟨-,-,-,e3,-⟩:=q4 HRD.out;have hvl:=lH XB.out;have hrl2:=HRD.out.lt;go_wp2_with fail;clear v0 vzq v1 v2 v3 v4 v5 e3;refine bR (rcF (s6_at XB.out)) rfl ?_;rw [HRE.out];exact fpq_zero (r:=.bad i 16) (fun f j h=>nomatch h) hRl HRD.out HO.out _ _ _ _ _ _
end Go.Proofs.YtnbphgeepnknlaaGreatDoor
