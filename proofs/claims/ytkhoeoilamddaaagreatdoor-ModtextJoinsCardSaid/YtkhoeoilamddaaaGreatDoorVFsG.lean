/- Walks and plain words: FsG FsH. -/
import Derived.Test.YtkhoeoilamddaaaGreatDoorVFsF
import Derived.Test.YtkhoeoilamddaaaGreatDoorVFsD
namespace Go.Proofs.YtkhoeoilamddaaaGreatDoor
open Go.RowKit
set_option linter.unusedVariables false
set_option maxRecDepth 100000
set_option maxHeartbeats 8000000
def inn (d:Nat) (P:FPar) (i:Nat):Rs Fm:=if d=256 then .bad i 17 else P (i+1)
theorem fform_any (R:Nat) (A:Option Addr) (c d:Nat) (l:List Tok) (P PF:FPar) (hd:d≤256) (hF:FnO R A c d l 4 P) (hG:FGdP l P) (hZ:FNzP P) (hFF:d<256→FnF R A c (d+1) l 124 PF) :
 FnF R A c d l 124 (fun i=>(P i).then fun f j=>if isTk l j 4 [45,62]=true then (inn d PF j).then fun g k=>.ok (fmOf 5 [f,g]) k else .ok f j):=by
 intro i w hi hR hP;obtain ⟨w1,hw1⟩:=ex_ (w.alloc (.cells #[.int .i64 0,.int .i64 0,.int .i64 0,.string ⟨#[]⟩,.slice none 0 0,.slice none 0 0] 67));have hb1:=bAl hw1;have hs1:w1.heap.size=w.heap.size+1:=by rw [hw1];simp
 have x1:w1.heap[w.heap.size]?=some (.cells #[.int .i64 0,.int .i64 0,.int .i64 0,.string ⟨#[]⟩,.slice none 0 0,.slice none 0 0] 67 (0,0)):=by rw [hw1];exact hA_ w _
 have hR1:=hR.below hb1 hR.lt;have hRl:=hR.lt;have hlen:=hP.len;have hcall:=hF i w1 hi hR1 (hP.only (Ob hb1));obtain ⟨r1,hr1⟩:=ex_ (P i);rw [←hr1] at hcall;have hmf:∀ (fn:Fn) (first cap:Array Value) (w:World),(Instr.makeFunc fn first cap).run Tryz.prog w=.ok (.func fn first cap) w:=fun _ _ _ _=>rfl;obtain ⟨n,hn⟩:=ex_ l.length;obtain ⟨F,hF0⟩:=ex_ (FPQ R A c d l ((P i).then fun f j=>if isTk l j 4 [45,62]=true then (inn d PF j).then fun g k=>.ok (fmOf 5 [f,g]) k else .ok f j) w);show Calls _ _ _ _ (FPQ R A c d l ((P i).then fun f j=>if isTk l j 4 [45,62]=true then (inn d PF j).then fun g k=>.ok (fmOf 5 [f,g]) k else .ok f j) w);rw [←hF0];rw [←hr1] at hF0;have HG1:Hid (∀ f j,r1=.ok f j→FGd l i f j):=fun f j h=>hG i f j (by rw [←hr1];exact h);have HZ1:Hid (∀ j e,r1=.bad j e→e≠0):=fun j e h=>hZ i j e (by rw [←hr1];exact h);have HC:=Hd hcall;have HF:=Hd hF0;have HFF:=Hd hFF;have HP:=Hd hP;have HN:=Hd hn;have HW1:=Hd hw1;have HO:Hid (Only (fun q=>q=R) w w1):=Ob hb1;have XB:=Hd x1;rw [←hn] at hi hlen;clear hF0 hw1 hb1 hR hR1 hF hP x1 hcall hr1 hG hZ hn hFF;go_enter Tryz.func124,Tryz.ntmps124;go_wp2_with fail;rw [←HW1.out];refine (HC.out).mono ?_;rintro e w2 ⟨x,rfl,hx,hR2,ho2⟩;unfold FV.val;obtain ⟨b7,hb7⟩:=ex_ w2.heap.size
 obtain ⟨w3,hw3⟩:=ex_ (w2.alloc (.cells #[.int .i64 x.o,.int .i64 x.tn,.int .i64 x.tm,.string x.s,.slice x.Ae x.ne x.ce,.slice x.A x.n x.c] 67));have hal:=bAl hw3;have X7:=nAl hw3 hb7;have hlb:=lL (lH XB.out) ho2.size;have hb7R:b7≠R:=by have:=hR2.lt;omega
 have hb7w:w.heap.size<b7:=by omega
 have YB:=Hd ((hal.block w.heap.size hlb).trans ((ho2.block w.heap.size (lH XB.out) (by omega)).trans XB.out));have HIX:Hid (∀ f j,r1=.ok f j→x.Is (fun q=>w.heap.size<q∧q≠b7) w3 f):=fun f j h=>((hx f j h).keep (S':=fun q=>w.heap.size<q∧q≠b7) Kr (fun q hq h=>by have:=lH XB.out;omega)).keep (Kb hal) (fun _ _ h=>h);have HRD:=Hd (hR2.below hal hR2.lt);have YO:=Hd (HO.out.trans (ho2.trans (Ob hal)));have Qw3:=Hd hw3;have Qb7:=Hd hb7;clear hx hR2 ho2 hal hw3 hb7 HC XB HO;have XB:=YB;have HO:=YO;clear YB YO
 rcases r1 with ⟨jb,eb⟩ | ⟨f,j⟩
 · have hx:=HZ1.out jb eb rfl;have hxb:(eb == 0)=false:=by simpa using hx
   have HRR:Hid (F=FPQ R A c d l (.bad jb eb) w):=HF.out;obtain ⟨c0,c1,-,c3,-⟩:=q4 (show FRd w3 R A l.length c jb d eb from HRD.out);have hrl:=HRD.out.lt;clear hx;go_wp2_with fail;rw [←Qw3.out,←Qb7.out];try go_wp2_with fail
   go_quiet (fail)
   obtain ⟨v0,v1,v2,v3,v4,v5,vzq⟩:=q6 X7.out;obtain ⟨u0,u1,u2,u3,u4,u5,uzq⟩:=q6 XB.out;have hvl:=lH X7.out;have hul:=lH XB.out;clear c0 c1 c3;go_wp2_with fail;clear v0 vzq v1 v2 v3 v4 v5 u0 uzq u1 u2 u3 u4 u5;refine bR (results_cell_row (t:=67) (fr:=(0,0)) rfl _ _ w.heap.size _ _ rfl (s6_at (W:=w3.drewN nq) XB.out) Tryz.underlying67 rfl (by kernel_rfl)) rfl ?_;rw [HRR.out];exact fpq_sets (x:=x) (r:=.bad jb eb) (w1:=w1) (fun f j h=>nomatch h) (by omega) hRl HRD.out (HO.out.drewN nq)
 · have hjl:=(HG1.out f j rfl).jl;rw [←HN.out] at hjl;have HI:=Hd (HIX.out f j rfl);have hrd:FRd w3 R A n c j d 0:=by rw [HN.out];exact HRD.out
   obtain ⟨c0,c1,-,c3,-⟩:=q4 hrd;have hrl:=hrd.lt;have hPW:=HP.out.only HO.out;have hcap:=hPW.cap;have hcapm:=hPW.capm;unfold maxLen at hcapm;rw [←HN.out] at hcap;have hsg:=fsign_any A c j l ⟨#[45,62]⟩ w3.drew hPW.toks.drew1 hPW.len hPW.cap hPW.capm (by omega);rw [←HN.out,show isTk l j 4 (bs ⟨#[45,62]⟩)=isTk l j 4 [45,62] from rfl] at hsg;have HRE:Hid (F=FPQ R A c d l (if isTk l j 4 [45,62]=true then (inn d PF j).then fun g k=>.ok (fmOf 5 [f,g]) k else .ok f j) w):=HF.out;clear HRD HIX hPW;have HRD:=Hd hrd;clear hrd
   by_cases hk:isTk l j 4 [45,62]=true
   · have HRR:Hid (F=FPQ R A c d l ((inn d PF j).then fun g k=>.ok (fmOf 5 [f,g]) k) w):=by show _=_;rw [HRE.out,iP hk]
     have hjlt:=isTk_lt hk;rw [hk] at hsg;have HSG:=Hd hsg;clear hsg hk;go_wp2_with fail;rw [←Qw3.out,←Qb7.out];try go_wp2_with fail
     go_region_held3 (fun w'=>w'.cell? ⟨R,0,none⟩=some (.slice A n c)∧w'.cell? ⟨R,1,none⟩=some (.int .i64 (j:Nat))∧w'.cell? ⟨R,3,none⟩=some (.int .i64 0))
      (first
        | (go_keep;done)
        | (go_split_ands
           refine ⟨?_,?_,?_⟩
           · (rw [hb5.cell (p:=⟨R,_,none⟩) (by simp;omega)];simpa using c0)
           · (rw [hb5.cell (p:=⟨R,_,none⟩) (by simp;omega)];simpa using c1)
           · (rw [hb5.cell (p:=⟨R,_,none⟩) (by simp;omega)];simpa using c3))
        | fail)
      ((go_at_call 151;refine (HSG.out).mono ?_;rintro e w5 ⟨rfl,hb5⟩))
     have hb6:Below w3.heap.size w3 w5:=((Br _ _).drew).trans hb5;replace XB:=kX hb6 XB;replace X7:=kX hb6 X7;replace HO:=Hd (HO.out.trans (Ob hb6));replace HRD:=Hd (HRD.out.below hb6 hrl);replace HI:Hid (x.Is (fun q=>w.heap.size<q∧q≠b7) w5 f):=HI.out.keep (Kb hb6) (fun _ _ h=>h);clear hb5 hb6 c0 c1 c3 HSG;have hrdl:FRd w5 R A l.length c j d 0:=by rw [←HN.out];exact HRD.out
     have hwi:=fwithin_any R A c d l 124 PF j w5 (fun _ _=>by kernel_rfl) HFF.out hd hjlt hrdl (HP.out.only HO.out);rw [show (if d=256 then Rs.bad j 17 else PF (j+1))=inn d PF j from rfl] at hwi;obtain ⟨r2,hr2⟩:=ex_ (inn d PF j);rw [←hr2] at hwi HRR;have HWI:=Hd hwi;clear hrdl hwi hr2;go_wp2_with fail;refine (HWI.out).mono ?_;rintro e w6 ⟨y,rfl,hy,hR6,ho6⟩;unfold FV.val;have Y7:=Hd ((ho6.block b7 (lH X7.out) hb7R).trans X7.out);have YB:=Hd ((ho6.block w.heap.size (lH XB.out) (by omega)).trans XB.out);have YO:=Hd (HO.out.trans ho6);have YI:Hid (x.Is (fun q=>w.heap.size<q∧q≠b7) w6 f):=HI.out.keep (KeepS.of_only ho6 (by omega)) (fun _ _ h=>h);have HY:Hid (∀ g k,r2=.ok g k→y.Is (fun q=>w.heap.size<q∧q≠b7) w6 g):=fun g k h=>(hy g k h).keep Kr (fun q _ h=>by have:=lH X7.out;omega);have HR6:=Hd hR6;clear hy hR6 ho6 XB X7 HO HI HRD HWI;have XB:=YB;have X7:=Y7;have HO:=YO;have HI:=YI;clear YB Y7 YO YI;obtain ⟨v0,v1,v2,v3,v4,v5,vzq⟩:=q6 X7.out;obtain ⟨u0,u1,u2,u3,u4,u5,uzq⟩:=q6 XB.out;have hvl:=lH X7.out;have hul:=lH XB.out;go_wp2_with fail;clear v0 vzq v1 v2 v3 v4 v5 u0 uzq u1 u2 u3 u4 u5
     obtain ⟨W0,hW0⟩:=ex_ (((((((((((((w6.setCell ⟨b7,0,none⟩ (.int .i64 5)).setCell ⟨b7,1,none⟩ (.int .i64 0)).setCell ⟨b7,2,none⟩ (.int .i64 0)).setCell ⟨b7,3,none⟩ (.string ⟨#[]⟩)).setCell ⟨b7,4,none⟩ (.slice none 0 0)).setCell ⟨b7,5,none⟩ (.slice (some ⟨w6.heap.size+1,0,none⟩) 2 2)).setCell ⟨w.heap.size,0,none⟩ (.int .i64 5)).setCell ⟨w.heap.size,1,none⟩ (.int .i64 0)).setCell ⟨w.heap.size,2,none⟩ (.int .i64 0)).setCell ⟨w.heap.size,3,none⟩ (.string ⟨#[]⟩)).setCell ⟨w.heap.size,4,none⟩ (.slice none 0 0)).setCell ⟨w.heap.size,5,none⟩ (.slice (some ⟨w6.heap.size+1,0,none⟩) 2 2)));have hz0:W0.heap.size=w6.heap.size:=by rw [hW0];simp
     have xb0:W0.heap[w.heap.size]?=some (.cells #[.int .i64 5,.int .i64 0,.int .i64 0,.string ⟨#[]⟩,.slice none 0 0,.slice (some ⟨w6.heap.size+1,0,none⟩) 2 2] 67 (0,0)):=by rw [hW0];exact s6_at ((s6_far (by omega)).trans XB.out)
     have hR0:FRd W0 R A l.length c r2.at_ d r2.err:=by rw [hW0];exact (s6_far (by omega)).trans ((s6_far (by omega)).trans HR6.out)
     have hO0:Only (fun q=>q=R) w W0:=by rw [hW0];exact s6_only (s6_only HO.out (by omega)) (lr _)
     have hk0:KeepS (fun q=>w.heap.size<q∧q≠b7) w6 W0:=by rw [hW0];exact s6_keep (s6_keep Kr (by simp)) (by simp)
     rw [←hW0];clear hW0;refine bR (results_cell_row (t:=67) (fr:=(0,0)) rfl _ _ w.heap.size _ _ rfl (aK (aK xb0)) Tryz.underlying67 rfl (by kernel_rfl)) rfl ?_;rw [HRR.out];have hnew:=hA_ (W0.alloc (.cells #[.int .i64 y.o,.int .i64 y.tn,.int .i64 y.tm,.string y.s,.slice y.Ae y.ne y.ce,.slice y.A y.n y.c] 67)) (.cells (x.cells++y.cells).toArray 67);rw [show (W0.alloc (.cells #[.int .i64 y.o,.int .i64 y.tn,.int .i64 y.tm,.string y.s,.slice y.Ae y.ne y.ce,.slice y.A y.n y.c] 67)).heap.size=w6.heap.size+1 from by simp [hz0]] at hnew;have hkk:=(hk0.alloc (.cells #[.int .i64 y.o,.int .i64 y.tn,.int .i64 y.tm,.string y.s,.slice y.Ae y.ne y.ce,.slice y.A y.n y.c] 67)).alloc (.cells (x.cells++y.cells).toArray 67);refine fpq_mk2 (x:=x) (y:=y) (op:=5) (by omega) hnew (fun q' m h=>?_) ?_ (only_alloc (only_alloc hO0 _) _)
     · obtain ⟨g,k,h1,h2⟩:=then_ok h;obtain ⟨rfl,rfl⟩:=ok_inj h2;exact ⟨f,g,rfl,HI.out.keep hkk (fun _ _ h=>Nat.le_of_lt h.1),(HY.out g k h1).keep hkk (fun _ _ h=>Nat.le_of_lt h.1)⟩
     · have hRF:FRd ((W0.alloc (.cells #[.int .i64 y.o,.int .i64 y.tn,.int .i64 y.tm,.string y.s,.slice y.Ae y.ne y.ce,.slice y.A y.n y.c] 67)).alloc (.cells (x.cells++y.cells).toArray 67)) R A l.length c r2.at_ d r2.err:=(hR0.below ((Br _ _).alloc (lr _) _) hR0.lt).below (((Br _ _).alloc (lr _) _)) (by simp;have:=hR0.lt;omega);cases r2 <;> exact hRF
   · have hkf:isTk l j 4 [45,62]=false:=by simpa using hk
     have HRR:Hid (F=FPQ R A c d l (.ok f j) w):=by show _=_;rw [HRE.out,iN hk]
     rw [hkf] at hsg;have HSG:=Hd hsg;clear hsg hk hkf;go_wp2_with fail;rw [←Qw3.out,←Qb7.out];try go_wp2_with fail
     go_region_held3 (fun w'=>w'.cell? ⟨R,0,none⟩=some (.slice A n c)∧w'.cell? ⟨R,1,none⟩=some (.int .i64 (j:Nat))∧w'.cell? ⟨R,3,none⟩=some (.int .i64 0))
      (first
        | (go_keep;done)
        | (go_split_ands
           refine ⟨?_,?_,?_⟩
           · (rw [hb5.cell (p:=⟨R,_,none⟩) (by simp;omega)];simpa using c0)
           · (rw [hb5.cell (p:=⟨R,_,none⟩) (by simp;omega)];simpa using c1)
           · (rw [hb5.cell (p:=⟨R,_,none⟩) (by simp;omega)];simpa using c3))
        | fail)
      ((go_at_call 151;refine (HSG.out).mono ?_;rintro e w5 ⟨rfl,hb5⟩))
     have hb6:Below w3.heap.size w3 w5:=((Br _ _).drew).trans hb5;replace XB:=kX hb6 XB;replace X7:=kX hb6 X7;replace HO:=Hd (HO.out.trans (Ob hb6));replace HRD:=Hd (HRD.out.below hb6 hrl);replace HI:Hid (x.Is (fun q=>w.heap.size<q∧q≠b7) w5 f):=HI.out.keep (Kb hb6) (fun _ _ h=>h);clear hb5 hb6 c0 c1 c3 HSG;obtain ⟨v0,v1,v2,v3,v4,v5,vzq⟩:=q6 X7.out;obtain ⟨u0,u1,u2,u3,u4,u5,uzq⟩:=q6 XB.out;have hvl:=lH X7.out;have hul:=lH XB.out;go_wp2_with fail;clear v0 vzq v1 v2 v3 v4 v5 u0 uzq u1 u2 u3 u4 u5;refine bR (results_cell_row (t:=67) (fr:=(0,0)) rfl _ _ w.heap.size _ _ rfl (s6_at XB.out) Tryz.underlying67 rfl (by kernel_rfl)) rfl ?_;rw [HRR.out];have hRf:=HRD.out;rw [HN.out] at hRf
     exact fpq_sets (x:=x) (r:=.ok f j) (w1:=w1) (fun f' j' h=>by
      obtain ⟨rfl,rfl⟩:=ok_inj h
      exact HI.out.keep Kr (fun q _ h=>by have:=h.1;omega)) (by omega) hRl hRf HO.out
set_option maxHeartbeats 16000000
theorem fop_is {S:Nat→Prop} {w:World} {x:FV} {f:Fm} (h:x.Is S w f) (op:Int):(FV.mk op x.tn x.tm x.s x.Ae x.ne x.ce x.A x.n x.c).Is S w (.mk op f.tm f.kids):=⟨rfl,h.tn,h.tm,h.s,h.ne,h.n,h.v.tm,h.v.cap,h.v.capm,h.v.kids⟩
def unitP (l:List Tok) (d:Nat) (PU PF:FPar):FPar:=fun i=>
 if oneOp l i≠0 then (inn d PU i).then fun f j=>.ok (fmOf (oneOp l i) [f]) j
 else if isTk l i 3 [69]=true then (inn d (untP l PF) i).then fun f j=>.ok (.mk 9 f.tm f.kids) j
 else if isTk l i 3 [65]=true then (inn d (untP l PF) i).then fun f j=>.ok (.mk 13 f.tm f.kids) j
 else if isTk l i 4 [40]=true then thenTk l (inn d PF i) 4 [41] id
 else if isTk l i 4 [91]=true then fTerm l i
 else .bad i 16
theorem funit_any (R:Nat) (A:Option Addr) (c d:Nat) (l:List Tok) (PU PF:FPar) (hd:d≤256) (hFU:d<256→FnF R A c (d+1) l 177 PU) (hFF:d<256→FnF R A c (d+1) l 124 PF) (hG:FGdP l PF) (hZ:FNzP PF) :
 FnF R A c d l 177 (unitP l d PU PF):=by
 intro i w hi hR hP;obtain ⟨w1,hw1⟩:=ex_ (w.alloc (.cells #[.int .i64 0,.int .i64 0,.int .i64 0,.string ⟨#[]⟩,.slice none 0 0,.slice none 0 0] 67));have hb1:=bAl hw1;have hs1:w1.heap.size=w.heap.size+1:=by rw [hw1];simp
 have x1:w1.heap[w.heap.size]?=some (.cells #[.int .i64 0,.int .i64 0,.int .i64 0,.string ⟨#[]⟩,.slice none 0 0,.slice none 0 0] 67 (0,0)):=by rw [hw1];exact hA_ w _
 have hR1:=hR.below hb1 hR.lt;have hRl:=hR.lt;have hlen:=hP.len;have hmf:∀ (fn:Fn) (first cap:Array Value) (w:World),(Instr.makeFunc fn first cap).run Tryz.prog w=.ok (.func fn first cap) w:=fun _ _ _ _=>rfl;obtain ⟨n,hn⟩:=ex_ l.length;have hone:=fone_any R A c i d l w1 hR1 (hP.only (Ob hb1)) (by omega);obtain ⟨op,HOP⟩:=exh_ (oneOp l i);rw [←HOP.out] at hone;obtain ⟨F,HF⟩:=exh_ (FPQ R A c d l (unitP l d PU PF i) w);rw [←HF.out];have HUN:Hid (d<256→FnF R A c (d+1) l 195 (untP l PF)):=fun h=>funtil_any R A c (d+1) l PF (hFF h) hG hZ;have HC:=Hd hone;have HFU:=Hd hFU;have HFF:=Hd hFF;have HG:=Hd hG;have HZ:=Hd hZ;have HP:=Hd hP;have HN:=Hd hn;have HW1:=Hd hw1;have HRD:Hid (FRd w1 R A n c i d 0):=by show FRd _ _ _ _ _ _ _ _;rw [hn];exact hR1
 have HO:Hid (Only (fun q=>q=R) w w1):=Ob hb1;have XB:=Hd x1;have hcap:=hP.cap;have hcapm:=hP.capm;unfold maxLen at hcapm;rw [←hn] at hi hlen hcap;clear hw1 hb1 hR hR1 hP x1 hone hG hZ hn hFU hFF;go_enter Tryz.func177,Tryz.ntmps177;go_wp2_with fail;rw [←HW1.out];refine (HC.out).mono ?_;rintro e w2 ⟨rfl,hb2⟩;replace XB:=kX hb2 XB;replace HO:=Hd (HO.out.trans (Ob hb2));replace HRD:=Hd (HRD.out.below hb2 HRD.out.lt);clear hb2 HC
 by_cases hz:op=0
 · subst hz;have hPW:=HP.out.only HO.out;have hsg:=fis_any A c i l 3 ⟨#[69]⟩ w2.drew hPW.toks.drew1 hPW.len hPW.cap hPW.capm (by have:=hPW.len;omega);rw [show isTk l i 3 (bs ⟨#[69]⟩)=isTk l i 3 [69] from rfl,←HN.out] at hsg;clear hPW;obtain ⟨c0,c1,-⟩:=q4 HRD.out;have hrl1:=HRD.out.lt
   by_cases hk:isTk l i 3 [69]=true
   · have HT1:Hid (isTk l i 3 [69]=true):=hk;rw [hk] at hsg;have HSG:=Hd hsg;clear hsg hk;go_wp2_with fail
     go_region_held3 (fun w'=>w'.cell? ⟨R,0,none⟩=some (.slice A n c)∧w'.cell? ⟨R,1,none⟩=some (.int .i64 (i:Nat)))
      (first
        | (go_keep;done)
        | (go_split_ands
           refine ⟨?_,?_⟩
           · (rw [hb5.cell (p:=⟨R,_,none⟩) (by simp;omega)];simpa using c0)
           · (rw [hb5.cell (p:=⟨R,_,none⟩) (by simp;omega)];simpa using c1))
        | fail)
      ((go_at_call 179;refine (HSG.out).mono ?_;rintro e w5 ⟨rfl,hb5⟩))
     have hb6:Below w2.heap.size w2 w5:=((Br _ _).drew).trans hb5;obtain ⟨u2,hu2⟩:=ex_ w5;rw [←hu2] at hb6 ⊢;replace XB:=kX hb6 XB;replace HO:=Hd (HO.out.trans (Ob hb6));replace HRD:=Hd (HRD.out.below hb6 HRD.out.lt);clear hb5 hb6 hu2 c0 c1 HSG;have HTX:=HT1;have HRR:Hid (F=FPQ R A c d l ((inn d (untP l PF) i).then fun f j=>.ok (.mk 9 f.tm f.kids) j) w):=by show _=_;rw [HF.out];unfold unitP;rw [iN (by rw [←HOP.out];simp),iP HTX.out]
     have hilt:i<l.length:=isTk_lt HTX.out;have hrdl:FRd u2 R A l.length c i d 0:=by rw [←HN.out];exact HRD.out
     have hwi:=fwithin_any R A c d l 195 (untP l PF) i u2 (fun _ _=>by kernel_rfl) HUN.out hd hilt hrdl (HP.out.only HO.out);rw [show (if d=256 then Rs.bad i 17 else (untP l PF) (i+1))=inn d (untP l PF) i from rfl] at hwi;obtain ⟨r2,HR2⟩:=exh_ (inn d (untP l PF) i);rw [←HR2.out] at hwi HRR;have HWI:=Hd hwi;clear hrdl hwi;go_wp2_with fail;refine (HWI.out).mono ?_;rintro e w6 ⟨y,rfl,hy,hR6,ho6⟩;unfold FV.val;have YB:=Hd ((ho6.block w.heap.size (lH XB.out) (by omega)).trans XB.out);have YO:=Hd (HO.out.trans ho6);have HY:Hid (∀ g k,r2=.ok g k→y.Is (fun q=>w.heap.size<q) w6 g):=fun g k h=>(hy g k h).keep Kr (fun q _ h=>by have:=lH XB.out;omega);have HR6:=Hd hR6;clear hy hR6 ho6 XB HO HRD HWI;have XB:=YB;have HO:=YO;clear YB YO;obtain ⟨u0,u1,u2,u3,u4,u5,uzq⟩:=q6 XB.out;have hul:=lH XB.out;go_wp2_with fail;clear u0 uzq u1 u2 u3 u4 u5;obtain ⟨W0,hW0⟩:=ex_ (((((((w6.setCell ⟨w.heap.size,0,none⟩ (.int .i64 9)).setCell ⟨w.heap.size,1,none⟩ (.int .i64 y.tn)).setCell ⟨w.heap.size,2,none⟩ (.int .i64 y.tm)).setCell ⟨w.heap.size,3,none⟩ (.string y.s)).setCell ⟨w.heap.size,4,none⟩ (.slice y.Ae y.ne y.ce)).setCell ⟨w.heap.size,5,none⟩ (.slice y.A y.n y.c)));have xb0:W0.heap[w.heap.size]?=some (.cells #[.int .i64 9,.int .i64 y.tn,.int .i64 y.tm,.string y.s,.slice y.Ae y.ne y.ce,.slice y.A y.n y.c] 67 (0,0)):=by rw [hW0];exact s6_at XB.out
     have hR0:FRd W0 R A l.length c r2.at_ d r2.err:=by rw [hW0];exact (s6_far (by omega)).trans HR6.out
     have hO0:Only (fun q=>q=R) w W0:=by rw [hW0];exact s6_only HO.out (lr _)
     have hk0:KeepS (fun q=>w.heap.size<q) w6 W0:=by rw [hW0];exact s6_keep Kr (by simp)
     rw [←hW0];clear hW0;refine bR (results_cell_row (t:=67) (fr:=(0,0)) rfl _ _ w.heap.size _ _ rfl (aK xb0) Tryz.underlying67 rfl (by kernel_rfl)) rfl ?_;rw [HRR.out];have hkk:=hk0.alloc (.cells #[.int .i64 9,.int .i64 y.tn,.int .i64 y.tm,.string y.s,.slice y.Ae y.ne y.ce,.slice y.A y.n y.c] 67);refine ⟨FV.mk 9 y.tn y.tm y.s y.Ae y.ne y.ce y.A y.n y.c,rfl,fun q' m h=>?_,?_,only_alloc hO0 _⟩
     · obtain ⟨g,k,h1,h2⟩:=then_ok h;obtain ⟨rfl,rfl⟩:=ok_inj h2;exact fop_is ((HY.out g k h1).keep hkk (fun _ _ h=>Nat.le_of_lt h)) 9
     · have hRF:FRd (W0.alloc (.cells #[.int .i64 9,.int .i64 y.tn,.int .i64 y.tm,.string y.s,.slice y.Ae y.ne y.ce,.slice y.A y.n y.c] 67)) R A l.length c r2.at_ d r2.err:=hR0.below ((Br _ _).alloc (lr _) _) hR0.lt;cases r2 <;> exact hRF
   · have HT1:Hid (isTk l i 3 [69]=false):=by show _=_;simpa using hk
     rw [HT1.out] at hsg;have HSG:=Hd hsg;clear hsg hk;go_wp2_with fail
     go_region_held3 (fun w'=>w'.cell? ⟨R,0,none⟩=some (.slice A n c)∧w'.cell? ⟨R,1,none⟩=some (.int .i64 (i:Nat)))
      (first
        | (go_keep;done)
        | (go_split_ands
           refine ⟨?_,?_⟩
           · (rw [hb5.cell (p:=⟨R,_,none⟩) (by simp;omega)];simpa using c0)
           · (rw [hb5.cell (p:=⟨R,_,none⟩) (by simp;omega)];simpa using c1))
        | fail)
      ((go_at_call 179;refine (HSG.out).mono ?_;rintro e w5 ⟨rfl,hb5⟩))
     have hb6:Below w2.heap.size w2 w5:=((Br _ _).drew).trans hb5;obtain ⟨u2,hu2⟩:=ex_ w5;rw [←hu2] at hb6 ⊢;replace XB:=kX hb6 XB;replace HO:=Hd (HO.out.trans (Ob hb6));replace HRD:=Hd (HRD.out.below hb6 HRD.out.lt);clear hb5 hb6 hu2 c0 c1 HSG;have HTE:=HT1;have hPW:=HP.out.only HO.out;have hsg:=fis_any A c i l 3 ⟨#[65]⟩ u2.drew hPW.toks.drew1 hPW.len hPW.cap hPW.capm (by have:=hPW.len;omega);rw [show isTk l i 3 (bs ⟨#[65]⟩)=isTk l i 3 [65] from rfl,←HN.out] at hsg;clear hPW;obtain ⟨c0,c1,-⟩:=q4 HRD.out;have hrl2:=HRD.out.lt
     by_cases hk:isTk l i 3 [65]=true
     · have HT2:Hid (isTk l i 3 [65]=true):=hk;rw [hk] at hsg;have HSG:=Hd hsg;clear hsg hk;go_wp2_with fail
       go_region_held3 (fun w'=>w'.cell? ⟨R,0,none⟩=some (.slice A n c)∧w'.cell? ⟨R,1,none⟩=some (.int .i64 (i:Nat)))
        (first
          | (go_keep;done)
          | (go_split_ands
             refine ⟨?_,?_⟩
             · (rw [hb5.cell (p:=⟨R,_,none⟩) (by simp;omega)];simpa using c0)
             · (rw [hb5.cell (p:=⟨R,_,none⟩) (by simp;omega)];simpa using c1))
          | fail)
        ((go_at_call 179;refine (HSG.out).mono ?_;rintro e w5 ⟨rfl,hb5⟩))
       have hb6:Below u2.heap.size u2 w5:=((Br _ _).drew).trans hb5;obtain ⟨u3,hu3⟩:=ex_ w5;rw [←hu3] at hb6 ⊢;replace XB:=kX hb6 XB;replace HO:=Hd (HO.out.trans (Ob hb6));replace HRD:=Hd (HRD.out.below hb6 HRD.out.lt);clear hb5 hb6 hu3 c0 c1 HSG;have HTX:=HT2;have HRR:Hid (F=FPQ R A c d l ((inn d (untP l PF) i).then fun f j=>.ok (.mk 13 f.tm f.kids) j) w):=by show _=_;rw [HF.out];unfold unitP;rw [iN (by rw [←HOP.out];simp),iN (by rw [HTE.out];simp),iP HTX.out]
       have hilt:i<l.length:=isTk_lt HTX.out;have hrdl:FRd u3 R A l.length c i d 0:=by rw [←HN.out];exact HRD.out
       have hwi:=fwithin_any R A c d l 195 (untP l PF) i u3 (fun _ _=>by kernel_rfl) HUN.out hd hilt hrdl (HP.out.only HO.out);rw [show (if d=256 then Rs.bad i 17 else (untP l PF) (i+1))=inn d (untP l PF) i from rfl] at hwi;obtain ⟨r2,HR2⟩:=exh_ (inn d (untP l PF) i);rw [←HR2.out] at hwi HRR;have HWI:=Hd hwi;clear hrdl hwi;go_wp2_with fail;refine (HWI.out).mono ?_;rintro e w6 ⟨y,rfl,hy,hR6,ho6⟩;unfold FV.val;have YB:=Hd ((ho6.block w.heap.size (lH XB.out) (by omega)).trans XB.out);have YO:=Hd (HO.out.trans ho6);have HY:Hid (∀ g k,r2=.ok g k→y.Is (fun q=>w.heap.size<q) w6 g):=fun g k h=>(hy g k h).keep Kr (fun q _ h=>by have:=lH XB.out;omega);have HR6:=Hd hR6;clear hy hR6 ho6 XB HO HRD HWI;have XB:=YB;have HO:=YO;clear YB YO;obtain ⟨u0,u1,u2,u3,u4,u5,uzq⟩:=q6 XB.out;have hul:=lH XB.out;go_wp2_with fail;clear u0 uzq u1 u2 u3 u4 u5;obtain ⟨W0,hW0⟩:=ex_ (((((((w6.setCell ⟨w.heap.size,0,none⟩ (.int .i64 13)).setCell ⟨w.heap.size,1,none⟩ (.int .i64 y.tn)).setCell ⟨w.heap.size,2,none⟩ (.int .i64 y.tm)).setCell ⟨w.heap.size,3,none⟩ (.string y.s)).setCell ⟨w.heap.size,4,none⟩ (.slice y.Ae y.ne y.ce)).setCell ⟨w.heap.size,5,none⟩ (.slice y.A y.n y.c)));have xb0:W0.heap[w.heap.size]?=some (.cells #[.int .i64 13,.int .i64 y.tn,.int .i64 y.tm,.string y.s,.slice y.Ae y.ne y.ce,.slice y.A y.n y.c] 67 (0,0)):=by rw [hW0];exact s6_at XB.out
       have hR0:FRd W0 R A l.length c r2.at_ d r2.err:=by rw [hW0];exact (s6_far (by omega)).trans HR6.out
       have hO0:Only (fun q=>q=R) w W0:=by rw [hW0];exact s6_only HO.out (lr _)
       have hk0:KeepS (fun q=>w.heap.size<q) w6 W0:=by rw [hW0];exact s6_keep Kr (by simp)
       rw [←hW0];clear hW0;refine bR (results_cell_row (t:=67) (fr:=(0,0)) rfl _ _ w.heap.size _ _ rfl (aK xb0) Tryz.underlying67 rfl (by kernel_rfl)) rfl ?_;rw [HRR.out];have hkk:=hk0.alloc (.cells #[.int .i64 13,.int .i64 y.tn,.int .i64 y.tm,.string y.s,.slice y.Ae y.ne y.ce,.slice y.A y.n y.c] 67);refine ⟨FV.mk 13 y.tn y.tm y.s y.Ae y.ne y.ce y.A y.n y.c,rfl,fun q' m h=>?_,?_,only_alloc hO0 _⟩
       · obtain ⟨g,k,h1,h2⟩:=then_ok h;obtain ⟨rfl,rfl⟩:=ok_inj h2;exact fop_is ((HY.out g k h1).keep hkk (fun _ _ h=>Nat.le_of_lt h)) 13
       · have hRF:FRd (W0.alloc (.cells #[.int .i64 13,.int .i64 y.tn,.int .i64 y.tm,.string y.s,.slice y.Ae y.ne y.ce,.slice y.A y.n y.c] 67)) R A l.length c r2.at_ d r2.err:=hR0.below ((Br _ _).alloc (lr _) _) hR0.lt;cases r2 <;> exact hRF
     · have HT2:Hid (isTk l i 3 [65]=false):=by show _=_;simpa using hk
       rw [HT2.out] at hsg;have HSG:=Hd hsg;clear hsg hk;go_wp2_with fail
       go_region_held3 (fun w'=>w'.cell? ⟨R,0,none⟩=some (.slice A n c)∧w'.cell? ⟨R,1,none⟩=some (.int .i64 (i:Nat)))
        (first
          | (go_keep;done)
          | (go_split_ands
             refine ⟨?_,?_⟩
             · (rw [hb5.cell (p:=⟨R,_,none⟩) (by simp;omega)];simpa using c0)
             · (rw [hb5.cell (p:=⟨R,_,none⟩) (by simp;omega)];simpa using c1))
          | fail)
        ((go_at_call 179;refine (HSG.out).mono ?_;rintro e w5 ⟨rfl,hb5⟩))
       have hb6:Below u2.heap.size u2 w5:=((Br _ _).drew).trans hb5;obtain ⟨u3,hu3⟩:=ex_ w5;rw [←hu3] at hb6 ⊢;replace XB:=kX hb6 XB;replace HO:=Hd (HO.out.trans (Ob hb6));replace HRD:=Hd (HRD.out.below hb6 HRD.out.lt);clear hb5 hb6 hu3 c0 c1 HSG;have HTA:=HT2;have hPW:=HP.out.only HO.out;have hsg:=fsign_any A c i l ⟨#[40]⟩ u3.drew hPW.toks.drew1 hPW.len hPW.cap hPW.capm (by have:=hPW.len;omega);rw [show isTk l i 4 (bs ⟨#[40]⟩)=isTk l i 4 [40] from rfl,←HN.out] at hsg;clear hPW;obtain ⟨c0,c1,-⟩:=q4 HRD.out;have hrl3:=HRD.out.lt
       by_cases hk:isTk l i 4 [40]=true
       · have HT3:Hid (isTk l i 4 [40]=true):=hk;rw [hk] at hsg;have HSG:=Hd hsg;clear hsg hk;go_wp2_with fail
         go_region_held3 (fun w'=>w'.cell? ⟨R,0,none⟩=some (.slice A n c)∧w'.cell? ⟨R,1,none⟩=some (.int .i64 (i:Nat)))
          (first
            | (go_keep;done)
            | (go_split_ands
               refine ⟨?_,?_⟩
               · (rw [hb5.cell (p:=⟨R,_,none⟩) (by simp;omega)];simpa using c0)
               · (rw [hb5.cell (p:=⟨R,_,none⟩) (by simp;omega)];simpa using c1))
            | fail)
          ((go_at_call 151;refine (HSG.out).mono ?_;rintro e w5 ⟨rfl,hb5⟩))
         have hb6:Below u3.heap.size u3 w5:=((Br _ _).drew).trans hb5;obtain ⟨u4,hu4⟩:=ex_ w5;rw [←hu4] at hb6 ⊢;replace XB:=kX hb6 XB;replace HO:=Hd (HO.out.trans (Ob hb6));replace HRD:=Hd (HRD.out.below hb6 HRD.out.lt);clear hb5 hb6 hu4 c0 c1 HSG;have HTX:=HT3;have HRR:Hid (F=FPQ R A c d l (thenTk l (inn d PF i) 4 [41] id) w):=by show _=_;rw [HF.out];unfold unitP;rw [iN (by rw [←HOP.out];simp),iN (by rw [HTE.out];simp),iN (by rw [HTA.out];simp),iP HTX.out]
         have hilt:i<l.length:=isTk_lt HTX.out;have hrdl:FRd u4 R A l.length c i d 0:=by rw [←HN.out];exact HRD.out
         have hwi:=fwithin_any R A c d l 124 PF i u4 (fun _ _=>by kernel_rfl) HFF.out hd hilt hrdl (HP.out.only HO.out);rw [show (if d=256 then Rs.bad i 17 else PF (i+1))=inn d PF i from rfl] at hwi;obtain ⟨r2,HR2⟩:=exh_ (inn d PF i);rw [←HR2.out] at hwi HRR;have HWI:=Hd hwi;clear hrdl hwi;go_wp2_with fail;refine (HWI.out).mono ?_;rintro e w6 ⟨y,rfl,hy,hR6,ho6⟩;unfold FV.val;have YB:=Hd ((ho6.block w.heap.size (lH XB.out) (by omega)).trans XB.out);have YO:=Hd (HO.out.trans ho6);have HY:Hid (∀ g k,r2=.ok g k→y.Is (fun q=>w.heap.size<q) w6 g):=fun g k h=>(hy g k h).keep Kr (fun q _ h=>by have:=lH XB.out;omega);have HR6:=Hd hR6;clear hy hR6 ho6 XB HO HRD HWI;have XB:=YB;have HO:=YO;clear YB YO;obtain ⟨b7,hb7⟩:=ex_ w6.heap.size;obtain ⟨w7,hw7⟩:=ex_ (w6.alloc (.cells #[.int .i64 y.o,.int .i64 y.tn,.int .i64 y.tm,.string y.s,.slice y.Ae y.ne y.ce,.slice y.A y.n y.c] 67));have hal:=bAl hw7;have X7:=nAl hw7 hb7;have YB:=kX hal XB;have YO:=Hd (HO.out.trans (Ob hal));have YY:Hid (∀ g k,r2=.ok g k→y.Is (fun q=>w.heap.size<q) w7 g):=fun g k h=>(HY.out g k h).keep (Kb hal) (fun _ _ h=>h);have hb7R:b7≠R:=by have:=HR6.out.lt;omega
         have hb7w:w.heap.size<b7:=by have:=lH XB.out;omega
         have hi6:∀ k e,inn d PF i=.bad k e→e≠0:=fun k e h=>by
          unfold inn at h
          by_cases h256:d=256
          · rw [iP h256] at h;have:=bad_inj h;omega
          · rw [iN h256] at h;exact HZ.out (i+1) k e h
         have hZ2:∀ k e,r2=.bad k e→e≠0:=fun k e h=>hi6 k e (by rw [←HR2.out];exact h);obtain ⟨hq1,hq2,hq3⟩:=then_want (l:=l) (k:=4) (s:=[41]) (F:=id) hZ2
         have HLE:Hid (r2.err=0→r2.at_≤l.length):=by
          intro h
          cases hc:r2 with
          | bad a b=>rw [hc] at h;exact absurd h (hZ2 a b hc)
          | ok f j=>
           have h2:inn d PF i=.ok f j:=by rw [←HR2.out];exact hc
           unfold inn at h2
           by_cases h256:d=256
           · rw [iP h256] at h2;cases h2
           · rw [iN h256] at h2;exact (HG.out (i+1) f j h2).jl
         have HRD:=Hd (HR6.out.below hal HR6.out.lt);obtain ⟨q,hq⟩:=ex_ (thenTk l r2 4 [41] id);rw [←hq] at hq1 hq2 hq3 HRR;obtain ⟨j2,hj2⟩:=ex_ r2.at_;obtain ⟨y2,hy2⟩:=ex_ r2.err;rw [←hj2,←hy2] at HRD HLE hq1 hq2;have HQ1:=Hd hq1;have HQ2:=Hd hq2;have HQ3:=Hd hq3;have Qw7:=Hd hw7;have Qb7:=Hd hb7;clear hj2 hy2 hZ2 hi6 hq hq1 hq2 hq3 hw7 hb7 hal XB HO HY HR6;have XB:=YB;have HO:=YO;have HY:=YY;clear YB YO YY;have hwn:=fwant_all R A c j2 d l y2 4 ⟨#[41]⟩ w7 HRD.out (HP.out.only HO.out) (by first | (intro _;omega) | (intro h;have:=HLE.out h;have:=HN.out;omega));obtain ⟨jw,HJW⟩:=exh_ (wantAt l (j2) (y2) 4 [41]);rw [show wantAt l (j2) (y2) 4 (bs ⟨#[41]⟩)=jw from HJW.out.symm] at hwn;have HC:=Hd hwn;clear hwn;go_wp2_with fail;rw [←Qw7.out,←Qb7.out];refine (HC.out).mono ?_;rintro e w8 ⟨rfl,hR2,ho2⟩;have YB:=Hd ((ho2.block w.heap.size (lH XB.out) (by omega)).trans XB.out);have YO:=Hd (HO.out.trans ho2);have YRD:=Hd hR2;replace X7:=Hd ((ho2.block b7 (lH X7.out) hb7R).trans X7.out);replace HY:Hid (∀ f j,r2=.ok f j→y.Is (fun q=>w.heap.size<q) w8 f):=fun f j h=>(HY.out f j h).keep (KeepS.of_only ho2 (by omega)) (fun _ _ h=>h);clear HC hR2 ho2 XB HO HRD;have XB:=YB;have HO:=YO;have HRD:=YRD;clear YB YO YRD;rw [←HJW.out] at HQ1 HQ2;obtain ⟨u0,u1,u2,u3,u4,u5,uzq⟩:=q6 XB.out;obtain ⟨v0,v1,v2,v3,v4,v5,vzq⟩:=q6 X7.out;have hul:=lH XB.out
         have hvl:=lH X7.out;go_wp2_with fail;clear u0 uzq u1 u2 u3 u4 u5 v0 vzq v1 v2 v3 v4 v5;refine bR (results_cell_row (t:=67) (fr:=(0,0)) rfl _ _ w.heap.size _ _ rfl (s6_at XB.out) Tryz.underlying67 rfl (by kernel_rfl)) rfl ?_;rw [HRR.out];refine fpq_sets (x:=y) (r:=q) (w1:=w1) (fun f' m h=>?_) (by omega) hRl (by rw [HQ1.out,HQ2.out];exact HRD.out) HO.out;obtain ⟨g,k,h1,h2⟩:=HQ3.out f' m h;rw [h2];exact (HY.out g k h1).keep Kr (fun q _ h=>by omega)
       · have HT3:Hid (isTk l i 4 [40]=false):=by show _=_;simpa using hk
         rw [HT3.out] at hsg;have HSG:=Hd hsg;clear hsg hk;go_wp2_with fail
         go_region_held3 (fun w'=>w'.cell? ⟨R,0,none⟩=some (.slice A n c)∧w'.cell? ⟨R,1,none⟩=some (.int .i64 (i:Nat)))
          (first
            | (go_keep;done)
            | (go_split_ands
               refine ⟨?_,?_⟩
               · (rw [hb5.cell (p:=⟨R,_,none⟩) (by simp;omega)];simpa using c0)
               · (rw [hb5.cell (p:=⟨R,_,none⟩) (by simp;omega)];simpa using c1))
            | fail)
          ((go_at_call 151;refine (HSG.out).mono ?_;rintro e w5 ⟨rfl,hb5⟩))
         have hb6:Below u3.heap.size u3 w5:=((Br _ _).drew).trans hb5;obtain ⟨u4,hu4⟩:=ex_ w5;rw [←hu4] at hb6 ⊢;replace XB:=kX hb6 XB;replace HO:=Hd (HO.out.trans (Ob hb6));replace HRD:=Hd (HRD.out.below hb6 HRD.out.lt);clear hb5 hb6 hu4 c0 c1 HSG;have HTP:=HT3;have hPW:=HP.out.only HO.out;have hsg:=fsign_any A c i l ⟨#[91]⟩ u4.drew hPW.toks.drew1 hPW.len hPW.cap hPW.capm (by have:=hPW.len;omega);rw [show isTk l i 4 (bs ⟨#[91]⟩)=isTk l i 4 [91] from rfl,←HN.out] at hsg;clear hPW;obtain ⟨c0,c1,-⟩:=q4 HRD.out;have hrl4:=HRD.out.lt
         by_cases hk:isTk l i 4 [91]=true
         · have HT4:Hid (isTk l i 4 [91]=true):=hk;rw [hk] at hsg;have HSG:=Hd hsg;clear hsg hk;go_wp2_with fail
           go_region_held3 (fun w'=>w'.cell? ⟨R,0,none⟩=some (.slice A n c)∧w'.cell? ⟨R,1,none⟩=some (.int .i64 (i:Nat)))
            (first
              | (go_keep;done)
              | (go_split_ands
                 refine ⟨?_,?_⟩
                 · (rw [hb5.cell (p:=⟨R,_,none⟩) (by simp;omega)];simpa using c0)
                 · (rw [hb5.cell (p:=⟨R,_,none⟩) (by simp;omega)];simpa using c1))
              | fail)
            ((go_at_call 151;refine (HSG.out).mono ?_;rintro e w5 ⟨rfl,hb5⟩))
           have hb6:Below u4.heap.size u4 w5:=((Br _ _).drew).trans hb5;obtain ⟨u5,hu5⟩:=ex_ w5;rw [←hu5] at hb6 ⊢;replace XB:=kX hb6 XB;replace HO:=Hd (HO.out.trans (Ob hb6));replace HRD:=Hd (HRD.out.below hb6 HRD.out.lt);clear hb5 hb6 hu5 c0 c1 HSG;have HTX:=HT4;have HRR:Hid (F=FPQ R A c d l (fTerm l i) w):=by show _=_;rw [HF.out];unfold unitP;rw [iN (by rw [←HOP.out];simp),iN (by rw [HTE.out];simp),iN (by rw [HTA.out];simp),iN (by rw [HTP.out];simp),iP HTX.out]
           have hilt:i<l.length:=isTk_lt HTX.out;have hrdl:FRd u5 R A l.length c i d 0:=by rw [←HN.out];exact HRD.out
           have HTM:=Hd (frterm_any R A c d l i u5 hilt hrdl (HP.out.only HO.out));clear hrdl;go_wp2_with fail;refine (HTM.out).mono ?_;rintro e w6 ⟨y,rfl,hy,hR6,ho6⟩;unfold FV.val;have YB:=Hd ((ho6.block w.heap.size (lH XB.out) (by omega)).trans XB.out);have YO:=Hd (HO.out.trans ho6);have hl5:=lH XB.out;have HY:=Hd hy;have HR6:=Hd hR6;clear hy hR6 ho6 XB HO HRD HTM;have XB:=YB;have HO:=YO;clear YB YO;obtain ⟨u0,u1,u2,u3,u4,u5,uzq⟩:=q6 XB.out;have hul:=lH XB.out;go_wp2_with fail;clear u0 uzq u1 u2 u3 u4 u5;refine bR (results_cell_row (t:=67) (fr:=(0,0)) rfl _ _ w.heap.size _ _ rfl (s6_at XB.out) Tryz.underlying67 rfl (by kernel_rfl)) rfl ?_;rw [HRR.out];exact fpq_sets (x:=y) (w1:=u5) HY.out hl5 hRl HR6.out HO.out
         · have HT4:Hid (isTk l i 4 [91]=false):=by show _=_;simpa using hk
           rw [HT4.out] at hsg;have HSG:=Hd hsg;clear hsg hk;go_wp2_with fail
           go_region_held3 (fun w'=>w'.cell? ⟨R,0,none⟩=some (.slice A n c)∧w'.cell? ⟨R,1,none⟩=some (.int .i64 (i:Nat)))
            (first
              | (go_keep;done)
              | (go_split_ands
                 refine ⟨?_,?_⟩
                 · (rw [hb5.cell (p:=⟨R,_,none⟩) (by simp;omega)];simpa using c0)
                 · (rw [hb5.cell (p:=⟨R,_,none⟩) (by simp;omega)];simpa using c1))
              | fail)
            ((go_at_call 151;refine (HSG.out).mono ?_;rintro e w5 ⟨rfl,hb5⟩))
           have hb6:Below u4.heap.size u4 w5:=((Br _ _).drew).trans hb5;obtain ⟨u5,hu5⟩:=ex_ w5;rw [←hu5] at hb6 ⊢;replace XB:=kX hb6 XB;replace HO:=Hd (HO.out.trans (Ob hb6));replace HRD:=Hd (HRD.out.below hb6 HRD.out.lt);clear hb5 hb6 hu5 c0 c1 HSG;have HTX:=HT4;have HRR:Hid (F=FPQ R A c d l (.bad i 16) w):=by show _=_;rw [HF.out];unfold unitP;rw [iN (by rw [←HOP.out];simp),iN (by rw [HTE.out];simp),iN (by rw [HTA.out];simp),iN (by rw [HTP.out];simp),iN (by rw [HTX.out];simp)]
           have HST:=Hd (fstop_any R A n c i d 16 u5 HRD.out);go_wp2_with fail;refine (HST.out).mono ?_;rintro e w8 ⟨rfl,hR8,ho8⟩;unfold FV.val FV.zero;simp only;have Y8:=Hd ((ho8.block w.heap.size (lH XB.out) (by omega)).trans XB.out);have HR8:=Hd hR8;have HO8:=Hd (HO.out.trans ho8);have hvl:=lH Y8.out;clear hR8 ho8 XB;obtain ⟨v0,v1,v2,v3,v4,v5,vzq⟩:=q6 Y8.out;go_wp2_with fail;clear v0 vzq v1 v2 v3 v4 v5;refine bR (results_cell_row (t:=67) (fr:=(0,0)) rfl _ _ w.heap.size _ _ rfl (s6_at Y8.out) Tryz.underlying67 rfl (by kernel_rfl)) rfl ?_;rw [HRR.out];have hRf:=HR8.out;rw [HN.out] at hRf;exact fpq_zero (r:=.bad i 16) (fun f j h=>nomatch h) hRl hRf HO8.out _ _ _ _ _ _
 · have hone:oneOp l i≠0:=by rw [←HOP.out];exact hz
   have HRR:Hid (F=FPQ R A c d l ((inn d PU i).then fun f j=>.ok (fmOf op [f]) j) w):=by show _=_;rw [HF.out];unfold unitP;rw [iP hone,HOP.out]
   have hilt:i<l.length:=(one_some hone).2.1;have hzb:(op != 0)=true:=by simpa using hz
   clear hone hz;have hrdl:FRd w2 R A l.length c i d 0:=by rw [←HN.out];exact HRD.out
   have hwi:=fwithin_any R A c d l 177 PU i w2 (fun _ _=>by kernel_rfl) HFU.out hd hilt hrdl (HP.out.only HO.out);rw [show (if d=256 then Rs.bad i 17 else PU (i+1))=inn d PU i from rfl] at hwi;obtain ⟨r2,HR2⟩:=exh_ (inn d PU i);rw [←HR2.out] at hwi HRR;have HWI:=Hd hwi;clear hrdl hwi;go_wp2_with fail;refine (HWI.out).mono ?_;rintro e w6 ⟨y,rfl,hy,hR6,ho6⟩;unfold FV.val;have YB:=Hd ((ho6.block w.heap.size (lH XB.out) (by omega)).trans XB.out);have YO:=Hd (HO.out.trans ho6);have HY:Hid (∀ g k,r2=.ok g k→y.Is (fun q=>w.heap.size<q) w6 g):=fun g k h=>(hy g k h).keep Kr (fun q _ h=>by have:=lH XB.out;omega);have HR6:=Hd hR6;clear hy hR6 ho6 XB HO HRD HWI;have XB:=YB;have HO:=YO;clear YB YO;obtain ⟨u0,u1,u2,u3,u4,u5,uzq⟩:=q6 XB.out;have hul:=lH XB.out;go_wp2_with fail;clear u0 uzq u1 u2 u3 u4 u5;obtain ⟨W0,hW0⟩:=ex_ (((((((w6.setCell ⟨w.heap.size,0,none⟩ (.int .i64 op)).setCell ⟨w.heap.size,1,none⟩ (.int .i64 0)).setCell ⟨w.heap.size,2,none⟩ (.int .i64 0)).setCell ⟨w.heap.size,3,none⟩ (.string ⟨#[]⟩)).setCell ⟨w.heap.size,4,none⟩ (.slice none 0 0)).setCell ⟨w.heap.size,5,none⟩ (.slice (some ⟨w6.heap.size+1,0,none⟩) 1 1)));have hz0:W0.heap.size=w6.heap.size:=by rw [hW0];simp
   have xb0:W0.heap[w.heap.size]?=some (.cells #[.int .i64 op,.int .i64 0,.int .i64 0,.string ⟨#[]⟩,.slice none 0 0,.slice (some ⟨w6.heap.size+1,0,none⟩) 1 1] 67 (0,0)):=by rw [hW0];exact s6_at XB.out
   have hR0:FRd W0 R A l.length c r2.at_ d r2.err:=by rw [hW0];exact (s6_far (by omega)).trans HR6.out
   have hO0:Only (fun q=>q=R) w W0:=by rw [hW0];exact s6_only HO.out (lr _)
   have hk0:KeepS (fun q=>w.heap.size<q) w6 W0:=by rw [hW0];exact s6_keep Kr (by simp)
   rw [←hW0];clear hW0;refine bR (results_cell_row (t:=67) (fr:=(0,0)) rfl _ _ w.heap.size _ _ rfl (aK (aK xb0)) Tryz.underlying67 rfl (by kernel_rfl)) rfl ?_;rw [HRR.out];have hnew:=hA_ (W0.alloc (.cells #[.int .i64 y.o,.int .i64 y.tn,.int .i64 y.tm,.string y.s,.slice y.Ae y.ne y.ce,.slice y.A y.n y.c] 67)) (.cells y.cells.toArray 67);rw [show (W0.alloc (.cells #[.int .i64 y.o,.int .i64 y.tn,.int .i64 y.tm,.string y.s,.slice y.Ae y.ne y.ce,.slice y.A y.n y.c] 67)).heap.size=w6.heap.size+1 from by simp [hz0]] at hnew;have hkk:=(hk0.alloc (.cells #[.int .i64 y.o,.int .i64 y.tn,.int .i64 y.tm,.string y.s,.slice y.Ae y.ne y.ce,.slice y.A y.n y.c] 67)).alloc (.cells y.cells.toArray 67);refine fpq_mk1 (x:=y) (op:=op) (by omega) hnew (fun q' m h=>?_) ?_ (only_alloc (only_alloc hO0 _) _)
   · obtain ⟨g,k,h1,h2⟩:=then_ok h;obtain ⟨rfl,rfl⟩:=ok_inj h2;exact ⟨g,rfl,(HY.out g k h1).keep hkk (fun _ _ h=>Nat.le_of_lt h)⟩
   · have hRF:FRd ((W0.alloc (.cells #[.int .i64 y.o,.int .i64 y.tn,.int .i64 y.tm,.string y.s,.slice y.Ae y.ne y.ce,.slice y.A y.n y.c] 67)).alloc (.cells y.cells.toArray 67)) R A l.length c r2.at_ d r2.err:=(hR0.below ((Br _ _).alloc (lr _) _) hR0.lt).below (((Br _ _).alloc (lr _) _)) (by simp;have:=hR0.lt;omega);cases r2 <;> exact hRF
structure FLvlC (R:Nat) (A:Option Addr) (c d:Nat) (l:List Tok) (v:FLvl):Prop where
 form:FnF R A c d l 124 v.form
 unit:FnF R A c d l 177 v.unit
theorem inn_eq {d:Nat} {P:FPar} {s:Option FPar} (hs:s=if d=256 then none else some P) (i:Nat):fInner s i=inn d P i:=by
 unfold fInner inn;rw [hs]
 by_cases h:d=256
 · rw [iP h,iP h]
 · rw [iN h,iN h]
theorem unt_eq {l:List Tok} {d:Nat} {P:FPar} {s:Option FPar} (hs:s=if d=256 then none else some P) (op:Int) (i:Nat):untilB l s op i=(inn d (untP l P) i).then fun f j=>.ok (.mk op f.tm f.kids) j:=by
 unfold untilB inn untP;rw [hs]
 by_cases h:d=256
 · rw [iP h,iP h];rfl
 · rw [iN h,iN h];simp only
   by_cases h1:isTk l (i+1) 4 [91]=true
   · rw [iP h1,iP h1]
     cases h2:P (i+1+1) with
     | bad a b=>rfl
     | ok f j=>
      simp only [Rs.then_ok]
      by_cases h3:isTk l j 3 [85]=true
      · rw [iP h3,iP h3];unfold thenTk
        cases h4:P (j+1) with
        | bad a b=>rfl
        | ok g k=>
         simp only [Rs.then_ok]
         by_cases h5:isTk l k 4 [93]=true
         · rw [iP h5,iP h5];rfl
         · rw [iN h5,iN h5];rfl
      · rw [iN h3,iN h3];rfl
   · rw [iN h1,iN h1];rfl
theorem unitP_eq {l:List Tok} {d:Nat} {v:FLvl} {s:Option FLvl} (hs:s=if d=256 then none else some v):unitP l d v.unit v.form=fUnitB l s:=by
 have h1:s.map FLvl.form=if d=256 then none else some v.form:=by rw [hs];split <;> rfl
 have h2:s.map FLvl.unit=if d=256 then none else some v.unit:=by rw [hs];split <;> rfl
 funext i
 unfold unitP fUnitB;rw [inn_eq h2,inn_eq h1,unt_eq h1,unt_eq h1]
 rfl
theorem flvl_step (R:Nat) (A:Option Addr) (c d:Nat) (l:List Tok) (s:Option FLvl) (v:FLvl) (hd:d≤256) (hs:s=if d=256 then none else some v) (hv:d<256→FLvlC R A c (d+1) l v) (hg:FGdLvl l v) (hz:FNzLvl v):FLvlC R A c d l ⟨fFormB l s,fUnitB l s⟩:=by
 have hsv:∀ v',s=some v'→v'=v:=fun v' h=>by
  rw [hs] at h
  split at h
  · cases h
  · cases h;rfl
 obtain ⟨g1,g2⟩:=fsub_gd (l:=l) (s:=s) (fun v' h=>by rw [hsv v' h];exact hg);obtain ⟨z1,z2⟩:=fsub_nz (s:=s) (fun v' h=>by rw [hsv v' h];exact hz);have gU:=funit_gd g1 g2;have zU:=funit_nz (l:=l) z1 z2;have hu:=funit_any R A c d l v.unit v.form hd (fun h=>(hv h).unit) (fun h=>(hv h).form) hg.form hz.form;rw [unitP_eq hs] at hu;have hand:=fands_any R A c d l _ (frow_3 R A c d l _ hu gU zU);have gA:FGdP l (fAnds l s):=row_gd (by decide) (by decide) gU;have zA:FNzP (fAnds l s):=row_nz zU;have hor:=frow_4 R A c d l _ hand gA zA;have hform:=fform_any R A c d l (fOrs l s) v.form hd hor (row_gd (by decide) (by decide) gA) (row_nz zA) (fun h=>(hv h).form);have h1:s.map FLvl.form=if d=256 then none else some v.form:=by rw [hs];split <;> rfl
 have he:fFormB l s=fun i=>(fOrs l s i).then fun f j=>if isTk l j 4 [45,62]=true then (inn d v.form j).then fun g k=>.ok (fmOf 5 [f,g]) k else .ok f j:=by
  funext i
  unfold fFormB
  congr 1
  funext f j
  rw [inn_eq h1]
 refine ⟨?_,hu⟩;rw [he];exact hform
theorem flevels (R:Nat) (A:Option Addr) (c:Nat) (l:List Tok):∀ r d,d+r=256→FLvlC R A c d l (flvl l r)
 | 0,d,h=>by
  rw [flvl];exact flvl_step R A c d l none (flvl l 0) (by omega) (by rw [iP (by omega)]) (fun h=>by omega) (flvl_gd l 0) (flvl_nz l 0)
 | r+1,d,h=>by
  rw [flvl];exact flvl_step R A c d l (some (flvl l r)) (flvl l r) (by omega) (by rw [iN (by omega)]) (fun _=>flevels R A c l r (d+1) (by omega)) (flvl_gd l r) (flvl_nz l r)
end Go.Proofs.YtkhoeoilamddaaaGreatDoor
