/- Walk: ftext's reader.form. -/
import Derived.Test.YtnbphgeepnknlaaGreatDoorUFsF
namespace Go.Proofs.YtnbphgeepnknlaaGreatDoor
open Go.RowKit
set_option linter.unusedVariables false
set_option maxRecDepth 100000
set_option maxHeartbeats 8000000
def inn (d:Nat) (P:FPar) (i:Nat):Rs Fm:=if d=256 then .bad i 17 else P (i+1)
theorem fform_any (R:Nat) (A:Option Addr) (c d:Nat) (l:List Tok) (P PF:FPar) (hd:d≤256) (hF:FnO R A c d l 4 P) (hG:FGdP l P) (hZ:FNzP P) (hFF:d<256→FnF R A c (d+1) l 71 PF) :
 FnF R A c d l 71 (fun i=>(P i).then fun f j=>if isTk l j 4 [45,62]=true then (inn d PF j).then fun g k=>.ok (fmOf 5 [f,g]) k else .ok f j):=by
 intro i w hi hR hP;obtain ⟨w1,hw1⟩:=ex_ (w.alloc (.cells #[.int .i64 0,.int .i64 0,.int .i64 0,.string ⟨#[]⟩,.slice none 0 0,.slice none 0 0] 35));have hb1:=bAl hw1;have hs1:w1.heap.size=w.heap.size+1:=by rw [hw1];simp
 have x1:w1.heap[w.heap.size]?=some (.cells #[.int .i64 0,.int .i64 0,.int .i64 0,.string ⟨#[]⟩,.slice none 0 0,.slice none 0 0] 35 (0,0)):=by rw [hw1];exact hA_ w _
 have hR1:=hR.below hb1 hR.lt;have hRl:=hR.lt;have hlen:=hP.len;have hcall:=hF i w1 hi hR1 (hP.only (Ob hb1));obtain ⟨r1,hr1⟩:=ex_ (P i);rw [←hr1] at hcall;have hmf:∀ (fn:Fn) (first cap:Array Value) (w:World),(Instr.makeFunc fn first cap).run Tryz.prog w=.ok (.func fn first cap) w:=fun _ _ _ _=>rfl;obtain ⟨n,hn⟩:=ex_ l.length;obtain ⟨F,hF0⟩:=ex_ (FPQ R A c d l ((P i).then fun f j=>if isTk l j 4 [45,62]=true then (inn d PF j).then fun g k=>.ok (fmOf 5 [f,g]) k else .ok f j) w);show Calls _ _ _ _ (FPQ R A c d l ((P i).then fun f j=>if isTk l j 4 [45,62]=true then (inn d PF j).then fun g k=>.ok (fmOf 5 [f,g]) k else .ok f j) w);rw [←hF0];rw [←hr1] at hF0;have HG1:Hid (∀ f j,r1=.ok f j→FGd l i f j):=fun f j h=>hG i f j (by rw [←hr1];exact h);have HZ1:Hid (∀ j e,r1=.bad j e→e≠0):=fun j e h=>hZ i j e (by rw [←hr1];exact h);have HC:=Hd hcall;have HF:=Hd hF0;have HFF:=Hd hFF;have HP:=Hd hP;have HN:=Hd hn;have HW1:=Hd hw1;have HO:Hid (Only (fun q=>q=R) w w1):=Ob hb1;have XB:=Hd x1;rw [←hn] at hi hlen;clear hF0 hw1 hb1 hR hR1 hF hP x1 hcall hr1 hG hZ hn hFF;go_enter Tryz.func71,Tryz.ntmps71;go_wp2_with fail;rw [←HW1.out];refine (HC.out).mono ?_;rintro e w2 ⟨x,rfl,hx,hR2,ho2⟩;unfold FV.val;obtain ⟨b7,hb7⟩:=ex_ w2.heap.size
 obtain ⟨w3,hw3⟩:=ex_ (w2.alloc (.cells #[.int .i64 x.o,.int .i64 x.tn,.int .i64 x.tm,.string x.s,.slice x.Ae x.ne x.ce,.slice x.A x.n x.c] 35));have hal:=bAl hw3;have X7:=nAl hw3 hb7;have hlb:=lL (lH XB.out) ho2.size;have hb7R:b7≠R:=by have:=hR2.lt;omega
 have hb7w:w.heap.size<b7:=by omega
 have YB:=Hd ((hal.block w.heap.size hlb).trans ((ho2.block w.heap.size (lH XB.out) (by omega)).trans XB.out));have HIX:Hid (∀ f j,r1=.ok f j→x.Is (fun q=>w.heap.size<q∧q≠b7) w3 f):=fun f j h=>((hx f j h).keep (S':=fun q=>w.heap.size<q∧q≠b7) Kr (fun q hq h=>by have:=lH XB.out;omega)).keep (Kb hal) (fun _ _ h=>h);have HRD:=Hd (hR2.below hal hR2.lt);have YO:=Hd (HO.out.trans (ho2.trans (Ob hal)));have Qw3:=Hd hw3;have Qb7:=Hd hb7;clear hx hR2 ho2 hal hw3 hb7 HC XB HO;have XB:=YB;have HO:=YO;clear YB YO
 rcases r1 with ⟨jb,eb⟩ | ⟨f,j⟩
 · have hx:=HZ1.out jb eb rfl;have hxb:(eb == 0)=false:=by simpa using hx
   have HRR:Hid (F=FPQ R A c d l (.bad jb eb) w):=HF.out;obtain ⟨c0,c1,-,c3,-⟩:=q4 (show FRd w3 R A l.length c jb d eb from HRD.out);have hrl:=HRD.out.lt;clear hx;go_wp2_with fail;rw [←Qw3.out,←Qb7.out];try go_wp2_with fail
   go_quiet (fail)
   obtain ⟨v0,v1,v2,v3,v4,v5,vzq⟩:=q6 X7.out;obtain ⟨u0,u1,u2,u3,u4,u5,uzq⟩:=q6 XB.out;have hvl:=lH X7.out;have hul:=lH XB.out;clear c0 c1 c3;go_wp2_with fail;clear v0 vzq v1 v2 v3 v4 v5 u0 uzq u1 u2 u3 u4 u5;refine bR (rcF (s6_at (W:=w3.drewN nq) XB.out)) rfl ?_;rw [HRR.out];exact fpq_sets (x:=x) (r:=.bad jb eb) (w1:=w1) (fun f j h=>nomatch h) (by omega) hRl HRD.out (HO.out.drewN nq)
 · have hjl:=(HG1.out f j rfl).jl;rw [←HN.out] at hjl;have HI:=Hd (HIX.out f j rfl);have hrd:FRd w3 R A n c j d 0:=by rw [HN.out];exact HRD.out
   obtain ⟨c0,c1,-,c3,-⟩:=q4 hrd;have hrl:=hrd.lt;have hPW:=HP.out.only HO.out;have hcap:=hPW.cap;have hcapm:=hPW.capm;unfold maxLen at hcapm;rw [←HN.out] at hcap;have hsg:=fsign_any A c j l ⟨#[45,62]⟩ w3.drew hPW.toks.drew1 hPW.len hPW.cap hPW.capm (by omega);rw [←HN.out,show isTk l j 4 (bs ⟨#[45,62]⟩)=isTk l j 4 [45,62] from rfl] at hsg;have HRE:Hid (F=FPQ R A c d l (if isTk l j 4 [45,62]=true then (inn d PF j).then fun g k=>.ok (fmOf 5 [f,g]) k else .ok f j) w):=HF.out;clear HRD HIX hPW;have HRD:=Hd hrd;clear hrd
   by_cases hk:isTk l j 4 [45,62]=true
   · have HRR:Hid (F=FPQ R A c d l ((inn d PF j).then fun g k=>.ok (fmOf 5 [f,g]) k) w):=by show _=_;rw [HRE.out,iP hk]
     have hjlt:=isTk_lt hk;rw [hk] at hsg;have HSG:=Hd hsg;clear hsg hk;go_wp2_with fail;rw [←Qw3.out,←Qb7.out];try go_wp2_with fail
     go_region_held3 (fun w'=>w'.cell? ⟨R,0,none⟩=some (.slice A n c)∧w'.cell? ⟨R,1,none⟩=some (.int .i64 (j:Nat))∧w'.cell? ⟨R,3,none⟩=some (.int .i64 0))
      (first
        | (go_keep;done)
        | (go_split_ands
           refine ⟨?_,?_,?_⟩
           · (rw [hb5.cell (p:=⟨R,_,none⟩) (by simp;omega)];simpa using c0)
           · (rw [hb5.cell (p:=⟨R,_,none⟩) (by simp;omega)];simpa using c1)
           · (rw [hb5.cell (p:=⟨R,_,none⟩) (by simp;omega)];simpa using c3))
        | fail)
      ((go_at_call 141;refine (HSG.out).mono ?_;rintro e w5 ⟨rfl,hb5⟩))
     have hb6:Below w3.heap.size w3 w5:=((Br _ _).drew).trans hb5;replace XB:=kX hb6 XB;replace X7:=kX hb6 X7;replace HO:=Hd (HO.out.trans (Ob hb6));replace HRD:=Hd (HRD.out.below hb6 hrl);replace HI:Hid (x.Is (fun q=>w.heap.size<q∧q≠b7) w5 f):=HI.out.keep (Kb hb6) (fun _ _ h=>h);clear hb5 hb6 c0 c1 c3 HSG;have hrdl:FRd w5 R A l.length c j d 0:=by rw [←HN.out];exact HRD.out
     have hwi:=fwithin_any R A c d l 71 PF j w5 (fun _ _=>by kernel_rfl) HFF.out hd hjlt hrdl (HP.out.only HO.out);rw [show (if d=256 then Rs.bad j 17 else PF (j+1))=inn d PF j from rfl] at hwi;obtain ⟨r2,hr2⟩:=ex_ (inn d PF j);rw [←hr2] at hwi HRR;have HWI:=Hd hwi;clear hrdl hwi hr2;go_wp2_with fail;refine (HWI.out).mono ?_;rintro e w6 ⟨y,rfl,hy,hR6,ho6⟩;unfold FV.val;have Y7:=Hd ((ho6.block b7 (lH X7.out) hb7R).trans X7.out);have YB:=Hd ((ho6.block w.heap.size (lH XB.out) (by omega)).trans XB.out);have YO:=Hd (HO.out.trans ho6);have YI:Hid (x.Is (fun q=>w.heap.size<q∧q≠b7) w6 f):=HI.out.keep (KeepS.of_only ho6 (by omega)) (fun _ _ h=>h);have HY:Hid (∀ g k,r2=.ok g k→y.Is (fun q=>w.heap.size<q∧q≠b7) w6 g):=fun g k h=>(hy g k h).keep Kr (fun q _ h=>by have:=lH X7.out;omega);have HR6:=Hd hR6;clear hy hR6 ho6 XB X7 HO HI HRD HWI;have XB:=YB;have X7:=Y7;have HO:=YO;have HI:=YI;clear YB Y7 YO YI;obtain ⟨v0,v1,v2,v3,v4,v5,vzq⟩:=q6 X7.out;obtain ⟨u0,u1,u2,u3,u4,u5,uzq⟩:=q6 XB.out;have hvl:=lH X7.out;have hul:=lH XB.out;go_wp2_with fail;clear v0 vzq v1 v2 v3 v4 v5 u0 uzq u1 u2 u3 u4 u5
     obtain ⟨W0,hW0⟩:=ex_ (((((((((((((w6.setCell ⟨b7,0,none⟩ (.int .i64 5)).setCell ⟨b7,1,none⟩ (.int .i64 0)).setCell ⟨b7,2,none⟩ (.int .i64 0)).setCell ⟨b7,3,none⟩ (.string ⟨#[]⟩)).setCell ⟨b7,4,none⟩ (.slice none 0 0)).setCell ⟨b7,5,none⟩ (.slice (some ⟨w6.heap.size+1,0,none⟩) 2 2)).setCell ⟨w.heap.size,0,none⟩ (.int .i64 5)).setCell ⟨w.heap.size,1,none⟩ (.int .i64 0)).setCell ⟨w.heap.size,2,none⟩ (.int .i64 0)).setCell ⟨w.heap.size,3,none⟩ (.string ⟨#[]⟩)).setCell ⟨w.heap.size,4,none⟩ (.slice none 0 0)).setCell ⟨w.heap.size,5,none⟩ (.slice (some ⟨w6.heap.size+1,0,none⟩) 2 2)));have hz0:W0.heap.size=w6.heap.size:=by rw [hW0];simp
     have xb0:W0.heap[w.heap.size]?=some (.cells #[.int .i64 5,.int .i64 0,.int .i64 0,.string ⟨#[]⟩,.slice none 0 0,.slice (some ⟨w6.heap.size+1,0,none⟩) 2 2] 35 (0,0)):=by rw [hW0];exact s6_at ((s6_far (by omega)).trans XB.out)
     have hR0:FRd W0 R A l.length c r2.at_ d r2.err:=by rw [hW0];exact (s6_far (by omega)).trans ((s6_far (by omega)).trans HR6.out)
     have hO0:Only (fun q=>q=R) w W0:=by rw [hW0];exact s6_only (s6_only HO.out (by omega)) (lr _)
     have hk0:KeepS (fun q=>w.heap.size<q∧q≠b7) w6 W0:=by rw [hW0];exact s6_keep (s6_keep Kr (by simp)) (by simp)
     rw [←hW0];clear hW0;refine bR (rcF (aK (aK xb0))) rfl ?_;rw [HRR.out];have hnew:=hA_ (W0.alloc (.cells #[.int .i64 y.o,.int .i64 y.tn,.int .i64 y.tm,.string y.s,.slice y.Ae y.ne y.ce,.slice y.A y.n y.c] 35)) (.cells (x.cells++y.cells).toArray 35);rw [show (W0.alloc (.cells #[.int .i64 y.o,.int .i64 y.tn,.int .i64 y.tm,.string y.s,.slice y.Ae y.ne y.ce,.slice y.A y.n y.c] 35)).heap.size=w6.heap.size+1 from by simp [hz0]] at hnew;have hkk:=(hk0.alloc (.cells #[.int .i64 y.o,.int .i64 y.tn,.int .i64 y.tm,.string y.s,.slice y.Ae y.ne y.ce,.slice y.A y.n y.c] 35)).alloc (.cells (x.cells++y.cells).toArray 35);refine fpq_mk2 (x:=x) (y:=y) (op:=5) (by omega) hnew (fun q' m h=>?_) ?_ (only_alloc (only_alloc hO0 _) _)
     · obtain ⟨g,k,h1,h2⟩:=then_ok h;obtain ⟨rfl,rfl⟩:=ok_inj h2;exact ⟨f,g,rfl,HI.out.keep hkk (fun _ _ h=>Nat.le_of_lt h.1),(HY.out g k h1).keep hkk (fun _ _ h=>Nat.le_of_lt h.1)⟩
     · have hRF:FRd ((W0.alloc (.cells #[.int .i64 y.o,.int .i64 y.tn,.int .i64 y.tm,.string y.s,.slice y.Ae y.ne y.ce,.slice y.A y.n y.c] 35)).alloc (.cells (x.cells++y.cells).toArray 35)) R A l.length c r2.at_ d r2.err:=(hR0.below ((Br _ _).alloc (lr _) _) hR0.lt).below (((Br _ _).alloc (lr _) _)) (by simp;have:=hR0.lt;omega);cases r2 <;> exact hRF
   · have hkf:isTk l j 4 [45,62]=false:=by simpa using hk
     have HRR:Hid (F=FPQ R A c d l (.ok f j) w):=by show _=_;rw [HRE.out,iN hk]
     rw [hkf] at hsg;have HSG:=Hd hsg;clear hsg hk hkf;go_wp2_with fail;rw [←Qw3.out,←Qb7.out];try go_wp2_with fail
     go_region_held3 (fun w'=>w'.cell? ⟨R,0,none⟩=some (.slice A n c)∧w'.cell? ⟨R,1,none⟩=some (.int .i64 (j:Nat))∧w'.cell? ⟨R,3,none⟩=some (.int .i64 0))
      (first
        | (go_keep;done)
        | (go_split_ands
           refine ⟨?_,?_,?_⟩
           · (rw [hb5.cell (p:=⟨R,_,none⟩) (by simp;omega)];simpa using c0)
           · (rw [hb5.cell (p:=⟨R,_,none⟩) (by simp;omega)];simpa using c1)
           · (rw [hb5.cell (p:=⟨R,_,none⟩) (by simp;omega)];simpa using c3))
        | fail)
      ((go_at_call 141;refine (HSG.out).mono ?_;rintro e w5 ⟨rfl,hb5⟩))
     have hb6:Below w3.heap.size w3 w5:=((Br _ _).drew).trans hb5;replace XB:=kX hb6 XB;replace X7:=kX hb6 X7;replace HO:=Hd (HO.out.trans (Ob hb6));replace HRD:=Hd (HRD.out.below hb6 hrl);replace HI:Hid (x.Is (fun q=>w.heap.size<q∧q≠b7) w5 f):=HI.out.keep (Kb hb6) (fun _ _ h=>h);clear hb5 hb6 c0 c1 c3 HSG;obtain ⟨v0,v1,v2,v3,v4,v5,vzq⟩:=q6 X7.out;obtain ⟨u0,u1,u2,u3,u4,u5,uzq⟩:=q6 XB.out;have hvl:=lH X7.out;have hul:=lH XB.out;go_wp2_with fail;clear v0 vzq v1 v2 v3 v4 v5 u0 uzq u1 u2 u3 u4 u5;refine bR (rcF (s6_at XB.out)) rfl ?_;rw [HRR.out];have hRf:=HRD.out;rw [HN.out] at hRf
     exact fpq_sets (x:=x) (r:=.ok f j) (w1:=w1) (fun f' j' h=>by
      obtain ⟨rfl,rfl⟩:=ok_inj h
      exact HI.out.keep Kr (fun q _ h=>by have:=h.1;omega)) (by omega) hRl hRf HO.out
end Go.Proofs.YtnbphgeepnknlaaGreatDoor
