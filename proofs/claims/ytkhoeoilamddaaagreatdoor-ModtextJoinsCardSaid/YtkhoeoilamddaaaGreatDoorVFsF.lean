/- Walk: ftext's reader.row. -/
import Derived.Test.YtkhoeoilamddaaaGreatDoorVFsM
namespace Go.Proofs.YtkhoeoilamddaaaGreatDoor
open Go.RowKit
set_option linter.unusedVariables false
set_option linter.unusedSimpArgs false
set_option maxRecDepth 100000
set_option maxHeartbeats 8000000
structure FRowS (R:Nat) (A:Option Addr) (c d:Nat) (l:List Tok) (w:World) (b7:Nat) (op:Int) (sign:Bs) (P:FPar) (r:Rs Fm) (wr:World) (ra:Rs Fm) (x:FV) (fuel:Nat):Prop where
 xb:wr.heap[w.heap.size]?=some (.cells #[.int .i64 0,.int .i64 0,.int .i64 0,.string ⟨#[]⟩,.slice none 0 0,.slice none 0 0] 67 (0,0))
 x7:wr.heap[b7]?=some (.cells #[.int .i64 x.o,.int .i64 x.tn,.int .i64 x.tm,.string x.s,.slice x.Ae x.ne x.ce,.slice x.A x.n x.c] 67 (0,0))
 is:∀ f j,ra=.ok f j→x.Is (fun q=>w.heap.size<q∧q≠b7) wr f
 rd:FRd wr R A l.length c ra.at_ d ra.err
 only:Only (fun q=>q=R) w wr
 gd:∀ f j,ra=.ok f j→j≤l.length∧l.length≤fuel+j
 nz:∀ j e,ra=.bad j e→e≠0
 re:(ra.then fun f j=>rowL l op sign P fuel f j)=r
def fmAt (R n:Nat) (w:World):Nat:=match w.cell? ⟨R,1,none⟩,w.cell? ⟨R,3,none⟩ with
 | some (.int _ i),some (.int _ x)=>if x=0 then n - i.toNat+1 else 0
 | _,_=>0
theorem fmAt_of {w:World} {R n c i d:Nat} {x:Int} {A:Option Addr} (h:FRd w R A n c i d x):fmAt R n w=if x=0 then n - i+1 else 0:=by
 obtain ⟨-,c1,-,c3,-⟩:=q4 h;unfold fmAt;rw [c1,c3];simp
theorem rowL_go {l:List Tok} {op:Int} {sign:Bs} {P:FPar} {f:Fm} {j:Nat} (h:isTk l j 4 sign=true) (K:Nat):rowL l op sign P (K+1) f j=((P (j+1)).then fun g k=>.ok (fmOf op [f,g]) k).then fun g k=>rowL l op sign P K g k:=by
 rw [rowL,iP h];cases P (j+1) <;> rfl
theorem rowL_stop2 {l:List Tok} {op:Int} {sign:Bs} {P:FPar} {f:Fm} {j:Nat} (h:isTk l j 4 sign=false) (K:Nat):rowL l op sign P K f j=.ok f j:=by cases K <;> simp [rowL,h]
def opr4_0 : Oper := { dst := some 40, op := Op.move (Operand.tmp 1), type := 3, pos := "ftext.go:84", after := #[], guard := none }
def opr4_1 : Oper := { dst := some 41, op := Op.load 67 (Operand.tmp 7), type := 67, pos := "ftext.go:84", after := #[], guard := none }
def opr4_2 : Oper := { dst := some 42, op := Op.move (Operand.tmp 5), type := 108, pos := "ftext.go:84", after := #[], guard := none }
def opr4_3 : Oper := { dst := some 43, op := Op.call { callee := Callee.value (Operand.tmp 42), args := #[], argTypes := #[] }, type := 67, pos := "ftext.go:84", after := #[{ on := 2, ground := Ground.data }], guard := none }
def opr4_4 : Oper := { dst := some 44, op := Op.buildSlice 65 2 #[(0, Operand.tmp 41), (1, Operand.tmp 43)], type := 65, pos := "ftext.go:84", after := #[{ on := 1, ground := Ground.data }, { on := 3, ground := Ground.data }], guard := none }
def opr4_5 : Oper := { dst := some 45, op := Op.build 67 #[(0, Operand.tmp 40), (2, Operand.tmp 44)], type := 67, pos := "ftext.go:84", after := #[{ on := 0, ground := Ground.data }, { on := 4, ground := Ground.data }], guard := none }
def opr4_6 : Oper := { dst := none, op := Op.store 67 (Operand.tmp 7) (Operand.tmp 45), type := 0, pos := "ftext.go:84", after := #[{ on := 5, ground := Ground.data }, { on := 3, ground := Ground.chain }, { on := 0, ground := Ground.phase }, { on := 1, ground := Ground.phase }, { on := 2, ground := Ground.phase }, { on := 3, ground := Ground.phase }, { on := 4, ground := Ground.phase }, { on := 5, ground := Ground.phase }], guard := none }
theorem frow_4 (R:Nat) (A:Option Addr) (c d:Nat) (l:List Tok) (P:FPar) (hF:FnF R A c d l 178 P) (hG:FGdP l P) (hZ:FNzP P):FnO R A c d l 4 (rowB l 4 [124] P):=by
 intro i w hi hR hP;obtain ⟨w1,hw1⟩:=ex_ (w.alloc (.cells #[.int .i64 0,.int .i64 0,.int .i64 0,.string ⟨#[]⟩,.slice none 0 0,.slice none 0 0] 67));have hb1:=bAl hw1;have hs1:w1.heap.size=w.heap.size+1:=by rw [hw1];simp
 have x1:w1.heap[w.heap.size]?=some (.cells #[.int .i64 0,.int .i64 0,.int .i64 0,.string ⟨#[]⟩,.slice none 0 0,.slice none 0 0] 67 (0,0)):=by rw [hw1];exact hA_ w _
 have hR1:=hR.below hb1 hR.lt;have hRl:=hR.lt;have hlen:=hP.len;have hcall:=hF i w1 hi hR1 (hP.only (Ob hb1));obtain ⟨r1,hr1⟩:=ex_ (P i);rw [←hr1] at hcall;have hmf:∀ (fn:Fn) (first cap:Array Value) (w:World),(Instr.makeFunc fn first cap).run Tryz.prog w=.ok (.func fn first cap) w:=fun _ _ _ _=>rfl;obtain ⟨n,hn⟩:=ex_ l.length;obtain ⟨r,hr⟩:=ex_ (rowB l 4 [124] P i);obtain ⟨F,HF⟩:=exh_ (FPQ R A c d l r w);rw [←hr,←HF.out];have HRE0:Hid ((r1.then fun f j=>rowL l 4 [124] P l.length f j)=r):=by show _=_;rw [hr,hr1];rfl
 have HG1:Hid (∀ f j,r1=.ok f j→FGd l i f j):=fun f j h=>hG i f j (by rw [←hr1];exact h);have HZ1:Hid (∀ j e,r1=.bad j e→e≠0):=fun j e h=>hZ i j e (by rw [←hr1];exact h);have HC:=Hd hcall;have HFN:=Hd hF;have HG:=Hd hG;have HZ:=Hd hZ;have HP:=Hd hP;have HN:=Hd hn;have HW1:=Hd hw1;have HO:Hid (Only (fun q=>q=R) w w1):=Ob hb1;have XB:=Hd x1;rw [←hn] at hi hlen;clear hw1 hb1 hR hR1 hF hP x1 hcall hr hr1 hG hZ hn;go_enter Tryz.func150,Tryz.ntmps150;go_wp2_with fail;rw [←HW1.out];refine (HC.out).mono ?_;rintro e w2 ⟨x,rfl,hx,hR2,ho2⟩;unfold FV.val;obtain ⟨b7,hb7⟩:=ex_ w2.heap.size;obtain ⟨w3,hw3⟩:=ex_ (w2.alloc (.cells #[.int .i64 x.o,.int .i64 x.tn,.int .i64 x.tm,.string x.s,.slice x.Ae x.ne x.ce,.slice x.A x.n x.c] 67));have hal:=bAl hw3;have x7:w3.heap[b7]?=some (.cells #[.int .i64 x.o,.int .i64 x.tn,.int .i64 x.tm,.string x.s,.slice x.Ae x.ne x.ce,.slice x.A x.n x.c] 67 (0,0)):=by rw [hw3,hb7];exact hA_ w2 _
 have hlb:=lL (lH XB.out) ho2.size;have hb7R:b7≠R:=by have:=hR2.lt;omega
 have hb7w:w.heap.size<b7:=by omega
 have HS0:Hid (FRowS R A c d l w b7 4 [124] P r w3 r1 x l.length):=⟨(hal.block w.heap.size hlb).trans ((ho2.block w.heap.size (lH XB.out) (by omega)).trans XB.out),x7,fun f j h=>((hx f j h).keep (S':=fun q=>w.heap.size<q∧q≠b7) Kr (fun q hq h=>by have:=lH XB.out;omega)).keep (Kb hal) (fun _ _ h=>h),hR2.below hal hR2.lt,HO.out.trans (ho2.trans (Ob hal)),fun f j h=>⟨(HG1.out f j h).jl,by omega⟩,HZ1.out,HRE0.out⟩;have Qw3:=Hd hw3;have Qb7:=Hd hb7;clear hx hR2 ho2 hal x7 hw3 hb7 HC XB HO;go_wp2_with fail;rw [←Qw3.out,←Qb7.out]
 go_loopw [32] (fun _ wr=>∃ (ra:Rs Fm) (x:FV) (fuel:Nat),FRowS R A c d l w b7 4 [124] P r wr ra x fuel) (fun _ wr=>fmAt R l.length wr)
 case atStart=>exact ⟨r1,x,l.length,HS0.out⟩
 case round=>
  obtain ⟨ra,x,fuel,hS⟩:=hrel;have HS:=Hd hS;have XB:=Hd hS.xb;have X7:=Hd hS.x7;clear hS HS0
  rcases ra with ⟨jb,eb⟩ | ⟨f,j⟩
  · have hx:=HS.out.nz jb eb rfl;have hxb:(eb == 0)=false:=by simpa using hx
    have HRR:Hid (F=FPQ R A c d l (.bad jb eb) w):=by show _=_;rw [HF.out,←HS.out.re];rfl
    obtain ⟨c0,c1,-,c3,-⟩:=q4 (show FRd wr R A l.length c jb d eb from HS.out.rd);have hrl:=HS.out.rd.lt;clear hx;go_wp2_with fail
    go_quiet (fail)
    obtain ⟨v0,v1,v2,v3,v4,v5,vzq⟩:=q6 X7.out;obtain ⟨u0,u1,u2,u3,u4,u5,uzq⟩:=q6 XB.out;have hvl:=lH X7.out;have hul:=lH XB.out;clear c0 c1 c3;go_wp2_with fail;clear v0 vzq v1 v2 v3 v4 v5 u0 uzq u1 u2 u3 u4 u5;refine bR (results_cell_row (t:=67) (fr:=(0,0)) rfl _ _ w.heap.size _ _ rfl (s6_at (W:=wr.drewN nq) XB.out) Tryz.underlying67 rfl (by kernel_rfl)) rfl ?_;rw [HRR.out];exact fpq_sets (x:=x) (r:=.bad jb eb) (w1:=wr) (fun f j h=>nomatch h) hul hRl HS.out.rd (HS.out.only.drewN nq)
  · have hS2:=HS.out.gd f j rfl;have HFU:=Hd hS2.2;have hjl:j≤n:=by rw [HN.out];exact hS2.1
    have hrd:FRd wr R A n c j d 0:=by rw [HN.out];exact HS.out.rd
    have HRD:=Hd hrd;obtain ⟨c0,c1,-,c3,-⟩:=q4 hrd;have hrl:=hrd.lt;have hPW:=HP.out.only HS.out.only;have hcap:=hPW.cap;have hcapm:=hPW.capm;unfold maxLen at hcapm;rw [←HN.out] at hcap;have hsg:=fsign_any A c j l ⟨#[124]⟩ wr.drew hPW.toks.drew1 hPW.len hPW.cap hPW.capm (by omega);rw [←HN.out,show isTk l j 4 (bs ⟨#[124]⟩)=isTk l j 4 [124] from rfl] at hsg;have HI:=Hd (HS.out.is f j rfl);have HRE:Hid (rowL l 4 [124] P fuel f j=r):=HS.out.re;clear hS2 hrd hPW
    by_cases hk:isTk l j 4 [124]=true
    · rw [hk] at hsg;have HSG:=Hd hsg;have hjlt:j<n:=by rw [HN.out];exact isTk_lt hk
      obtain ⟨fu,hfu⟩:∃ fu,fuel=fu+1:=⟨fuel - 1,by have:=HFU.out;have:=HN.out;omega⟩;have HREG:Hid (((P (j+1)).then fun g k=>.ok (fmOf 4 [f,g]) k).then (fun g k=>rowL l 4 [124] P fu g k)=r):=by show _=_;rw [←HRE.out,hfu,rowL_go hk]
      have HFU2:Hid (l.length≤fu+(j+1)):=by show _≤_;have:=HFU.out;omega
      clear hsg hk hfu HRE HFU;go_wp2_with fail
      go_region_held3 (fun w'=>w'.cell? ⟨R,0,none⟩=some (.slice A n c)∧w'.cell? ⟨R,1,none⟩=some (.int .i64 (j:Nat))∧w'.cell? ⟨R,3,none⟩=some (.int .i64 0))
       (first
         | (go_keep;done)
         | (go_split_ands
            refine ⟨?_,?_,?_⟩
            · (rw [hb5.cell (p:=⟨R,_,none⟩) (by simp;omega)];simpa using c0)
            · (rw [hb5.cell (p:=⟨R,_,none⟩) (by simp;omega)];simpa using c1)
            · (rw [hb5.cell (p:=⟨R,_,none⟩) (by simp;omega)];simpa using c3))
         | fail)
       ((go_at_call 151;refine (HSG.out).mono ?_;rintro e w5 ⟨rfl,hb5⟩))
      have hb6:Below wr.heap.size wr w5:=((Br _ _).drew).trans hb5;have YB:=kX hb6 XB;have Y7:=kX hb6 X7;have YO:=Hd (HS.out.only.trans (Ob hb6));have YRD:=Hd (HRD.out.below hb6 hrl);have YI:Hid (x.Is (fun q=>w.heap.size<q∧q≠b7) w5 f):=HI.out.keep (Kb hb6) (fun _ _ h=>h);clear hb5 hb6 XB X7 HRD HI c0 c1 c3 HSG;have XB:=YB;have X7:=Y7;have HO:=YO;have HRD:=YRD;have HI:=YI;clear YB Y7 YO YRD YI;obtain ⟨-,c1,-,-,fq⟩:=q4 HRD.out;have hrl5:=HRD.out.lt;go_wp2_with fail;clear c1 fq;obtain ⟨w6,hw6⟩:=ex_ (w5.setCell ⟨R,1,none⟩ (.int .i64 ((j:Int)+1)));obtain ⟨Wc,hWc⟩:=ex_ w6.drew
      have hrd6:FRd Wc R A n c (j+1) d 0:=by
       have h:=HRD.out.at_ (j+1);rw [show ((j+1:Nat):Int)=(j:Int)+1 from by omega] at h;rw [hWc,hw6];exact h
      have hne7:b7≠(⟨R,1,none⟩:Addr).block:=hb7R;have YB:Hid (Wc.heap[w.heap.size]?=some (.cells #[.int .i64 0,.int .i64 0,.int .i64 0,.string ⟨#[]⟩,.slice none 0 0,.slice none 0 0] 67 (0,0))):=by show _=_;rw [hWc,hw6];exact (hO_ w5 ⟨R,1,none⟩ w.heap.size _ (by show w.heap.size≠R;omega)).trans XB.out
      have Y7:Hid (Wc.heap[b7]?=some (.cells #[.int .i64 x.o,.int .i64 x.tn,.int .i64 x.tm,.string x.s,.slice x.Ae x.ne x.ce,.slice x.A x.n x.c] 67 (0,0))):=by show _=_;rw [hWc,hw6];exact (hO_ w5 ⟨R,1,none⟩ b7 _ hne7).trans X7.out
      have YO:Hid (Only (fun q=>q=R) w Wc):=by show Only _ _ _;rw [hWc,hw6];exact (HO.out.setF (show R=R from rfl) _).drewN 1
      have YI:Hid (x.Is (fun q=>w.heap.size<q∧q≠b7) Wc f):=by show FV.Is _ _ _ _;rw [hWc,hw6];exact (HI.out.keep (KeepS.refl.set (by omega) _) (fun _ _ h=>h)).keep ⟨lr _,fun _ _ _=>rfl⟩ (fun _ _ h=>h)
      rw [HN.out] at hrd6;have hpc:=HFN.out (j+1) Wc (by have:=HN.out;omega) hrd6 (HP.out.only YO.out);obtain ⟨r2,hr2⟩:=ex_ (P (j+1));rw [←hr2] at hpc;rw [←hr2] at HREG;have HG2:Hid (∀ g k,r2=.ok g k→FGd l (j+1) g k):=fun g k h=>HG.out (j+1) g k (by rw [←hr2];exact h);have HZ2:Hid (∀ k e,r2=.bad k e→e≠0):=fun k e h=>HZ.out (j+1) k e (by rw [←hr2];exact h);have HPC:=Hd hpc;refine wp_region_held_drew (S:=fun w'=>w'.heap[w.heap.size]?=some (.cells #[.int .i64 0,.int .i64 0,.int .i64 0,.string ⟨#[]⟩,.slice none 0 0,.slice none 0 0] 67 (0,0))) (by kernel_rfl) (by rw [←hw6,←hWc];exact YB.out) (fun hHeld=>?_);rw [←hw6,←hWc] at hHeld;rw [←hw6,←hWc];clear hw6 hWc XB X7 HO HI HRD hrd6 hpc hr2 hne7;have XB:=YB;have X7:=Y7;have HO:=YO;have HI:=YI;clear YB Y7 YO YI;refine wpAnyH_take (i:=0) (oi:=opr4_0) (v:=?_) rfl (by kernel_rfl) (by kernel_rfl) (by kernel_rfl) (fun _ _ _ h=>h) (Or.inl ⟨by rfl,?hy⟩) (by assumption) ?_
      case hy=>
       unfold opr4_0;intro w0 hSw;clear hSw;go_simp
       (first | done | with_reducible rfl)
      (try simp only [opr4_0,Act.put,sAr,sZe,sSu]);refine wpAnyH_take (i:=2) (oi:=opr4_2) (v:=?_) rfl (by kernel_rfl) (by kernel_rfl) (by kernel_rfl) (fun _ _ _ h=>h) (Or.inl ⟨by rfl,?hy⟩) (by assumption) ?_
      case hy=>
       unfold opr4_2;intro w0 hSw;clear hSw;go_simp
       (first | done | with_reducible rfl)
      (try simp only [opr4_2,Act.put,sAr,sZe,sSu]);refine Rd (rs:=[1,3]) (by kernel_rfl) (by simp) ?_;refine Rc (o:=opr4_1) rfl (fun K hK=>?_) (Rc (o:=opr4_3) rfl (fun K hK=>?_) Rn)
      iterate 4
       all_goals first
        | (unfold opr4_1
           obtain ⟨v0,v1,v2,v3,v4,v5,vzq⟩:=q6 X7.out;go_simp;clear v0 vzq v1 v2 v3 v4 v5;refine hK.out _ _ (hHeld) (fun hHeld=>?_);clear hK K;try simp only [Act.put,sAr,sZe,sSu]
           obtain ⟨D1,-⟩:∃ n:Nat,n=n:=⟨0,rfl⟩)
        | (unfold opr4_3
           go_simp;(with_reducible refine (HPC.out).mono ?_);rintro e Wc ⟨y,rfl,hy,hR8,ho8⟩;unfold FV.val;have x78:=(ho8.block b7 (lH X7.out) hb7R).trans X7.out;refine hK.out _ _ ((ho8.block w.heap.size (lH XB.out) (by omega)).trans XB.out) (fun hHeld=>?_);clear hK K;(try simp only [Act.put,sAr,sZe,sSu]);have YB:=Hd ((ho8.block w.heap.size (lH XB.out) (by omega)).trans XB.out);have Y7:=Hd x78;have YO:=Hd (HO.out.trans ho8);have YI:Hid (x.Is (fun q=>w.heap.size<q∧q≠b7) Wc f):=HI.out.keep (KeepS.of_only ho8 (by omega)) (fun _ _ h=>h);have HY:Hid (∀ g k,r2=.ok g k→y.Is (fun q=>w.heap.size<q∧q≠b7) Wc g):=fun g k h=>(hy g k h).keep Kr (fun q _ h=>by have:=lH X7.out;omega);have HRD:=Hd hR8;clear hy hR8 ho8 x78 XB X7 HO HI;have XB:=YB;have X7:=Y7;have HO:=YO;have HI:=YI;clear YB Y7 YO YI
           obtain ⟨D3,-⟩:∃ n:Nat,n=n:=⟨0,rfl⟩)
        | (unfold opr4_4
           go_simp;obtain ⟨g,hg⟩:=ex_ Wc.heap.size;obtain ⟨W2,hW2⟩:=ex_ (Wc.alloc (.cells #[.int .i64 x.o,.int .i64 x.tn,.int .i64 x.tm,.string x.s,.slice x.Ae x.ne x.ce,.slice x.A x.n x.c,.int .i64 y.o,.int .i64 y.tn,.int .i64 y.tm,.string y.s,.slice y.Ae y.ne y.ce,.slice y.A y.n y.c] 67));have hal:=bAl hW2;have hrow:W2.heap[g]?=some (.cells (x.cells++y.cells).toArray 67 (0,0)):=by rw [hW2,hg];exact hA_ Wc _
           have x72:=(hal.block b7 (lH X7.out)).trans X7.out;have hg7:g≠b7:=by have:=lH X7.out;omega
           have hgw:w.heap.size<g:=by have:=lH XB.out;omega
           rw [←hW2,←hg];refine hK.out _ _ ((hal.block w.heap.size (lH XB.out)).trans XB.out) (fun hHeld=>?_);clear hK K;(try simp only [Act.put,sAr,sZe,sSu]);replace XB:=kX hal XB;replace X7:=Hd x72;replace HO:=Hd (HO.out.trans (Ob hal));replace HRD:=Hd (HRD.out.below hal HRD.out.lt);have HIS:Hid (∀ h k,r2=.ok h k→(FV.mk 4 0 0 ⟨#[]⟩ none 0 0 (some ⟨g,0,none⟩) 2 2).Is (fun q=>w.heap.size<q∧q≠b7) W2 (fmOf 4 [f,h])):=fun h k hr=>FV.two_is (HI.out.keep (Kb hal) (fun _ _ h=>h)) ((HY.out h k hr).keep (Kb hal) (fun _ _ h=>h)) ⟨hgw,hg7⟩ hrow;clear hal hrow x72 HI HY hW2 hg
           obtain ⟨D4,-⟩:∃ n:Nat,n=n:=⟨0,rfl⟩)
        | (unfold opr4_6
           obtain ⟨v0,v1,v2,v3,v4,v5,vzq⟩:=q6 X7.out;go_simp;clear v0 vzq v1 v2 v3 v4 v5;refine hK.out _ _ ((s6_far (by omega)).trans hHeld) (fun hHeld=>?_);clear hK K;try simp only [Act.put,sAr,sZe,sSu]
           obtain ⟨D6,-⟩:∃ n:Nat,n=n:=⟨0,rfl⟩)
        | fail
       all_goals first
        | have:=T5
        | (have:=D1
           have:=D3;have:=D4;refine wpAnyH_take (i:=5) (oi:=opr4_5) (v:=?_) rfl (by kernel_rfl) (by kernel_rfl) (by kernel_rfl) (fun _ _ _ h=>h) (Or.inl ⟨by rfl,?hy⟩) (by assumption) ?_
           case hy=>
            unfold opr4_5;intro w0 hSw;clear hSw;go_simp
            (first | done | with_reducible rfl)
           try simp only [opr4_5,Act.put,sAr,sZe,sSu]
           obtain ⟨T5,-⟩:∃ n:Nat,n=n:=⟨0,rfl⟩)
        | skip
       all_goals first
        | (have:=D1
           have:=D3;have:=D4;have:=D6;refine wpAnyH_done (by kernel_rfl) ?_ _;clear hHeld;have hjo:=fmAt_of HS.out.rd;have hjl2:=HG2;go_wp2_with fail;obtain ⟨W9,hW9⟩:=ex_ (((((((W2.setCell ⟨b7,0,none⟩ (.int .i64 4)).setCell ⟨b7,1,none⟩ (.int .i64 0)).setCell ⟨b7,2,none⟩ (.int .i64 0)).setCell ⟨b7,3,none⟩ (.string ⟨#[]⟩)).setCell ⟨b7,4,none⟩ (.slice none 0 0)).setCell ⟨b7,5,none⟩ (.slice (some ⟨g,0,none⟩) 2 2)))
           have hS9:FRowS R A c d l w b7 4 [124] P r W9 (r2.then fun g k=>.ok (fmOf 4 [f,g]) k) (FV.mk 4 0 0 ⟨#[]⟩ none 0 0 (some ⟨g,0,none⟩) 2 2) fu:=by
            refine ⟨?_,?_,fun q k h=>?_,?_,?_,fun q k h=>?_,fun k e h=>?_,HREG.out⟩
            · rw [hW9];exact (s6_far (by omega)).trans XB.out
            · rw [hW9];exact s6_at X7.out
            · obtain ⟨h',k',h1,h2⟩:=then_ok h;obtain ⟨rfl,rfl⟩:=ok_inj h2;rw [hW9];exact (HIS.out h' k' h1).keep (s6_keep Kr (by simp)) (fun _ _ h=>h)
            · rw [hW9];have hR0:FRd ((((((W2.setCell ⟨b7,0,none⟩ (.int .i64 4)).setCell ⟨b7,1,none⟩ (.int .i64 0)).setCell ⟨b7,2,none⟩ (.int .i64 0)).setCell ⟨b7,3,none⟩ (.string ⟨#[]⟩)).setCell ⟨b7,4,none⟩ (.slice none 0 0)).setCell ⟨b7,5,none⟩ (.slice (some ⟨g,0,none⟩) 2 2)) R A l.length c r2.at_ d r2.err:=(s6_far (Ne.symm hb7R)).trans HRD.out;cases r2 <;> exact hR0
            · rw [hW9];exact s6_only HO.out (Nat.le_of_lt hb7w)
            · obtain ⟨h',k',h1,h2⟩:=then_ok h;obtain ⟨rfl,rfl⟩:=ok_inj h2;have:=HG2.out h' k' h1;have:=HFU2.out;exact ⟨(HG2.out h' k' h1).jl,by have:=(HG2.out h' k' h1).ij;omega⟩
            · rcases then_bad2 h with h1 | ⟨x,k,-,h1⟩
              · exact HZ2.out k e h1
              · cases h1
           have hjn:=fmAt_of hS9.rd;rw [←hW9];clear hW9
           go_roundw
           case rel=>exact ⟨_,_,fu,hS9⟩
           case measure=>
            rw [hjn,hjo];have hjl9:=HN.out
            cases r2 with
            | bad k e=>simp [Rs.err,Rs.at_,HZ2.out k e rfl]
            | ok h' k=>
             have:=(HG2.out h' k rfl).ij;have:=(HG2.out h' k rfl).jl;simp only [Rs.then_ok,Rs.err,Rs.at_,if_true]
             omega)
        | (have:=D1
           have:=D3;have:=D4;refine Rd (rs:=[6]) (by kernel_rfl) (by simp) ?_
           refine Rc (o:=opr4_6) rfl (fun K hK=>?_) Rn)
        | (have:=D1
           have:=D3;refine Rd (rs:=[4]) (by kernel_rfl) (by simp) ?_
           refine Rc (o:=opr4_4) rfl (fun K hK=>?_) Rn)
        | (have:=D1
           refine Rd (rs:=[3]) (by kernel_rfl) (by simp) ?_
           refine Rc (o:=opr4_3) rfl (fun K hK=>?_) Rn)
        | (have:=D3
           refine Rd (rs:=[1]) (by kernel_rfl) (by simp) ?_
           refine Rc (o:=opr4_1) rfl (fun K hK=>?_) Rn)
        | fail
    · have hkf:isTk l j 4 [124]=false:=by simpa using hk
      have HRR:Hid (F=FPQ R A c d l (.ok f j) w):=by show _=_;rw [HF.out,←HRE.out,rowL_stop2 hkf]
      rw [hkf] at hsg;have HSG:=Hd hsg;clear hsg hk hkf;go_wp2_with fail
      go_region_held3 (fun w'=>w'.cell? ⟨R,0,none⟩=some (.slice A n c)∧w'.cell? ⟨R,1,none⟩=some (.int .i64 (j:Nat))∧w'.cell? ⟨R,3,none⟩=some (.int .i64 0))
       (first
         | (go_keep;done)
         | (go_split_ands
            refine ⟨?_,?_,?_⟩
            · (rw [hb5.cell (p:=⟨R,_,none⟩) (by simp;omega)];simpa using c0)
            · (rw [hb5.cell (p:=⟨R,_,none⟩) (by simp;omega)];simpa using c1)
            · (rw [hb5.cell (p:=⟨R,_,none⟩) (by simp;omega)];simpa using c3))
         | fail)
       ((go_at_call 151;refine (HSG.out).mono ?_;rintro e w5 ⟨rfl,hb5⟩))
      have hb6:Below wr.heap.size wr w5:=((Br _ _).drew).trans hb5;have YB:=kX hb6 XB;have Y7:=kX hb6 X7;have YO:=Hd (HS.out.only.trans (Ob hb6));have YRD:=Hd (HRD.out.below hb6 hrl);have YI:Hid (x.Is (fun q=>w.heap.size<q∧q≠b7) w5 f):=HI.out.keep (Kb hb6) (fun _ _ h=>h);clear hb5 hb6 XB X7 HRD HI c0 c1 c3 HSG;have XB:=YB;have X7:=Y7;have HO:=YO;have HRD:=YRD;have HI:=YI;clear YB Y7 YO YRD YI;obtain ⟨v0,v1,v2,v3,v4,v5,vzq⟩:=q6 X7.out;obtain ⟨u0,u1,u2,u3,u4,u5,uzq⟩:=q6 XB.out;have hvl:=lH X7.out;have hul:=lH XB.out;go_wp2_with fail;clear v0 vzq v1 v2 v3 v4 v5 u0 uzq u1 u2 u3 u4 u5;refine bR (results_cell_row (t:=67) (fr:=(0,0)) rfl _ _ w.heap.size _ _ rfl (s6_at XB.out) Tryz.underlying67 rfl (by kernel_rfl)) rfl ?_;rw [HRR.out];have hRf:=HRD.out;rw [HN.out] at hRf
      exact fpq_sets (x:=x) (r:=.ok f j) (w1:=w1) (fun f' j' h=>by
       obtain ⟨rfl,rfl⟩:=ok_inj h
       exact HI.out.keep Kr (fun q _ h=>by have:=h.1;omega)) (by omega) hRl hRf HO.out
def opr3_0 : Oper := { dst := some 40, op := Op.move (Operand.tmp 1), type := 3, pos := "ftext.go:84", after := #[], guard := none }
def opr3_1 : Oper := { dst := some 41, op := Op.load 67 (Operand.tmp 7), type := 67, pos := "ftext.go:84", after := #[], guard := none }
def opr3_2 : Oper := { dst := some 42, op := Op.move (Operand.tmp 5), type := 108, pos := "ftext.go:84", after := #[], guard := none }
def opr3_3 : Oper := { dst := some 43, op := Op.call { callee := Callee.value (Operand.tmp 42), args := #[], argTypes := #[] }, type := 67, pos := "ftext.go:84", after := #[{ on := 2, ground := Ground.data }], guard := none }
def opr3_4 : Oper := { dst := some 44, op := Op.buildSlice 65 2 #[(0, Operand.tmp 41), (1, Operand.tmp 43)], type := 65, pos := "ftext.go:84", after := #[{ on := 1, ground := Ground.data }, { on := 3, ground := Ground.data }], guard := none }
def opr3_5 : Oper := { dst := some 45, op := Op.build 67 #[(0, Operand.tmp 40), (2, Operand.tmp 44)], type := 67, pos := "ftext.go:84", after := #[{ on := 0, ground := Ground.data }, { on := 4, ground := Ground.data }], guard := none }
def opr3_6 : Oper := { dst := none, op := Op.store 67 (Operand.tmp 7) (Operand.tmp 45), type := 0, pos := "ftext.go:84", after := #[{ on := 5, ground := Ground.data }, { on := 3, ground := Ground.chain }, { on := 0, ground := Ground.phase }, { on := 1, ground := Ground.phase }, { on := 2, ground := Ground.phase }, { on := 3, ground := Ground.phase }, { on := 4, ground := Ground.phase }, { on := 5, ground := Ground.phase }], guard := none }
theorem frow_3 (R:Nat) (A:Option Addr) (c d:Nat) (l:List Tok) (P:FPar) (hF:FnF R A c d l 177 P) (hG:FGdP l P) (hZ:FNzP P):FnO R A c d l 3 (rowB l 3 [38] P):=by
 intro i w hi hR hP;obtain ⟨w1,hw1⟩:=ex_ (w.alloc (.cells #[.int .i64 0,.int .i64 0,.int .i64 0,.string ⟨#[]⟩,.slice none 0 0,.slice none 0 0] 67));have hb1:=bAl hw1;have hs1:w1.heap.size=w.heap.size+1:=by rw [hw1];simp
 have x1:w1.heap[w.heap.size]?=some (.cells #[.int .i64 0,.int .i64 0,.int .i64 0,.string ⟨#[]⟩,.slice none 0 0,.slice none 0 0] 67 (0,0)):=by rw [hw1];exact hA_ w _
 have hR1:=hR.below hb1 hR.lt;have hRl:=hR.lt;have hlen:=hP.len;have hcall:=hF i w1 hi hR1 (hP.only (Ob hb1));obtain ⟨r1,hr1⟩:=ex_ (P i);rw [←hr1] at hcall;have hmf:∀ (fn:Fn) (first cap:Array Value) (w:World),(Instr.makeFunc fn first cap).run Tryz.prog w=.ok (.func fn first cap) w:=fun _ _ _ _=>rfl;obtain ⟨n,hn⟩:=ex_ l.length;obtain ⟨r,hr⟩:=ex_ (rowB l 3 [38] P i);obtain ⟨F,HF⟩:=exh_ (FPQ R A c d l r w);rw [←hr,←HF.out];have HRE0:Hid ((r1.then fun f j=>rowL l 3 [38] P l.length f j)=r):=by show _=_;rw [hr,hr1];rfl
 have HG1:Hid (∀ f j,r1=.ok f j→FGd l i f j):=fun f j h=>hG i f j (by rw [←hr1];exact h);have HZ1:Hid (∀ j e,r1=.bad j e→e≠0):=fun j e h=>hZ i j e (by rw [←hr1];exact h);have HC:=Hd hcall;have HFN:=Hd hF;have HG:=Hd hG;have HZ:=Hd hZ;have HP:=Hd hP;have HN:=Hd hn;have HW1:=Hd hw1;have HO:Hid (Only (fun q=>q=R) w w1):=Ob hb1;have XB:=Hd x1;rw [←hn] at hi hlen;clear hw1 hb1 hR hR1 hF hP x1 hcall hr hr1 hG hZ hn;go_enter Tryz.func150,Tryz.ntmps150;go_wp2_with fail;rw [←HW1.out];refine (HC.out).mono ?_;rintro e w2 ⟨x,rfl,hx,hR2,ho2⟩;unfold FV.val;obtain ⟨b7,hb7⟩:=ex_ w2.heap.size;obtain ⟨w3,hw3⟩:=ex_ (w2.alloc (.cells #[.int .i64 x.o,.int .i64 x.tn,.int .i64 x.tm,.string x.s,.slice x.Ae x.ne x.ce,.slice x.A x.n x.c] 67));have hal:=bAl hw3;have x7:w3.heap[b7]?=some (.cells #[.int .i64 x.o,.int .i64 x.tn,.int .i64 x.tm,.string x.s,.slice x.Ae x.ne x.ce,.slice x.A x.n x.c] 67 (0,0)):=by rw [hw3,hb7];exact hA_ w2 _
 have hlb:=lL (lH XB.out) ho2.size;have hb7R:b7≠R:=by have:=hR2.lt;omega
 have hb7w:w.heap.size<b7:=by omega
 have HS0:Hid (FRowS R A c d l w b7 3 [38] P r w3 r1 x l.length):=⟨(hal.block w.heap.size hlb).trans ((ho2.block w.heap.size (lH XB.out) (by omega)).trans XB.out),x7,fun f j h=>((hx f j h).keep (S':=fun q=>w.heap.size<q∧q≠b7) Kr (fun q hq h=>by have:=lH XB.out;omega)).keep (Kb hal) (fun _ _ h=>h),hR2.below hal hR2.lt,HO.out.trans (ho2.trans (Ob hal)),fun f j h=>⟨(HG1.out f j h).jl,by omega⟩,HZ1.out,HRE0.out⟩;have Qw3:=Hd hw3;have Qb7:=Hd hb7;clear hx hR2 ho2 hal x7 hw3 hb7 HC XB HO;go_wp2_with fail;rw [←Qw3.out,←Qb7.out]
 go_loopw [32] (fun _ wr=>∃ (ra:Rs Fm) (x:FV) (fuel:Nat),FRowS R A c d l w b7 3 [38] P r wr ra x fuel) (fun _ wr=>fmAt R l.length wr)
 case atStart=>exact ⟨r1,x,l.length,HS0.out⟩
 case round=>
  obtain ⟨ra,x,fuel,hS⟩:=hrel;have HS:=Hd hS;have XB:=Hd hS.xb;have X7:=Hd hS.x7;clear hS HS0
  rcases ra with ⟨jb,eb⟩ | ⟨f,j⟩
  · have hx:=HS.out.nz jb eb rfl;have hxb:(eb == 0)=false:=by simpa using hx
    have HRR:Hid (F=FPQ R A c d l (.bad jb eb) w):=by show _=_;rw [HF.out,←HS.out.re];rfl
    obtain ⟨c0,c1,-,c3,-⟩:=q4 (show FRd wr R A l.length c jb d eb from HS.out.rd);have hrl:=HS.out.rd.lt;clear hx;go_wp2_with fail
    go_quiet (fail)
    obtain ⟨v0,v1,v2,v3,v4,v5,vzq⟩:=q6 X7.out;obtain ⟨u0,u1,u2,u3,u4,u5,uzq⟩:=q6 XB.out;have hvl:=lH X7.out;have hul:=lH XB.out;clear c0 c1 c3;go_wp2_with fail;clear v0 vzq v1 v2 v3 v4 v5 u0 uzq u1 u2 u3 u4 u5;refine bR (results_cell_row (t:=67) (fr:=(0,0)) rfl _ _ w.heap.size _ _ rfl (s6_at (W:=wr.drewN nq) XB.out) Tryz.underlying67 rfl (by kernel_rfl)) rfl ?_;rw [HRR.out];exact fpq_sets (x:=x) (r:=.bad jb eb) (w1:=wr) (fun f j h=>nomatch h) hul hRl HS.out.rd (HS.out.only.drewN nq)
  · have hS2:=HS.out.gd f j rfl;have HFU:=Hd hS2.2;have hjl:j≤n:=by rw [HN.out];exact hS2.1
    have hrd:FRd wr R A n c j d 0:=by rw [HN.out];exact HS.out.rd
    have HRD:=Hd hrd;obtain ⟨c0,c1,-,c3,-⟩:=q4 hrd;have hrl:=hrd.lt;have hPW:=HP.out.only HS.out.only;have hcap:=hPW.cap;have hcapm:=hPW.capm;unfold maxLen at hcapm;rw [←HN.out] at hcap;have hsg:=fsign_any A c j l ⟨#[38]⟩ wr.drew hPW.toks.drew1 hPW.len hPW.cap hPW.capm (by omega);rw [←HN.out,show isTk l j 4 (bs ⟨#[38]⟩)=isTk l j 4 [38] from rfl] at hsg;have HI:=Hd (HS.out.is f j rfl);have HRE:Hid (rowL l 3 [38] P fuel f j=r):=HS.out.re;clear hS2 hrd hPW
    by_cases hk:isTk l j 4 [38]=true
    · rw [hk] at hsg;have HSG:=Hd hsg;have hjlt:j<n:=by rw [HN.out];exact isTk_lt hk
      obtain ⟨fu,hfu⟩:∃ fu,fuel=fu+1:=⟨fuel - 1,by have:=HFU.out;have:=HN.out;omega⟩;have HREG:Hid (((P (j+1)).then fun g k=>.ok (fmOf 3 [f,g]) k).then (fun g k=>rowL l 3 [38] P fu g k)=r):=by show _=_;rw [←HRE.out,hfu,rowL_go hk]
      have HFU2:Hid (l.length≤fu+(j+1)):=by show _≤_;have:=HFU.out;omega
      clear hsg hk hfu HRE HFU;go_wp2_with fail
      go_region_held3 (fun w'=>w'.cell? ⟨R,0,none⟩=some (.slice A n c)∧w'.cell? ⟨R,1,none⟩=some (.int .i64 (j:Nat))∧w'.cell? ⟨R,3,none⟩=some (.int .i64 0))
       (first
         | (go_keep;done)
         | (go_split_ands
            refine ⟨?_,?_,?_⟩
            · (rw [hb5.cell (p:=⟨R,_,none⟩) (by simp;omega)];simpa using c0)
            · (rw [hb5.cell (p:=⟨R,_,none⟩) (by simp;omega)];simpa using c1)
            · (rw [hb5.cell (p:=⟨R,_,none⟩) (by simp;omega)];simpa using c3))
         | fail)
       ((go_at_call 151;refine (HSG.out).mono ?_;rintro e w5 ⟨rfl,hb5⟩))
      have hb6:Below wr.heap.size wr w5:=((Br _ _).drew).trans hb5;have YB:=kX hb6 XB;have Y7:=kX hb6 X7;have YO:=Hd (HS.out.only.trans (Ob hb6));have YRD:=Hd (HRD.out.below hb6 hrl);have YI:Hid (x.Is (fun q=>w.heap.size<q∧q≠b7) w5 f):=HI.out.keep (Kb hb6) (fun _ _ h=>h);clear hb5 hb6 XB X7 HRD HI c0 c1 c3 HSG;have XB:=YB;have X7:=Y7;have HO:=YO;have HRD:=YRD;have HI:=YI;clear YB Y7 YO YRD YI;obtain ⟨-,c1,-,-,fq⟩:=q4 HRD.out;have hrl5:=HRD.out.lt;go_wp2_with fail;clear c1 fq;obtain ⟨w6,hw6⟩:=ex_ (w5.setCell ⟨R,1,none⟩ (.int .i64 ((j:Int)+1)));obtain ⟨Wc,hWc⟩:=ex_ w6.drew
      have hrd6:FRd Wc R A n c (j+1) d 0:=by
       have h:=HRD.out.at_ (j+1);rw [show ((j+1:Nat):Int)=(j:Int)+1 from by omega] at h;rw [hWc,hw6];exact h
      have hne7:b7≠(⟨R,1,none⟩:Addr).block:=hb7R;have YB:Hid (Wc.heap[w.heap.size]?=some (.cells #[.int .i64 0,.int .i64 0,.int .i64 0,.string ⟨#[]⟩,.slice none 0 0,.slice none 0 0] 67 (0,0))):=by show _=_;rw [hWc,hw6];exact (hO_ w5 ⟨R,1,none⟩ w.heap.size _ (by show w.heap.size≠R;omega)).trans XB.out
      have Y7:Hid (Wc.heap[b7]?=some (.cells #[.int .i64 x.o,.int .i64 x.tn,.int .i64 x.tm,.string x.s,.slice x.Ae x.ne x.ce,.slice x.A x.n x.c] 67 (0,0))):=by show _=_;rw [hWc,hw6];exact (hO_ w5 ⟨R,1,none⟩ b7 _ hne7).trans X7.out
      have YO:Hid (Only (fun q=>q=R) w Wc):=by show Only _ _ _;rw [hWc,hw6];exact (HO.out.setF (show R=R from rfl) _).drewN 1
      have YI:Hid (x.Is (fun q=>w.heap.size<q∧q≠b7) Wc f):=by show FV.Is _ _ _ _;rw [hWc,hw6];exact (HI.out.keep (KeepS.refl.set (by omega) _) (fun _ _ h=>h)).keep ⟨lr _,fun _ _ _=>rfl⟩ (fun _ _ h=>h)
      rw [HN.out] at hrd6;have hpc:=HFN.out (j+1) Wc (by have:=HN.out;omega) hrd6 (HP.out.only YO.out);obtain ⟨r2,hr2⟩:=ex_ (P (j+1));rw [←hr2] at hpc;rw [←hr2] at HREG;have HG2:Hid (∀ g k,r2=.ok g k→FGd l (j+1) g k):=fun g k h=>HG.out (j+1) g k (by rw [←hr2];exact h);have HZ2:Hid (∀ k e,r2=.bad k e→e≠0):=fun k e h=>HZ.out (j+1) k e (by rw [←hr2];exact h);have HPC:=Hd hpc;refine wp_region_held_drew (S:=fun w'=>w'.heap[w.heap.size]?=some (.cells #[.int .i64 0,.int .i64 0,.int .i64 0,.string ⟨#[]⟩,.slice none 0 0,.slice none 0 0] 67 (0,0))) (by kernel_rfl) (by rw [←hw6,←hWc];exact YB.out) (fun hHeld=>?_);rw [←hw6,←hWc] at hHeld;rw [←hw6,←hWc];clear hw6 hWc XB X7 HO HI HRD hrd6 hpc hr2 hne7;have XB:=YB;have X7:=Y7;have HO:=YO;have HI:=YI;clear YB Y7 YO YI;refine wpAnyH_take (i:=0) (oi:=opr3_0) (v:=?_) rfl (by kernel_rfl) (by kernel_rfl) (by kernel_rfl) (fun _ _ _ h=>h) (Or.inl ⟨by rfl,?hy⟩) (by assumption) ?_
      case hy=>
       unfold opr3_0;intro w0 hSw;clear hSw;go_simp
       (first | done | with_reducible rfl)
      (try simp only [opr3_0,Act.put,sAr,sZe,sSu]);refine wpAnyH_take (i:=2) (oi:=opr3_2) (v:=?_) rfl (by kernel_rfl) (by kernel_rfl) (by kernel_rfl) (fun _ _ _ h=>h) (Or.inl ⟨by rfl,?hy⟩) (by assumption) ?_
      case hy=>
       unfold opr3_2;intro w0 hSw;clear hSw;go_simp
       (first | done | with_reducible rfl)
      (try simp only [opr3_2,Act.put,sAr,sZe,sSu]);refine Rd (rs:=[1,3]) (by kernel_rfl) (by simp) ?_;refine Rc (o:=opr3_1) rfl (fun K hK=>?_) (Rc (o:=opr3_3) rfl (fun K hK=>?_) Rn)
      iterate 4
       all_goals first
        | (unfold opr3_1
           obtain ⟨v0,v1,v2,v3,v4,v5,vzq⟩:=q6 X7.out;go_simp;clear v0 vzq v1 v2 v3 v4 v5;refine hK.out _ _ (hHeld) (fun hHeld=>?_);clear hK K;try simp only [Act.put,sAr,sZe,sSu]
           obtain ⟨D1,-⟩:∃ n:Nat,n=n:=⟨0,rfl⟩)
        | (unfold opr3_3
           go_simp;(with_reducible refine (HPC.out).mono ?_);rintro e Wc ⟨y,rfl,hy,hR8,ho8⟩;unfold FV.val;have x78:=(ho8.block b7 (lH X7.out) hb7R).trans X7.out;refine hK.out _ _ ((ho8.block w.heap.size (lH XB.out) (by omega)).trans XB.out) (fun hHeld=>?_);clear hK K;(try simp only [Act.put,sAr,sZe,sSu]);have YB:=Hd ((ho8.block w.heap.size (lH XB.out) (by omega)).trans XB.out);have Y7:=Hd x78;have YO:=Hd (HO.out.trans ho8);have YI:Hid (x.Is (fun q=>w.heap.size<q∧q≠b7) Wc f):=HI.out.keep (KeepS.of_only ho8 (by omega)) (fun _ _ h=>h);have HY:Hid (∀ g k,r2=.ok g k→y.Is (fun q=>w.heap.size<q∧q≠b7) Wc g):=fun g k h=>(hy g k h).keep Kr (fun q _ h=>by have:=lH X7.out;omega);have HRD:=Hd hR8;clear hy hR8 ho8 x78 XB X7 HO HI;have XB:=YB;have X7:=Y7;have HO:=YO;have HI:=YI;clear YB Y7 YO YI
           obtain ⟨D3,-⟩:∃ n:Nat,n=n:=⟨0,rfl⟩)
        | (unfold opr3_4
           go_simp;obtain ⟨g,hg⟩:=ex_ Wc.heap.size;obtain ⟨W2,hW2⟩:=ex_ (Wc.alloc (.cells #[.int .i64 x.o,.int .i64 x.tn,.int .i64 x.tm,.string x.s,.slice x.Ae x.ne x.ce,.slice x.A x.n x.c,.int .i64 y.o,.int .i64 y.tn,.int .i64 y.tm,.string y.s,.slice y.Ae y.ne y.ce,.slice y.A y.n y.c] 67));have hal:=bAl hW2;have hrow:W2.heap[g]?=some (.cells (x.cells++y.cells).toArray 67 (0,0)):=by rw [hW2,hg];exact hA_ Wc _
           have x72:=(hal.block b7 (lH X7.out)).trans X7.out;have hg7:g≠b7:=by have:=lH X7.out;omega
           have hgw:w.heap.size<g:=by have:=lH XB.out;omega
           rw [←hW2,←hg];refine hK.out _ _ ((hal.block w.heap.size (lH XB.out)).trans XB.out) (fun hHeld=>?_);clear hK K;(try simp only [Act.put,sAr,sZe,sSu]);replace XB:=kX hal XB;replace X7:=Hd x72;replace HO:=Hd (HO.out.trans (Ob hal));replace HRD:=Hd (HRD.out.below hal HRD.out.lt);have HIS:Hid (∀ h k,r2=.ok h k→(FV.mk 3 0 0 ⟨#[]⟩ none 0 0 (some ⟨g,0,none⟩) 2 2).Is (fun q=>w.heap.size<q∧q≠b7) W2 (fmOf 3 [f,h])):=fun h k hr=>FV.two_is (HI.out.keep (Kb hal) (fun _ _ h=>h)) ((HY.out h k hr).keep (Kb hal) (fun _ _ h=>h)) ⟨hgw,hg7⟩ hrow;clear hal hrow x72 HI HY hW2 hg
           obtain ⟨D4,-⟩:∃ n:Nat,n=n:=⟨0,rfl⟩)
        | (unfold opr3_6
           obtain ⟨v0,v1,v2,v3,v4,v5,vzq⟩:=q6 X7.out;go_simp;clear v0 vzq v1 v2 v3 v4 v5;refine hK.out _ _ ((s6_far (by omega)).trans hHeld) (fun hHeld=>?_);clear hK K;try simp only [Act.put,sAr,sZe,sSu]
           obtain ⟨D6,-⟩:∃ n:Nat,n=n:=⟨0,rfl⟩)
        | fail
       all_goals first
        | have:=T5
        | (have:=D1
           have:=D3;have:=D4;refine wpAnyH_take (i:=5) (oi:=opr3_5) (v:=?_) rfl (by kernel_rfl) (by kernel_rfl) (by kernel_rfl) (fun _ _ _ h=>h) (Or.inl ⟨by rfl,?hy⟩) (by assumption) ?_
           case hy=>
            unfold opr3_5;intro w0 hSw;clear hSw;go_simp
            (first | done | with_reducible rfl)
           try simp only [opr3_5,Act.put,sAr,sZe,sSu]
           obtain ⟨T5,-⟩:∃ n:Nat,n=n:=⟨0,rfl⟩)
        | skip
       all_goals first
        | (have:=D1
           have:=D3;have:=D4;have:=D6;refine wpAnyH_done (by kernel_rfl) ?_ _;clear hHeld;have hjo:=fmAt_of HS.out.rd;have hjl2:=HG2;go_wp2_with fail;obtain ⟨W9,hW9⟩:=ex_ (((((((W2.setCell ⟨b7,0,none⟩ (.int .i64 3)).setCell ⟨b7,1,none⟩ (.int .i64 0)).setCell ⟨b7,2,none⟩ (.int .i64 0)).setCell ⟨b7,3,none⟩ (.string ⟨#[]⟩)).setCell ⟨b7,4,none⟩ (.slice none 0 0)).setCell ⟨b7,5,none⟩ (.slice (some ⟨g,0,none⟩) 2 2)))
           have hS9:FRowS R A c d l w b7 3 [38] P r W9 (r2.then fun g k=>.ok (fmOf 3 [f,g]) k) (FV.mk 3 0 0 ⟨#[]⟩ none 0 0 (some ⟨g,0,none⟩) 2 2) fu:=by
            refine ⟨?_,?_,fun q k h=>?_,?_,?_,fun q k h=>?_,fun k e h=>?_,HREG.out⟩
            · rw [hW9];exact (s6_far (by omega)).trans XB.out
            · rw [hW9];exact s6_at X7.out
            · obtain ⟨h',k',h1,h2⟩:=then_ok h;obtain ⟨rfl,rfl⟩:=ok_inj h2;rw [hW9];exact (HIS.out h' k' h1).keep (s6_keep Kr (by simp)) (fun _ _ h=>h)
            · rw [hW9];have hR0:FRd ((((((W2.setCell ⟨b7,0,none⟩ (.int .i64 3)).setCell ⟨b7,1,none⟩ (.int .i64 0)).setCell ⟨b7,2,none⟩ (.int .i64 0)).setCell ⟨b7,3,none⟩ (.string ⟨#[]⟩)).setCell ⟨b7,4,none⟩ (.slice none 0 0)).setCell ⟨b7,5,none⟩ (.slice (some ⟨g,0,none⟩) 2 2)) R A l.length c r2.at_ d r2.err:=(s6_far (Ne.symm hb7R)).trans HRD.out;cases r2 <;> exact hR0
            · rw [hW9];exact s6_only HO.out (Nat.le_of_lt hb7w)
            · obtain ⟨h',k',h1,h2⟩:=then_ok h;obtain ⟨rfl,rfl⟩:=ok_inj h2;have:=HG2.out h' k' h1;have:=HFU2.out;exact ⟨(HG2.out h' k' h1).jl,by have:=(HG2.out h' k' h1).ij;omega⟩
            · rcases then_bad2 h with h1 | ⟨x,k,-,h1⟩
              · exact HZ2.out k e h1
              · cases h1
           have hjn:=fmAt_of hS9.rd;rw [←hW9];clear hW9
           go_roundw
           case rel=>exact ⟨_,_,fu,hS9⟩
           case measure=>
            rw [hjn,hjo];have hjl9:=HN.out
            cases r2 with
            | bad k e=>simp [Rs.err,Rs.at_,HZ2.out k e rfl]
            | ok h' k=>
             have:=(HG2.out h' k rfl).ij;have:=(HG2.out h' k rfl).jl;simp only [Rs.then_ok,Rs.err,Rs.at_,if_true]
             omega)
        | (have:=D1
           have:=D3;have:=D4;refine Rd (rs:=[6]) (by kernel_rfl) (by simp) ?_
           refine Rc (o:=opr3_6) rfl (fun K hK=>?_) Rn)
        | (have:=D1
           have:=D3;refine Rd (rs:=[4]) (by kernel_rfl) (by simp) ?_
           refine Rc (o:=opr3_4) rfl (fun K hK=>?_) Rn)
        | (have:=D1
           refine Rd (rs:=[3]) (by kernel_rfl) (by simp) ?_
           refine Rc (o:=opr3_3) rfl (fun K hK=>?_) Rn)
        | (have:=D3
           refine Rd (rs:=[1]) (by kernel_rfl) (by simp) ?_
           refine Rc (o:=opr3_1) rfl (fun K hK=>?_) Rn)
        | fail
    · have hkf:isTk l j 4 [38]=false:=by simpa using hk
      have HRR:Hid (F=FPQ R A c d l (.ok f j) w):=by show _=_;rw [HF.out,←HRE.out,rowL_stop2 hkf]
      rw [hkf] at hsg;have HSG:=Hd hsg;clear hsg hk hkf;go_wp2_with fail
      go_region_held3 (fun w'=>w'.cell? ⟨R,0,none⟩=some (.slice A n c)∧w'.cell? ⟨R,1,none⟩=some (.int .i64 (j:Nat))∧w'.cell? ⟨R,3,none⟩=some (.int .i64 0))
       (first
         | (go_keep;done)
         | (go_split_ands
            refine ⟨?_,?_,?_⟩
            · (rw [hb5.cell (p:=⟨R,_,none⟩) (by simp;omega)];simpa using c0)
            · (rw [hb5.cell (p:=⟨R,_,none⟩) (by simp;omega)];simpa using c1)
            · (rw [hb5.cell (p:=⟨R,_,none⟩) (by simp;omega)];simpa using c3))
         | fail)
       ((go_at_call 151;refine (HSG.out).mono ?_;rintro e w5 ⟨rfl,hb5⟩))
      have hb6:Below wr.heap.size wr w5:=((Br _ _).drew).trans hb5;have YB:=kX hb6 XB;have Y7:=kX hb6 X7;have YO:=Hd (HS.out.only.trans (Ob hb6));have YRD:=Hd (HRD.out.below hb6 hrl);have YI:Hid (x.Is (fun q=>w.heap.size<q∧q≠b7) w5 f):=HI.out.keep (Kb hb6) (fun _ _ h=>h);clear hb5 hb6 XB X7 HRD HI c0 c1 c3 HSG;have XB:=YB;have X7:=Y7;have HO:=YO;have HRD:=YRD;have HI:=YI;clear YB Y7 YO YRD YI;obtain ⟨v0,v1,v2,v3,v4,v5,vzq⟩:=q6 X7.out;obtain ⟨u0,u1,u2,u3,u4,u5,uzq⟩:=q6 XB.out;have hvl:=lH X7.out;have hul:=lH XB.out;go_wp2_with fail;clear v0 vzq v1 v2 v3 v4 v5 u0 uzq u1 u2 u3 u4 u5;refine bR (results_cell_row (t:=67) (fr:=(0,0)) rfl _ _ w.heap.size _ _ rfl (s6_at XB.out) Tryz.underlying67 rfl (by kernel_rfl)) rfl ?_;rw [HRR.out];have hRf:=HRD.out;rw [HN.out] at hRf
      exact fpq_sets (x:=x) (r:=.ok f j) (w1:=w1) (fun f' j' h=>by
       obtain ⟨rfl,rfl⟩:=ok_inj h
       exact HI.out.keep Kr (fun q _ h=>by have:=h.1;omega)) (by omega) hRl hRf HO.out
end Go.Proofs.YtkhoeoilamddaaaGreatDoor
