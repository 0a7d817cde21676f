/- Walk: ftext's reader.one. -/
import Derived.Test.YtkhoeoilamddaaaGreatDoorYFsM
namespace Go.Proofs.YtkhoeoilamddaaaGreatDoor
open Go.RowKit
set_option linter.unusedVariables false
set_option maxRecDepth 100000
set_option maxHeartbeats 8000000
def wS(l:List Tok)(i k:Nat):Int:=if k≤0∧ah l i 3 [69,88]=true then 6 else if k≤1∧ah l i 3 [69,70]=true then 7 else if k≤2∧ah l i 3 [69,71]=true then 8 else if k≤3∧ah l i 3 [65,88]=true then 10 else if k≤4∧ah l i 3 [65,70]=true then 11 else if k≤5∧ah l i 3 [65,71]=true then 12 else 0
theorem agb(l:List Tok)(i:Nat)(h:ah l i 4 [33]=false):n_ l i=wS l i 0:=by
 unfold n_ wS;rw[iN (by rw[h];simp)];simp only[zl,true_and]
theorem adS(R:Nat)(A:Option Addr)(c i d:Nat)(l:List Tok)(w:World)(hR:kK w R A l.length c i d 0)(hP:iI w R A c l)(hi:i≤1000000) :
 Calls Tryz.prog 194 #[.pointer (some ⟨R,0,none⟩)] w fun e w'=>e=.returned (.int .i64 (n_ l i))∧Below w.heap.size w w':=by
 obtain⟨n,HN⟩:=ak l.length;obtain⟨r,hr⟩:=aj (n_ l i);have hlen:=hP.len;have hcap:=hP.cap;have aQ:=hP.bU;unfold maxLen at aQ
 have HIS:Hid (∀(W:World)(s:ByteArray),Below w.heap.size w W→Calls Tryz.prog 179 #[.agg #[.slice A n c],.int .i64 (i:Nat),.int .i64 3,.string s] W.drew fun e w'=>e=.returned (.bool (ah l i 3 (bs s)))∧Below W.drew.heap.size W.drew w'):=by
  intro W s hb;rw[HN];exact G_ A c i l 3 s W.drew (hP.toks.Aq hb rfl).ES hP.len hP.cap hP.bU hi
 have hsg:=wB A c i l ⟨#[33]⟩ w.drew hP.toks.ES hP.len hP.cap hP.bU hi;rw[show ah l i 4 (bs ⟨#[33]⟩)=ah l i 4 [33]from rfl]at hsg;rw[←HN]at hsg hR hlen hcap;obtain⟨c0,c1,-⟩:=q4 hR;have hRl:=hR.lt;have HR:=Hd hR;obtain⟨F,hF⟩:∃F:Ending→World→Prop,F=fun e w'=>e=.returned (.int .i64 r)∧Below w.heap.size w w':=⟨_,rfl⟩;rw[←hr,←hF];have HF:=Hd hF;clear hF hR hP
 by_cases h33:ah l i 4 [33]=true
 ·rw[h33]at hsg;have qj:=Hd hsg;have HRR:Hid (r=2):=by show _=_;rw[hr];unfold n_;rw[iP h33]
  clear hsg h33 hr;go_in;go_wp2_with fail
  go_region_held3 (fun w'=>w'.cell? ⟨R,0,none⟩=some (.slice A n c)∧w'.cell? ⟨R,1,none⟩=some (.int .i64 (i:Nat)))
   (first
     |(go_keep;done)
     |(go_split_ands
       refine⟨?_,?_⟩
       ·(rw[hb5.cell (p:=⟨R,_,none⟩) (by simp;omega)];simpa using c0)
       ·(rw[hb5.cell (p:=⟨R,_,none⟩) (by simp;omega)];simpa using c1))
     |fail)
   ((go_at_call 151;refine qj.mono ?_;rintro e w5 ⟨rfl,hb5⟩))
  have bZ:=Hd ((((Br _ _).drew).trans hb5:Below w.heap.size w w5));clear hb5 c0 c1;go_wp2_with fail;rw[HF,HRR];exact⟨rfl,bZ⟩
 ·have ahL:ah l i 4 [33]=false:=by simpa using h33
  rw[ahL]at hsg;have qj:=Hd hsg;have HK0:Hid (wS l i 0=r):=by show _=_;rw[hr,agb l i ahL]
  clear hsg h33 ahL hr;go_in;go_wp2_with fail
  go_region_held3 (fun w'=>w'.cell? ⟨R,0,none⟩=some (.slice A n c)∧w'.cell? ⟨R,1,none⟩=some (.int .i64 (i:Nat)))
   (first
     |(go_keep;done)
     |(go_split_ands
       refine⟨?_,?_⟩
       ·(rw[hb5.cell (p:=⟨R,_,none⟩) (by simp;omega)];simpa using c0)
       ·(rw[hb5.cell (p:=⟨R,_,none⟩) (by simp;omega)];simpa using c1))
     |fail)
   ((go_at_call 151;refine qj.mono ?_;rintro e w5 ⟨rfl,hb5⟩))
  have bZ:=Hd ((((Br _ _).drew).trans hb5:Below w.heap.size w w5));clear hb5 c0 c1;go_wp2_with fail;obtain⟨b4,hb4⟩:=aj (w5.heap.size+1);obtain⟨w2,hw2⟩:=aj ((w5.alloc (.cells #[.string ⟨#[69,88]⟩,.string ⟨#[69,70]⟩,.string ⟨#[69,71]⟩,.string ⟨#[65,88]⟩,.string ⟨#[65,70]⟩,.string ⟨#[65,71]⟩] 246)).alloc (.cells #[.int .i64 6,.int .i64 7,.int .i64 8,.int .i64 10,.int .i64 11,.int .i64 12] 247));rw[←hw2,←hb4];have hb2:Below w.heap.size w w2:=by rw[hw2];exact(bZ.alloc bZ.size _).alloc (by simp;have:=bZ.size;omega) _
  have hx2:w2.heap[b4]?=some (.cells #[.int .i64 6,.int .i64 7,.int .i64 8,.int .i64 10,.int .i64 11,.int .i64 12] 247 (0,0)):=by
   have h:=eu (w5.alloc (.cells #[.string ⟨#[69,88]⟩,.string ⟨#[69,70]⟩,.string ⟨#[69,71]⟩,.string ⟨#[65,88]⟩,.string ⟨#[65,70]⟩,.string ⟨#[65,71]⟩] 246)) (.cells #[.int .i64 6,.int .i64 7,.int .i64 8,.int .i64 10,.int .i64 11,.int .i64 12] 247);rw[hw2,hb4]
   simpa using h
  have HB2:=Hd hb2;have FK:=Hd hx2;have HR2:=Hd (HR.below hb2 hRl);clear hb2 hx2 hw2 hb4 bZ HR
  go_loopw [19] (fun si wr=>∃k:Nat,si=.int .i64 (k:Nat)∧k≤6∧Below w2.heap.size w2 wr∧wS l i k=r) (fun si _=>6-(intOf si).toNat)
  case atStart=>exact⟨0,rfl,by omega,Br _ _,HK0⟩
  case round=>
   obtain⟨k,rfl,hk6,hbr,hkr⟩:=hrel;have kJ:=Hd hbr;have HK:=Hd hkr;have hrr:=HR2.below hbr HR2.lt;obtain⟨c0,c1,-⟩:=q4 hrr;have alZ:=hrr.lt;have hx4:=(hbr.block b4 (lH FK)).trans FK;have hl4:=lH hx4;have x4:∀j v,(#[.int .i64 6,.int .i64 7,.int .i64 8,.int .i64 10,.int .i64 11,.int .i64 12]:Array Value)[j]?=some v→wr.cell? ⟨b4,j,none⟩=some v:=fun j v hv=>by rw[cR wr b4 j _ _ (0,0) hx4];exact hv
   clear hbr hkr hrr hx4;have hcs:k=0∨k=1∨k=2∨k=3∨k=4∨k=5∨k=6:=by omega
   rcases hcs with rfl|rfl|rfl|rfl|rfl|rfl|rfl
   ·rw[show((0:Nat):Int)=0 from rfl];have hix:∀W,(Instr.index 246 (.agg #[.string ⟨#[69,88]⟩,.string ⟨#[69,70]⟩,.string ⟨#[69,71]⟩,.string ⟨#[65,88]⟩,.string ⟨#[65,70]⟩,.string ⟨#[65,71]⟩]) (.int .i64 0)).run Tryz.prog W=.ok (.string ⟨#[69,88]⟩) W:=fun W=>by kernel_rfl
    have hI:=HIS wr ⟨#[69,88]⟩ (HB2.trans (kJ.mono HB2.size));rw[show ah l i 3 (bs ⟨#[69,88]⟩)=ah l i 3 [69,88]from rfl]at hI
    by_cases hk:ah l i 3 [69,88]=true
    ·have HRR:Hid (r=6):=by show _=_;rw[←HK];unfold wS;rw[iP ⟨by omega,hk⟩]
     rw[hk]at hI;have HI:=Hd hI;clear hI hk;go_wp2_with fail
     go_region_held3 (fun w'=>w'.cell? ⟨R,0,none⟩=some (.slice A n c)∧w'.cell? ⟨R,1,none⟩=some (.int .i64 (i:Nat)))
      (first
        |(go_keep;done)
        |(go_split_ands
          refine⟨?_,?_⟩
          ·(rw[hb5.cell (p:=⟨R,_,none⟩) (by simp;omega)];simpa using c0)
          ·(rw[hb5.cell (p:=⟨R,_,none⟩) (by simp;omega)];simpa using c1))
        |fail)
      ((go_at_call 179;refine HI.mono ?_;rintro e w5 ⟨rfl,hb5⟩))
     have y4:=(hb5.cell (p:=⟨b4,0,none⟩) (by simp;omega)).trans (x4 0 _ rfl);have bZ:=Hd (HB2.trans ((kJ.trans (((Br _ _).drew.trans hb5).mono kJ.size)).mono HB2.size));clear hb5 c0 c1;go_wp2_with fail;rw[HF,HRR];exact⟨rfl,bZ⟩
    ·have sF:ah l i 3 [69,88]=false:=by simpa using hk
     have HRR:Hid (wS l i 1=r):=by show _=_;rw[←HK];unfold wS;simp[sF]
     rw[sF]at hI;have HI:=Hd hI;clear hI hk sF;go_wp2_with fail
     go_region_held3 (fun w'=>w'.cell? ⟨R,0,none⟩=some (.slice A n c)∧w'.cell? ⟨R,1,none⟩=some (.int .i64 (i:Nat)))
      (first
        |(go_keep;done)
        |(go_split_ands
          refine⟨?_,?_⟩
          ·(rw[hb5.cell (p:=⟨R,_,none⟩) (by simp;omega)];simpa using c0)
          ·(rw[hb5.cell (p:=⟨R,_,none⟩) (by simp;omega)];simpa using c1))
        |fail)
      ((go_at_call 179;refine HI.mono ?_;rintro e w5 ⟨rfl,hb5⟩))
     have bZ:=Hd (kJ.trans (((Br _ _).drew.trans hb5).mono kJ.size));clear hb5 c0 c1;go_wp2_with fail
     go_roundw
     case rel=>exact⟨1,by go_num,by omega,bZ,HRR⟩
     case measure=>simp[intOf]
   ·rw[show((1:Nat):Int)=1 from rfl];have hix:∀W,(Instr.index 246 (.agg #[.string ⟨#[69,88]⟩,.string ⟨#[69,70]⟩,.string ⟨#[69,71]⟩,.string ⟨#[65,88]⟩,.string ⟨#[65,70]⟩,.string ⟨#[65,71]⟩]) (.int .i64 1)).run Tryz.prog W=.ok (.string ⟨#[69,70]⟩) W:=fun W=>by kernel_rfl
    have hI:=HIS wr ⟨#[69,70]⟩ (HB2.trans (kJ.mono HB2.size));rw[show ah l i 3 (bs ⟨#[69,70]⟩)=ah l i 3 [69,70]from rfl]at hI
    by_cases hk:ah l i 3 [69,70]=true
    ·have HRR:Hid (r=7):=by show _=_;rw[←HK];unfold wS;rw[iN (by omega)];rw[iP ⟨by omega,hk⟩]
     rw[hk]at hI;have HI:=Hd hI;clear hI hk;go_wp2_with fail
     go_region_held3 (fun w'=>w'.cell? ⟨R,0,none⟩=some (.slice A n c)∧w'.cell? ⟨R,1,none⟩=some (.int .i64 (i:Nat)))
      (first
        |(go_keep;done)
        |(go_split_ands
          refine⟨?_,?_⟩
          ·(rw[hb5.cell (p:=⟨R,_,none⟩) (by simp;omega)];simpa using c0)
          ·(rw[hb5.cell (p:=⟨R,_,none⟩) (by simp;omega)];simpa using c1))
        |fail)
      ((go_at_call 179;refine HI.mono ?_;rintro e w5 ⟨rfl,hb5⟩))
     have y4:=(hb5.cell (p:=⟨b4,1,none⟩) (by simp;omega)).trans (x4 1 _ rfl);have bZ:=Hd (HB2.trans ((kJ.trans (((Br _ _).drew.trans hb5).mono kJ.size)).mono HB2.size));clear hb5 c0 c1;go_wp2_with fail;rw[HF,HRR];exact⟨rfl,bZ⟩
    ·have sF:ah l i 3 [69,70]=false:=by simpa using hk
     have HRR:Hid (wS l i 2=r):=by show _=_;rw[←HK];unfold wS;simp[sF]
     rw[sF]at hI;have HI:=Hd hI;clear hI hk sF;go_wp2_with fail
     go_region_held3 (fun w'=>w'.cell? ⟨R,0,none⟩=some (.slice A n c)∧w'.cell? ⟨R,1,none⟩=some (.int .i64 (i:Nat)))
      (first
        |(go_keep;done)
        |(go_split_ands
          refine⟨?_,?_⟩
          ·(rw[hb5.cell (p:=⟨R,_,none⟩) (by simp;omega)];simpa using c0)
          ·(rw[hb5.cell (p:=⟨R,_,none⟩) (by simp;omega)];simpa using c1))
        |fail)
      ((go_at_call 179;refine HI.mono ?_;rintro e w5 ⟨rfl,hb5⟩))
     have bZ:=Hd (kJ.trans (((Br _ _).drew.trans hb5).mono kJ.size));clear hb5 c0 c1;go_wp2_with fail
     go_roundw
     case rel=>exact⟨2,by go_num,by omega,bZ,HRR⟩
     case measure=>simp[intOf]
   ·rw[show((2:Nat):Int)=2 from rfl];have hix:∀W,(Instr.index 246 (.agg #[.string ⟨#[69,88]⟩,.string ⟨#[69,70]⟩,.string ⟨#[69,71]⟩,.string ⟨#[65,88]⟩,.string ⟨#[65,70]⟩,.string ⟨#[65,71]⟩]) (.int .i64 2)).run Tryz.prog W=.ok (.string ⟨#[69,71]⟩) W:=fun W=>by kernel_rfl
    have hI:=HIS wr ⟨#[69,71]⟩ (HB2.trans (kJ.mono HB2.size));rw[show ah l i 3 (bs ⟨#[69,71]⟩)=ah l i 3 [69,71]from rfl]at hI
    by_cases hk:ah l i 3 [69,71]=true
    ·have HRR:Hid (r=8):=by show _=_;rw[←HK];unfold wS;rw[iN (by omega),iN (by omega)];rw[iP ⟨by omega,hk⟩]
     rw[hk]at hI;have HI:=Hd hI;clear hI hk;go_wp2_with fail
     go_region_held3 (fun w'=>w'.cell? ⟨R,0,none⟩=some (.slice A n c)∧w'.cell? ⟨R,1,none⟩=some (.int .i64 (i:Nat)))
      (first
        |(go_keep;done)
        |(go_split_ands
          refine⟨?_,?_⟩
          ·(rw[hb5.cell (p:=⟨R,_,none⟩) (by simp;omega)];simpa using c0)
          ·(rw[hb5.cell (p:=⟨R,_,none⟩) (by simp;omega)];simpa using c1))
        |fail)
      ((go_at_call 179;refine HI.mono ?_;rintro e w5 ⟨rfl,hb5⟩))
     have y4:=(hb5.cell (p:=⟨b4,2,none⟩) (by simp;omega)).trans (x4 2 _ rfl);have bZ:=Hd (HB2.trans ((kJ.trans (((Br _ _).drew.trans hb5).mono kJ.size)).mono HB2.size));clear hb5 c0 c1;go_wp2_with fail;rw[HF,HRR];exact⟨rfl,bZ⟩
    ·have sF:ah l i 3 [69,71]=false:=by simpa using hk
     have HRR:Hid (wS l i 3=r):=by show _=_;rw[←HK];unfold wS;simp[sF]
     rw[sF]at hI;have HI:=Hd hI;clear hI hk sF;go_wp2_with fail
     go_region_held3 (fun w'=>w'.cell? ⟨R,0,none⟩=some (.slice A n c)∧w'.cell? ⟨R,1,none⟩=some (.int .i64 (i:Nat)))
      (first
        |(go_keep;done)
        |(go_split_ands
          refine⟨?_,?_⟩
          ·(rw[hb5.cell (p:=⟨R,_,none⟩) (by simp;omega)];simpa using c0)
          ·(rw[hb5.cell (p:=⟨R,_,none⟩) (by simp;omega)];simpa using c1))
        |fail)
      ((go_at_call 179;refine HI.mono ?_;rintro e w5 ⟨rfl,hb5⟩))
     have bZ:=Hd (kJ.trans (((Br _ _).drew.trans hb5).mono kJ.size));clear hb5 c0 c1;go_wp2_with fail
     go_roundw
     case rel=>exact⟨3,by go_num,by omega,bZ,HRR⟩
     case measure=>simp[intOf]
   ·rw[show((3:Nat):Int)=3 from rfl];have hix:∀W,(Instr.index 246 (.agg #[.string ⟨#[69,88]⟩,.string ⟨#[69,70]⟩,.string ⟨#[69,71]⟩,.string ⟨#[65,88]⟩,.string ⟨#[65,70]⟩,.string ⟨#[65,71]⟩]) (.int .i64 3)).run Tryz.prog W=.ok (.string ⟨#[65,88]⟩) W:=fun W=>by kernel_rfl
    have hI:=HIS wr ⟨#[65,88]⟩ (HB2.trans (kJ.mono HB2.size));rw[show ah l i 3 (bs ⟨#[65,88]⟩)=ah l i 3 [65,88]from rfl]at hI
    by_cases hk:ah l i 3 [65,88]=true
    ·have HRR:Hid (r=10):=by show _=_;rw[←HK];unfold wS;rw[iN (by omega),iN (by omega),iN (by omega)];rw[iP ⟨by omega,hk⟩]
     rw[hk]at hI;have HI:=Hd hI;clear hI hk;go_wp2_with fail
     go_region_held3 (fun w'=>w'.cell? ⟨R,0,none⟩=some (.slice A n c)∧w'.cell? ⟨R,1,none⟩=some (.int .i64 (i:Nat)))
      (first
        |(go_keep;done)
        |(go_split_ands
          refine⟨?_,?_⟩
          ·(rw[hb5.cell (p:=⟨R,_,none⟩) (by simp;omega)];simpa using c0)
          ·(rw[hb5.cell (p:=⟨R,_,none⟩) (by simp;omega)];simpa using c1))
        |fail)
      ((go_at_call 179;refine HI.mono ?_;rintro e w5 ⟨rfl,hb5⟩))
     have y4:=(hb5.cell (p:=⟨b4,3,none⟩) (by simp;omega)).trans (x4 3 _ rfl);have bZ:=Hd (HB2.trans ((kJ.trans (((Br _ _).drew.trans hb5).mono kJ.size)).mono HB2.size));clear hb5 c0 c1;go_wp2_with fail;rw[HF,HRR];exact⟨rfl,bZ⟩
    ·have sF:ah l i 3 [65,88]=false:=by simpa using hk
     have HRR:Hid (wS l i 4=r):=by show _=_;rw[←HK];unfold wS;simp[sF]
     rw[sF]at hI;have HI:=Hd hI;clear hI hk sF;go_wp2_with fail
     go_region_held3 (fun w'=>w'.cell? ⟨R,0,none⟩=some (.slice A n c)∧w'.cell? ⟨R,1,none⟩=some (.int .i64 (i:Nat)))
      (first
        |(go_keep;done)
        |(go_split_ands
          refine⟨?_,?_⟩
          ·(rw[hb5.cell (p:=⟨R,_,none⟩) (by simp;omega)];simpa using c0)
          ·(rw[hb5.cell (p:=⟨R,_,none⟩) (by simp;omega)];simpa using c1))
        |fail)
      ((go_at_call 179;refine HI.mono ?_;rintro e w5 ⟨rfl,hb5⟩))
     have bZ:=Hd (kJ.trans (((Br _ _).drew.trans hb5).mono kJ.size));clear hb5 c0 c1;go_wp2_with fail
     go_roundw
     case rel=>exact⟨4,by go_num,by omega,bZ,HRR⟩
     case measure=>simp[intOf]
   ·rw[show((4:Nat):Int)=4 from rfl];have hix:∀W,(Instr.index 246 (.agg #[.string ⟨#[69,88]⟩,.string ⟨#[69,70]⟩,.string ⟨#[69,71]⟩,.string ⟨#[65,88]⟩,.string ⟨#[65,70]⟩,.string ⟨#[65,71]⟩]) (.int .i64 4)).run Tryz.prog W=.ok (.string ⟨#[65,70]⟩) W:=fun W=>by kernel_rfl
    have hI:=HIS wr ⟨#[65,70]⟩ (HB2.trans (kJ.mono HB2.size));rw[show ah l i 3 (bs ⟨#[65,70]⟩)=ah l i 3 [65,70]from rfl]at hI
    by_cases hk:ah l i 3 [65,70]=true
    ·have HRR:Hid (r=11):=by show _=_;rw[←HK];unfold wS;rw[iN (by omega),iN (by omega),iN (by omega),iN (by omega)];rw[iP ⟨by omega,hk⟩]
     rw[hk]at hI;have HI:=Hd hI;clear hI hk;go_wp2_with fail
     go_region_held3 (fun w'=>w'.cell? ⟨R,0,none⟩=some (.slice A n c)∧w'.cell? ⟨R,1,none⟩=some (.int .i64 (i:Nat)))
      (first
        |(go_keep;done)
        |(go_split_ands
          refine⟨?_,?_⟩
          ·(rw[hb5.cell (p:=⟨R,_,none⟩) (by simp;omega)];simpa using c0)
          ·(rw[hb5.cell (p:=⟨R,_,none⟩) (by simp;omega)];simpa using c1))
        |fail)
      ((go_at_call 179;refine HI.mono ?_;rintro e w5 ⟨rfl,hb5⟩))
     have y4:=(hb5.cell (p:=⟨b4,4,none⟩) (by simp;omega)).trans (x4 4 _ rfl);have bZ:=Hd (HB2.trans ((kJ.trans (((Br _ _).drew.trans hb5).mono kJ.size)).mono HB2.size));clear hb5 c0 c1;go_wp2_with fail;rw[HF,HRR];exact⟨rfl,bZ⟩
    ·have sF:ah l i 3 [65,70]=false:=by simpa using hk
     have HRR:Hid (wS l i 5=r):=by show _=_;rw[←HK];unfold wS;simp[sF]
     rw[sF]at hI;have HI:=Hd hI;clear hI hk sF;go_wp2_with fail
     go_region_held3 (fun w'=>w'.cell? ⟨R,0,none⟩=some (.slice A n c)∧w'.cell? ⟨R,1,none⟩=some (.int .i64 (i:Nat)))
      (first
        |(go_keep;done)
        |(go_split_ands
          refine⟨?_,?_⟩
          ·(rw[hb5.cell (p:=⟨R,_,none⟩) (by simp;omega)];simpa using c0)
          ·(rw[hb5.cell (p:=⟨R,_,none⟩) (by simp;omega)];simpa using c1))
        |fail)
      ((go_at_call 179;refine HI.mono ?_;rintro e w5 ⟨rfl,hb5⟩))
     have bZ:=Hd (kJ.trans (((Br _ _).drew.trans hb5).mono kJ.size));clear hb5 c0 c1;go_wp2_with fail
     go_roundw
     case rel=>exact⟨5,by go_num,by omega,bZ,HRR⟩
     case measure=>simp[intOf]
   ·rw[show((5:Nat):Int)=5 from rfl];have hix:∀W,(Instr.index 246 (.agg #[.string ⟨#[69,88]⟩,.string ⟨#[69,70]⟩,.string ⟨#[69,71]⟩,.string ⟨#[65,88]⟩,.string ⟨#[65,70]⟩,.string ⟨#[65,71]⟩]) (.int .i64 5)).run Tryz.prog W=.ok (.string ⟨#[65,71]⟩) W:=fun W=>by kernel_rfl
    have hI:=HIS wr ⟨#[65,71]⟩ (HB2.trans (kJ.mono HB2.size));rw[show ah l i 3 (bs ⟨#[65,71]⟩)=ah l i 3 [65,71]from rfl]at hI
    by_cases hk:ah l i 3 [65,71]=true
    ·have HRR:Hid (r=12):=by show _=_;rw[←HK];unfold wS;rw[iN (by omega),iN (by omega),iN (by omega),iN (by omega),iN (by omega)];rw[iP ⟨by omega,hk⟩]
     rw[hk]at hI;have HI:=Hd hI;clear hI hk;go_wp2_with fail
     go_region_held3 (fun w'=>w'.cell? ⟨R,0,none⟩=some (.slice A n c)∧w'.cell? ⟨R,1,none⟩=some (.int .i64 (i:Nat)))
      (first
        |(go_keep;done)
        |(go_split_ands
          refine⟨?_,?_⟩
          ·(rw[hb5.cell (p:=⟨R,_,none⟩) (by simp;omega)];simpa using c0)
          ·(rw[hb5.cell (p:=⟨R,_,none⟩) (by simp;omega)];simpa using c1))
        |fail)
      ((go_at_call 179;refine HI.mono ?_;rintro e w5 ⟨rfl,hb5⟩))
     have y4:=(hb5.cell (p:=⟨b4,5,none⟩) (by simp;omega)).trans (x4 5 _ rfl);have bZ:=Hd (HB2.trans ((kJ.trans (((Br _ _).drew.trans hb5).mono kJ.size)).mono HB2.size));clear hb5 c0 c1;go_wp2_with fail;rw[HF,HRR];exact⟨rfl,bZ⟩
    ·have sF:ah l i 3 [65,71]=false:=by simpa using hk
     have HRR:Hid (wS l i 6=r):=by show _=_;rw[←HK];unfold wS;simp[sF]
     rw[sF]at hI;have HI:=Hd hI;clear hI hk sF;go_wp2_with fail
     go_region_held3 (fun w'=>w'.cell? ⟨R,0,none⟩=some (.slice A n c)∧w'.cell? ⟨R,1,none⟩=some (.int .i64 (i:Nat)))
      (first
        |(go_keep;done)
        |(go_split_ands
          refine⟨?_,?_⟩
          ·(rw[hb5.cell (p:=⟨R,_,none⟩) (by simp;omega)];simpa using c0)
          ·(rw[hb5.cell (p:=⟨R,_,none⟩) (by simp;omega)];simpa using c1))
        |fail)
      ((go_at_call 179;refine HI.mono ?_;rintro e w5 ⟨rfl,hb5⟩))
     have bZ:=Hd (kJ.trans (((Br _ _).drew.trans hb5).mono kJ.size));clear hb5 c0 c1;go_wp2_with fail
     go_roundw
     case rel=>exact⟨6,by go_num,by omega,bZ,HRR⟩
     case measure=>simp[intOf]
   ·rw[show((6:Nat):Int)=6 from rfl];have HRR:Hid (r=0):=by show _=_;rw[←HK];unfold wS;rw[iN (by omega),iN (by omega),iN (by omega),iN (by omega),iN (by omega),iN (by omega)]
    clear c0 c1 x4;go_wp2_with fail;rw[HF,HRR];exact⟨rfl,HB2.trans (kJ.mono HB2.size)⟩
end Go.Proofs.YtkhoeoilamddaaaGreatDoor
