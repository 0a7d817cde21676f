/- Walk: ttext's reader.inside, at an if's three parts. -/
import Derived.Test.YtkhoeoilamddaaaGreatDoorYPrsK
namespace Go.Proofs.YtkhoeoilamddaaaGreatDoor
open Go.RowKit
set_option linter.unusedVariables false
set_option maxRecDepth 100000
set_option maxHeartbeats 8000000
theorem Only.ahB{R tb:Nat}{w W:World}{b o:Nat}(h:Only (fun q=>q=R∨q=tb) w W)(hb:b=R)(v:Value):Only (fun q=>q=R∨q=tb) w (W.setCell ⟨b,o,none⟩ v):=h.bq (.inl hb) v
theorem Rf(R:Nat)(A:Option Addr)(c d:Nat)(l:List Tok)(tb rb:Nat)(w0 w:World)(i:Nat)(T:jN)(hF:d<256→KR R A c (d+1) l 122 (.pointer (some ⟨R,0,none⟩)) (fun _=>True) T)
 (h0:R<w0.heap.size) (af4:w0.heap.size≤tb) (af5:w0.heap.size≤rb) (Pw:tb<w.heap.size) (hrt:tb≠rb) (hd:d≤256) (hi:i<l.length) (hR:iZ w R A l.length c i d) (hP:iI w0 R A c l) (hO:Only (fun q=>q=R) w0 w) (vF:vV R rb w)
 (adI:w.heap[tb]?=some (.cells #[.int .i64 18,.int .i64 0,.string ⟨#[]⟩,.slice none 0 0] 64 (0,0))) :
 Calls Tryz.prog 174 #[.pointer (some ⟨R,0,none⟩),.func (.func 210) #[] #[.pointer (some ⟨tb,0,none⟩),.pointer (some ⟨rb,0,none⟩)]] w (Oi R A c d l i tb (if d=256 then .bad i 17 else Xe l T (i+1)) w0 w w.heap.size):=by
 have hlen:=hP.len;obtain⟨w1,hw1⟩:=aj (w.alloc (.cells #[.int .i64 0,.int .i64 0,.string ⟨#[]⟩,.slice none 0 0] 64));have hb1:=dz hw1;have hs1:w1.heap.size=w.heap.size+1:=by rw[hw1];simp
 have sQ:=hR.below hb1 hR.lt;have fC:=hR.lt;have d1:=hR.c1;have d2:=hR.c2;have c0:=sQ.c0;have c1:=sQ.c1;have c2:=sQ.c2;have f1:=sQ.frozen 1;have f2:=sQ.frozen 2;have e1:=hR.frozen 1;have e2:=hR.frozen 2;obtain⟨F,HF⟩:=ak (Oi R A c d l i tb (if d=256 then .bad i 17 else Xe l T (i+1)) w0 w w.heap.size);rw[←HF];have HW1:=Hd hw1;have HB1:=Hd hb1;have HR1:=Hd sQ;have HRW:=Hd hR;have Am:=Hd hF;have HO0:=Hd hO;have ahx:=Hd vF;have VN:=Hd adI;have aln:=h0;have HP:=Hd hP;clear hw1 hb1 hR sQ hF hP hO vF adI
 by_cases gq:d=256
 ·have bE:Hid (F=Oi R A c d l i tb (.bad i 17) w0 w w.heap.size):=by show _=_;rw[HF,iP gq]
  have hd1:(256:Int)≤(d:Int):=by omega
  have vN:=Hd (zF R A l.length c i d 17 w1 HR1);clear gq;go_in;go_wp2_with fail;rw[←HW1];go_wp2_with fail;refine vN.mono ?_;rintro e w' ⟨rfl,hw'⟩;rw[←hw'];refine(show _∧_ from⟨rfl,?_⟩);rw[bE];exact⟨rfl,HO0.trans (Ob HB1)⟩
 ·have bE:Hid (F=Oi R A c d l i tb (Xe l T (i+1)) w0 w w.heap.size):=by show _=_;rw[HF,iN gq]
  have hd1:¬(256:Int)≤(d:Int):=by omega
  have hd2:d<256:=by omega
  obtain⟨w3,hw3⟩:=aj (((w.setCell ⟨R,1,none⟩ (.int .i64 ((i:Int)+1))).setCell ⟨R,2,none⟩ (.int .i64 ((d:Int)+1))).alloc (.cells #[.int .i64 0,.int .i64 0,.string ⟨#[]⟩,.slice none 0 0] 64))
  have ho3:Only (fun q=>q=R) w w3:=by
   rw[hw3];exact(((Only.refl (F:=fun q=>q=R)).bq rfl _).bq rfl _).jV ((Br _ _).alloc (lr _) _) (by simp)
  have VU:iZ w3 R A l.length c (i+1) (d+1):=by
   have h:=((HRW.at_ (i+1)).deep (d+1));rw[hw3];refine iZ.below (B:=w.heap.size) (w:=(w.setCell ⟨R,1,none⟩ (.int .i64 ((i:Int)+1))).setCell ⟨R,2,none⟩ (.int .i64 ((d:Int)+1))) ?_ ((Br _ _).alloc (by simp) _) fC;rw[show((i+1:Nat):Int)=(i:Int)+1 from by omega,show((d+1:Nat):Int)=(d:Int)+1 from by omega]at h;exact h
  have hcall:=Xz R A c (d+1) l tb rb w0 w3 (i+1) T (Am hd2) h0 af4 af5 (by rw[hw3];simp;omega) hrt (by omega) VU HP (HO0.trans ho3) (ahx.only ho3) ((ho3.block tb Pw (by omega)).trans VN);obtain⟨r,hr⟩:=aj (Xe l T (i+1));rw[←hr]at hcall bE
  have hb3:w3.heap[w.heap.size]?=some (.cells #[.int .i64 0,.int .i64 0,.string ⟨#[]⟩,.slice none 0 0] 64 (0,0)):=by
   rw[hw3];have h:=eu ((w.setCell ⟨R,1,none⟩ (.int .i64 ((i:Int)+1))).setCell ⟨R,2,none⟩ (.int .i64 ((d:Int)+1))) (.cells #[.int .i64 0,.int .i64 0,.string ⟨#[]⟩,.slice none 0 0] 64)
   simpa using h
  have hs3:w3.heap.size=w.heap.size+1:=by rw[hw3];simp
  have HC:=Hd hcall;have Ai:=Hd ho3;have HB3:=Hd hb3;have HW3:=Hd hw3;clear hcall hr ho3 VU hb3 hw3 gq
  iterate 1
   go_in;go_wp2_with fail;rw[←HW3];refine HC.mono ?_;intro e w4 hq
   cases r with
   |bad j x=>
    obtain⟨rfl,iC⟩:=hq;refine(show _∧_ from⟨rfl,?_⟩);rw[bE];exact⟨rfl,iC⟩
   |ok t j=>
    obtain⟨⟨A',c',rfl,XE,hV⟩,hij,hjl,vD,af6,iC⟩:=hq;have HV:=Hd hV;have HR4:=Hd vD;have akl:=Hd af6;have ahC:=Hd XE;have uX:Hid (Only (fun q=>q=R∨q=tb) w w4):=(Ai.mono fun q h=>.inl h).trans iC;have hwt:w.heap.size≠tb:=by omega
    have Og:w.heap.size≠R:=by omega
    have BS:=Hd ((iC.block w.heap.size (by omega) (fun h=>h.elim Og hwt)).trans HB3);have hs4:=iC.size;have g2:=vD.c2;have k2:=vD.frozen 2;have afD:=vD.lt;have rc:w4.heap.size>w.heap.size:=by omega
    obtain⟨n2,kU⟩:=ak t.kids.length;unfold Tm.val;rw[←kU];obtain⟨v0,v1,v2,v3,zq⟩:=q4 BS;clear hV vD iC af6 XE;go_wp2_with fail;obtain⟨W5,Es⟩:=aj (w4.setCell ⟨R,2,none⟩ (.int .i64 (d:Nat)))
    have hB5:W5.heap[w.heap.size]?=some (.cells #[.int .i64 0,.int .i64 0,.string ⟨#[]⟩,.slice none 0 0] 64 (0,0)):=by
     rw[Es];exact(iw w4 ⟨R,2,none⟩ w.heap.size _ Og).trans BS
    have hz5:W5.heap.size=w4.heap.size:=by rw[Es];simp
    have hR5:iZ W5 R A l.length c j d:=by rw[Es];exact HR4.deep d
    have Ug:Only (fun q=>q=R∨q=tb) w W5:=by rw[Es];exact uX.ahB rfl _
    have akm:Only (fun q=>q=R) w0 W5:=by rw[Es];exact akl.bq rfl _
    have akn:W5.heap[tb]?=w4.heap[tb]?:=by rw[Es];exact iw w4 ⟨R,2,none⟩ tb _ (show tb≠R by omega)
    have Uh:aD (fun q=>w3.heap.size≤q) W5 A' c' t:=by
     rw[Es];exact HV.keep (aR.refl.set (by omega) _) (fun _ _ h=>h)
    rw[←Es];clear Es;have hres:=aK (o:=.cells #[.int .i64 t.op,.int .i64 t.num,.string t.name,.slice A' n2 c'] 64) (ni (v0:=.int .i64 t.op) (v1:=.int .i64 t.num) (v2:=.string t.name) (v3:=.slice A' n2 c') hB5);refine bR (Gg hres) rfl ?_;rw[bE];have h00:=HO0.size;refine⟨⟨A',c',by unfold Tm.val;rw[←kU],?_,?_⟩,by omega,hjl,?_,?_,?_⟩
    ·refine(((Br _ _).alloc (lr _) _).block tb (by have h8:=lH ahC;simp only[World.size_setCell];omega)).trans ?_;rw[iw _ ⟨w.heap.size,3,none⟩ tb _ hwt.symm,iw _ ⟨w.heap.size,2,none⟩ tb _ hwt.symm,iw _ ⟨w.heap.size,1,none⟩ tb _ hwt.symm,iw _ ⟨w.heap.size,0,none⟩ tb _ hwt.symm];exact akn.trans ahC
    ·exact Uh.keep (((((aR.refl.set (by omega) _).set (by omega) _).set (by omega) _).set (by omega) _).alloc _) (fun q _ h=>by omega)
    ·have QY:R≠w.heap.size:=fun h=>Og h.symm;refine iZ.below (B:=W5.heap.size) ?_ ((Br _ _).alloc (by simp) _) (by omega);unfold iZ;rw[iw _ ⟨w.heap.size,3,none⟩ R _ QY,iw _ ⟨w.heap.size,2,none⟩ R _ QY,iw _ ⟨w.heap.size,1,none⟩ R _ QY,iw _ ⟨w.heap.size,0,none⟩ R _ QY];exact hR5
    ·exact(dU (dU (dU (dU akm h00 _) h00 _) h00 _) h00 _).trans (Ob ((Br _ _).alloc (lr _) _))
    ·exact(dU (dU (dU (dU Ug (lr _) _) (lr _) _) (lr _) _) (lr _) _).trans (Ob ((Br _ _).alloc (lr _) _))
end Go.Proofs.YtkhoeoilamddaaaGreatDoor
