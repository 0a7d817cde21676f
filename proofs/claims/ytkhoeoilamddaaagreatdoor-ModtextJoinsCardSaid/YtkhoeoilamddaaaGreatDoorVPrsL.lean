/- Walk: ttext's reader.inside, at an if's three parts. -/
import Derived.Test.YtkhoeoilamddaaaGreatDoorVPrsK
namespace Go.Proofs.YtkhoeoilamddaaaGreatDoor
open Go.RowKit
set_option linter.unusedVariables false
set_option maxRecDepth 100000
set_option maxHeartbeats 8000000
theorem Only.setTwo {R tb:Nat} {w W:World} {b o:Nat} (h:Only (fun q=>q=R∨q=tb) w W) (hb:b=R) (v:Value):Only (fun q=>q=R∨q=tb) w (W.setCell ⟨b,o,none⟩ v):=h.setF (.inl hb) v
theorem pinside2_any (R:Nat) (A:Option Addr) (c d:Nat) (l:List Tok) (tb rb:Nat) (w0 w:World) (i:Nat) (T:Par) (hF:d<256→FnC R A c (d+1) l 122 (.pointer (some ⟨R,0,none⟩)) (fun _=>True) T)
 (h0:R<w0.heap.size) (htb0:w0.heap.size≤tb) (hrb0:w0.heap.size≤rb) (htw:tb<w.heap.size) (hrt:tb≠rb) (hd:d≤256) (hi:i<l.length) (hR:Rdr w R A l.length c i d) (hP:PTok w0 R A c l) (hO:Only (fun q=>q=R) w0 w) (hbox:BoxR R rb w)
 (htbx:w.heap[tb]?=some (.cells #[.int .i64 18,.int .i64 0,.string ⟨#[]⟩,.slice none 0 0] 64 (0,0))) :
 Calls Tryz.prog 174 #[.pointer (some ⟨R,0,none⟩),.func (.func 210) #[] #[.pointer (some ⟨tb,0,none⟩),.pointer (some ⟨rb,0,none⟩)]] w (IfQ R A c d l i tb (if d=256 then .bad i 17 else ch1 l T (i+1)) w0 w w.heap.size):=by
 have hlen:=hP.len;obtain ⟨w1,hw1⟩:=ex_ (w.alloc (.cells #[.int .i64 0,.int .i64 0,.string ⟨#[]⟩,.slice none 0 0] 64));have hb1:=bAl hw1;have hs1:w1.heap.size=w.heap.size+1:=by rw [hw1];simp
 have hR1:=hR.below hb1 hR.lt;have hRlt:=hR.lt;have d1:=hR.c1;have d2:=hR.c2;have c0:=hR1.c0;have c1:=hR1.c1;have c2:=hR1.c2;have f1:=hR1.frozen 1;have f2:=hR1.frozen 2;have e1:=hR.frozen 1;have e2:=hR.frozen 2;obtain ⟨F,HF⟩:=exh_ (IfQ R A c d l i tb (if d=256 then .bad i 17 else ch1 l T (i+1)) w0 w w.heap.size);rw [←HF.out];have HW1:=Hd hw1;have HB1:=Hd hb1;have HR1:=Hd hR1;have HRW:=Hd hR;have HFN:=Hd hF;have HO0:=Hd hO;have HBOX:=Hd hbox;have HTB:=Hd htbx;have hRlt2:=h0;have HP:=Hd hP;clear hw1 hb1 hR hR1 hF hP hO hbox htbx
 by_cases h256:d=256
 · have HRE:Hid (F=IfQ R A c d l i tb (.bad i 17) w0 w w.heap.size):=by show _=_;rw [HF.out,iP h256]
   have hd1:(256:Int)≤(d:Int):=by omega
   have HFA:=Hd (pfail_any R A l.length c i d 17 w1 HR1.out);clear h256;go_enter Tryz.func174,Tryz.ntmps174;go_wp2_with fail;rw [←HW1.out];go_wp2_with fail;refine (HFA.out).mono ?_;rintro e w' ⟨rfl,hw'⟩;rw [←hw'];refine (show _∧_ from ⟨rfl,?_⟩);rw [HRE.out];exact ⟨rfl,HO0.out.trans (Ob HB1.out)⟩
 · have HRE:Hid (F=IfQ R A c d l i tb (ch1 l T (i+1)) w0 w w.heap.size):=by show _=_;rw [HF.out,iN h256]
   have hd1:¬(256:Int)≤(d:Int):=by omega
   have hd2:d<256:=by omega
   obtain ⟨w3,hw3⟩:=ex_ (((w.setCell ⟨R,1,none⟩ (.int .i64 ((i:Int)+1))).setCell ⟨R,2,none⟩ (.int .i64 ((d:Int)+1))).alloc (.cells #[.int .i64 0,.int .i64 0,.string ⟨#[]⟩,.slice none 0 0] 64))
   have ho3:Only (fun q=>q=R) w w3:=by
    rw [hw3];exact (((Only.refl (F:=fun q=>q=R)).setF rfl _).setF rfl _).thenBelow ((Br _ _).alloc (lr _) _) (by simp)
   have hR3:Rdr w3 R A l.length c (i+1) (d+1):=by
    have h:=((HRW.out.at_ (i+1)).deep (d+1));rw [hw3];refine Rdr.below (B:=w.heap.size) (w:=(w.setCell ⟨R,1,none⟩ (.int .i64 ((i:Int)+1))).setCell ⟨R,2,none⟩ (.int .i64 ((d:Int)+1))) ?_ ((Br _ _).alloc (by simp) _) hRlt;rw [show ((i+1:Nat):Int)=(i:Int)+1 from by omega,show ((d+1:Nat):Int)=(d:Int)+1 from by omega] at h;exact h
   have hcall:=punit1_any R A c (d+1) l tb rb w0 w3 (i+1) T (HFN.out hd2) h0 htb0 hrb0 (by rw [hw3];simp;omega) hrt (by omega) hR3 HP.out (HO0.out.trans ho3) (HBOX.out.only ho3) ((ho3.block tb htw (by omega)).trans HTB.out);obtain ⟨r,hr⟩:=ex_ (ch1 l T (i+1));rw [←hr] at hcall HRE
   have hb3:w3.heap[w.heap.size]?=some (.cells #[.int .i64 0,.int .i64 0,.string ⟨#[]⟩,.slice none 0 0] 64 (0,0)):=by
    rw [hw3];have h:=hA_ ((w.setCell ⟨R,1,none⟩ (.int .i64 ((i:Int)+1))).setCell ⟨R,2,none⟩ (.int .i64 ((d:Int)+1))) (.cells #[.int .i64 0,.int .i64 0,.string ⟨#[]⟩,.slice none 0 0] 64)
    simpa using h
   have hs3:w3.heap.size=w.heap.size+1:=by rw [hw3];simp
   have HC:=Hd hcall;have HO3:=Hd ho3;have HB3:=Hd hb3;have HW3:=Hd hw3;clear hcall hr ho3 hR3 hb3 hw3 h256
   iterate 1
    go_enter Tryz.func174,Tryz.ntmps174;go_wp2_with fail;rw [←HW3.out];refine (HC.out).mono ?_;intro e w4 hq
    cases r with
    | bad j x=>
     obtain ⟨rfl,ho4⟩:=hq;refine (show _∧_ from ⟨rfl,?_⟩);rw [HRE.out];exact ⟨rfl,ho4⟩
    | ok t j=>
     obtain ⟨⟨A',c',rfl,htb4,hV⟩,hij,hjl,hR4,ho40,ho4⟩:=hq;have HV:=Hd hV;have HR4:=Hd hR4;have HO40:=Hd ho40;have HTB4:=Hd htb4;have HO4:Hid (Only (fun q=>q=R∨q=tb) w w4):=(HO3.out.mono fun q h=>.inl h).trans ho4;have hwt:w.heap.size≠tb:=by omega
     have hRw:w.heap.size≠R:=by omega
     have HB4:=Hd ((ho4.block w.heap.size (by omega) (fun h=>h.elim hRw hwt)).trans HB3.out);have hs4:=ho4.size;have g2:=hR4.c2;have k2:=hR4.frozen 2;have hlt4:=hR4.lt;have rc:w4.heap.size > w.heap.size:=by omega
     obtain ⟨n2,HN2⟩:=exh_ t.kids.length;unfold Tm.val;rw [←HN2.out];obtain ⟨v0,v1,v2,v3,zq⟩:=q4 HB4.out;clear hV hR4 ho4 ho40 htb4;go_wp2_with fail;obtain ⟨W5,hW5⟩:=ex_ (w4.setCell ⟨R,2,none⟩ (.int .i64 (d:Nat)))
     have hB5:W5.heap[w.heap.size]?=some (.cells #[.int .i64 0,.int .i64 0,.string ⟨#[]⟩,.slice none 0 0] 64 (0,0)):=by
      rw [hW5];exact (hO_ w4 ⟨R,2,none⟩ w.heap.size _ hRw).trans HB4.out
     have hz5:W5.heap.size=w4.heap.size:=by rw [hW5];simp
     have hR5:Rdr W5 R A l.length c j d:=by rw [hW5];exact HR4.out.deep d
     have hO5:Only (fun q=>q=R∨q=tb) w W5:=by rw [hW5];exact HO4.out.setTwo rfl _
     have hO50:Only (fun q=>q=R) w0 W5:=by rw [hW5];exact HO40.out.setF rfl _
     have htb5:W5.heap[tb]?=w4.heap[tb]?:=by rw [hW5];exact hO_ w4 ⟨R,2,none⟩ tb _ (show tb≠R by omega)
     have hV5:TmVS (fun q=>w3.heap.size≤q) W5 A' c' t:=by
      rw [hW5];exact HV.out.keep (KeepS.refl.set (by omega) _) (fun _ _ h=>h)
     rw [←hW5];clear hW5;have hres:=aK (o:=.cells #[.int .i64 t.op,.int .i64 t.num,.string t.name,.slice A' n2 c'] 64) (res4 (v0:=.int .i64 t.op) (v1:=.int .i64 t.num) (v2:=.string t.name) (v3:=.slice A' n2 c') hB5);refine bR (results_cell_row (t:=64) (fr:=(0,0)) rfl _ _ w.heap.size _ _ rfl hres Tryz.underlying64 rfl (by kernel_rfl)) rfl ?_;rw [HRE.out];have h00:=HO0.out.size;refine ⟨⟨A',c',by unfold Tm.val;rw [←HN2.out],?_,?_⟩,by omega,hjl,?_,?_,?_⟩
     · refine (((Br _ _).alloc (lr _) _).block tb (by have h8:=lH HTB4.out;simp only [World.size_setCell];omega)).trans ?_;rw [hO_ _ ⟨w.heap.size,3,none⟩ tb _ hwt.symm,hO_ _ ⟨w.heap.size,2,none⟩ tb _ hwt.symm,hO_ _ ⟨w.heap.size,1,none⟩ tb _ hwt.symm,hO_ _ ⟨w.heap.size,0,none⟩ tb _ hwt.symm];exact htb5.trans HTB4.out
     · exact hV5.keep (((((KeepS.refl.set (by omega) _).set (by omega) _).set (by omega) _).set (by omega) _).alloc _) (fun q _ h=>by omega)
     · have hRne:R≠w.heap.size:=fun h=>hRw h.symm;refine Rdr.below (B:=W5.heap.size) ?_ ((Br _ _).alloc (by simp) _) (by omega);unfold Rdr;rw [hO_ _ ⟨w.heap.size,3,none⟩ R _ hRne,hO_ _ ⟨w.heap.size,2,none⟩ R _ hRne,hO_ _ ⟨w.heap.size,1,none⟩ R _ hRne,hO_ _ ⟨w.heap.size,0,none⟩ R _ hRne];exact hR5
     · exact (only_setN (only_setN (only_setN (only_setN hO50 h00 _) h00 _) h00 _) h00 _).trans (Ob ((Br _ _).alloc (lr _) _))
     · exact (only_setN (only_setN (only_setN (only_setN hO5 (lr _) _) (lr _) _) (lr _) _) (lr _) _).trans (Ob ((Br _ _).alloc (lr _) _))
end Go.Proofs.YtkhoeoilamddaaaGreatDoor
