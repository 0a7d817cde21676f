/- Walks of the reference of formula texts: ref33.text at two parts. -/
import Derived.Test.YtnbphgeepnknlaaGreatDoorURefG
namespace Go.Proofs.YtnbphgeepnknlaaGreatDoor
open Go.RowKit
set_option linter.unusedVariables false
set_option maxRecDepth 100000
set_option maxHeartbeats 16000000
set_option linter.unusedSimpArgs false
theorem rtext_b3 (N:Nat) (H:RTextC N) (f:Fm) (least d:Nat) (Ae:Option Addr) (ce:Nat) (A:Option Addr) (c:Nat) (w:World) (hN:f.size≤N+1) (hok:f.okT d) (hws:f.wsize≤9000000) (hsz:f.size≤5000) (hl4:least≤4) (hV:FmV w Ae ce A c f) (ho:f.op=3) :
 Calls Tryz.prog 42 #[f.val Ae ce A c,.int .i64 (least:Nat)] w (FTQ f least w):=by
 obtain ⟨-,⟨hk0,hkl,hk1⟩,hkids⟩:=fokT_open hok;obtain ⟨n,hn⟩:=ex_ f.kids.length;obtain ⟨ne,hne⟩:=ex_ f.tm.kids.length;obtain ⟨F,hF⟩:=ex_ (FTQ f least w)
 have hszk:∀ k∈f.kids,k.size≤N∧k.size≤5000∧k.wsize≤9000000:=fun k hk=>by
  have h1:=Fm.sizeL_mem hk;have h2:=(Fm.wsize_open f).2 k hk
  cases f with
  | mk op e l=>rw [Fm.size] at hN hsz;simp only [Fm.kids] at h1;omega
 have hts:=(Fm.wsize_open f).1;have hcap:=hV.cap;have hcapm:=hV.capm;unfold maxLen at hcapm;obtain ⟨w1,hw1⟩:=ex_ (w.alloc (.cells #[.int .i64 3,.int .i64 f.tm.op,.int .i64 f.tm.num,.string f.tm.name,.slice Ae ne ce,.slice A n c] 35));have hb1:=bAl hw1;have hs1:w.heap.size<w1.heap.size:=by rw [hw1];simp
 have hbx:FBox w1 w.heap.size Ae ne ce A n c f:=by unfold FBox;rw [hw1,ho];exact hA_ w _
 have HXX:Hid (∀ W,Below w1.heap.size w1 W→W.cell? ⟨w.heap.size,0,none⟩=some (.int .i64 3)∧W.cell? ⟨w.heap.size,1,none⟩=some (.int .i64 f.tm.op)∧W.cell? ⟨w.heap.size,2,none⟩=some (.int .i64 f.tm.num)∧W.cell? ⟨w.heap.size,3,none⟩=some (.string f.tm.name)∧W.cell? ⟨w.heap.size,4,none⟩=some (.slice Ae ne ce)∧W.cell? ⟨w.heap.size,5,none⟩=some (.slice A n c)):=fun W hb=>by
  have hx:=hbx.below hb hs1;have h0:=hx.c0;rw [ho] at h0;exact ⟨h0,hx.c1,hx.c2,hx.c3,hx.c4,hx.c5⟩
 obtain ⟨x0,x1,x2,x3,x4,x5⟩:=HXX.out w1 (Br _ _);have hV1:=hV.below hb1 rfl;have hkl1:f.kids.length=2:=by rw [ho] at hkl;have:fkids 3=2:=rfl;omega
 obtain ⟨a,b,hk⟩:=flen2 hkl1
 rcases hV1.kids with h9 | ⟨g,off,rfl,hg,hrow⟩
 · rw [h9] at hk;cases hk
 unfold Fm.val;rw [ho,←hF,←hn,←hne];have hn1:n=2:=by rw [hn,hkl1]
 have hma:a∈f.kids:=by rw [hk];simp
 have hga:f.kids[0]?=some a:=by rw [hk];rfl
 obtain ⟨ra,hra⟩:=ex_ (frmT a 3);have hla:=frmT_len a 3
 have hcla:∀ (Ae2:Option Addr) (ce2:Nat) (A2:Option Addr) (c2:Nat) W,FmV W Ae2 ce2 A2 c2 a→Calls Tryz.prog 42 #[a.val Ae2 ce2 A2 c2,.int .i64 3] W fun e w'=>∃ s:ByteArray,e=.returned (.tuple #[.string s,.int .i64 ra.2])∧(ra.2=0→bs s=ra.1)∧Below W.heap.size W w':=fun Ae2 ce2 A2 c2 W hv=>by
  have h:=H a 3 (d+1) Ae2 ce2 A2 c2 W (hszk a hma).1 (hkids a hma) (hszk a hma).2.2 (hszk a hma).2.1 (by omega) hv;unfold FTQ at h;rw [←hra] at h;exact h
 have HCa:=Hd hcla;rw [←hra] at hla;have HLa:=Hd hla;have hmb:b∈f.kids:=by rw [hk];simp
 have hgb:f.kids[1]?=some b:=by rw [hk];rfl
 obtain ⟨rb,hrb⟩:=ex_ (frmT b 4);have hlb:=frmT_len b 4
 have hclb:∀ (Ae2:Option Addr) (ce2:Nat) (A2:Option Addr) (c2:Nat) W,FmV W Ae2 ce2 A2 c2 b→Calls Tryz.prog 42 #[b.val Ae2 ce2 A2 c2,.int .i64 4] W fun e w'=>∃ s:ByteArray,e=.returned (.tuple #[.string s,.int .i64 rb.2])∧(rb.2=0→bs s=rb.1)∧Below W.heap.size W w':=fun Ae2 ce2 A2 c2 W hv=>by
  have h:=H b 4 (d+1) Ae2 ce2 A2 c2 W (hszk b hmb).1 (hkids b hmb) (hszk b hmb).2.2 (hszk b hmb).2.1 (by omega) hv;unfold FTQ at h;rw [←hrb] at h;exact h
 have HCb:=Hd hclb;rw [←hrb] at hlb;have HLb:=Hd hlb
 have HLS:Hid (a.size+b.size+1≤f.size):=by
  have h1:=Fm.sizeL_mem hma;show _≤_
  cases f with
  | mk op0 e0 l0'=>
   simp only [Fm.kids] at hk;rw [Fm.size,hk];simp only [Fm.sizeL];omega
 have HRES:Hid (frmT f least=if ra.2≠0 then ([],ra.2) else if rb.2≠0 then ([],rb.2) else if strongF 3<least then ([40]++(openF 3++ra.1++inF 3++rb.1++closeF 3)++[41],0) else (openF 3++ra.1++inF 3++rb.1++closeF 3,0)):=by
  show _=_;have hb:(if f.op=1 then ([91]++(showTm f.tm).1++[93],(showTm f.tm).2) else frmK f.op f.kids)=(if ra.2≠0 then ([],ra.2) else (openF 3++ra.1++inF 3++rb.1++closeF 3,rb.2)):=by rw [iN (by omega),ho,hk,bar2 rfl,show leftF 3=3 from rfl,show rightF 3=4 from rfl,←hra,←hrb]
  rw [frmT_bar,hb,ho]
  by_cases h1:ra.2=0
  · simp [h1]
  · simp [h1]
 have HST:Hid (∀ W,Calls Tryz.prog 82 #[.int .i64 3] W fun e w'=>e=.returned (.int .i64 3)∧w'=W):=fun W=>by
  have h:=rfstrong_any 3 W;rw [show ((strongF 3:Nat):Int)=3 from rfl] at h;exact h
 have HROW:=Hd hrow;have HF:=Hd hF;have HB1:=Hd hb1;have HW1:=Hd hw1;have HFS:=Hd hsz;have HGa:=Hd hga;have HRa:=Hd hra;have HGb:=Hd hgb;have HRb:=Hd hrb;clear hF hb1 hw1 hV hV1 hbx hn hne hok hkids hszk hk1 hkl hk0 H hk hkl1 hrow hsz hws hN hts hga hma hra hla hcla hgb hmb hrb hlb hclb;subst hn1;go_enter Tryz.func42,Tryz.ntmps42;go_wp2_with fail;rw [←HW1.out];go_wp2_with fail;refine wp_region_still_drew 7 (by kernel_rfl) (by kernel_rfl) ?_;simp only [List.take_succ_cons,List.take_zero,List.drop_succ_cons,List.drop_zero]
 repeat still_step
 still_call (HST.out _)
 repeat still_step
 still_call (HST.out _)
 repeat still_step
 refine wpStill_nil ?_;go_wp2_with fail;obtain ⟨i0,hi,hz0,hz1,hz2⟩:=info_parts infoStr
 go_loopw [9,10,11,12] (fun sl si _ _ wr=>∃ (k:Nat) (ys:List ByteArray),k≤2∧si=.int .i64 k∧TxR w1 wr (w1.heap.size) 3 4 f.kids k sl ys) (fun _ i _ _ _=>2 - (intOf i).toNat)
 case atStart=>exact ⟨0,[],zl _,rfl,TxR.first (w2:=(w1.alloc (.cells #[.int .i64 3,.int .i64 4] 3))) ((Br _ _).alloc (lr _) _) (hA_ w1 _) (by simp) (by omega)⟩
 case round=>
  obtain ⟨k,ys,hk,rfl,hR⟩:=hrel;obtain ⟨sa,scap,hsv⟩:=own_shape hR.own;subst hsv;have HR:=Hd hR;have hbel:=hR.below;have hszr:=hbel.size;have hblr:=hR.blt;have y0:=hR.c0;have y1:=hR.c1;obtain ⟨x0,x1,x2,x3,x4,x5⟩:=HXX.out wr hbel;have hwwr:w.heap.size<wr.heap.size:=by omega
  have hgw:g<wr.heap.size:=by omega
  have hkc:k=0∨k=1∨k=2:=by omega
  clear x1 x2 x3 x4 hk
  rcases hkc with rfl | rfl | rfl
  · have hat:=(HROW.out.get HGa.out).below hbel rfl hg;obtain ⟨q0,q1,q2,q3,Ae2,ce2,A2,c2,q4,q5,hV2⟩:=hat.open;simp only [Nat.mul_zero,Nat.add_zero] at q0 q1 q2 q3 q4 q5;obtain ⟨n2,hn2⟩:=ex_ a.kids.length;obtain ⟨ne2,hne2⟩:=ex_ a.tm.kids.length
    have HC:Hid (∀ W,Below wr.heap.size wr W→Calls Tryz.prog 42 #[.agg #[.int .i64 a.op,.int .i64 a.tm.op,.int .i64 a.tm.num,.string a.tm.name,.slice Ae2 ne2 ce2,.slice A2 n2 c2],.int .i64 3] W fun e w'=>∃ s:ByteArray,e=.returned (.tuple #[.string s,.int .i64 ra.2])∧(ra.2=0→bs s=ra.1)∧Below W.heap.size W w'):=fun W hb=>by
     have hcall:=HCa.out Ae2 ce2 A2 c2 W (hV2.below hb rfl);unfold Fm.val at hcall;rw [←hn2,←hne2] at hcall;exact hcall
    rw [←hn2] at q5;rw [←hne2] at q4;clear hn2 hne2 hV2 hat hbel hR;go_wp2_with fail;have hbd:Below wr.heap.size wr wr.drew:=(Br _ _).drew
    go_region_held3 (fun w'=>(∀ o,w'.cell? ⟨w.heap.size,o,none⟩=wr.cell? ⟨w.heap.size,o,none⟩)∧(∀ o,w'.cell? ⟨g,o,none⟩=wr.cell? ⟨g,o,none⟩)∧(∀ o,w'.cell? ⟨w1.heap.size,o,none⟩=wr.cell? ⟨w1.heap.size,o,none⟩)∧Below wr.heap.size wr w')
     (first | (exact ⟨keep_cells (by assumption) hwwr,keep_cells (by assumption) hgw,keep_cells (by assumption) hblr,by assumption⟩) | fail)
     (first | (go_at_call 42;with_reducible refine (HC.out _ (by assumption)).mono ?_;rintro e w4 ⟨s4,rfl,hs4,hb4⟩;have hb5:=keep_step (by assumption) hb4) | fail)
    have HB5:=Hd hb5;have HBW:=Hd (HB1.out.trans ((keep_step HR.out.below hb5).mono (by omega)));have hs5:=hb5.size;have HO4:=Hd (own_keepB HR.out.own hb5);have HS4:=Hd hs4;clear hbd hb4 hb5 hs4 q0 q1 q2 q3 q4 q5 x0 x5 y0 y1
    by_cases hz:ra.2=0
    · have hy4:=HS4.out hz;have HY4:=Hd hy4;have HZ:=Hd hz;have hzb:(ra.2 != 0)=false:=by simpa using hz
      clear hy4 hz
      go_wp2_with (at_builtin;refine wpList_append_lies _ (by rfl) _ _ _ (by rfl) (w1.heap.size+1) 9 i0 (.string ⟨#[]⟩) 1 16 Tryz.underlying48 hi hz0 hz1 hz2 rfl (by decide) _ 0 _ (by rfl) (HO4.out.alloc _) ⟨w4.heap.size,0,none⟩ 1 1 [.string s4] (by rfl) rfl (World.news_of_block (hA_ w4 _)) (fun u hu=>by rw [List.mem_singleton.1 hu];rfl) (by decide) ?c3 ?c4 ?c5 (w4.heap.size+1) (by simp) ?_)
      case c3=>unfold maxLen;omega
      case c4=>omega
      case c5=>first | omega | (simp;omega)
      intro g' cap' w6 hown6 hgrow6 hat6 hlt6
      have hown6':w6.ownsRow (w1.heap.size+1) 9 1 (.slice (some ⟨g',0,none⟩) (0+1) cap') (0+1) ((ys++[s4]).map Value.string):=by
       rw [List.map_append,List.map_singleton];exact hown6
      have HR6:=Hd (TxR.next HR.out HB5.out hgrow6 hown6' HGa.out (by show (frmT a 3).2=0;rw [←HRa.out];exact HZ.out) (by show _=(frmT a 3).1;rw [←HRa.out];exact HY4.out));clear hown6 hown6' hgrow6 hat6;go_wp2_with fail
      go_roundw
      case rel=>exact ⟨0+1,ys++[s4],by omega,rfl,HR6.out⟩
      case measure=>simp [intOf]
    · have HZ:=Hd hz;have hzb:(ra.2 != 0)=true:=by simpa using hz
      clear hz;go_wp2_with fail;rw [HF.out];have h2:frmT f least=([],ra.2):=by rw [HRES.out,iP HZ.out]
      exact ⟨⟨#[]⟩,by rw [h2];rfl,fun h=>by rw [h2] at h;exact absurd h HZ.out,HBW.out⟩
  · have hat:=(HROW.out.get HGb.out).below hbel rfl hg;obtain ⟨q0,q1,q2,q3,Ae2,ce2,A2,c2,q4,q5,hV2⟩:=hat.open;rw [show off+6*1=off+1*6 by omega] at q0 q1 q2 q3 q4 q5;obtain ⟨n2,hn2⟩:=ex_ b.kids.length;obtain ⟨ne2,hne2⟩:=ex_ b.tm.kids.length
    have HC:Hid (∀ W,Below wr.heap.size wr W→Calls Tryz.prog 42 #[.agg #[.int .i64 b.op,.int .i64 b.tm.op,.int .i64 b.tm.num,.string b.tm.name,.slice Ae2 ne2 ce2,.slice A2 n2 c2],.int .i64 4] W fun e w'=>∃ s:ByteArray,e=.returned (.tuple #[.string s,.int .i64 rb.2])∧(rb.2=0→bs s=rb.1)∧Below W.heap.size W w'):=fun W hb=>by
     have hcall:=HCb.out Ae2 ce2 A2 c2 W (hV2.below hb rfl);unfold Fm.val at hcall;rw [←hn2,←hne2] at hcall;exact hcall
    rw [←hn2] at q5;rw [←hne2] at q4
    have H0a:Hid (ra.2=0):=by
     have h:=(hR.txt 0 a HGa.out (by omega)).1;show _=_;rw [HRa.out];exact h
    clear hn2 hne2 hV2 hat hbel hR;go_wp2_with fail;have hbd:Below wr.heap.size wr wr.drew:=(Br _ _).drew
    go_region_held3 (fun w'=>(∀ o,w'.cell? ⟨w.heap.size,o,none⟩=wr.cell? ⟨w.heap.size,o,none⟩)∧(∀ o,w'.cell? ⟨g,o,none⟩=wr.cell? ⟨g,o,none⟩)∧(∀ o,w'.cell? ⟨w1.heap.size,o,none⟩=wr.cell? ⟨w1.heap.size,o,none⟩)∧Below wr.heap.size wr w')
     (first | (exact ⟨keep_cells (by assumption) hwwr,keep_cells (by assumption) hgw,keep_cells (by assumption) hblr,by assumption⟩) | fail)
     (first | (go_at_call 42;with_reducible refine (HC.out _ (by assumption)).mono ?_;rintro e w4 ⟨s4,rfl,hs4,hb4⟩;have hb5:=keep_step (by assumption) hb4) | fail)
    have HB5:=Hd hb5;have HBW:=Hd (HB1.out.trans ((keep_step HR.out.below hb5).mono (by omega)));have hs5:=hb5.size;have HO4:=Hd (own_keepB HR.out.own hb5);have HS4:=Hd hs4;clear hbd hb4 hb5 hs4 q0 q1 q2 q3 q4 q5 x0 x5 y0 y1
    by_cases hz:rb.2=0
    · have hy4:=HS4.out hz;have HY4:=Hd hy4;have HZ:=Hd hz;have hzb:(rb.2 != 0)=false:=by simpa using hz
      clear hy4 hz
      go_wp2_with (at_builtin;refine wpList_append_lies _ (by rfl) _ _ _ (by rfl) (w1.heap.size+1) 9 i0 (.string ⟨#[]⟩) 1 16 Tryz.underlying48 hi hz0 hz1 hz2 rfl (by decide) _ 1 _ (by rfl) (HO4.out.alloc _) ⟨w4.heap.size,0,none⟩ 1 1 [.string s4] (by rfl) rfl (World.news_of_block (hA_ w4 _)) (fun u hu=>by rw [List.mem_singleton.1 hu];rfl) (by decide) ?c3 ?c4 ?c5 (w4.heap.size+1) (by simp) ?_)
      case c3=>unfold maxLen;omega
      case c4=>omega
      case c5=>first | omega | (simp;omega)
      intro g' cap' w6 hown6 hgrow6 hat6 hlt6
      have hown6':w6.ownsRow (w1.heap.size+1) 9 1 (.slice (some ⟨g',0,none⟩) (1+1) cap') (1+1) ((ys++[s4]).map Value.string):=by
       rw [List.map_append,List.map_singleton];exact hown6
      have HR6:=Hd (TxR.next HR.out HB5.out hgrow6 hown6' HGb.out (by show (frmT b 4).2=0;rw [←HRb.out];exact HZ.out) (by show _=(frmT b 4).1;rw [←HRb.out];exact HY4.out));clear hown6 hown6' hgrow6 hat6;go_wp2_with fail
      go_roundw
      case rel=>exact ⟨1+1,ys++[s4],by omega,rfl,HR6.out⟩
      case measure=>simp [intOf]
    · have HZ:=Hd hz;have hzb:(rb.2 != 0)=true:=by simpa using hz
      clear hz;go_wp2_with fail;rw [HF.out];have h2:frmT f least=([],rb.2):=by rw [HRES.out,iN (fun h=>h H0a.out),iP HZ.out]
      exact ⟨⟨#[]⟩,by rw [h2];rfl,fun h=>by rw [h2] at h;exact absurd h HZ.out,HBW.out⟩
  · rw [show ((2:Nat):Int)=2 from rfl];obtain ⟨A9,c9,hv9,hs9⟩:=strs_of_own (by rw [hR.len];exact hR.own);rw [hR.len] at hv9;obtain ⟨rfl,-,rfl⟩:sa=A9∧2=2∧scap=c9:=by injection hv9 with h1 h2 h3;exact ⟨h1,rfl,h3⟩
    rcases hs9 with h9 | ⟨gb,ob,rfl,hgb,hcb⟩
    · have h:=hR.len;rw [h9] at h;simp at h
    obtain ⟨h0a,va,hya,hta⟩:=hR.txt 0 a HGa.out (by omega)
    change (frmT a 3).2=0 at h0a
    change bs va=(frmT a 3).1 at hta
    rw [←HRa.out] at h0a hta;have z0:=hcb 0 (by rw [hR.len];omega);rw [show ys.getD 0 ByteArray.empty=va by simp [List.getD,hya]] at z0;have hvaz:va.size=ra.1.length:=by rw [←hta];rfl
    obtain ⟨h0b,vb,hyb,htb⟩:=hR.txt 1 b HGb.out (by omega)
    change (frmT b 4).2=0 at h0b
    change bs vb=(frmT b 4).1 at htb
    rw [←HRb.out] at h0b htb;have z1:=hcb 1 (by rw [hR.len];omega);rw [show ys.getD 1 ByteArray.empty=vb by simp [List.getD,hyb]] at z1;have hvbz:vb.size=rb.1.length:=by rw [←htb];rfl
    simp only [Nat.add_zero] at z0;obtain ⟨S0,hS0⟩:∃ S0:ByteArray,S0=va++(⟨#[32,38,32]⟩:ByteArray):=⟨_,rfl⟩;have szS0:S0.size=va.size+3:=by rw [hS0,bA] <;> rfl
    obtain ⟨S1,hS1⟩:∃ S1:ByteArray,S1=S0++vb:=⟨_,rfl⟩;have szS1:S1.size=S0.size+vb.size:=by rw [hS1,bA] <;> rfl
    obtain ⟨U1,hU1⟩:∃ U1:ByteArray,U1=(⟨#[40]⟩:ByteArray)++S1:=⟨_,rfl⟩;have szU1:U1.size=1+S1.size:=by rw [hU1,bA] <;> rfl
    obtain ⟨U2,hU2⟩:∃ U2:ByteArray,U2=U1++(⟨#[41]⟩:ByteArray):=⟨_,rfl⟩;have szU2:U2.size=U1.size+1:=by rw [hU2,bA] <;> rfl
    have hLa:=HLa.out;have hLb:=HLb.out;have hLS:=HLS.out;have hFS:=HFS.out;have hcatS0:=rle_run hS0 (by show va.size+3≤_;omega);have hcatS1:=rle_run hS1 (by show S0.size+vb.size≤_;omega);have hcatU1:=rle_run hU1 (by show 1+S1.size≤_;omega);have hcatU2:=rle_run hU2 (by show U1.size+1≤_;omega)
    have HT1:Hid (bs S1=openF 3++ra.1++inF 3++rb.1++closeF 3):=by
     show _=_;rw [hS1,hS0,←hta,←htb];simp [bs,openF,inF,closeF]
    have HT2:Hid (bs U2=[40]++bs S1++[41]):=by show _=_;rw [hU2,hU1];simp [bs]
    have H0a:=Hd h0a;have H0b:=Hd h0b;have HBE:=Hd (HB1.out.trans (hbel.mono (by omega)));clear hS0 szS0 hS1 szS1 hU1 szU1 hU2 szU2 h0a hya hta hvaz h0b hyb htb hvbz hLa hLS hFS hcb hv9 hbel hR y0 y1 hLb
    by_cases hsl:strongF 3<least
    · have HSL:=Hd hsl
      change (3<least) at hsl
      have hsl':((3:Int)<(least:Int)):=by omega
      clear hsl;go_wp2_with fail
      go_quiet (fail)
      go_wp2_with fail;refine (HST.out _).mono ?_;rintro e w8 ⟨rfl,hw8⟩;rw [hw8];clear hw8;go_wp2_with fail;rw [HF.out];have h2:frmT f least=([40]++(openF 3++ra.1++inF 3++rb.1++closeF 3)++[41],0):=by rw [HRES.out,iN (fun h=>h H0a.out),iN (fun h=>h H0b.out),iP HSL.out]
      exact ⟨U2,by rw [h2];rfl,fun _=>by rw [h2];exact (HT2.out.trans (by rw [HT1.out])),(HBE.out.trans (Below.mono (B:=wr.heap.size) (bl_drewN (Br wr.heap.size wr) _) (by omega)))⟩
    · have HSL:=Hd hsl
      change ¬(3<least) at hsl
      have hsl':¬((3:Int)<(least:Int)):=by omega
      clear hsl;go_wp2_with fail
      go_quiet (fail)
      go_wp2_with fail;refine (HST.out _).mono ?_;rintro e w8 ⟨rfl,hw8⟩;rw [hw8];clear hw8;go_wp2_with fail;rw [HF.out];have h2:frmT f least=((openF 3++ra.1++inF 3++rb.1++closeF 3),0):=by rw [HRES.out,iN (fun h=>h H0a.out),iN (fun h=>h H0b.out),iN HSL.out]
      exact ⟨S1,by rw [h2];rfl,fun _=>by rw [h2];exact HT1.out,(HBE.out.trans (Below.mono (B:=wr.heap.size) (bl_drewN (Br wr.heap.size wr) _) (by omega)))⟩
theorem rtext_b4 (N:Nat) (H:RTextC N) (f:Fm) (least d:Nat) (Ae:Option Addr) (ce:Nat) (A:Option Addr) (c:Nat) (w:World) (hN:f.size≤N+1) (hok:f.okT d) (hws:f.wsize≤9000000) (hsz:f.size≤5000) (hl4:least≤4) (hV:FmV w Ae ce A c f) (ho:f.op=4) :
 Calls Tryz.prog 42 #[f.val Ae ce A c,.int .i64 (least:Nat)] w (FTQ f least w):=by
 obtain ⟨-,⟨hk0,hkl,hk1⟩,hkids⟩:=fokT_open hok;obtain ⟨n,hn⟩:=ex_ f.kids.length;obtain ⟨ne,hne⟩:=ex_ f.tm.kids.length;obtain ⟨F,hF⟩:=ex_ (FTQ f least w)
 have hszk:∀ k∈f.kids,k.size≤N∧k.size≤5000∧k.wsize≤9000000:=fun k hk=>by
  have h1:=Fm.sizeL_mem hk;have h2:=(Fm.wsize_open f).2 k hk
  cases f with
  | mk op e l=>rw [Fm.size] at hN hsz;simp only [Fm.kids] at h1;omega
 have hts:=(Fm.wsize_open f).1;have hcap:=hV.cap;have hcapm:=hV.capm;unfold maxLen at hcapm;obtain ⟨w1,hw1⟩:=ex_ (w.alloc (.cells #[.int .i64 4,.int .i64 f.tm.op,.int .i64 f.tm.num,.string f.tm.name,.slice Ae ne ce,.slice A n c] 35));have hb1:=bAl hw1;have hs1:w.heap.size<w1.heap.size:=by rw [hw1];simp
 have hbx:FBox w1 w.heap.size Ae ne ce A n c f:=by unfold FBox;rw [hw1,ho];exact hA_ w _
 have HXX:Hid (∀ W,Below w1.heap.size w1 W→W.cell? ⟨w.heap.size,0,none⟩=some (.int .i64 4)∧W.cell? ⟨w.heap.size,1,none⟩=some (.int .i64 f.tm.op)∧W.cell? ⟨w.heap.size,2,none⟩=some (.int .i64 f.tm.num)∧W.cell? ⟨w.heap.size,3,none⟩=some (.string f.tm.name)∧W.cell? ⟨w.heap.size,4,none⟩=some (.slice Ae ne ce)∧W.cell? ⟨w.heap.size,5,none⟩=some (.slice A n c)):=fun W hb=>by
  have hx:=hbx.below hb hs1;have h0:=hx.c0;rw [ho] at h0;exact ⟨h0,hx.c1,hx.c2,hx.c3,hx.c4,hx.c5⟩
 obtain ⟨x0,x1,x2,x3,x4,x5⟩:=HXX.out w1 (Br _ _);have hV1:=hV.below hb1 rfl;have hkl1:f.kids.length=2:=by rw [ho] at hkl;have:fkids 4=2:=rfl;omega
 obtain ⟨a,b,hk⟩:=flen2 hkl1
 rcases hV1.kids with h9 | ⟨g,off,rfl,hg,hrow⟩
 · rw [h9] at hk;cases hk
 unfold Fm.val;rw [ho,←hF,←hn,←hne];have hn1:n=2:=by rw [hn,hkl1]
 have hma:a∈f.kids:=by rw [hk];simp
 have hga:f.kids[0]?=some a:=by rw [hk];rfl
 obtain ⟨ra,hra⟩:=ex_ (frmT a 2);have hla:=frmT_len a 2
 have hcla:∀ (Ae2:Option Addr) (ce2:Nat) (A2:Option Addr) (c2:Nat) W,FmV W Ae2 ce2 A2 c2 a→Calls Tryz.prog 42 #[a.val Ae2 ce2 A2 c2,.int .i64 2] W fun e w'=>∃ s:ByteArray,e=.returned (.tuple #[.string s,.int .i64 ra.2])∧(ra.2=0→bs s=ra.1)∧Below W.heap.size W w':=fun Ae2 ce2 A2 c2 W hv=>by
  have h:=H a 2 (d+1) Ae2 ce2 A2 c2 W (hszk a hma).1 (hkids a hma) (hszk a hma).2.2 (hszk a hma).2.1 (by omega) hv;unfold FTQ at h;rw [←hra] at h;exact h
 have HCa:=Hd hcla;rw [←hra] at hla;have HLa:=Hd hla;have hmb:b∈f.kids:=by rw [hk];simp
 have hgb:f.kids[1]?=some b:=by rw [hk];rfl
 obtain ⟨rb,hrb⟩:=ex_ (frmT b 3);have hlb:=frmT_len b 3
 have hclb:∀ (Ae2:Option Addr) (ce2:Nat) (A2:Option Addr) (c2:Nat) W,FmV W Ae2 ce2 A2 c2 b→Calls Tryz.prog 42 #[b.val Ae2 ce2 A2 c2,.int .i64 3] W fun e w'=>∃ s:ByteArray,e=.returned (.tuple #[.string s,.int .i64 rb.2])∧(rb.2=0→bs s=rb.1)∧Below W.heap.size W w':=fun Ae2 ce2 A2 c2 W hv=>by
  have h:=H b 3 (d+1) Ae2 ce2 A2 c2 W (hszk b hmb).1 (hkids b hmb) (hszk b hmb).2.2 (hszk b hmb).2.1 (by omega) hv;unfold FTQ at h;rw [←hrb] at h;exact h
 have HCb:=Hd hclb;rw [←hrb] at hlb;have HLb:=Hd hlb
 have HLS:Hid (a.size+b.size+1≤f.size):=by
  have h1:=Fm.sizeL_mem hma;show _≤_
  cases f with
  | mk op0 e0 l0'=>
   simp only [Fm.kids] at hk;rw [Fm.size,hk];simp only [Fm.sizeL];omega
 have HRES:Hid (frmT f least=if ra.2≠0 then ([],ra.2) else if rb.2≠0 then ([],rb.2) else if strongF 4<least then ([40]++(openF 4++ra.1++inF 4++rb.1++closeF 4)++[41],0) else (openF 4++ra.1++inF 4++rb.1++closeF 4,0)):=by
  show _=_;have hb:(if f.op=1 then ([91]++(showTm f.tm).1++[93],(showTm f.tm).2) else frmK f.op f.kids)=(if ra.2≠0 then ([],ra.2) else (openF 4++ra.1++inF 4++rb.1++closeF 4,rb.2)):=by rw [iN (by omega),ho,hk,bar2 rfl,show leftF 4=2 from rfl,show rightF 4=3 from rfl,←hra,←hrb]
  rw [frmT_bar,hb,ho]
  by_cases h1:ra.2=0
  · simp [h1]
  · simp [h1]
 have HST:Hid (∀ W,Calls Tryz.prog 82 #[.int .i64 4] W fun e w'=>e=.returned (.int .i64 2)∧w'=W):=fun W=>by
  have h:=rfstrong_any 4 W;rw [show ((strongF 4:Nat):Int)=2 from rfl] at h;exact h
 have HROW:=Hd hrow;have HF:=Hd hF;have HB1:=Hd hb1;have HW1:=Hd hw1;have HFS:=Hd hsz;have HGa:=Hd hga;have HRa:=Hd hra;have HGb:=Hd hgb;have HRb:=Hd hrb;clear hF hb1 hw1 hV hV1 hbx hn hne hok hkids hszk hk1 hkl hk0 H hk hkl1 hrow hsz hws hN hts hga hma hra hla hcla hgb hmb hrb hlb hclb;subst hn1;go_enter Tryz.func42,Tryz.ntmps42;go_wp2_with fail;rw [←HW1.out];go_wp2_with fail;refine wp_region_still_drew 7 (by kernel_rfl) (by kernel_rfl) ?_;simp only [List.take_succ_cons,List.take_zero,List.drop_succ_cons,List.drop_zero]
 repeat still_step
 still_call (HST.out _)
 repeat still_step
 still_call (HST.out _)
 repeat still_step
 refine wpStill_nil ?_;go_wp2_with fail;obtain ⟨i0,hi,hz0,hz1,hz2⟩:=info_parts infoStr
 go_loopw [9,10,11,12] (fun sl si _ _ wr=>∃ (k:Nat) (ys:List ByteArray),k≤2∧si=.int .i64 k∧TxR w1 wr (w1.heap.size) 2 3 f.kids k sl ys) (fun _ i _ _ _=>2 - (intOf i).toNat)
 case atStart=>exact ⟨0,[],zl _,rfl,TxR.first (w2:=(w1.alloc (.cells #[.int .i64 2,.int .i64 3] 3))) ((Br _ _).alloc (lr _) _) (hA_ w1 _) (by simp) (by omega)⟩
 case round=>
  obtain ⟨k,ys,hk,rfl,hR⟩:=hrel;obtain ⟨sa,scap,hsv⟩:=own_shape hR.own;subst hsv;have HR:=Hd hR;have hbel:=hR.below;have hszr:=hbel.size;have hblr:=hR.blt;have y0:=hR.c0;have y1:=hR.c1;obtain ⟨x0,x1,x2,x3,x4,x5⟩:=HXX.out wr hbel;have hwwr:w.heap.size<wr.heap.size:=by omega
  have hgw:g<wr.heap.size:=by omega
  have hkc:k=0∨k=1∨k=2:=by omega
  clear x1 x2 x3 x4 hk
  rcases hkc with rfl | rfl | rfl
  · have hat:=(HROW.out.get HGa.out).below hbel rfl hg;obtain ⟨q0,q1,q2,q3,Ae2,ce2,A2,c2,q4,q5,hV2⟩:=hat.open;simp only [Nat.mul_zero,Nat.add_zero] at q0 q1 q2 q3 q4 q5;obtain ⟨n2,hn2⟩:=ex_ a.kids.length;obtain ⟨ne2,hne2⟩:=ex_ a.tm.kids.length
    have HC:Hid (∀ W,Below wr.heap.size wr W→Calls Tryz.prog 42 #[.agg #[.int .i64 a.op,.int .i64 a.tm.op,.int .i64 a.tm.num,.string a.tm.name,.slice Ae2 ne2 ce2,.slice A2 n2 c2],.int .i64 2] W fun e w'=>∃ s:ByteArray,e=.returned (.tuple #[.string s,.int .i64 ra.2])∧(ra.2=0→bs s=ra.1)∧Below W.heap.size W w'):=fun W hb=>by
     have hcall:=HCa.out Ae2 ce2 A2 c2 W (hV2.below hb rfl);unfold Fm.val at hcall;rw [←hn2,←hne2] at hcall;exact hcall
    rw [←hn2] at q5;rw [←hne2] at q4;clear hn2 hne2 hV2 hat hbel hR;go_wp2_with fail;have hbd:Below wr.heap.size wr wr.drew:=(Br _ _).drew
    go_region_held3 (fun w'=>(∀ o,w'.cell? ⟨w.heap.size,o,none⟩=wr.cell? ⟨w.heap.size,o,none⟩)∧(∀ o,w'.cell? ⟨g,o,none⟩=wr.cell? ⟨g,o,none⟩)∧(∀ o,w'.cell? ⟨w1.heap.size,o,none⟩=wr.cell? ⟨w1.heap.size,o,none⟩)∧Below wr.heap.size wr w')
     (first | (exact ⟨keep_cells (by assumption) hwwr,keep_cells (by assumption) hgw,keep_cells (by assumption) hblr,by assumption⟩) | fail)
     (first | (go_at_call 42;with_reducible refine (HC.out _ (by assumption)).mono ?_;rintro e w4 ⟨s4,rfl,hs4,hb4⟩;have hb5:=keep_step (by assumption) hb4) | fail)
    have HB5:=Hd hb5;have HBW:=Hd (HB1.out.trans ((keep_step HR.out.below hb5).mono (by omega)));have hs5:=hb5.size;have HO4:=Hd (own_keepB HR.out.own hb5);have HS4:=Hd hs4;clear hbd hb4 hb5 hs4 q0 q1 q2 q3 q4 q5 x0 x5 y0 y1
    by_cases hz:ra.2=0
    · have hy4:=HS4.out hz;have HY4:=Hd hy4;have HZ:=Hd hz;have hzb:(ra.2 != 0)=false:=by simpa using hz
      clear hy4 hz
      go_wp2_with (at_builtin;refine wpList_append_lies _ (by rfl) _ _ _ (by rfl) (w1.heap.size+1) 9 i0 (.string ⟨#[]⟩) 1 16 Tryz.underlying48 hi hz0 hz1 hz2 rfl (by decide) _ 0 _ (by rfl) (HO4.out.alloc _) ⟨w4.heap.size,0,none⟩ 1 1 [.string s4] (by rfl) rfl (World.news_of_block (hA_ w4 _)) (fun u hu=>by rw [List.mem_singleton.1 hu];rfl) (by decide) ?c3 ?c4 ?c5 (w4.heap.size+1) (by simp) ?_)
      case c3=>unfold maxLen;omega
      case c4=>omega
      case c5=>first | omega | (simp;omega)
      intro g' cap' w6 hown6 hgrow6 hat6 hlt6
      have hown6':w6.ownsRow (w1.heap.size+1) 9 1 (.slice (some ⟨g',0,none⟩) (0+1) cap') (0+1) ((ys++[s4]).map Value.string):=by
       rw [List.map_append,List.map_singleton];exact hown6
      have HR6:=Hd (TxR.next HR.out HB5.out hgrow6 hown6' HGa.out (by show (frmT a 2).2=0;rw [←HRa.out];exact HZ.out) (by show _=(frmT a 2).1;rw [←HRa.out];exact HY4.out));clear hown6 hown6' hgrow6 hat6;go_wp2_with fail
      go_roundw
      case rel=>exact ⟨0+1,ys++[s4],by omega,rfl,HR6.out⟩
      case measure=>simp [intOf]
    · have HZ:=Hd hz;have hzb:(ra.2 != 0)=true:=by simpa using hz
      clear hz;go_wp2_with fail;rw [HF.out];have h2:frmT f least=([],ra.2):=by rw [HRES.out,iP HZ.out]
      exact ⟨⟨#[]⟩,by rw [h2];rfl,fun h=>by rw [h2] at h;exact absurd h HZ.out,HBW.out⟩
  · have hat:=(HROW.out.get HGb.out).below hbel rfl hg;obtain ⟨q0,q1,q2,q3,Ae2,ce2,A2,c2,q4,q5,hV2⟩:=hat.open;rw [show off+6*1=off+1*6 by omega] at q0 q1 q2 q3 q4 q5;obtain ⟨n2,hn2⟩:=ex_ b.kids.length;obtain ⟨ne2,hne2⟩:=ex_ b.tm.kids.length
    have HC:Hid (∀ W,Below wr.heap.size wr W→Calls Tryz.prog 42 #[.agg #[.int .i64 b.op,.int .i64 b.tm.op,.int .i64 b.tm.num,.string b.tm.name,.slice Ae2 ne2 ce2,.slice A2 n2 c2],.int .i64 3] W fun e w'=>∃ s:ByteArray,e=.returned (.tuple #[.string s,.int .i64 rb.2])∧(rb.2=0→bs s=rb.1)∧Below W.heap.size W w'):=fun W hb=>by
     have hcall:=HCb.out Ae2 ce2 A2 c2 W (hV2.below hb rfl);unfold Fm.val at hcall;rw [←hn2,←hne2] at hcall;exact hcall
    rw [←hn2] at q5;rw [←hne2] at q4
    have H0a:Hid (ra.2=0):=by
     have h:=(hR.txt 0 a HGa.out (by omega)).1;show _=_;rw [HRa.out];exact h
    clear hn2 hne2 hV2 hat hbel hR;go_wp2_with fail;have hbd:Below wr.heap.size wr wr.drew:=(Br _ _).drew
    go_region_held3 (fun w'=>(∀ o,w'.cell? ⟨w.heap.size,o,none⟩=wr.cell? ⟨w.heap.size,o,none⟩)∧(∀ o,w'.cell? ⟨g,o,none⟩=wr.cell? ⟨g,o,none⟩)∧(∀ o,w'.cell? ⟨w1.heap.size,o,none⟩=wr.cell? ⟨w1.heap.size,o,none⟩)∧Below wr.heap.size wr w')
     (first | (exact ⟨keep_cells (by assumption) hwwr,keep_cells (by assumption) hgw,keep_cells (by assumption) hblr,by assumption⟩) | fail)
     (first | (go_at_call 42;with_reducible refine (HC.out _ (by assumption)).mono ?_;rintro e w4 ⟨s4,rfl,hs4,hb4⟩;have hb5:=keep_step (by assumption) hb4) | fail)
    have HB5:=Hd hb5;have HBW:=Hd (HB1.out.trans ((keep_step HR.out.below hb5).mono (by omega)));have hs5:=hb5.size;have HO4:=Hd (own_keepB HR.out.own hb5);have HS4:=Hd hs4;clear hbd hb4 hb5 hs4 q0 q1 q2 q3 q4 q5 x0 x5 y0 y1
    by_cases hz:rb.2=0
    · have hy4:=HS4.out hz;have HY4:=Hd hy4;have HZ:=Hd hz;have hzb:(rb.2 != 0)=false:=by simpa using hz
      clear hy4 hz
      go_wp2_with (at_builtin;refine wpList_append_lies _ (by rfl) _ _ _ (by rfl) (w1.heap.size+1) 9 i0 (.string ⟨#[]⟩) 1 16 Tryz.underlying48 hi hz0 hz1 hz2 rfl (by decide) _ 1 _ (by rfl) (HO4.out.alloc _) ⟨w4.heap.size,0,none⟩ 1 1 [.string s4] (by rfl) rfl (World.news_of_block (hA_ w4 _)) (fun u hu=>by rw [List.mem_singleton.1 hu];rfl) (by decide) ?c3 ?c4 ?c5 (w4.heap.size+1) (by simp) ?_)
      case c3=>unfold maxLen;omega
      case c4=>omega
      case c5=>first | omega | (simp;omega)
      intro g' cap' w6 hown6 hgrow6 hat6 hlt6
      have hown6':w6.ownsRow (w1.heap.size+1) 9 1 (.slice (some ⟨g',0,none⟩) (1+1) cap') (1+1) ((ys++[s4]).map Value.string):=by
       rw [List.map_append,List.map_singleton];exact hown6
      have HR6:=Hd (TxR.next HR.out HB5.out hgrow6 hown6' HGb.out (by show (frmT b 3).2=0;rw [←HRb.out];exact HZ.out) (by show _=(frmT b 3).1;rw [←HRb.out];exact HY4.out));clear hown6 hown6' hgrow6 hat6;go_wp2_with fail
      go_roundw
      case rel=>exact ⟨1+1,ys++[s4],by omega,rfl,HR6.out⟩
      case measure=>simp [intOf]
    · have HZ:=Hd hz;have hzb:(rb.2 != 0)=true:=by simpa using hz
      clear hz;go_wp2_with fail;rw [HF.out];have h2:frmT f least=([],rb.2):=by rw [HRES.out,iN (fun h=>h H0a.out),iP HZ.out]
      exact ⟨⟨#[]⟩,by rw [h2];rfl,fun h=>by rw [h2] at h;exact absurd h HZ.out,HBW.out⟩
  · rw [show ((2:Nat):Int)=2 from rfl];obtain ⟨A9,c9,hv9,hs9⟩:=strs_of_own (by rw [hR.len];exact hR.own);rw [hR.len] at hv9;obtain ⟨rfl,-,rfl⟩:sa=A9∧2=2∧scap=c9:=by injection hv9 with h1 h2 h3;exact ⟨h1,rfl,h3⟩
    rcases hs9 with h9 | ⟨gb,ob,rfl,hgb,hcb⟩
    · have h:=hR.len;rw [h9] at h;simp at h
    obtain ⟨h0a,va,hya,hta⟩:=hR.txt 0 a HGa.out (by omega)
    change (frmT a 2).2=0 at h0a
    change bs va=(frmT a 2).1 at hta
    rw [←HRa.out] at h0a hta;have z0:=hcb 0 (by rw [hR.len];omega);rw [show ys.getD 0 ByteArray.empty=va by simp [List.getD,hya]] at z0;have hvaz:va.size=ra.1.length:=by rw [←hta];rfl
    obtain ⟨h0b,vb,hyb,htb⟩:=hR.txt 1 b HGb.out (by omega)
    change (frmT b 3).2=0 at h0b
    change bs vb=(frmT b 3).1 at htb
    rw [←HRb.out] at h0b htb;have z1:=hcb 1 (by rw [hR.len];omega);rw [show ys.getD 1 ByteArray.empty=vb by simp [List.getD,hyb]] at z1;have hvbz:vb.size=rb.1.length:=by rw [←htb];rfl
    simp only [Nat.add_zero] at z0;obtain ⟨S0,hS0⟩:∃ S0:ByteArray,S0=va++(⟨#[32,124,32]⟩:ByteArray):=⟨_,rfl⟩;have szS0:S0.size=va.size+3:=by rw [hS0,bA] <;> rfl
    obtain ⟨S1,hS1⟩:∃ S1:ByteArray,S1=S0++vb:=⟨_,rfl⟩;have szS1:S1.size=S0.size+vb.size:=by rw [hS1,bA] <;> rfl
    obtain ⟨U1,hU1⟩:∃ U1:ByteArray,U1=(⟨#[40]⟩:ByteArray)++S1:=⟨_,rfl⟩;have szU1:U1.size=1+S1.size:=by rw [hU1,bA] <;> rfl
    obtain ⟨U2,hU2⟩:∃ U2:ByteArray,U2=U1++(⟨#[41]⟩:ByteArray):=⟨_,rfl⟩;have szU2:U2.size=U1.size+1:=by rw [hU2,bA] <;> rfl
    have hLa:=HLa.out;have hLb:=HLb.out;have hLS:=HLS.out;have hFS:=HFS.out;have hcatS0:=rle_run hS0 (by show va.size+3≤_;omega);have hcatS1:=rle_run hS1 (by show S0.size+vb.size≤_;omega);have hcatU1:=rle_run hU1 (by show 1+S1.size≤_;omega);have hcatU2:=rle_run hU2 (by show U1.size+1≤_;omega)
    have HT1:Hid (bs S1=openF 4++ra.1++inF 4++rb.1++closeF 4):=by
     show _=_;rw [hS1,hS0,←hta,←htb];simp [bs,openF,inF,closeF]
    have HT2:Hid (bs U2=[40]++bs S1++[41]):=by show _=_;rw [hU2,hU1];simp [bs]
    have H0a:=Hd h0a;have H0b:=Hd h0b;have HBE:=Hd (HB1.out.trans (hbel.mono (by omega)));clear hS0 szS0 hS1 szS1 hU1 szU1 hU2 szU2 h0a hya hta hvaz h0b hyb htb hvbz hLa hLS hFS hcb hv9 hbel hR y0 y1 hLb
    by_cases hsl:strongF 4<least
    · have HSL:=Hd hsl
      change (2<least) at hsl
      have hsl':((2:Int)<(least:Int)):=by omega
      clear hsl;go_wp2_with fail
      go_quiet (fail)
      go_wp2_with fail;refine (HST.out _).mono ?_;rintro e w8 ⟨rfl,hw8⟩;rw [hw8];clear hw8;go_wp2_with fail;rw [HF.out];have h2:frmT f least=([40]++(openF 4++ra.1++inF 4++rb.1++closeF 4)++[41],0):=by rw [HRES.out,iN (fun h=>h H0a.out),iN (fun h=>h H0b.out),iP HSL.out]
      exact ⟨U2,by rw [h2];rfl,fun _=>by rw [h2];exact (HT2.out.trans (by rw [HT1.out])),(HBE.out.trans (Below.mono (B:=wr.heap.size) (bl_drewN (Br wr.heap.size wr) _) (by omega)))⟩
    · have HSL:=Hd hsl
      change ¬(2<least) at hsl
      have hsl':¬((2:Int)<(least:Int)):=by omega
      clear hsl;go_wp2_with fail
      go_quiet (fail)
      go_wp2_with fail;refine (HST.out _).mono ?_;rintro e w8 ⟨rfl,hw8⟩;rw [hw8];clear hw8;go_wp2_with fail;rw [HF.out];have h2:frmT f least=((openF 4++ra.1++inF 4++rb.1++closeF 4),0):=by rw [HRES.out,iN (fun h=>h H0a.out),iN (fun h=>h H0b.out),iN HSL.out]
      exact ⟨S1,by rw [h2];rfl,fun _=>by rw [h2];exact HT1.out,(HBE.out.trans (Below.mono (B:=wr.heap.size) (bl_drewN (Br wr.heap.size wr) _) (by omega)))⟩
theorem rtext_b5 (N:Nat) (H:RTextC N) (f:Fm) (least d:Nat) (Ae:Option Addr) (ce:Nat) (A:Option Addr) (c:Nat) (w:World) (hN:f.size≤N+1) (hok:f.okT d) (hws:f.wsize≤9000000) (hsz:f.size≤5000) (hl4:least≤4) (hV:FmV w Ae ce A c f) (ho:f.op=5) :
 Calls Tryz.prog 42 #[f.val Ae ce A c,.int .i64 (least:Nat)] w (FTQ f least w):=by
 obtain ⟨-,⟨hk0,hkl,hk1⟩,hkids⟩:=fokT_open hok;obtain ⟨n,hn⟩:=ex_ f.kids.length;obtain ⟨ne,hne⟩:=ex_ f.tm.kids.length;obtain ⟨F,hF⟩:=ex_ (FTQ f least w)
 have hszk:∀ k∈f.kids,k.size≤N∧k.size≤5000∧k.wsize≤9000000:=fun k hk=>by
  have h1:=Fm.sizeL_mem hk;have h2:=(Fm.wsize_open f).2 k hk
  cases f with
  | mk op e l=>rw [Fm.size] at hN hsz;simp only [Fm.kids] at h1;omega
 have hts:=(Fm.wsize_open f).1;have hcap:=hV.cap;have hcapm:=hV.capm;unfold maxLen at hcapm;obtain ⟨w1,hw1⟩:=ex_ (w.alloc (.cells #[.int .i64 5,.int .i64 f.tm.op,.int .i64 f.tm.num,.string f.tm.name,.slice Ae ne ce,.slice A n c] 35));have hb1:=bAl hw1;have hs1:w.heap.size<w1.heap.size:=by rw [hw1];simp
 have hbx:FBox w1 w.heap.size Ae ne ce A n c f:=by unfold FBox;rw [hw1,ho];exact hA_ w _
 have HXX:Hid (∀ W,Below w1.heap.size w1 W→W.cell? ⟨w.heap.size,0,none⟩=some (.int .i64 5)∧W.cell? ⟨w.heap.size,1,none⟩=some (.int .i64 f.tm.op)∧W.cell? ⟨w.heap.size,2,none⟩=some (.int .i64 f.tm.num)∧W.cell? ⟨w.heap.size,3,none⟩=some (.string f.tm.name)∧W.cell? ⟨w.heap.size,4,none⟩=some (.slice Ae ne ce)∧W.cell? ⟨w.heap.size,5,none⟩=some (.slice A n c)):=fun W hb=>by
  have hx:=hbx.below hb hs1;have h0:=hx.c0;rw [ho] at h0;exact ⟨h0,hx.c1,hx.c2,hx.c3,hx.c4,hx.c5⟩
 obtain ⟨x0,x1,x2,x3,x4,x5⟩:=HXX.out w1 (Br _ _);have hV1:=hV.below hb1 rfl;have hkl1:f.kids.length=2:=by rw [ho] at hkl;have:fkids 5=2:=rfl;omega
 obtain ⟨a,b,hk⟩:=flen2 hkl1
 rcases hV1.kids with h9 | ⟨g,off,rfl,hg,hrow⟩
 · rw [h9] at hk;cases hk
 unfold Fm.val;rw [ho,←hF,←hn,←hne];have hn1:n=2:=by rw [hn,hkl1]
 have hma:a∈f.kids:=by rw [hk];simp
 have hga:f.kids[0]?=some a:=by rw [hk];rfl
 obtain ⟨ra,hra⟩:=ex_ (frmT a 2);have hla:=frmT_len a 2
 have hcla:∀ (Ae2:Option Addr) (ce2:Nat) (A2:Option Addr) (c2:Nat) W,FmV W Ae2 ce2 A2 c2 a→Calls Tryz.prog 42 #[a.val Ae2 ce2 A2 c2,.int .i64 2] W fun e w'=>∃ s:ByteArray,e=.returned (.tuple #[.string s,.int .i64 ra.2])∧(ra.2=0→bs s=ra.1)∧Below W.heap.size W w':=fun Ae2 ce2 A2 c2 W hv=>by
  have h:=H a 2 (d+1) Ae2 ce2 A2 c2 W (hszk a hma).1 (hkids a hma) (hszk a hma).2.2 (hszk a hma).2.1 (by omega) hv;unfold FTQ at h;rw [←hra] at h;exact h
 have HCa:=Hd hcla;rw [←hra] at hla;have HLa:=Hd hla;have hmb:b∈f.kids:=by rw [hk];simp
 have hgb:f.kids[1]?=some b:=by rw [hk];rfl
 obtain ⟨rb,hrb⟩:=ex_ (frmT b 1);have hlb:=frmT_len b 1
 have hclb:∀ (Ae2:Option Addr) (ce2:Nat) (A2:Option Addr) (c2:Nat) W,FmV W Ae2 ce2 A2 c2 b→Calls Tryz.prog 42 #[b.val Ae2 ce2 A2 c2,.int .i64 1] W fun e w'=>∃ s:ByteArray,e=.returned (.tuple #[.string s,.int .i64 rb.2])∧(rb.2=0→bs s=rb.1)∧Below W.heap.size W w':=fun Ae2 ce2 A2 c2 W hv=>by
  have h:=H b 1 (d+1) Ae2 ce2 A2 c2 W (hszk b hmb).1 (hkids b hmb) (hszk b hmb).2.2 (hszk b hmb).2.1 (by omega) hv;unfold FTQ at h;rw [←hrb] at h;exact h
 have HCb:=Hd hclb;rw [←hrb] at hlb;have HLb:=Hd hlb
 have HLS:Hid (a.size+b.size+1≤f.size):=by
  have h1:=Fm.sizeL_mem hma;show _≤_
  cases f with
  | mk op0 e0 l0'=>
   simp only [Fm.kids] at hk;rw [Fm.size,hk];simp only [Fm.sizeL];omega
 have HRES:Hid (frmT f least=if ra.2≠0 then ([],ra.2) else if rb.2≠0 then ([],rb.2) else if strongF 5<least then ([40]++(openF 5++ra.1++inF 5++rb.1++closeF 5)++[41],0) else (openF 5++ra.1++inF 5++rb.1++closeF 5,0)):=by
  show _=_;have hb:(if f.op=1 then ([91]++(showTm f.tm).1++[93],(showTm f.tm).2) else frmK f.op f.kids)=(if ra.2≠0 then ([],ra.2) else (openF 5++ra.1++inF 5++rb.1++closeF 5,rb.2)):=by rw [iN (by omega),ho,hk,bar2 rfl,show leftF 5=2 from rfl,show rightF 5=1 from rfl,←hra,←hrb]
  rw [frmT_bar,hb,ho]
  by_cases h1:ra.2=0
  · simp [h1]
  · simp [h1]
 have HST:Hid (∀ W,Calls Tryz.prog 82 #[.int .i64 5] W fun e w'=>e=.returned (.int .i64 1)∧w'=W):=fun W=>by
  have h:=rfstrong_any 5 W;rw [show ((strongF 5:Nat):Int)=1 from rfl] at h;exact h
 have HROW:=Hd hrow;have HF:=Hd hF;have HB1:=Hd hb1;have HW1:=Hd hw1;have HFS:=Hd hsz;have HGa:=Hd hga;have HRa:=Hd hra;have HGb:=Hd hgb;have HRb:=Hd hrb;clear hF hb1 hw1 hV hV1 hbx hn hne hok hkids hszk hk1 hkl hk0 H hk hkl1 hrow hsz hws hN hts hga hma hra hla hcla hgb hmb hrb hlb hclb;subst hn1;go_enter Tryz.func42,Tryz.ntmps42;go_wp2_with fail;rw [←HW1.out];go_wp2_with fail;refine wp_region_still_drew 7 (by kernel_rfl) (by kernel_rfl) ?_;simp only [List.take_succ_cons,List.take_zero,List.drop_succ_cons,List.drop_zero]
 repeat still_step
 still_call (HST.out _)
 repeat still_step
 still_call (HST.out _)
 repeat still_step
 refine wpStill_nil ?_;go_wp2_with fail;obtain ⟨i0,hi,hz0,hz1,hz2⟩:=info_parts infoStr
 go_loopw [9,10,11,12] (fun sl si _ _ wr=>∃ (k:Nat) (ys:List ByteArray),k≤2∧si=.int .i64 k∧TxR w1 wr (w1.heap.size+1) 2 1 f.kids k sl ys) (fun _ i _ _ _=>2 - (intOf i).toNat)
 case atStart=>exact ⟨0,[],zl _,rfl,TxR.first (w2:=((w1.alloc (.cells #[.int .i64 1,.int .i64 2] 3)).alloc (.cells #[.int .i64 2,.int .i64 1] 3))) (((Br _ _).alloc (lr _) _).alloc (by simp) _) (by have h:=hA_ (w1.alloc (.cells #[.int .i64 1,.int .i64 2] 3)) (.cells #[.int .i64 2,.int .i64 1] 3);rw [show (w1.alloc (.cells #[.int .i64 1,.int .i64 2] 3)).heap.size=w1.heap.size+1 by simp] at h;exact h) (by simp) (by omega)⟩
 case round=>
  obtain ⟨k,ys,hk,rfl,hR⟩:=hrel;obtain ⟨sa,scap,hsv⟩:=own_shape hR.own;subst hsv;have HR:=Hd hR;have hbel:=hR.below;have hszr:=hbel.size;have hblr:=hR.blt;have y0:=hR.c0;have y1:=hR.c1;obtain ⟨x0,x1,x2,x3,x4,x5⟩:=HXX.out wr hbel;have hwwr:w.heap.size<wr.heap.size:=by omega
  have hgw:g<wr.heap.size:=by omega
  have hkc:k=0∨k=1∨k=2:=by omega
  clear x1 x2 x3 x4 hk
  rcases hkc with rfl | rfl | rfl
  · have hat:=(HROW.out.get HGa.out).below hbel rfl hg;obtain ⟨q0,q1,q2,q3,Ae2,ce2,A2,c2,q4,q5,hV2⟩:=hat.open;simp only [Nat.mul_zero,Nat.add_zero] at q0 q1 q2 q3 q4 q5;obtain ⟨n2,hn2⟩:=ex_ a.kids.length;obtain ⟨ne2,hne2⟩:=ex_ a.tm.kids.length
    have HC:Hid (∀ W,Below wr.heap.size wr W→Calls Tryz.prog 42 #[.agg #[.int .i64 a.op,.int .i64 a.tm.op,.int .i64 a.tm.num,.string a.tm.name,.slice Ae2 ne2 ce2,.slice A2 n2 c2],.int .i64 2] W fun e w'=>∃ s:ByteArray,e=.returned (.tuple #[.string s,.int .i64 ra.2])∧(ra.2=0→bs s=ra.1)∧Below W.heap.size W w'):=fun W hb=>by
     have hcall:=HCa.out Ae2 ce2 A2 c2 W (hV2.below hb rfl);unfold Fm.val at hcall;rw [←hn2,←hne2] at hcall;exact hcall
    rw [←hn2] at q5;rw [←hne2] at q4;clear hn2 hne2 hV2 hat hbel hR;go_wp2_with fail;have hbd:Below wr.heap.size wr wr.drew:=(Br _ _).drew
    go_region_held3 (fun w'=>(∀ o,w'.cell? ⟨w.heap.size,o,none⟩=wr.cell? ⟨w.heap.size,o,none⟩)∧(∀ o,w'.cell? ⟨g,o,none⟩=wr.cell? ⟨g,o,none⟩)∧(∀ o,w'.cell? ⟨w1.heap.size+1,o,none⟩=wr.cell? ⟨w1.heap.size+1,o,none⟩)∧Below wr.heap.size wr w')
     (first | (exact ⟨keep_cells (by assumption) hwwr,keep_cells (by assumption) hgw,keep_cells (by assumption) hblr,by assumption⟩) | fail)
     (first | (go_at_call 42;with_reducible refine (HC.out _ (by assumption)).mono ?_;rintro e w4 ⟨s4,rfl,hs4,hb4⟩;have hb5:=keep_step (by assumption) hb4) | fail)
    have HB5:=Hd hb5;have HBW:=Hd (HB1.out.trans ((keep_step HR.out.below hb5).mono (by omega)));have hs5:=hb5.size;have HO4:=Hd (own_keepB HR.out.own hb5);have HS4:=Hd hs4;clear hbd hb4 hb5 hs4 q0 q1 q2 q3 q4 q5 x0 x5 y0 y1
    by_cases hz:ra.2=0
    · have hy4:=HS4.out hz;have HY4:=Hd hy4;have HZ:=Hd hz;have hzb:(ra.2 != 0)=false:=by simpa using hz
      clear hy4 hz
      go_wp2_with (at_builtin;refine wpList_append_lies _ (by rfl) _ _ _ (by rfl) (w1.heap.size+1+1) 9 i0 (.string ⟨#[]⟩) 1 16 Tryz.underlying48 hi hz0 hz1 hz2 rfl (by decide) _ 0 _ (by rfl) (HO4.out.alloc _) ⟨w4.heap.size,0,none⟩ 1 1 [.string s4] (by rfl) rfl (World.news_of_block (hA_ w4 _)) (fun u hu=>by rw [List.mem_singleton.1 hu];rfl) (by decide) ?c3 ?c4 ?c5 (w4.heap.size+1) (by simp) ?_)
      case c3=>unfold maxLen;omega
      case c4=>omega
      case c5=>first | omega | (simp;omega)
      intro g' cap' w6 hown6 hgrow6 hat6 hlt6
      have hown6':w6.ownsRow (w1.heap.size+1+1) 9 1 (.slice (some ⟨g',0,none⟩) (0+1) cap') (0+1) ((ys++[s4]).map Value.string):=by
       rw [List.map_append,List.map_singleton];exact hown6
      have HR6:=Hd (TxR.next HR.out HB5.out hgrow6 hown6' HGa.out (by show (frmT a 2).2=0;rw [←HRa.out];exact HZ.out) (by show _=(frmT a 2).1;rw [←HRa.out];exact HY4.out));clear hown6 hown6' hgrow6 hat6;go_wp2_with fail
      go_roundw
      case rel=>exact ⟨0+1,ys++[s4],by omega,rfl,HR6.out⟩
      case measure=>simp [intOf]
    · have HZ:=Hd hz;have hzb:(ra.2 != 0)=true:=by simpa using hz
      clear hz;go_wp2_with fail;rw [HF.out];have h2:frmT f least=([],ra.2):=by rw [HRES.out,iP HZ.out]
      exact ⟨⟨#[]⟩,by rw [h2];rfl,fun h=>by rw [h2] at h;exact absurd h HZ.out,HBW.out⟩
  · have hat:=(HROW.out.get HGb.out).below hbel rfl hg;obtain ⟨q0,q1,q2,q3,Ae2,ce2,A2,c2,q4,q5,hV2⟩:=hat.open;rw [show off+6*1=off+1*6 by omega] at q0 q1 q2 q3 q4 q5;obtain ⟨n2,hn2⟩:=ex_ b.kids.length;obtain ⟨ne2,hne2⟩:=ex_ b.tm.kids.length
    have HC:Hid (∀ W,Below wr.heap.size wr W→Calls Tryz.prog 42 #[.agg #[.int .i64 b.op,.int .i64 b.tm.op,.int .i64 b.tm.num,.string b.tm.name,.slice Ae2 ne2 ce2,.slice A2 n2 c2],.int .i64 1] W fun e w'=>∃ s:ByteArray,e=.returned (.tuple #[.string s,.int .i64 rb.2])∧(rb.2=0→bs s=rb.1)∧Below W.heap.size W w'):=fun W hb=>by
     have hcall:=HCb.out Ae2 ce2 A2 c2 W (hV2.below hb rfl);unfold Fm.val at hcall;rw [←hn2,←hne2] at hcall;exact hcall
    rw [←hn2] at q5;rw [←hne2] at q4
    have H0a:Hid (ra.2=0):=by
     have h:=(hR.txt 0 a HGa.out (by omega)).1;show _=_;rw [HRa.out];exact h
    clear hn2 hne2 hV2 hat hbel hR;go_wp2_with fail;have hbd:Below wr.heap.size wr wr.drew:=(Br _ _).drew
    go_region_held3 (fun w'=>(∀ o,w'.cell? ⟨w.heap.size,o,none⟩=wr.cell? ⟨w.heap.size,o,none⟩)∧(∀ o,w'.cell? ⟨g,o,none⟩=wr.cell? ⟨g,o,none⟩)∧(∀ o,w'.cell? ⟨w1.heap.size+1,o,none⟩=wr.cell? ⟨w1.heap.size+1,o,none⟩)∧Below wr.heap.size wr w')
     (first | (exact ⟨keep_cells (by assumption) hwwr,keep_cells (by assumption) hgw,keep_cells (by assumption) hblr,by assumption⟩) | fail)
     (first | (go_at_call 42;with_reducible refine (HC.out _ (by assumption)).mono ?_;rintro e w4 ⟨s4,rfl,hs4,hb4⟩;have hb5:=keep_step (by assumption) hb4) | fail)
    have HB5:=Hd hb5;have HBW:=Hd (HB1.out.trans ((keep_step HR.out.below hb5).mono (by omega)));have hs5:=hb5.size;have HO4:=Hd (own_keepB HR.out.own hb5);have HS4:=Hd hs4;clear hbd hb4 hb5 hs4 q0 q1 q2 q3 q4 q5 x0 x5 y0 y1
    by_cases hz:rb.2=0
    · have hy4:=HS4.out hz;have HY4:=Hd hy4;have HZ:=Hd hz;have hzb:(rb.2 != 0)=false:=by simpa using hz
      clear hy4 hz
      go_wp2_with (at_builtin;refine wpList_append_lies _ (by rfl) _ _ _ (by rfl) (w1.heap.size+1+1) 9 i0 (.string ⟨#[]⟩) 1 16 Tryz.underlying48 hi hz0 hz1 hz2 rfl (by decide) _ 1 _ (by rfl) (HO4.out.alloc _) ⟨w4.heap.size,0,none⟩ 1 1 [.string s4] (by rfl) rfl (World.news_of_block (hA_ w4 _)) (fun u hu=>by rw [List.mem_singleton.1 hu];rfl) (by decide) ?c3 ?c4 ?c5 (w4.heap.size+1) (by simp) ?_)
      case c3=>unfold maxLen;omega
      case c4=>omega
      case c5=>first | omega | (simp;omega)
      intro g' cap' w6 hown6 hgrow6 hat6 hlt6
      have hown6':w6.ownsRow (w1.heap.size+1+1) 9 1 (.slice (some ⟨g',0,none⟩) (1+1) cap') (1+1) ((ys++[s4]).map Value.string):=by
       rw [List.map_append,List.map_singleton];exact hown6
      have HR6:=Hd (TxR.next HR.out HB5.out hgrow6 hown6' HGb.out (by show (frmT b 1).2=0;rw [←HRb.out];exact HZ.out) (by show _=(frmT b 1).1;rw [←HRb.out];exact HY4.out));clear hown6 hown6' hgrow6 hat6;go_wp2_with fail
      go_roundw
      case rel=>exact ⟨1+1,ys++[s4],by omega,rfl,HR6.out⟩
      case measure=>simp [intOf]
    · have HZ:=Hd hz;have hzb:(rb.2 != 0)=true:=by simpa using hz
      clear hz;go_wp2_with fail;rw [HF.out];have h2:frmT f least=([],rb.2):=by rw [HRES.out,iN (fun h=>h H0a.out),iP HZ.out]
      exact ⟨⟨#[]⟩,by rw [h2];rfl,fun h=>by rw [h2] at h;exact absurd h HZ.out,HBW.out⟩
  · rw [show ((2:Nat):Int)=2 from rfl];obtain ⟨A9,c9,hv9,hs9⟩:=strs_of_own (by rw [hR.len];exact hR.own);rw [hR.len] at hv9;obtain ⟨rfl,-,rfl⟩:sa=A9∧2=2∧scap=c9:=by injection hv9 with h1 h2 h3;exact ⟨h1,rfl,h3⟩
    rcases hs9 with h9 | ⟨gb,ob,rfl,hgb,hcb⟩
    · have h:=hR.len;rw [h9] at h;simp at h
    obtain ⟨h0a,va,hya,hta⟩:=hR.txt 0 a HGa.out (by omega)
    change (frmT a 2).2=0 at h0a
    change bs va=(frmT a 2).1 at hta
    rw [←HRa.out] at h0a hta;have z0:=hcb 0 (by rw [hR.len];omega);rw [show ys.getD 0 ByteArray.empty=va by simp [List.getD,hya]] at z0;have hvaz:va.size=ra.1.length:=by rw [←hta];rfl
    obtain ⟨h0b,vb,hyb,htb⟩:=hR.txt 1 b HGb.out (by omega)
    change (frmT b 1).2=0 at h0b
    change bs vb=(frmT b 1).1 at htb
    rw [←HRb.out] at h0b htb;have z1:=hcb 1 (by rw [hR.len];omega);rw [show ys.getD 1 ByteArray.empty=vb by simp [List.getD,hyb]] at z1;have hvbz:vb.size=rb.1.length:=by rw [←htb];rfl
    simp only [Nat.add_zero] at z0;obtain ⟨S0,hS0⟩:∃ S0:ByteArray,S0=va++(⟨#[32,45,62,32]⟩:ByteArray):=⟨_,rfl⟩;have szS0:S0.size=va.size+4:=by rw [hS0,bA] <;> rfl
    obtain ⟨S1,hS1⟩:∃ S1:ByteArray,S1=S0++vb:=⟨_,rfl⟩;have szS1:S1.size=S0.size+vb.size:=by rw [hS1,bA] <;> rfl
    obtain ⟨U1,hU1⟩:∃ U1:ByteArray,U1=(⟨#[40]⟩:ByteArray)++S1:=⟨_,rfl⟩;have szU1:U1.size=1+S1.size:=by rw [hU1,bA] <;> rfl
    obtain ⟨U2,hU2⟩:∃ U2:ByteArray,U2=U1++(⟨#[41]⟩:ByteArray):=⟨_,rfl⟩;have szU2:U2.size=U1.size+1:=by rw [hU2,bA] <;> rfl
    have hLa:=HLa.out;have hLb:=HLb.out;have hLS:=HLS.out;have hFS:=HFS.out;have hcatS0:=rle_run hS0 (by show va.size+4≤_;omega);have hcatS1:=rle_run hS1 (by show S0.size+vb.size≤_;omega);have hcatU1:=rle_run hU1 (by show 1+S1.size≤_;omega);have hcatU2:=rle_run hU2 (by show U1.size+1≤_;omega)
    have HT1:Hid (bs S1=openF 5++ra.1++inF 5++rb.1++closeF 5):=by
     show _=_;rw [hS1,hS0,←hta,←htb];simp [bs,openF,inF,closeF]
    have HT2:Hid (bs U2=[40]++bs S1++[41]):=by show _=_;rw [hU2,hU1];simp [bs]
    have H0a:=Hd h0a;have H0b:=Hd h0b;have HBE:=Hd (HB1.out.trans (hbel.mono (by omega)));clear hS0 szS0 hS1 szS1 hU1 szU1 hU2 szU2 h0a hya hta hvaz h0b hyb htb hvbz hLa hLS hFS hcb hv9 hbel hR y0 y1 hLb
    by_cases hsl:strongF 5<least
    · have HSL:=Hd hsl
      change (1<least) at hsl
      have hsl':((1:Int)<(least:Int)):=by omega
      clear hsl;go_wp2_with fail
      go_quiet (fail)
      go_wp2_with fail;refine (HST.out _).mono ?_;rintro e w8 ⟨rfl,hw8⟩;rw [hw8];clear hw8;go_wp2_with fail;rw [HF.out];have h2:frmT f least=([40]++(openF 5++ra.1++inF 5++rb.1++closeF 5)++[41],0):=by rw [HRES.out,iN (fun h=>h H0a.out),iN (fun h=>h H0b.out),iP HSL.out]
      exact ⟨U2,by rw [h2];rfl,fun _=>by rw [h2];exact (HT2.out.trans (by rw [HT1.out])),(HBE.out.trans (Below.mono (B:=wr.heap.size) (bl_drewN (Br wr.heap.size wr) _) (by omega)))⟩
    · have HSL:=Hd hsl
      change ¬(1<least) at hsl
      have hsl':¬((1:Int)<(least:Int)):=by omega
      clear hsl;go_wp2_with fail
      go_quiet (fail)
      go_wp2_with fail;refine (HST.out _).mono ?_;rintro e w8 ⟨rfl,hw8⟩;rw [hw8];clear hw8;go_wp2_with fail;rw [HF.out];have h2:frmT f least=((openF 5++ra.1++inF 5++rb.1++closeF 5),0):=by rw [HRES.out,iN (fun h=>h H0a.out),iN (fun h=>h H0b.out),iN HSL.out]
      exact ⟨S1,by rw [h2];rfl,fun _=>by rw [h2];exact HT1.out,(HBE.out.trans (Below.mono (B:=wr.heap.size) (bl_drewN (Br wr.heap.size wr) _) (by omega)))⟩
theorem rtext_b9 (N:Nat) (H:RTextC N) (f:Fm) (least d:Nat) (Ae:Option Addr) (ce:Nat) (A:Option Addr) (c:Nat) (w:World) (hN:f.size≤N+1) (hok:f.okT d) (hws:f.wsize≤9000000) (hsz:f.size≤5000) (hl4:least≤4) (hV:FmV w Ae ce A c f) (ho:f.op=9) :
 Calls Tryz.prog 42 #[f.val Ae ce A c,.int .i64 (least:Nat)] w (FTQ f least w):=by
 obtain ⟨-,⟨hk0,hkl,hk1⟩,hkids⟩:=fokT_open hok;obtain ⟨n,hn⟩:=ex_ f.kids.length;obtain ⟨ne,hne⟩:=ex_ f.tm.kids.length;obtain ⟨F,hF⟩:=ex_ (FTQ f least w)
 have hszk:∀ k∈f.kids,k.size≤N∧k.size≤5000∧k.wsize≤9000000:=fun k hk=>by
  have h1:=Fm.sizeL_mem hk;have h2:=(Fm.wsize_open f).2 k hk
  cases f with
  | mk op e l=>rw [Fm.size] at hN hsz;simp only [Fm.kids] at h1;omega
 have hts:=(Fm.wsize_open f).1;have hcap:=hV.cap;have hcapm:=hV.capm;unfold maxLen at hcapm;obtain ⟨w1,hw1⟩:=ex_ (w.alloc (.cells #[.int .i64 9,.int .i64 f.tm.op,.int .i64 f.tm.num,.string f.tm.name,.slice Ae ne ce,.slice A n c] 35));have hb1:=bAl hw1;have hs1:w.heap.size<w1.heap.size:=by rw [hw1];simp
 have hbx:FBox w1 w.heap.size Ae ne ce A n c f:=by unfold FBox;rw [hw1,ho];exact hA_ w _
 have HXX:Hid (∀ W,Below w1.heap.size w1 W→W.cell? ⟨w.heap.size,0,none⟩=some (.int .i64 9)∧W.cell? ⟨w.heap.size,1,none⟩=some (.int .i64 f.tm.op)∧W.cell? ⟨w.heap.size,2,none⟩=some (.int .i64 f.tm.num)∧W.cell? ⟨w.heap.size,3,none⟩=some (.string f.tm.name)∧W.cell? ⟨w.heap.size,4,none⟩=some (.slice Ae ne ce)∧W.cell? ⟨w.heap.size,5,none⟩=some (.slice A n c)):=fun W hb=>by
  have hx:=hbx.below hb hs1;have h0:=hx.c0;rw [ho] at h0;exact ⟨h0,hx.c1,hx.c2,hx.c3,hx.c4,hx.c5⟩
 obtain ⟨x0,x1,x2,x3,x4,x5⟩:=HXX.out w1 (Br _ _);have hV1:=hV.below hb1 rfl;have hkl1:f.kids.length=2:=by rw [ho] at hkl;have:fkids 9=2:=rfl;omega
 obtain ⟨a,b,hk⟩:=flen2 hkl1
 rcases hV1.kids with h9 | ⟨g,off,rfl,hg,hrow⟩
 · rw [h9] at hk;cases hk
 unfold Fm.val;rw [ho,←hF,←hn,←hne];have hn1:n=2:=by rw [hn,hkl1]
 have hma:a∈f.kids:=by rw [hk];simp
 have hga:f.kids[0]?=some a:=by rw [hk];rfl
 obtain ⟨ra,hra⟩:=ex_ (frmT a 1);have hla:=frmT_len a 1
 have hcla:∀ (Ae2:Option Addr) (ce2:Nat) (A2:Option Addr) (c2:Nat) W,FmV W Ae2 ce2 A2 c2 a→Calls Tryz.prog 42 #[a.val Ae2 ce2 A2 c2,.int .i64 1] W fun e w'=>∃ s:ByteArray,e=.returned (.tuple #[.string s,.int .i64 ra.2])∧(ra.2=0→bs s=ra.1)∧Below W.heap.size W w':=fun Ae2 ce2 A2 c2 W hv=>by
  have h:=H a 1 (d+1) Ae2 ce2 A2 c2 W (hszk a hma).1 (hkids a hma) (hszk a hma).2.2 (hszk a hma).2.1 (by omega) hv;unfold FTQ at h;rw [←hra] at h;exact h
 have HCa:=Hd hcla;rw [←hra] at hla;have HLa:=Hd hla;have hmb:b∈f.kids:=by rw [hk];simp
 have hgb:f.kids[1]?=some b:=by rw [hk];rfl
 obtain ⟨rb,hrb⟩:=ex_ (frmT b 1);have hlb:=frmT_len b 1
 have hclb:∀ (Ae2:Option Addr) (ce2:Nat) (A2:Option Addr) (c2:Nat) W,FmV W Ae2 ce2 A2 c2 b→Calls Tryz.prog 42 #[b.val Ae2 ce2 A2 c2,.int .i64 1] W fun e w'=>∃ s:ByteArray,e=.returned (.tuple #[.string s,.int .i64 rb.2])∧(rb.2=0→bs s=rb.1)∧Below W.heap.size W w':=fun Ae2 ce2 A2 c2 W hv=>by
  have h:=H b 1 (d+1) Ae2 ce2 A2 c2 W (hszk b hmb).1 (hkids b hmb) (hszk b hmb).2.2 (hszk b hmb).2.1 (by omega) hv;unfold FTQ at h;rw [←hrb] at h;exact h
 have HCb:=Hd hclb;rw [←hrb] at hlb;have HLb:=Hd hlb
 have HLS:Hid (a.size+b.size+1≤f.size):=by
  have h1:=Fm.sizeL_mem hma;show _≤_
  cases f with
  | mk op0 e0 l0'=>
   simp only [Fm.kids] at hk;rw [Fm.size,hk];simp only [Fm.sizeL];omega
 have HRES:Hid (frmT f least=if ra.2≠0 then ([],ra.2) else if rb.2≠0 then ([],rb.2) else if strongF 9<least then ([40]++(openF 9++ra.1++inF 9++rb.1++closeF 9)++[41],0) else (openF 9++ra.1++inF 9++rb.1++closeF 9,0)):=by
  show _=_;have hb:(if f.op=1 then ([91]++(showTm f.tm).1++[93],(showTm f.tm).2) else frmK f.op f.kids)=(if ra.2≠0 then ([],ra.2) else (openF 9++ra.1++inF 9++rb.1++closeF 9,rb.2)):=by rw [iN (by omega),ho,hk,bar2 rfl,show leftF 9=1 from rfl,show rightF 9=1 from rfl,←hra,←hrb]
  rw [frmT_bar,hb,ho]
  by_cases h1:ra.2=0
  · simp [h1]
  · simp [h1]
 have HST:Hid (∀ W,Calls Tryz.prog 82 #[.int .i64 9] W fun e w'=>e=.returned (.int .i64 4)∧w'=W):=fun W=>by
  have h:=rfstrong_any 9 W;rw [show ((strongF 9:Nat):Int)=4 from rfl] at h;exact h
 have HROW:=Hd hrow;have HF:=Hd hF;have HB1:=Hd hb1;have HW1:=Hd hw1;have HFS:=Hd hsz;have HGa:=Hd hga;have HRa:=Hd hra;have HGb:=Hd hgb;have HRb:=Hd hrb;clear hF hb1 hw1 hV hV1 hbx hn hne hok hkids hszk hk1 hkl hk0 H hk hkl1 hrow hsz hws hN hts hga hma hra hla hcla hgb hmb hrb hlb hclb;subst hn1;go_enter Tryz.func42,Tryz.ntmps42;go_wp2_with fail;rw [←HW1.out];go_wp2_with fail;refine wp_region_still_drew 7 (by kernel_rfl) (by kernel_rfl) ?_;simp only [List.take_succ_cons,List.take_zero,List.drop_succ_cons,List.drop_zero]
 repeat still_step
 still_call (HST.out _)
 repeat still_step
 still_call (HST.out _)
 repeat still_step
 refine wpStill_nil ?_;go_wp2_with fail;obtain ⟨i0,hi,hz0,hz1,hz2⟩:=info_parts infoStr
 go_loopw [9,10,11,12] (fun sl si _ _ wr=>∃ (k:Nat) (ys:List ByteArray),k≤2∧si=.int .i64 k∧TxR w1 wr (w1.heap.size+1) 1 1 f.kids k sl ys) (fun _ i _ _ _=>2 - (intOf i).toNat)
 case atStart=>exact ⟨0,[],zl _,rfl,TxR.first (w2:=((w1.alloc (.cells #[.int .i64 4,.int .i64 5] 3)).alloc (.cells #[.int .i64 1,.int .i64 1] 3))) (((Br _ _).alloc (lr _) _).alloc (by simp) _) (by have h:=hA_ (w1.alloc (.cells #[.int .i64 4,.int .i64 5] 3)) (.cells #[.int .i64 1,.int .i64 1] 3);rw [show (w1.alloc (.cells #[.int .i64 4,.int .i64 5] 3)).heap.size=w1.heap.size+1 by simp] at h;exact h) (by simp) (by omega)⟩
 case round=>
  obtain ⟨k,ys,hk,rfl,hR⟩:=hrel;obtain ⟨sa,scap,hsv⟩:=own_shape hR.own;subst hsv;have HR:=Hd hR;have hbel:=hR.below;have hszr:=hbel.size;have hblr:=hR.blt;have y0:=hR.c0;have y1:=hR.c1;obtain ⟨x0,x1,x2,x3,x4,x5⟩:=HXX.out wr hbel;have hwwr:w.heap.size<wr.heap.size:=by omega
  have hgw:g<wr.heap.size:=by omega
  have hkc:k=0∨k=1∨k=2:=by omega
  clear x1 x2 x3 x4 hk
  rcases hkc with rfl | rfl | rfl
  · have hat:=(HROW.out.get HGa.out).below hbel rfl hg;obtain ⟨q0,q1,q2,q3,Ae2,ce2,A2,c2,q4,q5,hV2⟩:=hat.open;simp only [Nat.mul_zero,Nat.add_zero] at q0 q1 q2 q3 q4 q5;obtain ⟨n2,hn2⟩:=ex_ a.kids.length;obtain ⟨ne2,hne2⟩:=ex_ a.tm.kids.length
    have HC:Hid (∀ W,Below wr.heap.size wr W→Calls Tryz.prog 42 #[.agg #[.int .i64 a.op,.int .i64 a.tm.op,.int .i64 a.tm.num,.string a.tm.name,.slice Ae2 ne2 ce2,.slice A2 n2 c2],.int .i64 1] W fun e w'=>∃ s:ByteArray,e=.returned (.tuple #[.string s,.int .i64 ra.2])∧(ra.2=0→bs s=ra.1)∧Below W.heap.size W w'):=fun W hb=>by
     have hcall:=HCa.out Ae2 ce2 A2 c2 W (hV2.below hb rfl);unfold Fm.val at hcall;rw [←hn2,←hne2] at hcall;exact hcall
    rw [←hn2] at q5;rw [←hne2] at q4;clear hn2 hne2 hV2 hat hbel hR;go_wp2_with fail;have hbd:Below wr.heap.size wr wr.drew:=(Br _ _).drew
    go_region_held3 (fun w'=>(∀ o,w'.cell? ⟨w.heap.size,o,none⟩=wr.cell? ⟨w.heap.size,o,none⟩)∧(∀ o,w'.cell? ⟨g,o,none⟩=wr.cell? ⟨g,o,none⟩)∧(∀ o,w'.cell? ⟨w1.heap.size+1,o,none⟩=wr.cell? ⟨w1.heap.size+1,o,none⟩)∧Below wr.heap.size wr w')
     (first | (exact ⟨keep_cells (by assumption) hwwr,keep_cells (by assumption) hgw,keep_cells (by assumption) hblr,by assumption⟩) | fail)
     (first | (go_at_call 42;with_reducible refine (HC.out _ (by assumption)).mono ?_;rintro e w4 ⟨s4,rfl,hs4,hb4⟩;have hb5:=keep_step (by assumption) hb4) | fail)
    have HB5:=Hd hb5;have HBW:=Hd (HB1.out.trans ((keep_step HR.out.below hb5).mono (by omega)));have hs5:=hb5.size;have HO4:=Hd (own_keepB HR.out.own hb5);have HS4:=Hd hs4;clear hbd hb4 hb5 hs4 q0 q1 q2 q3 q4 q5 x0 x5 y0 y1
    by_cases hz:ra.2=0
    · have hy4:=HS4.out hz;have HY4:=Hd hy4;have HZ:=Hd hz;have hzb:(ra.2 != 0)=false:=by simpa using hz
      clear hy4 hz
      go_wp2_with (at_builtin;refine wpList_append_lies _ (by rfl) _ _ _ (by rfl) (w1.heap.size+1+1) 9 i0 (.string ⟨#[]⟩) 1 16 Tryz.underlying48 hi hz0 hz1 hz2 rfl (by decide) _ 0 _ (by rfl) (HO4.out.alloc _) ⟨w4.heap.size,0,none⟩ 1 1 [.string s4] (by rfl) rfl (World.news_of_block (hA_ w4 _)) (fun u hu=>by rw [List.mem_singleton.1 hu];rfl) (by decide) ?c3 ?c4 ?c5 (w4.heap.size+1) (by simp) ?_)
      case c3=>unfold maxLen;omega
      case c4=>omega
      case c5=>first | omega | (simp;omega)
      intro g' cap' w6 hown6 hgrow6 hat6 hlt6
      have hown6':w6.ownsRow (w1.heap.size+1+1) 9 1 (.slice (some ⟨g',0,none⟩) (0+1) cap') (0+1) ((ys++[s4]).map Value.string):=by
       rw [List.map_append,List.map_singleton];exact hown6
      have HR6:=Hd (TxR.next HR.out HB5.out hgrow6 hown6' HGa.out (by show (frmT a 1).2=0;rw [←HRa.out];exact HZ.out) (by show _=(frmT a 1).1;rw [←HRa.out];exact HY4.out));clear hown6 hown6' hgrow6 hat6;go_wp2_with fail
      go_roundw
      case rel=>exact ⟨0+1,ys++[s4],by omega,rfl,HR6.out⟩
      case measure=>simp [intOf]
    · have HZ:=Hd hz;have hzb:(ra.2 != 0)=true:=by simpa using hz
      clear hz;go_wp2_with fail;rw [HF.out];have h2:frmT f least=([],ra.2):=by rw [HRES.out,iP HZ.out]
      exact ⟨⟨#[]⟩,by rw [h2];rfl,fun h=>by rw [h2] at h;exact absurd h HZ.out,HBW.out⟩
  · have hat:=(HROW.out.get HGb.out).below hbel rfl hg;obtain ⟨q0,q1,q2,q3,Ae2,ce2,A2,c2,q4,q5,hV2⟩:=hat.open;rw [show off+6*1=off+1*6 by omega] at q0 q1 q2 q3 q4 q5;obtain ⟨n2,hn2⟩:=ex_ b.kids.length;obtain ⟨ne2,hne2⟩:=ex_ b.tm.kids.length
    have HC:Hid (∀ W,Below wr.heap.size wr W→Calls Tryz.prog 42 #[.agg #[.int .i64 b.op,.int .i64 b.tm.op,.int .i64 b.tm.num,.string b.tm.name,.slice Ae2 ne2 ce2,.slice A2 n2 c2],.int .i64 1] W fun e w'=>∃ s:ByteArray,e=.returned (.tuple #[.string s,.int .i64 rb.2])∧(rb.2=0→bs s=rb.1)∧Below W.heap.size W w'):=fun W hb=>by
     have hcall:=HCb.out Ae2 ce2 A2 c2 W (hV2.below hb rfl);unfold Fm.val at hcall;rw [←hn2,←hne2] at hcall;exact hcall
    rw [←hn2] at q5;rw [←hne2] at q4
    have H0a:Hid (ra.2=0):=by
     have h:=(hR.txt 0 a HGa.out (by omega)).1;show _=_;rw [HRa.out];exact h
    clear hn2 hne2 hV2 hat hbel hR;go_wp2_with fail;have hbd:Below wr.heap.size wr wr.drew:=(Br _ _).drew
    go_region_held3 (fun w'=>(∀ o,w'.cell? ⟨w.heap.size,o,none⟩=wr.cell? ⟨w.heap.size,o,none⟩)∧(∀ o,w'.cell? ⟨g,o,none⟩=wr.cell? ⟨g,o,none⟩)∧(∀ o,w'.cell? ⟨w1.heap.size+1,o,none⟩=wr.cell? ⟨w1.heap.size+1,o,none⟩)∧Below wr.heap.size wr w')
     (first | (exact ⟨keep_cells (by assumption) hwwr,keep_cells (by assumption) hgw,keep_cells (by assumption) hblr,by assumption⟩) | fail)
     (first | (go_at_call 42;with_reducible refine (HC.out _ (by assumption)).mono ?_;rintro e w4 ⟨s4,rfl,hs4,hb4⟩;have hb5:=keep_step (by assumption) hb4) | fail)
    have HB5:=Hd hb5;have HBW:=Hd (HB1.out.trans ((keep_step HR.out.below hb5).mono (by omega)));have hs5:=hb5.size;have HO4:=Hd (own_keepB HR.out.own hb5);have HS4:=Hd hs4;clear hbd hb4 hb5 hs4 q0 q1 q2 q3 q4 q5 x0 x5 y0 y1
    by_cases hz:rb.2=0
    · have hy4:=HS4.out hz;have HY4:=Hd hy4;have HZ:=Hd hz;have hzb:(rb.2 != 0)=false:=by simpa using hz
      clear hy4 hz
      go_wp2_with (at_builtin;refine wpList_append_lies _ (by rfl) _ _ _ (by rfl) (w1.heap.size+1+1) 9 i0 (.string ⟨#[]⟩) 1 16 Tryz.underlying48 hi hz0 hz1 hz2 rfl (by decide) _ 1 _ (by rfl) (HO4.out.alloc _) ⟨w4.heap.size,0,none⟩ 1 1 [.string s4] (by rfl) rfl (World.news_of_block (hA_ w4 _)) (fun u hu=>by rw [List.mem_singleton.1 hu];rfl) (by decide) ?c3 ?c4 ?c5 (w4.heap.size+1) (by simp) ?_)
      case c3=>unfold maxLen;omega
      case c4=>omega
      case c5=>first | omega | (simp;omega)
      intro g' cap' w6 hown6 hgrow6 hat6 hlt6
      have hown6':w6.ownsRow (w1.heap.size+1+1) 9 1 (.slice (some ⟨g',0,none⟩) (1+1) cap') (1+1) ((ys++[s4]).map Value.string):=by
       rw [List.map_append,List.map_singleton];exact hown6
      have HR6:=Hd (TxR.next HR.out HB5.out hgrow6 hown6' HGb.out (by show (frmT b 1).2=0;rw [←HRb.out];exact HZ.out) (by show _=(frmT b 1).1;rw [←HRb.out];exact HY4.out));clear hown6 hown6' hgrow6 hat6;go_wp2_with fail
      go_roundw
      case rel=>exact ⟨1+1,ys++[s4],by omega,rfl,HR6.out⟩
      case measure=>simp [intOf]
    · have HZ:=Hd hz;have hzb:(rb.2 != 0)=true:=by simpa using hz
      clear hz;go_wp2_with fail;rw [HF.out];have h2:frmT f least=([],rb.2):=by rw [HRES.out,iN (fun h=>h H0a.out),iP HZ.out]
      exact ⟨⟨#[]⟩,by rw [h2];rfl,fun h=>by rw [h2] at h;exact absurd h HZ.out,HBW.out⟩
  · rw [show ((2:Nat):Int)=2 from rfl];obtain ⟨A9,c9,hv9,hs9⟩:=strs_of_own (by rw [hR.len];exact hR.own);rw [hR.len] at hv9;obtain ⟨rfl,-,rfl⟩:sa=A9∧2=2∧scap=c9:=by injection hv9 with h1 h2 h3;exact ⟨h1,rfl,h3⟩
    rcases hs9 with h9 | ⟨gb,ob,rfl,hgb,hcb⟩
    · have h:=hR.len;rw [h9] at h;simp at h
    obtain ⟨h0a,va,hya,hta⟩:=hR.txt 0 a HGa.out (by omega)
    change (frmT a 1).2=0 at h0a
    change bs va=(frmT a 1).1 at hta
    rw [←HRa.out] at h0a hta;have z0:=hcb 0 (by rw [hR.len];omega);rw [show ys.getD 0 ByteArray.empty=va by simp [List.getD,hya]] at z0;have hvaz:va.size=ra.1.length:=by rw [←hta];rfl
    obtain ⟨h0b,vb,hyb,htb⟩:=hR.txt 1 b HGb.out (by omega)
    change (frmT b 1).2=0 at h0b
    change bs vb=(frmT b 1).1 at htb
    rw [←HRb.out] at h0b htb;have z1:=hcb 1 (by rw [hR.len];omega);rw [show ys.getD 1 ByteArray.empty=vb by simp [List.getD,hyb]] at z1;have hvbz:vb.size=rb.1.length:=by rw [←htb];rfl
    simp only [Nat.add_zero] at z0;obtain ⟨T1,hT1⟩:∃ T1:ByteArray,T1=(⟨#[69,91]⟩:ByteArray)++va:=⟨_,rfl⟩;have szT1:T1.size=2+va.size:=by rw [hT1,bA] <;> rfl
    obtain ⟨T2,hT2⟩:∃ T2:ByteArray,T2=T1++(⟨#[32,85,32]⟩:ByteArray):=⟨_,rfl⟩;have szT2:T2.size=T1.size+3:=by rw [hT2,bA] <;> rfl
    obtain ⟨T3,hT3⟩:∃ T3:ByteArray,T3=T2++vb:=⟨_,rfl⟩;have szT3:T3.size=T2.size+vb.size:=by rw [hT3,bA] <;> rfl
    obtain ⟨S1,hS1⟩:∃ S1:ByteArray,S1=T3++(⟨#[93]⟩:ByteArray):=⟨_,rfl⟩;have szS1:S1.size=T3.size+1:=by rw [hS1,bA] <;> rfl
    obtain ⟨U1,hU1⟩:∃ U1:ByteArray,U1=(⟨#[40]⟩:ByteArray)++S1:=⟨_,rfl⟩;have szU1:U1.size=1+S1.size:=by rw [hU1,bA] <;> rfl
    obtain ⟨U2,hU2⟩:∃ U2:ByteArray,U2=U1++(⟨#[41]⟩:ByteArray):=⟨_,rfl⟩;have szU2:U2.size=U1.size+1:=by rw [hU2,bA] <;> rfl
    have hLa:=HLa.out;have hLb:=HLb.out;have hLS:=HLS.out;have hFS:=HFS.out;have hcatT1:=rle_run hT1 (by show 2+va.size≤_;omega);have hcatT2:=rle_run hT2 (by show T1.size+3≤_;omega);have hcatT3:=rle_run hT3 (by show T2.size+vb.size≤_;omega);have hcatS1:=rle_run hS1 (by show T3.size+1≤_;omega);have hcatU1:=rle_run hU1 (by show 1+S1.size≤_;omega);have hcatU2:=rle_run hU2 (by show U1.size+1≤_;omega)
    have HT1:Hid (bs S1=openF 9++ra.1++inF 9++rb.1++closeF 9):=by
     show _=_;rw [hS1,hT3,hT2,hT1,←hta,←htb];simp [bs,openF,inF,closeF]
    have HT2:Hid (bs U2=[40]++bs S1++[41]):=by show _=_;rw [hU2,hU1];simp [bs]
    have H0a:=Hd h0a;have H0b:=Hd h0b;have HBE:=Hd (HB1.out.trans (hbel.mono (by omega)));clear hT1 szT1 hT2 szT2 hT3 szT3 hS1 szS1 hU1 szU1 hU2 szU2 h0a hya hta hvaz h0b hyb htb hvbz hLa hLS hFS hcb hv9 hbel hR y0 y1 hLb
    by_cases hsl:strongF 9<least
    · exfalso
      change 4<least at hsl
      omega
    · have HSL:=Hd hsl
      change ¬(4<least) at hsl
      have hsl':¬((4:Int)<(least:Int)):=by omega
      clear hsl;go_wp2_with fail
      go_quiet (fail)
      go_wp2_with fail;refine (HST.out _).mono ?_;rintro e w8 ⟨rfl,hw8⟩;rw [hw8];clear hw8;go_wp2_with fail;rw [HF.out];have h2:frmT f least=((openF 9++ra.1++inF 9++rb.1++closeF 9),0):=by rw [HRES.out,iN (fun h=>h H0a.out),iN (fun h=>h H0b.out),iN HSL.out]
      exact ⟨S1,by rw [h2];rfl,fun _=>by rw [h2];exact HT1.out,(HBE.out.trans (Below.mono (B:=wr.heap.size) (bl_drewN (Br wr.heap.size wr) _) (by omega)))⟩
theorem rtext_b13 (N:Nat) (H:RTextC N) (f:Fm) (least d:Nat) (Ae:Option Addr) (ce:Nat) (A:Option Addr) (c:Nat) (w:World) (hN:f.size≤N+1) (hok:f.okT d) (hws:f.wsize≤9000000) (hsz:f.size≤5000) (hl4:least≤4) (hV:FmV w Ae ce A c f) (ho:f.op=13) :
 Calls Tryz.prog 42 #[f.val Ae ce A c,.int .i64 (least:Nat)] w (FTQ f least w):=by
 obtain ⟨-,⟨hk0,hkl,hk1⟩,hkids⟩:=fokT_open hok;obtain ⟨n,hn⟩:=ex_ f.kids.length;obtain ⟨ne,hne⟩:=ex_ f.tm.kids.length;obtain ⟨F,hF⟩:=ex_ (FTQ f least w)
 have hszk:∀ k∈f.kids,k.size≤N∧k.size≤5000∧k.wsize≤9000000:=fun k hk=>by
  have h1:=Fm.sizeL_mem hk;have h2:=(Fm.wsize_open f).2 k hk
  cases f with
  | mk op e l=>rw [Fm.size] at hN hsz;simp only [Fm.kids] at h1;omega
 have hts:=(Fm.wsize_open f).1;have hcap:=hV.cap;have hcapm:=hV.capm;unfold maxLen at hcapm;obtain ⟨w1,hw1⟩:=ex_ (w.alloc (.cells #[.int .i64 13,.int .i64 f.tm.op,.int .i64 f.tm.num,.string f.tm.name,.slice Ae ne ce,.slice A n c] 35));have hb1:=bAl hw1;have hs1:w.heap.size<w1.heap.size:=by rw [hw1];simp
 have hbx:FBox w1 w.heap.size Ae ne ce A n c f:=by unfold FBox;rw [hw1,ho];exact hA_ w _
 have HXX:Hid (∀ W,Below w1.heap.size w1 W→W.cell? ⟨w.heap.size,0,none⟩=some (.int .i64 13)∧W.cell? ⟨w.heap.size,1,none⟩=some (.int .i64 f.tm.op)∧W.cell? ⟨w.heap.size,2,none⟩=some (.int .i64 f.tm.num)∧W.cell? ⟨w.heap.size,3,none⟩=some (.string f.tm.name)∧W.cell? ⟨w.heap.size,4,none⟩=some (.slice Ae ne ce)∧W.cell? ⟨w.heap.size,5,none⟩=some (.slice A n c)):=fun W hb=>by
  have hx:=hbx.below hb hs1;have h0:=hx.c0;rw [ho] at h0;exact ⟨h0,hx.c1,hx.c2,hx.c3,hx.c4,hx.c5⟩
 obtain ⟨x0,x1,x2,x3,x4,x5⟩:=HXX.out w1 (Br _ _);have hV1:=hV.below hb1 rfl;have hkl1:f.kids.length=2:=by rw [ho] at hkl;have:fkids 13=2:=rfl;omega
 obtain ⟨a,b,hk⟩:=flen2 hkl1
 rcases hV1.kids with h9 | ⟨g,off,rfl,hg,hrow⟩
 · rw [h9] at hk;cases hk
 unfold Fm.val;rw [ho,←hF,←hn,←hne];have hn1:n=2:=by rw [hn,hkl1]
 have hma:a∈f.kids:=by rw [hk];simp
 have hga:f.kids[0]?=some a:=by rw [hk];rfl
 obtain ⟨ra,hra⟩:=ex_ (frmT a 1);have hla:=frmT_len a 1
 have hcla:∀ (Ae2:Option Addr) (ce2:Nat) (A2:Option Addr) (c2:Nat) W,FmV W Ae2 ce2 A2 c2 a→Calls Tryz.prog 42 #[a.val Ae2 ce2 A2 c2,.int .i64 1] W fun e w'=>∃ s:ByteArray,e=.returned (.tuple #[.string s,.int .i64 ra.2])∧(ra.2=0→bs s=ra.1)∧Below W.heap.size W w':=fun Ae2 ce2 A2 c2 W hv=>by
  have h:=H a 1 (d+1) Ae2 ce2 A2 c2 W (hszk a hma).1 (hkids a hma) (hszk a hma).2.2 (hszk a hma).2.1 (by omega) hv;unfold FTQ at h;rw [←hra] at h;exact h
 have HCa:=Hd hcla;rw [←hra] at hla;have HLa:=Hd hla;have hmb:b∈f.kids:=by rw [hk];simp
 have hgb:f.kids[1]?=some b:=by rw [hk];rfl
 obtain ⟨rb,hrb⟩:=ex_ (frmT b 1);have hlb:=frmT_len b 1
 have hclb:∀ (Ae2:Option Addr) (ce2:Nat) (A2:Option Addr) (c2:Nat) W,FmV W Ae2 ce2 A2 c2 b→Calls Tryz.prog 42 #[b.val Ae2 ce2 A2 c2,.int .i64 1] W fun e w'=>∃ s:ByteArray,e=.returned (.tuple #[.string s,.int .i64 rb.2])∧(rb.2=0→bs s=rb.1)∧Below W.heap.size W w':=fun Ae2 ce2 A2 c2 W hv=>by
  have h:=H b 1 (d+1) Ae2 ce2 A2 c2 W (hszk b hmb).1 (hkids b hmb) (hszk b hmb).2.2 (hszk b hmb).2.1 (by omega) hv;unfold FTQ at h;rw [←hrb] at h;exact h
 have HCb:=Hd hclb;rw [←hrb] at hlb;have HLb:=Hd hlb
 have HLS:Hid (a.size+b.size+1≤f.size):=by
  have h1:=Fm.sizeL_mem hma;show _≤_
  cases f with
  | mk op0 e0 l0'=>
   simp only [Fm.kids] at hk;rw [Fm.size,hk];simp only [Fm.sizeL];omega
 have HRES:Hid (frmT f least=if ra.2≠0 then ([],ra.2) else if rb.2≠0 then ([],rb.2) else if strongF 13<least then ([40]++(openF 13++ra.1++inF 13++rb.1++closeF 13)++[41],0) else (openF 13++ra.1++inF 13++rb.1++closeF 13,0)):=by
  show _=_;have hb:(if f.op=1 then ([91]++(showTm f.tm).1++[93],(showTm f.tm).2) else frmK f.op f.kids)=(if ra.2≠0 then ([],ra.2) else (openF 13++ra.1++inF 13++rb.1++closeF 13,rb.2)):=by rw [iN (by omega),ho,hk,bar2 rfl,show leftF 13=1 from rfl,show rightF 13=1 from rfl,←hra,←hrb]
  rw [frmT_bar,hb,ho]
  by_cases h1:ra.2=0
  · simp [h1]
  · simp [h1]
 have HST:Hid (∀ W,Calls Tryz.prog 82 #[.int .i64 13] W fun e w'=>e=.returned (.int .i64 4)∧w'=W):=fun W=>by
  have h:=rfstrong_any 13 W;rw [show ((strongF 13:Nat):Int)=4 from rfl] at h;exact h
 have HROW:=Hd hrow;have HF:=Hd hF;have HB1:=Hd hb1;have HW1:=Hd hw1;have HFS:=Hd hsz;have HGa:=Hd hga;have HRa:=Hd hra;have HGb:=Hd hgb;have HRb:=Hd hrb;clear hF hb1 hw1 hV hV1 hbx hn hne hok hkids hszk hk1 hkl hk0 H hk hkl1 hrow hsz hws hN hts hga hma hra hla hcla hgb hmb hrb hlb hclb;subst hn1;go_enter Tryz.func42,Tryz.ntmps42;go_wp2_with fail;rw [←HW1.out];go_wp2_with fail;refine wp_region_still_drew 7 (by kernel_rfl) (by kernel_rfl) ?_;simp only [List.take_succ_cons,List.take_zero,List.drop_succ_cons,List.drop_zero]
 repeat still_step
 still_call (HST.out _)
 repeat still_step
 still_call (HST.out _)
 repeat still_step
 refine wpStill_nil ?_;go_wp2_with fail;obtain ⟨i0,hi,hz0,hz1,hz2⟩:=info_parts infoStr
 go_loopw [9,10,11,12] (fun sl si _ _ wr=>∃ (k:Nat) (ys:List ByteArray),k≤2∧si=.int .i64 k∧TxR w1 wr (w1.heap.size+1) 1 1 f.kids k sl ys) (fun _ i _ _ _=>2 - (intOf i).toNat)
 case atStart=>exact ⟨0,[],zl _,rfl,TxR.first (w2:=((w1.alloc (.cells #[.int .i64 4,.int .i64 5] 3)).alloc (.cells #[.int .i64 1,.int .i64 1] 3))) (((Br _ _).alloc (lr _) _).alloc (by simp) _) (by have h:=hA_ (w1.alloc (.cells #[.int .i64 4,.int .i64 5] 3)) (.cells #[.int .i64 1,.int .i64 1] 3);rw [show (w1.alloc (.cells #[.int .i64 4,.int .i64 5] 3)).heap.size=w1.heap.size+1 by simp] at h;exact h) (by simp) (by omega)⟩
 case round=>
  obtain ⟨k,ys,hk,rfl,hR⟩:=hrel;obtain ⟨sa,scap,hsv⟩:=own_shape hR.own;subst hsv;have HR:=Hd hR;have hbel:=hR.below;have hszr:=hbel.size;have hblr:=hR.blt;have y0:=hR.c0;have y1:=hR.c1;obtain ⟨x0,x1,x2,x3,x4,x5⟩:=HXX.out wr hbel;have hwwr:w.heap.size<wr.heap.size:=by omega
  have hgw:g<wr.heap.size:=by omega
  have hkc:k=0∨k=1∨k=2:=by omega
  clear x1 x2 x3 x4 hk
  rcases hkc with rfl | rfl | rfl
  · have hat:=(HROW.out.get HGa.out).below hbel rfl hg;obtain ⟨q0,q1,q2,q3,Ae2,ce2,A2,c2,q4,q5,hV2⟩:=hat.open;simp only [Nat.mul_zero,Nat.add_zero] at q0 q1 q2 q3 q4 q5;obtain ⟨n2,hn2⟩:=ex_ a.kids.length;obtain ⟨ne2,hne2⟩:=ex_ a.tm.kids.length
    have HC:Hid (∀ W,Below wr.heap.size wr W→Calls Tryz.prog 42 #[.agg #[.int .i64 a.op,.int .i64 a.tm.op,.int .i64 a.tm.num,.string a.tm.name,.slice Ae2 ne2 ce2,.slice A2 n2 c2],.int .i64 1] W fun e w'=>∃ s:ByteArray,e=.returned (.tuple #[.string s,.int .i64 ra.2])∧(ra.2=0→bs s=ra.1)∧Below W.heap.size W w'):=fun W hb=>by
     have hcall:=HCa.out Ae2 ce2 A2 c2 W (hV2.below hb rfl);unfold Fm.val at hcall;rw [←hn2,←hne2] at hcall;exact hcall
    rw [←hn2] at q5;rw [←hne2] at q4;clear hn2 hne2 hV2 hat hbel hR;go_wp2_with fail;have hbd:Below wr.heap.size wr wr.drew:=(Br _ _).drew
    go_region_held3 (fun w'=>(∀ o,w'.cell? ⟨w.heap.size,o,none⟩=wr.cell? ⟨w.heap.size,o,none⟩)∧(∀ o,w'.cell? ⟨g,o,none⟩=wr.cell? ⟨g,o,none⟩)∧(∀ o,w'.cell? ⟨w1.heap.size+1,o,none⟩=wr.cell? ⟨w1.heap.size+1,o,none⟩)∧Below wr.heap.size wr w')
     (first | (exact ⟨keep_cells (by assumption) hwwr,keep_cells (by assumption) hgw,keep_cells (by assumption) hblr,by assumption⟩) | fail)
     (first | (go_at_call 42;with_reducible refine (HC.out _ (by assumption)).mono ?_;rintro e w4 ⟨s4,rfl,hs4,hb4⟩;have hb5:=keep_step (by assumption) hb4) | fail)
    have HB5:=Hd hb5;have HBW:=Hd (HB1.out.trans ((keep_step HR.out.below hb5).mono (by omega)));have hs5:=hb5.size;have HO4:=Hd (own_keepB HR.out.own hb5);have HS4:=Hd hs4;clear hbd hb4 hb5 hs4 q0 q1 q2 q3 q4 q5 x0 x5 y0 y1
    by_cases hz:ra.2=0
    · have hy4:=HS4.out hz;have HY4:=Hd hy4;have HZ:=Hd hz;have hzb:(ra.2 != 0)=false:=by simpa using hz
      clear hy4 hz
      go_wp2_with (at_builtin;refine wpList_append_lies _ (by rfl) _ _ _ (by rfl) (w1.heap.size+1+1) 9 i0 (.string ⟨#[]⟩) 1 16 Tryz.underlying48 hi hz0 hz1 hz2 rfl (by decide) _ 0 _ (by rfl) (HO4.out.alloc _) ⟨w4.heap.size,0,none⟩ 1 1 [.string s4] (by rfl) rfl (World.news_of_block (hA_ w4 _)) (fun u hu=>by rw [List.mem_singleton.1 hu];rfl) (by decide) ?c3 ?c4 ?c5 (w4.heap.size+1) (by simp) ?_)
      case c3=>unfold maxLen;omega
      case c4=>omega
      case c5=>first | omega | (simp;omega)
      intro g' cap' w6 hown6 hgrow6 hat6 hlt6
      have hown6':w6.ownsRow (w1.heap.size+1+1) 9 1 (.slice (some ⟨g',0,none⟩) (0+1) cap') (0+1) ((ys++[s4]).map Value.string):=by
       rw [List.map_append,List.map_singleton];exact hown6
      have HR6:=Hd (TxR.next HR.out HB5.out hgrow6 hown6' HGa.out (by show (frmT a 1).2=0;rw [←HRa.out];exact HZ.out) (by show _=(frmT a 1).1;rw [←HRa.out];exact HY4.out));clear hown6 hown6' hgrow6 hat6;go_wp2_with fail
      go_roundw
      case rel=>exact ⟨0+1,ys++[s4],by omega,rfl,HR6.out⟩
      case measure=>simp [intOf]
    · have HZ:=Hd hz;have hzb:(ra.2 != 0)=true:=by simpa using hz
      clear hz;go_wp2_with fail;rw [HF.out];have h2:frmT f least=([],ra.2):=by rw [HRES.out,iP HZ.out]
      exact ⟨⟨#[]⟩,by rw [h2];rfl,fun h=>by rw [h2] at h;exact absurd h HZ.out,HBW.out⟩
  · have hat:=(HROW.out.get HGb.out).below hbel rfl hg;obtain ⟨q0,q1,q2,q3,Ae2,ce2,A2,c2,q4,q5,hV2⟩:=hat.open;rw [show off+6*1=off+1*6 by omega] at q0 q1 q2 q3 q4 q5;obtain ⟨n2,hn2⟩:=ex_ b.kids.length;obtain ⟨ne2,hne2⟩:=ex_ b.tm.kids.length
    have HC:Hid (∀ W,Below wr.heap.size wr W→Calls Tryz.prog 42 #[.agg #[.int .i64 b.op,.int .i64 b.tm.op,.int .i64 b.tm.num,.string b.tm.name,.slice Ae2 ne2 ce2,.slice A2 n2 c2],.int .i64 1] W fun e w'=>∃ s:ByteArray,e=.returned (.tuple #[.string s,.int .i64 rb.2])∧(rb.2=0→bs s=rb.1)∧Below W.heap.size W w'):=fun W hb=>by
     have hcall:=HCb.out Ae2 ce2 A2 c2 W (hV2.below hb rfl);unfold Fm.val at hcall;rw [←hn2,←hne2] at hcall;exact hcall
    rw [←hn2] at q5;rw [←hne2] at q4
    have H0a:Hid (ra.2=0):=by
     have h:=(hR.txt 0 a HGa.out (by omega)).1;show _=_;rw [HRa.out];exact h
    clear hn2 hne2 hV2 hat hbel hR;go_wp2_with fail;have hbd:Below wr.heap.size wr wr.drew:=(Br _ _).drew
    go_region_held3 (fun w'=>(∀ o,w'.cell? ⟨w.heap.size,o,none⟩=wr.cell? ⟨w.heap.size,o,none⟩)∧(∀ o,w'.cell? ⟨g,o,none⟩=wr.cell? ⟨g,o,none⟩)∧(∀ o,w'.cell? ⟨w1.heap.size+1,o,none⟩=wr.cell? ⟨w1.heap.size+1,o,none⟩)∧Below wr.heap.size wr w')
     (first | (exact ⟨keep_cells (by assumption) hwwr,keep_cells (by assumption) hgw,keep_cells (by assumption) hblr,by assumption⟩) | fail)
     (first | (go_at_call 42;with_reducible refine (HC.out _ (by assumption)).mono ?_;rintro e w4 ⟨s4,rfl,hs4,hb4⟩;have hb5:=keep_step (by assumption) hb4) | fail)
    have HB5:=Hd hb5;have HBW:=Hd (HB1.out.trans ((keep_step HR.out.below hb5).mono (by omega)));have hs5:=hb5.size;have HO4:=Hd (own_keepB HR.out.own hb5);have HS4:=Hd hs4;clear hbd hb4 hb5 hs4 q0 q1 q2 q3 q4 q5 x0 x5 y0 y1
    by_cases hz:rb.2=0
    · have hy4:=HS4.out hz;have HY4:=Hd hy4;have HZ:=Hd hz;have hzb:(rb.2 != 0)=false:=by simpa using hz
      clear hy4 hz
      go_wp2_with (at_builtin;refine wpList_append_lies _ (by rfl) _ _ _ (by rfl) (w1.heap.size+1+1) 9 i0 (.string ⟨#[]⟩) 1 16 Tryz.underlying48 hi hz0 hz1 hz2 rfl (by decide) _ 1 _ (by rfl) (HO4.out.alloc _) ⟨w4.heap.size,0,none⟩ 1 1 [.string s4] (by rfl) rfl (World.news_of_block (hA_ w4 _)) (fun u hu=>by rw [List.mem_singleton.1 hu];rfl) (by decide) ?c3 ?c4 ?c5 (w4.heap.size+1) (by simp) ?_)
      case c3=>unfold maxLen;omega
      case c4=>omega
      case c5=>first | omega | (simp;omega)
      intro g' cap' w6 hown6 hgrow6 hat6 hlt6
      have hown6':w6.ownsRow (w1.heap.size+1+1) 9 1 (.slice (some ⟨g',0,none⟩) (1+1) cap') (1+1) ((ys++[s4]).map Value.string):=by
       rw [List.map_append,List.map_singleton];exact hown6
      have HR6:=Hd (TxR.next HR.out HB5.out hgrow6 hown6' HGb.out (by show (frmT b 1).2=0;rw [←HRb.out];exact HZ.out) (by show _=(frmT b 1).1;rw [←HRb.out];exact HY4.out));clear hown6 hown6' hgrow6 hat6;go_wp2_with fail
      go_roundw
      case rel=>exact ⟨1+1,ys++[s4],by omega,rfl,HR6.out⟩
      case measure=>simp [intOf]
    · have HZ:=Hd hz;have hzb:(rb.2 != 0)=true:=by simpa using hz
      clear hz;go_wp2_with fail;rw [HF.out];have h2:frmT f least=([],rb.2):=by rw [HRES.out,iN (fun h=>h H0a.out),iP HZ.out]
      exact ⟨⟨#[]⟩,by rw [h2];rfl,fun h=>by rw [h2] at h;exact absurd h HZ.out,HBW.out⟩
  · rw [show ((2:Nat):Int)=2 from rfl];obtain ⟨A9,c9,hv9,hs9⟩:=strs_of_own (by rw [hR.len];exact hR.own);rw [hR.len] at hv9;obtain ⟨rfl,-,rfl⟩:sa=A9∧2=2∧scap=c9:=by injection hv9 with h1 h2 h3;exact ⟨h1,rfl,h3⟩
    rcases hs9 with h9 | ⟨gb,ob,rfl,hgb,hcb⟩
    · have h:=hR.len;rw [h9] at h;simp at h
    obtain ⟨h0a,va,hya,hta⟩:=hR.txt 0 a HGa.out (by omega)
    change (frmT a 1).2=0 at h0a
    change bs va=(frmT a 1).1 at hta
    rw [←HRa.out] at h0a hta;have z0:=hcb 0 (by rw [hR.len];omega);rw [show ys.getD 0 ByteArray.empty=va by simp [List.getD,hya]] at z0;have hvaz:va.size=ra.1.length:=by rw [←hta];rfl
    obtain ⟨h0b,vb,hyb,htb⟩:=hR.txt 1 b HGb.out (by omega)
    change (frmT b 1).2=0 at h0b
    change bs vb=(frmT b 1).1 at htb
    rw [←HRb.out] at h0b htb;have z1:=hcb 1 (by rw [hR.len];omega);rw [show ys.getD 1 ByteArray.empty=vb by simp [List.getD,hyb]] at z1;have hvbz:vb.size=rb.1.length:=by rw [←htb];rfl
    simp only [Nat.add_zero] at z0;obtain ⟨T1,hT1⟩:∃ T1:ByteArray,T1=(⟨#[65,91]⟩:ByteArray)++va:=⟨_,rfl⟩;have szT1:T1.size=2+va.size:=by rw [hT1,bA] <;> rfl
    obtain ⟨T2,hT2⟩:∃ T2:ByteArray,T2=T1++(⟨#[32,85,32]⟩:ByteArray):=⟨_,rfl⟩;have szT2:T2.size=T1.size+3:=by rw [hT2,bA] <;> rfl
    obtain ⟨T3,hT3⟩:∃ T3:ByteArray,T3=T2++vb:=⟨_,rfl⟩;have szT3:T3.size=T2.size+vb.size:=by rw [hT3,bA] <;> rfl
    obtain ⟨S1,hS1⟩:∃ S1:ByteArray,S1=T3++(⟨#[93]⟩:ByteArray):=⟨_,rfl⟩;have szS1:S1.size=T3.size+1:=by rw [hS1,bA] <;> rfl
    obtain ⟨U1,hU1⟩:∃ U1:ByteArray,U1=(⟨#[40]⟩:ByteArray)++S1:=⟨_,rfl⟩;have szU1:U1.size=1+S1.size:=by rw [hU1,bA] <;> rfl
    obtain ⟨U2,hU2⟩:∃ U2:ByteArray,U2=U1++(⟨#[41]⟩:ByteArray):=⟨_,rfl⟩;have szU2:U2.size=U1.size+1:=by rw [hU2,bA] <;> rfl
    have hLa:=HLa.out;have hLb:=HLb.out;have hLS:=HLS.out;have hFS:=HFS.out;have hcatT1:=rle_run hT1 (by show 2+va.size≤_;omega);have hcatT2:=rle_run hT2 (by show T1.size+3≤_;omega);have hcatT3:=rle_run hT3 (by show T2.size+vb.size≤_;omega);have hcatS1:=rle_run hS1 (by show T3.size+1≤_;omega);have hcatU1:=rle_run hU1 (by show 1+S1.size≤_;omega);have hcatU2:=rle_run hU2 (by show U1.size+1≤_;omega)
    have HT1:Hid (bs S1=openF 13++ra.1++inF 13++rb.1++closeF 13):=by
     show _=_;rw [hS1,hT3,hT2,hT1,←hta,←htb];simp [bs,openF,inF,closeF]
    have HT2:Hid (bs U2=[40]++bs S1++[41]):=by show _=_;rw [hU2,hU1];simp [bs]
    have H0a:=Hd h0a;have H0b:=Hd h0b;have HBE:=Hd (HB1.out.trans (hbel.mono (by omega)));clear hT1 szT1 hT2 szT2 hT3 szT3 hS1 szS1 hU1 szU1 hU2 szU2 h0a hya hta hvaz h0b hyb htb hvbz hLa hLS hFS hcb hv9 hbel hR y0 y1 hLb
    by_cases hsl:strongF 13<least
    · exfalso
      change 4<least at hsl
      omega
    · have HSL:=Hd hsl
      change ¬(4<least) at hsl
      have hsl':¬((4:Int)<(least:Int)):=by omega
      clear hsl;go_wp2_with fail
      go_quiet (fail)
      go_wp2_with fail;refine (HST.out _).mono ?_;rintro e w8 ⟨rfl,hw8⟩;rw [hw8];clear hw8;go_wp2_with fail;rw [HF.out];have h2:frmT f least=((openF 13++ra.1++inF 13++rb.1++closeF 13),0):=by rw [HRES.out,iN (fun h=>h H0a.out),iN (fun h=>h H0b.out),iN HSL.out]
      exact ⟨S1,by rw [h2];rfl,fun _=>by rw [h2];exact HT1.out,(HBE.out.trans (Below.mono (B:=wr.heap.size) (bl_drewN (Br wr.heap.size wr) _) (by omega)))⟩
end Go.Proofs.YtnbphgeepnknlaaGreatDoor
