/- Walks of the reference of formula texts: ref33.strong, text at a term and at one part. -/
import Derived.Test.YtnbphgeepnknlaaGreatDoorURefF
import Derived.Test.YtnbphgeepnknlaaGreatDoorURefE
namespace Go.Proofs.YtnbphgeepnknlaaGreatDoor
open Go.RowKit
set_option linter.unusedVariables false
set_option maxRecDepth 100000
set_option maxHeartbeats 16000000
set_option linter.unusedSimpArgs false
theorem rfstrong_any (op:Int) (w:World) :
 Calls Tryz.prog 82 #[.int .i64 op] w fun e w'=>e=.returned (.int .i64 (strongF op:Nat))∧w'=w:=by
 obtain ⟨r,HR⟩:=exh_ (strongF op);rw [←HR.out];go_enter Tryz.func82,Tryz.ntmps82
 go_wp2
 all_goals
  go_ret;rw [HR.out];refine ⟨?_,rfl⟩
  simp_all [strongF]
def FTQ (f:Fm) (least:Nat) (w:World) (e:Ending) (w':World):Prop:=∃ s:ByteArray,e=.returned (.tuple #[.string s,.int .i64 (frmT f least).2])∧((frmT f least).2=0→bs s=(frmT f least).1)∧Below w.heap.size w w'
def RTextC (N:Nat):Prop:=∀ (f:Fm) (least d:Nat) (Ae:Option Addr) (ce:Nat) (A:Option Addr) (c:Nat) (w:World),f.size≤N→f.okT d→f.wsize≤9000000→f.size≤5000→least≤4→FmV w Ae ce A c f →
 Calls Tryz.prog 42 #[f.val Ae ce A c,.int .i64 (least:Nat)] w (FTQ f least w)
theorem frmT_bar (f:Fm) (least:Nat):frmT f least=if (if f.op=1 then ([91]++(showTm f.tm).1++[93],(showTm f.tm).2) else frmK f.op f.kids).2≠0 then ([],(if f.op=1 then ([91]++(showTm f.tm).1++[93],(showTm f.tm).2) else frmK f.op f.kids).2) else if strongF f.op<least then ([40]++(if f.op=1 then ([91]++(showTm f.tm).1++[93],(showTm f.tm).2) else frmK f.op f.kids).1++[41],0) else ((if f.op=1 then ([91]++(showTm f.tm).1++[93],(showTm f.tm).2) else frmK f.op f.kids).1,0):=by
 cases f;rw [frmT];rfl
def lowN (a b j:Nat):Nat:=if j=0 then a else b
structure TxR (w1 wr:World) (bl l0 l1:Nat) (kids:List Fm) (k:Nat) (v:Value) (ys:List ByteArray):Prop where
 len:ys.length=k
 own:wr.ownsRow (bl+1) 9 1 v k (ys.map Value.string)
 low:wr.heap[bl]?=some (.cells #[.int .i64 (l0:Nat),.int .i64 (l1:Nat)] 3 (0,0))
 below:Below w1.heap.size w1 wr
 blt:bl<wr.heap.size
 bge:w1.heap.size≤bl
 txt:∀ j x,kids[j]?=some x→j<k→(frmT x (lowN l0 l1 j)).2=0∧∃ y,ys[j]?=some y∧bs y=(frmT x (lowN l0 l1 j)).1
section
variable {w1 wr wr2 wr3:World} {bl l0 l1 k:Nat} {kids:List Fm} {v v':Value} {ys:List ByteArray}
theorem TxR.c0 (h:TxR w1 wr bl l0 l1 kids k v ys):wr.cell? ⟨bl,0,none⟩=some (.int .i64 (l0:Nat)):=by rw [cR wr bl 0 _ _ (0,0) h.low];rfl
theorem TxR.c1 (h:TxR w1 wr bl l0 l1 kids k v ys):wr.cell? ⟨bl,1,none⟩=some (.int .i64 (l1:Nat)):=by rw [cR wr bl 1 _ _ (0,0) h.low];rfl
theorem own_keepB {w w':World} {B n:Nat} {T:TypeId} {v:Value} {xs:List Value} (h:w.ownsRow B T 1 v n xs) (hb:Below w.heap.size w w'):w'.ownsRow B T 1 v n xs:=
 h.kept (row:=none) ⟨hb.os,hb.tape,hb.output,hb.size,fun k hk _=>hb.block k hk⟩ (by cases hv:v.ownBlock <;> simp)
theorem TxR.next {o:Obj} {y:ByteArray} {x:Fm} (h:TxR w1 wr bl l0 l1 kids k v ys) (hb:Below wr.heap.size wr wr2) (hg:(wr2.alloc o).grownBy wr3 v.ownBlock) (ho:wr3.ownsRow (bl+1) 9 1 v' (k+1) ((ys++[y]).map Value.string))
 (hx:kids[k]?=some x) (h0:(frmT x (lowN l0 l1 k)).2=0) (hy:bs y=(frmT x (lowN l0 l1 k)).1):TxR w1 wr3 bl l0 l1 kids (k+1) v' (ys++[y]):=by
 have hlt:=h.blt;have hsz:=hb.size;have hown:∀ q,v.ownBlock=some q→bl+1≤q:=fun q hq=>(h.own.lt q hq).1;have hal:Below wr.heap.size wr (wr2.alloc o):=hb.alloc hsz _;refine ⟨by simp [h.len],ho,?_,?_,?_,h.bge,fun j z hz hj=>?_⟩
 · rw [hg.block bl (by simp;omega) (fun e=>by have:=hown bl e.symm;omega),hal.block bl hlt];exact h.low
 · refine Below.grown (h.below.trans (hal.mono h.below.size)) hg (by have:=h.below.size;simp;omega) fun q hq=>?_;have:=hown q hq;have:=h.bge;omega
 · have:=hg.size;simp at this;omega
 · rcases Nat.lt_or_ge j k with hjk | hjk
   · obtain ⟨h1,y',h2,h3⟩:=h.txt j z hz hjk;refine ⟨h1,y',?_,h3⟩;rw [List.getElem?_append_left (by rw [h.len];exact hjk)];exact h2
   · obtain rfl:j=k:=by omega
     rw [hx] at hz;obtain rfl:=Option.some.inj hz;exact ⟨h0,y,by rw [List.getElem?_append_right (by rw [h.len];exact lr _),h.len];simp,hy⟩
theorem TxR.first {w2:World} (hb:Below w1.heap.size w1 w2) (hlow:w2.heap[bl]?=some (.cells #[.int .i64 (l0:Nat),.int .i64 (l1:Nat)] 3 (0,0))) (hs:w2.heap.size=bl+1) (hbl:w1.heap.size≤bl) :
 TxR w1 (w2.alloc (.cells #[] 9)).drew bl l0 l1 kids 0 (.slice (some ⟨bl+1,0,none⟩) 0 0) []:=by
 have ho:(w2.alloc (.cells #[] 9)).ownsRow (bl+1) 9 1 (.slice (some ⟨bl+1,0,none⟩) 0 0) 0 []:=by
  rw [←hs];exact World.ownsRow_made w2 #[] 0 (lr _) (zl _) rfl
 have hh:(w2.alloc (.cells #[] 9)).heap[bl]?=some (.cells #[.int .i64 (l0:Nat),.int .i64 (l1:Nat)] 3 (0,0)):=by
  rw [((Br w2.heap.size w2).alloc (lr _) _).block bl (by omega)];exact hlow
 exact ⟨rfl,ho.drew,hh,(hb.alloc (by have:=hb.size;omega) _).drew,by simp;omega,hbl,fun j x _ h=>by omega⟩
end
theorem rtext_term (N:Nat) (H:RTextC N) (f:Fm) (least d:Nat) (Ae:Option Addr) (ce:Nat) (A:Option Addr) (c:Nat) (w:World) (hN:f.size≤N+1) (hok:f.okT d) (hws:f.wsize≤9000000) (hsz:f.size≤5000) (hl4:least≤4) (hV:FmV w Ae ce A c f) (ho:f.op=1) :
 Calls Tryz.prog 42 #[f.val Ae ce A c,.int .i64 (least:Nat)] w (FTQ f least w):=by
 obtain ⟨-,⟨hk0,hkl,hk1⟩,hkids⟩:=fokT_open hok;obtain ⟨n,hn⟩:=ex_ f.kids.length;obtain ⟨ne,hne⟩:=ex_ f.tm.kids.length;obtain ⟨F,hF⟩:=ex_ (FTQ f least w)
 have hszk:∀ k∈f.kids,k.size≤N∧k.size≤5000∧k.wsize≤9000000:=fun k hk=>by
  have h1:=Fm.sizeL_mem hk;have h2:=(Fm.wsize_open f).2 k hk
  cases f with
  | mk op e l=>rw [Fm.size] at hN hsz;simp only [Fm.kids] at h1;omega
 have hts:=(Fm.wsize_open f).1;have hcap:=hV.cap;have hcapm:=hV.capm;unfold maxLen at hcapm;obtain ⟨w1,hw1⟩:=ex_ (w.alloc (.cells #[.int .i64 1,.int .i64 f.tm.op,.int .i64 f.tm.num,.string f.tm.name,.slice Ae ne ce,.slice A n c] 35));have hb1:=bAl hw1;have hs1:w.heap.size<w1.heap.size:=by rw [hw1];simp
 have hbx:FBox w1 w.heap.size Ae ne ce A n c f:=by unfold FBox;rw [hw1,ho];exact hA_ w _
 have HXX:Hid (∀ W,Below w1.heap.size w1 W→W.cell? ⟨w.heap.size,0,none⟩=some (.int .i64 1)∧W.cell? ⟨w.heap.size,1,none⟩=some (.int .i64 f.tm.op)∧W.cell? ⟨w.heap.size,2,none⟩=some (.int .i64 f.tm.num)∧W.cell? ⟨w.heap.size,3,none⟩=some (.string f.tm.name)∧W.cell? ⟨w.heap.size,4,none⟩=some (.slice Ae ne ce)∧W.cell? ⟨w.heap.size,5,none⟩=some (.slice A n c)):=fun W hb=>by
  have hx:=hbx.below hb hs1;have h0:=hx.c0;rw [ho] at h0;exact ⟨h0,hx.c1,hx.c2,hx.c3,hx.c4,hx.c5⟩
 obtain ⟨x0,x1,x2,x3,x4,x5⟩:=HXX.out w1 (Br _ _);have hV1:=hV.below hb1 rfl;have hsh:=rtshow_any f.tm Ae ce w1 hV1.tm (by omega);unfold Tm.val at hsh;unfold Fm.val;rw [←hn,ho,←hF];rw [←hne] at hsh ⊢;have hlen:=showTm_len f.tm
 have HRE:Hid (frmT f least=if (showTm f.tm).2≠0 then ([],(showTm f.tm).2) else ([91]++(showTm f.tm).1++[93],0)):=by
  show _=_;have hs4:¬strongF 1<least:=by show ¬(4<least);omega
  rw [frmT_bar,iP ho];simp only [ho,iN hs4]
 obtain ⟨T,hT⟩:=ex_ (showTm f.tm);rw [←hT] at hsh HRE hlen;obtain ⟨S,hS⟩:∃ S:ByteArray,S=⟨T.1.toArray⟩:=⟨_,rfl⟩;have hz:S.size=T.1.length:=by rw [hS];exact bsz'' _
 rw [←hS] at hsh;obtain ⟨S1,hS1⟩:∃ S1:ByteArray,S1=(⟨#[91]⟩:ByteArray)++S:=⟨_,rfl⟩;obtain ⟨S2,hS2⟩:∃ S2:ByteArray,S2=S1++(⟨#[93]⟩:ByteArray):=⟨_,rfl⟩;have z1:S1.size=1+S.size:=by rw [hS1,bA];rfl
 have hcat1:=rle_run hS1 (by show 1+S.size≤_;omega);have hcat2:=rle_run hS2 (by show S1.size+1≤_;omega);have HB2:Hid (bs S2=[91]++T.1++[93]):=by show _=_;rw [hS2,hS1,hS];simp [bs]
 obtain ⟨e1,he1⟩:=ex_ T.2;rw [←he1] at hsh HRE;have HF:=Hd hF;have HB1:=Hd hb1;have HW1:=Hd hw1;have HC:=Hd hsh;clear hF hb1 hw1 hsh hV hV1 hbx hn hne hT hS hS1 hS2 z1 hz hlen he1 hok hkids hszk hk1 hkl hk0 H;go_enter Tryz.func42,Tryz.ntmps42;go_wp2_with fail;rw [←HW1.out];go_wp2_with fail;refine (HC.out).mono ?_;rintro e w2 ⟨rfl,hb2⟩;have HB3:=Hd (HB1.out.trans (hb2.mono (by omega)));clear hb2 x0 x1 x2 x3 x4 x5;go_wp2_with fail;rw [HF.out];have h2:(frmT f least).2=e1:=by rw [HRE.out];split;rfl;rename_i h;exact (Decidable.not_not.1 h).symm
 exact ⟨S2,by rw [h2];rfl,fun h=>by rw [HRE.out,iN (fun h9=>h9 (by rw [←h2];exact h))];exact HB2.out,HB3.out⟩
theorem rtext_u2 (N:Nat) (H:RTextC N) (f:Fm) (least d:Nat) (Ae:Option Addr) (ce:Nat) (A:Option Addr) (c:Nat) (w:World) (hN:f.size≤N+1) (hok:f.okT d) (hws:f.wsize≤9000000) (hsz:f.size≤5000) (hl4:least≤4) (hV:FmV w Ae ce A c f) (ho:f.op=2) :
 Calls Tryz.prog 42 #[f.val Ae ce A c,.int .i64 (least:Nat)] w (FTQ f least w):=by
 obtain ⟨-,⟨hk0,hkl,hk1⟩,hkids⟩:=fokT_open hok;obtain ⟨n,hn⟩:=ex_ f.kids.length;obtain ⟨ne,hne⟩:=ex_ f.tm.kids.length;obtain ⟨F,hF⟩:=ex_ (FTQ f least w)
 have hszk:∀ k∈f.kids,k.size≤N∧k.size≤5000∧k.wsize≤9000000:=fun k hk=>by
  have h1:=Fm.sizeL_mem hk;have h2:=(Fm.wsize_open f).2 k hk
  cases f with
  | mk op e l=>rw [Fm.size] at hN hsz;simp only [Fm.kids] at h1;omega
 have hts:=(Fm.wsize_open f).1;have hcap:=hV.cap;have hcapm:=hV.capm;unfold maxLen at hcapm;obtain ⟨w1,hw1⟩:=ex_ (w.alloc (.cells #[.int .i64 2,.int .i64 f.tm.op,.int .i64 f.tm.num,.string f.tm.name,.slice Ae ne ce,.slice A n c] 35));have hb1:=bAl hw1;have hs1:w.heap.size<w1.heap.size:=by rw [hw1];simp
 have hbx:FBox w1 w.heap.size Ae ne ce A n c f:=by unfold FBox;rw [hw1,ho];exact hA_ w _
 have HXX:Hid (∀ W,Below w1.heap.size w1 W→W.cell? ⟨w.heap.size,0,none⟩=some (.int .i64 2)∧W.cell? ⟨w.heap.size,1,none⟩=some (.int .i64 f.tm.op)∧W.cell? ⟨w.heap.size,2,none⟩=some (.int .i64 f.tm.num)∧W.cell? ⟨w.heap.size,3,none⟩=some (.string f.tm.name)∧W.cell? ⟨w.heap.size,4,none⟩=some (.slice Ae ne ce)∧W.cell? ⟨w.heap.size,5,none⟩=some (.slice A n c)):=fun W hb=>by
  have hx:=hbx.below hb hs1;have h0:=hx.c0;rw [ho] at h0;exact ⟨h0,hx.c1,hx.c2,hx.c3,hx.c4,hx.c5⟩
 obtain ⟨x0,x1,x2,x3,x4,x5⟩:=HXX.out w1 (Br _ _);have hV1:=hV.below hb1 rfl;have hkl1:f.kids.length=1:=by rw [ho] at hkl;have:fkids 2=1:=rfl;omega
 obtain ⟨a,hk⟩:=flen1 hkl1
 rcases hV1.kids with h9 | ⟨g,off,rfl,hg,hrow⟩
 · rw [h9] at hk;cases hk
 unfold Fm.val;rw [ho,←hF,←hn,←hne];have hn1:n=1:=by rw [hn,hkl1]
 have hma:a∈f.kids:=by rw [hk];simp
 have hga:f.kids[0]?=some a:=by rw [hk];rfl
 obtain ⟨ra,hra⟩:=ex_ (frmT a 4);have hla:=frmT_len a 4
 have hcla:∀ (Ae2:Option Addr) (ce2:Nat) (A2:Option Addr) (c2:Nat) W,FmV W Ae2 ce2 A2 c2 a→Calls Tryz.prog 42 #[a.val Ae2 ce2 A2 c2,.int .i64 4] W fun e w'=>∃ s:ByteArray,e=.returned (.tuple #[.string s,.int .i64 ra.2])∧(ra.2=0→bs s=ra.1)∧Below W.heap.size W w':=fun Ae2 ce2 A2 c2 W hv=>by
  have h:=H a 4 (d+1) Ae2 ce2 A2 c2 W (hszk a hma).1 (hkids a hma) (hszk a hma).2.2 (hszk a hma).2.1 (by omega) hv;unfold FTQ at h;rw [←hra] at h;exact h
 have HCa:=Hd hcla;rw [←hra] at hla;have HLa:=Hd hla
 have HLS:Hid (a.size+1≤f.size):=by
  have h1:=Fm.sizeL_mem hma;show _≤_
  cases f with
  | mk op0 e0 l0'=>
   simp only [Fm.kids] at hk;rw [Fm.size,hk];simp only [Fm.sizeL];omega
 have HRES:Hid (frmT f least=if ra.2≠0 then ([],ra.2) else if strongF 2<least then ([40]++(preF 2++ra.1)++[41],0) else (preF 2++ra.1,0)):=by
  show _=_;have hb:(if f.op=1 then ([91]++(showTm f.tm).1++[93],(showTm f.tm).2) else frmK f.op f.kids)=aheadF (preF 2) a:=by rw [iN (by omega),ho,hk,bar1 rfl]
  rw [frmT_bar,hb,ho,hra]
  rfl
 have HST:Hid (∀ W,Calls Tryz.prog 82 #[.int .i64 2] W fun e w'=>e=.returned (.int .i64 4)∧w'=W):=fun W=>by
  have h:=rfstrong_any 2 W;rw [show ((strongF 2:Nat):Int)=4 from rfl] at h;exact h
 have HROW:=Hd hrow;have HF:=Hd hF;have HB1:=Hd hb1;have HW1:=Hd hw1;have HFS:=Hd hsz;have HGa:=Hd hga;have HRa:=Hd hra;clear hF hb1 hw1 hV hV1 hbx hn hne hok hkids hszk hk1 hkl hk0 H hk hkl1 hrow hsz hws hN hts hga hma hra hla hcla;subst hn1;go_enter Tryz.func42,Tryz.ntmps42;go_wp2_with fail;rw [←HW1.out];go_wp2_with fail;refine wp_region_still_drew 7 (by kernel_rfl) (by kernel_rfl) ?_;simp only [List.take_succ_cons,List.take_zero,List.drop_succ_cons,List.drop_zero]
 repeat still_step
 still_call (HST.out _)
 repeat still_step
 still_call (HST.out _)
 repeat still_step
 refine wpStill_nil ?_;go_wp2_with fail;obtain ⟨i0,hi,hz0,hz1,hz2⟩:=info_parts infoStr
 go_loopw [9,10,11,12] (fun sl si _ _ wr=>∃ (k:Nat) (ys:List ByteArray),k≤1∧si=.int .i64 k∧TxR w1 wr (w1.heap.size) 4 5 f.kids k sl ys) (fun _ i _ _ _=>1 - (intOf i).toNat)
 case atStart=>exact ⟨0,[],zl _,rfl,TxR.first (w2:=(w1.alloc (.cells #[.int .i64 4,.int .i64 5] 3))) ((Br _ _).alloc (lr _) _) (hA_ w1 _) (by simp) (by omega)⟩
 case round=>
  obtain ⟨k,ys,hk,rfl,hR⟩:=hrel;obtain ⟨sa,scap,hsv⟩:=own_shape hR.own;subst hsv;have HR:=Hd hR;have hbel:=hR.below;have hszr:=hbel.size;have hblr:=hR.blt;have y0:=hR.c0;have y1:=hR.c1;obtain ⟨x0,x1,x2,x3,x4,x5⟩:=HXX.out wr hbel;have hwwr:w.heap.size<wr.heap.size:=by omega
  have hgw:g<wr.heap.size:=by omega
  have hkc:k=0∨k=1:=by omega
  clear x1 x2 x3 x4 hk
  rcases hkc with rfl | rfl
  · have hat:=(HROW.out.get HGa.out).below hbel rfl hg;obtain ⟨q0,q1,q2,q3,Ae2,ce2,A2,c2,q4,q5,hV2⟩:=hat.open;simp only [Nat.mul_zero,Nat.add_zero] at q0 q1 q2 q3 q4 q5;obtain ⟨n2,hn2⟩:=ex_ a.kids.length;obtain ⟨ne2,hne2⟩:=ex_ a.tm.kids.length
    have HC:Hid (∀ W,Below wr.heap.size wr W→Calls Tryz.prog 42 #[.agg #[.int .i64 a.op,.int .i64 a.tm.op,.int .i64 a.tm.num,.string a.tm.name,.slice Ae2 ne2 ce2,.slice A2 n2 c2],.int .i64 4] W fun e w'=>∃ s:ByteArray,e=.returned (.tuple #[.string s,.int .i64 ra.2])∧(ra.2=0→bs s=ra.1)∧Below W.heap.size W w'):=fun W hb=>by
     have hcall:=HCa.out Ae2 ce2 A2 c2 W (hV2.below hb rfl);unfold Fm.val at hcall;rw [←hn2,←hne2] at hcall;exact hcall
    rw [←hn2] at q5;rw [←hne2] at q4;clear hn2 hne2 hV2 hat hbel hR;go_wp2_with fail;have hbd:Below wr.heap.size wr wr.drew:=(Br _ _).drew
    go_region_held3 (fun w'=>(∀ o,w'.cell? ⟨w.heap.size,o,none⟩=wr.cell? ⟨w.heap.size,o,none⟩)∧(∀ o,w'.cell? ⟨g,o,none⟩=wr.cell? ⟨g,o,none⟩)∧(∀ o,w'.cell? ⟨w1.heap.size,o,none⟩=wr.cell? ⟨w1.heap.size,o,none⟩)∧Below wr.heap.size wr w')
     (first | (exact ⟨keep_cells (by assumption) hwwr,keep_cells (by assumption) hgw,keep_cells (by assumption) hblr,by assumption⟩) | fail)
     (first | (go_at_call 42;with_reducible refine (HC.out _ (by assumption)).mono ?_;rintro e w4 ⟨s4,rfl,hs4,hb4⟩;have hb5:=keep_step (by assumption) hb4) | fail)
    have HB5:=Hd hb5;have HBW:=Hd (HB1.out.trans ((keep_step HR.out.below hb5).mono (by omega)));have hs5:=hb5.size;have HO4:=Hd (own_keepB HR.out.own hb5);have HS4:=Hd hs4;clear hbd hb4 hb5 hs4 q0 q1 q2 q3 q4 q5 x0 x5 y0 y1
    by_cases hz:ra.2=0
    · have hy4:=HS4.out hz;have HY4:=Hd hy4;have HZ:=Hd hz;have hzb:(ra.2 != 0)=false:=by simpa using hz
      clear hy4 hz
      go_wp2_with (at_builtin;refine wpList_append_lies _ (by rfl) _ _ _ (by rfl) (w1.heap.size+1) 9 i0 (.string ⟨#[]⟩) 1 16 Tryz.underlying48 hi hz0 hz1 hz2 rfl (by decide) _ 0 _ (by rfl) (HO4.out.alloc _) ⟨w4.heap.size,0,none⟩ 1 1 [.string s4] (by rfl) rfl (World.news_of_block (hA_ w4 _)) (fun u hu=>by rw [List.mem_singleton.1 hu];rfl) (by decide) ?c3 ?c4 ?c5 (w4.heap.size+1) (by simp) ?_)
      case c3=>unfold maxLen;omega
      case c4=>omega
      case c5=>first | omega | (simp;omega)
      intro g' cap' w6 hown6 hgrow6 hat6 hlt6
      have hown6':w6.ownsRow (w1.heap.size+1) 9 1 (.slice (some ⟨g',0,none⟩) (0+1) cap') (0+1) ((ys++[s4]).map Value.string):=by
       rw [List.map_append,List.map_singleton];exact hown6
      have HR6:=Hd (TxR.next HR.out HB5.out hgrow6 hown6' HGa.out (by show (frmT a 4).2=0;rw [←HRa.out];exact HZ.out) (by show _=(frmT a 4).1;rw [←HRa.out];exact HY4.out));clear hown6 hown6' hgrow6 hat6;go_wp2_with fail
      go_roundw
      case rel=>exact ⟨0+1,ys++[s4],by omega,rfl,HR6.out⟩
      case measure=>simp [intOf]
    · have HZ:=Hd hz;have hzb:(ra.2 != 0)=true:=by simpa using hz
      clear hz;go_wp2_with fail;rw [HF.out];have h2:frmT f least=([],ra.2):=by rw [HRES.out,iP HZ.out]
      exact ⟨⟨#[]⟩,by rw [h2];rfl,fun h=>by rw [h2] at h;exact absurd h HZ.out,HBW.out⟩
  · rw [show ((1:Nat):Int)=1 from rfl];obtain ⟨A9,c9,hv9,hs9⟩:=strs_of_own (by rw [hR.len];exact hR.own);rw [hR.len] at hv9;obtain ⟨rfl,-,rfl⟩:sa=A9∧1=1∧scap=c9:=by injection hv9 with h1 h2 h3;exact ⟨h1,rfl,h3⟩
    rcases hs9 with h9 | ⟨gb,ob,rfl,hgb,hcb⟩
    · have h:=hR.len;rw [h9] at h;simp at h
    obtain ⟨h0a,va,hya,hta⟩:=hR.txt 0 a HGa.out (by omega)
    change (frmT a 4).2=0 at h0a
    change bs va=(frmT a 4).1 at hta
    rw [←HRa.out] at h0a hta;have z0:=hcb 0 (by rw [hR.len];omega);rw [show ys.getD 0 ByteArray.empty=va by simp [List.getD,hya]] at z0;have hvaz:va.size=ra.1.length:=by rw [←hta];rfl
    simp only [Nat.add_zero] at z0;obtain ⟨S1,hS1⟩:∃ S1:ByteArray,S1=(⟨#[33]⟩:ByteArray)++va:=⟨_,rfl⟩;have szS1:S1.size=1+va.size:=by rw [hS1,bA] <;> rfl
    obtain ⟨U1,hU1⟩:∃ U1:ByteArray,U1=(⟨#[40]⟩:ByteArray)++S1:=⟨_,rfl⟩;have szU1:U1.size=1+S1.size:=by rw [hU1,bA] <;> rfl
    obtain ⟨U2,hU2⟩:∃ U2:ByteArray,U2=U1++(⟨#[41]⟩:ByteArray):=⟨_,rfl⟩;have szU2:U2.size=U1.size+1:=by rw [hU2,bA] <;> rfl
    have hLa:=HLa.out;have hLS:=HLS.out;have hFS:=HFS.out;have hcatS1:=rle_run hS1 (by show 1+va.size≤_;omega);have hcatU1:=rle_run hU1 (by show 1+S1.size≤_;omega);have hcatU2:=rle_run hU2 (by show U1.size+1≤_;omega)
    have HT1:Hid (bs S1=preF 2++ra.1):=by
     show _=_;rw [hS1,←hta];simp [bs,preF]
    have HT2:Hid (bs U2=[40]++bs S1++[41]):=by show _=_;rw [hU2,hU1];simp [bs]
    have H0a:=Hd h0a;have HBE:=Hd (HB1.out.trans (hbel.mono (by omega)));clear hS1 szS1 hU1 szU1 hU2 szU2 h0a hya hta hvaz hLa hLS hFS hcb hv9 hbel hR y0 y1
    by_cases hsl:strongF 2<least
    · exfalso
      change 4<least at hsl
      omega
    · have HSL:=Hd hsl
      change ¬(4<least) at hsl
      have hsl':¬((4:Int)<(least:Int)):=by omega
      clear hsl;go_wp2_with fail;refine (HST.out _).mono ?_;rintro e w8 ⟨rfl,hw8⟩;rw [hw8];clear hw8;go_wp2_with fail;rw [HF.out];have h2:frmT f least=((preF 2++ra.1),0):=by rw [HRES.out,iN (fun h=>h H0a.out),iN HSL.out]
      exact ⟨S1,by rw [h2];rfl,fun _=>by rw [h2];exact HT1.out,HBE.out⟩
theorem rtext_u6 (N:Nat) (H:RTextC N) (f:Fm) (least d:Nat) (Ae:Option Addr) (ce:Nat) (A:Option Addr) (c:Nat) (w:World) (hN:f.size≤N+1) (hok:f.okT d) (hws:f.wsize≤9000000) (hsz:f.size≤5000) (hl4:least≤4) (hV:FmV w Ae ce A c f) (ho:f.op=6) :
 Calls Tryz.prog 42 #[f.val Ae ce A c,.int .i64 (least:Nat)] w (FTQ f least w):=by
 obtain ⟨-,⟨hk0,hkl,hk1⟩,hkids⟩:=fokT_open hok;obtain ⟨n,hn⟩:=ex_ f.kids.length;obtain ⟨ne,hne⟩:=ex_ f.tm.kids.length;obtain ⟨F,hF⟩:=ex_ (FTQ f least w)
 have hszk:∀ k∈f.kids,k.size≤N∧k.size≤5000∧k.wsize≤9000000:=fun k hk=>by
  have h1:=Fm.sizeL_mem hk;have h2:=(Fm.wsize_open f).2 k hk
  cases f with
  | mk op e l=>rw [Fm.size] at hN hsz;simp only [Fm.kids] at h1;omega
 have hts:=(Fm.wsize_open f).1;have hcap:=hV.cap;have hcapm:=hV.capm;unfold maxLen at hcapm;obtain ⟨w1,hw1⟩:=ex_ (w.alloc (.cells #[.int .i64 6,.int .i64 f.tm.op,.int .i64 f.tm.num,.string f.tm.name,.slice Ae ne ce,.slice A n c] 35));have hb1:=bAl hw1;have hs1:w.heap.size<w1.heap.size:=by rw [hw1];simp
 have hbx:FBox w1 w.heap.size Ae ne ce A n c f:=by unfold FBox;rw [hw1,ho];exact hA_ w _
 have HXX:Hid (∀ W,Below w1.heap.size w1 W→W.cell? ⟨w.heap.size,0,none⟩=some (.int .i64 6)∧W.cell? ⟨w.heap.size,1,none⟩=some (.int .i64 f.tm.op)∧W.cell? ⟨w.heap.size,2,none⟩=some (.int .i64 f.tm.num)∧W.cell? ⟨w.heap.size,3,none⟩=some (.string f.tm.name)∧W.cell? ⟨w.heap.size,4,none⟩=some (.slice Ae ne ce)∧W.cell? ⟨w.heap.size,5,none⟩=some (.slice A n c)):=fun W hb=>by
  have hx:=hbx.below hb hs1;have h0:=hx.c0;rw [ho] at h0;exact ⟨h0,hx.c1,hx.c2,hx.c3,hx.c4,hx.c5⟩
 obtain ⟨x0,x1,x2,x3,x4,x5⟩:=HXX.out w1 (Br _ _);have hV1:=hV.below hb1 rfl;have hkl1:f.kids.length=1:=by rw [ho] at hkl;have:fkids 6=1:=rfl;omega
 obtain ⟨a,hk⟩:=flen1 hkl1
 rcases hV1.kids with h9 | ⟨g,off,rfl,hg,hrow⟩
 · rw [h9] at hk;cases hk
 unfold Fm.val;rw [ho,←hF,←hn,←hne];have hn1:n=1:=by rw [hn,hkl1]
 have hma:a∈f.kids:=by rw [hk];simp
 have hga:f.kids[0]?=some a:=by rw [hk];rfl
 obtain ⟨ra,hra⟩:=ex_ (frmT a 4);have hla:=frmT_len a 4
 have hcla:∀ (Ae2:Option Addr) (ce2:Nat) (A2:Option Addr) (c2:Nat) W,FmV W Ae2 ce2 A2 c2 a→Calls Tryz.prog 42 #[a.val Ae2 ce2 A2 c2,.int .i64 4] W fun e w'=>∃ s:ByteArray,e=.returned (.tuple #[.string s,.int .i64 ra.2])∧(ra.2=0→bs s=ra.1)∧Below W.heap.size W w':=fun Ae2 ce2 A2 c2 W hv=>by
  have h:=H a 4 (d+1) Ae2 ce2 A2 c2 W (hszk a hma).1 (hkids a hma) (hszk a hma).2.2 (hszk a hma).2.1 (by omega) hv;unfold FTQ at h;rw [←hra] at h;exact h
 have HCa:=Hd hcla;rw [←hra] at hla;have HLa:=Hd hla
 have HLS:Hid (a.size+1≤f.size):=by
  have h1:=Fm.sizeL_mem hma;show _≤_
  cases f with
  | mk op0 e0 l0'=>
   simp only [Fm.kids] at hk;rw [Fm.size,hk];simp only [Fm.sizeL];omega
 have HRES:Hid (frmT f least=if ra.2≠0 then ([],ra.2) else if strongF 6<least then ([40]++(preF 6++ra.1)++[41],0) else (preF 6++ra.1,0)):=by
  show _=_;have hb:(if f.op=1 then ([91]++(showTm f.tm).1++[93],(showTm f.tm).2) else frmK f.op f.kids)=aheadF (preF 6) a:=by rw [iN (by omega),ho,hk,bar1 rfl]
  rw [frmT_bar,hb,ho,hra]
  rfl
 have HST:Hid (∀ W,Calls Tryz.prog 82 #[.int .i64 6] W fun e w'=>e=.returned (.int .i64 4)∧w'=W):=fun W=>by
  have h:=rfstrong_any 6 W;rw [show ((strongF 6:Nat):Int)=4 from rfl] at h;exact h
 have HROW:=Hd hrow;have HF:=Hd hF;have HB1:=Hd hb1;have HW1:=Hd hw1;have HFS:=Hd hsz;have HGa:=Hd hga;have HRa:=Hd hra;clear hF hb1 hw1 hV hV1 hbx hn hne hok hkids hszk hk1 hkl hk0 H hk hkl1 hrow hsz hws hN hts hga hma hra hla hcla;subst hn1;go_enter Tryz.func42,Tryz.ntmps42;go_wp2_with fail;rw [←HW1.out];go_wp2_with fail;refine wp_region_still_drew 7 (by kernel_rfl) (by kernel_rfl) ?_;simp only [List.take_succ_cons,List.take_zero,List.drop_succ_cons,List.drop_zero]
 repeat still_step
 still_call (HST.out _)
 repeat still_step
 still_call (HST.out _)
 repeat still_step
 refine wpStill_nil ?_;go_wp2_with fail;obtain ⟨i0,hi,hz0,hz1,hz2⟩:=info_parts infoStr
 go_loopw [9,10,11,12] (fun sl si _ _ wr=>∃ (k:Nat) (ys:List ByteArray),k≤1∧si=.int .i64 k∧TxR w1 wr (w1.heap.size) 4 5 f.kids k sl ys) (fun _ i _ _ _=>1 - (intOf i).toNat)
 case atStart=>exact ⟨0,[],zl _,rfl,TxR.first (w2:=(w1.alloc (.cells #[.int .i64 4,.int .i64 5] 3))) ((Br _ _).alloc (lr _) _) (hA_ w1 _) (by simp) (by omega)⟩
 case round=>
  obtain ⟨k,ys,hk,rfl,hR⟩:=hrel;obtain ⟨sa,scap,hsv⟩:=own_shape hR.own;subst hsv;have HR:=Hd hR;have hbel:=hR.below;have hszr:=hbel.size;have hblr:=hR.blt;have y0:=hR.c0;have y1:=hR.c1;obtain ⟨x0,x1,x2,x3,x4,x5⟩:=HXX.out wr hbel;have hwwr:w.heap.size<wr.heap.size:=by omega
  have hgw:g<wr.heap.size:=by omega
  have hkc:k=0∨k=1:=by omega
  clear x1 x2 x3 x4 hk
  rcases hkc with rfl | rfl
  · have hat:=(HROW.out.get HGa.out).below hbel rfl hg;obtain ⟨q0,q1,q2,q3,Ae2,ce2,A2,c2,q4,q5,hV2⟩:=hat.open;simp only [Nat.mul_zero,Nat.add_zero] at q0 q1 q2 q3 q4 q5;obtain ⟨n2,hn2⟩:=ex_ a.kids.length;obtain ⟨ne2,hne2⟩:=ex_ a.tm.kids.length
    have HC:Hid (∀ W,Below wr.heap.size wr W→Calls Tryz.prog 42 #[.agg #[.int .i64 a.op,.int .i64 a.tm.op,.int .i64 a.tm.num,.string a.tm.name,.slice Ae2 ne2 ce2,.slice A2 n2 c2],.int .i64 4] W fun e w'=>∃ s:ByteArray,e=.returned (.tuple #[.string s,.int .i64 ra.2])∧(ra.2=0→bs s=ra.1)∧Below W.heap.size W w'):=fun W hb=>by
     have hcall:=HCa.out Ae2 ce2 A2 c2 W (hV2.below hb rfl);unfold Fm.val at hcall;rw [←hn2,←hne2] at hcall;exact hcall
    rw [←hn2] at q5;rw [←hne2] at q4;clear hn2 hne2 hV2 hat hbel hR;go_wp2_with fail;have hbd:Below wr.heap.size wr wr.drew:=(Br _ _).drew
    go_region_held3 (fun w'=>(∀ o,w'.cell? ⟨w.heap.size,o,none⟩=wr.cell? ⟨w.heap.size,o,none⟩)∧(∀ o,w'.cell? ⟨g,o,none⟩=wr.cell? ⟨g,o,none⟩)∧(∀ o,w'.cell? ⟨w1.heap.size,o,none⟩=wr.cell? ⟨w1.heap.size,o,none⟩)∧Below wr.heap.size wr w')
     (first | (exact ⟨keep_cells (by assumption) hwwr,keep_cells (by assumption) hgw,keep_cells (by assumption) hblr,by assumption⟩) | fail)
     (first | (go_at_call 42;with_reducible refine (HC.out _ (by assumption)).mono ?_;rintro e w4 ⟨s4,rfl,hs4,hb4⟩;have hb5:=keep_step (by assumption) hb4) | fail)
    have HB5:=Hd hb5;have HBW:=Hd (HB1.out.trans ((keep_step HR.out.below hb5).mono (by omega)));have hs5:=hb5.size;have HO4:=Hd (own_keepB HR.out.own hb5);have HS4:=Hd hs4;clear hbd hb4 hb5 hs4 q0 q1 q2 q3 q4 q5 x0 x5 y0 y1
    by_cases hz:ra.2=0
    · have hy4:=HS4.out hz;have HY4:=Hd hy4;have HZ:=Hd hz;have hzb:(ra.2 != 0)=false:=by simpa using hz
      clear hy4 hz
      go_wp2_with (at_builtin;refine wpList_append_lies _ (by rfl) _ _ _ (by rfl) (w1.heap.size+1) 9 i0 (.string ⟨#[]⟩) 1 16 Tryz.underlying48 hi hz0 hz1 hz2 rfl (by decide) _ 0 _ (by rfl) (HO4.out.alloc _) ⟨w4.heap.size,0,none⟩ 1 1 [.string s4] (by rfl) rfl (World.news_of_block (hA_ w4 _)) (fun u hu=>by rw [List.mem_singleton.1 hu];rfl) (by decide) ?c3 ?c4 ?c5 (w4.heap.size+1) (by simp) ?_)
      case c3=>unfold maxLen;omega
      case c4=>omega
      case c5=>first | omega | (simp;omega)
      intro g' cap' w6 hown6 hgrow6 hat6 hlt6
      have hown6':w6.ownsRow (w1.heap.size+1) 9 1 (.slice (some ⟨g',0,none⟩) (0+1) cap') (0+1) ((ys++[s4]).map Value.string):=by
       rw [List.map_append,List.map_singleton];exact hown6
      have HR6:=Hd (TxR.next HR.out HB5.out hgrow6 hown6' HGa.out (by show (frmT a 4).2=0;rw [←HRa.out];exact HZ.out) (by show _=(frmT a 4).1;rw [←HRa.out];exact HY4.out));clear hown6 hown6' hgrow6 hat6;go_wp2_with fail
      go_roundw
      case rel=>exact ⟨0+1,ys++[s4],by omega,rfl,HR6.out⟩
      case measure=>simp [intOf]
    · have HZ:=Hd hz;have hzb:(ra.2 != 0)=true:=by simpa using hz
      clear hz;go_wp2_with fail;rw [HF.out];have h2:frmT f least=([],ra.2):=by rw [HRES.out,iP HZ.out]
      exact ⟨⟨#[]⟩,by rw [h2];rfl,fun h=>by rw [h2] at h;exact absurd h HZ.out,HBW.out⟩
  · rw [show ((1:Nat):Int)=1 from rfl];obtain ⟨A9,c9,hv9,hs9⟩:=strs_of_own (by rw [hR.len];exact hR.own);rw [hR.len] at hv9;obtain ⟨rfl,-,rfl⟩:sa=A9∧1=1∧scap=c9:=by injection hv9 with h1 h2 h3;exact ⟨h1,rfl,h3⟩
    rcases hs9 with h9 | ⟨gb,ob,rfl,hgb,hcb⟩
    · have h:=hR.len;rw [h9] at h;simp at h
    obtain ⟨h0a,va,hya,hta⟩:=hR.txt 0 a HGa.out (by omega)
    change (frmT a 4).2=0 at h0a
    change bs va=(frmT a 4).1 at hta
    rw [←HRa.out] at h0a hta;have z0:=hcb 0 (by rw [hR.len];omega);rw [show ys.getD 0 ByteArray.empty=va by simp [List.getD,hya]] at z0;have hvaz:va.size=ra.1.length:=by rw [←hta];rfl
    simp only [Nat.add_zero] at z0;obtain ⟨S1,hS1⟩:∃ S1:ByteArray,S1=(⟨#[69,88,32]⟩:ByteArray)++va:=⟨_,rfl⟩;have szS1:S1.size=3+va.size:=by rw [hS1,bA] <;> rfl
    obtain ⟨U1,hU1⟩:∃ U1:ByteArray,U1=(⟨#[40]⟩:ByteArray)++S1:=⟨_,rfl⟩;have szU1:U1.size=1+S1.size:=by rw [hU1,bA] <;> rfl
    obtain ⟨U2,hU2⟩:∃ U2:ByteArray,U2=U1++(⟨#[41]⟩:ByteArray):=⟨_,rfl⟩;have szU2:U2.size=U1.size+1:=by rw [hU2,bA] <;> rfl
    have hLa:=HLa.out;have hLS:=HLS.out;have hFS:=HFS.out;have hcatS1:=rle_run hS1 (by show 3+va.size≤_;omega);have hcatU1:=rle_run hU1 (by show 1+S1.size≤_;omega);have hcatU2:=rle_run hU2 (by show U1.size+1≤_;omega)
    have HT1:Hid (bs S1=preF 6++ra.1):=by
     show _=_;rw [hS1,←hta];simp [bs,preF]
    have HT2:Hid (bs U2=[40]++bs S1++[41]):=by show _=_;rw [hU2,hU1];simp [bs]
    have H0a:=Hd h0a;have HBE:=Hd (HB1.out.trans (hbel.mono (by omega)));clear hS1 szS1 hU1 szU1 hU2 szU2 h0a hya hta hvaz hLa hLS hFS hcb hv9 hbel hR y0 y1
    by_cases hsl:strongF 6<least
    · exfalso
      change 4<least at hsl
      omega
    · have HSL:=Hd hsl
      change ¬(4<least) at hsl
      have hsl':¬((4:Int)<(least:Int)):=by omega
      clear hsl;go_wp2_with fail;refine (HST.out _).mono ?_;rintro e w8 ⟨rfl,hw8⟩;rw [hw8];clear hw8;go_wp2_with fail;rw [HF.out];have h2:frmT f least=((preF 6++ra.1),0):=by rw [HRES.out,iN (fun h=>h H0a.out),iN HSL.out]
      exact ⟨S1,by rw [h2];rfl,fun _=>by rw [h2];exact HT1.out,HBE.out⟩
theorem rtext_u7 (N:Nat) (H:RTextC N) (f:Fm) (least d:Nat) (Ae:Option Addr) (ce:Nat) (A:Option Addr) (c:Nat) (w:World) (hN:f.size≤N+1) (hok:f.okT d) (hws:f.wsize≤9000000) (hsz:f.size≤5000) (hl4:least≤4) (hV:FmV w Ae ce A c f) (ho:f.op=7) :
 Calls Tryz.prog 42 #[f.val Ae ce A c,.int .i64 (least:Nat)] w (FTQ f least w):=by
 obtain ⟨-,⟨hk0,hkl,hk1⟩,hkids⟩:=fokT_open hok;obtain ⟨n,hn⟩:=ex_ f.kids.length;obtain ⟨ne,hne⟩:=ex_ f.tm.kids.length;obtain ⟨F,hF⟩:=ex_ (FTQ f least w)
 have hszk:∀ k∈f.kids,k.size≤N∧k.size≤5000∧k.wsize≤9000000:=fun k hk=>by
  have h1:=Fm.sizeL_mem hk;have h2:=(Fm.wsize_open f).2 k hk
  cases f with
  | mk op e l=>rw [Fm.size] at hN hsz;simp only [Fm.kids] at h1;omega
 have hts:=(Fm.wsize_open f).1;have hcap:=hV.cap;have hcapm:=hV.capm;unfold maxLen at hcapm;obtain ⟨w1,hw1⟩:=ex_ (w.alloc (.cells #[.int .i64 7,.int .i64 f.tm.op,.int .i64 f.tm.num,.string f.tm.name,.slice Ae ne ce,.slice A n c] 35));have hb1:=bAl hw1;have hs1:w.heap.size<w1.heap.size:=by rw [hw1];simp
 have hbx:FBox w1 w.heap.size Ae ne ce A n c f:=by unfold FBox;rw [hw1,ho];exact hA_ w _
 have HXX:Hid (∀ W,Below w1.heap.size w1 W→W.cell? ⟨w.heap.size,0,none⟩=some (.int .i64 7)∧W.cell? ⟨w.heap.size,1,none⟩=some (.int .i64 f.tm.op)∧W.cell? ⟨w.heap.size,2,none⟩=some (.int .i64 f.tm.num)∧W.cell? ⟨w.heap.size,3,none⟩=some (.string f.tm.name)∧W.cell? ⟨w.heap.size,4,none⟩=some (.slice Ae ne ce)∧W.cell? ⟨w.heap.size,5,none⟩=some (.slice A n c)):=fun W hb=>by
  have hx:=hbx.below hb hs1;have h0:=hx.c0;rw [ho] at h0;exact ⟨h0,hx.c1,hx.c2,hx.c3,hx.c4,hx.c5⟩
 obtain ⟨x0,x1,x2,x3,x4,x5⟩:=HXX.out w1 (Br _ _);have hV1:=hV.below hb1 rfl;have hkl1:f.kids.length=1:=by rw [ho] at hkl;have:fkids 7=1:=rfl;omega
 obtain ⟨a,hk⟩:=flen1 hkl1
 rcases hV1.kids with h9 | ⟨g,off,rfl,hg,hrow⟩
 · rw [h9] at hk;cases hk
 unfold Fm.val;rw [ho,←hF,←hn,←hne];have hn1:n=1:=by rw [hn,hkl1]
 have hma:a∈f.kids:=by rw [hk];simp
 have hga:f.kids[0]?=some a:=by rw [hk];rfl
 obtain ⟨ra,hra⟩:=ex_ (frmT a 4);have hla:=frmT_len a 4
 have hcla:∀ (Ae2:Option Addr) (ce2:Nat) (A2:Option Addr) (c2:Nat) W,FmV W Ae2 ce2 A2 c2 a→Calls Tryz.prog 42 #[a.val Ae2 ce2 A2 c2,.int .i64 4] W fun e w'=>∃ s:ByteArray,e=.returned (.tuple #[.string s,.int .i64 ra.2])∧(ra.2=0→bs s=ra.1)∧Below W.heap.size W w':=fun Ae2 ce2 A2 c2 W hv=>by
  have h:=H a 4 (d+1) Ae2 ce2 A2 c2 W (hszk a hma).1 (hkids a hma) (hszk a hma).2.2 (hszk a hma).2.1 (by omega) hv;unfold FTQ at h;rw [←hra] at h;exact h
 have HCa:=Hd hcla;rw [←hra] at hla;have HLa:=Hd hla
 have HLS:Hid (a.size+1≤f.size):=by
  have h1:=Fm.sizeL_mem hma;show _≤_
  cases f with
  | mk op0 e0 l0'=>
   simp only [Fm.kids] at hk;rw [Fm.size,hk];simp only [Fm.sizeL];omega
 have HRES:Hid (frmT f least=if ra.2≠0 then ([],ra.2) else if strongF 7<least then ([40]++(preF 7++ra.1)++[41],0) else (preF 7++ra.1,0)):=by
  show _=_;have hb:(if f.op=1 then ([91]++(showTm f.tm).1++[93],(showTm f.tm).2) else frmK f.op f.kids)=aheadF (preF 7) a:=by rw [iN (by omega),ho,hk,bar1 rfl]
  rw [frmT_bar,hb,ho,hra]
  rfl
 have HST:Hid (∀ W,Calls Tryz.prog 82 #[.int .i64 7] W fun e w'=>e=.returned (.int .i64 4)∧w'=W):=fun W=>by
  have h:=rfstrong_any 7 W;rw [show ((strongF 7:Nat):Int)=4 from rfl] at h;exact h
 have HROW:=Hd hrow;have HF:=Hd hF;have HB1:=Hd hb1;have HW1:=Hd hw1;have HFS:=Hd hsz;have HGa:=Hd hga;have HRa:=Hd hra;clear hF hb1 hw1 hV hV1 hbx hn hne hok hkids hszk hk1 hkl hk0 H hk hkl1 hrow hsz hws hN hts hga hma hra hla hcla;subst hn1;go_enter Tryz.func42,Tryz.ntmps42;go_wp2_with fail;rw [←HW1.out];go_wp2_with fail;refine wp_region_still_drew 7 (by kernel_rfl) (by kernel_rfl) ?_;simp only [List.take_succ_cons,List.take_zero,List.drop_succ_cons,List.drop_zero]
 repeat still_step
 still_call (HST.out _)
 repeat still_step
 still_call (HST.out _)
 repeat still_step
 refine wpStill_nil ?_;go_wp2_with fail;obtain ⟨i0,hi,hz0,hz1,hz2⟩:=info_parts infoStr
 go_loopw [9,10,11,12] (fun sl si _ _ wr=>∃ (k:Nat) (ys:List ByteArray),k≤1∧si=.int .i64 k∧TxR w1 wr (w1.heap.size) 4 5 f.kids k sl ys) (fun _ i _ _ _=>1 - (intOf i).toNat)
 case atStart=>exact ⟨0,[],zl _,rfl,TxR.first (w2:=(w1.alloc (.cells #[.int .i64 4,.int .i64 5] 3))) ((Br _ _).alloc (lr _) _) (hA_ w1 _) (by simp) (by omega)⟩
 case round=>
  obtain ⟨k,ys,hk,rfl,hR⟩:=hrel;obtain ⟨sa,scap,hsv⟩:=own_shape hR.own;subst hsv;have HR:=Hd hR;have hbel:=hR.below;have hszr:=hbel.size;have hblr:=hR.blt;have y0:=hR.c0;have y1:=hR.c1;obtain ⟨x0,x1,x2,x3,x4,x5⟩:=HXX.out wr hbel;have hwwr:w.heap.size<wr.heap.size:=by omega
  have hgw:g<wr.heap.size:=by omega
  have hkc:k=0∨k=1:=by omega
  clear x1 x2 x3 x4 hk
  rcases hkc with rfl | rfl
  · have hat:=(HROW.out.get HGa.out).below hbel rfl hg;obtain ⟨q0,q1,q2,q3,Ae2,ce2,A2,c2,q4,q5,hV2⟩:=hat.open;simp only [Nat.mul_zero,Nat.add_zero] at q0 q1 q2 q3 q4 q5;obtain ⟨n2,hn2⟩:=ex_ a.kids.length;obtain ⟨ne2,hne2⟩:=ex_ a.tm.kids.length
    have HC:Hid (∀ W,Below wr.heap.size wr W→Calls Tryz.prog 42 #[.agg #[.int .i64 a.op,.int .i64 a.tm.op,.int .i64 a.tm.num,.string a.tm.name,.slice Ae2 ne2 ce2,.slice A2 n2 c2],.int .i64 4] W fun e w'=>∃ s:ByteArray,e=.returned (.tuple #[.string s,.int .i64 ra.2])∧(ra.2=0→bs s=ra.1)∧Below W.heap.size W w'):=fun W hb=>by
     have hcall:=HCa.out Ae2 ce2 A2 c2 W (hV2.below hb rfl);unfold Fm.val at hcall;rw [←hn2,←hne2] at hcall;exact hcall
    rw [←hn2] at q5;rw [←hne2] at q4;clear hn2 hne2 hV2 hat hbel hR;go_wp2_with fail;have hbd:Below wr.heap.size wr wr.drew:=(Br _ _).drew
    go_region_held3 (fun w'=>(∀ o,w'.cell? ⟨w.heap.size,o,none⟩=wr.cell? ⟨w.heap.size,o,none⟩)∧(∀ o,w'.cell? ⟨g,o,none⟩=wr.cell? ⟨g,o,none⟩)∧(∀ o,w'.cell? ⟨w1.heap.size,o,none⟩=wr.cell? ⟨w1.heap.size,o,none⟩)∧Below wr.heap.size wr w')
     (first | (exact ⟨keep_cells (by assumption) hwwr,keep_cells (by assumption) hgw,keep_cells (by assumption) hblr,by assumption⟩) | fail)
     (first | (go_at_call 42;with_reducible refine (HC.out _ (by assumption)).mono ?_;rintro e w4 ⟨s4,rfl,hs4,hb4⟩;have hb5:=keep_step (by assumption) hb4) | fail)
    have HB5:=Hd hb5;have HBW:=Hd (HB1.out.trans ((keep_step HR.out.below hb5).mono (by omega)));have hs5:=hb5.size;have HO4:=Hd (own_keepB HR.out.own hb5);have HS4:=Hd hs4;clear hbd hb4 hb5 hs4 q0 q1 q2 q3 q4 q5 x0 x5 y0 y1
    by_cases hz:ra.2=0
    · have hy4:=HS4.out hz;have HY4:=Hd hy4;have HZ:=Hd hz;have hzb:(ra.2 != 0)=false:=by simpa using hz
      clear hy4 hz
      go_wp2_with (at_builtin;refine wpList_append_lies _ (by rfl) _ _ _ (by rfl) (w1.heap.size+1) 9 i0 (.string ⟨#[]⟩) 1 16 Tryz.underlying48 hi hz0 hz1 hz2 rfl (by decide) _ 0 _ (by rfl) (HO4.out.alloc _) ⟨w4.heap.size,0,none⟩ 1 1 [.string s4] (by rfl) rfl (World.news_of_block (hA_ w4 _)) (fun u hu=>by rw [List.mem_singleton.1 hu];rfl) (by decide) ?c3 ?c4 ?c5 (w4.heap.size+1) (by simp) ?_)
      case c3=>unfold maxLen;omega
      case c4=>omega
      case c5=>first | omega | (simp;omega)
      intro g' cap' w6 hown6 hgrow6 hat6 hlt6
      have hown6':w6.ownsRow (w1.heap.size+1) 9 1 (.slice (some ⟨g',0,none⟩) (0+1) cap') (0+1) ((ys++[s4]).map Value.string):=by
       rw [List.map_append,List.map_singleton];exact hown6
      have HR6:=Hd (TxR.next HR.out HB5.out hgrow6 hown6' HGa.out (by show (frmT a 4).2=0;rw [←HRa.out];exact HZ.out) (by show _=(frmT a 4).1;rw [←HRa.out];exact HY4.out));clear hown6 hown6' hgrow6 hat6;go_wp2_with fail
      go_roundw
      case rel=>exact ⟨0+1,ys++[s4],by omega,rfl,HR6.out⟩
      case measure=>simp [intOf]
    · have HZ:=Hd hz;have hzb:(ra.2 != 0)=true:=by simpa using hz
      clear hz;go_wp2_with fail;rw [HF.out];have h2:frmT f least=([],ra.2):=by rw [HRES.out,iP HZ.out]
      exact ⟨⟨#[]⟩,by rw [h2];rfl,fun h=>by rw [h2] at h;exact absurd h HZ.out,HBW.out⟩
  · rw [show ((1:Nat):Int)=1 from rfl];obtain ⟨A9,c9,hv9,hs9⟩:=strs_of_own (by rw [hR.len];exact hR.own);rw [hR.len] at hv9;obtain ⟨rfl,-,rfl⟩:sa=A9∧1=1∧scap=c9:=by injection hv9 with h1 h2 h3;exact ⟨h1,rfl,h3⟩
    rcases hs9 with h9 | ⟨gb,ob,rfl,hgb,hcb⟩
    · have h:=hR.len;rw [h9] at h;simp at h
    obtain ⟨h0a,va,hya,hta⟩:=hR.txt 0 a HGa.out (by omega)
    change (frmT a 4).2=0 at h0a
    change bs va=(frmT a 4).1 at hta
    rw [←HRa.out] at h0a hta;have z0:=hcb 0 (by rw [hR.len];omega);rw [show ys.getD 0 ByteArray.empty=va by simp [List.getD,hya]] at z0;have hvaz:va.size=ra.1.length:=by rw [←hta];rfl
    simp only [Nat.add_zero] at z0;obtain ⟨S1,hS1⟩:∃ S1:ByteArray,S1=(⟨#[69,70,32]⟩:ByteArray)++va:=⟨_,rfl⟩;have szS1:S1.size=3+va.size:=by rw [hS1,bA] <;> rfl
    obtain ⟨U1,hU1⟩:∃ U1:ByteArray,U1=(⟨#[40]⟩:ByteArray)++S1:=⟨_,rfl⟩;have szU1:U1.size=1+S1.size:=by rw [hU1,bA] <;> rfl
    obtain ⟨U2,hU2⟩:∃ U2:ByteArray,U2=U1++(⟨#[41]⟩:ByteArray):=⟨_,rfl⟩;have szU2:U2.size=U1.size+1:=by rw [hU2,bA] <;> rfl
    have hLa:=HLa.out;have hLS:=HLS.out;have hFS:=HFS.out;have hcatS1:=rle_run hS1 (by show 3+va.size≤_;omega);have hcatU1:=rle_run hU1 (by show 1+S1.size≤_;omega);have hcatU2:=rle_run hU2 (by show U1.size+1≤_;omega)
    have HT1:Hid (bs S1=preF 7++ra.1):=by
     show _=_;rw [hS1,←hta];simp [bs,preF]
    have HT2:Hid (bs U2=[40]++bs S1++[41]):=by show _=_;rw [hU2,hU1];simp [bs]
    have H0a:=Hd h0a;have HBE:=Hd (HB1.out.trans (hbel.mono (by omega)));clear hS1 szS1 hU1 szU1 hU2 szU2 h0a hya hta hvaz hLa hLS hFS hcb hv9 hbel hR y0 y1
    by_cases hsl:strongF 7<least
    · exfalso
      change 4<least at hsl
      omega
    · have HSL:=Hd hsl
      change ¬(4<least) at hsl
      have hsl':¬((4:Int)<(least:Int)):=by omega
      clear hsl;go_wp2_with fail;refine (HST.out _).mono ?_;rintro e w8 ⟨rfl,hw8⟩;rw [hw8];clear hw8;go_wp2_with fail;rw [HF.out];have h2:frmT f least=((preF 7++ra.1),0):=by rw [HRES.out,iN (fun h=>h H0a.out),iN HSL.out]
      exact ⟨S1,by rw [h2];rfl,fun _=>by rw [h2];exact HT1.out,HBE.out⟩
theorem rtext_u8 (N:Nat) (H:RTextC N) (f:Fm) (least d:Nat) (Ae:Option Addr) (ce:Nat) (A:Option Addr) (c:Nat) (w:World) (hN:f.size≤N+1) (hok:f.okT d) (hws:f.wsize≤9000000) (hsz:f.size≤5000) (hl4:least≤4) (hV:FmV w Ae ce A c f) (ho:f.op=8) :
 Calls Tryz.prog 42 #[f.val Ae ce A c,.int .i64 (least:Nat)] w (FTQ f least w):=by
 obtain ⟨-,⟨hk0,hkl,hk1⟩,hkids⟩:=fokT_open hok;obtain ⟨n,hn⟩:=ex_ f.kids.length;obtain ⟨ne,hne⟩:=ex_ f.tm.kids.length;obtain ⟨F,hF⟩:=ex_ (FTQ f least w)
 have hszk:∀ k∈f.kids,k.size≤N∧k.size≤5000∧k.wsize≤9000000:=fun k hk=>by
  have h1:=Fm.sizeL_mem hk;have h2:=(Fm.wsize_open f).2 k hk
  cases f with
  | mk op e l=>rw [Fm.size] at hN hsz;simp only [Fm.kids] at h1;omega
 have hts:=(Fm.wsize_open f).1;have hcap:=hV.cap;have hcapm:=hV.capm;unfold maxLen at hcapm;obtain ⟨w1,hw1⟩:=ex_ (w.alloc (.cells #[.int .i64 8,.int .i64 f.tm.op,.int .i64 f.tm.num,.string f.tm.name,.slice Ae ne ce,.slice A n c] 35));have hb1:=bAl hw1;have hs1:w.heap.size<w1.heap.size:=by rw [hw1];simp
 have hbx:FBox w1 w.heap.size Ae ne ce A n c f:=by unfold FBox;rw [hw1,ho];exact hA_ w _
 have HXX:Hid (∀ W,Below w1.heap.size w1 W→W.cell? ⟨w.heap.size,0,none⟩=some (.int .i64 8)∧W.cell? ⟨w.heap.size,1,none⟩=some (.int .i64 f.tm.op)∧W.cell? ⟨w.heap.size,2,none⟩=some (.int .i64 f.tm.num)∧W.cell? ⟨w.heap.size,3,none⟩=some (.string f.tm.name)∧W.cell? ⟨w.heap.size,4,none⟩=some (.slice Ae ne ce)∧W.cell? ⟨w.heap.size,5,none⟩=some (.slice A n c)):=fun W hb=>by
  have hx:=hbx.below hb hs1;have h0:=hx.c0;rw [ho] at h0;exact ⟨h0,hx.c1,hx.c2,hx.c3,hx.c4,hx.c5⟩
 obtain ⟨x0,x1,x2,x3,x4,x5⟩:=HXX.out w1 (Br _ _);have hV1:=hV.below hb1 rfl;have hkl1:f.kids.length=1:=by rw [ho] at hkl;have:fkids 8=1:=rfl;omega
 obtain ⟨a,hk⟩:=flen1 hkl1
 rcases hV1.kids with h9 | ⟨g,off,rfl,hg,hrow⟩
 · rw [h9] at hk;cases hk
 unfold Fm.val;rw [ho,←hF,←hn,←hne];have hn1:n=1:=by rw [hn,hkl1]
 have hma:a∈f.kids:=by rw [hk];simp
 have hga:f.kids[0]?=some a:=by rw [hk];rfl
 obtain ⟨ra,hra⟩:=ex_ (frmT a 4);have hla:=frmT_len a 4
 have hcla:∀ (Ae2:Option Addr) (ce2:Nat) (A2:Option Addr) (c2:Nat) W,FmV W Ae2 ce2 A2 c2 a→Calls Tryz.prog 42 #[a.val Ae2 ce2 A2 c2,.int .i64 4] W fun e w'=>∃ s:ByteArray,e=.returned (.tuple #[.string s,.int .i64 ra.2])∧(ra.2=0→bs s=ra.1)∧Below W.heap.size W w':=fun Ae2 ce2 A2 c2 W hv=>by
  have h:=H a 4 (d+1) Ae2 ce2 A2 c2 W (hszk a hma).1 (hkids a hma) (hszk a hma).2.2 (hszk a hma).2.1 (by omega) hv;unfold FTQ at h;rw [←hra] at h;exact h
 have HCa:=Hd hcla;rw [←hra] at hla;have HLa:=Hd hla
 have HLS:Hid (a.size+1≤f.size):=by
  have h1:=Fm.sizeL_mem hma;show _≤_
  cases f with
  | mk op0 e0 l0'=>
   simp only [Fm.kids] at hk;rw [Fm.size,hk];simp only [Fm.sizeL];omega
 have HRES:Hid (frmT f least=if ra.2≠0 then ([],ra.2) else if strongF 8<least then ([40]++(preF 8++ra.1)++[41],0) else (preF 8++ra.1,0)):=by
  show _=_;have hb:(if f.op=1 then ([91]++(showTm f.tm).1++[93],(showTm f.tm).2) else frmK f.op f.kids)=aheadF (preF 8) a:=by rw [iN (by omega),ho,hk,bar1 rfl]
  rw [frmT_bar,hb,ho,hra]
  rfl
 have HST:Hid (∀ W,Calls Tryz.prog 82 #[.int .i64 8] W fun e w'=>e=.returned (.int .i64 4)∧w'=W):=fun W=>by
  have h:=rfstrong_any 8 W;rw [show ((strongF 8:Nat):Int)=4 from rfl] at h;exact h
 have HROW:=Hd hrow;have HF:=Hd hF;have HB1:=Hd hb1;have HW1:=Hd hw1;have HFS:=Hd hsz;have HGa:=Hd hga;have HRa:=Hd hra;clear hF hb1 hw1 hV hV1 hbx hn hne hok hkids hszk hk1 hkl hk0 H hk hkl1 hrow hsz hws hN hts hga hma hra hla hcla;subst hn1;go_enter Tryz.func42,Tryz.ntmps42;go_wp2_with fail;rw [←HW1.out];go_wp2_with fail;refine wp_region_still_drew 7 (by kernel_rfl) (by kernel_rfl) ?_;simp only [List.take_succ_cons,List.take_zero,List.drop_succ_cons,List.drop_zero]
 repeat still_step
 still_call (HST.out _)
 repeat still_step
 still_call (HST.out _)
 repeat still_step
 refine wpStill_nil ?_;go_wp2_with fail;obtain ⟨i0,hi,hz0,hz1,hz2⟩:=info_parts infoStr
 go_loopw [9,10,11,12] (fun sl si _ _ wr=>∃ (k:Nat) (ys:List ByteArray),k≤1∧si=.int .i64 k∧TxR w1 wr (w1.heap.size) 4 5 f.kids k sl ys) (fun _ i _ _ _=>1 - (intOf i).toNat)
 case atStart=>exact ⟨0,[],zl _,rfl,TxR.first (w2:=(w1.alloc (.cells #[.int .i64 4,.int .i64 5] 3))) ((Br _ _).alloc (lr _) _) (hA_ w1 _) (by simp) (by omega)⟩
 case round=>
  obtain ⟨k,ys,hk,rfl,hR⟩:=hrel;obtain ⟨sa,scap,hsv⟩:=own_shape hR.own;subst hsv;have HR:=Hd hR;have hbel:=hR.below;have hszr:=hbel.size;have hblr:=hR.blt;have y0:=hR.c0;have y1:=hR.c1;obtain ⟨x0,x1,x2,x3,x4,x5⟩:=HXX.out wr hbel;have hwwr:w.heap.size<wr.heap.size:=by omega
  have hgw:g<wr.heap.size:=by omega
  have hkc:k=0∨k=1:=by omega
  clear x1 x2 x3 x4 hk
  rcases hkc with rfl | rfl
  · have hat:=(HROW.out.get HGa.out).below hbel rfl hg;obtain ⟨q0,q1,q2,q3,Ae2,ce2,A2,c2,q4,q5,hV2⟩:=hat.open;simp only [Nat.mul_zero,Nat.add_zero] at q0 q1 q2 q3 q4 q5;obtain ⟨n2,hn2⟩:=ex_ a.kids.length;obtain ⟨ne2,hne2⟩:=ex_ a.tm.kids.length
    have HC:Hid (∀ W,Below wr.heap.size wr W→Calls Tryz.prog 42 #[.agg #[.int .i64 a.op,.int .i64 a.tm.op,.int .i64 a.tm.num,.string a.tm.name,.slice Ae2 ne2 ce2,.slice A2 n2 c2],.int .i64 4] W fun e w'=>∃ s:ByteArray,e=.returned (.tuple #[.string s,.int .i64 ra.2])∧(ra.2=0→bs s=ra.1)∧Below W.heap.size W w'):=fun W hb=>by
     have hcall:=HCa.out Ae2 ce2 A2 c2 W (hV2.below hb rfl);unfold Fm.val at hcall;rw [←hn2,←hne2] at hcall;exact hcall
    rw [←hn2] at q5;rw [←hne2] at q4;clear hn2 hne2 hV2 hat hbel hR;go_wp2_with fail;have hbd:Below wr.heap.size wr wr.drew:=(Br _ _).drew
    go_region_held3 (fun w'=>(∀ o,w'.cell? ⟨w.heap.size,o,none⟩=wr.cell? ⟨w.heap.size,o,none⟩)∧(∀ o,w'.cell? ⟨g,o,none⟩=wr.cell? ⟨g,o,none⟩)∧(∀ o,w'.cell? ⟨w1.heap.size,o,none⟩=wr.cell? ⟨w1.heap.size,o,none⟩)∧Below wr.heap.size wr w')
     (first | (exact ⟨keep_cells (by assumption) hwwr,keep_cells (by assumption) hgw,keep_cells (by assumption) hblr,by assumption⟩) | fail)
     (first | (go_at_call 42;with_reducible refine (HC.out _ (by assumption)).mono ?_;rintro e w4 ⟨s4,rfl,hs4,hb4⟩;have hb5:=keep_step (by assumption) hb4) | fail)
    have HB5:=Hd hb5;have HBW:=Hd (HB1.out.trans ((keep_step HR.out.below hb5).mono (by omega)));have hs5:=hb5.size;have HO4:=Hd (own_keepB HR.out.own hb5);have HS4:=Hd hs4;clear hbd hb4 hb5 hs4 q0 q1 q2 q3 q4 q5 x0 x5 y0 y1
    by_cases hz:ra.2=0
    · have hy4:=HS4.out hz;have HY4:=Hd hy4;have HZ:=Hd hz;have hzb:(ra.2 != 0)=false:=by simpa using hz
      clear hy4 hz
      go_wp2_with (at_builtin;refine wpList_append_lies _ (by rfl) _ _ _ (by rfl) (w1.heap.size+1) 9 i0 (.string ⟨#[]⟩) 1 16 Tryz.underlying48 hi hz0 hz1 hz2 rfl (by decide) _ 0 _ (by rfl) (HO4.out.alloc _) ⟨w4.heap.size,0,none⟩ 1 1 [.string s4] (by rfl) rfl (World.news_of_block (hA_ w4 _)) (fun u hu=>by rw [List.mem_singleton.1 hu];rfl) (by decide) ?c3 ?c4 ?c5 (w4.heap.size+1) (by simp) ?_)
      case c3=>unfold maxLen;omega
      case c4=>omega
      case c5=>first | omega | (simp;omega)
      intro g' cap' w6 hown6 hgrow6 hat6 hlt6
      have hown6':w6.ownsRow (w1.heap.size+1) 9 1 (.slice (some ⟨g',0,none⟩) (0+1) cap') (0+1) ((ys++[s4]).map Value.string):=by
       rw [List.map_append,List.map_singleton];exact hown6
      have HR6:=Hd (TxR.next HR.out HB5.out hgrow6 hown6' HGa.out (by show (frmT a 4).2=0;rw [←HRa.out];exact HZ.out) (by show _=(frmT a 4).1;rw [←HRa.out];exact HY4.out));clear hown6 hown6' hgrow6 hat6;go_wp2_with fail
      go_roundw
      case rel=>exact ⟨0+1,ys++[s4],by omega,rfl,HR6.out⟩
      case measure=>simp [intOf]
    · have HZ:=Hd hz;have hzb:(ra.2 != 0)=true:=by simpa using hz
      clear hz;go_wp2_with fail;rw [HF.out];have h2:frmT f least=([],ra.2):=by rw [HRES.out,iP HZ.out]
      exact ⟨⟨#[]⟩,by rw [h2];rfl,fun h=>by rw [h2] at h;exact absurd h HZ.out,HBW.out⟩
  · rw [show ((1:Nat):Int)=1 from rfl];obtain ⟨A9,c9,hv9,hs9⟩:=strs_of_own (by rw [hR.len];exact hR.own);rw [hR.len] at hv9;obtain ⟨rfl,-,rfl⟩:sa=A9∧1=1∧scap=c9:=by injection hv9 with h1 h2 h3;exact ⟨h1,rfl,h3⟩
    rcases hs9 with h9 | ⟨gb,ob,rfl,hgb,hcb⟩
    · have h:=hR.len;rw [h9] at h;simp at h
    obtain ⟨h0a,va,hya,hta⟩:=hR.txt 0 a HGa.out (by omega)
    change (frmT a 4).2=0 at h0a
    change bs va=(frmT a 4).1 at hta
    rw [←HRa.out] at h0a hta;have z0:=hcb 0 (by rw [hR.len];omega);rw [show ys.getD 0 ByteArray.empty=va by simp [List.getD,hya]] at z0;have hvaz:va.size=ra.1.length:=by rw [←hta];rfl
    simp only [Nat.add_zero] at z0;obtain ⟨S1,hS1⟩:∃ S1:ByteArray,S1=(⟨#[69,71,32]⟩:ByteArray)++va:=⟨_,rfl⟩;have szS1:S1.size=3+va.size:=by rw [hS1,bA] <;> rfl
    obtain ⟨U1,hU1⟩:∃ U1:ByteArray,U1=(⟨#[40]⟩:ByteArray)++S1:=⟨_,rfl⟩;have szU1:U1.size=1+S1.size:=by rw [hU1,bA] <;> rfl
    obtain ⟨U2,hU2⟩:∃ U2:ByteArray,U2=U1++(⟨#[41]⟩:ByteArray):=⟨_,rfl⟩;have szU2:U2.size=U1.size+1:=by rw [hU2,bA] <;> rfl
    have hLa:=HLa.out;have hLS:=HLS.out;have hFS:=HFS.out;have hcatS1:=rle_run hS1 (by show 3+va.size≤_;omega);have hcatU1:=rle_run hU1 (by show 1+S1.size≤_;omega);have hcatU2:=rle_run hU2 (by show U1.size+1≤_;omega)
    have HT1:Hid (bs S1=preF 8++ra.1):=by
     show _=_;rw [hS1,←hta];simp [bs,preF]
    have HT2:Hid (bs U2=[40]++bs S1++[41]):=by show _=_;rw [hU2,hU1];simp [bs]
    have H0a:=Hd h0a;have HBE:=Hd (HB1.out.trans (hbel.mono (by omega)));clear hS1 szS1 hU1 szU1 hU2 szU2 h0a hya hta hvaz hLa hLS hFS hcb hv9 hbel hR y0 y1
    by_cases hsl:strongF 8<least
    · exfalso
      change 4<least at hsl
      omega
    · have HSL:=Hd hsl
      change ¬(4<least) at hsl
      have hsl':¬((4:Int)<(least:Int)):=by omega
      clear hsl;go_wp2_with fail;refine (HST.out _).mono ?_;rintro e w8 ⟨rfl,hw8⟩;rw [hw8];clear hw8;go_wp2_with fail;rw [HF.out];have h2:frmT f least=((preF 8++ra.1),0):=by rw [HRES.out,iN (fun h=>h H0a.out),iN HSL.out]
      exact ⟨S1,by rw [h2];rfl,fun _=>by rw [h2];exact HT1.out,HBE.out⟩
theorem rtext_u10 (N:Nat) (H:RTextC N) (f:Fm) (least d:Nat) (Ae:Option Addr) (ce:Nat) (A:Option Addr) (c:Nat) (w:World) (hN:f.size≤N+1) (hok:f.okT d) (hws:f.wsize≤9000000) (hsz:f.size≤5000) (hl4:least≤4) (hV:FmV w Ae ce A c f) (ho:f.op=10) :
 Calls Tryz.prog 42 #[f.val Ae ce A c,.int .i64 (least:Nat)] w (FTQ f least w):=by
 obtain ⟨-,⟨hk0,hkl,hk1⟩,hkids⟩:=fokT_open hok;obtain ⟨n,hn⟩:=ex_ f.kids.length;obtain ⟨ne,hne⟩:=ex_ f.tm.kids.length;obtain ⟨F,hF⟩:=ex_ (FTQ f least w)
 have hszk:∀ k∈f.kids,k.size≤N∧k.size≤5000∧k.wsize≤9000000:=fun k hk=>by
  have h1:=Fm.sizeL_mem hk;have h2:=(Fm.wsize_open f).2 k hk
  cases f with
  | mk op e l=>rw [Fm.size] at hN hsz;simp only [Fm.kids] at h1;omega
 have hts:=(Fm.wsize_open f).1;have hcap:=hV.cap;have hcapm:=hV.capm;unfold maxLen at hcapm;obtain ⟨w1,hw1⟩:=ex_ (w.alloc (.cells #[.int .i64 10,.int .i64 f.tm.op,.int .i64 f.tm.num,.string f.tm.name,.slice Ae ne ce,.slice A n c] 35));have hb1:=bAl hw1;have hs1:w.heap.size<w1.heap.size:=by rw [hw1];simp
 have hbx:FBox w1 w.heap.size Ae ne ce A n c f:=by unfold FBox;rw [hw1,ho];exact hA_ w _
 have HXX:Hid (∀ W,Below w1.heap.size w1 W→W.cell? ⟨w.heap.size,0,none⟩=some (.int .i64 10)∧W.cell? ⟨w.heap.size,1,none⟩=some (.int .i64 f.tm.op)∧W.cell? ⟨w.heap.size,2,none⟩=some (.int .i64 f.tm.num)∧W.cell? ⟨w.heap.size,3,none⟩=some (.string f.tm.name)∧W.cell? ⟨w.heap.size,4,none⟩=some (.slice Ae ne ce)∧W.cell? ⟨w.heap.size,5,none⟩=some (.slice A n c)):=fun W hb=>by
  have hx:=hbx.below hb hs1;have h0:=hx.c0;rw [ho] at h0;exact ⟨h0,hx.c1,hx.c2,hx.c3,hx.c4,hx.c5⟩
 obtain ⟨x0,x1,x2,x3,x4,x5⟩:=HXX.out w1 (Br _ _);have hV1:=hV.below hb1 rfl;have hkl1:f.kids.length=1:=by rw [ho] at hkl;have:fkids 10=1:=rfl;omega
 obtain ⟨a,hk⟩:=flen1 hkl1
 rcases hV1.kids with h9 | ⟨g,off,rfl,hg,hrow⟩
 · rw [h9] at hk;cases hk
 unfold Fm.val;rw [ho,←hF,←hn,←hne];have hn1:n=1:=by rw [hn,hkl1]
 have hma:a∈f.kids:=by rw [hk];simp
 have hga:f.kids[0]?=some a:=by rw [hk];rfl
 obtain ⟨ra,hra⟩:=ex_ (frmT a 4);have hla:=frmT_len a 4
 have hcla:∀ (Ae2:Option Addr) (ce2:Nat) (A2:Option Addr) (c2:Nat) W,FmV W Ae2 ce2 A2 c2 a→Calls Tryz.prog 42 #[a.val Ae2 ce2 A2 c2,.int .i64 4] W fun e w'=>∃ s:ByteArray,e=.returned (.tuple #[.string s,.int .i64 ra.2])∧(ra.2=0→bs s=ra.1)∧Below W.heap.size W w':=fun Ae2 ce2 A2 c2 W hv=>by
  have h:=H a 4 (d+1) Ae2 ce2 A2 c2 W (hszk a hma).1 (hkids a hma) (hszk a hma).2.2 (hszk a hma).2.1 (by omega) hv;unfold FTQ at h;rw [←hra] at h;exact h
 have HCa:=Hd hcla;rw [←hra] at hla;have HLa:=Hd hla
 have HLS:Hid (a.size+1≤f.size):=by
  have h1:=Fm.sizeL_mem hma;show _≤_
  cases f with
  | mk op0 e0 l0'=>
   simp only [Fm.kids] at hk;rw [Fm.size,hk];simp only [Fm.sizeL];omega
 have HRES:Hid (frmT f least=if ra.2≠0 then ([],ra.2) else if strongF 10<least then ([40]++(preF 10++ra.1)++[41],0) else (preF 10++ra.1,0)):=by
  show _=_;have hb:(if f.op=1 then ([91]++(showTm f.tm).1++[93],(showTm f.tm).2) else frmK f.op f.kids)=aheadF (preF 10) a:=by rw [iN (by omega),ho,hk,bar1 rfl]
  rw [frmT_bar,hb,ho,hra]
  rfl
 have HST:Hid (∀ W,Calls Tryz.prog 82 #[.int .i64 10] W fun e w'=>e=.returned (.int .i64 4)∧w'=W):=fun W=>by
  have h:=rfstrong_any 10 W;rw [show ((strongF 10:Nat):Int)=4 from rfl] at h;exact h
 have HROW:=Hd hrow;have HF:=Hd hF;have HB1:=Hd hb1;have HW1:=Hd hw1;have HFS:=Hd hsz;have HGa:=Hd hga;have HRa:=Hd hra;clear hF hb1 hw1 hV hV1 hbx hn hne hok hkids hszk hk1 hkl hk0 H hk hkl1 hrow hsz hws hN hts hga hma hra hla hcla;subst hn1;go_enter Tryz.func42,Tryz.ntmps42;go_wp2_with fail;rw [←HW1.out];go_wp2_with fail;refine wp_region_still_drew 7 (by kernel_rfl) (by kernel_rfl) ?_;simp only [List.take_succ_cons,List.take_zero,List.drop_succ_cons,List.drop_zero]
 repeat still_step
 still_call (HST.out _)
 repeat still_step
 still_call (HST.out _)
 repeat still_step
 refine wpStill_nil ?_;go_wp2_with fail;obtain ⟨i0,hi,hz0,hz1,hz2⟩:=info_parts infoStr
 go_loopw [9,10,11,12] (fun sl si _ _ wr=>∃ (k:Nat) (ys:List ByteArray),k≤1∧si=.int .i64 k∧TxR w1 wr (w1.heap.size) 4 5 f.kids k sl ys) (fun _ i _ _ _=>1 - (intOf i).toNat)
 case atStart=>exact ⟨0,[],zl _,rfl,TxR.first (w2:=(w1.alloc (.cells #[.int .i64 4,.int .i64 5] 3))) ((Br _ _).alloc (lr _) _) (hA_ w1 _) (by simp) (by omega)⟩
 case round=>
  obtain ⟨k,ys,hk,rfl,hR⟩:=hrel;obtain ⟨sa,scap,hsv⟩:=own_shape hR.own;subst hsv;have HR:=Hd hR;have hbel:=hR.below;have hszr:=hbel.size;have hblr:=hR.blt;have y0:=hR.c0;have y1:=hR.c1;obtain ⟨x0,x1,x2,x3,x4,x5⟩:=HXX.out wr hbel;have hwwr:w.heap.size<wr.heap.size:=by omega
  have hgw:g<wr.heap.size:=by omega
  have hkc:k=0∨k=1:=by omega
  clear x1 x2 x3 x4 hk
  rcases hkc with rfl | rfl
  · have hat:=(HROW.out.get HGa.out).below hbel rfl hg;obtain ⟨q0,q1,q2,q3,Ae2,ce2,A2,c2,q4,q5,hV2⟩:=hat.open;simp only [Nat.mul_zero,Nat.add_zero] at q0 q1 q2 q3 q4 q5;obtain ⟨n2,hn2⟩:=ex_ a.kids.length;obtain ⟨ne2,hne2⟩:=ex_ a.tm.kids.length
    have HC:Hid (∀ W,Below wr.heap.size wr W→Calls Tryz.prog 42 #[.agg #[.int .i64 a.op,.int .i64 a.tm.op,.int .i64 a.tm.num,.string a.tm.name,.slice Ae2 ne2 ce2,.slice A2 n2 c2],.int .i64 4] W fun e w'=>∃ s:ByteArray,e=.returned (.tuple #[.string s,.int .i64 ra.2])∧(ra.2=0→bs s=ra.1)∧Below W.heap.size W w'):=fun W hb=>by
     have hcall:=HCa.out Ae2 ce2 A2 c2 W (hV2.below hb rfl);unfold Fm.val at hcall;rw [←hn2,←hne2] at hcall;exact hcall
    rw [←hn2] at q5;rw [←hne2] at q4;clear hn2 hne2 hV2 hat hbel hR;go_wp2_with fail;have hbd:Below wr.heap.size wr wr.drew:=(Br _ _).drew
    go_region_held3 (fun w'=>(∀ o,w'.cell? ⟨w.heap.size,o,none⟩=wr.cell? ⟨w.heap.size,o,none⟩)∧(∀ o,w'.cell? ⟨g,o,none⟩=wr.cell? ⟨g,o,none⟩)∧(∀ o,w'.cell? ⟨w1.heap.size,o,none⟩=wr.cell? ⟨w1.heap.size,o,none⟩)∧Below wr.heap.size wr w')
     (first | (exact ⟨keep_cells (by assumption) hwwr,keep_cells (by assumption) hgw,keep_cells (by assumption) hblr,by assumption⟩) | fail)
     (first | (go_at_call 42;with_reducible refine (HC.out _ (by assumption)).mono ?_;rintro e w4 ⟨s4,rfl,hs4,hb4⟩;have hb5:=keep_step (by assumption) hb4) | fail)
    have HB5:=Hd hb5;have HBW:=Hd (HB1.out.trans ((keep_step HR.out.below hb5).mono (by omega)));have hs5:=hb5.size;have HO4:=Hd (own_keepB HR.out.own hb5);have HS4:=Hd hs4;clear hbd hb4 hb5 hs4 q0 q1 q2 q3 q4 q5 x0 x5 y0 y1
    by_cases hz:ra.2=0
    · have hy4:=HS4.out hz;have HY4:=Hd hy4;have HZ:=Hd hz;have hzb:(ra.2 != 0)=false:=by simpa using hz
      clear hy4 hz
      go_wp2_with (at_builtin;refine wpList_append_lies _ (by rfl) _ _ _ (by rfl) (w1.heap.size+1) 9 i0 (.string ⟨#[]⟩) 1 16 Tryz.underlying48 hi hz0 hz1 hz2 rfl (by decide) _ 0 _ (by rfl) (HO4.out.alloc _) ⟨w4.heap.size,0,none⟩ 1 1 [.string s4] (by rfl) rfl (World.news_of_block (hA_ w4 _)) (fun u hu=>by rw [List.mem_singleton.1 hu];rfl) (by decide) ?c3 ?c4 ?c5 (w4.heap.size+1) (by simp) ?_)
      case c3=>unfold maxLen;omega
      case c4=>omega
      case c5=>first | omega | (simp;omega)
      intro g' cap' w6 hown6 hgrow6 hat6 hlt6
      have hown6':w6.ownsRow (w1.heap.size+1) 9 1 (.slice (some ⟨g',0,none⟩) (0+1) cap') (0+1) ((ys++[s4]).map Value.string):=by
       rw [List.map_append,List.map_singleton];exact hown6
      have HR6:=Hd (TxR.next HR.out HB5.out hgrow6 hown6' HGa.out (by show (frmT a 4).2=0;rw [←HRa.out];exact HZ.out) (by show _=(frmT a 4).1;rw [←HRa.out];exact HY4.out));clear hown6 hown6' hgrow6 hat6;go_wp2_with fail
      go_roundw
      case rel=>exact ⟨0+1,ys++[s4],by omega,rfl,HR6.out⟩
      case measure=>simp [intOf]
    · have HZ:=Hd hz;have hzb:(ra.2 != 0)=true:=by simpa using hz
      clear hz;go_wp2_with fail;rw [HF.out];have h2:frmT f least=([],ra.2):=by rw [HRES.out,iP HZ.out]
      exact ⟨⟨#[]⟩,by rw [h2];rfl,fun h=>by rw [h2] at h;exact absurd h HZ.out,HBW.out⟩
  · rw [show ((1:Nat):Int)=1 from rfl];obtain ⟨A9,c9,hv9,hs9⟩:=strs_of_own (by rw [hR.len];exact hR.own);rw [hR.len] at hv9;obtain ⟨rfl,-,rfl⟩:sa=A9∧1=1∧scap=c9:=by injection hv9 with h1 h2 h3;exact ⟨h1,rfl,h3⟩
    rcases hs9 with h9 | ⟨gb,ob,rfl,hgb,hcb⟩
    · have h:=hR.len;rw [h9] at h;simp at h
    obtain ⟨h0a,va,hya,hta⟩:=hR.txt 0 a HGa.out (by omega)
    change (frmT a 4).2=0 at h0a
    change bs va=(frmT a 4).1 at hta
    rw [←HRa.out] at h0a hta;have z0:=hcb 0 (by rw [hR.len];omega);rw [show ys.getD 0 ByteArray.empty=va by simp [List.getD,hya]] at z0;have hvaz:va.size=ra.1.length:=by rw [←hta];rfl
    simp only [Nat.add_zero] at z0;obtain ⟨S1,hS1⟩:∃ S1:ByteArray,S1=(⟨#[65,88,32]⟩:ByteArray)++va:=⟨_,rfl⟩;have szS1:S1.size=3+va.size:=by rw [hS1,bA] <;> rfl
    obtain ⟨U1,hU1⟩:∃ U1:ByteArray,U1=(⟨#[40]⟩:ByteArray)++S1:=⟨_,rfl⟩;have szU1:U1.size=1+S1.size:=by rw [hU1,bA] <;> rfl
    obtain ⟨U2,hU2⟩:∃ U2:ByteArray,U2=U1++(⟨#[41]⟩:ByteArray):=⟨_,rfl⟩;have szU2:U2.size=U1.size+1:=by rw [hU2,bA] <;> rfl
    have hLa:=HLa.out;have hLS:=HLS.out;have hFS:=HFS.out;have hcatS1:=rle_run hS1 (by show 3+va.size≤_;omega);have hcatU1:=rle_run hU1 (by show 1+S1.size≤_;omega);have hcatU2:=rle_run hU2 (by show U1.size+1≤_;omega)
    have HT1:Hid (bs S1=preF 10++ra.1):=by
     show _=_;rw [hS1,←hta];simp [bs,preF]
    have HT2:Hid (bs U2=[40]++bs S1++[41]):=by show _=_;rw [hU2,hU1];simp [bs]
    have H0a:=Hd h0a;have HBE:=Hd (HB1.out.trans (hbel.mono (by omega)));clear hS1 szS1 hU1 szU1 hU2 szU2 h0a hya hta hvaz hLa hLS hFS hcb hv9 hbel hR y0 y1
    by_cases hsl:strongF 10<least
    · exfalso
      change 4<least at hsl
      omega
    · have HSL:=Hd hsl
      change ¬(4<least) at hsl
      have hsl':¬((4:Int)<(least:Int)):=by omega
      clear hsl;go_wp2_with fail;refine (HST.out _).mono ?_;rintro e w8 ⟨rfl,hw8⟩;rw [hw8];clear hw8;go_wp2_with fail;rw [HF.out];have h2:frmT f least=((preF 10++ra.1),0):=by rw [HRES.out,iN (fun h=>h H0a.out),iN HSL.out]
      exact ⟨S1,by rw [h2];rfl,fun _=>by rw [h2];exact HT1.out,HBE.out⟩
theorem rtext_u11 (N:Nat) (H:RTextC N) (f:Fm) (least d:Nat) (Ae:Option Addr) (ce:Nat) (A:Option Addr) (c:Nat) (w:World) (hN:f.size≤N+1) (hok:f.okT d) (hws:f.wsize≤9000000) (hsz:f.size≤5000) (hl4:least≤4) (hV:FmV w Ae ce A c f) (ho:f.op=11) :
 Calls Tryz.prog 42 #[f.val Ae ce A c,.int .i64 (least:Nat)] w (FTQ f least w):=by
 obtain ⟨-,⟨hk0,hkl,hk1⟩,hkids⟩:=fokT_open hok;obtain ⟨n,hn⟩:=ex_ f.kids.length;obtain ⟨ne,hne⟩:=ex_ f.tm.kids.length;obtain ⟨F,hF⟩:=ex_ (FTQ f least w)
 have hszk:∀ k∈f.kids,k.size≤N∧k.size≤5000∧k.wsize≤9000000:=fun k hk=>by
  have h1:=Fm.sizeL_mem hk;have h2:=(Fm.wsize_open f).2 k hk
  cases f with
  | mk op e l=>rw [Fm.size] at hN hsz;simp only [Fm.kids] at h1;omega
 have hts:=(Fm.wsize_open f).1;have hcap:=hV.cap;have hcapm:=hV.capm;unfold maxLen at hcapm;obtain ⟨w1,hw1⟩:=ex_ (w.alloc (.cells #[.int .i64 11,.int .i64 f.tm.op,.int .i64 f.tm.num,.string f.tm.name,.slice Ae ne ce,.slice A n c] 35));have hb1:=bAl hw1;have hs1:w.heap.size<w1.heap.size:=by rw [hw1];simp
 have hbx:FBox w1 w.heap.size Ae ne ce A n c f:=by unfold FBox;rw [hw1,ho];exact hA_ w _
 have HXX:Hid (∀ W,Below w1.heap.size w1 W→W.cell? ⟨w.heap.size,0,none⟩=some (.int .i64 11)∧W.cell? ⟨w.heap.size,1,none⟩=some (.int .i64 f.tm.op)∧W.cell? ⟨w.heap.size,2,none⟩=some (.int .i64 f.tm.num)∧W.cell? ⟨w.heap.size,3,none⟩=some (.string f.tm.name)∧W.cell? ⟨w.heap.size,4,none⟩=some (.slice Ae ne ce)∧W.cell? ⟨w.heap.size,5,none⟩=some (.slice A n c)):=fun W hb=>by
  have hx:=hbx.below hb hs1;have h0:=hx.c0;rw [ho] at h0;exact ⟨h0,hx.c1,hx.c2,hx.c3,hx.c4,hx.c5⟩
 obtain ⟨x0,x1,x2,x3,x4,x5⟩:=HXX.out w1 (Br _ _);have hV1:=hV.below hb1 rfl;have hkl1:f.kids.length=1:=by rw [ho] at hkl;have:fkids 11=1:=rfl;omega
 obtain ⟨a,hk⟩:=flen1 hkl1
 rcases hV1.kids with h9 | ⟨g,off,rfl,hg,hrow⟩
 · rw [h9] at hk;cases hk
 unfold Fm.val;rw [ho,←hF,←hn,←hne];have hn1:n=1:=by rw [hn,hkl1]
 have hma:a∈f.kids:=by rw [hk];simp
 have hga:f.kids[0]?=some a:=by rw [hk];rfl
 obtain ⟨ra,hra⟩:=ex_ (frmT a 4);have hla:=frmT_len a 4
 have hcla:∀ (Ae2:Option Addr) (ce2:Nat) (A2:Option Addr) (c2:Nat) W,FmV W Ae2 ce2 A2 c2 a→Calls Tryz.prog 42 #[a.val Ae2 ce2 A2 c2,.int .i64 4] W fun e w'=>∃ s:ByteArray,e=.returned (.tuple #[.string s,.int .i64 ra.2])∧(ra.2=0→bs s=ra.1)∧Below W.heap.size W w':=fun Ae2 ce2 A2 c2 W hv=>by
  have h:=H a 4 (d+1) Ae2 ce2 A2 c2 W (hszk a hma).1 (hkids a hma) (hszk a hma).2.2 (hszk a hma).2.1 (by omega) hv;unfold FTQ at h;rw [←hra] at h;exact h
 have HCa:=Hd hcla;rw [←hra] at hla;have HLa:=Hd hla
 have HLS:Hid (a.size+1≤f.size):=by
  have h1:=Fm.sizeL_mem hma;show _≤_
  cases f with
  | mk op0 e0 l0'=>
   simp only [Fm.kids] at hk;rw [Fm.size,hk];simp only [Fm.sizeL];omega
 have HRES:Hid (frmT f least=if ra.2≠0 then ([],ra.2) else if strongF 11<least then ([40]++(preF 11++ra.1)++[41],0) else (preF 11++ra.1,0)):=by
  show _=_;have hb:(if f.op=1 then ([91]++(showTm f.tm).1++[93],(showTm f.tm).2) else frmK f.op f.kids)=aheadF (preF 11) a:=by rw [iN (by omega),ho,hk,bar1 rfl]
  rw [frmT_bar,hb,ho,hra]
  rfl
 have HST:Hid (∀ W,Calls Tryz.prog 82 #[.int .i64 11] W fun e w'=>e=.returned (.int .i64 4)∧w'=W):=fun W=>by
  have h:=rfstrong_any 11 W;rw [show ((strongF 11:Nat):Int)=4 from rfl] at h;exact h
 have HROW:=Hd hrow;have HF:=Hd hF;have HB1:=Hd hb1;have HW1:=Hd hw1;have HFS:=Hd hsz;have HGa:=Hd hga;have HRa:=Hd hra;clear hF hb1 hw1 hV hV1 hbx hn hne hok hkids hszk hk1 hkl hk0 H hk hkl1 hrow hsz hws hN hts hga hma hra hla hcla;subst hn1;go_enter Tryz.func42,Tryz.ntmps42;go_wp2_with fail;rw [←HW1.out];go_wp2_with fail;refine wp_region_still_drew 7 (by kernel_rfl) (by kernel_rfl) ?_;simp only [List.take_succ_cons,List.take_zero,List.drop_succ_cons,List.drop_zero]
 repeat still_step
 still_call (HST.out _)
 repeat still_step
 still_call (HST.out _)
 repeat still_step
 refine wpStill_nil ?_;go_wp2_with fail;obtain ⟨i0,hi,hz0,hz1,hz2⟩:=info_parts infoStr
 go_loopw [9,10,11,12] (fun sl si _ _ wr=>∃ (k:Nat) (ys:List ByteArray),k≤1∧si=.int .i64 k∧TxR w1 wr (w1.heap.size) 4 5 f.kids k sl ys) (fun _ i _ _ _=>1 - (intOf i).toNat)
 case atStart=>exact ⟨0,[],zl _,rfl,TxR.first (w2:=(w1.alloc (.cells #[.int .i64 4,.int .i64 5] 3))) ((Br _ _).alloc (lr _) _) (hA_ w1 _) (by simp) (by omega)⟩
 case round=>
  obtain ⟨k,ys,hk,rfl,hR⟩:=hrel;obtain ⟨sa,scap,hsv⟩:=own_shape hR.own;subst hsv;have HR:=Hd hR;have hbel:=hR.below;have hszr:=hbel.size;have hblr:=hR.blt;have y0:=hR.c0;have y1:=hR.c1;obtain ⟨x0,x1,x2,x3,x4,x5⟩:=HXX.out wr hbel;have hwwr:w.heap.size<wr.heap.size:=by omega
  have hgw:g<wr.heap.size:=by omega
  have hkc:k=0∨k=1:=by omega
  clear x1 x2 x3 x4 hk
  rcases hkc with rfl | rfl
  · have hat:=(HROW.out.get HGa.out).below hbel rfl hg;obtain ⟨q0,q1,q2,q3,Ae2,ce2,A2,c2,q4,q5,hV2⟩:=hat.open;simp only [Nat.mul_zero,Nat.add_zero] at q0 q1 q2 q3 q4 q5;obtain ⟨n2,hn2⟩:=ex_ a.kids.length;obtain ⟨ne2,hne2⟩:=ex_ a.tm.kids.length
    have HC:Hid (∀ W,Below wr.heap.size wr W→Calls Tryz.prog 42 #[.agg #[.int .i64 a.op,.int .i64 a.tm.op,.int .i64 a.tm.num,.string a.tm.name,.slice Ae2 ne2 ce2,.slice A2 n2 c2],.int .i64 4] W fun e w'=>∃ s:ByteArray,e=.returned (.tuple #[.string s,.int .i64 ra.2])∧(ra.2=0→bs s=ra.1)∧Below W.heap.size W w'):=fun W hb=>by
     have hcall:=HCa.out Ae2 ce2 A2 c2 W (hV2.below hb rfl);unfold Fm.val at hcall;rw [←hn2,←hne2] at hcall;exact hcall
    rw [←hn2] at q5;rw [←hne2] at q4;clear hn2 hne2 hV2 hat hbel hR;go_wp2_with fail;have hbd:Below wr.heap.size wr wr.drew:=(Br _ _).drew
    go_region_held3 (fun w'=>(∀ o,w'.cell? ⟨w.heap.size,o,none⟩=wr.cell? ⟨w.heap.size,o,none⟩)∧(∀ o,w'.cell? ⟨g,o,none⟩=wr.cell? ⟨g,o,none⟩)∧(∀ o,w'.cell? ⟨w1.heap.size,o,none⟩=wr.cell? ⟨w1.heap.size,o,none⟩)∧Below wr.heap.size wr w')
     (first | (exact ⟨keep_cells (by assumption) hwwr,keep_cells (by assumption) hgw,keep_cells (by assumption) hblr,by assumption⟩) | fail)
     (first | (go_at_call 42;with_reducible refine (HC.out _ (by assumption)).mono ?_;rintro e w4 ⟨s4,rfl,hs4,hb4⟩;have hb5:=keep_step (by assumption) hb4) | fail)
    have HB5:=Hd hb5;have HBW:=Hd (HB1.out.trans ((keep_step HR.out.below hb5).mono (by omega)));have hs5:=hb5.size;have HO4:=Hd (own_keepB HR.out.own hb5);have HS4:=Hd hs4;clear hbd hb4 hb5 hs4 q0 q1 q2 q3 q4 q5 x0 x5 y0 y1
    by_cases hz:ra.2=0
    · have hy4:=HS4.out hz;have HY4:=Hd hy4;have HZ:=Hd hz;have hzb:(ra.2 != 0)=false:=by simpa using hz
      clear hy4 hz
      go_wp2_with (at_builtin;refine wpList_append_lies _ (by rfl) _ _ _ (by rfl) (w1.heap.size+1) 9 i0 (.string ⟨#[]⟩) 1 16 Tryz.underlying48 hi hz0 hz1 hz2 rfl (by decide) _ 0 _ (by rfl) (HO4.out.alloc _) ⟨w4.heap.size,0,none⟩ 1 1 [.string s4] (by rfl) rfl (World.news_of_block (hA_ w4 _)) (fun u hu=>by rw [List.mem_singleton.1 hu];rfl) (by decide) ?c3 ?c4 ?c5 (w4.heap.size+1) (by simp) ?_)
      case c3=>unfold maxLen;omega
      case c4=>omega
      case c5=>first | omega | (simp;omega)
      intro g' cap' w6 hown6 hgrow6 hat6 hlt6
      have hown6':w6.ownsRow (w1.heap.size+1) 9 1 (.slice (some ⟨g',0,none⟩) (0+1) cap') (0+1) ((ys++[s4]).map Value.string):=by
       rw [List.map_append,List.map_singleton];exact hown6
      have HR6:=Hd (TxR.next HR.out HB5.out hgrow6 hown6' HGa.out (by show (frmT a 4).2=0;rw [←HRa.out];exact HZ.out) (by show _=(frmT a 4).1;rw [←HRa.out];exact HY4.out));clear hown6 hown6' hgrow6 hat6;go_wp2_with fail
      go_roundw
      case rel=>exact ⟨0+1,ys++[s4],by omega,rfl,HR6.out⟩
      case measure=>simp [intOf]
    · have HZ:=Hd hz;have hzb:(ra.2 != 0)=true:=by simpa using hz
      clear hz;go_wp2_with fail;rw [HF.out];have h2:frmT f least=([],ra.2):=by rw [HRES.out,iP HZ.out]
      exact ⟨⟨#[]⟩,by rw [h2];rfl,fun h=>by rw [h2] at h;exact absurd h HZ.out,HBW.out⟩
  · rw [show ((1:Nat):Int)=1 from rfl];obtain ⟨A9,c9,hv9,hs9⟩:=strs_of_own (by rw [hR.len];exact hR.own);rw [hR.len] at hv9;obtain ⟨rfl,-,rfl⟩:sa=A9∧1=1∧scap=c9:=by injection hv9 with h1 h2 h3;exact ⟨h1,rfl,h3⟩
    rcases hs9 with h9 | ⟨gb,ob,rfl,hgb,hcb⟩
    · have h:=hR.len;rw [h9] at h;simp at h
    obtain ⟨h0a,va,hya,hta⟩:=hR.txt 0 a HGa.out (by omega)
    change (frmT a 4).2=0 at h0a
    change bs va=(frmT a 4).1 at hta
    rw [←HRa.out] at h0a hta;have z0:=hcb 0 (by rw [hR.len];omega);rw [show ys.getD 0 ByteArray.empty=va by simp [List.getD,hya]] at z0;have hvaz:va.size=ra.1.length:=by rw [←hta];rfl
    simp only [Nat.add_zero] at z0;obtain ⟨S1,hS1⟩:∃ S1:ByteArray,S1=(⟨#[65,70,32]⟩:ByteArray)++va:=⟨_,rfl⟩;have szS1:S1.size=3+va.size:=by rw [hS1,bA] <;> rfl
    obtain ⟨U1,hU1⟩:∃ U1:ByteArray,U1=(⟨#[40]⟩:ByteArray)++S1:=⟨_,rfl⟩;have szU1:U1.size=1+S1.size:=by rw [hU1,bA] <;> rfl
    obtain ⟨U2,hU2⟩:∃ U2:ByteArray,U2=U1++(⟨#[41]⟩:ByteArray):=⟨_,rfl⟩;have szU2:U2.size=U1.size+1:=by rw [hU2,bA] <;> rfl
    have hLa:=HLa.out;have hLS:=HLS.out;have hFS:=HFS.out;have hcatS1:=rle_run hS1 (by show 3+va.size≤_;omega);have hcatU1:=rle_run hU1 (by show 1+S1.size≤_;omega);have hcatU2:=rle_run hU2 (by show U1.size+1≤_;omega)
    have HT1:Hid (bs S1=preF 11++ra.1):=by
     show _=_;rw [hS1,←hta];simp [bs,preF]
    have HT2:Hid (bs U2=[40]++bs S1++[41]):=by show _=_;rw [hU2,hU1];simp [bs]
    have H0a:=Hd h0a;have HBE:=Hd (HB1.out.trans (hbel.mono (by omega)));clear hS1 szS1 hU1 szU1 hU2 szU2 h0a hya hta hvaz hLa hLS hFS hcb hv9 hbel hR y0 y1
    by_cases hsl:strongF 11<least
    · exfalso
      change 4<least at hsl
      omega
    · have HSL:=Hd hsl
      change ¬(4<least) at hsl
      have hsl':¬((4:Int)<(least:Int)):=by omega
      clear hsl;go_wp2_with fail;refine (HST.out _).mono ?_;rintro e w8 ⟨rfl,hw8⟩;rw [hw8];clear hw8;go_wp2_with fail;rw [HF.out];have h2:frmT f least=((preF 11++ra.1),0):=by rw [HRES.out,iN (fun h=>h H0a.out),iN HSL.out]
      exact ⟨S1,by rw [h2];rfl,fun _=>by rw [h2];exact HT1.out,HBE.out⟩
theorem rtext_u12 (N:Nat) (H:RTextC N) (f:Fm) (least d:Nat) (Ae:Option Addr) (ce:Nat) (A:Option Addr) (c:Nat) (w:World) (hN:f.size≤N+1) (hok:f.okT d) (hws:f.wsize≤9000000) (hsz:f.size≤5000) (hl4:least≤4) (hV:FmV w Ae ce A c f) (ho:f.op=12) :
 Calls Tryz.prog 42 #[f.val Ae ce A c,.int .i64 (least:Nat)] w (FTQ f least w):=by
 obtain ⟨-,⟨hk0,hkl,hk1⟩,hkids⟩:=fokT_open hok;obtain ⟨n,hn⟩:=ex_ f.kids.length;obtain ⟨ne,hne⟩:=ex_ f.tm.kids.length;obtain ⟨F,hF⟩:=ex_ (FTQ f least w)
 have hszk:∀ k∈f.kids,k.size≤N∧k.size≤5000∧k.wsize≤9000000:=fun k hk=>by
  have h1:=Fm.sizeL_mem hk;have h2:=(Fm.wsize_open f).2 k hk
  cases f with
  | mk op e l=>rw [Fm.size] at hN hsz;simp only [Fm.kids] at h1;omega
 have hts:=(Fm.wsize_open f).1;have hcap:=hV.cap;have hcapm:=hV.capm;unfold maxLen at hcapm;obtain ⟨w1,hw1⟩:=ex_ (w.alloc (.cells #[.int .i64 12,.int .i64 f.tm.op,.int .i64 f.tm.num,.string f.tm.name,.slice Ae ne ce,.slice A n c] 35));have hb1:=bAl hw1;have hs1:w.heap.size<w1.heap.size:=by rw [hw1];simp
 have hbx:FBox w1 w.heap.size Ae ne ce A n c f:=by unfold FBox;rw [hw1,ho];exact hA_ w _
 have HXX:Hid (∀ W,Below w1.heap.size w1 W→W.cell? ⟨w.heap.size,0,none⟩=some (.int .i64 12)∧W.cell? ⟨w.heap.size,1,none⟩=some (.int .i64 f.tm.op)∧W.cell? ⟨w.heap.size,2,none⟩=some (.int .i64 f.tm.num)∧W.cell? ⟨w.heap.size,3,none⟩=some (.string f.tm.name)∧W.cell? ⟨w.heap.size,4,none⟩=some (.slice Ae ne ce)∧W.cell? ⟨w.heap.size,5,none⟩=some (.slice A n c)):=fun W hb=>by
  have hx:=hbx.below hb hs1;have h0:=hx.c0;rw [ho] at h0;exact ⟨h0,hx.c1,hx.c2,hx.c3,hx.c4,hx.c5⟩
 obtain ⟨x0,x1,x2,x3,x4,x5⟩:=HXX.out w1 (Br _ _);have hV1:=hV.below hb1 rfl;have hkl1:f.kids.length=1:=by rw [ho] at hkl;have:fkids 12=1:=rfl;omega
 obtain ⟨a,hk⟩:=flen1 hkl1
 rcases hV1.kids with h9 | ⟨g,off,rfl,hg,hrow⟩
 · rw [h9] at hk;cases hk
 unfold Fm.val;rw [ho,←hF,←hn,←hne];have hn1:n=1:=by rw [hn,hkl1]
 have hma:a∈f.kids:=by rw [hk];simp
 have hga:f.kids[0]?=some a:=by rw [hk];rfl
 obtain ⟨ra,hra⟩:=ex_ (frmT a 4);have hla:=frmT_len a 4
 have hcla:∀ (Ae2:Option Addr) (ce2:Nat) (A2:Option Addr) (c2:Nat) W,FmV W Ae2 ce2 A2 c2 a→Calls Tryz.prog 42 #[a.val Ae2 ce2 A2 c2,.int .i64 4] W fun e w'=>∃ s:ByteArray,e=.returned (.tuple #[.string s,.int .i64 ra.2])∧(ra.2=0→bs s=ra.1)∧Below W.heap.size W w':=fun Ae2 ce2 A2 c2 W hv=>by
  have h:=H a 4 (d+1) Ae2 ce2 A2 c2 W (hszk a hma).1 (hkids a hma) (hszk a hma).2.2 (hszk a hma).2.1 (by omega) hv;unfold FTQ at h;rw [←hra] at h;exact h
 have HCa:=Hd hcla;rw [←hra] at hla;have HLa:=Hd hla
 have HLS:Hid (a.size+1≤f.size):=by
  have h1:=Fm.sizeL_mem hma;show _≤_
  cases f with
  | mk op0 e0 l0'=>
   simp only [Fm.kids] at hk;rw [Fm.size,hk];simp only [Fm.sizeL];omega
 have HRES:Hid (frmT f least=if ra.2≠0 then ([],ra.2) else if strongF 12<least then ([40]++(preF 12++ra.1)++[41],0) else (preF 12++ra.1,0)):=by
  show _=_;have hb:(if f.op=1 then ([91]++(showTm f.tm).1++[93],(showTm f.tm).2) else frmK f.op f.kids)=aheadF (preF 12) a:=by rw [iN (by omega),ho,hk,bar1 rfl]
  rw [frmT_bar,hb,ho,hra]
  rfl
 have HST:Hid (∀ W,Calls Tryz.prog 82 #[.int .i64 12] W fun e w'=>e=.returned (.int .i64 4)∧w'=W):=fun W=>by
  have h:=rfstrong_any 12 W;rw [show ((strongF 12:Nat):Int)=4 from rfl] at h;exact h
 have HROW:=Hd hrow;have HF:=Hd hF;have HB1:=Hd hb1;have HW1:=Hd hw1;have HFS:=Hd hsz;have HGa:=Hd hga;have HRa:=Hd hra;clear hF hb1 hw1 hV hV1 hbx hn hne hok hkids hszk hk1 hkl hk0 H hk hkl1 hrow hsz hws hN hts hga hma hra hla hcla;subst hn1;go_enter Tryz.func42,Tryz.ntmps42;go_wp2_with fail;rw [←HW1.out];go_wp2_with fail;refine wp_region_still_drew 7 (by kernel_rfl) (by kernel_rfl) ?_;simp only [List.take_succ_cons,List.take_zero,List.drop_succ_cons,List.drop_zero]
 repeat still_step
 still_call (HST.out _)
 repeat still_step
 still_call (HST.out _)
 repeat still_step
 refine wpStill_nil ?_;go_wp2_with fail;obtain ⟨i0,hi,hz0,hz1,hz2⟩:=info_parts infoStr
 go_loopw [9,10,11,12] (fun sl si _ _ wr=>∃ (k:Nat) (ys:List ByteArray),k≤1∧si=.int .i64 k∧TxR w1 wr (w1.heap.size) 4 5 f.kids k sl ys) (fun _ i _ _ _=>1 - (intOf i).toNat)
 case atStart=>exact ⟨0,[],zl _,rfl,TxR.first (w2:=(w1.alloc (.cells #[.int .i64 4,.int .i64 5] 3))) ((Br _ _).alloc (lr _) _) (hA_ w1 _) (by simp) (by omega)⟩
 case round=>
  obtain ⟨k,ys,hk,rfl,hR⟩:=hrel;obtain ⟨sa,scap,hsv⟩:=own_shape hR.own;subst hsv;have HR:=Hd hR;have hbel:=hR.below;have hszr:=hbel.size;have hblr:=hR.blt;have y0:=hR.c0;have y1:=hR.c1;obtain ⟨x0,x1,x2,x3,x4,x5⟩:=HXX.out wr hbel;have hwwr:w.heap.size<wr.heap.size:=by omega
  have hgw:g<wr.heap.size:=by omega
  have hkc:k=0∨k=1:=by omega
  clear x1 x2 x3 x4 hk
  rcases hkc with rfl | rfl
  · have hat:=(HROW.out.get HGa.out).below hbel rfl hg;obtain ⟨q0,q1,q2,q3,Ae2,ce2,A2,c2,q4,q5,hV2⟩:=hat.open;simp only [Nat.mul_zero,Nat.add_zero] at q0 q1 q2 q3 q4 q5;obtain ⟨n2,hn2⟩:=ex_ a.kids.length;obtain ⟨ne2,hne2⟩:=ex_ a.tm.kids.length
    have HC:Hid (∀ W,Below wr.heap.size wr W→Calls Tryz.prog 42 #[.agg #[.int .i64 a.op,.int .i64 a.tm.op,.int .i64 a.tm.num,.string a.tm.name,.slice Ae2 ne2 ce2,.slice A2 n2 c2],.int .i64 4] W fun e w'=>∃ s:ByteArray,e=.returned (.tuple #[.string s,.int .i64 ra.2])∧(ra.2=0→bs s=ra.1)∧Below W.heap.size W w'):=fun W hb=>by
     have hcall:=HCa.out Ae2 ce2 A2 c2 W (hV2.below hb rfl);unfold Fm.val at hcall;rw [←hn2,←hne2] at hcall;exact hcall
    rw [←hn2] at q5;rw [←hne2] at q4;clear hn2 hne2 hV2 hat hbel hR;go_wp2_with fail;have hbd:Below wr.heap.size wr wr.drew:=(Br _ _).drew
    go_region_held3 (fun w'=>(∀ o,w'.cell? ⟨w.heap.size,o,none⟩=wr.cell? ⟨w.heap.size,o,none⟩)∧(∀ o,w'.cell? ⟨g,o,none⟩=wr.cell? ⟨g,o,none⟩)∧(∀ o,w'.cell? ⟨w1.heap.size,o,none⟩=wr.cell? ⟨w1.heap.size,o,none⟩)∧Below wr.heap.size wr w')
     (first | (exact ⟨keep_cells (by assumption) hwwr,keep_cells (by assumption) hgw,keep_cells (by assumption) hblr,by assumption⟩) | fail)
     (first | (go_at_call 42;with_reducible refine (HC.out _ (by assumption)).mono ?_;rintro e w4 ⟨s4,rfl,hs4,hb4⟩;have hb5:=keep_step (by assumption) hb4) | fail)
    have HB5:=Hd hb5;have HBW:=Hd (HB1.out.trans ((keep_step HR.out.below hb5).mono (by omega)));have hs5:=hb5.size;have HO4:=Hd (own_keepB HR.out.own hb5);have HS4:=Hd hs4;clear hbd hb4 hb5 hs4 q0 q1 q2 q3 q4 q5 x0 x5 y0 y1
    by_cases hz:ra.2=0
    · have hy4:=HS4.out hz;have HY4:=Hd hy4;have HZ:=Hd hz;have hzb:(ra.2 != 0)=false:=by simpa using hz
      clear hy4 hz
      go_wp2_with (at_builtin;refine wpList_append_lies _ (by rfl) _ _ _ (by rfl) (w1.heap.size+1) 9 i0 (.string ⟨#[]⟩) 1 16 Tryz.underlying48 hi hz0 hz1 hz2 rfl (by decide) _ 0 _ (by rfl) (HO4.out.alloc _) ⟨w4.heap.size,0,none⟩ 1 1 [.string s4] (by rfl) rfl (World.news_of_block (hA_ w4 _)) (fun u hu=>by rw [List.mem_singleton.1 hu];rfl) (by decide) ?c3 ?c4 ?c5 (w4.heap.size+1) (by simp) ?_)
      case c3=>unfold maxLen;omega
      case c4=>omega
      case c5=>first | omega | (simp;omega)
      intro g' cap' w6 hown6 hgrow6 hat6 hlt6
      have hown6':w6.ownsRow (w1.heap.size+1) 9 1 (.slice (some ⟨g',0,none⟩) (0+1) cap') (0+1) ((ys++[s4]).map Value.string):=by
       rw [List.map_append,List.map_singleton];exact hown6
      have HR6:=Hd (TxR.next HR.out HB5.out hgrow6 hown6' HGa.out (by show (frmT a 4).2=0;rw [←HRa.out];exact HZ.out) (by show _=(frmT a 4).1;rw [←HRa.out];exact HY4.out));clear hown6 hown6' hgrow6 hat6;go_wp2_with fail
      go_roundw
      case rel=>exact ⟨0+1,ys++[s4],by omega,rfl,HR6.out⟩
      case measure=>simp [intOf]
    · have HZ:=Hd hz;have hzb:(ra.2 != 0)=true:=by simpa using hz
      clear hz;go_wp2_with fail;rw [HF.out];have h2:frmT f least=([],ra.2):=by rw [HRES.out,iP HZ.out]
      exact ⟨⟨#[]⟩,by rw [h2];rfl,fun h=>by rw [h2] at h;exact absurd h HZ.out,HBW.out⟩
  · rw [show ((1:Nat):Int)=1 from rfl];obtain ⟨A9,c9,hv9,hs9⟩:=strs_of_own (by rw [hR.len];exact hR.own);rw [hR.len] at hv9;obtain ⟨rfl,-,rfl⟩:sa=A9∧1=1∧scap=c9:=by injection hv9 with h1 h2 h3;exact ⟨h1,rfl,h3⟩
    rcases hs9 with h9 | ⟨gb,ob,rfl,hgb,hcb⟩
    · have h:=hR.len;rw [h9] at h;simp at h
    obtain ⟨h0a,va,hya,hta⟩:=hR.txt 0 a HGa.out (by omega)
    change (frmT a 4).2=0 at h0a
    change bs va=(frmT a 4).1 at hta
    rw [←HRa.out] at h0a hta;have z0:=hcb 0 (by rw [hR.len];omega);rw [show ys.getD 0 ByteArray.empty=va by simp [List.getD,hya]] at z0;have hvaz:va.size=ra.1.length:=by rw [←hta];rfl
    simp only [Nat.add_zero] at z0;obtain ⟨S1,hS1⟩:∃ S1:ByteArray,S1=(⟨#[65,71,32]⟩:ByteArray)++va:=⟨_,rfl⟩;have szS1:S1.size=3+va.size:=by rw [hS1,bA] <;> rfl
    obtain ⟨U1,hU1⟩:∃ U1:ByteArray,U1=(⟨#[40]⟩:ByteArray)++S1:=⟨_,rfl⟩;have szU1:U1.size=1+S1.size:=by rw [hU1,bA] <;> rfl
    obtain ⟨U2,hU2⟩:∃ U2:ByteArray,U2=U1++(⟨#[41]⟩:ByteArray):=⟨_,rfl⟩;have szU2:U2.size=U1.size+1:=by rw [hU2,bA] <;> rfl
    have hLa:=HLa.out;have hLS:=HLS.out;have hFS:=HFS.out;have hcatS1:=rle_run hS1 (by show 3+va.size≤_;omega);have hcatU1:=rle_run hU1 (by show 1+S1.size≤_;omega);have hcatU2:=rle_run hU2 (by show U1.size+1≤_;omega)
    have HT1:Hid (bs S1=preF 12++ra.1):=by
     show _=_;rw [hS1,←hta];simp [bs,preF]
    have HT2:Hid (bs U2=[40]++bs S1++[41]):=by show _=_;rw [hU2,hU1];simp [bs]
    have H0a:=Hd h0a;have HBE:=Hd (HB1.out.trans (hbel.mono (by omega)));clear hS1 szS1 hU1 szU1 hU2 szU2 h0a hya hta hvaz hLa hLS hFS hcb hv9 hbel hR y0 y1
    by_cases hsl:strongF 12<least
    · exfalso
      change 4<least at hsl
      omega
    · have HSL:=Hd hsl
      change ¬(4<least) at hsl
      have hsl':¬((4:Int)<(least:Int)):=by omega
      clear hsl;go_wp2_with fail;refine (HST.out _).mono ?_;rintro e w8 ⟨rfl,hw8⟩;rw [hw8];clear hw8;go_wp2_with fail;rw [HF.out];have h2:frmT f least=((preF 12++ra.1),0):=by rw [HRES.out,iN (fun h=>h H0a.out),iN HSL.out]
      exact ⟨S1,by rw [h2];rfl,fun _=>by rw [h2];exact HT1.out,HBE.out⟩
end Go.Proofs.YtnbphgeepnknlaaGreatDoor
