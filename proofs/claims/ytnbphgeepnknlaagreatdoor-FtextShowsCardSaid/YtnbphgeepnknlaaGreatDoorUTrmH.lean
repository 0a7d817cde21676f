/- Walks and plain words: TrmH FrmE. -/
import Derived.Test.YtnbphgeepnknlaaGreatDoorUTrmG
import Derived.Test.YtnbphgeepnknlaaGreatDoorUFrmC
namespace Go.Proofs.YtnbphgeepnknlaaGreatDoor
open Go.RowKit
set_option linter.unusedVariables false
set_option maxRecDepth 100000
set_option maxHeartbeats 8000000
theorem tshow_any (t:Tm) (A:Option Addr) (c:Nat) (w:World) (hV:TmV w A c t) (hsz:t.size≤9000000) (hT:WordsT w) :
 Calls Tryz.prog 30 #[t.val A c] w fun e w'=>e=.returned (.tuple #[.string ⟨(showTm t).1.toArray⟩,.int .i64 (showTm t).2])∧Below w.heap.size w w':=by
 obtain ⟨n,hn⟩:=ex_ t.kids.length;obtain ⟨wb,hwb⟩:=ex_ (w.alloc (.cells #[.int .i64 t.op,.int .i64 t.num,.string t.name,.slice A n c] 25));have hb1:=bAl hwb;have hbx:TBox wb w.heap.size A n c t:=by rw [hwb];exact hA_ w _
 have hsb:w.heap.size<wb.heap.size:=by rw [hwb];simp
 have hck:=check_any t A c wb (hV.below hb1 rfl) hsz;unfold Tm.val at hck ⊢;rw [←hn] at hck ⊢;obtain ⟨ck,HCK0⟩:=exh_ t.check;rw [←HCK0.out] at hck;obtain ⟨R,hR⟩:=ex_ (showTm t);rw [←hR];unfold showTm at hR;rw [←HCK0.out] at hR;have HR:=Hd hR;have HCK:=Hd hck;have HWB:=Hd hwb;have HB1:=Hd hb1;have HBX:=Hd hbx;have HV:=Hd hV;have HT:=Hd hT;have HN:=Hd hn;clear hck hR hwb hb1 hbx hV hT hn;go_enter Tryz.func30,Tryz.ntmps30;go_wp2_with fail;rw [←HWB.out];refine (HCK.out).mono ?_;rintro e w1 ⟨rfl,hb2⟩;have hx1:=HBX.out.below hb2 HBX.out.lt;have HB2:=Hd (HB1.out.trans (hb2.mono (Nat.le_of_lt hsb)));have hs1:=hb2.size;have y0:=hx1.c0;have y1:=hx1.c1;have y2:=hx1.c2;have y3:=hx1.c3;have HX1:=Hd hx1;clear hx1 hb2
 by_cases h0:ck=0
 · have hck:t.check=0:=by rw [←HCK0.out];exact h0
   have htl:=told_any t.size t A c w1 (lr _) hsz (HV.out.below HB2.out rfl) (HT.out.below HB2.out);unfold Tm.val at htl;rw [←HN.out] at htl;obtain ⟨tl,htl0⟩:=ex_ (toldT t);rw [←htl0] at htl;have hr2:=HR.out;rw [iN (fun h=>h h0),←htl0] at hr2;have HR2:=Hd hr2;have HTL:=Hd htl;have HOK:=Hd (check_ok hck);subst h0;clear hck htl htl0 hr2;go_wp2_with fail;refine (HTL.out).mono ?_;rintro e w2 ⟨rfl,hb3⟩;have hx2:=HX1.out.below hb3 HX1.out.lt;have hs2:=hb3.size;have hs1w:=HB2.out.size;have HB3:=Hd (HB2.out.trans (hb3.mono hs1w));clear y0 y1 y2 y3 hb3;have y0:=hx2.c0;have y1:=hx2.c1;have y2:=hx2.c2;have y3:=hx2.c3;have HX2:=Hd hx2;have hlx:=hx2.lt;clear hx2
   cases tl with
   | false=>
    have HRE:Hid (R=([],3)):=by show _=_;rw [HR2.out,iP rfl]
    go_wp2_with fail
    go_ret2
    rw [HRE.out];exact ⟨rfl,HB3.out⟩
   | true=>
    obtain ⟨w3,hw3⟩:=ex_ (w2.alloc (.cells #[.pointer none,.slice none 0 0] 106));have hb4:=bAl hw3;have hI:IsB w2.heap.size w2.heap.size (Lib.byteCells []) w3:=by rw [hw3];exact Lib.fresh_isBuilder _ _ w2
    have hput:=put_any w2.heap.size w2.heap.size w2 rfl t.size t 0 true 1 [] A c w3 (lr _) HOK.out.1 (HV.out.below HB3.out rfl) hb4 hI (by have:=HOK.out.2;simp;omega) (by omega);unfold Tm.val at hput;rw [←HN.out,List.nil_append] at hput;have HW3:=Hd hw3;have HPUT:=Hd hput;have hlen:=shw_len numS_short t 0 true 1 HOK.out.1;have hsz4:=HOK.out.2;obtain ⟨S,hS⟩:=ex_ (shw numS t 0 true);rw [←hS] at HPUT hlen;have hr3:=HR2.out;rw [iN (by decide),←hS] at hr3;have HR3:=Hd hr3;clear hw3 hb4 hI hput hS hr3;go_wp2_with fail;rw [←HW3.out];refine (HPUT.out).mono ?_;rintro e w4 ⟨rfl,hi4,hk4⟩;have HI4:=Hd hi4;have hbw4:=hk4.below
    have HB4:Hid (Below w.heap.size w w4):=by
     refine HB3.out.trans (Below.mono (B:=w2.heap.size) ?_ (HB3.out.size));rw [HW3.out] at hbw4;exact (((Br _ _).alloc (lr _) _).trans hbw4)
    have hs4:=hbw4.size;have hlen4:=Tryz.Builder_Len w2.heap.size w2.heap.size (Lib.byteCells S) w4 hi4;rw [Lib.byteCells_length] at hlen4;have HLEN4:=Hd hlen4;have hstr:=Tryz.Builder_String_any w2.heap.size w2.heap.size S w4 hi4 (by have:=(IsB.lt hi4).1;omega);have HSTR:=Hd hstr;have hs24:w.heap.size≤w2.heap.size:=HB3.out.size;clear hi4 hk4 hbw4 hlen4 hstr y0 y1 y2 y3;go_wp2_with fail;refine (HLEN4.out).mono ?_;rintro e w5 ⟨rfl,hw5⟩;subst hw5
    by_cases h6:65536<S.length
    · have HRE:Hid (R=([],4)):=by show _=_;rw [HR3.out,iP h6]
      have h6':(65536:Int)<(S.length:Int):=by omega
      go_wp2_with fail
      go_ret2
      rw [HRE.out];exact ⟨rfl,HB4.out⟩
    · have HRE:Hid (R=(S,0)):=by show _=_;rw [HR3.out,iN h6]
      have h6':¬(65536:Int)<(S.length:Int):=by omega
      go_wp2_with fail;refine (HSTR.out).mono ?_;rintro e w6 ⟨rfl,hb6⟩;have HB6:=Hd (HB4.out.trans (hb6.mono hs24));clear hb6;go_wp2_with fail
      go_ret2
      rw [HRE.out];exact ⟨rfl,HB6.out⟩
 · have HRE:Hid (R=([],ck)):=by show _=_;rw [HR.out,iP h0]
   have h0':(ck != 0)=true:=by simpa using h0
   clear h0;go_wp2_with fail
   go_ret2
   rw [HRE.out];exact ⟨rfl,HB2.out⟩
theorem strong_any (op:Int) (w:World) :
 Calls Tryz.prog 79 #[.int .i64 op] w fun e w'=>e=.returned (.int .i64 (strongF op:Nat))∧w=w':=by
 obtain ⟨r,HR⟩:=exh_ (strongF op);rw [←HR.out];go_enter Tryz.func79,Tryz.ntmps79
 go_wp2
 all_goals
  go_ret;rw [HR.out];refine ⟨?_,rfl⟩
  simp_all [strongF]
def TextC (N:Nat):Prop:=∀ (f:Fm) (least d:Nat) (Ae:Option Addr) (ce:Nat) (A:Option Addr) (c:Nat) (w:World),f.size≤N→f.okT d→f.wsize≤9000000→f.size≤5000→least≤10→FmV w Ae ce A c f→WordsT w →
 Calls Tryz.prog 40 #[f.val Ae ce A c,.int .i64 (least:Nat)] w fun e w'=>e=.returned (.tuple #[.string ⟨(frmT f least).1.toArray⟩,.int .i64 (frmT f least).2])∧Below w.heap.size w w'
theorem FmV.kid {w:World} {Ae A:Option Addr} {ce c:Nat} {f k:Fm} {j:Nat} (h:FmV w Ae ce A c f) (hk:f.kids[j]?=some k):∃ g o,A=some ⟨g,o,none⟩∧g<w.heap.size∧∃ Ae2 ce2 A2 c2,w.cell? ⟨g,o+6*j,none⟩=some (.int .i64 k.op)∧w.cell? ⟨g,o+6*j+1,none⟩=some (.int .i64 k.tm.op)∧w.cell? ⟨g,o+6*j+2,none⟩=some (.int .i64 k.tm.num)∧w.cell? ⟨g,o+6*j+3,none⟩=some (.string k.tm.name) ∧
 w.cell? ⟨g,o+6*j+4,none⟩=some (.slice Ae2 k.tm.kids.length ce2)∧w.cell? ⟨g,o+6*j+5,none⟩=some (.slice A2 k.kids.length c2)∧FmV w Ae2 ce2 A2 c2 k:=by
 rcases h.kids with h0 | ⟨g,o,hA,hg,hrow⟩
 · rw [h0] at hk;simp at hk
 · obtain ⟨q0,q1,q2,q3,Ae2,ce2,A2,c2,q4,q5,hv⟩:=(hrow.get hk).open;exact ⟨g,o,hA,hg,Ae2,ce2,A2,c2,q0,q1,q2,q3,q4,q5,hv⟩
def aheadF (word:Bs) (a:Fm):Bs×Int:=(word++(frmT a 4).1,(frmT a 4).2)
def betwF (sign:Bs) (l r:Nat) (a b:Fm):Bs×Int:=if (frmT a l).2≠0 then ([],(frmT a l).2) else ((frmT a l).1++sign++(frmT b r).1,(frmT b r).2)
theorem bsz' (l:Bs):(⟨l.toArray⟩:ByteArray).size=l.length:=by simp [ByteArray.size]
theorem ahead_any (N:Nat) (H:TextC N) (f a:Fm) (d:Nat) (word:ByteArray) (Ae:Option Addr) (ce:Nat) (A:Option Addr) (c:Nat) (w:World) (hka:f.kids=[a]) (ha:a.size≤N) (hok:a.okT d) (hws:a.wsize≤9000000) (hsz:a.size≤5000) (hwd:word.size≤10) (hV:FmV w Ae ce A c f) (hT:WordsT w) :
 Calls Tryz.prog 149 #[f.val Ae ce A c,.string word] w fun e w'=>e=.returned (.tuple #[.string ⟨(aheadF word.data.toList a).1.toArray⟩,.int .i64 (aheadF word.data.toList a).2])∧Below w.heap.size w w':=by
 have hk0:f.kids[0]?=some a:=by rw [hka];rfl
 have hkn:f.kids.length=1:=by rw [hka];rfl
 obtain ⟨ne,hne⟩:=ex_ f.tm.kids.length;obtain ⟨wb,hwb⟩:=ex_ (w.alloc (.cells #[.int .i64 f.op,.int .i64 f.tm.op,.int .i64 f.tm.num,.string f.tm.name,.slice Ae ne ce,.slice A 1 c] 35));have hb1:=bAl hwb;obtain ⟨g,o,rfl,hg,Ae2,ce2,A2,c2,q0,q1,q2,q3,q4,q5,hV2⟩:=hV.kid hk0;rw [Nat.mul_zero,Nat.add_zero] at q0 q1 q2 q3 q4 q5;obtain ⟨n2,hn2⟩:=ex_ a.kids.length;obtain ⟨ne2,hne2⟩:=ex_ a.tm.kids.length;have hcall:=H a 4 d Ae2 ce2 A2 c2 wb ha hok hws hsz (by omega) (hV2.below hb1 rfl) (hT.below hb1);unfold Fm.val at hcall ⊢;rw [hkn,←hne];rw [←hn2] at hcall q5;rw [←hne2] at hcall q4;have hlen:=frmT_len a 4;obtain ⟨R,hR⟩:=ex_ (frmT a 4);rw [←hR] at hcall hlen;rw [hwb] at hcall;have HC:=Hd hcall;have HB1:=Hd hb1;have HR:=Hd hR;obtain ⟨S,hS⟩:∃ S:ByteArray,S=word++⟨R.1.toArray⟩:=⟨_,rfl⟩;have hcat:∀ W,(Op.stringOp .add word ⟨R.1.toArray⟩).run Tryz.prog W=.ok (.string S) W:=fun W=>by rw [hS];exact run_string_add_sum W _ _ (by show word.size+(⟨R.1.toArray⟩:ByteArray).size≤_;rw [bsz' R.1];omega)
 have HRES:Hid (aheadF word.data.toList a=(S.data.toList,R.2)):=by
  show _=_;unfold aheadF;rw [←hR,hS];simp [ByteArray.data_append]
 have hcc:=hV.cap;rw [hkn] at hcc;have HWB:=Hd hwb;clear hwb hb1 hcall hR hS hV hV2 hT hk0 hkn hn2 hne2 hne hka H hlen;go_enter Tryz.func149,Tryz.ntmps149;go_wp2_with fail;refine (HC.out).mono ?_;rintro e w1 ⟨rfl,hb2⟩;rw [←HWB.out] at hb2;have HB2:=kB HB1 hb2;clear hb2;go_wp2_with fail
 go_ret2
 rw [HRES.out];exact ⟨rfl,HB2.out⟩
theorem between_any (N:Nat) (H:TextC N) (f a b:Fm) (d:Nat) (sign:ByteArray) (l r:Nat) (Ae:Option Addr) (ce:Nat) (A:Option Addr) (c:Nat) (w:World) (hka:f.kids=[a,b]) (ha:a.size≤N) (hb:b.size≤N) (hoka:a.okT d) (hokb:b.okT d) (hwa:a.wsize≤9000000) (hwb':b.wsize≤9000000) (hsa:a.size≤5000) (hsb:b.size≤5000) (hsg:sign.size≤10) (hl:l≤10) (hr:r≤10) (hV:FmV w Ae ce A c f) (hT:WordsT w) :
 Calls Tryz.prog 148 #[f.val Ae ce A c,.string sign,.int .i64 (l:Nat),.int .i64 (r:Nat)] w fun e w'=>e=.returned (.tuple #[.string ⟨(betwF sign.data.toList l r a b).1.toArray⟩,.int .i64 (betwF sign.data.toList l r a b).2])∧Below w.heap.size w w':=by
 have hk0:f.kids[0]?=some a:=by rw [hka];rfl
 have hk1:f.kids[1]?=some b:=by rw [hka];rfl
 have hkn:f.kids.length=2:=by rw [hka];rfl
 obtain ⟨ne,hne⟩:=ex_ f.tm.kids.length;obtain ⟨wb,hwb⟩:=ex_ (w.alloc (.cells #[.int .i64 f.op,.int .i64 f.tm.op,.int .i64 f.tm.num,.string f.tm.name,.slice Ae ne ce,.slice A 2 c] 35));have hb1:=bAl hwb;have hx:FBox wb w.heap.size Ae ne ce A 2 c f:=by rw [hwb];exact hA_ w _
 obtain ⟨g,o,rfl,hg,Ae2,ce2,A2,c2,q0,q1,q2,q3,q4,q5,hV2⟩:=hV.kid hk0;obtain ⟨g',o',hgo,hg',Ae3,ce3,A3,c3,p0,p1,p2,p3,p4,p5,hV3⟩:=hV.kid hk1
 injection hgo with hgo
 injection hgo with hg1 ho1 _
 subst hg1 ho1;rw [Nat.mul_zero,Nat.add_zero] at q0 q1 q2 q3 q4 q5;rw [Nat.mul_one] at p0 p1 p2 p3 p4 p5;obtain ⟨n2,hn2⟩:=ex_ a.kids.length;obtain ⟨ne2,hne2⟩:=ex_ a.tm.kids.length;obtain ⟨n3,hn3⟩:=ex_ b.kids.length;obtain ⟨ne3,hne3⟩:=ex_ b.tm.kids.length;have hcall:=H a l d Ae2 ce2 A2 c2 wb ha hoka hwa hsa hl (hV2.below hb1 rfl) (hT.below hb1);have HC2:Hid (∀ w1,Below w.heap.size w w1→Calls Tryz.prog 40 #[b.val Ae3 ce3 A3 c3,.int .i64 (r:Nat)] w1 fun e w'=>e=.returned (.tuple #[.string ⟨(frmT b r).1.toArray⟩,.int .i64 (frmT b r).2])∧Below w1.heap.size w1 w'):=fun w1 hbw=>H b r d Ae3 ce3 A3 c3 w1 hb hokb hwb' hsb hr (hV3.below hbw rfl) (hT.below hbw);unfold Fm.val at hcall HC2 ⊢;rw [hkn,←hne];rw [←hn2] at hcall q5;rw [←hne2] at hcall q4;rw [←hn3] at HC2 p5;rw [←hne3] at HC2 p4;have hlen:=frmT_len a l;have hlen2:=frmT_len b r;obtain ⟨R,hR⟩:=ex_ (frmT a l);obtain ⟨R2,hR2⟩:=ex_ (frmT b r);rw [←hR] at hcall hlen;rw [←hR2] at HC2 hlen2;rw [hwb] at hcall;have HC:=Hd hcall;have HB1:=Hd hb1;obtain ⟨S,hS⟩:∃ S:ByteArray,S=(⟨R.1.toArray⟩:ByteArray)++sign:=⟨_,rfl⟩;obtain ⟨S2,hS2⟩:∃ S2:ByteArray,S2=S++⟨R2.1.toArray⟩:=⟨_,rfl⟩;have hSz:S.size=R.1.length+sign.size:=by rw [hS,bA,bsz' R.1]
 have hcat:∀ W,(Op.stringOp .add (⟨R.1.toArray⟩:ByteArray) sign).run Tryz.prog W=.ok (.string S) W:=fun W=>by rw [hS];exact run_string_add_sum W _ _ (by show (⟨R.1.toArray⟩:ByteArray).size+sign.size≤_;rw [bsz' R.1];omega)
 have hcat2:∀ W,(Op.stringOp .add S (⟨R2.1.toArray⟩:ByteArray)).run Tryz.prog W=.ok (.string S2) W:=fun W=>by rw [hS2];exact run_string_add_sum W _ _ (by show S.size+(⟨R2.1.toArray⟩:ByteArray).size≤_;rw [bsz' R2.1,hSz];omega)
 have HRES:Hid (betwF sign.data.toList l r a b=if R.2≠0 then ([],R.2) else (S2.data.toList,R2.2)):=by
  show _=_;unfold betwF;rw [←hR,←hR2,hS2,hS];simp [ByteArray.data_append]
 obtain ⟨X,hX⟩:=ex_ (betwF sign.data.toList l r a b);rw [←hX] at HRES ⊢;have hcc:=hV.cap;rw [hkn] at hcc;have HWB:=Hd hwb;have HX:=Hd hx;have hlt:w.heap.size<wb.heap.size:=by rw [hwb];simp
 clear hwb hb1 hcall hR hR2 hS hS2 hSz hV hV2 hV3 hT hk0 hk1 hkn hn2 hne2 hn3 hne3 hne hka H hlen hlen2 hx hX hg';go_enter Tryz.func148,Tryz.ntmps148;go_wp2_with fail;refine (HC.out).mono ?_;rintro e w1 ⟨rfl,hb2⟩;rw [←HWB.out] at hb2;have hx1:=HX.out.below hb2 HX.out.lt;have hbw:=HB1.out.trans (hb2.mono HB1.out.size);have hc2:=HC2.out w1 hbw;have HB2:=Hd hbw;have HCC:=Hd hc2;have x5:=hx1.c5;have hs1:=hb2.size;rw [←hbw.cell (p:=⟨g,_,none⟩) hg] at p0 p1 p2 p3 p4 p5;clear hb2 hx1 hbw hc2 q0 q1 q2 q3 q4 q5
 by_cases h0:R.2=0
 · have HRE:Hid (X=(S2.data.toList,R2.2)):=by show _=_;rw [HRES.out,iN (fun h=>h h0)]
   have h0':(R.2 != 0)=false:=by simpa using h0
   clear h0;go_wp2_with fail;refine (HCC.out).mono ?_;rintro e w2 ⟨rfl,hb3⟩;have HB3:=kB HB2 hb3;clear hb3 p0 p1 p2 p3 p4 p5;go_wp2_with fail
   go_ret2
   rw [HRE.out];exact ⟨rfl,HB3.out⟩
 · have HRE:Hid (X=([],R.2)):=by show _=_;rw [HRES.out,iP h0]
   have h0':(R.2 != 0)=true:=by simpa using h0
   clear h0;go_wp2_with fail
   go_ret2
   rw [HRE.out];exact ⟨rfl,HB2.out⟩
end Go.Proofs.YtnbphgeepnknlaaGreatDoor
