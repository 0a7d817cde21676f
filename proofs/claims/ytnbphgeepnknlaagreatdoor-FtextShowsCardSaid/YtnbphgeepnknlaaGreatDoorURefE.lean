/- Walks and plain words: RefE OpnA. -/
import Derived.Test.YtnbphgeepnknlaaGreatDoorULexI
import Derived.Test.YtnbphgeepnknlaaGreatDoorUTrmS
import Derived.Test.YtnbphgeepnknlaaGreatDoorCards
import Derived.Test.YtnbphgeepnknlaaGreatDoorTie
import Derived.ProofKit
import Derived.Lay
import Derived.Lib.LaidU8
import Derived.Lib.LaidTab
import Derived.SevenTiedAt
import Derived.LaidOnce
namespace Go.Proofs.YtnbphgeepnknlaaGreatDoor
open Go.RowKit
set_option linter.unusedVariables false
set_option maxRecDepth 100000
set_option maxHeartbeats 8000000
theorem rfkids_any (op:Int) (w:World) :
 Calls Tryz.prog 186 #[.int .i64 op] w fun e w'=>e=.returned (.int .i64 (fkids op))∧w=w':=by
 obtain ⟨r,HR⟩:=exh_ (fkids op);rw [←HR.out];go_enter Tryz.func186,Tryz.ntmps186
 go_wp2
 all_goals
  go_ret;rw [HR.out];refine ⟨?_,rfl⟩
  simp_all [fkids]
theorem rnothing_any (op n:Int) (s:ByteArray) (A:Option Addr) (k c:Nat) (w:World) (hs:s.size≤maxLen) (hk:k≤maxLen) :
 Calls Tryz.prog 188 #[.agg #[.int .i64 op,.int .i64 n,.string s,.slice A k c]] w fun e w'=>e=.returned (.bool (decide (op=0) && decide (n=0) && decide (s.size=0) && decide (k=0)))∧Below w.heap.size w w':=by
 unfold maxLen at hs hk;obtain ⟨F,hF⟩:∃ F:Ending→World→Prop,F=fun e w'=>e=.returned (.bool (decide (op=0) && decide (n=0) && decide (s.size=0) && decide (k=0)))∧Below w.heap.size w w':=⟨_,rfl⟩;rw [←hF];have HF:=Hd hF;have HB:=Hd ((Br w.heap.size w).alloc (lr _) (.cells #[.int .i64 op,.int .i64 n,.string s,.slice A k c] 25));clear hF
 by_cases h0:op=0
 · subst h0
   by_cases h1:n=0
   · subst h1
     rcases Nat.eq_zero_or_pos s.size with h2 | h2
     · have e2:=toList_of_size h2;have e3:=isEmpty_of_size h2;have H2:=Hd h2;clear h2
       by_cases h3:k=0
       · subst h3;go_enter Tryz.func188,Tryz.ntmps188
         go_wp2
         rw [HF.out];exact ⟨by rw [H2.out];rfl,HB.out⟩
       · have h3':((k:Int) == 0)=false:=by simp;omega
         have H3:=Hd h3;clear h3;go_enter Tryz.func188,Tryz.ntmps188
         go_wp2
         rw [HF.out];exact ⟨by rw [dF H3.out];simp,HB.out⟩
     · have e3:=isEmpty_of_pos h2;have H2:=Hd h2;clear h2;go_enter Tryz.func188,Tryz.ntmps188
       go_wp2
       rw [HF.out];exact ⟨by rw [dF (show ¬s.size=0 by have:=H2.out;omega)];simp,HB.out⟩
   · have h1':(n == 0)=false:=by simpa using h1
     have H1:=Hd h1;clear h1;go_enter Tryz.func188,Tryz.ntmps188
     go_wp2
     rw [HF.out];exact ⟨by rw [dF H1.out];simp,HB.out⟩
 · have h1':(op == 0)=false:=by simpa using h0
   have H1:=Hd h0;clear h0;go_enter Tryz.func188,Tryz.ntmps188
   go_wp2
   rw [HF.out];exact ⟨by rw [dF H1.out];simp,HB.out⟩
theorem bl_drewN {B:Nat} {a w:World} (h:Below B a w) (n:Nat):Below B a (w.drewN n):=⟨h.os,h.tape,h.output,h.size,h.block⟩
def FWQ (X:(Int×Nat)×Bool) (w:World) (e:Ending) (w':World):Prop:=∃ a:Nat,e=.returned (.tuple #[.int .i64 X.1.1,.int .i64 a])∧(X.1.1=0→a=X.1.2)∧a≤5000∧Below w.heap.size w w'
def foneE (f:Fm):Int:=if fkids f.op<0 then 11 else if ftermE f≠0 then ftermE f else if (f.kids.length:Int)≠fkids f.op∨(f.op≠1∧bareB f.tm=false) then 3 else 0
theorem fstepE_one (f:Fm) (d n:Nat):fstepE f d n=if 64<d then 17 else if foneE f≠0 then foneE f else if 4096<n+1 then 4 else 0:=by
 unfold fstepE foneE
 by_cases h1:64<d
 · simp [h1]
 · by_cases h2:fkids f.op<0
   · simp [h1,h2]
   · by_cases h3:ftermE f=0
     · by_cases h4:(f.kids.length:Int)≠fkids f.op∨(f.op≠1∧bareB f.tm=false)
       · simp only [h1,h2,h3,h4,if_true,if_false,ne_eq,not_true_eq_false];simp
       · simp only [h1,h2,h3,h4,if_false,ne_eq,not_true_eq_false]
     · simp [h1,h2,h3]
theorem rone_any (t:Fm) (Ae:Option Addr) (ce:Nat) (A:Option Addr) (c:Nat) (w:World) (hV:FmV w Ae ce A c t) (hsz:t.tm.size≤9000000) :
 Calls Tryz.prog 150 #[t.val Ae ce A c] w fun e w'=>e=.returned (.int .i64 (foneE t))∧Below w.heap.size w w':=by
 obtain ⟨n,hn⟩:=ex_ t.kids.length;obtain ⟨ne,hne⟩:=ex_ t.tm.kids.length;obtain ⟨wb,hwb⟩:=ex_ (w.alloc (.cells #[.int .i64 t.op,.int .i64 t.tm.op,.int .i64 t.tm.num,.string t.tm.name,.slice Ae ne ce,.slice A n c] 35));have hb1:=bAl hwb;have hbx:FBox wb w.heap.size Ae ne ce A n c t:=by rw [hwb];exact hA_ w _
 have hsb:w.heap.size<wb.heap.size:=by rw [hwb];simp
 have hcap:=hV.cap;have hcapm:=hV.capm;have hcape:=hV.tm.cap;have hcapem:=hV.tm.capm;have hnm:=hV.tm.name;unfold maxLen at hcapm hcapem hnm
 have HCK:Hid (∀ W,Below wb.heap.size wb W→Calls Tryz.prog 70 #[.agg #[.int .i64 t.tm.op,.int .i64 t.tm.num,.string t.tm.name,.slice Ae ne ce]] W fun e w'=>e=.returned (.int .i64 t.tm.check)∧Below W.heap.size W w'):=fun W hb=>by
  have h:=rcheck_any t.tm Ae ce W ((hV.tm.below hb1 rfl).below hb rfl) hsz;unfold Tm.val at h;rw [←hne] at h;exact h
 have HNM:Hid (∀ W,Below wb.heap.size wb W→Calls Tryz.prog 187 #[.agg #[.int .i64 t.tm.op,.int .i64 t.tm.num,.string t.tm.name,.slice Ae ne ce]] W (NextQ t.tm W)):=fun W hb=>by
  have h:=rnames2_any t.tm Ae ce W ((hV.tm.below hb1 rfl).below hb rfl) hsz;unfold Tm.val at h;rw [←hne] at h;exact h
 have HNO:Hid (∀ W,Calls Tryz.prog 188 #[.agg #[.int .i64 t.tm.op,.int .i64 t.tm.num,.string t.tm.name,.slice Ae ne ce]] W fun e w'=>e=.returned (.bool (bareB t.tm))∧Below W.heap.size W w'):=fun W=>by
  have h:=rnothing_any t.tm.op t.tm.num t.tm.name Ae t.tm.kids.length ce W hV.tm.name (Nat.le_trans hV.tm.cap hV.tm.capm);rw [←hne] at h;refine h.mono fun e w' ⟨h1,h2⟩=>⟨?_,h2⟩;rw [h1,hne];rfl
 unfold Fm.val;rw [←hn,←hne];rw [←hn] at hcap;rw [←hne] at hcape;obtain ⟨F,hF⟩:∃ F:Ending→World→Prop,F=fun e w'=>e=.returned (.int .i64 (foneE t))∧Below w.heap.size w w':=⟨_,rfl⟩;rw [←hF];obtain ⟨ck,hck0⟩:=ex_ t.tm.check;obtain ⟨bb,hbb⟩:=ex_ (bareB t.tm);obtain ⟨r,hr⟩:=ex_ (foneE t);rw [←hr] at hF;unfold foneE ftermE at hr;rw [←hck0,←hn,←hbb] at hr;rw [←hck0] at HCK;rw [←hbb] at HNO;obtain ⟨op,hop⟩:=ex_ t.op;obtain ⟨K,hK⟩:=ex_ (fkids op);rw [←hop,←hK] at hr;rw [←hop] at hwb ⊢;have HKI:=Hd (fun W=>rfkids_any op W);rw [←hK] at HKI;have HKQ:Hid (∀ W,Calls Tryz.prog 186 #[.int .i64 op] W fun e w'=>e=.returned (.int .i64 K)∧w'=W):=fun W=>(HKI.out W).mono fun e w' h=>⟨h.1,h.2.symm⟩
 have HXX:Hid (∀ W,Below wb.heap.size wb W→W.cell? ⟨w.heap.size,0,none⟩=some (.int .i64 op)∧W.cell? ⟨w.heap.size,1,none⟩=some (.int .i64 t.tm.op)∧W.cell? ⟨w.heap.size,2,none⟩=some (.int .i64 t.tm.num)∧W.cell? ⟨w.heap.size,3,none⟩=some (.string t.tm.name)∧W.cell? ⟨w.heap.size,4,none⟩=some (.slice Ae ne ce)∧W.cell? ⟨w.heap.size,5,none⟩=some (.slice A n c)):=fun W hb=>by
  have hx:=hbx.below hb hbx.lt;rw [hop];exact ⟨hx.c0,hx.c1,hx.c2,hx.c3,hx.c4,hx.c5⟩
 have HR:=Hd hr;have HF:=Hd hF;have HWB:=Hd hwb;have HB1:=Hd hb1;clear hn hne hwb hb1 hbx hV hnm hF hck0 hbb hr hop hK
 by_cases hk0:K<0
 · have HRE:Hid (r=11):=by show _=_;rw [HR.out,iP hk0]
   go_enter Tryz.func150,Tryz.ntmps150;go_wp2_with fail;refine (HKI.out _).mono ?_;rintro e w1 ⟨rfl,hw⟩;rw [←hw];clear hw;go_wp2_with fail;rw [HF.out,HRE.out];exact ⟨rfl,by rw [←HWB.out];exact HB1.out⟩
 have hk0':0≤K:=by omega
 by_cases h1:op=1
 · subst h1
   have HR2:Hid (r=if (if ck=0 then (if hasNext t.tm=true then (24:Int) else 0) else ck)≠0 then (if ck=0 then (if hasNext t.tm=true then 24 else 0) else ck) else if (n:Int)≠K∨((1:Int)≠1∧bb=false) then 3 else 0):=by
    show _=_;rw [HR.out,iN hk0,iP rfl]
   clear hk0;go_enter Tryz.func150,Tryz.ntmps150;go_wp2_with fail;refine (HKI.out _).mono ?_;rintro e w1 ⟨rfl,hw⟩;rw [←hw,←HWB.out];clear hw;obtain ⟨x0,x1,x2,x3,x4,x5⟩:=HXX.out wb (Br _ _);go_wp2_with fail;refine (HCK.out wb (Br _ _)).mono ?_;rintro e w2 ⟨rfl,hb2⟩;clear x0 x1 x2 x3 x4 x5;obtain ⟨x0,x1,x2,x3,x4,x5⟩:=HXX.out w2 hb2;have HN2:=Hd (HNM.out w2 hb2);have hs2:w.heap.size<w2.heap.size:=by have:=hb2.size;omega
   have HB2:=Hd hb2;clear hb2
   by_cases hc0:ck=0
   · subst hc0;go_wp2_with fail;refine (HN2.out).mono ?_;rintro e w3 ⟨v1,A2,n2,c2,rfl,hz,hb3⟩;have hb4:=HB2.out.trans (hb3.mono (HB2.out.size));clear x0 x1 x2 x3 x4 x5;obtain ⟨x0,x1,x2,x3,x4,x5⟩:=HXX.out w3 hb4;have HB4:=Hd (HB1.out.trans (hb4.mono (by omega)));have hs3:w.heap.size<w3.heap.size:=by have:=hb4.size;omega
     have HZ:=Hd hz;clear hz hb3 hb4
     by_cases h2:n2=0
     · have hh:hasNext t.tm=false:=HZ.out.1 h2
       have HRE:Hid (r=if (n:Int)≠K then 3 else 0):=by
        show _=_;rw [HR2.out,hh];simp
       have h2':¬(0:Int)<(n2:Int):=by omega
       clear h2 hh
       by_cases hnk:(n:Int)=K
       · have HRE2:Hid (r=0):=by show _=_;rw [HRE.out,iN (by omega)]
         have hnk':((n:Int) != K)=false:=by simpa using hnk
         clear hnk;go_wp2_with fail
         go_quiet ((go_at_call 186;exact Calls.quiet_of_same (HKQ.out _)))
         go_wp2_with fail;rw [HF.out,HRE2.out];refine ⟨rfl,HB4.out.trans (Below.mono (B:=w3.heap.size) (bl_drewN (Br w3.heap.size w3) _) ?_)⟩;omega
       · have HRE2:Hid (r=3):=by show _=_;rw [HRE.out,iP hnk]
         have hnk':((n:Int) != K)=true:=by simpa using hnk
         clear hnk;go_wp2_with fail
         go_quiet ((go_at_call 186;exact Calls.quiet_of_same (HKQ.out _)))
         go_wp2_with fail;rw [HF.out,HRE2.out];refine ⟨rfl,HB4.out.trans (Below.mono (B:=w3.heap.size) (bl_drewN (Br w3.heap.size w3) _) ?_)⟩;omega
     · have hh:hasNext t.tm=true:=by
        cases hh:hasNext t.tm with
        | false=>exact absurd (HZ.out.2 hh) h2
        | true=>rfl
       have HRE:Hid (r=24):=by
        show _=_;rw [HR2.out,hh];simp
       have h2':(0:Int)<(n2:Int):=by omega
       clear h2 hh;go_wp2_with fail;rw [HF.out,HRE.out];exact ⟨rfl,HB4.out⟩
   · have HRE:Hid (r=ck):=by
      show _=_;rw [HR2.out,iN hc0,iP hc0]
     have h0':(ck != 0)=true:=by simpa using hc0
     have HB4:=Hd (HB1.out.trans (HB2.out.mono (by omega)));clear hc0;go_wp2_with fail;rw [HF.out,HRE.out];exact ⟨rfl,HB4.out⟩
 · have HR2:Hid (r=if (n:Int)≠K∨bb=false then 3 else 0):=by
    show _=_;rw [HR.out,iN hk0,iN h1];simp [h1]
   have h1':(op == 1)=false:=by simpa using h1
   have h1n:(op != 1)=true:=by simpa using h1
   have hbw:w.heap.size<wb.heap.size:=hsb;have HB1':Hid (Below w.heap.size w wb):=HB1.out;clear hk0 h1
   by_cases hnk:(n:Int)=K
   · have hnk':((n:Int) != K)=false:=by simpa using hnk
     cases bb with
     | false=>
      have HRE2:Hid (r=3):=by show _=_;rw [HR2.out,iP (.inr rfl)]
      clear hnk;go_enter Tryz.func150,Tryz.ntmps150;go_wp2_with fail;refine (HKI.out _).mono ?_;rintro e w1 ⟨rfl,hw⟩;rw [←hw,←HWB.out];clear hw;obtain ⟨x0,x1,x2,x3,x4,x5⟩:=HXX.out wb (Br _ _);go_wp2_with fail;have hbd:Below wb.heap.size wb wb.drew:=(Br _ _).drew;have hnot:∀ (x:Bool) (W:World),(Op.unary .not (.bool x)).run Tryz.prog W=.ok (.bool (!x)) W:=fun _ _=>rfl
      (first | (go_region_held3 (fun w'=>(∀ o,w'.cell? ⟨w.heap.size,o,none⟩=wb.cell? ⟨w.heap.size,o,none⟩)∧Below wb.heap.size wb w')
        (first
          | (exact ⟨keep_cells (by assumption) hbw,by assumption⟩)
          | fail)
        (first
          | (go_at_call 186;refine (HKI.out _).mono ?_;rintro e w5 ⟨rfl,hw5⟩;rw [←hw5];clear hw5)
          | (go_at_call 188;refine (HNO.out _).mono ?_;rintro e w5 ⟨rfl,hb5⟩;have hk5:=keep_step (by assumption) hb5)
          | fail)) | fail)
      all_goals
       go_wp2_with fail;rw [HF.out,HRE2.out];refine ⟨rfl,HB1'.out.trans (Below.mono (B:=wb.heap.size) (by assumption) ?_)⟩;omega
     | true=>
      have HRE2:Hid (r=0):=by show _=_;rw [HR2.out,iN (fun h=>by rcases h with h | h;exact h hnk;cases h)]
      clear hnk;go_enter Tryz.func150,Tryz.ntmps150;go_wp2_with fail;refine (HKI.out _).mono ?_;rintro e w1 ⟨rfl,hw⟩;rw [←hw,←HWB.out];clear hw;obtain ⟨x0,x1,x2,x3,x4,x5⟩:=HXX.out wb (Br _ _);go_wp2_with fail;have hbd:Below wb.heap.size wb wb.drew:=(Br _ _).drew;have hnot:∀ (x:Bool) (W:World),(Op.unary .not (.bool x)).run Tryz.prog W=.ok (.bool (!x)) W:=fun _ _=>rfl
      (first | (go_region_held3 (fun w'=>(∀ o,w'.cell? ⟨w.heap.size,o,none⟩=wb.cell? ⟨w.heap.size,o,none⟩)∧Below wb.heap.size wb w')
        (first
          | (exact ⟨keep_cells (by assumption) hbw,by assumption⟩)
          | fail)
        (first
          | (go_at_call 186;refine (HKI.out _).mono ?_;rintro e w5 ⟨rfl,hw5⟩;rw [←hw5];clear hw5)
          | (go_at_call 188;refine (HNO.out _).mono ?_;rintro e w5 ⟨rfl,hb5⟩;have hk5:=keep_step (by assumption) hb5)
          | fail)) | fail)
      all_goals
       go_wp2_with fail;rw [HF.out,HRE2.out];refine ⟨rfl,HB1'.out.trans (Below.mono (B:=wb.heap.size) (by assumption) ?_)⟩;omega
   · have hnk':((n:Int) != K)=true:=by simpa using hnk
     have HRE2:Hid (r=3):=by show _=_;rw [HR2.out,iP (.inl hnk)]
     clear hnk;go_enter Tryz.func150,Tryz.ntmps150;go_wp2_with fail;refine (HKI.out _).mono ?_;rintro e w1 ⟨rfl,hw⟩;rw [←hw,←HWB.out];clear hw;obtain ⟨x0,x1,x2,x3,x4,x5⟩:=HXX.out wb (Br _ _);go_wp2_with fail
     go_quiet ((go_at_call 186;exact Calls.quiet_of_same (HKQ.out _)))
     go_wp2_with fail;rw [HF.out,HRE2.out];refine ⟨rfl,HB1'.out.trans (Below.mono (B:=wb.heap.size) (bl_drewN (Br wb.heap.size wb) _) ?_)⟩;omega
theorem rfwalk_any:∀ (N:Nat) (t:Fm) (d p:Nat) (Ae:Option Addr) (ce:Nat) (A:Option Addr) (c:Nat) (w:World),t.size≤N→d+t.size≤10000000→p≤4096→t.wsize≤9000000→FmV w Ae ce A c t →
 Calls Tryz.prog 80 #[t.val Ae ce A c,.int .i64 d,.int .i64 p] w (FWQ (eachF fchkStep t d (0,p)) w):=by
 intro N
 induction N with
 | zero=>
  intro t d p Ae ce A c w hN;cases t;rw [Fm.size] at hN;omega
 | succ N ih=>
  intro t d p Ae ce A c w hN hd hp hws hV;obtain ⟨n,hn⟩:=ex_ t.kids.length;obtain ⟨ne,hne⟩:=ex_ t.tm.kids.length;obtain ⟨X,hX⟩:=ex_ (eachF fchkStep t d (0,p));obtain ⟨F,hF⟩:=ex_ (FWQ X w);rw [←hX,←hF];have hsz:t.size=1+Fm.sizeL t.kids:=by cases t;rw [Fm.size];rfl
  have hnl:=Fm.len_le t.kids;have hcap:=hV.cap;have hcapm:=hV.capm;unfold maxLen at hcapm;obtain ⟨w1,hw1⟩:=ex_ (w.alloc (.cells #[.int .i64 t.op,.int .i64 t.tm.op,.int .i64 t.tm.num,.string t.tm.name,.slice Ae ne ce,.slice A n c] 35));have hb1:=bAl hw1;have hs1:w1.heap.size=w.heap.size+1:=by rw [hw1];simp
  have hbx:FBox w1 w.heap.size Ae ne ce A n c t:=by rw [hw1];exact hA_ w _
  have hpt:=rone_any t Ae ce A c w1 (hV.below hb1 rfl) (by have:=(Fm.wsize_open t).1;omega);unfold Fm.val at hpt;obtain ⟨pe,hpe⟩:=ex_ (foneE t);rw [←hpe,←hn,←hne] at hpt
  have HXE:Hid (X=if 64<d then ((17,p+1),false) else if pe≠0 then ((pe,p+1),false) else if 4096<p+1 then ((4,p+1),false) else eachL fchkStep t.kids (d+1) (0,p+1)):=by
   show _=_;rw [hX,eachF_eq];have hst:fchkStep (0,p) t d=((fstepE t d p,p+1),decide (fstepE t d p=0)):=rfl;rw [hst,fstepE_one,←hpe]
   by_cases h1:64<d
   · simp [h1]
   · by_cases h2:pe=0
     · by_cases h3:4096<p+1
       · simp [h1,h2,h3]
       · simp [h1,h2,h3]
     · simp [h1,h2]
  have hkl:t.kids.length≤10000000:=by omega
  rw [←hn] at hcap hkl
  have HSZ:Hid (∀ k∈t.kids,k.size≤N∧d+1+k.size≤10000000∧k.wsize≤9000000):=fun k hk=>by
   have h1:=Fm.sizeL_mem hk;have h2:=(Fm.wsize_open t).2 k hk;omega
  have HXX:Hid (∀ W,Below w1.heap.size w1 W→W.cell? ⟨w.heap.size,5,none⟩=some (.slice A n c)):=fun W hb=>(hbx.below hb hbx.lt).c5;unfold Fm.val;rw [←hn,←hne];have HF:=Hd hF;have HIH:=Hd ih;have HN:=Hd hn;have HK:=Hd hV.kids;have HB1:=Hd hb1;have HS1:=Hd hs1;have HW1:=Hd hw1;have HPT:=Hd hpt;have HP:=Hd hp;have hd9:d≤10000000:=by omega
  clear hF ih hn hne hsz hnl hb1 hs1 hbx hw1 hV hN hX hpt hpe hd hws
  by_cases h64:64<d
  · have HR:Hid (X=((17,p+1),false)):=by show _=_;rw [HXE.out,iP h64]
    have h64':(64:Int)<(d:Int):=by omega
    clear h64;go_enter Tryz.func80,Tryz.ntmps80;go_wp2_with fail;rw [HF.out,HR.out];exact ⟨p,rfl,(fun h=>by cases h),by omega,by rw [←HW1.out];exact HB1.out⟩
  have h64':¬(64:Int)<(d:Int):=by omega
  by_cases h0:pe=0
  · by_cases h4:4096<p+1
    · have HR:Hid (X=((4,p+1),false)):=by show _=_;rw [HXE.out,iN h64,iN (fun h=>h h0),iP h4]
      subst h0;have h4':(4096:Int)<(p:Int)+1:=by omega
      clear h4 h64;go_enter Tryz.func80,Tryz.ntmps80;go_wp2_with fail;rw [←HW1.out];refine (HPT.out).mono ?_;rintro e w2 ⟨rfl,hb2⟩;have HB3:=Hd (HB1.out.trans (hb2.mono (by have:=HS1.out;omega)));clear hb2;go_wp2_with fail;rw [HF.out,HR.out];exact ⟨p+1,by go_num,(fun h=>by cases h),by omega,HB3.out⟩
    · have HR:Hid (eachL fchkStep t.kids (d+1) (0,p+1)=X):=by show _=_;rw [HXE.out,iN h64,iN (fun h=>h h0),iN h4]
      subst h0;have h4':¬(4096:Int)<(p:Int)+1:=by omega
      have h4n:p+1≤4096:=by omega
      clear h4 h64;go_enter Tryz.func80,Tryz.ntmps80;go_wp2_with fail;rw [←HW1.out];refine (HPT.out).mono ?_;rintro e w2 ⟨rfl,hb2⟩;have kc5:=HXX.out w2 hb2;have hs2:=hb2.size;have hbw:w.heap.size<w2.heap.size:=by have:=HS1.out;omega
      have HB2:=Hd hb2;have HB3:=Hd (HB1.out.trans (hb2.mono (by have:=HS1.out;omega)));clear hb2;go_wp2_with fail
      go_loopw [2,8,9] (fun sp _ si wr=>∃ (k q:Nat),k≤n∧sp=.int .i64 q∧si=.int .i64 k∧q≤4096∧Below w2.heap.size w2 wr∧eachL fchkStep (t.kids.drop k) (d+1) (0,q)=X) (fun _ _ i _=>n - (intOf i).toNat)
      case atStart=>exact ⟨0,p+1,zl _,by go_num,rfl,h4n,Br _ _,HR.out⟩
      case round=>
       obtain ⟨k,q,hk,rfl,rfl,hq,hbel,hwl⟩:=hrel;have HB:=Hd hbel;have HWL:=Hd hwl;have hszr:=hbel.size;have kr5:=HXX.out wr (HB2.out.trans (hbel.mono HB2.out.size));have hbt:Below w.heap.size w wr:=HB3.out.trans (hbel.mono (by omega));have hbwr:w.heap.size<wr.heap.size:=by omega
       by_cases hlt:k<n
       · obtain ⟨kd,hkd⟩:∃ kd,t.kids[k]?=some kd:=⟨_,gG (by have:=HN.out;omega)⟩;have hmem:kd∈t.kids:=mG hkd
         rcases HK.out with h9 | ⟨g,off,rfl,hg,hrow⟩
         · rw [h9] at hkd;simp at hkd
         have hat:=(hrow.get hkd).below hbt rfl hg;obtain ⟨q0,q1,q2,q3,Ae2,ce2,A2,c2,q4,q5,hV2⟩:=hat.open;have hgw:g<wr.heap.size:=by omega
         have hih:=HIH.out kd (d+1) q Ae2 ce2 A2 c2 wr (HSZ.out kd hmem).1 (HSZ.out kd hmem).2.1 hq (HSZ.out kd hmem).2.2 hV2;rw [show ((d+1:Nat):Int)=(d:Int)+1 from by omega] at hih;unfold Fm.val at hih;obtain ⟨n2,hn2⟩:=ex_ kd.kids.length;obtain ⟨ne2,hne2⟩:=ex_ kd.tm.kids.length;rw [←hn2] at q5 hih;rw [←hne2] at q4 hih;have hsp:=fchk_spec kd (d+1) (0,q);obtain ⟨z,hz⟩:=ex_ (eachF fchkStep kd (d+1) (0,q));rw [←hz] at hih hsp
         have HDR:Hid (eachL fchkStep (t.kids.drop k) (d+1) (0,q)=if z.2=true then eachL fchkStep (t.kids.drop (k+1)) (d+1) z.1 else (z.1,false)):=by
          obtain ⟨hj,hj2⟩:=gE.1 hkd;show _=_;rw [List.drop_eq_getElem_cons hj,hj2,eachL,←hz];obtain ⟨z1,z2⟩:=z;cases z2 <;> rfl
         have HSP:Hid ((z.2=true→z.1.1=0∧z.1.2≤4096)∧(z.2=false→z.1.1≠0)):=⟨fun h=>by
          obtain ⟨_,h2,h3⟩:=hsp.1 h;simp only at h2 h3
          rw [h2];exact ⟨rfl,h3⟩,hsp.2⟩
         have HC:=Hd hih;obtain ⟨⟨z1,z2⟩,zb⟩:=z;have hk0:(0:Int)≤(k:Int):=by omega
         have hk1:(k:Int)<(n:Int):=by omega
         have e1:off+6*k=off+k*6:=by omega
         rw [e1] at q0 q1 q2 q3 q4 q5;clear hih hn2 hne2 hsp hz hV2 hat hrow hmem hkd e1 hbel hwl kc5 hbt;go_wp2_with fail;refine (HC.out).mono ?_;rintro e w4 ⟨a4,rfl,ha4,hb4,hbb4⟩;have HB5:=Hd (HB.out.trans (hbb4.mono hszr));have hs4:=hbb4.size;have HA4:=Hd ha4;clear hbb4 q0 q1 q2 q3 q4 q5 kr5 ha4
         cases zb with
         | false=>
          have hz0:=HSP.out.2 rfl;have hz0':(z1 != 0)=true:=by simpa using hz0
          have HZ0:=Hd hz0;have HR2:Hid (X=((z1,z2),false)):=by show _=_;rw [←HWL.out,HDR.out];rfl
          clear hz0;go_wp2_with fail;rw [HF.out,HR2.out];exact ⟨a4,rfl,fun h=>absurd h HZ0.out,hb4,HB3.out.trans (HB5.out.mono (by omega))⟩
         | true=>
          obtain ⟨hz0,hz4⟩:=HSP.out.1 rfl
          have HR2:Hid (eachL fchkStep (t.kids.drop (k+1)) (d+1) (0,z2)=X):=by
           show _=_;rw [←HWL.out,HDR.out];rw [hz0]
           rfl
          have hae:=HA4.out hz0;subst hz0;subst hae;go_wp2_with fail
          go_roundw
          case rel=>exact ⟨k+1,a4,by omega,rfl,by go_num,hz4,HB5.out,HR2.out⟩
          case measure=>simp [intOf];omega
       · have HE:Hid (X=((0,q),true)):=by
          show _=_;rw [←HWL.out,List.drop_eq_nil_of_le (by have:=HN.out;omega)]
          rfl
         have hk1:¬(k:Int)<(n:Int):=by omega
         have HBE:=Hd hbt;clear hlt hbel hwl kc5 hbt;go_wp2_with fail;rw [HF.out,HE.out];exact ⟨q,rfl,fun _=>rfl,by omega,HBE.out⟩
  · have HR:Hid (X=((pe,p+1),false)):=by show _=_;rw [HXE.out,iN h64,iP h0]
    have h0':(pe != 0)=true:=by simpa using h0
    have H0:=Hd h0;clear h0 h64;go_enter Tryz.func80,Tryz.ntmps80;go_wp2_with fail;rw [←HW1.out];refine (HPT.out).mono ?_;rintro e w2 ⟨rfl,hb2⟩;have HB3:=Hd (HB1.out.trans (hb2.mono (by have:=HS1.out;omega)));clear hb2;go_wp2_with fail;rw [HF.out,HR.out];exact ⟨p,rfl,fun h=>absurd h H0.out,by omega,HB3.out⟩
theorem rfcheck_any (t:Fm) (Ae:Option Addr) (ce:Nat) (A:Option Addr) (c:Nat) (w:World) (hV:FmV w Ae ce A c t) (hsz:t.wsize≤9000000) :
 Calls Tryz.prog 41 #[t.val Ae ce A c] w fun e w'=>e=.returned (.int .i64 t.check)∧Below w.heap.size w w':=by
 obtain ⟨w1,hw1⟩:=ex_ (w.alloc (.cells #[.int .i64 t.op,.int .i64 t.tm.op,.int .i64 t.tm.num,.string t.tm.name,.slice Ae t.tm.kids.length ce,.slice A t.kids.length c] 35));have hb1:=bAl hw1;have hs1:w1.heap.size=w.heap.size+1:=by rw [hw1];simp
 have hc1:=rfwalk_any t.size t 1 0 Ae ce A c w1 (lr _) (by have:=Fm.size_le t;omega) (by omega) hsz (hV.below hb1 rfl);have HRE:Hid ((eachF fchkStep t 1 (0,0)).1.1=t.check):=rfl;obtain ⟨ck,hck⟩:=ex_ t.check;obtain ⟨X,hX⟩:=ex_ (eachF fchkStep t 1 (0,0));rw [←hX] at hc1;rw [←hX,←hck] at HRE;rw [←hck];unfold Fm.val at hc1 ⊢;have HC:=Hd hc1;have HB1:=Hd hb1;have HW1:=Hd hw1;have HS1:=Hd hs1;clear hc1 hX hb1 hw1 hs1 hV hck;go_enter Tryz.func41,Tryz.ntmps41;go_wp2_with fail;rw [←HW1.out];refine (HC.out).mono ?_;rintro e w2 ⟨a,rfl,_,_,hb2⟩;have HB2:=Hd (HB1.out.trans (hb2.mono (by have:=HS1.out;omega)));rw [HRE.out];clear hb2;go_wp2_with fail;go_ret;exact ⟨rfl,HB2.out⟩
open Go.ChangeShapes Go.WideShapes Go.ChangeAt Go.RowKit
theorem list_of_each {α:Type} {Q:Nat→α→Prop}:∀ (n:Nat),(∀ i,i<n→∃ a,Q i a)→∃ l:List α,l.length=n∧∀ j a,l[j]?=some a→Q j a
 | 0,_=>⟨[],rfl,fun j a h=>by simp at h⟩
 | n+1,h=>by
  obtain ⟨l,hl,hq⟩:=list_of_each n (fun i hi=>h i (by omega));obtain ⟨a,ha⟩:=h n (by omega);refine ⟨l++[a],by simp [hl],fun j b hj=>?_⟩
  rcases Nat.lt_or_ge j l.length with hlt | hge
  · rw [List.getElem?_append_left hlt] at hj;exact hq j b hj
  · rw [List.getElem?_append_right hge] at hj
    have hj0:j - l.length=0:=by
     rcases Nat.eq_zero_or_pos (j - l.length) with h0 | h0
     · exact h0
     · rw [List.getElem?_eq_none (by simp;omega)] at hj;cases hj
    rw [hj0] at hj;simp at hj;subst hj;rw [show j=n from by omega];exact ha
section
variable {H:Type} {enc:TypeId×Value→H} {P:Program} {w:World} {base:Nat} {spare:Nat→Bool} {held:Bool}
theorem slice_rows {α:Type} {t e:TypeId} {k fuel:Nat} {cs:List Value} {x:DataW H×List MemPlace} (ht:P.underlying t=some (.slice e)) (hc:P.cellsOf e=k) (hk:0<k) (R:Nat→Nat→α→Prop)
 (hR:∀ n,fuel=n+1→∀ b o cs' y,b<w.heap.size→cs'.length=k→(∀ i,i<k→w.cell? ⟨b,o+i,none⟩=cs'[i]?)→DataW.trod enc P w base spare held n e cs'=some y→∃ a,R b o a)
 (h:DataW.trod enc P w base spare held fuel t cs=some x) :
 ∃ A c,∃ l:List α,cs=[.slice A l.length c]∧l.length≤c∧c≤maxLen∧(l=[]∨∃ b o,A=some ⟨b,o,none⟩∧b<w.heap.size∧∀ j a,l[j]?=some a→R b (o+k*j) a):=by
 rcases DataW.trod_slice ht h with ⟨rfl,-⟩ | ⟨a,len,cap,elems,rest,n,hf,rfl,hx,hb,hl,hm,hel,hes,-,-⟩
 · exact ⟨none,0,[],rfl,lr _,zl _,.inl rfl⟩
 · by_cases h0:len=0
   · subst h0;exact ⟨some a,cap,[],rfl,zl _,hm,.inl rfl⟩
   · rw [hc] at hes
     have hone:∀ i,i<len→∃ cs' y,w.cells? base (a.add (i*k)) k=some cs'∧DataW.trod enc P w base spare held n e cs'=some y:=fun i hi=>by
      have h1:=hes i hi;rw [gG (by omega)] at h1;obtain ⟨cs',h2,h3⟩:=Option.bind_eq_some_iff.1 h1;exact ⟨cs',_,h2,h3⟩
     obtain ⟨b,o,spot⟩:=a;obtain ⟨cs0,y0,h2,-⟩:=hone 0 (by omega);obtain ⟨-,g1,g2⟩:=World.cells?_some h2;have g3:=g2 0 hk;rw [gG (by omega)] at g3;have hspot:spot=none:=by simpa [Addr.add] using World.cell?_spot g3
     subst hspot
     have hlt:b<w.heap.size:=by
      have:=World.cells?_block h2 hk
      simpa [Addr.add] using this
     obtain ⟨l,hl1,hl2⟩:=list_of_each (Q:=fun i (a:α)=>R b (o+k*i) a) len (fun i hi=>by
      obtain ⟨cs',y,h4,h5⟩:=hone i hi;obtain ⟨-,e1,e2⟩:=World.cells?_some h4;refine hR n hf b (o+k*i) cs' y hlt e1 (fun i' hi'=>?_) h5;have:=e2 i' hi';rw [addr_add,addr_add] at this;rw [Nat.mul_comm k i]
      exact this)
     exact ⟨_,cap,l,by rw [hl1],by omega,hm,.inr ⟨b,o,rfl,hlt,hl2⟩⟩
end
theorem TmRow.mk:∀ {w:World} {l:List Tm} {g o:Nat},(∀ j t,l[j]?=some t→TmAt w g (o+4*j) t)→TmRow w g o l
 | w,[],g,o,h=>by rw [TmRow];trivial
 | w,t :: r,g,o,h=>by
  rw [TmRow];exact ⟨h 0 t rfl,TmRow.mk fun j x hj=>by rw [show o+4+4*j=o+4*(j+1) from by omega];exact h (j+1) x (by simpa using hj)⟩
section
variable {H:Type} {enc:TypeId×Value→H} {w:World} {base:Nat} {spare:Nat→Bool} {held:Bool}
theorem opn_term:∀ (fuel:Nat) (cs:List Value) (x:DataW H×List MemPlace),DataW.trod enc Tryz.prog w base spare held fuel 25 cs=some x→∃ (t:Tm) (A:Option Addr) (c:Nat),cs=[.int .i64 t.op,.int .i64 t.num,.string t.name,.slice A t.kids.length c]∧TmV w A c t:=by
 intro fuel
 induction fuel using Nat.strongRecOn with
 | _ fuel ih=>
  intro cs x h;obtain ⟨xs,n,hfu,-,hl,hxl,hf⟩:=DataW.trod_struct Tryz.underlying25 h;rw [show Tryz.prog.cellsOf 25=4 from by kernel_rfl] at hl
  obtain ⟨c0,c1,c2,c3,rfl⟩:∃ c0 c1 c2 c3,cs=[c0,c1,c2,c3]:=by
   match cs,hl with
   | [c0,c1,c2,c3],_=>exact ⟨c0,c1,c2,c3,rfl⟩
  obtain ⟨y0,y1,y2,y3,rfl⟩:∃ y0 y1 y2 y3,xs=[y0,y1,y2,y3]:=by
   match xs,hxl with
   | [c0,c1,c2,c3],_=>exact ⟨c0,c1,c2,c3,rfl⟩
  have f0:=hf 0 _ rfl;have f1:=hf 1 _ rfl;have f2:=hf 2 _ rfl;have f3:=hf 3 _ rfl;simp [show Tryz.prog.cellsOf 3=1 from by kernel_rfl,show Tryz.prog.cellsOf 9=1 from by kernel_rfl,show Tryz.prog.cellsOf 23=1 from by kernel_rfl] at f0 f1 f2 f3;obtain ⟨n0,e0,-,-⟩:=DataW.trod_int Tryz.underlying3 f0;obtain ⟨n1,e1,-,-⟩:=DataW.trod_int Tryz.underlying3 f1;obtain ⟨s,e2,-,hs⟩:=DataW.trod_string Tryz.underlying9 f2
  obtain ⟨A,c,l,e3,h1,h2,h3⟩:=slice_rows Tryz.underlying23 (show Tryz.prog.cellsOf 25=4 from by kernel_rfl) (by decide) (fun b o (t:Tm)=>TmAt w b o t) (fun m hm b o cs' y hb hcl hcells htr=>by
   obtain ⟨t,A',c',rfl,hV⟩:=ih m (by omega) cs' y htr;refine ⟨t,?_⟩;have g0:=hcells 0 (by omega);have g1:=hcells 1 (by omega);have g2:=hcells 2 (by omega);have g3:=hcells 3 (by omega)
   exact TmAt.mk g0 g1 g2 g3 hV) f3
  injection e0 with e0
  injection e1 with e1
  injection e2 with e2
  injection e3 with e3
  subst e0 e1 e2 e3;refine ⟨.mk n0 n1 s l,A,c,rfl,h1,h2,hs,?_⟩
  rcases h3 with h3 | ⟨b,o,rfl,hb,h3⟩
  · exact .inl h3
  · exact .inr ⟨b,o,rfl,hb,TmRow.mk h3⟩
end
theorem own:ownKnob Tryz.prog.godebug=none:=by kernel_rfl
theorem laidOut:laidOutB Tryz.prog=true:=by kernel_rfl
theorem strs_of_array {H:Type} {enc:TypeId×Value→H} {w:World} {base:Nat} {sp:Nat→Bool} {held:Bool} {fuel:Nat} {t e:TypeId} {n:Nat} {cs:List Value} {l:List ByteArray} {p:List MemPlace}
 (ht:Tryz.prog.underlying t=some (.array n e)) (he:Tryz.prog.underlying e=some .string) (hce:Tryz.prog.cellsOf e=1)
 (h:DataW.trod enc Tryz.prog w base sp held fuel t cs=some (.agg (l.map fun s=>.lit (.string s.data.toList)),p)):∀ j,j<l.length→cs[j]?=some (.string (l.getD j ByteArray.empty)):=by
 obtain ⟨xs,m,rfl,hx,hl,hxl,hall⟩:=DataW.trod_array ht h
 have hxs:xs.map (·.1)=l.map fun s=>(DataW.lit (.string s.data.toList):DataW H):=by
  have:=congrArg Prod.fst hx
  simpa using this.symm
 have hzl:l.length=n:=by
  have:=congrArg List.length hxs;simp at this;omega
 intro j hj;have h1:=hall j (by omega);obtain ⟨b,hb⟩:∃ b,xs[j]?=some b:=⟨xs[j]'(by omega),gG (by omega)⟩;rw [hb,hce] at h1;obtain ⟨s,hcs,rfl,_⟩:=DataW.trod_string he h1
 have h2:cs[j]?=some (.string s):=by
  have:=congrArg (·[0]?) hcs
  simpa [List.getElem?_take,List.getElem?_drop] using this
 have h3:(xs.map (·.1))[j]?=some (DataW.lit (.string s.data.toList):DataW H):=by simp [hb]
 rw [hxs] at h3;simp only [List.getElem?_map,Option.map_eq_some_iff,DataW.lit.injEq,Lit.string.injEq] at h3;obtain ⟨z,hz,hzs⟩:=h3;have:z=s:=bs_ext hzs;subst this;rw [h2];simp [List.getD,hz]
theorem tables_of_reads {W : World} (h1 : Lib.VarReads Tryz.prog W "voussoir/lexi.words" Rows.laid_voussoir_lexi_words) (h2 : Lib.VarReads Tryz.prog W "voussoir/lexi.signs" Rows.laid_voussoir_lexi_signs) : Tables W := by
 obtain ⟨g, t, cs, fuel, p, hg, ht, hv, hd⟩ := h1;obtain rfl := Option.some.inj ((show Tryz.prog.globalNamed "voussoir/lexi.words" = some 0 by kernel_rfl).symm.trans hg);obtain rfl := Option.some.inj ((show (Tryz.prog.globals[0]?).map (·.type) = some 185 by kernel_rfl).symm.trans ht);have c1 := strs_of_array (l := wordL) Tryz.underlying185 Tryz.underlying9 (by kernel_rfl) hd
 have d1:∀ j,j<24→W.cell? ⟨0,j,none⟩=some (.string (wordL.getD j ByteArray.empty)):=fun j hj=>by
  have h3:=World.var?_cell hg hv j;rw [h3,←Array.getElem?_toList];exact c1 j hj
 obtain ⟨g, t, cs, fuel, p, hg, ht, hv, hd⟩ := h2;obtain rfl := Option.some.inj ((show Tryz.prog.globalNamed "voussoir/lexi.signs" = some 1 by kernel_rfl).symm.trans hg);obtain rfl := Option.some.inj ((show (Tryz.prog.globals[1]?).map (·.type) = some 189 by kernel_rfl).symm.trans ht);have c2 := strs_of_array (l := signL) Tryz.underlying189 Tryz.underlying9 (by kernel_rfl) hd
 have d2:∀ j,j<21→W.cell? ⟨1,j,none⟩=some (.string (signL.getD j ByteArray.empty)):=fun j hj=>by
  have h3:=World.var?_cell hg hv j;rw [h3,←Array.getElem?_toList];exact c2 j hj
 exact ⟨World.block_lt_of_cell? W _ (d2 0 (by omega)),d1,d2⟩
section
variable {H:Type} {enc:TypeId×Value→H} {W:World} {base:Nat} {v:Value} {d:DataW H} {p:List MemPlace}
end
end Go.Proofs.YtnbphgeepnknlaaGreatDoor
