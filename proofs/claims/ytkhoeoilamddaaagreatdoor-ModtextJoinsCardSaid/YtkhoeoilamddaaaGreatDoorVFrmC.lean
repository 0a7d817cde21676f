/- Walks and plain words: FrmC FrmD LexA PrsV FsI. -/
import Derived.Test.YtkhoeoilamddaaaGreatDoorVFsG
namespace Go.Proofs.YtkhoeoilamddaaaGreatDoor
open Go.RowKit
set_option linter.unusedVariables false
set_option maxRecDepth 100000
set_option maxHeartbeats 16000000
theorem fkids_any (op:Int) (w:World) :
 Calls Tryz.prog 101 #[.int .i64 op] w fun e w'=>e=.returned (.int .i64 (fkids op))∧w=w':=by
 obtain ⟨r,HR⟩:=exh_ (fkids op);rw [←HR.out];go_enter Tryz.func101,Tryz.ntmps101
 go_wp2
 all_goals
  go_ret;rw [HR.out];refine ⟨?_,rfl⟩
  simp_all [fkids]
theorem fterm_any (t:Fm) (Ae:Option Addr) (ce:Nat) (A:Option Addr) (c:Nat) (w:World) (hV:FmV w Ae ce A c t) (hsz:t.tm.size≤9000000) :
 Calls Tryz.prog 100 #[t.val Ae ce A c] w fun e w'=>e=.returned (.int .i64 (ftermE t))∧Below w.heap.size w w':=by
 obtain ⟨n,hn⟩:=ex_ t.kids.length;obtain ⟨ne,hne⟩:=ex_ t.tm.kids.length;obtain ⟨wb,hwb⟩:=ex_ (w.alloc (.cells #[.int .i64 t.op,.int .i64 t.tm.op,.int .i64 t.tm.num,.string t.tm.name,.slice Ae ne ce,.slice A n c] 67));have hb1:=bAl hwb;have hbx:FBox wb w.heap.size Ae ne ce A n c t:=by rw [hwb];exact hA_ w _
 have hsb:w.heap.size<wb.heap.size:=by rw [hwb];simp
 have hck:=check_any t.tm Ae ce wb (hV.tm.below hb1 rfl) hsz;unfold Tm.val at hck;unfold Fm.val;rw [←hn];rw [←hne] at hck ⊢;obtain ⟨ck,hck0⟩:=ex_ t.tm.check;rw [←hck0] at hck;obtain ⟨r,hr⟩:=ex_ (ftermE t);rw [←hr];unfold ftermE at hr;rw [←hck0] at hr;obtain ⟨op,hop⟩:=ex_ t.op;have HBX:=Hd hbx;have HOP:=Hd hop;rw [←hop] at hr hwb ⊢;have HWB:=Hd hwb;rw [HWB.out] at hck;have HCK:=Hd hck;have HR:=Hd hr;have HB1:=Hd hb1;have HV:=Hd hV;have HN:=Hd hn;have HNE:=Hd hne;clear hck hck0 hr hwb hb1 hbx hV hn hne hop
 by_cases h1:op=1
 · have HR2:Hid (r=if ck=0 then (if hasNext t.tm=true then 24 else 0) else ck):=by show _=_;rw [HR.out,iP h1]
   subst h1;go_enter Tryz.func100,Tryz.ntmps100;go_wp2_with fail;refine (HCK.out).mono ?_;rintro e w1 ⟨rfl,hb2⟩;rw [←HWB.out] at hb2;have hx1:=HBX.out.below hb2 HBX.out.lt;have HB2:=Hd (HB1.out.trans (hb2.mono (Nat.le_of_lt hsb)));have hs1:=hb2.size;have y1:=hx1.c1;have y2:=hx1.c2;have y3:=hx1.c3;have y4:=hx1.c4;clear hx1 hb2
   by_cases h0:ck=0
   · have hnm:=names_any t.tm Ae ce w1 (HV.out.tm.below HB2.out rfl) hsz;unfold Tm.val at hnm;rw [←HNE.out] at hnm;have HNM:=Hd hnm;have HR3:Hid (r=if hasNext t.tm=true then 24 else 0):=by show _=_;rw [HR2.out,iP h0]
     subst h0;clear hnm;go_wp2_with fail;refine (HNM.out).mono ?_;rintro e w2 ⟨v1,A2,n2,c2,rfl,hz,hb3⟩;have HB3:=kB HB2 hb3;have HZ:=Hd hz;clear hz hb3 y1 y2 y3 y4
     by_cases h2:n2=0
     · have HRE:Hid (r=0):=by show _=_;rw [HR3.out,HZ.out.1 h2];rfl
       have h2':¬(0:Int)<(n2:Int):=by omega
       clear h2;go_wp2_with fail;go_ret;rw [HRE.out];exact ⟨rfl,HB3.out⟩
     · have HRE:Hid (r=24):=by
        show _=_;rw [HR3.out]
        cases hh:hasNext t.tm with
        | false=>exact absurd (HZ.out.2 hh) h2
        | true=>rfl
       have h2':(0:Int)<(n2:Int):=by omega
       clear h2;go_wp2_with fail;go_ret;rw [HRE.out];exact ⟨rfl,HB3.out⟩
   · have HRE:Hid (r=ck):=by show _=_;rw [HR2.out,iN h0]
     have h0':(ck != 0)=true:=by simpa using h0
     clear h0;go_wp2_with fail;go_ret;rw [HRE.out];exact ⟨rfl,HB2.out⟩
 · have HRE:Hid (r=0):=by show _=_;rw [HR.out,iN h1]
   have h1':(op != 1)=true:=by simpa using h1
   clear h1;go_enter Tryz.func100,Tryz.ntmps100;go_wp2_with fail;go_ret;rw [HRE.out,←HWB.out];exact ⟨rfl,HB1.out⟩
theorem fstepE_eq (t:Fm) (d n:Nat):fstepE t d n=if 64<d then 17 else if fkids t.op<0 then 11 else if ftermE t≠0 then ftermE t
 else if (t.kids.length:Int)≠fkids t.op∨(t.op≠1∧bareB t.tm=false) then 3 else if 4096<n+1 then 4 else 0:=rfl
theorem fcheck1_any (bw bn:Nat) (hne:bw≠bn) (x:Int×Nat) (t:Fm) (d:Nat) (Ae:Option Addr) (ce:Nat) (A:Option Addr) (c:Nat) (w:World) (w0:World) (B:Nat) (hB:B=w0.heap.size) (hB1:B≤bw) (hB2:B≤bn) (hbel:Below B w0 w) (hI:ChkInv bw bn x w) (hx0:x.1=0) (hV:FmV w0 Ae ce A c t) (hd:d≤10000000) (hsz:t.tm.size≤9000000) :
 Calls Tryz.prog 99 #[t.val Ae ce A c,.int .i64 d,.pointer (some ⟨bn,0,none⟩),.pointer (some ⟨bw,0,none⟩)] w fun e w'=>e=.returned (.bool (fchkStep x t d).2)∧(ChkFin bw (fchkStep x t d).1 w'∧((fchkStep x t d).2=true→ChkInv bw bn (fchkStep x t d).1 w'))∧Only (fun q=>q=bw∨q=bn) w w':=by
 obtain ⟨hw1,hn1,hx2⟩:=hI;obtain ⟨e0,k⟩:=x;simp only at hw1 hn1 hx2 hx0;subst hx0;obtain ⟨n,hn⟩:=ex_ t.kids.length;obtain ⟨ne,hne0⟩:=ex_ t.tm.kids.length;obtain ⟨E,hE⟩:=ex_ (fstepE t d k);have HST:Hid (fchkStep (0,k) t d=((E,k+1),decide (E=0))):=by show _=_;rw [hE];rfl
 obtain ⟨st,hst⟩:=ex_ (fchkStep (0,k) t d);rw [←hst] at HST ⊢;rw [HST.out];simp only;obtain ⟨op,hop⟩:=ex_ t.op;obtain ⟨K,hK⟩:=ex_ (fkids op);obtain ⟨W,hW⟩:=ex_ (ftermE t);obtain ⟨bb,hbb⟩:=ex_ (bareB t.tm);rw [fstepE_eq,←hop,←hK,←hW,←hn,←hbb] at hE;obtain ⟨wb,hwb⟩:=ex_ ((w.setCell ⟨bn,0,none⟩ (.int .i64 ((k:Int)+1))).alloc (.cells #[.int .i64 op,.int .i64 t.tm.op,.int .i64 t.tm.num,.string t.tm.name,.slice Ae ne ce,.slice A n c] 67));have hlw:=hw1.lt;have hln:=hn1.lt;have cw:=hw1.cell;have cn:=hn1.cell;have fw:=hw1.frozen;have fn:=hn1.frozen;have hne':bn≠bw:=fun h=>hne h.symm;have hbw2:Box wb bw 29 0:=by rw [hwb];exact (hw1.setOther (p:=⟨bn,0,none⟩) hne _).below ((Br w.heap.size _).alloc (by simp) _) (by simpa using hlw)
 have hbn2:Box wb bn 3 ((k:Int)+1):=by rw [hwb];exact (hn1.set _).below ((Br w.heap.size _).alloc (by simp) _) (by simpa using hln)
 have ho2:Only (fun q=>q=bw∨q=bn) w wb:=by rw [hwb];exact ((Only.refl (F:=fun q=>q=bw∨q=bn)).setF (Or.inr rfl) _).thenBelow ((Br w.heap.size _).alloc (by simp) _) (lr _)
 have hbelb:Below B w0 wb:=by rw [hwb];exact (hbel.setCell (p:=⟨bn,0,none⟩) hB2 _).alloc (by simpa using (by have:=hbel.size;omega)) _
 have hx:FBox wb w.heap.size Ae ne ce A n c t:=by
  rw [hwb];have h:=hA_ (w.setCell ⟨bn,0,none⟩ (.int .i64 ((k:Int)+1))) (.cells #[.int .i64 op,.int .i64 t.tm.op,.int .i64 t.tm.num,.string t.tm.name,.slice Ae ne ce,.slice A n c] 67);rw [show (w.setCell ⟨bn,0,none⟩ (.int .i64 ((k:Int)+1))).heap.size=w.heap.size from by simp] at h;unfold FBox;rw [←hop];exact h
 have hlt:w.heap.size<wb.heap.size:=by rw [hwb];simp
 have htm:=fterm_any t Ae ce A c wb (hV.below hbelb hB) hsz;unfold Fm.val at htm ⊢;rw [←hn,←hne0,←hop] at htm ⊢;rw [←hW] at htm;have HKK:=Hd (fun W'=>fkids_any op W');rw [←hK] at HKK;have hcap:=hV.cap;have hcapm:=hV.capm;have hecap:=hV.tm.cap;have hecapm:=hV.tm.capm;have hnm:=hV.tm.name;unfold maxLen at hcapm hecapm hnm;rw [←hn] at hcap;rw [←hne0] at hecap;have hkb:k≤4096:=hx2;have HE:=Hd hE;have HBB:=Hd hbb;have HWB:=Hd hwb;have HBW2:=Hd hbw2;have HBN2:=Hd hbn2;have HO2:=Hd ho2;have HX:=Hd hx;have HNE0:=Hd hne0;have HOP:=Hd hop;rw [HWB.out] at htm;have HTM:=Hd htm
 have hcl:(t.tm.op≠0∧(t.tm.op == 0)=false∧bb=false)∨(t.tm.op=0∧t.tm.num≠0∧(t.tm.num == 0)=false∧bb=false)∨(t.tm.op=0∧t.tm.num=0∧0<t.tm.name.size∧bb=false)∨(t.tm.op=0∧t.tm.num=0∧t.tm.name.size=0∧0<ne∧((ne:Int) == 0)=false∧bb=false)∨(t.tm.op=0∧t.tm.num=0∧t.tm.name.size=0∧ne=0∧bb=true):=by
  unfold bareB at hbb;rw [←hne0] at hbb
  by_cases a1:t.tm.op=0
  · by_cases a2:t.tm.num=0
    · by_cases a3:t.tm.name.size=0
      · by_cases a4:ne=0
        · exact .inr (.inr (.inr (.inr ⟨a1,a2,a3,a4,by rw [hbb];simp [a1,a2,a3,a4]⟩)))
        · exact .inr (.inr (.inr (.inl ⟨a1,a2,a3,by omega,by simp;omega,by rw [hbb];simp [a4]⟩)))
      · exact .inr (.inr (.inl ⟨a1,a2,by omega,by rw [hbb];simp [a3]⟩))
    · exact .inr (.inl ⟨a1,a2,by simpa using a2,by rw [hbb];simp [a2]⟩)
  · exact .inl ⟨a1,by simpa using a1,by rw [hbb];simp [a1]⟩
 clear hE hbb hwb hbw2 hbn2 ho2 hx hne0 htm hK hW hV hbelb hbel hsz hop hn hst;obtain ⟨eo,heo⟩:=ex_ t.tm.op;obtain ⟨en,hen⟩:=ex_ t.tm.num;obtain ⟨es,hes⟩:=ex_ t.tm.name;have HEO:=Hd heo;have HEN:=Hd hen;have HES:=Hd hes;rw [←heo,←hen,←hes] at hcl ⊢;rw [←heo,←hen,←hes] at HTM HWB;clear heo hen hes
 rcases hcl with ⟨a1,a2,hbf⟩ | ⟨rfl,a2,a3,hbf⟩ | ⟨rfl,rfl,a3,hbf⟩ | ⟨rfl,rfl,a3,a4,a5,hbf⟩ | ⟨rfl,rfl,a3,rfl,hbf⟩
 all_goals
  (try have st1:=isEmpty_of_size (by assumption:es.size=0))
  (try have st2:=isEmpty_of_pos (by assumption:0<es.size))
  have HBF:=Hd hbf;clear hbf;go_enter Tryz.func99,Tryz.ntmps99;go_wp2_with fail;refine (HTM.out).mono ?_;rintro e w3 ⟨rfl,hb3⟩;rw [←HWB.out] at hb3;clear cw cn fw fn;have hbw3:=HBW2.out.below hb3 HBW2.out.lt;have hbn3:=HBN2.out.below hb3 HBN2.out.lt;have HO3:=Hd (HO2.out.thenBelow hb3 HO2.out.size);have hx3:=HX.out.below hb3 HX.out.lt;have cw:=hbw3.cell;have cn:=hbn3.cell;have fw:=hbw3.frozen;have fn:=hbn3.frozen;have lw:=hbw3.lt;have ln:=hbn3.lt;have lx:=hx3.lt;have x0:=hx3.c0;have x5:=hx3.c5;have HBW3:=Hd hbw3;have HBN3:=Hd hbn3;clear hbw3 hbn3 hb3 hx3;rw [←HOP.out] at x0;go_wp2_with fail;refine (HKK.out _).mono ?_;rintro e w' ⟨rfl,hw⟩;rw [←hw];clear hw
  by_cases hd64:64<d
  · have HEE:Hid (E=17):=by show _=_;rw [HE.out,iP hd64]
    have hd':(64:Int)<(d:Int):=by omega
    clear hd64;go_wp2_with fail;go_ret;rw [HEE.out];exact ⟨rfl,⟨HBW3.out.set _,fun h=>absurd h (by decide)⟩,HO3.out.setF (Or.inl rfl) _⟩
  · have hd':¬(64:Int)<(d:Int):=by omega
    by_cases hK0:K<0
    · have HEE:Hid (E=11):=by show _=_;rw [HE.out,iN hd64,iP hK0]
      clear hd64;go_wp2_with fail;go_ret;rw [HEE.out];exact ⟨rfl,⟨HBW3.out.set _,fun h=>absurd h (by decide)⟩,HO3.out.setF (Or.inl rfl) _⟩
    · by_cases hW0:W=0
      · have hW1:(W != 0)=false:=by simpa using hW0
        have HW0:Hid (ftermE t=ftermE t∧(W≠0↔False)):=⟨rfl,by simp [hW0]⟩
        by_cases hlen:(n:Int)=K
        · have hl1:((n:Int) != K)=false:=by simpa using hlen
          by_cases ho1:op=1
          · have ho2:(op != 1)=false:=by simpa using ho1
            have HT:Hid (¬((n:Int)≠K∨(op≠1∧bb=false))):=by rintro (h | h);exact h hlen;exact h.1 ho1
            by_cases h4:4096<k+1
            · have HEE:Hid (E=4):=by show _=_;rw [HE.out,iN hd64,iN hK0,iN (by simp [hW0]),iN HT.out,iP h4]
              have h4':(4096:Int)<(k:Int)+1:=by omega
              clear hd64 h4 hW0 hlen ho1;go_wp2_with fail;go_ret;rw [HEE.out];exact ⟨rfl,⟨HBW3.out.set _,fun h=>absurd h (by decide)⟩,HO3.out.setF (Or.inl rfl) _⟩
            · have HEE:Hid (E=0):=by show _=_;rw [HE.out,iN hd64,iN hK0,iN (by simp [hW0]),iN HT.out,iN h4]
              have h4':¬(4096:Int)<(k:Int)+1:=by omega
              have hk4:k+1≤4096:=by omega
              clear hd64 h4 hW0 hlen ho1;go_wp2_with fail;go_ret;rw [HEE.out];exact ⟨rfl,⟨HBW3.out,fun _=>⟨HBW3.out,HBN3.out,hk4⟩⟩,HO3.out⟩
          · have ho2:(op != 1)=true:=by simpa using ho1
            first
            | (have h9:bb=false:=HBF.out
               have HEE:Hid (E=3):=by show _=_;rw [HE.out,iN hd64,iN hK0,iN (by simp [hW0]),iP (.inr ⟨ho1,h9⟩)]
               clear hd64 hW0 hlen ho1 h9;go_wp2_with fail;go_ret;rw [HEE.out]
               exact ⟨rfl,⟨HBW3.out.set _,fun h=>absurd h (by decide)⟩,HO3.out.setF (Or.inl rfl) _⟩)
            | (have h9:bb=true:=HBF.out
               have HT:Hid (¬((n:Int)≠K∨(op≠1∧bb=false))):=by rintro (h | h);exact h hlen;rw [h9] at h;exact absurd h.2 (by decide)
               by_cases h4:4096<k+1
               · have HEE:Hid (E=4):=by show _=_;rw [HE.out,iN hd64,iN hK0,iN (by simp [hW0]),iN HT.out,iP h4]
                 have h4':(4096:Int)<(k:Int)+1:=by omega
                 clear hd64 h4 hW0 hlen ho1 h9;go_wp2_with fail;go_ret;rw [HEE.out];exact ⟨rfl,⟨HBW3.out.set _,fun h=>absurd h (by decide)⟩,HO3.out.setF (Or.inl rfl) _⟩
               · have HEE:Hid (E=0):=by show _=_;rw [HE.out,iN hd64,iN hK0,iN (by simp [hW0]),iN HT.out,iN h4]
                 have h4':¬(4096:Int)<(k:Int)+1:=by omega
                 have hk4:k+1≤4096:=by omega
                 clear hd64 h4 hW0 hlen ho1 h9;go_wp2_with fail;go_ret;rw [HEE.out]
                 exact ⟨rfl,⟨HBW3.out,fun _=>⟨HBW3.out,HBN3.out,hk4⟩⟩,HO3.out⟩)
            | fail
        · have hl1:((n:Int) != K)=true:=by simpa using hlen
          have HEE:Hid (E=3):=by show _=_;rw [HE.out,iN hd64,iN hK0,iN (by simp [hW0]),iP (.inl hlen)]
          clear hd64 hW0 hlen;go_wp2_with fail;go_ret;rw [HEE.out];exact ⟨rfl,⟨HBW3.out.set _,fun h=>absurd h (by decide)⟩,HO3.out.setF (Or.inl rfl) _⟩
      · have hW1:(W != 0)=true:=by simpa using hW0
        have hW2:(W == 0)=false:=by simpa using hW0
        have HEE:Hid (E=W∧W≠0):=by
         refine ⟨?_,hW0⟩;rw [HE.out,iN hd64,iN hK0,iP hW0]
        clear hd64 hW0;go_wp2_with fail;go_ret;rw [HEE.out.1,dF HEE.out.2];exact ⟨rfl,⟨HBW3.out.set _,fun h=>absurd h (by decide)⟩,HO3.out.setF (Or.inl rfl) _⟩
theorem fcheck_any (t:Fm) (Ae:Option Addr) (ce:Nat) (A:Option Addr) (c:Nat) (w:World) (hV:FmV w Ae ce A c t) (hsz:t.wsize≤9000000) :
 Calls Tryz.prog 59 #[t.val Ae ce A c] w fun e w'=>e=.returned (.int .i64 t.check)∧Below w.heap.size w w':=by
 obtain ⟨wb,hwb⟩:=ex_ (((w.alloc (.cells #[.int .i64 t.op,.int .i64 t.tm.op,.int .i64 t.tm.num,.string t.tm.name,.slice Ae t.tm.kids.length ce,.slice A t.kids.length c] 67)).alloc (.cells #[.int .i64 0] 29)).alloc (.cells #[.int .i64 0] 3));have hb1:Below w.heap.size w wb:=by rw [hwb];exact (((Br _ _).alloc (lr _) _).alloc (by simp) _).alloc (by simp;omega) _
 have hbw:Box wb (w.heap.size+1) 29 0:=by
  rw [hwb];have h:=Box.new (w.alloc (.cells #[.int .i64 t.op,.int .i64 t.tm.op,.int .i64 t.tm.num,.string t.tm.name,.slice Ae t.tm.kids.length ce,.slice A t.kids.length c] 67)) 29 0;rw [show (w.alloc (.cells #[.int .i64 t.op,.int .i64 t.tm.op,.int .i64 t.tm.num,.string t.tm.name,.slice Ae t.tm.kids.length ce,.slice A t.kids.length c] 67)).heap.size=w.heap.size+1 from by simp] at h;exact h.below ((Br (w.heap.size+2) _).alloc (by simp) _) (by omega)
 have hbn:Box wb (w.heap.size+2) 3 0:=by
  rw [hwb];have h:=Box.new ((w.alloc (.cells #[.int .i64 t.op,.int .i64 t.tm.op,.int .i64 t.tm.num,.string t.tm.name,.slice Ae t.tm.kids.length ce,.slice A t.kids.length c] 67)).alloc (.cells #[.int .i64 0] 29)) 3 0;rw [show ((w.alloc (.cells #[.int .i64 t.op,.int .i64 t.tm.op,.int .i64 t.tm.num,.string t.tm.name,.slice Ae t.tm.kids.length ce,.slice A t.kids.length c] 67)).alloc (.cells #[.int .i64 0] 29)).heap.size=w.heap.size+2 from by simp] at h;exact h
 have V:FVisitor 99 #[.pointer (some ⟨w.heap.size+2,0,none⟩),.pointer (some ⟨w.heap.size+1,0,none⟩)] w.heap.size w (fun x W=>ChkInv (w.heap.size+1) (w.heap.size+2) x W∧x.1=0) (ChkFin (w.heap.size+1)) fchkStep (fun _=>10000000):=
  { enter:=fun args w=>by kernel_rfl
    fin:=fun s w h=>h.1.1
    keep:=fun s w w' h hb=>⟨⟨h.1.1.below hb h.1.1.lt,h.1.2.1.below hb h.1.2.1.lt,h.1.2.2⟩,h.2⟩
    lose:=fun s t d=>Nat.le_succ _
    call:=fun s t d Ae ce A c w' hI hbl hV hd _ hws=>(fcheck1_any _ _ (by omega) s t d Ae ce A c w' w w.heap.size rfl (by omega) (by omega) hbl hI.1 hI.2 hV hd (by have:=(Fm.wsize_open t).1;omega)).mono fun e w2 ⟨h1,h2,h3⟩=>⟨h1,⟨h2.1,fun h=>⟨h2.2 h,by
     have h':decide (fstepE t d s.2=0)=true:=h;show fstepE t d s.2=0
     simpa using h'⟩⟩,KT.of_only h3 (fun q hq=>by omega) hbl.size (fun q hq cs fz he=>by
     rcases hq with rfl | rfl
     · have h4:=hI.1.1;unfold Box at h4;rw [he] at h4
       injection h4 with h4
       injection h4 with _ h4 _
       exact absurd h4 (by decide)
     · have h4:=hI.1.2.1;unfold Box at h4;rw [he] at h4
       injection h4 with h4
       injection h4 with _ h4 _
       exact absurd h4 (by decide))⟩ }
 have hss:=Fm.size_le t;have hwalk:=each_any V rfl t.size t 1 Ae ce A c (0,0) wb (lr _) (by omega) hsz (by omega) hV ⟨⟨hbw,hbn,zl _⟩,rfl⟩ hb1;rw [hwb] at hwalk;have HWK:=Hd hwalk;have HB1:=Hd hb1;have HWB:=Hd hwb;unfold Fm.val at HWK ⊢;clear hb1 hbw hbn V hwalk hwb hV hsz hss;go_enter Tryz.func59,Tryz.ntmps59;go_wp2_with fail;refine (HWK.out).mono ?_;rintro e w1 ⟨rfl,hfin,ho⟩;rw [←HWB.out] at ho;have hbx:Box w1 (w.heap.size+1) 29 t.check:=hfin.1;have HO:=Hd (HB1.out.trans ho.below);have cw:=hbx.cell;clear hfin ho;go_wp2_with fail;go_ret;exact ⟨rfl,HO.out⟩
theorem Tryz.info24:(Tryz.prog.info? 55).map (fun i=>(i.zero,i.size,i.bytes))=some (some (.agg #[.int .i64 0,.int .i64 0,.string ⟨#[]⟩,.int .i64 0]),4,40):=by kernel_rfl
theorem all_any (s:ByteArray) (w:World) (hs:s.size≤maxLen) (hT:Tables w) :
 Calls Tryz.prog 14 #[.string s] w fun e w'=>∃ v,e=.returned (.tuple #[v,.int .i64 (all (bs s)).2.1,.int .i64 (all (bs s)).2.2])∧w'.ownsRow w.heap.size 55 4 v (all (bs s)).1.length (flat (all (bs s)).1)∧Below w.heap.size w w':=by
 have hs':=hs;unfold maxLen at hs';have HT:=Hd hT;clear hT
 by_cases h1:65536<s.size
 · have h1':(65536:Int)<(s.size:Int):=by omega
   have HA:=Hd (show all (bs s)=([],0,4) from iP (by rw [bs_length];exact h1));clear h1;go_enter Tryz.func14,Tryz.ntmps14
   go_wp2
   go_ret3
   rw [HA.out];exact ⟨_,rfl,⟨rfl,.inl ⟨rfl,rfl⟩⟩,Br _ _⟩
 · have h1':¬(65536:Int)<(s.size:Int):=by omega
   have HA:=Hd (show all (bs s)=allFrom (bs s) 0 [] from iN (by rw [bs_length];exact h1));have h65:s.size≤65536:=by omega
   clear h1;obtain ⟨i0,hi,hz0,hz1,hz2⟩:=info_parts Tryz.info24;go_enter Tryz.func14,Tryz.ntmps14;go_wp2_with fail
   go_loopw [5,6] (fun sv si wr=>∃ (p:Nat) (acc:List Tok),p≤s.size∧si=.int .i64 p∧wr.ownsRow w.heap.size 55 4 sv acc.length (flat acc)∧acc.length≤p∧allFrom (bs s) 0 []=allFrom (bs s) p acc∧Below w.heap.size w wr) (fun _ i _=>s.size - (intOf i).toNat)
   case atStart=>exact ⟨0,[],zl _,rfl,⟨rfl,.inl ⟨rfl,rfl⟩⟩,zl _,rfl,Br _ _⟩
   case round=>
    obtain ⟨p,acc,hp,rfl,how,hle,hall,hbel⟩:=hrel;have HO:=Hd how;have HL:=Hd hall;have HB:=Hd hbel;have hsz:=hbel.size;have hT':=HT.out.below hbel;have HN:=Hd (next_any s p wr hs hT');clear how hall hbel hT';rw [nextAt_in (by rw [bs_length];exact hp)] at HN;have hok:=next_ok (l:=bs s) (p:=p) (by rw [bs_length];exact hp);have hend:=allFrom_end (l:=bs s) (p:=p) (acc:=acc);have herr:=allFrom_err (l:=bs s) (p:=p) (acc:=acc);have hmore:=allFrom_more (l:=bs s) (p:=p) (acc:=acc) (by rw [bs_length];exact hp);rw [bs_length] at hok;have HOK:=Hd hok;have HEND:=Hd hend;have HERR:=Hd herr;have HMORE:=Hd hmore;clear hok hend herr hmore
    generalize next (bs s) p=x at *
    obtain ⟨⟨tk,tn,tt,ta⟩,q,e⟩:=x;unfold nextV Tok.val Tok.cells at HN
    dsimp only at HN HOK HEND HERR HMORE
    by_cases he:e=0
    · subst he;have hok:=HOK.out rfl
      by_cases hk:tk=5
      · have HE:=Hd (HEND.out rfl hk);subst hk;clear hok;go_wp2_with fail;refine (HN.out).mono ?_;rintro e w2 ⟨rfl,hb2⟩;have HB2:=Hd hb2;clear hb2
        go_wp2
        go_ret3
        rw [HA.out,HL.out,HE.out];exact ⟨_,rfl,ownsRow_below HO.out (HB2.out.alloc HB2.out.size _),HB.out.trans ((HB2.out.alloc HB2.out.size _).mono hsz)⟩
      · have HE:=Hd (HMORE.out rfl hk);have hk':(tk == 5)=false:=by simpa using hk
        have hq1:p<q∧q≤s.size:=by
         rcases hok with ⟨h,_⟩ | ⟨_,h1,h2⟩
         · exact absurd h hk
         · exact ⟨h1,h2⟩
        obtain ⟨hq1,hq2⟩:=hq1;clear hok hk;go_wp2_with fail;refine (HN.out).mono ?_;rintro e w2 ⟨rfl,hb2⟩;have HB2:=Hd hb2;have hsz2:=hb2.size;have hB3:=Hd (hb2.alloc hb2.size (.cells #[.int .i64 tk,.int .i64 tn,.string ⟨tt.toArray⟩,.int .i64 ta] 55));have HO2:=Hd (ownsRow_below HO.out hB3.out);have hlt:=(ownsRow_below HO.out hb2).lt;have HLT:=Hd hlt;clear hb2 hlt
        go_wp2_with (at_builtin;refine wpList_append_own _ rfl _ _ 46 rfl w.heap.size 55 i0 _ 4 40 Tryz.underlying46 hi hz0 hz1 hz2 rfl (by decide) _ _ _ rfl (HO2.out.alloc _) ⟨w2.heap.size+1,0,none⟩ 1 1 (tokL ⟨tk,tn,tt,ta⟩) rfl rfl ?c1 ?c2 ?c3 ?c4 ?c5 ?_)
        case c1=>exact World.news_of_block (cs:=#[.int .i64 tk,.int .i64 tn,.string ⟨tt.toArray⟩,.int .i64 ta]) (t:=55) (fr:=(0,0)) (by have:=hA_ (w2.alloc (.cells #[.int .i64 tk,.int .i64 tn,.string ⟨tt.toArray⟩,.int .i64 ta] 55)) (.cells #[.int .i64 tk,.int .i64 tn,.string ⟨tt.toArray⟩,.int .i64 ta] 55);simpa using this)
        case c2=>
         intro q hq;simp [tokL] at hq
         rcases hq with rfl | rfl | rfl | rfl <;> rfl
        case c3=>unfold maxLen;omega
        case c4=>omega
        case c5=>simp;omega
        intro v' w3 hown3 hgrow3 _;have hgr:=Hd hgrow3;have HO3:=Hd hown3;clear hown3 hgrow3
        go_wp2
        go_roundw
        case rel=>
         refine ⟨q,acc++[⟨tk,tn,tt,ta⟩],hq2,rfl,?_,?_,?_,?_⟩
         · rw [flat_snoc,List.length_append];exact HO3.out
         · rw [List.length_append];simp;omega
         · rw [HL.out,HE.out]
         · refine ((HB.out.trans (hB3.out.mono hsz)).alloc (by simp;omega) _).grown hgr.out (by simp;omega) (fun q hq=>?_);exact (HO2.out.lt q hq).1
        case measure=>simp [intOf];omega
    · have he':(e == 0)=false:=by simpa using he
      have HE:=Hd (HERR.out he);clear he;go_wp2_with fail;refine (HN.out).mono ?_;rintro e w2 ⟨rfl,hb2⟩;have HB2:=Hd hb2;clear hb2
      go_wp2
      go_ret3
      rw [HA.out,HL.out,HE.out];exact ⟨_,rfl,⟨rfl,.inl ⟨rfl,rfl⟩⟩,HB.out.trans ((HB2.out.alloc HB2.out.size _).mono hsz)⟩
theorem tokIn_of_own {w:World} {B:Nat} {v:Value} {l:List Tok} (hB:0<l.length∨True) (h:w.ownsRow B 55 4 v l.length (flat l)) (hok:∀ t∈l,TokOk t) (hs:txts l≤65536):∃ A c,v=.slice A l.length c∧TokIn w A c l:=by
 have hlen:=txts_len hok;have htx:∀ t∈l,t.text.length≤100000:=fun t ht=>by have:=txts_mem ht;omega
 have hrg:∀ t∈l,-1000000≤t.n∧t.n≤1000000:=fun t ht=>by have h1:=(hok t ht).n0;have h2:=(hok t ht).n1;omega
 rcases h.2 with ⟨h1,h2⟩ | ⟨g,cap,cur,hv,hb,hg,hnc,hcm,hcs,htk⟩
 · exact ⟨none,0,by rw [h1,h2],⟨.inl (List.length_eq_zero_iff.1 h2),by omega,by unfold maxLen;omega,by omega,htx,hrg,fun a ha=>by cases ha⟩⟩
 · refine ⟨some ⟨g,0,none⟩,cap,hv,⟨.inr ⟨g,0,rfl,lH hg,fun k z hz j hj=>?_⟩,hnc,hcm,by omega,htx,hrg,fun a ha=>by cases ha;exact lH hg⟩⟩;have hc:=h.cells (g:=g) (by rw [hv];rfl) (k*4+j) (tokV z j) (flat_get hz hj);rw [addr_add] at hc;rw [Nat.zero_add] at hc ⊢;exact hc
set_option linter.unusedSimpArgs false
theorem tLFsI {o:Array Oper} {i:Nat} {x:Oper} (h:o.toList[i]?=some x):o[i]?=some x:=by simpa using h
def FkQ (w:World) (r:Fm×Nat×Int) (e:Ending) (w':World):Prop:=∃ x:FV,e=.returned (.tuple #[x.val,.int .i64 (r.2.1:Nat),.int .i64 r.2.2])∧x.Is (fun q=>w.heap.size≤q) w' r.1∧Below w.heap.size w w'
def fkOf (i:Nat) (r:Rs Fm):Fm×Nat×Int:=match r with
 | .bad j e=>(zeroFm,j,e)
 | .ok f j=>if f.check=0 then (f,j,0) else (zeroFm,i,f.check)
theorem ftake_results (tm:Array Value) (b2:Nat) (z1 z2:Value) (u0 u1 u2 u3 u4 u5:Value) (w:World) (h2:tm[4]?=some (.pointer (some ⟨b2,0,none⟩))) (h3:tm[5]?=some z1) (h4:tm[6]?=some z2) (h:w.heap[b2]?=some (.cells #[u0,u1,u2,u3,u4,u5] 67 (0,0))) :
 (results Tryz.f82 tm).run Tryz.prog w=.ok (.tuple #[.agg #[u0,u1,u2,u3,u4,u5],z1,z2]) w:=by
 obtain ⟨y0,y1,y2,y3,y4,y5,-⟩:=q6 h;unfold results;rw [Tryz.results82];simp only [Array.getD_eq_getD_getElem?];simp [h2,h3,h4,go_sem,y0,y1,y2,y3,y4,y5]
theorem ftake_any (l:List Tok) (A:Option Addr) (c i:Nat) (w:World) (hi:i≤l.length) (hT:TokIn w A c l) :
 Calls Tryz.prog 82 #[.slice A l.length c,.int .i64 (i:Nat)] w (FkQ w (takeF l i)):=by
 have hlen:=hT.len;have hcap:=hT.cap;have hcapm:=hT.capm;unfold maxLen at hcapm;obtain ⟨n,hn⟩:=ex_ l.length;obtain ⟨F,hF⟩:=ex_ (FkQ w (takeF l i));rw [←hF];obtain ⟨b4,hb4⟩:=ex_ w.heap.size;obtain ⟨R,hR⟩:=ex_ (w.heap.size+1);obtain ⟨w2,hw2⟩:=ex_ ((w.alloc (.cells #[.int .i64 0,.int .i64 0,.int .i64 0,.string ⟨#[]⟩,.slice none 0 0,.slice none 0 0] 67)).alloc (.cells #[.slice A n c,.int .i64 (i:Nat),.int .i64 0,.int .i64 0] 192));have hb2:Below w.heap.size w w2:=by rw [hw2];exact ((Br _ _).alloc (lr _) _).alloc (by simp) _
 have hx2:w2.heap[b4]?=some (.cells #[.int .i64 0,.int .i64 0,.int .i64 0,.string ⟨#[]⟩,.slice none 0 0,.slice none 0 0] 67 (0,0)):=by rw [hw2,hb4];exact aK (hA_ w _)
 have hrd:FRd w2 R A l.length c i 0 0:=by
  have h:=hA_ (w.alloc (.cells #[.int .i64 0,.int .i64 0,.int .i64 0,.string ⟨#[]⟩,.slice none 0 0,.slice none 0 0] 67)) (.cells #[.slice A n c,.int .i64 (i:Nat),.int .i64 0,.int .i64 0] 192);rw [hw2,hR,←hn];unfold FRd
  simpa using h
 have hcall:=(flevels R A c l 256 0 rfl).form i w2 hi hrd (hT.pt hb2 (by omega));obtain ⟨r,hr⟩:=ex_ ((flvl l 256).form i);rw [←hr] at hcall;have HRE:Hid (F=FkQ w (fkOf i r)):=by show _=_;rw [hF,hr];rfl
 have HGD:Hid (∀ t j,r=.ok t j→FGd l i t j):=fun t j h=>(flvl_gd l 256).form i t j (by rw [←hr];exact h);have HNZ:Hid (∀ j x,r=.bad j x→x≠0):=fun j x h=>(flvl_nz l 256).form i j x (by rw [←hr];exact h);have HC:=Hd hcall;have HW2:=Hd hw2;have HBQ:=Hd hb4;have HRQ:=Hd hR;have HB:=Hd hb2;have X4:=Hd hx2;have HN:=Hd hn;have hs2:w2.heap.size=R+1:=by rw [hw2,hR];simp
 rw [←hn] at hi hlen hcap ⊢;have hi0:¬(i:Int)<0:=by omega
 have hi1:¬(n:Int)<(i:Int):=by omega
 have h4R:b4≠R:=by omega
 have hbw:w.heap.size≤b4:=by omega
 have hbR:w.heap.size≤R:=by omega
 clear hF hb4 hR hw2 hb2 hx2 hrd hcall hr hn hT;go_enter Tryz.func82,Tryz.ntmps82;go_wp2_with fail;rw [←HW2.out,←HRQ.out,←HBQ.out];refine (HC.out).mono ?_;rintro e w3 ⟨x,rfl,hx,hR3,ho3⟩;unfold FV.val;have hl4:b4<w2.heap.size:=lH X4.out;have x43:=(ho3.block b4 hl4 h4R).trans X4.out;have hB3:Below w.heap.size w w3:=(Ob (F:=fun q=>w.heap.size≤q) HB.out).trans (ho3.mono (fun q h=>by show w.heap.size≤q;omega)) |>.below (fun q h=>h) (lr _);obtain ⟨j,hj⟩:=ex_ r.at_;obtain ⟨y,hy⟩:=ex_ r.err;rw [←hj,←hy] at hR3;obtain ⟨w4,hw4⟩:=ex_ (((((((w3.setCell ⟨b4,0,none⟩ (.int .i64 x.o)).setCell ⟨b4,1,none⟩ (.int .i64 x.tn)).setCell ⟨b4,2,none⟩ (.int .i64 x.tm)).setCell ⟨b4,3,none⟩ (.string x.s)).setCell ⟨b4,4,none⟩ (.slice x.Ae x.ne x.ce)).setCell ⟨b4,5,none⟩ (.slice x.A x.n x.c)));have X44:Hid (w4.heap[b4]?=some (.cells #[.int .i64 x.o,.int .i64 x.tn,.int .i64 x.tm,.string x.s,.slice x.Ae x.ne x.ce,.slice x.A x.n x.c] 67 (0,0))):=by show _=_;rw [hw4];exact s6_at x43
 have HRD:Hid (FRd w4 R A l.length c j 0 y):=by show FRd _ _ _ _ _ _ _ _;rw [hw4];exact (s6_far (Ne.symm h4R)).trans hR3
 have HB4:Hid (Below w.heap.size w w4):=by
  show Below _ _ _;rw [hw4];exact (((((((Ob (F:=fun q=>w.heap.size≤q) hB3).setF hbw _).setF hbw _).setF hbw _).setF hbw _).setF hbw _).setF hbw _).below (fun q h=>h) (lr _)
 have HX4:Hid (∀ t k,r=.ok t k→x.Is (fun q=>w2.heap.size≤q) w4 t):=fun t k h=>by rw [hw4];exact (hx t k h).keep (s6_keep Kr (by omega)) (fun _ _ h=>h)
 have Y43:=Hd x43;have HRD3:=Hd hR3;have Qw4:=Hd hw4;have hl3:=lH x43
 have HRB:Hid (y≠0→r=.bad j y):=by
  intro h
  cases hc:r with
  | bad a b=>rw [hc] at hj hy;rw [hj,hy];rfl
  | ok f k=>rw [hc] at hy;exact absurd hy h
 have HRO:Hid (y=0→∃ f,r=.ok f j):=by
  intro h
  cases hc:r with
  | bad a b=>rw [hc] at hy;exact absurd (show b=0 from hy.symm.trans h) (HNZ.out a b hc)
  | ok f k=>rw [hc] at hj;exact ⟨f,by rw [hj];rfl⟩
 clear hx hR3 ho3 x43 hB3 hw4 hj hy HC X4 HB
 by_cases hy0:y=0
 · obtain ⟨f,hf⟩:=HRO.out hy0;subst hy0;have hgd:=HGD.out f j hf;have hxf:=HX4.out f j hf;have HRE2:Hid (F=FkQ w (if f.check=0 then (f,j,0) else (zeroFm,i,f.check))):=by show _=_;rw [HRE.out,hf];rfl
   have HXF:=Hd hxf;have hws:f.wsize≤9000000:=by have h1:=hgd.sz;have h2:=hgd.jl;have h3:=HN.out;omega
   have hck:=fcheck_any f x.Ae x.ce x.A x.c w4 hxf.v.toV hws;have hval:=hxf.val;unfold FV.val at hval;rw [←hval] at hck;have HCK:=Hd hck;clear hgd hxf hws hck hval hf HGD HNZ HRB HRO HX4;obtain ⟨v0,v1,v2,v3,v4,v5,vzq⟩:=q6 Y43.out;obtain ⟨-,-,-,e3,-⟩:=q4 HRD3.out;have hrl3:=HRD3.out.lt;go_wp2_with fail;clear e3;rw [←Qw4.out];clear v0 vzq v1 v2 v3 v4 v5;obtain ⟨-,-,-,e3,-⟩:=q4 HRD.out;have hrl4:=HRD.out.lt;obtain ⟨v0,v1,v2,v3,v4,v5,vzq⟩:=q6 X44.out;have hl44:=lH X44.out;(try go_wp2_with fail);refine (HCK.out).mono ?_;rintro e w5 ⟨rfl,hb5⟩;clear e3 v0 vzq v1 v2 v3 v4 v5;have X45:=kX hb5 X44;have HRD5:=Hd (HRD.out.below hb5 HRD.out.lt);have HB5:=kB HB4 hb5;have HXF5:Hid (x.Is (fun q=>w2.heap.size≤q) w5 f):=HXF.out.keep (Kb hb5) (fun _ _ h=>h);clear hb5 HCK X44 HRD HB4 HXF
   by_cases hz:f.check=0
   · rw [hz];have HRE3:Hid (F=FkQ w (f,j,0)):=by show _=_;rw [HRE2.out,iP hz]
     clear hz;go_wp2_with fail;refine wp_region_held_drew (S:=fun w'=>FRd w' R A l.length c j 0 0∧w'.heap[b4]?=some (.cells #[.int .i64 x.o,.int .i64 x.tn,.int .i64 x.tm,.string x.s,.slice x.Ae x.ne x.ce,.slice x.A x.n x.c] 67 (0,0))) (by kernel_rfl) ⟨HRD5.out,X45.out⟩ (fun hHeld=>?_);obtain ⟨wd,hwd⟩:=ex_ w5.drew;have YD:Hid (wd.heap[b4]?=some (.cells #[.int .i64 x.o,.int .i64 x.tn,.int .i64 x.tm,.string x.s,.slice x.Ae x.ne x.ce,.slice x.A x.n x.c] 67 (0,0))):=by show _=_;rw [hwd];exact X45.out
     have HBD:Hid (Below w.heap.size w wd):=by show Below _ _ _;rw [hwd];exact HB5.out.drew
     have HXD:Hid (x.Is (fun q=>w2.heap.size≤q) wd f):=by show FV.Is _ _ _ _;rw [hwd];exact HXF5.out.keep ⟨lr _,fun _ _ _=>rfl⟩ (fun _ _ h=>h)
     rw [←hwd] at hHeld ⊢;clear hwd;refine tkH 0 (v:=?_) (tLFsI rfl) (Or.inl ⟨by rfl,?hy⟩) (by assumption) ?_
     case hy=>
      intro w0 hSw;obtain ⟨-,h1,-⟩:=q4 hSw.1;obtain ⟨k0,k1,k2,k3,k4,k5,-⟩:=q6 hSw.2;clear hSw;go_simp
      (first | done | with_reducible rfl)
     (try simp only [Act.put,sAr,sZe,sSu]);refine tkH 1 (v:=?_) (tLFsI rfl) (Or.inl ⟨by rfl,?hy⟩) (by assumption) ?_
     case hy=>
      intro w0 hSw;obtain ⟨-,h1,-⟩:=q4 hSw.1;obtain ⟨k0,k1,k2,k3,k4,k5,-⟩:=q6 hSw.2;clear hSw;go_simp
      (first | done | with_reducible rfl)
     (try simp only [Act.put,sAr,sZe,sSu]);refine tkH 2 (v:=?_) (tLFsI rfl) (Or.inl ⟨by rfl,?hy⟩) (by assumption) ?_
     case hy=>
      intro w0 hSw;obtain ⟨-,h1,-⟩:=q4 hSw.1;obtain ⟨k0,k1,k2,k3,k4,k5,-⟩:=q6 hSw.2;clear hSw;go_simp
      (first | done | with_reducible rfl)
     (try simp only [Act.put,sAr,sZe,sSu]);refine tkH 3 (v:=?_) (tLFsI rfl) (Or.inl ⟨by rfl,?hy⟩) (by assumption) ?_
     case hy=>
      intro w0 hSw;obtain ⟨-,h1,-⟩:=q4 hSw.1;obtain ⟨k0,k1,k2,k3,k4,k5,-⟩:=q6 hSw.2;clear hSw;go_simp
      (first | done | with_reducible rfl)
     (try simp only [Act.put,sAr,sZe,sSu]);refine tkH 4 (v:=?_) (tLFsI rfl) (Or.inl ⟨by rfl,?hy⟩) (by assumption) ?_
     case hy=>
      intro w0 hSw;obtain ⟨-,h1,-⟩:=q4 hSw.1;obtain ⟨k0,k1,k2,k3,k4,k5,-⟩:=q6 hSw.2;clear hSw;go_simp
      (first | done | with_reducible rfl)
     (try simp only [Act.put,sAr,sZe,sSu]);refine Rd (rs:=[5]) (by kernel_rfl) (by simp) ?_;refine Rc (tLFsI rfl) (fun K hK=>?_) Rn;obtain ⟨v0,v1,v2,v3,v4,v5,vzq⟩:=q6 YD.out;go_simp;clear v0 vzq v1 v2 v3 v4 v5;refine hK.out _ _ (⟨(s6_far (Ne.symm h4R)).trans hHeld.1,s6_at hHeld.2⟩) (fun hHeld=>?_);clear hK K;(try simp only [Act.put,sAr,sZe,sSu]);refine tkH 6 (v:=?_) (tLFsI rfl) (Or.inl ⟨by rfl,?hy⟩) (by assumption) ?_
     case hy=>
      intro w0 hSw;obtain ⟨-,h1,-⟩:=q4 hSw.1;obtain ⟨k0,k1,k2,k3,k4,k5,-⟩:=q6 hSw.2;clear hSw;go_simp
      (first | done | with_reducible rfl)
     (try simp only [Act.put,sAr,sZe,sSu]);refine tkH 7 (v:=?_) (tLFsI rfl) (Or.inl ⟨by rfl,?hy⟩) (by assumption) ?_
     case hy=>
      intro w0 hSw;obtain ⟨-,h1,-⟩:=q4 hSw.1;obtain ⟨k0,k1,k2,k3,k4,k5,-⟩:=q6 hSw.2;clear hSw;go_simp
      (first | done | with_reducible rfl)
     (try simp only [Act.put,sAr,sZe,sSu]);refine wpAnyH_done (by kernel_rfl) ?_ _;clear hHeld;go_wp2_with fail;obtain ⟨WW,hWW⟩:=ex_ (((((((wd.setCell ⟨b4,0,none⟩ (.int .i64 x.o)).setCell ⟨b4,1,none⟩ (.int .i64 x.tn)).setCell ⟨b4,2,none⟩ (.int .i64 x.tm)).setCell ⟨b4,3,none⟩ (.string x.s)).setCell ⟨b4,4,none⟩ (.slice x.Ae x.ne x.ce)).setCell ⟨b4,5,none⟩ (.slice x.A x.n x.c)));have hrow:WW.heap[b4]?=some (.cells #[.int .i64 x.o,.int .i64 x.tn,.int .i64 x.tm,.string x.s,.slice x.Ae x.ne x.ce,.slice x.A x.n x.c] 67 (0,0)):=by rw [hWW];exact s6_at YD.out
     have HBF:Hid (Below w.heap.size w WW):=by
      show Below _ _ _;rw [hWW];have hb:w.heap.size≤b4:=by rw [HBQ.out];exact lr _
      exact (((((((Ob (F:=fun q=>w.heap.size≤q) HBD.out).setF hb _).setF hb _).setF hb _).setF hb _).setF hb _).setF hb _).below (fun q h=>h) (lr _)
     have HVF:Hid (x.Is (fun q=>w.heap.size≤q) WW f):=by
      show FV.Is _ _ _ _;rw [hWW];exact HXD.out.keep (s6_keep Kr (by have:=HBQ.out;omega)) (fun q _ h=>by omega)
     rw [←hWW];clear hWW;refine bR (ftake_results _ b4 _ _ _ _ _ _ _ _ _ rfl rfl rfl hrow) rfl ?_;rw [HRE3.out];exact ⟨x,rfl,HVF.out,HBF.out⟩
   · have hzb:(f.check != 0)=true:=by simpa using hz
     have HRE3:Hid (F=FkQ w (zeroFm,i,f.check)):=by show _=_;rw [HRE2.out,iN hz]
     obtain ⟨ck,hck⟩:=ex_ f.check;rw [←hck] at hzb HRE3 ⊢;clear hz hck;obtain ⟨v0,v1,v2,v3,v4,v5,vzq⟩:=q6 X45.out;have hl45:=lH X45.out;go_wp2_with fail;clear v0 vzq v1 v2 v3 v4 v5;obtain ⟨WW,hWW⟩:=ex_ (((((((w5.setCell ⟨b4,0,none⟩ (.int .i64 0)).setCell ⟨b4,1,none⟩ (.int .i64 0)).setCell ⟨b4,2,none⟩ (.int .i64 0)).setCell ⟨b4,3,none⟩ (.string ⟨#[]⟩)).setCell ⟨b4,4,none⟩ (.slice none 0 0)).setCell ⟨b4,5,none⟩ (.slice none 0 0)));have hrow:WW.heap[b4]?=some (.cells #[.int .i64 0,.int .i64 0,.int .i64 0,.string ⟨#[]⟩,.slice none 0 0,.slice none 0 0] 67 (0,0)):=by rw [hWW];exact s6_at X45.out
     have HBF:Hid (Below w.heap.size w WW):=by
      show Below _ _ _;rw [hWW];have hb:w.heap.size≤b4:=by rw [HBQ.out];exact lr _
      exact (((((((Ob (F:=fun q=>w.heap.size≤q) HB5.out).setF hb _).setF hb _).setF hb _).setF hb _).setF hb _).setF hb _).below (fun q h=>h) (lr _)
     rw [←hWW];clear hWW;refine bR (ftake_results _ b4 _ _ _ _ _ _ _ _ _ rfl rfl rfl hrow) rfl ?_;rw [HRE3.out];exact ⟨FV.zero,rfl,FV.zero_is,HBF.out⟩
 · have hyb:(y != 0)=true:=by simpa using hy0
   have HRE2:Hid (F=FkQ w (zeroFm,j,y)):=by show _=_;rw [HRE.out,HRB.out hy0];rfl
   clear hy0;obtain ⟨v0,v1,v2,v3,v4,v5,vzq⟩:=q6 Y43.out;obtain ⟨-,-,-,e3,-⟩:=q4 HRD3.out;have hrl3:=HRD3.out.lt;go_wp2_with fail;clear e3;rw [←Qw4.out];clear v0 vzq v1 v2 v3 v4 v5;obtain ⟨-,-,-,e3,-⟩:=q4 HRD.out;have hrl4:=HRD.out.lt;(try go_wp2_with fail);clear e3;refine wp_region_held_drew (S:=fun w'=>FRd w' R A l.length c j 0 y) (by kernel_rfl) HRD.out (fun hHeld=>?_);obtain ⟨wd,hwd⟩:=ex_ w4.drew;have YD:Hid (wd.heap[b4]?=some (.cells #[.int .i64 x.o,.int .i64 x.tn,.int .i64 x.tm,.string x.s,.slice x.Ae x.ne x.ce,.slice x.A x.n x.c] 67 (0,0))):=by show _=_;rw [hwd];exact X44.out
   have HBD:Hid (Below w.heap.size w wd):=by show Below _ _ _;rw [hwd];exact HB4.out.drew
   rw [←hwd] at hHeld ⊢;clear hwd;refine tkH 0 (v:=?_) (tLFsI rfl) (Or.inl ⟨by rfl,?hy⟩) (by assumption) ?_
   case hy=>
    intro w0 hSw;obtain ⟨-,h1,-,h3,-⟩:=q4 hSw;clear hSw;go_simp
    (first | done | with_reducible rfl)
   (try simp only [Act.put,sAr,sZe,sSu]);refine tkH 1 (v:=?_) (tLFsI rfl) (Or.inl ⟨by rfl,?hy⟩) (by assumption) ?_
   case hy=>
    intro w0 hSw;obtain ⟨-,h1,-,h3,-⟩:=q4 hSw;clear hSw;go_simp
    (first | done | with_reducible rfl)
   (try simp only [Act.put,sAr,sZe,sSu]);refine tkH 2 (v:=?_) (tLFsI rfl) (Or.inl ⟨by rfl,?hy⟩) (by assumption) ?_
   case hy=>
    intro w0 hSw;obtain ⟨-,h1,-,h3,-⟩:=q4 hSw;clear hSw;go_simp
    (first | done | with_reducible rfl)
   (try simp only [Act.put,sAr,sZe,sSu]);refine tkH 3 (v:=?_) (tLFsI rfl) (Or.inl ⟨by rfl,?hy⟩) (by assumption) ?_
   case hy=>
    intro w0 hSw;obtain ⟨-,h1,-,h3,-⟩:=q4 hSw;clear hSw;go_simp
    (first | done | with_reducible rfl)
   (try simp only [Act.put,sAr,sZe,sSu]);refine tkH 4 (v:=?_) (tLFsI rfl) (Or.inl ⟨by rfl,?hy⟩) (by assumption) ?_
   case hy=>
    intro w0 hSw;obtain ⟨-,h1,-,h3,-⟩:=q4 hSw;clear hSw;go_simp
    (first | done | with_reducible rfl)
   (try simp only [Act.put,sAr,sZe,sSu]);refine tkH 5 (v:=?_) (tLFsI rfl) (Or.inl ⟨by rfl,?hy⟩) (by assumption) ?_
   case hy=>
    intro w0 hSw;obtain ⟨-,h1,-,h3,-⟩:=q4 hSw;clear hSw;go_simp
    (first | done | with_reducible rfl)
   (try simp only [Act.put,sAr,sZe,sSu]);refine tkH 6 (v:=?_) (tLFsI rfl) (Or.inl ⟨by rfl,?hy⟩) (by assumption) ?_
   case hy=>
    intro w0 hSw;obtain ⟨-,h1,-,h3,-⟩:=q4 hSw;clear hSw;go_simp
    (first | done | with_reducible rfl)
   (try simp only [Act.put,sAr,sZe,sSu]);refine tkH 7 (v:=?_) (tLFsI rfl) (Or.inl ⟨by rfl,?hy⟩) (by assumption) ?_
   case hy=>
    intro w0 hSw;obtain ⟨-,h1,-,h3,-⟩:=q4 hSw;clear hSw;go_simp
    (first | done | with_reducible rfl)
   (try simp only [Act.put,sAr,sZe,sSu]);refine tkH 8 (v:=?_) (tLFsI rfl) (Or.inl ⟨by rfl,?hy⟩) (by assumption) ?_
   case hy=>
    intro w0 hSw;obtain ⟨-,h1,-,h3,-⟩:=q4 hSw;clear hSw;go_simp
    (first | done | with_reducible rfl)
   (try simp only [Act.put,sAr,sZe,sSu]);refine Rd (rs:=[9]) (by kernel_rfl) (by simp) ?_;refine Rc (tLFsI rfl) (fun K hK=>?_) Rn;obtain ⟨v0,v1,v2,v3,v4,v5,vzq⟩:=q6 YD.out;go_simp;clear v0 vzq v1 v2 v3 v4 v5;refine hK.out _ _ ((s6_far (Ne.symm h4R)).trans hHeld) (fun hHeld=>?_);clear hK K;(try simp only [Act.put,sAr,sZe,sSu]);refine tkH 10 (v:=?_) (tLFsI rfl) (Or.inl ⟨by rfl,?hy⟩) (by assumption) ?_
   case hy=>
    intro w0 hSw;obtain ⟨-,h1,-,h3,-⟩:=q4 hSw;clear hSw;go_simp
    (first | done | with_reducible rfl)
   (try simp only [Act.put,sAr,sZe,sSu]);refine tkH 11 (v:=?_) (tLFsI rfl) (Or.inl ⟨by rfl,?hy⟩) (by assumption) ?_
   case hy=>
    intro w0 hSw;obtain ⟨-,h1,-,h3,-⟩:=q4 hSw;clear hSw;go_simp
    (first | done | with_reducible rfl)
   (try simp only [Act.put,sAr,sZe,sSu]);refine wpAnyH_done (by kernel_rfl) ?_ _;clear hHeld;go_wp2_with fail;obtain ⟨WW,hWW⟩:=ex_ (((((((wd.setCell ⟨b4,0,none⟩ (.int .i64 0)).setCell ⟨b4,1,none⟩ (.int .i64 0)).setCell ⟨b4,2,none⟩ (.int .i64 0)).setCell ⟨b4,3,none⟩ (.string ⟨#[]⟩)).setCell ⟨b4,4,none⟩ (.slice none 0 0)).setCell ⟨b4,5,none⟩ (.slice none 0 0)));have hrow:WW.heap[b4]?=some (.cells #[.int .i64 0,.int .i64 0,.int .i64 0,.string ⟨#[]⟩,.slice none 0 0,.slice none 0 0] 67 (0,0)):=by rw [hWW];exact s6_at YD.out
   have HBF:Hid (Below w.heap.size w WW):=by
    show Below _ _ _;rw [hWW];have hb:w.heap.size≤b4:=by rw [HBQ.out];exact lr _
    exact (((((((Ob (F:=fun q=>w.heap.size≤q) HBD.out).setF hb _).setF hb _).setF hb _).setF hb _).setF hb _).setF hb _).below (fun q h=>h) (lr _)
   rw [←hWW];clear hWW;refine bR (ftake_results _ b4 _ _ _ _ _ _ _ _ _ rfl rfl rfl hrow) rfl ?_;rw [HRE2.out];exact ⟨FV.zero,rfl,FV.zero_is,HBF.out⟩
end Go.Proofs.YtkhoeoilamddaaaGreatDoor
