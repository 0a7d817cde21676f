/- Walks and plain words: FrmC FrmD LexA PrsV FsI. -/
import Derived.Test.YtkhoeoilamddaaaGreatDoorYFsG
namespace Go.Proofs.YtkhoeoilamddaaaGreatDoor
open Go.RowKit
set_option linter.unusedVariables false
set_option maxRecDepth 100000
set_option maxHeartbeats 16000000
theorem abY(op:Int)(w:World) :
 Calls Tryz.prog 101 #[.int .i64 op] w fun e w'=>e=.returned (.int .i64 (bV op))∧w=w':=by
 obtain⟨r,HR⟩:=ak (bV op);rw[←HR];go_in
 go_wp2
 all_goals
  go_ret;rw[HR];refine⟨?_,rfl⟩
  simp_all[bV]
theorem abZ(t:Fm)(Ae:Option Addr)(ce:Nat)(A:Option Addr)(c:Nat)(w:World)(hV:pO w Ae ce A c t)(hsz:t.tm.size≤9000000) :
 Calls Tryz.prog 100 #[t.val Ae ce A c] w fun e w'=>e=.returned (.int .i64 (mF t))∧Below w.heap.size w w':=by
 obtain⟨n,hn⟩:=aj t.kids.length;obtain⟨ne,hne⟩:=aj t.tm.kids.length;obtain⟨wb,hwb⟩:=aj (w.alloc (.cells #[.int .i64 t.op,.int .i64 t.tm.op,.int .i64 t.tm.num,.string t.tm.name,.slice Ae ne ce,.slice A n c] 67));have hb1:=dz hwb;have hbx:iJ wb w.heap.size Ae ne ce A n c t:=by rw[hwb];exact eu w _
 have hsb:w.heap.size<wb.heap.size:=by rw[hwb];simp
 have hck:=DC t.tm Ae ce wb (hV.tm.below hb1 rfl) hsz;unfold Tm.val at hck;unfold Fm.val;rw[←hn];rw[←hne]at hck⊢;obtain⟨ck,Jg⟩:=aj t.tm.check;rw[←Jg]at hck;obtain⟨r,hr⟩:=aj (mF t);rw[←hr];unfold mF at hr;rw[←Jg]at hr;obtain⟨op,hop⟩:=aj t.op;have qH:=Hd hbx;have gy:=Hd hop;rw[←hop]at hr hwb⊢;have jy:=Hd hwb;rw[jy]at hck;have IC:=Hd hck;have HR:=Hd hr;have HB1:=Hd hb1;have HV:=Hd hV;have HN:=Hd hn;have vM:=Hd hne;clear hck Jg hr hwb hb1 hbx hV hn hne hop
 by_cases h1:op=1
 ·have HR2:Hid (r=if ck=0 then(if hasNext t.tm=true then 24 else 0)else ck):=by show _=_;rw[HR,iP h1]
  subst h1;go_in;go_wp2_with fail;refine IC.mono ?_;rintro e w1 ⟨rfl,hb2⟩;rw[←jy]at hb2;have hx1:=qH.below hb2 qH.lt;have HB2:=Hd (HB1.trans (hb2.mono (Nat.le_of_lt hsb)));have hs1:=hb2.size;have y1:=hx1.c1;have y2:=hx1.c2;have y3:=hx1.c3;have y4:=hx1.c4;clear hx1 hb2
  by_cases h0:ck=0
  ·have hnm:=abw t.tm Ae ce w1 (HV.tm.below HB2 rfl) hsz;unfold Tm.val at hnm;rw[←vM]at hnm;have xR:=Hd hnm;have HR3:Hid (r=if hasNext t.tm=true then 24 else 0):=by show _=_;rw[HR2,iP h0]
   subst h0;clear hnm;go_wp2_with fail;refine xR.mono ?_;rintro e w2 ⟨v1,A2,n2,c2,rfl,hz,hb3⟩;have HB3:=kB HB2 hb3;have HZ:=Hd hz;clear hz hb3 y1 y2 y3 y4
   by_cases h2:n2=0
   ·have bE:Hid (r=0):=by show _=_;rw[HR3,HZ.1 h2];rfl
    have h2':¬(0:Int)<(n2:Int):=by omega
    clear h2;go_wp2_with fail;go_ret;rw[bE];exact⟨rfl,HB3⟩
   ·have bE:Hid (r=24):=by
     show _=_;rw[HR3]
     cases hh:hasNext t.tm with
     |false=>exact absurd (HZ.2 hh) h2
     |true=>rfl
    have h2':(0:Int)<(n2:Int):=by omega
    clear h2;go_wp2_with fail;go_ret;rw[bE];exact⟨rfl,HB3⟩
  ·have bE:Hid (r=ck):=by show _=_;rw[HR2,iN h0]
   have h0':(ck != 0)=true:=by simpa using h0
   clear h0;go_wp2_with fail;go_ret;rw[bE];exact⟨rfl,HB2⟩
 ·have bE:Hid (r=0):=by show _=_;rw[HR,iN h1]
  have h1':(op != 1)=true:=by simpa using h1
  clear h1;go_in;go_wp2_with fail;go_ret;rw[bE,←jy];exact⟨rfl,HB1⟩
theorem ab0(t:Fm)(d n:Nat):nZ t d n=if 64<d then 17 else if bV t.op<0 then 11 else if mF t≠0 then mF t
 else if (t.kids.length:Int)≠bV t.op∨(t.op≠1∧yw t.tm=false)then 3 else if 4096<n+1 then 4 else 0:=rfl
theorem Ur(bw bn:Nat)(hne:bw≠bn)(x:Int×Nat)(t:Fm)(d:Nat)(Ae:Option Addr)(ce:Nat)(A:Option Addr)(c:Nat)(w:World)(w0:World)(B:Nat)(hB:B=w0.heap.size)(hB1:B≤bw)(hB2:B≤bn)(hbel:Below B w0 w)(hI:IJ bw bn x w)(hx0:x.1=0)(hV:pO w0 Ae ce A c t)(hd:d≤10000000)(hsz:t.tm.size≤9000000) :
 Calls Tryz.prog 99 #[t.val Ae ce A c,.int .i64 d,.pointer (some ⟨bn,0,none⟩),.pointer (some ⟨bw,0,none⟩)] w fun e w'=>e=.returned (.bool (dA x t d).2)∧(QE bw (dA x t d).1 w'∧((dA x t d).2=true→IJ bw bn (dA x t d).1 w'))∧Only (fun q=>q=bw∨q=bn) w w':=by
 obtain⟨hw1,hn1,hx2⟩:=hI;obtain⟨e0,k⟩:=x;simp only at hw1 hn1 hx2 hx0;subst hx0;obtain⟨n,hn⟩:=aj t.kids.length;obtain⟨ne,hne0⟩:=aj t.tm.kids.length;obtain⟨E,hE⟩:=aj (nZ t d k);have HST:Hid (dA (0,k) t d=((E,k+1),decide (E=0))):=by show _=_;rw[hE];rfl
 obtain⟨st,hst⟩:=aj (dA (0,k) t d);rw[←hst]at HST⊢;rw[HST];simp only;obtain⟨op,hop⟩:=aj t.op;obtain⟨K,hK⟩:=aj (bV op);obtain⟨W,hW⟩:=aj (mF t);obtain⟨bb,hbb⟩:=aj (yw t.tm);rw[ab0,←hop,←hK,←hW,←hn,←hbb]at hE;obtain⟨wb,hwb⟩:=aj ((w.setCell ⟨bn,0,none⟩ (.int .i64 ((k:Int)+1))).alloc (.cells #[.int .i64 op,.int .i64 t.tm.op,.int .i64 t.tm.num,.string t.tm.name,.slice Ae ne ce,.slice A n c] 67));have hlw:=hw1.lt;have hln:=hn1.lt;have cw:=hw1.cell;have cn:=hn1.cell;have fw:=hw1.frozen;have fn:=hn1.frozen;have hne':bn≠bw:=fun h=>hne h.symm;have hbw2:yu wb bw 29 0:=by rw[hwb];exact(hw1.setOther (p:=⟨bn,0,none⟩) hne _).below ((Br w.heap.size _).alloc (by simp) _) (by simpa using hlw)
 have ac4:yu wb bn 3 ((k:Int)+1):=by rw[hwb];exact(hn1.set _).below ((Br w.heap.size _).alloc (by simp) _) (by simpa using hln)
 have ho2:Only (fun q=>q=bw∨q=bn) w wb:=by rw[hwb];exact((Only.refl (F:=fun q=>q=bw∨q=bn)).bq (Or.inr rfl) _).jV ((Br w.heap.size _).alloc (by simp) _) (lr _)
 have ag3:Below B w0 wb:=by rw[hwb];exact(hbel.setCell (p:=⟨bn,0,none⟩) hB2 _).alloc (by simpa using(by have:=hbel.size;omega)) _
 have hx:iJ wb w.heap.size Ae ne ce A n c t:=by
  rw[hwb];have h:=eu (w.setCell ⟨bn,0,none⟩ (.int .i64 ((k:Int)+1))) (.cells #[.int .i64 op,.int .i64 t.tm.op,.int .i64 t.tm.num,.string t.tm.name,.slice Ae ne ce,.slice A n c] 67);rw[show(w.setCell ⟨bn,0,none⟩ (.int .i64 ((k:Int)+1))).heap.size=w.heap.size from by simp]at h;unfold iJ;rw[←hop];exact h
 have hlt:w.heap.size<wb.heap.size:=by rw[hwb];simp
 have WR:=abZ t Ae ce A c wb (hV.below ag3 hB) hsz;unfold Fm.val at WR⊢;rw[←hn,←hne0,←hop]at WR⊢;rw[←hW]at WR;have HKK:=Hd (fun W'=>abY op W');rw[←hK]at HKK;have hcap:=hV.cap;have aQ:=hV.bU;have ajv:=hV.tm.cap;have ahO:=hV.tm.bU;have hnm:=hV.tm.name;unfold maxLen at aQ ahO hnm;rw[←hn]at hcap;rw[←hne0]at ajv;have hkb:k≤4096:=hx2;have HE:=Hd hE;have Ot:=Hd hbb;have jy:=Hd hwb;have Tc:=Hd hbw2;have ac5:=Hd ac4;have Ah:=Hd ho2;have HX:=Hd hx;have al1:=Hd hne0;have gy:=Hd hop;rw[jy]at WR;have HTM:=Hd WR
 have hcl:(t.tm.op≠0∧(t.tm.op==0)=false∧bb=false)∨(t.tm.op=0∧t.tm.num≠0∧(t.tm.num==0)=false∧bb=false)∨(t.tm.op=0∧t.tm.num=0∧0<t.tm.name.size∧bb=false)∨(t.tm.op=0∧t.tm.num=0∧t.tm.name.size=0∧0<ne∧((ne:Int)==0)=false∧bb=false)∨(t.tm.op=0∧t.tm.num=0∧t.tm.name.size=0∧ne=0∧bb=true):=by
  unfold yw at hbb;rw[←hne0]at hbb
  by_cases a1:t.tm.op=0
  ·by_cases a2:t.tm.num=0
   ·by_cases a3:t.tm.name.size=0
    ·by_cases a4:ne=0
     ·exact .inr (.inr (.inr (.inr ⟨a1,a2,a3,a4,by rw[hbb];simp[a1,a2,a3,a4]⟩)))
     ·exact .inr (.inr (.inr (.inl ⟨a1,a2,a3,by omega,by simp;omega,by rw[hbb];simp[a4]⟩)))
    ·exact .inr (.inr (.inl ⟨a1,a2,by omega,by rw[hbb];simp[a3]⟩))
   ·exact .inr (.inl ⟨a1,a2,by simpa using a2,by rw[hbb];simp[a2]⟩)
  ·exact .inl ⟨a1,by simpa using a1,by rw[hbb];simp[a1]⟩
 clear hE hbb hwb hbw2 ac4 ho2 hx hne0 WR hK hW hV ag3 hbel hsz hop hn hst;obtain⟨eo,heo⟩:=aj t.tm.op;obtain⟨en,hen⟩:=aj t.tm.num;obtain⟨es,hes⟩:=aj t.tm.name;have HEO:=Hd heo;have HEN:=Hd hen;have HES:=Hd hes;rw[←heo,←hen,←hes]at hcl⊢;rw[←heo,←hen,←hes]at HTM jy;clear heo hen hes
 rcases hcl with⟨a1,a2,hbf⟩|⟨rfl,a2,a3,hbf⟩|⟨rfl,rfl,a3,hbf⟩|⟨rfl,rfl,a3,a4,a5,hbf⟩|⟨rfl,rfl,a3,rfl,hbf⟩
 all_goals
  (try have st1:=mY (by assumption:es.size=0))
  (try have st2:=rE (by assumption:0<es.size))
  have J4:=Hd hbf;clear hbf;go_in;go_wp2_with fail;refine HTM.mono ?_;rintro e w3 ⟨rfl,hb3⟩;rw[←jy]at hb3;clear cw cn fw fn;have wJ:=Tc.below hb3 Tc.lt;have LJ:=ac5.below hb3 ac5.lt;have Ai:=Hd (Ah.jV hb3 Ah.size);have hx3:=HX.below hb3 HX.lt;have cw:=wJ.cell;have cn:=LJ.cell;have fw:=wJ.frozen;have fn:=LJ.frozen;have lw:=wJ.lt;have ln:=LJ.lt;have lx:=hx3.lt;have x0:=hx3.c0;have x5:=hx3.c5;have u_:=Hd wJ;have afG:=Hd LJ;clear wJ LJ hb3 hx3;rw[←gy]at x0;go_wp2_with fail;refine(HKK _).mono ?_;rintro e w' ⟨rfl,hw⟩;rw[←hw];clear hw
  by_cases wI:64<d
  ·have SK:Hid (E=17):=by show _=_;rw[HE,iP wI]
   have hd':(64:Int)<(d:Int):=by omega
   clear wI;go_wp2_with fail;go_ret;rw[SK];exact⟨rfl,⟨u_.set _,fun h=>absurd h (by decide)⟩,Ai.bq (Or.inl rfl) _⟩
  ·have hd':¬(64:Int)<(d:Int):=by omega
   by_cases hK0:K<0
   ·have SK:Hid (E=11):=by show _=_;rw[HE,iN wI,iP hK0]
    clear wI;go_wp2_with fail;go_ret;rw[SK];exact⟨rfl,⟨u_.set _,fun h=>absurd h (by decide)⟩,Ai.bq (Or.inl rfl) _⟩
   ·by_cases hW0:W=0
    ·have hW1:(W != 0)=false:=by simpa using hW0
     have HW0:Hid (mF t=mF t∧(W≠0↔False)):=⟨rfl,by simp[hW0]⟩
     by_cases hlen:(n:Int)=K
     ·have hl1:((n:Int) != K)=false:=by simpa using hlen
      by_cases ho1:op=1
      ·have ho2:(op != 1)=false:=by simpa using ho1
       have HT:Hid (¬((n:Int)≠K∨(op≠1∧bb=false))):=by rintro(h|h);exact h hlen;exact h.1 ho1
       by_cases h4:4096<k+1
       ·have SK:Hid (E=4):=by show _=_;rw[HE,iN wI,iN hK0,iN (by simp[hW0]),iN HT.out,iP h4]
        have h4':(4096:Int)<(k:Int)+1:=by omega
        clear wI h4 hW0 hlen ho1;go_wp2_with fail;go_ret;rw[SK];exact⟨rfl,⟨u_.set _,fun h=>absurd h (by decide)⟩,Ai.bq (Or.inl rfl) _⟩
       ·have SK:Hid (E=0):=by show _=_;rw[HE,iN wI,iN hK0,iN (by simp[hW0]),iN HT.out,iN h4]
        have h4':¬(4096:Int)<(k:Int)+1:=by omega
        have hk4:k+1≤4096:=by omega
        clear wI h4 hW0 hlen ho1;go_wp2_with fail;go_ret;rw[SK];exact⟨rfl,⟨u_,fun _=>⟨u_,afG,hk4⟩⟩,Ai⟩
      ·have ho2:(op != 1)=true:=by simpa using ho1
       first
       |(have h9:bb=false:=J4
         have SK:Hid (E=3):=by show _=_;rw[HE,iN wI,iN hK0,iN (by simp[hW0]),iP (.inr ⟨ho1,h9⟩)]
         clear wI hW0 hlen ho1 h9;go_wp2_with fail;go_ret;rw[SK]
         exact⟨rfl,⟨u_.set _,fun h=>absurd h (by decide)⟩,Ai.bq (Or.inl rfl) _⟩)
       |(have h9:bb=true:=J4
         have HT:Hid (¬((n:Int)≠K∨(op≠1∧bb=false))):=by rintro(h|h);exact h hlen;rw[h9]at h;exact absurd h.2 (by decide)
         by_cases h4:4096<k+1
         ·have SK:Hid (E=4):=by show _=_;rw[HE,iN wI,iN hK0,iN (by simp[hW0]),iN HT.out,iP h4]
          have h4':(4096:Int)<(k:Int)+1:=by omega
          clear wI h4 hW0 hlen ho1 h9;go_wp2_with fail;go_ret;rw[SK];exact⟨rfl,⟨u_.set _,fun h=>absurd h (by decide)⟩,Ai.bq (Or.inl rfl) _⟩
         ·have SK:Hid (E=0):=by show _=_;rw[HE,iN wI,iN hK0,iN (by simp[hW0]),iN HT.out,iN h4]
          have h4':¬(4096:Int)<(k:Int)+1:=by omega
          have hk4:k+1≤4096:=by omega
          clear wI h4 hW0 hlen ho1 h9;go_wp2_with fail;go_ret;rw[SK]
          exact⟨rfl,⟨u_,fun _=>⟨u_,afG,hk4⟩⟩,Ai⟩)
       |fail
     ·have hl1:((n:Int) != K)=true:=by simpa using hlen
      have SK:Hid (E=3):=by show _=_;rw[HE,iN wI,iN hK0,iN (by simp[hW0]),iP (.inl hlen)]
      clear wI hW0 hlen;go_wp2_with fail;go_ret;rw[SK];exact⟨rfl,⟨u_.set _,fun h=>absurd h (by decide)⟩,Ai.bq (Or.inl rfl) _⟩
    ·have hW1:(W != 0)=true:=by simpa using hW0
     have hW2:(W==0)=false:=by simpa using hW0
     have SK:Hid (E=W∧W≠0):=by
      refine⟨?_,hW0⟩;rw[HE,iN wI,iN hK0,iP hW0]
     clear wI hW0;go_wp2_with fail;go_ret;rw[SK.1,dF SK.2];exact⟨rfl,⟨u_.set _,fun h=>absurd h (by decide)⟩,Ai.bq (Or.inl rfl) _⟩
theorem FN(t:Fm)(Ae:Option Addr)(ce:Nat)(A:Option Addr)(c:Nat)(w:World)(hV:pO w Ae ce A c t)(hsz:t.bT≤9000000) :
 Calls Tryz.prog 59 #[t.val Ae ce A c] w fun e w'=>e=.returned (.int .i64 t.check)∧Below w.heap.size w w':=by
 obtain⟨wb,hwb⟩:=aj (((w.alloc (.cells #[.int .i64 t.op,.int .i64 t.tm.op,.int .i64 t.tm.num,.string t.tm.name,.slice Ae t.tm.kids.length ce,.slice A t.kids.length c] 67)).alloc (.cells #[.int .i64 0] 29)).alloc (.cells #[.int .i64 0] 3));have hb1:Below w.heap.size w wb:=by rw[hwb];exact(((Br _ _).alloc (lr _) _).alloc (by simp) _).alloc (by simp;omega) _
 have hbw:yu wb (w.heap.size+1) 29 0:=by
  rw[hwb];have h:=yu.new (w.alloc (.cells #[.int .i64 t.op,.int .i64 t.tm.op,.int .i64 t.tm.num,.string t.tm.name,.slice Ae t.tm.kids.length ce,.slice A t.kids.length c] 67)) 29 0;rw[show(w.alloc (.cells #[.int .i64 t.op,.int .i64 t.tm.op,.int .i64 t.tm.num,.string t.tm.name,.slice Ae t.tm.kids.length ce,.slice A t.kids.length c] 67)).heap.size=w.heap.size+1 from by simp]at h;exact h.below ((Br (w.heap.size+2) _).alloc (by simp) _) (by omega)
 have hbn:yu wb (w.heap.size+2) 3 0:=by
  rw[hwb];have h:=yu.new ((w.alloc (.cells #[.int .i64 t.op,.int .i64 t.tm.op,.int .i64 t.tm.num,.string t.tm.name,.slice Ae t.tm.kids.length ce,.slice A t.kids.length c] 67)).alloc (.cells #[.int .i64 0] 29)) 3 0;rw[show((w.alloc (.cells #[.int .i64 t.op,.int .i64 t.tm.op,.int .i64 t.tm.num,.string t.tm.name,.slice Ae t.tm.kids.length ce,.slice A t.kids.length c] 67)).alloc (.cells #[.int .i64 0] 29)).heap.size=w.heap.size+2 from by simp]at h;exact h
 have V:TD 99 #[.pointer (some ⟨w.heap.size+2,0,none⟩),.pointer (some ⟨w.heap.size+1,0,none⟩)] w.heap.size w (fun x W=>IJ (w.heap.size+1) (w.heap.size+2) x W∧x.1=0) (QE (w.heap.size+1)) dA (fun _=>10000000):=
  { enter:=fun args w=>by kernel_rfl
    fin:=fun s w h=>h.1.1
    keep:=fun s w w' h hb=>⟨⟨h.1.1.below hb h.1.1.lt,h.1.2.1.below hb h.1.2.1.lt,h.1.2.2⟩,h.2⟩
    lose:=fun s t d=>Nat.le_succ _
    call:=fun s t d Ae ce A c w' hI hbl hV hd _ hws=>(Ur _ _ (by omega) s t d Ae ce A c w' w w.heap.size rfl (by omega) (by omega) hbl hI.1 hI.2 hV hd (by have:=(Fm.bK t).1;omega)).mono fun e w2 ⟨h1,h2,h3⟩=>⟨h1,⟨h2.1,fun h=>⟨h2.2 h,by
     have h':decide (nZ t d s.2=0)=true:=h;show nZ t d s.2=0
     simpa using h'⟩⟩,KT.cO h3 (fun q hq=>by omega) hbl.size (fun q hq cs fz he=>by
     rcases hq with rfl|rfl
     ·have h4:=hI.1.1;unfold yu at h4;rw[he]at h4
      injection h4 with h4
      injection h4 with _ h4 _
      exact absurd h4 (by decide)
     ·have h4:=hI.1.2.1;unfold yu at h4;rw[he]at h4
      injection h4 with h4
      injection h4 with _ h4 _
      exact absurd h4 (by decide))⟩}
 have hss:=Fm.size_le t;have Bv:=adb V rfl t.size t 1 Ae ce A c (0,0) wb (lr _) (by omega) hsz (by omega) hV ⟨⟨hbw,hbn,zl _⟩,rfl⟩ hb1;rw[hwb]at Bv;have yj:=Hd Bv;have HB1:=Hd hb1;have jy:=Hd hwb;unfold Fm.val at yj⊢;clear hb1 hbw hbn V Bv hwb hV hsz hss;go_in;go_wp2_with fail;refine yj.mono ?_;rintro e w1 ⟨rfl,hfin,ho⟩;rw[←jy]at ho;have hbx:yu w1 (w.heap.size+1) 29 t.check:=hfin.1;have HO:=Hd (HB1.trans ho.below);have cw:=hbx.cell;clear hfin ho;go_wp2_with fail;go_ret;exact⟨rfl,HO⟩
theorem Tryz.info24:(Tryz.prog.info? 55).map (fun i=>(i.zero,i.size,i.bytes))=some (some (.agg #[.int .i64 0,.int .i64 0,.string ⟨#[]⟩,.int .i64 0]),4,40):=by kernel_rfl
theorem agd(s:ByteArray)(w:World)(hs:s.size≤maxLen)(hT:Tables w) :
 Calls Tryz.prog 14 #[.string s] w fun e w'=>∃v,e=.returned (.tuple #[v,.int .i64 (all (bs s)).2.1,.int .i64 (all (bs s)).2.2])∧w'.ownsRow w.heap.size 55 4 v (all (bs s)).1.length (flat (all (bs s)).1)∧Below w.heap.size w w':=by
 have hs':=hs;unfold maxLen at hs';have HT:=Hd hT;clear hT
 by_cases h1:65536<s.size
 ·have h1':(65536:Int)<(s.size:Int):=by omega
  have HA:=Hd (show all (bs s)=([],0,4)from iP (by rw[aC];exact h1));clear h1;go_in
  go_wp2
  go_ret3
  rw[HA];exact⟨_,rfl,⟨rfl,.inl ⟨rfl,rfl⟩⟩,Br _ _⟩
 ·have h1':¬(65536:Int)<(s.size:Int):=by omega
  have HA:=Hd (show all (bs s)=oZ (bs s) 0 []from iN (by rw[aC];exact h1));have h65:s.size≤65536:=by omega
  clear h1;obtain⟨i0,hi,hz0,hz1,hz2⟩:=info_parts Tryz.info24;go_in;go_wp2_with fail
  go_loopw [5,6] (fun sv si wr=>∃(p:Nat)(acc:List Tok),p≤s.size∧si=.int .i64 p∧wr.ownsRow w.heap.size 55 4 sv acc.length (flat acc)∧acc.length≤p∧oZ (bs s) 0 []=oZ (bs s) p acc∧Below w.heap.size w wr) (fun _ i _=>s.size-(intOf i).toNat)
  case atStart=>exact⟨0,[],zl _,rfl,⟨rfl,.inl ⟨rfl,rfl⟩⟩,zl _,rfl,Br _ _⟩
  case round=>
   obtain⟨p,acc,hp,rfl,how,hle,hall,hbel⟩:=hrel;have HO:=Hd how;have HL:=Hd hall;have HB:=Hd hbel;have hsz:=hbel.size;have hT':=HT.below hbel;have HN:=Hd (ac0 s p wr hs hT');clear how hall hbel hT';rw[Dz (by rw[aC];exact hp)]at HN;have hok:=Gh (l:=bs s) (p:=p) (by rw[aC];exact hp);have hend:=Cb (l:=bs s) (p:=p) (acc:=acc);have ad5:=JL (l:=bs s) (p:=p) (acc:=acc);have hmore:=Aw (l:=bs s) (p:=p) (acc:=acc) (by rw[aC];exact hp);rw[aC]at hok;have BQ:=Hd hok;have Cn:=Hd hend;have ad6:=Hd ad5;have Us:=Hd hmore;clear hok hend ad5 hmore
   generalize next (bs s) p=x at *
   obtain⟨⟨tk,tn,tt,ta⟩,q,e⟩:=x;unfold aaA Tok.val Tok.cells at HN
   dsimp only at HN BQ Cn ad6 Us
   by_cases he:e=0
   ·subst he;have hok:=BQ rfl
    by_cases hk:tk=5
    ·have HE:=Hd (Cn rfl hk);subst hk;clear hok;go_wp2_with fail;refine HN.mono ?_;rintro e w2 ⟨rfl,hb2⟩;have HB2:=Hd hb2;clear hb2
     go_wp2
     go_ret3
     rw[HA,HL,HE];exact⟨_,rfl,ownsRow_below HO (HB2.alloc HB2.size _),HB.trans ((HB2.alloc HB2.size _).mono hsz)⟩
    ·have HE:=Hd (Us rfl hk);have hk':(tk==5)=false:=by simpa using hk
     have hq1:p<q∧q≤s.size:=by
      rcases hok with⟨h,_⟩|⟨_,h1,h2⟩
      ·exact absurd h hk
      ·exact⟨h1,h2⟩
     obtain⟨hq1,hq2⟩:=hq1;clear hok hk;go_wp2_with fail;refine HN.mono ?_;rintro e w2 ⟨rfl,hb2⟩;have HB2:=Hd hb2;have hsz2:=hb2.size;have hB3:=Hd (hb2.alloc hb2.size (.cells #[.int .i64 tk,.int .i64 tn,.string ⟨tt.toArray⟩,.int .i64 ta] 55));have Ah:=Hd (ownsRow_below HO hB3.out);have hlt:=(ownsRow_below HO hb2).lt;have HLT:=Hd hlt;clear hb2 hlt
     go_wp2_with (at_builtin;refine wpList_append_own _ rfl _ _ 46 rfl w.heap.size 55 i0 _ 4 40 Tryz.underlying46 hi hz0 hz1 hz2 rfl (by decide) _ _ _ rfl (Ah.alloc _) ⟨w2.heap.size+1,0,none⟩ 1 1 (Ow ⟨tk,tn,tt,ta⟩) rfl rfl ?c1 ?c2 ?c3 ?c4 ?c5 ?_)
     case c1=>exact World.news_of_block (cs:=#[.int .i64 tk,.int .i64 tn,.string ⟨tt.toArray⟩,.int .i64 ta]) (t:=55) (fr:=(0,0)) (by have:=eu (w2.alloc (.cells #[.int .i64 tk,.int .i64 tn,.string ⟨tt.toArray⟩,.int .i64 ta] 55)) (.cells #[.int .i64 tk,.int .i64 tn,.string ⟨tt.toArray⟩,.int .i64 ta] 55);simpa using this)
     case c2=>
      intro q hq;simp[Ow]at hq
      rcases hq with rfl|rfl|rfl|rfl<;>rfl
     case c3=>unfold maxLen;omega
     case c4=>omega
     case c5=>simp;omega
     intro v' w3 hown3 hgrow3 _;have hgr:=Hd hgrow3;have Ai:=Hd hown3;clear hown3 hgrow3
     go_wp2
     go_roundw
     case rel=>
      refine⟨q,acc++[⟨tk,tn,tt,ta⟩],hq2,rfl,?_,?_,?_,?_⟩
      ·rw[O7,List.length_append];exact Ai
      ·rw[List.length_append];simp;omega
      ·rw[HL,HE]
      ·refine((HB.trans (hB3.out.mono hsz)).alloc (by simp;omega) _).grown hgr.out (by simp;omega) (fun q hq=>?_);exact(Ah.lt q hq).1
     case measure=>simp[intOf];omega
   ·have he':(e==0)=false:=by simpa using he
    have HE:=Hd (ad6 he);clear he;go_wp2_with fail;refine HN.mono ?_;rintro e w2 ⟨rfl,hb2⟩;have HB2:=Hd hb2;clear hb2
    go_wp2
    go_ret3
    rw[HA,HL,HE];exact⟨_,rfl,⟨rfl,.inl ⟨rfl,rfl⟩⟩,HB.trans ((HB2.alloc HB2.size _).mono hsz)⟩
theorem Rv{w:World}{B:Nat}{v:Value}{l:List Tok}(hB:0<l.length∨True)(h:w.ownsRow B 55 4 v l.length (flat l))(hok:∀t∈l,Mf t)(hs:xU l≤65536):∃A c,v=.slice A l.length c∧dP w A c l:=by
 have hlen:=zL hok;have htx:∀t∈l,t.text.length≤100000:=fun t ht=>by have:=TG ht;omega
 have hrg:∀t∈l,-1000000≤t.n∧t.n≤1000000:=fun t ht=>by have h1:=(hok t ht).n0;have h2:=(hok t ht).n1;omega
 rcases h.2 with⟨h1,h2⟩|⟨g,cap,cur,hv,hb,hg,hnc,hcm,hcs,htk⟩
 ·exact⟨none,0,by rw[h1,h2],⟨.inl (List.length_eq_zero_iff.1 h2),by omega,by unfold maxLen;omega,by omega,htx,hrg,fun a ha=>by cases ha⟩⟩
 ·refine⟨some ⟨g,0,none⟩,cap,hv,⟨.inr ⟨g,0,rfl,lH hg,fun k z hz j hj=>?_⟩,hnc,hcm,by omega,htx,hrg,fun a ha=>by cases ha;exact lH hg⟩⟩;have hc:=h.cells (g:=g) (by rw[hv];rfl) (k*4+j) (fZ z j) (flat_get hz hj);rw[addr_add]at hc;rw[Nat.zero_add]at hc⊢;exact hc
set_option linter.unusedSimpArgs false
theorem qN{o:Array Oper}{i:Nat}{x:Oper}(h:o.toList[i]?=some x):o[i]?=some x:=by simpa using h
def Yt(w:World)(r:Fm×Nat×Int)(e:Ending)(w':World):Prop:=∃x:FV,e=.returned (.tuple #[x.val,.int .i64 (r.2.1:Nat),.int .i64 r.2.2])∧x.Is (fun q=>w.heap.size≤q) w' r.1∧Below w.heap.size w w'
def ajw(i:Nat)(r:Rs Fm):Fm×Nat×Int:=match r with
 |.bad j e=>(vg,j,e)
 |.ok f j=>if f.check=0 then(f,j,0)else(vg,i,f.check)
theorem y8(tm:Array Value)(b2:Nat)(z1 z2:Value)(u0 u1 u2 u3 u4 u5:Value)(w:World)(h2:tm[4]?=some (.pointer (some ⟨b2,0,none⟩)))(h3:tm[5]?=some z1)(h4:tm[6]?=some z2)(h:w.heap[b2]?=some (.cells #[u0,u1,u2,u3,u4,u5] 67 (0,0))) :
 (results Tryz.f82 tm).run Tryz.prog w=.ok (.tuple #[.agg #[u0,u1,u2,u3,u4,u5],z1,z2]) w:=by
 obtain⟨y0,y1,y2,y3,y4,y5,-⟩:=q6 h;unfold results;rw[Tryz.results82];simp only[Array.getD_eq_getD_getElem?];simp[h2,h3,h4,go_sem,y0,y1,y2,y3,y4,y5]
theorem ab1(l:List Tok)(A:Option Addr)(c i:Nat)(w:World)(hi:i≤l.length)(hT:dP w A c l) :
 Calls Tryz.prog 82 #[.slice A l.length c,.int .i64 (i:Nat)] w (Yt w (nN l i)):=by
 have hlen:=hT.len;have hcap:=hT.cap;have aQ:=hT.bU;unfold maxLen at aQ;obtain⟨n,hn⟩:=aj l.length;obtain⟨F,hF⟩:=aj (Yt w (nN l i));rw[←hF];obtain⟨b4,hb4⟩:=aj w.heap.size;obtain⟨R,hR⟩:=aj (w.heap.size+1);obtain⟨w2,hw2⟩:=aj ((w.alloc (.cells #[.int .i64 0,.int .i64 0,.int .i64 0,.string ⟨#[]⟩,.slice none 0 0,.slice none 0 0] 67)).alloc (.cells #[.slice A n c,.int .i64 (i:Nat),.int .i64 0,.int .i64 0] 192));have hb2:Below w.heap.size w w2:=by rw[hw2];exact((Br _ _).alloc (lr _) _).alloc (by simp) _
 have hx2:w2.heap[b4]?=some (.cells #[.int .i64 0,.int .i64 0,.int .i64 0,.string ⟨#[]⟩,.slice none 0 0,.slice none 0 0] 67 (0,0)):=by rw[hw2,hb4];exact aK (eu w _)
 have hrd:kK w2 R A l.length c i 0 0:=by
  have h:=eu (w.alloc (.cells #[.int .i64 0,.int .i64 0,.int .i64 0,.string ⟨#[]⟩,.slice none 0 0,.slice none 0 0] 67)) (.cells #[.slice A n c,.int .i64 (i:Nat),.int .i64 0,.int .i64 0] 192);rw[hw2,hR,←hn];unfold kK
  simpa using h
 have hcall:=(aaX R A c l 256 0 rfl).form i w2 hi hrd (hT.pt hb2 (by omega));obtain⟨r,hr⟩:=aj ((lJ l 256).form i);rw[←hr]at hcall;have bE:Hid (F=Yt w (ajw i r)):=by show _=_;rw[hF,hr];rfl
 have Tq:Hid (∀t j,r=.ok t j→VP l i t j):=fun t j h=>(yx l 256).form i t j (by rw[←hr];exact h);have HNZ:Hid (∀j x,r=.bad j x→x≠0):=fun j x h=>(yA l 256).form i j x (by rw[←hr];exact h);have HC:=Hd hcall;have HW2:=Hd hw2;have qY:=Hd hb4;have HRQ:=Hd hR;have HB:=Hd hb2;have X4:=Hd hx2;have HN:=Hd hn;have hs2:w2.heap.size=R+1:=by rw[hw2,hR];simp
 rw[←hn]at hi hlen hcap⊢;have hi0:¬(i:Int)<0:=by omega
 have hi1:¬(n:Int)<(i:Int):=by omega
 have h4R:b4≠R:=by omega
 have hbw:w.heap.size≤b4:=by omega
 have hbR:w.heap.size≤R:=by omega
 clear hF hb4 hR hw2 hb2 hx2 hrd hcall hr hn hT;go_in;go_wp2_with fail;rw[←HW2,←HRQ,←qY];refine HC.mono ?_;rintro e w3 ⟨x,rfl,hx,VU,ho3⟩;unfold FV.val;have hl4:b4<w2.heap.size:=lH X4;have x43:=(ho3.block b4 hl4 h4R).trans X4;have hB3:Below w.heap.size w w3:=(Ob (F:=fun q=>w.heap.size≤q) HB).trans (ho3.mono (fun q h=>by show w.heap.size≤q;omega))|>.below (fun q h=>h) (lr _);obtain⟨j,hj⟩:=aj r.at_;obtain⟨y,hy⟩:=aj r.err;rw[←hj,←hy]at VU;obtain⟨w4,hw4⟩:=aj (((((((w3.setCell ⟨b4,0,none⟩ (.int .i64 x.o)).setCell ⟨b4,1,none⟩ (.int .i64 x.tn)).setCell ⟨b4,2,none⟩ (.int .i64 x.tm)).setCell ⟨b4,3,none⟩ (.string x.s)).setCell ⟨b4,4,none⟩ (.slice x.Ae x.ne x.ce)).setCell ⟨b4,5,none⟩ (.slice x.A x.n x.c)));have X44:Hid (w4.heap[b4]?=some (.cells #[.int .i64 x.o,.int .i64 x.tn,.int .i64 x.tm,.string x.s,.slice x.Ae x.ne x.ce,.slice x.A x.n x.c] 67 (0,0))):=by show _=_;rw[hw4];exact jD x43
 have dQ:Hid (kK w4 R A l.length c j 0 y):=by show kK _ _ _ _ _ _ _ _;rw[hw4];exact(jH (Ne.symm h4R)).trans VU
 have BS:Hid (Below w.heap.size w w4):=by
  show Below _ _ _;rw[hw4];exact(((((((Ob (F:=fun q=>w.heap.size≤q) hB3).bq hbw _).bq hbw _).bq hbw _).bq hbw _).bq hbw _).bq hbw _).below (fun q h=>h) (lr _)
 have HX4:Hid (∀t k,r=.ok t k→x.Is (fun q=>w2.heap.size≤q) w4 t):=fun t k h=>by rw[hw4];exact(hx t k h).keep (mO Kr (by omega)) (fun _ _ h=>h)
 have Y43:=Hd x43;have agf:=Hd VU;have Uq:=Hd hw4;have hl3:=lH x43
 have VW:Hid (y≠0→r=.bad j y):=by
  intro h
  cases hc:r with
  |bad a b=>rw[hc]at hj hy;rw[hj,hy];rfl
  |ok f k=>rw[hc]at hy;exact absurd hy h
 have HRO:Hid (y=0→∃f,r=.ok f j):=by
  intro h
  cases hc:r with
  |bad a b=>rw[hc]at hy;exact absurd (show b=0 from hy.symm.trans h) (HNZ a b hc)
  |ok f k=>rw[hc]at hj;exact⟨f,by rw[hj];rfl⟩
 clear hx VU ho3 x43 hB3 hw4 hj hy HC X4 HB
 by_cases hy0:y=0
 ·obtain⟨f,hf⟩:=HRO hy0;subst hy0;have hgd:=Tq f j hf;have hxf:=HX4 f j hf;have dJ:Hid (F=Yt w (if f.check=0 then(f,j,0)else(vg,i,f.check))):=by show _=_;rw[bE,hf];rfl
  have HXF:=Hd hxf;have hws:f.bT≤9000000:=by have h1:=hgd.sz;have h2:=hgd.jl;have h3:=HN.out;omega
  have hck:=FN f x.Ae x.ce x.A x.c w4 hxf.v.toV hws;have hval:=hxf.val;unfold FV.val at hval;rw[←hval]at hck;have IC:=Hd hck;clear hgd hxf hws hck hval hf Tq HNZ VW HRO HX4;obtain⟨v0,v1,v2,v3,v4,v5,bW⟩:=q6 Y43;obtain⟨-,-,-,e3,-⟩:=q4 agf;have hrl3:=agf.lt;go_wp2_with fail;clear e3;rw[←Uq];clear v0 bW v1 v2 v3 v4 v5;obtain⟨-,-,-,e3,-⟩:=q4 dQ;have MP:=dQ.lt;obtain⟨v0,v1,v2,v3,v4,v5,bW⟩:=q6 X44;have al2:=lH X44;(try go_wp2_with fail);refine IC.mono ?_;rintro e w5 ⟨rfl,hb5⟩;clear e3 v0 bW v1 v2 v3 v4 v5;have X45:=kX hb5 X44;have akB:=Hd (dQ.below hb5 dQ.lt);have pU:=kB BS hb5;have akC:Hid (x.Is (fun q=>w2.heap.size≤q) w5 f):=HXF.keep (Kb hb5) (fun _ _ h=>h);clear hb5 IC X44 dQ BS HXF
  by_cases hz:f.check=0
  ·rw[hz];have pR:Hid (F=Yt w (f,j,0)):=by show _=_;rw[dJ,iP hz]
   clear hz;go_wp2_with fail;refine wp_region_held_drew (S:=fun w'=>kK w' R A l.length c j 0 0∧w'.heap[b4]?=some (.cells #[.int .i64 x.o,.int .i64 x.tn,.int .i64 x.tm,.string x.s,.slice x.Ae x.ne x.ce,.slice x.A x.n x.c] 67 (0,0))) (by kernel_rfl) ⟨akB,X45⟩ (fun hHeld=>?_);obtain⟨wd,hwd⟩:=aj w5.drew;have YD:Hid (wd.heap[b4]?=some (.cells #[.int .i64 x.o,.int .i64 x.tn,.int .i64 x.tm,.string x.s,.slice x.Ae x.ne x.ce,.slice x.A x.n x.c] 67 (0,0))):=by show _=_;rw[hwd];exact X45
   have HBD:Hid (Below w.heap.size w wd):=by show Below _ _ _;rw[hwd];exact pU.drew
   have OO:Hid (x.Is (fun q=>w2.heap.size≤q) wd f):=by show FV.Is _ _ _ _;rw[hwd];exact akC.keep ⟨lr _,fun _ _ _=>rfl⟩ (fun _ _ h=>h)
   rw[←hwd]at hHeld⊢;clear hwd;refine gJ 0 (v:=?_) (qN rfl) (Or.inl ⟨by rfl,?hy⟩) (by assumption) ?_
   case hy=>
    intro w0 hSw;obtain⟨-,h1,-⟩:=q4 hSw.1;obtain⟨k0,k1,k2,k3,k4,k5,-⟩:=q6 hSw.2;clear hSw;go_simp
    (first|done|with_reducible rfl)
   (try simp only[Act.put,aT,aU,aV]);refine gJ 1 (v:=?_) (qN rfl) (Or.inl ⟨by rfl,?hy⟩) (by assumption) ?_
   case hy=>
    intro w0 hSw;obtain⟨-,h1,-⟩:=q4 hSw.1;obtain⟨k0,k1,k2,k3,k4,k5,-⟩:=q6 hSw.2;clear hSw;go_simp
    (first|done|with_reducible rfl)
   (try simp only[Act.put,aT,aU,aV]);refine gJ 2 (v:=?_) (qN rfl) (Or.inl ⟨by rfl,?hy⟩) (by assumption) ?_
   case hy=>
    intro w0 hSw;obtain⟨-,h1,-⟩:=q4 hSw.1;obtain⟨k0,k1,k2,k3,k4,k5,-⟩:=q6 hSw.2;clear hSw;go_simp
    (first|done|with_reducible rfl)
   (try simp only[Act.put,aT,aU,aV]);refine gJ 3 (v:=?_) (qN rfl) (Or.inl ⟨by rfl,?hy⟩) (by assumption) ?_
   case hy=>
    intro w0 hSw;obtain⟨-,h1,-⟩:=q4 hSw.1;obtain⟨k0,k1,k2,k3,k4,k5,-⟩:=q6 hSw.2;clear hSw;go_simp
    (first|done|with_reducible rfl)
   (try simp only[Act.put,aT,aU,aV]);refine gJ 4 (v:=?_) (qN rfl) (Or.inl ⟨by rfl,?hy⟩) (by assumption) ?_
   case hy=>
    intro w0 hSw;obtain⟨-,h1,-⟩:=q4 hSw.1;obtain⟨k0,k1,k2,k3,k4,k5,-⟩:=q6 hSw.2;clear hSw;go_simp
    (first|done|with_reducible rfl)
   (try simp only[Act.put,aT,aU,aV]);refine Rd (rs:=[5]) (by kernel_rfl) (by simp) ?_;refine Rc (qN rfl) (fun K hK=>?_) Rn;obtain⟨v0,v1,v2,v3,v4,v5,bW⟩:=q6 YD;go_simp;clear v0 bW v1 v2 v3 v4 v5;refine hK.out _ _ (⟨(jH (Ne.symm h4R)).trans hHeld.1,jD hHeld.2⟩) (fun hHeld=>?_);clear hK K;(try simp only[Act.put,aT,aU,aV]);refine gJ 6 (v:=?_) (qN rfl) (Or.inl ⟨by rfl,?hy⟩) (by assumption) ?_
   case hy=>
    intro w0 hSw;obtain⟨-,h1,-⟩:=q4 hSw.1;obtain⟨k0,k1,k2,k3,k4,k5,-⟩:=q6 hSw.2;clear hSw;go_simp
    (first|done|with_reducible rfl)
   (try simp only[Act.put,aT,aU,aV]);refine gJ 7 (v:=?_) (qN rfl) (Or.inl ⟨by rfl,?hy⟩) (by assumption) ?_
   case hy=>
    intro w0 hSw;obtain⟨-,h1,-⟩:=q4 hSw.1;obtain⟨k0,k1,k2,k3,k4,k5,-⟩:=q6 hSw.2;clear hSw;go_simp
    (first|done|with_reducible rfl)
   (try simp only[Act.put,aT,aU,aV]);refine wpAnyH_done (by kernel_rfl) ?_ _;clear hHeld;go_wp2_with fail;obtain⟨WW,nT⟩:=aj (((((((wd.setCell ⟨b4,0,none⟩ (.int .i64 x.o)).setCell ⟨b4,1,none⟩ (.int .i64 x.tn)).setCell ⟨b4,2,none⟩ (.int .i64 x.tm)).setCell ⟨b4,3,none⟩ (.string x.s)).setCell ⟨b4,4,none⟩ (.slice x.Ae x.ne x.ce)).setCell ⟨b4,5,none⟩ (.slice x.A x.n x.c)));have hrow:WW.heap[b4]?=some (.cells #[.int .i64 x.o,.int .i64 x.tn,.int .i64 x.tm,.string x.s,.slice x.Ae x.ne x.ce,.slice x.A x.n x.c] 67 (0,0)):=by rw[nT];exact jD YD
   have J4:Hid (Below w.heap.size w WW):=by
    show Below _ _ _;rw[nT];have hb:w.heap.size≤b4:=by rw[qY];exact lr _
    exact(((((((Ob (F:=fun q=>w.heap.size≤q) HBD).bq hb _).bq hb _).bq hb _).bq hb _).bq hb _).bq hb _).below (fun q h=>h) (lr _)
   have HVF:Hid (x.Is (fun q=>w.heap.size≤q) WW f):=by
    show FV.Is _ _ _ _;rw[nT];exact OO.keep (mO Kr (by have:=qY.out;omega)) (fun q _ h=>by omega)
   rw[←nT];clear nT;refine bR (y8 _ b4 _ _ _ _ _ _ _ _ _ rfl rfl rfl hrow) rfl ?_;rw[pR];exact⟨x,rfl,HVF,J4⟩
  ·have hzb:(f.check != 0)=true:=by simpa using hz
   have pR:Hid (F=Yt w (vg,i,f.check)):=by show _=_;rw[dJ,iN hz]
   obtain⟨ck,hck⟩:=aj f.check;rw[←hck]at hzb pR⊢;clear hz hck;obtain⟨v0,v1,v2,v3,v4,v5,bW⟩:=q6 X45;have al3:=lH X45;go_wp2_with fail;clear v0 bW v1 v2 v3 v4 v5;obtain⟨WW,nT⟩:=aj (((((((w5.setCell ⟨b4,0,none⟩ (.int .i64 0)).setCell ⟨b4,1,none⟩ (.int .i64 0)).setCell ⟨b4,2,none⟩ (.int .i64 0)).setCell ⟨b4,3,none⟩ (.string ⟨#[]⟩)).setCell ⟨b4,4,none⟩ (.slice none 0 0)).setCell ⟨b4,5,none⟩ (.slice none 0 0)));have hrow:WW.heap[b4]?=some (.cells #[.int .i64 0,.int .i64 0,.int .i64 0,.string ⟨#[]⟩,.slice none 0 0,.slice none 0 0] 67 (0,0)):=by rw[nT];exact jD X45
   have J4:Hid (Below w.heap.size w WW):=by
    show Below _ _ _;rw[nT];have hb:w.heap.size≤b4:=by rw[qY];exact lr _
    exact(((((((Ob (F:=fun q=>w.heap.size≤q) pU).bq hb _).bq hb _).bq hb _).bq hb _).bq hb _).bq hb _).below (fun q h=>h) (lr _)
   rw[←nT];clear nT;refine bR (y8 _ b4 _ _ _ _ _ _ _ _ _ rfl rfl rfl hrow) rfl ?_;rw[pR];exact⟨FV.zero,rfl,FV.G9,J4⟩
 ·have hyb:(y != 0)=true:=by simpa using hy0
  have dJ:Hid (F=Yt w (vg,j,y)):=by show _=_;rw[bE,VW hy0];rfl
  clear hy0;obtain⟨v0,v1,v2,v3,v4,v5,bW⟩:=q6 Y43;obtain⟨-,-,-,e3,-⟩:=q4 agf;have hrl3:=agf.lt;go_wp2_with fail;clear e3;rw[←Uq];clear v0 bW v1 v2 v3 v4 v5;obtain⟨-,-,-,e3,-⟩:=q4 dQ;have MP:=dQ.lt;(try go_wp2_with fail);clear e3;refine wp_region_held_drew (S:=fun w'=>kK w' R A l.length c j 0 y) (by kernel_rfl) dQ (fun hHeld=>?_);obtain⟨wd,hwd⟩:=aj w4.drew;have YD:Hid (wd.heap[b4]?=some (.cells #[.int .i64 x.o,.int .i64 x.tn,.int .i64 x.tm,.string x.s,.slice x.Ae x.ne x.ce,.slice x.A x.n x.c] 67 (0,0))):=by show _=_;rw[hwd];exact X44
  have HBD:Hid (Below w.heap.size w wd):=by show Below _ _ _;rw[hwd];exact BS.drew
  rw[←hwd]at hHeld⊢;clear hwd;refine gJ 0 (v:=?_) (qN rfl) (Or.inl ⟨by rfl,?hy⟩) (by assumption) ?_
  case hy=>
   intro w0 hSw;obtain⟨-,h1,-,h3,-⟩:=q4 hSw;clear hSw;go_simp
   (first|done|with_reducible rfl)
  (try simp only[Act.put,aT,aU,aV]);refine gJ 1 (v:=?_) (qN rfl) (Or.inl ⟨by rfl,?hy⟩) (by assumption) ?_
  case hy=>
   intro w0 hSw;obtain⟨-,h1,-,h3,-⟩:=q4 hSw;clear hSw;go_simp
   (first|done|with_reducible rfl)
  (try simp only[Act.put,aT,aU,aV]);refine gJ 2 (v:=?_) (qN rfl) (Or.inl ⟨by rfl,?hy⟩) (by assumption) ?_
  case hy=>
   intro w0 hSw;obtain⟨-,h1,-,h3,-⟩:=q4 hSw;clear hSw;go_simp
   (first|done|with_reducible rfl)
  (try simp only[Act.put,aT,aU,aV]);refine gJ 3 (v:=?_) (qN rfl) (Or.inl ⟨by rfl,?hy⟩) (by assumption) ?_
  case hy=>
   intro w0 hSw;obtain⟨-,h1,-,h3,-⟩:=q4 hSw;clear hSw;go_simp
   (first|done|with_reducible rfl)
  (try simp only[Act.put,aT,aU,aV]);refine gJ 4 (v:=?_) (qN rfl) (Or.inl ⟨by rfl,?hy⟩) (by assumption) ?_
  case hy=>
   intro w0 hSw;obtain⟨-,h1,-,h3,-⟩:=q4 hSw;clear hSw;go_simp
   (first|done|with_reducible rfl)
  (try simp only[Act.put,aT,aU,aV]);refine gJ 5 (v:=?_) (qN rfl) (Or.inl ⟨by rfl,?hy⟩) (by assumption) ?_
  case hy=>
   intro w0 hSw;obtain⟨-,h1,-,h3,-⟩:=q4 hSw;clear hSw;go_simp
   (first|done|with_reducible rfl)
  (try simp only[Act.put,aT,aU,aV]);refine gJ 6 (v:=?_) (qN rfl) (Or.inl ⟨by rfl,?hy⟩) (by assumption) ?_
  case hy=>
   intro w0 hSw;obtain⟨-,h1,-,h3,-⟩:=q4 hSw;clear hSw;go_simp
   (first|done|with_reducible rfl)
  (try simp only[Act.put,aT,aU,aV]);refine gJ 7 (v:=?_) (qN rfl) (Or.inl ⟨by rfl,?hy⟩) (by assumption) ?_
  case hy=>
   intro w0 hSw;obtain⟨-,h1,-,h3,-⟩:=q4 hSw;clear hSw;go_simp
   (first|done|with_reducible rfl)
  (try simp only[Act.put,aT,aU,aV]);refine gJ 8 (v:=?_) (qN rfl) (Or.inl ⟨by rfl,?hy⟩) (by assumption) ?_
  case hy=>
   intro w0 hSw;obtain⟨-,h1,-,h3,-⟩:=q4 hSw;clear hSw;go_simp
   (first|done|with_reducible rfl)
  (try simp only[Act.put,aT,aU,aV]);refine Rd (rs:=[9]) (by kernel_rfl) (by simp) ?_;refine Rc (qN rfl) (fun K hK=>?_) Rn;obtain⟨v0,v1,v2,v3,v4,v5,bW⟩:=q6 YD;go_simp;clear v0 bW v1 v2 v3 v4 v5;refine hK.out _ _ ((jH (Ne.symm h4R)).trans hHeld) (fun hHeld=>?_);clear hK K;(try simp only[Act.put,aT,aU,aV]);refine gJ 10 (v:=?_) (qN rfl) (Or.inl ⟨by rfl,?hy⟩) (by assumption) ?_
  case hy=>
   intro w0 hSw;obtain⟨-,h1,-,h3,-⟩:=q4 hSw;clear hSw;go_simp
   (first|done|with_reducible rfl)
  (try simp only[Act.put,aT,aU,aV]);refine gJ 11 (v:=?_) (qN rfl) (Or.inl ⟨by rfl,?hy⟩) (by assumption) ?_
  case hy=>
   intro w0 hSw;obtain⟨-,h1,-,h3,-⟩:=q4 hSw;clear hSw;go_simp
   (first|done|with_reducible rfl)
  (try simp only[Act.put,aT,aU,aV]);refine wpAnyH_done (by kernel_rfl) ?_ _;clear hHeld;go_wp2_with fail;obtain⟨WW,nT⟩:=aj (((((((wd.setCell ⟨b4,0,none⟩ (.int .i64 0)).setCell ⟨b4,1,none⟩ (.int .i64 0)).setCell ⟨b4,2,none⟩ (.int .i64 0)).setCell ⟨b4,3,none⟩ (.string ⟨#[]⟩)).setCell ⟨b4,4,none⟩ (.slice none 0 0)).setCell ⟨b4,5,none⟩ (.slice none 0 0)));have hrow:WW.heap[b4]?=some (.cells #[.int .i64 0,.int .i64 0,.int .i64 0,.string ⟨#[]⟩,.slice none 0 0,.slice none 0 0] 67 (0,0)):=by rw[nT];exact jD YD
  have J4:Hid (Below w.heap.size w WW):=by
   show Below _ _ _;rw[nT];have hb:w.heap.size≤b4:=by rw[qY];exact lr _
   exact(((((((Ob (F:=fun q=>w.heap.size≤q) HBD).bq hb _).bq hb _).bq hb _).bq hb _).bq hb _).bq hb _).below (fun q h=>h) (lr _)
  rw[←nT];clear nT;refine bR (y8 _ b4 _ _ _ _ _ _ _ _ _ rfl rfl rfl hrow) rfl ?_;rw[dJ];exact⟨FV.zero,rfl,FV.G9,J4⟩
end Go.Proofs.YtkhoeoilamddaaaGreatDoor
