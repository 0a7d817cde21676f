/- Walks and plain words: FrmC FrmD LexA PrsV FsI. -/
import Derived.Test.YtkhoeoilamddaaaGreatDoorQFsF
namespace Go.Proofs.YtkhoeoilamddaaaGreatDoor
open Go.RowKit
set_option linter.unusedVariables false
set_option maxRecDepth 100000
set_option maxHeartbeats 16000000
theorem abY(op:Int)(w:World) :
 Calls Tryz.prog 101 #[.int .i64 op] w fun e w'=>e=.returned (.int .i64 (bV op))∧w=w':=by
 obtain⟨r,D⟩:=ak (bV op);rw[←D];go_in
 go_wp2
 all_goals
  go_ret;rw[D];refine⟨?_,rfl⟩
  simp_all[bV]
theorem abZ(t:Fm)(Ae:Option Addr)(ce:Nat)(A:Option Addr)(c:Nat)(w:World)(hV:pO w Ae ce A c t)(hsz:t.tm.size≤9000000) :
 Calls Tryz.prog 100 #[t.val Ae ce A c] w fun e w'=>e=.returned (.int .i64 (mF t))∧Below w.heap.size w w':=by
 obtain⟨n,hn⟩:=aj t.kids.length;obtain⟨ne,hne⟩:=aj t.tm.kids.length;obtain⟨wb,G⟩:=aj (w.alloc (.cells #[.int .i64 t.op,.int .i64 t.tm.op,.int .i64 t.tm.num,.string t.tm.name,.slice Ae ne ce,.slice A n c] 67));have hb1:=dz G;have ao:iJ wb w.heap.size Ae ne ce A n c t:=by rw[G];exact eu w _
 have av:w.heap.size<wb.heap.size:=by rw[G];simp
 have D:=DC t.tm Ae ce wb (hV.tm.below hb1 rfl) hsz;unfold Tm.val at D;unfold Fm.val;rw[←hn];rw[←hne]at D⊢;obtain⟨ck,Jg⟩:=aj t.tm.check;rw[←Jg]at D;obtain⟨r,hr⟩:=aj (mF t);rw[←hr];unfold mF at hr;rw[←Jg]at hr;obtain⟨op,aa⟩:=aj t.op;have qH:=Hd ao;have gy:=Hd aa;rw[←aa]at hr G⊢;have jy:=Hd G;rw[jy]at D;have IC:=Hd D;have HR:=Hd hr;have ab:=Hd hb1;have HV:=Hd hV;have HN:=Hd hn;have vM:=Hd hne;clear D Jg hr G hb1 ao hV hn hne aa
 by_cases h1:op=1
 ·have af:Hid (r=if ck=0 then(if hasNext t.tm=true then 24 else 0)else ck):=by show _=_;rw[HR,iP h1]
  subst h1;go_in;go_wp2_with fail;refine IC.mono ?_;rintro e w1 ⟨rfl,I⟩;rw[←jy]at I;have J:=qH.below I qH.lt;have Y:=Hd (ab.trans (I.mono (Nat.le_of_lt av)));have ay:=I.size;have y1:=J.c1;have y2:=J.c2;have y3:=J.c3;have y4:=J.c4;clear J I
  by_cases h0:ck=0
  ·have O:=abw t.tm Ae ce w1 (HV.tm.below Y rfl) hsz;unfold Tm.val at O;rw[←vM]at O;have xR:=Hd O;have ag:Hid (r=if hasNext t.tm=true then 24 else 0):=by show _=_;rw[af,iP h0]
   subst h0;clear O;go_wp2_with fail;refine xR.mono ?_;rintro e w2 ⟨v1,A2,n2,c2,rfl,hz,ai⟩;have ae:=kB Y ai;have HZ:=Hd hz;clear hz ai y1 y2 y3 y4
   by_cases h2:n2=0
   ·have bE:Hid (r=0):=by show _=_;rw[ag,HZ.1 h2];rfl
    have ar:¬(0:Int)<(n2:Int):=by omega
    clear h2;go_wp2_with fail;go_ret;rw[bE];exact⟨rfl,ae⟩
   ·have bE:Hid (r=24):=by
     show _=_;rw[ag]
     cases hh:hasNext t.tm with
     |false=>exact absurd (HZ.2 hh) h2
     |true=>rfl
    have ar:(0:Int)<(n2:Int):=by omega
    clear h2;go_wp2_with fail;go_ret;rw[bE];exact⟨rfl,ae⟩
  ·have bE:Hid (r=ck):=by show _=_;rw[af,iN h0]
   have aw:(ck != 0)=true:=by simpa using h0
   clear h0;go_wp2_with fail;go_ret;rw[bE];exact⟨rfl,Y⟩
 ·have bE:Hid (r=0):=by show _=_;rw[HR,iN h1]
  have ax:(op != 1)=true:=by simpa using h1
  clear h1;go_in;go_wp2_with fail;go_ret;rw[bE,←jy];exact⟨rfl,ab⟩
theorem ab0(t:Fm)(d n:Nat):nZ t d n=if 64<d then 17 else if bV t.op<0 then 11 else if mF t≠0 then mF t
 else if (t.kids.length:Int)≠bV t.op∨(t.op≠1∧yw t.tm=false)then 3 else if 4096<n+1 then 4 else 0:=rfl
theorem Ur(bw bn:Nat)(hne:bw≠bn)(x:Int×Nat)(t:Fm)(d:Nat)(Ae:Option Addr)(ce:Nat)(A:Option Addr)(c:Nat)(w:World)(w0:World)(B:Nat)(hB:B=w0.heap.size)(bW:B≤bw)(bl:B≤bn)(ae:Below B w0 w)(hI:IJ bw bn x w)(bh:x.1=0)(hV:pO w0 Ae ce A c t)(hd:d≤10000000)(hsz:t.tm.size≤9000000) :
 Calls Tryz.prog 99 #[t.val Ae ce A c,.int .i64 d,.pointer (some ⟨bn,0,none⟩),.pointer (some ⟨bw,0,none⟩)] w fun e w'=>e=.returned (.bool (dA x t d).2)∧(QE bw (dA x t d).1 w'∧((dA x t d).2=true→IJ bw bn (dA x t d).1 w'))∧Only (fun q=>q=bw∨q=bn) w w':=by
 obtain⟨hw1,ao,bi⟩:=hI;obtain⟨e0,k⟩:=x;simp only at hw1 ao bi bh;subst bh;obtain⟨n,hn⟩:=aj t.kids.length;obtain⟨ne,aa⟩:=aj t.tm.kids.length;obtain⟨E,hE⟩:=aj (nZ t d k);have aS:Hid (dA (0,k) t d=((E,k+1),decide (E=0))):=by show _=_;rw[hE];rfl
 obtain⟨st,bg⟩:=aj (dA (0,k) t d);rw[←bg]at aS⊢;rw[aS];simp only;obtain⟨op,ar⟩:=aj t.op;obtain⟨K,hK⟩:=aj (bV op);obtain⟨W,hW⟩:=aj (mF t);obtain⟨bb,G⟩:=aj (yw t.tm);rw[ab0,←ar,←hK,←hW,←hn,←G]at hE;obtain⟨wb,ab⟩:=aj ((w.setCell ⟨bn,0,none⟩ (.int .i64 ((k:Int)+1))).alloc (.cells #[.int .i64 op,.int .i64 t.tm.op,.int .i64 t.tm.num,.string t.tm.name,.slice Ae ne ce,.slice A n c] 67));have bu:=hw1.lt;have br:=ao.lt;have cw:=hw1.cell;have cn:=ao.cell;have fw:=hw1.frozen;have fn:=ao.frozen;have bv:bn≠bw:=fun h=>hne h.symm;have ai:yu wb bw 29 0:=by rw[ab];exact(hw1.setOther (p:=⟨bn,0,none⟩) hne _).below ((Br w.heap.size _).alloc (by simp) _) (by simpa using bu)
 have a7:yu wb bn 3 ((k:Int)+1):=by rw[ab];exact(ao.set _).below ((Br w.heap.size _).alloc (by simp) _) (by simpa using br)
 have ay:Only (fun q=>q=bw∨q=bn) w wb:=by rw[ab];exact((Only.refl (F:=fun q=>q=bw∨q=bn)).bq (Or.inr rfl) _).jV ((Br w.heap.size _).alloc (by simp) _) (lr _)
 have bd:Below B w0 wb:=by rw[ab];exact(ae.setCell (p:=⟨bn,0,none⟩) bl _).alloc (by simpa using(by have:=ae.size;omega)) _
 have hx:iJ wb w.heap.size Ae ne ce A n c t:=by
  rw[ab];have h:=eu (w.setCell ⟨bn,0,none⟩ (.int .i64 ((k:Int)+1))) (.cells #[.int .i64 op,.int .i64 t.tm.op,.int .i64 t.tm.num,.string t.tm.name,.slice Ae ne ce,.slice A n c] 67);rw[show(w.setCell ⟨bn,0,none⟩ (.int .i64 ((k:Int)+1))).heap.size=w.heap.size from by simp]at h;unfold iJ;rw[←ar];exact h
 have b1:w.heap.size<wb.heap.size:=by rw[ab];simp
 have WR:=abZ t Ae ce A c wb (hV.below bd hB) hsz;unfold Fm.val at WR⊢;rw[←hn,←aa,←ar]at WR⊢;rw[←hW]at WR;have aP:=Hd (fun W'=>abY op W');rw[←hK]at aP;have aF:=hV.cap;have aQ:=hV.bU;have bk:=hV.tm.cap;have bj:=hV.tm.bU;have bz:=hV.tm.name;unfold maxLen at aQ bj bz;rw[←hn]at aF;rw[←aa]at bk;have b0:k≤4096:=bi;have HE:=Hd hE;have Ot:=Hd G;have jy:=Hd ab;have Tc:=Hd ai;have a8:=Hd a7;have Ah:=Hd ay;have HX:=Hd hx;have bP:=Hd aa;have gy:=Hd ar;rw[jy]at WR;have a6:=Hd WR
 have bf:(t.tm.op≠0∧(t.tm.op==0)=false∧bb=false)∨(t.tm.op=0∧t.tm.num≠0∧(t.tm.num==0)=false∧bb=false)∨(t.tm.op=0∧t.tm.num=0∧0<t.tm.name.size∧bb=false)∨(t.tm.op=0∧t.tm.num=0∧t.tm.name.size=0∧0<ne∧((ne:Int)==0)=false∧bb=false)∨(t.tm.op=0∧t.tm.num=0∧t.tm.name.size=0∧ne=0∧bb=true):=by
  unfold yw at G;rw[←aa]at G
  by_cases a1:t.tm.op=0
  ·by_cases a2:t.tm.num=0
   ·by_cases a3:t.tm.name.size=0
    ·by_cases a4:ne=0
     ·exact .inr (.inr (.inr (.inr ⟨a1,a2,a3,a4,by rw[G];simp[a1,a2,a3,a4]⟩)))
     ·exact .inr (.inr (.inr (.inl ⟨a1,a2,a3,by omega,by simp;omega,by rw[G];simp[a4]⟩)))
    ·exact .inr (.inr (.inl ⟨a1,a2,by omega,by rw[G];simp[a3]⟩))
   ·exact .inr (.inl ⟨a1,a2,by simpa using a2,by rw[G];simp[a2]⟩)
  ·exact .inl ⟨a1,by simpa using a1,by rw[G];simp[a1]⟩
 clear hE G ab ai a7 ay hx aa WR hK hW hV bd ae hsz ar hn bg;obtain⟨eo,aw⟩:=aj t.tm.op;obtain⟨en,av⟩:=aj t.tm.num;obtain⟨es,ax⟩:=aj t.tm.name;have bE:=Hd aw;have bC:=Hd av;have bJ:=Hd ax;rw[←aw,←av,←ax]at bf⊢;rw[←aw,←av,←ax]at a6 jy;clear aw av ax
 rcases bf with⟨a1,a2,ag⟩|⟨rfl,a2,a3,ag⟩|⟨rfl,rfl,a3,ag⟩|⟨rfl,rfl,a3,a4,a5,ag⟩|⟨rfl,rfl,a3,rfl,ag⟩
 all_goals
  (try have st1:=mY (by assumption:es.size=0))
  (try have st2:=rE (by assumption:0<es.size))
  have J4:=Hd ag;clear ag;go_in;go_wp2_with fail;refine a6.mono ?_;rintro e w3 ⟨rfl,af⟩;rw[←jy]at af;clear cw cn fw fn;have wJ:=Tc.below af Tc.lt;have LJ:=a8.below af a8.lt;have Ai:=Hd (Ah.jV af Ah.size);have az:=HX.below af HX.lt;have cw:=wJ.cell;have cn:=LJ.cell;have fw:=wJ.frozen;have fn:=LJ.frozen;have lw:=wJ.lt;have ln:=LJ.lt;have lx:=az.lt;have x0:=az.c0;have x5:=az.c5;have u_:=Hd wJ;have ba:=Hd LJ;clear wJ LJ af az;rw[←gy]at x0;go_wp2_with fail;refine(aP _).mono ?_;rintro e w' ⟨rfl,hw⟩;rw[←hw];clear hw
  by_cases O:64<d
  ·have J:Hid (E=17):=by show _=_;rw[HE,iP O]
   have bo:(64:Int)<(d:Int):=by omega
   clear O;go_wp2_with fail;go_ret;rw[J];exact⟨rfl,⟨u_.set _,fun h=>absurd h (by decide)⟩,Ai.bq (Or.inl rfl) _⟩
  ·have bo:¬(64:Int)<(d:Int):=by omega
   by_cases Y:K<0
   ·have J:Hid (E=11):=by show _=_;rw[HE,iN O,iP Y]
    clear O;go_wp2_with fail;go_ret;rw[J];exact⟨rfl,⟨u_.set _,fun h=>absurd h (by decide)⟩,Ai.bq (Or.inl rfl) _⟩
   ·by_cases D:W=0
    ·have bm:(W != 0)=false:=by simpa using D
     have bL:Hid (mF t=mF t∧(W≠0↔False)):=⟨rfl,by simp[D]⟩
     by_cases hlen:(n:Int)=K
     ·have bp:((n:Int) != K)=false:=by simpa using hlen
      by_cases I:op=1
      ·have ay:(op != 1)=false:=by simpa using I
       have HT:Hid (¬((n:Int)≠K∨(op≠1∧bb=false))):=by rintro(h|h);exact h hlen;exact h.1 I
       by_cases h4:4096<k+1
       ·have J:Hid (E=4):=by show _=_;rw[HE,iN O,iN Y,iN (by simp[D]),iN HT.out,iP h4]
        have aE:(4096:Int)<(k:Int)+1:=by omega
        clear O h4 D hlen I;go_wp2_with fail;go_ret;rw[J];exact⟨rfl,⟨u_.set _,fun h=>absurd h (by decide)⟩,Ai.bq (Or.inl rfl) _⟩
       ·have J:Hid (E=0):=by show _=_;rw[HE,iN O,iN Y,iN (by simp[D]),iN HT.out,iN h4]
        have aE:¬(4096:Int)<(k:Int)+1:=by omega
        have aJ:k+1≤4096:=by omega
        clear O h4 D hlen I;go_wp2_with fail;go_ret;rw[J];exact⟨rfl,⟨u_,fun _=>⟨u_,ba,aJ⟩⟩,Ai⟩
      ·have ay:(op != 1)=true:=by simpa using I
       first
       |(have h9:bb=false:=J4
         have J:Hid (E=3):=by show _=_;rw[HE,iN O,iN Y,iN (by simp[D]),iP (.inr ⟨I,h9⟩)]
         clear O D hlen I h9;go_wp2_with fail;go_ret;rw[J]
         exact⟨rfl,⟨u_.set _,fun h=>absurd h (by decide)⟩,Ai.bq (Or.inl rfl) _⟩)
       |(have h9:bb=true:=J4
         have HT:Hid (¬((n:Int)≠K∨(op≠1∧bb=false))):=by rintro(h|h);exact h hlen;rw[h9]at h;exact absurd h.2 (by decide)
         by_cases h4:4096<k+1
         ·have J:Hid (E=4):=by show _=_;rw[HE,iN O,iN Y,iN (by simp[D]),iN HT.out,iP h4]
          have aE:(4096:Int)<(k:Int)+1:=by omega
          clear O h4 D hlen I h9;go_wp2_with fail;go_ret;rw[J];exact⟨rfl,⟨u_.set _,fun h=>absurd h (by decide)⟩,Ai.bq (Or.inl rfl) _⟩
         ·have J:Hid (E=0):=by show _=_;rw[HE,iN O,iN Y,iN (by simp[D]),iN HT.out,iN h4]
          have aE:¬(4096:Int)<(k:Int)+1:=by omega
          have aJ:k+1≤4096:=by omega
          clear O h4 D hlen I h9;go_wp2_with fail;go_ret;rw[J]
          exact⟨rfl,⟨u_,fun _=>⟨u_,ba,aJ⟩⟩,Ai⟩)
       |fail
     ·have bp:((n:Int) != K)=true:=by simpa using hlen
      have J:Hid (E=3):=by show _=_;rw[HE,iN O,iN Y,iN (by simp[D]),iP (.inl hlen)]
      clear O D hlen;go_wp2_with fail;go_ret;rw[J];exact⟨rfl,⟨u_.set _,fun h=>absurd h (by decide)⟩,Ai.bq (Or.inl rfl) _⟩
    ·have bm:(W != 0)=true:=by simpa using D
     have bZ:(W==0)=false:=by simpa using D
     have J:Hid (E=W∧W≠0):=by
      refine⟨?_,D⟩;rw[HE,iN O,iN Y,iP D]
     clear O D;go_wp2_with fail;go_ret;rw[J.1,dF J.2];exact⟨rfl,⟨u_.set _,fun h=>absurd h (by decide)⟩,Ai.bq (Or.inl rfl) _⟩
theorem FN(t:Fm)(Ae:Option Addr)(ce:Nat)(A:Option Addr)(c:Nat)(w:World)(hV:pO w Ae ce A c t)(hsz:t.bT≤9000000) :
 Calls Tryz.prog 59 #[t.val Ae ce A c] w fun e w'=>e=.returned (.int .i64 t.check)∧Below w.heap.size w w':=by
 obtain⟨wb,G⟩:=aj (((w.alloc (.cells #[.int .i64 t.op,.int .i64 t.tm.op,.int .i64 t.tm.num,.string t.tm.name,.slice Ae t.tm.kids.length ce,.slice A t.kids.length c] 67)).alloc (.cells #[.int .i64 0] 29)).alloc (.cells #[.int .i64 0] 3));have hb1:Below w.heap.size w wb:=by rw[G];exact(((Br _ _).alloc (lr _) _).alloc (by simp) _).alloc (by simp;omega) _
 have Y:yu wb (w.heap.size+1) 29 0:=by
  rw[G];have h:=yu.new (w.alloc (.cells #[.int .i64 t.op,.int .i64 t.tm.op,.int .i64 t.tm.num,.string t.tm.name,.slice Ae t.tm.kids.length ce,.slice A t.kids.length c] 67)) 29 0;rw[show(w.alloc (.cells #[.int .i64 t.op,.int .i64 t.tm.op,.int .i64 t.tm.num,.string t.tm.name,.slice Ae t.tm.kids.length ce,.slice A t.kids.length c] 67)).heap.size=w.heap.size+1 from by simp]at h;exact h.below ((Br (w.heap.size+2) _).alloc (by simp) _) (by omega)
 have O:yu wb (w.heap.size+2) 3 0:=by
  rw[G];have h:=yu.new ((w.alloc (.cells #[.int .i64 t.op,.int .i64 t.tm.op,.int .i64 t.tm.num,.string t.tm.name,.slice Ae t.tm.kids.length ce,.slice A t.kids.length c] 67)).alloc (.cells #[.int .i64 0] 29)) 3 0;rw[show((w.alloc (.cells #[.int .i64 t.op,.int .i64 t.tm.op,.int .i64 t.tm.num,.string t.tm.name,.slice Ae t.tm.kids.length ce,.slice A t.kids.length c] 67)).alloc (.cells #[.int .i64 0] 29)).heap.size=w.heap.size+2 from by simp]at h;exact h
 have V:TD 99 #[.pointer (some ⟨w.heap.size+2,0,none⟩),.pointer (some ⟨w.heap.size+1,0,none⟩)] w.heap.size w (fun x W=>IJ (w.heap.size+1) (w.heap.size+2) x W∧x.1=0) (QE (w.heap.size+1)) dA (fun _=>10000000):=
  { enter:=fun args w=>by kernel_rfl
    fin:=fun s w h=>h.1.1
    keep:=fun s w w' h hb=>⟨⟨h.1.1.below hb h.1.1.lt,h.1.2.1.below hb h.1.2.1.lt,h.1.2.2⟩,h.2⟩
    lose:=fun s t d=>Nat.le_succ _
    call:=fun s t d Ae ce A c w' hI J hV hd _ af=>(Ur _ _ (by omega) s t d Ae ce A c w' w w.heap.size rfl (by omega) (by omega) J hI.1 hI.2 hV hd (by have:=(Fm.bK t).1;omega)).mono fun e w2 ⟨h1,h2,h3⟩=>⟨h1,⟨h2.1,fun h=>⟨h2.2 h,by
     have h':decide (nZ t d s.2=0)=true:=h;show nZ t d s.2=0
     simpa using h'⟩⟩,KT.cO h3 (fun q hq=>by omega) J.size (fun q hq cs fz he=>by
     rcases hq with rfl|rfl
     ·have D:=hI.1.1;unfold yu at D;rw[he]at D
      injection D with D
      injection D with _ D _
      exact absurd D (by decide)
     ·have D:=hI.1.2.1;unfold yu at D;rw[he]at D
      injection D with D
      injection D with _ D _
      exact absurd D (by decide))⟩}
 have ae:=Fm.size_le t;have Bv:=adb V rfl t.size t 1 Ae ce A c (0,0) wb (lr _) (by omega) hsz (by omega) hV ⟨⟨Y,O,zl _⟩,rfl⟩ hb1;rw[G]at Bv;have yj:=Hd Bv;have aa:=Hd hb1;have jy:=Hd G;unfold Fm.val at yj⊢;clear hb1 Y O V Bv G hV hsz ae;go_in;go_wp2_with fail;refine yj.mono ?_;rintro e w1 ⟨rfl,I,ho⟩;rw[←jy]at ho;have ab:yu w1 (w.heap.size+1) 29 t.check:=I.1;have HO:=Hd (aa.trans ho.below);have cw:=ab.cell;clear I ho;go_wp2_with fail;go_ret;exact⟨rfl,HO⟩
theorem Tryz.info24:(Tryz.prog.info? 55).map (fun i=>(i.zero,i.size,i.bytes))=some (some (.agg #[.int .i64 0,.int .i64 0,.string ⟨#[]⟩,.int .i64 0]),4,40):=by kernel_rfl
theorem agd(s:ByteArray)(w:World)(hs:s.size≤maxLen)(hT:Tables w) :
 Calls Tryz.prog 14 #[.string s] w fun e w'=>∃v,e=.returned (.tuple #[v,.int .i64 (all (bs s)).2.1,.int .i64 (all (bs s)).2.2])∧w'.ownsRow w.heap.size 55 4 v (all (bs s)).1.length (flat (all (bs s)).1)∧Below w.heap.size w w':=by
 have ay:=hs;unfold maxLen at ay;have HT:=Hd hT;clear hT
 by_cases h1:65536<s.size
 ·have av:(65536:Int)<(s.size:Int):=by omega
  have HA:=Hd (show all (bs s)=([],0,4)from iP (by rw[aC];exact h1));clear h1;go_in
  go_wp2
  go_ret3
  rw[HA];exact⟨_,rfl,⟨rfl,.inl ⟨rfl,rfl⟩⟩,Br _ _⟩
 ·have av:¬(65536:Int)<(s.size:Int):=by omega
  have HA:=Hd (show all (bs s)=oZ (bs s) 0 []from iN (by rw[aC];exact h1));have aQ:s.size≤65536:=by omega
  clear h1;obtain⟨i0,hi,aE,aF,aJ⟩:=info_parts Tryz.info24;go_in;go_wp2_with fail
  go_loopw [5,6] (fun sv si wr=>∃(p:Nat)(acc:List Tok),p≤s.size∧si=.int .i64 p∧wr.ownsRow w.heap.size 55 4 sv acc.length (flat acc)∧acc.length≤p∧oZ (bs s) 0 []=oZ (bs s) p acc∧Below w.heap.size w wr) (fun _ i _=>s.size-(intOf i).toNat)
  case atStart=>exact⟨0,[],zl _,rfl,⟨rfl,.inl ⟨rfl,rfl⟩⟩,zl _,rfl,Br _ _⟩
  case round=>
   obtain⟨p,acc,hp,rfl,how,a7,aa,I⟩:=hrel;have HO:=Hd how;have HL:=Hd aa;have HB:=Hd I;have hsz:=I.size;have ai:=HT.below I;have HN:=Hd (ac0 s p wr hs ai);clear how aa I ai;rw[Dz (by rw[aC];exact hp)]at HN;have hok:=Gh (l:=bs s) (p:=p) (by rw[aC];exact hp);have ab:=Cb (l:=bs s) (p:=p) (acc:=acc);have ae:=JL (l:=bs s) (p:=p) (acc:=acc);have O:=Aw (l:=bs s) (p:=p) (acc:=acc) (by rw[aC];exact hp);rw[aC]at hok;have BQ:=Hd hok;have Cn:=Hd ab;have af:=Hd ae;have Us:=Hd O;clear hok ab ae O
   generalize next (bs s) p=x at *
   obtain⟨⟨tk,tn,tt,ta⟩,q,e⟩:=x;unfold aaA Tok.val Tok.cells at HN
   dsimp only at HN BQ Cn af Us
   by_cases he:e=0
   ·subst he;have hok:=BQ rfl
    by_cases hk:tk=5
    ·have HE:=Hd (Cn rfl hk);subst hk;clear hok;go_wp2_with fail;refine HN.mono ?_;rintro e w2 ⟨rfl,D⟩;have G:=Hd D;clear D
     go_wp2
     go_ret3
     rw[HA,HL,HE];exact⟨_,rfl,ownsRow_below HO (G.alloc G.size _),HB.trans ((G.alloc G.size _).mono hsz)⟩
    ·have HE:=Hd (Us rfl hk);have a6:(tk==5)=false:=by simpa using hk
     have ar:p<q∧q≤s.size:=by
      rcases hok with⟨h,_⟩|⟨_,h1,h2⟩
      ·exact absurd h hk
      ·exact⟨h1,h2⟩
     obtain⟨ar,ax⟩:=ar;clear hok hk;go_wp2_with fail;refine HN.mono ?_;rintro e w2 ⟨rfl,D⟩;have G:=Hd D;have az:=D.size;have ag:=Hd (D.alloc D.size (.cells #[.int .i64 tk,.int .i64 tn,.string ⟨tt.toArray⟩,.int .i64 ta] 55));have Ah:=Hd (ownsRow_below HO ag.out);have ao:=(ownsRow_below HO D).lt;have aP:=Hd ao;clear D ao
     go_wp2_with (at_builtin;refine wpList_append_own _ rfl _ _ 46 rfl w.heap.size 55 i0 _ 4 40 Tryz.underlying46 hi aE aF aJ rfl (by decide) _ _ _ rfl (Ah.alloc _) ⟨w2.heap.size+1,0,none⟩ 1 1 (Ow ⟨tk,tn,tt,ta⟩) rfl rfl ?c1 ?c2 ?c3 ?c4 ?c5 ?_)
     case c1=>exact World.news_of_block (cs:=#[.int .i64 tk,.int .i64 tn,.string ⟨tt.toArray⟩,.int .i64 ta]) (t:=55) (fr:=(0,0)) (by have:=eu (w2.alloc (.cells #[.int .i64 tk,.int .i64 tn,.string ⟨tt.toArray⟩,.int .i64 ta] 55)) (.cells #[.int .i64 tk,.int .i64 tn,.string ⟨tt.toArray⟩,.int .i64 ta] 55);simpa using this)
     case c2=>
      intro q hq;simp[Ow]at hq
      rcases hq with rfl|rfl|rfl|rfl<;>rfl
     case c3=>unfold maxLen;omega
     case c4=>omega
     case c5=>simp;omega
     intro v' w3 Y J _;have aw:=Hd J;have Ai:=Hd Y;clear Y J
     go_wp2
     go_roundw
     case rel=>
      refine⟨q,acc++[⟨tk,tn,tt,ta⟩],ax,rfl,?_,?_,?_,?_⟩
      ·rw[O7,List.length_append];exact Ai
      ·rw[List.length_append];simp;omega
      ·rw[HL,HE]
      ·refine((HB.trans (ag.out.mono hsz)).alloc (by simp;omega) _).grown aw.out (by simp;omega) (fun q hq=>?_);exact(Ah.lt q hq).1
     case measure=>simp[intOf];omega
   ·have aS:(e==0)=false:=by simpa using he
    have HE:=Hd (af he);clear he;go_wp2_with fail;refine HN.mono ?_;rintro e w2 ⟨rfl,D⟩;have G:=Hd D;clear D
    go_wp2
    go_ret3
    rw[HA,HL,HE];exact⟨_,rfl,⟨rfl,.inl ⟨rfl,rfl⟩⟩,HB.trans ((G.alloc G.size _).mono hsz)⟩
theorem Rv{w:World}{B:Nat}{v:Value}{l:List Tok}(hB:0<l.length∨True)(h:w.ownsRow B 55 4 v l.length (flat l))(hok:∀t∈l,Mf t)(hs:xU l≤65536):∃A c,v=.slice A l.length c∧dP w A c l:=by
 have hlen:=zL hok;have G:∀t∈l,t.text.length≤100000:=fun t ht=>by have:=TG ht;omega
 have D:∀t∈l,-1000000≤t.n∧t.n≤1000000:=fun t ht=>by have h1:=(hok t ht).n0;have h2:=(hok t ht).n1;omega
 rcases h.2 with⟨h1,h2⟩|⟨g,cap,cur,hv,hb,O,J,I,Y,aa⟩
 ·exact⟨none,0,by rw[h1,h2],⟨.inl (List.length_eq_zero_iff.1 h2),by omega,by unfold maxLen;omega,by omega,G,D,fun a ha=>by cases ha⟩⟩
 ·refine⟨some ⟨g,0,none⟩,cap,hv,⟨.inr ⟨g,0,rfl,lH O,fun k z hz j hj=>?_⟩,J,I,by omega,G,D,fun a ha=>by cases ha;exact lH O⟩⟩;have hc:=h.cells (g:=g) (by rw[hv];rfl) (k*4+j) (fZ z j) (flat_get hz hj);rw[addr_add]at hc;rw[Nat.zero_add]at hc⊢;exact hc
set_option linter.unusedSimpArgs false
theorem qN{o:Array Oper}{i:Nat}{x:Oper}(h:o.toList[i]?=some x):o[i]?=some x:=by simpa using h
def Yt(w:World)(r:Fm×Nat×Int)(e:Ending)(w':World):Prop:=∃x:FV,e=.returned (.tuple #[x.val,.int .i64 (r.2.1:Nat),.int .i64 r.2.2])∧x.Is (fun q=>w.heap.size≤q) w' r.1∧Below w.heap.size w w'
def ajw(i:Nat)(r:Rs Fm):Fm×Nat×Int:=match r with
 |.bad j e=>(vg,j,e)
 |.ok f j=>if f.check=0 then(f,j,0)else(vg,i,f.check)
theorem y8(tm:Array Value)(D:Nat)(z1 z2:Value)(G I J O Y u5:Value)(w:World)(h2:tm[4]?=some (.pointer (some ⟨D,0,none⟩)))(h3:tm[5]?=some z1)(h4:tm[6]?=some z2)(h:w.heap[D]?=some (.cells #[G,I,J,O,Y,u5] 67 (0,0))) :
 (results Tryz.f82 tm).run Tryz.prog w=.ok (.tuple #[.agg #[G,I,J,O,Y,u5],z1,z2]) w:=by
 obtain⟨y0,y1,y2,y3,y4,y5,-⟩:=q6 h;unfold results;rw[Tryz.results82];simp only[Array.getD_eq_getD_getElem?];simp[h2,h3,h4,go_sem,y0,y1,y2,y3,y4,y5]
theorem ab1(l:List Tok)(A:Option Addr)(c i:Nat)(w:World)(hi:i≤l.length)(hT:dP w A c l) :
 Calls Tryz.prog 82 #[.slice A l.length c,.int .i64 (i:Nat)] w (Yt w (nN l i)):=by
 have hlen:=hT.len;have aF:=hT.cap;have aQ:=hT.bU;unfold maxLen at aQ;obtain⟨n,hn⟩:=aj l.length;obtain⟨F,hF⟩:=aj (Yt w (nN l i));rw[←hF];obtain⟨I,aE⟩:=aj w.heap.size;obtain⟨R,hR⟩:=aj (w.heap.size+1);obtain⟨w2,ab⟩:=aj ((w.alloc (.cells #[.int .i64 0,.int .i64 0,.int .i64 0,.string ⟨#[]⟩,.slice none 0 0,.slice none 0 0] 67)).alloc (.cells #[.slice A n c,.int .i64 (i:Nat),.int .i64 0,.int .i64 0] 192));have az:Below w.heap.size w w2:=by rw[ab];exact((Br _ _).alloc (lr _) _).alloc (by simp) _
 have bh:w2.heap[I]?=some (.cells #[.int .i64 0,.int .i64 0,.int .i64 0,.string ⟨#[]⟩,.slice none 0 0,.slice none 0 0] 67 (0,0)):=by rw[ab,aE];exact aK (eu w _)
 have bf:kK w2 R A l.length c i 0 0:=by
  have h:=eu (w.alloc (.cells #[.int .i64 0,.int .i64 0,.int .i64 0,.string ⟨#[]⟩,.slice none 0 0,.slice none 0 0] 67)) (.cells #[.slice A n c,.int .i64 (i:Nat),.int .i64 0,.int .i64 0] 192);rw[ab,hR,←hn];unfold kK
  simpa using h
 have J:=(aaX R A c l 256 0 rfl).form i w2 hi bf (hT.pt az (by omega));obtain⟨r,hr⟩:=aj ((lJ l 256).form i);rw[←hr]at J;have bE:Hid (F=Yt w (ajw i r)):=by show _=_;rw[hF,hr];rfl
 have Tq:Hid (∀t j,r=.ok t j→VP l i t j):=fun t j h=>(yx l 256).form i t j (by rw[←hr];exact h);have a6:Hid (∀j x,r=.bad j x→x≠0):=fun j x h=>(yA l 256).form i j x (by rw[←hr];exact h);have HC:=Hd J;have bk:=Hd ab;have qY:=Hd aE;have bi:=Hd hR;have HB:=Hd az;have X4:=Hd bh;have HN:=Hd hn;have bC:w2.heap.size=R+1:=by rw[ab,hR];simp
 rw[←hn]at hi hlen aF⊢;have bv:¬(i:Int)<0:=by omega
 have bw:¬(n:Int)<(i:Int):=by omega
 have av:I≠R:=by omega
 have Y:w.heap.size≤I:=by omega
 have bu:w.heap.size≤R:=by omega
 clear hF aE hR ab az bh bf J hr hn hT;go_in;go_wp2_with fail;rw[←bk,←bi,←qY];refine HC.mono ?_;rintro e w3 ⟨x,rfl,hx,VU,aP⟩;unfold FV.val;have bn:I<w2.heap.size:=lH X4;have ax:=(aP.block I bn av).trans X4;have bd:Below w.heap.size w w3:=(Ob (F:=fun q=>w.heap.size≤q) HB).trans (aP.mono (fun q h=>by show w.heap.size≤q;omega))|>.below (fun q h=>h) (lr _);obtain⟨j,hj⟩:=aj r.at_;obtain⟨y,hy⟩:=aj r.err;rw[←hj,←hy]at VU;obtain⟨w4,ae⟩:=aj (((((((w3.setCell ⟨I,0,none⟩ (.int .i64 x.o)).setCell ⟨I,1,none⟩ (.int .i64 x.tn)).setCell ⟨I,2,none⟩ (.int .i64 x.tm)).setCell ⟨I,3,none⟩ (.string x.s)).setCell ⟨I,4,none⟩ (.slice x.Ae x.ne x.ce)).setCell ⟨I,5,none⟩ (.slice x.A x.n x.c)));have af:Hid (w4.heap[I]?=some (.cells #[.int .i64 x.o,.int .i64 x.tn,.int .i64 x.tm,.string x.s,.slice x.Ae x.ne x.ce,.slice x.A x.n x.c] 67 (0,0))):=by show _=_;rw[ae];exact jD ax
 have dQ:Hid (kK w4 R A l.length c j 0 y):=by show kK _ _ _ _ _ _ _ _;rw[ae];exact(jH (Ne.symm av)).trans VU
 have BS:Hid (Below w.heap.size w w4):=by
  show Below _ _ _;rw[ae];exact(((((((Ob (F:=fun q=>w.heap.size≤q) bd).bq Y _).bq Y _).bq Y _).bq Y _).bq Y _).bq Y _).below (fun q h=>h) (lr _)
 have a8:Hid (∀t k,r=.ok t k→x.Is (fun q=>w2.heap.size≤q) w4 t):=fun t k h=>by rw[ae];exact(hx t k h).keep (mO Kr (by omega)) (fun _ _ h=>h)
 have bb:=Hd ax;have ar:=Hd VU;have Uq:=Hd ae;have bz:=lH ax
 have VW:Hid (y≠0→r=.bad j y):=by
  intro h
  cases hc:r with
  |bad a b=>rw[hc]at hj hy;rw[hj,hy];rfl
  |ok f k=>rw[hc]at hy;exact absurd hy h
 have a7:Hid (y=0→∃f,r=.ok f j):=by
  intro h
  cases hc:r with
  |bad a b=>rw[hc]at hy;exact absurd (show b=0 from hy.symm.trans h) (a6 a b hc)
  |ok f k=>rw[hc]at hj;exact⟨f,by rw[hj];rfl⟩
 clear hx VU aP ax bd ae hj hy HC X4 HB
 by_cases ao:y=0
 ·obtain⟨f,hf⟩:=a7 ao;subst ao;have aJ:=Tq f j hf;have aw:=a8 f j hf;have dJ:Hid (F=Yt w (if f.check=0 then(f,j,0)else(vg,i,f.check))):=by show _=_;rw[bE,hf];rfl
  have ba:=Hd aw;have bg:f.bT≤9000000:=by have h1:=aJ.sz;have h2:=aJ.jl;have h3:=HN.out;omega
  have aa:=FN f x.Ae x.ce x.A x.c w4 aw.v.toV bg;have hval:=aw.val;unfold FV.val at hval;rw[←hval]at aa;have IC:=Hd aa;clear aJ aw bg aa hval hf Tq a6 VW a7 a8;obtain⟨v0,v1,v2,v3,v4,v5,bW⟩:=q6 bb;obtain⟨-,-,-,e3,-⟩:=q4 ar;have aS:=ar.lt;go_wp2_with fail;clear e3;rw[←Uq];clear v0 bW v1 v2 v3 v4 v5;obtain⟨-,-,-,e3,-⟩:=q4 dQ;have MP:=dQ.lt;obtain⟨v0,v1,v2,v3,v4,v5,bW⟩:=q6 af;have bp:=lH af;(try go_wp2_with fail);refine IC.mono ?_;rintro e w5 ⟨rfl,ai⟩;clear e3 v0 bW v1 v2 v3 v4 v5;have ag:=kX ai af;have bl:=Hd (dQ.below ai dQ.lt);have pU:=kB BS ai;have bm:Hid (x.Is (fun q=>w2.heap.size≤q) w5 f):=ba.keep (Kb ai) (fun _ _ h=>h);clear ai IC af dQ BS ba
  by_cases hz:f.check=0
  ·rw[hz];have pR:Hid (F=Yt w (f,j,0)):=by show _=_;rw[dJ,iP hz]
   clear hz;go_wp2_with fail;refine wp_region_held_drew (S:=fun w'=>kK w' R A l.length c j 0 0∧w'.heap[I]?=some (.cells #[.int .i64 x.o,.int .i64 x.tn,.int .i64 x.tm,.string x.s,.slice x.Ae x.ne x.ce,.slice x.A x.n x.c] 67 (0,0))) (by kernel_rfl) ⟨bl,ag⟩ (fun G=>?_);obtain⟨wd,hwd⟩:=aj w5.drew;have YD:Hid (wd.heap[I]?=some (.cells #[.int .i64 x.o,.int .i64 x.tn,.int .i64 x.tm,.string x.s,.slice x.Ae x.ne x.ce,.slice x.A x.n x.c] 67 (0,0))):=by show _=_;rw[hwd];exact ag
   have ay:Hid (Below w.heap.size w wd):=by show Below _ _ _;rw[hwd];exact pU.drew
   have OO:Hid (x.Is (fun q=>w2.heap.size≤q) wd f):=by show FV.Is _ _ _ _;rw[hwd];exact bm.keep ⟨lr _,fun _ _ _=>rfl⟩ (fun _ _ h=>h)
   rw[←hwd]at G⊢;clear hwd;refine gJ 0 (v:=?_) (qN rfl) (Or.inl ⟨by rfl,?hy⟩) (by assumption) ?_
   case hy=>
    intro w0 D;obtain⟨-,h1,-⟩:=q4 D.1;obtain⟨k0,k1,k2,k3,k4,k5,-⟩:=q6 D.2;clear D;go_simp
    (first|done|with_reducible rfl)
   (try simp only[Act.put,aT,aU,aV]);refine gJ 1 (v:=?_) (qN rfl) (Or.inl ⟨by rfl,?hy⟩) (by assumption) ?_
   case hy=>
    intro w0 D;obtain⟨-,h1,-⟩:=q4 D.1;obtain⟨k0,k1,k2,k3,k4,k5,-⟩:=q6 D.2;clear D;go_simp
    (first|done|with_reducible rfl)
   (try simp only[Act.put,aT,aU,aV]);refine gJ 2 (v:=?_) (qN rfl) (Or.inl ⟨by rfl,?hy⟩) (by assumption) ?_
   case hy=>
    intro w0 D;obtain⟨-,h1,-⟩:=q4 D.1;obtain⟨k0,k1,k2,k3,k4,k5,-⟩:=q6 D.2;clear D;go_simp
    (first|done|with_reducible rfl)
   (try simp only[Act.put,aT,aU,aV]);refine gJ 3 (v:=?_) (qN rfl) (Or.inl ⟨by rfl,?hy⟩) (by assumption) ?_
   case hy=>
    intro w0 D;obtain⟨-,h1,-⟩:=q4 D.1;obtain⟨k0,k1,k2,k3,k4,k5,-⟩:=q6 D.2;clear D;go_simp
    (first|done|with_reducible rfl)
   (try simp only[Act.put,aT,aU,aV]);refine gJ 4 (v:=?_) (qN rfl) (Or.inl ⟨by rfl,?hy⟩) (by assumption) ?_
   case hy=>
    intro w0 D;obtain⟨-,h1,-⟩:=q4 D.1;obtain⟨k0,k1,k2,k3,k4,k5,-⟩:=q6 D.2;clear D;go_simp
    (first|done|with_reducible rfl)
   (try simp only[Act.put,aT,aU,aV]);refine Rd (rs:=[5]) (by kernel_rfl) (by simp) ?_;refine Rc (qN rfl) (fun K hK=>?_) Rn;obtain⟨v0,v1,v2,v3,v4,v5,bW⟩:=q6 YD;go_simp;clear v0 bW v1 v2 v3 v4 v5;refine hK.out _ _ (⟨(jH (Ne.symm av)).trans G.1,jD G.2⟩) (fun G=>?_);clear hK K;(try simp only[Act.put,aT,aU,aV]);refine gJ 6 (v:=?_) (qN rfl) (Or.inl ⟨by rfl,?hy⟩) (by assumption) ?_
   case hy=>
    intro w0 D;obtain⟨-,h1,-⟩:=q4 D.1;obtain⟨k0,k1,k2,k3,k4,k5,-⟩:=q6 D.2;clear D;go_simp
    (first|done|with_reducible rfl)
   (try simp only[Act.put,aT,aU,aV]);refine gJ 7 (v:=?_) (qN rfl) (Or.inl ⟨by rfl,?hy⟩) (by assumption) ?_
   case hy=>
    intro w0 D;obtain⟨-,h1,-⟩:=q4 D.1;obtain⟨k0,k1,k2,k3,k4,k5,-⟩:=q6 D.2;clear D;go_simp
    (first|done|with_reducible rfl)
   (try simp only[Act.put,aT,aU,aV]);refine wpAnyH_done (by kernel_rfl) ?_ _;clear G;go_wp2_with fail;obtain⟨WW,O⟩:=aj (((((((wd.setCell ⟨I,0,none⟩ (.int .i64 x.o)).setCell ⟨I,1,none⟩ (.int .i64 x.tn)).setCell ⟨I,2,none⟩ (.int .i64 x.tm)).setCell ⟨I,3,none⟩ (.string x.s)).setCell ⟨I,4,none⟩ (.slice x.Ae x.ne x.ce)).setCell ⟨I,5,none⟩ (.slice x.A x.n x.c)));have hrow:WW.heap[I]?=some (.cells #[.int .i64 x.o,.int .i64 x.tn,.int .i64 x.tm,.string x.s,.slice x.Ae x.ne x.ce,.slice x.A x.n x.c] 67 (0,0)):=by rw[O];exact jD YD
   have J4:Hid (Below w.heap.size w WW):=by
    show Below _ _ _;rw[O];have hb:w.heap.size≤I:=by rw[qY];exact lr _
    exact(((((((Ob (F:=fun q=>w.heap.size≤q) ay).bq hb _).bq hb _).bq hb _).bq hb _).bq hb _).bq hb _).below (fun q h=>h) (lr _)
   have bj:Hid (x.Is (fun q=>w.heap.size≤q) WW f):=by
    show FV.Is _ _ _ _;rw[O];exact OO.keep (mO Kr (by have:=qY.out;omega)) (fun q _ h=>by omega)
   rw[←O];clear O;refine bR (y8 _ I _ _ _ _ _ _ _ _ _ rfl rfl rfl hrow) rfl ?_;rw[pR];exact⟨x,rfl,bj,J4⟩
  ·have bo:(f.check != 0)=true:=by simpa using hz
   have pR:Hid (F=Yt w (vg,i,f.check)):=by show _=_;rw[dJ,iN hz]
   obtain⟨ck,aa⟩:=aj f.check;rw[←aa]at bo pR⊢;clear hz aa;obtain⟨v0,v1,v2,v3,v4,v5,bW⟩:=q6 ag;have br:=lH ag;go_wp2_with fail;clear v0 bW v1 v2 v3 v4 v5;obtain⟨WW,O⟩:=aj (((((((w5.setCell ⟨I,0,none⟩ (.int .i64 0)).setCell ⟨I,1,none⟩ (.int .i64 0)).setCell ⟨I,2,none⟩ (.int .i64 0)).setCell ⟨I,3,none⟩ (.string ⟨#[]⟩)).setCell ⟨I,4,none⟩ (.slice none 0 0)).setCell ⟨I,5,none⟩ (.slice none 0 0)));have hrow:WW.heap[I]?=some (.cells #[.int .i64 0,.int .i64 0,.int .i64 0,.string ⟨#[]⟩,.slice none 0 0,.slice none 0 0] 67 (0,0)):=by rw[O];exact jD ag
   have J4:Hid (Below w.heap.size w WW):=by
    show Below _ _ _;rw[O];have hb:w.heap.size≤I:=by rw[qY];exact lr _
    exact(((((((Ob (F:=fun q=>w.heap.size≤q) pU).bq hb _).bq hb _).bq hb _).bq hb _).bq hb _).bq hb _).below (fun q h=>h) (lr _)
   rw[←O];clear O;refine bR (y8 _ I _ _ _ _ _ _ _ _ _ rfl rfl rfl hrow) rfl ?_;rw[pR];exact⟨FV.zero,rfl,FV.G9,J4⟩
 ·have bJ:(y != 0)=true:=by simpa using ao
  have dJ:Hid (F=Yt w (vg,j,y)):=by show _=_;rw[bE,VW ao];rfl
  clear ao;obtain⟨v0,v1,v2,v3,v4,v5,bW⟩:=q6 bb;obtain⟨-,-,-,e3,-⟩:=q4 ar;have aS:=ar.lt;go_wp2_with fail;clear e3;rw[←Uq];clear v0 bW v1 v2 v3 v4 v5;obtain⟨-,-,-,e3,-⟩:=q4 dQ;have MP:=dQ.lt;(try go_wp2_with fail);clear e3;refine wp_region_held_drew (S:=fun w'=>kK w' R A l.length c j 0 y) (by kernel_rfl) dQ (fun G=>?_);obtain⟨wd,hwd⟩:=aj w4.drew;have YD:Hid (wd.heap[I]?=some (.cells #[.int .i64 x.o,.int .i64 x.tn,.int .i64 x.tm,.string x.s,.slice x.Ae x.ne x.ce,.slice x.A x.n x.c] 67 (0,0))):=by show _=_;rw[hwd];exact af
  have ay:Hid (Below w.heap.size w wd):=by show Below _ _ _;rw[hwd];exact BS.drew
  rw[←hwd]at G⊢;clear hwd;refine gJ 0 (v:=?_) (qN rfl) (Or.inl ⟨by rfl,?hy⟩) (by assumption) ?_
  case hy=>
   intro w0 D;obtain⟨-,h1,-,h3,-⟩:=q4 D;clear D;go_simp
   (first|done|with_reducible rfl)
  (try simp only[Act.put,aT,aU,aV]);refine gJ 1 (v:=?_) (qN rfl) (Or.inl ⟨by rfl,?hy⟩) (by assumption) ?_
  case hy=>
   intro w0 D;obtain⟨-,h1,-,h3,-⟩:=q4 D;clear D;go_simp
   (first|done|with_reducible rfl)
  (try simp only[Act.put,aT,aU,aV]);refine gJ 2 (v:=?_) (qN rfl) (Or.inl ⟨by rfl,?hy⟩) (by assumption) ?_
  case hy=>
   intro w0 D;obtain⟨-,h1,-,h3,-⟩:=q4 D;clear D;go_simp
   (first|done|with_reducible rfl)
  (try simp only[Act.put,aT,aU,aV]);refine gJ 3 (v:=?_) (qN rfl) (Or.inl ⟨by rfl,?hy⟩) (by assumption) ?_
  case hy=>
   intro w0 D;obtain⟨-,h1,-,h3,-⟩:=q4 D;clear D;go_simp
   (first|done|with_reducible rfl)
  (try simp only[Act.put,aT,aU,aV]);refine gJ 4 (v:=?_) (qN rfl) (Or.inl ⟨by rfl,?hy⟩) (by assumption) ?_
  case hy=>
   intro w0 D;obtain⟨-,h1,-,h3,-⟩:=q4 D;clear D;go_simp
   (first|done|with_reducible rfl)
  (try simp only[Act.put,aT,aU,aV]);refine gJ 5 (v:=?_) (qN rfl) (Or.inl ⟨by rfl,?hy⟩) (by assumption) ?_
  case hy=>
   intro w0 D;obtain⟨-,h1,-,h3,-⟩:=q4 D;clear D;go_simp
   (first|done|with_reducible rfl)
  (try simp only[Act.put,aT,aU,aV]);refine gJ 6 (v:=?_) (qN rfl) (Or.inl ⟨by rfl,?hy⟩) (by assumption) ?_
  case hy=>
   intro w0 D;obtain⟨-,h1,-,h3,-⟩:=q4 D;clear D;go_simp
   (first|done|with_reducible rfl)
  (try simp only[Act.put,aT,aU,aV]);refine gJ 7 (v:=?_) (qN rfl) (Or.inl ⟨by rfl,?hy⟩) (by assumption) ?_
  case hy=>
   intro w0 D;obtain⟨-,h1,-,h3,-⟩:=q4 D;clear D;go_simp
   (first|done|with_reducible rfl)
  (try simp only[Act.put,aT,aU,aV]);refine gJ 8 (v:=?_) (qN rfl) (Or.inl ⟨by rfl,?hy⟩) (by assumption) ?_
  case hy=>
   intro w0 D;obtain⟨-,h1,-,h3,-⟩:=q4 D;clear D;go_simp
   (first|done|with_reducible rfl)
  (try simp only[Act.put,aT,aU,aV]);refine Rd (rs:=[9]) (by kernel_rfl) (by simp) ?_;refine Rc (qN rfl) (fun K hK=>?_) Rn;obtain⟨v0,v1,v2,v3,v4,v5,bW⟩:=q6 YD;go_simp;clear v0 bW v1 v2 v3 v4 v5;refine hK.out _ _ ((jH (Ne.symm av)).trans G) (fun G=>?_);clear hK K;(try simp only[Act.put,aT,aU,aV]);refine gJ 10 (v:=?_) (qN rfl) (Or.inl ⟨by rfl,?hy⟩) (by assumption) ?_
  case hy=>
   intro w0 D;obtain⟨-,h1,-,h3,-⟩:=q4 D;clear D;go_simp
   (first|done|with_reducible rfl)
  (try simp only[Act.put,aT,aU,aV]);refine gJ 11 (v:=?_) (qN rfl) (Or.inl ⟨by rfl,?hy⟩) (by assumption) ?_
  case hy=>
   intro w0 D;obtain⟨-,h1,-,h3,-⟩:=q4 D;clear D;go_simp
   (first|done|with_reducible rfl)
  (try simp only[Act.put,aT,aU,aV]);refine wpAnyH_done (by kernel_rfl) ?_ _;clear G;go_wp2_with fail;obtain⟨WW,O⟩:=aj (((((((wd.setCell ⟨I,0,none⟩ (.int .i64 0)).setCell ⟨I,1,none⟩ (.int .i64 0)).setCell ⟨I,2,none⟩ (.int .i64 0)).setCell ⟨I,3,none⟩ (.string ⟨#[]⟩)).setCell ⟨I,4,none⟩ (.slice none 0 0)).setCell ⟨I,5,none⟩ (.slice none 0 0)));have hrow:WW.heap[I]?=some (.cells #[.int .i64 0,.int .i64 0,.int .i64 0,.string ⟨#[]⟩,.slice none 0 0,.slice none 0 0] 67 (0,0)):=by rw[O];exact jD YD
  have J4:Hid (Below w.heap.size w WW):=by
   show Below _ _ _;rw[O];have hb:w.heap.size≤I:=by rw[qY];exact lr _
   exact(((((((Ob (F:=fun q=>w.heap.size≤q) ay).bq hb _).bq hb _).bq hb _).bq hb _).bq hb _).bq hb _).below (fun q h=>h) (lr _)
  rw[←O];clear O;refine bR (y8 _ I _ _ _ _ _ _ _ _ _ rfl rfl rfl hrow) rfl ?_;rw[dJ];exact⟨FV.zero,rfl,FV.G9,J4⟩
end Go.Proofs.YtkhoeoilamddaaaGreatDoor
