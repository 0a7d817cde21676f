/- Walks of the reference of formulas: ref32.Kids, nothing, one, walk, Check. -/
import Derived.Test.YtkhoeoilamddaaaGreatDoorYRefB
import Derived.Test.YtkhoeoilamddaaaGreatDoorYFrmB
namespace Go.Proofs.YtkhoeoilamddaaaGreatDoor
open Go.RowKit
set_option linter.unusedVariables false
set_option maxRecDepth 100000
set_option maxHeartbeats 8000000
theorem ZN(op:Int)(w:World) :
 Calls Tryz.prog 186 #[.int .i64 op] w fun e w'=>e=.returned (.int .i64 (bV op))∧w=w':=by
 obtain⟨r,HR⟩:=ak (bV op);rw[←HR];go_in
 go_wp2
 all_goals
  go_ret;rw[HR];refine⟨?_,rfl⟩
  simp_all[bV]
theorem Si(op n:Int)(s:ByteArray)(A:Option Addr)(k c:Nat)(w:World)(hs:s.size≤maxLen)(hk:k≤maxLen) :
 Calls Tryz.prog 188 #[.agg #[.int .i64 op,.int .i64 n,.string s,.slice A k c]] w fun e w'=>e=.returned (.bool (decide (op=0)&&decide (n=0)&&decide (s.size=0)&&decide (k=0)))∧Below w.heap.size w w':=by
 unfold maxLen at hs hk;obtain⟨F,hF⟩:∃F:Ending→World→Prop,F=fun e w'=>e=.returned (.bool (decide (op=0)&&decide (n=0)&&decide (s.size=0)&&decide (k=0)))∧Below w.heap.size w w':=⟨_,rfl⟩;rw[←hF];have HF:=Hd hF;have HB:=Hd ((Br w.heap.size w).alloc (lr _) (.cells #[.int .i64 op,.int .i64 n,.string s,.slice A k c] 64));clear hF
 by_cases h0:op=0
 ·subst h0
  by_cases h1:n=0
  ·subst h1
   rcases Nat.eq_zero_or_pos s.size with h2|h2
   ·have e2:=LD h2;have e3:=mY h2;have H2:=Hd h2;clear h2
    by_cases h3:k=0
    ·subst h3;go_in
     go_wp2
     rw[HF];exact⟨by rw[H2];rfl,HB⟩
    ·have h3':((k:Int)==0)=false:=by simp;omega
     have H3:=Hd h3;clear h3;go_in
     go_wp2
     rw[HF];exact⟨by rw[dF H3.out];simp,HB⟩
   ·have e3:=rE h2;have H2:=Hd h2;clear h2;go_in
    go_wp2
    rw[HF];exact⟨by rw[dF (show ¬s.size=0 by have:=H2.out;omega)];simp,HB⟩
  ·have h1':(n==0)=false:=by simpa using h1
   have H1:=Hd h1;clear h1;go_in
   go_wp2
   rw[HF];exact⟨by rw[dF H1.out];simp,HB⟩
 ·have h1':(op==0)=false:=by simpa using h0
  have H1:=Hd h0;clear h0;go_in
  go_wp2
  rw[HF];exact⟨by rw[dF H1.out];simp,HB⟩
theorem oK{B:Nat}{a w:World}(h:Below B a w)(n:Nat):Below B a (w.drewN n):=⟨h.os,h.tape,h.output,h.size,h.block⟩
def FWQ(X:(Int×Nat)×Bool)(w:World)(e:Ending)(w':World):Prop:=∃a:Nat,e=.returned (.tuple #[.int .i64 X.1.1,.int .i64 a])∧(X.1.1=0→a=X.1.2)∧a≤5000∧Below w.heap.size w w'
def Kc(f:Fm):Int:=if bV f.op<0 then 11 else if mF f≠0 then mF f else if (f.kids.length:Int)≠bV f.op∨(f.op≠1∧yw f.tm=false)then 3 else 0
theorem ZO(f:Fm)(d n:Nat):nZ f d n=if 64<d then 17 else if Kc f≠0 then Kc f else if 4096<n+1 then 4 else 0:=by
 unfold nZ Kc
 by_cases h1:64<d
 ·simp[h1]
 ·by_cases h2:bV f.op<0
  ·simp[h1,h2]
  ·by_cases h3:mF f=0
   ·by_cases h4:(f.kids.length:Int)≠bV f.op∨(f.op≠1∧yw f.tm=false)
    ·simp only[h1,h2,h3,h4,if_true,if_false,ne_eq,not_true_eq_false];simp
    ·simp only[h1,h2,h3,h4,if_false,ne_eq,not_true_eq_false]
   ·simp[h1,h2,h3]
theorem ae9(t:Fm)(Ae:Option Addr)(ce:Nat)(A:Option Addr)(c:Nat)(w:World)(hV:pO w Ae ce A c t)(hsz:t.tm.size≤9000000) :
 Calls Tryz.prog 168 #[t.val Ae ce A c] w fun e w'=>e=.returned (.int .i64 (Kc t))∧Below w.heap.size w w':=by
 obtain⟨n,hn⟩:=aj t.kids.length;obtain⟨ne,hne⟩:=aj t.tm.kids.length;obtain⟨wb,hwb⟩:=aj (w.alloc (.cells #[.int .i64 t.op,.int .i64 t.tm.op,.int .i64 t.tm.num,.string t.tm.name,.slice Ae ne ce,.slice A n c] 67));have hb1:=dz hwb;have hbx:iJ wb w.heap.size Ae ne ce A n c t:=by rw[hwb];exact eu w _
 have hsb:w.heap.size<wb.heap.size:=by rw[hwb];simp
 have hcap:=hV.cap;have aQ:=hV.bU;have ajV:=hV.tm.cap;have aiq:=hV.tm.bU;have hnm:=hV.tm.name;unfold maxLen at aQ aiq hnm
 have IC:Hid (∀W,Below wb.heap.size wb W→Calls Tryz.prog 108 #[.agg #[.int .i64 t.tm.op,.int .i64 t.tm.num,.string t.tm.name,.slice Ae ne ce]] W fun e w'=>e=.returned (.int .i64 t.tm.check)∧Below W.heap.size W w'):=fun W hb=>by
  have h:=F9 t.tm Ae ce W ((hV.tm.below hb1 rfl).below hb rfl) hsz;unfold Tm.val at h;rw[←hne]at h;exact h
 have xR:Hid (∀W,Below wb.heap.size wb W→Calls Tryz.prog 187 #[.agg #[.int .i64 t.tm.op,.int .i64 t.tm.num,.string t.tm.name,.slice Ae ne ce]] W (ae7 t.tm W)):=fun W hb=>by
  have h:=Vl t.tm Ae ce W ((hV.tm.below hb1 rfl).below hb rfl) hsz;unfold Tm.val at h;rw[←hne]at h;exact h
 have HNO:Hid (∀W,Calls Tryz.prog 188 #[.agg #[.int .i64 t.tm.op,.int .i64 t.tm.num,.string t.tm.name,.slice Ae ne ce]] W fun e w'=>e=.returned (.bool (yw t.tm))∧Below W.heap.size W w'):=fun W=>by
  have h:=Si t.tm.op t.tm.num t.tm.name Ae t.tm.kids.length ce W hV.tm.name (Nat.le_trans hV.tm.cap hV.tm.bU);rw[←hne]at h;refine h.mono fun e w' ⟨h1,h2⟩=>⟨?_,h2⟩;rw[h1,hne];rfl
 unfold Fm.val;rw[←hn,←hne];rw[←hn]at hcap;rw[←hne]at ajV;obtain⟨F,hF⟩:∃F:Ending→World→Prop,F=fun e w'=>e=.returned (.int .i64 (Kc t))∧Below w.heap.size w w':=⟨_,rfl⟩;rw[←hF];obtain⟨ck,Jg⟩:=aj t.tm.check;obtain⟨bb,hbb⟩:=aj (yw t.tm);obtain⟨r,hr⟩:=aj (Kc t);rw[←hr]at hF;unfold Kc mF at hr;rw[←Jg,←hn,←hbb]at hr;rw[←Jg]at IC;rw[←hbb]at HNO;obtain⟨op,hop⟩:=aj t.op;obtain⟨K,hK⟩:=aj (bV op);rw[←hop,←hK]at hr;rw[←hop]at hwb⊢;have HKI:=Hd (fun W=>ZN op W);rw[←hK]at HKI;have HKQ:Hid (∀W,Calls Tryz.prog 186 #[.int .i64 op] W fun e w'=>e=.returned (.int .i64 K)∧w'=W):=fun W=>(HKI W).mono fun e w' h=>⟨h.1,h.2.symm⟩
 have nV:Hid (∀W,Below wb.heap.size wb W→W.cell? ⟨w.heap.size,0,none⟩=some (.int .i64 op)∧W.cell? ⟨w.heap.size,1,none⟩=some (.int .i64 t.tm.op)∧W.cell? ⟨w.heap.size,2,none⟩=some (.int .i64 t.tm.num)∧W.cell? ⟨w.heap.size,3,none⟩=some (.string t.tm.name)∧W.cell? ⟨w.heap.size,4,none⟩=some (.slice Ae ne ce)∧W.cell? ⟨w.heap.size,5,none⟩=some (.slice A n c)):=fun W hb=>by
  have hx:=hbx.below hb hbx.lt;rw[hop];exact⟨hx.c0,hx.c1,hx.c2,hx.c3,hx.c4,hx.c5⟩
 have HR:=Hd hr;have HF:=Hd hF;have jy:=Hd hwb;have HB1:=Hd hb1;clear hn hne hwb hb1 hbx hV hnm hF Jg hbb hr hop hK
 by_cases hk0:K<0
 ·have bE:Hid (r=11):=by show _=_;rw[HR,iP hk0]
  go_in;go_wp2_with fail;refine(HKI _).mono ?_;rintro e w1 ⟨rfl,hw⟩;rw[←hw];clear hw;go_wp2_with fail;rw[HF,bE];exact⟨rfl,by rw[←jy];exact HB1⟩
 have hk0':0≤K:=by omega
 by_cases h1:op=1
 ·subst h1
  have HR2:Hid (r=if (if ck=0 then(if hasNext t.tm=true then(24:Int)else 0)else ck)≠0 then(if ck=0 then(if hasNext t.tm=true then 24 else 0)else ck)else if (n:Int)≠K∨((1:Int)≠1∧bb=false)then 3 else 0):=by
   show _=_;rw[HR,iN hk0,iP rfl]
  clear hk0;go_in;go_wp2_with fail;refine(HKI _).mono ?_;rintro e w1 ⟨rfl,hw⟩;rw[←hw,←jy];clear hw;obtain⟨x0,x1,x2,x3,x4,x5⟩:=nV wb (Br _ _);go_wp2_with fail;refine(IC wb (Br _ _)).mono ?_;rintro e w2 ⟨rfl,hb2⟩;clear x0 x1 x2 x3 x4 x5;obtain⟨x0,x1,x2,x3,x4,x5⟩:=nV w2 hb2;have kU:=Hd (xR w2 hb2);have hs2:w.heap.size<w2.heap.size:=by have:=hb2.size;omega
  have HB2:=Hd hb2;clear hb2
  by_cases hc0:ck=0
  ·subst hc0;go_wp2_with fail;refine kU.mono ?_;rintro e w3 ⟨v1,A2,n2,c2,rfl,hz,hb3⟩;have hb4:=HB2.trans (hb3.mono (HB2.size));clear x0 x1 x2 x3 x4 x5;obtain⟨x0,x1,x2,x3,x4,x5⟩:=nV w3 hb4;have BS:=Hd (HB1.trans (hb4.mono (by omega)));have hs3:w.heap.size<w3.heap.size:=by have:=hb4.size;omega
   have HZ:=Hd hz;clear hz hb3 hb4
   by_cases h2:n2=0
   ·have hh:hasNext t.tm=false:=HZ.1 h2
    have bE:Hid (r=if (n:Int)≠K then 3 else 0):=by
     show _=_;rw[HR2,hh];simp
    have h2':¬(0:Int)<(n2:Int):=by omega
    clear h2 hh
    by_cases hnk:(n:Int)=K
    ·have dJ:Hid (r=0):=by show _=_;rw[bE,iN (by omega)]
     have air:((n:Int) != K)=false:=by simpa using hnk
     clear hnk;go_wp2_with fail
     go_quiet ((go_at_call 186;exact Calls.quiet_of_same (HKQ _)))
     go_wp2_with fail;rw[HF,dJ];refine⟨rfl,BS.trans (Below.mono (B:=w3.heap.size) (oK (Br w3.heap.size w3) _) ?_)⟩;omega
    ·have dJ:Hid (r=3):=by show _=_;rw[bE,iP hnk]
     have air:((n:Int) != K)=true:=by simpa using hnk
     clear hnk;go_wp2_with fail
     go_quiet ((go_at_call 186;exact Calls.quiet_of_same (HKQ _)))
     go_wp2_with fail;rw[HF,dJ];refine⟨rfl,BS.trans (Below.mono (B:=w3.heap.size) (oK (Br w3.heap.size w3) _) ?_)⟩;omega
   ·have hh:hasNext t.tm=true:=by
     cases hh:hasNext t.tm with
     |false=>exact absurd (HZ.2 hh) h2
     |true=>rfl
    have bE:Hid (r=24):=by
     show _=_;rw[HR2,hh];simp
    have h2':(0:Int)<(n2:Int):=by omega
    clear h2 hh;go_wp2_with fail;rw[HF,bE];exact⟨rfl,BS⟩
  ·have bE:Hid (r=ck):=by
    show _=_;rw[HR2,iN hc0,iP hc0]
   have h0':(ck != 0)=true:=by simpa using hc0
   have BS:=Hd (HB1.trans (HB2.mono (by omega)));clear hc0;go_wp2_with fail;rw[HF,bE];exact⟨rfl,BS⟩
 ·have HR2:Hid (r=if (n:Int)≠K∨bb=false then 3 else 0):=by
   show _=_;rw[HR,iN hk0,iN h1];simp[h1]
  have h1':(op==1)=false:=by simpa using h1
  have h1n:(op != 1)=true:=by simpa using h1
  have hbw:w.heap.size<wb.heap.size:=hsb;have ais:Hid (Below w.heap.size w wb):=HB1;clear hk0 h1
  by_cases hnk:(n:Int)=K
  ·have air:((n:Int) != K)=false:=by simpa using hnk
   cases bb with
   |false=>
    have dJ:Hid (r=3):=by show _=_;rw[HR2,iP (.inr rfl)]
    clear hnk;go_in;go_wp2_with fail;refine(HKI _).mono ?_;rintro e w1 ⟨rfl,hw⟩;rw[←hw,←jy];clear hw;obtain⟨x0,x1,x2,x3,x4,x5⟩:=nV wb (Br _ _);go_wp2_with fail;have hbd:Below wb.heap.size wb wb.drew:=(Br _ _).drew;have hnot:∀(x:Bool)(W:World),(Op.unary .not (.bool x)).run Tryz.prog W=.ok (.bool (!x)) W:=fun _ _=>rfl
    (first|(go_region_held3 (fun w'=>(∀o,w'.cell? ⟨w.heap.size,o,none⟩=wb.cell? ⟨w.heap.size,o,none⟩)∧Below wb.heap.size wb w')
      (first
        |(exact⟨aB (by assumption) hbw,by assumption⟩)
        |fail)
      (first
        |(go_at_call 186;refine(HKI _).mono ?_;rintro e w5 ⟨rfl,gH⟩;rw[←gH];clear gH)
        |(go_at_call 188;refine(HNO _).mono ?_;rintro e w5 ⟨rfl,hb5⟩;have hk5:=aY (by assumption) hb5)
        |fail))|fail)
    all_goals
     go_wp2_with fail;rw[HF,dJ];refine⟨rfl,ais.trans (Below.mono (B:=wb.heap.size) (by assumption) ?_)⟩;omega
   |true=>
    have dJ:Hid (r=0):=by show _=_;rw[HR2,iN (fun h=>by rcases h with h|h;exact h hnk;cases h)]
    clear hnk;go_in;go_wp2_with fail;refine(HKI _).mono ?_;rintro e w1 ⟨rfl,hw⟩;rw[←hw,←jy];clear hw;obtain⟨x0,x1,x2,x3,x4,x5⟩:=nV wb (Br _ _);go_wp2_with fail;have hbd:Below wb.heap.size wb wb.drew:=(Br _ _).drew;have hnot:∀(x:Bool)(W:World),(Op.unary .not (.bool x)).run Tryz.prog W=.ok (.bool (!x)) W:=fun _ _=>rfl
    (first|(go_region_held3 (fun w'=>(∀o,w'.cell? ⟨w.heap.size,o,none⟩=wb.cell? ⟨w.heap.size,o,none⟩)∧Below wb.heap.size wb w')
      (first
        |(exact⟨aB (by assumption) hbw,by assumption⟩)
        |fail)
      (first
        |(go_at_call 186;refine(HKI _).mono ?_;rintro e w5 ⟨rfl,gH⟩;rw[←gH];clear gH)
        |(go_at_call 188;refine(HNO _).mono ?_;rintro e w5 ⟨rfl,hb5⟩;have hk5:=aY (by assumption) hb5)
        |fail))|fail)
    all_goals
     go_wp2_with fail;rw[HF,dJ];refine⟨rfl,ais.trans (Below.mono (B:=wb.heap.size) (by assumption) ?_)⟩;omega
  ·have air:((n:Int) != K)=true:=by simpa using hnk
   have dJ:Hid (r=3):=by show _=_;rw[HR2,iP (.inl hnk)]
   clear hnk;go_in;go_wp2_with fail;refine(HKI _).mono ?_;rintro e w1 ⟨rfl,hw⟩;rw[←hw,←jy];clear hw;obtain⟨x0,x1,x2,x3,x4,x5⟩:=nV wb (Br _ _);go_wp2_with fail
   go_quiet ((go_at_call 186;exact Calls.quiet_of_same (HKQ _)))
   go_wp2_with fail;rw[HF,dJ];refine⟨rfl,ais.trans (Below.mono (B:=wb.heap.size) (oK (Br wb.heap.size wb) _) ?_)⟩;omega
theorem ZP:∀(N:Nat) (t:Fm) (d p:Nat) (Ae:Option Addr) (ce:Nat) (A:Option Addr) (c:Nat) (w:World),t.size≤N→d+t.size≤10000000→p≤4096→t.bT≤9000000→pO w Ae ce A c t →
 Calls Tryz.prog 139 #[t.val Ae ce A c,.int .i64 d,.int .i64 p] w (FWQ (nL dA t d (0,p)) w):=by
 intro N
 induction N with
 |zero=>
  intro t d p Ae ce A c w hN;cases t;rw[Fm.size]at hN;omega
 |succ N ih=>
  intro t d p Ae ce A c w hN hd hp hws hV;obtain⟨n,hn⟩:=aj t.kids.length;obtain⟨ne,hne⟩:=aj t.tm.kids.length;obtain⟨X,hX⟩:=aj (nL dA t d (0,p));obtain⟨F,hF⟩:=aj (FWQ X w);rw[←hX,←hF];have hsz:t.size=1+Fm.aA t.kids:=by cases t;rw[Fm.size];rfl
  have hnl:=Fm.wG t.kids;have hcap:=hV.cap;have aQ:=hV.bU;unfold maxLen at aQ;obtain⟨w1,hw1⟩:=aj (w.alloc (.cells #[.int .i64 t.op,.int .i64 t.tm.op,.int .i64 t.tm.num,.string t.tm.name,.slice Ae ne ce,.slice A n c] 67));have hb1:=dz hw1;have hs1:w1.heap.size=w.heap.size+1:=by rw[hw1];simp
  have hbx:iJ w1 w.heap.size Ae ne ce A n c t:=by rw[hw1];exact eu w _
  have hpt:=ae9 t Ae ce A c w1 (hV.below hb1 rfl) (by have:=(Fm.bK t).1;omega);unfold Fm.val at hpt;obtain⟨pe,hpe⟩:=aj (Kc t);rw[←hpe,←hn,←hne]at hpt
  have HXE:Hid (X=if 64<d then((17,p+1),false)else if pe≠0 then((pe,p+1),false)else if 4096<p+1 then((4,p+1),false)else nM dA t.kids (d+1) (0,p+1)):=by
   show _=_;rw[hX,Gx];have hst:dA (0,p) t d=((nZ t d p,p+1),decide (nZ t d p=0)):=rfl;rw[hst,ZO,←hpe]
   by_cases h1:64<d
   ·simp[h1]
   ·by_cases h2:pe=0
    ·by_cases h3:4096<p+1
     ·simp[h1,h2,h3]
     ·simp[h1,h2,h3]
    ·simp[h1,h2]
  have hkl:t.kids.length≤10000000:=by omega
  rw[←hn]at hcap hkl
  have mg:Hid (∀k∈t.kids,k.size≤N∧d+1+k.size≤10000000∧k.bT≤9000000):=fun k hk=>by
   have h1:=Fm.aM hk;have h2:=(Fm.bK t).2 k hk;omega
  have nV:Hid (∀W,Below w1.heap.size w1 W→W.cell? ⟨w.heap.size,5,none⟩=some (.slice A n c)):=fun W hb=>(hbx.below hb hbx.lt).c5;unfold Fm.val;rw[←hn,←hne];have HF:=Hd hF;have qm:=Hd ih;have HN:=Hd hn;have HK:=Hd hV.kids;have HB1:=Hd hb1;have fA:=Hd hs1;have HW1:=Hd hw1;have HPT:=Hd hpt;have HP:=Hd hp;have hd9:d≤10000000:=by omega
  clear hF ih hn hne hsz hnl hb1 hs1 hbx hw1 hV hN hX hpt hpe hd hws
  by_cases h64:64<d
  ·have HR:Hid (X=((17,p+1),false)):=by show _=_;rw[HXE,iP h64]
   have agq:(64:Int)<(d:Int):=by omega
   clear h64;go_in;go_wp2_with fail;rw[HF,HR];exact⟨p,rfl,(fun h=>by cases h),by omega,by rw[←HW1];exact HB1⟩
  have agq:¬(64:Int)<(d:Int):=by omega
  by_cases h0:pe=0
  ·by_cases h4:4096<p+1
   ·have HR:Hid (X=((4,p+1),false)):=by show _=_;rw[HXE,iN h64,iN (fun h=>h h0),iP h4]
    subst h0;have h4':(4096:Int)<(p:Int)+1:=by omega
    clear h4 h64;go_in;go_wp2_with fail;rw[←HW1];refine HPT.mono ?_;rintro e w2 ⟨rfl,hb2⟩;have HB3:=Hd (HB1.trans (hb2.mono (by have:=fA.out;omega)));clear hb2;go_wp2_with fail;rw[HF,HR];exact⟨p+1,by go_num,(fun h=>by cases h),by omega,HB3⟩
   ·have HR:Hid (nM dA t.kids (d+1) (0,p+1)=X):=by show _=_;rw[HXE,iN h64,iN (fun h=>h h0),iN h4]
    subst h0;have h4':¬(4096:Int)<(p:Int)+1:=by omega
    have h4n:p+1≤4096:=by omega
    clear h4 h64;go_in;go_wp2_with fail;rw[←HW1];refine HPT.mono ?_;rintro e w2 ⟨rfl,hb2⟩;have kc5:=nV w2 hb2;have hs2:=hb2.size;have hbw:w.heap.size<w2.heap.size:=by have:=fA.out;omega
    have HB2:=Hd hb2;have HB3:=Hd (HB1.trans (hb2.mono (by have:=fA.out;omega)));clear hb2;go_wp2_with fail
    go_loopw [2,8,9] (fun sp _ si wr=>∃(k q:Nat),k≤n∧sp=.int .i64 q∧si=.int .i64 k∧q≤4096∧Below w2.heap.size w2 wr∧nM dA (t.kids.drop k) (d+1) (0,q)=X) (fun _ _ i _=>n-(intOf i).toNat)
    case atStart=>exact⟨0,p+1,zl _,by go_num,rfl,h4n,Br _ _,HR⟩
    case round=>
     obtain⟨k,q,hk,rfl,rfl,hq,hbel,hwl⟩:=hrel;have HB:=Hd hbel;have Ww:=Hd hwl;have nR:=hbel.size;have kr5:=nV wr (HB2.trans (hbel.mono HB2.size));have hbt:Below w.heap.size w wr:=HB3.trans (hbel.mono (by omega));have Jb:w.heap.size<wr.heap.size:=by omega
     by_cases hlt:k<n
     ·obtain⟨kd,hkd⟩:∃kd,t.kids[k]?=some kd:=⟨_,gG (by have:=HN.out;omega)⟩;have hmem:kd∈t.kids:=mG hkd
      rcases HK.out with h9|⟨g,off,rfl,hg,hrow⟩
      ·rw[h9]at hkd;simp at hkd
      have hat:=(hrow.get hkd).below hbt rfl hg;obtain⟨q0,q1,q2,q3,eD,eF,A2,c2,q4,q5,hV2⟩:=hat.open;have hgw:g<wr.heap.size:=by omega
      have hih:=qm kd (d+1) q eD eF A2 c2 wr (mg kd hmem).1 (mg kd hmem).2.1 hq (mg kd hmem).2.2 hV2;rw[show((d+1:Nat):Int)=(d:Int)+1 from by omega]at hih;unfold Fm.val at hih;obtain⟨n2,hn2⟩:=aj kd.kids.length;obtain⟨zT,hne2⟩:=aj kd.tm.kids.length;rw[←hn2]at q5 hih;rw[←hne2]at q4 hih;have hsp:=IQ kd (d+1) (0,q);obtain⟨z,hz⟩:=aj (nL dA kd (d+1) (0,q));rw[←hz]at hih hsp
      have HDR:Hid (nM dA (t.kids.drop k) (d+1) (0,q)=if z.2=true then nM dA (t.kids.drop (k+1)) (d+1) z.1 else(z.1,false)):=by
       obtain⟨hj,hj2⟩:=gE.1 hkd;show _=_;rw[List.drop_eq_getElem_cons hj,hj2,nM,←hz];obtain⟨z1,z2⟩:=z;cases z2<;>rfl
      have HSP:Hid ((z.2=true→z.1.1=0∧z.1.2≤4096)∧(z.2=false→z.1.1≠0)):=⟨fun h=>by
       obtain⟨_,h2,h3⟩:=hsp.1 h;simp only at h2 h3
       rw[h2];exact⟨rfl,h3⟩,hsp.2⟩
      have HC:=Hd hih;obtain⟨⟨z1,z2⟩,zb⟩:=z;have hk0:(0:Int)≤(k:Int):=by omega
      have hk1:(k:Int)<(n:Int):=by omega
      have e1:off+6*k=off+k*6:=by omega
      rw[e1]at q0 q1 q2 q3 q4 q5;clear hih hn2 hne2 hsp hz hV2 hat hrow hmem hkd e1 hbel hwl kc5 hbt;go_wp2_with fail;refine HC.mono ?_;rintro e w4 ⟨a4,rfl,ha4,hb4,ait⟩;have pU:=Hd (HB.trans (ait.mono nR));have hs4:=ait.size;have HA4:=Hd ha4;clear ait q0 q1 q2 q3 q4 q5 kr5 ha4
      cases zb with
      |false=>
       have hz0:=HSP.2 rfl;have hz0':(z1 != 0)=true:=by simpa using hz0
       have HZ0:=Hd hz0;have HR2:Hid (X=((z1,z2),false)):=by show _=_;rw[←Ww,HDR];rfl
       clear hz0;go_wp2_with fail;rw[HF,HR2];exact⟨a4,rfl,fun h=>absurd h HZ0,hb4,HB3.trans (pU.mono (by omega))⟩
      |true=>
       obtain⟨hz0,hz4⟩:=HSP.1 rfl
       have HR2:Hid (nM dA (t.kids.drop (k+1)) (d+1) (0,z2)=X):=by
        show _=_;rw[←Ww,HDR];rw[hz0]
        rfl
       have hae:=HA4 hz0;subst hz0;subst hae;go_wp2_with fail
       go_roundw
       case rel=>exact⟨k+1,a4,by omega,rfl,by go_num,hz4,pU,HR2⟩
       case measure=>simp[intOf];omega
     ·have HE:Hid (X=((0,q),true)):=by
       show _=_;rw[←Ww,List.drop_eq_nil_of_le (by have:=HN.out;omega)]
       rfl
      have hk1:¬(k:Int)<(n:Int):=by omega
      have lK:=Hd hbt;clear hlt hbel hwl kc5 hbt;go_wp2_with fail;rw[HF,HE];exact⟨q,rfl,fun _=>rfl,by omega,lK⟩
  ·have HR:Hid (X=((pe,p+1),false)):=by show _=_;rw[HXE,iN h64,iP h0]
   have h0':(pe != 0)=true:=by simpa using h0
   have H0:=Hd h0;clear h0 h64;go_in;go_wp2_with fail;rw[←HW1];refine HPT.mono ?_;rintro e w2 ⟨rfl,hb2⟩;have HB3:=Hd (HB1.trans (hb2.mono (by have:=fA.out;omega)));clear hb2;go_wp2_with fail;rw[HF,HR];exact⟨p,rfl,fun h=>absurd h H0,by omega,HB3⟩
theorem Ke(t:Fm)(Ae:Option Addr)(ce:Nat)(A:Option Addr)(c:Nat)(w:World)(hV:pO w Ae ce A c t)(hsz:t.bT≤9000000) :
 Calls Tryz.prog 111 #[t.val Ae ce A c] w fun e w'=>e=.returned (.int .i64 t.check)∧Below w.heap.size w w':=by
 obtain⟨w1,hw1⟩:=aj (w.alloc (.cells #[.int .i64 t.op,.int .i64 t.tm.op,.int .i64 t.tm.num,.string t.tm.name,.slice Ae t.tm.kids.length ce,.slice A t.kids.length c] 67));have hb1:=dz hw1;have hs1:w1.heap.size=w.heap.size+1:=by rw[hw1];simp
 have hc1:=ZP t.size t 1 0 Ae ce A c w1 (lr _) (by have:=Fm.size_le t;omega) (by omega) hsz (hV.below hb1 rfl);have bE:Hid ((nL dA t 1 (0,0)).1.1=t.check):=rfl;obtain⟨ck,hck⟩:=aj t.check;obtain⟨X,hX⟩:=aj (nL dA t 1 (0,0));rw[←hX]at hc1;rw[←hX,←hck]at bE;rw[←hck];unfold Fm.val at hc1⊢;have HC:=Hd hc1;have HB1:=Hd hb1;have HW1:=Hd hw1;have fA:=Hd hs1;clear hc1 hX hb1 hw1 hs1 hV hck;go_in;go_wp2_with fail;rw[←HW1];refine HC.mono ?_;rintro e w2 ⟨a,rfl,_,_,hb2⟩;have HB2:=Hd (HB1.trans (hb2.mono (by have:=fA.out;omega)));rw[bE];clear hb2;go_wp2_with fail;go_ret;exact⟨rfl,HB2⟩
end Go.Proofs.YtkhoeoilamddaaaGreatDoor
