/- Walks and plain words: TrmH FrmE FrmG OpnF. -/
import Derived.Test.YtkhoeoilamddaaaGreatDoorYTrmG
import Derived.Test.YtkhoeoilamddaaaGreatDoorYMsB
namespace Go.Proofs.YtkhoeoilamddaaaGreatDoor
open Go.RowKit
set_option linter.unusedVariables false
set_option maxRecDepth 100000
set_option maxHeartbeats 8000000
theorem Ej(t:Tm)(A:Option Addr)(c:Nat)(w:World)(hV:zx w A c t)(hsz:t.size≤9000000)(hT:je w) :
 Calls Tryz.prog 97 #[t.val A c] w fun e w'=>e=.returned (.tuple #[.string ⟨(aH t).1.toArray⟩,.int .i64 (aH t).2])∧Below w.heap.size w w':=by
 obtain⟨n,hn⟩:=aj t.kids.length;obtain⟨wb,hwb⟩:=aj (w.alloc (.cells #[.int .i64 t.op,.int .i64 t.num,.string t.name,.slice A n c] 64));have hb1:=dz hwb;have hbx:iM wb w.heap.size A n c t:=by rw[hwb];exact eu w _
 have hsb:w.heap.size<wb.heap.size:=by rw[hwb];simp
 have hck:=DC t A c wb (hV.below hb1 rfl) hsz;unfold Tm.val at hck⊢;rw[←hn]at hck⊢;obtain⟨ck,F6⟩:=ak t.check;rw[←F6]at hck;obtain⟨R,hR⟩:=aj (aH t);rw[←hR];unfold aH at hR;rw[←F6]at hR;have HR:=Hd hR;have IC:=Hd hck;have jy:=Hd hwb;have HB1:=Hd hb1;have qH:=Hd hbx;have HV:=Hd hV;have HT:=Hd hT;have HN:=Hd hn;clear hck hR hwb hb1 hbx hV hT hn;go_in;go_wp2_with fail;rw[←jy];refine IC.mono ?_;rintro e w1 ⟨rfl,hb2⟩;have hx1:=qH.below hb2 qH.lt;have HB2:=Hd (HB1.trans (hb2.mono (Nat.le_of_lt hsb)));have hs1:=hb2.size;have y0:=hx1.c0;have y1:=hx1.c1;have y2:=hx1.c2;have y3:=hx1.c3;have yJ:=Hd hx1;clear hx1 hb2
 by_cases h0:ck=0
 ·have hck:t.check=0:=by rw[←F6];exact h0
  have htl:=LY t.size t A c w1 (lr _) hsz (HV.below HB2 rfl) (HT.below HB2);unfold Tm.val at htl;rw[←HN]at htl;obtain⟨tl,Zo⟩:=aj (iW t);rw[←Zo]at htl;have hr2:=HR.out;rw[iN (fun h=>h h0),←Zo]at hr2;have HR2:=Hd hr2;have Tf:=Hd htl;have BQ:=Hd (nY hck);subst h0;clear hck htl Zo hr2;go_wp2_with fail;refine Tf.mono ?_;rintro e w2 ⟨rfl,hb3⟩;have hx2:=yJ.below hb3 yJ.lt;have hs2:=hb3.size;have aia:=HB2.size;have HB3:=Hd (HB2.trans (hb3.mono aia));clear y0 y1 y2 y3 hb3;have y0:=hx2.c0;have y1:=hx2.c1;have y2:=hx2.c2;have y3:=hx2.c3;have FK:=Hd hx2;have hlx:=hx2.lt;clear hx2
  cases tl with
  |false=>
   have bE:Hid (R=([],3)):=by show _=_;rw[HR2,iP rfl]
   go_wp2_with fail
   go_ret2
   rw[bE];exact⟨rfl,HB3⟩
  |true=>
   obtain⟨w3,hw3⟩:=aj (w2.alloc (.cells #[.pointer none,.slice none 0 0] 81));have hb4:=dz hw3;have hI:oV w2.heap.size w2.heap.size (Lib.byteCells []) w3:=by rw[hw3];exact Lib.fresh_isBuilder _ _ w2
   have hput:=RY w2.heap.size w2.heap.size w2 rfl t.size t 0 true 1 [] A c w3 (lr _) BQ.1 (HV.below HB3 rfl) hb4 hI (by have:=BQ.2;simp;omega) (by omega);unfold Tm.val at hput;rw[←HN,List.nil_append]at hput;have HW3:=Hd hw3;have aeY:=Hd hput;have hlen:=eY bB t 0 true 1 BQ.1;have af7:=BQ.2;obtain⟨S,hS⟩:=aj (nU aO t 0 true);rw[←hS]at aeY hlen;have hr3:=HR2.out;rw[iN (by decide),←hS]at hr3;have HR3:=Hd hr3;clear hw3 hb4 hI hput hS hr3;go_wp2_with fail;rw[←HW3];refine aeY.mono ?_;rintro e w4 ⟨rfl,hi4,hk4⟩;have HI4:=Hd hi4;have Ju:=hk4.below
   have BS:Hid (Below w.heap.size w w4):=by
    refine HB3.trans (Below.mono (B:=w2.heap.size) ?_ (HB3.size));rw[HW3]at Ju;exact(((Br _ _).alloc (lr _) _).trans Ju)
   have hs4:=Ju.size;have Nr:=Tryz.Builder_Len w2.heap.size w2.heap.size (Lib.byteCells S) w4 hi4;rw[Lib.byteCells_length]at Nr;have aeZ:=Hd Nr;have hstr:=Tryz.Builder_String_any w2.heap.size w2.heap.size S w4 hi4 (by have:=(oV.lt hi4).1;omega);have R_:=Hd hstr;have aib:w.heap.size≤w2.heap.size:=HB3.size;clear hi4 hk4 Ju Nr hstr y0 y1 y2 y3;go_wp2_with fail;refine aeZ.mono ?_;rintro e w5 ⟨rfl,gH⟩;subst gH
   by_cases h6:65536<S.length
   ·have bE:Hid (R=([],4)):=by show _=_;rw[HR3,iP h6]
    have h6':(65536:Int)<(S.length:Int):=by omega
    go_wp2_with fail
    go_ret2
    rw[bE];exact⟨rfl,BS⟩
   ·have bE:Hid (R=(S,0)):=by show _=_;rw[HR3,iN h6]
    have h6':¬(65536:Int)<(S.length:Int):=by omega
    go_wp2_with fail;refine R_.mono ?_;rintro e w6 ⟨rfl,hb6⟩;have bZ:=Hd (BS.trans (hb6.mono aib));clear hb6;go_wp2_with fail
    go_ret2
    rw[bE];exact⟨rfl,bZ⟩
 ·have bE:Hid (R=([],ck)):=by show _=_;rw[HR,iP h0]
  have h0':(ck != 0)=true:=by simpa using h0
  clear h0;go_wp2_with fail
  go_ret2
  rw[bE];exact⟨rfl,HB2⟩
theorem F7(op:Int)(w:World) :
 Calls Tryz.prog 103 #[.int .i64 op] w fun e w'=>e=.returned (.int .i64 (aN op:Nat))∧w=w':=by
 obtain⟨r,HR⟩:=ak (aN op);rw[←HR];go_in
 go_wp2
 all_goals
  go_ret;rw[HR];refine⟨?_,rfl⟩
  simp_all[aN]
def Ii(N:Nat):Prop:=∀(f:Fm)(least d:Nat)(Ae:Option Addr)(ce:Nat)(A:Option Addr)(c:Nat)(w:World),f.size≤N→f.lI d→f.bT≤9000000→f.size≤5000→least≤10→pO w Ae ce A c f→je w →
 Calls Tryz.prog 60 #[f.val Ae ce A c,.int .i64 (least:Nat)] w fun e w'=>e=.returned (.tuple #[.string ⟨(aG f least).1.toArray⟩,.int .i64 (aG f least).2])∧Below w.heap.size w w'
theorem pO.kid{w:World}{Ae A:Option Addr}{ce c:Nat}{f k:Fm}{j:Nat}(h:pO w Ae ce A c f)(hk:f.kids[j]?=some k):∃g o,A=some ⟨g,o,none⟩∧g<w.heap.size∧∃eD eF A2 c2,w.cell? ⟨g,o+6*j,none⟩=some (.int .i64 k.op)∧w.cell? ⟨g,o+6*j+1,none⟩=some (.int .i64 k.tm.op)∧w.cell? ⟨g,o+6*j+2,none⟩=some (.int .i64 k.tm.num)∧w.cell? ⟨g,o+6*j+3,none⟩=some (.string k.tm.name) ∧
 w.cell? ⟨g,o+6*j+4,none⟩=some (.slice eD k.tm.kids.length eF)∧w.cell? ⟨g,o+6*j+5,none⟩=some (.slice A2 k.kids.length c2)∧pO w eD eF A2 c2 k:=by
 rcases h.kids with h0|⟨g,o,hA,hg,hrow⟩
 ·rw[h0]at hk;simp at hk
 ·obtain⟨q0,q1,q2,q3,eD,eF,A2,c2,q4,q5,hv⟩:=(hrow.get hk).open;exact⟨g,o,hA,hg,eD,eF,A2,c2,q0,q1,q2,q3,q4,q5,hv⟩
def gZ(word:Bs)(a:Fm):Bs×Int:=(word++(aG a 4).1,(aG a 4).2)
def jc(sign:Bs)(l r:Nat)(a b:Fm):Bs×Int:=if (aG a l).2≠0 then([],(aG a l).2)else((aG a l).1++sign++(aG b r).1,(aG b r).2)
theorem Bj(l:Bs):(⟨l.toArray⟩:ByteArray).size=l.length:=by simp[ByteArray.size]
theorem Jv(N:Nat)(H:Ii N)(f a:Fm)(d:Nat)(word:ByteArray)(Ae:Option Addr)(ce:Nat)(A:Option Addr)(c:Nat)(w:World)(hka:f.kids=[a])(ha:a.size≤N)(hok:a.lI d)(hws:a.bT≤9000000)(hsz:a.size≤5000)(hwd:word.size≤10)(hV:pO w Ae ce A c f)(hT:je w) :
 Calls Tryz.prog 131 #[f.val Ae ce A c,.string word] w fun e w'=>e=.returned (.tuple #[.string ⟨(gZ word.data.toList a).1.toArray⟩,.int .i64 (gZ word.data.toList a).2])∧Below w.heap.size w w':=by
 have hk0:f.kids[0]?=some a:=by rw[hka];rfl
 have hkn:f.kids.length=1:=by rw[hka];rfl
 obtain⟨ne,hne⟩:=aj f.tm.kids.length;obtain⟨wb,hwb⟩:=aj (w.alloc (.cells #[.int .i64 f.op,.int .i64 f.tm.op,.int .i64 f.tm.num,.string f.tm.name,.slice Ae ne ce,.slice A 1 c] 67));have hb1:=dz hwb;obtain⟨g,o,rfl,hg,eD,eF,A2,c2,q0,q1,q2,q3,q4,q5,hV2⟩:=hV.kid hk0;rw[Nat.mul_zero,Nat.add_zero]at q0 q1 q2 q3 q4 q5;obtain⟨n2,hn2⟩:=aj a.kids.length;obtain⟨zT,hne2⟩:=aj a.tm.kids.length;have hcall:=H a 4 d eD eF A2 c2 wb ha hok hws hsz (by omega) (hV2.below hb1 rfl) (hT.below hb1);unfold Fm.val at hcall⊢;rw[hkn,←hne];rw[←hn2]at hcall q5;rw[←hne2]at hcall q4;have hlen:=dM a 4;obtain⟨R,hR⟩:=aj (aG a 4);rw[←hR]at hcall hlen;rw[hwb]at hcall;have HC:=Hd hcall;have HB1:=Hd hb1;have HR:=Hd hR;obtain⟨S,hS⟩:∃S:ByteArray,S=word++⟨R.1.toArray⟩:=⟨_,rfl⟩;have Ij:∀W,(Op.stringOp .add word ⟨R.1.toArray⟩).run Tryz.prog W=.ok (.string S) W:=fun W=>by rw[hS];exact run_string_add_sum W _ _ (by show word.size+(⟨R.1.toArray⟩:ByteArray).size≤_;rw[Bj R.1];omega)
 have jk:Hid (gZ word.data.toList a=(S.data.toList,R.2)):=by
  show _=_;unfold gZ;rw[←hR,hS];simp[ByteArray.data_append]
 have hcc:=hV.cap;rw[hkn]at hcc;have jy:=Hd hwb;clear hwb hb1 hcall hR hS hV hV2 hT hk0 hkn hn2 hne2 hne hka H hlen;go_in;go_wp2_with fail;refine HC.mono ?_;rintro e w1 ⟨rfl,hb2⟩;rw[←jy]at hb2;have HB2:=kB HB1 hb2;clear hb2;go_wp2_with fail
 go_ret2
 rw[jk];exact⟨rfl,HB2⟩
theorem Dc(N:Nat)(H:Ii N)(f a b:Fm)(d:Nat)(sign:ByteArray)(l r:Nat)(Ae:Option Addr)(ce:Nat)(A:Option Addr)(c:Nat)(w:World)(hka:f.kids=[a,b])(ha:a.size≤N)(hb:b.size≤N)(aic:a.lI d)(aie:b.lI d)(hwa:a.bT≤9000000)(aif:b.bT≤9000000)(hsa:a.size≤5000)(hsb:b.size≤5000)(hsg:sign.size≤10)(hl:l≤10)(hr:r≤10)(hV:pO w Ae ce A c f)(hT:je w) :
 Calls Tryz.prog 130 #[f.val Ae ce A c,.string sign,.int .i64 (l:Nat),.int .i64 (r:Nat)] w fun e w'=>e=.returned (.tuple #[.string ⟨(jc sign.data.toList l r a b).1.toArray⟩,.int .i64 (jc sign.data.toList l r a b).2])∧Below w.heap.size w w':=by
 have hk0:f.kids[0]?=some a:=by rw[hka];rfl
 have hk1:f.kids[1]?=some b:=by rw[hka];rfl
 have hkn:f.kids.length=2:=by rw[hka];rfl
 obtain⟨ne,hne⟩:=aj f.tm.kids.length;obtain⟨wb,hwb⟩:=aj (w.alloc (.cells #[.int .i64 f.op,.int .i64 f.tm.op,.int .i64 f.tm.num,.string f.tm.name,.slice Ae ne ce,.slice A 2 c] 67));have hb1:=dz hwb;have hx:iJ wb w.heap.size Ae ne ce A 2 c f:=by rw[hwb];exact eu w _
 obtain⟨g,o,rfl,hg,eD,eF,A2,c2,q0,q1,q2,q3,q4,q5,hV2⟩:=hV.kid hk0;obtain⟨g',o',hgo,hg',Ae3,ce3,A3,c3,p0,p1,p2,p3,p4,p5,hV3⟩:=hV.kid hk1
 injection hgo with hgo
 injection hgo with hg1 ho1 _
 subst hg1 ho1;rw[Nat.mul_zero,Nat.add_zero]at q0 q1 q2 q3 q4 q5;rw[Nat.mul_one]at p0 p1 p2 p3 p4 p5;obtain⟨n2,hn2⟩:=aj a.kids.length;obtain⟨zT,hne2⟩:=aj a.tm.kids.length;obtain⟨n3,hn3⟩:=aj b.kids.length;obtain⟨ne3,abQ⟩:=aj b.tm.kids.length;have hcall:=H a l d eD eF A2 c2 wb ha aic hwa hsa hl (hV2.below hb1 rfl) (hT.below hb1);have Cx:Hid (∀w1,Below w.heap.size w w1→Calls Tryz.prog 60 #[b.val Ae3 ce3 A3 c3,.int .i64 (r:Nat)] w1 fun e w'=>e=.returned (.tuple #[.string ⟨(aG b r).1.toArray⟩,.int .i64 (aG b r).2])∧Below w1.heap.size w1 w'):=fun w1 hbw=>H b r d Ae3 ce3 A3 c3 w1 hb aie aif hsb hr (hV3.below hbw rfl) (hT.below hbw);unfold Fm.val at hcall Cx⊢;rw[hkn,←hne];rw[←hn2]at hcall q5;rw[←hne2]at hcall q4;rw[←hn3]at Cx p5;rw[←abQ]at Cx p4;have hlen:=dM a l;have CB:=dM b r;obtain⟨R,hR⟩:=aj (aG a l);obtain⟨R2,hR2⟩:=aj (aG b r);rw[←hR]at hcall hlen;rw[←hR2]at Cx CB;rw[hwb]at hcall;have HC:=Hd hcall;have HB1:=Hd hb1;obtain⟨S,hS⟩:∃S:ByteArray,S=(⟨R.1.toArray⟩:ByteArray)++sign:=⟨_,rfl⟩;obtain⟨S2,hS2⟩:∃S2:ByteArray,S2=S++⟨R2.1.toArray⟩:=⟨_,rfl⟩;have hSz:S.size=R.1.length+sign.size:=by rw[hS,bA,Bj R.1]
 have Ij:∀W,(Op.stringOp .add (⟨R.1.toArray⟩:ByteArray) sign).run Tryz.prog W=.ok (.string S) W:=fun W=>by rw[hS];exact run_string_add_sum W _ _ (by show(⟨R.1.toArray⟩:ByteArray).size+sign.size≤_;rw[Bj R.1];omega)
 have uP:∀W,(Op.stringOp .add S (⟨R2.1.toArray⟩:ByteArray)).run Tryz.prog W=.ok (.string S2) W:=fun W=>by rw[hS2];exact run_string_add_sum W _ _ (by show S.size+(⟨R2.1.toArray⟩:ByteArray).size≤_;rw[Bj R2.1,hSz];omega)
 have jk:Hid (jc sign.data.toList l r a b=if R.2≠0 then([],R.2)else(S2.data.toList,R2.2)):=by
  show _=_;unfold jc;rw[←hR,←hR2,hS2,hS];simp[ByteArray.data_append]
 obtain⟨X,hX⟩:=aj (jc sign.data.toList l r a b);rw[←hX]at jk⊢;have hcc:=hV.cap;rw[hkn]at hcc;have jy:=Hd hwb;have HX:=Hd hx;have hlt:w.heap.size<wb.heap.size:=by rw[hwb];simp
 clear hwb hb1 hcall hR hR2 hS hS2 hSz hV hV2 hV3 hT hk0 hk1 hkn hn2 hne2 hn3 abQ hne hka H hlen CB hx hX hg';go_in;go_wp2_with fail;refine HC.mono ?_;rintro e w1 ⟨rfl,hb2⟩;rw[←jy]at hb2;have hx1:=HX.below hb2 HX.lt;have hbw:=HB1.trans (hb2.mono HB1.size);have hc2:=Cx w1 hbw;have HB2:=Hd hbw;have Dh:=Hd hc2;have x5:=hx1.c5;have hs1:=hb2.size;rw[←hbw.cell (p:=⟨g,_,none⟩) hg]at p0 p1 p2 p3 p4 p5;clear hb2 hx1 hbw hc2 q0 q1 q2 q3 q4 q5
 by_cases h0:R.2=0
 ·have bE:Hid (X=(S2.data.toList,R2.2)):=by show _=_;rw[jk,iN (fun h=>h h0)]
  have h0':(R.2 != 0)=false:=by simpa using h0
  clear h0;go_wp2_with fail;refine Dh.mono ?_;rintro e w2 ⟨rfl,hb3⟩;have HB3:=kB HB2 hb3;clear hb3 p0 p1 p2 p3 p4 p5;go_wp2_with fail
  go_ret2
  rw[bE];exact⟨rfl,HB3⟩
 ·have bE:Hid (X=([],R.2)):=by show _=_;rw[jk,iP h0]
  have h0':(R.2 != 0)=true:=by simpa using h0
  clear h0;go_wp2_with fail
  go_ret2
  rw[bE];exact⟨rfl,HB2⟩
set_option maxHeartbeats 16000000
def zf(f:Fm):Bs×Int:=if f.op=1 then([91]++(aH f.tm).1++[93],(aH f.tm).2)else mJ f.op f.kids
theorem Sc(f:Fm)(least:Nat):aG f least=if (zf f).2≠0 then([],(zf f).2)else if aN f.op<least then([40]++(zf f).1++[41],0)else((zf f).1,0):=by
 cases f;rw[aG];rfl
theorem Ns(f:Fm):(zf f).1.length≤65600*f.size+65600:=by
 have hs:f.size=1+Fm.aA f.kids:=by cases f;rw[Fm.size];rfl
 have h1:=Ma f.op f.kids;have h2:=og f.tm;unfold zf;rw[hs]
 split
 ·simp only[List.length_append,List.length_cons,List.length_nil];omega
 ·omega
def Va(r:Bs×Int)(w:World)(e:Ending)(w':World):Prop:=∃s:ByteArray,e=.returned (.tuple #[.string s,.int .i64 r.2])∧(r.2=0→s.data.toList=r.1)∧Below w.heap.size w w'
theorem Jw{f:Fm}(h:0≤bV f.op):f.op=1∨f.op=2∨f.op=3∨f.op=4∨f.op=5∨f.op=6∨f.op=7∨f.op=8∨f.op=9∨f.op=10∨f.op=11∨f.op=12∨f.op=13:=by
 unfold bV at h
 by_cases h1:f.op=1
 ·omega
 rw[iN h1]at h
 by_cases h2:f.op=2∨f.op=6∨f.op=7∨f.op=8∨f.op=10∨f.op=11∨f.op=12
 ·omega
 rw[iN h2]at h
 by_cases h3:f.op=3∨f.op=4∨f.op=5∨f.op=9∨f.op=13
 ·omega
 rw[iN h3]at h;simp at h
theorem Di{op:Int}{a:Fm}(h:bV op=1):mJ op [a]=gZ (jA op) a:=by
 rw[mJ,EO,h];rfl
theorem Jy{op:Int}{a b:Fm}(h:bV op=2):mJ op [a,b]=if (aG a (fO op)).2≠0 then([],(aG a (fO op)).2)else(eP op++(aG a (fO op)).1++uW op++(aG b (gX op)).1++cZ op,(aG b (gX op)).2):=by
 rw[mJ,EO,h];rfl
theorem uQ{l:List Fm}(h:l.length=1):∃a,l=[a]:=by
 match l,h with
 |[a],_=>exact⟨a,rfl⟩
theorem z_{l:List Fm}(h:l.length=2):∃a b,l=[a,b]:=by
 match l,h with
 |[a,b],_=>exact⟨a,b,rfl⟩
theorem Nt(N:Nat)(H:Ii N)(f:Fm)(d:Nat)(Ae:Option Addr)(ce:Nat)(A:Option Addr)(c:Nat)(w:World)(hN:f.size≤N+1)(hok:f.lI d)(hws:f.bT≤9000000)(hsz:f.size≤5000)(hV:pO w Ae ce A c f)(hT:je w) :
 Calls Tryz.prog 102 #[f.val Ae ce A c] w (Va (zf f) w):=by
 obtain⟨-,⟨hk0,hkl,hk1⟩,dS⟩:=dY hok;have hrg:=Jw hk0
 have cB:∀k∈f.kids,k.size≤N∧k.size≤5000∧k.bT≤9000000:=fun k hk=>by
  have h1:=Fm.aM hk;have h2:=(Fm.bK f).2 k hk
  cases f with
  |mk op e l=>rw[Fm.size]at hN hsz;simp only[Fm.kids]at h1;omega
 have hts:=(Fm.bK f).1;obtain⟨n,hn⟩:=aj f.kids.length;obtain⟨ne,hne⟩:=aj f.tm.kids.length;obtain⟨op,hop⟩:=aj f.op;obtain⟨wb,hwb⟩:=aj (w.alloc (.cells #[.int .i64 op,.int .i64 f.tm.op,.int .i64 f.tm.num,.string f.tm.name,.slice Ae ne ce,.slice A n c] 67));have hb1:=dz hwb;have hx:iJ wb w.heap.size Ae ne ce A n c f:=by unfold iJ;rw[hwb,←hop];exact eu w _
 have hVb:=hV.below hb1 rfl;have Wq:=hT.below hb1
 have Wh:Hid (∀a,f.kids=[a]→∀word:ByteArray,word.size≤10→Calls Tryz.prog 131 #[f.val Ae ce A c,.string word] wb fun e w'=>e=.returned (.tuple #[.string ⟨(gZ word.data.toList a).1.toArray⟩,.int .i64 (gZ word.data.toList a).2])∧Below wb.heap.size wb w'):=fun a ha word hwd=>by
  have hm:a∈f.kids:=by rw[ha];simp
  exact Jv N H f a (d+1) word Ae ce A c wb ha (cB a hm).1 (dS a hm) (cB a hm).2.2 (cB a hm).2.1 hwd hVb Wq
 have oW:Hid (∀a b,f.kids=[a,b]→∀(sign:ByteArray)(l r:Nat),sign.size≤10→l≤10→r≤10→Calls Tryz.prog 130 #[f.val Ae ce A c,.string sign,.int .i64 (l:Nat),.int .i64 (r:Nat)] wb fun e w'=>e=.returned (.tuple #[.string ⟨(jc sign.data.toList l r a b).1.toArray⟩,.int .i64 (jc sign.data.toList l r a b).2])∧Below wb.heap.size wb w'):=fun a b hab sign l r h1 h2 h3=>by
  have hma:a∈f.kids:=by rw[hab];simp
  have hmb:b∈f.kids:=by rw[hab];simp
  exact Dc N H f a b (d+1) sign l r Ae ce A c wb hab (cB a hma).1 (cB b hmb).1 (dS a hma) (dS b hmb) (cB a hma).2.2 (cB b hmb).2.2 (cB a hma).2.1 (cB b hmb).2.1 h1 h2 h3 hVb Wq
 have hsh:=Ej f.tm Ae ce wb hVb.tm (by omega) Wq
 have HLEN:Hid (∀a b (l r:Nat),f.kids=[a,b]→(aG a l).1.length+(aG b r).1.length≤700000000):=fun a b l r hab=>by
  have h1:=dM a l;have h2:=dM b r;have h3:=(cB a (by rw[hab];simp)).2.1;have h4:=(cB b (by rw[hab];simp)).2.1;omega
 unfold Fm.val at Wh oW⊢;unfold Tm.val at hsh;rw[←hn,←hne,←hop]at Wh oW;rw[←hne]at hsh;rw[←hn,←hne,←hop];have wZ:Hid (zf f=if op=1 then([91]++(aH f.tm).1++[93],(aH f.tm).2)else mJ op f.kids):=by show _=_;rw[hop];rfl
 have hsl:=og f.tm;obtain⟨ST,hST⟩:=aj (aH f.tm);rw[←hST]at wZ hsh hsl;obtain⟨BR,jU⟩:=aj (zf f);rw[←jU]at wZ⊢;obtain⟨F,HF⟩:=ak (Va BR w);rw[←HF];have jy:=Hd hwb;rw[jy]at hsh;rw[jy]at Wh oW;have HSH:=Hd hsh;have HB1:=Hd hb1;have HX:=Hd hx;have Qd:Hid ((f.kids.length:Int)=bV op):=by show _=_;rw[hkl,hop]
 have hcap:=hV.cap;have aQ:=hV.bU;have hec:=hV.tm.cap;have aii:=hV.tm.bU;rw[←hn]at hcap;rw[←hne]at hec;unfold maxLen at aQ aii;have hlt:w.heap.size<wb.heap.size:=by rw[hwb];simp
 rw[←hop]at hrg;have gy:=Hd hop;clear hwb hb1 hx hVb Wq hsh jU hST hk0 hkl hk1 dS cB hn hne hop hV hT hok H
 rcases hrg with rfl|rfl|rfl|rfl|rfl|rfl|rfl|rfl|rfl|rfl|rfl|rfl|rfl
 ·have kJ:Hid (BR=([91]++ST.1++[93],ST.2)):=by show _=_;rw[wZ,iP rfl]
  obtain⟨S1,hS1⟩:∃S1:ByteArray,S1=(⟨#[91]⟩:ByteArray)++⟨ST.1.toArray⟩:=⟨_,rfl⟩;obtain⟨S2,hS2⟩:∃S2:ByteArray,S2=S1++(⟨#[93]⟩:ByteArray):=⟨_,rfl⟩;have hz1:S1.size=1+ST.1.length:=by rw[hS1,bA,Bj ST.1];rfl
  have Ij:∀W,(Op.stringOp .add (⟨#[91]⟩:ByteArray) ⟨ST.1.toArray⟩).run Tryz.prog W=.ok (.string S1) W:=fun W=>by rw[hS1];exact run_string_add_sum W _ _ (by show 1+(⟨ST.1.toArray⟩:ByteArray).size≤_;rw[Bj ST.1];omega)
  have uP:∀W,(Op.stringOp .add S1 (⟨#[93]⟩:ByteArray)).run Tryz.prog W=.ok (.string S2) W:=fun W=>by rw[hS2];exact run_string_add_sum W _ _ (by show S1.size+1≤_;omega)
  have HS:Hid (S2.data.toList=BR.1):=by show _=_;rw[kJ,hS2,hS1];simp[ByteArray.data_append]
  clear hS1 hS2 hz1;go_in;go_wp2_with fail;refine HSH.mono ?_;rintro e w1 ⟨rfl,hb2⟩;rw[←jy]at hb2;have HB2:=kB HB1 hb2;clear hb2;go_wp2_with fail;rw[HF];exact⟨S2,congrArg (fun z:Int=>Ending.returned (.tuple #[.string S2,.int .i64 z])) (congrArg Prod.snd kJ).symm,fun _=>HS,HB2⟩
 ·obtain⟨a,ha⟩:=uQ (show f.kids.length=1 by have h1:=Qd.out;rw[show bV 2=1 from rfl]at h1;omega);have kJ:Hid (BR=gZ ((⟨#[33]⟩:ByteArray)).data.toList a):=by show _=_;rw[wZ,iN (by decide),ha];exact Di rfl
  have hcc:=Wh a ha (⟨#[33]⟩:ByteArray) (by decide);have Dh:=Hd hcc;clear hcc ha;go_in;go_wp2_with fail;refine Dh.mono ?_;rintro e w1 ⟨rfl,hb2⟩;rw[←jy]at hb2;have HB2:=kB HB1 hb2;clear hb2;go_wp2_with fail;rw[HF,kJ];exact⟨_,rfl,fun _=>rfl,HB2⟩
 ·obtain⟨a,b,ha⟩:=z_ (show f.kids.length=2 by have h1:=Qd.out;rw[show bV 3=2 from rfl]at h1;omega)
  have kJ:Hid (BR=jc ((⟨#[32,38,32]⟩:ByteArray)).data.toList 3 4 a b):=by
   show _=_;rw[wZ,iN (by decide),ha,Jy rfl];unfold jc
   by_cases h:(aG a 3).2≠0
   ·rw[iP h,iP (show(aG a (fO 3)).2≠0 from h)];rfl
   ·rw[iN h,iN (show ¬(aG a (fO 3)).2≠0 from h)];simp[eP,cZ,uW,fO,gX]
  have hcc:=oW a b ha (⟨#[32,38,32]⟩:ByteArray) 3 4 (by decide) (by omega) (by omega);have Dh:=Hd hcc;clear hcc ha;go_in;go_wp2_with fail;refine Dh.mono ?_;rintro e w1 ⟨rfl,hb2⟩;rw[←jy]at hb2;have HB2:=kB HB1 hb2;clear hb2;go_wp2_with fail;rw[HF,kJ];exact⟨_,rfl,fun _=>rfl,HB2⟩
 ·obtain⟨a,b,ha⟩:=z_ (show f.kids.length=2 by have h1:=Qd.out;rw[show bV 4=2 from rfl]at h1;omega)
  have kJ:Hid (BR=jc ((⟨#[32,124,32]⟩:ByteArray)).data.toList 2 3 a b):=by
   show _=_;rw[wZ,iN (by decide),ha,Jy rfl];unfold jc
   by_cases h:(aG a 2).2≠0
   ·rw[iP h,iP (show(aG a (fO 4)).2≠0 from h)];rfl
   ·rw[iN h,iN (show ¬(aG a (fO 4)).2≠0 from h)];simp[eP,cZ,uW,fO,gX]
  have hcc:=oW a b ha (⟨#[32,124,32]⟩:ByteArray) 2 3 (by decide) (by omega) (by omega);have Dh:=Hd hcc;clear hcc ha;go_in;go_wp2_with fail;refine Dh.mono ?_;rintro e w1 ⟨rfl,hb2⟩;rw[←jy]at hb2;have HB2:=kB HB1 hb2;clear hb2;go_wp2_with fail;rw[HF,kJ];exact⟨_,rfl,fun _=>rfl,HB2⟩
 ·obtain⟨a,b,ha⟩:=z_ (show f.kids.length=2 by have h1:=Qd.out;rw[show bV 5=2 from rfl]at h1;omega)
  have kJ:Hid (BR=jc ((⟨#[32,45,62,32]⟩:ByteArray)).data.toList 2 1 a b):=by
   show _=_;rw[wZ,iN (by decide),ha,Jy rfl];unfold jc
   by_cases h:(aG a 2).2≠0
   ·rw[iP h,iP (show(aG a (fO 5)).2≠0 from h)];rfl
   ·rw[iN h,iN (show ¬(aG a (fO 5)).2≠0 from h)];simp[eP,cZ,uW,fO,gX]
  have hcc:=oW a b ha (⟨#[32,45,62,32]⟩:ByteArray) 2 1 (by decide) (by omega) (by omega);have Dh:=Hd hcc;clear hcc ha;go_in;go_wp2_with fail;refine Dh.mono ?_;rintro e w1 ⟨rfl,hb2⟩;rw[←jy]at hb2;have HB2:=kB HB1 hb2;clear hb2;go_wp2_with fail;rw[HF,kJ];exact⟨_,rfl,fun _=>rfl,HB2⟩
 ·obtain⟨a,ha⟩:=uQ (show f.kids.length=1 by have h1:=Qd.out;rw[show bV 6=1 from rfl]at h1;omega);have kJ:Hid (BR=gZ ((⟨#[69,88,32]⟩:ByteArray)).data.toList a):=by show _=_;rw[wZ,iN (by decide),ha];exact Di rfl
  have hcc:=Wh a ha (⟨#[69,88,32]⟩:ByteArray) (by decide);have Dh:=Hd hcc;clear hcc ha;go_in;go_wp2_with fail;refine Dh.mono ?_;rintro e w1 ⟨rfl,hb2⟩;rw[←jy]at hb2;have HB2:=kB HB1 hb2;clear hb2;go_wp2_with fail;rw[HF,kJ];exact⟨_,rfl,fun _=>rfl,HB2⟩
 ·obtain⟨a,ha⟩:=uQ (show f.kids.length=1 by have h1:=Qd.out;rw[show bV 7=1 from rfl]at h1;omega);have kJ:Hid (BR=gZ ((⟨#[69,70,32]⟩:ByteArray)).data.toList a):=by show _=_;rw[wZ,iN (by decide),ha];exact Di rfl
  have hcc:=Wh a ha (⟨#[69,70,32]⟩:ByteArray) (by decide);have Dh:=Hd hcc;clear hcc ha;go_in;go_wp2_with fail;refine Dh.mono ?_;rintro e w1 ⟨rfl,hb2⟩;rw[←jy]at hb2;have HB2:=kB HB1 hb2;clear hb2;go_wp2_with fail;rw[HF,kJ];exact⟨_,rfl,fun _=>rfl,HB2⟩
 ·obtain⟨a,ha⟩:=uQ (show f.kids.length=1 by have h1:=Qd.out;rw[show bV 8=1 from rfl]at h1;omega);have kJ:Hid (BR=gZ ((⟨#[69,71,32]⟩:ByteArray)).data.toList a):=by show _=_;rw[wZ,iN (by decide),ha];exact Di rfl
  have hcc:=Wh a ha (⟨#[69,71,32]⟩:ByteArray) (by decide);have Dh:=Hd hcc;clear hcc ha;go_in;go_wp2_with fail;refine Dh.mono ?_;rintro e w1 ⟨rfl,hb2⟩;rw[←jy]at hb2;have HB2:=kB HB1 hb2;clear hb2;go_wp2_with fail;rw[HF,kJ];exact⟨_,rfl,fun _=>rfl,HB2⟩
 ·obtain⟨a,b,ha⟩:=z_ (show f.kids.length=2 by have h1:=Qd.out;rw[show bV 9=2 from rfl]at h1;omega);have hlen:=HLEN a b 1 1 ha
  have kJ:Hid (BR.2=(jc ((⟨#[32,85,32]⟩:ByteArray)).data.toList 1 1 a b).2∧(BR.2=0→BR.1=[69,91]++(jc ((⟨#[32,85,32]⟩:ByteArray)).data.toList 1 1 a b).1++[93])):=by
   have e1:=wZ.out;rw[iN (by decide),ha,Jy rfl]at e1;unfold jc
   by_cases h:(aG a 1).2≠0
   ·rw[iP (show(aG a (fO 9)).2≠0 from h)]at e1;rw[iP h,e1];exact⟨rfl,fun h0=>absurd h0 h⟩
   ·rw[iN (show ¬(aG a (fO 9)).2≠0 from h)]at e1;rw[iN h,e1];exact⟨rfl,fun _=>by simp[eP,cZ,uW,fO,gX]⟩
  have hbl:(jc ((⟨#[32,85,32]⟩:ByteArray)).data.toList 1 1 a b).1.length≤700000010:=by unfold jc;split<;>simp<;>omega
  have hcc:=oW a b ha (⟨#[32,85,32]⟩:ByteArray) 1 1 (by decide) (by omega) (by omega);obtain⟨X,hX⟩:=aj (jc ((⟨#[32,85,32]⟩:ByteArray)).data.toList 1 1 a b);rw[←hX]at hcc kJ hbl;have Dh:=Hd hcc;obtain⟨S1,hS1⟩:∃S1:ByteArray,S1=(⟨#[69,91]⟩:ByteArray)++⟨X.1.toArray⟩:=⟨_,rfl⟩;obtain⟨S2,hS2⟩:∃S2:ByteArray,S2=S1++(⟨#[93]⟩:ByteArray):=⟨_,rfl⟩;have hz1:S1.size=2+X.1.length:=by rw[hS1,bA,Bj X.1];rfl
  have Ij:∀W,(Op.stringOp .add (⟨#[69,91]⟩:ByteArray) ⟨X.1.toArray⟩).run Tryz.prog W=.ok (.string S1) W:=fun W=>by rw[hS1];exact run_string_add_sum W _ _ (by show 2+(⟨X.1.toArray⟩:ByteArray).size≤_;rw[Bj X.1];omega)
  have uP:∀W,(Op.stringOp .add S1 (⟨#[93]⟩:ByteArray)).run Tryz.prog W=.ok (.string S2) W:=fun W=>by rw[hS2];exact run_string_add_sum W _ _ (by show S1.size+1≤_;omega)
  have HS:Hid (BR.2=0→S2.data.toList=BR.1):=fun h=>by rw[kJ.2 h,hS2,hS1];simp[ByteArray.data_append]
  clear hS1 hS2 hz1 hcc hX hbl hlen ha;go_in;go_wp2_with fail;refine Dh.mono ?_;rintro e w1 ⟨rfl,hb2⟩;rw[←jy]at hb2;have HB2:=kB HB1 hb2;have hx1:=HX.below hb2 HX.lt;have y0:=hx1.c0;rw[←gy]at y0;have hs1:=hb2.size;clear hb2 hx1;go_wp2_with fail;rw[HF];exact⟨S2,congrArg (fun z:Int=>Ending.returned (.tuple #[.string S2,.int .i64 z])) kJ.1.symm,HS,HB2⟩
 ·obtain⟨a,ha⟩:=uQ (show f.kids.length=1 by have h1:=Qd.out;rw[show bV 10=1 from rfl]at h1;omega);have kJ:Hid (BR=gZ ((⟨#[65,88,32]⟩:ByteArray)).data.toList a):=by show _=_;rw[wZ,iN (by decide),ha];exact Di rfl
  have hcc:=Wh a ha (⟨#[65,88,32]⟩:ByteArray) (by decide);have Dh:=Hd hcc;clear hcc ha;go_in;go_wp2_with fail;refine Dh.mono ?_;rintro e w1 ⟨rfl,hb2⟩;rw[←jy]at hb2;have HB2:=kB HB1 hb2;clear hb2;go_wp2_with fail;rw[HF,kJ];exact⟨_,rfl,fun _=>rfl,HB2⟩
 ·obtain⟨a,ha⟩:=uQ (show f.kids.length=1 by have h1:=Qd.out;rw[show bV 11=1 from rfl]at h1;omega);have kJ:Hid (BR=gZ ((⟨#[65,70,32]⟩:ByteArray)).data.toList a):=by show _=_;rw[wZ,iN (by decide),ha];exact Di rfl
  have hcc:=Wh a ha (⟨#[65,70,32]⟩:ByteArray) (by decide);have Dh:=Hd hcc;clear hcc ha;go_in;go_wp2_with fail;refine Dh.mono ?_;rintro e w1 ⟨rfl,hb2⟩;rw[←jy]at hb2;have HB2:=kB HB1 hb2;clear hb2;go_wp2_with fail;rw[HF,kJ];exact⟨_,rfl,fun _=>rfl,HB2⟩
 ·obtain⟨a,ha⟩:=uQ (show f.kids.length=1 by have h1:=Qd.out;rw[show bV 12=1 from rfl]at h1;omega);have kJ:Hid (BR=gZ ((⟨#[65,71,32]⟩:ByteArray)).data.toList a):=by show _=_;rw[wZ,iN (by decide),ha];exact Di rfl
  have hcc:=Wh a ha (⟨#[65,71,32]⟩:ByteArray) (by decide);have Dh:=Hd hcc;clear hcc ha;go_in;go_wp2_with fail;refine Dh.mono ?_;rintro e w1 ⟨rfl,hb2⟩;rw[←jy]at hb2;have HB2:=kB HB1 hb2;clear hb2;go_wp2_with fail;rw[HF,kJ];exact⟨_,rfl,fun _=>rfl,HB2⟩
 ·obtain⟨a,b,ha⟩:=z_ (show f.kids.length=2 by have h1:=Qd.out;rw[show bV 13=2 from rfl]at h1;omega);have hlen:=HLEN a b 1 1 ha
  have kJ:Hid (BR.2=(jc ((⟨#[32,85,32]⟩:ByteArray)).data.toList 1 1 a b).2∧(BR.2=0→BR.1=[65,91]++(jc ((⟨#[32,85,32]⟩:ByteArray)).data.toList 1 1 a b).1++[93])):=by
   have e1:=wZ.out;rw[iN (by decide),ha,Jy rfl]at e1;unfold jc
   by_cases h:(aG a 1).2≠0
   ·rw[iP (show(aG a (fO 13)).2≠0 from h)]at e1;rw[iP h,e1];exact⟨rfl,fun h0=>absurd h0 h⟩
   ·rw[iN (show ¬(aG a (fO 13)).2≠0 from h)]at e1;rw[iN h,e1];exact⟨rfl,fun _=>by simp[eP,cZ,uW,fO,gX]⟩
  have hbl:(jc ((⟨#[32,85,32]⟩:ByteArray)).data.toList 1 1 a b).1.length≤700000010:=by unfold jc;split<;>simp<;>omega
  have hcc:=oW a b ha (⟨#[32,85,32]⟩:ByteArray) 1 1 (by decide) (by omega) (by omega);obtain⟨X,hX⟩:=aj (jc ((⟨#[32,85,32]⟩:ByteArray)).data.toList 1 1 a b);rw[←hX]at hcc kJ hbl;have Dh:=Hd hcc;obtain⟨S1,hS1⟩:∃S1:ByteArray,S1=(⟨#[65,91]⟩:ByteArray)++⟨X.1.toArray⟩:=⟨_,rfl⟩;obtain⟨S2,hS2⟩:∃S2:ByteArray,S2=S1++(⟨#[93]⟩:ByteArray):=⟨_,rfl⟩;have hz1:S1.size=2+X.1.length:=by rw[hS1,bA,Bj X.1];rfl
  have Ij:∀W,(Op.stringOp .add (⟨#[65,91]⟩:ByteArray) ⟨X.1.toArray⟩).run Tryz.prog W=.ok (.string S1) W:=fun W=>by rw[hS1];exact run_string_add_sum W _ _ (by show 2+(⟨X.1.toArray⟩:ByteArray).size≤_;rw[Bj X.1];omega)
  have uP:∀W,(Op.stringOp .add S1 (⟨#[93]⟩:ByteArray)).run Tryz.prog W=.ok (.string S2) W:=fun W=>by rw[hS2];exact run_string_add_sum W _ _ (by show S1.size+1≤_;omega)
  have HS:Hid (BR.2=0→S2.data.toList=BR.1):=fun h=>by rw[kJ.2 h,hS2,hS1];simp[ByteArray.data_append]
  clear hS1 hS2 hz1 hcc hX hbl hlen ha;go_in;go_wp2_with fail;refine Dh.mono ?_;rintro e w1 ⟨rfl,hb2⟩;rw[←jy]at hb2;have HB2:=kB HB1 hb2;have hx1:=HX.below hb2 HX.lt;have y0:=hx1.c0;rw[←gy]at y0;have hs1:=hb2.size;clear hb2 hx1;go_wp2_with fail;rw[HF];exact⟨S2,congrArg (fun z:Int=>Ending.returned (.tuple #[.string S2,.int .i64 z])) kJ.1.symm,HS,HB2⟩
theorem Nu:∀N:Nat,Ii N:=by
 intro N
 induction N with
 |zero=>
  intro f least d Ae ce A c w hN;cases f;rw[Fm.size]at hN;omega
 |succ N ih=>
  intro f least d Ae ce A c w hN hok hws hsz hle hV hT;obtain⟨n,hn⟩:=aj f.kids.length;obtain⟨ne,hne⟩:=aj f.tm.kids.length;obtain⟨wb,hwb⟩:=aj (w.alloc (.cells #[.int .i64 f.op,.int .i64 f.tm.op,.int .i64 f.tm.num,.string f.tm.name,.slice Ae ne ce,.slice A n c] 67));have hb1:=dz hwb;have hx:iJ wb w.heap.size Ae ne ce A n c f:=by rw[hwb];exact eu w _
  have hcall:=Nt N ih f d Ae ce A c wb hN hok hws hsz (hV.below hb1 rfl) (hT.below hb1);unfold Fm.val at hcall⊢;rw[←hn,←hne]at hcall⊢;have hlen:=Ns f;have hft:=Sc f least;obtain⟨R,hR⟩:=aj (zf f);rw[←hR]at hcall hlen hft;rw[hwb]at hcall;obtain⟨X,hX⟩:=aj (aG f least);rw[←hX]at hft⊢;have HC:=Hd hcall;have HB1:=Hd hb1;have HX:=Hd hx;have jy:=Hd hwb;have HFT:=Hd hft;have zD:=Hd hlen;have mg:=Hd hsz;have R_:=Hd (fun W=>F7 f.op W);have hlt:w.heap.size<wb.heap.size:=by rw[hwb];simp
  have hst:aN f.op≤4:=by
   unfold aN
   iterate 3 (split;· omega)
   omega
  obtain⟨sf,hsf⟩:=aj (aN f.op);rw[←hsf]at HFT R_ hst;clear hwb hb1 hcall hR hx hft hX hlen hsz hok hws hV hT hn hne hN hsf;go_in;go_wp2_with fail;refine HC.mono ?_;rintro e w1 ⟨s,rfl,hs,hb2⟩;rw[←jy]at hb2;have hx1:=HX.below hb2 HX.lt;have HB2:=kB HB1 hb2;have y0:=hx1.c0;have hs1:=hb2.size;have HS:=Hd hs;clear hb2 hx1 hs
  by_cases h0:R.2=0
  ·have hsd:=HS h0;have hsl:s.size=R.1.length:=by rw[←hsd];simp
   have bE:Hid (X=if sf<least then([40]++s.data.toList++[41],0)else(s.data.toList,0)):=by show _=_;rw[HFT,iN (fun h=>h h0),hsd]
   have h0':(R.2 != 0)=false:=by simpa using h0
   have hsb:s.size≤700000000:=by have h1:=zD.out;have h2:=mg.out;omega
   have hid:(⟨s.data.toList.toArray⟩:ByteArray)=s:=by apply ByteArray.ext;simp
   have OX:=Hd hid;clear h0 hsd hsl hid;go_wp2_with fail;refine(R_ _).mono ?_;rintro e w' ⟨rfl,hw⟩;rw[←hw];clear hw
   by_cases h4:sf<least
   ·have h4':(sf:Int)<(least:Int):=by omega
    obtain⟨S1,hS1⟩:∃S1:ByteArray,S1=(⟨#[40]⟩:ByteArray)++s:=⟨_,rfl⟩;obtain⟨S2,hS2⟩:∃S2:ByteArray,S2=S1++(⟨#[41]⟩:ByteArray):=⟨_,rfl⟩;have hz1:S1.size=1+s.size:=by rw[hS1,bA];rfl
    have Ij:∀W,(Op.stringOp .add (⟨#[40]⟩:ByteArray) s).run Tryz.prog W=.ok (.string S1) W:=fun W=>by rw[hS1];exact run_string_add_sum W _ _ (by show 1+s.size≤_;omega)
    have uP:∀W,(Op.stringOp .add S1 (⟨#[41]⟩:ByteArray)).run Tryz.prog W=.ok (.string S2) W:=fun W=>by rw[hS2];exact run_string_add_sum W _ _ (by show S1.size+1≤_;omega)
    have HRR:Hid (X=(S2.data.toList,0)):=by show _=_;rw[bE,iP h4,hS2,hS1];simp[ByteArray.data_append]
    clear hS1 hS2 hz1 h4;go_wp2_with fail
    go_ret2
    rw[HRR];exact⟨rfl,HB2⟩
   ·have h4':¬(sf:Int)<(least:Int):=by omega
    have HRR:Hid (X=(s.data.toList,0)):=by show _=_;rw[bE,iN h4]
    clear h4;go_wp2_with fail
    go_ret2
    rw[HRR];exact⟨rfl,HB2⟩
  ·have bE:Hid (X=([],R.2)):=by show _=_;rw[HFT,iP h0]
   have h0':(R.2 != 0)=true:=by simpa using h0
   clear h0;go_wp2_with fail
   go_ret2
   rw[bE];exact⟨rfl,HB2⟩
theorem Qe(f:Fm)(Ae:Option Addr)(ce:Nat)(A:Option Addr)(c:Nat)(w:World)(hws:f.bT≤9000000)(hV:pO w Ae ce A c f)(hT:je w) :
 Calls Tryz.prog 28 #[f.val Ae ce A c] w fun e w'=>e=.returned (.tuple #[.string ⟨(dX f).1.toArray⟩,.int .i64 (dX f).2])∧Below w.heap.size w w':=by
 obtain⟨n,HN⟩:=ak f.kids.length;obtain⟨ne,vM⟩:=ak f.tm.kids.length;obtain⟨wb,hwb⟩:=aj (w.alloc (.cells #[.int .i64 f.op,.int .i64 f.tm.op,.int .i64 f.tm.num,.string f.tm.name,.slice Ae ne ce,.slice A n c] 67));have hb1:=dz hwb;have hx:iJ wb w.heap.size Ae ne ce A n c f:=by rw[hwb];exact eu w _
 have hck:=FN f Ae ce A c wb (hV.below hb1 rfl) hws;unfold Fm.val at hck⊢;rw[←HN,←vM]at hck⊢;obtain⟨ck,F6⟩:=ak f.check;rw[←F6]at hck;obtain⟨X,hX⟩:=aj (dX f);rw[←hX];unfold dX at hX;rw[←F6]at hX;have HX0:=Hd hX;rw[hwb]at hck;have IC:=Hd hck;have HB1:=Hd hb1;have HX:=Hd hx;have jy:=Hd hwb;have HV:=Hd hV;have HT:=Hd hT;have hlt:w.heap.size<wb.heap.size:=by rw[hwb];simp
 clear hwb hb1 hck hx hX hV hT;go_in;go_wp2_with fail;refine IC.mono ?_;rintro e w1 ⟨rfl,hb2⟩;rw[←jy]at hb2;have hx1:=HX.below hb2 HX.lt;have hbw:=HB1.trans (hb2.mono HB1.size);have HB2:=Hd hbw;have hs1:=hb2.size;have y0:=hx1.c0;have y1:=hx1.c1;have y2:=hx1.c2;have y3:=hx1.c3;have y4:=hx1.c4;have y5:=hx1.c5
 by_cases h0:ck=0
 ·have hch:f.check=0:=by rw[←F6];exact h0
  obtain⟨hok,hsz⟩:=qI hch;have htx:=Nu f.size f 1 1 Ae ce A c w1 (lr _) hok hws (by omega) (by omega) (HV.below hbw rfl) (HT.below hbw);unfold Fm.val at htx;rw[←HN,←vM]at htx;have hlen:=dM f 1;have Kq:Hid (X=if (aG f 1).2≠0 then([],(aG f 1).2)else if 65536<(aG f 1).1.length then([],4)else((aG f 1).1,0)):=by show _=_;rw[HX0,iN (fun h=>h h0)]
  obtain⟨R,hR⟩:=aj (aG f 1);rw[←hR]at htx hlen Kq;have CF:=Hd htx;subst h0;have zD:Hid (R.1.length≤700000000):=by show _≤_;omega
  clear hx1 hbw hb2 htx hR hok hsz hch hlen;go_wp2_with fail;refine CF.mono ?_;rintro e w2 ⟨rfl,hb3⟩;have HB3:=kB HB2 hb3;have hlr:(⟨R.1.toArray⟩:ByteArray).size=R.1.length:=Bj R.1;have HLR:=Hd hlr;obtain⟨s,hs⟩:∃s:ByteArray,s=⟨R.1.toArray⟩:=⟨_,rfl⟩;rw[←hs]at HLR⊢;have HS:=Hd hs;have hsm:s.size≤700000000:=by rw[HLR];exact zD
  clear hb3 y0 y1 y2 y3 y4 y5 hlr hs
  by_cases h2:R.2=0
  ·have h2':(R.2 != 0)=false:=by simpa using h2
   by_cases h6:65536<s.size
   ·have HRR:Hid (X=([],4)):=by show _=_;rw[Kq,iN (fun h=>h h2),iP (by rw[←HLR];exact h6)]
    have h6':(65536:Int)<(s.size:Int):=by omega
    clear h2 h6;go_wp2_with fail
    go_ret2
    rw[HRR];exact⟨rfl,HB3⟩
   ·have HRR:Hid (X=(R.1,0)):=by show _=_;rw[Kq,iN (fun h=>h h2),iN (by rw[←HLR];exact h6)]
    have h6':¬(65536:Int)<(s.size:Int):=by omega
    clear h2 h6;go_wp2_with fail
    go_ret2
    rw[HRR,HS];exact⟨rfl,HB3⟩
  ·have HRR:Hid (X=([],R.2)):=by show _=_;rw[Kq,iP h2]
   have h2':(R.2 != 0)=true:=by simpa using h2
   clear h2;go_wp2_with fail
   go_ret2
   rw[HRR];exact⟨rfl,HB3⟩
 ·have HRR:Hid (X=([],ck)):=by show _=_;rw[HX0,iP h0]
  have h0':(ck != 0)=true:=by simpa using h0
  clear h0 hx1 hbw hb2;go_wp2_with fail
  go_ret2
  rw[HRR];exact⟨rfl,HB2⟩
open Go.ChangeShapes Go.WideShapes Go.ChangeAt Go.RowKit
theorem mZ.mk:∀{w:World} {l:List Fm} {g o:Nat},(∀j t,l[j]?=some t→xS w g (o+6*j) t)→mZ w g o l
 |w,[],g,o,h=>by rw[mZ];trivial
 |w,t::r,g,o,h=>by
  rw[mZ];exact⟨h 0 t rfl,mZ.mk fun j x hj=>by rw[show o+6+6*j=o+6*(j+1)from by omega];exact h (j+1) x (by simpa using hj)⟩
section
variable {H:Type} {enc:TypeId×Value→H} {w:World} {base:Nat} {spare:Nat→Bool} {held:Bool}
theorem ae1:∀(fuel:Nat) (cs:List Value) (x:DataW H×List MemPlace),DataW.trod enc Tryz.prog w base spare held fuel 67 cs=some x→∃(t:Fm)(Ae:Option Addr)(ce:Nat)(A:Option Addr)(c:Nat),cs=[.int .i64 t.op,.int .i64 t.tm.op,.int .i64 t.tm.num,.string t.tm.name,.slice Ae t.tm.kids.length ce,.slice A t.kids.length c]∧pO w Ae ce A c t:=by
 intro fuel
 induction fuel using Nat.strongRecOn with
 |_ fuel ih=>
  intro cs x h;obtain⟨xs,n,hfu,-,hl,hxl,hf⟩:=DataW.trod_struct Tryz.underlying67 h;rw[show Tryz.prog.cellsOf 67=6 from by kernel_rfl]at hl
  obtain⟨c0,c1,c2,c3,c4,c5,rfl⟩:∃c0 c1 c2 c3 c4 c5,cs=[c0,c1,c2,c3,c4,c5]:=by
   match cs,hl with
   |[c0,c1,c2,c3,c4,c5],_=>exact⟨c0,c1,c2,c3,c4,c5,rfl⟩
  obtain⟨y0,y1,y2,rfl⟩:∃y0 y1 y2,xs=[y0,y1,y2]:=by
   match xs,hxl with
   |[c0,c1,c2],_=>exact⟨c0,c1,c2,rfl⟩
  have f0:=hf 0 _ rfl;have f1:=hf 1 _ rfl;have f2:=hf 2 _ rfl;simp[show Tryz.prog.cellsOf 3=1 from by kernel_rfl,show Tryz.prog.cellsOf 64=4 from by kernel_rfl,show Tryz.prog.cellsOf 65=1 from by kernel_rfl]at f0 f1 f2;obtain⟨n0,e0,-,-⟩:=DataW.trod_int Tryz.underlying3 f0;obtain⟨e,Ae,ce,e1,hE⟩:=Vd _ _ _ f1
  obtain⟨A,c,l,e2,h1,h2,h3⟩:=F8 Tryz.underlying65 (show Tryz.prog.cellsOf 67=6 from by kernel_rfl) (by decide) (fun b o (t:Fm)=>xS w b o t) (fun m hm b o cs' y hb hcl hcells htr=>by
   obtain⟨t,Ae',ce',A',c',rfl,hV⟩:=ih m (by omega) cs' y htr;refine⟨t,?_⟩;have g0:=hcells 0 (by omega);have g1:=hcells 1 (by omega);have g2:=hcells 2 (by omega);have g3:=hcells 3 (by omega);have g4:=hcells 4 (by omega);have g5:=hcells 5 (by omega)
   exact xS.mk g0 g1 g2 g3 g4 g5 hV) f2
  injection e0 with e0
  injection e1 with e1 e1'
  injection e1' with e11 e1'
  injection e1' with e12 e1'
  injection e1' with e13 e1'
  injection e2 with e2
  subst e0 e1 e11 e12 e13 e2;refine⟨.mk n0 e l,Ae,ce,A,c,rfl,hE,h1,h2,?_⟩
  rcases h3 with h3|⟨b,o,rfl,hb,h3⟩
  ·exact .inl h3
  ·exact .inr ⟨b,o,rfl,hb,mZ.mk h3⟩
end
section
variable {H:Type} {enc:TypeId×Value→H} {W:World} {base:Nat} {v:Value} {d:DataW H} {p:List MemPlace}
end
end Go.Proofs.YtkhoeoilamddaaaGreatDoor
