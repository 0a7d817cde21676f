/- Walks and plain words: RprA FrmEs FrmGs. -/
import Derived.Test.YtkhoeoilamddaaaGreatDoorQFrmC
import Derived.Test.YtkhoeoilamddaaaGreatDoorQTrmGs
namespace Go.Proofs.YtkhoeoilamddaaaGreatDoor
open Go.RowKit
set_option linter.unusedVariables false
set_option maxRecDepth 100000
set_option maxHeartbeats 4000000
def jY:Rs Tm→Tm
 |.bad _ _=>dG
 |.ok t _=>t
def Vn:Rs Tm→Nat
 |.bad j _=>j
 |.ok _ j=>j
def Vo:Rs Tm→Int
 |.bad _ e=>e
 |.ok _ _=>0
def GQ(w:World)(r:Rs Tm)(e:Ending)(w':World):Prop:=∃A' c',e=.returned (.agg #[.int .i64 (jY r).op,.int .i64 (jY r).num,.string (jY r).name,.slice A' (jY r).kids.length c',.int .i64 (Vn r:Nat),.int .i64 (Vo r)])∧aD (fun q=>w.heap.size≤q) w' A' c' (jY r)∧Below w.heap.size w w'
theorem dP.below{w w':World}{A:Option Addr}{c:Nat}{l:List Tok}(h:dP w A c l)(hb:Below w.heap.size w w'):dP w' A c l:=
 ⟨h.toks.Aq hb rfl,h.cap,h.bU,h.len,h.txt,h.rng,fun a ha=>lL (h.old a ha) hb.size⟩
def Sm(l:List Tok)(d:Nat)(K:FuncId)(P:jN):Prop:=∀(A:Option Addr)(c i:Nat)(w:World),i≤l.length→dP w A c l→Calls Tryz.prog K #[.slice A l.length c,.int .i64 (i:Nat),.int .i64 (d:Nat)] w (GQ w (P i))
def OZ(l:List Tok)(d:Nat)(K:FuncId)(b:Bool)(P:jN):Prop:=∀(A:Option Addr)(c i:Nat)(w:World),i≤l.length→dP w A c l→Calls Tryz.prog K #[.slice A l.length c,.int .i64 (i:Nat),.int .i64 (d:Nat),.bool b] w (GQ w (P i))
theorem iG{W:World}{b:Nat}{D G I J O Y v0 v1 v2 v3 v4 v5:Value}{T:TypeId}(h:W.heap[b]?=some (.cells #[D,G,I,J,O,Y] T (0,0))) :
 ((((((W.setCell ⟨b,0,none⟩ v0).setCell ⟨b,1,none⟩ v1).setCell ⟨b,2,none⟩ v2).setCell ⟨b,3,none⟩ v3).setCell ⟨b,4,none⟩ v4).setCell ⟨b,5,none⟩ v5).heap[b]?=some (.cells #[v0,v1,v2,v3,v4,v5] T (0,0)):=by
 simp[World.setCell,Array.getElem?_modify,h]
theorem fV{W:World}{b q:Nat}{v0 v1 v2 v3 v4 v5:Value}(h:q≠b):((((((W.setCell ⟨b,0,none⟩ v0).setCell ⟨b,1,none⟩ v1).setCell ⟨b,2,none⟩ v2).setCell ⟨b,3,none⟩ v3).setCell ⟨b,4,none⟩ v4).setCell ⟨b,5,none⟩ v5).heap[q]?=W.heap[q]?:=by
 rw[iw _ ⟨b,5,none⟩ q _ h,iw _ ⟨b,4,none⟩ q _ h,iw _ ⟨b,3,none⟩ q _ h,iw _ ⟨b,2,none⟩ q _ h,iw _ ⟨b,1,none⟩ q _ h,iw _ ⟨b,0,none⟩ q _ h]
theorem fF{w W:World}{D:Nat}{r:Rs Tm}{A':Option Addr}{c':Nat}(v0 v1 v2 v3 v4 v5:Value)(hb:D=w.heap.size)(I:aD (fun q=>w.heap.size<q) W A' c' (jY r))(G:Below w.heap.size w W) :
 GQ w r (.returned (.agg #[.int .i64 (jY r).op,.int .i64 (jY r).num,.string (jY r).name,.slice A' (jY r).kids.length c',.int .i64 (Vn r:Nat),.int .i64 (Vo r)])) ((((((W.setCell ⟨D,0,none⟩ v0).setCell ⟨D,1,none⟩ v1).setCell ⟨D,2,none⟩ v2).setCell ⟨D,3,none⟩ v3).setCell ⟨D,4,none⟩ v4).setCell ⟨D,5,none⟩ v5):=by
 subst hb;have h0:w.heap.size≤w.heap.size:=lr _;refine⟨A',c',rfl,I.keep ((((((aR.refl.set (by omega) _).set (by omega) _).set (by omega) _).set (by omega) _).set (by omega) _).set (by omega) _) (fun q _ h=>Nat.le_of_lt h),?_⟩;exact((((((Ob (F:=fun q=>w.heap.size≤q) G).bq h0 _).bq h0 _).bq h0 _).bq h0 _).bq h0 _).bq h0 _|>.below (fun q h=>h) (lr _)
theorem Dk(A:Option Addr)(c i:Nat)(l:List Tok)(k:Int)(s:ByteArray)(w:World)(hP:dP w A c l)(hi:i≤1000000) :
 Calls Tryz.prog 183 #[.slice A l.length c,.int .i64 (i:Nat),.int .i64 k,.string s] w fun e w'=>e=.returned (.bool (ah l i k (bs s)))∧w'=w:=by
 obtain⟨n,HN⟩:=ak l.length;rw[←HN];have hlen:=hP.len;have O:=hP.cap;have aQ:=hP.bU;unfold maxLen at aQ;rw[←HN]at hlen O;obtain⟨r,hr⟩:=aj (ah l i k (bs s));rw[←hr];unfold ah at hr;have HR:=Hd hr;have HP:=Hd hP;clear hr hP
 by_cases G:i<n
 ·obtain⟨t,ht⟩:∃t,l[i]?=some t:=⟨_,gG (by have:=HN.out;omega)⟩
  rcases HP.toks with h0|⟨b,off,rfl,hb,hc⟩
  ·rw[h0]at ht;simp at ht
  have x0:=hc i t ht 0 (by omega);have x2:=hc i t ht 2 (by omega);simp only[fZ,Nat.add_zero]at x0 x2;have J:Hid (r=(decide (t.kind=k)&&decide (t.text=bs s))):=by show _=_;rw[HR,ht]
  have ae:(0:Int)≤(i:Int):=by omega
  have Y:(i:Int)<(n:Int):=by omega
  clear ht hc G
  by_cases I:t.kind=k
  ·have aa:(t.kind==k)=true:=by simpa using I
   have D:Hid (r=decide (t.text=bs s)):=by show _=_;rw[J,decide_eq_true I];rfl
   have hs:((⟨t.text.toArray⟩:ByteArray).toList==s.toList)=decide (t.text=bs s):=by rw[vY];rfl
   obtain⟨T,hT⟩:∃T:ByteArray,T=⟨t.text.toArray⟩:=⟨_,rfl⟩;rw[←hT]at x2 hs;rw[←D]at hs;clear I hT;cases r
   all_goals
    go_in;go_wp2_with fail;go_ret;exact⟨rfl,rfl⟩
  ·have aa:(t.kind==k)=false:=by simpa using I
   have D:Hid (r=false):=by show _=_;rw[J,dF I];rfl
   clear I;go_in;go_wp2_with fail;go_ret;rw[D];exact⟨rfl,rfl⟩
 ·have D:Hid (r=false):=by show _=_;rw[HR,List.getElem?_eq_none (by have:=HN.out;omega)]
  have Y:¬(i:Int)<(n:Int):=by omega
  have hd:decide ((i:Int)<(n:Int))=false:=dF Y;have ab:decide (i<n)=false:=dF G;clear G;go_in;go_wp2_with fail;go_ret;rw[D];exact⟨rfl,rfl⟩
theorem qB(A:Option Addr)(c i:Nat)(l:List Tok)(s:ByteArray)(w:World)(hP:dP w A c l)(hi:i≤1000000) :
 Calls Tryz.prog 154 #[.slice A l.length c,.int .i64 (i:Nat),.string s] w fun e w'=>e=.returned (.bool (ah l i 4 (bs s)))∧w'=w:=by
 have D:=Hd (Dk A c i l 4 s w hP hi);clear hP;go_in;go_wp2_with fail;refine D.mono ?_;rintro e w' ⟨rfl,rfl⟩;go_wp2_with fail;go_ret;exact⟨rfl,rfl⟩
theorem ig(i:Nat)(x:Int)(w:World):Calls Tryz.prog 182 #[.int .i64 (i:Nat),.int .i64 x] w (GQ w (.bad i x)):=by
 obtain⟨F,D⟩:=ak (GQ w (.bad i x));rw[←D];go_in;go_wp2_with fail;refine bR (sJ (eu w _)) rfl ?_;rw[D];exact⟨none,0,rfl,aD.leaf (zl _),(Br _ _).alloc (lr _) _⟩
theorem Ac(op:Int)(t u:Tm)(A:Option Addr)(c:Nat)(G:Option Addr)(c2 B:Nat)(w:World)(hB:B≤w.heap.size)(hV:aD (fun q=>B≤q) w A c t)(O:aD (fun q=>B≤q) w G c2 u) :
 Calls Tryz.prog 155 #[.int .i64 op,t.val A c,u.val G c2] w fun e w'=>∃g,e=.returned (.agg #[.int .i64 op,.int .i64 0,.string ⟨#[]⟩,.slice (some ⟨g,0,none⟩) 2 2])∧aD (fun q=>B≤q) w' (some ⟨g,0,none⟩) 2 (dD op [t,u])∧Below w.heap.size w w':=by
 obtain⟨n,HN⟩:=ak t.kids.length;obtain⟨n2,kU⟩:=ak u.kids.length;obtain⟨F,hF⟩:∃F:Ending→World→Prop,F=fun e w'=>∃g,e=.returned (.agg #[.int .i64 op,.int .i64 0,.string ⟨#[]⟩,.slice (some ⟨g,0,none⟩) 2 2])∧aD (fun q=>B≤q) w' (some ⟨g,0,none⟩) 2 (dD op [t,u])∧Below w.heap.size w w':=⟨_,rfl⟩;rw[←hF];have hv:t.val A c=.agg #[.int .i64 t.op,.int .i64 t.num,.string t.name,.slice A n c]:=by unfold Tm.val;rw[HN]
 have aa:u.val G c2=.agg #[.int .i64 u.op,.int .i64 u.num,.string u.name,.slice G n2 c2]:=by unfold Tm.val;rw[kU]
 rw[hv,aa];have HF:=Hd hF;have HV:=Hd hV;have jm:=Hd O;clear hF hv aa hV O;go_in;go_wp2_with fail;obtain⟨w2,J⟩:=aj ((w.alloc (.cells #[.int .i64 t.op,.int .i64 t.num,.string t.name,.slice A n c] 64)).alloc (.cells #[.int .i64 u.op,.int .i64 u.num,.string u.name,.slice G n2 c2] 64));have ag:w2.heap.size=w.heap.size+1+1:=by rw[J];simp
 have ab:Below w.heap.size w w2:=by rw[J];exact((Br _ _).alloc (lr _) _).alloc (by simp) _
 rw[←J,←ag];obtain⟨w3,D⟩:=aj (w2.alloc (.cells #[.int .i64 op,.int .i64 0,.string ⟨#[]⟩,.slice (some ⟨w2.heap.size+1,0,none⟩) 2 2] 64));have ai:w3.heap.size=w2.heap.size+1:=by rw[D];simp
 have ae:=dz D;have ao:w3.heap[w2.heap.size]?=some (.cells #[.int .i64 op,.int .i64 0,.string ⟨#[]⟩,.slice (some ⟨w2.heap.size+1,0,none⟩) 2 2] 64 (0,0)):=by rw[D];exact eu w2 _
 rw[←D];refine bR (Gg (aK ao)) rfl ?_;rw[HF];obtain⟨W,hW⟩:=aj (w3.alloc (.cells #[.int .i64 t.op,.int .i64 t.num,.string t.name,.slice A n c,.int .i64 u.op,.int .i64 u.num,.string u.name,.slice G n2 c2] 64));have af:=dz hW
 have hrow:W.heap[w3.heap.size]?=some (.cells (bY [⟨t,A,c⟩,⟨u,G,c2⟩]).toArray 64 (0,0)):=by
  rw[hW,HN,kU];exact eu w3 _
 rw[←hW];have I:Below w.heap.size w W:=(ab.trans (ae.mono (by omega))).trans (af.mono (by omega));have Y:=lH hrow;rw[ai]at hrow Y;refine⟨w2.heap.size+1,rfl,⟨lr _,by unfold maxLen;omega,zl _,.inr ⟨w2.heap.size+1,0,rfl,by omega,Y,?_⟩⟩,I⟩;refine jP [⟨t,A,c⟩,⟨u,G,c2⟩] 0 (fun k v hv=>?_) ?_
 ·rw[Nat.zero_add,cR W _ k _ _ (0,0) hrow]
  simpa using hv
 ·intro e he;simp only[List.mem_cons,List.not_mem_nil,or_false]at he
  rcases he with rfl|rfl
  ·exact HV.keep (Kb I) (fun _ _ h=>h)
  ·exact jm.keep (Kb I) (fun _ _ h=>h)
theorem F7(op:Int)(w:World) :
 Calls Tryz.prog 103 #[.int .i64 op] w fun e w'=>e=.returned (.int .i64 (aN op:Nat))∧w=w':=by
 obtain⟨r,D⟩:=ak (aN op);rw[←D];go_in
 go_wp2
 all_goals
  go_ret;rw[D];refine⟨?_,rfl⟩
  simp_all[aN]
def Fb:Nat→Fm→Bool
 |0,_=>false
 |N+1,f=>((f.op==1&&Fa f.tm.size f.tm 0)||f.op==2||f.op==4||f.op==5||f.op==7)&&f.kids.all (Fb N)
theorem ZX{N:Nat}{f:Fm}(h:Fb (N+1) f=true):(f.op=1∨f.op=2∨f.op=4∨f.op=5∨f.op=7)∧(f.op=1→Fa f.tm.size f.tm 0=true)∧∀k∈f.kids,Fb N k=true:=by
 rw[Fb]at h;simp only[Bool.and_eq_true,Bool.or_eq_true,beq_iff_eq,List.all_eq_true]at h;obtain⟨h1,h2⟩:=h;refine⟨by omega,fun h3=>?_,h2⟩
 rcases h1 with(((h1|h1)|h1)|h1)|h1
 ·exact h1.2
 all_goals omega
def Ii(N:Nat):Prop:=∀(f:Fm)(least d:Nat)(Ae:Option Addr)(ce:Nat)(A:Option Addr)(c:Nat)(w:World),f.size≤N→Fb N f=true→f.lI d→f.bT≤9000000→f.size≤5000→least≤10→pO w Ae ce A c f→je w →
 Calls Tryz.prog 60 #[f.val Ae ce A c,.int .i64 (least:Nat)] w fun e w'=>e=.returned (.tuple #[.string ⟨(aG f least).1.toArray⟩,.int .i64 (aG f least).2])∧Below w.heap.size w w'
theorem pO.kid{w:World}{Ae A:Option Addr}{ce c:Nat}{f k:Fm}{j:Nat}(h:pO w Ae ce A c f)(J:f.kids[j]?=some k):∃g o,A=some ⟨g,o,none⟩∧g<w.heap.size∧∃G I D c2,w.cell? ⟨g,o+6*j,none⟩=some (.int .i64 k.op)∧w.cell? ⟨g,o+6*j+1,none⟩=some (.int .i64 k.tm.op)∧w.cell? ⟨g,o+6*j+2,none⟩=some (.int .i64 k.tm.num)∧w.cell? ⟨g,o+6*j+3,none⟩=some (.string k.tm.name) ∧
 w.cell? ⟨g,o+6*j+4,none⟩=some (.slice G k.tm.kids.length I)∧w.cell? ⟨g,o+6*j+5,none⟩=some (.slice D k.kids.length c2)∧pO w G I D c2 k:=by
 rcases h.kids with h0|⟨g,o,hA,O,hrow⟩
 ·rw[h0]at J;simp at J
 ·obtain⟨Y,q1,q2,q3,G,I,D,c2,q4,q5,hv⟩:=(hrow.get J).open;exact⟨g,o,hA,O,G,I,D,c2,Y,q1,q2,q3,q4,q5,hv⟩
def gZ(word:Bs)(a:Fm):Bs×Int:=(word++(aG a 4).1,(aG a 4).2)
def jc(sign:Bs)(l r:Nat)(a b:Fm):Bs×Int:=if (aG a l).2≠0 then([],(aG a l).2)else((aG a l).1++sign++(aG b r).1,(aG b r).2)
theorem Bj(l:Bs):(⟨l.toArray⟩:ByteArray).size=l.length:=by simp[ByteArray.size]
theorem Jv(N:Nat)(H:Ii N)(f a:Fm)(d:Nat)(word:ByteArray)(Ae:Option Addr)(ce:Nat)(A:Option Addr)(c:Nat)(w:World)(O:f.kids=[a])(ha:a.size≤N)(ao:Fb N a=true)(hok:a.lI d)(ar:a.bT≤9000000)(hsz:a.size≤5000)(hwd:word.size≤10)(hV:pO w Ae ce A c f)(hT:je w) :
 Calls Tryz.prog 131 #[f.val Ae ce A c,.string word] w fun e w'=>e=.returned (.tuple #[.string ⟨(gZ word.data.toList a).1.toArray⟩,.int .i64 (gZ word.data.toList a).2])∧Below w.heap.size w w':=by
 have ab:f.kids[0]?=some a:=by rw[O];rfl
 have Y:f.kids.length=1:=by rw[O];rfl
 obtain⟨ne,hne⟩:=aj f.tm.kids.length;obtain⟨wb,G⟩:=aj (w.alloc (.cells #[.int .i64 f.op,.int .i64 f.tm.op,.int .i64 f.tm.num,.string f.tm.name,.slice Ae ne ce,.slice A 1 c] 67));have hb1:=dz G;obtain⟨g,o,rfl,hg,eD,eF,A2,c2,q0,q1,q2,q3,q4,q5,aa⟩:=hV.kid ab;rw[Nat.mul_zero,Nat.add_zero]at q0 q1 q2 q3 q4 q5;obtain⟨n2,ae⟩:=aj a.kids.length;obtain⟨zT,I⟩:=aj a.tm.kids.length;have D:=H a 4 d eD eF A2 c2 wb ha ao hok ar hsz (by omega) (aa.below hb1 rfl) (hT.below hb1);unfold Fm.val at D⊢;rw[Y,←hne];rw[←ae]at D q5;rw[←I]at D q4;have hlen:=dM a 4;obtain⟨R,hR⟩:=aj (aG a 4);rw[←hR]at D hlen;rw[G]at D;have HC:=Hd D;have af:=Hd hb1;have HR:=Hd hR;obtain⟨S,hS⟩:∃S:ByteArray,S=word++⟨R.1.toArray⟩:=⟨_,rfl⟩;have Ij:∀W,(Op.stringOp .add word ⟨R.1.toArray⟩).run Tryz.prog W=.ok (.string S) W:=fun W=>by rw[hS];exact run_string_add_sum W _ _ (by show word.size+(⟨R.1.toArray⟩:ByteArray).size≤_;rw[Bj R.1];omega)
 have jk:Hid (gZ word.data.toList a=(S.data.toList,R.2)):=by
  show _=_;unfold gZ;rw[←hR,hS];simp[ByteArray.data_append]
 have ai:=hV.cap;rw[Y]at ai;have jy:=Hd G;clear G hb1 D hR hS hV aa hT ab Y ae I hne O H hlen;go_in;go_wp2_with fail;refine HC.mono ?_;rintro e w1 ⟨rfl,J⟩;rw[←jy]at J;have ag:=kB af J;clear J;go_wp2_with fail
 go_ret2
 rw[jk];exact⟨rfl,ag⟩
theorem Dc(N:Nat)(H:Ii N)(f a b:Fm)(d:Nat)(sign:ByteArray)(l r:Nat)(Ae:Option Addr)(ce:Nat)(A:Option Addr)(c:Nat)(w:World)(O:f.kids=[a,b])(ha:a.size≤N)(hb:b.size≤N)(bb:Fb N a=true)(bd:Fb N b=true)(a7:a.lI d)(a8:b.lI d)(bk:a.bT≤9000000)(ba:b.bT≤9000000)(bi:a.size≤5000)(bj:b.size≤5000)(bn:sign.size≤10)(hl:l≤10)(hr:r≤10)(hV:pO w Ae ce A c f)(hT:je w) :
 Calls Tryz.prog 130 #[f.val Ae ce A c,.string sign,.int .i64 (l:Nat),.int .i64 (r:Nat)] w fun e w'=>e=.returned (.tuple #[.string ⟨(jc sign.data.toList l r a b).1.toArray⟩,.int .i64 (jc sign.data.toList l r a b).2])∧Below w.heap.size w w':=by
 have aF:f.kids[0]?=some a:=by rw[O];rfl
 have aJ:f.kids[1]?=some b:=by rw[O];rfl
 have af:f.kids.length=2:=by rw[O];rfl
 obtain⟨ne,hne⟩:=aj f.tm.kids.length;obtain⟨wb,I⟩:=aj (w.alloc (.cells #[.int .i64 f.op,.int .i64 f.tm.op,.int .i64 f.tm.num,.string f.tm.name,.slice Ae ne ce,.slice A 2 c] 67));have hb1:=dz I;have hx:iJ wb w.heap.size Ae ne ce A 2 c f:=by rw[I];exact eu w _
 obtain⟨g,o,rfl,hg,eD,eF,A2,c2,q0,q1,q2,q3,q4,q5,ax⟩:=hV.kid aF;obtain⟨g',o',ae,bh,ag,av,A3,c3,p0,p1,p2,p3,p4,p5,ay⟩:=hV.kid aJ
 injection ae with ae
 injection ae with hg1 ho1 _
 subst hg1 ho1;rw[Nat.mul_zero,Nat.add_zero]at q0 q1 q2 q3 q4 q5;rw[Nat.mul_one]at p0 p1 p2 p3 p4 p5;obtain⟨n2,aP⟩:=aj a.kids.length;obtain⟨zT,Y⟩:=aj a.tm.kids.length;obtain⟨n3,aQ⟩:=aj b.kids.length;obtain⟨ne3,ar⟩:=aj b.tm.kids.length;have D:=H a l d eD eF A2 c2 wb ha bb a7 bk bi hl (ax.below hb1 rfl) (hT.below hb1);have Cx:Hid (∀w1,Below w.heap.size w w1→Calls Tryz.prog 60 #[b.val ag av A3 c3,.int .i64 (r:Nat)] w1 fun e w'=>e=.returned (.tuple #[.string ⟨(aG b r).1.toArray⟩,.int .i64 (aG b r).2])∧Below w1.heap.size w1 w'):=fun w1 G=>H b r d ag av A3 c3 w1 hb bd a8 ba bj hr (ay.below G rfl) (hT.below G);unfold Fm.val at D Cx⊢;rw[af,←hne];rw[←aP]at D q5;rw[←Y]at D q4;rw[←aQ]at Cx p5;rw[←ar]at Cx p4;have hlen:=dM a l;have CB:=dM b r;obtain⟨R,hR⟩:=aj (aG a l);obtain⟨R2,aa⟩:=aj (aG b r);rw[←hR]at D hlen;rw[←aa]at Cx CB;rw[I]at D;have HC:=Hd D;have ai:=Hd hb1;obtain⟨S,hS⟩:∃S:ByteArray,S=(⟨R.1.toArray⟩:ByteArray)++sign:=⟨_,rfl⟩;obtain⟨S2,ab⟩:∃S2:ByteArray,S2=S++⟨R2.1.toArray⟩:=⟨_,rfl⟩;have aw:S.size=R.1.length+sign.size:=by rw[hS,bA,Bj R.1]
 have Ij:∀W,(Op.stringOp .add (⟨R.1.toArray⟩:ByteArray) sign).run Tryz.prog W=.ok (.string S) W:=fun W=>by rw[hS];exact run_string_add_sum W _ _ (by show(⟨R.1.toArray⟩:ByteArray).size+sign.size≤_;rw[Bj R.1];omega)
 have uP:∀W,(Op.stringOp .add S (⟨R2.1.toArray⟩:ByteArray)).run Tryz.prog W=.ok (.string S2) W:=fun W=>by rw[ab];exact run_string_add_sum W _ _ (by show S.size+(⟨R2.1.toArray⟩:ByteArray).size≤_;rw[Bj R2.1,aw];omega)
 have jk:Hid (jc sign.data.toList l r a b=if R.2≠0 then([],R.2)else(S2.data.toList,R2.2)):=by
  show _=_;unfold jc;rw[←hR,←aa,ab,hS];simp[ByteArray.data_append]
 obtain⟨X,hX⟩:=aj (jc sign.data.toList l r a b);rw[←hX]at jk⊢;have bg:=hV.cap;rw[af]at bg;have jy:=Hd I;have HX:=Hd hx;have bl:w.heap.size<wb.heap.size:=by rw[I];simp
 clear I hb1 D hR aa hS ab aw hV ax ay hT aF aJ af aP Y aQ ar hne O H hlen CB hx hX bh;go_in;go_wp2_with fail;refine HC.mono ?_;rintro e w1 ⟨rfl,J⟩;rw[←jy]at J;have aS:=HX.below J HX.lt;have G:=ai.trans (J.mono ai.size);have aE:=Cx w1 G;have ao:=Hd G;have Dh:=Hd aE;have x5:=aS.c5;have bm:=J.size;rw[←G.cell (p:=⟨g,_,none⟩) hg]at p0 p1 p2 p3 p4 p5;clear J aS G aE q0 q1 q2 q3 q4 q5
 by_cases h0:R.2=0
 ·have bE:Hid (X=(S2.data.toList,R2.2)):=by show _=_;rw[jk,iN (fun h=>h h0)]
  have bf:(R.2 != 0)=false:=by simpa using h0
  clear h0;go_wp2_with fail;refine Dh.mono ?_;rintro e w2 ⟨rfl,az⟩;have a6:=kB ao az;clear az p0 p1 p2 p3 p4 p5;go_wp2_with fail
  go_ret2
  rw[bE];exact⟨rfl,a6⟩
 ·have bE:Hid (X=([],R.2)):=by show _=_;rw[jk,iP h0]
  have bf:(R.2 != 0)=true:=by simpa using h0
  clear h0;go_wp2_with fail
  go_ret2
  rw[bE];exact⟨rfl,ao⟩
set_option maxHeartbeats 16000000
def zf(f:Fm):Bs×Int:=if f.op=1 then([91]++(aH f.tm).1++[93],(aH f.tm).2)else mJ f.op f.kids
theorem Sc(f:Fm)(least:Nat):aG f least=if (zf f).2≠0 then([],(zf f).2)else if aN f.op<least then([40]++(zf f).1++[41],0)else((zf f).1,0):=by
 cases f;rw[aG];rfl
theorem Ns(f:Fm):(zf f).1.length≤65600*f.size+65600:=by
 have hs:f.size=1+Fm.aA f.kids:=by cases f;rw[Fm.size];rfl
 have h1:=Ma f.op f.kids;have h2:=og f.tm;unfold zf;rw[hs]
 split
 ·simp only[List.length_append,List.length_cons,List.length_nil];omega
 ·omega
def Va(r:Bs×Int)(w:World)(e:Ending)(w':World):Prop:=∃s:ByteArray,e=.returned (.tuple #[.string s,.int .i64 r.2])∧(r.2=0→s.data.toList=r.1)∧Below w.heap.size w w'
theorem Di{op:Int}{a:Fm}(h:bV op=1):mJ op [a]=gZ (jA op) a:=by
 rw[mJ,EO,h];rfl
theorem Jy{op:Int}{a b:Fm}(h:bV op=2):mJ op [a,b]=if (aG a (fO op)).2≠0 then([],(aG a (fO op)).2)else(eP op++(aG a (fO op)).1++uW op++(aG b (gX op)).1++cZ op,(aG b (gX op)).2):=by
 rw[mJ,EO,h];rfl
theorem uQ{l:List Fm}(h:l.length=1):∃a,l=[a]:=by
 match l,h with
 |[a],_=>exact⟨a,rfl⟩
theorem z_{l:List Fm}(h:l.length=2):∃a b,l=[a,b]:=by
 match l,h with
 |[a,b],_=>exact⟨a,b,rfl⟩
theorem Nt(N:Nat)(H:Ii N)(f:Fm)(d:Nat)(Ae:Option Addr)(ce:Nat)(A:Option Addr)(c:Nat)(w:World)(hN:f.size≤N+1)(az:Fb (N+1) f=true)(hok:f.lI d)(bb:f.bT≤9000000)(hsz:f.size≤5000)(hV:pO w Ae ce A c f)(hT:je w) :
 Calls Tryz.prog 102 #[f.val Ae ce A c] w (Va (zf f) w):=by
 obtain⟨-,⟨a6,ax,a7⟩,dS⟩:=dY hok;obtain⟨ay,aE,ao⟩:=ZX az;clear az
 have cB:∀k∈f.kids,k.size≤N∧k.size≤5000∧k.bT≤9000000:=fun k hk=>by
  have h1:=Fm.aM hk;have h2:=(Fm.bK f).2 k hk
  cases f with
  |mk op e l=>rw[Fm.size]at hN hsz;simp only[Fm.kids]at h1;omega
 have hts:=(Fm.bK f).1;obtain⟨n,hn⟩:=aj f.kids.length;obtain⟨ne,hne⟩:=aj f.tm.kids.length;obtain⟨op,J⟩:=aj f.op;obtain⟨wb,af⟩:=aj (w.alloc (.cells #[.int .i64 op,.int .i64 f.tm.op,.int .i64 f.tm.num,.string f.tm.name,.slice Ae ne ce,.slice A n c] 67));have hb1:=dz af;have hx:iJ wb w.heap.size Ae ne ce A n c f:=by unfold iJ;rw[af,←J];exact eu w _
 have ai:=hV.below hb1 rfl;have Wq:=hT.below hb1
 have Wh:Hid (∀a,f.kids=[a]→∀word:ByteArray,word.size≤10→Calls Tryz.prog 131 #[f.val Ae ce A c,.string word] wb fun e w'=>e=.returned (.tuple #[.string ⟨(gZ word.data.toList a).1.toArray⟩,.int .i64 (gZ word.data.toList a).2])∧Below wb.heap.size wb w'):=fun a ha word hwd=>by
  have hm:a∈f.kids:=by rw[ha];simp
  exact Jv N H f a (d+1) word Ae ce A c wb ha (cB a hm).1 (ao a hm) (dS a hm) (cB a hm).2.2 (cB a hm).2.1 hwd ai Wq
 have oW:Hid (∀a b,f.kids=[a,b]→∀(sign:ByteArray)(l r:Nat),sign.size≤10→l≤10→r≤10→Calls Tryz.prog 130 #[f.val Ae ce A c,.string sign,.int .i64 (l:Nat),.int .i64 (r:Nat)] wb fun e w'=>e=.returned (.tuple #[.string ⟨(jc sign.data.toList l r a b).1.toArray⟩,.int .i64 (jc sign.data.toList l r a b).2])∧Below wb.heap.size wb w'):=fun a b O sign l r h1 h2 h3=>by
  have ab:a∈f.kids:=by rw[O];simp
  have ae:b∈f.kids:=by rw[O];simp
  exact Dc N H f a b (d+1) sign l r Ae ce A c wb O (cB a ab).1 (cB b ae).1 (ao a ab) (ao b ae) (dS a ab) (dS b ae) (cB a ab).2.2 (cB b ae).2.2 (cB a ab).2.1 (cB b ae).2.1 h1 h2 h3 ai Wq
 have Y:=fun h:f.op=1=>Ej f.tm Ae ce wb (aE h) ai.tm (by omega) Wq;clear aE ao
 have aF:Hid (∀a b (l r:Nat),f.kids=[a,b]→(aG a l).1.length+(aG b r).1.length≤700000000):=fun a b l r O=>by
  have h1:=dM a l;have h2:=dM b r;have h3:=(cB a (by rw[O];simp)).2.1;have h4:=(cB b (by rw[O];simp)).2.1;omega
 unfold Fm.val at Wh oW⊢;unfold Tm.val at Y;rw[←hn,←hne,←J]at Wh oW;rw[←hne,←J]at Y;rw[←hn,←hne,←J];have wZ:Hid (zf f=if op=1 then([91]++(aH f.tm).1++[93],(aH f.tm).2)else mJ op f.kids):=by show _=_;rw[J];rfl
 have hsl:=og f.tm;obtain⟨ST,aw⟩:=aj (aH f.tm);rw[←aw]at wZ Y hsl;obtain⟨BR,jU⟩:=aj (zf f);rw[←jU]at wZ⊢;obtain⟨F,HF⟩:=ak (Va BR w);rw[←HF];have jy:=Hd af;rw[jy]at Y;rw[jy]at Wh oW;have aJ:=Hd Y;have aa:=Hd hb1;have HX:=Hd hx;have Qd:Hid ((f.kids.length:Int)=bV op):=by show _=_;rw[ax,J]
 have av:=hV.cap;have aQ:=hV.bU;have aS:=hV.tm.cap;have aP:=hV.tm.bU;rw[←hn]at av;rw[←hne]at aS;unfold maxLen at aQ aP;have ba:w.heap.size<wb.heap.size:=by rw[af];simp
 rw[←J]at ay;have gy:=Hd J;clear af hb1 hx ai Wq Y jU aw a6 ax a7 dS cB hn hne J hV hT hok H
 rcases ay with rfl|rfl|rfl|rfl|rfl
 ·have kJ:Hid (BR=([91]++ST.1++[93],ST.2)):=by show _=_;rw[wZ,iP rfl]
  obtain⟨S1,ag⟩:∃S1:ByteArray,S1=(⟨#[91]⟩:ByteArray)++⟨ST.1.toArray⟩:=⟨_,rfl⟩;obtain⟨S2,ar⟩:∃S2:ByteArray,S2=S1++(⟨#[93]⟩:ByteArray):=⟨_,rfl⟩;have a8:S1.size=1+ST.1.length:=by rw[ag,bA,Bj ST.1];rfl
  have Ij:∀W,(Op.stringOp .add (⟨#[91]⟩:ByteArray) ⟨ST.1.toArray⟩).run Tryz.prog W=.ok (.string S1) W:=fun W=>by rw[ag];exact run_string_add_sum W _ _ (by show 1+(⟨ST.1.toArray⟩:ByteArray).size≤_;rw[Bj ST.1];omega)
  have uP:∀W,(Op.stringOp .add S1 (⟨#[93]⟩:ByteArray)).run Tryz.prog W=.ok (.string S2) W:=fun W=>by rw[ar];exact run_string_add_sum W _ _ (by show S1.size+1≤_;omega)
  have HS:Hid (S2.data.toList=BR.1):=by show _=_;rw[kJ,ar,ag];simp[ByteArray.data_append]
  clear ag ar a8;go_in;go_wp2_with fail;refine(aJ (by simp)).mono ?_;rintro e w1 ⟨rfl,D⟩;rw[←jy]at D;have I:=kB aa D;clear D;go_wp2_with fail;rw[HF];exact⟨S2,congrArg (fun z:Int=>Ending.returned (.tuple #[.string S2,.int .i64 z])) (congrArg Prod.snd kJ).symm,fun _=>HS,I⟩
 ·obtain⟨a,ha⟩:=uQ (show f.kids.length=1 by have h1:=Qd.out;rw[show bV 2=1 from rfl]at h1;omega);have kJ:Hid (BR=gZ ((⟨#[33]⟩:ByteArray)).data.toList a):=by show _=_;rw[wZ,iN (by decide),ha];exact Di rfl
  have G:=Wh a ha (⟨#[33]⟩:ByteArray) (by decide);have Dh:=Hd G;clear G ha;go_in;go_wp2_with fail;refine Dh.mono ?_;rintro e w1 ⟨rfl,D⟩;rw[←jy]at D;have I:=kB aa D;clear D;go_wp2_with fail;rw[HF,kJ];exact⟨_,rfl,fun _=>rfl,I⟩
 ·obtain⟨a,b,ha⟩:=z_ (show f.kids.length=2 by have h1:=Qd.out;rw[show bV 4=2 from rfl]at h1;omega)
  have kJ:Hid (BR=jc ((⟨#[32,124,32]⟩:ByteArray)).data.toList 2 3 a b):=by
   show _=_;rw[wZ,iN (by decide),ha,Jy rfl];unfold jc
   by_cases h:(aG a 2).2≠0
   ·rw[iP h,iP (show(aG a (fO 4)).2≠0 from h)];rfl
   ·rw[iN h,iN (show ¬(aG a (fO 4)).2≠0 from h)];simp[eP,cZ,uW,fO,gX]
  have G:=oW a b ha (⟨#[32,124,32]⟩:ByteArray) 2 3 (by decide) (by omega) (by omega);have Dh:=Hd G;clear G ha;go_in;go_wp2_with fail;refine Dh.mono ?_;rintro e w1 ⟨rfl,D⟩;rw[←jy]at D;have I:=kB aa D;clear D;go_wp2_with fail;rw[HF,kJ];exact⟨_,rfl,fun _=>rfl,I⟩
 ·obtain⟨a,b,ha⟩:=z_ (show f.kids.length=2 by have h1:=Qd.out;rw[show bV 5=2 from rfl]at h1;omega)
  have kJ:Hid (BR=jc ((⟨#[32,45,62,32]⟩:ByteArray)).data.toList 2 1 a b):=by
   show _=_;rw[wZ,iN (by decide),ha,Jy rfl];unfold jc
   by_cases h:(aG a 2).2≠0
   ·rw[iP h,iP (show(aG a (fO 5)).2≠0 from h)];rfl
   ·rw[iN h,iN (show ¬(aG a (fO 5)).2≠0 from h)];simp[eP,cZ,uW,fO,gX]
  have G:=oW a b ha (⟨#[32,45,62,32]⟩:ByteArray) 2 1 (by decide) (by omega) (by omega);have Dh:=Hd G;clear G ha;go_in;go_wp2_with fail;refine Dh.mono ?_;rintro e w1 ⟨rfl,D⟩;rw[←jy]at D;have I:=kB aa D;clear D;go_wp2_with fail;rw[HF,kJ];exact⟨_,rfl,fun _=>rfl,I⟩
 ·obtain⟨a,ha⟩:=uQ (show f.kids.length=1 by have h1:=Qd.out;rw[show bV 7=1 from rfl]at h1;omega);have kJ:Hid (BR=gZ ((⟨#[69,70,32]⟩:ByteArray)).data.toList a):=by show _=_;rw[wZ,iN (by decide),ha];exact Di rfl
  have G:=Wh a ha (⟨#[69,70,32]⟩:ByteArray) (by decide);have Dh:=Hd G;clear G ha;go_in;go_wp2_with fail;refine Dh.mono ?_;rintro e w1 ⟨rfl,D⟩;rw[←jy]at D;have I:=kB aa D;clear D;go_wp2_with fail;rw[HF,kJ];exact⟨_,rfl,fun _=>rfl,I⟩
theorem Nu:∀N:Nat,Ii N:=by
 intro N
 induction N with
 |zero=>
  intro f least d Ae ce A c w hN;cases f;rw[Fm.size]at hN;omega
 |succ N ih=>
  intro f least d Ae ce A c w hN ai hok ao hsz aE hV hT;obtain⟨n,hn⟩:=aj f.kids.length;obtain⟨ne,hne⟩:=aj f.tm.kids.length;obtain⟨wb,G⟩:=aj (w.alloc (.cells #[.int .i64 f.op,.int .i64 f.tm.op,.int .i64 f.tm.num,.string f.tm.name,.slice Ae ne ce,.slice A n c] 67));have hb1:=dz G;have hx:iJ wb w.heap.size Ae ne ce A n c f:=by rw[G];exact eu w _
  have D:=Nt N ih f d Ae ce A c wb hN ai hok ao hsz (hV.below hb1 rfl) (hT.below hb1);unfold Fm.val at D⊢;rw[←hn,←hne]at D⊢;have hlen:=Ns f;have O:=Sc f least;obtain⟨R,hR⟩:=aj (zf f);rw[←hR]at D hlen O;rw[G]at D;obtain⟨X,hX⟩:=aj (aG f least);rw[←hX]at O⊢;have HC:=Hd D;have av:=Hd hb1;have HX:=Hd hx;have jy:=Hd G;have aa:=Hd O;have zD:=Hd hlen;have mg:=Hd hsz;have R_:=Hd (fun W=>F7 f.op W);have aF:w.heap.size<wb.heap.size:=by rw[G];simp
  have ay:aN f.op≤4:=by
   unfold aN
   iterate 3 (split;· omega)
   omega
  obtain⟨sf,ag⟩:=aj (aN f.op);rw[←ag]at aa R_ ay;clear G hb1 D hR hx O hX hlen hsz ai hok ao hV hT hn hne hN ag;go_in;go_wp2_with fail;refine HC.mono ?_;rintro e w1 ⟨s,rfl,hs,I⟩;rw[←jy]at I;have ar:=HX.below I HX.lt;have Y:=kB av I;have y0:=ar.c0;have aJ:=I.size;have HS:=Hd hs;clear I ar hs
  by_cases h0:R.2=0
  ·have af:=HS h0;have hsl:s.size=R.1.length:=by rw[←af];simp
   have bE:Hid (X=if sf<least then([40]++s.data.toList++[41],0)else(s.data.toList,0)):=by show _=_;rw[aa,iN (fun h=>h h0),af]
   have aw:(R.2 != 0)=false:=by simpa using h0
   have aP:s.size≤700000000:=by have h1:=zD.out;have h2:=mg.out;omega
   have hid:(⟨s.data.toList.toArray⟩:ByteArray)=s:=by apply ByteArray.ext;simp
   have OX:=Hd hid;clear h0 af hsl hid;go_wp2_with fail;refine(R_ _).mono ?_;rintro e w' ⟨rfl,hw⟩;rw[←hw];clear hw
   by_cases h4:sf<least
   ·have ax:(sf:Int)<(least:Int):=by omega
    obtain⟨S1,J⟩:∃S1:ByteArray,S1=(⟨#[40]⟩:ByteArray)++s:=⟨_,rfl⟩;obtain⟨S2,ae⟩:∃S2:ByteArray,S2=S1++(⟨#[41]⟩:ByteArray):=⟨_,rfl⟩;have az:S1.size=1+s.size:=by rw[J,bA];rfl
    have Ij:∀W,(Op.stringOp .add (⟨#[40]⟩:ByteArray) s).run Tryz.prog W=.ok (.string S1) W:=fun W=>by rw[J];exact run_string_add_sum W _ _ (by show 1+s.size≤_;omega)
    have uP:∀W,(Op.stringOp .add S1 (⟨#[41]⟩:ByteArray)).run Tryz.prog W=.ok (.string S2) W:=fun W=>by rw[ae];exact run_string_add_sum W _ _ (by show S1.size+1≤_;omega)
    have ab:Hid (X=(S2.data.toList,0)):=by show _=_;rw[bE,iP h4,ae,J];simp[ByteArray.data_append]
    clear J ae az h4;go_wp2_with fail
    go_ret2
    rw[ab];exact⟨rfl,Y⟩
   ·have ax:¬(sf:Int)<(least:Int):=by omega
    have ab:Hid (X=(s.data.toList,0)):=by show _=_;rw[bE,iN h4]
    clear h4;go_wp2_with fail
    go_ret2
    rw[ab];exact⟨rfl,Y⟩
  ·have bE:Hid (X=([],R.2)):=by show _=_;rw[aa,iP h0]
   have aw:(R.2 != 0)=true:=by simpa using h0
   clear h0;go_wp2_with fail
   go_ret2
   rw[bE];exact⟨rfl,Y⟩
theorem Qe(f:Fm)(Ae:Option Addr)(ce:Nat)(A:Option Addr)(c:Nat)(w:World)(af:Fb f.size f=true)(ax:f.bT≤9000000)(hV:pO w Ae ce A c f)(hT:je w) :
 Calls Tryz.prog 28 #[f.val Ae ce A c] w fun e w'=>e=.returned (.tuple #[.string ⟨(dX f).1.toArray⟩,.int .i64 (dX f).2])∧Below w.heap.size w w':=by
 have ay:=Hd af;clear af;obtain⟨n,HN⟩:=ak f.kids.length;obtain⟨ne,vM⟩:=ak f.tm.kids.length;obtain⟨wb,O⟩:=aj (w.alloc (.cells #[.int .i64 f.op,.int .i64 f.tm.op,.int .i64 f.tm.num,.string f.tm.name,.slice Ae ne ce,.slice A n c] 67));have hb1:=dz O;have hx:iJ wb w.heap.size Ae ne ce A n c f:=by rw[O];exact eu w _
 have J:=FN f Ae ce A c wb (hV.below hb1 rfl) ax;unfold Fm.val at J⊢;rw[←HN,←vM]at J⊢;obtain⟨ck,F6⟩:=ak f.check;rw[←F6]at J;obtain⟨X,hX⟩:=aj (dX f);rw[←hX];unfold dX at hX;rw[←F6]at hX;have ao:=Hd hX;rw[O]at J;have IC:=Hd J;have ag:=Hd hb1;have HX:=Hd hx;have jy:=Hd O;have HV:=Hd hV;have HT:=Hd hT;have aJ:w.heap.size<wb.heap.size:=by rw[O];simp
 clear O hb1 J hx hX hV hT;go_in;go_wp2_with fail;refine IC.mono ?_;rintro e w1 ⟨rfl,I⟩;rw[←jy]at I;have D:=HX.below I HX.lt;have Y:=ag.trans (I.mono ag.size);have ai:=Hd Y;have aP:=I.size;have y0:=D.c0;have y1:=D.c1;have y2:=D.c2;have y3:=D.c3;have y4:=D.c4;have y5:=D.c5
 by_cases h0:ck=0
 ·have av:f.check=0:=by rw[←F6];exact h0
  obtain⟨hok,hsz⟩:=qI av;have aa:=Nu f.size f 1 1 Ae ce A c w1 (lr _) ay hok ax (by omega) (by omega) (HV.below Y rfl) (HT.below Y);unfold Fm.val at aa;rw[←HN,←vM]at aa;have hlen:=dM f 1;have Kq:Hid (X=if (aG f 1).2≠0 then([],(aG f 1).2)else if 65536<(aG f 1).1.length then([],4)else((aG f 1).1,0)):=by show _=_;rw[ao,iN (fun h=>h h0)]
  obtain⟨R,hR⟩:=aj (aG f 1);rw[←hR]at aa hlen Kq;have CF:=Hd aa;subst h0;have zD:Hid (R.1.length≤700000000):=by show _≤_;omega
  clear D Y I aa hR hok hsz av hlen;go_wp2_with fail;refine CF.mono ?_;rintro e w2 ⟨rfl,ar⟩;have ae:=kB ai ar;have aw:(⟨R.1.toArray⟩:ByteArray).size=R.1.length:=Bj R.1;have ab:=Hd aw;obtain⟨s,hs⟩:∃s:ByteArray,s=⟨R.1.toArray⟩:=⟨_,rfl⟩;rw[←hs]at ab⊢;have HS:=Hd hs;have af:s.size≤700000000:=by rw[ab];exact zD
  clear ar y0 y1 y2 y3 y4 y5 aw hs
  by_cases h2:R.2=0
  ·have az:(R.2 != 0)=false:=by simpa using h2
   by_cases h6:65536<s.size
   ·have G:Hid (X=([],4)):=by show _=_;rw[Kq,iN (fun h=>h h2),iP (by rw[←ab];exact h6)]
    have aE:(65536:Int)<(s.size:Int):=by omega
    clear h2 h6;go_wp2_with fail
    go_ret2
    rw[G];exact⟨rfl,ae⟩
   ·have G:Hid (X=(R.1,0)):=by show _=_;rw[Kq,iN (fun h=>h h2),iN (by rw[←ab];exact h6)]
    have aE:¬(65536:Int)<(s.size:Int):=by omega
    clear h2 h6;go_wp2_with fail
    go_ret2
    rw[G,HS];exact⟨rfl,ae⟩
  ·have G:Hid (X=([],R.2)):=by show _=_;rw[Kq,iP h2]
   have az:(R.2 != 0)=true:=by simpa using h2
   clear h2;go_wp2_with fail
   go_ret2
   rw[G];exact⟨rfl,ae⟩
 ·have G:Hid (X=([],ck)):=by show _=_;rw[ao,iP h0]
  have aF:(ck != 0)=true:=by simpa using h0
  clear h0 D Y I;go_wp2_with fail
  go_ret2
  rw[G];exact⟨rfl,ai⟩
end Go.Proofs.YtkhoeoilamddaaaGreatDoor
