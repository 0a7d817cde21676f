/- Walks and plain words: SpB SpA SpC SpD. -/
import Derived.OwnWalk
import Derived.Test.YtkhoeoilamddaaaGreatDoorQMtI
namespace Go.Proofs.YtkhoeoilamddaaaGreatDoor
open Go.RowKit
set_option linter.unusedVariables false
set_option maxRecDepth 100000
set_option maxHeartbeats 8000000
def kwS:Nat→ByteArray
 |0=>⟨#[118,97,114]⟩
 |1=>⟨#[100,101,102]⟩
 |2=>⟨#[105,110,105,116]⟩
 |3=>⟨#[105,110,118,97,114]⟩
 |4=>⟨#[110,101,120,116]⟩
 |5=>⟨#[116,114,97,110,115]⟩
 |6=>⟨#[102,97,105,114]⟩
 |_=>⟨#[115,112,101,99]⟩
def an1(nn:Nat→Nat)(word:ByteArray)(w:World)(e:Ending)(w':World):Prop:=((∃k,k<8∧word=kwS k∧e=.returned (.int .i64 (nn k:Nat)))∨((∀k,k<8→word≠kwS k)∧e=.returned (.int .i64 (-1))))∧Below w.heap.size w w'
theorem anF(A:Nat→Option Addr)(D G:Nat→Nat)(word:ByteArray)(w:World) :
 Calls Tryz.prog 47 #[.agg #[.slice (A 0) (D 0) (G 0),.slice (A 1) (D 1) (G 1),.slice (A 2) (D 2) (G 2),.slice (A 3) (D 3) (G 3),.slice (A 4) (D 4) (G 4),.slice (A 5) (D 5) (G 5),.slice (A 6) (D 6) (G 6),.slice (A 7) (D 7) (G 7)],.string word] w (an1 D word w):=by
 obtain⟨F,HF⟩:=ak (an1 D word w);rw[←HF.out];obtain⟨w1,hw1⟩:=aj (w.alloc (.cells #[.slice (A 0) (D 0) (G 0),.slice (A 1) (D 1) (G 1),.slice (A 2) (D 2) (G 2),.slice (A 3) (D 3) (G 3),.slice (A 4) (D 4) (G 4),.slice (A 5) (D 5) (G 5),.slice (A 6) (D 6) (G 6),.slice (A 7) (D 7) (G 7)] 28));obtain⟨w2,I⟩:=aj (w1.alloc (.cells #[.string (kwS 0),.string (kwS 1),.string (kwS 2),.string (kwS 3),.string (kwS 4),.string (kwS 5),.string (kwS 6),.string (kwS 7)] 9));obtain⟨w3,J⟩:=aj (w2.alloc (.cells #[.int .i64 (D 0:Nat),.int .i64 (D 1:Nat),.int .i64 (D 2:Nat),.int .i64 (D 3:Nat),.int .i64 (D 4:Nat),.int .i64 (D 5:Nat),.int .i64 (D 6:Nat),.int .i64 (D 7:Nat)] 3));obtain⟨b1,hb1⟩:=aj w1.heap.size;obtain⟨b2,Y⟩:=aj w2.heap.size;have s1:=dz hw1;have s2:=dz I;have s3:=dz J;have yJ:=kX s3 (jZ I hb1);have FK:=jZ J Y;have aa:Hid (Below w.heap.size w w3):=s1.trans ((s2.trans (s3.mono (by have:=s2.size;omega))).mono (by have:=s1.size;omega));have aw:=Hd s1;have ag:=Hd hw1;have ai:Hid (w2=w1.alloc (.cells #[.string ⟨#[118,97,114]⟩,.string ⟨#[100,101,102]⟩,.string ⟨#[105,110,105,116]⟩,.string ⟨#[105,110,118,97,114]⟩,.string ⟨#[110,101,120,116]⟩,.string ⟨#[116,114,97,110,115]⟩,.string ⟨#[102,97,105,114]⟩,.string ⟨#[115,112,101,99]⟩] 9)):=I;have ao:=Hd J;have z1:b1=w.heap.size+1:=by rw[hb1,sAl hw1]
 have z2:b2=w.heap.size+1+1:=by rw[Y,sAl I,sAl hw1]
 have HC:Hid (∀k,k<8→w3.cell? ⟨b1,k,none⟩=some (.string (kwS k))∧w3.cell? ⟨b2,k,none⟩=some (.int .i64 (D k:Nat))):=fun k hk=>by
  refine⟨pG yJ.out k ?_,pG FK.out k ?_⟩
  all_goals
   have kL:k=0∨k=1∨k=2∨k=3∨k=4∨k=5∨k=6∨k=7:=by omega
   rcases kL with rfl|rfl|rfl|rfl|rfl|rfl|rfl|rfl<;>rfl
 have QW:=ltH yJ.out;have af:=ltH FK.out;rw[z1]at HC;rw[z2]at HC;rw[z1]at QW;rw[z2]at af;clear hw1 I J hb1 Y s1 s2 s3 z1 z2 yJ FK;go_in;go_wp2_with fail;rw[←ag.out];rw[←ai.out]
 try rw[←ao.out]
 go_loopw [7] (fun iv wr=>∃k:Nat,k≤8∧iv=.int .i64 k∧wr=w3∧∀j,j<k→word≠kwS j) (fun i _=>8-(intOf i).toNat)
 case atStart=>exact⟨0,by omega,rfl,rfl,fun j h=>by omega⟩
 case round=>
  obtain⟨k,hk,rfl,rfl,ae⟩:=hrel;have ab:=Hd ae;clear ae
  by_cases kL:k<8
  ·obtain⟨y1,y2⟩:=HC.out k kL;obtain⟨kw,O⟩:=ak (kwS k);rw[←O.out]at y1;have ax:(0:Int)≤(k:Int):=by omega
   have ay:(k:Int)<8:=by omega
   by_cases hw:kw=word
   ·have av:(kw.toList==word.toList)=true:=by rw[vY,hw];exact decide_eq_true rfl
    have HW:=Hd hw;clear hw;go_wp2_with fail;rw[HF.out];exact⟨.inl ⟨k,kL,by rw[←HW.out,O.out],rfl⟩,aa.out⟩
   ·have av:(kw.toList==word.toList)=false:=by
     rw[vY];exact dF fun h=>hw (gV h)
    have HW:=Hd hw;clear hw;go_wp2_with fail
    go_round
    case rel=>exact⟨k+1,by omega,by go_num,trivial,fun j hj=>by
     by_cases ar:j=k
     ·rw[ar,←O.out];exact fun e=>HW.out e.symm
     ·exact ab.out j (by omega)⟩
    case measure=>simp[intOf];omega
  ·obtain rfl:k=8:=by omega
   go_wp2_with fail;rw[HF.out];exact⟨.inr ⟨ab.out,rfl⟩,aa.out⟩
theorem anA(A:Option Addr)(c i:Nat)(l:List Tok)(k:Int)(s:ByteArray)(w:World)(hP:dP w A c l)(hi:i≤1000000) :
 Calls Tryz.prog 52 #[.slice A l.length c,.int .i64 (i:Nat),.int .i64 k,.string s] w fun e w'=>e=.returned (.bool (ah l i k (bs s)))∧w'=w:=by
 obtain⟨n,HN⟩:=ak l.length;rw[←HN.out];have hlen:=hP.len;have O:=hP.cap;have aQ:=hP.bU;unfold maxLen at aQ;rw[←HN.out]at hlen O;obtain⟨r,hr⟩:=aj (ah l i k (bs s));rw[←hr];unfold ah at hr;have HR:=Hd hr;have HP:=Hd hP;clear hr hP
 by_cases G:i<n
 ·obtain⟨t,ht⟩:∃t,l[i]?=some t:=⟨_,gG (by have:=HN.out;omega)⟩
  rcases HP.toks with h0|⟨b,off,rfl,hb,hc⟩
  ·rw[h0]at ht;simp at ht
  have x0:=hc i t ht 0 (by omega);have x2:=hc i t ht 2 (by omega);simp only[fZ,Nat.add_zero]at x0 x2;have J:Hid (r=(decide (t.kind=k)&&decide (t.text=bs s))):=by show _=_;rw[HR.out,ht]
  have ae:(0:Int)≤(i:Int):=by omega
  have Y:(i:Int)<(n:Int):=by omega
  clear ht hc G
  by_cases I:t.kind=k
  ·have aa:(t.kind==k)=true:=by simpa using I
   have D:Hid (r=decide (t.text=bs s)):=by show _=_;rw[J.out,decide_eq_true I];rfl
   have hs:((⟨t.text.toArray⟩:ByteArray).toList==s.toList)=decide (t.text=bs s):=by rw[vY];rfl
   obtain⟨T,hT⟩:∃T:ByteArray,T=⟨t.text.toArray⟩:=⟨_,rfl⟩;rw[←hT]at x2 hs;rw[←D.out]at hs;clear I hT;cases r
   all_goals
    go_in;go_wp2_with fail;go_ret;exact⟨rfl,rfl⟩
  ·have aa:(t.kind==k)=false:=by simpa using I
   have D:Hid (r=false):=by show _=_;rw[J.out,dF I];rfl
   clear I;go_in;go_wp2_with fail;go_ret;rw[D.out];exact⟨rfl,rfl⟩
 ·have D:Hid (r=false):=by show _=_;rw[HR.out,List.getElem?_eq_none (by have:=HN.out;omega)]
  have Y:¬(i:Int)<(n:Int):=by omega
  have hd:decide ((i:Int)<(n:Int))=false:=dF Y;have ab:decide (i<n)=false:=dF G;clear G;go_in;go_wp2_with fail;go_ret;rw[D.out];exact⟨rfl,rfl⟩
def QvQ{α:Type}(f:α→Value)(z:Value)(r:Rs α)(w:World)(e:Ending)(w':World):Prop:=(match r with
 |.ok a k=>e=.returned (.tuple #[f a,.int .i64 (k:Nat),.bool true])
 |.bad k _=>e=.returned (.tuple #[z,.int .i64 (k:Nat),.bool false]))∧w'=w
theorem dP.at{w:World}{A:Option Addr}{c i:Nat}{l:List Tok}(h:dP w A c l)(hi:i<l.length):∃t b off,l[i]?=some t∧A=some ⟨b,off,none⟩∧b<w.heap.size∧w.cell? ⟨b,off+i*4,none⟩=some (.int .i64 t.kind)∧w.cell? ⟨b,off+i*4+1,none⟩=some (.int .i64 t.n)∧w.cell? ⟨b,off+i*4+2,none⟩=some (.string ⟨t.text.toArray⟩)∧(-1000000≤t.n∧t.n≤1000000):=by
 have ht:l[i]?=some l[i]:=gG hi
 rcases h.toks with h0|⟨b,off,rfl,hb,hc⟩
 ·rw[h0]at hi;exact absurd hi (by simp)
 have D:=hc i _ ht 0 (by omega);have G:=hc i _ ht 1 (by omega);have I:=hc i _ ht 2 (by omega);simp only[fZ,Nat.add_zero]at D G I;exact⟨l[i],b,off,ht,rfl,hb,D,G,I,h.rng _ (List.getElem_mem hi)⟩
theorem anq(A:Option Addr)(c i:Nat)(l:List Tok)(s:ByteArray)(w:World)(hP:dP w A c l)(hi:i≤l.length) :
 Calls Tryz.prog 92 #[.slice A l.length c,.int .i64 (i:Nat),.string s] w (QvQ Value.string (.string ⟨#[]⟩) (sV l (bs s) i) w):=by
 obtain⟨F,Y⟩:=ak (QvQ Value.string (.string ⟨#[]⟩) (sV l (bs s) i) w);rw[←Y.out];have hlen:=hP.len;have aa:=hP.cap;have aQ:=hP.bU;have G:=anA A c (i+1) l 4 s w hP (by omega);obtain⟨n,hn⟩:=aj l.length;rw[←hn]at G hi hlen aa⊢;unfold maxLen at aQ;have HN:=Hd hn;have D:=Hd G
 by_cases ai:i<n
 ·obtain⟨t,b,off,ht,rfl,hb,x0,x1,x2,hr⟩:=hP.at (i:=i) (by omega);have ao:(0:Int)≤(i:Int):=by omega
  have ar:(i:Int)<(n:Int):=by omega
  have af:¬(n:Int)≤(i:Int):=by omega
  have HT:=Hd ht;clear hn G ht hP
  by_cases O:t.kind=2
  ·have ag:(t.kind != 2)=false:=by simpa using O
   have HK:Hid (jd l i 2=true):=by show _=_;unfold jd;rw[HT.out];exact decide_eq_true O
   have HX:Hid (pJ l i=t.text):=by show _=_;unfold pJ;rw[HT.out]
   obtain⟨T,hT⟩:∃T:ByteArray,T=⟨t.text.toArray⟩:=⟨_,rfl⟩;rw[←hT]at x2;have ae:=Hd hT;clear O hT
   by_cases hs:ah l (i+1) 4 (bs s)=true
   ·rw[hs]at D
    have I:Hid (sV l (bs s) i=.ok T (i+2)):=by
     show _=_;unfold sV nameP qJ;rw[HK.out,iP rfl];show(if ah l (i+1) 4 (bs s)=true then _ else _:Rs Unit).then _=_;rw[iP hs,HX.out,ae.out];rfl
    clear hs;go_in;go_wp2_with fail;refine(D.out).mono ?_;rintro e w2 ⟨rfl,hw⟩;rw[hw];clear hw;go_wp2_with fail;refine bR (results_tmp3 rfl _ _ _) rfl ?_;rw[Y.out,I.out];exact⟨rfl,rfl⟩
   ·have ab:ah l (i+1) 4 (bs s)=false:=by simpa using hs
    rw[ab]at D
    have I:Hid (sV l (bs s) i=.bad (i+1) 16):=by
     show _=_;unfold sV nameP qJ;rw[HK.out,iP rfl];show(if ah l (i+1) 4 (bs s)=true then _ else _:Rs Unit).then _=_;rw[iN hs];rfl
    clear hs ab;go_in;go_wp2_with fail;refine(D.out).mono ?_;rintro e w2 ⟨rfl,hw⟩;rw[hw];clear hw;go_wp2_with fail;refine bR (results_tmp3 rfl _ _ _) rfl ?_;rw[Y.out,I.out];exact⟨rfl,rfl⟩
  ·have ag:(t.kind != 2)=true:=by simpa using O
   have I:Hid (sV l (bs s) i=.bad i 16):=by
    show _=_;have J:jd l i 2=false:=by unfold jd;rw[HT.out];exact dF O
    unfold sV nameP;rw[J];rfl
   clear O;go_in;go_wp2_with fail;refine bR (results_tmp3 rfl _ _ _) rfl ?_;rw[Y.out,I.out];exact⟨rfl,rfl⟩
 ·have af:(n:Int)≤(i:Int):=by omega
  have I:Hid (sV l (bs s) i=.bad i 16):=by
   show _=_;have J:jd l i 2=false:=by unfold jd;rw[List.getElem?_eq_none (by omega)]
   unfold sV nameP;rw[J];rfl
  clear hn G hP ai;go_in;go_wp2_with fail;refine bR (results_tmp3 rfl _ _ _) rfl ?_;rw[Y.out,I.out];exact⟨rfl,rfl⟩
theorem anN(A:Option Addr)(c i:Nat)(l:List Tok)(w:World)(hP:dP w A c l)(hi:i≤l.length) :
 Calls Tryz.prog 93 #[.slice A l.length c,.int .i64 (i:Nat)] w (QvQ (Value.int .i64) (.int .i64 0) (GK l i) w):=by
 obtain⟨R,HR⟩:=ak (GK l i);obtain⟨F,HF⟩:=ak (QvQ (Value.int .i64) (.int .i64 0) (GK l i) w);rw[←HF.out];rw[←HR.out]at HF;have hlen:=hP.len;have aa:=hP.cap;have aQ:=hP.bU;have I:=anA A c i l 4 ⟨#[45]⟩ w hP (by omega);obtain⟨n,hn⟩:=aj l.length;rw[←hn]at I hi hlen aa⊢;unfold maxLen at aQ;have HN:=Hd hn;obtain⟨j,J⟩:=aj (if ah l i 4 [45]then i+1 else i);obtain⟨g,O⟩:∃g:Int,g=if ah l i 4 [45]then -1 else 1:=⟨_,rfl⟩
 have D:Hid (R=if jd l j 1 then .ok (g*rC l j) (j+1)else .bad j 16):=by
  show _=_;rw[HR.out,J,O];unfold GK;cases ah l i 4 [45]
  ·simp
  ·simp
 have HP:=Hd hP;have ao:j≤n+1:=by rw[J];split<;>omega
 have ae:g=1∨g=-1:=by rw[O];split<;>simp
 rw[show bs ⟨#[45]⟩=[45]from rfl]at I;have G:=Hd I;clear hn I hP HR;cases hs:ah l i 4 [45]
 all_goals
  rw[hs]at G J O;simp only[if_true,Bool.false_eq_true,if_false]at J O;clear hs ae
  by_cases ai:j<n
  ·obtain⟨t,b,off,ht,rfl,hb,x0,x1,x2,hr⟩:=HP.at (i:=j) (by have:=HN.out;omega);have ar:(0:Int)≤(j:Int):=by omega
   have av:(j:Int)<(n:Int):=by omega
   have af:¬(n:Int)≤(j:Int):=by omega
   have HT:=Hd ht;have HX:Hid (rC l j=t.n):=by show _=_;unfold rC;rw[HT.out]
   obtain⟨tn,ab⟩:=aj t.n;rw[←ab]at x1 hr HX;clear ht ab
   by_cases Y:t.kind=1
   ·have ag:(t.kind != 1)=false:=by simpa using Y
    have HK:Hid (jd l j 1=true):=by show _=_;unfold jd;rw[HT.out];exact decide_eq_true Y
    have bE:Hid (R=.ok (g*tn) (j+1)):=by show _=_;rw[D.out,HK.out,HX.out];rfl
    have hw1:IntKind.i64.wrap (g*tn)=g*tn:=IntWalk.i64_in _ (by rw[O];omega);clear Y D;have HG:=Hd O;subst J;go_in;go_wp2_with fail;refine(G.out).mono ?_;rintro e w2 ⟨rfl,hw⟩;rw[hw];clear hw;go_wp2_with fail;refine bR (results_tmp3 rfl _ _ _) rfl ?_;rw[HF.out,bE.out,HG.out]
    first
     |rw[Int.one_mul]
     |rw[Int.neg_mul,Int.one_mul]
    exact⟨rfl,rfl⟩
   ·have ag:(t.kind != 1)=true:=by simpa using Y
    have bE:Hid (R=.bad j 16):=by show _=_;rw[D.out,iN (by unfold jd;rw[HT.out];simpa using Y)]
    clear Y D;subst J;go_in;go_wp2_with fail;refine(G.out).mono ?_;rintro e w2 ⟨rfl,hw⟩;rw[hw];clear hw;go_wp2_with fail;refine bR (results_tmp3 rfl _ _ _) rfl ?_;rw[HF.out,bE.out];exact⟨rfl,rfl⟩
  ·have af:(n:Int)≤(j:Int):=by omega
   have bE:Hid (R=.bad j 16):=by show _=_;rw[D.out,iN (by unfold jd;rw[List.getElem?_eq_none (by have:=HN.out;omega)];simp)]
   clear ai D;subst J;go_in;go_wp2_with fail;refine(G.out).mono ?_;rintro e w2 ⟨rfl,hw⟩;rw[hw];clear hw;go_wp2_with fail;refine bR (results_tmp3 rfl _ _ _) rfl ?_;rw[HF.out,bE.out];exact⟨rfl,rfl⟩
def SOk(B:Nat)(F:Nat→Prop)(V:Nat→Value)(q:Nat):Prop:=B≤q∧¬F q∧∀k,k<8→(V k).ownBlock≠some q
structure RM(w:World)(B:Nat)(F:Nat→Prop)(V:Nat→Value)(X:Nat→List (List Value))(G:Nat→List El):Prop where
 own:∀k,k<8→w.ownsRow B (mT k) (mS k) (V k) (G k).length (X k).flatten
 vals:∀k,k<8→tH (SOk B F V) w (X k) (G k)
 lt:∀k,k<8→∀q,(V k).ownBlock=some q→q<w.heap.size∧¬F q
 ap:∀j k,j<8→k<8→j≠k→∀q,(V j).ownBlock=some q→(V k).ownBlock≠some q
section
variable {w w':World} {B:Nat} {F F':Nat→Prop} {V:Nat→Value} {X:Nat→List (List Value)} {G:Nat→List El}
theorem RM.nil(w:World)(B:Nat)(F:Nat→Prop):RM w B F (fun _=>.slice none 0 0) (fun _=>[]) (fun _=>[]):=
 ⟨fun k _=>World.ownsRow_nil _ _ _ _,fun _ _=>trivial,(fun _ _ q h=>by simp[Value.ownBlock]at h),(fun _ _ _ _ _ q h=>by simp[Value.ownBlock]at h)⟩
theorem RM.only(h:RM w B F V X G)(I:Only F w w'):RM w' B F V X G:=
 ⟨fun k D=>oC (h.own k D) (fun q hq=>I.block q (h.lt k D q hq).1 (h.lt k D q hq).2),fun k D=>(h.vals k D).keep ⟨I.size,fun q hq J=>I.block q J hq.2.1⟩ (fun _ _ h=>h),
   fun k D q hq=>⟨lL (h.lt k D q hq).1 I.size,(h.lt k D q hq).2⟩,h.ap⟩
theorem RM.more(h:RM w B F V X G)(hF:∀q,F' q→F q∨w.heap.size≤q):RM w B F' V X G:=
 ⟨h.own,fun k D=>(h.vals k D).keep Kr (fun q O hq=>⟨hq.1,fun I=>(hF q I).elim hq.2.1 (fun J=>by omega),hq.2.2⟩),
   fun k D q hq=>⟨(h.lt k D q hq).1,fun I=>(hF q I).elim (h.lt k D q hq).2 (fun J=>by have:=(h.lt k D q hq).1;omega)⟩,h.ap⟩
theorem RM.less(h:RM w B F V X G)(hF:∀q,F' q→F q):RM w B F' V X G:=h.more fun q hq=>.inl (hF q hq)
theorem RM.grow{W:World}{k g n cap:Nat}{cs:List Value}{e:El}{S0:Nat→Prop}(h:RM w B F V X G)(hk:k<8)(hg:w.grownBy W (V k).ownBlock)(ab:(V k).ownBlock=some g∨w.heap.size≤g)(ag:¬F g)
 (hown:W.ownsRow B (mT k) (mS k) (.slice (some ⟨g,0,none⟩) n cap) n ((X k).flatten++cs)) (hn:n=(G k).length+1) (he:VZ S0 w cs e) (hS0:∀q,q<w.heap.size→S0 q→SOk B F V q) :
 RM W B F (upd V k (.slice (some ⟨g,0,none⟩) n cap)) (upd X k (X k++[cs])) (upd G k (G k++[e])):=by
 have ai:=hown.lt g rfl
 have ae:∀j,j<8→j≠k→(V j).ownBlock≠some g:=fun j I D e=>by
  rcases ab with Y|Y
  ·exact h.ap j k I hk D g e Y
  ·have:=(h.lt j I g e).1;omega
 have J:∀j q,(upd V k (.slice (some ⟨g,0,none⟩) n cap) j).ownBlock=some q→j<8→(j=k∧q=g)∨(j≠k∧(V j).ownBlock=some q):=fun j q hq I=>by
  unfold upd at hq
  by_cases D:j=k
  ·rw[iP D]at hq;have e2:g=q:=by simpa[Value.ownBlock]using hq
   exact .inl ⟨D,e2.symm⟩
  ·rw[iN D]at hq;exact .inr ⟨D,hq⟩
 have hS:∀q,q<w.heap.size→SOk B F V q→SOk B F (upd V k (.slice (some ⟨g,0,none⟩) n cap)) q:=fun q O hh=>⟨hh.1,hh.2.1,fun j I e=>by
  rcases J j q e I with⟨-,rfl⟩|⟨-,Y⟩
  ·rcases ab with Y|Y
   ·exact hh.2.2 k hk Y
   ·omega
  ·exact hh.2.2 j I Y⟩
 have aa:∀S:Nat→Prop,(∀q,q<w.heap.size→S q→SOk B F V q)→aR (fun q=>S q∧q<w.heap.size) w W:=fun S Oj=>⟨hg.size,fun q hq O=>hg.block q O (fun e=>(Oj q O hq.1).2.2 k hk e.symm)⟩;refine⟨fun j I=>?_,fun j I=>?_,fun j I q hq=>?_,fun i j hi I af q hq e=>?_⟩
 ·by_cases D:j=k
  ·subst D;simp only[upd,iP];rw[List.length_append,List.length_singleton,←hn,List.flatten_append,List.flatten_singleton];exact hown
  ·simp only[upd,iN D];exact oC (h.own j I) (fun q hq=>hg.block q (h.lt j I q hq).1 (fun e=>h.ap j k I hk D q hq e.symm))
 ·by_cases D:j=k
  ·subst D;simp only[upd,iP];refine tH.snoc ?_ ?_
   ·exact(he.keep (S':=fun q=>SOk B F V q∧q<w.heap.size) Kr (fun q O hq=>⟨hS0 q O hq,O⟩)).keep (aa _ (fun q _ h=>h)) (fun q O hq=>hS q O hq.1)
   ·exact((h.vals j I).keep (S':=fun q=>SOk B F V q∧q<w.heap.size) Kr (fun q O hq=>⟨hq,O⟩)).keep (aa _ (fun q _ h=>h)) (fun q O hq=>hS q O hq.1)
  ·simp only[upd,iN D];exact((h.vals j I).keep (S':=fun q=>SOk B F V q∧q<w.heap.size) Kr (fun q O hq=>⟨hq,O⟩)).keep (aa _ (fun q _ h=>h)) (fun q O hq=>hS q O hq.1)
 ·rcases J j q hq I with⟨-,rfl⟩|⟨-,Y⟩
  ·exact⟨ai.2,ag⟩
  ·exact⟨lL (h.lt j I q Y).1 hg.size,(h.lt j I q Y).2⟩
 ·rcases J i q hq hi with⟨h1,rfl⟩|⟨h1,h2⟩
  ·rcases J j _ e I with⟨h3,-⟩|⟨h3,h4⟩
   ·exact af (h1.trans h3.symm)
   ·exact ae j I h3 h4
  ·rcases J j _ e I with⟨h3,rfl⟩|⟨h3,h4⟩
   ·exact ae i hi h1 h2
   ·exact h.ap i j hi I af q h2 h4
end
set_option maxHeartbeats 16000000
def anO(V:Nat→Value)(i:Nat)(x:Int):Value:=.agg #[V 0,V 1,V 2,V 3,V 4,V 5,V 6,V 7,.int .i64 (i:Nat),.int .i64 x]
def VSl(a:Nat→Option Addr)(nn c:Nat→Nat)(k:Nat):Value:=.slice (a k) (nn k) (c k)
def ElQ(w:World)(B:Nat)(F:Nat→Prop)(X:Nat→List (List Value))(G:Nat→List El)(k:Nat)(r:Rs El)(e:Ending)(w':World):Prop:=∃(a:Nat→Option Addr)(nn c:Nat→Nat),Only (fun q=>B≤q∧¬F q) w w'∧match r with
 |.ok el j=>e=.returned (anO (VSl a nn c) j 0)∧∃X',RM w' B F (VSl a nn c) X' (upd G k (G k++[el]))
 |.bad j x=>e=.returned (anO (VSl a nn c) j x)
def RTk(l:List Tok)(A:Option Addr)(c:Nat):Prop:=∀i W,i≤l.length→dP W A c l→Calls Tryz.prog 94 #[.slice A l.length c,.int .i64 (i:Nat)] W (VX l W (iU l i))
theorem RM.shape{w:World}{B:Nat}{F:Nat→Prop}{V:Nat→Value}{X:Nat→List (List Value)}{G:Nat→List El}(h:RM w B F V X G):∃(a:Nat→Option Addr)(O c:Nat→Nat),(∀k,k<8→V k=.slice (a k) (O k) (c k)∧O k=(G k).length)∧RM w B F (VSl a O c) X G:=by
 have hs:∀k,∃(p:Option Addr×Nat),k<8→V k=.slice p.1 (G k).length p.2:=fun k=>by
  by_cases D:k<8
  ·rcases(h.own k D).2 with⟨h1,h2⟩|⟨g,cap,cur,h1,-⟩
   ·exact⟨(none,0),fun _=>by rw[h1,h2]⟩
   ·exact⟨(_,_),fun _=>h1⟩
  ·exact⟨(none,0),fun Y=>absurd Y D⟩
 refine⟨fun k=>(Classical.choose (hs k)).1,fun k=>(G k).length,fun k=>(Classical.choose (hs k)).2,fun k D=>⟨Classical.choose_spec (hs k) D,rfl⟩,?_⟩;have e:∀k,k<8→VSl (fun k=>(Classical.choose (hs k)).1) (fun k=>(G k).length) (fun k=>(Classical.choose (hs k)).2) k=V k:=fun k D=>(Classical.choose_spec (hs k) D).symm;refine⟨fun k D=>by rw[e k D];exact h.own k D,fun k D=>(h.vals k D).keep Kr (fun q _ hq=>⟨hq.1,hq.2.1,fun j I=>by rw[e j I];exact hq.2.2 j I⟩),fun k D q hq=>h.lt k D q (by rw[←e k D];exact hq),fun i j hi I J q hq=>by rw[e j I];exact h.ap i j hi I J q (by rw[←e i hi];exact hq)⟩
theorem aoj{a:Nat→Option Addr}{D c:Nat→Nat}{k:Nat}{A:Option Addr}{n m:Nat}:upd (VSl a D c) k (.slice A n m)=VSl (upd a k A) (upd D k n) (upd c k m):=by
 funext j
 unfold VSl upd
 by_cases h:j=k<;>simp[h]
def anr(W:World)(r:Nat)(V:Nat→Value)(i x:Value):World:=(((((((((W.setCell ⟨r,0,none⟩ (V 0)).setCell ⟨r,1,none⟩ (V 1)).setCell ⟨r,2,none⟩ (V 2)).setCell ⟨r,3,none⟩ (V 3)).setCell ⟨r,4,none⟩ (V 4)).setCell ⟨r,5,none⟩ (V 5)).setCell ⟨r,6,none⟩ (V 6)).setCell ⟨r,7,none⟩ (V 7)).setCell ⟨r,8,none⟩ i).setCell ⟨r,9,none⟩ x
theorem anw{W:World}{r:Nat}{V:Nat→Value}{i x u0 u1 u2 u3 u4 u5 u6 u7 u8 u9:Value}{T:TypeId}(h:W.heap[r]?=some (.cells #[u0,u1,u2,u3,u4,u5,u6,u7,u8,u9] T (0,0))) :
 (anr W r V i x).heap[r]?=some (.cells #[V 0,V 1,V 2,V 3,V 4,V 5,V 6,V 7,i,x] T (0,0)):=by
 unfold anr;simp[World.setCell,Array.getElem?_modify,h]
theorem ank{F:Nat→Prop}{w W:World}{r:Nat}{V:Nat→Value}{i x:Value}(h:Only F w W)(hr:F r):Only F w (anr W r V i x):=
 (((((((((h.bq hr _).bq hr _).bq hr _).bq hr _).bq hr _).bq hr _).bq hr _).bq hr _).bq hr _).bq hr _
theorem q10{w:World}{b:Nat}{T:TypeId}{u0 u1 u2 u3 u4 u5 u6 u7 u8 u9:Value}(h:w.heap[b]?=some (.cells #[u0,u1,u2,u3,u4,u5,u6,u7,u8,u9] T (0,0))):w.cell? ⟨b,0,none⟩=some u0∧w.cell? ⟨b,1,none⟩=some u1∧w.cell? ⟨b,2,none⟩=some u2∧w.cell? ⟨b,3,none⟩=some u3∧w.cell? ⟨b,4,none⟩=some u4∧w.cell? ⟨b,5,none⟩=some u5∧w.cell? ⟨b,6,none⟩=some u6∧w.cell? ⟨b,7,none⟩=some u7∧w.cell? ⟨b,8,none⟩=some u8∧w.cell? ⟨b,9,none⟩=some u9∧∀j,w.frozen? ⟨b,j,none⟩=false:=
 ⟨pG h 0 rfl,pG h 1 rfl,pG h 2 rfl,pG h 3 rfl,pG h 4 rfl,pG h 5 rfl,pG h 6 rfl,pG h 7 rfl,pG h 8 rfl,pG h 9 rfl,frz h⟩
section
variable {fn:Func} {p:Tmp} {tmps:Array Value} {W:World} {r:Nat} {u0 u1 u2 u3 u4 u5 u6 u7 u8 u9:Value} {V:Nat→Value} {i x:Value}
theorem rcS(h:W.heap[r]?=some (.cells #[u0,u1,u2,u3,u4,u5,u6,u7,u8,u9] 60 (0,0)))(hr:fn.results=#[.cell p 60]:=by rfl)(hp:tmps.getD p undef=.pointer (some ⟨r,0,none⟩):=by rfl) :
 (results fn tmps).run Tryz.prog (anr W r V i x)=.ok (.agg #[V 0,V 1,V 2,V 3,V 4,V 5,V 6,V 7,i,x]) (anr W r V i x):=
 results_cell_row hr tmps _ r 60 _ (0,0) _ hp (anw h) Tryz.underlying60 rfl (by kernel_rfl)
end
theorem rc8{fn:Func}{p:Tmp}{tmps:Array Value}{W:World}{r:Nat}{u0 u1 u2 u3 u4 u5 u6 u7 u8 u9 D G I J O Y V6 V7 i x:Value}(h:W.heap[r]?=some (.cells #[u0,u1,u2,u3,u4,u5,u6,u7,u8,u9] 60 (0,0)))(hr:fn.results=#[.cell p 60]:=by rfl)(hp:tmps.getD p undef=.pointer (some ⟨r,0,none⟩):=by rfl) :
 (results fn tmps).run Tryz.prog ((((((((((W.setCell ⟨r,0,none⟩ D).setCell ⟨r,1,none⟩ G).setCell ⟨r,2,none⟩ I).setCell ⟨r,3,none⟩ J).setCell ⟨r,4,none⟩ O).setCell ⟨r,5,none⟩ Y).setCell ⟨r,6,none⟩ V6).setCell ⟨r,7,none⟩ V7).setCell ⟨r,8,none⟩ i).setCell ⟨r,9,none⟩ x)=.ok (.agg #[D,G,I,J,O,Y,V6,V7,i,x]) ((((((((((W.setCell ⟨r,0,none⟩ D).setCell ⟨r,1,none⟩ G).setCell ⟨r,2,none⟩ I).setCell ⟨r,3,none⟩ J).setCell ⟨r,4,none⟩ O).setCell ⟨r,5,none⟩ Y).setCell ⟨r,6,none⟩ V6).setCell ⟨r,7,none⟩ V7).setCell ⟨r,8,none⟩ i).setCell ⟨r,9,none⟩ x):=
 rcS (V:=fun k=>[D,G,I,J,O,Y,V6,V7].getD k undef) h hr hp
theorem anB{w I wy Y:World}{o:Obj}{B:Nat}{F F' S0:Nat→Prop}{V:Nat→Value}{X:Nat→List (List Value)}{G:Nat→List El}{k g n cap:Nat}{cs:List Value}{el:El}(D:RM I B F' V X G)(ho:Only (fun q=>B≤q∧¬F q) w I)(aa:∀q,F q→F' q)(O:∀q,F' q→q<I.heap.size)(af:B≤w.heap.size)
 (hol:∀j,j<8→∀q,(V j).ownBlock=some q→q<w.heap.size) (hy:wy=I.alloc o) (hk:k<8) (hg:wy.grownBy Y (V k).ownBlock) (hat:(V k).ownBlock=some g∨g=wy.heap.size)
 (hown:Y.ownsRow B (mT k) (mS k) (.slice (some ⟨g,0,none⟩) n cap) n ((X k).flatten++cs)) (hn:n=(G k).length+1) (he:VZ S0 I cs el) (hS0:∀q,q<I.heap.size→S0 q→w.heap.size≤q∧¬F' q) :
 RM Y B F' (upd V k (.slice (some ⟨g,0,none⟩) n cap)) (upd X k (X k++[cs])) (upd G k (G k++[el]))∧Only (fun q=>B≤q∧¬F q) w Y∧∀q,F' q→Y.heap[q]?=I.heap[q]?:=by
 have hb:=dz hy;have ag:=hown.lt g rfl;have ab:=D.only (Ob hb);have J:∀q,(V k).ownBlock=some q→B≤q:=fun q hq=>((D.own k hk).lt q hq).1;refine⟨ab.grow hk hg (hat.imp_right fun h=>by omega) (fun h9=>?_) hown hn (he.keep (S':=fun q=>S0 q∧q<I.heap.size) Kr (fun q hl hq=>⟨hq,hl⟩)|>.keep (S':=fun q=>S0 q∧q<I.heap.size) (Kb hb) (fun _ _ h=>h)) (fun q hl hq=>?_),?_,fun q hq=>?_⟩
 ·rcases hat with h8|h8
  ·exact(D.lt k hk g h8).2 h9
  ·have:=O g h9;have:=hb.size;omega
 ·have h1:=hS0 q hq.2 hq.1;exact⟨by omega,h1.2,fun j hj e=>by have:=hol j hj q e;omega⟩
 ·refine(ho.jV hb ho.size).trans ⟨hg.os,hg.tape,hg.output,hg.size,fun q hq ae=>hg.block q hq (fun e=>ae ⟨J q e.symm,fun h8=>(D.lt k hk q e.symm).2 (aa q h8)⟩)⟩
 ·have h1:=O q hq;rw[hg.block q (lL h1 hb.size) (fun e=>(D.lt k hk q e.symm).2 hq)];exact hb.block q h1
theorem ant{w D:World}{B:Nat}{F F':Nat→Prop}{a:Nat→Option Addr}{I c:Nat→Nat}{X X':Nat→List (List Value)}{G:Nat→List El}{k b r n m:Nat}{A:Option Addr}{el:El}(hR:RM D B F' (upd (VSl a I c) k (.slice A n m)) X' (upd G k (G k++[el])))(hO:Only (fun q=>B≤q∧¬F q) w D)(O:F' b)(Y:F' r)(J:∀q,F q→F' q)(hb:B≤b∧¬F b)(hr:B≤r∧¬F r)(j:Nat) :
 ElQ w B F X G k (.ok el j) (.returned (anO (VSl (upd a k A) (upd I k n) (upd c k m)) j 0)) (anr (D.setCell ⟨b,k,none⟩ (.slice A n m)) r (VSl (upd a k A) (upd I k n) (upd c k m)) (.int .i64 (j:Nat)) (.int .i64 0)):=by
 have h:=(hR.only (ank (V:=VSl (upd a k A) (upd I k n) (upd c k m)) (i:=.int .i64 (j:Nat)) (x:=.int .i64 0) ((⟨rfl,rfl,rfl,lr _,fun _ _ _=>rfl⟩:Only F' D D).bq (b:=b) (o:=k) O (.slice A n m)) Y)).less J;rw[aoj]at h;exact⟨_,_,_,ank (hO.bq (b:=b) (o:=k) hb _) hr,rfl,_,h⟩
def elK(l:List Tok)(k i:Nat):Rs El:=match k with
 |0=>(OD l i).map .var
 |1=>(Mi l i).map .defs
 |2=>(OE l i).map .init
 |3=>(OE l i).map .bF
 |4=>(Mi l i).map .next
 |5=>(OE l i).map .trans
 |6=>(OE l i).map .fair
 |_=>(GL l i).map .spec
theorem dP.ano{w w':World}{A:Option Addr}{c:Nat}{l:List Tok}(h:dP w A c l)(hb:Below w.heap.size w w'):dP w' A c l:=by
 refine⟨?_,h.cap,h.bU,h.len,h.txt,h.rng,fun a ha=>lL (h.old a ha) hb.size⟩
 rcases h.toks with h0|⟨b,off,rfl,D,hc⟩
 ·exact .inl h0
 ·exact .inr ⟨b,off,rfl,lL D hb.size,fun k z I j G=>by rw[hb.cell (p:=⟨b,_,none⟩) D];exact hc k z I j G⟩
end Go.Proofs.YtkhoeoilamddaaaGreatDoor
