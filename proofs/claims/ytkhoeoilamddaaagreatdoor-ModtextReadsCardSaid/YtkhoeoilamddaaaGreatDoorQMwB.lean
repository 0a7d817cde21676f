/- Walks and plain words: MwB MwC. -/
import Derived.Test.YtkhoeoilamddaaaGreatDoorQFParQ
import Derived.Test.YtkhoeoilamddaaaGreatDoorQShJ
namespace Go.Proofs.YtkhoeoilamddaaaGreatDoor
open Go.RowKit
set_option linter.unusedVariables false
set_option linter.unusedSimpArgs false
set_option maxRecDepth 100000
set_option maxHeartbeats 8000000
theorem ag0{o:Array Oper}{i:Nat}{x:Oper}(h:o.toList[i]?=some x):o[i]?=some x:=by simpa using h
def yD(x e:Int):Int:=if x=0 then e else x
def wO(x:Int)(n:Nat):Int:=if 64<n then yD x 18 else x
def qc(x:Int)(s:ByteArray):Int:=if isName (bs s)then x else yD x 12
theorem wr2{B b:Nat}{l:Bs}{x:Int}{w:World}(h:Wr B b l x w):w.cell? ⟨b,2,none⟩=some (.int .i64 x)∧w.frozen? ⟨b,2,none⟩=false∧b<w.heap.size:=⟨h.ai1,h.frozen 2,h.lt⟩
theorem oh(B b:Nat)(l:Bs)(x e:Int)(w:World)(h:Wr B b l x w) :
 Calls Tryz.prog 29 #[.pointer (some ⟨b,0,none⟩),.int .i64 e] w fun r w'=>r=.returned (.tuple #[])∧WG B b l (yD x e) w w':=by
 obtain⟨F,D⟩:=ak (fun(r:Ending)(w':World)=>r=.returned (.tuple #[])∧WG B b l (yD x e) w w');rw[←D];obtain⟨c2,f2,I⟩:=wr2 h;have G:=Hd h;clear h;unfold yD at D
 by_cases hx:x=0
 ·subst hx;rw[iP rfl]at D;go_in;go_wp2_with fail;refine bR (v:=.tuple #[]) (results_none rfl _ _ _) rfl ?_;rw[D];exact⟨rfl,(WG.refl G).err e⟩
 ·have hb:(x==0)=false:=by simpa using hx
  rw[iN hx]at D;clear hx;go_in;go_wp2_with fail;refine bR (v:=.tuple #[]) (results_none rfl _ _ _) rfl ?_;rw[D];exact⟨rfl,WG.refl G⟩
theorem AO(B b:Nat)(l:Bs)(x:Int)(n:Nat)(w:World)(h:Wr B b l x w) :
 Calls Tryz.prog 23 #[.pointer (some ⟨b,0,none⟩),.int .i64 (n:Nat)] w fun r w'=>r=.returned (.tuple #[])∧WG B b l (wO x n) w w':=by
 obtain⟨F,D⟩:=ak (fun(r:Ending)(w':World)=>r=.returned (.tuple #[])∧WG B b l (wO x n) w w');rw[←D];have Y:=Hd (oh B b l x 18 w h);have O:=Hd h;clear h;unfold wO at D
 by_cases hn:64<n
 ·have G:(64:Int)<(n:Int):=by omega
  rw[iP hn]at D;clear hn;go_in;go_wp2_with fail;refine Y.mono ?_;rintro e w' ⟨rfl,I⟩;have J:=Hd I;clear I;go_wp2_with fail;refine bR (v:=.tuple #[]) (results_none rfl _ _ _) rfl ?_;rw[D];exact⟨rfl,J⟩
 ·have G:¬(64:Int)<(n:Int):=by omega
  rw[iN hn]at D;clear hn;go_in;go_wp2_with fail;refine bR (v:=.tuple #[]) (results_none rfl _ _ _) rfl ?_;rw[D];exact⟨rfl,WG.refl O⟩
theorem Fv(B b:Nat)(l:Bs)(x:Int)(s:ByteArray)(w:World)(h:Wr B b l x w)(hs:s.size≤maxLen)(I:je w) :
 Calls Tryz.prog 27 #[.pointer (some ⟨b,0,none⟩),.string s] w fun r w'=>r=.returned (.string s)∧WG B b l (qc x s) w w':=by
 obtain⟨F,D⟩:=ak (fun(r:Ending)(w':World)=>r=.returned (.string s)∧WG B b l (qc x s) w w');rw[←D];have vN:=Hd (oh B b l x 12 w h);have G:=Hd (aaC s w hs I);have Y:=Hd h;clear h hs I;unfold qc at D;obtain⟨r,hr⟩:=aj (isName (bs s));rw[←hr]at D G;clear hr;cases r
 ·rw[iN (by decide)]at D;go_in;go_wp2_with fail;refine G.mono ?_;rintro e w' ⟨rfl,hw⟩;rw[←hw];clear hw;go_wp2_with fail;refine vN.mono ?_;rintro e w' ⟨rfl,J⟩;have O:=Hd J;clear J;go_wp2_with fail;rw[D];exact⟨rfl,O⟩
 ·rw[iP rfl]at D;go_in;go_wp2_with fail;refine G.mono ?_;rintro e w' ⟨rfl,hw⟩;rw[←hw];clear hw;go_wp2_with fail;rw[D];exact⟨rfl,WG.refl Y⟩
def om(xs:List ByteArray):Bs:=Lib.join (xs.map (·.data.toList)) [32]++AJ
theorem WM(B b bk c:Nat)(l:Bs)(x:Int)(xs:List ByteArray)(w:World)(h:Wr B b l x w)(G:∀(j:Nat) y,xs[j]?=some y→w.cell? ⟨bk,0+j,none⟩=some (.string y))(ab:bk<w.heap.size)(hn:xs.length≤100)(O:xs.length≤c)(hlen:x=0→l.length+(om xs).length≤1000000000)(hB:B≤w.heap.size) :
 Calls Tryz.prog 30 #[.pointer (some ⟨b,0,none⟩),.slice (some ⟨bk,0,none⟩) xs.length c] w fun r w'=>r=.returned (.tuple #[])∧WG B b (if x=0 then l++om xs else l) x w w':=by
 obtain⟨F,HF⟩:=ak (fun(r:Ending)(w':World)=>r=.returned (.tuple #[])∧WG B b (if x=0 then l++om xs else l) x w w');rw[←HF];obtain⟨c2,f2,aw⟩:=wr2 h;have HW:=Hd h;clear h f2
 by_cases hx:x=0
 ·subst hx;rw[iP rfl]at HF;replace hlen:=hlen rfl;obtain⟨S0,I⟩:∃S0:ByteArray,S0=⟨(Lib.join (xs.map (·.data.toList)) [32]).toArray⟩:=⟨_,rfl⟩;obtain⟨S1,Y⟩:=aj (S0++⟨#[32,59,10]⟩);have J:S1.data.toList=om xs:=by rw[Y,I];simp[om,AJ]
  have ar:S1.size=(om xs).length:=by rw[←J];rfl
  have ao:S0.size=(Lib.join (xs.map (·.data.toList)) [32]).length:=by rw[I];rfl
  have av:(om xs).length=(Lib.join (xs.map (·.data.toList)) [32]).length+3:=by unfold om;simp[AJ]
  have ai:∀W,(Op.stringOp .add S0 ⟨#[32,59,10]⟩).run Tryz.prog W=.ok (.string S1) W:=fun W=>by rw[Y];exact run_string_add_sum W _ _ (by show S0.size+3≤_;omega)
  have HJ:Hid (∀W,Below w.heap.size w W→Calls Tryz.prog 62 #[.slice (some ⟨bk,0,none⟩) xs.length c,.string ⟨#[32]⟩] W fun e w'=>e=.returned (.string S0)∧Below W.heap.size W w'):=fun W hb=>by
   rw[I];exact Tryz.strings_Join bk 0 c xs ⟨#[32]⟩ W (fun j y hy=>(hb.cell (p:=⟨bk,0+j,none⟩) ab).trans (G j y hy)) (lL ab hb.size) (by omega) O (by show(Lib.join (xs.map (·.data.toList)) [32]).length≤_;omega)
  have kY:Hid (∀W,Below w.heap.size w W→Calls Tryz.prog 61 #[.pointer (some ⟨b,0,none⟩),.string S1] W fun e w'=>e=.returned (.tuple #[.int .i64 S1.size,.nilIface])∧WG B b (l++om xs) 0 w w'):=fun W hb=>by
   have h:=QT B b l 0 S1 W (HW.below hb) (by omega) (by rw[J];unfold om;simp[AJ]) (Nat.le_trans hB hb.size);rw[J]at h;exact h.mono fun e w' ⟨h1,h2⟩=>⟨h1,h2.1,(KB.of_below hb hB).trans h2.2⟩
  obtain⟨n,ag⟩:=aj xs.length;rw[←ag]at HJ⊢;clear J ar ao av I Y G ab O hlen hn ag;go_in;go_wp2_with fail;refine wp_region_held_drew (S:=fun _=>True) (by kernel_rfl) trivial (fun D=>?_);obtain⟨Wc,aa⟩:=aj w.drew;have HB:Hid (Below w.heap.size w Wc):=by show Below _ _ _;rw[aa];exact(Br _ _).drew
  rw[←aa];clear aa c2
  repeat
   (first|refine aI 0 (v:=?_) rfl ?hy ?_|refine aI 1 (v:=?_) rfl ?hy ?_|refine aI 2 (v:=?_) rfl ?hy ?_|refine aI 3 (v:=?_) rfl ?hy ?_|refine aI 5 (v:=?_) rfl ?hy ?_
    case hy=>
     intro w0 hS;clear hS;go_simp
     (first|done|with_reducible rfl)
    try simp only[Act.put,aT,aU,aV])
  iterate 2
   all_goals first
    |refine Rd (rs:=[4]) (by decide +kernel) (by simp) (Rc (ag0 rfl) (fun K hK=>?_) Rn)
    |refine Rd (rs:=[6]) (by decide +kernel) (by simp) (Rc (ag0 rfl) (fun K hK=>?_) Rn)
    |fail
   all_goals first
    |(go_simp
      clear D;(with_reducible refine(HJ.out _ HB.out).mono ?_);rintro e Wc ⟨rfl,ae⟩;refine hK.out _ _ trivial (fun D=>?_);clear hK K;(try simp only[Act.put,aT,aU,aV]);replace HB:=Hd (HB.trans (ae.mono HB.size))
      clear ae)
    |(go_simp
      clear D;(with_reducible refine(kY.out _ HB.out).mono ?_);rintro e Wc ⟨rfl,af⟩;refine hK.out _ _ trivial (fun D=>?_);clear hK K;(try simp only[Act.put,aT,aU,aV]);have HG:=Hd af
      clear af)
    |fail
   all_goals
    repeat
     (first|refine aI 0 (v:=?_) rfl ?hy ?_|refine aI 1 (v:=?_) rfl ?hy ?_|refine aI 2 (v:=?_) rfl ?hy ?_|refine aI 3 (v:=?_) rfl ?hy ?_|refine aI 5 (v:=?_) rfl ?hy ?_
      case hy=>
       intro w0 hS;clear hS;go_simp
       (first|done|with_reducible rfl)
      try simp only[Act.put,aT,aU,aV])
  all_goals refine wpAnyH_done (by decide +kernel) ?_ _
  all_goals
   clear D;go_wp2_with fail;refine bR (v:=.tuple #[]) (results_none rfl _ _ _) rfl ?_;rw[HF];exact⟨rfl,HG⟩
 ·have hb:(x==0)=false:=by simpa using hx
  rw[iN hx]at HF;clear hx G hlen;go_in;go_wp2_with fail;refine bR (v:=.tuple #[]) (results_none rfl _ _ _) rfl ?_;rw[HF];exact⟨rfl,WG.refl HW⟩
def ShT(w:World)(t:Tm)(A:Option Addr)(c:Nat):Prop:=∀W,Below w.heap.size w W→Calls Tryz.prog 97 #[t.val A c] W fun e w'=>e=.returned (.tuple #[.string ⟨(aH t).1.toArray⟩,.int .i64 (aH t).2])∧Below W.heap.size W w'
theorem Mk(B b:Nat)(l:Bs)(x:Int)(t:Tm)(A:Option Addr)(c:Nat)(w:World)(h:Wr B b l x w)(hB:B≤w.heap.size)(hS:ShT w t A c) :
 Calls Tryz.prog 57 #[.pointer (some ⟨b,0,none⟩),t.val A c] w fun r w'=>r=.returned (.string (if x=0 then⟨(aH t).1.toArray⟩else⟨#[]⟩))∧WG B b l (if x=0 then(aH t).2 else x) w w':=by
 obtain⟨F,I⟩:=ak (fun(r:Ending)(w':World)=>r=.returned (.string (if x=0 then⟨(aH t).1.toArray⟩else⟨#[]⟩))∧WG B b l (if x=0 then(aH t).2 else x) w w');rw[←I];unfold Tm.val;obtain⟨n,hn⟩:=aj t.kids.length;unfold ShT Tm.val at hS;rw[←hn]at hS⊢;obtain⟨w1,D⟩:=ak (w.alloc (.cells #[.int .i64 t.op,.int .i64 t.num,.string t.name,.slice A n c] 64));have hb1:=dz D;have x1:=jZ D rfl;have af:=sAl D;have aa:=(WG.refl h).below hb1 hB;obtain⟨c2,f2,ae⟩:=wr2 h;have QU:=Hd aa;have kH:=Hd hB;have HS:=Hd (hS w1 hb1);obtain⟨r,hr⟩:=aj (aH t);rw[←hr]at HS I;obtain⟨S,y⟩:=r;obtain⟨S2,O⟩:∃S2:ByteArray,S2=⟨S.toArray⟩:=⟨_,rfl⟩;rw[←O]at HS I;clear hr hb1 aa hB hS hn h f2 x1 O
 by_cases hx:x=0
 ·subst hx;rw[iP rfl,iP rfl]at I;go_in;go_wp2_with fail;rw[←D];(try go_wp2_with fail);refine HS.mono ?_;rintro e w2 ⟨rfl,Y⟩;have J:=QU.below Y kH;have G:=oh B b l 0 y w2 J.1;unfold yD at G;rw[iP rfl]at G;have vN:=Hd G;have ab:=Hd J;clear J Y c2 G;go_wp2_with fail;refine vN.mono ?_;rintro e w3 ⟨rfl,hg⟩;have HG:=Hd (ab.trans hg);clear hg;go_wp2_with fail;rw[I];exact⟨rfl,HG⟩
 ·have hb:(x != 0)=true:=by simpa using hx
  rw[iN hx,iN hx]at I;clear hx;go_in;go_wp2_with fail;rw[←D];(try go_wp2_with fail);rw[I];exact⟨rfl,QU⟩
theorem aaP{o:Array Oper}{i:Nat}{x:Oper}(h:o.toList[i]?=some x):o[i]?=some x:=by simpa using h
theorem SH{B b q:Nat}{w w':World}{cs:Array Value}{T:TypeId}{D:Nat×Nat}(O:KB B b w w')(X:Hid (w.heap[q]?=some (.cells cs T D)))(hq:q≠b)(J:T≠5:=by decide):Hid (w'.heap[q]?=some (.cells cs T D)):=by
 show _=_;rw[O.keep q (lH X) hq (fun G I e=>by rw[X]at e;injection e with e;injection e with _ e _;exact J e)];exact X
theorem Ua(n:Int)(w:World):Calls Tryz.prog 55 #[.int .i64 n] w fun r w'=>r=.returned (.bool (vB n))∧w=w':=by
 obtain⟨F,D⟩:=ak (fun(r:Ending)(w':World)=>r=.returned (.bool (vB n))∧w=w');rw[←D];unfold vB at D
 by_cases h1:n < -255
 ·rw[decide_eq_true h1,Bool.true_or]at D;go_in;go_wp2_with fail;rw[D];exact⟨rfl,rfl⟩
 ·rw[dF h1,Bool.false_or]at D
  by_cases h2:255<n
  all_goals
   simp only[h2,decide_true,decide_false]at D;go_in;go_wp2_with fail;rw[D];exact⟨rfl,rfl⟩
theorem AP{s:Bs}(h:isName s=true):s.length≤24:=by
 unfold isName at h;simp only[Bool.and_eq_true,decide_eq_true_iff]at h;exact h.1.1.1.2
theorem ai2(a b c d:Bs):Lib.join [a,b,c,d] [32]=a++[32]++b++[32]++c++[32]++d:=by simp[Lib.join]
theorem ai3(a b c d e f:Bs):Lib.join [a,b,c,d,e,f] [32]=a++[32]++b++[32]++c++[32]++d++[32]++e++[32]++f:=by simp[Lib.join]
theorem ai4(a b:Bs):Lib.join [a,b] [32]=a++[32]++b:=by simp[Lib.join]
def rM(l:Bs)(y:Int)(xs:List ByteArray):Bs:=if y=0 then l++om xs else l
theorem vT(s:ByteArray):qc 0 s=if isName (bs s)then 0 else 12:=by unfold qc yD;rw[iP rfl]
theorem DK{l:Bs}{v:Vr}(h:isName (bs v.name)=false):mK (l,0) (mM v)=(l,12):=by
 have D:isName v.name.data.toList=false:=h;unfold mM mK;rw[iN (fun h=>h rfl),iP D,iP (by decide)]
theorem abB{l:Bs}{v:Vr}(hb:v.bool=true)(h:v.lo≠0∨v.hi≠0):mK (l,0) (mM v)=(l,yD (qc 0 v.name) 3):=by
 rw[vT]
 cases hn:isName (bs v.name)with
 |false=>rw[DK hn];rfl
 |true=>
  have D:¬isName v.name.data.toList=false:=by show ¬isName (bs v.name)=false;rw[hn];decide
  simp[mM,mK,D,hb,h,yD]
theorem abC{l:Bs}{v:Vr}(hb:v.bool=true)(h1:v.lo=0)(h2:v.hi=0):mK (l,0) (mM v)=(rM l (qc 0 v.name) [⟨#[118,97,114]⟩,v.name,⟨#[58]⟩,⟨#[98,111,111,108]⟩],qc 0 v.name):=by
 rw[vT]
 cases hn:isName (bs v.name)with
 |false=>rw[DK hn];rfl
 |true=>
  have D:¬isName v.name.data.toList=false:=by show ¬isName (bs v.name)=false;rw[hn];decide
  simp[mM,mK,D,hb,h1,h2,rM,om,Lib.join,AJ,kV,vP]
theorem adn{l:Bs}{v:Vr}(hb:v.bool=false)(h:(vB v.lo||vB v.hi)=true):mK (l,0) (mM v)=(l,yD (qc 0 v.name) 2):=by
 rw[vT]
 cases hn:isName (bs v.name)with
 |false=>rw[DK hn];rfl
 |true=>
  have D:¬isName v.name.data.toList=false:=by show ¬isName (bs v.name)=false;rw[hn];decide
  have hf:vB v.lo=true∨vB v.hi=true:=by simpa using h
  simp[mM,mK,D,hb,hf,yD]
theorem ado{l:Bs}{v:Vr}(hb:v.bool=false)(h:(vB v.lo||vB v.hi)=false):mK (l,0) (mM v)=(rM l (qc 0 v.name) [⟨#[118,97,114]⟩,v.name,⟨#[58]⟩,⟨(aO v.lo).toArray⟩,⟨#[46,46]⟩,⟨(aO v.hi).toArray⟩],qc 0 v.name):=by
 rw[vT]
 cases hn:isName (bs v.name)with
 |false=>rw[DK hn];rfl
 |true=>
  have D:¬isName v.name.data.toList=false:=by show ¬isName (bs v.name)=false;rw[hn];decide
  have hf:vB v.lo=false∧vB v.hi=false:=by simpa using h
  simp[mM,mK,D,hb,hf.1,hf.2,rM,om,Lib.join,AJ,kV]
theorem DL{n:Int}(h:vB n=false):-255≤n∧n≤255:=by
 unfold vB at h;simp only[Bool.or_eq_false_iff,decide_eq_false_iff_not]at h;omega
theorem AQ(a b c d:ByteArray):(om [a,b,c,d]).length=a.size+b.size+c.size+d.size+6:=by
 unfold om;show(Lib.join [a.data.toList,b.data.toList,c.data.toList,d.data.toList] [32]++AJ).length=_;rw[ai2];have D:∀s:ByteArray,s.data.toList.length=s.size:=aC;simp only[List.length_append,D,AJ,List.length_cons,List.length_nil];omega
theorem WO(a b c d e f:ByteArray):(om [a,b,c,d,e,f]).length=a.size+b.size+c.size+d.size+e.size+f.size+8:=by
 unfold om;show(Lib.join [a.data.toList,b.data.toList,c.data.toList,d.data.toList,e.data.toList,f.data.toList] [32]++AJ).length=_;rw[ai3];have D:∀s:ByteArray,s.data.toList.length=s.size:=aC;simp only[List.length_append,D,AJ,List.length_cons,List.length_nil];omega
theorem Ml(a b:ByteArray):(om [a,b]).length=a.size+b.size+4:=by
 unfold om;show(Lib.join [a.data.toList,b.data.toList] [32]++AJ).length=_;rw[ai4];have D:∀s:ByteArray,s.data.toList.length=s.size:=aC;simp only[List.length_append,D,AJ,List.length_cons,List.length_nil];omega
def I6(xs:List ByteArray):Array Value:=(xs.map Value.string).toArray
theorem abD{w:World}{q:Nat}{xs:List ByteArray}(h:w.heap[q]?=some (.cells (I6 xs) 9 (0,0))):∀(j:Nat) y,xs[j]?=some y→w.cell? ⟨q,0+j,none⟩=some (.string y):=fun j y hy=>by
 rw[Nat.zero_add];exact pG h j (by simp[I6,hy])
theorem wP(B b q:Nat)(l:Bs)(x:Int)(xs:List ByteArray)(w:World)(h:Wr B b l x w)(hrow:w.heap[q]?=some (.cells (I6 xs) 9 (0,0)))(hn:xs.length≤100)(hlen:x=0→l.length+(om xs).length≤1000000000)(D:B≤w.heap.size) :
 Calls Tryz.prog 30 #[.pointer (some ⟨b,0,none⟩),.slice (some ⟨q,0,none⟩) xs.length xs.length] w fun r w'=>r=.returned (.tuple #[])∧WG B b (rM l x xs) x w w':=
 WM B b q xs.length l x xs w h (abD hrow) (lH hrow) hn (lr _) hlen D
theorem abE(B b:Nat)(l:Bs)(v:Vr)(w:World)(h:Wr B b l 0 w)(hB:B≤w.heap.size)(hs:v.name.size≤maxLen)(hT:je w)(hl:l.length≤900000000) :
 Calls Tryz.prog 24 #[.pointer (some ⟨b,0,none⟩),.agg #[.string v.name,.bool v.bool,.int .i64 v.lo,.int .i64 v.hi]] w fun r w'=>r=.returned (.tuple #[])∧WG B b (mK (l,0) (mM v)).1 (mK (l,0) (mM v)).2 w w':=by
 obtain⟨R,hR⟩:=aj (mK (l,0) (mM v));rw[←hR];have HA:=Hd (fun h1 h2=>abB (l:=l) (v:=v) h1 h2);have Y:=Hd (fun h1 h2 h3=>abC (l:=l) (v:=v) h1 h2 h3);have aa:=Hd (fun h1 h2=>adn (l:=l) (v:=v) h1 h2);have ab:=Hd (fun h1 h2=>ado (l:=l) (v:=v) h1 h2);rw[←hR]at HA Y aa ab;clear hR;obtain⟨nm,bo,lo,hh⟩:=v;simp only at hs HA Y aa ab⊢;obtain⟨y,hy⟩:=aj (qc 0 nm)
 have bb:y=0→nm.size≤24:=fun h=>by
  rw[hy,vT]at h
  cases hn:isName (bs nm)with
  |false=>rw[hn]at h;cases h
  |true=>have:=AP hn;rwa [aC]at this
 obtain⟨w1,hw1⟩:=aj (w.alloc (.cells #[.string nm,.bool bo,.int .i64 lo,.int .i64 hh] 45));obtain⟨q,hq⟩:=aj w.heap.size;have hb1:=dz hw1;have I:=jZ hw1 hq;have bi:=sAl hw1;have ae:q≠b:=by have:=h.lt;omega
 have aQ:=(WG.refl h).below hb1 hB;have a6:=Fv B b l 0 nm w1 aQ.1 hs (hT.below hb1);rw[←hy]at a6 HA Y aa ab;obtain⟨F,HF⟩:=ak (fun(r:Ending)(w':World)=>r=.returned (.tuple #[])∧WG B b R.1 R.2 w w');rw[←HF];have af:=Hd hw1;have HQ:=Hd hq;have QU:=Hd aQ;have xR:=Hd a6;have kH:=Hd hB;have a8:=Hd bb;have HL:=Hd hl;clear hw1 hq hb1 bi aQ a6 hB bb hl hy h hs hT;cases bo
 ·obtain⟨fl,az⟩:=aj (vB lo);obtain⟨fh,ay⟩:=aj (vB hh);have sQ:=fun h=>aa rfl h;have ai:=fun h=>ab rfl h;have wz:=Hd (fun W=>Ua lo W);have ar:=Hd (fun W=>Ua hh W);rw[←az]at wz;rw[←ay]at ar;rw[←az,←ay]at sQ ai;have aw:=Hd (fun h:fl=false=>DL (az.symm.trans h));have av:=Hd (fun h:fh=false=>DL (ay.symm.trans h));clear az ay HA Y aa ab;cases fl
  ·cases fh
   ·have HR:=Hd (ai rfl);rw[HR]at HF;have rl:=aw rfl;have rh:=av rfl;obtain⟨T1,aJ⟩:∃T:ByteArray,T=⟨(aO lo).toArray⟩:=⟨_,rfl⟩;obtain⟨T2,aP⟩:∃T:ByteArray,T=⟨(aO hh).toArray⟩:=⟨_,rfl⟩;have Iz:Hid (T1.size≤20):=by rw[aJ];exact bB lo rl.1 rl.2
    have kU:Hid (T2.size≤20):=by rw[aP];exact bB hh rh.1 rh.2
    have htl:=fun W=>uq lo W (by omega) (by omega);have a7:=fun W=>uq hh W (by omega) (by omega);rw[←aJ]at htl HF;rw[←aP]at a7 HF;have Tf:=Hd htl;have bd:=Hd a7;clear sQ ai HR aw av rl rh htl a7 aJ aP;go_in;go_wp2_with fail;rw[←af,←HQ];refine xR.mono ?_;rintro e w2 ⟨rfl,J⟩;have G:=Hd (QU.trans J);replace I:=SH J.2 I ae;have ag:=lH I;obtain⟨c0,c1,c2,c3,-⟩:=q4 I;clear J;go_wp2_with fail;refine(wz _).mono ?_;rintro e w0 ⟨rfl,hw⟩;rw[←hw];clear hw;go_wp2_with fail;refine(ar _).mono ?_;rintro e w0 ⟨rfl,hw⟩;rw[←hw];clear hw;go_wp2_with fail;refine wp_region_held_drew (S:=fun W=>W.heap[q]?=some (.cells #[.string nm,.bool false,.int .i64 lo,.int .i64 hh] 45 (0,0))) (by kernel_rfl) I (fun D=>?_);clear c0 c1 c2 c3 ag wz ar;obtain⟨Wc,ax⟩:=aj w2.drew;replace I:Hid (Wc.heap[q]?=some (.cells #[.string nm,.bool false,.int .i64 lo,.int .i64 hh] 45 (0,0))):=by show _=_;rw[ax];exact I
    replace G:Hid (WG B b l y w Wc):=by show WG _ _ _ _ _ _;rw[ax];exact G.drewN 1
    rw[←ax]at D⊢;clear ax
    repeat
     (first|refine aI 0 (v:=?_) rfl ?hy ?_|refine aI 1 (v:=?_) rfl ?hy ?_|refine aI 2 (v:=?_) rfl ?hy ?_|refine aI 3 (v:=?_) rfl ?hy ?_|refine aI 5 (v:=?_) rfl ?hy ?_|refine aI 6 (v:=?_) rfl ?hy ?_
      case hy=>
       intro w0 hS;have y2:=pG hS 2 rfl;have y3:=pG hS 3 rfl;have bh:=lH hS;clear hS;go_simp
       (first|done|with_reducible rfl)
      try simp only[Act.put,aT,aU,aV])
    iterate 4
     all_goals first
      |refine Rd (rs:=[4]) (by decide +kernel) (by simp) (Rc (aaP rfl) (fun K hK=>?_) Rn)
      |refine Rd (rs:=[7]) (by decide +kernel) (by simp) (Rc (aaP rfl) (fun K hK=>?_) Rn)
      |refine Rd (rs:=[8]) (by decide +kernel) (by simp) (Rc (aaP rfl) (fun K hK=>?_) Rn)
      |refine Rd (rs:=[9]) (by decide +kernel) (by simp) (Rc (aaP rfl) (fun K hK=>?_) Rn)
      |fail
     all_goals first
      |(go_simp
        clear D;(with_reducible refine(Tf.out _).mono ?_);rintro e We ⟨rfl,O⟩;replace I:=kX O I;replace G:=Hd (G.below O kH);refine hK.out _ _ I (fun D=>?_);clear hK K O;(try simp only[Act.put,aT,aU,aV]);clear Wc
        rename World=>Wc)
      |(go_simp
        clear D;(with_reducible refine(bd.out _).mono ?_);rintro e We ⟨rfl,O⟩;replace I:=kX O I;replace G:=Hd (G.below O kH);refine hK.out _ _ I (fun D=>?_);clear hK K O;(try simp only[Act.put,aT,aU,aV]);clear Wc
        rename World=>Wc)
      |(refine QI ?_
        go_simp;clear D;obtain⟨z,hz⟩:=aj Wc.heap.size;obtain⟨We,hV⟩:=aj (Wc.alloc (.cells (I6 [⟨#[118,97,114]⟩,nm,⟨#[58]⟩,T1,⟨#[46,46]⟩,T2]) 9));have O:=dz hV;have HZ:=jZ hV hz;replace I:=kX O I;replace G:=Hd (G.below O kH);refine hK.out _ (Wc.alloc (.cells (I6 [⟨#[118,97,114]⟩,nm,⟨#[58]⟩,T1,⟨#[46,46]⟩,T2]) 9)) (by rw[←hV];exact I) (fun D=>?_);clear hK K;(try simp only[Act.put,aT,aU,aV]);rw[←hV]at D;rw[←hV,←hz];clear hV hz O Wc
        rename World=>Wc)
      |(go_simp
        clear D;have ao:Calls Tryz.prog 30 #[.pointer (some ⟨b,0,none⟩),.slice (some ⟨z,0,none⟩) 6 6] Wc _:=wP B b z l y [⟨#[118,97,114]⟩,nm,⟨#[58]⟩,T1,⟨#[46,46]⟩,T2] Wc G.1 HZ (by simp) (fun h=>by rw[WO];have:=a8 h;have:=HL.out;have:=Iz.out;have:=kU.out;show _+(3+nm.size+1+T1.size+2+T2.size+8)≤_;omega) (Nat.le_trans kH G.2.below.size);(with_reducible refine(ao).mono ?_);rintro e We ⟨rfl,aS⟩;clear ao;replace I:=SH aS.2 I ae;replace G:=Hd (G.trans aS);refine hK.out _ _ I (fun D=>?_);clear hK K aS HZ;(try simp only[Act.put,aT,aU,aV]);clear Wc
        rename World=>Wc)
      |fail
     all_goals
      repeat
       (first|refine aI 0 (v:=?_) rfl ?hy ?_|refine aI 1 (v:=?_) rfl ?hy ?_|refine aI 2 (v:=?_) rfl ?hy ?_|refine aI 3 (v:=?_) rfl ?hy ?_|refine aI 5 (v:=?_) rfl ?hy ?_|refine aI 6 (v:=?_) rfl ?hy ?_
        case hy=>
         intro w0 hS;have y2:=pG hS 2 rfl;have y3:=pG hS 3 rfl;have bh:=lH hS;clear hS;go_simp
         (first|done|with_reducible rfl)
        try simp only[Act.put,aT,aU,aV])
    all_goals refine wpAnyH_done (by decide +kernel) ?_ _
    all_goals
     clear D;go_wp2_with fail;refine bR (v:=.tuple #[]) (results_none rfl _ _ _) rfl ?_;rw[HF];exact⟨rfl,G⟩
   ·have HR:=Hd (sQ rfl);rw[HR]at HF;clear sQ ai HR aw av;go_in;go_wp2_with fail;rw[←af,←HQ];refine xR.mono ?_;rintro e w2 ⟨rfl,J⟩;have G:=Hd (QU.trans J);replace I:=SH J.2 I ae;have ag:=lH I;obtain⟨c0,c1,c2,c3,-⟩:=q4 I;clear J;have vN:=Hd (oh B b l y 2 w2 G.1);go_wp2_with fail;refine(wz _).mono ?_;rintro e w0 ⟨rfl,hw⟩;rw[←hw];clear hw;go_wp2_with fail;refine(ar _).mono ?_;rintro e w0 ⟨rfl,hw⟩;rw[←hw];clear hw;go_wp2_with fail;refine vN.mono ?_;rintro e w3 ⟨rfl,J⟩;replace G:=Hd (G.trans J);clear J;go_wp2_with fail;refine bR (v:=.tuple #[]) (results_none rfl _ _ _) rfl ?_;rw[HF];exact⟨rfl,G⟩
  ·have HR:=Hd (sQ rfl);rw[HR]at HF;clear sQ ai HR aw av;go_in;go_wp2_with fail;rw[←af,←HQ];refine xR.mono ?_;rintro e w2 ⟨rfl,J⟩;have G:=Hd (QU.trans J);replace I:=SH J.2 I ae;have ag:=lH I;obtain⟨c0,c1,c2,c3,-⟩:=q4 I;clear J;have vN:=Hd (oh B b l y 2 w2 G.1);go_wp2_with fail;refine(wz _).mono ?_;rintro e w0 ⟨rfl,hw⟩;rw[←hw];clear hw;go_wp2_with fail;refine vN.mono ?_;rintro e w3 ⟨rfl,J⟩;replace G:=Hd (G.trans J);clear J;go_wp2_with fail;refine bR (v:=.tuple #[]) (results_none rfl _ _ _) rfl ?_;rw[HF];exact⟨rfl,G⟩
 ·by_cases h1:lo=0
  ·by_cases h2:hh=0
   ·subst h1 h2;have HR:=Hd (Y rfl rfl rfl);rw[HR]at HF;clear HA Y aa ab HR;go_in;go_wp2_with fail;rw[←af,←HQ];refine xR.mono ?_;rintro e w2 ⟨rfl,J⟩;have G:=Hd (QU.trans J);replace I:=SH J.2 I ae;have ag:=lH I;obtain⟨c0,c1,c2,c3,-⟩:=q4 I;clear J;have bj:=G;go_wp2_with fail;obtain⟨z,hz⟩:=aj w2.heap.size;obtain⟨w3,aF⟩:=aj (w2.alloc (.cells (I6 [⟨#[118,97,114]⟩,nm,⟨#[58]⟩,⟨#[98,111,111,108]⟩]) 9));have ba:=dz aF;have HZ:=jZ aF hz;have aE:=G.below ba kH;have ao:=wP B b z l y [⟨#[118,97,114]⟩,nm,⟨#[58]⟩,⟨#[98,111,111,108]⟩] w3 aE.1 HZ (by simp) (fun h=>by rw[AQ];have:=a8 h;have:=HL.out;show _+(3+nm.size+1+4+6)≤_;omega) (Nat.le_trans kH aE.2.below.size);have QV:=Hd ao;have bf:=Hd aF;have bg:=Hd hz;replace G:=Hd aE;clear hz aF ba aE ao c0 c1 c2 c3;go_wp2_with fail;show Calls _ _ #[_,.slice (some ⟨w2.heap.size,0,none⟩) 4 4] (w2.alloc (.cells (I6 [⟨#[118,97,114]⟩,nm,⟨#[58]⟩,⟨#[98,111,111,108]⟩]) 9)) _;rw[←bf,←bg];refine QV.mono ?_;rintro e w4 ⟨rfl,J⟩;replace G:=Hd (G.trans J);clear J;go_wp2_with fail;refine bR (v:=.tuple #[]) (results_none rfl _ _ _) rfl ?_;rw[HF];exact⟨rfl,G⟩
   ·have HR:=Hd (HA rfl (.inr h2));rw[HR]at HF;subst h1;have t2:(hh != 0)=true:=by simpa using h2
    clear HA Y aa ab HR h2;go_in;go_wp2_with fail;rw[←af,←HQ];refine xR.mono ?_;rintro e w2 ⟨rfl,J⟩;have G:=Hd (QU.trans J);replace I:=SH J.2 I ae;have ag:=lH I;obtain⟨c0,c1,c2,c3,-⟩:=q4 I;clear J;have vN:=Hd (oh B b l y 3 w2 G.1);go_wp2_with fail;refine vN.mono ?_;rintro e w3 ⟨rfl,J⟩;replace G:=Hd (G.trans J);clear J;go_wp2_with fail;refine bR (v:=.tuple #[]) (results_none rfl _ _ _) rfl ?_;rw[HF];exact⟨rfl,G⟩
  ·have HR:=Hd (HA rfl (.inl h1));rw[HR]at HF;have t1:(lo != 0)=true:=by simpa using h1
   clear HA Y aa ab HR h1;go_in;go_wp2_with fail;rw[←af,←HQ];refine xR.mono ?_;rintro e w2 ⟨rfl,J⟩;have G:=Hd (QU.trans J);replace I:=SH J.2 I ae;have ag:=lH I;obtain⟨c0,c1,c2,c3,-⟩:=q4 I;clear J;have vN:=Hd (oh B b l y 3 w2 G.1);go_wp2_with fail;refine vN.mono ?_;rintro e w3 ⟨rfl,J⟩;replace G:=Hd (G.trans J);clear J;go_wp2_with fail;refine bR (v:=.tuple #[]) (results_none rfl _ _ _) rfl ?_;rw[HF];exact⟨rfl,G⟩
end Go.Proofs.YtkhoeoilamddaaaGreatDoor
