/- Walks and plain words: MwB MwC. -/
import Derived.Test.YtkhoeoilamddaaaGreatDoorYFParQ
import Derived.Test.YtkhoeoilamddaaaGreatDoorYShJ
namespace Go.Proofs.YtkhoeoilamddaaaGreatDoor
open Go.RowKit
set_option linter.unusedVariables false
set_option linter.unusedSimpArgs false
set_option maxRecDepth 100000
set_option maxHeartbeats 8000000
theorem ag0{o:Array Oper}{i:Nat}{x:Oper}(h:o.toList[i]?=some x):o[i]?=some x:=by simpa using h
def yD(x e:Int):Int:=if x=0 then e else x
def wO(x:Int)(n:Nat):Int:=if 64<n then yD x 18 else x
def qc(x:Int)(s:ByteArray):Int:=if isName (bs s)then x else yD x 12
theorem wr2{B b:Nat}{l:Bs}{x:Int}{w:World}(h:Wr B b l x w):w.cell? ⟨b,2,none⟩=some (.int .i64 x)∧w.frozen? ⟨b,2,none⟩=false∧b<w.heap.size:=⟨h.ai1,h.frozen 2,h.lt⟩
theorem oh(B b:Nat)(l:Bs)(x e:Int)(w:World)(h:Wr B b l x w) :
 Calls Tryz.prog 29 #[.pointer (some ⟨b,0,none⟩),.int .i64 e] w fun r w'=>r=.returned (.tuple #[])∧WG B b l (yD x e) w w':=by
 obtain⟨F,HF⟩:=ak (fun(r:Ending)(w':World)=>r=.returned (.tuple #[])∧WG B b l (yD x e) w w');rw[←HF];obtain⟨c2,f2,hlt⟩:=wr2 h;have HW:=Hd h;clear h;unfold yD at HF
 by_cases hx:x=0
 ·subst hx;rw[iP rfl]at HF;go_in;go_wp2_with fail;refine bR (v:=.tuple #[]) (results_none rfl _ _ _) rfl ?_;rw[HF];exact⟨rfl,(WG.refl HW).err e⟩
 ·have hb:(x==0)=false:=by simpa using hx
  rw[iN hx]at HF;clear hx;go_in;go_wp2_with fail;refine bR (v:=.tuple #[]) (results_none rfl _ _ _) rfl ?_;rw[HF];exact⟨rfl,WG.refl HW⟩
theorem AO(B b:Nat)(l:Bs)(x:Int)(n:Nat)(w:World)(h:Wr B b l x w) :
 Calls Tryz.prog 23 #[.pointer (some ⟨b,0,none⟩),.int .i64 (n:Nat)] w fun r w'=>r=.returned (.tuple #[])∧WG B b l (wO x n) w w':=by
 obtain⟨F,HF⟩:=ak (fun(r:Ending)(w':World)=>r=.returned (.tuple #[])∧WG B b l (wO x n) w w');rw[←HF];have vN:=Hd (oh B b l x 18 w h);have HW:=Hd h;clear h;unfold wO at HF
 by_cases hn:64<n
 ·have hn1:(64:Int)<(n:Int):=by omega
  rw[iP hn]at HF;clear hn;go_in;go_wp2_with fail;refine vN.mono ?_;rintro e w' ⟨rfl,hg⟩;have HG:=Hd hg;clear hg;go_wp2_with fail;refine bR (v:=.tuple #[]) (results_none rfl _ _ _) rfl ?_;rw[HF];exact⟨rfl,HG⟩
 ·have hn1:¬(64:Int)<(n:Int):=by omega
  rw[iN hn]at HF;clear hn;go_in;go_wp2_with fail;refine bR (v:=.tuple #[]) (results_none rfl _ _ _) rfl ?_;rw[HF];exact⟨rfl,WG.refl HW⟩
theorem Fv(B b:Nat)(l:Bs)(x:Int)(s:ByteArray)(w:World)(h:Wr B b l x w)(hs:s.size≤maxLen)(hT:je w) :
 Calls Tryz.prog 27 #[.pointer (some ⟨b,0,none⟩),.string s] w fun r w'=>r=.returned (.string s)∧WG B b l (qc x s) w w':=by
 obtain⟨F,HF⟩:=ak (fun(r:Ending)(w':World)=>r=.returned (.string s)∧WG B b l (qc x s) w w');rw[←HF];have vN:=Hd (oh B b l x 12 w h);have HIS:=Hd (aaC s w hs hT);have HW:=Hd h;clear h hs hT;unfold qc at HF;obtain⟨r,hr⟩:=aj (isName (bs s));rw[←hr]at HF HIS;clear hr;cases r
 ·rw[iN (by decide)]at HF;go_in;go_wp2_with fail;refine HIS.mono ?_;rintro e w' ⟨rfl,hw⟩;rw[←hw];clear hw;go_wp2_with fail;refine vN.mono ?_;rintro e w' ⟨rfl,hg⟩;have HG:=Hd hg;clear hg;go_wp2_with fail;rw[HF];exact⟨rfl,HG⟩
 ·rw[iP rfl]at HF;go_in;go_wp2_with fail;refine HIS.mono ?_;rintro e w' ⟨rfl,hw⟩;rw[←hw];clear hw;go_wp2_with fail;rw[HF];exact⟨rfl,WG.refl HW⟩
def om(xs:List ByteArray):Bs:=Lib.join (xs.map (·.data.toList)) [32]++AJ
theorem WM(B b bk c:Nat)(l:Bs)(x:Int)(xs:List ByteArray)(w:World)(h:Wr B b l x w)(hcells:∀(j:Nat) y,xs[j]?=some y→w.cell? ⟨bk,0+j,none⟩=some (.string y))(hbk:bk<w.heap.size)(hn:xs.length≤100)(hcap:xs.length≤c)(hlen:x=0→l.length+(om xs).length≤1000000000)(hB:B≤w.heap.size) :
 Calls Tryz.prog 30 #[.pointer (some ⟨b,0,none⟩),.slice (some ⟨bk,0,none⟩) xs.length c] w fun r w'=>r=.returned (.tuple #[])∧WG B b (if x=0 then l++om xs else l) x w w':=by
 obtain⟨F,HF⟩:=ak (fun(r:Ending)(w':World)=>r=.returned (.tuple #[])∧WG B b (if x=0 then l++om xs else l) x w w');rw[←HF];obtain⟨c2,f2,hlt⟩:=wr2 h;have HW:=Hd h;clear h f2
 by_cases hx:x=0
 ·subst hx;rw[iP rfl]at HF;replace hlen:=hlen rfl;obtain⟨S0,hS0⟩:∃S0:ByteArray,S0=⟨(Lib.join (xs.map (·.data.toList)) [32]).toArray⟩:=⟨_,rfl⟩;obtain⟨S1,hS1⟩:=aj (S0++⟨#[32,59,10]⟩);have hj1:S1.data.toList=om xs:=by rw[hS1,hS0];simp[om,AJ]
  have hz1:S1.size=(om xs).length:=by rw[←hj1];rfl
  have hz0:S0.size=(Lib.join (xs.map (·.data.toList)) [32]).length:=by rw[hS0];rfl
  have hz2:(om xs).length=(Lib.join (xs.map (·.data.toList)) [32]).length+3:=by unfold om;simp[AJ]
  have hadd:∀W,(Op.stringOp .add S0 ⟨#[32,59,10]⟩).run Tryz.prog W=.ok (.string S1) W:=fun W=>by rw[hS1];exact run_string_add_sum W _ _ (by show S0.size+3≤_;omega)
  have HJ:Hid (∀W,Below w.heap.size w W→Calls Tryz.prog 62 #[.slice (some ⟨bk,0,none⟩) xs.length c,.string ⟨#[32]⟩] W fun e w'=>e=.returned (.string S0)∧Below W.heap.size W w'):=fun W hb=>by
   rw[hS0];exact Tryz.strings_Join bk 0 c xs ⟨#[32]⟩ W (fun j y hy=>(hb.cell (p:=⟨bk,0+j,none⟩) hbk).trans (hcells j y hy)) (lL hbk hb.size) (by omega) hcap (by show(Lib.join (xs.map (·.data.toList)) [32]).length≤_;omega)
  have kY:Hid (∀W,Below w.heap.size w W→Calls Tryz.prog 61 #[.pointer (some ⟨b,0,none⟩),.string S1] W fun e w'=>e=.returned (.tuple #[.int .i64 S1.size,.nilIface])∧WG B b (l++om xs) 0 w w'):=fun W hb=>by
   have h:=QT B b l 0 S1 W (HW.below hb) (by omega) (by rw[hj1];unfold om;simp[AJ]) (Nat.le_trans hB hb.size);rw[hj1]at h;exact h.mono fun e w' ⟨h1,h2⟩=>⟨h1,h2.1,(KB.of_below hb hB).trans h2.2⟩
  obtain⟨n,hn'⟩:=aj xs.length;rw[←hn']at HJ⊢;clear hj1 hz1 hz0 hz2 hS0 hS1 hcells hbk hcap hlen hn hn';go_in;go_wp2_with fail;refine wp_region_held_drew (S:=fun _=>True) (by kernel_rfl) trivial (fun hHeld=>?_);obtain⟨Wc,hWc⟩:=aj w.drew;have HB:Hid (Below w.heap.size w Wc):=by show Below _ _ _;rw[hWc];exact(Br _ _).drew
  rw[←hWc];clear hWc c2
  repeat
   (first|refine aI 0 (v:=?_) rfl ?hy ?_|refine aI 1 (v:=?_) rfl ?hy ?_|refine aI 2 (v:=?_) rfl ?hy ?_|refine aI 3 (v:=?_) rfl ?hy ?_|refine aI 5 (v:=?_) rfl ?hy ?_
    case hy=>
     intro w0 hS;clear hS;go_simp
     (first|done|with_reducible rfl)
    try simp only[Act.put,aT,aU,aV])
  iterate 2
   all_goals first
    |refine Rd (rs:=[4]) (by decide +kernel) (by simp) (Rc (ag0 rfl) (fun K hK=>?_) Rn)
    |refine Rd (rs:=[6]) (by decide +kernel) (by simp) (Rc (ag0 rfl) (fun K hK=>?_) Rn)
    |fail
   all_goals first
    |(go_simp
      clear hHeld;(with_reducible refine(HJ.out _ HB.out).mono ?_);rintro e Wc ⟨rfl,hb5⟩;refine hK.out _ _ trivial (fun hHeld=>?_);clear hK K;(try simp only[Act.put,aT,aU,aV]);replace HB:=Hd (HB.trans (hb5.mono HB.size))
      clear hb5)
    |(go_simp
      clear hHeld;(with_reducible refine(kY.out _ HB.out).mono ?_);rintro e Wc ⟨rfl,hg5⟩;refine hK.out _ _ trivial (fun hHeld=>?_);clear hK K;(try simp only[Act.put,aT,aU,aV]);have HG:=Hd hg5
      clear hg5)
    |fail
   all_goals
    repeat
     (first|refine aI 0 (v:=?_) rfl ?hy ?_|refine aI 1 (v:=?_) rfl ?hy ?_|refine aI 2 (v:=?_) rfl ?hy ?_|refine aI 3 (v:=?_) rfl ?hy ?_|refine aI 5 (v:=?_) rfl ?hy ?_
      case hy=>
       intro w0 hS;clear hS;go_simp
       (first|done|with_reducible rfl)
      try simp only[Act.put,aT,aU,aV])
  all_goals refine wpAnyH_done (by decide +kernel) ?_ _
  all_goals
   clear hHeld;go_wp2_with fail;refine bR (v:=.tuple #[]) (results_none rfl _ _ _) rfl ?_;rw[HF];exact⟨rfl,HG⟩
 ·have hb:(x==0)=false:=by simpa using hx
  rw[iN hx]at HF;clear hx hcells hlen;go_in;go_wp2_with fail;refine bR (v:=.tuple #[]) (results_none rfl _ _ _) rfl ?_;rw[HF];exact⟨rfl,WG.refl HW⟩
def ShT(w:World)(t:Tm)(A:Option Addr)(c:Nat):Prop:=∀W,Below w.heap.size w W→Calls Tryz.prog 97 #[t.val A c] W fun e w'=>e=.returned (.tuple #[.string ⟨(aH t).1.toArray⟩,.int .i64 (aH t).2])∧Below W.heap.size W w'
theorem Mk(B b:Nat)(l:Bs)(x:Int)(t:Tm)(A:Option Addr)(c:Nat)(w:World)(h:Wr B b l x w)(hB:B≤w.heap.size)(hS:ShT w t A c) :
 Calls Tryz.prog 57 #[.pointer (some ⟨b,0,none⟩),t.val A c] w fun r w'=>r=.returned (.string (if x=0 then⟨(aH t).1.toArray⟩else⟨#[]⟩))∧WG B b l (if x=0 then(aH t).2 else x) w w':=by
 obtain⟨F,HF⟩:=ak (fun(r:Ending)(w':World)=>r=.returned (.string (if x=0 then⟨(aH t).1.toArray⟩else⟨#[]⟩))∧WG B b l (if x=0 then(aH t).2 else x) w w');rw[←HF];unfold Tm.val;obtain⟨n,hn⟩:=aj t.kids.length;unfold ShT Tm.val at hS;rw[←hn]at hS⊢;obtain⟨w1,HW1⟩:=ak (w.alloc (.cells #[.int .i64 t.op,.int .i64 t.num,.string t.name,.slice A n c] 64));have hb1:=dz HW1;have x1:=jZ HW1 rfl;have hs1:=sAl HW1;have hg1:=(WG.refl h).below hb1 hB;obtain⟨c2,f2,hlt⟩:=wr2 h;have QU:=Hd hg1;have kH:=Hd hB;have HS:=Hd (hS w1 hb1);obtain⟨r,hr⟩:=aj (aH t);rw[←hr]at HS HF;obtain⟨S,y⟩:=r;obtain⟨S2,hS2⟩:∃S2:ByteArray,S2=⟨S.toArray⟩:=⟨_,rfl⟩;rw[←hS2]at HS HF;clear hr hb1 hg1 hB hS hn h f2 x1 hS2
 by_cases hx:x=0
 ·subst hx;rw[iP rfl,iP rfl]at HF;go_in;go_wp2_with fail;rw[←HW1];(try go_wp2_with fail);refine HS.mono ?_;rintro e w2 ⟨rfl,hb2⟩;have hg2:=QU.below hb2 kH;have hfa:=oh B b l 0 y w2 hg2.1;unfold yD at hfa;rw[iP rfl]at hfa;have vN:=Hd hfa;have HG2:=Hd hg2;clear hg2 hb2 c2 hfa;go_wp2_with fail;refine vN.mono ?_;rintro e w3 ⟨rfl,hg⟩;have HG:=Hd (HG2.trans hg);clear hg;go_wp2_with fail;rw[HF];exact⟨rfl,HG⟩
 ·have hb:(x != 0)=true:=by simpa using hx
  rw[iN hx,iN hx]at HF;clear hx;go_in;go_wp2_with fail;rw[←HW1];(try go_wp2_with fail);rw[HF];exact⟨rfl,QU⟩
theorem aaP{o:Array Oper}{i:Nat}{x:Oper}(h:o.toList[i]?=some x):o[i]?=some x:=by simpa using h
theorem SH{B b q:Nat}{w w':World}{cs:Array Value}{T:TypeId}{fz:Nat×Nat}(hk:KB B b w w')(X:Hid (w.heap[q]?=some (.cells cs T fz)))(hq:q≠b)(hT:T≠5:=by decide):Hid (w'.heap[q]?=some (.cells cs T fz)):=by
 show _=_;rw[hk.keep q (lH X) hq (fun cs' fz' e=>by rw[X]at e;injection e with e;injection e with _ e _;exact hT e)];exact X
theorem Ua(n:Int)(w:World):Calls Tryz.prog 55 #[.int .i64 n] w fun r w'=>r=.returned (.bool (vB n))∧w=w':=by
 obtain⟨F,HF⟩:=ak (fun(r:Ending)(w':World)=>r=.returned (.bool (vB n))∧w=w');rw[←HF];unfold vB at HF
 by_cases h1:n < -255
 ·rw[decide_eq_true h1,Bool.true_or]at HF;go_in;go_wp2_with fail;rw[HF];exact⟨rfl,rfl⟩
 ·rw[dF h1,Bool.false_or]at HF
  by_cases h2:255<n
  all_goals
   simp only[h2,decide_true,decide_false]at HF;go_in;go_wp2_with fail;rw[HF];exact⟨rfl,rfl⟩
theorem AP{s:Bs}(h:isName s=true):s.length≤24:=by
 unfold isName at h;simp only[Bool.and_eq_true,decide_eq_true_iff]at h;exact h.1.1.1.2
theorem ai2(a b c d:Bs):Lib.join [a,b,c,d] [32]=a++[32]++b++[32]++c++[32]++d:=by simp[Lib.join]
theorem ai3(a b c d e f:Bs):Lib.join [a,b,c,d,e,f] [32]=a++[32]++b++[32]++c++[32]++d++[32]++e++[32]++f:=by simp[Lib.join]
theorem ai4(a b:Bs):Lib.join [a,b] [32]=a++[32]++b:=by simp[Lib.join]
def rM(l:Bs)(y:Int)(xs:List ByteArray):Bs:=if y=0 then l++om xs else l
theorem vT(s:ByteArray):qc 0 s=if isName (bs s)then 0 else 12:=by unfold qc yD;rw[iP rfl]
theorem DK{l:Bs}{v:Vr}(h:isName (bs v.name)=false):mK (l,0) (mM v)=(l,12):=by
 have h':isName v.name.data.toList=false:=h;unfold mM mK;rw[iN (fun h=>h rfl),iP h',iP (by decide)]
theorem abB{l:Bs}{v:Vr}(hb:v.bool=true)(h:v.lo≠0∨v.hi≠0):mK (l,0) (mM v)=(l,yD (qc 0 v.name) 3):=by
 rw[vT]
 cases hn:isName (bs v.name)with
 |false=>rw[DK hn];rfl
 |true=>
  have h':¬isName v.name.data.toList=false:=by show ¬isName (bs v.name)=false;rw[hn];decide
  simp[mM,mK,h',hb,h,yD]
theorem abC{l:Bs}{v:Vr}(hb:v.bool=true)(h1:v.lo=0)(h2:v.hi=0):mK (l,0) (mM v)=(rM l (qc 0 v.name) [⟨#[118,97,114]⟩,v.name,⟨#[58]⟩,⟨#[98,111,111,108]⟩],qc 0 v.name):=by
 rw[vT]
 cases hn:isName (bs v.name)with
 |false=>rw[DK hn];rfl
 |true=>
  have h':¬isName v.name.data.toList=false:=by show ¬isName (bs v.name)=false;rw[hn];decide
  simp[mM,mK,h',hb,h1,h2,rM,om,Lib.join,AJ,kV,vP]
theorem adn{l:Bs}{v:Vr}(hb:v.bool=false)(h:(vB v.lo||vB v.hi)=true):mK (l,0) (mM v)=(l,yD (qc 0 v.name) 2):=by
 rw[vT]
 cases hn:isName (bs v.name)with
 |false=>rw[DK hn];rfl
 |true=>
  have h':¬isName v.name.data.toList=false:=by show ¬isName (bs v.name)=false;rw[hn];decide
  have hf:vB v.lo=true∨vB v.hi=true:=by simpa using h
  simp[mM,mK,h',hb,hf,yD]
theorem ado{l:Bs}{v:Vr}(hb:v.bool=false)(h:(vB v.lo||vB v.hi)=false):mK (l,0) (mM v)=(rM l (qc 0 v.name) [⟨#[118,97,114]⟩,v.name,⟨#[58]⟩,⟨(aO v.lo).toArray⟩,⟨#[46,46]⟩,⟨(aO v.hi).toArray⟩],qc 0 v.name):=by
 rw[vT]
 cases hn:isName (bs v.name)with
 |false=>rw[DK hn];rfl
 |true=>
  have h':¬isName v.name.data.toList=false:=by show ¬isName (bs v.name)=false;rw[hn];decide
  have hf:vB v.lo=false∧vB v.hi=false:=by simpa using h
  simp[mM,mK,h',hb,hf.1,hf.2,rM,om,Lib.join,AJ,kV]
theorem DL{n:Int}(h:vB n=false):-255≤n∧n≤255:=by
 unfold vB at h;simp only[Bool.or_eq_false_iff,decide_eq_false_iff_not]at h;omega
theorem AQ(a b c d:ByteArray):(om [a,b,c,d]).length=a.size+b.size+c.size+d.size+6:=by
 unfold om;show(Lib.join [a.data.toList,b.data.toList,c.data.toList,d.data.toList] [32]++AJ).length=_;rw[ai2];have hz:∀s:ByteArray,s.data.toList.length=s.size:=aC;simp only[List.length_append,hz,AJ,List.length_cons,List.length_nil];omega
theorem WO(a b c d e f:ByteArray):(om [a,b,c,d,e,f]).length=a.size+b.size+c.size+d.size+e.size+f.size+8:=by
 unfold om;show(Lib.join [a.data.toList,b.data.toList,c.data.toList,d.data.toList,e.data.toList,f.data.toList] [32]++AJ).length=_;rw[ai3];have hz:∀s:ByteArray,s.data.toList.length=s.size:=aC;simp only[List.length_append,hz,AJ,List.length_cons,List.length_nil];omega
theorem Ml(a b:ByteArray):(om [a,b]).length=a.size+b.size+4:=by
 unfold om;show(Lib.join [a.data.toList,b.data.toList] [32]++AJ).length=_;rw[ai4];have hz:∀s:ByteArray,s.data.toList.length=s.size:=aC;simp only[List.length_append,hz,AJ,List.length_cons,List.length_nil];omega
def I6(xs:List ByteArray):Array Value:=(xs.map Value.string).toArray
theorem abD{w:World}{q:Nat}{xs:List ByteArray}(h:w.heap[q]?=some (.cells (I6 xs) 9 (0,0))):∀(j:Nat) y,xs[j]?=some y→w.cell? ⟨q,0+j,none⟩=some (.string y):=fun j y hy=>by
 rw[Nat.zero_add];exact pG h j (by simp[I6,hy])
theorem wP(B b q:Nat)(l:Bs)(x:Int)(xs:List ByteArray)(w:World)(h:Wr B b l x w)(hrow:w.heap[q]?=some (.cells (I6 xs) 9 (0,0)))(hn:xs.length≤100)(hlen:x=0→l.length+(om xs).length≤1000000000)(hB:B≤w.heap.size) :
 Calls Tryz.prog 30 #[.pointer (some ⟨b,0,none⟩),.slice (some ⟨q,0,none⟩) xs.length xs.length] w fun r w'=>r=.returned (.tuple #[])∧WG B b (rM l x xs) x w w':=
 WM B b q xs.length l x xs w h (abD hrow) (lH hrow) hn (lr _) hlen hB
theorem abE(B b:Nat)(l:Bs)(v:Vr)(w:World)(h:Wr B b l 0 w)(hB:B≤w.heap.size)(hs:v.name.size≤maxLen)(hT:je w)(hl:l.length≤900000000) :
 Calls Tryz.prog 24 #[.pointer (some ⟨b,0,none⟩),.agg #[.string v.name,.bool v.bool,.int .i64 v.lo,.int .i64 v.hi]] w fun r w'=>r=.returned (.tuple #[])∧WG B b (mK (l,0) (mM v)).1 (mK (l,0) (mM v)).2 w w':=by
 obtain⟨R,hR⟩:=aj (mK (l,0) (mM v));rw[←hR];have HA:=Hd (fun h1 h2=>abB (l:=l) (v:=v) h1 h2);have HBo:=Hd (fun h1 h2 h3=>abC (l:=l) (v:=v) h1 h2 h3);have HFr:=Hd (fun h1 h2=>adn (l:=l) (v:=v) h1 h2);have HNu:=Hd (fun h1 h2=>ado (l:=l) (v:=v) h1 h2);rw[←hR]at HA HBo HFr HNu;clear hR;obtain⟨nm,bo,lo,hh⟩:=v;simp only at hs HA HBo HFr HNu⊢;obtain⟨y,hy⟩:=aj (qc 0 nm)
 have hy0:y=0→nm.size≤24:=fun h=>by
  rw[hy,vT]at h
  cases hn:isName (bs nm)with
  |false=>rw[hn]at h;cases h
  |true=>have:=AP hn;rwa [aC]at this
 obtain⟨w1,hw1⟩:=aj (w.alloc (.cells #[.string nm,.bool bo,.int .i64 lo,.int .i64 hh] 45));obtain⟨q,hq⟩:=aj w.heap.size;have hb1:=dz hw1;have HX:=jZ hw1 hq;have hs1:=sAl hw1;have hqb:q≠b:=by have:=h.lt;omega
 have hg1:=(WG.refl h).below hb1 hB;have hnm:=Fv B b l 0 nm w1 hg1.1 hs (hT.below hb1);rw[←hy]at hnm HA HBo HFr HNu;obtain⟨F,HF⟩:=ak (fun(r:Ending)(w':World)=>r=.returned (.tuple #[])∧WG B b R.1 R.2 w w');rw[←HF];have HW1:=Hd hw1;have HQ:=Hd hq;have QU:=Hd hg1;have xR:=Hd hnm;have kH:=Hd hB;have HY0:=Hd hy0;have HL:=Hd hl;clear hw1 hq hb1 hs1 hg1 hnm hB hy0 hl hy h hs hT;cases bo
 ·obtain⟨fl,hfl⟩:=aj (vB lo);obtain⟨fh,hfh⟩:=aj (vB hh);have sQ:=fun h=>HFr rfl h;have hR2:=fun h=>HNu rfl h;have wz:=Hd (fun W=>Ua lo W);have HFH:=Hd (fun W=>Ua hh W);rw[←hfl]at wz;rw[←hfh]at HFH;rw[←hfl,←hfh]at sQ hR2;have HRL:=Hd (fun h:fl=false=>DL (hfl.symm.trans h));have HRH:=Hd (fun h:fh=false=>DL (hfh.symm.trans h));clear hfl hfh HA HBo HFr HNu;cases fl
  ·cases fh
   ·have HR:=Hd (hR2 rfl);rw[HR]at HF;have rl:=HRL rfl;have rh:=HRH rfl;obtain⟨T1,hT1⟩:∃T:ByteArray,T=⟨(aO lo).toArray⟩:=⟨_,rfl⟩;obtain⟨T2,hT2⟩:∃T:ByteArray,T=⟨(aO hh).toArray⟩:=⟨_,rfl⟩;have Iz:Hid (T1.size≤20):=by rw[hT1];exact bB lo rl.1 rl.2
    have kU:Hid (T2.size≤20):=by rw[hT2];exact bB hh rh.1 rh.2
    have htl:=fun W=>uq lo W (by omega) (by omega);have hth:=fun W=>uq hh W (by omega) (by omega);rw[←hT1]at htl HF;rw[←hT2]at hth HF;have Tf:=Hd htl;have HTH:=Hd hth;clear sQ hR2 HR HRL HRH rl rh htl hth hT1 hT2;go_in;go_wp2_with fail;rw[←HW1,←HQ];refine xR.mono ?_;rintro e w2 ⟨rfl,hg⟩;have HG:=Hd (QU.trans hg);replace HX:=SH hg.2 HX hqb;have hq2:=lH HX;obtain⟨c0,c1,c2,c3,-⟩:=q4 HX;clear hg;go_wp2_with fail;refine(wz _).mono ?_;rintro e w0 ⟨rfl,hw⟩;rw[←hw];clear hw;go_wp2_with fail;refine(HFH _).mono ?_;rintro e w0 ⟨rfl,hw⟩;rw[←hw];clear hw;go_wp2_with fail;refine wp_region_held_drew (S:=fun W=>W.heap[q]?=some (.cells #[.string nm,.bool false,.int .i64 lo,.int .i64 hh] 45 (0,0))) (by kernel_rfl) HX (fun hHeld=>?_);clear c0 c1 c2 c3 hq2 wz HFH;obtain⟨Wc,hWc⟩:=aj w2.drew;replace HX:Hid (Wc.heap[q]?=some (.cells #[.string nm,.bool false,.int .i64 lo,.int .i64 hh] 45 (0,0))):=by show _=_;rw[hWc];exact HX
    replace HG:Hid (WG B b l y w Wc):=by show WG _ _ _ _ _ _;rw[hWc];exact HG.drewN 1
    rw[←hWc]at hHeld⊢;clear hWc
    repeat
     (first|refine aI 0 (v:=?_) rfl ?hy ?_|refine aI 1 (v:=?_) rfl ?hy ?_|refine aI 2 (v:=?_) rfl ?hy ?_|refine aI 3 (v:=?_) rfl ?hy ?_|refine aI 5 (v:=?_) rfl ?hy ?_|refine aI 6 (v:=?_) rfl ?hy ?_
      case hy=>
       intro w0 hS;have y2:=pG hS 2 rfl;have y3:=pG hS 3 rfl;have hl9:=lH hS;clear hS;go_simp
       (first|done|with_reducible rfl)
      try simp only[Act.put,aT,aU,aV])
    iterate 4
     all_goals first
      |refine Rd (rs:=[4]) (by decide +kernel) (by simp) (Rc (aaP rfl) (fun K hK=>?_) Rn)
      |refine Rd (rs:=[7]) (by decide +kernel) (by simp) (Rc (aaP rfl) (fun K hK=>?_) Rn)
      |refine Rd (rs:=[8]) (by decide +kernel) (by simp) (Rc (aaP rfl) (fun K hK=>?_) Rn)
      |refine Rd (rs:=[9]) (by decide +kernel) (by simp) (Rc (aaP rfl) (fun K hK=>?_) Rn)
      |fail
     all_goals first
      |(go_simp
        clear hHeld;(with_reducible refine(Tf.out _).mono ?_);rintro e We ⟨rfl,hb5⟩;replace HX:=kX hb5 HX;replace HG:=Hd (HG.below hb5 kH);refine hK.out _ _ HX (fun hHeld=>?_);clear hK K hb5;(try simp only[Act.put,aT,aU,aV]);clear Wc
        rename World=>Wc)
      |(go_simp
        clear hHeld;(with_reducible refine(HTH.out _).mono ?_);rintro e We ⟨rfl,hb5⟩;replace HX:=kX hb5 HX;replace HG:=Hd (HG.below hb5 kH);refine hK.out _ _ HX (fun hHeld=>?_);clear hK K hb5;(try simp only[Act.put,aT,aU,aV]);clear Wc
        rename World=>Wc)
      |(refine QI ?_
        go_simp;clear hHeld;obtain⟨z,hz⟩:=aj Wc.heap.size;obtain⟨We,hV⟩:=aj (Wc.alloc (.cells (I6 [⟨#[118,97,114]⟩,nm,⟨#[58]⟩,T1,⟨#[46,46]⟩,T2]) 9));have hb5:=dz hV;have HZ:=jZ hV hz;replace HX:=kX hb5 HX;replace HG:=Hd (HG.below hb5 kH);refine hK.out _ (Wc.alloc (.cells (I6 [⟨#[118,97,114]⟩,nm,⟨#[58]⟩,T1,⟨#[46,46]⟩,T2]) 9)) (by rw[←hV];exact HX) (fun hHeld=>?_);clear hK K;(try simp only[Act.put,aT,aU,aV]);rw[←hV]at hHeld;rw[←hV,←hz];clear hV hz hb5 Wc
        rename World=>Wc)
      |(go_simp
        clear hHeld;have hln:Calls Tryz.prog 30 #[.pointer (some ⟨b,0,none⟩),.slice (some ⟨z,0,none⟩) 6 6] Wc _:=wP B b z l y [⟨#[118,97,114]⟩,nm,⟨#[58]⟩,T1,⟨#[46,46]⟩,T2] Wc HG.1 HZ (by simp) (fun h=>by rw[WO];have:=HY0 h;have:=HL.out;have:=Iz.out;have:=kU.out;show _+(3+nm.size+1+T1.size+2+T2.size+8)≤_;omega) (Nat.le_trans kH HG.2.below.size);(with_reducible refine(hln).mono ?_);rintro e We ⟨rfl,hg5⟩;clear hln;replace HX:=SH hg5.2 HX hqb;replace HG:=Hd (HG.trans hg5);refine hK.out _ _ HX (fun hHeld=>?_);clear hK K hg5 HZ;(try simp only[Act.put,aT,aU,aV]);clear Wc
        rename World=>Wc)
      |fail
     all_goals
      repeat
       (first|refine aI 0 (v:=?_) rfl ?hy ?_|refine aI 1 (v:=?_) rfl ?hy ?_|refine aI 2 (v:=?_) rfl ?hy ?_|refine aI 3 (v:=?_) rfl ?hy ?_|refine aI 5 (v:=?_) rfl ?hy ?_|refine aI 6 (v:=?_) rfl ?hy ?_
        case hy=>
         intro w0 hS;have y2:=pG hS 2 rfl;have y3:=pG hS 3 rfl;have hl9:=lH hS;clear hS;go_simp
         (first|done|with_reducible rfl)
        try simp only[Act.put,aT,aU,aV])
    all_goals refine wpAnyH_done (by decide +kernel) ?_ _
    all_goals
     clear hHeld;go_wp2_with fail;refine bR (v:=.tuple #[]) (results_none rfl _ _ _) rfl ?_;rw[HF];exact⟨rfl,HG⟩
   ·have HR:=Hd (sQ rfl);rw[HR]at HF;clear sQ hR2 HR HRL HRH;go_in;go_wp2_with fail;rw[←HW1,←HQ];refine xR.mono ?_;rintro e w2 ⟨rfl,hg⟩;have HG:=Hd (QU.trans hg);replace HX:=SH hg.2 HX hqb;have hq2:=lH HX;obtain⟨c0,c1,c2,c3,-⟩:=q4 HX;clear hg;have vN:=Hd (oh B b l y 2 w2 HG.1);go_wp2_with fail;refine(wz _).mono ?_;rintro e w0 ⟨rfl,hw⟩;rw[←hw];clear hw;go_wp2_with fail;refine(HFH _).mono ?_;rintro e w0 ⟨rfl,hw⟩;rw[←hw];clear hw;go_wp2_with fail;refine vN.mono ?_;rintro e w3 ⟨rfl,hg⟩;replace HG:=Hd (HG.trans hg);clear hg;go_wp2_with fail;refine bR (v:=.tuple #[]) (results_none rfl _ _ _) rfl ?_;rw[HF];exact⟨rfl,HG⟩
  ·have HR:=Hd (sQ rfl);rw[HR]at HF;clear sQ hR2 HR HRL HRH;go_in;go_wp2_with fail;rw[←HW1,←HQ];refine xR.mono ?_;rintro e w2 ⟨rfl,hg⟩;have HG:=Hd (QU.trans hg);replace HX:=SH hg.2 HX hqb;have hq2:=lH HX;obtain⟨c0,c1,c2,c3,-⟩:=q4 HX;clear hg;have vN:=Hd (oh B b l y 2 w2 HG.1);go_wp2_with fail;refine(wz _).mono ?_;rintro e w0 ⟨rfl,hw⟩;rw[←hw];clear hw;go_wp2_with fail;refine vN.mono ?_;rintro e w3 ⟨rfl,hg⟩;replace HG:=Hd (HG.trans hg);clear hg;go_wp2_with fail;refine bR (v:=.tuple #[]) (results_none rfl _ _ _) rfl ?_;rw[HF];exact⟨rfl,HG⟩
 ·by_cases h1:lo=0
  ·by_cases h2:hh=0
   ·subst h1 h2;have HR:=Hd (HBo rfl rfl rfl);rw[HR]at HF;clear HA HBo HFr HNu HR;go_in;go_wp2_with fail;rw[←HW1,←HQ];refine xR.mono ?_;rintro e w2 ⟨rfl,hg⟩;have HG:=Hd (QU.trans hg);replace HX:=SH hg.2 HX hqb;have hq2:=lH HX;obtain⟨c0,c1,c2,c3,-⟩:=q4 HX;clear hg;have HG0:=HG;go_wp2_with fail;obtain⟨z,hz⟩:=aj w2.heap.size;obtain⟨w3,hw3⟩:=aj (w2.alloc (.cells (I6 [⟨#[118,97,114]⟩,nm,⟨#[58]⟩,⟨#[98,111,111,108]⟩]) 9));have hb3:=dz hw3;have HZ:=jZ hw3 hz;have hg3:=HG.below hb3 kH;have hln:=wP B b z l y [⟨#[118,97,114]⟩,nm,⟨#[58]⟩,⟨#[98,111,111,108]⟩] w3 hg3.1 HZ (by simp) (fun h=>by rw[AQ];have:=HY0 h;have:=HL.out;show _+(3+nm.size+1+4+6)≤_;omega) (Nat.le_trans kH hg3.2.below.size);have QV:=Hd hln;have HW3:=Hd hw3;have HZQ:=Hd hz;replace HG:=Hd hg3;clear hz hw3 hb3 hg3 hln c0 c1 c2 c3;go_wp2_with fail;show Calls _ _ #[_,.slice (some ⟨w2.heap.size,0,none⟩) 4 4] (w2.alloc (.cells (I6 [⟨#[118,97,114]⟩,nm,⟨#[58]⟩,⟨#[98,111,111,108]⟩]) 9)) _;rw[←HW3,←HZQ];refine QV.mono ?_;rintro e w4 ⟨rfl,hg⟩;replace HG:=Hd (HG.trans hg);clear hg;go_wp2_with fail;refine bR (v:=.tuple #[]) (results_none rfl _ _ _) rfl ?_;rw[HF];exact⟨rfl,HG⟩
   ·have HR:=Hd (HA rfl (.inr h2));rw[HR]at HF;subst h1;have t2:(hh != 0)=true:=by simpa using h2
    clear HA HBo HFr HNu HR h2;go_in;go_wp2_with fail;rw[←HW1,←HQ];refine xR.mono ?_;rintro e w2 ⟨rfl,hg⟩;have HG:=Hd (QU.trans hg);replace HX:=SH hg.2 HX hqb;have hq2:=lH HX;obtain⟨c0,c1,c2,c3,-⟩:=q4 HX;clear hg;have vN:=Hd (oh B b l y 3 w2 HG.1);go_wp2_with fail;refine vN.mono ?_;rintro e w3 ⟨rfl,hg⟩;replace HG:=Hd (HG.trans hg);clear hg;go_wp2_with fail;refine bR (v:=.tuple #[]) (results_none rfl _ _ _) rfl ?_;rw[HF];exact⟨rfl,HG⟩
  ·have HR:=Hd (HA rfl (.inl h1));rw[HR]at HF;have t1:(lo != 0)=true:=by simpa using h1
   clear HA HBo HFr HNu HR h1;go_in;go_wp2_with fail;rw[←HW1,←HQ];refine xR.mono ?_;rintro e w2 ⟨rfl,hg⟩;have HG:=Hd (QU.trans hg);replace HX:=SH hg.2 HX hqb;have hq2:=lH HX;obtain⟨c0,c1,c2,c3,-⟩:=q4 HX;clear hg;have vN:=Hd (oh B b l y 3 w2 HG.1);go_wp2_with fail;refine vN.mono ?_;rintro e w3 ⟨rfl,hg⟩;replace HG:=Hd (HG.trans hg);clear hg;go_wp2_with fail;refine bR (v:=.tuple #[]) (results_none rfl _ _ _) rfl ?_;rw[HF];exact⟨rfl,HG⟩
end Go.Proofs.YtkhoeoilamddaaaGreatDoor
