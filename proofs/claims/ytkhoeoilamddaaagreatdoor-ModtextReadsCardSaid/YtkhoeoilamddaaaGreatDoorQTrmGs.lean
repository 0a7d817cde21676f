/- Walks and plain words: TrmGs TrmHs. -/
import Derived.Test.YtkhoeoilamddaaaGreatDoorQTrmI
namespace Go.Proofs.YtkhoeoilamddaaaGreatDoor
open Go.RowKit
set_option linter.unusedVariables false
set_option maxRecDepth 100000
set_option maxHeartbeats 16000000
theorem zZ(op:Int):bQ op≤8:=by
 unfold bQ
 iterate 8 (split;· omega)
 omega
def iM(w:World)(bx:Nat)(A:Option Addr)(n c:Nat)(t:Tm):Prop:=w.heap[bx]?=some (.cells #[.int .i64 t.op,.int .i64 t.num,.string t.name,.slice A n c] 64 (0,0))
section
variable {w w':World} {bx:Nat} {A:Option Addr} {n c:Nat} {t:Tm}
theorem iM.c0(h:iM w bx A n c t):w.cell? ⟨bx,0,none⟩=some (.int .i64 t.op):=by rw[cR w bx 0 _ _ (0,0) h];rfl
theorem iM.c1(h:iM w bx A n c t):w.cell? ⟨bx,1,none⟩=some (.int .i64 t.num):=by rw[cR w bx 1 _ _ (0,0) h];rfl
theorem iM.c2(h:iM w bx A n c t):w.cell? ⟨bx,2,none⟩=some (.string t.name):=by rw[cR w bx 2 _ _ (0,0) h];rfl
theorem iM.c3(h:iM w bx A n c t):w.cell? ⟨bx,3,none⟩=some (.slice A n c):=by rw[cR w bx 3 _ _ (0,0) h];rfl
theorem iM.lt(h:iM w bx A n c t):bx<w.heap.size:=by
 rcases Nat.lt_or_ge bx w.heap.size with G|D
 ·exact G
 ·unfold iM at h;rw[Array.getElem?_eq_none D]at h;cases h
theorem iM.kb{B b:Nat}(h:iM w bx A n c t)(k:KB B b w w')(hb:bx≠b):iM w' bx A n c t:=by
 refine(k.keep bx h.lt hb fun cs D h2=>?_).trans h;rw[show w.heap[bx]?=_ from h]at h2
 injection h2 with h2
 injection h2 with _ h3 _
 exact absurd h3 (by decide)
theorem iM.below{B:Nat}(h:iM w bx A n c t)(k:Below B w w')(hb:bx<B):iM w' bx A n c t:=(k.block bx hb).trans h
end
def o_(B b:Nat)(L:Bs)(w:World)(e:Ending)(w':World):Prop:=e=.returned (.tuple #[])∧oV B b (Lib.byteCells L) w'∧KB B b w w'
theorem jE{B b:Nat}{w w2:World}{L M:Bs}{tmps:Array Value}{F:Ending→World→Prop}(hF:F=o_ B b M w)(D:M=L)(hI:oV B b (Lib.byteCells L) w2)(G:KB B b w w2)(ex:Exit)(hex:ex=.normal∨ex=.ret) :
 bodyPostD Tryz.prog Tryz.f128 F ex {tmps:=tmps,defers:=[]} w2:=by
 subst hF D;have key:Leaves Tryz.prog Tryz.f128 tmps (o_ B b M w) [] .returning w2:=⟨_,results_none rfl _ _ _,rfl,hI,G⟩
 rcases hex with rfl|rfl
 ·exact key
 ·exact key
theorem wX{l X S:Bs}(p:Bool)(h:S=uj p X):l++S=if p then(l++[40]++X)++[41]else l++X:=by
 subst h;cases p<;>simp[uj]
def Fa:Nat→Tm→Nat→Bool
 |0,_,_=>false
 |N+1,t,r=>(t.op==1||t.op==3||t.op==10)&&decide (r≤bQ t.op)&&t.kids.all (fun k=>Fa N k 6)
theorem ZW{N:Nat}{t:Tm}{r:Nat}(h:Fa (N+1) t r=true):(t.op=1∨t.op=3∨t.op=10)∧r≤bQ t.op∧∀k∈t.kids,Fa N k 6=true:=by
 rw[Fa]at h;simp only[Bool.and_eq_true,Bool.or_eq_true,beq_iff_eq,List.all_eq_true,decide_eq_true_iff]at h;obtain⟨⟨h1,h2⟩,h3⟩:=h;exact⟨by omega,h2,h3⟩
theorem aL{id:Nat}{Q:Exit→Act→World→Prop}{a:Act}{w:World}{l:List Oper}(n:Nat)(hm:Tryz.prog.follows .mixedOrders=true)(D:Region.lexTailB .any l.toArray n=true)
 (h:wpStill Tryz.prog l.toArray w.drew (fun a'=>wpList Tryz.prog l.toArray Q (l.drop n) a' w.drew) (l.take n) a):(Code.region id l.toArray true).wp Tryz.prog Q a w:=wp_region_still_tail n hm D h
theorem oH(op:Int)(i:Nat):aX op i≤10+i:=by
 unfold aX
 iterate 7 (split;· omega)
 omega
theorem jM(op:Int):(lG op).length≤5:=by
 have:=nD op;unfold lG;simp;omega
theorem rW{P:Program}{ops:Array Oper}{w:World}{Q:Act→Prop}{a:Act}{o:Oper}{rest:List Oper}(hn:Region.wanted o (yielded ops a.tmps)=false)(h:wpStill P ops w Q rest (a.put o.dst undef)):wpStill P ops w Q (o::rest) a:=by
 unfold wpStill;rw[iN (by rw[hn];decide)];exact h
theorem jT{P:Program}{ops:Array Oper}{w:World}{Q:Act→Prop}{a:Act}{o:Oper}{rest:List Oper}{x:Operand}(D:o.guard=none)(G:o.op=.move x)(h:wpStill P ops w Q rest (a.put o.dst (a.eval x))):wpStill P ops w Q (o::rest) a:=by
 unfold wpStill;rw[iP (by simp[Region.wanted,D])];unfold Oper.still execOp;simp only[G];exact⟨rfl,h⟩
theorem Jr(op:Int):(cu op).2≤64:=by
 unfold cu
 iterate 5 (split;· simp)
 simp
theorem Bf(a b:ByteArray):(a++b).size=a.size+b.size:=by simp
theorem Om(l:Bs):(⟨l.toArray⟩:ByteArray).size=l.length:=by simp[ByteArray.size]
theorem Le{n:Int}{s G D I:Bs}:fD aO 1 n s G D I=aO n:=by simp[fD,mq]
theorem Lf{n:Int}{s G D I:Bs}:fD aO 3 n s G D I=s:=by simp[fD,mq]
theorem z8{op n:Int}{s J D I:Bs}(h1:op≠1)(h2:op≠2)(h3:op≠3)(O:op≠4)(h5:op≠5)(G:op≠18):fD aO op n s J D I=I:=by simp[fD,h1,h2,h3,O,h5,G]
theorem Lg{B b g:Nat}{w D w1:World}{L:List Value}{A:Option Addr}{n c:Nat}{t:Tm}{op:Int}(hi:oV B b L w1)(G:KB B b D w1)(O:Hid (iM D g A n c t))(I:Hid (KB B b w D))(hne:g≠b)(J:Hid (op=t.op)) :
 Hid (iM w1 g A n c t)∧Hid (oV B b L w1)∧Hid (KB B b w w1)∧w.heap.size≤w1.heap.size∧w1.cell? ⟨g,0,none⟩=some (.int .i64 op)∧w1.cell? ⟨g,1,none⟩=some (.int .i64 t.num)∧w1.cell? ⟨g,2,none⟩=some (.string t.name)∧w1.cell? ⟨g,3,none⟩=some (.slice A n c):=by
 have hx:=O.kb G hne;have hK:=I.trans G;exact⟨hx,hi,hK,hK.below.size,by rw[J];exact hx.c0,hx.c1,hx.c2,hx.c3⟩
theorem RY(B b:Nat)(w0:World)(hB:B=w0.heap.size):∀(N:Nat)(t:Tm)(rule:Nat)(ends:Bool)(d:Nat)(l:Bs)(A:Option Addr)(c:Nat)(w:World),t.size≤N→Fa N t rule=true→t.lI d→zx w0 A c t→Below B w0 w→oV B b (Lib.byteCells l) w→l.length+80*t.size≤1000000000→rule≤10000000 →
 Calls Tryz.prog 128 #[.pointer (some ⟨b,0,none⟩),t.val A c,.int .i64 (rule:Nat),.bool ends] w (o_ B b (l++nU aO t rule ends) w):=by
 intro N
 induction N with
 |zero=>
  intro t rule ends d l A c w hN;cases t;rw[Tm.size]at hN;omega
 |succ N ih=>
  intro t rule ends d l A c w hN bL hok hV av hI hlen ck;obtain⟨n,hn⟩:=aj t.kids.length;obtain⟨wI,bP,dS⟩:=jI hok;have af:=jJ bP;obtain⟨bl,cf,bE⟩:=ZW bL;have Oc:=Hd bE;clear bL bE;obtain⟨r,hr⟩:=aj (bQ t.op);have cw:r≤8:=by rw[hr];exact zZ _
  rw[←hr]at cf;have Js:=Hd (fun W=>LZ t.op W);rw[←hr]at Js;have b8:B≤w.heap.size:=by rw[hB];exact av.size
  have cq:=oV.lt hI;obtain⟨wb,bb⟩:=aj (w.alloc (.cells #[.int .i64 t.op,.int .i64 t.num,.string t.name,.slice A n c] 64));have hb1:=dz bb;have bJ:wb.heap.size=w.heap.size+1:=by rw[bb];simp
  have bo:iM wb w.heap.size A n c t:=by rw[bb];exact eu w _
  have bn:oV B b (Lib.byteCells l) wb:=oV.keep hI hb1;have bz:KB B b w wb:=KB.of_below hb1 b8;have ae:w.heap.size≠b:=by omega
  have hsl:t.name.data.toList.length=t.name.size:=by simp
  have jy:=Hd bb;have qH:=Hd bo;have x9:=Hd bn;have uw:=Hd bz;have p9:=Hd bJ;have HV:=Hd hV;have HN:=Hd hn;have HR:=Hd hr;have yj:=Hd af;have EZ:=Hd dS;have bm:=Hd hsl;have nH:=Hd av;have hts:1≤t.size:=by cases t;rw[Tm.size];omega
  have ab:=Hd hlen;have mg:Hid (t.size=1+Tm.aA t.kids∧t.size≤N+1):=⟨by cases t;rw[Tm.size];rfl,hN⟩;obtain⟨F,hF⟩:=aj (o_ B b (l++nU aO t rule ends) w);have HF:=Hd hF;have wY:=Hd (QK t rule ends);obtain⟨op,bk⟩:=aj t.op;have gy:=Hd bk;unfold Tm.val;rw[←hn,←hF];rw[←bk]at Js jy bl⊢;have fA:=Hd bl;clear bl hok hV av hI hlen bP dS af hr bb hb1 bJ bo bn bz hsl hn hF hN bk
  by_cases br:op=3
  ·subst br
   by_cases hp:r<rule
   ·omega
   ·have vJ:Hid (pB t rule ends=false):=by show _=_;unfold pB;rw[←HR,dF hp,←gy,dF (by decide)];rfl
    have bC:¬(r:Int)<(rule:Int):=by omega
    clear hp
    go_enter_defers Tryz.func128,Tryz.ntmps128
    go_wp2_with fail;refine(Js _).mono ?_;rintro e w1 ⟨rfl,hw⟩;rw[←hw];clear hw;go_wp2_with fail;have ao:=qH;have y9:=x9;have ze:=uw;rw[←jy];refine(bS B b (l) t.name wb x9 (by have:=ab.out;have:=bm.out;have:=yj.2.2.1;simp;omega) (by have:=p9.out;omega)).mono ?_;rintro e w1 ⟨rfl,bu,aE⟩;(try clear y0 y1 y2 y3);obtain⟨yJ,bh,xO,cg,y0,y1,y2,y3⟩:=Lg bu aE ao uw ae gy;clear bu aE;go_wp2_with fail;exact jE HF (by rw[wX false (by rw[wY,vJ])];simp only[Bool.false_eq_true,if_false];rw[←gy,Lf];first|done|simp) bh xO _ (by first|exact Or.inl rfl|exact Or.inr rfl)
  by_cases bp:op=1
  ·subst bp;have Da:=Hd (yj.2.1 gy.symm);have ct:=bB t.num Da.1 Da.2
   by_cases hp:r<rule
   ·omega
   ·have vJ:Hid (pB t rule ends=false):=by show _=_;unfold pB;rw[←HR,dF hp,←gy,dF (by decide)];rfl
    have bC:¬(r:Int)<(rule:Int):=by omega
    clear hp
    go_enter_defers Tryz.func128,Tryz.ntmps128
    go_wp2_with fail;refine(Js _).mono ?_;rintro e w1 ⟨rfl,hw⟩;rw[←hw];clear hw;go_wp2_with fail;have ao:=qH;have y9:=x9;have ze:=uw;rw[←jy];refine(uq t.num wb (by have:=Da.out;omega) (by have:=Da.out;omega)).mono ?_;rintro e w1 ⟨rfl,hb1⟩;have yJ:=Hd (ao.below hb1 ao.lt);have bh:=Hd (oV.keep x9 hb1);have xO:=Hd (uw.trans (KB.of_below hb1 (by have:=p9.out;omega)));have cg:=xO.below.size;clear hb1;(try clear y0 y1 y2 y3);have y0:=yJ.c0;have y1:=yJ.c1;have y2:=yJ.c2;have y3:=yJ.c3;rw[←gy]at y0;go_wp2_with fail;refine(bS B b (l) ⟨(aO t.num).toArray⟩ w1 bh (by rw[Om];have:=ab.out;have:=bm.out;have:=yj.2.2.1;simp;omega) (by have:=p9.out;omega)).mono ?_;rintro e w2 ⟨rfl,bv,bw⟩;(try clear y0 y1 y2 y3);obtain⟨FK,bZ,J8,cx,y0,y1,y2,y3⟩:=Lg bv bw yJ xO ae gy;clear bv bw;go_wp2_with fail;exact jE HF (by rw[wX false (by rw[wY,vJ])];simp only[Bool.false_eq_true,if_false];rw[←gy,Le];first|done|simp) bZ J8 _ (by first|exact Or.inl rfl|exact Or.inr rfl)
  by_cases b9:op≠10
  ·exact absurd fA.out (by omega)
  ·have h1:op≠1:=by omega
   have h2:op≠2:=by omega
   have h3:op≠3:=by omega
   have h4:op≠4:=by omega
   have h5:op≠5:=by omega
   have bg:op≠18:=by omega
   have vM:=Hd (And.intro h1 (And.intro h2 (And.intro h3 (And.intro h4 (And.intro h5 bg)))));have b1:(op==1)=false:=by simpa using h1
   have b2:(op==2)=false:=by simpa using h2
   have b3:(op==3)=false:=by simpa using h3
   have b4:(op==4)=false:=by simpa using h4
   have b5:(op==5)=false:=by simpa using h5
   have cn:(op==18)=false:=by simpa using bg
   have H8:Hid (op=8→n≤2):=fun h=>by
    have h2:=yj.2.2.2.2.1;rw[←gy,←HN,h]at h2;have e1:cu 8=(2,2):=by simp[cu]
    rw[e1]at h2;simp only at h2;omega
   have cr:=HV.cap
   have cs:n≤64:=by
    have h9:=yj.2.2.2.2.1;have cp:=Jr t.op;have:=HN.out;omega
   have bf:Hid (op=10):=by show _=_;omega
   clear b9 bp br h1 h2 h3 h4 h5
   by_cases hp:r<rule
   ·omega
   ·have vJ:Hid (pB t rule ends=false):=by show _=_;unfold pB;rw[←HR,dF hp,←gy,dF (bg)];rfl
    have bC:¬(r:Int)<(rule:Int):=by omega
    have cv:=dF hp;clear hp bg
    cases ends with
    |false=>
     go_enter_defers Tryz.func128,Tryz.ntmps128
     go_wp2_with fail;refine(Js _).mono ?_;rintro e w1 ⟨rfl,hw⟩;rw[←hw];clear hw;go_wp2_with fail;have ao:=qH;have y9:=x9;have ze:=uw;(try clear y0 y1 y2 y3);rw[←jy];have bW:Hid ((false||false)=false):=by show _=_;rfl
     go_loopw [34] (fun si wr=>∃(k:Nat)(P:Bs),k≤n∧si=.int .i64 k∧oV B b (Lib.byteCells (l++P)) wr∧KB B b w wr∧iM wr w.heap.size A n c t∧P.length≤80*Tm.aA (t.kids.take k)∧aW aO op t.kids 0 false=P++aW aO op (t.kids.drop k) k false) (fun i _=>n-(intOf i).toNat)
     case atStart=>exact⟨0,[],zl _,rfl,by rw[List.append_nil];exact x9,uw,ao,by simp,rfl⟩
     case round=>
      obtain⟨k,P,hk,rfl,a7,aw,Np,a8,ba⟩:=hrel;have Ef:=Hd a7;have BK:=Hd aw;have kP:=Hd Np;have qR:=Hd a8;have Eh:=Hd ba;have cj:=aw.below.size;clear a7 aw Np a8 ba
      by_cases bj:k<n
      ·have b0:=Hd bj;obtain⟨G,Y⟩:∃G,t.kids[k]?=some G:=⟨_,gG (by have:=HN.out;omega)⟩;have aa:G∈t.kids:=mG Y
       have aF:Hid (t.kids.drop k=G::t.kids.drop (k+1)):=by
        obtain⟨hj,bi⟩:=gE.1 Y;show _=_;rw[List.drop_eq_getElem_cons hj,bi]
       have Ei:=Hd (Tm.j4 Y)
       have jr:Hid (G.size≤N∧G.lI (d+1)∧Tm.aA (t.kids.take k)+G.size+1≤t.size):=by
        have h1:=Tm.aM aa;have h2:=mg.out;have h3:=Tm.eH t.kids (k+1);rw[Ei]at h3;exact⟨by omega,EZ G aa,by omega⟩
       have aS:Below B w0 wr:=nH.trans BK.below
       rcases HV.kids with h9|⟨g,off,rfl,hg,hrow⟩
       ·rw[h9]at Y;simp at Y
       obtain⟨q0,q1,q2,A2,c2,q3,aQ⟩:=(hrow.get Y).open;have ag:g<B:=by rw[hB];exact hg
       have jm:=Hd aQ;obtain⟨n2,az⟩:=aj G.kids.length;rw[←az]at q3;rw[show off+4*k=off+k*4 from by omega]at q0 q1 q2 q3;have kU:=Hd az
       have HQ:Hid (∀W,Below B w0 W→W.cell? ⟨g,off+k*4,none⟩=some (.int .i64 G.op)∧W.cell? ⟨g,off+k*4+1,none⟩=some (.int .i64 G.num)∧W.cell? ⟨g,off+k*4+2,none⟩=some (.string G.name)∧W.cell? ⟨g,off+k*4+3,none⟩=some (.slice A2 n2 c2)∧g<W.heap.size):=fun W hW=>
        ⟨by rw[hW.cell (p:=⟨g,_,none⟩) ag];exact q0,by rw[hW.cell (p:=⟨g,_,none⟩) ag];exact q1,by rw[hW.cell (p:=⟨g,_,none⟩) ag];exact q2,by rw[hW.cell (p:=⟨g,_,none⟩) ag];exact q3,by have:=hW.size;omega⟩
       have aP:Hid (Fa N G 6=true):=Oc G aa;have kJ:=Hd aS;clear Y aa hrow q0 q1 q2 q3 aQ az hg ag aS;have cb:(0:Int)≤(k:Int):=by omega
       have aE:(k:Int)<(n:Int):=by omega
       obtain⟨lb,ax⟩:=aj (decide (k+1=n));have Ku:((k:Int)==(n:Int)-1)=lb:=by rw[ax];by_cases h:k+1=n<;>simp[h]<;>omega
       have zD:Hid ((t.kids.drop (k+1)).isEmpty=lb):=by show _=_;rw[ax,Bool.eq_iff_iff,List.isEmpty_iff,List.drop_eq_nil_iff,decide_eq_true_iff,←HN];constructor<;>intro h<;>omega
       clear ax;have Ic:Hid (∀W,Calls Tryz.prog 163 #[.int .i64 op,.int .i64 (k:Nat)] W fun e w'=>e=.returned (.int .i64 (aX op k:Nat))∧w'=W):=fun W=>(Ci op k W (by omega) (fun h=>by have:=H8 h;omega)).mono fun _ _ ⟨h1,h2⟩=>⟨h1,h2.symm⟩;obtain⟨wk,af⟩:=aj (wr.alloc (.cells #[.int .i64 G.op,.int .i64 G.num,.string G.name,.slice A2 n2 c2] 64));have ai:=dz af;have bd:=kP.below ai kP.lt;have hkk:iM wk wr.heap.size A2 n2 c2 G:=by rw[af];exact eu wr _
       have a6:oV B b (Lib.byteCells (l++P)) wk:=oV.keep Ef ai;have RZ:KB B b w wk:=BK.trans (KB.of_below ai (by have:=p9.out;omega));have b6:=oV.lt Ef;have R8:wr.heap.size≠b:=by omega
       have Ie:=Hd af;have Oa:=Hd bd;have ar:=Hd hkk;have aJ:=Hd a6;have Bg:=Hd RZ;have ci:=RZ.below.size;obtain⟨q0,q1,q2,q3,q4⟩:=HQ wr kJ;have ay:=kP.lt;have y0:=kP.c0;have y1:=kP.c1;have y2:=kP.c2;have y3:=kP.c3;rw[←gy]at y0;clear af ai bd hkk a6 RZ
       by_cases Bh:k=0
       ·subst Bh;have Zn:((0:Int)==(n:Int)-1)=lb:=Ku;rw[Nat.zero_mul,Nat.add_zero]at q0 q1 q2 q3;go_wp2_with fail;obtain⟨wd,hwd⟩:=aj wk.drew;have I:Below wk.heap.size wk wd:=by rw[hwd];exact(Br _ _).drew
        have D:=Oa.below I Oa.lt;have iO:=ar.below I ar.lt;have OX:=Hd (oV.keep aJ I);have Ig:=Hd (Bg.trans (KB.of_below I (by have:=Bg.below.size;omega)));have OO:=Hd D;have Dy:=Hd hwd;refine aL 15 (by kernel_rfl) (by kernel_rfl) ?_;rw[←Ie,←Dy];(try clear y0 y1 y2 y3 q0 q1 q2 q3 q4 ay);have y0:=D.c0;have y1:=D.c1;have y2:=D.c2;have y3:=D.c3;rw[←gy]at y0;have z0:=iO.c0;have z1:=iO.c1;have z2:=iO.c2;have z3:=iO.c3;clear D iO hwd I;simp only[List.take_succ_cons,List.take_zero,List.drop_succ_cons,List.drop_zero]
        repeat still_step
        still_call (Ic _)
        (with_reducible refine jT rfl rfl ?_);with_reducible refine jT rfl rfl ?_
        iterate 6 (with_reducible refine rW ?Nq ?_;case Nq=>kernel_rfl)
        (with_reducible refine wpStill_step (fun K hK=>?_));go_simp;(with_reducible refine hK _ ?_);clear hK K;refine wpStill_nil ?_;go_wp2_with fail;have O:=nH.trans Ig.below;have J:=ih G (aX op 0) false (d+1) (l++P) A2 c2 wd jr.1 (by rw[show aX op 0=6 by rw[bf];simp[aX]];exact aP) jr.2.1 (jm) O OX (by have:=ab.out;have:=qR.out;have:=jr.2.2; simp;omega) (by have:=oH op 0;omega);unfold Tm.val at J;rw[←kU]at J;have qm:=Hd J;clear J O;refine qm.mono ?_;rintro e w8 ⟨rfl,sN,kL⟩;have BM:=Hd (OO.kb kL ae);have BN:=Hd sN;have BP:=Hd (Ig.trans kL);clear sN kL y0 y1 y2 y3 z0 z1 z2 z3;go_wp2_with fail
        go_roundw
        case rel=>
         have hsl:=eY bB G (aX op 0) false (d+1) jr.2.1;refine⟨0+1,P++nU aO G (aX op 0) false,by omega,rfl,?_,BP,BM,?_,?_⟩
         ·have h9:=BN.out;rw[List.append_assoc]at h9;exact h9
         ·have h1:=qR.out;have h2:Tm.aA (t.kids.take (0+1))=Tm.aA (t.kids.take 0)+G.size:=Ei;have h3:=jM op;simp only[List.length_append];omega
         ·rw[Eh,aF,aW,zD,iP rfl];simp
        case measure=>first|(simp[intOf];done)|(simp[intOf];omega)
       ·have R9:=Hd Bh;have cd:(0:Int)<(k:Int):=by omega
        obtain⟨SG,Lh⟩:∃SG:ByteArray,SG=⟨(iy op).toArray⟩:=⟨_,rfl⟩;have AX:=Hd (fun W=>sS op W);rw[←Lh]at AX;have b7:SG.size≤3:=by rw[Lh,Om];exact nD op
        have Ib:∀W,(Op.stringOp .add (⟨#[32]⟩:ByteArray) SG).run Tryz.prog W=.ok (.string (⟨#[32]⟩++SG)) W:=fun W=>run_string_add_sum W _ _ (by show 1+SG.size≤_;omega);obtain⟨S,hS⟩:∃S:ByteArray,S=⟨#[32]⟩++SG++⟨#[32]⟩:=⟨_,rfl⟩;have LK:Hid (S.size≤5):=by show _≤_;rw[hS,Bf,Bf];show 1+SG.size+1≤5;omega
        have Gq:Hid (S.data.toList=lG op):=by show _=_;rw[hS,Lh];simp[ByteArray.data_append,lG]
        have uP:∀W,(Op.stringOp .add ((⟨#[32]⟩:ByteArray)++SG) ⟨#[32]⟩).run Tryz.prog W=.ok (.string S) W:=fun W=>by rw[hS];exact run_string_add_sum W _ _ (by rw[Bf];show 1+SG.size+1≤_;omega)
        clear Bh hS Lh;go_wp2_with fail;rw[←Ie];refine(AX _).mono ?_;rintro e w' ⟨rfl,hw⟩;rw[←hw];clear hw y0 y1 y2 y3 q0 q1 q2 q3 q4 ay;go_wp2_with fail;refine(bS B b (l++P) S wk aJ (by have:=ab.out;have:=qR.out;have:=jr.2.2;have:=LK.out;simp;omega) (by have:=p9.out;omega)).mono ?_;rintro e w7 ⟨rfl,xP,nS⟩;rw[Gq]at xP;have E5:=Hd (Oa.kb nS ae);have Ih:=Hd (ar.kb nS R8);have Jt:=Hd xP;have tQ:=Hd (Bg.trans nS);have ch:=tQ.below.size;clear xP nS;go_wp2_with fail;obtain⟨wd,hwd⟩:=aj w7.drew;have I:Below w7.heap.size w7 wd:=by rw[hwd];exact(Br _ _).drew
        have D:=E5.below I E5.lt;have iO:=Ih.below I Ih.lt;have OX:=Hd (oV.keep Jt I);have Ig:=Hd (tQ.trans (KB.of_below I (by have:=tQ.below.size;omega)));have OO:=Hd D;have Dy:=Hd hwd;refine aL 15 (by kernel_rfl) (by kernel_rfl) ?_;rw[←Dy];(try clear y0 y1 y2 y3 q0 q1 q2 q3 q4 ay);have y0:=D.c0;have y1:=D.c1;have y2:=D.c2;have y3:=D.c3;rw[←gy]at y0;have z0:=iO.c0;have z1:=iO.c1;have z2:=iO.c2;have z3:=iO.c3;clear D iO hwd I;simp only[List.take_succ_cons,List.take_zero,List.drop_succ_cons,List.drop_zero]
        repeat still_step
        still_call (Ic _)
        (with_reducible refine jT rfl rfl ?_);with_reducible refine jT rfl rfl ?_
        iterate 6 (with_reducible refine rW ?Nq ?_;case Nq=>kernel_rfl)
        (with_reducible refine wpStill_step (fun K hK=>?_));go_simp;(with_reducible refine hK _ ?_);clear hK K;refine wpStill_nil ?_;go_wp2_with fail;have O:=nH.trans Ig.below;have J:=ih G (aX op k) false (d+1) (l++P++lG op) A2 c2 wd jr.1 (by rw[show aX op k=6 by rw[bf];simp[aX]];exact aP) jr.2.1 (jm) O OX (by have:=ab.out;have:=qR.out;have:=jr.2.2;have:=jM op;simp;omega) (by have:=oH op k;omega);unfold Tm.val at J;rw[←kU]at J;have qm:=Hd J;clear J O;refine qm.mono ?_;rintro e w8 ⟨rfl,sN,kL⟩;have BM:=Hd (OO.kb kL ae);have BN:=Hd sN;have BP:=Hd (Ig.trans kL);clear sN kL y0 y1 y2 y3 z0 z1 z2 z3;go_wp2_with fail
        go_roundw
        case rel=>
         have hsl:=eY bB G (aX op k) false (d+1) jr.2.1;refine⟨k+1,P++lG op++nU aO G (aX op k) false,by omega,by go_num,?_,BP,BM,?_,?_⟩
         ·have h9:=BN.out;simp only[List.append_assoc]at h9⊢;exact h9
         ·have h1:=qR.out;have h2:Tm.aA (t.kids.take (k+1))=Tm.aA (t.kids.take k)+G.size:=Ei;have h3:=jM op;simp only[List.length_append];omega
         ·rw[Eh,aF,aW,zD,iN R9.out];simp
        case measure=>first|(simp[intOf];done)|(simp[intOf];omega)
      ·have cc:k=n:=by omega
       have aE:¬(k:Int)<(n:Int):=by omega
       have Zm:Hid (aW aO op t.kids 0 false=P):=by show _=_;rw[Eh,List.drop_eq_nil_of_le (by have:=HN.out;omega),aW,List.append_nil]
       go_wp2_with fail;exact jE HF (by rw[wX false (by rw[wY,vJ])];simp only[Bool.false_eq_true,if_false,Bool.false_or];rw[←gy,z8 vM.1 vM.2.1 vM.2.2.1 vM.2.2.2.1 vM.2.2.2.2.1 vM.2.2.2.2.2,Zm];first|done|simp) Ef BK _ (by first|exact Or.inl rfl|exact Or.inr rfl)
    |true=>
     go_enter_defers Tryz.func128,Tryz.ntmps128
     go_wp2_with fail;refine(Js _).mono ?_;rintro e w1 ⟨rfl,hw⟩;rw[←hw];clear hw;go_wp2_with fail;have ao:=qH;have y9:=x9;have ze:=uw;(try clear y0 y1 y2 y3);rw[←jy];have bW:Hid ((false||true)=true):=by show _=_;rfl
     go_loopw [34] (fun si wr=>∃(k:Nat)(P:Bs),k≤n∧si=.int .i64 k∧oV B b (Lib.byteCells (l++P)) wr∧KB B b w wr∧iM wr w.heap.size A n c t∧P.length≤80*Tm.aA (t.kids.take k)∧aW aO op t.kids 0 true=P++aW aO op (t.kids.drop k) k true) (fun i _=>n-(intOf i).toNat)
     case atStart=>exact⟨0,[],zl _,rfl,by rw[List.append_nil];exact x9,uw,ao,by simp,rfl⟩
     case round=>
      obtain⟨k,P,hk,rfl,a7,aw,Np,a8,ba⟩:=hrel;have Ef:=Hd a7;have BK:=Hd aw;have kP:=Hd Np;have qR:=Hd a8;have Eh:=Hd ba;have cj:=aw.below.size;clear a7 aw Np a8 ba
      by_cases bj:k<n
      ·have b0:=Hd bj;obtain⟨G,Y⟩:∃G,t.kids[k]?=some G:=⟨_,gG (by have:=HN.out;omega)⟩;have aa:G∈t.kids:=mG Y
       have aF:Hid (t.kids.drop k=G::t.kids.drop (k+1)):=by
        obtain⟨hj,bi⟩:=gE.1 Y;show _=_;rw[List.drop_eq_getElem_cons hj,bi]
       have Ei:=Hd (Tm.j4 Y)
       have jr:Hid (G.size≤N∧G.lI (d+1)∧Tm.aA (t.kids.take k)+G.size+1≤t.size):=by
        have h1:=Tm.aM aa;have h2:=mg.out;have h3:=Tm.eH t.kids (k+1);rw[Ei]at h3;exact⟨by omega,EZ G aa,by omega⟩
       have aS:Below B w0 wr:=nH.trans BK.below
       rcases HV.kids with h9|⟨g,off,rfl,hg,hrow⟩
       ·rw[h9]at Y;simp at Y
       obtain⟨q0,q1,q2,A2,c2,q3,aQ⟩:=(hrow.get Y).open;have ag:g<B:=by rw[hB];exact hg
       have jm:=Hd aQ;obtain⟨n2,az⟩:=aj G.kids.length;rw[←az]at q3;rw[show off+4*k=off+k*4 from by omega]at q0 q1 q2 q3;have kU:=Hd az
       have HQ:Hid (∀W,Below B w0 W→W.cell? ⟨g,off+k*4,none⟩=some (.int .i64 G.op)∧W.cell? ⟨g,off+k*4+1,none⟩=some (.int .i64 G.num)∧W.cell? ⟨g,off+k*4+2,none⟩=some (.string G.name)∧W.cell? ⟨g,off+k*4+3,none⟩=some (.slice A2 n2 c2)∧g<W.heap.size):=fun W hW=>
        ⟨by rw[hW.cell (p:=⟨g,_,none⟩) ag];exact q0,by rw[hW.cell (p:=⟨g,_,none⟩) ag];exact q1,by rw[hW.cell (p:=⟨g,_,none⟩) ag];exact q2,by rw[hW.cell (p:=⟨g,_,none⟩) ag];exact q3,by have:=hW.size;omega⟩
       have aP:Hid (Fa N G 6=true):=Oc G aa;have kJ:=Hd aS;clear Y aa hrow q0 q1 q2 q3 aQ az hg ag aS;have cb:(0:Int)≤(k:Int):=by omega
       have aE:(k:Int)<(n:Int):=by omega
       obtain⟨lb,ax⟩:=aj (decide (k+1=n));have Ku:((k:Int)==(n:Int)-1)=lb:=by rw[ax];by_cases h:k+1=n<;>simp[h]<;>omega
       have zD:Hid ((t.kids.drop (k+1)).isEmpty=lb):=by show _=_;rw[ax,Bool.eq_iff_iff,List.isEmpty_iff,List.drop_eq_nil_iff,decide_eq_true_iff,←HN];constructor<;>intro h<;>omega
       clear ax;have Ic:Hid (∀W,Calls Tryz.prog 163 #[.int .i64 op,.int .i64 (k:Nat)] W fun e w'=>e=.returned (.int .i64 (aX op k:Nat))∧w'=W):=fun W=>(Ci op k W (by omega) (fun h=>by have:=H8 h;omega)).mono fun _ _ ⟨h1,h2⟩=>⟨h1,h2.symm⟩;obtain⟨wk,af⟩:=aj (wr.alloc (.cells #[.int .i64 G.op,.int .i64 G.num,.string G.name,.slice A2 n2 c2] 64));have ai:=dz af;have bd:=kP.below ai kP.lt;have hkk:iM wk wr.heap.size A2 n2 c2 G:=by rw[af];exact eu wr _
       have a6:oV B b (Lib.byteCells (l++P)) wk:=oV.keep Ef ai;have RZ:KB B b w wk:=BK.trans (KB.of_below ai (by have:=p9.out;omega));have b6:=oV.lt Ef;have R8:wr.heap.size≠b:=by omega
       have Ie:=Hd af;have Oa:=Hd bd;have ar:=Hd hkk;have aJ:=Hd a6;have Bg:=Hd RZ;have ci:=RZ.below.size;obtain⟨q0,q1,q2,q3,q4⟩:=HQ wr kJ;have ay:=kP.lt;have y0:=kP.c0;have y1:=kP.c1;have y2:=kP.c2;have y3:=kP.c3;rw[←gy]at y0;clear af ai bd hkk a6 RZ
       by_cases Bh:k=0
       ·subst Bh;have Zn:((0:Int)==(n:Int)-1)=lb:=Ku;rw[Nat.zero_mul,Nat.add_zero]at q0 q1 q2 q3;go_wp2_with fail;obtain⟨wd,hwd⟩:=aj wk.drew;have I:Below wk.heap.size wk wd:=by rw[hwd];exact(Br _ _).drew
        have D:=Oa.below I Oa.lt;have iO:=ar.below I ar.lt;have OX:=Hd (oV.keep aJ I);have Ig:=Hd (Bg.trans (KB.of_below I (by have:=Bg.below.size;omega)));have OO:=Hd D;have Dy:=Hd hwd;refine aL 15 (by kernel_rfl) (by kernel_rfl) ?_;rw[←Ie,←Dy];(try clear y0 y1 y2 y3 q0 q1 q2 q3 q4 ay);have y0:=D.c0;have y1:=D.c1;have y2:=D.c2;have y3:=D.c3;rw[←gy]at y0;have z0:=iO.c0;have z1:=iO.c1;have z2:=iO.c2;have z3:=iO.c3;clear D iO hwd I;simp only[List.take_succ_cons,List.take_zero,List.drop_succ_cons,List.drop_zero]
        repeat still_step
        still_call (Ic _)
        repeat still_step
        refine wpStill_nil ?_;go_wp2_with fail;rw[Zn];have O:=nH.trans Ig.below;have J:=ih G (aX op 0) lb (d+1) (l++P) A2 c2 wd jr.1 (by rw[show aX op 0=6 by rw[bf];simp[aX]];exact aP) jr.2.1 (jm) O OX (by have:=ab.out;have:=qR.out;have:=jr.2.2; simp;omega) (by have:=oH op 0;omega);unfold Tm.val at J;rw[←kU]at J;have qm:=Hd J;clear J O;refine qm.mono ?_;rintro e w8 ⟨rfl,sN,kL⟩;have BM:=Hd (OO.kb kL ae);have BN:=Hd sN;have BP:=Hd (Ig.trans kL);clear sN kL y0 y1 y2 y3 z0 z1 z2 z3;go_wp2_with fail
        go_roundw
        case rel=>
         have hsl:=eY bB G (aX op 0) lb (d+1) jr.2.1;refine⟨0+1,P++nU aO G (aX op 0) lb,by omega,rfl,?_,BP,BM,?_,?_⟩
         ·have h9:=BN.out;rw[List.append_assoc]at h9;exact h9
         ·have h1:=qR.out;have h2:Tm.aA (t.kids.take (0+1))=Tm.aA (t.kids.take 0)+G.size:=Ei;have h3:=jM op;simp only[List.length_append];omega
         ·rw[Eh,aF,aW,zD,iP rfl];simp
        case measure=>first|(simp[intOf];done)|(simp[intOf];omega)
       ·have R9:=Hd Bh;have cd:(0:Int)<(k:Int):=by omega
        obtain⟨SG,Lh⟩:∃SG:ByteArray,SG=⟨(iy op).toArray⟩:=⟨_,rfl⟩;have AX:=Hd (fun W=>sS op W);rw[←Lh]at AX;have b7:SG.size≤3:=by rw[Lh,Om];exact nD op
        have Ib:∀W,(Op.stringOp .add (⟨#[32]⟩:ByteArray) SG).run Tryz.prog W=.ok (.string (⟨#[32]⟩++SG)) W:=fun W=>run_string_add_sum W _ _ (by show 1+SG.size≤_;omega);obtain⟨S,hS⟩:∃S:ByteArray,S=⟨#[32]⟩++SG++⟨#[32]⟩:=⟨_,rfl⟩;have LK:Hid (S.size≤5):=by show _≤_;rw[hS,Bf,Bf];show 1+SG.size+1≤5;omega
        have Gq:Hid (S.data.toList=lG op):=by show _=_;rw[hS,Lh];simp[ByteArray.data_append,lG]
        have uP:∀W,(Op.stringOp .add ((⟨#[32]⟩:ByteArray)++SG) ⟨#[32]⟩).run Tryz.prog W=.ok (.string S) W:=fun W=>by rw[hS];exact run_string_add_sum W _ _ (by rw[Bf];show 1+SG.size+1≤_;omega)
        clear Bh hS Lh;go_wp2_with fail;rw[←Ie];refine(AX _).mono ?_;rintro e w' ⟨rfl,hw⟩;rw[←hw];clear hw y0 y1 y2 y3 q0 q1 q2 q3 q4 ay;go_wp2_with fail;refine(bS B b (l++P) S wk aJ (by have:=ab.out;have:=qR.out;have:=jr.2.2;have:=LK.out;simp;omega) (by have:=p9.out;omega)).mono ?_;rintro e w7 ⟨rfl,xP,nS⟩;rw[Gq]at xP;have E5:=Hd (Oa.kb nS ae);have Ih:=Hd (ar.kb nS R8);have Jt:=Hd xP;have tQ:=Hd (Bg.trans nS);have ch:=tQ.below.size;clear xP nS;go_wp2_with fail;obtain⟨wd,hwd⟩:=aj w7.drew;have I:Below w7.heap.size w7 wd:=by rw[hwd];exact(Br _ _).drew
        have D:=E5.below I E5.lt;have iO:=Ih.below I Ih.lt;have OX:=Hd (oV.keep Jt I);have Ig:=Hd (tQ.trans (KB.of_below I (by have:=tQ.below.size;omega)));have OO:=Hd D;have Dy:=Hd hwd;refine aL 15 (by kernel_rfl) (by kernel_rfl) ?_;rw[←Dy];(try clear y0 y1 y2 y3 q0 q1 q2 q3 q4 ay);have y0:=D.c0;have y1:=D.c1;have y2:=D.c2;have y3:=D.c3;rw[←gy]at y0;have z0:=iO.c0;have z1:=iO.c1;have z2:=iO.c2;have z3:=iO.c3;clear D iO hwd I;simp only[List.take_succ_cons,List.take_zero,List.drop_succ_cons,List.drop_zero]
        repeat still_step
        still_call (Ic _)
        repeat still_step
        refine wpStill_nil ?_;go_wp2_with fail;rw[Ku];have O:=nH.trans Ig.below;have J:=ih G (aX op k) lb (d+1) (l++P++lG op) A2 c2 wd jr.1 (by rw[show aX op k=6 by rw[bf];simp[aX]];exact aP) jr.2.1 (jm) O OX (by have:=ab.out;have:=qR.out;have:=jr.2.2;have:=jM op;simp;omega) (by have:=oH op k;omega);unfold Tm.val at J;rw[←kU]at J;have qm:=Hd J;clear J O;refine qm.mono ?_;rintro e w8 ⟨rfl,sN,kL⟩;have BM:=Hd (OO.kb kL ae);have BN:=Hd sN;have BP:=Hd (Ig.trans kL);clear sN kL y0 y1 y2 y3 z0 z1 z2 z3;go_wp2_with fail
        go_roundw
        case rel=>
         have hsl:=eY bB G (aX op k) lb (d+1) jr.2.1;refine⟨k+1,P++lG op++nU aO G (aX op k) lb,by omega,by go_num,?_,BP,BM,?_,?_⟩
         ·have h9:=BN.out;simp only[List.append_assoc]at h9⊢;exact h9
         ·have h1:=qR.out;have h2:Tm.aA (t.kids.take (k+1))=Tm.aA (t.kids.take k)+G.size:=Ei;have h3:=jM op;simp only[List.length_append];omega
         ·rw[Eh,aF,aW,zD,iN R9.out];simp
        case measure=>first|(simp[intOf];done)|(simp[intOf];omega)
      ·have cc:k=n:=by omega
       have aE:¬(k:Int)<(n:Int):=by omega
       have Zm:Hid (aW aO op t.kids 0 true=P):=by show _=_;rw[Eh,List.drop_eq_nil_of_le (by have:=HN.out;omega),aW,List.append_nil]
       go_wp2_with fail;exact jE HF (by rw[wX false (by rw[wY,vJ])];simp only[Bool.false_eq_true,if_false,Bool.false_or];rw[←gy,z8 vM.1 vM.2.1 vM.2.2.1 vM.2.2.2.1 vM.2.2.2.2.1 vM.2.2.2.2.2,Zm];first|done|simp) Ef BK _ (by first|exact Or.inl rfl|exact Or.inr rfl)
theorem Ej(t:Tm)(A:Option Addr)(c:Nat)(w:World)(aP:Fa t.size t 0=true)(hV:zx w A c t)(hsz:t.size≤9000000)(hT:je w) :
 Calls Tryz.prog 97 #[t.val A c] w fun e w'=>e=.returned (.tuple #[.string ⟨(aH t).1.toArray⟩,.int .i64 (aH t).2])∧Below w.heap.size w w':=by
 have aS:=Hd aP;clear aP;obtain⟨n,hn⟩:=aj t.kids.length;obtain⟨wb,ae⟩:=aj (w.alloc (.cells #[.int .i64 t.op,.int .i64 t.num,.string t.name,.slice A n c] 64));have hb1:=dz ae;have aF:iM wb w.heap.size A n c t:=by rw[ae];exact eu w _
 have bb:w.heap.size<wb.heap.size:=by rw[ae];simp
 have D:=DC t A c wb (hV.below hb1 rfl) hsz;unfold Tm.val at D⊢;rw[←hn]at D⊢;obtain⟨ck,F6⟩:=ak t.check;rw[←F6]at D;obtain⟨R,hR⟩:=aj (aH t);rw[←hR];unfold aH at hR;rw[←F6]at hR;have HR:=Hd hR;have IC:=Hd D;have jy:=Hd ae;have aQ:=Hd hb1;have qH:=Hd aF;have HV:=Hd hV;have HT:=Hd hT;have HN:=Hd hn;clear D hR ae hb1 aF hV hT hn;go_in;go_wp2_with fail;rw[←jy];refine IC.mono ?_;rintro e w1 ⟨rfl,af⟩;have J:=qH.below af qH.lt;have O:=Hd (aQ.trans (af.mono (Nat.le_of_lt bb)));have bi:=af.size;have y0:=J.c0;have y1:=J.c1;have y2:=J.c2;have y3:=J.c3;have yJ:=Hd J;clear J af
 by_cases h0:ck=0
 ·have D:t.check=0:=by rw[←F6];exact h0
  have htl:=LY t.size t A c w1 (lr _) hsz (HV.below O rfl) (HT.below O);unfold Tm.val at htl;rw[←HN]at htl;obtain⟨tl,Zo⟩:=aj (iW t);rw[←Zo]at htl;have ao:=HR.out;rw[iN (fun h=>h h0),←Zo]at ao;have av:=Hd ao;have Tf:=Hd htl;have BQ:=Hd (nY D);subst h0;clear D htl Zo ao;go_wp2_with fail;refine Tf.mono ?_;rintro e w2 ⟨rfl,ag⟩;have G:=yJ.below ag yJ.lt;have bj:=ag.size;have a7:=O.size;have Y:=Hd (O.trans (ag.mono a7));clear y0 y1 y2 y3 ag;have y0:=G.c0;have y1:=G.c1;have y2:=G.c2;have y3:=G.c3;have FK:=Hd G;have bh:=G.lt;clear G
  cases tl with
  |false=>
   have bE:Hid (R=([],3)):=by show _=_;rw[av,iP rfl]
   go_wp2_with fail
   go_ret2
   rw[bE];exact⟨rfl,Y⟩
  |true=>
   obtain⟨w3,ai⟩:=aj (w2.alloc (.cells #[.pointer none,.slice none 0 0] 81));have az:=dz ai;have hI:oV w2.heap.size w2.heap.size (Lib.byteCells []) w3:=by rw[ai];exact Lib.fresh_isBuilder _ _ w2
   have I:=RY w2.heap.size w2.heap.size w2 rfl t.size t 0 true 1 [] A c w3 (lr _) aS BQ.1 (HV.below Y rfl) az hI (by have:=BQ.2;simp;omega) (by omega);unfold Tm.val at I;rw[←HN,List.nil_append]at I;have ax:=Hd ai;have ay:=Hd I;have hlen:=eY bB t 0 true 1 BQ.1;have bf:=BQ.2;obtain⟨S,hS⟩:=aj (nU aO t 0 true);rw[←hS]at ay hlen;have ar:=av.out;rw[iN (by decide),←hS]at ar;have aw:=Hd ar;clear ai az hI I hS ar;go_wp2_with fail;rw[←ax];refine ay.mono ?_;rintro e w4 ⟨rfl,aa,aJ⟩;have bd:=Hd aa;have Ju:=aJ.below
   have BS:Hid (Below w.heap.size w w4):=by
    refine Y.trans (Below.mono (B:=w2.heap.size) ?_ (Y.size));rw[ax]at Ju;exact(((Br _ _).alloc (lr _) _).trans Ju)
   have bk:=Ju.size;have Nr:=Tryz.Builder_Len w2.heap.size w2.heap.size (Lib.byteCells S) w4 aa;rw[Lib.byteCells_length]at Nr;have a6:=Hd Nr;have ab:=Tryz.Builder_String_any w2.heap.size w2.heap.size S w4 aa (by have:=(oV.lt aa).1;omega);have R_:=Hd ab;have a8:w.heap.size≤w2.heap.size:=Y.size;clear aa aJ Ju Nr ab y0 y1 y2 y3;go_wp2_with fail;refine a6.mono ?_;rintro e w5 ⟨rfl,gH⟩;subst gH
   by_cases h6:65536<S.length
   ·have bE:Hid (R=([],4)):=by show _=_;rw[aw,iP h6]
    have ba:(65536:Int)<(S.length:Int):=by omega
    go_wp2_with fail
    go_ret2
    rw[bE];exact⟨rfl,BS⟩
   ·have bE:Hid (R=(S,0)):=by show _=_;rw[aw,iN h6]
    have ba:¬(65536:Int)<(S.length:Int):=by omega
    go_wp2_with fail;refine R_.mono ?_;rintro e w6 ⟨rfl,aE⟩;have bZ:=Hd (BS.trans (aE.mono a8));clear aE;go_wp2_with fail
    go_ret2
    rw[bE];exact⟨rfl,bZ⟩
 ·have bE:Hid (R=([],ck)):=by show _=_;rw[HR,iP h0]
  have bg:(ck != 0)=true:=by simpa using h0
  clear h0;go_wp2_with fail
  go_ret2
  rw[bE];exact⟨rfl,O⟩
end Go.Proofs.YtkhoeoilamddaaaGreatDoor
