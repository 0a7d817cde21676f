/- Walk: ttext.put. -/
import Derived.Test.YtkhoeoilamddaaaGreatDoorYTrmI
namespace Go.Proofs.YtkhoeoilamddaaaGreatDoor
open Go.RowKit
set_option linter.unusedVariables false
set_option maxRecDepth 100000
set_option maxHeartbeats 16000000
theorem zZ(op:Int):bQ op≤8:=by
 unfold bQ
 iterate 8 (split;· omega)
 omega
def iM(w:World)(bx:Nat)(A:Option Addr)(n c:Nat)(t:Tm):Prop:=w.heap[bx]?=some (.cells #[.int .i64 t.op,.int .i64 t.num,.string t.name,.slice A n c] 64 (0,0))
section
variable {w w':World} {bx:Nat} {A:Option Addr} {n c:Nat} {t:Tm}
theorem iM.c0(h:iM w bx A n c t):w.cell? ⟨bx,0,none⟩=some (.int .i64 t.op):=by rw[cR w bx 0 _ _ (0,0) h];rfl
theorem iM.c1(h:iM w bx A n c t):w.cell? ⟨bx,1,none⟩=some (.int .i64 t.num):=by rw[cR w bx 1 _ _ (0,0) h];rfl
theorem iM.c2(h:iM w bx A n c t):w.cell? ⟨bx,2,none⟩=some (.string t.name):=by rw[cR w bx 2 _ _ (0,0) h];rfl
theorem iM.c3(h:iM w bx A n c t):w.cell? ⟨bx,3,none⟩=some (.slice A n c):=by rw[cR w bx 3 _ _ (0,0) h];rfl
theorem iM.lt(h:iM w bx A n c t):bx<w.heap.size:=by
 rcases Nat.lt_or_ge bx w.heap.size with hlt|hge
 ·exact hlt
 ·unfold iM at h;rw[Array.getElem?_eq_none hge]at h;cases h
theorem iM.kb{B b:Nat}(h:iM w bx A n c t)(k:KB B b w w')(hb:bx≠b):iM w' bx A n c t:=by
 refine(k.keep bx h.lt hb fun cs fz h2=>?_).trans h;rw[show w.heap[bx]?=_ from h]at h2
 injection h2 with h2
 injection h2 with _ h3 _
 exact absurd h3 (by decide)
theorem iM.below{B:Nat}(h:iM w bx A n c t)(k:Below B w w')(hb:bx<B):iM w' bx A n c t:=(k.block bx hb).trans h
end
def o_(B b:Nat)(L:Bs)(w:World)(e:Ending)(w':World):Prop:=e=.returned (.tuple #[])∧oV B b (Lib.byteCells L) w'∧KB B b w w'
def dfr(b:Nat):Deferred:={target:=.fn (.func 161) #[],args:=#[.pointer (some ⟨b,0,none⟩),.int .u8 41]}
theorem nG{B b:Nat}{w w2:World}{L M:Bs}{tmps:Array Value}{F:Ending→World→Prop}(hF:F=o_ B b M w)(hM:M=L++[41])(hI:oV B b (Lib.byteCells L) w2)(hk:KB B b w w2)(hlen:L.length+1≤140737488355328)(hBw:B≤w2.heap.size)(ex:Exit)(hex:ex=.normal∨ex=.ret) :
 bodyPostD Tryz.prog Tryz.f128 F ex {tmps:=tmps,defers:=[dfr b]} w2:=by
 subst hF hM
 have key:Leaves Tryz.prog Tryz.f128 tmps (o_ B b (L++[41]) w) [dfr b] .returning w2:=by
  refine leaves_cons (f:=161) (args:=#[.pointer (some ⟨b,0,none⟩),.int .u8 41]) (by simp) (by simp[go_sem]) ?_;refine(aaG .returning B b L 41 w2 hI hlen hBw).mono ?_;rintro e u' w'' ⟨rfl,rfl,h1,h2⟩;exact⟨_,results_none rfl _ _ _,rfl,h1,hk.trans h2⟩
 rcases hex with rfl|rfl
 ·exact key
 ·exact key
theorem jE{B b:Nat}{w w2:World}{L M:Bs}{tmps:Array Value}{F:Ending→World→Prop}(hF:F=o_ B b M w)(hM:M=L)(hI:oV B b (Lib.byteCells L) w2)(hk:KB B b w w2)(ex:Exit)(hex:ex=.normal∨ex=.ret) :
 bodyPostD Tryz.prog Tryz.f128 F ex {tmps:=tmps,defers:=[]} w2:=by
 subst hF hM;have key:Leaves Tryz.prog Tryz.f128 tmps (o_ B b M w) [] .returning w2:=⟨_,results_none rfl _ _ _,rfl,hI,hk⟩
 rcases hex with rfl|rfl
 ·exact key
 ·exact key
theorem wX{l X S:Bs}(p:Bool)(h:S=uj p X):l++S=if p then(l++[40]++X)++[41]else l++X:=by
 subst h;cases p<;>simp[uj]
theorem ix0(W:World):(Instr.index 224 (Value.agg #[.string ⟨#[105,102,32]⟩,.string ⟨#[32,116,104,101,110,32]⟩,.string ⟨#[32,101,108,115,101,32]⟩]) (.int .i64 0)).run Tryz.prog W=.ok (.string ⟨#[105,102,32]⟩) W:=by kernel_rfl
theorem ix1(W:World):(Instr.index 224 (Value.agg #[.string ⟨#[105,102,32]⟩,.string ⟨#[32,116,104,101,110,32]⟩,.string ⟨#[32,101,108,115,101,32]⟩]) (.int .i64 1)).run Tryz.prog W=.ok (.string ⟨#[32,116,104,101,110,32]⟩) W:=by kernel_rfl
theorem ix2(W:World):(Instr.index 224 (Value.agg #[.string ⟨#[105,102,32]⟩,.string ⟨#[32,116,104,101,110,32]⟩,.string ⟨#[32,101,108,115,101,32]⟩]) (.int .i64 2)).run Tryz.prog W=.ok (.string ⟨#[32,101,108,115,101,32]⟩) W:=by kernel_rfl
theorem aL{id:Nat}{Q:Exit→Act→World→Prop}{a:Act}{w:World}{l:List Oper}(n:Nat)(hm:Tryz.prog.follows .mixedOrders=true)(hB:Region.lexTailB .any l.toArray n=true)
 (h:wpStill Tryz.prog l.toArray w.drew (fun a'=>wpList Tryz.prog l.toArray Q (l.drop n) a' w.drew) (l.take n) a):(Code.region id l.toArray true).wp Tryz.prog Q a w:=wp_region_still_tail n hm hB h
theorem oH(op:Int)(i:Nat):aX op i≤10+i:=by
 unfold aX
 iterate 7 (split;· omega)
 omega
theorem jM(op:Int):(lG op).length≤5:=by
 have:=nD op;unfold lG;simp;omega
theorem rW{P:Program}{ops:Array Oper}{w:World}{Q:Act→Prop}{a:Act}{o:Oper}{rest:List Oper}(hn:Region.wanted o (yielded ops a.tmps)=false)(h:wpStill P ops w Q rest (a.put o.dst undef)):wpStill P ops w Q (o::rest) a:=by
 unfold wpStill;rw[iN (by rw[hn];decide)];exact h
theorem jT{P:Program}{ops:Array Oper}{w:World}{Q:Act→Prop}{a:Act}{o:Oper}{rest:List Oper}{x:Operand}(hg:o.guard=none)(ho:o.op=.move x)(h:wpStill P ops w Q rest (a.put o.dst (a.eval x))):wpStill P ops w Q (o::rest) a:=by
 unfold wpStill;rw[iP (by simp[Region.wanted,hg])];unfold Oper.still execOp;simp only[ho];exact⟨rfl,h⟩
theorem Jr(op:Int):(cu op).2≤64:=by
 unfold cu
 iterate 5 (split;· simp)
 simp
theorem Bf(a b:ByteArray):(a++b).size=a.size+b.size:=by simp
theorem Om(l:Bs):(⟨l.toArray⟩:ByteArray).size=l.length:=by simp[ByteArray.size]
theorem Le{n:Int}{s b5 b18 bj:Bs}:fD aO 1 n s b5 b18 bj=aO n:=by simp[fD,mq]
theorem H_{n:Int}{s b5 b18 bj:Bs}:fD aO 2 n s b5 b18 bj=if n=1 then[116,114,117,101]else[102,97,108,115,101]:=by simp[fD,mq]
theorem Lf{n:Int}{s b5 b18 bj:Bs}:fD aO 3 n s b5 b18 bj=s:=by simp[fD,mq]
theorem RV{n:Int}{s b5 b18 bj:Bs}:fD aO 4 n s b5 b18 bj=[110,101,120,116,40]++s++[41]:=by simp[fD,mq]
theorem RX{n:Int}{s b5 b18 bj:Bs}:fD aO 5 n s b5 b18 bj=[33]++b5:=by simp[fD]
theorem Ia{n:Int}{s b5 b18 bj:Bs}:fD aO 18 n s b5 b18 bj=b18:=by simp[fD]
theorem z8{op n:Int}{s b5 b18 bj:Bs}(h1:op≠1)(h2:op≠2)(h3:op≠3)(h4:op≠4)(h5:op≠5)(h18:op≠18):fD aO op n s b5 b18 bj=bj:=by simp[fD,h1,h2,h3,h4,h5,h18]
theorem Lg{B b g:Nat}{w wA w1:World}{L:List Value}{A:Option Addr}{n c:Nat}{t:Tm}{op:Int}(hi:oV B b L w1)(hk:KB B b wA w1)(HX:Hid (iM wA g A n c t))(HK:Hid (KB B b w wA))(hne:g≠b)(HO:Hid (op=t.op)) :
 Hid (iM w1 g A n c t)∧Hid (oV B b L w1)∧Hid (KB B b w w1)∧w.heap.size≤w1.heap.size∧w1.cell? ⟨g,0,none⟩=some (.int .i64 op)∧w1.cell? ⟨g,1,none⟩=some (.int .i64 t.num)∧w1.cell? ⟨g,2,none⟩=some (.string t.name)∧w1.cell? ⟨g,3,none⟩=some (.slice A n c):=by
 have hx:=HX.kb hk hne;have hK:=HK.trans hk;exact⟨hx,hi,hK,hK.below.size,by rw[HO];exact hx.c0,hx.c1,hx.c2,hx.c3⟩
theorem RY(B b:Nat)(w0:World)(hB:B=w0.heap.size):∀(N:Nat)(t:Tm)(rule:Nat)(ends:Bool)(d:Nat)(l:Bs)(A:Option Addr)(c:Nat)(w:World),t.size≤N→t.lI d→zx w0 A c t→Below B w0 w→oV B b (Lib.byteCells l) w→l.length+80*t.size≤1000000000→rule≤10000000 →
 Calls Tryz.prog 128 #[.pointer (some ⟨b,0,none⟩),t.val A c,.int .i64 (rule:Nat),.bool ends] w (o_ B b (l++nU aO t rule ends) w):=by
 intro N
 induction N with
 |zero=>
  intro t rule ends d l A c w hN;cases t;rw[Tm.size]at hN;omega
 |succ N ih=>
  intro t rule ends d l A c w hN hok hV hbel hI hlen ajP;obtain⟨n,hn⟩:=aj t.kids.length;obtain⟨wI,hwr,dS⟩:=jI hok;have hwk:=jJ hwr;obtain⟨r,hr⟩:=aj (bQ t.op);have hr8:r≤8:=by rw[hr];exact zZ _
  have Js:=Hd (fun W=>LZ t.op W);rw[←hr]at Js;have hbw:B≤w.heap.size:=by rw[hB];exact hbel.size
  have hbb:=oV.lt hI;obtain⟨wb,hwb⟩:=aj (w.alloc (.cells #[.int .i64 t.op,.int .i64 t.num,.string t.name,.slice A n c] 64));have hb1:=dz hwb;have hsb:wb.heap.size=w.heap.size+1:=by rw[hwb];simp
  have hbx:iM wb w.heap.size A n c t:=by rw[hwb];exact eu w _
  have hIb:oV B b (Lib.byteCells l) wb:=oV.keep hI hb1;have hkb:KB B b w wb:=KB.of_below hb1 hbw;have hbne:w.heap.size≠b:=by omega
  have hsl:t.name.data.toList.length=t.name.size:=by simp
  have jy:=Hd hwb;have qH:=Hd hbx;have x9:=Hd hIb;have uw:=Hd hkb;have p9:=Hd hsb;have HV:=Hd hV;have HN:=Hd hn;have HR:=Hd hr;have yj:=Hd hwk;have EZ:=Hd dS;have HSL:=Hd hsl;have nH:=Hd hbel;have hts:1≤t.size:=by cases t;rw[Tm.size];omega
  have HLEN:=Hd hlen;have mg:Hid (t.size=1+Tm.aA t.kids∧t.size≤N+1):=⟨by cases t;rw[Tm.size];rfl,hN⟩;obtain⟨F,hF⟩:=aj (o_ B b (l++nU aO t rule ends) w);have HF:=Hd hF;have wY:=Hd (QK t rule ends);obtain⟨op,hop⟩:=aj t.op;have gy:=Hd hop;unfold Tm.val;rw[←hn,←hF];rw[←hop]at Js jy⊢;clear hok hV hbel hI hlen hwr dS hwk hr hwb hb1 hsb hbx hIb hkb hsl hn hF hN hop
  by_cases hc3:op=3
  ·subst hc3
   by_cases hp:r<rule
   ·have vJ:Hid (pB t rule ends=true):=by show _=_;unfold pB;rw[←HR,decide_eq_true hp];rfl
    have hp':(r:Int)<(rule:Int):=by omega
    clear hp
    go_enter_defers Tryz.func128,Tryz.ntmps128
    go_wp2_with fail;refine(Js _).mono ?_;rintro e w1 ⟨rfl,hw⟩;rw[←hw];clear hw;go_wp2_with fail;have HXB:=qH;have y9:=x9;have ze:=uw;rw[←jy];refine(lT B b (l) 40 wb x9 (by have:=HLEN.out;simp;omega) (by have:=p9.out;omega)).mono ?_;rintro e w1 ⟨rfl,hi1,hk1⟩;(try clear y0 y1 y2 y3);obtain⟨yJ,HI1,xO,hz1,y0,y1,y2,y3⟩:=Lg hi1 hk1 HXB uw hbne gy;clear hi1 hk1;go_wp2_with fail;refine(bS B b (l++[40]) t.name w1 HI1 (by have:=HLEN.out;have:=HSL.out;have:=yj.2.2.1;simp;omega) (by have:=p9.out;omega)).mono ?_;rintro e w2 ⟨rfl,hi2,hk2⟩;(try clear y0 y1 y2 y3);obtain⟨FK,HI2,J8,hz2,y0,y1,y2,y3⟩:=Lg hi2 hk2 yJ xO hbne gy;clear hi2 hk2;go_wp2_with fail;exact nG HF (by rw[wX true (by rw[wY,vJ])];simp only[if_true];rw[←gy,Lf];first|done|simp) HI2 J8 (by have:=HLEN.out;have:=HSL.out;have:=yj.2.2.1;simp;omega) (by have:=p9.out;omega) _ (by first|exact Or.inl rfl|exact Or.inr rfl)
   ·have vJ:Hid (pB t rule ends=false):=by show _=_;unfold pB;rw[←HR,dF hp,←gy,dF (by decide)];rfl
    have hp':¬(r:Int)<(rule:Int):=by omega
    clear hp
    go_enter_defers Tryz.func128,Tryz.ntmps128
    go_wp2_with fail;refine(Js _).mono ?_;rintro e w1 ⟨rfl,hw⟩;rw[←hw];clear hw;go_wp2_with fail;have HXB:=qH;have y9:=x9;have ze:=uw;rw[←jy];refine(bS B b (l) t.name wb x9 (by have:=HLEN.out;have:=HSL.out;have:=yj.2.2.1;simp;omega) (by have:=p9.out;omega)).mono ?_;rintro e w1 ⟨rfl,hi1,hk1⟩;(try clear y0 y1 y2 y3);obtain⟨yJ,HI1,xO,hz1,y0,y1,y2,y3⟩:=Lg hi1 hk1 HXB uw hbne gy;clear hi1 hk1;go_wp2_with fail;exact jE HF (by rw[wX false (by rw[wY,vJ])];simp only[Bool.false_eq_true,if_false];rw[←gy,Lf];first|done|simp) HI1 xO _ (by first|exact Or.inl rfl|exact Or.inr rfl)
  by_cases hc1:op=1
  ·subst hc1;have Da:=Hd (yj.2.1 gy.symm);have hns:=bB t.num Da.1 Da.2
   by_cases hp:r<rule
   ·have vJ:Hid (pB t rule ends=true):=by show _=_;unfold pB;rw[←HR,decide_eq_true hp];rfl
    have hp':(r:Int)<(rule:Int):=by omega
    clear hp
    go_enter_defers Tryz.func128,Tryz.ntmps128
    go_wp2_with fail;refine(Js _).mono ?_;rintro e w1 ⟨rfl,hw⟩;rw[←hw];clear hw;go_wp2_with fail;have HXB:=qH;have y9:=x9;have ze:=uw;rw[←jy];refine(lT B b (l) 40 wb x9 (by have:=HLEN.out;simp;omega) (by have:=p9.out;omega)).mono ?_;rintro e w1 ⟨rfl,hi1,hk1⟩;(try clear y0 y1 y2 y3);obtain⟨yJ,HI1,xO,hz1,y0,y1,y2,y3⟩:=Lg hi1 hk1 HXB uw hbne gy;clear hi1 hk1;go_wp2_with fail;refine(uq t.num w1 (by have:=Da.out;omega) (by have:=Da.out;omega)).mono ?_;rintro e w2 ⟨rfl,hb2⟩;have FK:=Hd (yJ.below hb2 yJ.lt);have HI2:=Hd (oV.keep HI1 hb2);have J8:=Hd (xO.trans (KB.of_below hb2 (by have:=p9.out;omega)));have hz2:=J8.below.size;clear hb2;(try clear y0 y1 y2 y3);have y0:=FK.c0;have y1:=FK.c1;have y2:=FK.c2;have y3:=FK.c3;rw[←gy]at y0;go_wp2_with fail;refine(bS B b (l++[40]) ⟨(aO t.num).toArray⟩ w2 HI2 (by rw[Om];have:=HLEN.out;have:=HSL.out;have:=yj.2.2.1;simp;omega) (by have:=p9.out;omega)).mono ?_;rintro e w3 ⟨rfl,hi3,hk3⟩;(try clear y0 y1 y2 y3);obtain⟨Oh,HI3,HK3,hz3,y0,y1,y2,y3⟩:=Lg hi3 hk3 FK J8 hbne gy;clear hi3 hk3;go_wp2_with fail
    exact nG HF (by rw[wX true (by rw[wY,vJ])];simp only[if_true];rw[←gy,Le];first|done|simp) HI3 HK3 (by have:=HLEN.out;have:=HSL.out;have:=yj.2.2.1;simp;omega) (by have:=p9.out;omega) _ (by first|exact Or.inl rfl|exact Or.inr rfl)
   ·have vJ:Hid (pB t rule ends=false):=by show _=_;unfold pB;rw[←HR,dF hp,←gy,dF (by decide)];rfl
    have hp':¬(r:Int)<(rule:Int):=by omega
    clear hp
    go_enter_defers Tryz.func128,Tryz.ntmps128
    go_wp2_with fail;refine(Js _).mono ?_;rintro e w1 ⟨rfl,hw⟩;rw[←hw];clear hw;go_wp2_with fail;have HXB:=qH;have y9:=x9;have ze:=uw;rw[←jy];refine(uq t.num wb (by have:=Da.out;omega) (by have:=Da.out;omega)).mono ?_;rintro e w1 ⟨rfl,hb1⟩;have yJ:=Hd (HXB.below hb1 HXB.lt);have HI1:=Hd (oV.keep x9 hb1);have xO:=Hd (uw.trans (KB.of_below hb1 (by have:=p9.out;omega)));have hz1:=xO.below.size;clear hb1;(try clear y0 y1 y2 y3);have y0:=yJ.c0;have y1:=yJ.c1;have y2:=yJ.c2;have y3:=yJ.c3;rw[←gy]at y0;go_wp2_with fail;refine(bS B b (l) ⟨(aO t.num).toArray⟩ w1 HI1 (by rw[Om];have:=HLEN.out;have:=HSL.out;have:=yj.2.2.1;simp;omega) (by have:=p9.out;omega)).mono ?_;rintro e w2 ⟨rfl,hi2,hk2⟩;(try clear y0 y1 y2 y3);obtain⟨FK,HI2,J8,hz2,y0,y1,y2,y3⟩:=Lg hi2 hk2 yJ xO hbne gy;clear hi2 hk2;go_wp2_with fail;exact jE HF (by rw[wX false (by rw[wY,vJ])];simp only[Bool.false_eq_true,if_false];rw[←gy,Le];first|done|simp) HI2 J8 _ (by first|exact Or.inl rfl|exact Or.inr rfl)
  by_cases hc2:op=2
  ·subst hc2
   by_cases hn1:t.num=1
   ·have Iz:=Hd hn1;have hb1:(t.num==1)=true:=by simpa using hn1
    clear hn1
    by_cases hp:r<rule
    ·have vJ:Hid (pB t rule ends=true):=by show _=_;unfold pB;rw[←HR,decide_eq_true hp];rfl
     have hp':(r:Int)<(rule:Int):=by omega
     clear hp
     go_enter_defers Tryz.func128,Tryz.ntmps128
     go_wp2_with fail;refine(Js _).mono ?_;rintro e w1 ⟨rfl,hw⟩;rw[←hw];clear hw;go_wp2_with fail;have HXB:=qH;have y9:=x9;have ze:=uw;rw[←jy];refine(lT B b (l) 40 wb x9 (by have:=HLEN.out;simp;omega) (by have:=p9.out;omega)).mono ?_;rintro e w1 ⟨rfl,hi1,hk1⟩;(try clear y0 y1 y2 y3);obtain⟨yJ,HI1,xO,hz1,y0,y1,y2,y3⟩:=Lg hi1 hk1 HXB uw hbne gy;clear hi1 hk1;go_wp2_with fail;refine(bS B b (l++[40]) ⟨#[116,114,117,101]⟩ w1 HI1 (by rw[Om];have:=HLEN.out;have:=HSL.out;have:=yj.2.2.1;simp;omega) (by have:=p9.out;omega)).mono ?_;rintro e w2 ⟨rfl,hi2,hk2⟩;(try clear y0 y1 y2 y3);obtain⟨FK,HI2,J8,hz2,y0,y1,y2,y3⟩:=Lg hi2 hk2 yJ xO hbne gy;clear hi2 hk2;go_wp2_with fail;exact nG HF (by rw[wX true (by rw[wY,vJ])];simp only[if_true];rw[←gy,H_,iP Iz.out];first|done|simp) HI2 J8 (by have:=HLEN.out;have:=HSL.out;have:=yj.2.2.1;simp;omega) (by have:=p9.out;omega) _ (by first|exact Or.inl rfl|exact Or.inr rfl)
    ·have vJ:Hid (pB t rule ends=false):=by show _=_;unfold pB;rw[←HR,dF hp,←gy,dF (by decide)];rfl
     have hp':¬(r:Int)<(rule:Int):=by omega
     clear hp
     go_enter_defers Tryz.func128,Tryz.ntmps128
     go_wp2_with fail;refine(Js _).mono ?_;rintro e w1 ⟨rfl,hw⟩;rw[←hw];clear hw;go_wp2_with fail;have HXB:=qH;have y9:=x9;have ze:=uw;rw[←jy];refine(bS B b (l) ⟨#[116,114,117,101]⟩ wb x9 (by rw[Om];have:=HLEN.out;have:=HSL.out;have:=yj.2.2.1;simp;omega) (by have:=p9.out;omega)).mono ?_;rintro e w1 ⟨rfl,hi1,hk1⟩;(try clear y0 y1 y2 y3);obtain⟨yJ,HI1,xO,hz1,y0,y1,y2,y3⟩:=Lg hi1 hk1 HXB uw hbne gy;clear hi1 hk1;go_wp2_with fail;exact jE HF (by rw[wX false (by rw[wY,vJ])];simp only[Bool.false_eq_true,if_false];rw[←gy,H_,iP Iz.out];first|done|simp) HI1 xO _ (by first|exact Or.inl rfl|exact Or.inr rfl)
   ·have Iz:=Hd hn1;have hb1:(t.num==1)=false:=by simpa using hn1
    clear hn1
    by_cases hp:r<rule
    ·have vJ:Hid (pB t rule ends=true):=by show _=_;unfold pB;rw[←HR,decide_eq_true hp];rfl
     have hp':(r:Int)<(rule:Int):=by omega
     clear hp
     go_enter_defers Tryz.func128,Tryz.ntmps128
     go_wp2_with fail;refine(Js _).mono ?_;rintro e w1 ⟨rfl,hw⟩;rw[←hw];clear hw;go_wp2_with fail;have HXB:=qH;have y9:=x9;have ze:=uw;rw[←jy];refine(lT B b (l) 40 wb x9 (by have:=HLEN.out;simp;omega) (by have:=p9.out;omega)).mono ?_;rintro e w1 ⟨rfl,hi1,hk1⟩;(try clear y0 y1 y2 y3);obtain⟨yJ,HI1,xO,hz1,y0,y1,y2,y3⟩:=Lg hi1 hk1 HXB uw hbne gy;clear hi1 hk1;go_wp2_with fail;refine(bS B b (l++[40]) ⟨#[102,97,108,115,101]⟩ w1 HI1 (by rw[Om];have:=HLEN.out;have:=HSL.out;have:=yj.2.2.1;simp;omega) (by have:=p9.out;omega)).mono ?_;rintro e w2 ⟨rfl,hi2,hk2⟩;(try clear y0 y1 y2 y3);obtain⟨FK,HI2,J8,hz2,y0,y1,y2,y3⟩:=Lg hi2 hk2 yJ xO hbne gy;clear hi2 hk2;go_wp2_with fail;exact nG HF (by rw[wX true (by rw[wY,vJ])];simp only[if_true];rw[←gy,H_,iN Iz.out];first|done|simp) HI2 J8 (by have:=HLEN.out;have:=HSL.out;have:=yj.2.2.1;simp;omega) (by have:=p9.out;omega) _ (by first|exact Or.inl rfl|exact Or.inr rfl)
    ·have vJ:Hid (pB t rule ends=false):=by show _=_;unfold pB;rw[←HR,dF hp,←gy,dF (by decide)];rfl
     have hp':¬(r:Int)<(rule:Int):=by omega
     clear hp
     go_enter_defers Tryz.func128,Tryz.ntmps128
     go_wp2_with fail;refine(Js _).mono ?_;rintro e w1 ⟨rfl,hw⟩;rw[←hw];clear hw;go_wp2_with fail;have HXB:=qH;have y9:=x9;have ze:=uw;rw[←jy];refine(bS B b (l) ⟨#[102,97,108,115,101]⟩ wb x9 (by rw[Om];have:=HLEN.out;have:=HSL.out;have:=yj.2.2.1;simp;omega) (by have:=p9.out;omega)).mono ?_;rintro e w1 ⟨rfl,hi1,hk1⟩;(try clear y0 y1 y2 y3);obtain⟨yJ,HI1,xO,hz1,y0,y1,y2,y3⟩:=Lg hi1 hk1 HXB uw hbne gy;clear hi1 hk1;go_wp2_with fail;exact jE HF (by rw[wX false (by rw[wY,vJ])];simp only[Bool.false_eq_true,if_false];rw[←gy,H_,iN Iz.out];first|done|simp) HI1 xO _ (by first|exact Or.inl rfl|exact Or.inr rfl)
  by_cases hc4:op=4
  ·subst hc4;have alo:=yj.2.2.1;have Ib:∀W,(Op.stringOp .add (⟨#[110,101,120,116,40]⟩:ByteArray) t.name).run Tryz.prog W=.ok (.string (⟨#[110,101,120,116,40]⟩++t.name)) W:=fun W=>run_string_add_sum W _ _ (by show 5+t.name.size≤_;omega);obtain⟨S,hS⟩:∃S:ByteArray,S=⟨#[110,101,120,116,40]⟩++t.name++⟨#[41]⟩:=⟨_,rfl⟩;have LK:Hid (S.size=6+t.name.size):=by show _=_;rw[hS,Bf,Bf];show 5+t.name.size+1=_;omega
   have Gq:Hid (S.data.toList=[110,101,120,116,40]++t.name.data.toList++[41]):=by show _=_;rw[hS];simp[ByteArray.data_append]
   have uP:∀W,(Op.stringOp .add ((⟨#[110,101,120,116,40]⟩:ByteArray)++t.name) ⟨#[41]⟩).run Tryz.prog W=.ok (.string S) W:=fun W=>by rw[hS];exact run_string_add_sum W _ _ (by rw[Bf];show 5+t.name.size+1≤_;omega)
   clear hS
   by_cases hp:r<rule
   ·have vJ:Hid (pB t rule ends=true):=by show _=_;unfold pB;rw[←HR,decide_eq_true hp];rfl
    have hp':(r:Int)<(rule:Int):=by omega
    clear hp
    go_enter_defers Tryz.func128,Tryz.ntmps128
    go_wp2_with fail;refine(Js _).mono ?_;rintro e w1 ⟨rfl,hw⟩;rw[←hw];clear hw;go_wp2_with fail;have HXB:=qH;have y9:=x9;have ze:=uw;rw[←jy];refine(lT B b (l) 40 wb x9 (by have:=HLEN.out;simp;omega) (by have:=p9.out;omega)).mono ?_;rintro e w1 ⟨rfl,hi1,hk1⟩;(try clear y0 y1 y2 y3);obtain⟨yJ,HI1,xO,hz1,y0,y1,y2,y3⟩:=Lg hi1 hk1 HXB uw hbne gy;clear hi1 hk1;go_wp2_with fail;refine(bS B b (l++[40]) S w1 HI1 (by have:=LK.out;have:=HLEN.out;have:=HSL.out;have:=yj.2.2.1;simp;omega) (by have:=p9.out;omega)).mono ?_;rintro e w2 ⟨rfl,hi2,hk2⟩;(try clear y0 y1 y2 y3);obtain⟨FK,HI2,J8,hz2,y0,y1,y2,y3⟩:=Lg hi2 hk2 yJ xO hbne gy;clear hi2 hk2;go_wp2_with fail;exact nG HF (by rw[wX true (by rw[wY,vJ])];simp only[if_true];rw[←gy,RV,Gq];first|done|simp) HI2 J8 (by have:=LK.out;have:=HLEN.out;have:=HSL.out;have:=yj.2.2.1;simp;omega) (by have:=p9.out;omega) _ (by first|exact Or.inl rfl|exact Or.inr rfl)
   ·have vJ:Hid (pB t rule ends=false):=by show _=_;unfold pB;rw[←HR,dF hp,←gy,dF (by decide)];rfl
    have hp':¬(r:Int)<(rule:Int):=by omega
    clear hp
    go_enter_defers Tryz.func128,Tryz.ntmps128
    go_wp2_with fail;refine(Js _).mono ?_;rintro e w1 ⟨rfl,hw⟩;rw[←hw];clear hw;go_wp2_with fail;have HXB:=qH;have y9:=x9;have ze:=uw;rw[←jy];refine(bS B b (l) S wb x9 (by have:=LK.out;have:=HLEN.out;have:=HSL.out;have:=yj.2.2.1;simp;omega) (by have:=p9.out;omega)).mono ?_;rintro e w1 ⟨rfl,hi1,hk1⟩;(try clear y0 y1 y2 y3);obtain⟨yJ,HI1,xO,hz1,y0,y1,y2,y3⟩:=Lg hi1 hk1 HXB uw hbne gy;clear hi1 hk1;go_wp2_with fail;exact jE HF (by rw[wX false (by rw[wY,vJ])];simp only[Bool.false_eq_true,if_false];rw[←gy,RV,Gq];first|done|simp) HI1 xO _ (by first|exact Or.inl rfl|exact Or.inr rfl)
  by_cases hc5:op=5
  ·subst hc5
   have hn1:n=1:=by
    have h1:=yj.2.2.2.1;have h2:=yj.2.2.2.2.1;rw[←gy,←HN]at h1 h2;have e1:cu 5=(1,1):=by simp[cu]
    rw[e1]at h1 h2;simp only at h1 h2;omega
   obtain⟨kd,hkd⟩:∃kd,t.kids[0]?=some kd:=⟨_,gG (by have:=HN.out;omega)⟩
   have Qd:Hid (t.kids=[kd]):=by
    show _=_;have hl:t.kids.length=1:=by have:=HN.out;omega
    match hk:t.kids,hl with
    |[x],_=>rw[hk]at hkd;simp at hkd;rw[hkd]
   have hmem:kd∈t.kids:=mG hkd
   have jr:Hid (kd.size≤N∧kd.lI (d+1)∧80*kd.size+80≤80*t.size):=by
    have h1:=Tm.aM hmem;have h2:=mg.out;exact⟨by omega,EZ kd hmem,by omega⟩
   rcases HV.kids with h9|⟨g,off,rfl,hg,hrow⟩
   ·rw[h9]at hkd;simp at hkd
   obtain⟨q0,q1,q2,A2,c2,q3,hV2⟩:=(hrow.get hkd).open;have jm:=Hd hV2;obtain⟨n2,kU⟩:=ak kd.kids.length;rw[←kU]at q3
   have HQ:Hid (∀W,Below B w0 W→W.cell? ⟨g,off,none⟩=some (.int .i64 kd.op)∧W.cell? ⟨g,off+1,none⟩=some (.int .i64 kd.num)∧W.cell? ⟨g,off+2,none⟩=some (.string kd.name)∧W.cell? ⟨g,off+3,none⟩=some (.slice A2 n2 c2)∧g<W.heap.size):=fun W hW=>by
    have hgB:g<B:=by rw[hB];exact hg
    exact⟨by rw[hW.cell (p:=⟨g,_,none⟩) hgB];exact q0,by rw[hW.cell (p:=⟨g,_,none⟩) hgB];exact q1,by rw[hW.cell (p:=⟨g,_,none⟩) hgB];exact q2,by rw[hW.cell (p:=⟨g,_,none⟩) hgB];exact q3,by have:=hW.size;omega⟩
   clear hkd hmem hrow q0 q1 q2 q3 hV2 hg;have hni:(0:Int)<(n:Int):=by omega
   clear hn1;have hcm:=HV.cap
   by_cases hp:r<rule
   ·have vJ:Hid (pB t rule ends=true):=by show _=_;unfold pB;rw[←HR,decide_eq_true hp];rfl
    have hp':(r:Int)<(rule:Int):=by omega
    clear hp
    go_enter_defers Tryz.func128,Tryz.ntmps128
    go_wp2_with fail;refine(Js _).mono ?_;rintro e w1 ⟨rfl,hw⟩;rw[←hw];clear hw;go_wp2_with fail;have HXB:=qH;have y9:=x9;have ze:=uw;rw[←jy];refine(lT B b (l) 40 wb x9 (by have:=HLEN.out;simp;omega) (by have:=p9.out;omega)).mono ?_;rintro e w1 ⟨rfl,hi1,hk1⟩;(try clear y0 y1 y2 y3);obtain⟨yJ,HI1,xO,hz1,y0,y1,y2,y3⟩:=Lg hi1 hk1 HXB uw hbne gy;clear hi1 hk1;go_wp2_with fail;refine(lT B b (l++[40]) 33 w1 HI1 (by have:=HLEN.out;simp;omega) (by have:=p9.out;omega)).mono ?_;rintro e w2 ⟨rfl,hi2,hk2⟩;(try clear y0 y1 y2 y3);obtain⟨FK,HI2,J8,hz2,y0,y1,y2,y3⟩:=Lg hi2 hk2 yJ xO hbne gy;clear hi2 hk2;have Zl:=nH.trans J8.below;obtain⟨q0,q1,q2,q3,q4⟩:=HQ w2 Zl;have ah_:=Hd Zl;clear Zl;go_wp2_with fail;have hih:=ih kd 4 true (d+1) (l++[40]++[33]) A2 c2 w2 jr.1 jr.2.1 jm ah_ HI2 (by have:=HLEN.out;have:=jr.2.2;simp;omega) (by omega);unfold Tm.val at hih;rw[←kU]at hih;have qm:=Hd hih;clear hih;refine qm.mono ?_;rintro e w3 ⟨rfl,hi3,hk3⟩;have HI3:=Hd hi3;have HK3:=Hd (J8.trans hk3);have hz3:=HK3.below.size;clear hi3 hk3 y0 y1 y2 y3 q0 q1 q2 q3;have hsl:=eY bB kd 4 true (d+1) jr.2.1;have hks:=jr.2.2;go_wp2_with fail
    exact nG HF (by rw[wX true (by rw[wY,vJ])];simp only[if_true,Bool.true_or];rw[←gy,RX,Qd,nX];first|done|simp) HI3 HK3 (by have:=HLEN.out;simp;omega) (by have:=p9.out;omega) _ (by first|exact Or.inl rfl|exact Or.inr rfl)
   ·have vJ:Hid (pB t rule ends=false):=by show _=_;unfold pB;rw[←HR,dF hp,←gy,dF (by decide)];rfl
    have hp':¬(r:Int)<(rule:Int):=by omega
    clear hp
    go_enter_defers Tryz.func128,Tryz.ntmps128
    go_wp2_with fail;refine(Js _).mono ?_;rintro e w1 ⟨rfl,hw⟩;rw[←hw];clear hw;go_wp2_with fail;have HXB:=qH;have y9:=x9;have ze:=uw;rw[←jy];refine(lT B b (l) 33 wb x9 (by have:=HLEN.out;simp;omega) (by have:=p9.out;omega)).mono ?_;rintro e w1 ⟨rfl,hi1,hk1⟩;(try clear y0 y1 y2 y3);obtain⟨yJ,HI1,xO,hz1,y0,y1,y2,y3⟩:=Lg hi1 hk1 HXB uw hbne gy;clear hi1 hk1;have Zl:=nH.trans xO.below;obtain⟨q0,q1,q2,q3,q4⟩:=HQ w1 Zl;have ah_:=Hd Zl;clear Zl;go_wp2_with fail;have hih:=ih kd 4 ends (d+1) (l++[33]) A2 c2 w1 jr.1 jr.2.1 jm ah_ HI1 (by have:=HLEN.out;have:=jr.2.2;simp;omega) (by omega);unfold Tm.val at hih;rw[←kU]at hih;have qm:=Hd hih;clear hih;refine qm.mono ?_;rintro e w2 ⟨rfl,hi2,hk2⟩;have HI2:=Hd hi2;have J8:=Hd (xO.trans hk2);have hz2:=J8.below.size;clear hi2 hk2 y0 y1 y2 y3 q0 q1 q2 q3;have hsl:=eY bB kd 4 ends (d+1) jr.2.1;have hks:=jr.2.2;go_wp2_with fail;exact jE HF (by rw[wX false (by rw[wY,vJ])];simp only[Bool.false_eq_true,if_false,Bool.false_or];rw[←gy,RX,Qd,nX];first|done|simp) HI2 J8 _ (by first|exact Or.inl rfl|exact Or.inr rfl)
  by_cases hc18:op=18
  ·subst hc18
   have hn3:n=3:=by
    have h1:=yj.2.2.2.1;have h2:=yj.2.2.2.2.1;rw[←gy,←HN]at h1 h2;have e1:cu 18=(3,3):=by simp[cu]
    rw[e1]at h1 h2;simp only at h1 h2;omega
   have al9:3≤n:=by omega
   have al_:n≤3:=by omega
   clear hn3;have hcm:=HV.cap
   by_cases hp:r<rule
   ·have vJ:Hid (pB t rule ends=true):=by show _=_;unfold pB;rw[←HR,decide_eq_true hp];rfl
    have hp':(r:Int)<(rule:Int):=by omega
    clear hp
    go_enter_defers Tryz.func128,Tryz.ntmps128
    go_wp2_with fail;refine(Js _).mono ?_;rintro e w1 ⟨rfl,hw⟩;rw[←hw];clear hw;go_wp2_with fail;have HXB:=qH;have y9:=x9;have ze:=uw;rw[←jy];refine(lT B b (l) 40 wb x9 (by have:=HLEN.out;simp;omega) (by have:=p9.out;omega)).mono ?_;rintro e w1 ⟨rfl,hi1,hk1⟩;(try clear y0 y1 y2 y3);obtain⟨yJ,HI1,xO,hz1,y0,y1,y2,y3⟩:=Lg hi1 hk1 HXB uw hbne gy;clear hi1 hk1;go_wp2_with fail;try clear y0 y1 y2 y3
    go_loopw [109] (fun si wr=>∃(k:Nat)(P:Bs),k≤3∧si=.int .i64 k∧oV B b (Lib.byteCells (l++[40]++P)) wr∧KB B b w wr∧iM wr w.heap.size A n c t∧P.length≤80*Tm.aA (t.kids.take k)∧iR aO t.kids 0=P++iR aO (t.kids.drop k) k) (fun i _=>3-(intOf i).toNat)
    case atStart=>exact⟨0,[],by omega,rfl,by rw[List.append_nil];exact HI1,xO,yJ,by simp,rfl⟩
    case round=>
     obtain⟨k,P,hk,rfl,hir,hkr,Np,hpl,hsi⟩:=hrel;have Ef:=Hd hir;have BK:=Hd hkr;have kP:=Hd Np;have qR:=Hd hpl;have Eh:=Hd hsi;have hzr:=hkr.below.size;clear hir hkr Np hpl hsi
     by_cases hlt:k<3
     ·have HLT:=Hd hlt;obtain⟨kd,hkd⟩:∃kd,t.kids[k]?=some kd:=⟨_,gG (by have:=HN.out;omega)⟩;have hmem:kd∈t.kids:=mG hkd
      have HDR:Hid (t.kids.drop k=kd::t.kids.drop (k+1)):=by
       obtain⟨hj,hj2⟩:=gE.1 hkd;show _=_;rw[List.drop_eq_getElem_cons hj,hj2]
      have Ei:=Hd (Tm.j4 hkd)
      have jr:Hid (kd.size≤N∧kd.lI (d+1)∧Tm.aA (t.kids.take k)+kd.size+1≤t.size):=by
       have h1:=Tm.aM hmem;have h2:=mg.out;have h3:=Tm.eH t.kids (k+1);rw[Ei]at h3;exact⟨by omega,EZ kd hmem,by omega⟩
      have hbr:Below B w0 wr:=nH.trans BK.below
      rcases HV.kids with h9|⟨g,off,rfl,hg,hrow⟩
      ·rw[h9]at hkd;simp at hkd
      obtain⟨q0,q1,q2,A2,c2,q3,hV2⟩:=(hrow.get hkd).open;have hgB:g<B:=by rw[hB];exact hg
      have jm:=Hd hV2;obtain⟨n2,hn2⟩:=aj kd.kids.length;rw[←hn2]at q3;rw[show off+4*k=off+k*4 from by omega]at q0 q1 q2 q3;have kU:=Hd hn2
      have HQ:Hid (∀W,Below B w0 W→W.cell? ⟨g,off+k*4,none⟩=some (.int .i64 kd.op)∧W.cell? ⟨g,off+k*4+1,none⟩=some (.int .i64 kd.num)∧W.cell? ⟨g,off+k*4+2,none⟩=some (.string kd.name)∧W.cell? ⟨g,off+k*4+3,none⟩=some (.slice A2 n2 c2)∧g<W.heap.size):=fun W hW=>
       ⟨by rw[hW.cell (p:=⟨g,_,none⟩) hgB];exact q0,by rw[hW.cell (p:=⟨g,_,none⟩) hgB];exact q1,by rw[hW.cell (p:=⟨g,_,none⟩) hgB];exact q2,by rw[hW.cell (p:=⟨g,_,none⟩) hgB];exact q3,by have:=hW.size;omega⟩
      have kJ:=Hd hbr;clear hkd hmem hrow q0 q1 q2 q3 hV2 hn2 hg hgB hbr;have hk0:(0:Int)≤(k:Int):=by omega
      have hk1:(k:Int)<(n:Int):=by omega
      have HIW:=Hd (Gl k);have hcase:k=0∨k=1∨k=2:=by omega
      rcases hcase with rfl|rfl|rfl
      ·have hix:=ix0;have y0:=kP.c0;have y1:=kP.c1;have y2:=kP.c2;have y3:=kP.c3;rw[←gy]at y0;go_wp2_with fail;refine(bS B b (l++[40]++P) ⟨#[105,102,32]⟩ wr Ef (by have:=HLEN.out;have:=qR.out;have:=jr.2.2;rw[Om];simp;omega) (by have:=p9.out;omega)).mono ?_;rintro e w7 ⟨rfl,xP,nS⟩;have hx7:=kP.kb nS hbne;have Jt:=Hd xP;have tQ:=Hd (BK.trans nS);have hz7:=tQ.below.size;clear y0 y1 y2 y3 xP nS;have y0:=hx7.c0;have y1:=hx7.c1;have y2:=hx7.c2;have y3:=hx7.c3;rw[←gy]at y0;have E5:=Hd hx7;have oI:=nH.trans tQ.below;obtain⟨q0,q1,q2,q3,q4⟩:=HQ w7 oI;have Db:=Hd oI;clear hx7 oI;rw[Nat.zero_mul,Nat.add_zero]at q0 q1 q2 q3;go_wp2_with fail;have hih:=ih kd 0 true (d+1) _ A2 c2 w7 jr.1 jr.2.1 jm Db Jt (by have:=HLEN.out;have:=qR.out;have:=jr.2.2;simp;omega) (by omega);unfold Tm.val at hih;rw[←kU]at hih;have qm:=Hd hih;clear hih;refine qm.mono ?_;rintro e w8 ⟨rfl,sN,kL⟩;have BM:=Hd (E5.kb kL hbne);have BN:=Hd sN;have BP:=Hd (tQ.trans kL);clear sN kL y0 y1 y2 y3 q0 q1 q2 q3;go_wp2_with fail
       go_roundw
       case rel=>
        have hsl:=eY bB kd 0 true (d+1) jr.2.1;refine⟨1,P++KH 0++nU aO kd 0 true,by omega,rfl,?_,BP,BM,?_,?_⟩
        ·have h9:=BN.out;simp only[List.append_assoc]at h9⊢;exact h9
        ·have h1:=qR.out;have h2:Tm.aA (t.kids.take 1)=Tm.aA (t.kids.take 0)+kd.size:=Ei;have h3:=HIW.out;rw[List.length_append,List.length_append];omega
        ·rw[Eh,HDR,iR];simp
       case measure=>first|(simp[intOf];done)|(simp[intOf];omega)
      ·have hix:=ix1;have y0:=kP.c0;have y1:=kP.c1;have y2:=kP.c2;have y3:=kP.c3;rw[←gy]at y0;go_wp2_with fail;refine(bS B b (l++[40]++P) ⟨#[32,116,104,101,110,32]⟩ wr Ef (by have:=HLEN.out;have:=qR.out;have:=jr.2.2;rw[Om];simp;omega) (by have:=p9.out;omega)).mono ?_;rintro e w7 ⟨rfl,xP,nS⟩;have hx7:=kP.kb nS hbne;have Jt:=Hd xP;have tQ:=Hd (BK.trans nS);have hz7:=tQ.below.size;clear y0 y1 y2 y3 xP nS;have y0:=hx7.c0;have y1:=hx7.c1;have y2:=hx7.c2;have y3:=hx7.c3;rw[←gy]at y0;have E5:=Hd hx7;have oI:=nH.trans tQ.below;obtain⟨q0,q1,q2,q3,q4⟩:=HQ w7 oI;have Db:=Hd oI;clear hx7 oI;rw[Nat.one_mul]at q0 q1 q2 q3;go_wp2_with fail;have hih:=ih kd 0 true (d+1) _ A2 c2 w7 jr.1 jr.2.1 jm Db Jt (by have:=HLEN.out;have:=qR.out;have:=jr.2.2;simp;omega) (by omega);unfold Tm.val at hih;rw[←kU]at hih;have qm:=Hd hih;clear hih;refine qm.mono ?_;rintro e w8 ⟨rfl,sN,kL⟩;have BM:=Hd (E5.kb kL hbne);have BN:=Hd sN;have BP:=Hd (tQ.trans kL);clear sN kL y0 y1 y2 y3 q0 q1 q2 q3;go_wp2_with fail
       go_roundw
       case rel=>
        have hsl:=eY bB kd 0 true (d+1) jr.2.1;refine⟨2,P++KH 1++nU aO kd 0 true,by omega,rfl,?_,BP,BM,?_,?_⟩
        ·have h9:=BN.out;simp only[List.append_assoc]at h9⊢;exact h9
        ·have h1:=qR.out;have h2:Tm.aA (t.kids.take 2)=Tm.aA (t.kids.take 1)+kd.size:=Ei;have h3:=HIW.out;rw[List.length_append,List.length_append];omega
        ·rw[Eh,HDR,iR];simp
       case measure=>first|(simp[intOf];done)|(simp[intOf];omega)
      ·have hix:=ix2;have y0:=kP.c0;have y1:=kP.c1;have y2:=kP.c2;have y3:=kP.c3;rw[←gy]at y0;go_wp2_with fail;refine(bS B b (l++[40]++P) ⟨#[32,101,108,115,101,32]⟩ wr Ef (by have:=HLEN.out;have:=qR.out;have:=jr.2.2;rw[Om];simp;omega) (by have:=p9.out;omega)).mono ?_;rintro e w7 ⟨rfl,xP,nS⟩;have hx7:=kP.kb nS hbne;have Jt:=Hd xP;have tQ:=Hd (BK.trans nS);have hz7:=tQ.below.size;clear y0 y1 y2 y3 xP nS;have y0:=hx7.c0;have y1:=hx7.c1;have y2:=hx7.c2;have y3:=hx7.c3;rw[←gy]at y0;have E5:=Hd hx7;have oI:=nH.trans tQ.below;obtain⟨q0,q1,q2,q3,q4⟩:=HQ w7 oI;have Db:=Hd oI;clear hx7 oI;rw[show 2*4=8 from rfl]at q0 q1 q2 q3;go_wp2_with fail;have hih:=ih kd 0 true (d+1) _ A2 c2 w7 jr.1 jr.2.1 jm Db Jt (by have:=HLEN.out;have:=qR.out;have:=jr.2.2;simp;omega) (by omega);unfold Tm.val at hih;rw[←kU]at hih;have qm:=Hd hih;clear hih;refine qm.mono ?_;rintro e w8 ⟨rfl,sN,kL⟩;have BM:=Hd (E5.kb kL hbne);have BN:=Hd sN;have BP:=Hd (tQ.trans kL);clear sN kL y0 y1 y2 y3 q0 q1 q2 q3;go_wp2_with fail
       go_roundw
       case rel=>
        have hsl:=eY bB kd 0 true (d+1) jr.2.1;refine⟨3,P++KH 2++nU aO kd 0 true,by omega,rfl,?_,BP,BM,?_,?_⟩
        ·have h9:=BN.out;simp only[List.append_assoc]at h9⊢;exact h9
        ·have h1:=qR.out;have h2:Tm.aA (t.kids.take 3)=Tm.aA (t.kids.take 2)+kd.size:=Ei;have h3:=HIW.out;rw[List.length_append,List.length_append];omega
        ·rw[Eh,HDR,iR];simp
       case measure=>first|(simp[intOf];done)|(simp[intOf];omega)
     ·have hk3:k=3:=by omega
      subst hk3;have Zm:Hid (iR aO t.kids 0=P):=by show _=_;rw[Eh,List.drop_eq_nil_of_le (by have:=HN.out;omega),iR,List.append_nil]
      go_wp2_with fail;exact nG HF (by rw[wX true (by rw[wY,vJ])];simp only[if_true];rw[←gy,Ia,Zm];first|done|simp) Ef BK (by have:=HLEN.out;have:=qR.out;have:=mg.out;have:=Tm.eH t.kids 3;simp;omega) (by have:=p9.out;omega) _ (by first|exact Or.inl rfl|exact Or.inr rfl)
   ·have hp':¬(r:Int)<(rule:Int):=by omega
    cases ends with
    |false=>
     have vJ:Hid (pB t rule false=true):=by show _=_;unfold pB;rw[←HR,dF hp,←gy];rfl
     go_enter_defers Tryz.func128,Tryz.ntmps128
     go_wp2_with fail;refine(Js _).mono ?_;rintro e w1 ⟨rfl,hw⟩;rw[←hw];clear hw;go_wp2_with fail;have HXB:=qH;have y9:=x9;have ze:=uw;rw[←jy];refine(lT B b (l) 40 wb x9 (by have:=HLEN.out;simp;omega) (by have:=p9.out;omega)).mono ?_;rintro e w1 ⟨rfl,hi1,hk1⟩;(try clear y0 y1 y2 y3);obtain⟨yJ,HI1,xO,hz1,y0,y1,y2,y3⟩:=Lg hi1 hk1 HXB uw hbne gy;clear hi1 hk1;go_wp2_with fail;try clear y0 y1 y2 y3
     go_loopw [109] (fun si wr=>∃(k:Nat)(P:Bs),k≤3∧si=.int .i64 k∧oV B b (Lib.byteCells (l++[40]++P)) wr∧KB B b w wr∧iM wr w.heap.size A n c t∧P.length≤80*Tm.aA (t.kids.take k)∧iR aO t.kids 0=P++iR aO (t.kids.drop k) k) (fun i _=>3-(intOf i).toNat)
     case atStart=>exact⟨0,[],by omega,rfl,by rw[List.append_nil];exact HI1,xO,yJ,by simp,rfl⟩
     case round=>
      obtain⟨k,P,hk,rfl,hir,hkr,Np,hpl,hsi⟩:=hrel;have Ef:=Hd hir;have BK:=Hd hkr;have kP:=Hd Np;have qR:=Hd hpl;have Eh:=Hd hsi;have hzr:=hkr.below.size;clear hir hkr Np hpl hsi
      by_cases hlt:k<3
      ·have HLT:=Hd hlt;obtain⟨kd,hkd⟩:∃kd,t.kids[k]?=some kd:=⟨_,gG (by have:=HN.out;omega)⟩;have hmem:kd∈t.kids:=mG hkd
       have HDR:Hid (t.kids.drop k=kd::t.kids.drop (k+1)):=by
        obtain⟨hj,hj2⟩:=gE.1 hkd;show _=_;rw[List.drop_eq_getElem_cons hj,hj2]
       have Ei:=Hd (Tm.j4 hkd)
       have jr:Hid (kd.size≤N∧kd.lI (d+1)∧Tm.aA (t.kids.take k)+kd.size+1≤t.size):=by
        have h1:=Tm.aM hmem;have h2:=mg.out;have h3:=Tm.eH t.kids (k+1);rw[Ei]at h3;exact⟨by omega,EZ kd hmem,by omega⟩
       have hbr:Below B w0 wr:=nH.trans BK.below
       rcases HV.kids with h9|⟨g,off,rfl,hg,hrow⟩
       ·rw[h9]at hkd;simp at hkd
       obtain⟨q0,q1,q2,A2,c2,q3,hV2⟩:=(hrow.get hkd).open;have hgB:g<B:=by rw[hB];exact hg
       have jm:=Hd hV2;obtain⟨n2,hn2⟩:=aj kd.kids.length;rw[←hn2]at q3;rw[show off+4*k=off+k*4 from by omega]at q0 q1 q2 q3;have kU:=Hd hn2
       have HQ:Hid (∀W,Below B w0 W→W.cell? ⟨g,off+k*4,none⟩=some (.int .i64 kd.op)∧W.cell? ⟨g,off+k*4+1,none⟩=some (.int .i64 kd.num)∧W.cell? ⟨g,off+k*4+2,none⟩=some (.string kd.name)∧W.cell? ⟨g,off+k*4+3,none⟩=some (.slice A2 n2 c2)∧g<W.heap.size):=fun W hW=>
        ⟨by rw[hW.cell (p:=⟨g,_,none⟩) hgB];exact q0,by rw[hW.cell (p:=⟨g,_,none⟩) hgB];exact q1,by rw[hW.cell (p:=⟨g,_,none⟩) hgB];exact q2,by rw[hW.cell (p:=⟨g,_,none⟩) hgB];exact q3,by have:=hW.size;omega⟩
       have kJ:=Hd hbr;clear hkd hmem hrow q0 q1 q2 q3 hV2 hn2 hg hgB hbr;have hk0:(0:Int)≤(k:Int):=by omega
       have hk1:(k:Int)<(n:Int):=by omega
       have HIW:=Hd (Gl k);have hcase:k=0∨k=1∨k=2:=by omega
       rcases hcase with rfl|rfl|rfl
       ·have hix:=ix0;have y0:=kP.c0;have y1:=kP.c1;have y2:=kP.c2;have y3:=kP.c3;rw[←gy]at y0;go_wp2_with fail;refine(bS B b (l++[40]++P) ⟨#[105,102,32]⟩ wr Ef (by have:=HLEN.out;have:=qR.out;have:=jr.2.2;rw[Om];simp;omega) (by have:=p9.out;omega)).mono ?_;rintro e w7 ⟨rfl,xP,nS⟩;have hx7:=kP.kb nS hbne;have Jt:=Hd xP;have tQ:=Hd (BK.trans nS);have hz7:=tQ.below.size;clear y0 y1 y2 y3 xP nS;have y0:=hx7.c0;have y1:=hx7.c1;have y2:=hx7.c2;have y3:=hx7.c3;rw[←gy]at y0;have E5:=Hd hx7;have oI:=nH.trans tQ.below;obtain⟨q0,q1,q2,q3,q4⟩:=HQ w7 oI;have Db:=Hd oI;clear hx7 oI;rw[Nat.zero_mul,Nat.add_zero]at q0 q1 q2 q3;go_wp2_with fail;have hih:=ih kd 0 true (d+1) _ A2 c2 w7 jr.1 jr.2.1 jm Db Jt (by have:=HLEN.out;have:=qR.out;have:=jr.2.2;simp;omega) (by omega);unfold Tm.val at hih;rw[←kU]at hih;have qm:=Hd hih;clear hih;refine qm.mono ?_;rintro e w8 ⟨rfl,sN,kL⟩;have BM:=Hd (E5.kb kL hbne);have BN:=Hd sN;have BP:=Hd (tQ.trans kL);clear sN kL y0 y1 y2 y3 q0 q1 q2 q3;go_wp2_with fail
        go_roundw
        case rel=>
         have hsl:=eY bB kd 0 true (d+1) jr.2.1;refine⟨1,P++KH 0++nU aO kd 0 true,by omega,rfl,?_,BP,BM,?_,?_⟩
         ·have h9:=BN.out;simp only[List.append_assoc]at h9⊢;exact h9
         ·have h1:=qR.out;have h2:Tm.aA (t.kids.take 1)=Tm.aA (t.kids.take 0)+kd.size:=Ei;have h3:=HIW.out;rw[List.length_append,List.length_append];omega
         ·rw[Eh,HDR,iR];simp
        case measure=>first|(simp[intOf];done)|(simp[intOf];omega)
       ·have hix:=ix1;have y0:=kP.c0;have y1:=kP.c1;have y2:=kP.c2;have y3:=kP.c3;rw[←gy]at y0;go_wp2_with fail;refine(bS B b (l++[40]++P) ⟨#[32,116,104,101,110,32]⟩ wr Ef (by have:=HLEN.out;have:=qR.out;have:=jr.2.2;rw[Om];simp;omega) (by have:=p9.out;omega)).mono ?_;rintro e w7 ⟨rfl,xP,nS⟩;have hx7:=kP.kb nS hbne;have Jt:=Hd xP;have tQ:=Hd (BK.trans nS);have hz7:=tQ.below.size;clear y0 y1 y2 y3 xP nS;have y0:=hx7.c0;have y1:=hx7.c1;have y2:=hx7.c2;have y3:=hx7.c3;rw[←gy]at y0;have E5:=Hd hx7;have oI:=nH.trans tQ.below;obtain⟨q0,q1,q2,q3,q4⟩:=HQ w7 oI;have Db:=Hd oI;clear hx7 oI;rw[Nat.one_mul]at q0 q1 q2 q3;go_wp2_with fail;have hih:=ih kd 0 true (d+1) _ A2 c2 w7 jr.1 jr.2.1 jm Db Jt (by have:=HLEN.out;have:=qR.out;have:=jr.2.2;simp;omega) (by omega);unfold Tm.val at hih;rw[←kU]at hih;have qm:=Hd hih;clear hih;refine qm.mono ?_;rintro e w8 ⟨rfl,sN,kL⟩;have BM:=Hd (E5.kb kL hbne);have BN:=Hd sN;have BP:=Hd (tQ.trans kL);clear sN kL y0 y1 y2 y3 q0 q1 q2 q3;go_wp2_with fail
        go_roundw
        case rel=>
         have hsl:=eY bB kd 0 true (d+1) jr.2.1;refine⟨2,P++KH 1++nU aO kd 0 true,by omega,rfl,?_,BP,BM,?_,?_⟩
         ·have h9:=BN.out;simp only[List.append_assoc]at h9⊢;exact h9
         ·have h1:=qR.out;have h2:Tm.aA (t.kids.take 2)=Tm.aA (t.kids.take 1)+kd.size:=Ei;have h3:=HIW.out;rw[List.length_append,List.length_append];omega
         ·rw[Eh,HDR,iR];simp
        case measure=>first|(simp[intOf];done)|(simp[intOf];omega)
       ·have hix:=ix2;have y0:=kP.c0;have y1:=kP.c1;have y2:=kP.c2;have y3:=kP.c3;rw[←gy]at y0;go_wp2_with fail;refine(bS B b (l++[40]++P) ⟨#[32,101,108,115,101,32]⟩ wr Ef (by have:=HLEN.out;have:=qR.out;have:=jr.2.2;rw[Om];simp;omega) (by have:=p9.out;omega)).mono ?_;rintro e w7 ⟨rfl,xP,nS⟩;have hx7:=kP.kb nS hbne;have Jt:=Hd xP;have tQ:=Hd (BK.trans nS);have hz7:=tQ.below.size;clear y0 y1 y2 y3 xP nS;have y0:=hx7.c0;have y1:=hx7.c1;have y2:=hx7.c2;have y3:=hx7.c3;rw[←gy]at y0;have E5:=Hd hx7;have oI:=nH.trans tQ.below;obtain⟨q0,q1,q2,q3,q4⟩:=HQ w7 oI;have Db:=Hd oI;clear hx7 oI;rw[show 2*4=8 from rfl]at q0 q1 q2 q3;go_wp2_with fail;have hih:=ih kd 0 true (d+1) _ A2 c2 w7 jr.1 jr.2.1 jm Db Jt (by have:=HLEN.out;have:=qR.out;have:=jr.2.2;simp;omega) (by omega);unfold Tm.val at hih;rw[←kU]at hih;have qm:=Hd hih;clear hih;refine qm.mono ?_;rintro e w8 ⟨rfl,sN,kL⟩;have BM:=Hd (E5.kb kL hbne);have BN:=Hd sN;have BP:=Hd (tQ.trans kL);clear sN kL y0 y1 y2 y3 q0 q1 q2 q3;go_wp2_with fail
        go_roundw
        case rel=>
         have hsl:=eY bB kd 0 true (d+1) jr.2.1;refine⟨3,P++KH 2++nU aO kd 0 true,by omega,rfl,?_,BP,BM,?_,?_⟩
         ·have h9:=BN.out;simp only[List.append_assoc]at h9⊢;exact h9
         ·have h1:=qR.out;have h2:Tm.aA (t.kids.take 3)=Tm.aA (t.kids.take 2)+kd.size:=Ei;have h3:=HIW.out;rw[List.length_append,List.length_append];omega
         ·rw[Eh,HDR,iR];simp
        case measure=>first|(simp[intOf];done)|(simp[intOf];omega)
      ·have hk3:k=3:=by omega
       subst hk3;have Zm:Hid (iR aO t.kids 0=P):=by show _=_;rw[Eh,List.drop_eq_nil_of_le (by have:=HN.out;omega),iR,List.append_nil]
       go_wp2_with fail;exact nG HF (by rw[wX true (by rw[wY,vJ])];simp only[if_true];rw[←gy,Ia,Zm];first|done|simp) Ef BK (by have:=HLEN.out;have:=qR.out;have:=mg.out;have:=Tm.eH t.kids 3;simp;omega) (by have:=p9.out;omega) _ (by first|exact Or.inl rfl|exact Or.inr rfl)
    |true=>
     have vJ:Hid (pB t rule true=false):=by show _=_;unfold pB;rw[←HR,dF hp,←gy];rfl
     go_enter_defers Tryz.func128,Tryz.ntmps128
     go_wp2_with fail;refine(Js _).mono ?_;rintro e w1 ⟨rfl,hw⟩;rw[←hw];clear hw;go_wp2_with fail;have HXB:=qH;have y9:=x9;have ze:=uw;(try clear y0 y1 y2 y3);rw[←jy]
     go_loopw [109] (fun si wr=>∃(k:Nat)(P:Bs),k≤3∧si=.int .i64 k∧oV B b (Lib.byteCells (l++P)) wr∧KB B b w wr∧iM wr w.heap.size A n c t∧P.length≤80*Tm.aA (t.kids.take k)∧iR aO t.kids 0=P++iR aO (t.kids.drop k) k) (fun i _=>3-(intOf i).toNat)
     case atStart=>exact⟨0,[],by omega,rfl,by rw[List.append_nil];exact x9,uw,HXB,by simp,rfl⟩
     case round=>
      obtain⟨k,P,hk,rfl,hir,hkr,Np,hpl,hsi⟩:=hrel;have Ef:=Hd hir;have BK:=Hd hkr;have kP:=Hd Np;have qR:=Hd hpl;have Eh:=Hd hsi;have hzr:=hkr.below.size;clear hir hkr Np hpl hsi
      by_cases hlt:k<3
      ·have HLT:=Hd hlt;obtain⟨kd,hkd⟩:∃kd,t.kids[k]?=some kd:=⟨_,gG (by have:=HN.out;omega)⟩;have hmem:kd∈t.kids:=mG hkd
       have HDR:Hid (t.kids.drop k=kd::t.kids.drop (k+1)):=by
        obtain⟨hj,hj2⟩:=gE.1 hkd;show _=_;rw[List.drop_eq_getElem_cons hj,hj2]
       have Ei:=Hd (Tm.j4 hkd)
       have jr:Hid (kd.size≤N∧kd.lI (d+1)∧Tm.aA (t.kids.take k)+kd.size+1≤t.size):=by
        have h1:=Tm.aM hmem;have h2:=mg.out;have h3:=Tm.eH t.kids (k+1);rw[Ei]at h3;exact⟨by omega,EZ kd hmem,by omega⟩
       have hbr:Below B w0 wr:=nH.trans BK.below
       rcases HV.kids with h9|⟨g,off,rfl,hg,hrow⟩
       ·rw[h9]at hkd;simp at hkd
       obtain⟨q0,q1,q2,A2,c2,q3,hV2⟩:=(hrow.get hkd).open;have hgB:g<B:=by rw[hB];exact hg
       have jm:=Hd hV2;obtain⟨n2,hn2⟩:=aj kd.kids.length;rw[←hn2]at q3;rw[show off+4*k=off+k*4 from by omega]at q0 q1 q2 q3;have kU:=Hd hn2
       have HQ:Hid (∀W,Below B w0 W→W.cell? ⟨g,off+k*4,none⟩=some (.int .i64 kd.op)∧W.cell? ⟨g,off+k*4+1,none⟩=some (.int .i64 kd.num)∧W.cell? ⟨g,off+k*4+2,none⟩=some (.string kd.name)∧W.cell? ⟨g,off+k*4+3,none⟩=some (.slice A2 n2 c2)∧g<W.heap.size):=fun W hW=>
        ⟨by rw[hW.cell (p:=⟨g,_,none⟩) hgB];exact q0,by rw[hW.cell (p:=⟨g,_,none⟩) hgB];exact q1,by rw[hW.cell (p:=⟨g,_,none⟩) hgB];exact q2,by rw[hW.cell (p:=⟨g,_,none⟩) hgB];exact q3,by have:=hW.size;omega⟩
       have kJ:=Hd hbr;clear hkd hmem hrow q0 q1 q2 q3 hV2 hn2 hg hgB hbr;have hk0:(0:Int)≤(k:Int):=by omega
       have hk1:(k:Int)<(n:Int):=by omega
       have HIW:=Hd (Gl k);have hcase:k=0∨k=1∨k=2:=by omega
       rcases hcase with rfl|rfl|rfl
       ·have hix:=ix0;have y0:=kP.c0;have y1:=kP.c1;have y2:=kP.c2;have y3:=kP.c3;rw[←gy]at y0;go_wp2_with fail;refine(bS B b (l++P) ⟨#[105,102,32]⟩ wr Ef (by have:=HLEN.out;have:=qR.out;have:=jr.2.2;rw[Om];simp;omega) (by have:=p9.out;omega)).mono ?_;rintro e w7 ⟨rfl,xP,nS⟩;have hx7:=kP.kb nS hbne;have Jt:=Hd xP;have tQ:=Hd (BK.trans nS);have hz7:=tQ.below.size;clear y0 y1 y2 y3 xP nS;have y0:=hx7.c0;have y1:=hx7.c1;have y2:=hx7.c2;have y3:=hx7.c3;rw[←gy]at y0;have E5:=Hd hx7;have oI:=nH.trans tQ.below;obtain⟨q0,q1,q2,q3,q4⟩:=HQ w7 oI;have Db:=Hd oI;clear hx7 oI;rw[Nat.zero_mul,Nat.add_zero]at q0 q1 q2 q3;go_wp2_with fail;have hih:=ih kd 0 true (d+1) _ A2 c2 w7 jr.1 jr.2.1 jm Db Jt (by have:=HLEN.out;have:=qR.out;have:=jr.2.2;simp;omega) (by omega);unfold Tm.val at hih;rw[←kU]at hih;have qm:=Hd hih;clear hih;refine qm.mono ?_;rintro e w8 ⟨rfl,sN,kL⟩;have BM:=Hd (E5.kb kL hbne);have BN:=Hd sN;have BP:=Hd (tQ.trans kL);clear sN kL y0 y1 y2 y3 q0 q1 q2 q3;go_wp2_with fail
        go_roundw
        case rel=>
         have hsl:=eY bB kd 0 true (d+1) jr.2.1;refine⟨1,P++KH 0++nU aO kd 0 true,by omega,rfl,?_,BP,BM,?_,?_⟩
         ·have h9:=BN.out;simp only[List.append_assoc]at h9⊢;exact h9
         ·have h1:=qR.out;have h2:Tm.aA (t.kids.take 1)=Tm.aA (t.kids.take 0)+kd.size:=Ei;have h3:=HIW.out;rw[List.length_append,List.length_append];omega
         ·rw[Eh,HDR,iR];simp
        case measure=>first|(simp[intOf];done)|(simp[intOf];omega)
       ·have hix:=ix1;have y0:=kP.c0;have y1:=kP.c1;have y2:=kP.c2;have y3:=kP.c3;rw[←gy]at y0;go_wp2_with fail;refine(bS B b (l++P) ⟨#[32,116,104,101,110,32]⟩ wr Ef (by have:=HLEN.out;have:=qR.out;have:=jr.2.2;rw[Om];simp;omega) (by have:=p9.out;omega)).mono ?_;rintro e w7 ⟨rfl,xP,nS⟩;have hx7:=kP.kb nS hbne;have Jt:=Hd xP;have tQ:=Hd (BK.trans nS);have hz7:=tQ.below.size;clear y0 y1 y2 y3 xP nS;have y0:=hx7.c0;have y1:=hx7.c1;have y2:=hx7.c2;have y3:=hx7.c3;rw[←gy]at y0;have E5:=Hd hx7;have oI:=nH.trans tQ.below;obtain⟨q0,q1,q2,q3,q4⟩:=HQ w7 oI;have Db:=Hd oI;clear hx7 oI;rw[Nat.one_mul]at q0 q1 q2 q3;go_wp2_with fail;have hih:=ih kd 0 true (d+1) _ A2 c2 w7 jr.1 jr.2.1 jm Db Jt (by have:=HLEN.out;have:=qR.out;have:=jr.2.2;simp;omega) (by omega);unfold Tm.val at hih;rw[←kU]at hih;have qm:=Hd hih;clear hih;refine qm.mono ?_;rintro e w8 ⟨rfl,sN,kL⟩;have BM:=Hd (E5.kb kL hbne);have BN:=Hd sN;have BP:=Hd (tQ.trans kL);clear sN kL y0 y1 y2 y3 q0 q1 q2 q3;go_wp2_with fail
        go_roundw
        case rel=>
         have hsl:=eY bB kd 0 true (d+1) jr.2.1;refine⟨2,P++KH 1++nU aO kd 0 true,by omega,rfl,?_,BP,BM,?_,?_⟩
         ·have h9:=BN.out;simp only[List.append_assoc]at h9⊢;exact h9
         ·have h1:=qR.out;have h2:Tm.aA (t.kids.take 2)=Tm.aA (t.kids.take 1)+kd.size:=Ei;have h3:=HIW.out;rw[List.length_append,List.length_append];omega
         ·rw[Eh,HDR,iR];simp
        case measure=>first|(simp[intOf];done)|(simp[intOf];omega)
       ·have hix:=ix2;have y0:=kP.c0;have y1:=kP.c1;have y2:=kP.c2;have y3:=kP.c3;rw[←gy]at y0;go_wp2_with fail;refine(bS B b (l++P) ⟨#[32,101,108,115,101,32]⟩ wr Ef (by have:=HLEN.out;have:=qR.out;have:=jr.2.2;rw[Om];simp;omega) (by have:=p9.out;omega)).mono ?_;rintro e w7 ⟨rfl,xP,nS⟩;have hx7:=kP.kb nS hbne;have Jt:=Hd xP;have tQ:=Hd (BK.trans nS);have hz7:=tQ.below.size;clear y0 y1 y2 y3 xP nS;have y0:=hx7.c0;have y1:=hx7.c1;have y2:=hx7.c2;have y3:=hx7.c3;rw[←gy]at y0;have E5:=Hd hx7;have oI:=nH.trans tQ.below;obtain⟨q0,q1,q2,q3,q4⟩:=HQ w7 oI;have Db:=Hd oI;clear hx7 oI;rw[show 2*4=8 from rfl]at q0 q1 q2 q3;go_wp2_with fail;have hih:=ih kd 0 true (d+1) _ A2 c2 w7 jr.1 jr.2.1 jm Db Jt (by have:=HLEN.out;have:=qR.out;have:=jr.2.2;simp;omega) (by omega);unfold Tm.val at hih;rw[←kU]at hih;have qm:=Hd hih;clear hih;refine qm.mono ?_;rintro e w8 ⟨rfl,sN,kL⟩;have BM:=Hd (E5.kb kL hbne);have BN:=Hd sN;have BP:=Hd (tQ.trans kL);clear sN kL y0 y1 y2 y3 q0 q1 q2 q3;go_wp2_with fail
        go_roundw
        case rel=>
         have hsl:=eY bB kd 0 true (d+1) jr.2.1;refine⟨3,P++KH 2++nU aO kd 0 true,by omega,rfl,?_,BP,BM,?_,?_⟩
         ·have h9:=BN.out;simp only[List.append_assoc]at h9⊢;exact h9
         ·have h1:=qR.out;have h2:Tm.aA (t.kids.take 3)=Tm.aA (t.kids.take 2)+kd.size:=Ei;have h3:=HIW.out;rw[List.length_append,List.length_append];omega
         ·rw[Eh,HDR,iR];simp
        case measure=>first|(simp[intOf];done)|(simp[intOf];omega)
      ·have hk3:k=3:=by omega
       subst hk3;have Zm:Hid (iR aO t.kids 0=P):=by show _=_;rw[Eh,List.drop_eq_nil_of_le (by have:=HN.out;omega),iR,List.append_nil]
       go_wp2_with fail;exact jE HF (by rw[wX false (by rw[wY,vJ])];simp only[Bool.false_eq_true,if_false];rw[←gy,Ia,Zm];first|done|simp) Ef BK _ (by first|exact Or.inl rfl|exact Or.inr rfl)
  have hcj:True:=trivial
  ·have h1:op≠1:=by omega
   have h2:op≠2:=by omega
   have h3:op≠3:=by omega
   have h4:op≠4:=by omega
   have h5:op≠5:=by omega
   have h18:op≠18:=by omega
   have vM:=Hd (And.intro h1 (And.intro h2 (And.intro h3 (And.intro h4 (And.intro h5 h18)))));have b1:(op==1)=false:=by simpa using h1
   have b2:(op==2)=false:=by simpa using h2
   have b3:(op==3)=false:=by simpa using h3
   have b4:(op==4)=false:=by simpa using h4
   have b5:(op==5)=false:=by simpa using h5
   have b18:(op==18)=false:=by simpa using h18
   have H8:Hid (op=8→n≤2):=fun h=>by
    have h2:=yj.2.2.2.2.1;rw[←gy,←HN,h]at h2;have e1:cu 8=(2,2):=by simp[cu]
    rw[e1]at h2;simp only at h2;omega
   have hcm:=HV.cap
   have hnl:n≤64:=by
    have h9:=yj.2.2.2.2.1;have h10:=Jr t.op;have:=HN.out;omega
   clear hcj hc1 hc2 hc3 hc4 hc5 hc18 h1 h2 h3 h4 h5
   by_cases hp:r<rule
   ·clear h18;have vJ:Hid (pB t rule ends=true):=by show _=_;unfold pB;rw[←HR,decide_eq_true hp];rfl
    have hp':(r:Int)<(rule:Int):=by omega
    clear hp
    go_enter_defers Tryz.func128,Tryz.ntmps128
    go_wp2_with fail;refine(Js _).mono ?_;rintro e w1 ⟨rfl,hw⟩;rw[←hw];clear hw;go_wp2_with fail;have HXB:=qH;have y9:=x9;have ze:=uw;rw[←jy];refine(lT B b (l) 40 wb x9 (by have:=HLEN.out;simp;omega) (by have:=p9.out;omega)).mono ?_;rintro e w1 ⟨rfl,hi1,hk1⟩;(try clear y0 y1 y2 y3);obtain⟨yJ,HI1,xO,hz1,y0,y1,y2,y3⟩:=Lg hi1 hk1 HXB uw hbne gy;clear hi1 hk1;go_wp2_with fail;(try clear y0 y1 y2 y3);have HEJ:Hid ((true||ends)=true):=by show _=_;rw[Bool.true_or]
    go_loopw [34] (fun si wr=>∃(k:Nat)(P:Bs),k≤n∧si=.int .i64 k∧oV B b (Lib.byteCells (l++[40]++P)) wr∧KB B b w wr∧iM wr w.heap.size A n c t∧P.length≤80*Tm.aA (t.kids.take k)∧aW aO op t.kids 0 true=P++aW aO op (t.kids.drop k) k true) (fun i _=>n-(intOf i).toNat)
    case atStart=>exact⟨0,[],zl _,rfl,by rw[List.append_nil];exact HI1,xO,yJ,by simp,rfl⟩
    case round=>
     obtain⟨k,P,hk,rfl,hir,hkr,Np,hpl,hsi⟩:=hrel;have Ef:=Hd hir;have BK:=Hd hkr;have kP:=Hd Np;have qR:=Hd hpl;have Eh:=Hd hsi;have hzr:=hkr.below.size;clear hir hkr Np hpl hsi
     by_cases hlt:k<n
     ·have HLT:=Hd hlt;obtain⟨kd,hkd⟩:∃kd,t.kids[k]?=some kd:=⟨_,gG (by have:=HN.out;omega)⟩;have hmem:kd∈t.kids:=mG hkd
      have HDR:Hid (t.kids.drop k=kd::t.kids.drop (k+1)):=by
       obtain⟨hj,hj2⟩:=gE.1 hkd;show _=_;rw[List.drop_eq_getElem_cons hj,hj2]
      have Ei:=Hd (Tm.j4 hkd)
      have jr:Hid (kd.size≤N∧kd.lI (d+1)∧Tm.aA (t.kids.take k)+kd.size+1≤t.size):=by
       have h1:=Tm.aM hmem;have h2:=mg.out;have h3:=Tm.eH t.kids (k+1);rw[Ei]at h3;exact⟨by omega,EZ kd hmem,by omega⟩
      have hbr:Below B w0 wr:=nH.trans BK.below
      rcases HV.kids with h9|⟨g,off,rfl,hg,hrow⟩
      ·rw[h9]at hkd;simp at hkd
      obtain⟨q0,q1,q2,A2,c2,q3,hV2⟩:=(hrow.get hkd).open;have hgB:g<B:=by rw[hB];exact hg
      have jm:=Hd hV2;obtain⟨n2,hn2⟩:=aj kd.kids.length;rw[←hn2]at q3;rw[show off+4*k=off+k*4 from by omega]at q0 q1 q2 q3;have kU:=Hd hn2
      have HQ:Hid (∀W,Below B w0 W→W.cell? ⟨g,off+k*4,none⟩=some (.int .i64 kd.op)∧W.cell? ⟨g,off+k*4+1,none⟩=some (.int .i64 kd.num)∧W.cell? ⟨g,off+k*4+2,none⟩=some (.string kd.name)∧W.cell? ⟨g,off+k*4+3,none⟩=some (.slice A2 n2 c2)∧g<W.heap.size):=fun W hW=>
       ⟨by rw[hW.cell (p:=⟨g,_,none⟩) hgB];exact q0,by rw[hW.cell (p:=⟨g,_,none⟩) hgB];exact q1,by rw[hW.cell (p:=⟨g,_,none⟩) hgB];exact q2,by rw[hW.cell (p:=⟨g,_,none⟩) hgB];exact q3,by have:=hW.size;omega⟩
      have kJ:=Hd hbr;clear hkd hmem hrow q0 q1 q2 q3 hV2 hn2 hg hgB hbr;have hk0:(0:Int)≤(k:Int):=by omega
      have hk1:(k:Int)<(n:Int):=by omega
      obtain⟨lb,hlb⟩:=aj (decide (k+1=n));have Ku:((k:Int)==(n:Int)-1)=lb:=by rw[hlb];by_cases h:k+1=n<;>simp[h]<;>omega
      have zD:Hid ((t.kids.drop (k+1)).isEmpty=lb):=by show _=_;rw[hlb,Bool.eq_iff_iff,List.isEmpty_iff,List.drop_eq_nil_iff,decide_eq_true_iff,←HN];constructor<;>intro h<;>omega
      clear hlb;have Ic:Hid (∀W,Calls Tryz.prog 163 #[.int .i64 op,.int .i64 (k:Nat)] W fun e w'=>e=.returned (.int .i64 (aX op k:Nat))∧w'=W):=fun W=>(Ci op k W (by omega) (fun h=>by have:=H8 h;omega)).mono fun _ _ ⟨h1,h2⟩=>⟨h1,h2.symm⟩;obtain⟨wk,hwk⟩:=aj (wr.alloc (.cells #[.int .i64 kd.op,.int .i64 kd.num,.string kd.name,.slice A2 n2 c2] 64));have hbk:=dz hwk;have hxk:=kP.below hbk kP.lt;have hkk:iM wk wr.heap.size A2 n2 c2 kd:=by rw[hwk];exact eu wr _
      have hik:oV B b (Lib.byteCells (l++[40]++P)) wk:=oV.keep Ef hbk;have RZ:KB B b w wk:=BK.trans (KB.of_below hbk (by have:=p9.out;omega));have agL:=oV.lt Ef;have R8:wr.heap.size≠b:=by omega
      have Ie:=Hd hwk;have Oa:=Hd hxk;have HKK:=Hd hkk;have HIK:=Hd hik;have Bg:=Hd RZ;have hzk:=RZ.below.size;obtain⟨q0,q1,q2,q3,q4⟩:=HQ wr kJ;have hlx:=kP.lt;have y0:=kP.c0;have y1:=kP.c1;have y2:=kP.c2;have y3:=kP.c3;rw[←gy]at y0;clear hwk hbk hxk hkk hik RZ
      by_cases Bh:k=0
      ·subst Bh;have Zn:((0:Int)==(n:Int)-1)=lb:=Ku;rw[Nat.zero_mul,Nat.add_zero]at q0 q1 q2 q3;go_wp2_with fail;obtain⟨wd,hwd⟩:=aj wk.drew;have hbd:Below wk.heap.size wk wd:=by rw[hwd];exact(Br _ _).drew
       have hxd:=Oa.below hbd Oa.lt;have iO:=HKK.below hbd HKK.lt;have OX:=Hd (oV.keep HIK hbd);have Ig:=Hd (Bg.trans (KB.of_below hbd (by have:=Bg.below.size;omega)));have OO:=Hd hxd;have Dy:=Hd hwd;refine aL 15 (by kernel_rfl) (by kernel_rfl) ?_;rw[←Ie,←Dy];(try clear y0 y1 y2 y3 q0 q1 q2 q3 q4 hlx);have y0:=hxd.c0;have y1:=hxd.c1;have y2:=hxd.c2;have y3:=hxd.c3;rw[←gy]at y0;have z0:=iO.c0;have z1:=iO.c1;have z2:=iO.c2;have z3:=iO.c3;clear hxd iO hwd hbd;simp only[List.take_succ_cons,List.take_zero,List.drop_succ_cons,List.drop_zero]
       repeat still_step
       still_call (Ic _)
       repeat still_step
       refine wpStill_nil ?_;go_wp2_with fail;rw[Zn];have hbw2:=nH.trans Ig.below;have hih:=ih kd (aX op 0) lb (d+1) (l++[40]++P) A2 c2 wd jr.1 jr.2.1 (jm) hbw2 OX (by have:=HLEN.out;have:=qR.out;have:=jr.2.2; simp;omega) (by have:=oH op 0;omega);unfold Tm.val at hih;rw[←kU]at hih;have qm:=Hd hih;clear hih hbw2;refine qm.mono ?_;rintro e w8 ⟨rfl,sN,kL⟩;have BM:=Hd (OO.kb kL hbne);have BN:=Hd sN;have BP:=Hd (Ig.trans kL);clear sN kL y0 y1 y2 y3 z0 z1 z2 z3;go_wp2_with fail
       go_roundw
       case rel=>
        have hsl:=eY bB kd (aX op 0) lb (d+1) jr.2.1;refine⟨0+1,P++nU aO kd (aX op 0) lb,by omega,rfl,?_,BP,BM,?_,?_⟩
        ·have h9:=BN.out;rw[List.append_assoc]at h9;exact h9
        ·have h1:=qR.out;have h2:Tm.aA (t.kids.take (0+1))=Tm.aA (t.kids.take 0)+kd.size:=Ei;have h3:=jM op;simp only[List.length_append];omega
        ·rw[Eh,HDR,aW,zD,iP rfl];simp
       case measure=>first|(simp[intOf];done)|(simp[intOf];omega)
      ·have R9:=Hd Bh;have hkp:(0:Int)<(k:Int):=by omega
       obtain⟨SG,Lh⟩:∃SG:ByteArray,SG=⟨(iy op).toArray⟩:=⟨_,rfl⟩;have AX:=Hd (fun W=>sS op W);rw[←Lh]at AX;have agM:SG.size≤3:=by rw[Lh,Om];exact nD op
       have Ib:∀W,(Op.stringOp .add (⟨#[32]⟩:ByteArray) SG).run Tryz.prog W=.ok (.string (⟨#[32]⟩++SG)) W:=fun W=>run_string_add_sum W _ _ (by show 1+SG.size≤_;omega);obtain⟨S,hS⟩:∃S:ByteArray,S=⟨#[32]⟩++SG++⟨#[32]⟩:=⟨_,rfl⟩;have LK:Hid (S.size≤5):=by show _≤_;rw[hS,Bf,Bf];show 1+SG.size+1≤5;omega
       have Gq:Hid (S.data.toList=lG op):=by show _=_;rw[hS,Lh];simp[ByteArray.data_append,lG]
       have uP:∀W,(Op.stringOp .add ((⟨#[32]⟩:ByteArray)++SG) ⟨#[32]⟩).run Tryz.prog W=.ok (.string S) W:=fun W=>by rw[hS];exact run_string_add_sum W _ _ (by rw[Bf];show 1+SG.size+1≤_;omega)
       clear Bh hS Lh;go_wp2_with fail;rw[←Ie];refine(AX _).mono ?_;rintro e w' ⟨rfl,hw⟩;rw[←hw];clear hw y0 y1 y2 y3 q0 q1 q2 q3 q4 hlx;go_wp2_with fail;refine(bS B b (l++[40]++P) S wk HIK (by have:=HLEN.out;have:=qR.out;have:=jr.2.2;have:=LK.out;simp;omega) (by have:=p9.out;omega)).mono ?_;rintro e w7 ⟨rfl,xP,nS⟩;rw[Gq]at xP;have E5:=Hd (Oa.kb nS hbne);have Ih:=Hd (HKK.kb nS R8);have Jt:=Hd xP;have tQ:=Hd (Bg.trans nS);have hz7:=tQ.below.size;clear xP nS;go_wp2_with fail;obtain⟨wd,hwd⟩:=aj w7.drew;have hbd:Below w7.heap.size w7 wd:=by rw[hwd];exact(Br _ _).drew
       have hxd:=E5.below hbd E5.lt;have iO:=Ih.below hbd Ih.lt;have OX:=Hd (oV.keep Jt hbd);have Ig:=Hd (tQ.trans (KB.of_below hbd (by have:=tQ.below.size;omega)));have OO:=Hd hxd;have Dy:=Hd hwd;refine aL 15 (by kernel_rfl) (by kernel_rfl) ?_;rw[←Dy];(try clear y0 y1 y2 y3 q0 q1 q2 q3 q4 hlx);have y0:=hxd.c0;have y1:=hxd.c1;have y2:=hxd.c2;have y3:=hxd.c3;rw[←gy]at y0;have z0:=iO.c0;have z1:=iO.c1;have z2:=iO.c2;have z3:=iO.c3;clear hxd iO hwd hbd;simp only[List.take_succ_cons,List.take_zero,List.drop_succ_cons,List.drop_zero]
       repeat still_step
       still_call (Ic _)
       repeat still_step
       refine wpStill_nil ?_;go_wp2_with fail;rw[Ku];have hbw2:=nH.trans Ig.below;have hih:=ih kd (aX op k) lb (d+1) (l++[40]++P++lG op) A2 c2 wd jr.1 jr.2.1 (jm) hbw2 OX (by have:=HLEN.out;have:=qR.out;have:=jr.2.2;have:=jM op;simp;omega) (by have:=oH op k;omega);unfold Tm.val at hih;rw[←kU]at hih;have qm:=Hd hih;clear hih hbw2;refine qm.mono ?_;rintro e w8 ⟨rfl,sN,kL⟩;have BM:=Hd (OO.kb kL hbne);have BN:=Hd sN;have BP:=Hd (Ig.trans kL);clear sN kL y0 y1 y2 y3 z0 z1 z2 z3;go_wp2_with fail
       go_roundw
       case rel=>
        have hsl:=eY bB kd (aX op k) lb (d+1) jr.2.1;refine⟨k+1,P++lG op++nU aO kd (aX op k) lb,by omega,by go_num,?_,BP,BM,?_,?_⟩
        ·have h9:=BN.out;simp only[List.append_assoc]at h9⊢;exact h9
        ·have h1:=qR.out;have h2:Tm.aA (t.kids.take (k+1))=Tm.aA (t.kids.take k)+kd.size:=Ei;have h3:=jM op;simp only[List.length_append];omega
        ·rw[Eh,HDR,aW,zD,iN R9.out];simp
       case measure=>first|(simp[intOf];done)|(simp[intOf];omega)
     ·have hkn:k=n:=by omega
      have hk1:¬(k:Int)<(n:Int):=by omega
      have Zm:Hid (aW aO op t.kids 0 true=P):=by show _=_;rw[Eh,List.drop_eq_nil_of_le (by have:=HN.out;omega),aW,List.append_nil]
      go_wp2_with fail;exact nG HF (by rw[wX true (by rw[wY,vJ])];simp only[if_true,Bool.true_or];rw[←gy,z8 vM.1 vM.2.1 vM.2.2.1 vM.2.2.2.1 vM.2.2.2.2.1 vM.2.2.2.2.2,Zm];first|done|simp) Ef BK (by have:=HLEN.out;have:=qR.out;have:=mg.out;have:=Tm.eH t.kids k;simp;omega) (by have:=p9.out;omega) _ (by first|exact Or.inl rfl|exact Or.inr rfl)
   ·have vJ:Hid (pB t rule ends=false):=by show _=_;unfold pB;rw[←HR,dF hp,←gy,dF (h18)];rfl
    have hp':¬(r:Int)<(rule:Int):=by omega
    have hpd:=dF hp;clear hp h18
    cases ends with
    |false=>
     go_enter_defers Tryz.func128,Tryz.ntmps128
     go_wp2_with fail;refine(Js _).mono ?_;rintro e w1 ⟨rfl,hw⟩;rw[←hw];clear hw;go_wp2_with fail;have HXB:=qH;have y9:=x9;have ze:=uw;(try clear y0 y1 y2 y3);rw[←jy];have HEJ:Hid ((false||false)=false):=by show _=_;rfl
     go_loopw [34] (fun si wr=>∃(k:Nat)(P:Bs),k≤n∧si=.int .i64 k∧oV B b (Lib.byteCells (l++P)) wr∧KB B b w wr∧iM wr w.heap.size A n c t∧P.length≤80*Tm.aA (t.kids.take k)∧aW aO op t.kids 0 false=P++aW aO op (t.kids.drop k) k false) (fun i _=>n-(intOf i).toNat)
     case atStart=>exact⟨0,[],zl _,rfl,by rw[List.append_nil];exact x9,uw,HXB,by simp,rfl⟩
     case round=>
      obtain⟨k,P,hk,rfl,hir,hkr,Np,hpl,hsi⟩:=hrel;have Ef:=Hd hir;have BK:=Hd hkr;have kP:=Hd Np;have qR:=Hd hpl;have Eh:=Hd hsi;have hzr:=hkr.below.size;clear hir hkr Np hpl hsi
      by_cases hlt:k<n
      ·have HLT:=Hd hlt;obtain⟨kd,hkd⟩:∃kd,t.kids[k]?=some kd:=⟨_,gG (by have:=HN.out;omega)⟩;have hmem:kd∈t.kids:=mG hkd
       have HDR:Hid (t.kids.drop k=kd::t.kids.drop (k+1)):=by
        obtain⟨hj,hj2⟩:=gE.1 hkd;show _=_;rw[List.drop_eq_getElem_cons hj,hj2]
       have Ei:=Hd (Tm.j4 hkd)
       have jr:Hid (kd.size≤N∧kd.lI (d+1)∧Tm.aA (t.kids.take k)+kd.size+1≤t.size):=by
        have h1:=Tm.aM hmem;have h2:=mg.out;have h3:=Tm.eH t.kids (k+1);rw[Ei]at h3;exact⟨by omega,EZ kd hmem,by omega⟩
       have hbr:Below B w0 wr:=nH.trans BK.below
       rcases HV.kids with h9|⟨g,off,rfl,hg,hrow⟩
       ·rw[h9]at hkd;simp at hkd
       obtain⟨q0,q1,q2,A2,c2,q3,hV2⟩:=(hrow.get hkd).open;have hgB:g<B:=by rw[hB];exact hg
       have jm:=Hd hV2;obtain⟨n2,hn2⟩:=aj kd.kids.length;rw[←hn2]at q3;rw[show off+4*k=off+k*4 from by omega]at q0 q1 q2 q3;have kU:=Hd hn2
       have HQ:Hid (∀W,Below B w0 W→W.cell? ⟨g,off+k*4,none⟩=some (.int .i64 kd.op)∧W.cell? ⟨g,off+k*4+1,none⟩=some (.int .i64 kd.num)∧W.cell? ⟨g,off+k*4+2,none⟩=some (.string kd.name)∧W.cell? ⟨g,off+k*4+3,none⟩=some (.slice A2 n2 c2)∧g<W.heap.size):=fun W hW=>
        ⟨by rw[hW.cell (p:=⟨g,_,none⟩) hgB];exact q0,by rw[hW.cell (p:=⟨g,_,none⟩) hgB];exact q1,by rw[hW.cell (p:=⟨g,_,none⟩) hgB];exact q2,by rw[hW.cell (p:=⟨g,_,none⟩) hgB];exact q3,by have:=hW.size;omega⟩
       have kJ:=Hd hbr;clear hkd hmem hrow q0 q1 q2 q3 hV2 hn2 hg hgB hbr;have hk0:(0:Int)≤(k:Int):=by omega
       have hk1:(k:Int)<(n:Int):=by omega
       obtain⟨lb,hlb⟩:=aj (decide (k+1=n));have Ku:((k:Int)==(n:Int)-1)=lb:=by rw[hlb];by_cases h:k+1=n<;>simp[h]<;>omega
       have zD:Hid ((t.kids.drop (k+1)).isEmpty=lb):=by show _=_;rw[hlb,Bool.eq_iff_iff,List.isEmpty_iff,List.drop_eq_nil_iff,decide_eq_true_iff,←HN];constructor<;>intro h<;>omega
       clear hlb;have Ic:Hid (∀W,Calls Tryz.prog 163 #[.int .i64 op,.int .i64 (k:Nat)] W fun e w'=>e=.returned (.int .i64 (aX op k:Nat))∧w'=W):=fun W=>(Ci op k W (by omega) (fun h=>by have:=H8 h;omega)).mono fun _ _ ⟨h1,h2⟩=>⟨h1,h2.symm⟩;obtain⟨wk,hwk⟩:=aj (wr.alloc (.cells #[.int .i64 kd.op,.int .i64 kd.num,.string kd.name,.slice A2 n2 c2] 64));have hbk:=dz hwk;have hxk:=kP.below hbk kP.lt;have hkk:iM wk wr.heap.size A2 n2 c2 kd:=by rw[hwk];exact eu wr _
       have hik:oV B b (Lib.byteCells (l++P)) wk:=oV.keep Ef hbk;have RZ:KB B b w wk:=BK.trans (KB.of_below hbk (by have:=p9.out;omega));have agL:=oV.lt Ef;have R8:wr.heap.size≠b:=by omega
       have Ie:=Hd hwk;have Oa:=Hd hxk;have HKK:=Hd hkk;have HIK:=Hd hik;have Bg:=Hd RZ;have hzk:=RZ.below.size;obtain⟨q0,q1,q2,q3,q4⟩:=HQ wr kJ;have hlx:=kP.lt;have y0:=kP.c0;have y1:=kP.c1;have y2:=kP.c2;have y3:=kP.c3;rw[←gy]at y0;clear hwk hbk hxk hkk hik RZ
       by_cases Bh:k=0
       ·subst Bh;have Zn:((0:Int)==(n:Int)-1)=lb:=Ku;rw[Nat.zero_mul,Nat.add_zero]at q0 q1 q2 q3;go_wp2_with fail;obtain⟨wd,hwd⟩:=aj wk.drew;have hbd:Below wk.heap.size wk wd:=by rw[hwd];exact(Br _ _).drew
        have hxd:=Oa.below hbd Oa.lt;have iO:=HKK.below hbd HKK.lt;have OX:=Hd (oV.keep HIK hbd);have Ig:=Hd (Bg.trans (KB.of_below hbd (by have:=Bg.below.size;omega)));have OO:=Hd hxd;have Dy:=Hd hwd;refine aL 15 (by kernel_rfl) (by kernel_rfl) ?_;rw[←Ie,←Dy];(try clear y0 y1 y2 y3 q0 q1 q2 q3 q4 hlx);have y0:=hxd.c0;have y1:=hxd.c1;have y2:=hxd.c2;have y3:=hxd.c3;rw[←gy]at y0;have z0:=iO.c0;have z1:=iO.c1;have z2:=iO.c2;have z3:=iO.c3;clear hxd iO hwd hbd;simp only[List.take_succ_cons,List.take_zero,List.drop_succ_cons,List.drop_zero]
        repeat still_step
        still_call (Ic _)
        (with_reducible refine jT rfl rfl ?_);with_reducible refine jT rfl rfl ?_
        iterate 6 (with_reducible refine rW ?Nq ?_;case Nq=>kernel_rfl)
        (with_reducible refine wpStill_step (fun K hK=>?_));go_simp;(with_reducible refine hK _ ?_);clear hK K;refine wpStill_nil ?_;go_wp2_with fail;have hbw2:=nH.trans Ig.below;have hih:=ih kd (aX op 0) false (d+1) (l++P) A2 c2 wd jr.1 jr.2.1 (jm) hbw2 OX (by have:=HLEN.out;have:=qR.out;have:=jr.2.2; simp;omega) (by have:=oH op 0;omega);unfold Tm.val at hih;rw[←kU]at hih;have qm:=Hd hih;clear hih hbw2;refine qm.mono ?_;rintro e w8 ⟨rfl,sN,kL⟩;have BM:=Hd (OO.kb kL hbne);have BN:=Hd sN;have BP:=Hd (Ig.trans kL);clear sN kL y0 y1 y2 y3 z0 z1 z2 z3;go_wp2_with fail
        go_roundw
        case rel=>
         have hsl:=eY bB kd (aX op 0) false (d+1) jr.2.1;refine⟨0+1,P++nU aO kd (aX op 0) false,by omega,rfl,?_,BP,BM,?_,?_⟩
         ·have h9:=BN.out;rw[List.append_assoc]at h9;exact h9
         ·have h1:=qR.out;have h2:Tm.aA (t.kids.take (0+1))=Tm.aA (t.kids.take 0)+kd.size:=Ei;have h3:=jM op;simp only[List.length_append];omega
         ·rw[Eh,HDR,aW,zD,iP rfl];simp
        case measure=>first|(simp[intOf];done)|(simp[intOf];omega)
       ·have R9:=Hd Bh;have hkp:(0:Int)<(k:Int):=by omega
        obtain⟨SG,Lh⟩:∃SG:ByteArray,SG=⟨(iy op).toArray⟩:=⟨_,rfl⟩;have AX:=Hd (fun W=>sS op W);rw[←Lh]at AX;have agM:SG.size≤3:=by rw[Lh,Om];exact nD op
        have Ib:∀W,(Op.stringOp .add (⟨#[32]⟩:ByteArray) SG).run Tryz.prog W=.ok (.string (⟨#[32]⟩++SG)) W:=fun W=>run_string_add_sum W _ _ (by show 1+SG.size≤_;omega);obtain⟨S,hS⟩:∃S:ByteArray,S=⟨#[32]⟩++SG++⟨#[32]⟩:=⟨_,rfl⟩;have LK:Hid (S.size≤5):=by show _≤_;rw[hS,Bf,Bf];show 1+SG.size+1≤5;omega
        have Gq:Hid (S.data.toList=lG op):=by show _=_;rw[hS,Lh];simp[ByteArray.data_append,lG]
        have uP:∀W,(Op.stringOp .add ((⟨#[32]⟩:ByteArray)++SG) ⟨#[32]⟩).run Tryz.prog W=.ok (.string S) W:=fun W=>by rw[hS];exact run_string_add_sum W _ _ (by rw[Bf];show 1+SG.size+1≤_;omega)
        clear Bh hS Lh;go_wp2_with fail;rw[←Ie];refine(AX _).mono ?_;rintro e w' ⟨rfl,hw⟩;rw[←hw];clear hw y0 y1 y2 y3 q0 q1 q2 q3 q4 hlx;go_wp2_with fail;refine(bS B b (l++P) S wk HIK (by have:=HLEN.out;have:=qR.out;have:=jr.2.2;have:=LK.out;simp;omega) (by have:=p9.out;omega)).mono ?_;rintro e w7 ⟨rfl,xP,nS⟩;rw[Gq]at xP;have E5:=Hd (Oa.kb nS hbne);have Ih:=Hd (HKK.kb nS R8);have Jt:=Hd xP;have tQ:=Hd (Bg.trans nS);have hz7:=tQ.below.size;clear xP nS;go_wp2_with fail;obtain⟨wd,hwd⟩:=aj w7.drew;have hbd:Below w7.heap.size w7 wd:=by rw[hwd];exact(Br _ _).drew
        have hxd:=E5.below hbd E5.lt;have iO:=Ih.below hbd Ih.lt;have OX:=Hd (oV.keep Jt hbd);have Ig:=Hd (tQ.trans (KB.of_below hbd (by have:=tQ.below.size;omega)));have OO:=Hd hxd;have Dy:=Hd hwd;refine aL 15 (by kernel_rfl) (by kernel_rfl) ?_;rw[←Dy];(try clear y0 y1 y2 y3 q0 q1 q2 q3 q4 hlx);have y0:=hxd.c0;have y1:=hxd.c1;have y2:=hxd.c2;have y3:=hxd.c3;rw[←gy]at y0;have z0:=iO.c0;have z1:=iO.c1;have z2:=iO.c2;have z3:=iO.c3;clear hxd iO hwd hbd;simp only[List.take_succ_cons,List.take_zero,List.drop_succ_cons,List.drop_zero]
        repeat still_step
        still_call (Ic _)
        (with_reducible refine jT rfl rfl ?_);with_reducible refine jT rfl rfl ?_
        iterate 6 (with_reducible refine rW ?Nq ?_;case Nq=>kernel_rfl)
        (with_reducible refine wpStill_step (fun K hK=>?_));go_simp;(with_reducible refine hK _ ?_);clear hK K;refine wpStill_nil ?_;go_wp2_with fail;have hbw2:=nH.trans Ig.below;have hih:=ih kd (aX op k) false (d+1) (l++P++lG op) A2 c2 wd jr.1 jr.2.1 (jm) hbw2 OX (by have:=HLEN.out;have:=qR.out;have:=jr.2.2;have:=jM op;simp;omega) (by have:=oH op k;omega);unfold Tm.val at hih;rw[←kU]at hih;have qm:=Hd hih;clear hih hbw2;refine qm.mono ?_;rintro e w8 ⟨rfl,sN,kL⟩;have BM:=Hd (OO.kb kL hbne);have BN:=Hd sN;have BP:=Hd (Ig.trans kL);clear sN kL y0 y1 y2 y3 z0 z1 z2 z3;go_wp2_with fail
        go_roundw
        case rel=>
         have hsl:=eY bB kd (aX op k) false (d+1) jr.2.1;refine⟨k+1,P++lG op++nU aO kd (aX op k) false,by omega,by go_num,?_,BP,BM,?_,?_⟩
         ·have h9:=BN.out;simp only[List.append_assoc]at h9⊢;exact h9
         ·have h1:=qR.out;have h2:Tm.aA (t.kids.take (k+1))=Tm.aA (t.kids.take k)+kd.size:=Ei;have h3:=jM op;simp only[List.length_append];omega
         ·rw[Eh,HDR,aW,zD,iN R9.out];simp
        case measure=>first|(simp[intOf];done)|(simp[intOf];omega)
      ·have hkn:k=n:=by omega
       have hk1:¬(k:Int)<(n:Int):=by omega
       have Zm:Hid (aW aO op t.kids 0 false=P):=by show _=_;rw[Eh,List.drop_eq_nil_of_le (by have:=HN.out;omega),aW,List.append_nil]
       go_wp2_with fail;exact jE HF (by rw[wX false (by rw[wY,vJ])];simp only[Bool.false_eq_true,if_false,Bool.false_or];rw[←gy,z8 vM.1 vM.2.1 vM.2.2.1 vM.2.2.2.1 vM.2.2.2.2.1 vM.2.2.2.2.2,Zm];first|done|simp) Ef BK _ (by first|exact Or.inl rfl|exact Or.inr rfl)
    |true=>
     go_enter_defers Tryz.func128,Tryz.ntmps128
     go_wp2_with fail;refine(Js _).mono ?_;rintro e w1 ⟨rfl,hw⟩;rw[←hw];clear hw;go_wp2_with fail;have HXB:=qH;have y9:=x9;have ze:=uw;(try clear y0 y1 y2 y3);rw[←jy];have HEJ:Hid ((false||true)=true):=by show _=_;rfl
     go_loopw [34] (fun si wr=>∃(k:Nat)(P:Bs),k≤n∧si=.int .i64 k∧oV B b (Lib.byteCells (l++P)) wr∧KB B b w wr∧iM wr w.heap.size A n c t∧P.length≤80*Tm.aA (t.kids.take k)∧aW aO op t.kids 0 true=P++aW aO op (t.kids.drop k) k true) (fun i _=>n-(intOf i).toNat)
     case atStart=>exact⟨0,[],zl _,rfl,by rw[List.append_nil];exact x9,uw,HXB,by simp,rfl⟩
     case round=>
      obtain⟨k,P,hk,rfl,hir,hkr,Np,hpl,hsi⟩:=hrel;have Ef:=Hd hir;have BK:=Hd hkr;have kP:=Hd Np;have qR:=Hd hpl;have Eh:=Hd hsi;have hzr:=hkr.below.size;clear hir hkr Np hpl hsi
      by_cases hlt:k<n
      ·have HLT:=Hd hlt;obtain⟨kd,hkd⟩:∃kd,t.kids[k]?=some kd:=⟨_,gG (by have:=HN.out;omega)⟩;have hmem:kd∈t.kids:=mG hkd
       have HDR:Hid (t.kids.drop k=kd::t.kids.drop (k+1)):=by
        obtain⟨hj,hj2⟩:=gE.1 hkd;show _=_;rw[List.drop_eq_getElem_cons hj,hj2]
       have Ei:=Hd (Tm.j4 hkd)
       have jr:Hid (kd.size≤N∧kd.lI (d+1)∧Tm.aA (t.kids.take k)+kd.size+1≤t.size):=by
        have h1:=Tm.aM hmem;have h2:=mg.out;have h3:=Tm.eH t.kids (k+1);rw[Ei]at h3;exact⟨by omega,EZ kd hmem,by omega⟩
       have hbr:Below B w0 wr:=nH.trans BK.below
       rcases HV.kids with h9|⟨g,off,rfl,hg,hrow⟩
       ·rw[h9]at hkd;simp at hkd
       obtain⟨q0,q1,q2,A2,c2,q3,hV2⟩:=(hrow.get hkd).open;have hgB:g<B:=by rw[hB];exact hg
       have jm:=Hd hV2;obtain⟨n2,hn2⟩:=aj kd.kids.length;rw[←hn2]at q3;rw[show off+4*k=off+k*4 from by omega]at q0 q1 q2 q3;have kU:=Hd hn2
       have HQ:Hid (∀W,Below B w0 W→W.cell? ⟨g,off+k*4,none⟩=some (.int .i64 kd.op)∧W.cell? ⟨g,off+k*4+1,none⟩=some (.int .i64 kd.num)∧W.cell? ⟨g,off+k*4+2,none⟩=some (.string kd.name)∧W.cell? ⟨g,off+k*4+3,none⟩=some (.slice A2 n2 c2)∧g<W.heap.size):=fun W hW=>
        ⟨by rw[hW.cell (p:=⟨g,_,none⟩) hgB];exact q0,by rw[hW.cell (p:=⟨g,_,none⟩) hgB];exact q1,by rw[hW.cell (p:=⟨g,_,none⟩) hgB];exact q2,by rw[hW.cell (p:=⟨g,_,none⟩) hgB];exact q3,by have:=hW.size;omega⟩
       have kJ:=Hd hbr;clear hkd hmem hrow q0 q1 q2 q3 hV2 hn2 hg hgB hbr;have hk0:(0:Int)≤(k:Int):=by omega
       have hk1:(k:Int)<(n:Int):=by omega
       obtain⟨lb,hlb⟩:=aj (decide (k+1=n));have Ku:((k:Int)==(n:Int)-1)=lb:=by rw[hlb];by_cases h:k+1=n<;>simp[h]<;>omega
       have zD:Hid ((t.kids.drop (k+1)).isEmpty=lb):=by show _=_;rw[hlb,Bool.eq_iff_iff,List.isEmpty_iff,List.drop_eq_nil_iff,decide_eq_true_iff,←HN];constructor<;>intro h<;>omega
       clear hlb;have Ic:Hid (∀W,Calls Tryz.prog 163 #[.int .i64 op,.int .i64 (k:Nat)] W fun e w'=>e=.returned (.int .i64 (aX op k:Nat))∧w'=W):=fun W=>(Ci op k W (by omega) (fun h=>by have:=H8 h;omega)).mono fun _ _ ⟨h1,h2⟩=>⟨h1,h2.symm⟩;obtain⟨wk,hwk⟩:=aj (wr.alloc (.cells #[.int .i64 kd.op,.int .i64 kd.num,.string kd.name,.slice A2 n2 c2] 64));have hbk:=dz hwk;have hxk:=kP.below hbk kP.lt;have hkk:iM wk wr.heap.size A2 n2 c2 kd:=by rw[hwk];exact eu wr _
       have hik:oV B b (Lib.byteCells (l++P)) wk:=oV.keep Ef hbk;have RZ:KB B b w wk:=BK.trans (KB.of_below hbk (by have:=p9.out;omega));have agL:=oV.lt Ef;have R8:wr.heap.size≠b:=by omega
       have Ie:=Hd hwk;have Oa:=Hd hxk;have HKK:=Hd hkk;have HIK:=Hd hik;have Bg:=Hd RZ;have hzk:=RZ.below.size;obtain⟨q0,q1,q2,q3,q4⟩:=HQ wr kJ;have hlx:=kP.lt;have y0:=kP.c0;have y1:=kP.c1;have y2:=kP.c2;have y3:=kP.c3;rw[←gy]at y0;clear hwk hbk hxk hkk hik RZ
       by_cases Bh:k=0
       ·subst Bh;have Zn:((0:Int)==(n:Int)-1)=lb:=Ku;rw[Nat.zero_mul,Nat.add_zero]at q0 q1 q2 q3;go_wp2_with fail;obtain⟨wd,hwd⟩:=aj wk.drew;have hbd:Below wk.heap.size wk wd:=by rw[hwd];exact(Br _ _).drew
        have hxd:=Oa.below hbd Oa.lt;have iO:=HKK.below hbd HKK.lt;have OX:=Hd (oV.keep HIK hbd);have Ig:=Hd (Bg.trans (KB.of_below hbd (by have:=Bg.below.size;omega)));have OO:=Hd hxd;have Dy:=Hd hwd;refine aL 15 (by kernel_rfl) (by kernel_rfl) ?_;rw[←Ie,←Dy];(try clear y0 y1 y2 y3 q0 q1 q2 q3 q4 hlx);have y0:=hxd.c0;have y1:=hxd.c1;have y2:=hxd.c2;have y3:=hxd.c3;rw[←gy]at y0;have z0:=iO.c0;have z1:=iO.c1;have z2:=iO.c2;have z3:=iO.c3;clear hxd iO hwd hbd;simp only[List.take_succ_cons,List.take_zero,List.drop_succ_cons,List.drop_zero]
        repeat still_step
        still_call (Ic _)
        repeat still_step
        refine wpStill_nil ?_;go_wp2_with fail;rw[Zn];have hbw2:=nH.trans Ig.below;have hih:=ih kd (aX op 0) lb (d+1) (l++P) A2 c2 wd jr.1 jr.2.1 (jm) hbw2 OX (by have:=HLEN.out;have:=qR.out;have:=jr.2.2; simp;omega) (by have:=oH op 0;omega);unfold Tm.val at hih;rw[←kU]at hih;have qm:=Hd hih;clear hih hbw2;refine qm.mono ?_;rintro e w8 ⟨rfl,sN,kL⟩;have BM:=Hd (OO.kb kL hbne);have BN:=Hd sN;have BP:=Hd (Ig.trans kL);clear sN kL y0 y1 y2 y3 z0 z1 z2 z3;go_wp2_with fail
        go_roundw
        case rel=>
         have hsl:=eY bB kd (aX op 0) lb (d+1) jr.2.1;refine⟨0+1,P++nU aO kd (aX op 0) lb,by omega,rfl,?_,BP,BM,?_,?_⟩
         ·have h9:=BN.out;rw[List.append_assoc]at h9;exact h9
         ·have h1:=qR.out;have h2:Tm.aA (t.kids.take (0+1))=Tm.aA (t.kids.take 0)+kd.size:=Ei;have h3:=jM op;simp only[List.length_append];omega
         ·rw[Eh,HDR,aW,zD,iP rfl];simp
        case measure=>first|(simp[intOf];done)|(simp[intOf];omega)
       ·have R9:=Hd Bh;have hkp:(0:Int)<(k:Int):=by omega
        obtain⟨SG,Lh⟩:∃SG:ByteArray,SG=⟨(iy op).toArray⟩:=⟨_,rfl⟩;have AX:=Hd (fun W=>sS op W);rw[←Lh]at AX;have agM:SG.size≤3:=by rw[Lh,Om];exact nD op
        have Ib:∀W,(Op.stringOp .add (⟨#[32]⟩:ByteArray) SG).run Tryz.prog W=.ok (.string (⟨#[32]⟩++SG)) W:=fun W=>run_string_add_sum W _ _ (by show 1+SG.size≤_;omega);obtain⟨S,hS⟩:∃S:ByteArray,S=⟨#[32]⟩++SG++⟨#[32]⟩:=⟨_,rfl⟩;have LK:Hid (S.size≤5):=by show _≤_;rw[hS,Bf,Bf];show 1+SG.size+1≤5;omega
        have Gq:Hid (S.data.toList=lG op):=by show _=_;rw[hS,Lh];simp[ByteArray.data_append,lG]
        have uP:∀W,(Op.stringOp .add ((⟨#[32]⟩:ByteArray)++SG) ⟨#[32]⟩).run Tryz.prog W=.ok (.string S) W:=fun W=>by rw[hS];exact run_string_add_sum W _ _ (by rw[Bf];show 1+SG.size+1≤_;omega)
        clear Bh hS Lh;go_wp2_with fail;rw[←Ie];refine(AX _).mono ?_;rintro e w' ⟨rfl,hw⟩;rw[←hw];clear hw y0 y1 y2 y3 q0 q1 q2 q3 q4 hlx;go_wp2_with fail;refine(bS B b (l++P) S wk HIK (by have:=HLEN.out;have:=qR.out;have:=jr.2.2;have:=LK.out;simp;omega) (by have:=p9.out;omega)).mono ?_;rintro e w7 ⟨rfl,xP,nS⟩;rw[Gq]at xP;have E5:=Hd (Oa.kb nS hbne);have Ih:=Hd (HKK.kb nS R8);have Jt:=Hd xP;have tQ:=Hd (Bg.trans nS);have hz7:=tQ.below.size;clear xP nS;go_wp2_with fail;obtain⟨wd,hwd⟩:=aj w7.drew;have hbd:Below w7.heap.size w7 wd:=by rw[hwd];exact(Br _ _).drew
        have hxd:=E5.below hbd E5.lt;have iO:=Ih.below hbd Ih.lt;have OX:=Hd (oV.keep Jt hbd);have Ig:=Hd (tQ.trans (KB.of_below hbd (by have:=tQ.below.size;omega)));have OO:=Hd hxd;have Dy:=Hd hwd;refine aL 15 (by kernel_rfl) (by kernel_rfl) ?_;rw[←Dy];(try clear y0 y1 y2 y3 q0 q1 q2 q3 q4 hlx);have y0:=hxd.c0;have y1:=hxd.c1;have y2:=hxd.c2;have y3:=hxd.c3;rw[←gy]at y0;have z0:=iO.c0;have z1:=iO.c1;have z2:=iO.c2;have z3:=iO.c3;clear hxd iO hwd hbd;simp only[List.take_succ_cons,List.take_zero,List.drop_succ_cons,List.drop_zero]
        repeat still_step
        still_call (Ic _)
        repeat still_step
        refine wpStill_nil ?_;go_wp2_with fail;rw[Ku];have hbw2:=nH.trans Ig.below;have hih:=ih kd (aX op k) lb (d+1) (l++P++lG op) A2 c2 wd jr.1 jr.2.1 (jm) hbw2 OX (by have:=HLEN.out;have:=qR.out;have:=jr.2.2;have:=jM op;simp;omega) (by have:=oH op k;omega);unfold Tm.val at hih;rw[←kU]at hih;have qm:=Hd hih;clear hih hbw2;refine qm.mono ?_;rintro e w8 ⟨rfl,sN,kL⟩;have BM:=Hd (OO.kb kL hbne);have BN:=Hd sN;have BP:=Hd (Ig.trans kL);clear sN kL y0 y1 y2 y3 z0 z1 z2 z3;go_wp2_with fail
        go_roundw
        case rel=>
         have hsl:=eY bB kd (aX op k) lb (d+1) jr.2.1;refine⟨k+1,P++lG op++nU aO kd (aX op k) lb,by omega,by go_num,?_,BP,BM,?_,?_⟩
         ·have h9:=BN.out;simp only[List.append_assoc]at h9⊢;exact h9
         ·have h1:=qR.out;have h2:Tm.aA (t.kids.take (k+1))=Tm.aA (t.kids.take k)+kd.size:=Ei;have h3:=jM op;simp only[List.length_append];omega
         ·rw[Eh,HDR,aW,zD,iN R9.out];simp
        case measure=>first|(simp[intOf];done)|(simp[intOf];omega)
      ·have hkn:k=n:=by omega
       have hk1:¬(k:Int)<(n:Int):=by omega
       have Zm:Hid (aW aO op t.kids 0 true=P):=by show _=_;rw[Eh,List.drop_eq_nil_of_le (by have:=HN.out;omega),aW,List.append_nil]
       go_wp2_with fail;exact jE HF (by rw[wX false (by rw[wY,vJ])];simp only[Bool.false_eq_true,if_false,Bool.false_or];rw[←gy,z8 vM.1 vM.2.1 vM.2.2.1 vM.2.2.2.1 vM.2.2.2.2.1 vM.2.2.2.2.2,Zm];first|done|simp) Ef BK _ (by first|exact Or.inl rfl|exact Or.inr rfl)
end Go.Proofs.YtkhoeoilamddaaaGreatDoor
