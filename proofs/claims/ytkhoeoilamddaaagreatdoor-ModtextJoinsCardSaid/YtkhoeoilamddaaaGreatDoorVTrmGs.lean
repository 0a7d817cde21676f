/- Walks and plain words: TrmGs TrmHs. -/
import Derived.Test.YtkhoeoilamddaaaGreatDoorVBld
namespace Go.Proofs.YtkhoeoilamddaaaGreatDoor
open Go.RowKit
set_option linter.unusedVariables false
set_option maxRecDepth 100000
set_option maxHeartbeats 16000000
theorem ruleOf_le (op:Int):ruleOf op≤8:=by
 unfold ruleOf
 iterate 8 (split;· omega)
 omega
def TBox (w:World) (bx:Nat) (A:Option Addr) (n c:Nat) (t:Tm):Prop:=w.heap[bx]?=some (.cells #[.int .i64 t.op,.int .i64 t.num,.string t.name,.slice A n c] 64 (0,0))
section
variable {w w':World} {bx:Nat} {A:Option Addr} {n c:Nat} {t:Tm}
theorem TBox.c0 (h:TBox w bx A n c t):w.cell? ⟨bx,0,none⟩=some (.int .i64 t.op):=by rw [cR w bx 0 _ _ (0,0) h];rfl
theorem TBox.c1 (h:TBox w bx A n c t):w.cell? ⟨bx,1,none⟩=some (.int .i64 t.num):=by rw [cR w bx 1 _ _ (0,0) h];rfl
theorem TBox.c2 (h:TBox w bx A n c t):w.cell? ⟨bx,2,none⟩=some (.string t.name):=by rw [cR w bx 2 _ _ (0,0) h];rfl
theorem TBox.c3 (h:TBox w bx A n c t):w.cell? ⟨bx,3,none⟩=some (.slice A n c):=by rw [cR w bx 3 _ _ (0,0) h];rfl
theorem TBox.lt (h:TBox w bx A n c t):bx<w.heap.size:=by
 rcases Nat.lt_or_ge bx w.heap.size with hlt | hge
 · exact hlt
 · unfold TBox at h;rw [Array.getElem?_eq_none hge] at h;cases h
theorem TBox.kb {B b:Nat} (h:TBox w bx A n c t) (k:KB B b w w') (hb:bx≠b):TBox w' bx A n c t:=by
 refine (k.keep bx h.lt hb fun cs fz h2=>?_).trans h;rw [show w.heap[bx]?=_ from h] at h2
 injection h2 with h2
 injection h2 with _ h3 _
 exact absurd h3 (by decide)
theorem TBox.below {B:Nat} (h:TBox w bx A n c t) (k:Below B w w') (hb:bx<B):TBox w' bx A n c t:=(k.block bx hb).trans h
end
def PutPost (B b:Nat) (L:Bs) (w:World) (e:Ending) (w':World):Prop:=e=.returned (.tuple #[])∧IsB B b (Lib.byteCells L) w'∧KB B b w w'
def dfr (b:Nat):Deferred:={ target:=.fn (.func 161) #[],args:=#[.pointer (some ⟨b,0,none⟩),.int .u8 41] }
theorem put_door1 {B b:Nat} {w w2:World} {L M:Bs} {tmps:Array Value} {F:Ending→World→Prop} (hF:F=PutPost B b M w) (hM:M=L++[41]) (hI:IsB B b (Lib.byteCells L) w2) (hk:KB B b w w2) (hlen:L.length+1≤140737488355328) (hBw:B≤w2.heap.size) (ex:Exit) (hex:ex=.normal∨ex=.ret) :
 bodyPostD Tryz.prog Tryz.f128 F ex { tmps:=tmps,defers:=[dfr b] } w2:=by
 subst hF hM
 have key:Leaves Tryz.prog Tryz.f128 tmps (PutPost B b (L++[41]) w) [dfr b] .returning w2:=by
  refine leaves_cons (f:=161) (args:=#[.pointer (some ⟨b,0,none⟩),.int .u8 41]) (by simp) (by simp [go_sem]) ?_;refine (wbyte_d .returning B b L 41 w2 hI hlen hBw).mono ?_;rintro e u' w'' ⟨rfl,rfl,h1,h2⟩;exact ⟨_,results_none rfl _ _ _,rfl,h1,hk.trans h2⟩
 rcases hex with rfl | rfl
 · exact key
 · exact key
theorem put_door0 {B b:Nat} {w w2:World} {L M:Bs} {tmps:Array Value} {F:Ending→World→Prop} (hF:F=PutPost B b M w) (hM:M=L) (hI:IsB B b (Lib.byteCells L) w2) (hk:KB B b w w2) (ex:Exit) (hex:ex=.normal∨ex=.ret) :
 bodyPostD Tryz.prog Tryz.f128 F ex { tmps:=tmps,defers:=[] } w2:=by
 subst hF hM;have key:Leaves Tryz.prog Tryz.f128 tmps (PutPost B b M w) [] .returning w2:=⟨_,results_none rfl _ _ _,rfl,hI,hk⟩
 rcases hex with rfl | rfl
 · exact key
 · exact key
theorem putX {l X S:Bs} (p:Bool) (h:S=wrapP p X):l++S=if p then (l++[40]++X)++[41] else l++X:=by
 subst h;cases p <;> simp [wrapP]
def slimT:Nat→Tm→Nat→Bool
 | 0,_,_=>false
 | N+1,t,r=>(t.op == 1 || t.op == 3 || t.op == 10) && decide (r≤ruleOf t.op) && t.kids.all (fun k=>slimT N k 6)
theorem slimT_open {N:Nat} {t:Tm} {r:Nat} (h:slimT (N+1) t r=true):(t.op=1∨t.op=3∨t.op=10)∧r≤ruleOf t.op∧∀ k∈t.kids,slimT N k 6=true:=by
 rw [slimT] at h;simp only [Bool.and_eq_true,Bool.or_eq_true,beq_iff_eq,List.all_eq_true,decide_eq_true_iff] at h;obtain ⟨⟨h1,h2⟩,h3⟩:=h;exact ⟨by omega,h2,h3⟩
theorem ix0 (W:World):(Instr.index 224 (Value.agg #[.string ⟨#[105,102,32]⟩,.string ⟨#[32,116,104,101,110,32]⟩,.string ⟨#[32,101,108,115,101,32]⟩]) (.int .i64 0)).run Tryz.prog W=.ok (.string ⟨#[105,102,32]⟩) W:=by kernel_rfl
theorem ix1 (W:World):(Instr.index 224 (Value.agg #[.string ⟨#[105,102,32]⟩,.string ⟨#[32,116,104,101,110,32]⟩,.string ⟨#[32,101,108,115,101,32]⟩]) (.int .i64 1)).run Tryz.prog W=.ok (.string ⟨#[32,116,104,101,110,32]⟩) W:=by kernel_rfl
theorem ix2 (W:World):(Instr.index 224 (Value.agg #[.string ⟨#[105,102,32]⟩,.string ⟨#[32,116,104,101,110,32]⟩,.string ⟨#[32,101,108,115,101,32]⟩]) (.int .i64 2)).run Tryz.prog W=.ok (.string ⟨#[32,101,108,115,101,32]⟩) W:=by kernel_rfl
theorem wp_region_still_drew {id:Nat} {Q:Exit→Act→World→Prop} {a:Act} {w:World} {l:List Oper} (n:Nat) (hm:Tryz.prog.follows .mixedOrders=true) (hB:Region.lexTailB .any l.toArray n=true)
 (h:wpStill Tryz.prog l.toArray w.drew (fun a'=>wpList Tryz.prog l.toArray Q (l.drop n) a' w.drew) (l.take n) a):(Code.region id l.toArray true).wp Tryz.prog Q a w:=wp_region_still_tail n hm hB h
theorem asksN_le (op:Int) (i:Nat):asksN op i≤10+i:=by
 unfold asksN
 iterate 7 (split;· omega)
 omega
theorem betw_len (op:Int):(betw op).length≤5:=by
 have:=signB_len op;unfold betw;simp;omega
theorem wpStill_skip {P:Program} {ops:Array Oper} {w:World} {Q:Act→Prop} {a:Act} {o:Oper} {rest:List Oper} (hn:Region.wanted o (yielded ops a.tmps)=false) (h:wpStill P ops w Q rest (a.put o.dst undef)):wpStill P ops w Q (o :: rest) a:=by
 unfold wpStill;rw [iN (by rw [hn];decide)];exact h
theorem wpStill_move {P:Program} {ops:Array Oper} {w:World} {Q:Act→Prop} {a:Act} {o:Oper} {rest:List Oper} {x:Operand} (hg:o.guard=none) (ho:o.op=.move x) (h:wpStill P ops w Q rest (a.put o.dst (a.eval x))):wpStill P ops w Q (o :: rest) a:=by
 unfold wpStill;rw [iP (by simp [Region.wanted,hg])];unfold Oper.still execOp;simp only [ho];exact ⟨rfl,h⟩
theorem kidsOf_le (op:Int):(kidsOf op).2≤64:=by
 unfold kidsOf
 iterate 5 (split;· simp)
 simp
theorem bapp (a b:ByteArray):(a++b).size=a.size+b.size:=by simp
theorem bsz (l:Bs):(⟨l.toArray⟩:ByteArray).size=l.length:=by simp [ByteArray.size]
theorem bodyE_1 {n:Int} {s b5 b18 bj:Bs}:bodyE numS 1 n s b5 b18 bj=numS n:=by simp [bodyE,loneT]
theorem bodyE_2 {n:Int} {s b5 b18 bj:Bs}:bodyE numS 2 n s b5 b18 bj=if n=1 then [116,114,117,101] else [102,97,108,115,101]:=by simp [bodyE,loneT]
theorem bodyE_3 {n:Int} {s b5 b18 bj:Bs}:bodyE numS 3 n s b5 b18 bj=s:=by simp [bodyE,loneT]
theorem bodyE_4 {n:Int} {s b5 b18 bj:Bs}:bodyE numS 4 n s b5 b18 bj=[110,101,120,116,40]++s++[41]:=by simp [bodyE,loneT]
theorem bodyE_5 {n:Int} {s b5 b18 bj:Bs}:bodyE numS 5 n s b5 b18 bj=[33]++b5:=by simp [bodyE]
theorem bodyE_18 {n:Int} {s b5 b18 bj:Bs}:bodyE numS 18 n s b5 b18 bj=b18:=by simp [bodyE]
theorem bodyE_op {op n:Int} {s b5 b18 bj:Bs} (h1:op≠1) (h2:op≠2) (h3:op≠3) (h4:op≠4) (h5:op≠5) (h18:op≠18):bodyE numS op n s b5 b18 bj=bj:=by simp [bodyE,h1,h2,h3,h4,h5,h18]
theorem aft {B b g:Nat} {w wA w1:World} {L:List Value} {A:Option Addr} {n c:Nat} {t:Tm} {op:Int} (hi:IsB B b L w1) (hk:KB B b wA w1) (HX:Hid (TBox wA g A n c t)) (HK:Hid (KB B b w wA)) (hne:g≠b) (HO:Hid (op=t.op)) :
 Hid (TBox w1 g A n c t)∧Hid (IsB B b L w1)∧Hid (KB B b w w1)∧w.heap.size≤w1.heap.size∧w1.cell? ⟨g,0,none⟩=some (.int .i64 op)∧w1.cell? ⟨g,1,none⟩=some (.int .i64 t.num)∧w1.cell? ⟨g,2,none⟩=some (.string t.name)∧w1.cell? ⟨g,3,none⟩=some (.slice A n c):=by
 have hx:=HX.out.kb hk hne;have hK:=HK.out.trans hk;exact ⟨hx,hi,hK,hK.below.size,by rw [HO.out];exact hx.c0,hx.c1,hx.c2,hx.c3⟩
theorem put_any (B b:Nat) (w0:World) (hB:B=w0.heap.size):∀ (N:Nat) (t:Tm) (rule:Nat) (ends:Bool) (d:Nat) (l:Bs) (A:Option Addr) (c:Nat) (w:World),t.size≤N→slimT N t rule=true→t.okT d→TmV w0 A c t→Below B w0 w→IsB B b (Lib.byteCells l) w→l.length+80*t.size≤1000000000→rule≤10000000 →
 Calls Tryz.prog 128 #[.pointer (some ⟨b,0,none⟩),t.val A c,.int .i64 (rule:Nat),.bool ends] w (PutPost B b (l++shw numS t rule ends) w):=by
 intro N
 induction N with
 | zero=>
  intro t rule ends d l A c w hN;cases t;rw [Tm.size] at hN;omega
 | succ N ih=>
  intro t rule ends d l A c w hN hsm hok hV hbel hI hlen hrule;obtain ⟨n,hn⟩:=ex_ t.kids.length;obtain ⟨hd64,hwr,hkids⟩:=okT_open hok;have hwk:=wrong_ok hwr;obtain ⟨hs1,hs2,hs3⟩:=slimT_open hsm;have HS3:=Hd hs3;clear hsm hs3;obtain ⟨r,hr⟩:=ex_ (ruleOf t.op);have hr8:r≤8:=by rw [hr];exact ruleOf_le _
  rw [←hr] at hs2;have HRU:=Hd (fun W=>ruleOf_any t.op W);rw [←hr] at HRU;have hbw:B≤w.heap.size:=by rw [hB];exact hbel.size
  have hbb:=IsB.lt hI;obtain ⟨wb,hwb⟩:=ex_ (w.alloc (.cells #[.int .i64 t.op,.int .i64 t.num,.string t.name,.slice A n c] 64));have hb1:=bAl hwb;have hsb:wb.heap.size=w.heap.size+1:=by rw [hwb];simp
  have hbx:TBox wb w.heap.size A n c t:=by rw [hwb];exact hA_ w _
  have hIb:IsB B b (Lib.byteCells l) wb:=IsB.keep hI hb1;have hkb:KB B b w wb:=KB.of_below hb1 hbw;have hbne:w.heap.size≠b:=by omega
  have hsl:t.name.data.toList.length=t.name.size:=by simp
  have HWB:=Hd hwb;have HBX:=Hd hbx;have HIB:=Hd hIb;have HKB:=Hd hkb;have HSB:=Hd hsb;have HV:=Hd hV;have HN:=Hd hn;have HR:=Hd hr;have HWK:=Hd hwk;have HKIDS:=Hd hkids;have HSL:=Hd hsl;have HBEL:=Hd hbel;have hts:1≤t.size:=by cases t;rw [Tm.size];omega
  have HLEN:=Hd hlen;have HSZ:Hid (t.size=1+Tm.sizeL t.kids∧t.size≤N+1):=⟨by cases t;rw [Tm.size];rfl,hN⟩;obtain ⟨F,hF⟩:=ex_ (PutPost B b (l++shw numS t rule ends) w);have HF:=Hd hF;have HSHW:=Hd (shw_eq t rule ends);obtain ⟨op,hop⟩:=ex_ t.op;have HOP:=Hd hop;unfold Tm.val;rw [←hn,←hF];rw [←hop] at HRU HWB hs1 ⊢;have HS1:=Hd hs1;clear hs1 hok hV hbel hI hlen hwr hkids hwk hr hwb hb1 hsb hbx hIb hkb hsl hn hF hN hop
  by_cases hc3:op=3
  · subst hc3
    by_cases hp:r<rule
    · omega
    · have HPB:Hid (pB t rule ends=false):=by show _=_;unfold pB;rw [←HR.out,dF hp,←HOP.out,dF (by decide)];rfl
      have hp':¬(r:Int)<(rule:Int):=by omega
      clear hp
      go_enter_defers Tryz.func128,Tryz.ntmps128
      go_wp2_with fail;refine (HRU.out _).mono ?_;rintro e w1 ⟨rfl,hw⟩;rw [←hw];clear hw;go_wp2_with fail;have HXB:=HBX;have HIB0:=HIB;have HKB0:=HKB;rw [←HWB.out];refine (wstring_any B b (l) t.name wb HIB.out (by have:=HLEN.out;have:=HSL.out;have:=HWK.out.2.2.1;simp;omega) (by have:=HSB.out;omega)).mono ?_;rintro e w1 ⟨rfl,hi1,hk1⟩;(try clear y0 y1 y2 y3);obtain ⟨HX1,HI1,HK1,hz1,y0,y1,y2,y3⟩:=aft hi1 hk1 HXB HKB hbne HOP;clear hi1 hk1;go_wp2_with fail;exact put_door0 HF.out (by rw [putX false (by rw [HSHW.out,HPB.out])];simp only [Bool.false_eq_true,if_false];rw [←HOP.out,bodyE_3];first | done | simp) HI1.out HK1.out _ (by first | exact Or.inl rfl | exact Or.inr rfl)
  by_cases hc1:op=1
  · subst hc1;have HN255:=Hd (HWK.out.2.1 HOP.out.symm);have hns:=numS_short t.num HN255.out.1 HN255.out.2
    by_cases hp:r<rule
    · omega
    · have HPB:Hid (pB t rule ends=false):=by show _=_;unfold pB;rw [←HR.out,dF hp,←HOP.out,dF (by decide)];rfl
      have hp':¬(r:Int)<(rule:Int):=by omega
      clear hp
      go_enter_defers Tryz.func128,Tryz.ntmps128
      go_wp2_with fail;refine (HRU.out _).mono ?_;rintro e w1 ⟨rfl,hw⟩;rw [←hw];clear hw;go_wp2_with fail;have HXB:=HBX;have HIB0:=HIB;have HKB0:=HKB;rw [←HWB.out];refine (numtext_any t.num wb (by have:=HN255.out;omega) (by have:=HN255.out;omega)).mono ?_;rintro e w1 ⟨rfl,hb1⟩;have HX1:=Hd (HXB.out.below hb1 HXB.out.lt);have HI1:=Hd (IsB.keep HIB.out hb1);have HK1:=Hd (HKB.out.trans (KB.of_below hb1 (by have:=HSB.out;omega)));have hz1:=HK1.out.below.size;clear hb1;(try clear y0 y1 y2 y3);have y0:=HX1.out.c0;have y1:=HX1.out.c1;have y2:=HX1.out.c2;have y3:=HX1.out.c3;rw [←HOP.out] at y0;go_wp2_with fail;refine (wstring_any B b (l) ⟨(numS t.num).toArray⟩ w1 HI1.out (by rw [bsz];have:=HLEN.out;have:=HSL.out;have:=HWK.out.2.2.1;simp;omega) (by have:=HSB.out;omega)).mono ?_;rintro e w2 ⟨rfl,hi2,hk2⟩;(try clear y0 y1 y2 y3);obtain ⟨HX2,HI2,HK2,hz2,y0,y1,y2,y3⟩:=aft hi2 hk2 HX1 HK1 hbne HOP;clear hi2 hk2;go_wp2_with fail;exact put_door0 HF.out (by rw [putX false (by rw [HSHW.out,HPB.out])];simp only [Bool.false_eq_true,if_false];rw [←HOP.out,bodyE_1];first | done | simp) HI2.out HK2.out _ (by first | exact Or.inl rfl | exact Or.inr rfl)
  by_cases hcj:op≠10
  · exact absurd HS1.out (by omega)
  · have h1:op≠1:=by omega
    have h2:op≠2:=by omega
    have h3:op≠3:=by omega
    have h4:op≠4:=by omega
    have h5:op≠5:=by omega
    have h18:op≠18:=by omega
    have HNE:=Hd (And.intro h1 (And.intro h2 (And.intro h3 (And.intro h4 (And.intro h5 h18)))));have b1:(op == 1)=false:=by simpa using h1
    have b2:(op == 2)=false:=by simpa using h2
    have b3:(op == 3)=false:=by simpa using h3
    have b4:(op == 4)=false:=by simpa using h4
    have b5:(op == 5)=false:=by simpa using h5
    have b18:(op == 18)=false:=by simpa using h18
    have H8:Hid (op=8→n≤2):=fun h=>by
     have h2:=HWK.out.2.2.2.2.1;rw [←HOP.out,←HN.out,h] at h2;have e1:kidsOf 8=(2,2):=by simp [kidsOf]
     rw [e1] at h2;simp only at h2;omega
    have hcm:=HV.out.cap
    have hnl:n≤64:=by
     have h9:=HWK.out.2.2.2.2.1;have h10:=kidsOf_le t.op;have:=HN.out;omega
    have HOP10:Hid (op=10):=by show _=_;omega
    clear hcj hc1 hc3 h1 h2 h3 h4 h5
    by_cases hp:r<rule
    · omega
    · have HPB:Hid (pB t rule ends=false):=by show _=_;unfold pB;rw [←HR.out,dF hp,←HOP.out,dF (h18)];rfl
      have hp':¬(r:Int)<(rule:Int):=by omega
      have hpd:=dF hp;clear hp h18
      cases ends with
      | false=>
       go_enter_defers Tryz.func128,Tryz.ntmps128
       go_wp2_with fail;refine (HRU.out _).mono ?_;rintro e w1 ⟨rfl,hw⟩;rw [←hw];clear hw;go_wp2_with fail;have HXB:=HBX;have HIB0:=HIB;have HKB0:=HKB;(try clear y0 y1 y2 y3);rw [←HWB.out];have HEJ:Hid ((false || false)=false):=by show _=_;rfl
       go_loopw [34] (fun si wr=>∃ (k:Nat) (P:Bs),k≤n∧si=.int .i64 k∧IsB B b (Lib.byteCells (l++P)) wr∧KB B b w wr∧TBox wr w.heap.size A n c t∧P.length≤80*Tm.sizeL (t.kids.take k)∧shwJoin numS op t.kids 0 false=P++shwJoin numS op (t.kids.drop k) k false) (fun i _=>n - (intOf i).toNat)
       case atStart=>exact ⟨0,[],zl _,rfl,by rw [List.append_nil];exact HIB.out,HKB.out,HXB.out,by simp,rfl⟩
       case round=>
        obtain ⟨k,P,hk,rfl,hir,hkr,hxr,hpl,hsi⟩:=hrel;have HIR:=Hd hir;have HKR:=Hd hkr;have HXR:=Hd hxr;have HPL:=Hd hpl;have HSI:=Hd hsi;have hzr:=hkr.below.size;clear hir hkr hxr hpl hsi
        by_cases hlt:k<n
        · have HLT:=Hd hlt;obtain ⟨kd,hkd⟩:∃ kd,t.kids[k]?=some kd:=⟨_,gG (by have:=HN.out;omega)⟩;have hmem:kd∈t.kids:=mG hkd
          have HDR:Hid (t.kids.drop k=kd :: t.kids.drop (k+1)):=by
           obtain ⟨hj,hj2⟩:=gE.1 hkd;show _=_;rw [List.drop_eq_getElem_cons hj,hj2]
          have HSN:=Hd (Tm.sizeL_snoc hkd)
          have HKS:Hid (kd.size≤N∧kd.okT (d+1)∧Tm.sizeL (t.kids.take k)+kd.size+1≤t.size):=by
           have h1:=Tm.sizeL_mem hmem;have h2:=HSZ.out;have h3:=Tm.sizeL_take_le t.kids (k+1);rw [HSN.out] at h3;exact ⟨by omega,HKIDS.out kd hmem,by omega⟩
          have hbr:Below B w0 wr:=HBEL.out.trans HKR.out.below
          rcases HV.out.kids with h9 | ⟨g,off,rfl,hg,hrow⟩
          · rw [h9] at hkd;simp at hkd
          obtain ⟨q0,q1,q2,A2,c2,q3,hV2⟩:=(hrow.get hkd).open;have hgB:g<B:=by rw [hB];exact hg
          have HV2:=Hd hV2;obtain ⟨n2,hn2⟩:=ex_ kd.kids.length;rw [←hn2] at q3;rw [show off+4*k=off+k*4 from by omega] at q0 q1 q2 q3;have HN2:=Hd hn2
          have HQ:Hid (∀ W,Below B w0 W→W.cell? ⟨g,off+k*4,none⟩=some (.int .i64 kd.op)∧W.cell? ⟨g,off+k*4+1,none⟩=some (.int .i64 kd.num)∧W.cell? ⟨g,off+k*4+2,none⟩=some (.string kd.name)∧W.cell? ⟨g,off+k*4+3,none⟩=some (.slice A2 n2 c2)∧g<W.heap.size):=fun W hW=>
           ⟨by rw [hW.cell (p:=⟨g,_,none⟩) hgB];exact q0,by rw [hW.cell (p:=⟨g,_,none⟩) hgB];exact q1,by rw [hW.cell (p:=⟨g,_,none⟩) hgB];exact q2,by rw [hW.cell (p:=⟨g,_,none⟩) hgB];exact q3,by have:=hW.size;omega⟩
          have HKSL:Hid (slimT N kd 6=true):=HS3.out kd hmem;have HBR:=Hd hbr;clear hkd hmem hrow q0 q1 q2 q3 hV2 hn2 hg hgB hbr;have hk0:(0:Int)≤(k:Int):=by omega
          have hk1:(k:Int)<(n:Int):=by omega
          obtain ⟨lb,hlb⟩:=ex_ (decide (k+1=n));have hlb1:((k:Int) == (n:Int) - 1)=lb:=by rw [hlb];by_cases h:k+1=n <;> simp [h] <;> omega
          have HLE:Hid ((t.kids.drop (k+1)).isEmpty=lb):=by show _=_;rw [hlb,Bool.eq_iff_iff,List.isEmpty_iff,List.drop_eq_nil_iff,decide_eq_true_iff,←HN.out];constructor <;> intro h <;> omega
          clear hlb;have HASK:Hid (∀ W,Calls Tryz.prog 163 #[.int .i64 op,.int .i64 (k:Nat)] W fun e w'=>e=.returned (.int .i64 (asksN op k:Nat))∧w'=W):=fun W=>(asks_any op k W (by omega) (fun h=>by have:=H8.out h;omega)).mono fun _ _ ⟨h1,h2⟩=>⟨h1,h2.symm⟩;obtain ⟨wk,hwk⟩:=ex_ (wr.alloc (.cells #[.int .i64 kd.op,.int .i64 kd.num,.string kd.name,.slice A2 n2 c2] 64));have hbk:=bAl hwk;have hxk:=HXR.out.below hbk HXR.out.lt;have hkk:TBox wk wr.heap.size A2 n2 c2 kd:=by rw [hwk];exact hA_ wr _
          have hik:IsB B b (Lib.byteCells (l++P)) wk:=IsB.keep HIR.out hbk;have hKk:KB B b w wk:=HKR.out.trans (KB.of_below hbk (by have:=HSB.out;omega));have hbr2:=IsB.lt HIR.out;have hnb2:wr.heap.size≠b:=by omega
          have HWK2:=Hd hwk;have HXK:=Hd hxk;have HKK:=Hd hkk;have HIK:=Hd hik;have HKB2:=Hd hKk;have hzk:=hKk.below.size;obtain ⟨q0,q1,q2,q3,q4⟩:=HQ.out wr HBR.out;have hlx:=HXR.out.lt;have y0:=HXR.out.c0;have y1:=HXR.out.c1;have y2:=HXR.out.c2;have y3:=HXR.out.c3;rw [←HOP.out] at y0;clear hwk hbk hxk hkk hik hKk
          by_cases hk00:k=0
          · subst hk00;have hlb0:((0:Int) == (n:Int) - 1)=lb:=hlb1;rw [Nat.zero_mul,Nat.add_zero] at q0 q1 q2 q3;go_wp2_with fail;obtain ⟨wd,hwd⟩:=ex_ wk.drew;have hbd:Below wk.heap.size wk wd:=by rw [hwd];exact (Br _ _).drew
            have hxd:=HXK.out.below hbd HXK.out.lt;have hkd2:=HKK.out.below hbd HKK.out.lt;have HID:=Hd (IsB.keep HIK.out hbd);have HKD:=Hd (HKB2.out.trans (KB.of_below hbd (by have:=HKB2.out.below.size;omega)));have HXD:=Hd hxd;have HWD:=Hd hwd;refine wp_region_still_drew 15 (by kernel_rfl) (by kernel_rfl) ?_;rw [←HWK2.out,←HWD.out];(try clear y0 y1 y2 y3 q0 q1 q2 q3 q4 hlx);have y0:=hxd.c0;have y1:=hxd.c1;have y2:=hxd.c2;have y3:=hxd.c3;rw [←HOP.out] at y0;have z0:=hkd2.c0;have z1:=hkd2.c1;have z2:=hkd2.c2;have z3:=hkd2.c3;clear hxd hkd2 hwd hbd;simp only [List.take_succ_cons,List.take_zero,List.drop_succ_cons,List.drop_zero]
            repeat still_step
            still_call (HASK.out _)
            (with_reducible refine wpStill_move rfl rfl ?_);with_reducible refine wpStill_move rfl rfl ?_
            iterate 6 (with_reducible refine wpStill_skip ?hskip ?_;case hskip=>kernel_rfl)
            (with_reducible refine wpStill_step (fun K hK=>?_));go_simp;(with_reducible refine hK _ ?_);clear hK K;refine wpStill_nil ?_;go_wp2_with fail;have hbw2:=HBEL.out.trans HKD.out.below;have hih:=ih kd (asksN op 0) false (d+1) (l++P) A2 c2 wd HKS.out.1 (by rw [show asksN op 0=6 by rw [HOP10.out];simp [asksN]];exact HKSL.out) HKS.out.2.1 (HV2.out) hbw2 HID.out (by have:=HLEN.out;have:=HPL.out;have:=HKS.out.2.2; simp;omega) (by have:=asksN_le op 0;omega);unfold Tm.val at hih;rw [←HN2.out] at hih;have HIH:=Hd hih;clear hih hbw2;refine (HIH.out).mono ?_;rintro e w8 ⟨rfl,hi8,hk8⟩;have HX8:=Hd (HXD.out.kb hk8 hbne);have HI8:=Hd hi8;have HK8:=Hd (HKD.out.trans hk8);clear hi8 hk8 y0 y1 y2 y3 z0 z1 z2 z3;go_wp2_with fail
            go_roundw
            case rel=>
             have hsl:=shw_len numS_short kd (asksN op 0) false (d+1) HKS.out.2.1;refine ⟨0+1,P++shw numS kd (asksN op 0) false,by omega,rfl,?_,HK8.out,HX8.out,?_,?_⟩
             · have h9:=HI8.out;rw [List.append_assoc] at h9;exact h9
             · have h1:=HPL.out;have h2:Tm.sizeL (t.kids.take (0+1))=Tm.sizeL (t.kids.take 0)+kd.size:=HSN.out;have h3:=betw_len op;simp only [List.length_append];omega
             · rw [HSI.out,HDR.out,shwJoin,HLE.out,iP rfl];simp
            case measure=>first | (simp [intOf];done) | (simp [intOf];omega)
          · have HK00:=Hd hk00;have hkp:(0:Int)<(k:Int):=by omega
            obtain ⟨SG,hSG⟩:∃ SG:ByteArray,SG=⟨(signB op).toArray⟩:=⟨_,rfl⟩;have HSGN:=Hd (fun W=>signOf_any op W);rw [←hSG] at HSGN;have hsg3:SG.size≤3:=by rw [hSG,bsz];exact signB_len op
            have hcat1:∀ W,(Op.stringOp .add (⟨#[32]⟩:ByteArray) SG).run Tryz.prog W=.ok (.string (⟨#[32]⟩++SG)) W:=fun W=>run_string_add_sum W _ _ (by show 1+SG.size≤_;omega);obtain ⟨S,hS⟩:∃ S:ByteArray,S=⟨#[32]⟩++SG++⟨#[32]⟩:=⟨_,rfl⟩;have HSS:Hid (S.size≤5):=by show _≤_;rw [hS,bapp,bapp];show 1+SG.size+1≤5;omega
            have HSD:Hid (S.data.toList=betw op):=by show _=_;rw [hS,hSG];simp [ByteArray.data_append,betw]
            have hcat2:∀ W,(Op.stringOp .add ((⟨#[32]⟩:ByteArray)++SG) ⟨#[32]⟩).run Tryz.prog W=.ok (.string S) W:=fun W=>by rw [hS];exact run_string_add_sum W _ _ (by rw [bapp];show 1+SG.size+1≤_;omega)
            clear hk00 hS hSG;go_wp2_with fail;rw [←HWK2.out];refine (HSGN.out _).mono ?_;rintro e w' ⟨rfl,hw⟩;rw [←hw];clear hw y0 y1 y2 y3 q0 q1 q2 q3 q4 hlx;go_wp2_with fail;refine (wstring_any B b (l++P) S wk HIK.out (by have:=HLEN.out;have:=HPL.out;have:=HKS.out.2.2;have:=HSS.out;simp;omega) (by have:=HSB.out;omega)).mono ?_;rintro e w7 ⟨rfl,hi7,hk7⟩;rw [HSD.out] at hi7;have HX7:=Hd (HXK.out.kb hk7 hbne);have HKK7:=Hd (HKK.out.kb hk7 hnb2);have HI7:=Hd hi7;have HK7:=Hd (HKB2.out.trans hk7);have hz7:=HK7.out.below.size;clear hi7 hk7;go_wp2_with fail;obtain ⟨wd,hwd⟩:=ex_ w7.drew;have hbd:Below w7.heap.size w7 wd:=by rw [hwd];exact (Br _ _).drew
            have hxd:=HX7.out.below hbd HX7.out.lt;have hkd2:=HKK7.out.below hbd HKK7.out.lt;have HID:=Hd (IsB.keep HI7.out hbd);have HKD:=Hd (HK7.out.trans (KB.of_below hbd (by have:=HK7.out.below.size;omega)));have HXD:=Hd hxd;have HWD:=Hd hwd;refine wp_region_still_drew 15 (by kernel_rfl) (by kernel_rfl) ?_;rw [←HWD.out];(try clear y0 y1 y2 y3 q0 q1 q2 q3 q4 hlx);have y0:=hxd.c0;have y1:=hxd.c1;have y2:=hxd.c2;have y3:=hxd.c3;rw [←HOP.out] at y0;have z0:=hkd2.c0;have z1:=hkd2.c1;have z2:=hkd2.c2;have z3:=hkd2.c3;clear hxd hkd2 hwd hbd;simp only [List.take_succ_cons,List.take_zero,List.drop_succ_cons,List.drop_zero]
            repeat still_step
            still_call (HASK.out _)
            (with_reducible refine wpStill_move rfl rfl ?_);with_reducible refine wpStill_move rfl rfl ?_
            iterate 6 (with_reducible refine wpStill_skip ?hskip ?_;case hskip=>kernel_rfl)
            (with_reducible refine wpStill_step (fun K hK=>?_));go_simp;(with_reducible refine hK _ ?_);clear hK K;refine wpStill_nil ?_;go_wp2_with fail;have hbw2:=HBEL.out.trans HKD.out.below;have hih:=ih kd (asksN op k) false (d+1) (l++P++betw op) A2 c2 wd HKS.out.1 (by rw [show asksN op k=6 by rw [HOP10.out];simp [asksN]];exact HKSL.out) HKS.out.2.1 (HV2.out) hbw2 HID.out (by have:=HLEN.out;have:=HPL.out;have:=HKS.out.2.2;have:=betw_len op;simp;omega) (by have:=asksN_le op k;omega);unfold Tm.val at hih;rw [←HN2.out] at hih;have HIH:=Hd hih;clear hih hbw2;refine (HIH.out).mono ?_;rintro e w8 ⟨rfl,hi8,hk8⟩;have HX8:=Hd (HXD.out.kb hk8 hbne);have HI8:=Hd hi8;have HK8:=Hd (HKD.out.trans hk8);clear hi8 hk8 y0 y1 y2 y3 z0 z1 z2 z3;go_wp2_with fail
            go_roundw
            case rel=>
             have hsl:=shw_len numS_short kd (asksN op k) false (d+1) HKS.out.2.1;refine ⟨k+1,P++betw op++shw numS kd (asksN op k) false,by omega,by go_num,?_,HK8.out,HX8.out,?_,?_⟩
             · have h9:=HI8.out;simp only [List.append_assoc] at h9 ⊢;exact h9
             · have h1:=HPL.out;have h2:Tm.sizeL (t.kids.take (k+1))=Tm.sizeL (t.kids.take k)+kd.size:=HSN.out;have h3:=betw_len op;simp only [List.length_append];omega
             · rw [HSI.out,HDR.out,shwJoin,HLE.out,iN HK00.out];simp
            case measure=>first | (simp [intOf];done) | (simp [intOf];omega)
        · have hkn:k=n:=by omega
          have hk1:¬(k:Int)<(n:Int):=by omega
          have HSF:Hid (shwJoin numS op t.kids 0 false=P):=by show _=_;rw [HSI.out,List.drop_eq_nil_of_le (by have:=HN.out;omega),shwJoin,List.append_nil]
          go_wp2_with fail;exact put_door0 HF.out (by rw [putX false (by rw [HSHW.out,HPB.out])];simp only [Bool.false_eq_true,if_false,Bool.false_or];rw [←HOP.out,bodyE_op HNE.out.1 HNE.out.2.1 HNE.out.2.2.1 HNE.out.2.2.2.1 HNE.out.2.2.2.2.1 HNE.out.2.2.2.2.2,HSF.out];first | done | simp) HIR.out HKR.out _ (by first | exact Or.inl rfl | exact Or.inr rfl)
      | true=>
       go_enter_defers Tryz.func128,Tryz.ntmps128
       go_wp2_with fail;refine (HRU.out _).mono ?_;rintro e w1 ⟨rfl,hw⟩;rw [←hw];clear hw;go_wp2_with fail;have HXB:=HBX;have HIB0:=HIB;have HKB0:=HKB;(try clear y0 y1 y2 y3);rw [←HWB.out];have HEJ:Hid ((false || true)=true):=by show _=_;rfl
       go_loopw [34] (fun si wr=>∃ (k:Nat) (P:Bs),k≤n∧si=.int .i64 k∧IsB B b (Lib.byteCells (l++P)) wr∧KB B b w wr∧TBox wr w.heap.size A n c t∧P.length≤80*Tm.sizeL (t.kids.take k)∧shwJoin numS op t.kids 0 true=P++shwJoin numS op (t.kids.drop k) k true) (fun i _=>n - (intOf i).toNat)
       case atStart=>exact ⟨0,[],zl _,rfl,by rw [List.append_nil];exact HIB.out,HKB.out,HXB.out,by simp,rfl⟩
       case round=>
        obtain ⟨k,P,hk,rfl,hir,hkr,hxr,hpl,hsi⟩:=hrel;have HIR:=Hd hir;have HKR:=Hd hkr;have HXR:=Hd hxr;have HPL:=Hd hpl;have HSI:=Hd hsi;have hzr:=hkr.below.size;clear hir hkr hxr hpl hsi
        by_cases hlt:k<n
        · have HLT:=Hd hlt;obtain ⟨kd,hkd⟩:∃ kd,t.kids[k]?=some kd:=⟨_,gG (by have:=HN.out;omega)⟩;have hmem:kd∈t.kids:=mG hkd
          have HDR:Hid (t.kids.drop k=kd :: t.kids.drop (k+1)):=by
           obtain ⟨hj,hj2⟩:=gE.1 hkd;show _=_;rw [List.drop_eq_getElem_cons hj,hj2]
          have HSN:=Hd (Tm.sizeL_snoc hkd)
          have HKS:Hid (kd.size≤N∧kd.okT (d+1)∧Tm.sizeL (t.kids.take k)+kd.size+1≤t.size):=by
           have h1:=Tm.sizeL_mem hmem;have h2:=HSZ.out;have h3:=Tm.sizeL_take_le t.kids (k+1);rw [HSN.out] at h3;exact ⟨by omega,HKIDS.out kd hmem,by omega⟩
          have hbr:Below B w0 wr:=HBEL.out.trans HKR.out.below
          rcases HV.out.kids with h9 | ⟨g,off,rfl,hg,hrow⟩
          · rw [h9] at hkd;simp at hkd
          obtain ⟨q0,q1,q2,A2,c2,q3,hV2⟩:=(hrow.get hkd).open;have hgB:g<B:=by rw [hB];exact hg
          have HV2:=Hd hV2;obtain ⟨n2,hn2⟩:=ex_ kd.kids.length;rw [←hn2] at q3;rw [show off+4*k=off+k*4 from by omega] at q0 q1 q2 q3;have HN2:=Hd hn2
          have HQ:Hid (∀ W,Below B w0 W→W.cell? ⟨g,off+k*4,none⟩=some (.int .i64 kd.op)∧W.cell? ⟨g,off+k*4+1,none⟩=some (.int .i64 kd.num)∧W.cell? ⟨g,off+k*4+2,none⟩=some (.string kd.name)∧W.cell? ⟨g,off+k*4+3,none⟩=some (.slice A2 n2 c2)∧g<W.heap.size):=fun W hW=>
           ⟨by rw [hW.cell (p:=⟨g,_,none⟩) hgB];exact q0,by rw [hW.cell (p:=⟨g,_,none⟩) hgB];exact q1,by rw [hW.cell (p:=⟨g,_,none⟩) hgB];exact q2,by rw [hW.cell (p:=⟨g,_,none⟩) hgB];exact q3,by have:=hW.size;omega⟩
          have HKSL:Hid (slimT N kd 6=true):=HS3.out kd hmem;have HBR:=Hd hbr;clear hkd hmem hrow q0 q1 q2 q3 hV2 hn2 hg hgB hbr;have hk0:(0:Int)≤(k:Int):=by omega
          have hk1:(k:Int)<(n:Int):=by omega
          obtain ⟨lb,hlb⟩:=ex_ (decide (k+1=n));have hlb1:((k:Int) == (n:Int) - 1)=lb:=by rw [hlb];by_cases h:k+1=n <;> simp [h] <;> omega
          have HLE:Hid ((t.kids.drop (k+1)).isEmpty=lb):=by show _=_;rw [hlb,Bool.eq_iff_iff,List.isEmpty_iff,List.drop_eq_nil_iff,decide_eq_true_iff,←HN.out];constructor <;> intro h <;> omega
          clear hlb;have HASK:Hid (∀ W,Calls Tryz.prog 163 #[.int .i64 op,.int .i64 (k:Nat)] W fun e w'=>e=.returned (.int .i64 (asksN op k:Nat))∧w'=W):=fun W=>(asks_any op k W (by omega) (fun h=>by have:=H8.out h;omega)).mono fun _ _ ⟨h1,h2⟩=>⟨h1,h2.symm⟩;obtain ⟨wk,hwk⟩:=ex_ (wr.alloc (.cells #[.int .i64 kd.op,.int .i64 kd.num,.string kd.name,.slice A2 n2 c2] 64));have hbk:=bAl hwk;have hxk:=HXR.out.below hbk HXR.out.lt;have hkk:TBox wk wr.heap.size A2 n2 c2 kd:=by rw [hwk];exact hA_ wr _
          have hik:IsB B b (Lib.byteCells (l++P)) wk:=IsB.keep HIR.out hbk;have hKk:KB B b w wk:=HKR.out.trans (KB.of_below hbk (by have:=HSB.out;omega));have hbr2:=IsB.lt HIR.out;have hnb2:wr.heap.size≠b:=by omega
          have HWK2:=Hd hwk;have HXK:=Hd hxk;have HKK:=Hd hkk;have HIK:=Hd hik;have HKB2:=Hd hKk;have hzk:=hKk.below.size;obtain ⟨q0,q1,q2,q3,q4⟩:=HQ.out wr HBR.out;have hlx:=HXR.out.lt;have y0:=HXR.out.c0;have y1:=HXR.out.c1;have y2:=HXR.out.c2;have y3:=HXR.out.c3;rw [←HOP.out] at y0;clear hwk hbk hxk hkk hik hKk
          by_cases hk00:k=0
          · subst hk00;have hlb0:((0:Int) == (n:Int) - 1)=lb:=hlb1;rw [Nat.zero_mul,Nat.add_zero] at q0 q1 q2 q3;go_wp2_with fail;obtain ⟨wd,hwd⟩:=ex_ wk.drew;have hbd:Below wk.heap.size wk wd:=by rw [hwd];exact (Br _ _).drew
            have hxd:=HXK.out.below hbd HXK.out.lt;have hkd2:=HKK.out.below hbd HKK.out.lt;have HID:=Hd (IsB.keep HIK.out hbd);have HKD:=Hd (HKB2.out.trans (KB.of_below hbd (by have:=HKB2.out.below.size;omega)));have HXD:=Hd hxd;have HWD:=Hd hwd;refine wp_region_still_drew 15 (by kernel_rfl) (by kernel_rfl) ?_;rw [←HWK2.out,←HWD.out];(try clear y0 y1 y2 y3 q0 q1 q2 q3 q4 hlx);have y0:=hxd.c0;have y1:=hxd.c1;have y2:=hxd.c2;have y3:=hxd.c3;rw [←HOP.out] at y0;have z0:=hkd2.c0;have z1:=hkd2.c1;have z2:=hkd2.c2;have z3:=hkd2.c3;clear hxd hkd2 hwd hbd;simp only [List.take_succ_cons,List.take_zero,List.drop_succ_cons,List.drop_zero]
            repeat still_step
            still_call (HASK.out _)
            repeat still_step
            refine wpStill_nil ?_;go_wp2_with fail;rw [hlb0];have hbw2:=HBEL.out.trans HKD.out.below;have hih:=ih kd (asksN op 0) lb (d+1) (l++P) A2 c2 wd HKS.out.1 (by rw [show asksN op 0=6 by rw [HOP10.out];simp [asksN]];exact HKSL.out) HKS.out.2.1 (HV2.out) hbw2 HID.out (by have:=HLEN.out;have:=HPL.out;have:=HKS.out.2.2; simp;omega) (by have:=asksN_le op 0;omega);unfold Tm.val at hih;rw [←HN2.out] at hih;have HIH:=Hd hih;clear hih hbw2;refine (HIH.out).mono ?_;rintro e w8 ⟨rfl,hi8,hk8⟩;have HX8:=Hd (HXD.out.kb hk8 hbne);have HI8:=Hd hi8;have HK8:=Hd (HKD.out.trans hk8);clear hi8 hk8 y0 y1 y2 y3 z0 z1 z2 z3;go_wp2_with fail
            go_roundw
            case rel=>
             have hsl:=shw_len numS_short kd (asksN op 0) lb (d+1) HKS.out.2.1;refine ⟨0+1,P++shw numS kd (asksN op 0) lb,by omega,rfl,?_,HK8.out,HX8.out,?_,?_⟩
             · have h9:=HI8.out;rw [List.append_assoc] at h9;exact h9
             · have h1:=HPL.out;have h2:Tm.sizeL (t.kids.take (0+1))=Tm.sizeL (t.kids.take 0)+kd.size:=HSN.out;have h3:=betw_len op;simp only [List.length_append];omega
             · rw [HSI.out,HDR.out,shwJoin,HLE.out,iP rfl];simp
            case measure=>first | (simp [intOf];done) | (simp [intOf];omega)
          · have HK00:=Hd hk00;have hkp:(0:Int)<(k:Int):=by omega
            obtain ⟨SG,hSG⟩:∃ SG:ByteArray,SG=⟨(signB op).toArray⟩:=⟨_,rfl⟩;have HSGN:=Hd (fun W=>signOf_any op W);rw [←hSG] at HSGN;have hsg3:SG.size≤3:=by rw [hSG,bsz];exact signB_len op
            have hcat1:∀ W,(Op.stringOp .add (⟨#[32]⟩:ByteArray) SG).run Tryz.prog W=.ok (.string (⟨#[32]⟩++SG)) W:=fun W=>run_string_add_sum W _ _ (by show 1+SG.size≤_;omega);obtain ⟨S,hS⟩:∃ S:ByteArray,S=⟨#[32]⟩++SG++⟨#[32]⟩:=⟨_,rfl⟩;have HSS:Hid (S.size≤5):=by show _≤_;rw [hS,bapp,bapp];show 1+SG.size+1≤5;omega
            have HSD:Hid (S.data.toList=betw op):=by show _=_;rw [hS,hSG];simp [ByteArray.data_append,betw]
            have hcat2:∀ W,(Op.stringOp .add ((⟨#[32]⟩:ByteArray)++SG) ⟨#[32]⟩).run Tryz.prog W=.ok (.string S) W:=fun W=>by rw [hS];exact run_string_add_sum W _ _ (by rw [bapp];show 1+SG.size+1≤_;omega)
            clear hk00 hS hSG;go_wp2_with fail;rw [←HWK2.out];refine (HSGN.out _).mono ?_;rintro e w' ⟨rfl,hw⟩;rw [←hw];clear hw y0 y1 y2 y3 q0 q1 q2 q3 q4 hlx;go_wp2_with fail;refine (wstring_any B b (l++P) S wk HIK.out (by have:=HLEN.out;have:=HPL.out;have:=HKS.out.2.2;have:=HSS.out;simp;omega) (by have:=HSB.out;omega)).mono ?_;rintro e w7 ⟨rfl,hi7,hk7⟩;rw [HSD.out] at hi7;have HX7:=Hd (HXK.out.kb hk7 hbne);have HKK7:=Hd (HKK.out.kb hk7 hnb2);have HI7:=Hd hi7;have HK7:=Hd (HKB2.out.trans hk7);have hz7:=HK7.out.below.size;clear hi7 hk7;go_wp2_with fail;obtain ⟨wd,hwd⟩:=ex_ w7.drew;have hbd:Below w7.heap.size w7 wd:=by rw [hwd];exact (Br _ _).drew
            have hxd:=HX7.out.below hbd HX7.out.lt;have hkd2:=HKK7.out.below hbd HKK7.out.lt;have HID:=Hd (IsB.keep HI7.out hbd);have HKD:=Hd (HK7.out.trans (KB.of_below hbd (by have:=HK7.out.below.size;omega)));have HXD:=Hd hxd;have HWD:=Hd hwd;refine wp_region_still_drew 15 (by kernel_rfl) (by kernel_rfl) ?_;rw [←HWD.out];(try clear y0 y1 y2 y3 q0 q1 q2 q3 q4 hlx);have y0:=hxd.c0;have y1:=hxd.c1;have y2:=hxd.c2;have y3:=hxd.c3;rw [←HOP.out] at y0;have z0:=hkd2.c0;have z1:=hkd2.c1;have z2:=hkd2.c2;have z3:=hkd2.c3;clear hxd hkd2 hwd hbd;simp only [List.take_succ_cons,List.take_zero,List.drop_succ_cons,List.drop_zero]
            repeat still_step
            still_call (HASK.out _)
            repeat still_step
            refine wpStill_nil ?_;go_wp2_with fail;rw [hlb1];have hbw2:=HBEL.out.trans HKD.out.below;have hih:=ih kd (asksN op k) lb (d+1) (l++P++betw op) A2 c2 wd HKS.out.1 (by rw [show asksN op k=6 by rw [HOP10.out];simp [asksN]];exact HKSL.out) HKS.out.2.1 (HV2.out) hbw2 HID.out (by have:=HLEN.out;have:=HPL.out;have:=HKS.out.2.2;have:=betw_len op;simp;omega) (by have:=asksN_le op k;omega);unfold Tm.val at hih;rw [←HN2.out] at hih;have HIH:=Hd hih;clear hih hbw2;refine (HIH.out).mono ?_;rintro e w8 ⟨rfl,hi8,hk8⟩;have HX8:=Hd (HXD.out.kb hk8 hbne);have HI8:=Hd hi8;have HK8:=Hd (HKD.out.trans hk8);clear hi8 hk8 y0 y1 y2 y3 z0 z1 z2 z3;go_wp2_with fail
            go_roundw
            case rel=>
             have hsl:=shw_len numS_short kd (asksN op k) lb (d+1) HKS.out.2.1;refine ⟨k+1,P++betw op++shw numS kd (asksN op k) lb,by omega,by go_num,?_,HK8.out,HX8.out,?_,?_⟩
             · have h9:=HI8.out;simp only [List.append_assoc] at h9 ⊢;exact h9
             · have h1:=HPL.out;have h2:Tm.sizeL (t.kids.take (k+1))=Tm.sizeL (t.kids.take k)+kd.size:=HSN.out;have h3:=betw_len op;simp only [List.length_append];omega
             · rw [HSI.out,HDR.out,shwJoin,HLE.out,iN HK00.out];simp
            case measure=>first | (simp [intOf];done) | (simp [intOf];omega)
        · have hkn:k=n:=by omega
          have hk1:¬(k:Int)<(n:Int):=by omega
          have HSF:Hid (shwJoin numS op t.kids 0 true=P):=by show _=_;rw [HSI.out,List.drop_eq_nil_of_le (by have:=HN.out;omega),shwJoin,List.append_nil]
          go_wp2_with fail;exact put_door0 HF.out (by rw [putX false (by rw [HSHW.out,HPB.out])];simp only [Bool.false_eq_true,if_false,Bool.false_or];rw [←HOP.out,bodyE_op HNE.out.1 HNE.out.2.1 HNE.out.2.2.1 HNE.out.2.2.2.1 HNE.out.2.2.2.2.1 HNE.out.2.2.2.2.2,HSF.out];first | done | simp) HIR.out HKR.out _ (by first | exact Or.inl rfl | exact Or.inr rfl)
theorem tshow_any (t:Tm) (A:Option Addr) (c:Nat) (w:World) (hsm:slimT t.size t 0=true) (hV:TmV w A c t) (hsz:t.size≤9000000) (hT:WordsT w) :
 Calls Tryz.prog 97 #[t.val A c] w fun e w'=>e=.returned (.tuple #[.string ⟨(showTm t).1.toArray⟩,.int .i64 (showTm t).2])∧Below w.heap.size w w':=by
 have HSM:=Hd hsm;clear hsm;obtain ⟨n,hn⟩:=ex_ t.kids.length;obtain ⟨wb,hwb⟩:=ex_ (w.alloc (.cells #[.int .i64 t.op,.int .i64 t.num,.string t.name,.slice A n c] 64));have hb1:=bAl hwb;have hbx:TBox wb w.heap.size A n c t:=by rw [hwb];exact hA_ w _
 have hsb:w.heap.size<wb.heap.size:=by rw [hwb];simp
 have hck:=check_any t A c wb (hV.below hb1 rfl) hsz;unfold Tm.val at hck ⊢;rw [←hn] at hck ⊢;obtain ⟨ck,HCK0⟩:=exh_ t.check;rw [←HCK0.out] at hck;obtain ⟨R,hR⟩:=ex_ (showTm t);rw [←hR];unfold showTm at hR;rw [←HCK0.out] at hR;have HR:=Hd hR;have HCK:=Hd hck;have HWB:=Hd hwb;have HB1:=Hd hb1;have HBX:=Hd hbx;have HV:=Hd hV;have HT:=Hd hT;have HN:=Hd hn;clear hck hR hwb hb1 hbx hV hT hn;go_enter Tryz.func97,Tryz.ntmps97;go_wp2_with fail;rw [←HWB.out];refine (HCK.out).mono ?_;rintro e w1 ⟨rfl,hb2⟩;have hx1:=HBX.out.below hb2 HBX.out.lt;have HB2:=Hd (HB1.out.trans (hb2.mono (Nat.le_of_lt hsb)));have hs1:=hb2.size;have y0:=hx1.c0;have y1:=hx1.c1;have y2:=hx1.c2;have y3:=hx1.c3;have HX1:=Hd hx1;clear hx1 hb2
 by_cases h0:ck=0
 · have hck:t.check=0:=by rw [←HCK0.out];exact h0
   have htl:=told_any t.size t A c w1 (lr _) hsz (HV.out.below HB2.out rfl) (HT.out.below HB2.out);unfold Tm.val at htl;rw [←HN.out] at htl;obtain ⟨tl,htl0⟩:=ex_ (toldT t);rw [←htl0] at htl;have hr2:=HR.out;rw [iN (fun h=>h h0),←htl0] at hr2;have HR2:=Hd hr2;have HTL:=Hd htl;have HOK:=Hd (check_ok hck);subst h0;clear hck htl htl0 hr2;go_wp2_with fail;refine (HTL.out).mono ?_;rintro e w2 ⟨rfl,hb3⟩;have hx2:=HX1.out.below hb3 HX1.out.lt;have hs2:=hb3.size;have hs1w:=HB2.out.size;have HB3:=Hd (HB2.out.trans (hb3.mono hs1w));clear y0 y1 y2 y3 hb3;have y0:=hx2.c0;have y1:=hx2.c1;have y2:=hx2.c2;have y3:=hx2.c3;have HX2:=Hd hx2;have hlx:=hx2.lt;clear hx2
   cases tl with
   | false=>
    have HRE:Hid (R=([],3)):=by show _=_;rw [HR2.out,iP rfl]
    go_wp2_with fail
    go_ret2
    rw [HRE.out];exact ⟨rfl,HB3.out⟩
   | true=>
    obtain ⟨w3,hw3⟩:=ex_ (w2.alloc (.cells #[.pointer none,.slice none 0 0] 81));have hb4:=bAl hw3;have hI:IsB w2.heap.size w2.heap.size (Lib.byteCells []) w3:=by rw [hw3];exact Lib.fresh_isBuilder _ _ w2
    have hput:=put_any w2.heap.size w2.heap.size w2 rfl t.size t 0 true 1 [] A c w3 (lr _) HSM.out HOK.out.1 (HV.out.below HB3.out rfl) hb4 hI (by have:=HOK.out.2;simp;omega) (by omega);unfold Tm.val at hput;rw [←HN.out,List.nil_append] at hput;have HW3:=Hd hw3;have HPUT:=Hd hput;have hlen:=shw_len numS_short t 0 true 1 HOK.out.1;have hsz4:=HOK.out.2;obtain ⟨S,hS⟩:=ex_ (shw numS t 0 true);rw [←hS] at HPUT hlen;have hr3:=HR2.out;rw [iN (by decide),←hS] at hr3;have HR3:=Hd hr3;clear hw3 hb4 hI hput hS hr3;go_wp2_with fail;rw [←HW3.out];refine (HPUT.out).mono ?_;rintro e w4 ⟨rfl,hi4,hk4⟩;have HI4:=Hd hi4;have hbw4:=hk4.below
    have HB4:Hid (Below w.heap.size w w4):=by
     refine HB3.out.trans (Below.mono (B:=w2.heap.size) ?_ (HB3.out.size));rw [HW3.out] at hbw4;exact (((Br _ _).alloc (lr _) _).trans hbw4)
    have hs4:=hbw4.size;have hlen4:=Tryz.Builder_Len w2.heap.size w2.heap.size (Lib.byteCells S) w4 hi4;rw [Lib.byteCells_length] at hlen4;have HLEN4:=Hd hlen4;have hstr:=Tryz.Builder_String_any w2.heap.size w2.heap.size S w4 hi4 (by have:=(IsB.lt hi4).1;omega);have HSTR:=Hd hstr;have hs24:w.heap.size≤w2.heap.size:=HB3.out.size;clear hi4 hk4 hbw4 hlen4 hstr y0 y1 y2 y3;go_wp2_with fail;refine (HLEN4.out).mono ?_;rintro e w5 ⟨rfl,hw5⟩;subst hw5
    by_cases h6:65536<S.length
    · have HRE:Hid (R=([],4)):=by show _=_;rw [HR3.out,iP h6]
      have h6':(65536:Int)<(S.length:Int):=by omega
      go_wp2_with fail
      go_ret2
      rw [HRE.out];exact ⟨rfl,HB4.out⟩
    · have HRE:Hid (R=(S,0)):=by show _=_;rw [HR3.out,iN h6]
      have h6':¬(65536:Int)<(S.length:Int):=by omega
      go_wp2_with fail;refine (HSTR.out).mono ?_;rintro e w6 ⟨rfl,hb6⟩;have HB6:=Hd (HB4.out.trans (hb6.mono hs24));clear hb6;go_wp2_with fail
      go_ret2
      rw [HRE.out];exact ⟨rfl,HB6.out⟩
 · have HRE:Hid (R=([],ck)):=by show _=_;rw [HR.out,iP h0]
   have h0':(ck != 0)=true:=by simpa using h0
   clear h0;go_wp2_with fail
   go_ret2
   rw [HRE.out];exact ⟨rfl,HB2.out⟩
end Go.Proofs.YtkhoeoilamddaaaGreatDoor
