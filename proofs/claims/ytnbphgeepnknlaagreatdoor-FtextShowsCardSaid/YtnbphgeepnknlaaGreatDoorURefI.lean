/- Walks and plain words: RefI RndP RndQ. -/
import Derived.Test.YtnbphgeepnknlaaGreatDoorURefH
namespace Go.Proofs.YtnbphgeepnknlaaGreatDoor
open Go.RowKit
set_option linter.unusedVariables false
set_option maxRecDepth 100000
set_option maxHeartbeats 8000000
theorem rftext_all:∀ N,RTextC N:=by
 intro N
 induction N with
 | zero=>
  intro f least d Ae ce A c w hN;cases f;rw [Fm.size] at hN;omega
 | succ N ih=>
  intro f least d Ae ce A c w hN hok hws hsz hl hV;have hrg:=fop_range (fokT_open hok).2.1.1
  rcases hrg with ho | ho | ho | ho | ho | ho | ho | ho | ho | ho | ho | ho | ho
  · exact rtext_term N ih f least d Ae ce A c w hN hok hws hsz hl hV ho
  · exact rtext_u2 N ih f least d Ae ce A c w hN hok hws hsz hl hV ho
  · exact rtext_b3 N ih f least d Ae ce A c w hN hok hws hsz hl hV ho
  · exact rtext_b4 N ih f least d Ae ce A c w hN hok hws hsz hl hV ho
  · exact rtext_b5 N ih f least d Ae ce A c w hN hok hws hsz hl hV ho
  · exact rtext_u6 N ih f least d Ae ce A c w hN hok hws hsz hl hV ho
  · exact rtext_u7 N ih f least d Ae ce A c w hN hok hws hsz hl hV ho
  · exact rtext_u8 N ih f least d Ae ce A c w hN hok hws hsz hl hV ho
  · exact rtext_b9 N ih f least d Ae ce A c w hN hok hws hsz hl hV ho
  · exact rtext_u10 N ih f least d Ae ce A c w hN hok hws hsz hl hV ho
  · exact rtext_u11 N ih f least d Ae ce A c w hN hok hws hsz hl hV ho
  · exact rtext_u12 N ih f least d Ae ce A c w hN hok hws hsz hl hV ho
  · exact rtext_b13 N ih f least d Ae ce A c w hN hok hws hsz hl hV ho
theorem rfshow_any (t:Fm) (Ae:Option Addr) (ce:Nat) (A:Option Addr) (c:Nat) (w:World) (hV:FmV w Ae ce A c t) (hws:t.wsize≤9000000) :
 Calls Tryz.prog 22 #[t.val Ae ce A c] w fun e w'=>e=.returned (.tuple #[.string ⟨(showFm t).1.toArray⟩,.int .i64 (showFm t).2])∧Below w.heap.size w w':=by
 obtain ⟨n,hn⟩:=ex_ t.kids.length;obtain ⟨ne,hne⟩:=ex_ t.tm.kids.length;obtain ⟨R,hR⟩:=ex_ (showFm t);obtain ⟨F,hF⟩:∃ F:Ending→World→Prop,F=fun e w'=>e=.returned (.tuple #[.string ⟨R.1.toArray⟩,.int .i64 R.2])∧Below w.heap.size w w':=⟨_,rfl⟩;rw [←hR,←hF];unfold showFm at hR;obtain ⟨w1,hw1⟩:=ex_ (w.alloc (.cells #[.int .i64 t.op,.int .i64 t.tm.op,.int .i64 t.tm.num,.string t.tm.name,.slice Ae ne ce,.slice A n c] 35));have hb1:=bAl hw1;have hs1:w.heap.size<w1.heap.size:=by rw [hw1];simp
 have hbx:FBox w1 w.heap.size Ae ne ce A n c t:=by rw [hw1];exact hA_ w _
 have hV1:=hV.below hb1 rfl;have hck:=rfcheck_any t Ae ce A c w1 hV1 hws
 have HXX:Hid (∀ W,Below w1.heap.size w1 W→W.cell? ⟨w.heap.size,0,none⟩=some (.int .i64 t.op)∧W.cell? ⟨w.heap.size,1,none⟩=some (.int .i64 t.tm.op)∧W.cell? ⟨w.heap.size,2,none⟩=some (.int .i64 t.tm.num)∧W.cell? ⟨w.heap.size,3,none⟩=some (.string t.tm.name)∧W.cell? ⟨w.heap.size,4,none⟩=some (.slice Ae ne ce)∧W.cell? ⟨w.heap.size,5,none⟩=some (.slice A n c)):=fun W hb=>by
  have hx:=hbx.below hb hs1;exact ⟨hx.c0,hx.c1,hx.c2,hx.c3,hx.c4,hx.c5⟩
 obtain ⟨x0,x1,x2,x3,x4,x5⟩:=HXX.out w1 (Br _ _)
 have HTX:Hid (t.check=0→∀ W,Below w1.heap.size w1 W→Calls Tryz.prog 42 #[.agg #[.int .i64 t.op,.int .i64 t.tm.op,.int .i64 t.tm.num,.string t.tm.name,.slice Ae ne ce,.slice A n c],.int .i64 1] W (FTQ t 1 W)):=fun h0 W hb=>by
  obtain ⟨h1,h2⟩:=fcheck_ok h0;have h:=rftext_all t.size t 1 1 Ae ce A c W (lr _) h1 hws (by omega) (by omega) (hV1.below hb rfl);unfold Fm.val at h;rw [←hn,←hne] at h;exact h
 have HLN:Hid (t.check=0→(frmT t 1).1.length≤65600*4096):=fun h0=>by
  have:=frmT_len t 1;have:=(fcheck_ok h0).2;show _≤_;omega
 unfold Fm.val at hck ⊢;rw [←hn,←hne] at hck ⊢;obtain ⟨ck,hck0⟩:=ex_ t.check;rw [←hck0] at hck HTX HLN hR;obtain ⟨X,hX⟩:=ex_ (frmT t 1);unfold FTQ at HTX;rw [←hX] at HTX HLN hR;have HR:=Hd hR;have HF:=Hd hF;have HB1:=Hd hb1;have HW1:=Hd hw1;have HCK:=Hd hck;clear hR hF hb1 hw1 hck hck0 hX hn hne hV hV1 hbx;go_enter Tryz.func22,Tryz.ntmps22;go_wp2_with fail;rw [←HW1.out];go_wp2_with fail;refine (HCK.out).mono ?_;rintro e w2 ⟨rfl,hb2⟩;clear x0 x1 x2 x3 x4 x5;obtain ⟨x0,x1,x2,x3,x4,x5⟩:=HXX.out w2 hb2;have hs2:w.heap.size<w2.heap.size:=by have:=hb2.size;omega
 have HB2:=Hd hb2;have HBF:=Hd (HB1.out.trans (hb2.mono (by omega)));clear hb2
 by_cases h0:ck=0
 · have HT2:=Hd (HTX.out h0 w2 HB2.out);have hl:=HLN.out h0;have HR2:Hid (R=if X.2≠0 then ([],X.2) else if 65536<X.1.length then ([],4) else (X.1,0)):=by show _=_;rw [HR.out,iN (fun h=>h h0)]
   have HL:=Hd hl;subst h0;clear hl;go_wp2_with fail;refine (HT2.out).mono ?_;rintro e w4 ⟨s,rfl,hs,hb4⟩;have HBF4:=Hd (HB1.out.trans ((keep_step HB2.out hb4).mono (by omega)));have HS:=Hd hs;clear hb4 hs x0 x1 x2 x3 x4 x5
   by_cases hx:X.2=0
   · have hxb:(X.2 != 0)=false:=by simpa using hx
     have hsx:=HS.out hx;have hsz:s.size=X.1.length:=by rw [←hsx];rfl
     have HSX:Hid ((⟨X.1.toArray⟩:ByteArray)=s):=by show _=_;rw [←hsx];rfl
     have HR3:Hid (R=if 65536<X.1.length then ([],4) else (X.1,0)):=by show _=_;rw [HR2.out,iN (fun h=>h hx)]
     have hsl:s.size≤65600*4096:=by rw [hsz];exact HL.out
     have HSZ:=Hd hsz;clear hx hsx hsz
     by_cases h6:65536<s.size
     · have HR4:Hid (R=([],4)):=by show _=_;rw [HR3.out,iP (by rw [←HSZ.out];exact h6)]
       have h6':(65536:Int)<(s.size:Int):=by omega
       clear h6;go_wp2_with fail;rw [HF.out,HR4.out];exact ⟨rfl,HBF4.out⟩
     · have HR4:Hid (R=(X.1,0)):=by show _=_;rw [HR3.out,iN (by rw [←HSZ.out];exact h6)]
       have h6':¬(65536:Int)<(s.size:Int):=by omega
       clear h6;go_wp2_with fail;rw [HF.out,HR4.out,HSX.out];exact ⟨rfl,HBF4.out⟩
   · have hxb:(X.2 != 0)=true:=by simpa using hx
     have HR3:Hid (R=([],X.2)):=by show _=_;rw [HR2.out,iP hx]
     clear hx;go_wp2_with fail;rw [HF.out,HR3.out];exact ⟨rfl,HBF4.out⟩
 · have HR2:Hid (R=([],ck)):=by show _=_;rw [HR.out,iP h0]
   have h0':(ck != 0)=true:=by simpa using h0
   clear h0;go_wp2_with fail;rw [HF.out,HR2.out];exact ⟨rfl,HBF.out⟩
set_option linter.unusedSectionVars false
def sg (s:Bs):Tok:=⟨4,0,s,0⟩
def wd (s:Bs):Tok:=⟨3,0,s,0⟩
def nmTk (s:Bs):Tok:=⟨2,0,s,0⟩
def nuTk (n:Int):Tok:=⟨1,n,decB n.natAbs,0⟩
def loneTk (op n:Int) (s:Bs):List Tok:=
 if op=1 then (if n<0 then [sg [45],nuTk (-n)] else [nuTk n]) else if op=2 then (if n=1 then [wd wTrue] else [wd wFalse]) else if op=3 then [nmTk s] else [wd wNext,sg [40],nmTk s,sg [41]]
def opTk (op:Int):Tok:=if op=17 then wd [109,111,100] else sg (signB op)
def ifTk (i:Nat):Tok:=wd (if i=0 then wIf else if i=1 then wThen else wElse)
def wrapTk (p:Bool) (b:List Tok):List Tok:=if p then [sg [40]]++b++[sg [41]] else b
def bodyTk (op n:Int) (s:Bs) (b5 b18 bj:List Tok):List Tok:=
 if op=1∨op=2∨op=3∨op=4 then loneTk op n s else if op=5 then [sg [33]]++b5 else if op=18 then b18 else bj
mutual
def tkT:Tm→Nat→Bool→List Tok
 | .mk op n s l,rule,ends=>
  let p:=decide (ruleOf op<rule) || (decide (op=18) && !ends)
  wrapTk p (bodyTk op n s.data.toList (tkNot l (p || ends)) (tkIf l 0) (tkJoin op l 0 (p || ends)))
def tkNot:List Tm→Bool→List Tok
 | [],_=>[]
 | k :: _,ends=>tkT k 4 ends
def tkIf:List Tm→Nat→List Tok
 | [],_=>[]
 | k :: r,i=>[ifTk i]++tkT k 0 true++tkIf r (i+1)
def tkJoin (op:Int):List Tm→Nat→Bool→List Tok
 | [],_,_=>[]
 | k :: r,i,ends=>(if i=0 then [] else [opTk op])++tkT k (asksN op i) (ends && r.isEmpty)++tkJoin op r (i+1) ends
end
def bodyOf (t:Tm) (ends:Bool):List Tok:=bodyTk t.op t.num t.name.data.toList (tkNot t.kids ends) (tkIf t.kids 0) (tkJoin t.op t.kids 0 ends)
def parens (t:Tm) (rule:Nat) (ends:Bool):Bool:=decide (ruleOf t.op<rule) || (decide (t.op=18) && !ends)
theorem tkT_eq (t:Tm) (rule:Nat) (ends:Bool):tkT t rule ends=wrapTk (parens t rule ends) (bodyOf t (parens t rule ends || ends)):=by
 cases t;rw [tkT];rfl
def At (l:List Tok) (i:Nat) (ts:List Tok):Prop:=∀ j t,ts[j]?=some t→∃ u,l[i+j]?=some u∧u.kind=t.kind∧u.n=t.n∧u.text=t.text
theorem At.left {l a b:List Tok} {i:Nat} (h:At l i (a++b)):At l i a:=fun j t hj=>h j t (by rw [List.getElem?_append_left (gE.1 hj).1];exact hj)
theorem At.right {l a b:List Tok} {i:Nat} (h:At l i (a++b)):At l (i+a.length) b:=fun j t hj=>by
 have:=h (a.length+j) t (by rw [List.getElem?_append_right (by omega),Nat.add_sub_cancel_left];exact hj)
 rwa [←Nat.add_assoc] at this
theorem At.head {l b:List Tok} {i:Nat} {t:Tok} (h:At l i (t :: b)):∃ u,l[i]?=some u∧u.kind=t.kind∧u.n=t.n∧u.text=t.text:=h 0 t rfl
theorem At.tail {l b:List Tok} {i:Nat} {t:Tok} (h:At l i (t :: b)):At l (i+1) b:=At.right (a:=[t]) h
theorem At.le {l ts:List Tok} {i:Nat} (h:At l i ts) (h0:ts≠[]):i+ts.length≤l.length:=by
 have hl:0<ts.length:=List.length_pos_iff.2 h0;obtain ⟨u,hu,_⟩:=h (ts.length - 1) _ (gG (by omega));have:=(gE.1 hu).1;omega
section
variable {l:List Tok} {i:Nat} {u:Tok} (hu:l[i]?=some u)
include hu
theorem isTk_at (k:Int) (s:Bs):isTk l i k s=(decide (u.kind=k) && decide (u.text=s)):=by unfold isTk;rw [hu]
theorem isKd_at (k:Int):isKd l i k=decide (u.kind=k):=by unfold isKd;rw [hu]
theorem numAt_at:numAt l i=u.n:=by unfold numAt;rw [hu]
theorem textAt_at:textAt l i=u.text:=by unfold textAt;rw [hu]
end
def Follow (l:List Tok) (j k:Nat):Prop:=∀ op:Int,6≤op→op≤17→k≤ruleOf op→whichOp l j [op]=0
theorem Follow.mono {l:List Tok} {j k m:Nat} (h:Follow l j k) (hk:k≤m):Follow l j m:=fun op h1 h2 h3=>h op h1 h2 (by omega)
theorem whichOp_none {l:List Tok} {j:Nat}:∀ {ops:List Int},(∀ op∈ops,whichOp l j [op]=0∧op≠0)→whichOp l j ops=0
 | [],_=>rfl
 | op :: r,h=>by
  obtain ⟨h1,h2⟩:=h op (by simp);rw [whichOp] at h1 ⊢
  by_cases hc:(if op=17 then isTk l j 3 [109,111,100] else isTk l j 4 (signB op))=true
  · rw [iP hc] at h1;exact absurd h1 h2
  · rw [iN hc];exact whichOp_none fun o ho=>h o (by simp [ho])
def binOps:List Int:=[6,7,8,9,10,11,12,13,14,15,16,17]
theorem binOps_mem {op:Int} (h1:6≤op) (h2:op≤17):op∈binOps:=by
 have:op=6∨op=7∨op=8∨op=9∨op=10∨op=11∨op=12∨op=13∨op=14∨op=15∨op=16∨op=17:=by omega
 simpa [binOps] using this
theorem opTk_inj:∀ a∈binOps,∀ b∈binOps,(opTk a).kind=(opTk b).kind→(opTk a).text=(opTk b).text→a=b:=by decide
theorem opTk_is:∀ op:Int,(if op=17 then (3:Int) else 4)=(opTk op).kind∧(if op=17 then [109,111,100] else signB op)=(opTk op).text:=fun op=>by
 unfold opTk
 split <;> exact ⟨rfl,rfl⟩
theorem whichOp_one {l:List Tok} {j:Nat} {u:Tok} (hu:l[j]?=some u) (op:Int):whichOp l j [op]=if u.kind=(opTk op).kind∧u.text=(opTk op).text then op else 0:=by
 have h:=opTk_is op;rw [whichOp,isTk_at hu,isTk_at hu,←h.1,←h.2,whichOp]
 by_cases h17:op=17
 · rw [iP h17,iP h17,iP h17];simp
 · rw [iN h17,iN h17,iN h17];simp
theorem whichOp_hit {l:List Tok} {j:Nat} {op:Int} {b:List Tok} (h:At l j (opTk op :: b)):whichOp l j [op]=op:=by
 obtain ⟨u,hu,hk,-,hx⟩:=h.head;rw [whichOp_one hu,iP ⟨hk,hx⟩]
theorem whichOp_miss {l:List Tok} {j:Nat} {op op':Int} {b:List Tok} (h:At l j (opTk op :: b)) (h1:op∈binOps) (h2:op'∈binOps) (hne:op'≠op):whichOp l j [op']=0:=by
 obtain ⟨u,hu,hk,-,hx⟩:=h.head;rw [whichOp_one hu,iN];rintro ⟨h3,h4⟩;exact hne (opTk_inj op' h2 op h1 (by rw [←h3,hk]) (by rw [←h4,hx]))
theorem whichOp_in {l:List Tok} {j:Nat} {op:Int} {b:List Tok} (h:At l j (opTk op :: b)) (h1:op∈binOps):∀ {ops:List Int},(∀ o∈ops,o∈binOps)→op∈ops→whichOp l j ops=op
 | x :: r,hs,hm=>by
  by_cases hx:x=op
  · subst hx;have h2:=whichOp_hit h;rw [whichOp] at h2 ⊢
    by_cases hc:(if x=17 then isTk l j 3 [109,111,100] else isTk l j 4 (signB x))=true
    · rw [iP hc]
    · rw [iN hc,whichOp] at h2;subst h2;exact absurd h1 (by decide)
  · have h2:=whichOp_miss h h1 (hs x (by simp)) hx;have h3:x≠0:=fun h0=>by have:=hs x (by simp);rw [h0] at this;exact absurd this (by decide)
    rw [whichOp] at h2 ⊢
    by_cases hc:(if x=17 then isTk l j 3 [109,111,100] else isTk l j 4 (signB x))=true
    · rw [iP hc] at h2;exact absurd h2 h3
    · rw [iN hc];exact whichOp_in h h1 (fun o ho=>hs o (by simp [ho])) ((List.mem_cons.1 hm).resolve_left fun e=>hx e.symm)
theorem follow_op {l:List Tok} {j k:Nat} {op:Int} {b:List Tok} (h:At l j (opTk op :: b)) (h1:6≤op) (h2:op≤17) (hr:ruleOf op<k):Follow l j k:=fun op' a1 a2 a3=>
 whichOp_miss h (binOps_mem h1 h2) (binOps_mem a1 a2) (fun e=>by subst e;omega)
def closes (t:Tok):Prop:=∀ op∈binOps,¬(t.kind=(opTk op).kind∧t.text=(opTk op).text)
theorem follow_close {l:List Tok} {j k:Nat} {u:Tok} (hu:l[j]?=some u) (h:closes u):Follow l j k:=fun op a1 a2 _=>by
 rw [whichOp_one hu,iN (h op (binOps_mem a1 a2))]
theorem follow_tk {l b:List Tok} {j k:Nat} {t:Tok} (h:At l j (t :: b)) (hc:closes t):Follow l j k:=by
 obtain ⟨u,hu,hk,-,hx⟩:=h.head;exact follow_close hu fun op ho=>by rw [hk,hx];exact hc op ho
theorem tLRndQ {o:Array Oper} {i:Nat} {x:Oper} (h:o.toList[i]?=some x):o[i]?=some x:=by simpa using h
def lev (l:List Tok) (r k:Nat):Par:=match k with
 | 0=>(lvl l r).term
 | 1=>(lvl l r).imp
 | 2=>orOf l (sub l r)
 | 3=>andOf l (sub l r)
 | 4=>(lvl l r).not
 | 5=>(lvl l r).not
 | 6=>sumB l ((sub l r).map Lvl.term)
 | 7=>prodB l ((sub l r).map Lvl.term)
 | _=>unitF l ((sub l r).map Lvl.term)
section
variable {l:List Tok}
theorem lev0 (r:Nat):lev l r 0=termB l (impOf l (sub l r)):=by show (lvl l r).term=_;rw [lvl_eq];rfl
theorem lev1 (r:Nat):lev l r 1=impB l ((sub l r).map Lvl.imp) (orOf l (sub l r)):=by show (lvl l r).imp=_;rw [lvl_eq];rfl
theorem lev4 (r:Nat):lev l r 4=notB l ((sub l r).map Lvl.not) (sumB l ((sub l r).map Lvl.term)):=by show (lvl l r).not=_;rw [lvl_eq];rfl
theorem leftL_stop {one:Par} {ops:List Int} {t:Tm} {j:Nat} (h:whichOp l j ops=0) (K:Nat):leftL l one ops K t j=.ok t j:=by cases K <;> simp [leftL,h]
theorem manyF_stop {one:Par} {op:Int} {acc:List Tm} {j:Nat} (h:whichOp l j [op]=0) (K:Nat):manyF l op one K acc j=.ok (manyEnd op acc) j:=by cases K <;> simp [manyF,h]
theorem follow_list {j k:Nat} (hf:Follow l j k) {ops:List Int} (h:∀ op∈ops,6≤op∧op≤17∧k≤ruleOf op):whichOp l j ops=0:=
 whichOp_none fun op ho=>⟨hf op (h op ho).1 (h op ho).2.1 (h op ho).2.2,by have:=(h op ho).1;omega⟩
theorem bang_unit {i:Nat} {s:Option Par} (h:isTk l i 4 [33]=true):unitF l s i=.bad i 16:=by
 cases hu:l[i]? with
 | none=>simp [isTk,hu] at h
 | some u=>
  rw [isTk_at hu] at h;simp at h;simp [unitF,isTk_at hu,isKd_at hu,h.1,h.2]
theorem bang_sum {i j:Nat} {s:Option Par} {t:Tm} (h:sumB l s i=.ok t j):isTk l i 4 [33]=false:=by
 cases hb:isTk l i 4 [33] with
 | false=>rfl
 | true=>
  have h1:=bang_unit (s:=s) hb;unfold sumB left prodB left at h;rw [h1] at h;cases h
theorem lift_step {r i j k:Nat} {t:Tm} (hk:k<8) (h:lev l r (k+1) i=.ok t j) (hf:Follow l j k):lev l r k i=.ok t j:=by
 have hk':k=0∨k=1∨k=2∨k=3∨k=4∨k=5∨k=6∨k=7:=by omega
 rcases hk' with rfl | rfl | rfl | rfl | rfl | rfl | rfl | rfl
 · rw [lev1] at h;rw [lev0];unfold termB impOf;rw [h,Rs.then_ok,follow_list hf (ops:=[9]) (by decide),iP rfl]
 · rw [lev1];have h':orOf l (sub l r) i=.ok t j:=h;unfold impB;rw [h',Rs.then_ok,follow_list hf (ops:=[8]) (by decide),iP rfl]
 · have h':andOf l (sub l r) i=.ok t j:=h;show orOf l (sub l r) i=_;unfold orOf many;rw [h',Rs.then_ok,manyF_stop (follow_list hf (ops:=[7]) (by decide))]
   rfl
 · rw [lev4] at h;show andOf l (sub l r) i=_;unfold andOf notOf many;rw [h,Rs.then_ok,manyF_stop (follow_list hf (ops:=[6]) (by decide))]
   rfl
 · exact h
 · have h':sumB l ((sub l r).map Lvl.term) i=.ok t j:=h;show lev l r 4 i=_;rw [lev4];unfold notB;rw [bang_sum h',iN (by decide),h',Rs.then_ok,follow_list hf (ops:=[10,11,12,13]) (by decide),iP rfl]
 · have h':prodB l ((sub l r).map Lvl.term) i=.ok t j:=h;show sumB l ((sub l r).map Lvl.term) i=_;unfold sumB left;rw [h',Rs.then_ok,leftL_stop (follow_list hf (ops:=[14,15]) (by decide))]
 · have h':unitF l ((sub l r).map Lvl.term) i=.ok t j:=h;show prodB l ((sub l r).map Lvl.term) i=_;unfold prodB left;rw [h',Rs.then_ok,leftL_stop (follow_list hf (ops:=[16,17]) (by decide))]
theorem lift {r i j a:Nat} {t:Tm}:∀ (m:Nat),a+m≤8→lev l r (a+m) i=.ok t j→Follow l j a→lev l r a i=.ok t j
 | 0,_,h,_=>h
 | m+1,hm,h,hf=>lift m (by omega) (lift_step (k:=a+m) (by omega) h (hf.mono (by omega))) hf
theorem lift' {r i j a b:Nat} {t:Tm} (hab:a≤b) (hb:b≤8) (h:lev l r b i=.ok t j) (hf:Follow l j a):lev l r a i=.ok t j:=by
 obtain ⟨m,rfl⟩:∃ m,b=a+m:=⟨b - a,by omega⟩;exact lift m hb h hf
def Lft (l:List Tok) (one:Par) (ops:List Int) (i:Nat) (t:Tm) (j:Nat):Prop:=∃ n,n≤j - i∧∀ K,n≤K→(one i).then (fun u m=>leftL l one ops K u m)=leftL l one ops (K - n) t j
theorem lft_zero {one:Par} {ops:List Int} {i j:Nat} {t:Tm} (h:one i=.ok t j):Lft l one ops i t j:=⟨0,zl _,fun K _=>by rw [h];rfl⟩
theorem lft_end {one:Par} {ops:List Int} {i:Nat} {t:Tm} {ts:List Tok} (h:Lft l one ops i t (i+ts.length)) (hat:At l i ts) (hf:whichOp l (i+ts.length) ops=0):left l one ops i=.ok t (i+ts.length):=by
 obtain ⟨n,hn,hK⟩:=h
 have hl:n≤l.length:=by
  by_cases h0:ts=[]
  · subst h0;simp at hn;omega
  · have:=hat.le h0;omega
 have:=hK l.length hl;unfold left;rw [this,leftL_stop hf]
theorem lft_step {one:Par} {ops:List Int} {i:Nat} {a b:Tm} {A B:List Tok} {op:Int} (hat:At l i (A++([opTk op]++B))) (hop:op∈binOps) (hops:∀ o∈ops,o∈binOps) (hin:op∈ops)
 (ha:Lft l one ops i a (i+A.length)) (hb:one (i+A.length+1)=.ok b (i+A.length+1+B.length)):Lft l one ops i (tmOf op [a,b]) (i+(A++([opTk op]++B)).length):=by
 obtain ⟨n,hn,hK⟩:=ha;have h1:=hat.right;have hw:whichOp l (i+A.length) ops=op:=whichOp_in h1 hop hops hin;have h0:op≠0:=fun e=>by rw [e] at hop;exact absurd hop (by decide)
 refine ⟨n+1,by simp;omega,fun K hk=>?_⟩;rw [hK K (by omega)];obtain ⟨m,hm⟩:∃ m,K - n=m+1:=⟨K - n - 1,by omega⟩;rw [hm,leftL,hw,iN h0,hb,Rs.then_ok,show K - (n+1)=m from by omega]
 congr 1
 simp;omega
end
structure PT (l:List Tok) (t:Tm) (d:Nat):Prop where
 a:∀ rule ends r i,rule≤8→130≤r+2*d→At l i (tkT t rule ends)→Follow l (i+(tkT t rule ends).length) rule→(ends=true→Follow l (i+(tkT t rule ends).length) 0)→lev l r rule i=.ok t (i+(tkT t rule ends).length)
 b6:∀ ends r i,130≤r+2*d→At l i (tkT t 6 ends)→Follow l (i+(tkT t 6 ends).length) 7→(ends=true→Follow l (i+(tkT t 6 ends).length) 0)→Lft l (prodB l ((sub l r).map Lvl.term)) [14,15] i t (i+(tkT t 6 ends).length)
 b7:∀ ends r i,130≤r+2*d→At l i (tkT t 7 ends)→(ends=true→Follow l (i+(tkT t 7 ends).length) 0)→Lft l (unitF l ((sub l r).map Lvl.term)) [16,17] i t (i+(tkT t 7 ends).length)
theorem told_kids {t:Tm} (h:toldT t=true) (h3:t.op≠3) (h4:t.op≠4):∀ k∈t.kids,toldT k=true:=by
 rw [toldT_eq] at h
 split at h
 · cases h
 · rw [iN (by omega)] at h
   have key:∀ l:List Tm,toldL l=true→∀ k∈l,toldT k=true:=by
    intro l
    induction l with
    | nil=>intro _ k hk;cases hk
    | cons x r ih=>
     intro hl k hk;rw [toldL] at hl;simp at hl
     rcases List.mem_cons.1 hk with rfl | hk
     · exact hl.1
     · exact ih hl.2 k hk
   exact key _ h
theorem name_nil {s:ByteArray} (h:s.size=0):s=nomk:=by
 have:s.data.toList.length=0:=by simpa using h
 have:=List.eq_nil_of_length_eq_zero this;exact bs_ext this
theorem tkJoin2 (op:Int) (a b:Tm) (ends:Bool):tkJoin op [a,b] 0 ends=tkT a (asksN op 0) false++([opTk op]++tkT b (asksN op 1) ends):=by
 simp [tkJoin]
section
variable {l:List Tok}
theorem lone_ok {op n:Int} {s:ByteArray} {d:Nat} (hok:(Tm.mk op n s []).okT d) (ho:op=1∨op=2∨op=3∨op=4) (sb:Option Par) (i:Nat) (hat:At l i (loneTk op n s.data.toList)):unitF l sb i=.ok (.mk op n s []) (i+(loneTk op n s.data.toList).length):=by
 have hw:=wrong_ok (okT_open hok).2.1;simp only [Tm.op,Tm.num,Tm.name,Tm.kids] at hw;obtain ⟨-,w1,-,-,-,w2,w3,-,w4⟩:=hw;have hs:(⟨s.data.toList.toArray⟩:ByteArray)=s:=bs_ext rfl
 rcases ho with rfl | rfl | rfl | rfl
 · have hnm:=name_nil (w4 (by decide));subst hnm
   by_cases hn:n<0
   · simp only [loneTk,if_true,iP hn] at hat ⊢;obtain ⟨u,hu,a1,a2,a3⟩:=hat.head;obtain ⟨v,hv,b1,b2,b3⟩:=hat.tail.head;simp only [sg,nuTk] at a1 a2 a3 b1 b2 b3;have e1:=isTk_at hu 4 [45];rw [a1,a3] at e1;have e2:=isKd_at hv 1;rw [b1] at e2;unfold unitF;rw [e1,e2,numAt_at hv,b2];simp [tmNum]
   · simp only [loneTk,if_true,iN hn] at hat ⊢;obtain ⟨u,hu,a1,a2,a3⟩:=hat.head;simp only [nuTk] at a1 a2 a3;simp [unitF,isTk_at hu,isKd_at hu,numAt_at hu,a1,a2,tmNum]
 · have hnm:=name_nil (w4 (by decide));subst hnm;have hn:=w2 rfl
   by_cases h1:n=1
   · subst h1;simp only [loneTk,if_true] at hat ⊢;obtain ⟨u,hu,a1,a2,a3⟩:=hat.head;simp only [wd] at a1 a2 a3;simp [unitF,isTk_at hu,a1,a3,tmBool]
   · have h0:n=0:=by omega
     subst h0;simp only [loneTk,if_true] at hat ⊢;obtain ⟨u,hu,a1,a2,a3⟩:=hat.head;simp only [wd] at a1 a2 a3;simp [unitF,isTk_at hu,a1,a3,tmBool,wTrue,wFalse]
 · have h0:n=0:=w3 (by decide) (by decide);subst h0;simp only [loneTk] at hat ⊢;obtain ⟨u,hu,a1,a2,a3⟩:=At.head (t:=nmTk s.data.toList) (b:=[]) hat;simp only [nmTk] at a1 a2 a3;simp [unitF,isTk_at hu,isKd_at hu,textAt_at hu,a1,a3,tmName]
 · have h0:n=0:=w3 (by decide) (by decide);subst h0;have hat':At l i [wd wNext,sg [40],nmTk s.data.toList,sg [41]]:=hat;obtain ⟨u,hu,a1,a2,a3⟩:=hat'.head;obtain ⟨v,hv,b1,b2,b3⟩:=hat'.tail.head;obtain ⟨x,hx,c1,c2,c3⟩:=hat'.tail.tail.head;obtain ⟨y,hy,d1,d2,d3⟩:=hat'.tail.tail.tail.head;simp only [wd,sg,nmTk] at a1 a2 a3 b1 b2 b3 c1 c2 c3 d1 d2 d3;rw [show i+1+1=i+2 from rfl] at hx hy;rw [show i+2+1=i+3 from rfl] at hy;simp [unitF,isTk_at hu,isTk_at hv,isKd_at hx,isTk_at hy,textAt_at hx,a1,a3,b1,b3,c1,c3,d1,d3,tmName,loneTk,wNext,wTrue,wFalse]
theorem many_ok {op:Int} (hop:op=6∨op=7) {d r:Nat} {ends:Bool} {one:Par} (hone:one=lev l r (asksN op 0)) (hr:130≤r+2*(d+1)):∀ (ks:List Tm) (acc:List Tm) (j n K:Nat),acc≠[]→0<n→(∀ k∈ks,PT l k (d+1))→At l j (tkJoin op ks n ends) →
 Follow l (j+(tkJoin op ks n ends).length) (ruleOf op)→(ends=true→Follow l (j+(tkJoin op ks n ends).length) 0)→ks.length≤K→manyF l op one K acc j=.ok (manyEnd op (acc++ks)) (j+(tkJoin op ks n ends).length)
 | [],acc,j,n,K,_,_,_,_,hf,_,_=>by
  rw [tkJoin] at hf ⊢;have h1:whichOp l j [op]=0:=hf op (by omega) (by omega) (lr _);rw [manyF_stop h1,List.append_nil];rfl
 | k :: ks,acc,j,n,0,_,_,_,_,_,_,hK=>by simp at hK
 | k :: ks,acc,j,n,K+1,hacc,hn,hks,hat,hf,he,hK=>by
  have hask:∀ m,asksN op m=asksN op 0:=fun m=>by rcases hop with rfl | rfl <;> rfl
  have hask8:asksN op 0≤8:=by rcases hop with rfl | rfl <;> decide
  have hlt:ruleOf op<asksN op 0:=by rcases hop with rfl | rfl <;> decide
  have htk:tkJoin op (k :: ks) n ends=opTk op :: (tkT k (asksN op 0) (ends && ks.isEmpty)++tkJoin op ks (n+1) ends):=by
   rw [tkJoin,iN (by omega),hask n];simp
  rw [htk] at hat hf he ⊢;obtain ⟨T,hT⟩:=ex_ (tkT k (asksN op 0) (ends && ks.isEmpty));obtain ⟨R,hR⟩:=ex_ (tkJoin op ks (n+1) ends);rw [←hT,←hR] at hat hf he ⊢;have hlen:j+(opTk op :: (T++R)).length=j+1+T.length+R.length:=by simp;omega
  rw [hlen] at hf he ⊢;have hw:whichOp l j [op]=op:=whichOp_hit hat;have h0:op≠0:=by omega
  have hatT:At l (j+1) T:=hat.tail.left;have hatR:At l (j+1+T.length) R:=hat.tail.right
  have hfT:Follow l (j+1+T.length) (asksN op 0):=by
   cases ks with
   | nil=>rw [tkJoin] at hR;subst hR;exact hf.mono (by omega)
   | cons k' ks'=>
    rw [tkJoin,iN (by omega)] at hR;subst hR;exact follow_op (b:=tkT k' (asksN op (n+1)) (ends && ks'.isEmpty)++tkJoin op ks' (n+1+1) ends) (by simpa using hatR) (by omega) (by omega) hlt
  have heT:(ends && ks.isEmpty)=true→Follow l (j+1+T.length) 0:=fun h=>by
   simp at h;obtain ⟨h1,h2⟩:=h;subst h2;rw [tkJoin] at hR;subst hR;exact he h1
  have hk:=(hks k (by simp)).a (asksN op 0) (ends && ks.isEmpty) r (j+1) hask8 hr (by rw [←hT];exact hatT) (by rw [←hT];exact hfT) (by rw [←hT];exact heT);rw [←hT] at hk;have ih:=many_ok hop hone hr ks (acc++[k]) (j+1+T.length) (n+1) K (by simp) (by omega) (fun x hx=>hks x (by simp [hx])) (by rw [←hR];exact hatR) (by rw [←hR];exact hf) (by rw [←hR];exact he) (by simpa using hK);rw [←hR] at ih;rw [manyF,hw,iN h0,hone,hk,Rs.then_ok,←hone,ih];simp
end
end Go.Proofs.YtnbphgeepnknlaaGreatDoor
