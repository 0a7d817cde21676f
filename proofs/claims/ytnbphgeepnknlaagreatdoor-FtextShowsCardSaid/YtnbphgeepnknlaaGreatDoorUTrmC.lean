/- Walks and plain words: TrmC TrmD CntP NumA. -/
import Derived.Test.YtnbphgeepnknlaaGreatDoorUTrmP
import Derived.Laws.BytesArg
namespace Go.Proofs.YtnbphgeepnknlaaGreatDoor
open Go.RowKit
set_option linter.unusedVariables false
set_option maxRecDepth 100000
set_option maxHeartbeats 4000000
set_option linter.unusedSectionVars false
structure Only (F:Nat→Prop) (w w':World):Prop where
 os:w'.os=w.os
 tape:w'.tape=w.tape
 output:w'.output=w.output
 size:w.heap.size≤w'.heap.size
 block:∀ q,q<w.heap.size→¬F q→w'.heap[q]?=w.heap[q]?
section
variable {F:Nat→Prop} {w w' w'':World}
theorem Only.refl:Only F w w:=⟨rfl,rfl,rfl,lr _,fun _ _ _=>rfl⟩
theorem Only.trans (h:Only F w w') (k:Only F w' w''):Only F w w'':=⟨k.os.trans h.os,k.tape.trans h.tape,k.output.trans h.output,Nat.le_trans h.size k.size,fun q hq hf=>(k.block q (lL hq h.size) hf).trans (h.block q hq hf)⟩
theorem Only.of_below (h:Below w.heap.size w w'):Only F w w':=⟨h.os,h.tape,h.output,h.size,fun q hq _=>h.block q hq⟩
theorem Only.thenBelow {B:Nat} (h:Only F w w') (k:Below B w' w'') (hB:w.heap.size≤B):Only F w w'':=⟨k.os.trans h.os,k.tape.trans h.tape,k.output.trans h.output,Nat.le_trans h.size k.size,fun q hq hf=>(k.block q (lL hq hB)).trans (h.block q hq hf)⟩
theorem Only.below {B:Nat} (h:Only F w w') (hF:∀ q,F q→B≤q) (hB:B≤w.heap.size):Below B w w':=⟨h.os,h.tape,h.output,h.size,fun q hq=>h.block q (lL hq hB) fun hf=>by have:=hF q hf;omega⟩
theorem Only.cell (h:Only F w w') {b o:Nat} (hb:b<w.heap.size) (hf:¬F b):w'.cell? ⟨b,o,none⟩=w.cell? ⟨b,o,none⟩:=World.cell?_of_block (a:=⟨b,o,none⟩) (h.block b hb hf)
theorem Only.mono {G:Nat→Prop} (h:Only F w w') (hG:∀ q,F q→G q):Only G w w':=⟨h.os,h.tape,h.output,h.size,fun q hq hg=>h.block q hq fun hf=>hg (hG q hf)⟩
theorem Only.setF (h:Only F w w') {b o:Nat} (hF:F b) (v:Value):Only F w (w'.setCell ⟨b,o,none⟩ v):=
 ⟨h.os,h.tape,h.output,by simpa using h.size,fun q hq hf=>(hO_ w' ⟨b,o,none⟩ q v (fun e=>hf (by subst e;exact hF))).trans (h.block q hq hf)⟩
end
structure KT (T:TypeId) (B:Nat) (w w':World):Prop where
 below:Below B w w'
 keep:∀ (q:Nat) (cs:Array Value) (fz:Nat×Nat),w.heap[q]?=some (Obj.cells cs T fz)→w'.heap[q]?=w.heap[q]?
section
variable {T:TypeId} {B:Nat} {w w' w'':World}
theorem KT.refl:KT T B w w:=⟨Br _ _,fun _ _ _ _=>rfl⟩
theorem KT.trans (h:KT T B w w') (k:KT T B w' w''):KT T B w w'':=⟨h.below.trans k.below,fun q cs fz hq=>by
 have h1:=h.keep q cs fz hq;rw [←h1]
 exact k.keep q cs fz (h1.trans hq)⟩
theorem lt_of_heap {w:World} {q:Nat} {o:Obj} (h:w.heap[q]?=some o):q<w.heap.size:=by
 rcases Nat.lt_or_ge q w.heap.size with h' | h'
 · exact h'
 · rw [Array.getElem?_eq_none h'] at h;cases h
theorem KT.of_below (h:Below w.heap.size w w') (hB:B≤w.heap.size):KT T B w w':=⟨h.mono hB,fun q cs fz hq=>h.block q (lt_of_heap hq)⟩
theorem KT.thenBelow {C:Nat} (h:KT T B w w') (k:Below C w' w'') (hC:w.heap.size≤C) (hB:B≤C):KT T B w w'':=⟨h.below.trans (k.mono hB),fun q cs fz hq=>(k.block q (lL (lt_of_heap hq) hC)).trans (h.keep q cs fz hq)⟩
theorem KT.of_only {F:Nat→Prop} (h:Only F w w') (hF:∀ q,F q→B≤q) (hB:B≤w.heap.size) (hT:∀ q,F q→∀ (cs:Array Value) (fz:Nat×Nat),w.heap[q]?≠some (Obj.cells cs T fz)):KT T B w w':=
 ⟨h.below hF hB,fun q cs fz hq=>h.block q (lt_of_heap hq) fun hf=>hT q hf cs fz hq⟩
end
structure Visitor (K:Nat) (cap:Array Value) (B:Nat) (w0:World) {σ:Type} (Inv Fin:σ→World→Prop) (step:σ→Tm→Nat→σ×Bool) (room:σ→Nat):Prop where
 enter:∀ args w,(callFunc K args).run Tryz.prog w=.ok (.enter K args) w
 fin:∀ s w,Inv s w→Fin s w
 keep:∀ s w w',Inv s w→Below w.heap.size w w'→Inv s w'
 lose:∀ s t d,room s≤room (step s t d).1+1
 call:∀ s t (d:Nat) A c w,Inv s w→Below B w0 w→TmV w A c t→d≤10000000→0<room s→Calls Tryz.prog K #[t.val A c,.int .i64 d,cap.getD 0 undef,cap.getD 1 undef] w fun e w'=>e=.returned (.bool (step s t d).2)∧(Fin (step s t d).1 w'∧((step s t d).2=true→Inv (step s t d).1 w'))∧KT 25 B w w'
section
variable {σ:Type} {step:σ→Tm→Nat→σ×Bool} {room:σ→Nat} (hl:∀ s t d,room s≤room (step s t d).1+1)
include hl
mutual
theorem walkF_lose:∀ (t:Tm) (d:Nat) (s:σ),room s≤room (walkF step t d s).1+t.size
 | .mk o n x l,d,s=>by
  rw [walkF_eq,Tm.size];have h1:=hl s (.mk o n x l) d
  split
  · have h2:=walkL_lose l (d+1) (step s (.mk o n x l) d).1;show _≤room (walkL step l (d+1) _).1+_;omega
  · show _≤room (step s (.mk o n x l) d).1+_;omega
theorem walkL_lose:∀ (l:List Tm) (d:Nat) (s:σ),room s≤room (walkL step l d s).1+Tm.sizeL l
 | [],d,s=>by rw [walkL,Tm.sizeL];exact lr _
 | t :: r,d,s=>by
  have h1:=walkF_lose t d s;rw [walkL,Tm.sizeL]
  cases hw:walkF step t d s with
  | mk y b=>
   rw [hw] at h1;simp only at h1
   cases b with
   | false=>simp only;omega
   | true=>
    have h2:=walkL_lose r d y;simp only;omega
end
end
theorem Tm.sizeL_drop {l:List Tm} {k:Nat} {t:Tm} (h:l[k]?=some t):Tm.sizeL (l.drop k)=t.size+Tm.sizeL (l.drop (k+1)):=by
 obtain ⟨hj,hj2⟩:=gE.1 h;rw [List.drop_eq_getElem_cons hj,hj2,Tm.sizeL]
theorem walk_any {K:Nat} {c0 c1:Value} {B:Nat} {w0:World} {σ:Type} {Inv Fin:σ→World→Prop} {step:σ→Tm→Nat→σ×Bool} {room:σ→Nat} (V:Visitor K #[c0,c1] B w0 Inv Fin step room) (hB:B=w0.heap.size) :
 ∀ (N:Nat) (t:Tm) (d:Nat) (A:Option Addr) (c:Nat) (s:σ) (w:World),t.size≤N→d+t.size≤10000000→t.size≤room s→TmV w0 A c t→Inv s w→Below B w0 w →
 Calls Tryz.prog 107 #[t.val A c,.int .i64 d,.func (.func K) #[] #[c0,c1]] w fun e w'=>e=.returned (.bool (walkF step t d s).2)∧(Fin (walkF step t d s).1 w'∧((walkF step t d s).2=true→Inv (walkF step t d s).1 w'))∧KT 25 B w w':=by
 intro N
 induction N with
 | zero=>
  intro t d A c s w hN;cases t;rw [Tm.size] at hN;omega
 | succ N ih=>
  intro t d A c s w hN hd hroom hV hI hbel;have hrun:=V.enter;have HIHH:=Hd ih;have HV:=Hd hV;have HBEL:=Hd hbel;obtain ⟨wb,hwb⟩:=ex_ (w.alloc (.cells #[.int .i64 t.op,.int .i64 t.num,.string t.name,.slice A t.kids.length c] 25));have hb1:=bAl hwb;have hI1:=V.keep s w wb hI hb1;have hbw:B≤w.heap.size:=by rw [hB];exact hbel.size
  have hbel1:Below B w0 wb:=hbel.trans (hb1.mono hbw);have htp:1≤t.size:=by cases t;rw [Tm.size];omega
  have hcall:Calls Tryz.prog K #[.agg #[.int .i64 t.op,.int .i64 t.num,.string t.name,.slice A t.kids.length c],.int .i64 d,c0,c1] wb fun e w'=>e=.returned (.bool (step s t d).2)∧(Fin (step s t d).1 w'∧((step s t d).2=true→Inv (step s t d).1 w'))∧KT 25 B wb w':=V.call s t d A c wb hI1 hbel1 (hV.below hbel1 hB) (by omega) (by omega);have hlos:t.size - 1≤room (step s t d).1:=by have:=V.lose s t d;omega
  have hszk:Tm.sizeL t.kids=t.size - 1:=by cases t;rw [Tm.size];simp only [Tm.kids];omega
  have hbx:wb.heap[w.heap.size]?=some (.cells #[.int .i64 t.op,.int .i64 t.num,.string t.name,.slice A t.kids.length c] 25 (0,0)):=by rw [hwb];exact hA_ w _
  have hsb:wb.heap.size=w.heap.size+1:=by rw [hwb];simp
  have HBX:=Hd hbx;have HSB:=Hd hsb;have HB1:=Hd hb1;have HBL1:=Hd hbel1;have HFX:=Hd (walkF_eq step t d s);obtain ⟨s1,hs1⟩:=ex_ (step s t d);obtain ⟨r,hr⟩:=ex_ (walkF step t d s);rw [←hs1] at hcall HFX hlos;rw [←hszk] at hlos;rw [←hr] at HFX;rw [←hr];rw [hwb] at hcall;have HC:=Hd hcall;have HON:Hid (KT 25 B w wb):=KT.of_below hb1 hbw;obtain ⟨n,hn⟩:=ex_ t.kids.length;have HN:=Hd hn;have hcap:=hV.cap;have hcapm:=hV.capm;unfold maxLen at hcapm
  have hnl:n≤10000000:=by
   have:t.kids.length≤Tm.sizeL t.kids:=Tm.len_le t.kids;omega
  have HKID:=Hd hV.kids
  have HSZ:Hid (∀ k∈t.kids,k.size≤N∧d+1+k.size≤10000000):=fun k hk=>by
   have h1:=Tm.sizeL_mem hk;omega
  have HLOS:=Hd hlos;unfold Tm.val;rw [←hn] at HBX HC hcap hwb ⊢;have HWB:=Hd hwb;have HBQ:=Hd hB;clear hB ih hV hbel hcall hI hI1 hb1 hbel1 hwb hbx hsb hs1 hr hn hN hlos hroom hszk htp;go_enter Tryz.func107,Tryz.ntmps107;go_wp2_with fail;refine (HC.out).mono ?_;rintro e w1 ⟨rfl,hI1,ho1⟩;rw [←HWB.out] at ho1;have HI1:=Hd hI1;have hsz1:=ho1.below.size
  have x3:w1.cell? ⟨w.heap.size,3,none⟩=some (.slice A n c):=by
   have h9:=(ho1.keep _ _ _ HBX.out).trans HBX.out;rw [cR w1 w.heap.size 3 _ _ (0,0) h9];rfl
  have HO1:Hid (KT 25 B w w1):=HON.out.trans ho1;have hlt1:w.heap.size<w1.heap.size:=by have:=HSB.out;omega
  clear hI1 ho1 hsz1;obtain ⟨y,b⟩:=s1
  cases b with
  | false=>
   simp only at HI1;simp only [Bool.false_eq_true,if_false] at HFX;go_wp2_with fail;go_ret;rw [HFX.out];exact ⟨rfl,⟨HI1.out.1,fun h=>by cases h⟩,HO1.out⟩
  | true=>
   simp only at HI1 HLOS;simp only [if_true] at HFX;go_wp2_with fail
   go_loopw [17] (fun si wr=>∃ (k:Nat) (x:σ),k≤n∧si=.int .i64 k∧Inv x wr∧KT 25 B w wr∧w.heap.size<wr.heap.size∧Tm.sizeL (t.kids.drop k)≤room x∧walkL step (t.kids.drop k) (d+1) x=r) (fun i _=>n - (intOf i).toNat)
   case atStart=>exact ⟨0,y,zl _,rfl,HI1.out.2 (by first | rfl | trivial),HO1.out,hlt1,HLOS.out,HFX.out.symm⟩
   case round=>
    obtain ⟨k,x,hk,rfl,hI,ho,hlr,hrm,hwl⟩:=hrel;have HI:=Hd hI;have HO:=Hd ho;have HWL:=Hd hwl;have HRM:=Hd hrm;have hszr:=ho.below.size;clear hI ho hwl hrm
    by_cases hlt:k<n
    · obtain ⟨kd,hkd⟩:∃ kd,t.kids[k]?=some kd:=⟨_,gG (by have:=HN.out;omega)⟩;have hmem:kd∈t.kids:=mG hkd
      rcases HKID.out with h9 | ⟨g,off,rfl,hg,hrow⟩
      · rw [h9] at hkd;simp at hkd
      obtain ⟨q0,q1,q2,A2,c2,q3,hV2⟩:=(hrow.get hkd).open;have hbr:Below B w0 wr:=HBEL.out.trans HO.out.below;have hgB:g<B:=by rw [HBQ.out];exact hg
      rw [←hbr.cell (p:=⟨g,_,none⟩) hgB] at q0 q1 q2 q3;have hgw:g<wr.heap.size:=by omega
      obtain ⟨n2,HN2⟩:=exh_ kd.kids.length;rw [←HN2.out] at q3;have HBR:=Hd hbr;have HV2:=Hd hV2
      have HDR:Hid (t.kids.drop k=kd :: t.kids.drop (k+1)):=by
       obtain ⟨hj,hj2⟩:=gE.1 hkd;show _=_;rw [List.drop_eq_getElem_cons hj,hj2]
      have HSD:=Hd (Tm.sizeL_drop hkd);have HSK:=Hd (HSZ.out kd hmem);have hk0:(0:Int)≤(k:Int):=by omega
      have hk1:(k:Int)<(n:Int):=by omega
      have e1:off+4*k=off+k*4:=by omega
      rw [e1] at q0 q1 q2 q3;clear hkd hmem hrow hbr hV2 e1;obtain ⟨wk,hwk⟩:=ex_ (wr.alloc (.cells #[.int .i64 kd.op,.int .i64 kd.num,.string kd.name,.slice A2 n2 c2] 25));have hbk:=bAl hwk;have hBr:B≤wr.heap.size:=by omega
      have hzk:w.heap.size<wk.heap.size:=by have:=hbk.size;omega
      have hok:KT 25 B w wk:=HO.out.thenBelow hbk (by omega) hBr;have hih:=HIHH.out kd (d+1) A2 c2 x wk HSK.out.1 HSK.out.2 (by have h1:=HRM.out;rw [HSD.out] at h1;omega) HV2.out (V.keep x wr wk HI.out hbk) (HBR.out.trans (hbk.mono hBr))
      have HLO:Hid (Tm.sizeL (t.kids.drop (k+1))≤room (walkF step kd (d+1) x).1):=by
       have h1:=HRM.out;rw [HSD.out] at h1;have h2:=walkF_lose V.lose kd (d+1) x;show _≤_;omega
      rw [show ((d+1:Nat):Int)=(d:Int)+1 from by omega] at hih;unfold Tm.val at hih;rw [←HN2.out] at hih;obtain ⟨z,HZ⟩:=exh_ (walkF step kd (d+1) x);rw [←HZ.out] at hih HLO;have HIH:=Hd hih;have HWK:=Hd hwk;have HOK:=Hd hok;rw [HWK.out] at HIH;clear hih hwk hbk hok;go_wp2_with fail;refine (HIH.out).mono ?_;rintro e w2 ⟨rfl,hI2,ho2⟩;rw [←HWK.out] at ho2;have hz2:=ho2.below.size;have HI2:=Hd hI2;have HO2:=Hd (HOK.out.trans ho2);clear hI2 ho2;obtain ⟨y2,b2⟩:=z
      have HW2:Hid (walkL step (t.kids.drop k) (d+1) x=if b2=true then walkL step (t.kids.drop (k+1)) (d+1) y2 else (y2,false)):=by
       show _=_;rw [HDR.out,walkL,←HZ.out];cases b2 <;> rfl
      cases b2 with
      | false=>
       have HR:Hid (r=(y2,false)):=by show _=_;rw [←HWL.out,HW2.out];rfl
       go_wp2_with fail;go_ret;rw [HR.out];exact ⟨rfl,⟨HI2.out.1,fun h=>by cases h⟩,HO2.out⟩
      | true=>
       go_wp2_with fail
       go_roundw
       case rel=>exact ⟨k+1,y2,by omega,by go_num,HI2.out.2 (by first | rfl | trivial),HO2.out,by omega,HLO.out,by rw [←HWL.out,HW2.out];rfl⟩
       case measure=>first | (simp [intOf];done) | (simp [intOf];omega)
    · have hkn:k=n:=by omega
      have HR:Hid (r=(x,true)):=by
       show _=_;rw [←HWL.out,List.drop_eq_nil_of_le (by have:=HN.out;omega)]
       rfl
      have hk1:¬(k:Int)<(n:Int):=by omega
      go_wp2_with fail;go_ret;rw [HR.out];exact ⟨rfl,⟨V.fin _ _ HI.out,fun _=>HI.out⟩,HO.out⟩
abbrev Ob := @Only.of_below
abbrev lH := @lt_of_heap
def Box (w:World) (b:Nat) (T:TypeId) (v:Int):Prop:=w.heap[b]?=some (.cells #[.int .i64 v] T (0,0))
theorem Box.cell {w:World} {b:Nat} {T:TypeId} {v:Int} (h:Box w b T v):w.cell? ⟨b,0,none⟩=some (.int .i64 v):=by
 rw [cR w b 0 _ T (0,0) h];rfl
theorem Box.frozen {w:World} {b:Nat} {T:TypeId} {v:Int} (h:Box w b T v):w.frozen? ⟨b,0,none⟩=false:=by
 unfold Box at h;simp [World.frozen?,h]
theorem Box.lt {w:World} {b:Nat} {T:TypeId} {v:Int} (h:Box w b T v):b<w.heap.size:=by
 rcases Nat.lt_or_ge b w.heap.size with hlt | hge
 · exact hlt
 · unfold Box at h;rw [Array.getElem?_eq_none hge] at h;cases h
theorem Box.set {w:World} {b:Nat} {T:TypeId} {v:Int} (h:Box w b T v) (u:Int):Box (w.setCell ⟨b,0,none⟩ (.int .i64 u)) b T u:=by
 unfold Box at h ⊢;simp [World.setCell,Array.getElem?_modify,h]
theorem Box.setOther {w:World} {b:Nat} {T:TypeId} {v:Int} (h:Box w b T v) {p:Addr} (hp:b≠p.block) (u:Value):Box (w.setCell p u) b T v:=
 (hO_ w p b u hp).trans h
theorem Box.below {w w':World} {B b:Nat} {T:TypeId} {v:Int} (h:Box w b T v) (hb:Below B w w') (hB:b<B):Box w' b T v:=(hb.block b hB).trans h
theorem Box.only {w w':World} {F:Nat→Prop} {b:Nat} {T:TypeId} {v:Int} (h:Box w b T v) (hb:Only F w w') (hF:¬F b):Box w' b T v:=(hb.block b h.lt hF).trans h
theorem Box.new (w:World) (T:TypeId) (v:Int):Box (w.alloc (.cells #[.int .i64 v] T)) w.heap.size T v:=hA_ w _
def ChkInv (bw bn:Nat) (x:Int×Nat) (w:World):Prop:=Box w bw 26 x.1∧Box w bn 3 x.2∧x.2≤4096
def ChkFin (bw:Nat) (x:Int×Nat) (w:World):Prop:=Box w bw 26 x.1
theorem check1_any (bw bn:Nat) (hne:bw≠bn) (x:Int×Nat) (t:Tm) (d:Nat) (A:Option Addr) (c:Nat) (w:World) (hI:ChkInv bw bn x w) (hV:TmV w A c t) (hd:d≤10000000) :
 Calls Tryz.prog 108 #[t.val A c,.int .i64 d,.pointer (some ⟨bn,0,none⟩),.pointer (some ⟨bw,0,none⟩)] w fun e w'=>e=.returned (.bool (chkStep x t d).2)∧(ChkFin bw (chkStep x t d).1 w'∧((chkStep x t d).2=true→ChkInv bw bn (chkStep x t d).1 w'))∧Only (fun q=>q=bw∨q=bn) w w':=by
 obtain ⟨hw1,hn1,hx2⟩:=hI;obtain ⟨e0,n⟩:=x;simp only at hw1 hn1 hx2;obtain ⟨we,hwe⟩:=ex_ (wrongE t.op t.num t.name.size t.kids.length);have hwr:=fun W=>wrong_any t.op t.num t.name A t.kids.length c W hV.name (Nat.le_trans hV.cap hV.capm);rw [←hwe] at hwr;have HWR:=Hd hwr;obtain ⟨wb,hwb⟩:=ex_ (w.alloc (.cells #[.int .i64 t.op,.int .i64 t.num,.string t.name,.slice A t.kids.length c] 25));have hb1:=bAl hwb;have hlw:=hw1.lt;have hln:=hn1.lt;have cw:=hw1.cell;have cn:=hn1.cell;have fw:=hw1.frozen;have fn:=hn1.frozen;have HW1:=Hd hw1;have HN1:=Hd hn1
 have HST:Hid (chkStep (e0,n) t d=((if 64<d then 17 else if we=0∧4096<n+1 then 4 else we,n+1),decide ((if 64<d then (17:Int) else if we=0∧4096<n+1 then 4 else we)=0))):=by
  show _=_;rw [hwe];rfl
 obtain ⟨st,hst⟩:=ex_ (chkStep (e0,n) t d);rw [←hst] at HST ⊢;obtain ⟨nk,hnk⟩:=ex_ t.kids.length;have hne':bn≠bw:=fun h=>hne h.symm;unfold Tm.val;clear hwr hwe hst hV hw1 hn1 hb1 hwb hnk
 by_cases hd64:64<d
 · have hd':(64:Int)<(d:Int):=by omega
   go_enter Tryz.func108,Tryz.ntmps108;go_wp2_with fail;have hs2:st=((17,n+1),false):=by rw [HST.out,iP hd64];rfl
   rw [hs2];clear hs2;go_ret;refine ⟨rfl,⟨?_,fun h=>by cases h⟩,?_⟩
   · exact ((HW1.out.setOther (p:=⟨bn,0,none⟩) hne _).set _).below ((Br w.heap.size _).alloc (by simp) _) (by simpa using hlw)
   · exact (((Only.refl (F:=fun q=>q=bw∨q=bn)).setF (Or.inr rfl) _).setF (Or.inl rfl) _).thenBelow ((Br w.heap.size _).alloc (by simp) _) (lr _)
 · have hd':¬(64:Int)<(d:Int):=by omega
   have hs2:st=((if we=0∧4096<n+1 then 4 else we,n+1),decide ((if we=0∧4096<n+1 then 4 else we)=0)):=by rw [HST.out,iN hd64]
   have HS2:=Hd hs2;clear hs2;obtain ⟨w2,hw2⟩:=ex_ ((w.setCell ⟨bn,0,none⟩ (.int .i64 ((n:Int)+1))).alloc (.cells #[.int .i64 t.op,.int .i64 t.num,.string t.name,.slice A t.kids.length c] 25));have hbw2:Box w2 bw 26 e0:=by rw [hw2];exact (HW1.out.setOther (p:=⟨bn,0,none⟩) hne _).below ((Br w.heap.size _).alloc (by simp) _) (by simpa using hlw)
   have hbn2:Box w2 bn 3 ((n:Int)+1):=by rw [hw2];exact (HN1.out.set _).below ((Br w.heap.size _).alloc (by simp) _) (by simpa using hln)
   have ho2:Only (fun q=>q=bw∨q=bn) w w2:=by rw [hw2];exact ((Only.refl (F:=fun q=>q=bw∨q=bn)).setF (Or.inr rfl) _).thenBelow ((Br w.heap.size _).alloc (by simp) _) (lr _)
   have HW2:=Hd hw2;have HBW2:=Hd hbw2;have HBN2:=Hd hbn2;have HO2:=Hd ho2;clear hw2 hbw2 hbn2 ho2;go_enter Tryz.func108,Tryz.ntmps108;go_wp2_with fail;rw [←HW2.out];refine (HWR.out w2).mono ?_;rintro e w3 ⟨rfl,hb3⟩;clear cw cn fw fn;have hbw3:=HBW2.out.below hb3 HBW2.out.lt;have hbn3:=HBN2.out.below hb3 HBN2.out.lt;have HO3:=Hd (HO2.out.thenBelow hb3 HO2.out.size);have cw:=hbw3.cell;have cn:=hbn3.cell;have fw:=hbw3.frozen;have fn:=hbn3.frozen;have lw:=hbw3.lt;have ln:=hbn3.lt;have HBW3:=Hd hbw3;have HBN3:=Hd hbn3;clear hbw3 hbn3 hb3
   by_cases h0:we=0
   · by_cases h4:4096<n+1
     · have hs2:st=((4,n+1),false):=by rw [HS2.out,iP ⟨h0,h4⟩];rfl
       have HSS:=Hd hs2;subst h0;have h4':(4096:Int)<(n:Int)+1:=by omega
       clear hs2;go_wp2_with fail;go_ret;rw [HSS.out];refine ⟨rfl,⟨?_,fun h=>by cases h⟩,?_⟩
       · exact (HBW3.out.set _).set _
       · exact (HO3.out.setF (Or.inl rfl) _).setF (Or.inl rfl) _
     · have hs2:st=((0,n+1),true):=by rw [HS2.out,iN (by omega),h0];rfl
       have HSS:=Hd hs2;subst h0;have h4':¬(4096:Int)<(n:Int)+1:=by omega
       clear hs2;go_wp2_with fail;go_ret;rw [HSS.out];refine ⟨rfl,⟨HBW3.out.set _,fun _=>⟨HBW3.out.set _,?_,(by show n+1≤4096;omega)⟩⟩,HO3.out.setF (Or.inl rfl) _⟩;exact HBN3.out.setOther (p:=⟨bw,0,none⟩) hne' _
   · have hs2:st=((we,n+1),false):=by rw [HS2.out,iN (fun h=>h0 h.1),dF h0]
     have HSS:=Hd hs2;have h0':(we == 0)=false:=by simpa using h0
     clear hs2 h0;go_wp2_with fail;go_ret;rw [HSS.out];exact ⟨rfl,⟨HBW3.out.set _,fun h=>by cases h⟩,HO3.out.setF (Or.inl rfl) _⟩
theorem check_any (t:Tm) (A:Option Addr) (c:Nat) (w:World) (hV:TmV w A c t) (hsz:t.size≤9000000) :
 Calls Tryz.prog 62 #[t.val A c] w fun e w'=>e=.returned (.int .i64 t.check)∧Below w.heap.size w w':=by
 obtain ⟨wb,hwb⟩:=ex_ (((w.alloc (.cells #[.int .i64 t.op,.int .i64 t.num,.string t.name,.slice A t.kids.length c] 25)).alloc (.cells #[.int .i64 0] 26)).alloc (.cells #[.int .i64 0] 3));have hb1:Below w.heap.size w wb:=by rw [hwb];exact (((Br _ _).alloc (lr _) _).alloc (by simp) _).alloc (by simp;omega) _
 have hbw:Box wb (w.heap.size+1) 26 0:=by
  rw [hwb];have h:=Box.new (w.alloc (.cells #[.int .i64 t.op,.int .i64 t.num,.string t.name,.slice A t.kids.length c] 25)) 26 0;rw [show (w.alloc (.cells #[.int .i64 t.op,.int .i64 t.num,.string t.name,.slice A t.kids.length c] 25)).heap.size=w.heap.size+1 from by simp] at h;exact h.below ((Br (w.heap.size+2) _).alloc (by simp) _) (by omega)
 have hbn:Box wb (w.heap.size+2) 3 0:=by
  rw [hwb];have h:=Box.new ((w.alloc (.cells #[.int .i64 t.op,.int .i64 t.num,.string t.name,.slice A t.kids.length c] 25)).alloc (.cells #[.int .i64 0] 26)) 3 0;rw [show ((w.alloc (.cells #[.int .i64 t.op,.int .i64 t.num,.string t.name,.slice A t.kids.length c] 25)).alloc (.cells #[.int .i64 0] 26)).heap.size=w.heap.size+2 from by simp] at h;exact h
 have V:Visitor 108 #[.pointer (some ⟨w.heap.size+2,0,none⟩),.pointer (some ⟨w.heap.size+1,0,none⟩)] w.heap.size w (ChkInv (w.heap.size+1) (w.heap.size+2)) (ChkFin (w.heap.size+1)) chkStep (fun _=>10000000):=
  { enter:=fun args w=>by kernel_rfl
    fin:=fun s w h=>h.1
    keep:=fun s w w' h hb=>⟨h.1.below hb h.1.lt,h.2.1.below hb h.2.1.lt,h.2.2⟩
    lose:=fun s t d=>Nat.le_succ _
    call:=fun s t d A c w' hI hbl hV hd _=>(check1_any _ _ (by omega) s t d A c w' hI hV hd).mono fun e w2 ⟨h1,h2,h3⟩=>⟨h1,h2,KT.of_only h3 (fun q hq=>by omega) hbl.size (fun q hq cs fz he=>by
     rcases hq with rfl | rfl
     · have h4:=hI.1;unfold Box at h4;rw [he] at h4
       injection h4 with h4
       injection h4 with _ h4 _
       exact absurd h4 (by decide)
     · have h4:=hI.2.1;unfold Box at h4;rw [he] at h4
       injection h4 with h4
       injection h4 with _ h4 _
       exact absurd h4 (by decide))⟩ }
 have hwalk:=walk_any V rfl t.size t 1 A c (0,0) wb (lr _) (by omega) (by omega) hV ⟨hbw,hbn,zl _⟩ hb1;rw [hwb] at hwalk;have HWK:=Hd hwalk;have HB1:=Hd hb1;have HWB:=Hd hwb;unfold Tm.val at HWK ⊢;clear hb1 hbw hbn V hwalk hwb hV hsz;go_enter Tryz.func62,Tryz.ntmps62;go_wp2_with fail;refine (HWK.out).mono ?_;rintro e w1 ⟨rfl,hfin,ho⟩;rw [←HWB.out] at ho;have hbx:Box w1 (w.heap.size+1) 26 t.check:=hfin.1;have HO:=Hd (HB1.out.trans ho.below);have cw:=hbx.cell;clear hfin ho;go_wp2_with fail;go_ret;exact ⟨rfl,HO.out⟩
def val (b:Nat):List Nat→Nat
 | []=>0
 | d :: r=>d+b*val b r
def digsF:Nat→Nat→Nat→List Nat
 | 0,_,_=>[]
 | f+1,b,n=>if n=0 then [] else n % b :: digsF f b (n / b)
def digs (b n:Nat):List Nat:=digsF n b n
theorem digsF_enough {b:Nat} (hb:2≤b):∀ (f g n:Nat),n≤f→n≤g→digsF f b n=digsF g b n
 | 0,g,n,h1,h2=>by
  have:n=0:=by omega
  subst this;cases g <;> rfl
 | f+1,0,n,h1,h2=>by
  have:n=0:=by omega
  subst this
  rfl
 | f+1,g+1,n,h1,h2=>by
  unfold digsF
  split
  · rfl
  · rename_i hn
    have hlt:n / b<n:=Nat.div_lt_self (by omega) (by omega);rw [digsF_enough hb f g (n / b) (by omega) (by omega)]
theorem digs_pos {b n:Nat} (hb:2≤b) (hn:n≠0):digs b n=n % b :: digs b (n / b):=by
 obtain ⟨m,rfl⟩:∃ m,n=m+1:=⟨n - 1,by omega⟩;have hlt:(m+1) / b<m+1:=Nat.div_lt_self (by omega) (by omega);show digsF (m+1) b (m+1)=_;rw [digsF,iN (by omega),digsF_enough hb m ((m+1) / b) _ (by omega) (lr _)]
 rfl
theorem digs_len {b:Nat} (hb:2≤b):∀ (m n:Nat),n<b ^ m→(digs b n).length≤m
 | 0,n,h=>by
  have:n=0:=by simpa using h
  subst this;exact lr _
 | m+1,n,h=>by
  by_cases hn:n=0
  · subst hn;exact zl _
  · rw [digs_pos hb hn,List.length_cons];have:=digs_len hb m (n / b) (by rw [Nat.div_lt_iff_lt_mul (by omega)];rw [Nat.pow_succ] at h;exact h);omega
def decB (x:Nat):Bs:=if x=0 then [48] else (digs 10 x).reverse.map fun d=>UInt8.ofNat (48+d)
def numS (n:Int):Bs:=if n<0 then 45 :: decB n.natAbs else decB n.natAbs
def lowB:Nat→Nat→Bs
 | 0,_=>[]
 | k+1,x=>lowB k (x / 10)++[UInt8.ofNat (48+x % 10)]
theorem lowB_front:∀ (k x:Nat),lowB (k+1) x=UInt8.ofNat (48+x / 10 ^ k % 10) :: lowB k x
 | 0,x=>by rw [lowB,Nat.pow_zero,Nat.div_one];rfl
 | k+1,x=>by
  rw [lowB,lowB_front k (x / 10),Nat.div_div_eq_div_mul,lowB,List.cons_append,Nat.pow_succ,Nat.mul_comm 10]
theorem decB_low:∀ (k x:Nat),x / 10 ^ k=0→(k=1∨(1<k∧0<x / 10 ^ (k - 1)))→lowB k x=decB x
 | 0,x,_,h=>by omega
 | 1,x,h,_=>by
  rw [Nat.pow_one] at h;have hx:x<10:=by omega
  unfold decB
  by_cases h0:x=0
  · subst h0;rfl
  · rw [iN h0,digs_pos (by decide) h0,h]
    rfl
 | k+2,x,h,hk=>by
  have hk2:0<x / 10 ^ (k+1):=by rcases hk with hk | hk;omega;exact hk.2
  have hx:x≠0:=by intro h0;subst h0;simp at hk2
  have e1:x / 10 ^ (k+2)=x / 10 / 10 ^ (k+1):=by rw [Nat.div_div_eq_div_mul,Nat.pow_succ 10 (k+1),Nat.mul_comm]
  have e2:x / 10 ^ (k+1)=x / 10 / 10 ^ k:=by rw [Nat.div_div_eq_div_mul,Nat.pow_succ 10 k,Nat.mul_comm]
  have ih:=decB_low (k+1) (x / 10) (by rw [←e1];exact h) (by
   rcases Nat.eq_zero_or_pos k with h0 | h0
   · left;omega
   · right;exact ⟨by omega,by rw [Nat.add_sub_cancel,←e2];exact hk2⟩)
  have hx10:x / 10≠0:=by
   intro h0;rw [e2,h0] at hk2;simp at hk2
  rw [lowB,ih];unfold decB;rw [iN hx10,iN hx,digs_pos (by decide) hx,List.reverse_cons,List.map_append]
  rfl
theorem decB_len (x:Nat) (h:x<10 ^ 20):(decB x).length≤20:=by
 unfold decB
 split
 · decide
 · have:=digs_len (b:=10) (by decide) 20 x h
   simpa using this
def dvB (l:Bs):Array Value:=(l.map fun (c:UInt8)=>Value.int .u8 (c.toNat:Int)).toArray
def RowB (w:World) (g:Nat) (T:TypeId) (l:Bs):Prop:=w.heap[g]?=some (.cells (dvB l) T (0,0))
section
variable {w w':World} {g:Nat} {T:TypeId} {l:Bs}
theorem RowB.lt (h:RowB w g T l):g<w.heap.size:=by
 rcases Nat.lt_or_ge g w.heap.size with hlt | hge
 · exact hlt
 · unfold RowB at h;rw [Array.getElem?_eq_none hge] at h;cases h
theorem RowB.cell (h:RowB w g T l) {i:Nat} {c:UInt8} (hd:l[i]?=some c):w.cell? ⟨g,i,none⟩=some (.int .u8 (c.toNat:Int)):=by
 rw [cR w g i (dvB l) T (0,0) h];simp [dvB,hd]
theorem RowB.frozen (h:RowB w g T l) (i:Nat):w.frozen? ⟨g,i,none⟩=false:=by
 unfold RowB at h;simp [World.frozen?,h]
theorem RowB.set_ (h:RowB w g T l) (i:Nat) (c:UInt8):RowB (w.setCell ⟨g,i,none⟩ (.int .u8 (c.toNat:Int))) g T (l.set i c):=by
 unfold RowB at h ⊢;simp [World.setCell,Array.getElem?_modify,h,dvB,List.map_set]
theorem RowB.below {B:Nat} (h:RowB w g T l) (hb:Below B w w') (hg:g<B):RowB w' g T l:=(hb.block g hg).trans h
end
theorem size_any (n:Int) (w:World) (h1:-9223372036854775808≤n) (h2:n≤9223372036854775807) :
 Calls Tryz.prog 157 #[.int .i64 n] w fun e w'=>e=.returned (.int .u64 (n.natAbs:Nat))∧w=w':=by
 by_cases h:n<0
 · have e1:IntKind.u64.wrap (-IntKind.u64.wrap n)=(n.natAbs:Nat):=by
    show (-(n % 18446744073709551616)) % 18446744073709551616=_;omega
   have E1:=Hd e1;clear e1;go_enter Tryz.func157,Tryz.ntmps157
   go_wp2
   go_ret;rw [E1.out];exact ⟨rfl,rfl⟩
 · obtain ⟨m,rfl⟩:∃ m:Nat,n=m:=⟨n.toNat,by omega⟩;rw [Int.natAbs_natCast];go_enter Tryz.func157,Tryz.ntmps157
   go_wp2
   go_ret;exact ⟨rfl,rfl⟩
theorem numtext_any (n:Int) (w:World) (h1:-9223372036854775808≤n) (h2:n≤9223372036854775807) :
 Calls Tryz.prog 99 #[.int .i64 n] w fun e w'=>e=.returned (.string ⟨(numS n).toArray⟩)∧Below w.heap.size w w':=by
 have HSZ:=Hd (fun W=>size_any n W h1 h2);obtain ⟨x,hx⟩:=ex_ n.natAbs;have hxb:x<10 ^ 19:=by rw [hx];show n.natAbs<10000000000000000000;omega
 rw [←hx] at HSZ;have HX:=Hd hx;have HXB:=Hd hxb;clear hx hxb h1 h2;obtain ⟨W,HW⟩:=exh_ (w.alloc (.cells (dvB (List.replicate 20 0)) 214));have hR0:Hid (RowB W w.heap.size 214 (List.replicate 20 0)):=by rw [HW.out];exact hA_ w _
 have hB0:Hid (Below w.heap.size w W):=by rw [HW.out];exact (Br _ _).alloc (lr _) _
 go_enter Tryz.func99,Tryz.ntmps99;go_wp2_with fail;refine (HSZ.out _).mono ?_;rintro e w1 ⟨rfl,hw⟩;rw [←hw];clear hw;go_wp2_with fail;have hR1:Hid (RowB (w.alloc (.cells #[.int .u8 0,.int .u8 0,.int .u8 0,.int .u8 0,.int .u8 0,.int .u8 0,.int .u8 0,.int .u8 0,.int .u8 0,.int .u8 0,.int .u8 0,.int .u8 0,.int .u8 0,.int .u8 0,.int .u8 0,.int .u8 0,.int .u8 0,.int .u8 0,.int .u8 0,.int .u8 0] 214)) w.heap.size 214 (List.replicate 20 0)):=hA_ w _
 go_loopw [4,5] (fun sa su wr=>∃ (k a u:Nat) (L:Bs),a+k=20∧sa=.int .i64 a∧su=.int .u64 u∧u=x / 10 ^ k∧L.length=20∧L.drop a=lowB k x∧RowB wr w.heap.size 214 L∧(1<k→0<x / 10 ^ (k - 1))∧Below w.heap.size w wr) (fun a _ _=>(intOf a).toNat)
 case atStart=>exact ⟨0,20,x,_,rfl,rfl,rfl,by rw [Nat.pow_zero,Nat.div_one],by simp,rfl,hR1.out,(fun h=>by omega),(Br _ _).alloc (lr _) _⟩
 case round=>
  obtain ⟨k,a,u,L,hak,rfl,rfl,hu,hL,hdr,hrow,hpos,hbel⟩:=hrel;have HU:=Hd hu;have HL:=Hd hL;have HDR:=Hd hdr;have HROW:=Hd hrow;have HPOS:=Hd hpos;have HBL:=Hd hbel;have hgl:=hrow.lt;have hfz:=hrow.frozen (a - 1)
  have hxk:∀ j,0<x / 10 ^ j→j<19:=fun j hj=>by
   have h1:=(Nat.div_pos_iff.1 hj).2;exact (Nat.pow_lt_pow_iff_right (by decide)).1 (Nat.lt_of_le_of_lt h1 HXB.out)
  have HXK:=Hd hxk
  have hub:u≤10000000000000000000:=by
   have h1:=HXB.out;have h2:u≤x:=by rw [HU.out];exact Nat.div_le_self _ _
   have h3:(10:Nat) ^ 19=10000000000000000000:=rfl;omega
  clear hu hL hdr hrow hpos hbel hxk
  by_cases hgo:k=0∨0<u
  · have hk19:k≤18:=by
     rcases hgo with h | h
     · omega
     · have:=HXK.out k (by rw [←HU.out];exact h);omega
    obtain ⟨c,hc⟩:∃ c:UInt8,c=UInt8.ofNat (48+u % 10):=⟨_,rfl⟩;have hct:c.toNat=48+u % 10:=by rw [hc,UInt8.toNat_ofNat'];omega
    have E1:Hid (48+(u:Int) % 10=(c.toNat:Int)):=by show _=_;omega
    have HC:=Hd hc;obtain ⟨o0,ho0⟩:∃ o0,L[a - 1]?=some o0:=⟨_,gG (by have:=HL.out;omega)⟩;have y0:=HROW.out.cell ho0;have HO0:=Hd ho0;clear ho0;have ha1:(0:Int)≤(a:Int) - 1:=by omega
    have ha2:(a:Int) - 1<20:=by omega
    have ha3:((a:Int) - 1).toNat=a - 1:=by omega
    have ha4:(a:Int)≤20:=by omega
    clear hc hct
    have hcond:(((a:Int) == 20)=true)∨(((a:Int) == 20)=false∧(0:Int)<(u:Int)):=by
     rcases Nat.eq_zero_or_pos k with h | h
     · left;simp;omega
     · right;exact ⟨by simp;omega,by omega⟩
    have HG:=Hd hgo;clear hgo
    rcases hcond with b1 | ⟨b1,b2⟩
    all_goals
     go_wp2_with fail
     go_roundw
     case rel=>
      rw [E1.out];refine ⟨k+1,a - 1,u / 10,L.set (a - 1) c,by omega,congrArg (Value.int .i64) (by omega),congrArg (Value.int .u64) (by omega),by rw [HU.out,Nat.div_div_eq_div_mul,Nat.pow_succ],by rw [List.length_set];exact HL.out,?_,HROW.out.set_ _ _,fun h=>?_,HBL.out.setCell (p:=⟨w.heap.size,a - 1,none⟩) (lr _) _⟩
      · have hla:a - 1<L.length:=by have:=HL.out;omega
        rw [List.drop_eq_getElem_cons (by rw [List.length_set];exact hla),List.getElem_set_self,List.drop_set_of_lt (by omega),show a - 1+1=a from by omega,HDR.out,lowB_front,←HU.out,←HC.out]
      · have hk0:k≠0:=by omega
        rw [Nat.add_sub_cancel,←HU.out]
        rcases HG.out with h9 | h9
        · exact absurd h9 hk0
        · exact h9
     case measure=>first | (simp [intOf];done) | (simp [intOf];omega)
  · have hk0:k≠0:=fun h=>hgo (.inl h);have hu0:u=0:=by rcases Nat.eq_zero_or_pos u with h | h;exact h;exact absurd (.inr h) hgo
    have hk19:k≤19:=by
     rcases Nat.lt_or_ge k 2 with h | h
     · omega
     · have:=HXK.out (k - 1) (HPOS.out (by omega));omega
    have hlow:lowB k x=decB x:=decB_low k x (by rw [←HU.out];exact hu0) (by
     rcases Nat.lt_or_ge k 2 with h | h
     · left;omega
     · right;exact ⟨by omega,HPOS.out (by omega)⟩)
    have HLOW:=Hd hlow;subst hu0;have b1:((a:Int) == 20)=false:=by simp;omega
    clear hgo hlow
    have hcvt:∀ (wr':World) (b:Nat) (L':Bs),b≤20→L'.length=20→RowB wr' w.heap.size 214 L'→(convert 104 9 (.slice (some ⟨w.heap.size,b,none⟩) (20 - b) (20 - b))).run Tryz.prog wr'=.ok (.string ⟨(L'.drop b).toArray⟩) wr':=by
     intro wr' b L' hb hL' hr
     have h1:=run_convert_bytes_arg wr' 104 5 Tryz.underlying104 Tryz.underlying5 w.heap.size b (20 - b) (20 - b) ((L'.drop b).map fun (c:UInt8)=>(c.toNat:Int)) (by rw [List.length_map,List.length_drop];omega) (fun i hi=>by
      have hx:L'[b+i]?=some (L'[b+i]'(by omega)):=gG (by omega);rw [hr.cell hx]
      simp [List.getD,List.getElem?_map,List.getElem?_drop,hx]) 9 Tryz.underlying9
     rw [h1]
     congr 2
     apply ByteArray.ext
     apply Array.toList_inj.1
     rw [strOfNums_data,List.map_map]
     have hid:∀ c∈L'.drop b,((fun n:Int=>UInt8.ofNat n.toNat) ∘ fun c:UInt8=>(c.toNat:Int)) c=c:=fun c _=>by
      show UInt8.ofNat ((c.toNat:Int)).toNat=c;rw [Int.toNat_natCast,UInt8.ofNat_toNat]
     first
      | (rw [List.map_congr_left hid];simp)
      | simp
    have HCV:=Hd hcvt;clear hcvt
    by_cases hn:n<0
    · obtain ⟨b,hb⟩:=ex_ (a - 1);obtain ⟨o0,ho0⟩:∃ o0,L[b]?=some o0:=⟨_,gG (by have:=HL.out;omega)⟩;have y0:=HROW.out.cell ho0;rw [←hb] at hfz;have e1:(a:Int) - 1=(b:Int):=by omega
      have hb20:b≤19:=by omega
      have hbi:(b:Int)≤20:=by omega
      have hbi2:(b:Int)<20:=by omega
      have hcv2:=HCV.out (wr.setCell ⟨w.heap.size,b,none⟩ (.int .u8 45)) b (L.set b 45) (by omega) (by rw [List.length_set];exact HL.out) (HROW.out.set_ b 45)
      have hres:(L.set b 45).drop b=numS n:=by
       have hbl:b<(L.set b 45).length:=by rw [List.length_set];have:=HL.out;omega
       rw [List.drop_eq_getElem_cons hbl,List.getElem_set_self,List.drop_set_of_lt (by omega),show b+1=a from by omega,HDR.out,HLOW.out];unfold numS;rw [iP hn,HX.out]
      rw [hres] at hcv2;have HBL2:=Hd (HBL.out.setCell (p:=⟨w.heap.size,b,none⟩) (lr _) (.int .u8 45));clear ho0 hb hres HCV;go_wp2_with fail;go_ret;exact ⟨rfl,HBL2.out⟩
    · have ha4:(a:Int)≤20:=by omega
      have hcv2:=HCV.out wr a L (by omega) HL.out HROW.out
      have hres:L.drop a=numS n:=by
       rw [HDR.out,HLOW.out];unfold numS;rw [iN hn,HX.out]
      rw [hres] at hcv2;clear hres HCV;go_wp2_with fail;go_ret;exact ⟨rfl,HBL.out⟩
end Go.Proofs.YtnbphgeepnknlaaGreatDoor
