/- Walks and plain words: MdP MdE PrsA MtA MtB. -/
import Derived.Test.YtkhoeoilamddaaaGreatDoorVParQ
namespace Go.Proofs.YtkhoeoilamddaaaGreatDoor
set_option linter.unusedVariables false
structure Vr where
 name:ByteArray
 bool:Bool
 lo:Int
 hi:Int
structure Df where
 name:ByteArray
 tm:Tm
structure Sp where
 name:ByteArray
 fm:Fm
structure Md where
 vars:List Vr
 defs:List Df
 init:List Tm
 invar:List Tm
 next:List Df
 trans:List Tm
 fair:List Tm
 specs:List Sp
def zeroMd:Md:=⟨[],[],[],[],[],[],[],[]⟩
def wBool:Bs:=[98,111,111,108]
def wVar:Bs:=[118,97,114]
def wDef:Bs:=[100,101,102]
def wInit:Bs:=[105,110,105,116]
def wInvar:Bs:=[105,110,118,97,114]
def wTrans:Bs:=[116,114,97,110,115]
def wFair:Bs:=[102,97,105,114]
def wSpec:Bs:=[115,112,101,99]
section
variable (l:List Tok)
def nameP (i:Nat):Rs ByteArray:=if isKd l i 2 then .ok ⟨(textAt l i).toArray⟩ (i+1) else .bad i 16
def mustP (i:Nat) (k:Int) (s:Bs):Rs Unit:=if isTk l i k s then .ok () (i+1) else .bad i 16
def namedP (sign:Bs) (i:Nat):Rs ByteArray:=(nameP l i).then fun s j=>(mustP l j 4 sign).then fun _ k=>.ok s k
def numP (i:Nat):Rs Int:=if isTk l i 4 [45] then (if isKd l (i+1) 1 then .ok (- numAt l (i+1)) (i+2) else .bad (i+1) 16) else if isKd l i 1 then .ok (numAt l i) (i+1) else .bad i 16
def varP (i:Nat):Rs Vr:=(namedP l [58] i).then fun s j=>
 if isTk l j 3 wBool then .ok ⟨s,true,0,0⟩ (j+1)
 else (numP l j).then fun a k=>(mustP l k 4 [46,46]).then fun _ m=>(numP l m).then fun b n=>.ok ⟨s,false,a,b⟩ n
def tmP (i:Nat):Rs Tm:=if (takeT l i).2.2≠0 then .bad (takeT l i).2.1 (takeT l i).2.2 else .ok (takeT l i).1 (takeT l i).2.1
def fmP (i:Nat):Rs Fm:=if (takeF l i).2.2≠0 then .bad (takeF l i).2.1 (takeF l i).2.2 else .ok (takeF l i).1 (takeF l i).2.1
def defP (i:Nat):Rs Df:=(namedP l [58,61] i).then fun s j=>(tmP l j).then fun t k=>.ok ⟨s,t⟩ k
def specP (i:Nat):Rs Sp:=(namedP l [58] i).then fun s j=>(fmP l j).then fun f k=>.ok ⟨s,f⟩ k
def moreP {α:Type} (n:Nat) (p:Nat→Rs α) (i:Nat):Rs α:=if 64≤n then .bad i 18 else p (i+1)
def declB (m:Md) (i:Nat):Rs Md:=
 if isTk l i 3 wVar then (moreP m.vars.length (varP l) i).then fun x j=>.ok { m with vars:=m.vars++[x] } j
 else if isTk l i 3 wDef then (moreP m.defs.length (defP l) i).then fun x j=>.ok { m with defs:=m.defs++[x] } j
 else if isTk l i 3 wInit then (moreP m.init.length (tmP l) i).then fun x j=>.ok { m with init:=m.init++[x] } j
 else if isTk l i 3 wInvar then (moreP m.invar.length (tmP l) i).then fun x j=>.ok { m with invar:=m.invar++[x] } j
 else if isTk l i 3 wNext then (moreP m.next.length (defP l) i).then fun x j=>.ok { m with next:=m.next++[x] } j
 else if isTk l i 3 wTrans then (moreP m.trans.length (tmP l) i).then fun x j=>.ok { m with trans:=m.trans++[x] } j
 else if isTk l i 3 wFair then (moreP m.fair.length (tmP l) i).then fun x j=>.ok { m with fair:=m.fair++[x] } j
 else if isTk l i 3 wSpec then (moreP m.specs.length (specP l) i).then fun x j=>.ok { m with specs:=m.specs++[x] } j
 else .bad i 16
def declP (m:Md) (i:Nat):Rs Md:=(declB l m i).then fun m j=>(mustP l j 4 [59]).then fun _ k=>.ok m k
def modF:Nat→Md→Nat→Rs Md
 | 0,m,i=>.ok m i
 | k+1,m,i=>if l.length≤i then .ok m i else (declP l m i).then fun m j=>modF k m j
end
def parseM (s:Bs):Md×Int×Int:=
 if (all s).2.2≠0 then (zeroMd,(all s).2.1,(all s).2.2) else
 match modF (all s).1 (all s).1.length zeroMd 0 with
 | .bad i e=>(zeroMd,atOf (all s).1 s.length i,e)
 | .ok m _=>(m,s.length,0)
inductive El where
 | var (x:Vr)
 | defs (x:Df)
 | init (x:Tm)
 | invar (x:Tm)
 | next (x:Df)
 | trans (x:Tm)
 | fair (x:Tm)
 | spec (x:Sp)
def El.put (m:Md):El→Md
 | .var x=>{ m with vars:=m.vars++[x] }
 | .defs x=>{ m with defs:=m.defs++[x] }
 | .init x=>{ m with init:=m.init++[x] }
 | .invar x=>{ m with invar:=m.invar++[x] }
 | .next x=>{ m with next:=m.next++[x] }
 | .trans x=>{ m with trans:=m.trans++[x] }
 | .fair x=>{ m with fair:=m.fair++[x] }
 | .spec x=>{ m with specs:=m.specs++[x] }
def El.cnt (m:Md):El→Nat
 | .var _=>m.vars.length
 | .defs _=>m.defs.length
 | .init _=>m.init.length
 | .invar _=>m.invar.length
 | .next _=>m.next.length
 | .trans _=>m.trans.length
 | .fair _=>m.fair.length
 | .spec _=>m.specs.length
def Rs.map {α β:Type} (f:α→β) (r:Rs α):Rs β:=r.then fun x j=>.ok (f x) j
def elP (l:List Tok) (i:Nat):Rs El:=
 if isTk l i 3 wVar then (varP l (i+1)).map .var
 else if isTk l i 3 wDef then (defP l (i+1)).map .defs
 else if isTk l i 3 wInit then (tmP l (i+1)).map .init
 else if isTk l i 3 wInvar then (tmP l (i+1)).map .invar
 else if isTk l i 3 wNext then (defP l (i+1)).map .next
 else if isTk l i 3 wTrans then (tmP l (i+1)).map .trans
 else if isTk l i 3 wFair then (tmP l (i+1)).map .fair
 else if isTk l i 3 wSpec then (specP l (i+1)).map .spec
 else .bad i 16
theorem map_ok {α β:Type} {f:α→β} {r:Rs α} {y:β} {j:Nat} (h:r.map f=.ok y j):∃ x,r=.ok x j∧y=f x:=by
 cases r with
 | bad i e=>cases h
 | ok x k=>cases h;exact ⟨x,rfl,rfl⟩
theorem more_map {α:Type} {n i j:Nat} {p:Nat→Rs α} {f:α→El} {g:α→Md} {e:El} (h:(p (i+1)).map f=.ok e j):∃ x,p (i+1)=.ok x j∧e=f x∧((moreP n p i).then fun x j=>(.ok (g x) j:Rs Md))=if 64≤n then .bad i 18 else .ok (g x) j:=by
 obtain ⟨x,h1,h2⟩:=map_ok h;refine ⟨x,h1,h2,?_⟩;unfold moreP
 by_cases hn:64≤n
 · rw [iP hn,iP hn];rfl
 · rw [iN hn,iN hn,h1];rfl
theorem declB_el {l:List Tok} {m:Md} {i j:Nat} {e:El} (h:elP l i=.ok e j):declB l m i=if 64≤e.cnt m then .bad i 18 else .ok (e.put m) j:=by
 unfold elP at h;unfold declB
 by_cases c1:isTk l i 3 wVar=true
 · rw [iP c1] at h ⊢;obtain ⟨x,-,rfl,hm⟩:=more_map (n:=m.vars.length) (g:=fun x=>{ m with vars:=m.vars++[x] }) h;exact hm
 rw [iN c1] at h ⊢
 by_cases c2:isTk l i 3 wDef=true
 · rw [iP c2] at h ⊢;obtain ⟨x,-,rfl,hm⟩:=more_map (n:=m.defs.length) (g:=fun x=>{ m with defs:=m.defs++[x] }) h;exact hm
 rw [iN c2] at h ⊢
 by_cases c3:isTk l i 3 wInit=true
 · rw [iP c3] at h ⊢;obtain ⟨x,-,rfl,hm⟩:=more_map (n:=m.init.length) (g:=fun x=>{ m with init:=m.init++[x] }) h;exact hm
 rw [iN c3] at h ⊢
 by_cases c4:isTk l i 3 wInvar=true
 · rw [iP c4] at h ⊢;obtain ⟨x,-,rfl,hm⟩:=more_map (n:=m.invar.length) (g:=fun x=>{ m with invar:=m.invar++[x] }) h;exact hm
 rw [iN c4] at h ⊢
 by_cases c5:isTk l i 3 wNext=true
 · rw [iP c5] at h ⊢;obtain ⟨x,-,rfl,hm⟩:=more_map (n:=m.next.length) (g:=fun x=>{ m with next:=m.next++[x] }) h;exact hm
 rw [iN c5] at h ⊢
 by_cases c6:isTk l i 3 wTrans=true
 · rw [iP c6] at h ⊢;obtain ⟨x,-,rfl,hm⟩:=more_map (n:=m.trans.length) (g:=fun x=>{ m with trans:=m.trans++[x] }) h;exact hm
 rw [iN c6] at h ⊢
 by_cases c7:isTk l i 3 wFair=true
 · rw [iP c7] at h ⊢;obtain ⟨x,-,rfl,hm⟩:=more_map (n:=m.fair.length) (g:=fun x=>{ m with fair:=m.fair++[x] }) h;exact hm
 rw [iN c7] at h ⊢
 by_cases c8:isTk l i 3 wSpec=true
 · rw [iP c8] at h ⊢;obtain ⟨x,-,rfl,hm⟩:=more_map (n:=m.specs.length) (g:=fun x=>{ m with specs:=m.specs++[x] }) h;exact hm
 rw [iN c8] at h;cases h
open Go.RowKit
set_option maxRecDepth 100000
set_option maxHeartbeats 8000000
def Rdr (w:World) (R:Nat) (A:Option Addr) (n c i d:Nat):Prop:=w.heap[R]?=some (.cells #[.slice A n c,.int .i64 (i:Nat),.int .i64 (d:Nat)] 186 (0,0))
section
variable {w w':World} {R n c i d:Nat} {A:Option Addr}
theorem Rdr.c0 (h:Rdr w R A n c i d):w.cell? ⟨R,0,none⟩=some (.slice A n c):=by rw [cR w R 0 _ _ (0,0) h];rfl
theorem Rdr.c1 (h:Rdr w R A n c i d):w.cell? ⟨R,1,none⟩=some (.int .i64 (i:Nat)):=by rw [cR w R 1 _ _ (0,0) h];rfl
theorem Rdr.c2 (h:Rdr w R A n c i d):w.cell? ⟨R,2,none⟩=some (.int .i64 (d:Nat)):=by rw [cR w R 2 _ _ (0,0) h];rfl
theorem Rdr.lt (h:Rdr w R A n c i d):R<w.heap.size:=lH h
theorem Rdr.frozen (h:Rdr w R A n c i d) (o:Nat):w.frozen? ⟨R,o,none⟩=false:=by
 unfold Rdr at h;simp [World.frozen?,h]
theorem Rdr.below {B:Nat} (h:Rdr w R A n c i d) (hb:Below B w w') (hB:R<B):Rdr w' R A n c i d:=(hb.block R hB).trans h
theorem Rdr.at_ (h:Rdr w R A n c i d) (j:Nat):Rdr (w.setCell ⟨R,1,none⟩ (.int .i64 (j:Nat))) R A n c j d:=by
 unfold Rdr at h ⊢;simp [World.setCell,Array.getElem?_modify,h]
theorem Rdr.deep (h:Rdr w R A n c i d) (e:Nat):Rdr (w.setCell ⟨R,2,none⟩ (.int .i64 (e:Nat))) R A n c i e:=by
 unfold Rdr at h ⊢;simp [World.setCell,Array.getElem?_modify,h]
theorem Rdr.drewN (h:Rdr w R A n c i d) (m:Nat):Rdr (w.drewN m) R A n c i d:=h
end
structure PTok (w:World) (R:Nat) (A:Option Addr) (c:Nat) (l:List Tok):Prop where
 toks:ToksAt w A l
 cap:l.length≤c
 capm:c≤maxLen
 len:l.length≤100000
 apart:∀ a,A=some a→a.block≠R
 txt:∀ t∈l,t.text.length≤100000
 rng:∀ t∈l,-1000000≤t.n∧t.n≤1000000
theorem PTok.only {w w':World} {R c:Nat} {A:Option Addr} {l:List Tok} (h:PTok w R A c l) (ho:Only (fun q=>q=R) w w'):PTok w' R A c l:=by
 refine ⟨?_,h.cap,h.capm,h.len,h.apart,h.txt,h.rng⟩
 rcases h.toks with h0 | ⟨b,off,rfl,hb,hc⟩
 · exact .inl h0
 · exact .inr ⟨b,off,rfl,lL hb ho.size,fun k z hz j hj=>by rw [ho.cell hb (h.apart _ rfl)];exact hc k z hz j hj⟩
theorem Only.drewN {F:Nat→Prop} {w w':World} (h:Only F w w') (n:Nat):Only F w (w'.drewN n):=⟨h.os,h.tape,h.output,h.size,h.block⟩
theorem bs_eq_iff {a b:ByteArray}:(a.toList == b.toList)=decide (bs a=bs b):=by
 rw [ByteArray.toList_eq,ByteArray.toList_eq]
 by_cases h:bs a=bs b
 · rw [decide_eq_true h];unfold bs at h;simp [h]
 · rw [dF h];unfold bs at h
   simpa using h
theorem pis_any (R:Nat) (A:Option Addr) (c i d:Nat) (l:List Tok) (k:Int) (s:ByteArray) (w:World) (hR:Rdr w R A l.length c i d) (hP:PTok w R A c l) (hi:i≤1000000) :
 Calls Tryz.prog 175 #[.pointer (some ⟨R,0,none⟩),.int .i64 k,.string s] w fun e w'=>e=.returned (.bool (isTk l i k (bs s)))∧∃ n,w'=w.drewN n:=by
 obtain ⟨n,HN⟩:=exh_ l.length;rw [←HN.out] at hR;have c0:=hR.c0;have c1:=hR.c1;have hlen:=hP.len;have hcap:=hP.cap;have hcapm:=hP.capm;unfold maxLen at hcapm;rw [←HN.out] at hlen hcap;have hRlt:=hR.lt;obtain ⟨r,hr⟩:=ex_ (isTk l i k (bs s));rw [←hr];unfold isTk at hr;have HR:=Hd hr;have HP:=Hd hP;clear hr hP hR
 by_cases hlt:i<n
 · obtain ⟨t,ht⟩:∃ t,l[i]?=some t:=⟨_,gG (by have:=HN.out;omega)⟩
   rcases HP.out.toks with h0 | ⟨b,off,rfl,hb,hc⟩
   · rw [h0] at ht;simp at ht
   have x0:=hc i t ht 0 (by omega);have x2:=hc i t ht 2 (by omega);simp only [tokV,Nat.add_zero] at x0 x2;have HR2:Hid (r=(decide (t.kind=k) && decide (t.text=bs s))):=by show _=_;rw [HR.out,ht]
   have hk0:(0:Int)≤(i:Int):=by omega
   have hk1:(i:Int)<(n:Int):=by omega
   clear ht hc hlt
   by_cases hk:t.kind=k
   · have hkb:(t.kind == k)=true:=by simpa using hk
     have HR3:Hid (r=decide (t.text=bs s)):=by show _=_;rw [HR2.out,decide_eq_true hk];rfl
     have hs:((⟨t.text.toArray⟩:ByteArray).toList == s.toList)=decide (t.text=bs s):=by rw [bs_eq_iff];rfl
     obtain ⟨T,hT⟩:∃ T:ByteArray,T=⟨t.text.toArray⟩:=⟨_,rfl⟩;rw [←hT] at x2 hs;rw [←HR3.out] at hs;clear hk hT;cases r
     all_goals
      go_enter Tryz.func175,Tryz.ntmps175;go_wp2_with fail
      go_quiet (fail)
      go_wp2
      go_ret;exact ⟨rfl,_,rfl⟩
   · have hkb:(t.kind == k)=false:=by simpa using hk
     have HR3:Hid (r=false):=by show _=_;rw [HR2.out,dF hk];rfl
     clear hk;go_enter Tryz.func175,Tryz.ntmps175;go_wp2_with fail
     go_quiet (fail)
     go_wp2
     go_ret;rw [HR3.out];exact ⟨rfl,_,rfl⟩
 · have HR3:Hid (r=false):=by show _=_;rw [HR.out,List.getElem?_eq_none (by have:=HN.out;omega)]
   have hk1:¬(i:Int)<(n:Int):=by omega
   have hd:decide ((i:Int)<(n:Int))=false:=dF hk1;have hd2:decide (i<n)=false:=dF hlt;clear hlt;go_enter Tryz.func175,Tryz.ntmps175;go_wp2_with fail
   go_quiet (fail)
   go_wp2
   go_ret;rw [HR3.out];exact ⟨rfl,_,rfl⟩
def thrown (j:Nat) (x:Int):List PanicEntry:=[{ v:=.iface 181 (.agg #[.int .i64 (j:Nat),.int .i64 x]),recovered:=false }]
theorem pfail_any (R:Nat) (A:Option Addr) (n c i d:Nat) (x:Int) (w:World) (hR:Rdr w R A n c i d) :
 Calls Tryz.prog 193 #[.pointer (some ⟨R,0,none⟩),.int .i64 x] w fun e w'=>e=.panicked (thrown i x)∧w=w':=by
 have c1:=hR.c1;have hRlt:=hR.lt;obtain ⟨F,hF⟩:∃ F:Ending→World→Prop,F=fun e w'=>e=.panicked (thrown i x)∧w=w':=⟨_,rfl⟩;rw [←hF];have HF:=Hd hF;clear hR hF;go_enter Tryz.func193,Tryz.ntmps193;go_wp2_with fail;refine (show _∧_ from ⟨rfl,?_⟩);rw [HF.out];exact ⟨rfl,rfl⟩
def Went (R:Nat) (A:Option Addr) (n c d j:Nat) (w w':World):Prop:=Rdr w' R A n c j d∧Only (fun q=>q=R) w w'∧w'.heap.size=w.heap.size
theorem went_set {R n c i d j m:Nat} {A:Option Addr} {w:World} (hR:Rdr w R A n c i d):Went R A n c d j w ((w.drewN m).setCell ⟨R,1,none⟩ (.int .i64 (j:Nat))):=
 ⟨(hR.drewN m).at_ j,Only.setF (F:=fun q=>q=R) ((Only.refl (F:=fun q=>q=R)).drewN m) rfl _,by simp⟩
theorem went_next {R n c i d m:Nat} {A:Option Addr} {w:World} (hR:Rdr w R A n c i d):Went R A n c d (i+1) w ((w.drewN m).setCell ⟨R,1,none⟩ (.int .i64 ((i:Int)+1))):=by
 have h:=went_set (j:=i+1) (m:=m) hR;rw [show ((i+1:Nat):Int)=(i:Int)+1 from by omega] at h;exact h
theorem pmust_yes (R:Nat) (A:Option Addr) (c i d:Nat) (l:List Tok) (k:Int) (s:ByteArray) (w:World) (hR:Rdr w R A l.length c i d) (hP:PTok w R A c l) (hi:i≤1000000) (h:isTk l i k (bs s)=true) :
 Calls Tryz.prog 208 #[.pointer (some ⟨R,0,none⟩),.int .i64 k,.string s] w fun e w'=>e=.returned (.tuple #[])∧Went R A l.length c d (i+1) w w':=by
 have his:=pis_any R A c i d l k s w hR hP hi;rw [h] at his;have hRlt:=hR.lt;obtain ⟨F,hF⟩:∃ F:Ending→World→Prop,F=fun e w'=>e=.returned (.tuple #[])∧Went R A l.length c d (i+1) w w':=⟨_,rfl⟩;rw [←hF];have HF:=Hd hF;have HIS:=Hd his;have HR:=Hd hR;clear hF his hR hP h;go_enter Tryz.func208,Tryz.ntmps208;go_wp2_with fail;refine (HIS.out).mono ?_;rintro e w' ⟨rfl,m,hw⟩;rw [hw];have c1:=(HR.out.drewN m).c1;have f1:=(HR.out.drewN m).frozen 1;have hlt2:R<(w.drewN m).heap.size:=hRlt;clear hw;go_wp2_with fail;refine bR (v:=.tuple #[]) (results_none rfl _ _ _) rfl ?_;rw [HF.out];exact ⟨rfl,went_next HR.out⟩
theorem pmust_no (R:Nat) (A:Option Addr) (c i d:Nat) (l:List Tok) (k:Int) (s:ByteArray) (w:World) (hR:Rdr w R A l.length c i d) (hP:PTok w R A c l) (hi:i≤1000000) (h:isTk l i k (bs s)=false) :
 Calls Tryz.prog 208 #[.pointer (some ⟨R,0,none⟩),.int .i64 k,.string s] w fun e w'=>e=.panicked (thrown i 16)∧∃ m,w'=w.drewN m:=by
 have his:=pis_any R A c i d l k s w hR hP hi;rw [h] at his;have HFA:=Hd (fun m=>pfail_any R A l.length c i d 16 (w.drewN m) (hR.drewN m));obtain ⟨F,hF⟩:∃ F:Ending→World→Prop,F=fun e w'=>e=.panicked (thrown i 16)∧∃ m,w'=w.drewN m:=⟨_,rfl⟩;rw [←hF];have HF:=Hd hF;have HIS:=Hd his;clear hF his hR hP h;go_enter Tryz.func208,Tryz.ntmps208;go_wp2_with fail;refine (HIS.out).mono ?_;rintro e w' ⟨rfl,m,hw⟩;rw [hw];clear hw;go_wp2_with fail;refine (HFA.out m).mono ?_;rintro e w' ⟨rfl,hw⟩;rw [←hw];refine (show _∧_ from ⟨rfl,?_⟩);rw [HF.out];exact ⟨rfl,_,rfl⟩
theorem went_more {R n c d j m:Nat} {A:Option Addr} {w w':World} (h:Went R A n c d j w w'):Went R A n c d j w (w'.drewN m):=⟨h.1.drewN m,h.2.1.drewN m,h.2.2⟩
theorem isKd_some {l:List Tok} {i:Nat} {k:Int} (h:isKd l i k=true):∃ t,l[i]?=some t∧t.kind=k:=by
 unfold isKd at h
 cases ht:l[i]? with
 | none=>rw [ht] at h;cases h
 | some t=>rw [ht] at h;exact ⟨t,rfl,by simpa using h⟩
theorem isKd_none {l:List Tok} {i:Nat} {k:Int} (h:isKd l i k=false):l.length≤i∨∃ t,l[i]?=some t∧t.kind≠k:=by
 unfold isKd at h
 cases ht:l[i]? with
 | none=>exact .inl (List.getElem?_eq_none_iff.1 ht)
 | some t=>rw [ht] at h;exact .inr ⟨t,rfl,by simpa using h⟩
theorem pname_yes (R:Nat) (A:Option Addr) (c i d:Nat) (l:List Tok) (t:Tok) (w:World) (hR:Rdr w R A l.length c i d) (hP:PTok w R A c l) (ht:l[i]?=some t) (hk:t.kind=2) :
 Calls Tryz.prog 209 #[.pointer (some ⟨R,0,none⟩)] w fun e w'=>e=.returned (.string ⟨t.text.toArray⟩)∧Went R A l.length c d (i+1) w w':=by
 obtain ⟨n,hn⟩:=ex_ l.length;rw [←hn] at hR ⊢;have hlen:=hP.len;have hcap:=hP.cap;have hcapm:=hP.capm;unfold maxLen at hcapm;rw [←hn] at hlen hcap;have hin:i<n:=by rw [hn];exact (gE.1 ht).1
 rcases hP.toks with h0 | ⟨b,off,rfl,hb,hc⟩
 · rw [h0] at ht;simp at ht
 have hbR:b≠R:=hP.apart _ rfl;have x0:=hc i t ht 0 (by omega);have x2:=hc i t ht 2 (by omega);simp only [tokV,Nat.add_zero] at x0 x2;rw [hk] at x0;have hRlt:=hR.lt;have c0:=hR.c0;have c1:=hR.c1;have f1:=hR.frozen 1;obtain ⟨F,hF⟩:∃ F:Ending→World→Prop,F=fun e w'=>e=.returned (.string ⟨t.text.toArray⟩)∧Went R (some ⟨b,off,none⟩) n c d (i+1) w w':=⟨_,rfl⟩;rw [←hF];have HF:=Hd hF;have HR:=Hd hR;have hk0:(0:Int)≤(i:Int):=by omega
 have hk1:(i:Int)<(n:Int):=by omega
 have hge:¬(n:Int)≤(i:Int):=by omega
 have hged:decide ((n:Int)≤(i:Int))=false:=dF hge;have hged2:decide (n≤i)=false:=dF (by omega);have hsub:IntKind.i64.wrap ((i:Int)+1 - 1)=(i:Int):=by rw [show (i:Int)+1 - 1=(i:Int) by omega];exact IntWalk.i64_in _ (by omega)
 have hsub2:IntKind.i64.wrap (i:Int)=(i:Int):=IntWalk.i64_in _ (by omega);have hbR':R≠b:=fun h=>hbR h.symm;clear hF hR hP hc ht hk hn hin;go_enter Tryz.func209,Tryz.ntmps209;go_wp2_with fail
 go_quiet (fail)
 go_wp2_with fail
 go_quiet (fail)
 go_wp2_with fail;rw [HF.out];exact ⟨rfl,went_more (went_next HR.out)⟩
theorem pname_no (R:Nat) (A:Option Addr) (c i d:Nat) (l:List Tok) (w:World) (hR:Rdr w R A l.length c i d) (hP:PTok w R A c l) (hi:i≤1000000) (h:isKd l i 2=false) :
 Calls Tryz.prog 209 #[.pointer (some ⟨R,0,none⟩)] w fun e w'=>e=.panicked (thrown i 16)∧∃ m,w'=w.drewN m:=by
 have HFA:=Hd (fun m=>pfail_any R A l.length c i d 16 (w.drewN m) (hR.drewN m));obtain ⟨n,hn⟩:=ex_ l.length;rw [←hn] at hR;have hlen:=hP.len;have hcap:=hP.cap;have hcapm:=hP.capm;unfold maxLen at hcapm;rw [←hn] at hlen hcap;have hRlt:=hR.lt;have c0:=hR.c0;have c1:=hR.c1;obtain ⟨F,hF⟩:∃ F:Ending→World→Prop,F=fun e w'=>e=.panicked (thrown i 16)∧∃ m,w'=w.drewN m:=⟨_,rfl⟩;rw [←hF];have HF:=Hd hF;have hk0:(0:Int)≤(i:Int):=by omega
 clear hF
 rcases isKd_none h with hge | ⟨t,ht,hk⟩
 · rw [←hn] at hge;have hge':(n:Int)≤(i:Int):=by omega
   have hged:decide ((n:Int)≤(i:Int))=true:=decide_eq_true hge';have hged2:decide (n≤i)=true:=decide_eq_true hge;clear hR hP h hn hge;go_enter Tryz.func209,Tryz.ntmps209;go_wp2_with fail
   go_quiet (fail)
   go_wp2_with fail;refine (HFA.out _).mono ?_;rintro e w' ⟨rfl,hw⟩;rw [←hw];refine (show _∧_ from ⟨rfl,?_⟩);rw [HF.out];exact ⟨rfl,_,rfl⟩
 · have hin:i<n:=by rw [hn];exact (gE.1 ht).1
   rcases hP.toks with h0 | ⟨b,off,rfl,hb,hc⟩
   · rw [h0] at ht;simp at ht
   have x0:=hc i t ht 0 (by omega);simp only [tokV,Nat.add_zero] at x0;have hk1:(i:Int)<(n:Int):=by omega
   have hged:decide ((n:Int)≤(i:Int))=false:=dF (by omega);have hged2:decide (n≤i)=false:=dF (by omega);have hkb:(t.kind != 2)=true:=by simpa using hk
   have hkb2:(t.kind == 2)=false:=by simpa using hk
   clear hR hP h hn hc ht hk hin;go_enter Tryz.func209,Tryz.ntmps209;go_wp2_with fail
   go_quiet (fail)
   go_wp2_with fail;refine (HFA.out _).mono ?_;rintro e w' ⟨rfl,hw⟩;rw [←hw];refine (show _∧_ from ⟨rfl,?_⟩);rw [HF.out];exact ⟨rfl,_,rfl⟩
theorem pnum_yes (R:Nat) (A:Option Addr) (c i d:Nat) (l:List Tok) (t:Tok) (w:World) (hR:Rdr w R A l.length c i d) (hP:PTok w R A c l) (ht:l[i]?=some t) (hk:t.kind=1) :
 Calls Tryz.prog 207 #[.pointer (some ⟨R,0,none⟩)] w fun e w'=>e=.returned (.int .i64 t.n)∧Went R A l.length c d (i+1) w w':=by
 obtain ⟨n,hn⟩:=ex_ l.length;rw [←hn] at hR ⊢;have hlen:=hP.len;have hcap:=hP.cap;have hcapm:=hP.capm;unfold maxLen at hcapm;rw [←hn] at hlen hcap;have hin:i<n:=by rw [hn];exact (gE.1 ht).1
 rcases hP.toks with h0 | ⟨b,off,rfl,hb,hc⟩
 · rw [h0] at ht;simp at ht
 have hbR:b≠R:=hP.apart _ rfl;have x0:=hc i t ht 0 (by omega);have x2:=hc i t ht 1 (by omega);simp only [tokV,Nat.add_zero] at x0 x2;rw [hk] at x0;have hRlt:=hR.lt;have c0:=hR.c0;have c1:=hR.c1;have f1:=hR.frozen 1;obtain ⟨F,hF⟩:∃ F:Ending→World→Prop,F=fun e w'=>e=.returned (.int .i64 t.n)∧Went R (some ⟨b,off,none⟩) n c d (i+1) w w':=⟨_,rfl⟩;rw [←hF];have HF:=Hd hF;have HR:=Hd hR;have hk0:(0:Int)≤(i:Int):=by omega
 have hk1:(i:Int)<(n:Int):=by omega
 have hge:¬(n:Int)≤(i:Int):=by omega
 have hged:decide ((n:Int)≤(i:Int))=false:=dF hge;have hged2:decide (n≤i)=false:=dF (by omega);have hsub:IntKind.i64.wrap ((i:Int)+1 - 1)=(i:Int):=by rw [show (i:Int)+1 - 1=(i:Int) by omega];exact IntWalk.i64_in _ (by omega)
 have hsub2:IntKind.i64.wrap (i:Int)=(i:Int):=IntWalk.i64_in _ (by omega);have hbR':R≠b:=fun h=>hbR h.symm;clear hF hR hP hc ht hk hn hin;go_enter Tryz.func207,Tryz.ntmps207;go_wp2_with fail
 go_quiet (fail)
 go_wp2_with fail
 go_quiet (fail)
 go_wp2_with fail;rw [HF.out];exact ⟨rfl,went_more (went_next HR.out)⟩
theorem pnum_no (R:Nat) (A:Option Addr) (c i d:Nat) (l:List Tok) (w:World) (hR:Rdr w R A l.length c i d) (hP:PTok w R A c l) (hi:i≤1000000) (h:isKd l i 1=false) :
 Calls Tryz.prog 207 #[.pointer (some ⟨R,0,none⟩)] w fun e w'=>e=.panicked (thrown i 16)∧∃ m,w'=w.drewN m:=by
 have HFA:=Hd (fun m=>pfail_any R A l.length c i d 16 (w.drewN m) (hR.drewN m));obtain ⟨n,hn⟩:=ex_ l.length;rw [←hn] at hR;have hlen:=hP.len;have hcap:=hP.cap;have hcapm:=hP.capm;unfold maxLen at hcapm;rw [←hn] at hlen hcap;have hRlt:=hR.lt;have c0:=hR.c0;have c1:=hR.c1;obtain ⟨F,hF⟩:∃ F:Ending→World→Prop,F=fun e w'=>e=.panicked (thrown i 16)∧∃ m,w'=w.drewN m:=⟨_,rfl⟩;rw [←hF];have HF:=Hd hF;have hk0:(0:Int)≤(i:Int):=by omega
 clear hF
 rcases isKd_none h with hge | ⟨t,ht,hk⟩
 · rw [←hn] at hge;have hge':(n:Int)≤(i:Int):=by omega
   have hged:decide ((n:Int)≤(i:Int))=true:=decide_eq_true hge';have hged2:decide (n≤i)=true:=decide_eq_true hge;clear hR hP h hn hge;go_enter Tryz.func207,Tryz.ntmps207;go_wp2_with fail
   go_quiet (fail)
   go_wp2_with fail;refine (HFA.out _).mono ?_;rintro e w' ⟨rfl,hw⟩;rw [←hw];refine (show _∧_ from ⟨rfl,?_⟩);rw [HF.out];exact ⟨rfl,_,rfl⟩
 · have hin:i<n:=by rw [hn];exact (gE.1 ht).1
   rcases hP.toks with h0 | ⟨b,off,rfl,hb,hc⟩
   · rw [h0] at ht;simp at ht
   have x0:=hc i t ht 0 (by omega);simp only [tokV,Nat.add_zero] at x0;have hk1:(i:Int)<(n:Int):=by omega
   have hged:decide ((n:Int)≤(i:Int))=false:=dF (by omega);have hged2:decide (n≤i)=false:=dF (by omega);have hkb:(t.kind != 1)=true:=by simpa using hk
   have hkb2:(t.kind == 1)=false:=by simpa using hk
   clear hR hP h hn hc ht hk hin;go_enter Tryz.func207,Tryz.ntmps207;go_wp2_with fail
   go_quiet (fail)
   go_wp2_with fail;refine (HFA.out _).mono ?_;rintro e w' ⟨rfl,hw⟩;rw [←hw];refine (show _∧_ from ⟨rfl,?_⟩);rw [HF.out];exact ⟨rfl,_,rfl⟩
def MRd (w:World) (R:Nat) (A:Option Addr) (n c i:Nat) (x:Int) (V:Nat→Value):Prop:=w.heap[R]?=some (.cells #[.slice A n c,.int .i64 (i:Nat),.int .i64 x,V 0,V 1,V 2,V 3,V 4,V 5,V 6,V 7] 53 (0,0))
section
variable {w w':World} {R n c i:Nat} {A:Option Addr} {x:Int} {V:Nat→Value}
theorem MRd.c0 (h:MRd w R A n c i x V):w.cell? ⟨R,0,none⟩=some (.slice A n c):=cel h 0 rfl
theorem MRd.c1 (h:MRd w R A n c i x V):w.cell? ⟨R,1,none⟩=some (.int .i64 (i:Nat)):=cel h 1 rfl
theorem MRd.c2 (h:MRd w R A n c i x V):w.cell? ⟨R,2,none⟩=some (.int .i64 x):=cel h 2 rfl
theorem lt8 {k:Nat} (hk:k<8):k=0∨k=1∨k=2∨k=3∨k=4∨k=5∨k=6∨k=7:=by omega
theorem MRd.cm (h:MRd w R A n c i x V) {k:Nat} (hk:k<8):w.cell? ⟨R,3+k,none⟩=some (V k):=by
 rcases lt8 hk with rfl | rfl | rfl | rfl | rfl | rfl | rfl | rfl <;> exact cel h _ rfl
theorem MRd.lt (h:MRd w R A n c i x V):R<w.heap.size:=lH h
theorem MRd.frozen (h:MRd w R A n c i x V) (o:Nat):w.frozen? ⟨R,o,none⟩=false:=frz h o
theorem MRd.below {B:Nat} (h:MRd w R A n c i x V) (hb:Below B w w') (hB:R<B):MRd w' R A n c i x V:=(hb.block R hB).trans h
theorem MRd.at_ (h:MRd w R A n c i x V) (j:Nat):MRd (w.setCell ⟨R,1,none⟩ (.int .i64 (j:Nat))) R A n c j x V:=by
 unfold MRd at h ⊢;simp [World.setCell,Array.getElem?_modify,h]
theorem MRd.wrong (h:MRd w R A n c i x V) (y:Int):MRd (w.setCell ⟨R,2,none⟩ (.int .i64 y)) R A n c i y V:=by
 unfold MRd at h ⊢;simp [World.setCell,Array.getElem?_modify,h]
theorem MRd.put (h:MRd w R A n c i x V) {k:Nat} (hk:k<8) (v:Value):MRd (w.setCell ⟨R,3+k,none⟩ v) R A n c i x (fun j=>if j=k then v else V j):=by
 unfold MRd at h ⊢
 rcases lt8 hk with rfl | rfl | rfl | rfl | rfl | rfl | rfl | rfl <;> simp [World.setCell,Array.getElem?_modify,h]
theorem MRd.drewN (h:MRd w R A n c i x V) (m:Nat):MRd (w.drewN m) R A n c i x V:=h
end
def MGo (R:Nat) (A:Option Addr) (n c:Nat) (V:Nat→Value) (j:Nat) (x:Int) (w w':World):Prop:=MRd w' R A n c j x V∧Only (fun q=>q=R) w w'∧w'.heap.size=w.heap.size
section
variable {w w' w'':World} {R n c i j m:Nat} {A:Option Addr} {x y:Int} {V:Nat→Value}
theorem mgo_refl (h:MRd w R A n c i x V):MGo R A n c V i x w (w.drewN m):=⟨h,(Only.refl (F:=fun q=>q=R)).drewN m,rfl⟩
theorem MGo.drewN (h:MGo R A n c V j x w w') (m:Nat):MGo R A n c V j x w (w'.drewN m):=⟨h.1.drewN m,h.2.1.drewN m,h.2.2⟩
theorem MGo.at_ (h:MGo R A n c V i x w w') (j:Nat):MGo R A n c V j x w (w'.setCell ⟨R,1,none⟩ (.int .i64 (j:Nat))):=⟨h.1.at_ j,h.2.1.setF rfl _,by simpa using h.2.2⟩
theorem MGo.next (h:MGo R A n c V i x w w'):MGo R A n c V (i+1) x w (w'.setCell ⟨R,1,none⟩ (.int .i64 ((i:Int)+1))):=by
 have h:=h.at_ (i+1);rw [show ((i+1:Nat):Int)=(i:Int)+1 from by omega] at h;exact h
theorem MGo.wrong (h:MGo R A n c V i x w w') (y:Int):MGo R A n c V i y w (w'.setCell ⟨R,2,none⟩ (.int .i64 y)):=⟨h.1.wrong y,h.2.1.setF rfl _,by simpa using h.2.2⟩
theorem MGo.trans (h:MGo R A n c V i x w w') (h2:MGo R A n c V j y w' w''):MGo R A n c V j y w w'':=⟨h2.1,h.2.1.trans h2.2.1,h2.2.2.trans h.2.2⟩
end
def mustS (l:List Tok) (k:Int) (s:Bs) (i:Nat) (x:Int):Nat×Int:=if x≠0 then (i,x) else if isTk l i k s then (i+1,0) else (i,16)
def nameS (l:List Tok) (i:Nat) (x:Int):ByteArray×Nat×Int:=if x≠0 then (⟨#[]⟩,i,x) else if isKd l i 2 then (⟨(textAt l i).toArray⟩,i+1,0) else (⟨#[]⟩,i,16)
def signS (l:List Tok) (i:Nat):Nat:=if isTk l i 4 [45] then i+1 else i
def nuS (l:List Tok) (i:Nat) (x:Int):Int×Nat×Int:=if x≠0 then (0,i,x) else if isKd l (signS l i) 1 then (if isTk l i 4 [45] then - numAt l (signS l i) else numAt l (signS l i),signS l i+1,0) else (0,signS l i,16)
theorem mis_any (R:Nat) (A:Option Addr) (c i:Nat) (l:List Tok) (x:Int) (V:Nat→Value) (k:Int) (s:ByteArray) (w:World) (hR:MRd w R A l.length c i x V) (hP:PTok w R A c l) (hi:i≤1000000) :
 Calls Tryz.prog 120 #[.pointer (some ⟨R,0,none⟩),.int .i64 k,.string s] w fun e w'=>e=.returned (.bool (isTk l i k (bs s)))∧∃ n,w'=w.drewN n:=by
 obtain ⟨n,HN⟩:=exh_ l.length;rw [←HN.out] at hR;have c0:=hR.c0;have c1:=hR.c1;have hlen:=hP.len;have hcap:=hP.cap;have hcapm:=hP.capm;unfold maxLen at hcapm;rw [←HN.out] at hlen hcap;have hRlt:=hR.lt;obtain ⟨r,hr⟩:=ex_ (isTk l i k (bs s));rw [←hr];unfold isTk at hr;have HR:=Hd hr;have HP:=Hd hP;clear hr hP hR
 by_cases hlt:i<n
 · obtain ⟨t,ht⟩:∃ t,l[i]?=some t:=⟨_,gG (by have:=HN.out;omega)⟩
   rcases HP.out.toks with h0 | ⟨b,off,rfl,hb,hc⟩
   · rw [h0] at ht;simp at ht
   have x0:=hc i t ht 0 (by omega);have x2:=hc i t ht 2 (by omega);simp only [tokV,Nat.add_zero] at x0 x2;have HR2:Hid (r=(decide (t.kind=k) && decide (t.text=bs s))):=by show _=_;rw [HR.out,ht]
   have hk0:(0:Int)≤(i:Int):=by omega
   have hk1:(i:Int)<(n:Int):=by omega
   clear ht hc hlt
   by_cases hk:t.kind=k
   · have hkb:(t.kind == k)=true:=by simpa using hk
     have HR3:Hid (r=decide (t.text=bs s)):=by show _=_;rw [HR2.out,decide_eq_true hk];rfl
     have hs:((⟨t.text.toArray⟩:ByteArray).toList == s.toList)=decide (t.text=bs s):=by rw [bs_eq_iff];rfl
     obtain ⟨T,hT⟩:∃ T:ByteArray,T=⟨t.text.toArray⟩:=⟨_,rfl⟩;rw [←hT] at x2 hs;rw [←HR3.out] at hs;clear hk hT;cases r
     all_goals
      go_enter Tryz.func120,Tryz.ntmps120;go_wp2_with fail
      go_quiet (fail)
      go_wp2
      go_ret;exact ⟨rfl,_,rfl⟩
   · have hkb:(t.kind == k)=false:=by simpa using hk
     have HR3:Hid (r=false):=by show _=_;rw [HR2.out,dF hk];rfl
     clear hk;go_enter Tryz.func120,Tryz.ntmps120;go_wp2_with fail
     go_quiet (fail)
     go_wp2
     go_ret;rw [HR3.out];exact ⟨rfl,_,rfl⟩
 · have HR3:Hid (r=false):=by show _=_;rw [HR.out,List.getElem?_eq_none (by have:=HN.out;omega)]
   have hk1:¬(i:Int)<(n:Int):=by omega
   have hd:decide ((i:Int)<(n:Int))=false:=dF hk1;have hd2:decide (i<n)=false:=dF hlt;clear hlt;go_enter Tryz.func120,Tryz.ntmps120;go_wp2_with fail
   go_quiet (fail)
   go_wp2
   go_ret;rw [HR3.out];exact ⟨rfl,_,rfl⟩
theorem mtake_any (R:Nat) (A:Option Addr) (c i:Nat) (l:List Tok) (x:Int) (V:Nat→Value) (k:Int) (s:ByteArray) (w:World) (hR:MRd w R A l.length c i x V) (hP:PTok w R A c l) (hi:i≤1000000) :
 Calls Tryz.prog 79 #[.pointer (some ⟨R,0,none⟩),.int .i64 k,.string s] w fun e w'=>e=.returned (.bool (isTk l i k (bs s)))∧MGo R A l.length c V (if isTk l i k (bs s) then i+1 else i) x w w':=by
 have his:=mis_any R A c i l x V k s w hR hP hi;have hRlt:=hR.lt;obtain ⟨r,hr⟩:=ex_ (isTk l i k (bs s));rw [←hr] at his ⊢;obtain ⟨F,HF⟩:=exh_ (fun (e:Ending) (w':World)=>e=.returned (.bool r)∧MGo R A l.length c V (if r then i+1 else i) x w w');rw [←HF.out];have HIS:=Hd his;have HR:=Hd hR;clear his hR hP hr;cases r
 all_goals
  go_enter Tryz.func79,Tryz.ntmps79;go_wp2_with fail;refine (HIS.out).mono ?_;rintro e w' ⟨rfl,m,hw⟩;rw [hw];have c1:=(HR.out.drewN m).c1;have f1:=(HR.out.drewN m).frozen 1;have hlt2:R<(w.drewN m).heap.size:=hRlt;clear hw;go_wp2_with fail;rw [HF.out]
  first
   | exact ⟨rfl,mgo_refl HR.out⟩
   | exact ⟨rfl,(mgo_refl HR.out).next⟩
theorem mfail_any (R:Nat) (A:Option Addr) (n c i:Nat) (x y:Int) (V:Nat→Value) (w:World) (hR:MRd w R A n c i x V) :
 Calls Tryz.prog 45 #[.pointer (some ⟨R,0,none⟩),.int .i64 y] w fun e w'=>e=.returned (.tuple #[])∧MGo R A n c V i (if x=0 then y else x) w w':=by
 have c2:=hR.c2;have f2:=hR.frozen 2;have hRlt:=hR.lt;obtain ⟨F,HF⟩:=exh_ (fun (e:Ending) (w':World)=>e=.returned (.tuple #[])∧MGo R A n c V i (if x=0 then y else x) w w');rw [←HF.out];have HR:=Hd hR;clear hR
 by_cases hx:x=0
 · have HX:=Hd hx;have hb:(x == 0)=true:=by simpa using hx
   clear hx;go_enter Tryz.func45,Tryz.ntmps45;go_wp2_with fail;refine bR (v:=.tuple #[]) (results_none rfl _ _ _) rfl ?_;rw [HF.out,iP HX.out];exact ⟨rfl,(mgo_refl (m:=0) HR.out).wrong y⟩
 · have HX:=Hd hx;have hb:(x == 0)=false:=by simpa using hx
   clear hx;go_enter Tryz.func45,Tryz.ntmps45;go_wp2_with fail;refine bR (v:=.tuple #[]) (results_none rfl _ _ _) rfl ?_;rw [HF.out,iN HX.out];exact ⟨rfl,mgo_refl (m:=0) HR.out⟩
theorem mmust_any (R:Nat) (A:Option Addr) (c i:Nat) (l:List Tok) (x:Int) (V:Nat→Value) (k:Int) (s:ByteArray) (w:World) (hR:MRd w R A l.length c i x V) (hP:PTok w R A c l) (hi:x=0→i≤1000000) :
 Calls Tryz.prog 38 #[.pointer (some ⟨R,0,none⟩),.int .i64 k,.string s] w fun e w'=>e=.returned (.tuple #[])∧MGo R A l.length c V (mustS l k (bs s) i x).1 (mustS l k (bs s) i x).2 w w':=by
 have c2:=hR.c2;have hRlt:=hR.lt;obtain ⟨F,HF⟩:=exh_ (fun (e:Ending) (w':World)=>e=.returned (.tuple #[])∧MGo R A l.length c V (mustS l k (bs s) i x).1 (mustS l k (bs s) i x).2 w w');rw [←HF.out];have HR:=Hd hR;unfold mustS at HF
 by_cases hx:x=0
 · subst hx;have hta:=mtake_any R A c i l 0 V k s w hR hP (hi rfl);rw [iN (fun h=>h rfl)] at HF;have HFA:=Hd (fun (w':World) (h:MRd w' R A l.length c i 0 V)=>mfail_any R A l.length c i 0 16 V w' h);obtain ⟨r,hr⟩:=ex_ (isTk l i k (bs s));rw [←hr] at hta HF;have HTA:=Hd hta;clear hta hr hR hP;cases r
   · go_enter Tryz.func38,Tryz.ntmps38;go_wp2_with fail;refine (HTA.out).mono ?_;rintro e w' ⟨rfl,hg⟩;have HG:=Hd hg;clear hg;go_wp2_with fail;refine (HFA.out w' HG.out.1).mono ?_;rintro e w2 ⟨rfl,hg⟩;have HG2:=Hd (HG.out.trans hg);clear hg;go_wp2_with fail;refine bR (v:=.tuple #[]) (results_none rfl _ _ _) rfl ?_;rw [HF.out];exact ⟨rfl,HG2.out⟩
   · go_enter Tryz.func38,Tryz.ntmps38;go_wp2_with fail;refine (HTA.out).mono ?_;rintro e w' ⟨rfl,hg⟩;have HG:=Hd hg;clear hg;go_wp2_with fail;refine bR (v:=.tuple #[]) (results_none rfl _ _ _) rfl ?_;rw [HF.out];exact ⟨rfl,HG.out⟩
 · have hb:(x == 0)=false:=by simpa using hx
   rw [iP hx] at HF;clear hx hR hP;go_enter Tryz.func38,Tryz.ntmps38;go_wp2_with fail;refine bR (v:=.tuple #[]) (results_none rfl _ _ _) rfl ?_;rw [HF.out];exact ⟨rfl,mgo_refl (m:=0) HR.out⟩
theorem mmore_any (R:Nat) (A:Option Addr) (n c i m:Nat) (V:Nat→Value) (w:World) (hR:MRd w R A n c i 0 V) (hi:i≤1000000) (hm:m≤1000000) :
 Calls Tryz.prog 39 #[.pointer (some ⟨R,0,none⟩),.int .i64 (m:Nat)] w fun e w'=>e=.returned (.bool (decide (m<64)))∧MGo R A n c V (if m<64 then i+1 else i) (if m<64 then 0 else 18) w w':=by
 have c1:=hR.c1;have f1:=hR.frozen 1;have hRlt:=hR.lt;obtain ⟨F,HF⟩:=exh_ (fun (e:Ending) (w':World)=>e=.returned (.bool (decide (m<64)))∧MGo R A n c V (if m<64 then i+1 else i) (if m<64 then 0 else 18) w w');rw [←HF.out];have HR:=Hd hR
 by_cases hx:m<64
 · rw [iP hx,iP hx,decide_eq_true hx] at HF;have hx1:¬(64:Int)≤(m:Int):=by omega
   clear hx hR;go_enter Tryz.func39,Tryz.ntmps39;go_wp2_with fail;rw [HF.out];exact ⟨rfl,(mgo_refl (m:=0) HR.out).next⟩
 · rw [iN hx,iN hx,dF hx] at HF;have hx1:(64:Int)≤(m:Int):=by omega
   have HFA:=Hd (mfail_any R A n c i 0 18 V w hR);clear hx hR;go_enter Tryz.func39,Tryz.ntmps39;go_wp2_with fail;refine (HFA.out).mono ?_;rintro e w' ⟨rfl,hg⟩;have HG:=Hd hg;clear hg;go_wp2_with fail;rw [HF.out];exact ⟨rfl,HG.out⟩
theorem kd_cells {w:World} {R:Nat} {A:Option Addr} {c i:Nat} {l:List Tok} {k:Int} (hP:PTok w R A c l) (h:isKd l i k=true):∃ t b off,l[i]?=some t∧A=some ⟨b,off,none⟩∧b≠R∧b<w.heap.size∧i<l.length∧(textAt l i=t.text)∧numAt l i=t.n∧-1000000≤t.n∧t.n≤1000000 ∧
 w.cell? ⟨b,off+i*4,none⟩=some (.int .i64 k)∧w.cell? ⟨b,off+i*4+1,none⟩=some (.int .i64 t.n)∧w.cell? ⟨b,off+i*4+2,none⟩=some (.string ⟨t.text.toArray⟩):=by
 obtain ⟨t,ht,hk⟩:=isKd_some h
 rcases hP.toks with h0 | ⟨b,off,rfl,hb,hc⟩
 · rw [h0] at ht;simp at ht
 have x0:=hc i t ht 0 (by omega);have x1:=hc i t ht 1 (by omega);have x2:=hc i t ht 2 (by omega);simp only [tokV,Nat.add_zero] at x0 x1 x2;rw [hk] at x0;exact ⟨t,b,off,ht,rfl,hP.apart _ rfl,hb,(gE.1 ht).1,by unfold textAt;rw [ht],by unfold numAt;rw [ht],(hP.rng t (mG ht)).1,(hP.rng t (mG ht)).2,x0,x1,x2⟩
theorem kd_other {w:World} {R:Nat} {A:Option Addr} {c i:Nat} {l:List Tok} {k:Int} (hP:PTok w R A c l) (h:isKd l i k=false):l.length≤i∨∃ (t:Tok) (b off:Nat),A=some ⟨b,off,none⟩∧b≠R∧b<w.heap.size∧i<l.length∧t.kind≠k∧w.cell? ⟨b,off+i*4,none⟩=some (.int .i64 t.kind):=by
 rcases isKd_none h with h | ⟨t,ht,hk⟩
 · exact .inl h
 rcases hP.toks with h0 | ⟨b,off,rfl,hb,hc⟩
 · rw [h0] at ht;simp at ht
 have x0:=hc i t ht 0 (by omega);simp only [tokV,Nat.add_zero] at x0;exact .inr ⟨t,b,off,rfl,hP.apart _ rfl,hb,(gE.1 ht).1,hk,x0⟩
theorem mname_any (R:Nat) (A:Option Addr) (c i:Nat) (l:List Tok) (x:Int) (V:Nat→Value) (w:World) (hR:MRd w R A l.length c i x V) (hP:PTok w R A c l) (hi:i≤l.length) :
 Calls Tryz.prog 43 #[.pointer (some ⟨R,0,none⟩)] w fun e w'=>e=.returned (.string (nameS l i x).1)∧MGo R A l.length c V (nameS l i x).2.1 (nameS l i x).2.2 w w':=by
 obtain ⟨F,HF⟩:=exh_ (fun (e:Ending) (w':World)=>e=.returned (.string (nameS l i x).1)∧MGo R A l.length c V (nameS l i x).2.1 (nameS l i x).2.2 w w');rw [←HF.out];have HR:=Hd hR;unfold nameS at HF;have c2:=hR.c2;have hRlt:=hR.lt
 by_cases hx:x=0
 · subst hx;rw [iN (fun h=>h rfl)] at HF;have c0:=hR.c0;have c1:=hR.c1;have f1:=hR.frozen 1;have hlen:=hP.len;have hcap:=hP.cap;have hcapm:=hP.capm;unfold maxLen at hcapm;have hk0:(0:Int)≤(i:Int):=by omega
   by_cases hk:isKd l i 2=true
   · rw [iP hk] at HF;obtain ⟨t,b,off,-,rfl,hbR,hb,hin,htx,-,-,-,x0,-,x2⟩:=kd_cells hP hk;rw [htx] at HF;obtain ⟨n,hn⟩:=ex_ l.length;rw [←hn] at HR HF c0 hlen hcap hin hi;have hk1:(i:Int)<(n:Int):=by omega
     have hged:decide ((n:Int)≤(i:Int))=false:=dF (by omega);have hged2:decide (n≤i)=false:=dF (by omega);have hsub:IntKind.i64.wrap ((i:Int)+1 - 1)=(i:Int):=by rw [show (i:Int)+1 - 1=(i:Int) by omega];exact IntWalk.i64_in _ (by omega)
     have hsub2:IntKind.i64.wrap (i:Int)=(i:Int):=IntWalk.i64_in _ (by omega);have hbR':R≠b:=fun h=>hbR h.symm;clear hR hP hk hn hin htx;go_enter Tryz.func43,Tryz.ntmps43;go_wp2_with fail
     go_quiet (fail)
     go_wp2_with fail
     go_quiet (fail)
     go_wp2_with fail;rw [HF.out];exact ⟨rfl,((mgo_refl HR.out).next).drewN _⟩
   · have hkf:isKd l i 2=false:=by simpa using hk
     rw [iN hk] at HF;have HFA:=Hd (fun m=>mfail_any R A l.length c i 0 16 V (w.drewN m) (hR.drewN m));obtain ⟨n,hn⟩:=ex_ l.length
     have hcl:∃ u:Bool,(u=true→n≤i)∧(u=false→∃ (t:Tok) (b off:Nat),A=some ⟨b,off,none⟩∧b≠R∧b<w.heap.size∧i<n∧t.kind≠2∧w.cell? ⟨b,off+i*4,none⟩=some (.int .i64 t.kind)):=by
      rcases kd_other hP hkf with h | h
      · exact ⟨true,fun _=>by rw [hn];exact h,fun h=>nomatch h⟩
      · exact ⟨false,fun h=>(nomatch h),fun _=>by rw [hn];exact h⟩
     rw [←hn] at HR HF HFA c0 hlen hcap hi;clear hR hP hk hkf hn;obtain ⟨u,hu1,hu2⟩:=hcl;cases u
     · obtain ⟨t,b,off,rfl,hbR,hb,hin,hk,x0⟩:=hu2 rfl;have hk1:(i:Int)<(n:Int):=by omega
       have hged:decide ((n:Int)≤(i:Int))=false:=dF (by omega);have hged2:decide (n≤i)=false:=dF (by omega);have hkb:(t.kind != 2)=true:=by simpa using hk
       have hkb2:(t.kind == 2)=false:=by simpa using hk
       clear hu1 hu2 hk hin;go_enter Tryz.func43,Tryz.ntmps43;go_wp2_with fail
       go_quiet (fail)
       go_wp2_with fail;refine (HFA.out _).mono ?_;rintro e w' ⟨rfl,hg⟩;have HG:=Hd ((mgo_refl HR.out).trans hg);clear hg;go_wp2_with fail;rw [HF.out];exact ⟨rfl,HG.out⟩
     · have hge:=hu1 rfl;have hged:decide ((n:Int)≤(i:Int))=true:=decide_eq_true (by omega);have hged2:decide (n≤i)=true:=decide_eq_true hge;have hge':(n:Int)≤(i:Int):=by omega
       clear hu1 hu2 hge;go_enter Tryz.func43,Tryz.ntmps43;go_wp2_with fail
       go_quiet (fail)
       go_wp2_with fail;refine (HFA.out _).mono ?_;rintro e w' ⟨rfl,hg⟩;have HG:=Hd ((mgo_refl HR.out).trans hg);clear hg;go_wp2_with fail;rw [HF.out];exact ⟨rfl,HG.out⟩
 · have hb:(x != 0)=true:=by simpa using hx
   rw [iP hx] at HF;clear hx hR hP;go_enter Tryz.func43,Tryz.ntmps43;go_wp2_with fail;rw [HF.out];exact ⟨rfl,mgo_refl (m:=0) HR.out⟩
theorem mnum_any (R:Nat) (A:Option Addr) (c i:Nat) (l:List Tok) (x:Int) (V:Nat→Value) (w:World) (hR:MRd w R A l.length c i x V) (hP:PTok w R A c l) (hi:i≤l.length) :
 Calls Tryz.prog 80 #[.pointer (some ⟨R,0,none⟩)] w fun e w'=>e=.returned (.int .i64 (nuS l i x).1)∧MGo R A l.length c V (nuS l i x).2.1 (nuS l i x).2.2 w w':=by
 obtain ⟨F,HF⟩:=exh_ (fun (e:Ending) (w':World)=>e=.returned (.int .i64 (nuS l i x).1)∧MGo R A l.length c V (nuS l i x).2.1 (nuS l i x).2.2 w w');rw [←HF.out];have HR:=Hd hR;unfold nuS at HF;have c2:=hR.c2;have hRlt:=hR.lt
 by_cases hx:x=0
 · subst hx;rw [iN (fun h=>h rfl)] at HF;have hlen:=hP.len;have hcap:=hP.cap;have hcapm:=hP.capm;unfold maxLen at hcapm;have hta:=mtake_any R A c i l 0 V 4 ⟨#[45]⟩ w hR hP (by omega);have hjl:signS l i≤l.length+1:=by unfold signS;split <;> omega
   obtain ⟨j,hj⟩:=ex_ (signS l i);obtain ⟨r,hr⟩:=ex_ (isTk l i 4 [45]);rw [show bs ⟨#[45]⟩=[45] from rfl,show (if isTk l i 4 [45]=true then i+1 else i)=j by rw [hj];rfl,←hr] at hta;rw [←hj,←hr] at HF;rw [←hj] at hjl;have HTA:=Hd hta;have HP:=Hd hP;have hk0:(0:Int)≤(j:Int):=by omega
   clear hta hj hr hR hP
   by_cases hk:isKd l j 1=true
   · rw [iP hk] at HF;obtain ⟨t,b,off,-,hA,hbR,hb,hin,-,hnn,hr1,hr2,x0,x1,-⟩:=kd_cells HP.out hk;rw [hnn] at HF;obtain ⟨tn,htn⟩:=ex_ t.n;rw [←htn] at HF hr1 hr2 x1;subst hA;obtain ⟨n,hn⟩:=ex_ l.length;rw [←hn] at HR HF HTA hlen hcap hin hi;have hk1:(j:Int)<(n:Int):=by omega
     have hged:decide ((n:Int)≤(j:Int))=false:=dF (by omega);have hged2:decide (n≤j)=false:=dF (by omega);have hneg:IntKind.i64.wrap (- tn)=- tn:=IntWalk.i64_in _ (by omega);have hbR':R≠b:=fun h=>hbR h.symm;have X0:=Hd x0;have X1:=Hd x1;clear hk hn hin hnn htn x0 x1 hjl;cases r
     all_goals
      go_enter Tryz.func80,Tryz.ntmps80;go_wp2_with fail;refine (HTA.out).mono ?_;rintro e w1 ⟨rfl,hg⟩;have c0:=hg.1.c0;have c1:=hg.1.c1;have f1:=hg.1.frozen 1;have hR1:=hg.1.lt;have hb1:b<w1.heap.size:=by rw [hg.2.2];exact hb
      have x0:w1.cell? ⟨b,off+j*4,none⟩=some (.int .i64 1):=by rw [hg.2.1.cell hb hbR];exact X0.out
      have x1:w1.cell? ⟨b,off+j*4+1,none⟩=some (.int .i64 tn):=by rw [hg.2.1.cell hb hbR];exact X1.out
      have HG:=Hd hg;clear hg c2 hRlt;go_wp2_with fail
      go_quiet (fail)
      go_wp2_with fail
      go_quiet (fail)
      go_wp2_with fail;rw [HF.out];exact ⟨rfl,((HG.out.drewN _).next)⟩
   · have hkf:isKd l j 1=false:=by simpa using hk
     rw [iN hk] at HF;have HFA:=Hd (fun w' m (h:MRd w' R A l.length c j 0 V)=>mfail_any R A l.length c j 0 16 V (w'.drewN m) (h.drewN m));obtain ⟨n,hn⟩:=ex_ l.length
     have hcl:∃ u:Bool,(u=true→n≤j)∧(u=false→∃ (t:Tok) (b off:Nat),A=some ⟨b,off,none⟩∧b≠R∧b<w.heap.size∧j<n∧t.kind≠1∧w.cell? ⟨b,off+j*4,none⟩=some (.int .i64 t.kind)):=by
      rcases kd_other HP.out hkf with h | h
      · exact ⟨true,fun _=>by rw [hn];exact h,fun h=>nomatch h⟩
      · exact ⟨false,fun h=>(nomatch h),fun _=>by rw [hn];exact h⟩
     rw [←hn] at HR HF HFA HTA hlen hcap hi hjl;clear hk hkf hn HP;obtain ⟨u,hu1,hu2⟩:=hcl;cases u
     · obtain ⟨t,b,off,rfl,hbR,hb,hin,hk,hx0⟩:=hu2 rfl;have hk1:(j:Int)<(n:Int):=by omega
       have hged:decide ((n:Int)≤(j:Int))=false:=dF (by omega);have hged2:decide (n≤j)=false:=dF (by omega);have hkb:(t.kind != 1)=true:=by simpa using hk
       have hkb2:(t.kind == 1)=false:=by simpa using hk
       have X0:=Hd hx0;clear hu1 hu2 hk hin hx0;cases r
       all_goals
        go_enter Tryz.func80,Tryz.ntmps80;go_wp2_with fail;refine (HTA.out).mono ?_;rintro e w1 ⟨rfl,hg⟩;have c0:=hg.1.c0;have c1:=hg.1.c1;have hR1:=hg.1.lt;have hb1:b<w1.heap.size:=by rw [hg.2.2];exact hb
        have x0:w1.cell? ⟨b,off+j*4,none⟩=some (.int .i64 t.kind):=by rw [hg.2.1.cell hb hbR];exact X0.out
        have HG:=Hd hg;clear hg c2 hRlt;go_wp2_with fail
        go_quiet (fail)
        go_wp2_with fail;refine (HFA.out w1 _ HG.out.1).mono ?_;rintro e w2 ⟨rfl,hg⟩;have HG2:=Hd ((HG.out.drewN _).trans hg);clear hg;go_wp2_with fail;rw [HF.out];exact ⟨rfl,HG2.out⟩
     · have hge:=hu1 rfl;have hged:decide ((n:Int)≤(j:Int))=true:=decide_eq_true (by omega);have hged2:decide (n≤j)=true:=decide_eq_true hge;have hge':(n:Int)≤(j:Int):=by omega
       clear hu1 hu2 hge;cases r
       all_goals
        go_enter Tryz.func80,Tryz.ntmps80;go_wp2_with fail;refine (HTA.out).mono ?_;rintro e w1 ⟨rfl,hg⟩;have c0:=hg.1.c0;have c1:=hg.1.c1;have hR1:=hg.1.lt;have HG:=Hd hg;clear hg c2 hRlt;go_wp2_with fail
        go_quiet (fail)
        go_wp2_with fail;refine (HFA.out w1 _ HG.out.1).mono ?_;rintro e w2 ⟨rfl,hg⟩;have HG2:=Hd ((HG.out.drewN _).trans hg);clear hg;go_wp2_with fail;rw [HF.out];exact ⟨rfl,HG2.out⟩
 · have hb:(x != 0)=true:=by simpa using hx
   rw [iP hx] at HF;clear hx hR hP;go_enter Tryz.func80,Tryz.ntmps80;go_wp2_with fail;rw [HF.out];exact ⟨rfl,mgo_refl (m:=0) HR.out⟩
end Go.Proofs.YtkhoeoilamddaaaGreatDoor
