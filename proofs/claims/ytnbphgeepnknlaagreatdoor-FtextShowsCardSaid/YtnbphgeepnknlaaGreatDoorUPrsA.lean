/- Walks and plain words: PrsA PrsB. -/
import Derived.Test.YtnbphgeepnknlaaGreatDoorUBld
namespace Go.Proofs.YtnbphgeepnknlaaGreatDoor
open Go.RowKit
set_option linter.unusedVariables false
set_option maxRecDepth 100000
set_option maxHeartbeats 8000000
def Rdr (w:World) (R:Nat) (A:Option Addr) (n c i d:Nat):Prop:=w.heap[R]?=some (.cells #[.slice A n c,.int .i64 (i:Nat),.int .i64 (d:Nat)] 135 (0,0))
section
variable {w w':World} {R n c i d:Nat} {A:Option Addr}
theorem Rdr.c0 (h:Rdr w R A n c i d):w.cell? ⟨R,0,none⟩=some (.slice A n c):=by rw [cR w R 0 _ _ (0,0) h];rfl
theorem Rdr.c1 (h:Rdr w R A n c i d):w.cell? ⟨R,1,none⟩=some (.int .i64 (i:Nat)):=by rw [cR w R 1 _ _ (0,0) h];rfl
theorem Rdr.c2 (h:Rdr w R A n c i d):w.cell? ⟨R,2,none⟩=some (.int .i64 (d:Nat)):=by rw [cR w R 2 _ _ (0,0) h];rfl
theorem Rdr.lt (h:Rdr w R A n c i d):R<w.heap.size:=lH h
theorem Rdr.frozen (h:Rdr w R A n c i d) (o:Nat):w.frozen? ⟨R,o,none⟩=false:=by
 unfold Rdr at h;simp [World.frozen?,h]
theorem Rdr.below {B:Nat} (h:Rdr w R A n c i d) (hb:Below B w w') (hB:R<B):Rdr w' R A n c i d:=(hb.block R hB).trans h
theorem Rdr.at_ (h:Rdr w R A n c i d) (j:Nat):Rdr (w.setCell ⟨R,1,none⟩ (.int .i64 (j:Nat))) R A n c j d:=by
 unfold Rdr at h ⊢;simp [World.setCell,Array.getElem?_modify,h]
theorem Rdr.deep (h:Rdr w R A n c i d) (e:Nat):Rdr (w.setCell ⟨R,2,none⟩ (.int .i64 (e:Nat))) R A n c i e:=by
 unfold Rdr at h ⊢;simp [World.setCell,Array.getElem?_modify,h]
theorem Rdr.drewN (h:Rdr w R A n c i d) (m:Nat):Rdr (w.drewN m) R A n c i d:=h
end
structure PTok (w:World) (R:Nat) (A:Option Addr) (c:Nat) (l:List Tok):Prop where
 toks:ToksAt w A l
 cap:l.length≤c
 capm:c≤maxLen
 len:l.length≤100000
 apart:∀ a,A=some a→a.block≠R
 txt:∀ t∈l,t.text.length≤100000
 rng:∀ t∈l,-1000000≤t.n∧t.n≤1000000
theorem PTok.only {w w':World} {R c:Nat} {A:Option Addr} {l:List Tok} (h:PTok w R A c l) (ho:Only (fun q=>q=R) w w'):PTok w' R A c l:=by
 refine ⟨?_,h.cap,h.capm,h.len,h.apart,h.txt,h.rng⟩
 rcases h.toks with h0 | ⟨b,off,rfl,hb,hc⟩
 · exact .inl h0
 · exact .inr ⟨b,off,rfl,lL hb ho.size,fun k z hz j hj=>by rw [ho.cell hb (h.apart _ rfl)];exact hc k z hz j hj⟩
theorem Only.drewN {F:Nat→Prop} {w w':World} (h:Only F w w') (n:Nat):Only F w (w'.drewN n):=⟨h.os,h.tape,h.output,h.size,h.block⟩
theorem bs_eq_iff {a b:ByteArray}:(a.toList == b.toList)=decide (bs a=bs b):=by
 rw [ByteArray.toList_eq,ByteArray.toList_eq]
 by_cases h:bs a=bs b
 · rw [decide_eq_true h];unfold bs at h;simp [h]
 · rw [dF h];unfold bs at h
   simpa using h
theorem pis_any (R:Nat) (A:Option Addr) (c i d:Nat) (l:List Tok) (k:Int) (s:ByteArray) (w:World) (hR:Rdr w R A l.length c i d) (hP:PTok w R A c l) (hi:i≤1000000) :
 Calls Tryz.prog 174 #[.pointer (some ⟨R,0,none⟩),.int .i64 k,.string s] w fun e w'=>e=.returned (.bool (isTk l i k (bs s)))∧∃ n,w'=w.drewN n:=by
 obtain ⟨n,HN⟩:=exh_ l.length;rw [←HN.out] at hR;have c0:=hR.c0;have c1:=hR.c1;have hlen:=hP.len;have hcap:=hP.cap;have hcapm:=hP.capm;unfold maxLen at hcapm;rw [←HN.out] at hlen hcap;have hRlt:=hR.lt;obtain ⟨r,hr⟩:=ex_ (isTk l i k (bs s));rw [←hr];unfold isTk at hr;have HR:=Hd hr;have HP:=Hd hP;clear hr hP hR
 by_cases hlt:i<n
 · obtain ⟨t,ht⟩:∃ t,l[i]?=some t:=⟨_,gG (by have:=HN.out;omega)⟩
   rcases HP.out.toks with h0 | ⟨b,off,rfl,hb,hc⟩
   · rw [h0] at ht;simp at ht
   have x0:=hc i t ht 0 (by omega);have x2:=hc i t ht 2 (by omega);simp only [tokV,Nat.add_zero] at x0 x2;have HR2:Hid (r=(decide (t.kind=k) && decide (t.text=bs s))):=by show _=_;rw [HR.out,ht]
   have hk0:(0:Int)≤(i:Int):=by omega
   have hk1:(i:Int)<(n:Int):=by omega
   clear ht hc hlt
   by_cases hk:t.kind=k
   · have hkb:(t.kind == k)=true:=by simpa using hk
     have HR3:Hid (r=decide (t.text=bs s)):=by show _=_;rw [HR2.out,decide_eq_true hk];rfl
     have hs:((⟨t.text.toArray⟩:ByteArray).toList == s.toList)=decide (t.text=bs s):=by rw [bs_eq_iff];rfl
     obtain ⟨T,hT⟩:∃ T:ByteArray,T=⟨t.text.toArray⟩:=⟨_,rfl⟩;rw [←hT] at x2 hs;rw [←HR3.out] at hs;clear hk hT;cases r
     all_goals
      go_enter Tryz.func174,Tryz.ntmps174;go_wp2_with fail
      go_quiet (fail)
      go_wp2
      go_ret;exact ⟨rfl,_,rfl⟩
   · have hkb:(t.kind == k)=false:=by simpa using hk
     have HR3:Hid (r=false):=by show _=_;rw [HR2.out,dF hk];rfl
     clear hk;go_enter Tryz.func174,Tryz.ntmps174;go_wp2_with fail
     go_quiet (fail)
     go_wp2
     go_ret;rw [HR3.out];exact ⟨rfl,_,rfl⟩
 · have HR3:Hid (r=false):=by show _=_;rw [HR.out,List.getElem?_eq_none (by have:=HN.out;omega)]
   have hk1:¬(i:Int)<(n:Int):=by omega
   have hd:decide ((i:Int)<(n:Int))=false:=dF hk1;have hd2:decide (i<n)=false:=dF hlt;clear hlt;go_enter Tryz.func174,Tryz.ntmps174;go_wp2_with fail
   go_quiet (fail)
   go_wp2
   go_ret;rw [HR3.out];exact ⟨rfl,_,rfl⟩
def thrown (j:Nat) (x:Int):List PanicEntry:=[{ v:=.iface 130 (.agg #[.int .i64 (j:Nat),.int .i64 x]),recovered:=false }]
theorem pfail_any (R:Nat) (A:Option Addr) (n c i d:Nat) (x:Int) (w:World) (hR:Rdr w R A n c i d) :
 Calls Tryz.prog 201 #[.pointer (some ⟨R,0,none⟩),.int .i64 x] w fun e w'=>e=.panicked (thrown i x)∧w=w':=by
 have c1:=hR.c1;have hRlt:=hR.lt;obtain ⟨F,hF⟩:∃ F:Ending→World→Prop,F=fun e w'=>e=.panicked (thrown i x)∧w=w':=⟨_,rfl⟩;rw [←hF];have HF:=Hd hF;clear hR hF;go_enter Tryz.func201,Tryz.ntmps201;go_wp2_with fail;refine (show _∧_ from ⟨rfl,?_⟩);rw [HF.out];exact ⟨rfl,rfl⟩
def Went (R:Nat) (A:Option Addr) (n c d j:Nat) (w w':World):Prop:=Rdr w' R A n c j d∧Only (fun q=>q=R) w w'∧w'.heap.size=w.heap.size
theorem went_set {R n c i d j m:Nat} {A:Option Addr} {w:World} (hR:Rdr w R A n c i d):Went R A n c d j w ((w.drewN m).setCell ⟨R,1,none⟩ (.int .i64 (j:Nat))):=
 ⟨(hR.drewN m).at_ j,Only.setF (F:=fun q=>q=R) ((Only.refl (F:=fun q=>q=R)).drewN m) rfl _,by simp⟩
theorem went_next {R n c i d m:Nat} {A:Option Addr} {w:World} (hR:Rdr w R A n c i d):Went R A n c d (i+1) w ((w.drewN m).setCell ⟨R,1,none⟩ (.int .i64 ((i:Int)+1))):=by
 have h:=went_set (j:=i+1) (m:=m) hR;rw [show ((i+1:Nat):Int)=(i:Int)+1 from by omega] at h;exact h
theorem pmust_yes (R:Nat) (A:Option Addr) (c i d:Nat) (l:List Tok) (k:Int) (s:ByteArray) (w:World) (hR:Rdr w R A l.length c i d) (hP:PTok w R A c l) (hi:i≤1000000) (h:isTk l i k (bs s)=true) :
 Calls Tryz.prog 223 #[.pointer (some ⟨R,0,none⟩),.int .i64 k,.string s] w fun e w'=>e=.returned (.tuple #[])∧Went R A l.length c d (i+1) w w':=by
 have his:=pis_any R A c i d l k s w hR hP hi;rw [h] at his;have hRlt:=hR.lt;obtain ⟨F,hF⟩:∃ F:Ending→World→Prop,F=fun e w'=>e=.returned (.tuple #[])∧Went R A l.length c d (i+1) w w':=⟨_,rfl⟩;rw [←hF];have HF:=Hd hF;have HIS:=Hd his;have HR:=Hd hR;clear hF his hR hP h;go_enter Tryz.func223,Tryz.ntmps223;go_wp2_with fail;refine (HIS.out).mono ?_;rintro e w' ⟨rfl,m,hw⟩;rw [hw];have c1:=(HR.out.drewN m).c1;have f1:=(HR.out.drewN m).frozen 1;have hlt2:R<(w.drewN m).heap.size:=hRlt;clear hw;go_wp2_with fail;refine bR (v:=.tuple #[]) (results_none rfl _ _ _) rfl ?_;rw [HF.out];exact ⟨rfl,went_next HR.out⟩
theorem pmust_no (R:Nat) (A:Option Addr) (c i d:Nat) (l:List Tok) (k:Int) (s:ByteArray) (w:World) (hR:Rdr w R A l.length c i d) (hP:PTok w R A c l) (hi:i≤1000000) (h:isTk l i k (bs s)=false) :
 Calls Tryz.prog 223 #[.pointer (some ⟨R,0,none⟩),.int .i64 k,.string s] w fun e w'=>e=.panicked (thrown i 16)∧∃ m,w'=w.drewN m:=by
 have his:=pis_any R A c i d l k s w hR hP hi;rw [h] at his;have HFA:=Hd (fun m=>pfail_any R A l.length c i d 16 (w.drewN m) (hR.drewN m));obtain ⟨F,hF⟩:∃ F:Ending→World→Prop,F=fun e w'=>e=.panicked (thrown i 16)∧∃ m,w'=w.drewN m:=⟨_,rfl⟩;rw [←hF];have HF:=Hd hF;have HIS:=Hd his;clear hF his hR hP h;go_enter Tryz.func223,Tryz.ntmps223;go_wp2_with fail;refine (HIS.out).mono ?_;rintro e w' ⟨rfl,m,hw⟩;rw [hw];clear hw;go_wp2_with fail;refine (HFA.out m).mono ?_;rintro e w' ⟨rfl,hw⟩;rw [←hw];refine (show _∧_ from ⟨rfl,?_⟩);rw [HF.out];exact ⟨rfl,_,rfl⟩
theorem went_more {R n c d j m:Nat} {A:Option Addr} {w w':World} (h:Went R A n c d j w w'):Went R A n c d j w (w'.drewN m):=⟨h.1.drewN m,h.2.1.drewN m,h.2.2⟩
theorem isKd_some {l:List Tok} {i:Nat} {k:Int} (h:isKd l i k=true):∃ t,l[i]?=some t∧t.kind=k:=by
 unfold isKd at h
 cases ht:l[i]? with
 | none=>rw [ht] at h;cases h
 | some t=>rw [ht] at h;exact ⟨t,rfl,by simpa using h⟩
theorem isKd_none {l:List Tok} {i:Nat} {k:Int} (h:isKd l i k=false):l.length≤i∨∃ t,l[i]?=some t∧t.kind≠k:=by
 unfold isKd at h
 cases ht:l[i]? with
 | none=>exact .inl (List.getElem?_eq_none_iff.1 ht)
 | some t=>rw [ht] at h;exact .inr ⟨t,rfl,by simpa using h⟩
theorem pname_yes (R:Nat) (A:Option Addr) (c i d:Nat) (l:List Tok) (t:Tok) (w:World) (hR:Rdr w R A l.length c i d) (hP:PTok w R A c l) (ht:l[i]?=some t) (hk:t.kind=2) :
 Calls Tryz.prog 224 #[.pointer (some ⟨R,0,none⟩)] w fun e w'=>e=.returned (.string ⟨t.text.toArray⟩)∧Went R A l.length c d (i+1) w w':=by
 obtain ⟨n,hn⟩:=ex_ l.length;rw [←hn] at hR ⊢;have hlen:=hP.len;have hcap:=hP.cap;have hcapm:=hP.capm;unfold maxLen at hcapm;rw [←hn] at hlen hcap;have hin:i<n:=by rw [hn];exact (gE.1 ht).1
 rcases hP.toks with h0 | ⟨b,off,rfl,hb,hc⟩
 · rw [h0] at ht;simp at ht
 have hbR:b≠R:=hP.apart _ rfl;have x0:=hc i t ht 0 (by omega);have x2:=hc i t ht 2 (by omega);simp only [tokV,Nat.add_zero] at x0 x2;rw [hk] at x0;have hRlt:=hR.lt;have c0:=hR.c0;have c1:=hR.c1;have f1:=hR.frozen 1;obtain ⟨F,hF⟩:∃ F:Ending→World→Prop,F=fun e w'=>e=.returned (.string ⟨t.text.toArray⟩)∧Went R (some ⟨b,off,none⟩) n c d (i+1) w w':=⟨_,rfl⟩;rw [←hF];have HF:=Hd hF;have HR:=Hd hR;have hk0:(0:Int)≤(i:Int):=by omega
 have hk1:(i:Int)<(n:Int):=by omega
 have hge:¬(n:Int)≤(i:Int):=by omega
 have hged:decide ((n:Int)≤(i:Int))=false:=dF hge;have hged2:decide (n≤i)=false:=dF (by omega);have hsub:IntKind.i64.wrap ((i:Int)+1 - 1)=(i:Int):=by rw [show (i:Int)+1 - 1=(i:Int) by omega];exact IntWalk.i64_in _ (by omega)
 have hsub2:IntKind.i64.wrap (i:Int)=(i:Int):=IntWalk.i64_in _ (by omega);have hbR':R≠b:=fun h=>hbR h.symm;clear hF hR hP hc ht hk hn hin;go_enter Tryz.func224,Tryz.ntmps224;go_wp2_with fail
 go_quiet (fail)
 go_wp2_with fail
 go_quiet (fail)
 go_wp2_with fail;rw [HF.out];exact ⟨rfl,went_more (went_next HR.out)⟩
theorem pname_no (R:Nat) (A:Option Addr) (c i d:Nat) (l:List Tok) (w:World) (hR:Rdr w R A l.length c i d) (hP:PTok w R A c l) (hi:i≤1000000) (h:isKd l i 2=false) :
 Calls Tryz.prog 224 #[.pointer (some ⟨R,0,none⟩)] w fun e w'=>e=.panicked (thrown i 16)∧∃ m,w'=w.drewN m:=by
 have HFA:=Hd (fun m=>pfail_any R A l.length c i d 16 (w.drewN m) (hR.drewN m));obtain ⟨n,hn⟩:=ex_ l.length;rw [←hn] at hR;have hlen:=hP.len;have hcap:=hP.cap;have hcapm:=hP.capm;unfold maxLen at hcapm;rw [←hn] at hlen hcap;have hRlt:=hR.lt;have c0:=hR.c0;have c1:=hR.c1;obtain ⟨F,hF⟩:∃ F:Ending→World→Prop,F=fun e w'=>e=.panicked (thrown i 16)∧∃ m,w'=w.drewN m:=⟨_,rfl⟩;rw [←hF];have HF:=Hd hF;have hk0:(0:Int)≤(i:Int):=by omega
 clear hF
 rcases isKd_none h with hge | ⟨t,ht,hk⟩
 · rw [←hn] at hge;have hge':(n:Int)≤(i:Int):=by omega
   have hged:decide ((n:Int)≤(i:Int))=true:=decide_eq_true hge';have hged2:decide (n≤i)=true:=decide_eq_true hge;clear hR hP h hn hge;go_enter Tryz.func224,Tryz.ntmps224;go_wp2_with fail
   go_quiet (fail)
   go_wp2_with fail;refine (HFA.out _).mono ?_;rintro e w' ⟨rfl,hw⟩;rw [←hw];refine (show _∧_ from ⟨rfl,?_⟩);rw [HF.out];exact ⟨rfl,_,rfl⟩
 · have hin:i<n:=by rw [hn];exact (gE.1 ht).1
   rcases hP.toks with h0 | ⟨b,off,rfl,hb,hc⟩
   · rw [h0] at ht;simp at ht
   have x0:=hc i t ht 0 (by omega);simp only [tokV,Nat.add_zero] at x0;have hk1:(i:Int)<(n:Int):=by omega
   have hged:decide ((n:Int)≤(i:Int))=false:=dF (by omega);have hged2:decide (n≤i)=false:=dF (by omega);have hkb:(t.kind != 2)=true:=by simpa using hk
   have hkb2:(t.kind == 2)=false:=by simpa using hk
   clear hR hP h hn hc ht hk hin;go_enter Tryz.func224,Tryz.ntmps224;go_wp2_with fail
   go_quiet (fail)
   go_wp2_with fail;refine (HFA.out _).mono ?_;rintro e w' ⟨rfl,hw⟩;rw [←hw];refine (show _∧_ from ⟨rfl,?_⟩);rw [HF.out];exact ⟨rfl,_,rfl⟩
theorem pnum_yes (R:Nat) (A:Option Addr) (c i d:Nat) (l:List Tok) (t:Tok) (w:World) (hR:Rdr w R A l.length c i d) (hP:PTok w R A c l) (ht:l[i]?=some t) (hk:t.kind=1) :
 Calls Tryz.prog 222 #[.pointer (some ⟨R,0,none⟩)] w fun e w'=>e=.returned (.int .i64 t.n)∧Went R A l.length c d (i+1) w w':=by
 obtain ⟨n,hn⟩:=ex_ l.length;rw [←hn] at hR ⊢;have hlen:=hP.len;have hcap:=hP.cap;have hcapm:=hP.capm;unfold maxLen at hcapm;rw [←hn] at hlen hcap;have hin:i<n:=by rw [hn];exact (gE.1 ht).1
 rcases hP.toks with h0 | ⟨b,off,rfl,hb,hc⟩
 · rw [h0] at ht;simp at ht
 have hbR:b≠R:=hP.apart _ rfl;have x0:=hc i t ht 0 (by omega);have x2:=hc i t ht 1 (by omega);simp only [tokV,Nat.add_zero] at x0 x2;rw [hk] at x0;have hRlt:=hR.lt;have c0:=hR.c0;have c1:=hR.c1;have f1:=hR.frozen 1;obtain ⟨F,hF⟩:∃ F:Ending→World→Prop,F=fun e w'=>e=.returned (.int .i64 t.n)∧Went R (some ⟨b,off,none⟩) n c d (i+1) w w':=⟨_,rfl⟩;rw [←hF];have HF:=Hd hF;have HR:=Hd hR;have hk0:(0:Int)≤(i:Int):=by omega
 have hk1:(i:Int)<(n:Int):=by omega
 have hge:¬(n:Int)≤(i:Int):=by omega
 have hged:decide ((n:Int)≤(i:Int))=false:=dF hge;have hged2:decide (n≤i)=false:=dF (by omega);have hsub:IntKind.i64.wrap ((i:Int)+1 - 1)=(i:Int):=by rw [show (i:Int)+1 - 1=(i:Int) by omega];exact IntWalk.i64_in _ (by omega)
 have hsub2:IntKind.i64.wrap (i:Int)=(i:Int):=IntWalk.i64_in _ (by omega);have hbR':R≠b:=fun h=>hbR h.symm;clear hF hR hP hc ht hk hn hin;go_enter Tryz.func222,Tryz.ntmps222;go_wp2_with fail
 go_quiet (fail)
 go_wp2_with fail
 go_quiet (fail)
 go_wp2_with fail;rw [HF.out];exact ⟨rfl,went_more (went_next HR.out)⟩
theorem pnum_no (R:Nat) (A:Option Addr) (c i d:Nat) (l:List Tok) (w:World) (hR:Rdr w R A l.length c i d) (hP:PTok w R A c l) (hi:i≤1000000) (h:isKd l i 1=false) :
 Calls Tryz.prog 222 #[.pointer (some ⟨R,0,none⟩)] w fun e w'=>e=.panicked (thrown i 16)∧∃ m,w'=w.drewN m:=by
 have HFA:=Hd (fun m=>pfail_any R A l.length c i d 16 (w.drewN m) (hR.drewN m));obtain ⟨n,hn⟩:=ex_ l.length;rw [←hn] at hR;have hlen:=hP.len;have hcap:=hP.cap;have hcapm:=hP.capm;unfold maxLen at hcapm;rw [←hn] at hlen hcap;have hRlt:=hR.lt;have c0:=hR.c0;have c1:=hR.c1;obtain ⟨F,hF⟩:∃ F:Ending→World→Prop,F=fun e w'=>e=.panicked (thrown i 16)∧∃ m,w'=w.drewN m:=⟨_,rfl⟩;rw [←hF];have HF:=Hd hF;have hk0:(0:Int)≤(i:Int):=by omega
 clear hF
 rcases isKd_none h with hge | ⟨t,ht,hk⟩
 · rw [←hn] at hge;have hge':(n:Int)≤(i:Int):=by omega
   have hged:decide ((n:Int)≤(i:Int))=true:=decide_eq_true hge';have hged2:decide (n≤i)=true:=decide_eq_true hge;clear hR hP h hn hge;go_enter Tryz.func222,Tryz.ntmps222;go_wp2_with fail
   go_quiet (fail)
   go_wp2_with fail;refine (HFA.out _).mono ?_;rintro e w' ⟨rfl,hw⟩;rw [←hw];refine (show _∧_ from ⟨rfl,?_⟩);rw [HF.out];exact ⟨rfl,_,rfl⟩
 · have hin:i<n:=by rw [hn];exact (gE.1 ht).1
   rcases hP.toks with h0 | ⟨b,off,rfl,hb,hc⟩
   · rw [h0] at ht;simp at ht
   have x0:=hc i t ht 0 (by omega);simp only [tokV,Nat.add_zero] at x0;have hk1:(i:Int)<(n:Int):=by omega
   have hged:decide ((n:Int)≤(i:Int))=false:=dF (by omega);have hged2:decide (n≤i)=false:=dF (by omega);have hkb:(t.kind != 1)=true:=by simpa using hk
   have hkb2:(t.kind == 1)=false:=by simpa using hk
   clear hR hP h hn hc ht hk hin;go_enter Tryz.func222,Tryz.ntmps222;go_wp2_with fail
   go_quiet (fail)
   go_wp2_with fail;refine (HFA.out _).mono ?_;rintro e w' ⟨rfl,hw⟩;rw [←hw];refine (show _∧_ from ⟨rfl,?_⟩);rw [HF.out];exact ⟨rfl,_,rfl⟩
def OpsAt (w:World) (b:Nat) (l:List Int):Prop:=∀ j z,l[j]?=some z→w.cell? ⟨b,j,none⟩=some (.int .i64 z)
theorem OpsAt.drewN {w:World} {b:Nat} {l:List Int} (h:OpsAt w b l) (m:Nat):OpsAt (w.drewN m) b l:=h
theorem ops_new (w:World) (l:List Int):OpsAt (w.alloc (.cells (l.map fun z=>Value.int .i64 z).toArray 3)) w.heap.size l:=fun j z hj=>by
 rw [cR _ w.heap.size j _ _ (0,0) (hA_ w _)];simp [hj]
theorem which_drop (l:List Tok) (i:Nat):∀ (ops:List Int) (k:Nat) (op:Int),ops[k]?=some op→whichOp l i (ops.drop k)=if (if op=17 then isTk l i 3 [109,111,100] else isTk l i 4 (signB op))=true then op else whichOp l i (ops.drop (k+1)):=by
 intro ops k op h;obtain ⟨hj,hj2⟩:=gE.1 h;rw [List.drop_eq_getElem_cons hj,hj2,whichOp]
theorem psign_any (R:Nat) (A:Option Addr) (c i d:Nat) (l:List Tok) (bo co:Nat) (ops:List Int) (w:World) (hR:Rdr w R A l.length c i d) (hP:PTok w R A c l) (hi:i≤1000000) (ho:OpsAt w bo ops) (hol:ops.length≤20) (hb:bo<w.heap.size) :
 Calls Tryz.prog 126 #[.pointer (some ⟨R,0,none⟩),.slice (some ⟨bo,0,none⟩) ops.length co] w fun e w'=>e=.returned (.int .i64 (whichOp l i ops))∧∃ n,w'=w.drewN n:=by
 obtain ⟨n,HN⟩:=exh_ ops.length;obtain ⟨r,HR⟩:=exh_ (whichOp l i ops);obtain ⟨F,hF⟩:∃ F:Ending→World→Prop,F=fun e w'=>e=.returned (.int .i64 r)∧∃ n,w'=w.drewN n:=⟨_,rfl⟩;rw [←HN.out] at hol ⊢;rw [←HR.out,←hF];have HRD:=Hd hR;have HPD:=Hd hP;have hRlt:=hR.lt;have HF:=Hd hF;have HO:=Hd ho;clear hF hR hP ho;go_enter Tryz.func126,Tryz.ntmps126;go_wp2_with fail
 go_loopw [6,9] (fun _ si wr=>∃ k m:Nat,k≤n∧si=.int .i64 k∧wr=w.drewN m∧whichOp l i (ops.drop k)=r) (fun _ i _=>n - (intOf i).toNat)
 case atStart=>exact ⟨0,0,zl _,rfl,rfl,HR.out.symm⟩
 case round=>
  obtain ⟨k,m,hk,rfl,hwr,hw⟩:=hrel;have hRr:Rdr wr R A l.length c i d:=by rw [hwr];exact HRD.out.drewN m
  have hPr:PTok wr R A c l:=by rw [hwr];exact HPD.out.only (Only.refl.drewN m)
  have hOr:OpsAt wr bo ops:=by rw [hwr];exact HO.out.drewN m
  have hbr:bo<wr.heap.size:=by rw [hwr];exact hb
  have HFW:Hid (∀ q,∃ n,wr.drewN q=w.drewN n):=fun q=>⟨m+q,by rw [hwr,World.drewN_drewN]⟩;have HW:=Hd hw;clear hw hwr
  by_cases hlt:k<n
  · obtain ⟨op,hop⟩:∃ op,ops[k]?=some op:=⟨_,gG (by have:=HN.out;omega)⟩;have x0:=hOr k op hop;have HD:=Hd (which_drop l i ops k op hop);have hk0:(0:Int)≤(k:Int):=by omega
    have hk1:(k:Int)<(n:Int):=by omega
    clear hop
    by_cases h17:op=17
    · subst h17;obtain ⟨bw,HB⟩:=exh_ (isTk l i 3 [109,111,100])
      have HI2:Hid (∀ q,Calls Tryz.prog 174 #[.pointer (some ⟨R,0,none⟩),.int .i64 3,.string ⟨#[109,111,100]⟩] (wr.drewN q) fun e w'=>e=.returned (.bool bw)∧∃ n,w'=(wr.drewN q).drewN n):=fun q=>by
       have h:=pis_any R A c i d l 3 ⟨#[109,111,100]⟩ (wr.drewN q) (hRr.drewN q) (hPr.only (Only.refl.drewN q)) hi;rw [show isTk l i 3 (bs ⟨#[109,111,100]⟩)=bw by rw [HB.out];rfl] at h;exact h
      clear hRr hPr hOr
      cases bw with
      | true=>
       have HRR:Hid (r=17):=by show _=_;rw [←HW.out,HD.out,iP rfl,←HB.out,iP rfl]
       go_wp2_with fail
       go_quiet ((go_at_call 174;exact Calls.quiet_of (HI2.out _)))
       go_wp2_with fail;rw [HF.out,HRR.out];exact ⟨rfl,HFW.out _⟩
      | false=>
       have HRR:Hid (whichOp l i (ops.drop (k+1))=r):=by show _=_;rw [←HW.out,HD.out,iP rfl,←HB.out,iN (by decide)]
       go_wp2_with fail
       go_quiet ((go_at_call 174;exact Calls.quiet_of (HI2.out _)))
       go_wp2_with fail
       go_roundw
       case rel=>exact ⟨k+1,(HFW.out _).choose,by omega,by go_num,(HFW.out _).choose_spec,HRR.out⟩
       case measure=>simp [intOf];omega
    · obtain ⟨bw,HB⟩:=exh_ (isTk l i 4 (signB op));obtain ⟨S,hS⟩:∃ S:ByteArray,S=⟨(signB op).toArray⟩:=⟨_,rfl⟩
      have HI2:Hid (∀ q,Calls Tryz.prog 174 #[.pointer (some ⟨R,0,none⟩),.int .i64 4,.string S] (wr.drewN q) fun e w'=>e=.returned (.bool bw)∧∃ n,w'=(wr.drewN q).drewN n):=fun q=>by
       have h:=pis_any R A c i d l 4 S (wr.drewN q) (hRr.drewN q) (hPr.only (Only.refl.drewN q)) hi;rw [show isTk l i 4 (bs S)=bw by rw [HB.out,hS];rfl] at h;exact h
      have HSG:Hid (∀ q,Calls Tryz.prog 112 #[.int .i64 op] (wr.drewN q) fun e w'=>e=.returned (.string S)∧w'=wr.drewN q):=fun q=>by
       rw [hS];exact (signOf_any op (wr.drewN q)).mono fun _ _ h=>⟨h.1,h.2.symm⟩
      have H17:=Hd h17;have h17a:(op != 17)=true:=by simpa using h17
      have h17b:(op == 17)=false:=by simpa using h17
      clear hRr hPr hOr h17 hS
      cases bw with
      | true=>
       have HRR:Hid (r=op):=by show _=_;rw [←HW.out,HD.out,iN H17.out,←HB.out,iP rfl]
       go_wp2_with fail
       go_quiet (first | (go_at_call 174;exact Calls.quiet_of (HI2.out _)) | (go_at_call 112;exact Calls.quiet_of_same (HSG.out _)) | fail)
       go_wp2_with fail;rw [HF.out,HRR.out];exact ⟨rfl,HFW.out _⟩
      | false=>
       have HRR:Hid (whichOp l i (ops.drop (k+1))=r):=by show _=_;rw [←HW.out,HD.out,iN H17.out,←HB.out,iN (by decide)]
       go_wp2_with fail
       go_quiet (first | (go_at_call 174;exact Calls.quiet_of (HI2.out _)) | (go_at_call 112;exact Calls.quiet_of_same (HSG.out _)) | fail)
       go_wp2_with fail
       go_roundw
       case rel=>exact ⟨k+1,(HFW.out _).choose,by omega,by go_num,(HFW.out _).choose_spec,HRR.out⟩
       case measure=>simp [intOf];omega
  · have hk1:¬(k:Int)<(n:Int):=by omega
    have HRR:Hid (r=0):=by
     show _=_;rw [←HW.out,List.drop_eq_nil_of_le (by have:=HN.out;omega)]
     rfl
    clear hRr hPr hOr hlt;go_wp2_with fail;rw [HF.out,HRR.out];exact ⟨rfl,by have:=HFW.out 0;exact this⟩
end Go.Proofs.YtnbphgeepnknlaaGreatDoor
