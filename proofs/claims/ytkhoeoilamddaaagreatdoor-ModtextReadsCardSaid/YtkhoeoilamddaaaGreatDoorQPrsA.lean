/- Walks and plain words: PrsA FrmP FParP Sm2. -/
import Derived.Test.YtkhoeoilamddaaaGreatDoorQNumA
namespace Go.Proofs.YtkhoeoilamddaaaGreatDoor
open Go.RowKit
set_option linter.unusedVariables false
set_option maxRecDepth 100000
set_option maxHeartbeats 8000000
def iZ(w:World)(R:Nat)(A:Option Addr)(n c i d:Nat):Prop:=w.heap[R]?=some (.cells #[.slice A n c,.int .i64 (i:Nat),.int .i64 (d:Nat)] 186 (0,0))
section
variable {w w':World} {R n c i d:Nat} {A:Option Addr}
theorem iZ.c0(h:iZ w R A n c i d):w.cell? ⟨R,0,none⟩=some (.slice A n c):=by rw[cR w R 0 _ _ (0,0) h];rfl
theorem iZ.c1(h:iZ w R A n c i d):w.cell? ⟨R,1,none⟩=some (.int .i64 (i:Nat)):=by rw[cR w R 1 _ _ (0,0) h];rfl
theorem iZ.c2(h:iZ w R A n c i d):w.cell? ⟨R,2,none⟩=some (.int .i64 (d:Nat)):=by rw[cR w R 2 _ _ (0,0) h];rfl
theorem iZ.lt(h:iZ w R A n c i d):R<w.heap.size:=lH h
theorem iZ.frozen(h:iZ w R A n c i d)(o:Nat):w.frozen? ⟨R,o,none⟩=false:=by
 unfold iZ at h;simp[World.frozen?,h]
theorem iZ.below{B:Nat}(h:iZ w R A n c i d)(hb:Below B w w')(D:R<B):iZ w' R A n c i d:=(hb.block R D).trans h
theorem iZ.at_(h:iZ w R A n c i d)(j:Nat):iZ (w.setCell ⟨R,1,none⟩ (.int .i64 (j:Nat))) R A n c j d:=by
 unfold iZ at h⊢;simp[World.setCell,Array.getElem?_modify,h]
theorem iZ.deep(h:iZ w R A n c i d)(e:Nat):iZ (w.setCell ⟨R,2,none⟩ (.int .i64 (e:Nat))) R A n c i e:=by
 unfold iZ at h⊢;simp[World.setCell,Array.getElem?_modify,h]
theorem iZ.drewN(h:iZ w R A n c i d)(m:Nat):iZ (w.drewN m) R A n c i d:=h
end
structure iI(w:World)(R:Nat)(A:Option Addr)(c:Nat)(l:List Tok):Prop where
 toks:wF w A l
 cap:l.length≤c
 bU:c≤maxLen
 len:l.length≤100000
 apart:∀a,A=some a→a.block≠R
 txt:∀t∈l,t.text.length≤100000
 rng:∀t∈l,-1000000≤t.n∧t.n≤1000000
theorem iI.only{w w':World}{R c:Nat}{A:Option Addr}{l:List Tok}(h:iI w R A c l)(D:Only (fun q=>q=R) w w'):iI w' R A c l:=by
 refine⟨?_,h.cap,h.bU,h.len,h.apart,h.txt,h.rng⟩
 rcases h.toks with h0|⟨b,off,rfl,hb,hc⟩
 ·exact .inl h0
 ·exact .inr ⟨b,off,rfl,lL hb D.size,fun k z I j G=>by rw[D.cell hb (h.apart _ rfl)];exact hc k z I j G⟩
theorem Only.drewN{F:Nat→Prop}{w w':World}(h:Only F w w')(n:Nat):Only F w (w'.drewN n):=⟨h.os,h.tape,h.output,h.size,h.block⟩
theorem vY{a b:ByteArray}:(a.toList==b.toList)=decide (bs a=bs b):=by
 rw[ByteArray.toList_eq,ByteArray.toList_eq]
 by_cases h:bs a=bs b
 ·rw[decide_eq_true h];unfold bs at h;simp[h]
 ·rw[dF h];unfold bs at h
  simpa using h
theorem DI(R:Nat)(A:Option Addr)(c i d:Nat)(l:List Tok)(k:Int)(s:ByteArray)(w:World)(hR:iZ w R A l.length c i d)(hP:iI w R A c l)(hi:i≤1000000) :
 Calls Tryz.prog 175 #[.pointer (some ⟨R,0,none⟩),.int .i64 k,.string s] w fun e w'=>e=.returned (.bool (ah l i k (bs s)))∧∃n,w'=w.drewN n:=by
 obtain⟨n,HN⟩:=ak l.length;rw[←HN]at hR;have c0:=hR.c0;have c1:=hR.c1;have hlen:=hP.len;have O:=hP.cap;have aQ:=hP.bU;unfold maxLen at aQ;rw[←HN]at hlen O;have fC:=hR.lt;obtain⟨r,hr⟩:=aj (ah l i k (bs s));rw[←hr];unfold ah at hr;have HR:=Hd hr;have HP:=Hd hP;clear hr hP hR
 by_cases G:i<n
 ·obtain⟨t,ht⟩:∃t,l[i]?=some t:=⟨_,gG (by have:=HN.out;omega)⟩
  rcases HP.toks with h0|⟨b,off,rfl,hb,hc⟩
  ·rw[h0]at ht;simp at ht
  have x0:=hc i t ht 0 (by omega);have x2:=hc i t ht 2 (by omega);simp only[fZ,Nat.add_zero]at x0 x2;have J:Hid (r=(decide (t.kind=k)&&decide (t.text=bs s))):=by show _=_;rw[HR,ht]
  have ae:(0:Int)≤(i:Int):=by omega
  have Y:(i:Int)<(n:Int):=by omega
  clear ht hc G
  by_cases I:t.kind=k
  ·have aa:(t.kind==k)=true:=by simpa using I
   have D:Hid (r=decide (t.text=bs s)):=by show _=_;rw[J,decide_eq_true I];rfl
   have hs:((⟨t.text.toArray⟩:ByteArray).toList==s.toList)=decide (t.text=bs s):=by rw[vY];rfl
   obtain⟨T,hT⟩:∃T:ByteArray,T=⟨t.text.toArray⟩:=⟨_,rfl⟩;rw[←hT]at x2 hs;rw[←D]at hs;clear I hT;cases r
   all_goals
    go_in;go_wp2_with fail
    go_quiet (fail)
    go_wp2
    go_ret;exact⟨rfl,_,rfl⟩
  ·have aa:(t.kind==k)=false:=by simpa using I
   have D:Hid (r=false):=by show _=_;rw[J,dF I];rfl
   clear I;go_in;go_wp2_with fail
   go_quiet (fail)
   go_wp2
   go_ret;rw[D];exact⟨rfl,_,rfl⟩
 ·have D:Hid (r=false):=by show _=_;rw[HR,List.getElem?_eq_none (by have:=HN.out;omega)]
  have Y:¬(i:Int)<(n:Int):=by omega
  have hd:decide ((i:Int)<(n:Int))=false:=dF Y;have ab:decide (i<n)=false:=dF G;clear G;go_in;go_wp2_with fail
  go_quiet (fail)
  go_wp2
  go_ret;rw[D];exact⟨rfl,_,rfl⟩
def thrown(j:Nat)(x:Int):List PanicEntry:=[{v:=.iface 181 (.agg #[.int .i64 (j:Nat),.int .i64 x]),recovered:=false}]
theorem zF(R:Nat)(A:Option Addr)(n c i d:Nat)(x:Int)(w:World)(hR:iZ w R A n c i d) :
 Calls Tryz.prog 193 #[.pointer (some ⟨R,0,none⟩),.int .i64 x] w fun e w'=>e=.panicked (thrown i x)∧w=w':=by
 have c1:=hR.c1;have G:=hR.lt;obtain⟨F,hF⟩:∃F:Ending→World→Prop,F=fun e w'=>e=.panicked (thrown i x)∧w=w':=⟨_,rfl⟩;rw[←hF];have D:=Hd hF;clear hR hF;go_in;go_wp2_with fail;refine(show _∧_ from⟨rfl,?_⟩);rw[D];exact⟨rfl,rfl⟩
def yU(R:Nat)(A:Option Addr)(n c d j:Nat)(w w':World):Prop:=iZ w' R A n c j d∧Only (fun q=>q=R) w w'∧w'.heap.size=w.heap.size
theorem ac8{R n c i d j m:Nat}{A:Option Addr}{w:World}(hR:iZ w R A n c i d):yU R A n c d j w ((w.drewN m).setCell ⟨R,1,none⟩ (.int .i64 (j:Nat))):=
 ⟨(hR.drewN m).at_ j,Only.bq (F:=fun q=>q=R) ((Only.refl (F:=fun q=>q=R)).drewN m) rfl _,by simp⟩
theorem jf{R n c i d m:Nat}{A:Option Addr}{w:World}(hR:iZ w R A n c i d):yU R A n c d (i+1) w ((w.drewN m).setCell ⟨R,1,none⟩ (.int .i64 ((i:Int)+1))):=by
 have h:=ac8 (j:=i+1) (m:=m) hR;rw[show((i+1:Nat):Int)=(i:Int)+1 from by omega]at h;exact h
theorem vZ(R:Nat)(A:Option Addr)(c i d:Nat)(l:List Tok)(k:Int)(s:ByteArray)(w:World)(hR:iZ w R A l.length c i d)(hP:iI w R A c l)(hi:i≤1000000)(h:ah l i k (bs s)=true) :
 Calls Tryz.prog 208 #[.pointer (some ⟨R,0,none⟩),.int .i64 k,.string s] w fun e w'=>e=.returned (.tuple #[])∧yU R A l.length c d (i+1) w w':=by
 have D:=DI R A c i d l k s w hR hP hi;rw[h]at D;have Y:=hR.lt;obtain⟨F,hF⟩:∃F:Ending→World→Prop,F=fun e w'=>e=.returned (.tuple #[])∧yU R A l.length c d (i+1) w w':=⟨_,rfl⟩;rw[←hF];have O:=Hd hF;have G:=Hd D;have I:=Hd hR;clear hF D hR hP h;go_in;go_wp2_with fail;refine G.mono ?_;rintro e w' ⟨rfl,m,hw⟩;rw[hw];have c1:=(I.drewN m).c1;have f1:=(I.drewN m).frozen 1;have J:R<(w.drewN m).heap.size:=Y;clear hw;go_wp2_with fail;refine bR (v:=.tuple #[]) (results_none rfl _ _ _) rfl ?_;rw[O];exact⟨rfl,jf I⟩
theorem Gv(R:Nat)(A:Option Addr)(c i d:Nat)(l:List Tok)(k:Int)(s:ByteArray)(w:World)(hR:iZ w R A l.length c i d)(hP:iI w R A c l)(hi:i≤1000000)(h:ah l i k (bs s)=false) :
 Calls Tryz.prog 208 #[.pointer (some ⟨R,0,none⟩),.int .i64 k,.string s] w fun e w'=>e=.panicked (thrown i 16)∧∃m,w'=w.drewN m:=by
 have D:=DI R A c i d l k s w hR hP hi;rw[h]at D;have J:=Hd (fun m=>zF R A l.length c i d 16 (w.drewN m) (hR.drewN m));obtain⟨F,hF⟩:∃F:Ending→World→Prop,F=fun e w'=>e=.panicked (thrown i 16)∧∃m,w'=w.drewN m:=⟨_,rfl⟩;rw[←hF];have I:=Hd hF;have G:=Hd D;clear hF D hR hP h;go_in;go_wp2_with fail;refine G.mono ?_;rintro e w' ⟨rfl,m,hw⟩;rw[hw];clear hw;go_wp2_with fail;refine(J m).mono ?_;rintro e w' ⟨rfl,hw⟩;rw[←hw];refine(show _∧_ from⟨rfl,?_⟩);rw[I];exact⟨rfl,_,rfl⟩
theorem zG{R n c d j m:Nat}{A:Option Addr}{w w':World}(h:yU R A n c d j w w'):yU R A n c d j w (w'.drewN m):=⟨h.1.drewN m,h.2.1.drewN m,h.2.2⟩
theorem wh{l:List Tok}{i:Nat}{k:Int}(h:jd l i k=true):∃t,l[i]?=some t∧t.kind=k:=by
 unfold jd at h
 cases ht:l[i]? with
 |none=>rw[ht]at h;cases h
 |some t=>rw[ht]at h;exact⟨t,rfl,by simpa using h⟩
theorem DJ{l:List Tok}{i:Nat}{k:Int}(h:jd l i k=false):l.length≤i∨∃t,l[i]?=some t∧t.kind≠k:=by
 unfold jd at h
 cases ht:l[i]? with
 |none=>exact .inl (List.getElem?_eq_none_iff.1 ht)
 |some t=>rw[ht]at h;exact .inr ⟨t,rfl,by simpa using h⟩
theorem IL(R:Nat)(A:Option Addr)(c i d:Nat)(l:List Tok)(t:Tok)(w:World)(hR:iZ w R A l.length c i d)(hP:iI w R A c l)(ht:l[i]?=some t)(Y:t.kind=2) :
 Calls Tryz.prog 209 #[.pointer (some ⟨R,0,none⟩)] w fun e w'=>e=.returned (.string ⟨t.text.toArray⟩)∧yU R A l.length c d (i+1) w w':=by
 obtain⟨n,hn⟩:=aj l.length;rw[←hn]at hR⊢;have hlen:=hP.len;have D:=hP.cap;have aQ:=hP.bU;unfold maxLen at aQ;rw[←hn]at hlen D;have J:i<n:=by rw[hn];exact(gE.1 ht).1
 rcases hP.toks with h0|⟨b,off,rfl,hb,hc⟩
 ·rw[h0]at ht;simp at ht
 have G:b≠R:=hP.apart _ rfl;have x0:=hc i t ht 0 (by omega);have x2:=hc i t ht 2 (by omega);simp only[fZ,Nat.add_zero]at x0 x2;rw[Y]at x0;have fC:=hR.lt;have c0:=hR.c0;have c1:=hR.c1;have f1:=hR.frozen 1;obtain⟨F,hF⟩:∃F:Ending→World→Prop,F=fun e w'=>e=.returned (.string ⟨t.text.toArray⟩)∧yU R (some ⟨b,off,none⟩) n c d (i+1) w w':=⟨_,rfl⟩;rw[←hF];have HF:=Hd hF;have HR:=Hd hR;have ab:(0:Int)≤(i:Int):=by omega
 have ae:(i:Int)<(n:Int):=by omega
 have I:¬(n:Int)≤(i:Int):=by omega
 have L8:decide ((n:Int)≤(i:Int))=false:=dF I;have Cj:decide (n≤i)=false:=dF (by omega);have aa:IntKind.i64.wrap ((i:Int)+1-1)=(i:Int):=by rw[show(i:Int)+1-1=(i:Int) by omega];exact IntWalk.i64_in _ (by omega)
 have O:IntKind.i64.wrap (i:Int)=(i:Int):=IntWalk.i64_in _ (by omega);have Tg:R≠b:=fun h=>G h.symm;clear hF hR hP hc ht Y hn J;go_in;go_wp2_with fail
 go_quiet (fail)
 go_wp2_with fail
 go_quiet (fail)
 go_wp2_with fail;rw[HF];exact⟨rfl,zG (jf HR)⟩
theorem ac9(R:Nat)(A:Option Addr)(c i d:Nat)(l:List Tok)(w:World)(hR:iZ w R A l.length c i d)(hP:iI w R A c l)(hi:i≤1000000)(h:jd l i 2=false) :
 Calls Tryz.prog 209 #[.pointer (some ⟨R,0,none⟩)] w fun e w'=>e=.panicked (thrown i 16)∧∃m,w'=w.drewN m:=by
 have vN:=Hd (fun m=>zF R A l.length c i d 16 (w.drewN m) (hR.drewN m));obtain⟨n,hn⟩:=aj l.length;rw[←hn]at hR;have hlen:=hP.len;have G:=hP.cap;have aQ:=hP.bU;unfold maxLen at aQ;rw[←hn]at hlen G;have fC:=hR.lt;have c0:=hR.c0;have c1:=hR.c1;obtain⟨F,hF⟩:∃F:Ending→World→Prop,F=fun e w'=>e=.panicked (thrown i 16)∧∃m,w'=w.drewN m:=⟨_,rfl⟩;rw[←hF];have Y:=Hd hF;have ab:(0:Int)≤(i:Int):=by omega
 clear hF
 rcases DJ h with D|⟨t,ht,O⟩
 ·rw[←hn]at D;have I:(n:Int)≤(i:Int):=by omega
  have L8:decide ((n:Int)≤(i:Int))=true:=decide_eq_true I;have Cj:decide (n≤i)=true:=decide_eq_true D;clear hR hP h hn D;go_in;go_wp2_with fail
  go_quiet (fail)
  go_wp2_with fail;refine(vN _).mono ?_;rintro e w' ⟨rfl,hw⟩;rw[←hw];refine(show _∧_ from⟨rfl,?_⟩);rw[Y];exact⟨rfl,_,rfl⟩
 ·have J:i<n:=by rw[hn];exact(gE.1 ht).1
  rcases hP.toks with h0|⟨b,off,rfl,hb,hc⟩
  ·rw[h0]at ht;simp at ht
  have x0:=hc i t ht 0 (by omega);simp only[fZ,Nat.add_zero]at x0;have ae:(i:Int)<(n:Int):=by omega
  have L8:decide ((n:Int)≤(i:Int))=false:=dF (by omega);have Cj:decide (n≤i)=false:=dF (by omega);have af:(t.kind != 2)=true:=by simpa using O
  have aa:(t.kind==2)=false:=by simpa using O
  clear hR hP h hn hc ht O J;go_in;go_wp2_with fail
  go_quiet (fail)
  go_wp2_with fail;refine(vN _).mono ?_;rintro e w' ⟨rfl,hw⟩;rw[←hw];refine(show _∧_ from⟨rfl,?_⟩);rw[Y];exact⟨rfl,_,rfl⟩
theorem Ti(R:Nat)(A:Option Addr)(c i d:Nat)(l:List Tok)(t:Tok)(w:World)(hR:iZ w R A l.length c i d)(hP:iI w R A c l)(ht:l[i]?=some t)(Y:t.kind=1) :
 Calls Tryz.prog 207 #[.pointer (some ⟨R,0,none⟩)] w fun e w'=>e=.returned (.int .i64 t.n)∧yU R A l.length c d (i+1) w w':=by
 obtain⟨n,hn⟩:=aj l.length;rw[←hn]at hR⊢;have hlen:=hP.len;have D:=hP.cap;have aQ:=hP.bU;unfold maxLen at aQ;rw[←hn]at hlen D;have J:i<n:=by rw[hn];exact(gE.1 ht).1
 rcases hP.toks with h0|⟨b,off,rfl,hb,hc⟩
 ·rw[h0]at ht;simp at ht
 have G:b≠R:=hP.apart _ rfl;have x0:=hc i t ht 0 (by omega);have x2:=hc i t ht 1 (by omega);simp only[fZ,Nat.add_zero]at x0 x2;rw[Y]at x0;have fC:=hR.lt;have c0:=hR.c0;have c1:=hR.c1;have f1:=hR.frozen 1;obtain⟨F,hF⟩:∃F:Ending→World→Prop,F=fun e w'=>e=.returned (.int .i64 t.n)∧yU R (some ⟨b,off,none⟩) n c d (i+1) w w':=⟨_,rfl⟩;rw[←hF];have HF:=Hd hF;have HR:=Hd hR;have ab:(0:Int)≤(i:Int):=by omega
 have ae:(i:Int)<(n:Int):=by omega
 have I:¬(n:Int)≤(i:Int):=by omega
 have L8:decide ((n:Int)≤(i:Int))=false:=dF I;have Cj:decide (n≤i)=false:=dF (by omega);have aa:IntKind.i64.wrap ((i:Int)+1-1)=(i:Int):=by rw[show(i:Int)+1-1=(i:Int) by omega];exact IntWalk.i64_in _ (by omega)
 have O:IntKind.i64.wrap (i:Int)=(i:Int):=IntWalk.i64_in _ (by omega);have Tg:R≠b:=fun h=>G h.symm;clear hF hR hP hc ht Y hn J;go_in;go_wp2_with fail
 go_quiet (fail)
 go_wp2_with fail
 go_quiet (fail)
 go_wp2_with fail;rw[HF];exact⟨rfl,zG (jf HR)⟩
theorem QH(R:Nat)(A:Option Addr)(c i d:Nat)(l:List Tok)(w:World)(hR:iZ w R A l.length c i d)(hP:iI w R A c l)(hi:i≤1000000)(h:jd l i 1=false) :
 Calls Tryz.prog 207 #[.pointer (some ⟨R,0,none⟩)] w fun e w'=>e=.panicked (thrown i 16)∧∃m,w'=w.drewN m:=by
 have vN:=Hd (fun m=>zF R A l.length c i d 16 (w.drewN m) (hR.drewN m));obtain⟨n,hn⟩:=aj l.length;rw[←hn]at hR;have hlen:=hP.len;have G:=hP.cap;have aQ:=hP.bU;unfold maxLen at aQ;rw[←hn]at hlen G;have fC:=hR.lt;have c0:=hR.c0;have c1:=hR.c1;obtain⟨F,hF⟩:∃F:Ending→World→Prop,F=fun e w'=>e=.panicked (thrown i 16)∧∃m,w'=w.drewN m:=⟨_,rfl⟩;rw[←hF];have Y:=Hd hF;have ab:(0:Int)≤(i:Int):=by omega
 clear hF
 rcases DJ h with D|⟨t,ht,O⟩
 ·rw[←hn]at D;have I:(n:Int)≤(i:Int):=by omega
  have L8:decide ((n:Int)≤(i:Int))=true:=decide_eq_true I;have Cj:decide (n≤i)=true:=decide_eq_true D;clear hR hP h hn D;go_in;go_wp2_with fail
  go_quiet (fail)
  go_wp2_with fail;refine(vN _).mono ?_;rintro e w' ⟨rfl,hw⟩;rw[←hw];refine(show _∧_ from⟨rfl,?_⟩);rw[Y];exact⟨rfl,_,rfl⟩
 ·have J:i<n:=by rw[hn];exact(gE.1 ht).1
  rcases hP.toks with h0|⟨b,off,rfl,hb,hc⟩
  ·rw[h0]at ht;simp at ht
  have x0:=hc i t ht 0 (by omega);simp only[fZ,Nat.add_zero]at x0;have ae:(i:Int)<(n:Int):=by omega
  have L8:decide ((n:Int)≤(i:Int))=false:=dF (by omega);have Cj:decide (n≤i)=false:=dF (by omega);have af:(t.kind != 1)=true:=by simpa using O
  have aa:(t.kind==1)=false:=by simpa using O
  clear hR hP h hn hc ht O J;go_in;go_wp2_with fail
  go_quiet (fail)
  go_wp2_with fail;refine(vN _).mono ?_;rintro e w' ⟨rfl,hw⟩;rw[←hw];refine(show _∧_ from⟨rfl,?_⟩);rw[Y];exact⟨rfl,_,rfl⟩
set_option linter.unusedSectionVars false
inductive Fm where
 |mk (op:Int) (e:Tm) (kids:List Fm):Fm
namespace Fm
def op:Fm→Int|mk o _ _=>o
def tm:Fm→Tm|mk _ t _=>t
def kids:Fm→List Fm|mk _ _ l=>l
end Fm
mutual
def Fm.size:Fm→Nat
 |.mk _ _ l=>1+Fm.aA l
def Fm.aA:List Fm→Nat
 |[]=>0
 |t::r=>t.size+Fm.aA r
end
theorem Fm.aM:∀{l:List Fm} {t:Fm},t∈l→t.size≤Fm.aA l
 |x::r,t,h=>by
  rcases List.mem_cons.1 h with rfl|h
  ·rw[Fm.aA];omega
  ·have:=Fm.aM h;rw[Fm.aA];omega
mutual
def hasNext:Tm→Bool
 |.mk o _ _ l=>decide (o=4)||eU l
def eU:List Tm→Bool
 |[]=>false
 |t::r=>hasNext t||eU r
end
def bV(op:Int):Int:=
 if op=1 then 0 else if op=2∨op=6∨op=7∨op=8∨op=10∨op=11∨op=12 then 1 else if op=3∨op=4∨op=5∨op=9∨op=13 then 2 else -1
def yw(t:Tm):Bool:=decide (t.op=0)&&decide (t.num=0)&&decide (t.name.size=0)&&decide (t.kids.length=0)
def mF(f:Fm):Int:=if f.op=1 then(if f.tm.check=0 then(if hasNext f.tm=true then 24 else 0)else f.tm.check)else 0
def nZ(f:Fm)(d n:Nat):Int:=
 if 64<d then 17 else if bV f.op<0 then 11 else if mF f≠0 then mF f
 else if (f.kids.length:Int)≠bV f.op∨(f.op≠1∧yw f.tm=false)then 3 else if 4096<n+1 then 4 else 0
section
variable {σ:Type} (step:σ→Fm→Nat→σ×Bool)
mutual
def nL:Fm→Nat→σ→σ×Bool
 |.mk o e l,d,x=>match step x (.mk o e l) d with
  |(y,true)=>nM l (d+1) y
  |(y,false)=>(y,false)
def nM:List Fm→Nat→σ→σ×Bool
 |[],_,x=>(x,true)
 |t::r,d,x=>match nL t d x with
  |(y,true)=>nM r d y
  |(y,false)=>(y,false)
end
end
theorem Gx{σ:Type}(step:σ→Fm→Nat→σ×Bool)(t:Fm)(d:Nat)(x:σ):nL step t d x=if (step x t d).2=true then nM step t.kids (d+1) (step x t d).1 else((step x t d).1,false):=by
 cases t with
 |mk o e l=>
  rw[nL]
  cases h:step x (.mk o e l) d with
  |mk y b=>cases b<;>rfl
def dA(x:Int×Nat)(f:Fm)(d:Nat):(Int×Nat)×Bool:=((nZ f d x.2,x.2+1),decide (nZ f d x.2=0))
def Fm.check(f:Fm):Int:=(nL dA f 1 (0,0)).1.1
mutual
def Fm.lI:Fm→Nat→Prop
 |.mk o e l,d=>d≤64∧(∃n,nZ (.mk o e l) d n=0)∧Fm.Gj l (d+1)
def Fm.Gj:List Fm→Nat→Prop
 |[],_=>True
 |t::r,d=>t.lI d∧Fm.Gj r d
end
mutual
theorem IQ:∀(t:Fm) (d:Nat) (x:Int×Nat),((nL dA t d x).2=true→t.lI d∧(nL dA t d x).1=(0,x.2+t.size)∧x.2+t.size≤4096)∧((nL dA t d x).2=false→(nL dA t d x).1.1≠0)
 |.mk o e l,d,x=>by
  rw[Gx,Fm.lI,Fm.size]
  by_cases h0:nZ (.mk o e l) d x.2=0
  ·have hs:dA x (.mk o e l) d=((0,x.2+1),true):=by unfold dA;rw[h0];rfl
   have h1:d≤64∧x.2+1≤4096:=by
    unfold nZ at h0
    by_cases a:64<d
    ·rw[iP a]at h0;cases h0
    rw[iN a]at h0
    by_cases b:bV (Fm.mk o e l).op<0
    ·rw[iP b]at h0;cases h0
    rw[iN b]at h0
    by_cases c:mF (Fm.mk o e l)≠0
    ·rw[iP c]at h0;exact absurd h0 c
    rw[iN c]at h0
    by_cases c2:((Fm.mk o e l).kids.length:Int)≠bV (Fm.mk o e l).op∨((Fm.mk o e l).op≠1∧yw (Fm.mk o e l).tm=false)
    ·rw[iP c2]at h0;cases h0
    rw[iN c2]at h0
    by_cases c3:4096<x.2+1
    ·rw[iP c3]at h0;cases h0
    omega
   have G:=L9 l (d+1) (0,x.2+1) rfl (by simp only;omega);rw[hs];simp only[if_true,Fm.kids];refine⟨fun h=>?_,fun h=>G.2 h⟩;obtain⟨I,D,J⟩:=G.1 h;simp only at D J;exact⟨⟨by omega,⟨_,h0⟩,I⟩,by rw[D,Nat.add_assoc],by omega⟩
  ·have hs:dA x (.mk o e l) d=((nZ (.mk o e l) d x.2,x.2+1),false):=by unfold dA;rw[dF h0]
   rw[hs];exact⟨(fun h=>by cases h),fun _=>h0⟩
theorem L9:∀(l:List Fm) (d:Nat) (x:Int×Nat),x.1=0→x.2≤4096→((nM dA l d x).2=true→Fm.Gj l d∧(nM dA l d x).1=(0,x.2+Fm.aA l)∧x.2+Fm.aA l≤4096)∧((nM dA l d x).2=false→(nM dA l d x).1.1≠0)
 |[],d,x,h0,h1=>by
  rw[nM,Fm.Gj,Fm.aA];refine⟨fun _=>⟨trivial,by rw[←h0];rfl,h1⟩,fun h=>by cases h⟩
 |t::r,d,x,h0,h1=>by
  have G:=IQ t d x;rw[nM,Fm.Gj,Fm.aA]
  cases hw:nL dA t d x with
  |mk y b=>
   rw[hw]at G
   cases b with
   |false=>exact⟨(fun h=>by cases h),fun _=>G.2 rfl⟩
   |true=>
    obtain⟨J,I,O⟩:=G.1 rfl;simp only at I;subst I;have D:=L9 r d (0,x.2+t.size) rfl O;refine⟨fun h=>?_,fun h=>D.2 h⟩;obtain⟨Y,j2,j3⟩:=D.1 h;simp only at j2 j3;exact⟨⟨J,Y⟩,by simp only;rw[j2,Nat.add_assoc],by omega⟩
end
theorem qI{t:Fm}(h:t.check=0):t.lI 1∧t.size≤4096:=by
 have hs:=IQ t 1 (0,0);unfold Fm.check at h
 cases hb:(nL dA t 1 (0,0)).2 with
 |false=>exact absurd h (hs.2 hb)
 |true=>
  obtain⟨h1,_,h3⟩:=hs.1 hb;exact⟨h1,by simpa using h3⟩
theorem Tk:∀{l:List Fm} {d:Nat} {t:Fm},Fm.Gj l d→t∈l→t.lI d
 |x::r,d,t,h,hm=>by
  rw[Fm.Gj]at h
  rcases List.mem_cons.1 hm with rfl|hm
  ·exact h.1
  ·exact Tk h.2 hm
theorem Tn{f:Fm}{d n:Nat}(h0:nZ f d n=0):0≤bV f.op∧(f.kids.length:Int)=bV f.op∧(f.op=1→f.tm.check=0∧hasNext f.tm=false):=by
 unfold nZ at h0
 by_cases a:64<d
 ·rw[iP a]at h0;cases h0
 rw[iN a]at h0
 by_cases b:bV f.op<0
 ·rw[iP b]at h0;cases h0
 rw[iN b]at h0
 by_cases c:mF f≠0
 ·rw[iP c]at h0;exact absurd h0 c
 rw[iN c]at h0
 by_cases c2:(f.kids.length:Int)≠bV f.op∨(f.op≠1∧yw f.tm=false)
 ·rw[iP c2]at h0;cases h0
 refine⟨by omega,by omega,fun h1=>?_⟩;have c':mF f=0:=by omega
 unfold mF at c';rw[iP h1]at c'
 by_cases hc:f.tm.check=0
 ·rw[iP hc]at c';refine⟨hc,?_⟩
  cases hn:hasNext f.tm with
  |false=>rfl
  |true=>rw[hn]at c';cases c'
 ·rw[iN hc]at c';exact absurd c' hc
theorem dY{t:Fm}{d:Nat}(h:t.lI d):d≤64∧(0≤bV t.op∧(t.kids.length:Int)=bV t.op∧(t.op=1→t.tm.check=0∧hasNext t.tm=false))∧∀k∈t.kids,k.lI (d+1):=by
 cases t with
 |mk o e l=>
  rw[Fm.lI]at h;obtain⟨h1,⟨n,h2⟩,h3⟩:=h;exact⟨h1,Tn h2,fun k D=>Tk h3 D⟩
abbrev gK:=Nat→Rs Fm
structure jG where
 form:gK
 unit:gK
def fT(op:Int)(ks:List Fm):Fm:=.mk op dG ks
def vg:Fm:=.mk 0 dG []
section
variable (l:List Tok)
def n_(i:Nat):Int:=
 if ah l i 4 [33]then 2 else if ah l i 3 [69,88]then 6 else if ah l i 3 [69,70]then 7 else if ah l i 3 [69,71]then 8 else if ah l i 3 [65,88]then 10 else if ah l i 3 [65,70]then 11 else if ah l i 3 [65,71]then 12 else 0
def rF(s:Option gK)(i:Nat):Rs Fm:=match s with
 |none=>.bad i 17
 |some p=>p (i+1)
def wK(s:Option gK)(op:Int)(i:Nat):Rs Fm:=match s with
 |none=>.bad i 17
 |some p=>if ah l (i+1) 4 [91]then(p (i+2)).then fun f j=>
  if ah l j 3 [85]then(p (j+1)).then fun g k=>if ah l k 4 [93]then .ok (fT op [f,g]) (k+1)else .bad k 16
  else .bad j 16
  else .bad (i+1) 16
def Bz(i:Nat):Rs Fm:=if (iU l (i+1)).2.2≠0 then .bad (iU l (i+1)).2.1 (iU l (i+1)).2.2 else if ah l (iU l (i+1)).2.1 4 [93]then .ok (.mk 1 (iU l (i+1)).1 []) ((iU l (i+1)).2.1+1)else .bad (iU l (i+1)).2.1 16
def jg(s:Option jG):gK:=fun i=>
 if n_ l i≠0 then(rF (s.map jG.unit) i).then fun f j=>.ok (fT (n_ l i) [f]) j
 else if ah l i 3 [69]then wK l (s.map jG.form) 9 i
 else if ah l i 3 [65]then wK l (s.map jG.form) 13 i
 else if ah l i 4 [40]then(rF (s.map jG.form) i).then fun f j=>if ah l j 4 [41]then .ok f (j+1)else .bad j 16
 else if ah l i 4 [91]then Bz l i
 else .bad i 16
def mH(op:Int)(sign:Bs)(part:gK):Nat→Fm→Nat→Rs Fm
 |0,f,i=>.ok f i
 |k+1,f,i=>if ah l i 4 sign then(part (i+1)).then fun g j=>mH op sign part k (fT op [f,g]) j else .ok f i
def Eo(op:Int)(sign:Bs)(part:gK):gK:=fun i=>(part i).then fun f j=>mH l op sign part l.length f j
def BA(s:Option jG):gK:=Eo l 3 [38] (jg l s)
def IU(s:Option jG):gK:=Eo l 4 [124] (BA l s)
def pK(s:Option jG):gK:=fun i=>(IU l s i).then fun f j=>if ah l j 4 [45,62]then(rF (s.map jG.form) j).then fun g k=>.ok (fT 5 [f,g]) k else .ok f j
def lJ:Nat→jG
 |0=>⟨pK l none,jg l none⟩
 |r+1=>⟨pK l (some (lJ r)),jg l (some (lJ r))⟩
def nN(i:Nat):Fm×Nat×Int:=match (lJ l 256).form i with
 |.bad j e=>(vg,j,e)
 |.ok f j=>if f.check=0 then(f,j,0)else(vg,i,f.check)
end
theorem aI{P:Program}{ops:Array Oper}{Q:Exit→Act→World→Prop}{S:World→Prop}(i:Nat){oi:Oper}{v:Value}{fuel:Nat}{listed:Array Bool}{a:Act}{w:World}(hi:ops.toList[i]?=some oi)(hy:∀w0,S w0→(execOp a.eval oi).run P w0=.ok (.value v) w0)
 (h:wpAnyH P .any ops Q S fuel (listed.setIfInBounds i true) (a.put oi.dst v) w) (hw:Region.wanted oi (yielded ops a.tmps)=true:=by rfl) (hS:S w:=by assumption) (hs:Region.noSelect ops=true:=by kernel_rfl) (hf:Region.free .any ops listed i=true:=by kernel_rfl) (hr:(Region.ready .any ops listed).contains i=true:=by decide +kernel)
 (hQ:∀c a w,Q (.panic c) (a.put oi.dst v) w→Q (.panic c) a w:=by exact fun _ _ _ h=>h):wpAnyH P .any ops Q S (fuel+1) listed a w:=wpAnyH_take (by simpa using hi) hs hf hr hQ (.inl ⟨hw,hy⟩) hS h
theorem tL_{o:Array Oper}{i:Nat}{x:Oper}(h:o.toList[i]?=some x):o[i]?=some x:=by simpa using h
theorem rcA{P:Program}{fn:Func}{p:Tmp}{tmps:Array Value}{W:World}{b:Nat}{cs:Array Value}{T:TypeId}{d:TypeDesc}(D:P.underlying T=some d)(h:W.heap[b]?=some (.cells cs T (0,0)))(hr:fn.results=#[.cell p T]:=by rfl)(hp:tmps.getD p undef=.pointer (some ⟨b,0,none⟩):=by rfl)(hd:(match d with|.struct _|.array _ _=>true|_=>false)=true:=by rfl)(hi:(P.info? T).map (·.size)=some cs.size:=by kernel_rfl):(results fn tmps).run P W=.ok (.agg cs) W:=results_cell_row hr tmps W b T cs (0,0) _ hp h D hd hi
theorem setAt{W:World}{b o:Nat}(v:Value):Only (fun q=>q=b) W (W.setCell ⟨b,o,none⟩ v):=(Only.refl (F:=fun q=>q=b)).bq (show b=b from rfl) _
theorem Ck{l:List Tok}{i:Nat}{k:Int}{s:Bs}(h:ah l i k s=true):i<l.length:=by
 unfold ah at h
 cases ht:l[i]? with
 |none=>rw[ht]at h;cases h
 |some t=>exact(gE.1 ht).1
theorem Tj{P:Program}{ops:Array Oper}{a:Act}{W:World}{K:Act→World→Prop}{Q:Exit→Act→World→Prop}{d:Option Tmp}{ty:TypeId}{ps:String}{D:Array Edge}{gd:Option (Nat×Bool)}{E:Prop}{t:TypeId}{x:Operand}(h:if Region.wanted (Oper.mk d (.load t x) ty ps D gd) (yielded ops a.tmps)=true then Oper.wp P (Oper.mk d (.load t x) ty ps D gd) a W K Q else E):if Region.wanted (Oper.mk d (.load t x) ty ps D gd) (yielded ops a.tmps)=true then Oper.wp P (Oper.mk d (.load t x) ty ps D gd) a W K Q else E:=h
theorem WE{P:Program}{ops:Array Oper}{a:Act}{W:World}{K:Act→World→Prop}{Q:Exit→Act→World→Prop}{d:Option Tmp}{ty:TypeId}{ps:String}{D:Array Edge}{gd:Option (Nat×Bool)}{E:Prop}{f:Operand}{G:Array Operand}{at_:Array TypeId}(h:if Region.wanted (Oper.mk d (.call {callee:=.value f,args:=G,argTypes:=at_}) ty ps D gd) (yielded ops a.tmps)=true then Oper.wp P (Oper.mk d (.call {callee:=.value f,args:=G,argTypes:=at_}) ty ps D gd) a W K Q else E):if Region.wanted (Oper.mk d (.call {callee:=.value f,args:=G,argTypes:=at_}) ty ps D gd) (yielded ops a.tmps)=true then Oper.wp P (Oper.mk d (.call {callee:=.value f,args:=G,argTypes:=at_}) ty ps D gd) a W K Q else E:=h
theorem QI{P:Program}{ops:Array Oper}{a:Act}{W:World}{K:Act→World→Prop}{Q:Exit→Act→World→Prop}{d:Option Tmp}{ty:TypeId}{ps:String}{D:Array Edge}{gd:Option (Nat×Bool)}{E:Prop}{t:TypeId}{n:Nat}{q:Array (Nat×Operand)}(h:if Region.wanted (Oper.mk d (.buildSlice t n q) ty ps D gd) (yielded ops a.tmps)=true then Oper.wp P (Oper.mk d (.buildSlice t n q) ty ps D gd) a W K Q else E):if Region.wanted (Oper.mk d (.buildSlice t n q) ty ps D gd) (yielded ops a.tmps)=true then Oper.wp P (Oper.mk d (.buildSlice t n q) ty ps D gd) a W K Q else E:=h
theorem Gw{P:Program}{ops:Array Oper}{a:Act}{W:World}{K:Act→World→Prop}{Q:Exit→Act→World→Prop}{d:Option Tmp}{ty:TypeId}{ps:String}{D:Array Edge}{gd:Option (Nat×Bool)}{E:Prop}{t:TypeId}{x y:Operand}(h:if Region.wanted (Oper.mk d (.store t x y) ty ps D gd) (yielded ops a.tmps)=true then Oper.wp P (Oper.mk d (.store t x y) ty ps D gd) a W K Q else E):if Region.wanted (Oper.mk d (.store t x y) ty ps D gd) (yielded ops a.tmps)=true then Oper.wp P (Oper.mk d (.store t x y) ty ps D gd) a W K Q else E:=h
end Go.Proofs.YtkhoeoilamddaaaGreatDoor
