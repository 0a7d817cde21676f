/- Walks and plain words: MtL MtM MtN MdX MtO. -/
import Derived.Test.YtkhoeoilamddaaaGreatDoorYMtHb
import Derived.Test.YtkhoeoilamddaaaGreatDoorYMtHc
import Derived.Test.YtkhoeoilamddaaaGreatDoorYMtHd
import Derived.Test.YtkhoeoilamddaaaGreatDoorYMtJ
import Derived.Deep.LoopGhost
namespace Go.Proofs.YtkhoeoilamddaaaGreatDoor
open Go.RowKit
set_option linter.unusedVariables false
set_option maxRecDepth 100000
set_option maxHeartbeats 16000000
theorem aeb{w:World}{R:Nat}{A:Option Addr}{c i:Nat}{l:List Tok}(hP:iI w R A c l)(hi:i<l.length):∃(t:Tok)(b off:Nat),l[i]?=some t∧A=some ⟨b,off,none⟩∧b≠R∧b<w.heap.size∧w.cell? ⟨b,off+i*4,none⟩=some (.int .i64 t.kind)∧w.cell? ⟨b,off+i*4+2,none⟩=some (.string ⟨t.text.toArray⟩):=by
 obtain⟨t,ht⟩:∃t,l[i]?=some t:=⟨_,gG hi⟩
 rcases hP.toks with h0|⟨b,off,rfl,hb,hc⟩
 ·rw[h0]at hi;simp at hi
 have x0:=hc i t ht 0 (by omega);have x2:=hc i t ht 2 (by omega);simp only[fZ,Nat.add_zero]at x0 x2;exact⟨t,b,off,ht,rfl,hP.apart _ rfl,hb,x0,x2⟩
theorem YP(R:Nat)(A:Option Addr)(c i B:Nat)(l:List Tok)(V:Nat→Value)(X:Nat→List (List Value))(G:Nat→List El)(w:World)(hi:i<l.length)(hw:∀k,k<8→ah l i 3 (ji k)=false)(hR:kF w R A l.length c i 0 V)(hP:iI w R A c l)(hM:BJ w B R V X G)(jU:B≤R)(hA:∀a,A=some a→a.block<B) :
 Calls Tryz.prog 15 #[.pointer (some ⟨R,0,none⟩)] w (qg R A c l B w (i,16) G):=by
 obtain⟨F,HF⟩:=ak (qg R A c l B w (i,16) G);rw[←HF];have hlen:=hP.len;have hcap:=hP.cap;have aQ:=hP.bU;unfold maxLen at aQ;have HP:=Hd hP;have HA:=Hd hA;obtain⟨t,b,off,ht,rfl,hbR,hbw,x0,x2⟩:=aeb hP hi
 have hwk:t.kind=3→∀k,k<8→t.text≠ji k:=fun hk k h8 he=>by
  have h:=hw k h8;unfold ah at h;rw[ht]at h;simp[hk,he]at h
 have HM:=Hd hM;have c0:=hR.c0;have c1:=hR.c1;have fC:=hR.lt;have hBw:B≤w.heap.size:=by omega
 have vN:Hid (∀m,Calls Tryz.prog 45 #[.pointer (some ⟨R,0,none⟩),.int .i64 16] (w.drewN m) fun e w'=>e=.returned (.tuple #[])∧Ct R (some ⟨b,off,none⟩) l.length c V i 16 (w.drewN m) w'):=fun m=>by
  have h:=qK R (some ⟨b,off,none⟩) l.length c i 0 16 V (w.drewN m) (hR.drewN m);rw[iP rfl]at h;exact h
 obtain⟨n,HN⟩:=ak l.length;rw[←HN]at c0 hcap hi hlen;have hk0:(0:Int)≤(i:Int):=by omega
 have hk1:(i:Int)<(n:Int):=by omega
 clear hR hP hM hw ht hA
 by_cases hk:t.kind=3
 ·rw[hk]at x0;have hw:=hwk hk;obtain⟨T,hT⟩:∃T:ByteArray,T=⟨t.text.toArray⟩:=⟨_,rfl⟩;have hne:∀s:Bs,t.text≠s→(T.toList==s)=false:=fun s hs=>by rw[hT,ByteArray.toList_eq];simpa using hs
  have n0:=hne [118,97,114] (hw 0 (by omega));have n1:=hne [100,101,102] (hw 1 (by omega));have n2:=hne [105,110,105,116] (hw 2 (by omega));have n3:=hne [105,110,118,97,114] (hw 3 (by omega));have n4:=hne [110,101,120,116] (hw 4 (by omega));have n5:=hne [116,114,97,110,115] (hw 5 (by omega));have n6:=hne [102,97,105,114] (hw 6 (by omega));have n7:=hne [115,112,101,99] (hw 7 (by omega));rw[←hT]at x2;clear hk hw hwk hne hT
  go_enter_defers Tryz.func15,Tryz.ntmps15
  go_wp2_with fail
  go_quiet (fail)
  go_wp2_with fail
  go_quiet (fail)
  go_wp2_with fail;refine(vN _).mono ?_;rintro e w1 ⟨rfl,hg⟩;have hs1:=hg.2.2;have fA:Hid (DS w B R (some ⟨b,off,none⟩) l.length c V X G i 16 (fun _=>True) (EW B R V) w1):=⟨hg.1,HM.move (fun q _ hl hR=>hg.2.1.block q hl hR) (Nat.le_of_eq hs1.symm),b_ (w:=w) ⟨hg.2.1.os,hg.2.1.tape,hg.2.1.output,Nat.le_of_eq hs1.symm,hg.2.1.block⟩ jU hBw,jU,by rw[hs1];exact hBw⟩;have hm:bO l 4 [59] i 16=(i,16):=rfl;rw[←hm]at HF;clear hg hs1 hm;go_wp2_with fail;exact gI HF fA.bN fA.own fA.mW (HP.below fA.mW HA) jU fA.big (fun _=>by omega) _ (by first|exact Or.inl rfl|exact Or.inr rfl)
 ·have hkb:(t.kind==3)=false:=by simpa using hk
  clear hk hwk
  go_enter_defers Tryz.func15,Tryz.ntmps15
  go_wp2_with fail
  go_quiet (fail)
  go_wp2_with fail;refine(vN _).mono ?_;rintro e w1 ⟨rfl,hg⟩;have hs1:=hg.2.2;have fA:Hid (DS w B R (some ⟨b,off,none⟩) l.length c V X G i 16 (fun _=>True) (EW B R V) w1):=⟨hg.1,HM.move (fun q _ hl hR=>hg.2.1.block q hl hR) (Nat.le_of_eq hs1.symm),b_ (w:=w) ⟨hg.2.1.os,hg.2.1.tape,hg.2.1.output,Nat.le_of_eq hs1.symm,hg.2.1.block⟩ jU hBw,jU,by rw[hs1];exact hBw⟩;have hm:bO l 4 [59] i 16=(i,16):=rfl;rw[←hm]at HF;clear hg hs1 hm;go_wp2_with fail;exact gI HF fA.bN fA.own fA.mW (HP.below fA.mW HA) jU fA.big (fun _=>by omega) _ (by first|exact Or.inl rfl|exact Or.inr rfl)
def YQ{α β:Type}(r:Rs α)(s:β×Nat×Int)(f:β→α):Prop:=match r with
 |.ok x j=>f s.1=x∧s.2=(j,0)
 |.bad j e=>s.2=(j,e)∧e≠0
def akE(r:Rs Unit)(s:Nat×Int):Prop:=match r with
 |.ok _ j=>s=(j,0)
 |.bad j e=>s=(j,e)∧e≠0
theorem n00:¬((0:Int)≠0):=fun h=>h rfl
section
variable {l:List Tok} {i:Nat} {x:Int}
theorem DY{k:Int}{s:Bs}(h:x≠0):bO l k s i x=(i,x):=by unfold bO;rw[iP h]
theorem KX(h:x≠0):(I8 l i x).2=(i,x):=by unfold I8;rw[iP h]
theorem ab4(h:x≠0):(dK l i x).2=(i,x):=by unfold dK;rw[iP h]
theorem ab5(h:x≠0):(ow l i x).2=(i,x):=by unfold ow;rw[iP h]
theorem MW(k:Int)(s:Bs):akE (qJ l i k s) (bO l k s i 0):=by
 unfold qJ bO;rw[iN n00];cases ah l i k s
 ·exact⟨rfl,by decide⟩
 ·exact rfl
theorem aec:YQ (nameP l i) (bX l i 0) id:=by
 unfold nameP bX;rw[iN n00];cases jd l i 2
 ·exact⟨rfl,by decide⟩
 ·exact⟨rfl,rfl⟩
theorem aed:YQ (GK l i) (I8 l i 0) id:=by
 unfold GK I8 BD;rw[iN n00];cases ah l i 4 [45]
 ·simp only[Bool.false_eq_true,if_false];cases jd l i 1
  ·exact⟨rfl,by decide⟩
  ·exact⟨rfl,rfl⟩
 ·simp only[if_true];cases jd l (i+1) 1
  ·exact⟨rfl,by decide⟩
  ·exact⟨rfl,rfl⟩
theorem MX:YQ (OE l i) (dK l i 0) id:=by
 unfold OE dK;rw[iN n00]
 by_cases h:(iU l i).2.2≠0
 ·rw[iP h];exact⟨rfl,h⟩
 ·rw[iN h];have h0:(iU l i).2.2=0:=Decidable.not_not.1 h;exact⟨rfl,by rw[←h0]⟩
theorem ahS:YQ (fmP l i) (ow l i 0) id:=by
 unfold fmP ow;rw[iN n00]
 by_cases h:(nN l i).2.2≠0
 ·rw[iP h];exact⟨rfl,h⟩
 ·rw[iN h];have h0:(nN l i).2.2=0:=Decidable.not_not.1 h;exact⟨rfl,by rw[←h0]⟩
theorem Jh(s:Bs):match sV l s i with
 |.ok n j=>(bX l i 0).1=n∧bO l 4 s (bX l i 0).2.1 (bX l i 0).2.2=(j,0)
 |.bad j e=>bO l 4 s (bX l i 0).2.1 (bX l i 0).2.2=(j,e)∧e≠0:=by
 have h:=aec (l:=l) (i:=i);unfold sV
 cases hn:nameP l i with
 |bad j e=>
  rw[hn]at h;obtain⟨h1,h2⟩:=h;show bO l 4 s (bX l i 0).2.1 (bX l i 0).2.2=(j,e)∧e≠0;rw[h1];exact⟨DY h2,h2⟩
 |ok n j=>
  rw[hn]at h;obtain⟨h1,h2⟩:=h;have hm:=MW (l:=l) (i:=j) 4 s
  show match (qJ l j 4 s).then fun _ k=>.ok n k with
   |.ok n j=>(bX l i 0).1=n∧bO l 4 s (bX l i 0).2.1 (bX l i 0).2.2=(j,0)
   |.bad j e=>bO l 4 s (bX l i 0).2.1 (bX l i 0).2.2=(j,e)∧e≠0
  rw[h2]
  cases hp:qJ l j 4 s with
  |bad k e=>rw[hp]at hm;exact hm
  |ok u k=>rw[hp]at hm;exact⟨h1,hm⟩
def akF(v:ByteArray×Bool×Int×Int):Vr:=⟨v.1,v.2.1,v.2.2.1,v.2.2.2⟩
theorem agj:YQ (OD l i) (nJ l i 0) akF:=by
 have h:=Jh (l:=l) (i:=i) [58];unfold OD nJ
 dsimp only
 cases hn:sV l [58] i with
 |bad j e=>
  rw[hn]at h;obtain⟨h1,h2⟩:=h;show(_:(ByteArray×Bool×Int×Int)×Nat×Int).2=(j,e)∧e≠0;rw[h1];rw[iN (fun k=>h2 k.1)];refine⟨?_,h2⟩;show((I8 l _ _).2.1,(I8 l _ _).2.2)=_;rw[KX (l:=l) (i:=j) h2];rw[DY h2,KX h2]
 |ok s j=>
  rw[hn]at h;obtain⟨h1,h2⟩:=h;rw[h2];show YQ (if ah l j 3 vP then _ else _) _ _
  by_cases hb:ah l j 3 vP=true
  ·rw[iP hb,iP ⟨rfl,hb⟩];exact⟨by rw[←h1];rfl,rfl⟩
  ·rw[iN hb,iN (fun k=>hb k.2)];have ha:=aed (l:=l) (i:=j)
   cases hp:GK l j with
   |bad k e=>
    rw[hp]at ha;obtain⟨a1,a2⟩:=ha;refine⟨?_,a2⟩;show((I8 l _ _).2.1,(I8 l _ _).2.2)=_;rw[a1,DY a2,KX a2]
   |ok a k=>
    rw[hp]at ha;obtain⟨a1,a2⟩:=ha;have hm:=MW (l:=l) (i:=k) 4 [46,46];rw[a2];show YQ ((qJ l k 4 [46,46]).then _) _ _
    cases hq:qJ l k 4 [46,46]with
    |bad m e=>
     rw[hq]at hm;obtain⟨m1,m2⟩:=hm;refine⟨?_,m2⟩;show((I8 l _ _).2.1,(I8 l _ _).2.2)=_;rw[m1,KX m2]
    |ok u m=>
     rw[hq]at hm;have hc:=aed (l:=l) (i:=m);rw[show bO l 4 [46,46] k 0=(m,0)from hm];show YQ ((GK l m).then _) _ _
     cases hr:GK l m with
     |bad p e=>
      rw[hr]at hc;exact⟨hc.1,hc.2⟩
     |ok z p=>
      rw[hr]at hc;refine⟨?_,hc.2⟩;show(⟨(bX l i 0).1,false,(I8 l j 0).1,(I8 l m 0).1⟩:Vr)=⟨s,false,a,z⟩;rw[h1,show(I8 l j 0).1=a from a1,show(I8 l m 0).1=z from hc.1]
theorem aa0:YQ (Mi l i) (lq l i 0) (fun v=>(⟨v.1,v.2⟩:Df)):=by
 have h:=Jh (l:=l) (i:=i) [58,61];unfold Mi lq
 cases hn:sV l [58,61] i with
 |bad j e=>
  rw[hn]at h;obtain⟨h1,h2⟩:=h;rw[h1];exact⟨ab4 h2,h2⟩
 |ok s j=>
  rw[hn]at h;obtain⟨h1,h2⟩:=h;rw[h2];have ht:=MX (l:=l) (i:=j);show YQ ((OE l j).then _) _ _
  cases hp:OE l j with
  |bad k e=>rw[hp]at ht;exact ht
  |ok t k=>rw[hp]at ht;exact⟨by rw[h1];exact congrArg (Df.mk s) ht.1,ht.2⟩
theorem aee:YQ (GL l i) (((bX l i 0).1,(ow l (bO l 4 [58] (bX l i 0).2.1 (bX l i 0).2.2).1 (bO l 4 [58] (bX l i 0).2.1 (bX l i 0).2.2).2).1),(ow l (bO l 4 [58] (bX l i 0).2.1 (bX l i 0).2.2).1 (bO l 4 [58] (bX l i 0).2.1 (bX l i 0).2.2).2).2) (fun v=>(⟨v.1,v.2⟩:Sp)):=by
 have h:=Jh (l:=l) (i:=i) [58];unfold GL
 cases hn:sV l [58] i with
 |bad j e=>
  rw[hn]at h;obtain⟨h1,h2⟩:=h;rw[h1];exact⟨ab5 h2,h2⟩
 |ok s j=>
  rw[hn]at h;obtain⟨h1,h2⟩:=h;rw[h2];have ht:=ahS (l:=l) (i:=j);show YQ ((fmP l j).then _) _ _
  cases hp:fmP l j with
  |bad k e=>rw[hp]at ht;exact ht
  |ok t k=>rw[hp]at ht;exact⟨by rw[h1];exact congrArg (Sp.mk s) ht.1,ht.2⟩
theorem PK{s s':Bs}(h:ah l i 3 s=true)(hne:s≠s'):ah l i 3 s'=false:=by
 unfold ah at h⊢
 cases ht:l[i]? with
 |none=>rfl
 |some t=>
  rw[ht]at h;simp only[Bool.and_eq_true,decide_eq_true_iff]at h;simp[h.2,hne]
def ahT(m:Md):Nat→Nat
 |0=>m.vars.length
 |1=>m.defs.length
 |2=>m.init.length
 |3=>m.bF.length
 |4=>m.next.length
 |5=>m.trans.length
 |6=>m.fair.length
 |_=>m.specs.length
theorem qQ{α:Type}{n:Nat}{p:Nat→Rs α}{f:α→El}{m:Md}{g:α→Md}(hg:∀x,(f x).put m=g x):((nP n p i).then fun x j=>(.ok (g x) j:Rs Md))=if 64≤n then .bad i 18 else((p (i+1)).map f).then fun e j=>.ok (e.put m) j:=by
 unfold nP Rs.map
 by_cases hn:64≤n
 ·rw[iP hn,iP hn];rfl
 ·rw[iN hn,iN hn]
  cases p (i+1)with
  |bad j e=>rfl
  |ok x j=>show Rs.ok (g x) j=Rs.ok ((f x).put m) j;rw[hg]
theorem agk{k:Nat}(hk:k<8)(hw:ah l i 3 (ji k)=true)(m:Md):rH l m i=if 64≤ahT m k then .bad i 18 else(elP l i).then fun e j=>.ok (e.put m) j:=by
 have hf:∀s,ji k≠s→ah l i 3 s=false:=fun s hs=>PK hw hs;unfold rH elP
 rcases lt8 hk with rfl|rfl|rfl|rfl|rfl|rfl|rfl|rfl
 ·rw[iP (show ah l i 3 kV=true from hw),iP (show ah l i 3 kV=true from hw)];exact qQ fun _=>rfl
 ·rw[hf kV (by decide)];simp only[Bool.false_eq_true,if_false];rw[iP (show ah l i 3 kW=true from hw),iP (show ah l i 3 kW=true from hw)];exact qQ fun _=>rfl
 ·rw[hf kV (by decide),hf kW (by decide)];simp only[Bool.false_eq_true,if_false];rw[iP (show ah l i 3 iA=true from hw),iP (show ah l i 3 iA=true from hw)];exact qQ fun _=>rfl
 ·rw[hf kV (by decide),hf kW (by decide),hf iA (by decide)];simp only[Bool.false_eq_true,if_false];rw[iP (show ah l i 3 eZ=true from hw),iP (show ah l i 3 eZ=true from hw)];exact qQ fun _=>rfl
 ·rw[hf kV (by decide),hf kW (by decide),hf iA (by decide),hf eZ (by decide)];simp only[Bool.false_eq_true,if_false];rw[iP (show ah l i 3 fE=true from hw),iP (show ah l i 3 fE=true from hw)];exact qQ fun _=>rfl
 ·rw[hf kV (by decide),hf kW (by decide),hf iA (by decide),hf eZ (by decide),hf fE (by decide)];simp only[Bool.false_eq_true,if_false];rw[iP (show ah l i 3 fP=true from hw),iP (show ah l i 3 fP=true from hw)];exact qQ fun _=>rfl
 ·rw[hf kV (by decide),hf kW (by decide),hf iA (by decide),hf eZ (by decide),hf fE (by decide),hf fP (by decide)];simp only[Bool.false_eq_true,if_false];rw[iP (show ah l i 3 jL=true from hw),iP (show ah l i 3 jL=true from hw)];exact qQ fun _=>rfl
 ·rw[hf kV (by decide),hf kW (by decide),hf iA (by decide),hf eZ (by decide),hf fE (by decide),hf fP (by decide),hf jL (by decide)];simp only[Bool.false_eq_true,if_false];rw[iP (show ah l i 3 pI=true from hw),iP (show ah l i 3 pI=true from hw)];exact qQ fun _=>rfl
theorem yH{α β:Type}{r:Rs α}{s:β×Nat×Int}{f:β→α}(h:YQ r s f)(g:α→El){e:El×Nat×Int}(he:e=(g (f s.1),s.2)):YQ (r.map g) e id:=by
 subst he
 cases r with
 |bad j x=>exact h
 |ok x j=>exact⟨by show g (f s.1)=g x;rw[h.1],h.2⟩
theorem ahU{k:Nat}(hk:k<8)(hw:ah l i 3 (ji k)=true):YQ (elP l i) (kC l k (i+1)) id:=by
 have hf:∀s,ji k≠s→ah l i 3 s=false:=fun s hs=>PK hw hs;unfold elP
 rcases lt8 hk with rfl|rfl|rfl|rfl|rfl|rfl|rfl|rfl
 ·rw[iP (show ah l i 3 kV=true from hw)];exact yH agj _ rfl
 ·rw[hf kV (by decide)];simp only[Bool.false_eq_true,if_false];rw[iP (show ah l i 3 kW=true from hw)];exact yH aa0 _ rfl
 ·rw[hf kV (by decide),hf kW (by decide)];simp only[Bool.false_eq_true,if_false];rw[iP (show ah l i 3 iA=true from hw)];exact yH MX _ rfl
 ·rw[hf kV (by decide),hf kW (by decide),hf iA (by decide)];simp only[Bool.false_eq_true,if_false];rw[iP (show ah l i 3 eZ=true from hw)];exact yH MX _ rfl
 ·rw[hf kV (by decide),hf kW (by decide),hf iA (by decide),hf eZ (by decide)];simp only[Bool.false_eq_true,if_false];rw[iP (show ah l i 3 fE=true from hw)];exact yH aa0 _ rfl
 ·rw[hf kV (by decide),hf kW (by decide),hf iA (by decide),hf eZ (by decide),hf fE (by decide)];simp only[Bool.false_eq_true,if_false];rw[iP (show ah l i 3 fP=true from hw)];exact yH MX _ rfl
 ·rw[hf kV (by decide),hf kW (by decide),hf iA (by decide),hf eZ (by decide),hf fE (by decide),hf fP (by decide)];simp only[Bool.false_eq_true,if_false];rw[iP (show ah l i 3 jL=true from hw)];exact yH MX _ rfl
 ·rw[hf kV (by decide),hf kW (by decide),hf iA (by decide),hf eZ (by decide),hf fE (by decide),hf fP (by decide),hf jL (by decide)];simp only[Bool.false_eq_true,if_false];rw[iP (show ah l i 3 pI=true from hw)];exact yH aee _ rfl
def V8(G:Nat→List El)(m:Md):Prop:=G 0=m.vars.map .var∧G 1=m.defs.map .defs∧G 2=m.init.map .init∧G 3=m.bF.map .bF∧G 4=m.next.map .next∧G 5=m.trans.map .trans∧G 6=m.fair.map .fair∧G 7=m.specs.map .spec
theorem V8.cnt{G:Nat→List El}{m:Md}(h:V8 G m){k:Nat}(hk:k<8):(G k).length=ahT m k:=by
 obtain⟨h0,h1,h2,h3,h4,h5,h6,h7⟩:=h
 rcases lt8 hk with rfl|rfl|rfl|rfl|rfl|rfl|rfl|rfl<;>simp[ahT, *]
theorem V8.put{G:Nat→List El}{m:Md}(h:V8 G m){k:Nat}(hk:k<8):V8 (upd G k (G k++[(kC l k (i+1)).1])) ((kC l k (i+1)).1.put m):=by
 obtain⟨h0,h1,h2,h3,h4,h5,h6,h7⟩:=h
 rcases lt8 hk with rfl|rfl|rfl|rfl|rfl|rfl|rfl|rfl<;>simp[V8,upd,kC,El.put, *]
theorem aef{G:Nat→List El}{m:Md}{k:Nat}(hk:k<8)(hw:ah l i 3 (ji k)=true)(h:V8 G m):match m_ l m i with
 |.ok m' j=>(if (G k).length<64 then bO l 4 [59] (kC l k (i+1)).2.1 (kC l k (i+1)).2.2 else(i,18))=(j,0)∧V8 (if (G k).length<64 then upd G k (G k++[(kC l k (i+1)).1])else G) m'
 |.bad j e=>(if (G k).length<64 then bO l 4 [59] (kC l k (i+1)).2.1 (kC l k (i+1)).2.2 else(i,18))=(j,e)∧e≠0:=by
 unfold m_;rw[agk hk hw m,←h.cnt hk]
 by_cases h64:64≤(G k).length
 ·rw[iP h64,iN (by omega),iN (by omega)];exact⟨rfl,by decide⟩
 ·rw[iN h64,iP (by omega),iP (by omega)];have hs:=ahU hk hw;have hp:=h.put (l:=l) (i:=i) hk
  cases he:elP l i with
  |bad j e=>
   rw[he]at hs;obtain⟨h1,h2⟩:=hs;show bO l 4 [59] (kC l k (i+1)).2.1 (kC l k (i+1)).2.2=(j,e)∧e≠0;rw[h1];exact⟨DY h2,h2⟩
  |ok e j=>
   rw[he]at hs;obtain⟨h1,h2⟩:=hs;rw[h2];have hm:=MW (l:=l) (i:=j) 4 [59];rw[show(kC l k (i+1)).1=e from h1]at hp⊢
   show match (qJ l j 4 [59]).then fun _ k=>(.ok (e.put m) k:Rs Md)with
    |.ok m' q=>bO l 4 [59] j 0=(q,0)∧V8 (upd G k (G k++[e])) m'
    |.bad q x=>bO l 4 [59] j 0=(q,x)∧x≠0
   cases hq:qJ l j 4 [59]with
   |bad q x=>rw[hq]at hm;exact hm
   |ok u q=>rw[hq]at hm;exact⟨hm,hp⟩
theorem ab6{m:Md}(hw:∀k,k<8→ah l i 3 (ji k)=false):m_ l m i=.bad i 16:=by
 unfold m_ rH;rw[show ah l i 3 kV=false from hw 0 (by omega),show ah l i 3 kW=false from hw 1 (by omega),show ah l i 3 iA=false from hw 2 (by omega),show ah l i 3 eZ=false from hw 3 (by omega),show ah l i 3 fE=false from hw 4 (by omega),show ah l i 3 fP=false from hw 5 (by omega),show ah l i 3 jL=false from hw 6 (by omega),show ah l i 3 pI=false from hw 7 (by omega)]
 rfl
end
def akG(R:Nat)(A:Option Addr)(c:Nat)(l:List Tok)(B:Nat)(w:World)(r:Rs Md)(e:Ending)(w':World):Prop:=
 e=.returned (.tuple #[])∧∃V' X' G',(match r with
  |.ok m j=>kF w' R A l.length c j 0 V'∧V8 G' m
  |.bad j x=>kF w' R A l.length c j x V'∧x≠0)∧BJ w' B R V' X' G'∧Below B w w'∧∀k,k<8→(G' k).length≤64
theorem ab7(R:Nat)(A:Option Addr)(c i B:Nat)(l:List Tok)(V:Nat→Value)(X:Nat→List (List Value))(G:Nat→List El)(m:Md)(w:World)(hi:i<l.length)(hR:kF w R A l.length c i 0 V)(hP:iI w R A c l)(hM:BJ w B R V X G)(hGm:V8 G m)(jU:B≤R)(hA:∀a,A=some a→a.block<B)(h64:∀k,k<8→(G k).length≤64) :
 Calls Tryz.prog 15 #[.pointer (some ⟨R,0,none⟩)] w (akG R A c l B w (m_ l m i)):=by
 by_cases h:∃k,k<8∧ah l i 3 (ji k)=true
 ·obtain⟨k,hk,hw⟩:=h;have hG:=h64 k hk
  have hd:Calls Tryz.prog 15 #[.pointer (some ⟨R,0,none⟩)] w (qg R A c l B w (if (G k).length<64 then bO l 4 [59] (kC l k (i+1)).2.1 (kC l k (i+1)).2.2 else(i,18)) (if (G k).length<64 then upd G k (G k++[(kC l k (i+1)).1])else G)):=by
   rcases lt8 hk with rfl|rfl|rfl|rfl|rfl|rfl|rfl|rfl
   ·exact YJ R A c i B l V X G w hw hR hP hM jU hA hG
   ·exact YK R A c i B l V X G w hw hR hP hM jU hA hG
   ·exact Yv R A c i B l V X G w hw hR hP hM jU hA hG
   ·exact YE R A c i B l V X G w hw hR hP hM jU hA hG
   ·exact YL R A c i B l V X G w hw hR hP hM jU hA hG
   ·exact YG R A c i B l V X G w hw hR hP hM jU hA hG
   ·exact YH R A c i B l V X G w hw hR hP hM jU hA hG
   ·exact YN R A c i B l V X G w hw hR hP hM jU hA hG
  have hr:=aef hk hw hGm;refine hd.mono ?_;rintro e w' ⟨rfl,V',X',h1,h2,h3⟩;refine⟨rfl,V',X',_,?_,h2,h3,fun j hj=>?_⟩
  ·cases hp:m_ l m i with
   |bad j x=>
    rw[hp]at hr;obtain⟨r1,r2⟩:=hr;rw[r1]at h1;exact⟨h1,r2⟩
   |ok m' j=>
    rw[hp]at hr;obtain⟨r1,r2⟩:=hr;rw[r1]at h1;exact⟨h1,r2⟩
  ·split
   ·unfold upd
    split
    ·rename_i hjk
     rw[List.length_append,List.length_singleton];omega
    ·exact h64 j hj
   ·exact h64 j hj
 ·have hw:∀k,k<8→ah l i 3 (ji k)=false:=fun k hk=>by
   cases he:ah l i 3 (ji k)
   ·rfl
   ·exact absurd ⟨k,hk,he⟩ h
  rw[ab6 hw];refine(YP R A c i B l V X G w hi hw hR hP hM jU hA).mono ?_;rintro e w' ⟨rfl,V',X',h1,h2,h3⟩;exact⟨rfl,V',X',G,⟨h1,by decide⟩,h2,h3,h64⟩
theorem kR{α β:Type}{r:Rs α}{f:α→Nat→Rs β}{y:β}{j:Nat}(h:r.then f=.ok y j):∃x k,r=.ok x k∧f x k=.ok y j:=by
 cases r with
 |bad i e=>cases h
 |ok x k=>exact⟨x,k,rfl,h⟩
theorem lN{α:Type}{x y:α}{i j:Nat}(h:(Rs.ok x i:Rs α)=.ok y j):x=y∧i=j:=by cases h;exact⟨rfl,rfl⟩
theorem yI{α:Type}{n i j:Nat}{p:Nat→Rs α}{f:α→El}{g:α→Md}{m':Md}(h:((nP n p i).then fun x j=>(.ok (g x) j:Rs Md))=.ok m' j):∃e,(p (i+1)).map f=.ok e j:=by
 obtain⟨x,k,h1,h2⟩:=kR h;obtain⟨rfl,rfl⟩:=lN h2;unfold nP at h1
 by_cases hn:64≤n
 ·rw[iP hn]at h1;cases h1
 ·rw[iN hn]at h1;exact⟨f x,by rw[h1];rfl⟩
theorem agl{l:List Tok}{m m':Md}{i j:Nat}(h:rH l m i=.ok m' j):∃e,elP l i=.ok e j:=by
 unfold rH at h;unfold elP
 by_cases c1:ah l i 3 kV=true
 ·rw[iP c1]at h⊢;exact yI h
 rw[iN c1]at h⊢
 by_cases c2:ah l i 3 kW=true
 ·rw[iP c2]at h⊢;exact yI h
 rw[iN c2]at h⊢
 by_cases c3:ah l i 3 iA=true
 ·rw[iP c3]at h⊢;exact yI h
 rw[iN c3]at h⊢
 by_cases c4:ah l i 3 eZ=true
 ·rw[iP c4]at h⊢;exact yI h
 rw[iN c4]at h⊢
 by_cases c5:ah l i 3 fE=true
 ·rw[iP c5]at h⊢;exact yI h
 rw[iN c5]at h⊢
 by_cases c6:ah l i 3 fP=true
 ·rw[iP c6]at h⊢;exact yI h
 rw[iN c6]at h⊢
 by_cases c7:ah l i 3 jL=true
 ·rw[iP c7]at h⊢;exact yI h
 rw[iN c7]at h⊢
 by_cases c8:ah l i 3 pI=true
 ·rw[iP c8]at h⊢;exact yI h
 rw[iN c8]at h;cases h
theorem aa1{l:List Tok}{i j:Nat}{k:Int}{s:Bs}{u:Unit}(h:qJ l i k s=.ok u j):j=i+1:=by
 unfold qJ at h
 split at h
 ·exact(lN h).2.symm
 ·cases h
theorem MZ{l:List Tok}{i j:Nat}{s:Bs}{u:ByteArray}(h:sV l s i=.ok u j):i≤j:=by
 obtain⟨x,k,h1,h2⟩:=kR h;obtain⟨y,k2,h3,h4⟩:=kR h2;have:=aa1 h3;have:=(lN h4).2;unfold nameP at h1
 split at h1
 ·have:=(lN h1).2;omega
 ·cases h1
theorem aeg{l:List Tok}{i j:Nat}{n:Int}(h:GK l i=.ok n j):i≤j:=by
 unfold GK at h
 split at h<;>split at h
 ·have:=(lN h).2;omega
 ·cases h
 ·have:=(lN h).2;omega
 ·cases h
theorem Uu{l:List Tok}{i j:Nat}{t:Tm}(h:OE l i=.ok t j):i≤j:=by
 unfold OE at h
 split at h
 ·cases h
 ·rename_i h0
  obtain⟨h1,h2⟩:=lN h;exact Nat.le_of_lt (wM (l:=l) (i:=i) (t:=t) (j:=j) (Prod.ext h1 (Prod.ext h2 (by simpa using h0)))).2.ij
theorem ajA{l:List Tok}{i j:Nat}{t:Fm}(h:fmP l i=.ok t j):i≤j:=by
 unfold fmP at h
 split at h
 ·cases h
 ·rename_i h0
  obtain⟨h1,h2⟩:=lN h;exact Nat.le_of_lt (GJ (l:=l) (i:=i) (f:=t) (j:=j) (Prod.ext h1 (Prod.ext h2 (by simpa using h0)))).2.ij
theorem ahV{l:List Tok}{i j:Nat}{v:Vr}(h:OD l i=.ok v j):i≤j:=by
 obtain⟨x,k,h1,h2⟩:=kR h;have a1:=MZ h1
 split at h2
 ·have:=(lN h2).2;omega
 ·obtain⟨_,k2,h3,h4⟩:=kR h2;obtain⟨_,k3,h5,h6⟩:=kR h4;obtain⟨_,k4,h7,h8⟩:=kR h6;have:=aeg h3;have:=aa1 h5;have:=aeg h7;have:=(lN h8).2;omega
theorem aeh{l:List Tok}{i j:Nat}{v:Df}(h:Mi l i=.ok v j):i≤j:=by
 obtain⟨x,k,h1,h2⟩:=kR h;obtain⟨_,k2,h3,h4⟩:=kR h2;have:=MZ h1;have:=Uu h3;have:=(lN h4).2;omega
theorem agm{l:List Tok}{i j:Nat}{v:Sp}(h:GL l i=.ok v j):i≤j:=by
 obtain⟨x,k,h1,h2⟩:=kR h;obtain⟨_,k2,h3,h4⟩:=kR h2;have:=MZ h1;have:=ajA h3;have:=(lN h4).2;omega
theorem CQ{α β:Type}{r:Rs α}{f:α→β}{e:β}{i q:Nat}(h:r.map f=.ok e q)(hu:∀x,r=.ok x q→i+1≤q):i<q:=by
 obtain⟨x,k,h1,h2⟩:=kR h;obtain⟨-,rfl⟩:=lN h2;exact hu x h1
theorem ajB{l:List Tok}{i q:Nat}{e:El}(h:elP l i=.ok e q):i<q:=by
 unfold elP at h
 split at h
 ·exact CQ h fun _ h=>ahV h
 split at h
 ·exact CQ h fun _ h=>aeh h
 split at h
 ·exact CQ h fun _ h=>Uu h
 split at h
 ·exact CQ h fun _ h=>Uu h
 split at h
 ·exact CQ h fun _ h=>aeh h
 split at h
 ·exact CQ h fun _ h=>Uu h
 split at h
 ·exact CQ h fun _ h=>Uu h
 split at h
 ·exact CQ h fun _ h=>agm h
 ·cases h
theorem agn{l:List Tok}{m m':Md}{i j:Nat}(h:m_ l m i=.ok m' j):∃e q,elP l i=.ok e q∧ah l q 4 [59]=true∧j=q+1∧e.cnt m<64∧m'=e.put m:=by
 unfold m_ at h;obtain⟨x,k,h1,h2⟩:=kR h;obtain⟨u,k2,h3,h4⟩:=kR h2;obtain⟨rfl,rfl⟩:=lN h4;obtain⟨e,he⟩:=agl h1;rw[adr he]at h1
 by_cases hc:64≤e.cnt m
 ·rw[iP hc]at h1;cases h1
 rw[iN hc]at h1;obtain⟨rfl,-⟩:=lN h1;unfold qJ at h3
 by_cases hk:ah l k 4 [59]=true
 ·rw[iP hk]at h3;obtain⟨-,rfl⟩:=lN h3;exact⟨e,k,he,hk,rfl,by omega,rfl⟩
 ·rw[iN hk]at h3;cases h3
set_option linter.unusedSimpArgs false
theorem ag5{o:Array Oper}{i:Nat}{x:Oper}(h:o.toList[i]?=some x):o[i]?=some x:=by simpa using h
def J5(V:Nat→Value):Value:=.agg #[V 0,V 1,V 2,V 3,V 4,V 5,V 6,V 7]
def MpQ(w:World)(r:Md×Int×Int)(e:Ending)(w':World):Prop:=∃V X G B R,e=.returned (.tuple #[J5 V,.int .i64 r.2.1,.int .i64 r.2.2])∧BJ w' B R V X G∧V8 G r.1∧w.heap.size≤B∧B≤R∧Below w.heap.size w w'
theorem KY:V8 (fun _=>[]) bG:=⟨rfl,rfl,rfl,rfl,rfl,rfl,rfl,rfl⟩
theorem agp{l:List Tok}{m m':Md}{i j:Nat}(h:m_ l m i=.ok m' j):i<j∧j≤l.length:=by
 obtain⟨e,q,h1,h2,rfl,-,-⟩:=agn h;have:=ajB h1;have:=Ck h2;omega
theorem rQ(tm:Array Value)(b2:Nat)(z1 z2:Value)(u0 u1 u2 u3 u4 u5 u6 u7:Value)(w:World)(h2:tm[2]?=some (.pointer (some ⟨b2,0,none⟩)))(h3:tm[3]?=some z1)(h4:tm[4]?=some z2)(h:w.heap[b2]?=some (.cells #[u0,u1,u2,u3,u4,u5,u6,u7] 28 (0,0))) :
 (results Tryz.f8 tm).run Tryz.prog w=.ok (.tuple #[.agg #[u0,u1,u2,u3,u4,u5,u6,u7],z1,z2]) w:=by
 obtain⟨y0,y1,y2,y3,y4,y5,y6,y7,-⟩:=q8 h;unfold results;rw[Tryz.results8];simp only[Array.getD_eq_getD_getElem?];simp[h2,h3,h4,go_sem,y0,y1,y2,y3,y4,y5,y6,y7]
theorem s8A{W:World}{b:Nat}{v0 v1 v2 v3 v4 v5 v6 v7 u0 u1 u2 u3 u4 u5 u6 u7:Value}{T:TypeId}(h:W.heap[b]?=some (.cells #[u0,u1,u2,u3,u4,u5,u6,u7] T (0,0))):((((((((W.setCell ⟨b,0,none⟩ v0).setCell ⟨b,1,none⟩ v1).setCell ⟨b,2,none⟩ v2).setCell ⟨b,3,none⟩ v3).setCell ⟨b,4,none⟩ v4).setCell ⟨b,5,none⟩ v5).setCell ⟨b,6,none⟩ v6).setCell ⟨b,7,none⟩ v7).heap[b]?=some (.cells #[v0,v1,v2,v3,v4,v5,v6,v7] T (0,0)):=by
 simp[World.setCell,Array.getElem?_modify,h]
theorem tZ{W:World}{b:Nat}(v0 v1 v2 v3 v4 v5 v6 v7:Value):Only (fun q=>q=b) W ((((((((W.setCell ⟨b,0,none⟩ v0).setCell ⟨b,1,none⟩ v1).setCell ⟨b,2,none⟩ v2).setCell ⟨b,3,none⟩ v3).setCell ⟨b,4,none⟩ v4).setCell ⟨b,5,none⟩ v5).setCell ⟨b,6,none⟩ v6).setCell ⟨b,7,none⟩ v7):=(((((((setAt _).trans (setAt _)).trans (setAt _)).trans (setAt _)).trans (setAt _)).trans (setAt _)).trans (setAt _)).trans (setAt _)
def ag6(l:List Tok)(n:Nat):Rs Md→Md×Int×Int
 |.bad i e=>(bG,Wv l n i,e)
 |.ok m _=>(m,(n:Int),0)
theorem ab8(s:Bs):parseM s=if (all s).2.2≠0 then(bG,(all s).2.1,(all s).2.2)else ag6 (all s).1 s.length (AB (all s).1 (all s).1.length bG 0):=by
 unfold parseM
 split
 ·rfl
 ·cases AB (all s).1 (all s).1.length bG 0<;>rfl
theorem FW(s:ByteArray)(w:World)(hs:s.size≤maxLen)(hT:Tables w) :
 Calls Tryz.prog 8 #[.string s] w (MpQ w (parseM (bs s))):=by
 have hs':=hs;unfold maxLen at hs';obtain⟨F,hF⟩:=aj (MpQ w (parseM (bs s)));rw[←hF];obtain⟨b2,hb2⟩:=aj w.heap.size;obtain⟨w1,hw1⟩:=aj (w.alloc (.cells #[.slice none 0 0,.slice none 0 0,.slice none 0 0,.slice none 0 0,.slice none 0 0,.slice none 0 0,.slice none 0 0,.slice none 0 0] 28));have hb1:=dz hw1;have hs1:w1.heap.size=b2+1:=by rw[hw1,hb2];simp
 have yJ:=jZ hw1 hb2;have hall:=agd s w1 hs (hT.below hb1);have hok:=WJ (bs s);obtain⟨l,hl⟩:=aj (all (bs s)).1;obtain⟨z1,hz1⟩:=aj (all (bs s)).2.1;obtain⟨z2,hz2⟩:=aj (all (bs s)).2.2;obtain⟨r0,Kq⟩:=ak (AB l l.length bG 0)
 have bE:Hid (F=MpQ w (if z2≠0 then(bG,z1,z2)else ag6 l (bs s).length r0)):=by
  show _=_;rw[hF,ab8,←hl,←hz1,←hz2,←Kq]
 rw[←hl,←hz1,←hz2]at hall;rw[←hl]at hok;have ahW:=Hd hall;have BQ:=Hd hok;have HW1:=Hd hw1;have HB1:=Hd hb1;have qY:=Hd hb2;have mg:Hid ((bs s).length=s.size):=aC s;clear hF hw1 hb1 hall hok hl hz1 hz2 hT hb2;go_in;go_wp2_with fail;rw[←HW1,←qY];refine ahW.mono ?_;rintro e w2 ⟨v,rfl,hown,hb2'⟩;have hx2:=(hb2'.block b2 (by omega)).trans yJ;have kH:=Hd (HB1.trans (hb2'.mono (by have:=qY.out;omega)));have hsz2:=hb2'.size;have hge:∀q,v.ownBlock=some q→w1.heap.size≤q:=fun q hq=>(hown.lt q hq).1;obtain⟨A,c,hv,hTI⟩:=Rv (.inr trivial) hown BQ.1 BQ.2.2;obtain⟨n,HN⟩:=ak l.length;have ajC:Hid (∀a,A=some a→w1.heap.size≤a.block):=fun a ha=>hge a.block (by rw[hv,ha];rfl);rw[hv,←HN];clear hge;have FK:=Hd hx2;have HTI:=Hd hTI;have hbl:b2<w2.heap.size:=by omega
 clear hx2 hTI hown hv hb2'
 by_cases hz:z2=0
 ·rw[iN (by simpa using hz)]at bE;rw[hz];obtain⟨R,HRQ⟩:=ak w2.heap.size;obtain⟨w3,HW3⟩:=ak (w2.alloc (.cells #[.slice A n c,.int .i64 0,.int .i64 0,.slice none 0 0,.slice none 0 0,.slice none 0 0,.slice none 0 0,.slice none 0 0,.slice none 0 0,.slice none 0 0,.slice none 0 0] 53));clear hz;go_wp2_with fail;rw[←HW3,←HRQ];have HPT:Hid (iI w3 R A c l):=HTI.pt (dz HW3) (Nat.le_of_eq HRQ.symm);have HA:Hid (∀a,A=some a→a.block<R):=fun a ha=>by rw[HRQ];exact HTI.old a ha
  have HRL:Hid (R<w3.heap.size):=by show _<_;rw[HW3,HRQ];simp
  have HM0:Hid (kF w3 R A n c 0 0 (fun _=>.slice none 0 0)):=by show kF _ _ _ _ _ _ _ _;unfold kF;rw[HW3,HRQ];exact eu _ _
  have HLEN:Hid (l.length≤100000):=HTI.len;have u_:Hid (Below w.heap.size w w3):=kH.trans ((dz HW3).mono kH.size)
  go_loopg [] (n+1) (fun k wr=>∃(i:Nat)(x:Int)(V:Nat→Value)(X:Nat→List (List Value))(G:Nat→List El)(m:Md),kF wr R A n c i x V∧BJ wr R R V X G∧Below R w3 wr∧(∀j,j<8→(G j).length≤64)∧(x=0→V8 G m∧i≤n∧∃f,k=f+1∧n≤i+f∧AB l f m i=r0)∧(x≠0→r0=.bad i x))
  case atStart=>
   exact⟨0,0,fun _=>.slice none 0 0,fun _=>[],fun _=>[],bG,HM0,qZ.nil _ _ _,Br _ _,fun _ _=>by simp,fun _=>⟨KY,zl _,n,rfl,by omega,by rw[Kq,HN]⟩,fun h=>absurd rfl h⟩
  case round=>
   obtain⟨i,x,V,X,G,m,hrd,hma,ajD,h64,hx0,hx1⟩:=hrel;have dQ:=Hd hrd;have HMA:=Hd hma;have oU:=Hd ajD;have VQ:=Hd h64;have HX0:=Hd hx0;have aei:=Hd hx1;have c1:=hrd.c1;have c2:=hrd.c2;have Og:=hrd.lt;clear hrd hma ajD h64 hx0 hx1
   by_cases hx:x=0
   ·subst hx;obtain⟨hgm,hin,f,hf1,hf2,hf3⟩:=HX0 rfl;have HGM:=Hd hgm;clear hgm
    by_cases hi:i<n
    ·have hd:=ab7 R A c i R l V X G m wr (by have:=HN.out;omega) (by rw[←HN];exact dQ) (HPT.below oU HA) HMA HGM (lr _) HA VQ;have HD:=Hd hd;have hi1:(i:Int)<(n:Int):=by omega
     have HF3:Hid (∃f',f=f'+1∧((m_ l m i).then fun m j=>AB l f' m j)=r0):=by
      cases f with
      |zero=>omega
      |succ f'=>exact⟨f',rfl,by rw[←hf3,AB,iN (by have:=HN.out;omega)]⟩
     have HF2:=Hd hf2;have HK:=Hd hf1;clear hd hf1 hf2 hf3 HX0 aei hi;go_wp2_with fail;refine HD.mono ?_;rintro e wr2 ⟨rfl,V',X',G',hc,hM',hb',agq⟩;have HC:=Hd hc;have HM':=Hd hM';have HB':=Hd (oU.trans hb');have ajE:=Hd agq;clear hc hM' hb' agq c1 c2 Og HD;go_wp2_with fail;obtain⟨f',hf',hr'⟩:=HF3.out
     cases hdp:m_ l m i with
     |bad j x=>
      have hc:=HC.out;rw[hdp]at hc hr'
      go_roundg 0
      case rel=>exact⟨j,x,V',X',G',m,by rw[HN];exact hc.1,HM',HB',ajE,fun h=>absurd h hc.2,fun _=>hr'.symm⟩
      case measure=>have:=HK.out;omega
     |ok m' j=>
      have hc:=HC.out;rw[hdp]at hc hr';have hu:=agp hdp
      go_roundg (f'+1)
      case rel=>exact⟨j,0,V',X',G',m',by rw[HN];exact hc.1,HM',HB',ajE,fun _=>⟨hc.2,by have:=HN.out;omega,f',rfl,by have:=HF2.out;omega,hr'⟩,fun h=>absurd rfl h⟩
      case measure=>have:=HK.out;omega
    ·have vN:Hid (F=MpQ w (m,((bs s).length:Int),0)):=by
      have hr:r0=.ok m i:=by
       rw[←hf3]
       cases f with
       |zero=>rfl
       |succ f'=>rw[AB,iP (by have:=HN.out;omega)]
      show _=_;rw[bE,hr]
      rfl
     have hi1:¬(i:Int)<(n:Int):=by omega
     have ahX:b2<R:=by rw[HRQ];exact hbl
     have X2:Hid (wr.heap[b2]?=some (.cells #[.slice none 0 0,.slice none 0 0,.slice none 0 0,.slice none 0 0,.slice none 0 0,.slice none 0 0,.slice none 0 0,.slice none 0 0] 28 (0,0))):=(oU.block b2 ahX).trans (((dz HW3).block b2 hbl).trans FK);obtain⟨a0,p0,hV0,-,-⟩:=HMA.shape (k:=0) (by omega);have k0:=dQ.cm (k:=0) (by omega);obtain⟨g0,hg0⟩:=aj (G 0).length;rw[hV0,←hg0]at k0;rw[←hg0]at hV0;obtain⟨a1,p1,hV1,-,-⟩:=HMA.shape (k:=1) (by omega);have k1:=dQ.cm (k:=1) (by omega);obtain⟨g1,hg1⟩:=aj (G 1).length;rw[hV1,←hg1]at k1;rw[←hg1]at hV1;obtain⟨a2,p2,hV2,-,-⟩:=HMA.shape (k:=2) (by omega);have k2:=dQ.cm (k:=2) (by omega);obtain⟨g2,hg2⟩:=aj (G 2).length;rw[hV2,←hg2]at k2;rw[←hg2]at hV2;obtain⟨a3,p3,hV3,-,-⟩:=HMA.shape (k:=3) (by omega);have k3:=dQ.cm (k:=3) (by omega);obtain⟨g3,hg3⟩:=aj (G 3).length;rw[hV3,←hg3]at k3;rw[←hg3]at hV3;obtain⟨a4,p4,hV4,-,-⟩:=HMA.shape (k:=4) (by omega);have k4:=dQ.cm (k:=4) (by omega);obtain⟨g4,hg4⟩:=aj (G 4).length;rw[hV4,←hg4]at k4;rw[←hg4]at hV4;obtain⟨a5,p5,Uh,-,-⟩:=HMA.shape (k:=5) (by omega);have k5:=dQ.cm (k:=5) (by omega);obtain⟨g5,hg5⟩:=aj (G 5).length;rw[Uh,←hg5]at k5;rw[←hg5]at Uh;obtain⟨a6,p6,hV6,-,-⟩:=HMA.shape (k:=6) (by omega);have k6:=dQ.cm (k:=6) (by omega);obtain⟨g6,hg6⟩:=aj (G 6).length;rw[hV6,←hg6]at k6
     rw[←hg6]at hV6;obtain⟨a7,p7,hV7,-,-⟩:=HMA.shape (k:=7) (by omega);have k7:=dQ.cm (k:=7) (by omega);obtain⟨g7,Ep⟩:=aj (G 7).length;rw[hV7,←Ep]at k7;rw[←Ep]at hV7;have HVS:Hid (J5 V=.agg #[.slice a0 g0 p0,.slice a1 g1 p1,.slice a2 g2 p2,.slice a3 g3 p3,.slice a4 g4 p4,.slice a5 g5 p5,.slice a6 g6 p6,.slice a7 g7 p7]):=by show _=_;unfold J5;rw[hV0,hV1,hV2,hV3,hV4,Uh,hV6,hV7]
     simp only[Nat.reduceAdd]at k0 k1 k2 k3 k4 k5 k6 k7;obtain⟨u0,u1,u2,u3,u4,u5,u6,u7,uz⟩:=q8 X2;have sG:=lH X2;clear hV0 hg0 hV1 hg1 hV2 hg2 hV3 hg3 hV4 hg4 Uh hg5 hV6 hg6 hV7 Ep hf1 hf2 hf3 HX0 aei hi hin;go_wp2_with fail;refine bR (rQ _ b2 (.int .i64 (s.size:Nat)) (.int .i64 0) _ _ _ _ _ _ _ _ _ rfl rfl rfl (s8A X2)) rfl ?_;rw[vN];refine⟨V,X,G,R,R,?_,?_,HGM,?_,lr _,?_⟩
     ·rw[HVS,mg]
     ·exact HMA.move (fun q hq hl _=>(tZ _ _ _ _ _ _ _ _).block q hl (by omega)) (tZ _ _ _ _ _ _ _ _).size
     ·have:=qY.out;omega
     ·exact(u_.trans (oU.mono (by have:=qY.out;omega))).trans (b_ (tZ _ _ _ _ _ _ _ _) (by rw[qY];exact lr _) (by have:=qY.out;omega))
   ·have vN:Hid (F=MpQ w (bG,Wv l (bs s).length i,x)):=by show _=_;rw[bE,aei hx];rfl
    have hxb:(x==0)=false:=by simpa using hx
    have ahX:b2<R:=by rw[HRQ];exact hbl
    have X2:Hid (wr.heap[b2]?=some (.cells #[.slice none 0 0,.slice none 0 0,.slice none 0 0,.slice none 0 0,.slice none 0 0,.slice none 0 0,.slice none 0 0,.slice none 0 0] 28 (0,0))):=(oU.block b2 ahX).trans (((dz HW3).block b2 hbl).trans FK);have Ot:Hid (Below w.heap.size w wr):=u_.trans (oU.mono (by have:=qY.out;omega));have hPT:=HPT.below oU HA;have hlen:=HLEN.out;rw[←HN]at hlen
    by_cases hi:i<n
    ·obtain⟨tk,tb,off,ht,hAt,htR,htl,-,-⟩:=aeb hPT (show i<l.length by have:=HN.out;omega)
     have al5:tb≠b2:=by
      have h1:=ajC _ hAt;show tb≠b2;have h2:w1.heap.size≤tb:=h1;omega
     have hx3:wr.cell? ⟨tb,off+i*4+3,none⟩=some (.int .i64 tk.at_):=by
      rcases hPT.toks with h0|⟨b',o',hb',-,hc⟩
      ·rw[h0]at ht;simp at ht
      ·rw[hAt]at hb';cases hb';exact hc i tk ht 3 (by omega)
     have HAT:Hid (Wv l (bs s).length i=tk.at_):=by show _=_;unfold Wv;rw[ht]
     obtain⟨ta,Uc⟩:=ak tk.at_;rw[←Uc]at HAT hx3;have hi1:(i:Int)<(n:Int):=by omega
     have hk0:(0:Int)≤(i:Int):=by omega
     have hcap:=hPT.cap;have aQ:=hPT.bU;unfold maxLen at aQ;rw[←HN]at hcap;subst hAt;clear hPT ht hi HX0 aei hx ajC;go_wp2_with fail;refine wp_region_held_drew (S:=fun W=>W.cell? ⟨R,1,none⟩=some (.int .i64 (i:Nat))∧W.cell? ⟨R,2,none⟩=some (.int .i64 x)∧W.cell? ⟨tb,off+i*4+3,none⟩=some (.int .i64 ta)) (by kernel_rfl) ⟨c1,c2,hx3⟩ (fun hHeld=>?_);obtain⟨Wc,hWc⟩:=aj wr.drew;replace X2:Hid (Wc.heap[b2]?=some (.cells #[.slice none 0 0,.slice none 0 0,.slice none 0 0,.slice none 0 0,.slice none 0 0,.slice none 0 0,.slice none 0 0,.slice none 0 0] 28 (0,0))):=by show _=_;rw[hWc];exact X2
     replace Ot:Hid (Below w.heap.size w Wc):=by show Below _ _ _;rw[hWc];exact Ot.drew
     have hRc:R<Wc.heap.size:=by rw[hWc];exact Og
     have htc:tb<Wc.heap.size:=by rw[hWc];exact htl
     rw[←hWc]at hHeld⊢;clear hWc c1 c2 hx3 Og htl
     repeat
      (first|refine aI 0 (v:=?_) rfl ?hy ?_|refine aI 1 (v:=?_) rfl ?hy ?_|refine aI 2 (v:=?_) rfl ?hy ?_|refine aI 3 (v:=?_) rfl ?hy ?_|refine aI 4 (v:=?_) rfl ?hy ?_|refine aI 5 (v:=?_) rfl ?hy ?_|refine aI 6 (v:=?_) rfl ?hy ?_|refine aI 7 (v:=?_) rfl ?hy ?_|refine aI 8 (v:=?_) rfl ?hy ?_|refine aI 9 (v:=?_) rfl ?hy ?_|refine aI 10 (v:=?_) rfl ?hy ?_|refine aI 11 (v:=?_) rfl ?hy ?_|refine aI 12 (v:=?_) rfl ?hy ?_|refine aI 13 (v:=?_) rfl ?hy ?_|refine aI 15 (v:=?_) rfl ?hy ?_|refine aI 16 (v:=?_) rfl ?hy ?_
       case hy=>
        intro w0 hS;obtain⟨h1,h2,h3⟩:=hS;go_simp
        (first|done|with_reducible rfl|rfl)
       try simp only[Act.put,aT,aU,aV])
     iterate 1
      all_goals first
       |refine Rd (rs:=[14]) (by decide +kernel) (by simp) (Rc (ag5 rfl) (fun K hK=>?_) Rn)
       |fail
      all_goals first
       |(refine Gw ?_
         obtain⟨u0,u1,u2,u3,u4,u5,u6,u7,uz⟩:=q8 X2;have sG:=lH X2;go_simp;clear u0 u1 u2 u3 u4 u5 u6 u7 uz sG;refine hK.out _ _ (⟨(World.cell?_of_block (a:=⟨R,1,none⟩) ((tZ _ _ _ _ _ _ _ _).block R (by assumption) (by omega))).trans hHeld.1,(World.cell?_of_block (a:=⟨R,2,none⟩) ((tZ _ _ _ _ _ _ _ _).block R (by assumption) (by omega))).trans hHeld.2.1,(World.cell?_of_block (a:=⟨tb,off+i*4+3,none⟩) ((tZ _ _ _ _ _ _ _ _).block tb (by assumption) (by omega))).trans hHeld.2.2⟩) (fun hHeld=>?_);clear hK K
         try simp only[Act.put,aT,aU,aV])
       |fail
      all_goals
       repeat
        (first|refine aI 0 (v:=?_) rfl ?hy ?_|refine aI 1 (v:=?_) rfl ?hy ?_|refine aI 2 (v:=?_) rfl ?hy ?_|refine aI 3 (v:=?_) rfl ?hy ?_|refine aI 4 (v:=?_) rfl ?hy ?_|refine aI 5 (v:=?_) rfl ?hy ?_|refine aI 6 (v:=?_) rfl ?hy ?_|refine aI 7 (v:=?_) rfl ?hy ?_|refine aI 8 (v:=?_) rfl ?hy ?_|refine aI 9 (v:=?_) rfl ?hy ?_|refine aI 10 (v:=?_) rfl ?hy ?_|refine aI 11 (v:=?_) rfl ?hy ?_|refine aI 12 (v:=?_) rfl ?hy ?_|refine aI 13 (v:=?_) rfl ?hy ?_|refine aI 15 (v:=?_) rfl ?hy ?_|refine aI 16 (v:=?_) rfl ?hy ?_
         case hy=>
          intro w0 hS;obtain⟨h1,h2,h3⟩:=hS;go_simp
          (first|done|with_reducible rfl|rfl)
         try simp only[Act.put,aT,aU,aV])
     all_goals refine wpAnyH_done (by decide +kernel) ?_ _
     all_goals
      go_wp2_with fail;refine bR (rQ _ b2 (.int .i64 ta) (.int .i64 x) _ _ _ _ _ _ _ _ _ rfl rfl rfl (s8A X2)) rfl ?_;rw[vN];exact⟨fun _=>.slice none 0 0,fun _=>[],fun _=>[],w.heap.size,w.heap.size,by rw[HAT];rfl,qZ.nil _ _ _,KY,lr _,lr _,Ot.trans (b_ (tZ _ _ _ _ _ _ _ _) (by rw[qY];exact lr _) Ot.size)⟩
    ·have HAT:Hid (Wv l (bs s).length i=(s.size:Nat)):=by
      show _=_;unfold Wv;rw[List.getElem?_eq_none (by have:=HN.out;omega),mg]
     have hi1:¬(i:Int)<(n:Int):=by omega
     clear hPT hi HX0 aei hx;go_wp2_with fail;refine wp_region_held_drew (S:=fun W=>W.cell? ⟨R,2,none⟩=some (.int .i64 x)) (by kernel_rfl) c2 (fun hHeld=>?_);obtain⟨Wc,hWc⟩:=aj wr.drew;replace X2:Hid (Wc.heap[b2]?=some (.cells #[.slice none 0 0,.slice none 0 0,.slice none 0 0,.slice none 0 0,.slice none 0 0,.slice none 0 0,.slice none 0 0,.slice none 0 0] 28 (0,0))):=by show _=_;rw[hWc];exact X2
     replace Ot:Hid (Below w.heap.size w Wc):=by show Below _ _ _;rw[hWc];exact Ot.drew
     have hRc:R<Wc.heap.size:=by rw[hWc];exact Og
     rw[←hWc]at hHeld⊢;clear hWc c1 c2 Og
     repeat
      (first|refine aI 0 (v:=?_) rfl ?hy ?_|refine aI 1 (v:=?_) rfl ?hy ?_|refine aI 2 (v:=?_) rfl ?hy ?_|refine aI 3 (v:=?_) rfl ?hy ?_|refine aI 4 (v:=?_) rfl ?hy ?_|refine aI 5 (v:=?_) rfl ?hy ?_|refine aI 6 (v:=?_) rfl ?hy ?_|refine aI 8 (v:=?_) rfl ?hy ?_|refine aI 9 (v:=?_) rfl ?hy ?_
       case hy=>
        intro w0 hS;have h2:=hS;clear hS;go_simp
        (first|done|with_reducible rfl|rfl)
       try simp only[Act.put,aT,aU,aV])
     iterate 1
      all_goals first
       |refine Rd (rs:=[7]) (by decide +kernel) (by simp) (Rc (ag5 rfl) (fun K hK=>?_) Rn)
       |fail
      all_goals first
       |(refine Gw ?_
         obtain⟨u0,u1,u2,u3,u4,u5,u6,u7,uz⟩:=q8 X2;have sG:=lH X2;go_simp;clear u0 u1 u2 u3 u4 u5 u6 u7 uz sG;refine hK.out _ _ ((World.cell?_of_block (a:=⟨R,2,none⟩) ((tZ _ _ _ _ _ _ _ _).block R (by assumption) (by omega))).trans hHeld) (fun hHeld=>?_);clear hK K
         try simp only[Act.put,aT,aU,aV])
       |fail
      all_goals
       repeat
        (first|refine aI 0 (v:=?_) rfl ?hy ?_|refine aI 1 (v:=?_) rfl ?hy ?_|refine aI 2 (v:=?_) rfl ?hy ?_|refine aI 3 (v:=?_) rfl ?hy ?_|refine aI 4 (v:=?_) rfl ?hy ?_|refine aI 5 (v:=?_) rfl ?hy ?_|refine aI 6 (v:=?_) rfl ?hy ?_|refine aI 8 (v:=?_) rfl ?hy ?_|refine aI 9 (v:=?_) rfl ?hy ?_
         case hy=>
          intro w0 hS;have h2:=hS;clear hS;go_simp
          (first|done|with_reducible rfl|rfl)
         try simp only[Act.put,aT,aU,aV])
     all_goals refine wpAnyH_done (by decide +kernel) ?_ _
     all_goals
      go_wp2_with fail;refine bR (rQ _ b2 (.int .i64 (s.size:Nat)) (.int .i64 x) _ _ _ _ _ _ _ _ _ rfl rfl rfl (s8A X2)) rfl ?_;rw[vN];exact⟨fun _=>.slice none 0 0,fun _=>[],fun _=>[],w.heap.size,w.heap.size,by rw[HAT];rfl,qZ.nil _ _ _,KY,lr _,lr _,Ot.trans (b_ (tZ _ _ _ _ _ _ _ _) (by rw[qY];exact lr _) Ot.size)⟩
 ·have HFB:Hid (F=MpQ w (bG,z1,z2)):=by show _=_;rw[bE,iP (by simpa using hz)]
  have hz':(z2 != 0)=true:=by simpa using hz
  obtain⟨u0,u1,u2,u3,u4,u5,u6,u7,uz⟩:=q8 FK;have sG:=lH FK;go_wp2_with fail;refine bR (rQ _ b2 (.int .i64 z1) (.int .i64 z2) _ _ _ _ _ _ _ _ _ rfl rfl rfl (s8A FK)) rfl ?_;rw[HFB];exact⟨fun _=>.slice none 0 0,fun _=>[],fun _=>[],w.heap.size,w.heap.size,rfl,qZ.nil _ _ _,KY,lr _,lr _,kH.trans (b_ (tZ _ _ _ _ _ _ _ _) (by rw[qY];exact lr _) kH.size)⟩
end Go.Proofs.YtkhoeoilamddaaaGreatDoor
