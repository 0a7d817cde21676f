/- Walks and plain words: MtM MtI MtL. -/
import Derived.Test.YtkhoeoilamddaaaGreatDoorQMtG
namespace Go.Proofs.YtkhoeoilamddaaaGreatDoor
set_option linter.unusedVariables false
set_option maxRecDepth 100000
def YQ{α β:Type}(r:Rs α)(s:β×Nat×Int)(f:β→α):Prop:=match r with
 |.ok x j=>f s.1=x∧s.2=(j,0)
 |.bad j e=>s.2=(j,e)∧e≠0
def akE(r:Rs Unit)(s:Nat×Int):Prop:=match r with
 |.ok _ j=>s=(j,0)
 |.bad j e=>s=(j,e)∧e≠0
theorem n00:¬((0:Int)≠0):=fun h=>h rfl
section
variable {l:List Tok} {i:Nat} {x:Int}
theorem DY{k:Int}{s:Bs}(h:x≠0):bO l k s i x=(i,x):=by unfold bO;rw[iP h]
theorem KX(h:x≠0):(I8 l i x).2=(i,x):=by unfold I8;rw[iP h]
theorem ab4(h:x≠0):(dK l i x).2=(i,x):=by unfold dK;rw[iP h]
theorem ab5(h:x≠0):(ow l i x).2=(i,x):=by unfold ow;rw[iP h]
theorem MW(k:Int)(s:Bs):akE (qJ l i k s) (bO l k s i 0):=by
 unfold qJ bO;rw[iN n00];cases ah l i k s
 ·exact⟨rfl,by decide⟩
 ·exact rfl
theorem aec:YQ (nameP l i) (bX l i 0) id:=by
 unfold nameP bX;rw[iN n00];cases jd l i 2
 ·exact⟨rfl,by decide⟩
 ·exact⟨rfl,rfl⟩
theorem aed:YQ (GK l i) (I8 l i 0) id:=by
 unfold GK I8 BD;rw[iN n00];cases ah l i 4 [45]
 ·simp only[Bool.false_eq_true,if_false];cases jd l i 1
  ·exact⟨rfl,by decide⟩
  ·exact⟨rfl,rfl⟩
 ·simp only[if_true];cases jd l (i+1) 1
  ·exact⟨rfl,by decide⟩
  ·exact⟨rfl,rfl⟩
theorem MX:YQ (OE l i) (dK l i 0) id:=by
 unfold OE dK;rw[iN n00]
 by_cases h:(iU l i).2.2≠0
 ·rw[iP h];exact⟨rfl,h⟩
 ·rw[iN h];have h0:(iU l i).2.2=0:=Decidable.not_not.1 h;exact⟨rfl,by rw[←h0]⟩
theorem ahS:YQ (fmP l i) (ow l i 0) id:=by
 unfold fmP ow;rw[iN n00]
 by_cases h:(nN l i).2.2≠0
 ·rw[iP h];exact⟨rfl,h⟩
 ·rw[iN h];have h0:(nN l i).2.2=0:=Decidable.not_not.1 h;exact⟨rfl,by rw[←h0]⟩
theorem Jh(s:Bs):match sV l s i with
 |.ok n j=>(bX l i 0).1=n∧bO l 4 s (bX l i 0).2.1 (bX l i 0).2.2=(j,0)
 |.bad j e=>bO l 4 s (bX l i 0).2.1 (bX l i 0).2.2=(j,e)∧e≠0:=by
 have h:=aec (l:=l) (i:=i);unfold sV
 cases hn:nameP l i with
 |bad j e=>
  rw[hn]at h;obtain⟨h1,h2⟩:=h;show bO l 4 s (bX l i 0).2.1 (bX l i 0).2.2=(j,e)∧e≠0;rw[h1];exact⟨DY h2,h2⟩
 |ok n j=>
  rw[hn]at h;obtain⟨h1,h2⟩:=h;have hm:=MW (l:=l) (i:=j) 4 s
  show match (qJ l j 4 s).then fun _ k=>.ok n k with
   |.ok n j=>(bX l i 0).1=n∧bO l 4 s (bX l i 0).2.1 (bX l i 0).2.2=(j,0)
   |.bad j e=>bO l 4 s (bX l i 0).2.1 (bX l i 0).2.2=(j,e)∧e≠0
  rw[h2]
  cases hp:qJ l j 4 s with
  |bad k e=>rw[hp]at hm;exact hm
  |ok u k=>rw[hp]at hm;exact⟨h1,hm⟩
def akF(v:ByteArray×Bool×Int×Int):Vr:=⟨v.1,v.2.1,v.2.2.1,v.2.2.2⟩
theorem agj:YQ (OD l i) (nJ l i 0) akF:=by
 have h:=Jh (l:=l) (i:=i) [58];unfold OD nJ
 dsimp only
 cases hn:sV l [58] i with
 |bad j e=>
  rw[hn]at h;obtain⟨h1,h2⟩:=h;show(_:(ByteArray×Bool×Int×Int)×Nat×Int).2=(j,e)∧e≠0;rw[h1];rw[iN (fun k=>h2 k.1)];refine⟨?_,h2⟩;show((I8 l _ _).2.1,(I8 l _ _).2.2)=_;rw[KX (l:=l) (i:=j) h2];rw[DY h2,KX h2]
 |ok s j=>
  rw[hn]at h;obtain⟨h1,h2⟩:=h;rw[h2];show YQ (if ah l j 3 vP then _ else _) _ _
  by_cases hb:ah l j 3 vP=true
  ·rw[iP hb,iP ⟨rfl,hb⟩];exact⟨by rw[←h1];rfl,rfl⟩
  ·rw[iN hb,iN (fun k=>hb k.2)];have ha:=aed (l:=l) (i:=j)
   cases hp:GK l j with
   |bad k e=>
    rw[hp]at ha;obtain⟨a1,a2⟩:=ha;refine⟨?_,a2⟩;show((I8 l _ _).2.1,(I8 l _ _).2.2)=_;rw[a1,DY a2,KX a2]
   |ok a k=>
    rw[hp]at ha;obtain⟨a1,a2⟩:=ha;have hm:=MW (l:=l) (i:=k) 4 [46,46];rw[a2];show YQ ((qJ l k 4 [46,46]).then _) _ _
    cases hq:qJ l k 4 [46,46]with
    |bad m e=>
     rw[hq]at hm;obtain⟨G,D⟩:=hm;refine⟨?_,D⟩;show((I8 l _ _).2.1,(I8 l _ _).2.2)=_;rw[G,KX D]
    |ok u m=>
     rw[hq]at hm;have hc:=aed (l:=l) (i:=m);rw[show bO l 4 [46,46] k 0=(m,0)from hm];show YQ ((GK l m).then _) _ _
     cases hr:GK l m with
     |bad p e=>
      rw[hr]at hc;exact⟨hc.1,hc.2⟩
     |ok z p=>
      rw[hr]at hc;refine⟨?_,hc.2⟩;show(⟨(bX l i 0).1,false,(I8 l j 0).1,(I8 l m 0).1⟩:Vr)=⟨s,false,a,z⟩;rw[h1,show(I8 l j 0).1=a from a1,show(I8 l m 0).1=z from hc.1]
theorem aa0:YQ (Mi l i) (lq l i 0) (fun v=>(⟨v.1,v.2⟩:Df)):=by
 have h:=Jh (l:=l) (i:=i) [58,61];unfold Mi lq
 cases hn:sV l [58,61] i with
 |bad j e=>
  rw[hn]at h;obtain⟨h1,h2⟩:=h;rw[h1];exact⟨ab4 h2,h2⟩
 |ok s j=>
  rw[hn]at h;obtain⟨h1,h2⟩:=h;rw[h2];have ht:=MX (l:=l) (i:=j);show YQ ((OE l j).then _) _ _
  cases hp:OE l j with
  |bad k e=>rw[hp]at ht;exact ht
  |ok t k=>rw[hp]at ht;exact⟨by rw[h1];exact congrArg (Df.mk s) ht.1,ht.2⟩
theorem aee:YQ (GL l i) (((bX l i 0).1,(ow l (bO l 4 [58] (bX l i 0).2.1 (bX l i 0).2.2).1 (bO l 4 [58] (bX l i 0).2.1 (bX l i 0).2.2).2).1),(ow l (bO l 4 [58] (bX l i 0).2.1 (bX l i 0).2.2).1 (bO l 4 [58] (bX l i 0).2.1 (bX l i 0).2.2).2).2) (fun v=>(⟨v.1,v.2⟩:Sp)):=by
 have h:=Jh (l:=l) (i:=i) [58];unfold GL
 cases hn:sV l [58] i with
 |bad j e=>
  rw[hn]at h;obtain⟨h1,h2⟩:=h;rw[h1];exact⟨ab5 h2,h2⟩
 |ok s j=>
  rw[hn]at h;obtain⟨h1,h2⟩:=h;rw[h2];have ht:=ahS (l:=l) (i:=j);show YQ ((fmP l j).then _) _ _
  cases hp:fmP l j with
  |bad k e=>rw[hp]at ht;exact ht
  |ok t k=>rw[hp]at ht;exact⟨by rw[h1];exact congrArg (Sp.mk s) ht.1,ht.2⟩
theorem PK{s s':Bs}(h:ah l i 3 s=true)(hne:s≠s'):ah l i 3 s'=false:=by
 unfold ah at h⊢
 cases ht:l[i]? with
 |none=>rfl
 |some t=>
  rw[ht]at h;simp only[Bool.and_eq_true,decide_eq_true_iff]at h;simp[h.2,hne]
def ahT(m:Md):Nat→Nat
 |0=>m.vars.length
 |1=>m.defs.length
 |2=>m.init.length
 |3=>m.bF.length
 |4=>m.next.length
 |5=>m.trans.length
 |6=>m.fair.length
 |_=>m.specs.length
theorem qQ{α:Type}{n:Nat}{p:Nat→Rs α}{f:α→El}{m:Md}{g:α→Md}(D:∀x,(f x).put m=g x):((nP n p i).then fun x j=>(.ok (g x) j:Rs Md))=if 64≤n then .bad i 18 else((p (i+1)).map f).then fun e j=>.ok (e.put m) j:=by
 unfold nP Rs.map
 by_cases hn:64≤n
 ·rw[iP hn,iP hn];rfl
 ·rw[iN hn,iN hn]
  cases p (i+1)with
  |bad j e=>rfl
  |ok x j=>show Rs.ok (g x) j=Rs.ok ((f x).put m) j;rw[D]
theorem agk{k:Nat}(D:k<8)(hw:ah l i 3 (ji k)=true)(m:Md):rH l m i=if 64≤ahT m k then .bad i 18 else(elP l i).then fun e j=>.ok (e.put m) j:=by
 have hf:∀s,ji k≠s→ah l i 3 s=false:=fun s hs=>PK hw hs;unfold rH elP
 rcases lt8 D with rfl|rfl|rfl|rfl|rfl|rfl|rfl|rfl
 ·rw[iP (show ah l i 3 kV=true from hw),iP (show ah l i 3 kV=true from hw)];exact qQ fun _=>rfl
 ·rw[hf kV (by decide)];simp only[Bool.false_eq_true,if_false];rw[iP (show ah l i 3 kW=true from hw),iP (show ah l i 3 kW=true from hw)];exact qQ fun _=>rfl
 ·rw[hf kV (by decide),hf kW (by decide)];simp only[Bool.false_eq_true,if_false];rw[iP (show ah l i 3 iA=true from hw),iP (show ah l i 3 iA=true from hw)];exact qQ fun _=>rfl
 ·rw[hf kV (by decide),hf kW (by decide),hf iA (by decide)];simp only[Bool.false_eq_true,if_false];rw[iP (show ah l i 3 eZ=true from hw),iP (show ah l i 3 eZ=true from hw)];exact qQ fun _=>rfl
 ·rw[hf kV (by decide),hf kW (by decide),hf iA (by decide),hf eZ (by decide)];simp only[Bool.false_eq_true,if_false];rw[iP (show ah l i 3 fE=true from hw),iP (show ah l i 3 fE=true from hw)];exact qQ fun _=>rfl
 ·rw[hf kV (by decide),hf kW (by decide),hf iA (by decide),hf eZ (by decide),hf fE (by decide)];simp only[Bool.false_eq_true,if_false];rw[iP (show ah l i 3 fP=true from hw),iP (show ah l i 3 fP=true from hw)];exact qQ fun _=>rfl
 ·rw[hf kV (by decide),hf kW (by decide),hf iA (by decide),hf eZ (by decide),hf fE (by decide),hf fP (by decide)];simp only[Bool.false_eq_true,if_false];rw[iP (show ah l i 3 jL=true from hw),iP (show ah l i 3 jL=true from hw)];exact qQ fun _=>rfl
 ·rw[hf kV (by decide),hf kW (by decide),hf iA (by decide),hf eZ (by decide),hf fE (by decide),hf fP (by decide),hf jL (by decide)];simp only[Bool.false_eq_true,if_false];rw[iP (show ah l i 3 pI=true from hw),iP (show ah l i 3 pI=true from hw)];exact qQ fun _=>rfl
theorem yH{α β:Type}{r:Rs α}{s:β×Nat×Int}{f:β→α}(h:YQ r s f)(g:α→El){e:El×Nat×Int}(he:e=(g (f s.1),s.2)):YQ (r.map g) e id:=by
 subst he
 cases r with
 |bad j x=>exact h
 |ok x j=>exact⟨by show g (f s.1)=g x;rw[h.1],h.2⟩
theorem ahU{k:Nat}(D:k<8)(hw:ah l i 3 (ji k)=true):YQ (elP l i) (kC l k (i+1)) id:=by
 have hf:∀s,ji k≠s→ah l i 3 s=false:=fun s hs=>PK hw hs;unfold elP
 rcases lt8 D with rfl|rfl|rfl|rfl|rfl|rfl|rfl|rfl
 ·rw[iP (show ah l i 3 kV=true from hw)];exact yH agj _ rfl
 ·rw[hf kV (by decide)];simp only[Bool.false_eq_true,if_false];rw[iP (show ah l i 3 kW=true from hw)];exact yH aa0 _ rfl
 ·rw[hf kV (by decide),hf kW (by decide)];simp only[Bool.false_eq_true,if_false];rw[iP (show ah l i 3 iA=true from hw)];exact yH MX _ rfl
 ·rw[hf kV (by decide),hf kW (by decide),hf iA (by decide)];simp only[Bool.false_eq_true,if_false];rw[iP (show ah l i 3 eZ=true from hw)];exact yH MX _ rfl
 ·rw[hf kV (by decide),hf kW (by decide),hf iA (by decide),hf eZ (by decide)];simp only[Bool.false_eq_true,if_false];rw[iP (show ah l i 3 fE=true from hw)];exact yH aa0 _ rfl
 ·rw[hf kV (by decide),hf kW (by decide),hf iA (by decide),hf eZ (by decide),hf fE (by decide)];simp only[Bool.false_eq_true,if_false];rw[iP (show ah l i 3 fP=true from hw)];exact yH MX _ rfl
 ·rw[hf kV (by decide),hf kW (by decide),hf iA (by decide),hf eZ (by decide),hf fE (by decide),hf fP (by decide)];simp only[Bool.false_eq_true,if_false];rw[iP (show ah l i 3 jL=true from hw)];exact yH MX _ rfl
 ·rw[hf kV (by decide),hf kW (by decide),hf iA (by decide),hf eZ (by decide),hf fE (by decide),hf fP (by decide),hf jL (by decide)];simp only[Bool.false_eq_true,if_false];rw[iP (show ah l i 3 pI=true from hw)];exact yH aee _ rfl
def V8(G:Nat→List El)(m:Md):Prop:=G 0=m.vars.map .var∧G 1=m.defs.map .defs∧G 2=m.init.map .init∧G 3=m.bF.map .bF∧G 4=m.next.map .next∧G 5=m.trans.map .trans∧G 6=m.fair.map .fair∧G 7=m.specs.map .spec
theorem V8.cnt{G:Nat→List El}{m:Md}(h:V8 G m){k:Nat}(D:k<8):(G k).length=ahT m k:=by
 obtain⟨h0,h1,h2,h3,I,h5,J,O⟩:=h
 rcases lt8 D with rfl|rfl|rfl|rfl|rfl|rfl|rfl|rfl<;>simp[ahT, *]
theorem V8.put{G:Nat→List El}{m:Md}(h:V8 G m){k:Nat}(D:k<8):V8 (upd G k (G k++[(kC l k (i+1)).1])) ((kC l k (i+1)).1.put m):=by
 obtain⟨h0,h1,h2,h3,I,h5,J,O⟩:=h
 rcases lt8 D with rfl|rfl|rfl|rfl|rfl|rfl|rfl|rfl<;>simp[V8,upd,kC,El.put, *]
theorem aef{G:Nat→List El}{m:Md}{k:Nat}(I:k<8)(hw:ah l i 3 (ji k)=true)(h:V8 G m):match m_ l m i with
 |.ok m' j=>(if (G k).length<64 then bO l 4 [59] (kC l k (i+1)).2.1 (kC l k (i+1)).2.2 else(i,18))=(j,0)∧V8 (if (G k).length<64 then upd G k (G k++[(kC l k (i+1)).1])else G) m'
 |.bad j e=>(if (G k).length<64 then bO l 4 [59] (kC l k (i+1)).2.1 (kC l k (i+1)).2.2 else(i,18))=(j,e)∧e≠0:=by
 unfold m_;rw[agk I hw m,←h.cnt I]
 by_cases D:64≤(G k).length
 ·rw[iP D,iN (by omega),iN (by omega)];exact⟨rfl,by decide⟩
 ·rw[iN D,iP (by omega),iP (by omega)];have hs:=ahU I hw;have hp:=h.put (l:=l) (i:=i) I
  cases he:elP l i with
  |bad j e=>
   rw[he]at hs;obtain⟨h1,h2⟩:=hs;show bO l 4 [59] (kC l k (i+1)).2.1 (kC l k (i+1)).2.2=(j,e)∧e≠0;rw[h1];exact⟨DY h2,h2⟩
  |ok e j=>
   rw[he]at hs;obtain⟨h1,h2⟩:=hs;rw[h2];have hm:=MW (l:=l) (i:=j) 4 [59];rw[show(kC l k (i+1)).1=e from h1]at hp⊢
   show match (qJ l j 4 [59]).then fun _ k=>(.ok (e.put m) k:Rs Md)with
    |.ok m' q=>bO l 4 [59] j 0=(q,0)∧V8 (upd G k (G k++[e])) m'
    |.bad q x=>bO l 4 [59] j 0=(q,x)∧x≠0
   cases hq:qJ l j 4 [59]with
   |bad q x=>rw[hq]at hm;exact hm
   |ok u q=>rw[hq]at hm;exact⟨hm,hp⟩
theorem ab6{m:Md}(hw:∀k,k<8→ah l i 3 (ji k)=false):m_ l m i=.bad i 16:=by
 unfold m_ rH;rw[show ah l i 3 kV=false from hw 0 (by omega),show ah l i 3 kW=false from hw 1 (by omega),show ah l i 3 iA=false from hw 2 (by omega),show ah l i 3 eZ=false from hw 3 (by omega),show ah l i 3 fE=false from hw 4 (by omega),show ah l i 3 fP=false from hw 5 (by omega),show ah l i 3 jL=false from hw 6 (by omega),show ah l i 3 pI=false from hw 7 (by omega)]
 rfl
end
open Go.RowKit
set_option linter.unusedSimpArgs false
set_option maxHeartbeats 16000000
theorem Hl{o:Array Oper}{i:Nat}{x:Oper}(h:o.toList[i]?=some x):o[i]?=some x:=by simpa using h
theorem ahP:(Tryz.prog.info? 45).map (fun i=>(i.zero,i.size,i.bytes))=some (some (.agg #[.string ⟨#[]⟩,.bool false,.int .i64 0,.int .i64 0]),4,40):=by kernel_rfl
theorem agi{l:List Tok}{i:Nat}{x:Int}(h0:i≤l.length)(h:(nJ l i x).2.2=0):(nJ l i x).2.1≤l.length:=by
 have h1:=Hf (x:=x) h0;have h2:=zX (l:=l) (k:=4) (s:=[58]) (x:=(bX l i x).2.2) h1;unfold nJ
 dsimp only
 split
 ·rename_i hb
  have:=Ck hb.2;show _+1≤_;omega
 ·exact Yu (zX (Yu h2))
theorem YJ(R:Nat)(A:Option Addr)(c i B:Nat)(l:List Tok)(V:Nat→Value)(X:Nat→List (List Value))(G:Nat→List El)(w:World)(hw:ah l i 3 (ji 0)=true)(hR:kF w R A l.length c i 0 V)(hP:iI w R A c l)(hM:BJ w B R V X G)(jU:B≤R)(hA:∀a,A=some a→a.block<B)(hG:(G 0).length≤64) :
 Calls Tryz.prog 15 #[.pointer (some ⟨R,0,none⟩)] w (qg R A c l B w (if (G 0).length<64 then bO l 4 [59] (kC l 0 (i+1)).2.1 (kC l 0 (i+1)).2.2 else(i,18)) (if (G 0).length<64 then upd G 0 (G 0++[(kC l 0 (i+1)).1])else G)):=by
 obtain⟨F,HF⟩:=ak (qg R A c l B w (if (G 0).length<64 then bO l 4 [59] (kC l 0 (i+1)).2.1 (kC l 0 (i+1)).2.2 else(i,18)) (if (G 0).length<64 then upd G 0 (G 0++[(kC l 0 (i+1)).1])else G));rw[←HF];have hlen:=hP.len;have ax:=hP.cap;have aQ:=hP.bU;unfold maxLen at aQ;have HP:=Hd hP;obtain⟨b,off,Yw,bd,bg,a6,x0,x2⟩:=uL hP hw;obtain⟨a,cp,hV,aJ,Yx⟩:=hM.shape (k:=0) (by omega);obtain⟨nk,FP⟩:=ak (G 0).length;rw[←FP]at hV aJ hG HF;have ai:=hR.cm (k:=0) (by omega);rw[hV]at ai;have HV:=Hd hV;have HR:=Hd hR;have HM:=Hd hM;have c0:=hR.c0;have c1:=hR.c1;have fC:=hR.lt;have af:B≤w.heap.size:=by omega
 have bj:0<l.length:=by omega
 have ab:Hid (∀W,kF W R A l.length c (i+1) 0 V→Below B w W→Calls Tryz.prog 40 #[.pointer (some ⟨R,0,none⟩)] W (fun e w'=>e=.returned (.agg #[.string (nJ l (i+1) 0).1.1,.bool (nJ l (i+1) 0).1.2.1,.int .i64 (nJ l (i+1) 0).1.2.2.1,.int .i64 (nJ l (i+1) 0).1.2.2.2])∧Er R A l.length c V (nJ l (i+1) 0).2.1 (nJ l (i+1) 0).2.2 W w')):=fun W hr hb=>ad8 R A c (i+1) l 0 V W hr (HP.below hb hA) (by omega);have FQ:=Hd (fun m=>qL R A l.length c i nk V (w.drewN m) hR (by omega) (by omega));obtain⟨n,HN⟩:=ak l.length;rw[←HN]at c0 ax a6 hlen;have bh:(0:Int)≤(i:Int):=by omega
 have bi:(i:Int)<(n:Int):=by omega
 have HA:=Hd hA;subst Yw;clear hA hV hR hP hM hw;simp only[ji,kV,Nat.reduceAdd]at x2 ai
 go_enter_defers Tryz.func15,Tryz.ntmps15
 go_wp2_with fail
 go_quiet (fail)
 go_wp2_with fail
 go_quiet (fail)
 go_wp2_with fail;refine(FQ _).mono ?_;rintro e w1 ⟨rfl,Y⟩
 by_cases I:nk<64
 ·rw[iP I,iP I]at Y;rw[iP I,iP I]at HF;have aE:decide (nk<64)=true:=decide_eq_true I;have J:=Y.2.2;have fA:Hid (DS w B R (some ⟨b,off,none⟩) l.length c V X G (i+1) 0 (fun _=>True) (EW B R V) w1):=⟨Y.1,HM.move (fun q _ hl hR=>Y.2.1.block q hl hR) (Nat.le_of_eq J.symm),b_ (w:=w) ⟨Y.2.1.os,Y.2.1.tape,Y.2.1.output,Nat.le_of_eq J.symm,Y.2.1.block⟩ jU af,jU,by rw[J];exact af⟩;clear Y;obtain⟨i0,aS,a7,a8,ba⟩:=info_parts ahP;have ru:Hid (kC l 0 (i+1)=(.var ⟨(nJ l (i+1) 0).1.1,(nJ l (i+1) 0).1.2.1,(nJ l (i+1) 0).1.2.2.1,(nJ l (i+1) 0).1.2.2.2⟩,(nJ l (i+1) 0).2)):=rfl;have zy:Hid ((nJ l (i+1) 0).2.2=0→(nJ l (i+1) 0).2.1≤l.length):=agi (by have:=HN.out;omega)
  generalize nJ l (i+1) 0=tt at ab ru zy
  obtain⟨⟨s,bo,lo,hh⟩,j,y⟩:=tt;simp only at ab ru zy;have HE:Hid ((kC l 0 (i+1)).1=.var ⟨s,bo,lo,hh⟩):=by show _=_;rw[ru]
  have az:Hid ((kC l 0 (i+1)).2=(j,y)):=by show _=_;rw[ru]
  rw[az]at HF;simp only at HF;have Yy:=zy;clear ru az zy;rw[aE];clear aE;go_wp2_with fail;refine wp_region_noPanic ?_;refine wp_region_held_drew (S:=fun _=>True) (by kernel_rfl) trivial (fun _=>?_);have hT:True:=trivial;have Yz:(0:Int)≤(nk:Int):=by omega
  have YA:(nk:Int)<(nk:Int)+1:=by omega
  obtain⟨O,ag⟩:=aj w1.drew;have D:Hid (DS w B R (some ⟨b,off,none⟩) l.length c V X G (i+1) 0 (fun _=>True) (EW B R V) O):=by show DS _ _ _ _ _ _ _ _ _ _ _ _ _ _;rw[ag];exact fA.only (fA.bN.drewN 1) (Only.refl.drewN 1)
  obtain⟨ws,aa⟩:=aj w1.heap.size;have kY:Hid (ws≤O.heap.size):=by show _≤_;rw[aa,ag];exact lr _
  have bb:Hid (∀q,(V 0).ownBlock=some q→q<ws):=fun q hq=>by rw[aa];exact(fA.own.lt 0 (by omega) q hq).2.1
  have SI:Hid (∀j,j<8→∀q,(V j).ownBlock=some q→q<ws):=fun j hj q hq=>by rw[aa];exact(fA.own.lt j hj q hq).2.1
  have KV:Hid (B≤ws):=by show _≤_;rw[aa];exact fA.big
  have BI:Hid (R<ws):=by show _<_;rw[aa];exact fA.bN.lt
  have HT:=ab;rw[←ag];clear ag aa fA ab c0 c1 x0 x2 ai FQ J
  repeat
   (first|refine aI 0 (v:=?_) rfl ?hy ?_|refine aI 1 (v:=?_) rfl ?hy ?_|refine aI 2 (v:=?_) rfl ?hy ?_|refine aI 3 (v:=?_) rfl ?hy ?_|refine aI 5 (v:=?_) rfl ?hy ?_|refine aI 9 (v:=?_) rfl ?hy ?_|refine aI 10 (v:=?_) rfl ?hy ?_
    case hy=>
     intro w0 hS;clear hS;go_simp
     (first|done|with_reducible rfl)
    try simp only[Act.put,aT,aU,aV])
  iterate 5
   all_goals first
    |refine Rd (rs:=[4,6]) (by decide +kernel) (by simp) (Rc (Hl rfl) (fun K hK=>?_) (Rc (Hl rfl) (fun K hK=>?_) Rn))
    |refine Rd (rs:=[4,7]) (by decide +kernel) (by simp) (Rc (Hl rfl) (fun K hK=>?_) (Rc (Hl rfl) (fun K hK=>?_) Rn))
    |refine Rd (rs:=[6]) (by decide +kernel) (by simp) (Rc (Hl rfl) (fun K hK=>?_) Rn)
    |refine Rd (rs:=[7]) (by decide +kernel) (by simp) (Rc (Hl rfl) (fun K hK=>?_) Rn)
    |refine Rd (rs:=[4]) (by decide +kernel) (by simp) (Rc (Hl rfl) (fun K hK=>?_) Rn)
    |refine Rd (rs:=[8]) (by decide +kernel) (by simp) (Rc (Hl rfl) (fun K hK=>?_) Rn)
    |refine Rd (rs:=[11]) (by decide +kernel) (by simp) (Rc (Hl rfl) (fun K hK=>?_) Rn)
    |fail
   all_goals first
    |(refine Tj ?_
      have y3:=D.bN.cm (k:=0) (by omega);rw[HV]at y3;simp only[Nat.reduceAdd]at y3;go_simp;clear y3;refine hK.out _ O trivial (fun _=>?_);clear hK K
      try simp only[Act.put,aT,aU,aV])
    |(refine WE ?_
      go_simp;(with_reducible refine(HT.out _ D.out.bN D.out.mW).mono ?_);rintro e We ⟨rfl,ao⟩;refine hK.out _ _ trivial (fun _=>?_);clear hK K;(try simp only[Act.put,aT,aU,aV]);have aF:=ao.2.size;replace D:=Hd (D.only ao.1 ao.2);replace kY:Hid (ws≤We.heap.size):=Nat.le_trans kY aF;clear ao aF O
      rename World=>O)
    |(refine QI ?_
      go_simp;refine hK.out _ (O.alloc (.cells #[.string s,.bool bo,.int .i64 lo,.int .i64 hh] 45)) trivial (fun _=>?_);clear hK K;(try simp only[Act.put,aT,aU,aV]);obtain⟨z,hz⟩:=aj O.heap.size;obtain⟨We,hV⟩:=aj (O.alloc (.cells #[.string s,.bool bo,.int .i64 lo,.int .i64 hh] 45));have av:=dz hV;have HZ:=jZ hV hz;replace D:=Hd (D.below av);replace kY:Hid (ws≤We.heap.size):=Nat.le_trans kY av.size;rw[←hV,←hz];clear hV hz av O
      rename World=>O)
    |(refine Gw ?_
      have y3:=D.bN.cm (k:=0) (by omega);have f3:=D.bN.frozen (3+0);have FT:=D.bN.lt;simp only[Nat.reduceAdd]at y3 f3;go_simp;clear y3 f3 FT;refine hK.out _ _ trivial (fun _=>?_);clear hK K
      try simp only[Act.put,aT,aU,aV])
    |(refine step_append_lies _ (by rfl) _ _ _ (by rfl) B 45 i0 (.agg #[.string ⟨#[]⟩,.bool false,.int .i64 0,.int .i64 0]) 4 40 Tryz.underlying23 aS a7 a8 ba rfl (by decide) (.slice a nk cp) nk (X 0).flatten (by rfl) (by have h:=D.own.own 0 (by omega) trivial;rw[HV,←FP]at h;exact h) ⟨z,0,none⟩ 1 1 [.string s,.bool bo,.int .i64 lo,.int .i64 hh] (by rfl) (by rfl) (World.news_of_block HZ) (by simp[Value.oneCell']) (by decide) (by unfold maxLen;omega) (by omega) D.big _ rfl ?_
      intro g cap We dN dO ku yV;refine hK.out _ _ trivial (fun _=>?_);clear hK K;(try simp only[Act.put,aT,aU,aV]);have xZ:Hid (O.grownBy We (V 0).ownBlock):=by show World.grownBy _ _ _;rw[HV];exact dO
      have ae:Hid ((V 0).ownBlock=some g∨g=O.heap.size):=by show _∨_;rw[HV];exact ku
      have ar:=Hd dN
      have aP:g≠R:=by
       rcases ae.out with h|h
       ·exact(D.own.lt 0 (by omega) g h).2.2
       ·have:=D.bN.lt;omega
      have MU:Hid (∀j,j<8→j≠0→(V j).ownBlock≠some g):=fun j hj hne e=>by
       rcases ae.out with h|h
       ·exact D.own.ap j 0 hj (by omega) hne g e h
       ·have:=(D.own.lt j hj g e).2.1;omega
      replace kY:Hid (ws≤We.heap.size):=Nat.le_trans kY xZ.size;replace D:=Hd (D.grown (k:=0) (by omega) xZ ae);clear dN dO ku xZ ae yV HZ O
      rename World=>O)
    |fail
   all_goals
    repeat
     (first|refine aI 0 (v:=?_) rfl ?hy ?_|refine aI 1 (v:=?_) rfl ?hy ?_|refine aI 2 (v:=?_) rfl ?hy ?_|refine aI 3 (v:=?_) rfl ?hy ?_|refine aI 5 (v:=?_) rfl ?hy ?_|refine aI 9 (v:=?_) rfl ?hy ?_|refine aI 10 (v:=?_) rfl ?hy ?_
      case hy=>
       intro w0 hS;clear hS;go_simp
       (first|done|with_reducible rfl)
      try simp only[Act.put,aT,aU,aV])
  all_goals refine wpAnyH_done (by decide +kernel) ?_ _
  all_goals
   refine NoPanic.normal ?_
   have ay:=D.own.put (k:=0) (w':=O.setCell ⟨R,3,none⟩ (.slice (some ⟨g,0,none⟩) (nk+1) cap)) (e:=(kC l 0 (i+1)).1) (by omega) ar (by rw[FP]) aP MU (fun _ h=>h.2) (S0:=fun q=>ws≤q∧q≠g) (by
    rw[HE]
    exact rfl) (fun q _ h=>⟨by have:=KV.out;omega,by have:=BI.out;omega,h.2,fun j hj e=>by have:=SI j hj q e;omega⟩) (setAt _)
   have Ba:=D.bN.put (k:=0) (by omega) (.slice (some ⟨g,0,none⟩) (nk+1) cap);have aw:Below B w (O.setCell ⟨R,3,none⟩ (.slice (some ⟨g,0,none⟩) (nk+1) cap)):=D.mW.setCell jU _;have bf:=D.big;obtain⟨WF,FU⟩:=aj (O.setCell ⟨R,3,none⟩ (.slice (some ⟨g,0,none⟩) (nk+1) cap));have bk:WF.heap.size=O.heap.size:=by rw[FU];simp
   simp only[Nat.reduceAdd]at Ba;rw[←FU]at ay Ba aw⊢;have gy:=Hd ay;have YC:=Hd Ba;have oU:=Hd aw;clear ay Ba aw FU;go_wp2_with fail;exact gI HF YC gy oU (HP.below oU HA) jU (by omega) (fun h=>by have:=Yy h;have:=HN.out;omega) _ (by first|exact Or.inl rfl|exact Or.inr rfl)
 ·rw[iN I,iN I]at Y;rw[iN I,iN I]at HF;have J:=Y.2.2;have hm:bO l 4 [59] i 18=(i,18):=rfl;rw[←hm]at HF;have fA:Hid (DS w B R (some ⟨b,off,none⟩) l.length c V X G i 18 (fun _=>True) (EW B R V) w1):=⟨Y.1,HM.move (fun q _ hl hR=>Y.2.1.block q hl hR) (Nat.le_of_eq J.symm),b_ (w:=w) ⟨Y.2.1.os,Y.2.1.tape,Y.2.1.output,Nat.le_of_eq J.symm,Y.2.1.block⟩ jU af,jU,by rw[J];exact af⟩;rw[dF I];clear Y hm c0 c1 x0 x2 ai FQ ab J;go_wp2_with fail;exact gI HF fA.bN fA.own fA.mW (HP.below fA.mW HA) jU fA.big (fun _=>by omega) _ (by first|exact Or.inl rfl|exact Or.inr rfl)
theorem aeb{w:World}{R:Nat}{A:Option Addr}{c i:Nat}{l:List Tok}(hP:iI w R A c l)(hi:i<l.length):∃(t:Tok)(b off:Nat),l[i]?=some t∧A=some ⟨b,off,none⟩∧b≠R∧b<w.heap.size∧w.cell? ⟨b,off+i*4,none⟩=some (.int .i64 t.kind)∧w.cell? ⟨b,off+i*4+2,none⟩=some (.string ⟨t.text.toArray⟩):=by
 obtain⟨t,ht⟩:∃t,l[i]?=some t:=⟨_,gG hi⟩
 rcases hP.toks with h0|⟨b,off,rfl,hb,hc⟩
 ·rw[h0]at hi;simp at hi
 have D:=hc i t ht 0 (by omega);have G:=hc i t ht 2 (by omega);simp only[fZ,Nat.add_zero]at D G;exact⟨t,b,off,ht,rfl,hP.apart _ rfl,hb,D,G⟩
theorem YP(R:Nat)(A:Option Addr)(c i B:Nat)(l:List Tok)(V:Nat→Value)(X:Nat→List (List Value))(G:Nat→List El)(w:World)(hi:i<l.length)(hw:∀k,k<8→ah l i 3 (ji k)=false)(hR:kF w R A l.length c i 0 V)(hP:iI w R A c l)(hM:BJ w B R V X G)(jU:B≤R)(hA:∀a,A=some a→a.block<B) :
 Calls Tryz.prog 15 #[.pointer (some ⟨R,0,none⟩)] w (qg R A c l B w (i,16) G):=by
 obtain⟨F,HF⟩:=ak (qg R A c l B w (i,16) G);rw[←HF];have hlen:=hP.len;have aa:=hP.cap;have aQ:=hP.bU;unfold maxLen at aQ;have HP:=Hd hP;have HA:=Hd hA;obtain⟨t,b,off,ht,rfl,ae,af,x0,x2⟩:=aeb hP hi
 have ab:t.kind=3→∀k,k<8→t.text≠ji k:=fun Y k h8 he=>by
  have h:=hw k h8;unfold ah at h;rw[ht]at h;simp[Y,he]at h
 have HM:=Hd hM;have c0:=hR.c0;have c1:=hR.c1;have fC:=hR.lt;have O:B≤w.heap.size:=by omega
 have vN:Hid (∀m,Calls Tryz.prog 45 #[.pointer (some ⟨R,0,none⟩),.int .i64 16] (w.drewN m) fun e w'=>e=.returned (.tuple #[])∧Ct R (some ⟨b,off,none⟩) l.length c V i 16 (w.drewN m) w'):=fun m=>by
  have h:=qK R (some ⟨b,off,none⟩) l.length c i 0 16 V (w.drewN m) (hR.drewN m);rw[iP rfl]at h;exact h
 obtain⟨n,HN⟩:=ak l.length;rw[←HN]at c0 aa hi hlen;have ag:(0:Int)≤(i:Int):=by omega
 have ai:(i:Int)<(n:Int):=by omega
 clear hR hP hM hw ht hA
 by_cases Y:t.kind=3
 ·rw[Y]at x0;have hw:=ab Y;obtain⟨T,hT⟩:∃T:ByteArray,T=⟨t.text.toArray⟩:=⟨_,rfl⟩;have hne:∀s:Bs,t.text≠s→(T.toList==s)=false:=fun s hs=>by rw[hT,ByteArray.toList_eq];simpa using hs
  have n0:=hne [118,97,114] (hw 0 (by omega));have n1:=hne [100,101,102] (hw 1 (by omega));have n2:=hne [105,110,105,116] (hw 2 (by omega));have n3:=hne [105,110,118,97,114] (hw 3 (by omega));have n4:=hne [110,101,120,116] (hw 4 (by omega));have n5:=hne [116,114,97,110,115] (hw 5 (by omega));have n6:=hne [102,97,105,114] (hw 6 (by omega));have n7:=hne [115,112,101,99] (hw 7 (by omega));rw[←hT]at x2;clear Y hw ab hne hT
  go_enter_defers Tryz.func15,Tryz.ntmps15
  go_wp2_with fail
  go_quiet (fail)
  go_wp2_with fail
  go_quiet (fail)
  go_wp2_with fail;refine(vN _).mono ?_;rintro e w1 ⟨rfl,I⟩;have D:=I.2.2;have J:Hid (DS w B R (some ⟨b,off,none⟩) l.length c V X G i 16 (fun _=>True) (EW B R V) w1):=⟨I.1,HM.move (fun q _ hl hR=>I.2.1.block q hl hR) (Nat.le_of_eq D.symm),b_ (w:=w) ⟨I.2.1.os,I.2.1.tape,I.2.1.output,Nat.le_of_eq D.symm,I.2.1.block⟩ jU O,jU,by rw[D];exact O⟩;have hm:bO l 4 [59] i 16=(i,16):=rfl;rw[←hm]at HF;clear I D hm;go_wp2_with fail;exact gI HF J.bN J.own J.mW (HP.below J.mW HA) jU J.big (fun _=>by omega) _ (by first|exact Or.inl rfl|exact Or.inr rfl)
 ·have ao:(t.kind==3)=false:=by simpa using Y
  clear Y ab
  go_enter_defers Tryz.func15,Tryz.ntmps15
  go_wp2_with fail
  go_quiet (fail)
  go_wp2_with fail;refine(vN _).mono ?_;rintro e w1 ⟨rfl,I⟩;have D:=I.2.2;have J:Hid (DS w B R (some ⟨b,off,none⟩) l.length c V X G i 16 (fun _=>True) (EW B R V) w1):=⟨I.1,HM.move (fun q _ hl hR=>I.2.1.block q hl hR) (Nat.le_of_eq D.symm),b_ (w:=w) ⟨I.2.1.os,I.2.1.tape,I.2.1.output,Nat.le_of_eq D.symm,I.2.1.block⟩ jU O,jU,by rw[D];exact O⟩;have hm:bO l 4 [59] i 16=(i,16):=rfl;rw[←hm]at HF;clear I D hm;go_wp2_with fail;exact gI HF J.bN J.own J.mW (HP.below J.mW HA) jU J.big (fun _=>by omega) _ (by first|exact Or.inl rfl|exact Or.inr rfl)
end Go.Proofs.YtkhoeoilamddaaaGreatDoor
