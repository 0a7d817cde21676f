/- Walks and plain words: MtL MtM MtN MdX MtO. -/
import Derived.Test.YtkhoeoilamddaaaGreatDoorVMtHc
import Derived.Test.YtkhoeoilamddaaaGreatDoorVMtJ
import Derived.Deep.LoopGhost
namespace Go.Proofs.YtkhoeoilamddaaaGreatDoor
open Go.RowKit
set_option linter.unusedVariables false
set_option maxRecDepth 100000
set_option maxHeartbeats 16000000
theorem tk_atM {w:World} {R:Nat} {A:Option Addr} {c i:Nat} {l:List Tok} (hP:PTok w R A c l) (hi:i<l.length):∃ (t:Tok) (b off:Nat),l[i]?=some t∧A=some ⟨b,off,none⟩∧b≠R∧b<w.heap.size∧w.cell? ⟨b,off+i*4,none⟩=some (.int .i64 t.kind)∧w.cell? ⟨b,off+i*4+2,none⟩=some (.string ⟨t.text.toArray⟩):=by
 obtain ⟨t,ht⟩:∃ t,l[i]?=some t:=⟨_,gG hi⟩
 rcases hP.toks with h0 | ⟨b,off,rfl,hb,hc⟩
 · rw [h0] at hi;simp at hi
 have x0:=hc i t ht 0 (by omega);have x2:=hc i t ht 2 (by omega);simp only [tokV,Nat.add_zero] at x0 x2;exact ⟨t,b,off,ht,rfl,hP.apart _ rfl,hb,x0,x2⟩
theorem mdeclO_any (R:Nat) (A:Option Addr) (c i B:Nat) (l:List Tok) (V:Nat→Value) (X:Nat→List (List Value)) (G:Nat→List El) (w:World) (hi:i<l.length) (hw:∀ k,k<8→isTk l i 3 (wordOf k)=false) (hR:MRd w R A l.length c i 0 V) (hP:PTok w R A c l) (hM:MAll w B R V X G) (hBR:B≤R) (hA:∀ a,A=some a→a.block<B) :
 Calls Tryz.prog 15 #[.pointer (some ⟨R,0,none⟩)] w (DPost R A c l B w (i,16) G):=by
 obtain ⟨F,HF⟩:=exh_ (DPost R A c l B w (i,16) G);rw [←HF.out];have hlen:=hP.len;have hcap:=hP.cap;have hcapm:=hP.capm;unfold maxLen at hcapm;have HP:=Hd hP;have HA:=Hd hA;obtain ⟨t,b,off,ht,rfl,hbR,hbw,x0,x2⟩:=tk_atM hP hi
 have hwk:t.kind=3→∀ k,k<8→t.text≠wordOf k:=fun hk k h8 he=>by
  have h:=hw k h8;unfold isTk at h;rw [ht] at h;simp [hk,he] at h
 have HM:=Hd hM;have c0:=hR.c0;have c1:=hR.c1;have hRlt:=hR.lt;have hBw:B≤w.heap.size:=by omega
 have HFA:Hid (∀ m,Calls Tryz.prog 45 #[.pointer (some ⟨R,0,none⟩),.int .i64 16] (w.drewN m) fun e w'=>e=.returned (.tuple #[])∧MGo R (some ⟨b,off,none⟩) l.length c V i 16 (w.drewN m) w'):=fun m=>by
  have h:=mfail_any R (some ⟨b,off,none⟩) l.length c i 0 16 V (w.drewN m) (hR.drewN m);rw [iP rfl] at h;exact h
 obtain ⟨n,HN⟩:=exh_ l.length;rw [←HN.out] at c0 hcap hi hlen;have hk0:(0:Int)≤(i:Int):=by omega
 have hk1:(i:Int)<(n:Int):=by omega
 clear hR hP hM hw ht hA
 by_cases hk:t.kind=3
 · rw [hk] at x0;have hw:=hwk hk;obtain ⟨T,hT⟩:∃ T:ByteArray,T=⟨t.text.toArray⟩:=⟨_,rfl⟩;have hne:∀ s:Bs,t.text≠s→(T.toList == s)=false:=fun s hs=>by rw [hT,ByteArray.toList_eq];simpa using hs
   have n0:=hne [118,97,114] (hw 0 (by omega));have n1:=hne [100,101,102] (hw 1 (by omega));have n2:=hne [105,110,105,116] (hw 2 (by omega));have n3:=hne [105,110,118,97,114] (hw 3 (by omega));have n4:=hne [110,101,120,116] (hw 4 (by omega));have n5:=hne [116,114,97,110,115] (hw 5 (by omega));have n6:=hne [102,97,105,114] (hw 6 (by omega));have n7:=hne [115,112,101,99] (hw 7 (by omega));rw [←hT] at x2;clear hk hw hwk hne hT
   go_enter_defers Tryz.func15,Tryz.ntmps15
   go_wp2_with fail
   go_quiet (fail)
   go_wp2_with fail
   go_quiet (fail)
   go_wp2_with fail;refine (HFA.out _).mono ?_;rintro e w1 ⟨rfl,hg⟩;have hs1:=hg.2.2;have HS1:Hid (DS w B R (some ⟨b,off,none⟩) l.length c V X G i 16 (fun _=>True) (SOf B R V) w1):=⟨hg.1,HM.out.move (fun q _ hl hR=>hg.2.1.block q hl hR) (Nat.le_of_eq hs1.symm),only_belowB (w:=w) ⟨hg.2.1.os,hg.2.1.tape,hg.2.1.output,Nat.le_of_eq hs1.symm,hg.2.1.block⟩ hBR hBw,hBR,by rw [hs1];exact hBw⟩;have hm:mustS l 4 [59] i 16=(i,16):=rfl;rw [←hm] at HF;clear hg hs1 hm;go_wp2_with fail;exact decl_door HF.out HS1.out.rdr HS1.out.own HS1.out.bel (HP.out.below HS1.out.bel HA.out) hBR HS1.out.big (fun _=>by omega) _ (by first | exact Or.inl rfl | exact Or.inr rfl)
 · have hkb:(t.kind == 3)=false:=by simpa using hk
   clear hk hwk
   go_enter_defers Tryz.func15,Tryz.ntmps15
   go_wp2_with fail
   go_quiet (fail)
   go_wp2_with fail;refine (HFA.out _).mono ?_;rintro e w1 ⟨rfl,hg⟩;have hs1:=hg.2.2;have HS1:Hid (DS w B R (some ⟨b,off,none⟩) l.length c V X G i 16 (fun _=>True) (SOf B R V) w1):=⟨hg.1,HM.out.move (fun q _ hl hR=>hg.2.1.block q hl hR) (Nat.le_of_eq hs1.symm),only_belowB (w:=w) ⟨hg.2.1.os,hg.2.1.tape,hg.2.1.output,Nat.le_of_eq hs1.symm,hg.2.1.block⟩ hBR hBw,hBR,by rw [hs1];exact hBw⟩;have hm:mustS l 4 [59] i 16=(i,16):=rfl;rw [←hm] at HF;clear hg hs1 hm;go_wp2_with fail;exact decl_door HF.out HS1.out.rdr HS1.out.own HS1.out.bel (HP.out.below HS1.out.bel HA.out) hBR HS1.out.big (fun _=>by omega) _ (by first | exact Or.inl rfl | exact Or.inr rfl)
def Sim {α β:Type} (r:Rs α) (s:β×Nat×Int) (f:β→α):Prop:=match r with
 | .ok x j=>f s.1=x∧s.2=(j,0)
 | .bad j e=>s.2=(j,e)∧e≠0
def SimU (r:Rs Unit) (s:Nat×Int):Prop:=match r with
 | .ok _ j=>s=(j,0)
 | .bad j e=>s=(j,e)∧e≠0
theorem n00:¬((0:Int)≠0):=fun h=>h rfl
section
variable {l:List Tok} {i:Nat} {x:Int}
theorem mustS_bad {k:Int} {s:Bs} (h:x≠0):mustS l k s i x=(i,x):=by unfold mustS;rw [iP h]
theorem nameS_bad (h:x≠0):(nameS l i x).2=(i,x):=by unfold nameS;rw [iP h]
theorem nuS_bad (h:x≠0):(nuS l i x).2=(i,x):=by unfold nuS;rw [iP h]
theorem termS_bad (h:x≠0):(termS l i x).2=(i,x):=by unfold termS;rw [iP h]
theorem formS_bad (h:x≠0):(formS l i x).2=(i,x):=by unfold formS;rw [iP h]
theorem must_sim (k:Int) (s:Bs):SimU (mustP l i k s) (mustS l k s i 0):=by
 unfold mustP mustS;rw [iN n00];cases isTk l i k s
 · exact ⟨rfl,by decide⟩
 · exact rfl
theorem name_sim:Sim (nameP l i) (nameS l i 0) id:=by
 unfold nameP nameS;rw [iN n00];cases isKd l i 2
 · exact ⟨rfl,by decide⟩
 · exact ⟨rfl,rfl⟩
theorem nu_sim:Sim (numP l i) (nuS l i 0) id:=by
 unfold numP nuS signS;rw [iN n00];cases isTk l i 4 [45]
 · simp only [Bool.false_eq_true,if_false];cases isKd l i 1
   · exact ⟨rfl,by decide⟩
   · exact ⟨rfl,rfl⟩
 · simp only [if_true];cases isKd l (i+1) 1
   · exact ⟨rfl,by decide⟩
   · exact ⟨rfl,rfl⟩
theorem tm_sim:Sim (tmP l i) (termS l i 0) id:=by
 unfold tmP termS;rw [iN n00]
 by_cases h:(takeT l i).2.2≠0
 · rw [iP h];exact ⟨rfl,h⟩
 · rw [iN h];have h0:(takeT l i).2.2=0:=Decidable.not_not.1 h;exact ⟨rfl,by rw [←h0]⟩
theorem fm_sim:Sim (fmP l i) (formS l i 0) id:=by
 unfold fmP formS;rw [iN n00]
 by_cases h:(takeF l i).2.2≠0
 · rw [iP h];exact ⟨rfl,h⟩
 · rw [iN h];have h0:(takeF l i).2.2=0:=Decidable.not_not.1 h;exact ⟨rfl,by rw [←h0]⟩
theorem named_sim (s:Bs):match namedP l s i with
 | .ok n j=>(nameS l i 0).1=n∧mustS l 4 s (nameS l i 0).2.1 (nameS l i 0).2.2=(j,0)
 | .bad j e=>mustS l 4 s (nameS l i 0).2.1 (nameS l i 0).2.2=(j,e)∧e≠0:=by
 have h:=name_sim (l:=l) (i:=i);unfold namedP
 cases hn:nameP l i with
 | bad j e=>
  rw [hn] at h;obtain ⟨h1,h2⟩:=h;show mustS l 4 s (nameS l i 0).2.1 (nameS l i 0).2.2=(j,e)∧e≠0;rw [h1];exact ⟨mustS_bad h2,h2⟩
 | ok n j=>
  rw [hn] at h;obtain ⟨h1,h2⟩:=h;have hm:=must_sim (l:=l) (i:=j) 4 s
  show match (mustP l j 4 s).then fun _ k=>.ok n k with
   | .ok n j=>(nameS l i 0).1=n∧mustS l 4 s (nameS l i 0).2.1 (nameS l i 0).2.2=(j,0)
   | .bad j e=>mustS l 4 s (nameS l i 0).2.1 (nameS l i 0).2.2=(j,e)∧e≠0
  rw [h2]
  cases hp:mustP l j 4 s with
  | bad k e=>rw [hp] at hm;exact hm
  | ok u k=>rw [hp] at hm;exact ⟨h1,hm⟩
def vrOf (v:ByteArray×Bool×Int×Int):Vr:=⟨v.1,v.2.1,v.2.2.1,v.2.2.2⟩
theorem var_sim:Sim (varP l i) (varS l i 0) vrOf:=by
 have h:=named_sim (l:=l) (i:=i) [58];unfold varP varS
 dsimp only
 cases hn:namedP l [58] i with
 | bad j e=>
  rw [hn] at h;obtain ⟨h1,h2⟩:=h;show (_:(ByteArray×Bool×Int×Int)×Nat×Int).2=(j,e)∧e≠0;rw [h1];rw [iN (fun k=>h2 k.1)];refine ⟨?_,h2⟩;show ((nuS l _ _).2.1,(nuS l _ _).2.2)=_;rw [nuS_bad (l:=l) (i:=j) h2];rw [mustS_bad h2,nuS_bad h2]
 | ok s j=>
  rw [hn] at h;obtain ⟨h1,h2⟩:=h;rw [h2];show Sim (if isTk l j 3 wBool then _ else _) _ _
  by_cases hb:isTk l j 3 wBool=true
  · rw [iP hb,iP ⟨rfl,hb⟩];exact ⟨by rw [←h1];rfl,rfl⟩
  · rw [iN hb,iN (fun k=>hb k.2)];have ha:=nu_sim (l:=l) (i:=j)
    cases hp:numP l j with
    | bad k e=>
     rw [hp] at ha;obtain ⟨a1,a2⟩:=ha;refine ⟨?_,a2⟩;show ((nuS l _ _).2.1,(nuS l _ _).2.2)=_;rw [a1,mustS_bad a2,nuS_bad a2]
    | ok a k=>
     rw [hp] at ha;obtain ⟨a1,a2⟩:=ha;have hm:=must_sim (l:=l) (i:=k) 4 [46,46];rw [a2];show Sim ((mustP l k 4 [46,46]).then _) _ _
     cases hq:mustP l k 4 [46,46] with
     | bad m e=>
      rw [hq] at hm;obtain ⟨m1,m2⟩:=hm;refine ⟨?_,m2⟩;show ((nuS l _ _).2.1,(nuS l _ _).2.2)=_;rw [m1,nuS_bad m2]
     | ok u m=>
      rw [hq] at hm;have hc:=nu_sim (l:=l) (i:=m);rw [show mustS l 4 [46,46] k 0=(m,0) from hm];show Sim ((numP l m).then _) _ _
      cases hr:numP l m with
      | bad p e=>
       rw [hr] at hc;exact ⟨hc.1,hc.2⟩
      | ok z p=>
       rw [hr] at hc;refine ⟨?_,hc.2⟩;show (⟨(nameS l i 0).1,false,(nuS l j 0).1,(nuS l m 0).1⟩:Vr)=⟨s,false,a,z⟩;rw [h1,show (nuS l j 0).1=a from a1,show (nuS l m 0).1=z from hc.1]
theorem def_sim:Sim (defP l i) (defS l i 0) (fun v=>(⟨v.1,v.2⟩:Df)):=by
 have h:=named_sim (l:=l) (i:=i) [58,61];unfold defP defS
 cases hn:namedP l [58,61] i with
 | bad j e=>
  rw [hn] at h;obtain ⟨h1,h2⟩:=h;rw [h1];exact ⟨termS_bad h2,h2⟩
 | ok s j=>
  rw [hn] at h;obtain ⟨h1,h2⟩:=h;rw [h2];have ht:=tm_sim (l:=l) (i:=j);show Sim ((tmP l j).then _) _ _
  cases hp:tmP l j with
  | bad k e=>rw [hp] at ht;exact ht
  | ok t k=>rw [hp] at ht;exact ⟨by rw [h1];exact congrArg (Df.mk s) ht.1,ht.2⟩
theorem spec_sim:Sim (specP l i) (((nameS l i 0).1,(formS l (mustS l 4 [58] (nameS l i 0).2.1 (nameS l i 0).2.2).1 (mustS l 4 [58] (nameS l i 0).2.1 (nameS l i 0).2.2).2).1),(formS l (mustS l 4 [58] (nameS l i 0).2.1 (nameS l i 0).2.2).1 (mustS l 4 [58] (nameS l i 0).2.1 (nameS l i 0).2.2).2).2) (fun v=>(⟨v.1,v.2⟩:Sp)):=by
 have h:=named_sim (l:=l) (i:=i) [58];unfold specP
 cases hn:namedP l [58] i with
 | bad j e=>
  rw [hn] at h;obtain ⟨h1,h2⟩:=h;rw [h1];exact ⟨formS_bad h2,h2⟩
 | ok s j=>
  rw [hn] at h;obtain ⟨h1,h2⟩:=h;rw [h2];have ht:=fm_sim (l:=l) (i:=j);show Sim ((fmP l j).then _) _ _
  cases hp:fmP l j with
  | bad k e=>rw [hp] at ht;exact ht
  | ok t k=>rw [hp] at ht;exact ⟨by rw [h1];exact congrArg (Sp.mk s) ht.1,ht.2⟩
theorem isTk_word {s s':Bs} (h:isTk l i 3 s=true) (hne:s≠s'):isTk l i 3 s'=false:=by
 unfold isTk at h ⊢
 cases ht:l[i]? with
 | none=>rfl
 | some t=>
  rw [ht] at h;simp only [Bool.and_eq_true,decide_eq_true_iff] at h;simp [h.2,hne]
def cntK (m:Md):Nat→Nat
 | 0=>m.vars.length
 | 1=>m.defs.length
 | 2=>m.init.length
 | 3=>m.invar.length
 | 4=>m.next.length
 | 5=>m.trans.length
 | 6=>m.fair.length
 | _=>m.specs.length
theorem more_then {α:Type} {n:Nat} {p:Nat→Rs α} {f:α→El} {m:Md} {g:α→Md} (hg:∀ x,(f x).put m=g x):((moreP n p i).then fun x j=>(.ok (g x) j:Rs Md))=if 64≤n then .bad i 18 else ((p (i+1)).map f).then fun e j=>.ok (e.put m) j:=by
 unfold moreP Rs.map
 by_cases hn:64≤n
 · rw [iP hn,iP hn];rfl
 · rw [iN hn,iN hn]
   cases p (i+1) with
   | bad j e=>rfl
   | ok x j=>show Rs.ok (g x) j=Rs.ok ((f x).put m) j;rw [hg]
theorem declB_k {k:Nat} (hk:k<8) (hw:isTk l i 3 (wordOf k)=true) (m:Md):declB l m i=if 64≤cntK m k then .bad i 18 else (elP l i).then fun e j=>.ok (e.put m) j:=by
 have hf:∀ s,wordOf k≠s→isTk l i 3 s=false:=fun s hs=>isTk_word hw hs;unfold declB elP
 rcases lt8 hk with rfl | rfl | rfl | rfl | rfl | rfl | rfl | rfl
 · rw [iP (show isTk l i 3 wVar=true from hw),iP (show isTk l i 3 wVar=true from hw)];exact more_then fun _=>rfl
 · rw [hf wVar (by decide)];simp only [Bool.false_eq_true,if_false];rw [iP (show isTk l i 3 wDef=true from hw),iP (show isTk l i 3 wDef=true from hw)];exact more_then fun _=>rfl
 · rw [hf wVar (by decide),hf wDef (by decide)];simp only [Bool.false_eq_true,if_false];rw [iP (show isTk l i 3 wInit=true from hw),iP (show isTk l i 3 wInit=true from hw)];exact more_then fun _=>rfl
 · rw [hf wVar (by decide),hf wDef (by decide),hf wInit (by decide)];simp only [Bool.false_eq_true,if_false];rw [iP (show isTk l i 3 wInvar=true from hw),iP (show isTk l i 3 wInvar=true from hw)];exact more_then fun _=>rfl
 · rw [hf wVar (by decide),hf wDef (by decide),hf wInit (by decide),hf wInvar (by decide)];simp only [Bool.false_eq_true,if_false];rw [iP (show isTk l i 3 wNext=true from hw),iP (show isTk l i 3 wNext=true from hw)];exact more_then fun _=>rfl
 · rw [hf wVar (by decide),hf wDef (by decide),hf wInit (by decide),hf wInvar (by decide),hf wNext (by decide)];simp only [Bool.false_eq_true,if_false];rw [iP (show isTk l i 3 wTrans=true from hw),iP (show isTk l i 3 wTrans=true from hw)];exact more_then fun _=>rfl
 · rw [hf wVar (by decide),hf wDef (by decide),hf wInit (by decide),hf wInvar (by decide),hf wNext (by decide),hf wTrans (by decide)];simp only [Bool.false_eq_true,if_false];rw [iP (show isTk l i 3 wFair=true from hw),iP (show isTk l i 3 wFair=true from hw)];exact more_then fun _=>rfl
 · rw [hf wVar (by decide),hf wDef (by decide),hf wInit (by decide),hf wInvar (by decide),hf wNext (by decide),hf wTrans (by decide),hf wFair (by decide)];simp only [Bool.false_eq_true,if_false];rw [iP (show isTk l i 3 wSpec=true from hw),iP (show isTk l i 3 wSpec=true from hw)];exact more_then fun _=>rfl
theorem sim_map {α β:Type} {r:Rs α} {s:β×Nat×Int} {f:β→α} (h:Sim r s f) (g:α→El) {e:El×Nat×Int} (he:e=(g (f s.1),s.2)):Sim (r.map g) e id:=by
 subst he
 cases r with
 | bad j x=>exact h
 | ok x j=>exact ⟨by show g (f s.1)=g x;rw [h.1],h.2⟩
theorem el_sim {k:Nat} (hk:k<8) (hw:isTk l i 3 (wordOf k)=true):Sim (elP l i) (elS l k (i+1)) id:=by
 have hf:∀ s,wordOf k≠s→isTk l i 3 s=false:=fun s hs=>isTk_word hw hs;unfold elP
 rcases lt8 hk with rfl | rfl | rfl | rfl | rfl | rfl | rfl | rfl
 · rw [iP (show isTk l i 3 wVar=true from hw)];exact sim_map var_sim _ rfl
 · rw [hf wVar (by decide)];simp only [Bool.false_eq_true,if_false];rw [iP (show isTk l i 3 wDef=true from hw)];exact sim_map def_sim _ rfl
 · rw [hf wVar (by decide),hf wDef (by decide)];simp only [Bool.false_eq_true,if_false];rw [iP (show isTk l i 3 wInit=true from hw)];exact sim_map tm_sim _ rfl
 · rw [hf wVar (by decide),hf wDef (by decide),hf wInit (by decide)];simp only [Bool.false_eq_true,if_false];rw [iP (show isTk l i 3 wInvar=true from hw)];exact sim_map tm_sim _ rfl
 · rw [hf wVar (by decide),hf wDef (by decide),hf wInit (by decide),hf wInvar (by decide)];simp only [Bool.false_eq_true,if_false];rw [iP (show isTk l i 3 wNext=true from hw)];exact sim_map def_sim _ rfl
 · rw [hf wVar (by decide),hf wDef (by decide),hf wInit (by decide),hf wInvar (by decide),hf wNext (by decide)];simp only [Bool.false_eq_true,if_false];rw [iP (show isTk l i 3 wTrans=true from hw)];exact sim_map tm_sim _ rfl
 · rw [hf wVar (by decide),hf wDef (by decide),hf wInit (by decide),hf wInvar (by decide),hf wNext (by decide),hf wTrans (by decide)];simp only [Bool.false_eq_true,if_false];rw [iP (show isTk l i 3 wFair=true from hw)];exact sim_map tm_sim _ rfl
 · rw [hf wVar (by decide),hf wDef (by decide),hf wInit (by decide),hf wInvar (by decide),hf wNext (by decide),hf wTrans (by decide),hf wFair (by decide)];simp only [Bool.false_eq_true,if_false];rw [iP (show isTk l i 3 wSpec=true from hw)];exact sim_map spec_sim _ rfl
def GMd (G:Nat→List El) (m:Md):Prop:=G 0=m.vars.map .var∧G 1=m.defs.map .defs∧G 2=m.init.map .init∧G 3=m.invar.map .invar∧G 4=m.next.map .next∧G 5=m.trans.map .trans∧G 6=m.fair.map .fair∧G 7=m.specs.map .spec
theorem GMd.cnt {G:Nat→List El} {m:Md} (h:GMd G m) {k:Nat} (hk:k<8):(G k).length=cntK m k:=by
 obtain ⟨h0,h1,h2,h3,h4,h5,h6,h7⟩:=h
 rcases lt8 hk with rfl | rfl | rfl | rfl | rfl | rfl | rfl | rfl <;> simp [cntK, *]
theorem GMd.put {G:Nat→List El} {m:Md} (h:GMd G m) {k:Nat} (hk:k<8):GMd (upd G k (G k++[(elS l k (i+1)).1])) ((elS l k (i+1)).1.put m):=by
 obtain ⟨h0,h1,h2,h3,h4,h5,h6,h7⟩:=h
 rcases lt8 hk with rfl | rfl | rfl | rfl | rfl | rfl | rfl | rfl <;> simp [GMd,upd,elS,El.put, *]
theorem decl_rel {G:Nat→List El} {m:Md} {k:Nat} (hk:k<8) (hw:isTk l i 3 (wordOf k)=true) (h:GMd G m):match declP l m i with
 | .ok m' j=>(if (G k).length<64 then mustS l 4 [59] (elS l k (i+1)).2.1 (elS l k (i+1)).2.2 else (i,18))=(j,0)∧GMd (if (G k).length<64 then upd G k (G k++[(elS l k (i+1)).1]) else G) m'
 | .bad j e=>(if (G k).length<64 then mustS l 4 [59] (elS l k (i+1)).2.1 (elS l k (i+1)).2.2 else (i,18))=(j,e)∧e≠0:=by
 unfold declP;rw [declB_k hk hw m,←h.cnt hk]
 by_cases h64:64≤(G k).length
 · rw [iP h64,iN (by omega),iN (by omega)];exact ⟨rfl,by decide⟩
 · rw [iN h64,iP (by omega),iP (by omega)];have hs:=el_sim hk hw;have hp:=h.put (l:=l) (i:=i) hk
   cases he:elP l i with
   | bad j e=>
    rw [he] at hs;obtain ⟨h1,h2⟩:=hs;show mustS l 4 [59] (elS l k (i+1)).2.1 (elS l k (i+1)).2.2=(j,e)∧e≠0;rw [h1];exact ⟨mustS_bad h2,h2⟩
   | ok e j=>
    rw [he] at hs;obtain ⟨h1,h2⟩:=hs;rw [h2];have hm:=must_sim (l:=l) (i:=j) 4 [59];rw [show (elS l k (i+1)).1=e from h1] at hp ⊢
    show match (mustP l j 4 [59]).then fun _ k=>(.ok (e.put m) k:Rs Md) with
     | .ok m' q=>mustS l 4 [59] j 0=(q,0)∧GMd (upd G k (G k++[e])) m'
     | .bad q x=>mustS l 4 [59] j 0=(q,x)∧x≠0
    cases hq:mustP l j 4 [59] with
    | bad q x=>rw [hq] at hm;exact hm
    | ok u q=>rw [hq] at hm;exact ⟨hm,hp⟩
theorem decl_none {m:Md} (hw:∀ k,k<8→isTk l i 3 (wordOf k)=false):declP l m i=.bad i 16:=by
 unfold declP declB;rw [show isTk l i 3 wVar=false from hw 0 (by omega),show isTk l i 3 wDef=false from hw 1 (by omega),show isTk l i 3 wInit=false from hw 2 (by omega),show isTk l i 3 wInvar=false from hw 3 (by omega),show isTk l i 3 wNext=false from hw 4 (by omega),show isTk l i 3 wTrans=false from hw 5 (by omega),show isTk l i 3 wFair=false from hw 6 (by omega),show isTk l i 3 wSpec=false from hw 7 (by omega)]
 rfl
end
def DclQ (R:Nat) (A:Option Addr) (c:Nat) (l:List Tok) (B:Nat) (w:World) (r:Rs Md) (e:Ending) (w':World):Prop:=
 e=.returned (.tuple #[])∧∃ V' X' G',(match r with
  | .ok m j=>MRd w' R A l.length c j 0 V'∧GMd G' m
  | .bad j x=>MRd w' R A l.length c j x V'∧x≠0)∧MAll w' B R V' X' G'∧Below B w w'∧∀ k,k<8→(G' k).length≤64
theorem mdecl_any (R:Nat) (A:Option Addr) (c i B:Nat) (l:List Tok) (V:Nat→Value) (X:Nat→List (List Value)) (G:Nat→List El) (m:Md) (w:World) (hi:i<l.length) (hR:MRd w R A l.length c i 0 V) (hP:PTok w R A c l) (hM:MAll w B R V X G) (hGm:GMd G m) (hBR:B≤R) (hA:∀ a,A=some a→a.block<B) (h64:∀ k,k<8→(G k).length≤64) :
 Calls Tryz.prog 15 #[.pointer (some ⟨R,0,none⟩)] w (DclQ R A c l B w (declP l m i)):=by
 by_cases h:∃ k,k<8∧isTk l i 3 (wordOf k)=true
 · obtain ⟨k,hk,hw⟩:=h;have hG:=h64 k hk
   have hd:Calls Tryz.prog 15 #[.pointer (some ⟨R,0,none⟩)] w (DPost R A c l B w (if (G k).length<64 then mustS l 4 [59] (elS l k (i+1)).2.1 (elS l k (i+1)).2.2 else (i,18)) (if (G k).length<64 then upd G k (G k++[(elS l k (i+1)).1]) else G)):=by
    rcases lt8 hk with rfl | rfl | rfl | rfl | rfl | rfl | rfl | rfl
    · exact mdecl0_any R A c i B l V X G w hw hR hP hM hBR hA hG
    · exact mdecl1_any R A c i B l V X G w hw hR hP hM hBR hA hG
    · exact mdecl2_any R A c i B l V X G w hw hR hP hM hBR hA hG
    · exact mdecl3_any R A c i B l V X G w hw hR hP hM hBR hA hG
    · exact mdecl4_any R A c i B l V X G w hw hR hP hM hBR hA hG
    · exact mdecl5_any R A c i B l V X G w hw hR hP hM hBR hA hG
    · exact mdecl6_any R A c i B l V X G w hw hR hP hM hBR hA hG
    · exact mdecl7_any R A c i B l V X G w hw hR hP hM hBR hA hG
   have hr:=decl_rel hk hw hGm;refine hd.mono ?_;rintro e w' ⟨rfl,V',X',h1,h2,h3⟩;refine ⟨rfl,V',X',_,?_,h2,h3,fun j hj=>?_⟩
   · cases hp:declP l m i with
     | bad j x=>
      rw [hp] at hr;obtain ⟨r1,r2⟩:=hr;rw [r1] at h1;exact ⟨h1,r2⟩
     | ok m' j=>
      rw [hp] at hr;obtain ⟨r1,r2⟩:=hr;rw [r1] at h1;exact ⟨h1,r2⟩
   · split
     · unfold upd
       split
       · rename_i hjk
         rw [List.length_append,List.length_singleton];omega
       · exact h64 j hj
     · exact h64 j hj
 · have hw:∀ k,k<8→isTk l i 3 (wordOf k)=false:=fun k hk=>by
    cases he:isTk l i 3 (wordOf k)
    · rfl
    · exact absurd ⟨k,hk,he⟩ h
   rw [decl_none hw];refine (mdeclO_any R A c i B l V X G w hi hw hR hP hM hBR hA).mono ?_;rintro e w' ⟨rfl,V',X',h1,h2,h3⟩;exact ⟨rfl,V',X',G,⟨h1,by decide⟩,h2,h3,h64⟩
theorem then_ok3 {α β:Type} {r:Rs α} {f:α→Nat→Rs β} {y:β} {j:Nat} (h:r.then f=.ok y j):∃ x k,r=.ok x k∧f x k=.ok y j:=by
 cases r with
 | bad i e=>cases h
 | ok x k=>exact ⟨x,k,rfl,h⟩
theorem ok_inj3 {α:Type} {x y:α} {i j:Nat} (h:(Rs.ok x i:Rs α)=.ok y j):x=y∧i=j:=by cases h;exact ⟨rfl,rfl⟩
theorem more_el {α:Type} {n i j:Nat} {p:Nat→Rs α} {f:α→El} {g:α→Md} {m':Md} (h:((moreP n p i).then fun x j=>(.ok (g x) j:Rs Md))=.ok m' j):∃ e,(p (i+1)).map f=.ok e j:=by
 obtain ⟨x,k,h1,h2⟩:=then_ok3 h;obtain ⟨rfl,rfl⟩:=ok_inj3 h2;unfold moreP at h1
 by_cases hn:64≤n
 · rw [iP hn] at h1;cases h1
 · rw [iN hn] at h1;exact ⟨f x,by rw [h1];rfl⟩
theorem el_some {l:List Tok} {m m':Md} {i j:Nat} (h:declB l m i=.ok m' j):∃ e,elP l i=.ok e j:=by
 unfold declB at h;unfold elP
 by_cases c1:isTk l i 3 wVar=true
 · rw [iP c1] at h ⊢;exact more_el h
 rw [iN c1] at h ⊢
 by_cases c2:isTk l i 3 wDef=true
 · rw [iP c2] at h ⊢;exact more_el h
 rw [iN c2] at h ⊢
 by_cases c3:isTk l i 3 wInit=true
 · rw [iP c3] at h ⊢;exact more_el h
 rw [iN c3] at h ⊢
 by_cases c4:isTk l i 3 wInvar=true
 · rw [iP c4] at h ⊢;exact more_el h
 rw [iN c4] at h ⊢
 by_cases c5:isTk l i 3 wNext=true
 · rw [iP c5] at h ⊢;exact more_el h
 rw [iN c5] at h ⊢
 by_cases c6:isTk l i 3 wTrans=true
 · rw [iP c6] at h ⊢;exact more_el h
 rw [iN c6] at h ⊢
 by_cases c7:isTk l i 3 wFair=true
 · rw [iP c7] at h ⊢;exact more_el h
 rw [iN c7] at h ⊢
 by_cases c8:isTk l i 3 wSpec=true
 · rw [iP c8] at h ⊢;exact more_el h
 rw [iN c8] at h;cases h
theorem el_in {l:List Tok} {i q:Nat} {e:El} (h:elP l i=.ok e q):i<l.length:=by
 unfold elP at h
 by_cases hi:i<l.length
 · exact hi
 · have hn:l[i]?=none:=List.getElem?_eq_none (by omega);simp [isTk,hn] at h
theorem must_up {l:List Tok} {i j:Nat} {k:Int} {s:Bs} {u:Unit} (h:mustP l i k s=.ok u j):j=i+1:=by
 unfold mustP at h
 split at h
 · exact (ok_inj3 h).2.symm
 · cases h
theorem named_up {l:List Tok} {i j:Nat} {s:Bs} {u:ByteArray} (h:namedP l s i=.ok u j):i≤j:=by
 obtain ⟨x,k,h1,h2⟩:=then_ok3 h;obtain ⟨y,k2,h3,h4⟩:=then_ok3 h2;have:=must_up h3;have:=(ok_inj3 h4).2;unfold nameP at h1
 split at h1
 · have:=(ok_inj3 h1).2;omega
 · cases h1
theorem num_up {l:List Tok} {i j:Nat} {n:Int} (h:numP l i=.ok n j):i≤j:=by
 unfold numP at h
 split at h <;> split at h
 · have:=(ok_inj3 h).2;omega
 · cases h
 · have:=(ok_inj3 h).2;omega
 · cases h
theorem tm_up {l:List Tok} {i j:Nat} {t:Tm} (h:tmP l i=.ok t j):i≤j:=by
 unfold tmP at h
 split at h
 · cases h
 · rename_i h0
   obtain ⟨h1,h2⟩:=ok_inj3 h;exact Nat.le_of_lt (takeT_ok (l:=l) (i:=i) (t:=t) (j:=j) (Prod.ext h1 (Prod.ext h2 (by simpa using h0)))).2.ij
theorem fm_up {l:List Tok} {i j:Nat} {t:Fm} (h:fmP l i=.ok t j):i≤j:=by
 unfold fmP at h
 split at h
 · cases h
 · rename_i h0
   obtain ⟨h1,h2⟩:=ok_inj3 h;exact Nat.le_of_lt (takeF_ok (l:=l) (i:=i) (f:=t) (j:=j) (Prod.ext h1 (Prod.ext h2 (by simpa using h0)))).2.ij
theorem var_up {l:List Tok} {i j:Nat} {v:Vr} (h:varP l i=.ok v j):i≤j:=by
 obtain ⟨x,k,h1,h2⟩:=then_ok3 h;have a1:=named_up h1
 split at h2
 · have:=(ok_inj3 h2).2;omega
 · obtain ⟨_,k2,h3,h4⟩:=then_ok3 h2;obtain ⟨_,k3,h5,h6⟩:=then_ok3 h4;obtain ⟨_,k4,h7,h8⟩:=then_ok3 h6;have:=num_up h3;have:=must_up h5;have:=num_up h7;have:=(ok_inj3 h8).2;omega
theorem def_up {l:List Tok} {i j:Nat} {v:Df} (h:defP l i=.ok v j):i≤j:=by
 obtain ⟨x,k,h1,h2⟩:=then_ok3 h;obtain ⟨_,k2,h3,h4⟩:=then_ok3 h2;have:=named_up h1;have:=tm_up h3;have:=(ok_inj3 h4).2;omega
theorem spec_up {l:List Tok} {i j:Nat} {v:Sp} (h:specP l i=.ok v j):i≤j:=by
 obtain ⟨x,k,h1,h2⟩:=then_ok3 h;obtain ⟨_,k2,h3,h4⟩:=then_ok3 h2;have:=named_up h1;have:=fm_up h3;have:=(ok_inj3 h4).2;omega
theorem map_up {α β:Type} {r:Rs α} {f:α→β} {e:β} {i q:Nat} (h:r.map f=.ok e q) (hu:∀ x,r=.ok x q→i+1≤q):i<q:=by
 obtain ⟨x,k,h1,h2⟩:=then_ok3 h;obtain ⟨-,rfl⟩:=ok_inj3 h2;exact hu x h1
theorem el_up {l:List Tok} {i q:Nat} {e:El} (h:elP l i=.ok e q):i<q:=by
 unfold elP at h
 split at h
 · exact map_up h fun _ h=>var_up h
 split at h
 · exact map_up h fun _ h=>def_up h
 split at h
 · exact map_up h fun _ h=>tm_up h
 split at h
 · exact map_up h fun _ h=>tm_up h
 split at h
 · exact map_up h fun _ h=>def_up h
 split at h
 · exact map_up h fun _ h=>tm_up h
 split at h
 · exact map_up h fun _ h=>tm_up h
 split at h
 · exact map_up h fun _ h=>spec_up h
 · cases h
theorem decl_el {l:List Tok} {m m':Md} {i j:Nat} (h:declP l m i=.ok m' j):∃ e q,elP l i=.ok e q∧isTk l q 4 [59]=true∧j=q+1∧e.cnt m<64∧m'=e.put m:=by
 unfold declP at h;obtain ⟨x,k,h1,h2⟩:=then_ok3 h;obtain ⟨u,k2,h3,h4⟩:=then_ok3 h2;obtain ⟨rfl,rfl⟩:=ok_inj3 h4;obtain ⟨e,he⟩:=el_some h1;rw [declB_el he] at h1
 by_cases hc:64≤e.cnt m
 · rw [iP hc] at h1;cases h1
 rw [iN hc] at h1;obtain ⟨rfl,-⟩:=ok_inj3 h1;unfold mustP at h3
 by_cases hk:isTk l k 4 [59]=true
 · rw [iP hk] at h3;obtain ⟨-,rfl⟩:=ok_inj3 h3;exact ⟨e,k,he,hk,rfl,by omega,rfl⟩
 · rw [iN hk] at h3;cases h3
set_option linter.unusedSimpArgs false
theorem tLMtO {o:Array Oper} {i:Nat} {x:Oper} (h:o.toList[i]?=some x):o[i]?=some x:=by simpa using h
def mdVal (V:Nat→Value):Value:=.agg #[V 0,V 1,V 2,V 3,V 4,V 5,V 6,V 7]
def MpQ (w:World) (r:Md×Int×Int) (e:Ending) (w':World):Prop:=∃ V X G B R,e=.returned (.tuple #[mdVal V,.int .i64 r.2.1,.int .i64 r.2.2])∧MAll w' B R V X G∧GMd G r.1∧w.heap.size≤B∧B≤R∧Below w.heap.size w w'
theorem gmd_nil:GMd (fun _=>[]) zeroMd:=⟨rfl,rfl,rfl,rfl,rfl,rfl,rfl,rfl⟩
abbrev nil8:Array Value:=#[.slice none 0 0,.slice none 0 0,.slice none 0 0,.slice none 0 0,.slice none 0 0,.slice none 0 0,.slice none 0 0,.slice none 0 0]
theorem decl_up {l:List Tok} {m m':Md} {i j:Nat} (h:declP l m i=.ok m' j):i<j∧j≤l.length:=by
 obtain ⟨e,q,h1,h2,rfl,-,-⟩:=decl_el h;have:=el_up h1;have:=isTk_ltM h2;omega
theorem mparse_results (tm:Array Value) (b2:Nat) (z1 z2:Value) (u0 u1 u2 u3 u4 u5 u6 u7:Value) (w:World) (h2:tm[2]?=some (.pointer (some ⟨b2,0,none⟩))) (h3:tm[3]?=some z1) (h4:tm[4]?=some z2) (h:w.heap[b2]?=some (.cells #[u0,u1,u2,u3,u4,u5,u6,u7] 28 (0,0))) :
 (results Tryz.f8 tm).run Tryz.prog w=.ok (.tuple #[.agg #[u0,u1,u2,u3,u4,u5,u6,u7],z1,z2]) w:=by
 obtain ⟨y0,y1,y2,y3,y4,y5,y6,y7,-⟩:=q8 h;unfold results;rw [Tryz.results8];simp only [Array.getD_eq_getD_getElem?];simp [h2,h3,h4,go_sem,y0,y1,y2,y3,y4,y5,y6,y7]
theorem s8A {W:World} {b:Nat} {v0 v1 v2 v3 v4 v5 v6 v7 u0 u1 u2 u3 u4 u5 u6 u7:Value} {T:TypeId} (h:W.heap[b]?=some (.cells #[u0,u1,u2,u3,u4,u5,u6,u7] T (0,0))):((((((((W.setCell ⟨b,0,none⟩ v0).setCell ⟨b,1,none⟩ v1).setCell ⟨b,2,none⟩ v2).setCell ⟨b,3,none⟩ v3).setCell ⟨b,4,none⟩ v4).setCell ⟨b,5,none⟩ v5).setCell ⟨b,6,none⟩ v6).setCell ⟨b,7,none⟩ v7).heap[b]?=some (.cells #[v0,v1,v2,v3,v4,v5,v6,v7] T (0,0)):=by
 simp [World.setCell,Array.getElem?_modify,h]
theorem onlyS_8 {W:World} {b:Nat} (v0 v1 v2 v3 v4 v5 v6 v7:Value):Only (fun q=>q=b) W ((((((((W.setCell ⟨b,0,none⟩ v0).setCell ⟨b,1,none⟩ v1).setCell ⟨b,2,none⟩ v2).setCell ⟨b,3,none⟩ v3).setCell ⟨b,4,none⟩ v4).setCell ⟨b,5,none⟩ v5).setCell ⟨b,6,none⟩ v6).setCell ⟨b,7,none⟩ v7):=(((((((setAt _).trans (setAt _)).trans (setAt _)).trans (setAt _)).trans (setAt _)).trans (setAt _)).trans (setAt _)).trans (setAt _)
def mpEnd (l:List Tok) (n:Nat):Rs Md→Md×Int×Int
 | .bad i e=>(zeroMd,atOf l n i,e)
 | .ok m _=>(m,(n:Int),0)
theorem parseM_eq (s:Bs):parseM s=if (all s).2.2≠0 then (zeroMd,(all s).2.1,(all s).2.2) else mpEnd (all s).1 s.length (modF (all s).1 (all s).1.length zeroMd 0):=by
 unfold parseM
 split
 · rfl
 · cases modF (all s).1 (all s).1.length zeroMd 0 <;> rfl
theorem mparse_any (s:ByteArray) (w:World) (hs:s.size≤maxLen) (hT:Tables w) :
 Calls Tryz.prog 8 #[.string s] w (MpQ w (parseM (bs s))):=by
 have hs':=hs;unfold maxLen at hs';obtain ⟨F,hF⟩:=ex_ (MpQ w (parseM (bs s)));rw [←hF];obtain ⟨b2,hb2⟩:=ex_ w.heap.size;obtain ⟨w1,hw1⟩:=ex_ (w.alloc (.cells #[.slice none 0 0,.slice none 0 0,.slice none 0 0,.slice none 0 0,.slice none 0 0,.slice none 0 0,.slice none 0 0,.slice none 0 0] 28));have hb1:=bAl hw1;have hs1:w1.heap.size=b2+1:=by rw [hw1,hb2];simp
 have HX1:=nAl hw1 hb2;have hall:=all_any s w1 hs (hT.below hb1);have hok:=all_ok (bs s);obtain ⟨l,hl⟩:=ex_ (all (bs s)).1;obtain ⟨z1,hz1⟩:=ex_ (all (bs s)).2.1;obtain ⟨z2,hz2⟩:=ex_ (all (bs s)).2.2;obtain ⟨r0,HR0⟩:=exh_ (modF l l.length zeroMd 0)
 have HRE:Hid (F=MpQ w (if z2≠0 then (zeroMd,z1,z2) else mpEnd l (bs s).length r0)):=by
  show _=_;rw [hF,parseM_eq,←hl,←hz1,←hz2,←HR0.out]
 rw [←hl,←hz1,←hz2] at hall;rw [←hl] at hok;have HALL:=Hd hall;have HOK:=Hd hok;have HW1:=Hd hw1;have HB1:=Hd hb1;have HBQ:=Hd hb2;have HSZ:Hid ((bs s).length=s.size):=bs_length s;clear hF hw1 hb1 hall hok hl hz1 hz2 hT hb2;go_enter Tryz.func8,Tryz.ntmps8;go_wp2_with fail;rw [←HW1.out,←HBQ.out];refine (HALL.out).mono ?_;rintro e w2 ⟨v,rfl,hown,hb2'⟩;have hx2:=(hb2'.block b2 (by omega)).trans HX1.out;have HBW:=Hd (HB1.out.trans (hb2'.mono (by have:=HBQ.out;omega)));have hsz2:=hb2'.size;have hge:∀ q,v.ownBlock=some q→w1.heap.size≤q:=fun q hq=>(hown.lt q hq).1;obtain ⟨A,c,hv,hTI⟩:=tokIn_of_own (.inr trivial) hown HOK.out.1 HOK.out.2.2;obtain ⟨n,HN⟩:=exh_ l.length;have TOKB:Hid (∀ a,A=some a→w1.heap.size≤a.block):=fun a ha=>hge a.block (by rw [hv,ha];rfl);rw [hv,←HN.out];clear hge;have HX2:=Hd hx2;have HTI:=Hd hTI;have hbl:b2<w2.heap.size:=by omega
 clear hx2 hTI hown hv hb2'
 by_cases hz:z2=0
 · rw [iN (by simpa using hz)] at HRE;rw [hz];obtain ⟨R,HRQ⟩:=exh_ w2.heap.size;obtain ⟨w3,HW3⟩:=exh_ (w2.alloc (.cells #[.slice A n c,.int .i64 0,.int .i64 0,.slice none 0 0,.slice none 0 0,.slice none 0 0,.slice none 0 0,.slice none 0 0,.slice none 0 0,.slice none 0 0,.slice none 0 0] 53));clear hz;go_wp2_with fail;rw [←HW3.out,←HRQ.out];have HPT:Hid (PTok w3 R A c l):=HTI.out.pt (bAl HW3.out) (Nat.le_of_eq HRQ.out.symm);have HA:Hid (∀ a,A=some a→a.block<R):=fun a ha=>by rw [HRQ.out];exact HTI.out.old a ha
   have HRL:Hid (R<w3.heap.size):=by show _<_;rw [HW3.out,HRQ.out];simp
   have HM0:Hid (MRd w3 R A n c 0 0 (fun _=>.slice none 0 0)):=by show MRd _ _ _ _ _ _ _ _;unfold MRd;rw [HW3.out,HRQ.out];exact hA_ _ _
   have HLEN:Hid (l.length≤100000):=HTI.out.len;have HBW3:Hid (Below w.heap.size w w3):=HBW.out.trans ((bAl HW3.out).mono HBW.out.size)
   go_loopg [] (n+1) (fun k wr=>∃ (i:Nat) (x:Int) (V:Nat→Value) (X:Nat→List (List Value)) (G:Nat→List El) (m:Md),MRd wr R A n c i x V∧MAll wr R R V X G∧Below R w3 wr∧(∀ j,j<8→(G j).length≤64)∧(x=0→GMd G m∧i≤n∧∃ f,k=f+1∧n≤i+f∧modF l f m i=r0)∧(x≠0→r0=.bad i x))
   case atStart=>
    exact ⟨0,0,fun _=>.slice none 0 0,fun _=>[],fun _=>[],zeroMd,HM0.out,MOwn.nil _ _ _,Br _ _,fun _ _=>by simp,fun _=>⟨gmd_nil,zl _,n,rfl,by omega,by rw [HR0.out,HN.out]⟩,fun h=>absurd rfl h⟩
   case round=>
    obtain ⟨i,x,V,X,G,m,hrd,hma,hbl3,h64,hx0,hx1⟩:=hrel;have HRD:=Hd hrd;have HMA:=Hd hma;have HBL:=Hd hbl3;have H64:=Hd h64;have HX0:=Hd hx0;have HX1b:=Hd hx1;have c1:=hrd.c1;have c2:=hrd.c2;have hRw:=hrd.lt;clear hrd hma hbl3 h64 hx0 hx1
    by_cases hx:x=0
    · subst hx;obtain ⟨hgm,hin,f,hf1,hf2,hf3⟩:=HX0.out rfl;have HGM:=Hd hgm;clear hgm
      by_cases hi:i<n
      · have hd:=mdecl_any R A c i R l V X G m wr (by have:=HN.out;omega) (by rw [←HN.out];exact HRD.out) (HPT.out.below HBL.out HA.out) HMA.out HGM.out (lr _) HA.out H64.out;have HD:=Hd hd;have hi1:(i:Int)<(n:Int):=by omega
        have HF3:Hid (∃ f',f=f'+1∧((declP l m i).then fun m j=>modF l f' m j)=r0):=by
         cases f with
         | zero=>omega
         | succ f'=>exact ⟨f',rfl,by rw [←hf3,modF,iN (by have:=HN.out;omega)]⟩
        have HF2:=Hd hf2;have HK:=Hd hf1;clear hd hf1 hf2 hf3 HX0 HX1b hi;go_wp2_with fail;refine (HD.out).mono ?_;rintro e wr2 ⟨rfl,V',X',G',hc,hM',hb',h64'⟩;have HC:=Hd hc;have HM':=Hd hM';have HB':=Hd (HBL.out.trans hb');have H64':=Hd h64';clear hc hM' hb' h64' c1 c2 hRw HD;go_wp2_with fail;obtain ⟨f',hf',hr'⟩:=HF3.out
        cases hdp:declP l m i with
        | bad j x=>
         have hc:=HC.out;rw [hdp] at hc hr'
         go_roundg 0
         case rel=>exact ⟨j,x,V',X',G',m,by rw [HN.out];exact hc.1,HM'.out,HB'.out,H64'.out,fun h=>absurd h hc.2,fun _=>hr'.symm⟩
         case measure=>have:=HK.out;omega
        | ok m' j=>
         have hc:=HC.out;rw [hdp] at hc hr';have hu:=decl_up hdp
         go_roundg (f'+1)
         case rel=>exact ⟨j,0,V',X',G',m',by rw [HN.out];exact hc.1,HM'.out,HB'.out,H64'.out,fun _=>⟨hc.2,by have:=HN.out;omega,f',rfl,by have:=HF2.out;omega,hr'⟩,fun h=>absurd rfl h⟩
         case measure=>have:=HK.out;omega
      · have HFA:Hid (F=MpQ w (m,((bs s).length:Int),0)):=by
         have hr:r0=.ok m i:=by
          rw [←hf3]
          cases f with
          | zero=>rfl
          | succ f'=>rw [modF,iP (by have:=HN.out;omega)]
         show _=_;rw [HRE.out,hr]
         rfl
        have hi1:¬(i:Int)<(n:Int):=by omega
        have hb2R:b2<R:=by rw [HRQ.out];exact hbl
        have X2:Hid (wr.heap[b2]?=some (.cells #[.slice none 0 0,.slice none 0 0,.slice none 0 0,.slice none 0 0,.slice none 0 0,.slice none 0 0,.slice none 0 0,.slice none 0 0] 28 (0,0))):=(HBL.out.block b2 hb2R).trans (((bAl HW3.out).block b2 hbl).trans HX2.out);obtain ⟨a0,p0,hV0,-,-⟩:=HMA.out.shape (k:=0) (by omega);have k0:=HRD.out.cm (k:=0) (by omega);obtain ⟨g0,hg0⟩:=ex_ (G 0).length;rw [hV0,←hg0] at k0;rw [←hg0] at hV0;obtain ⟨a1,p1,hV1,-,-⟩:=HMA.out.shape (k:=1) (by omega);have k1:=HRD.out.cm (k:=1) (by omega);obtain ⟨g1,hg1⟩:=ex_ (G 1).length;rw [hV1,←hg1] at k1;rw [←hg1] at hV1;obtain ⟨a2,p2,hV2,-,-⟩:=HMA.out.shape (k:=2) (by omega);have k2:=HRD.out.cm (k:=2) (by omega);obtain ⟨g2,hg2⟩:=ex_ (G 2).length;rw [hV2,←hg2] at k2;rw [←hg2] at hV2;obtain ⟨a3,p3,hV3,-,-⟩:=HMA.out.shape (k:=3) (by omega);have k3:=HRD.out.cm (k:=3) (by omega);obtain ⟨g3,hg3⟩:=ex_ (G 3).length;rw [hV3,←hg3] at k3;rw [←hg3] at hV3;obtain ⟨a4,p4,hV4,-,-⟩:=HMA.out.shape (k:=4) (by omega);have k4:=HRD.out.cm (k:=4) (by omega);obtain ⟨g4,hg4⟩:=ex_ (G 4).length;rw [hV4,←hg4] at k4;rw [←hg4] at hV4;obtain ⟨a5,p5,hV5,-,-⟩:=HMA.out.shape (k:=5) (by omega);have k5:=HRD.out.cm (k:=5) (by omega);obtain ⟨g5,hg5⟩:=ex_ (G 5).length;rw [hV5,←hg5] at k5;rw [←hg5] at hV5;obtain ⟨a6,p6,hV6,-,-⟩:=HMA.out.shape (k:=6) (by omega);have k6:=HRD.out.cm (k:=6) (by omega);obtain ⟨g6,hg6⟩:=ex_ (G 6).length;rw [hV6,←hg6] at k6
        rw [←hg6] at hV6;obtain ⟨a7,p7,hV7,-,-⟩:=HMA.out.shape (k:=7) (by omega);have k7:=HRD.out.cm (k:=7) (by omega);obtain ⟨g7,hg7⟩:=ex_ (G 7).length;rw [hV7,←hg7] at k7;rw [←hg7] at hV7;have HVS:Hid (mdVal V=.agg #[.slice a0 g0 p0,.slice a1 g1 p1,.slice a2 g2 p2,.slice a3 g3 p3,.slice a4 g4 p4,.slice a5 g5 p5,.slice a6 g6 p6,.slice a7 g7 p7]):=by show _=_;unfold mdVal;rw [hV0,hV1,hV2,hV3,hV4,hV5,hV6,hV7]
        simp only [Nat.reduceAdd] at k0 k1 k2 k3 k4 k5 k6 k7;obtain ⟨u0,u1,u2,u3,u4,u5,u6,u7,uz⟩:=q8 X2.out;have hul:=lH X2.out;clear hV0 hg0 hV1 hg1 hV2 hg2 hV3 hg3 hV4 hg4 hV5 hg5 hV6 hg6 hV7 hg7 hf1 hf2 hf3 HX0 HX1b hi hin;go_wp2_with fail;refine bR (mparse_results _ b2 (.int .i64 (s.size:Nat)) (.int .i64 0) _ _ _ _ _ _ _ _ _ rfl rfl rfl (s8A X2.out)) rfl ?_;rw [HFA.out];refine ⟨V,X,G,R,R,?_,?_,HGM.out,?_,lr _,?_⟩
        · rw [HVS.out,HSZ.out]
        · exact HMA.out.move (fun q hq hl _=>(onlyS_8 _ _ _ _ _ _ _ _).block q hl (by omega)) (onlyS_8 _ _ _ _ _ _ _ _).size
        · have:=HBQ.out;omega
        · exact (HBW3.out.trans (HBL.out.mono (by have:=HBQ.out;omega))).trans (only_belowB (onlyS_8 _ _ _ _ _ _ _ _) (by rw [HBQ.out];exact lr _) (by have:=HBQ.out;omega))
    · have HFA:Hid (F=MpQ w (zeroMd,atOf l (bs s).length i,x)):=by show _=_;rw [HRE.out,HX1b.out hx];rfl
      have hxb:(x == 0)=false:=by simpa using hx
      have hb2R:b2<R:=by rw [HRQ.out];exact hbl
      have X2:Hid (wr.heap[b2]?=some (.cells #[.slice none 0 0,.slice none 0 0,.slice none 0 0,.slice none 0 0,.slice none 0 0,.slice none 0 0,.slice none 0 0,.slice none 0 0] 28 (0,0))):=(HBL.out.block b2 hb2R).trans (((bAl HW3.out).block b2 hbl).trans HX2.out);have HBB:Hid (Below w.heap.size w wr):=HBW3.out.trans (HBL.out.mono (by have:=HBQ.out;omega));have hPT:=HPT.out.below HBL.out HA.out;have hlen:=HLEN.out;rw [←HN.out] at hlen
      by_cases hi:i<n
      · obtain ⟨tk,tb,off,ht,hAt,htR,htl,-,-⟩:=tk_atM hPT (show i<l.length by have:=HN.out;omega)
        have htb2:tb≠b2:=by
         have h1:=TOKB.out _ hAt;show tb≠b2;have h2:w1.heap.size≤tb:=h1;omega
        have hx3:wr.cell? ⟨tb,off+i*4+3,none⟩=some (.int .i64 tk.at_):=by
         rcases hPT.toks with h0 | ⟨b',o',hb',-,hc⟩
         · rw [h0] at ht;simp at ht
         · rw [hAt] at hb';cases hb';exact hc i tk ht 3 (by omega)
        have HAT:Hid (atOf l (bs s).length i=tk.at_):=by show _=_;unfold atOf;rw [ht]
        obtain ⟨ta,HTA⟩:=exh_ tk.at_;rw [←HTA.out] at HAT hx3;have hi1:(i:Int)<(n:Int):=by omega
        have hk0:(0:Int)≤(i:Int):=by omega
        have hcap:=hPT.cap;have hcapm:=hPT.capm;unfold maxLen at hcapm;rw [←HN.out] at hcap;subst hAt;clear hPT ht hi HX0 HX1b hx TOKB;go_wp2_with fail;refine wp_region_held_drew (S:=fun W=>W.cell? ⟨R,1,none⟩=some (.int .i64 (i:Nat))∧W.cell? ⟨R,2,none⟩=some (.int .i64 x)∧W.cell? ⟨tb,off+i*4+3,none⟩=some (.int .i64 ta)) (by kernel_rfl) ⟨c1,c2,hx3⟩ (fun hHeld=>?_);obtain ⟨Wc,hWc⟩:=ex_ wr.drew;replace X2:Hid (Wc.heap[b2]?=some (.cells #[.slice none 0 0,.slice none 0 0,.slice none 0 0,.slice none 0 0,.slice none 0 0,.slice none 0 0,.slice none 0 0,.slice none 0 0] 28 (0,0))):=by show _=_;rw [hWc];exact X2.out
        replace HBB:Hid (Below w.heap.size w Wc):=by show Below _ _ _;rw [hWc];exact HBB.out.drew
        have hRc:R<Wc.heap.size:=by rw [hWc];exact hRw
        have htc:tb<Wc.heap.size:=by rw [hWc];exact htl
        rw [←hWc] at hHeld ⊢;clear hWc c1 c2 hx3 hRw htl
        repeat
         (first | refine tkI 0 (v:=?_) rfl ?hy ?_ | refine tkI 1 (v:=?_) rfl ?hy ?_ | refine tkI 2 (v:=?_) rfl ?hy ?_ | refine tkI 3 (v:=?_) rfl ?hy ?_ | refine tkI 4 (v:=?_) rfl ?hy ?_ | refine tkI 5 (v:=?_) rfl ?hy ?_ | refine tkI 6 (v:=?_) rfl ?hy ?_ | refine tkI 7 (v:=?_) rfl ?hy ?_ | refine tkI 8 (v:=?_) rfl ?hy ?_ | refine tkI 9 (v:=?_) rfl ?hy ?_ | refine tkI 10 (v:=?_) rfl ?hy ?_ | refine tkI 11 (v:=?_) rfl ?hy ?_ | refine tkI 12 (v:=?_) rfl ?hy ?_ | refine tkI 13 (v:=?_) rfl ?hy ?_ | refine tkI 15 (v:=?_) rfl ?hy ?_ | refine tkI 16 (v:=?_) rfl ?hy ?_
          case hy=>
           intro w0 hS;obtain ⟨h1,h2,h3⟩:=hS;go_simp
           (first | done | with_reducible rfl | rfl)
          try simp only [Act.put,sAr,sZe,sSu])
        iterate 1
         all_goals first
          | refine Rd (rs:=[14]) (by decide +kernel) (by simp) (Rc (tLMtO rfl) (fun K hK=>?_) Rn)
          | fail
         all_goals first
          | (refine isSt ?_
             obtain ⟨u0,u1,u2,u3,u4,u5,u6,u7,uz⟩:=q8 X2.out;have hul:=lH X2.out;go_simp;clear u0 u1 u2 u3 u4 u5 u6 u7 uz hul;refine hK.out _ _ (⟨(World.cell?_of_block (a:=⟨R,1,none⟩) ((onlyS_8 _ _ _ _ _ _ _ _).block R (by assumption) (by omega))).trans hHeld.1,(World.cell?_of_block (a:=⟨R,2,none⟩) ((onlyS_8 _ _ _ _ _ _ _ _).block R (by assumption) (by omega))).trans hHeld.2.1,(World.cell?_of_block (a:=⟨tb,off+i*4+3,none⟩) ((onlyS_8 _ _ _ _ _ _ _ _).block tb (by assumption) (by omega))).trans hHeld.2.2⟩) (fun hHeld=>?_);clear hK K
             try simp only [Act.put,sAr,sZe,sSu])
          | fail
         all_goals
          repeat
           (first | refine tkI 0 (v:=?_) rfl ?hy ?_ | refine tkI 1 (v:=?_) rfl ?hy ?_ | refine tkI 2 (v:=?_) rfl ?hy ?_ | refine tkI 3 (v:=?_) rfl ?hy ?_ | refine tkI 4 (v:=?_) rfl ?hy ?_ | refine tkI 5 (v:=?_) rfl ?hy ?_ | refine tkI 6 (v:=?_) rfl ?hy ?_ | refine tkI 7 (v:=?_) rfl ?hy ?_ | refine tkI 8 (v:=?_) rfl ?hy ?_ | refine tkI 9 (v:=?_) rfl ?hy ?_ | refine tkI 10 (v:=?_) rfl ?hy ?_ | refine tkI 11 (v:=?_) rfl ?hy ?_ | refine tkI 12 (v:=?_) rfl ?hy ?_ | refine tkI 13 (v:=?_) rfl ?hy ?_ | refine tkI 15 (v:=?_) rfl ?hy ?_ | refine tkI 16 (v:=?_) rfl ?hy ?_
            case hy=>
             intro w0 hS;obtain ⟨h1,h2,h3⟩:=hS;go_simp
             (first | done | with_reducible rfl | rfl)
            try simp only [Act.put,sAr,sZe,sSu])
        all_goals refine wpAnyH_done (by decide +kernel) ?_ _
        all_goals
         go_wp2_with fail;refine bR (mparse_results _ b2 (.int .i64 ta) (.int .i64 x) _ _ _ _ _ _ _ _ _ rfl rfl rfl (s8A X2.out)) rfl ?_;rw [HFA.out];exact ⟨fun _=>.slice none 0 0,fun _=>[],fun _=>[],w.heap.size,w.heap.size,by rw [HAT.out];rfl,MOwn.nil _ _ _,gmd_nil,lr _,lr _,HBB.out.trans (only_belowB (onlyS_8 _ _ _ _ _ _ _ _) (by rw [HBQ.out];exact lr _) HBB.out.size)⟩
      · have HAT:Hid (atOf l (bs s).length i=(s.size:Nat)):=by
         show _=_;unfold atOf;rw [List.getElem?_eq_none (by have:=HN.out;omega),HSZ.out]
        have hi1:¬(i:Int)<(n:Int):=by omega
        clear hPT hi HX0 HX1b hx;go_wp2_with fail;refine wp_region_held_drew (S:=fun W=>W.cell? ⟨R,2,none⟩=some (.int .i64 x)) (by kernel_rfl) c2 (fun hHeld=>?_);obtain ⟨Wc,hWc⟩:=ex_ wr.drew;replace X2:Hid (Wc.heap[b2]?=some (.cells #[.slice none 0 0,.slice none 0 0,.slice none 0 0,.slice none 0 0,.slice none 0 0,.slice none 0 0,.slice none 0 0,.slice none 0 0] 28 (0,0))):=by show _=_;rw [hWc];exact X2.out
        replace HBB:Hid (Below w.heap.size w Wc):=by show Below _ _ _;rw [hWc];exact HBB.out.drew
        have hRc:R<Wc.heap.size:=by rw [hWc];exact hRw
        rw [←hWc] at hHeld ⊢;clear hWc c1 c2 hRw
        repeat
         (first | refine tkI 0 (v:=?_) rfl ?hy ?_ | refine tkI 1 (v:=?_) rfl ?hy ?_ | refine tkI 2 (v:=?_) rfl ?hy ?_ | refine tkI 3 (v:=?_) rfl ?hy ?_ | refine tkI 4 (v:=?_) rfl ?hy ?_ | refine tkI 5 (v:=?_) rfl ?hy ?_ | refine tkI 6 (v:=?_) rfl ?hy ?_ | refine tkI 8 (v:=?_) rfl ?hy ?_ | refine tkI 9 (v:=?_) rfl ?hy ?_
          case hy=>
           intro w0 hS;have h2:=hS;clear hS;go_simp
           (first | done | with_reducible rfl | rfl)
          try simp only [Act.put,sAr,sZe,sSu])
        iterate 1
         all_goals first
          | refine Rd (rs:=[7]) (by decide +kernel) (by simp) (Rc (tLMtO rfl) (fun K hK=>?_) Rn)
          | fail
         all_goals first
          | (refine isSt ?_
             obtain ⟨u0,u1,u2,u3,u4,u5,u6,u7,uz⟩:=q8 X2.out;have hul:=lH X2.out;go_simp;clear u0 u1 u2 u3 u4 u5 u6 u7 uz hul;refine hK.out _ _ ((World.cell?_of_block (a:=⟨R,2,none⟩) ((onlyS_8 _ _ _ _ _ _ _ _).block R (by assumption) (by omega))).trans hHeld) (fun hHeld=>?_);clear hK K
             try simp only [Act.put,sAr,sZe,sSu])
          | fail
         all_goals
          repeat
           (first | refine tkI 0 (v:=?_) rfl ?hy ?_ | refine tkI 1 (v:=?_) rfl ?hy ?_ | refine tkI 2 (v:=?_) rfl ?hy ?_ | refine tkI 3 (v:=?_) rfl ?hy ?_ | refine tkI 4 (v:=?_) rfl ?hy ?_ | refine tkI 5 (v:=?_) rfl ?hy ?_ | refine tkI 6 (v:=?_) rfl ?hy ?_ | refine tkI 8 (v:=?_) rfl ?hy ?_ | refine tkI 9 (v:=?_) rfl ?hy ?_
            case hy=>
             intro w0 hS;have h2:=hS;clear hS;go_simp
             (first | done | with_reducible rfl | rfl)
            try simp only [Act.put,sAr,sZe,sSu])
        all_goals refine wpAnyH_done (by decide +kernel) ?_ _
        all_goals
         go_wp2_with fail;refine bR (mparse_results _ b2 (.int .i64 (s.size:Nat)) (.int .i64 x) _ _ _ _ _ _ _ _ _ rfl rfl rfl (s8A X2.out)) rfl ?_;rw [HFA.out];exact ⟨fun _=>.slice none 0 0,fun _=>[],fun _=>[],w.heap.size,w.heap.size,by rw [HAT.out];rfl,MOwn.nil _ _ _,gmd_nil,lr _,lr _,HBB.out.trans (only_belowB (onlyS_8 _ _ _ _ _ _ _ _) (by rw [HBQ.out];exact lr _) HBB.out.size)⟩
 · have HFB:Hid (F=MpQ w (zeroMd,z1,z2)):=by show _=_;rw [HRE.out,iP (by simpa using hz)]
   have hz':(z2 != 0)=true:=by simpa using hz
   obtain ⟨u0,u1,u2,u3,u4,u5,u6,u7,uz⟩:=q8 HX2.out;have hul:=lH HX2.out;go_wp2_with fail;refine bR (mparse_results _ b2 (.int .i64 z1) (.int .i64 z2) _ _ _ _ _ _ _ _ _ rfl rfl rfl (s8A HX2.out)) rfl ?_;rw [HFB.out];exact ⟨fun _=>.slice none 0 0,fun _=>[],fun _=>[],w.heap.size,w.heap.size,rfl,MOwn.nil _ _ _,gmd_nil,lr _,lr _,HBW.out.trans (only_belowB (onlyS_8 _ _ _ _ _ _ _ _) (by rw [HBQ.out];exact lr _) HBW.out.size)⟩
end Go.Proofs.YtkhoeoilamddaaaGreatDoor
