/- Walks of the reference of terms: the names (ref30.In, With, names, Names). -/
import Derived.Test.YtkhoeoilamddaaaGreatDoorYRefA
import Derived.Test.YtkhoeoilamddaaaGreatDoorYTrmI
namespace Go.Proofs.YtkhoeoilamddaaaGreatDoor
open Go.RowKit
set_option linter.unusedVariables false
set_option maxRecDepth 100000
set_option maxHeartbeats 8000000
theorem akW{o:Array Oper}{i:Nat}{x:Oper}(h:o.toList[i]?=some x):o[i]?=some x:=by simpa using h
def InQ(l:List ByteArray)(w:World)(e:Ending)(w':World):Prop:=∃b,e=.returned (.bool b)∧(b=true→0<l.length)∧w=w'
theorem agR(A:Option Addr)(c:Nat)(l:List ByteArray)(s:ByteArray)(w:World)(hl:l.length≤10000000)(hA:vK w A l) :
 Calls Tryz.prog 213 #[.slice A l.length c,.string s] w (InQ l w):=by
 obtain⟨n,HN⟩:=ak l.length;obtain⟨F,HF⟩:=ak (InQ l w);rw[←HN]at hl⊢;rw[←HF];have HAA:=Hd hA;clear hA;go_in
 go_wp2
 go_loop [5] (fun i=>∃k:Nat,k≤n∧i=.int .i64 k) (fun i=>n-(intOf i).toNat)
 case atStart=>exact⟨0,zl _,rfl⟩
 case round=>
  obtain⟨k,hk,rfl⟩:=hrel
  by_cases hlt:k<n
  ·rcases HAA.out with h0|⟨b,off,rfl,hb,hc⟩
   ·exfalso
    have:=HN.out;rw[h0]at this;simp at this;omega
   have x0:=hc k (by have:=HN.out;omega);clear hc
   generalize l.getD k ByteArray.empty=x at *
   have hk0:(0:Int)≤(k:Int):=by omega
   have hk1:(k:Int)<(n:Int):=by omega
   have HP:Hid (0<n):=by show 0<n;omega
   cases hq:(x.toList==s.toList)
   ·go_wp2_with fail
    go_round
    case rel=>exact⟨k+1,by omega,by go_num⟩
    case measure=>simp[intOf];omega
   ·go_wp2_with fail;rw[HF];exact⟨true,rfl,(fun _=>by rw[←HN];exact HP),rfl⟩
  ·have hk1:¬(k:Int)<(n:Int):=by omega
   go_wp2
   rw[HF];exact⟨false,rfl,(fun h=>by cases h),rfl⟩
def aha(l:List ByteArray)(w:World)(e:Ending)(w':World):Prop:=∃A' c' L',e=.returned (.slice A' L'.length c')∧vK w' A' L'∧0<L'.length∧L'.length≤l.length+1∧Below w.heap.size w w'
theorem jX{w:World}{B:Nat}{T:TypeId}{v:Value}{n:Nat}{xs:List Value}(h:w.ownsRow B T 1 v n xs):∃a cap,v=.slice a n cap:=by
 rcases h.2 with⟨rfl,rfl⟩|⟨g,cap,cur,rfl,_⟩
 ·exact⟨_,_,rfl⟩
 ·exact⟨_,_,rfl⟩
theorem w_{w w2 w3:World}{o:Obj}{v:Value}{n:Nat}{xs:List Value}{T:TypeId}(hb:Below w.heap.size w w2)(ho:w2.ownsRow w.heap.size T 1 v n xs)(hg:(w2.alloc o).grownBy w3 v.ownBlock):Below w.heap.size w w3:=
 (hb.alloc hb.size o).grown hg (by simp;have:=hb.size;omega) fun k hk=>(ho.lt k hk).1
theorem acL(A:Option Addr)(c:Nat)(l:List ByteArray)(s:ByteArray)(w:World)(hl:l.length≤10000000)(hA:vK w A l) :
 Calls Tryz.prog 206 #[.slice A l.length c,.string s] w (aha l w):=by
 obtain⟨i0,hi,hz0,hz1,hz2⟩:=info_parts nO;have hin:=agR A c l s w hl hA;obtain⟨n,HN⟩:=ak l.length;obtain⟨F,HF⟩:=ak (aha l w);rw[←HN]at hl hin⊢;rw[←HF];have HAA:=Hd hA;have HIN:=Hd hin;clear hA hin;go_in;go_wp2_with fail;refine HIN.mono ?_;rintro e w1 ⟨b,rfl,hb,hw⟩;rw[←hw];have HBP:=Hd hb;clear hw hb
 cases b with
 |true=>
  go_wp2_with fail;rw[HF];exact⟨A,c,l,by rw[←HN];rfl,HAA,HBP trivial,by omega,Br _ _⟩
 |false=>
  go_wp2_with fail
  go_loopw [5,6,7] (fun so sd si wr=>∃(k m:Nat)(dn:Bool)(ys:List ByteArray),k≤n∧si=.int .i64 k∧sd=.bool dn∧m=k+dn.toNat∧ys.length=m∧wr.ownsRow w.heap.size 9 1 so m (ys.map Value.string)∧Below w.heap.size w wr) (fun _ _ si _=>n-(intOf si).toNat)
  case atStart=>exact⟨0,0,false,[],zl _,rfl,rfl,rfl,rfl,World.ownsRow_made w #[] 0 (lr _) (zl _) rfl,(Br _ w).alloc (lr _) _⟩
  case round=>
   obtain⟨k,m,dn,ys,hk,rfl,rfl,hm,hys,hown,hbel⟩:=hrel;obtain⟨sa,vX,hsv⟩:=jX hown;subst hsv;have HB:=Hd hbel;have HO:=Hd hown;have HYS:=Hd hys;have HM:=Hd hm;have nR:=hbel.size;have hm1:m≤k+1:=by rw[hm];cases dn<;>simp
   have hm2:k≤m:=by rw[hm];cases dn<;>simp
   clear hys hm
   by_cases hlt:k<n
   ·rcases HAA.out with h0|⟨b,off,rfl,hb,hc⟩
    ·exfalso
     have:=HN.out;rw[h0]at this;simp at this;omega
    have x0:=hc k (by have:=HN.out;omega);have X0:=Hd x0;rw[←hbel.cell (p:=⟨b,_,none⟩) hb]at x0;have hbr:b<wr.heap.size:=by omega
    have kH:=Hd hb;clear hc
    generalize l.getD k ByteArray.empty=x at *
    have hk0:(0:Int)≤(k:Int):=by omega
    have hk1:(k:Int)<(n:Int):=by omega
    clear hbel hown
    cases dn with
    |true=>
     have sH:Hid (m=k+1):=HM
     go_wp2_with (at_builtin;refine wpList_append_lies _ (by rfl) _ _ _ (by rfl) w.heap.size 9 i0 (.string ⟨#[]⟩) 1 16 Tryz.underlying120 hi hz0 hz1 hz2 rfl (by decide) _ (m) _ (by rfl) (HO.alloc _) ⟨wr.heap.size,0,none⟩ 1 1 [.string x] (by rfl) rfl (World.news_of_block (eu wr _)) (fun u hu=>by rw[List.mem_singleton.1 hu];rfl) (by decide) ?c3 ?c4 ?c5 (wr.heap.size+1) (by simp) ?_)
     case c3=>unfold maxLen;omega
     case c4=>omega
     case c5=>first|omega|(simp;omega)
     intro g3 Uo w3 hown3 hgrow3 Nb hlt3
     have Ai:Hid (w3.ownsRow w.heap.size 9 1 (.slice (some ⟨g3,0,none⟩) (m+1) Uo) (m+1) ((ys++[x]).map Value.string)):=by
      show World.ownsRow _ _ _ _ _ _ _;rw[List.map_append,List.map_singleton];exact hown3
     have wJ:=w_ HB HO hgrow3;have adQ:=wJ.size;have u_:=Hd wJ;clear hown3 hgrow3 Nb wJ;go_wp2_with fail
     go_roundw
     case rel=>exact⟨k+1,m+1,true,ys++[x],by omega,by go_num,rfl,by rw[sH];rfl,by simp[HYS.out],Ai,u_⟩
     case measure=>simp[intOf];omega
    |false=>
     have sH:Hid (m=k):=HM
     have hgt:(Op.bytesLess x.toList s.toList=false∧(x.toList==s.toList)=false)∨Op.bytesLess x.toList s.toList=true∨(Op.bytesLess x.toList s.toList=false∧(x.toList==s.toList)=true):=by
      cases Op.bytesLess x.toList s.toList<;>cases(x.toList==s.toList)<;>simp
     rcases hgt with⟨g1,g2⟩|hgt
     ·go_wp2_with (at_builtin;refine wpList_append_lies _ (by rfl) _ _ _ (by rfl) w.heap.size 9 i0 (.string ⟨#[]⟩) 1 16 Tryz.underlying120 hi hz0 hz1 hz2 rfl (by decide) _ (m) _ (by rfl) (HO.alloc _) ⟨wr.heap.size,0,none⟩ 1 1 [.string s] (by rfl) rfl (World.news_of_block (eu wr _)) (fun u hu=>by rw[List.mem_singleton.1 hu];rfl) (by decide) ?c3 ?c4 ?c5 (wr.heap.size+1) (by simp) ?_)
      case c3=>unfold maxLen;omega
      case c4=>omega
      case c5=>first|omega|(simp;omega)
      intro g2 cap2 w2 hown2 hgrow2 aex hlt2
      have Ah:Hid (w2.ownsRow w.heap.size 9 1 (.slice (some ⟨g2,0,none⟩) (m+1) cap2) (m+1) ((ys++[s]).map Value.string)):=by
       show World.ownsRow _ _ _ _ _ _ _;rw[List.map_append,List.map_singleton];exact hown2
      have hbw2:=w_ HB HO hgrow2;have hsz2:=hbw2.size;have Tc:=Hd hbw2;clear hown2 hgrow2 aex hbw2;have y0:w2.cell? ⟨b,off+k,none⟩=some (.string x):=by rw[Tc.cell (p:=⟨b,_,none⟩) kH];exact X0
      have hb2:b<w2.heap.size:=by have:=kH.out;omega
      clear x0
      go_wp2_with (at_builtin;refine wpList_append_lies _ (by rfl) _ _ _ (by rfl) w.heap.size 9 i0 (.string ⟨#[]⟩) 1 16 Tryz.underlying120 hi hz0 hz1 hz2 rfl (by decide) _ (m+1) _ (by rfl) (Ah.alloc _) ⟨w2.heap.size,0,none⟩ 1 1 [.string x] (by rfl) rfl (World.news_of_block (eu w2 _)) (fun u hu=>by rw[List.mem_singleton.1 hu];rfl) (by decide) ?c3 ?c4 ?c5 (w2.heap.size+1) (by simp) ?_)
      case c3=>unfold maxLen;omega
      case c4=>omega
      case c5=>first|omega|(simp;omega)
      intro g4 cap4 w4 ahb ae6 akX afD
      have uX:Hid (w4.ownsRow w.heap.size 9 1 (.slice (some ⟨g4,0,none⟩) (m+1+1) cap4) (m+1+1) (((ys++[s])++[x]).map Value.string)):=by
       show World.ownsRow _ _ _ _ _ _ _;rw[List.map_append,List.map_singleton]
       simpa using ahb
      have Ju:=w_ Tc Ah ae6;have af7:=Ju.size;have akY:=Hd Ju;clear ahb ae6 akX Ju;go_wp2_with fail
      go_roundw
      case rel=>exact⟨k+1,m+1+1,true,ys++[s]++[x],by omega,by go_num,rfl,by rw[sH];rfl,by simp[HYS.out],uX,akY⟩
      case measure=>simp[intOf];omega
     ·rcases hgt with g1|⟨g1,g2⟩
      all_goals
       go_wp2_with (at_builtin;refine wpList_append_lies _ (by rfl) _ _ _ (by rfl) w.heap.size 9 i0 (.string ⟨#[]⟩) 1 16 Tryz.underlying120 hi hz0 hz1 hz2 rfl (by decide) _ (m) _ (by rfl) (HO.alloc _) ⟨wr.heap.size,0,none⟩ 1 1 [.string x] (by rfl) rfl (World.news_of_block (eu wr _)) (fun u hu=>by rw[List.mem_singleton.1 hu];rfl) (by decide) ?c3 ?c4 ?c5 (wr.heap.size+1) (by simp) ?_)
       case c3=>unfold maxLen;omega
       case c4=>omega
       case c5=>first|omega|(simp;omega)
       intro g3 Uo w3 hown3 hgrow3 Nb hlt3
       have Ai:Hid (w3.ownsRow w.heap.size 9 1 (.slice (some ⟨g3,0,none⟩) (m+1) Uo) (m+1) ((ys++[x]).map Value.string)):=by
        show World.ownsRow _ _ _ _ _ _ _;rw[List.map_append,List.map_singleton];exact hown3
       have wJ:=w_ HB HO hgrow3;have adQ:=wJ.size;have u_:=Hd wJ;clear hown3 hgrow3 Nb wJ;go_wp2_with fail
       go_roundw
       case rel=>exact⟨k+1,m+1,false,ys++[x],by omega,by go_num,rfl,by rw[sH];rfl,by simp[HYS.out],Ai,u_⟩
       case measure=>simp[intOf];omega
   ·have hk1:¬(k:Int)<(n:Int):=by omega
    have hkn:k=n:=by omega
    have HKN:=Hd hkn;clear hkn hbel hown
    cases dn with
    |true=>
     have sH:Hid (m=k+1):=HM;go_wp2_with fail;rw[HF];obtain⟨A',c',hv,hs⟩:=gF (by rw[HYS];exact HO);rw[HYS]at hv;exact⟨A',c',ys,by first|(rw[hv,HYS];done)|(rw[hv,HYS];rfl),hs,by rw[HYS];have:=sH.out;omega,by rw[HYS,sH,HKN,←HN];exact lr _,HB⟩
    |false=>
     have sH:Hid (m=k):=HM
     go_wp2_with (at_builtin;refine wpList_append_lies _ (by rfl) _ _ _ (by rfl) w.heap.size 9 i0 (.string ⟨#[]⟩) 1 16 Tryz.underlying120 hi hz0 hz1 hz2 rfl (by decide) _ (m) _ (by rfl) (HO.alloc _) ⟨wr.heap.size,0,none⟩ 1 1 [.string s] (by rfl) rfl (World.news_of_block (eu wr _)) (fun u hu=>by rw[List.mem_singleton.1 hu];rfl) (by decide) ?c3 ?c4 ?c5 (wr.heap.size+1) (by simp) ?_)
     case c3=>unfold maxLen;omega
     case c4=>omega
     case c5=>first|omega|(simp;omega)
     intro g3 Uo w3 hown3 hgrow3 Nb hlt3
     have Ai:Hid (w3.ownsRow w.heap.size 9 1 (.slice (some ⟨g3,0,none⟩) (m+1) Uo) (m+1) ((ys++[s]).map Value.string)):=by
      show World.ownsRow _ _ _ _ _ _ _;rw[List.map_append,List.map_singleton];exact hown3
     have wJ:=w_ HB HO hgrow3;have adQ:=wJ.size;have u_:=Hd wJ;clear hown3 hgrow3 Nb wJ;go_wp2_with fail;rw[HF];have hl3:(ys++[s]).length=m+1:=by simp[HYS.out]
     obtain⟨A',c',hv,hs⟩:=gF (by rw[hl3];exact Ai);rw[hl3]at hv;exact⟨A',c',ys++[s],by rw[hv,hl3];rfl,hs,by rw[hl3];omega,by rw[hl3,sH,HKN,←HN];exact lr _,u_⟩
def ail(op:Int)(m:Nat)(t:Tm)(w:World)(e:Ending)(w':World):Prop:=∃A' c' L',e=.returned (.slice A' L'.length c')∧vK w' A' L'∧L'.length≤m+t.size∧(op=4→(0<L'.length↔0<m∨hasNext t=true))∧Below w.heap.size w w'
theorem zh:∀{l:List Tm} {k:Nat} {t:Tm},l[k]?=some t→eU (l.take (k+1))=(eU (l.take k)||hasNext t)
 |x::r,0,t,h=>by
  simp at h;subst h;simp[eU]
 |x::r,k+1,t,h=>by
  have:=zh (l:=r) (k:=k) (by simpa using h);simp only[List.take_succ_cons,eU,this,Bool.or_assoc]
theorem ZI(t:Tm):hasNext t=(decide (t.op=4)||eU t.kids):=by cases t;rw[hasNext];rfl
theorem Vk(op:Int):∀(N:Nat)(t:Tm)(Al:Option Addr)(cl:Nat)(l:List ByteArray)(A:Option Addr)(c:Nat)(w:World),t.size≤N→zx w A c t→vK w Al l→l.length+t.size≤10000000 →
 Calls Tryz.prog 201 #[t.val A c,.int .i64 op,.slice Al l.length cl] w (ail op l.length t w):=by
 intro N
 induction N with
 |zero=>
  intro t Al cl l A c w hN;cases t;rw[Tm.size]at hN;omega
 |succ N ih=>
  intro t Al cl l A c w hN hV hl hlm;obtain⟨n,hn⟩:=aj t.kids.length;obtain⟨m,hm⟩:=aj l.length;obtain⟨F,hF⟩:=aj (ail op m t w);rw[←hm]at hlm⊢;rw[←hF];have hsz:t.size=1+Tm.aA t.kids:=by cases t;rw[Tm.size];rfl
  have hnl:=Tm.wG t.kids;have hcap:=hV.cap;have aQ:=hV.bU;unfold maxLen at aQ;obtain⟨w1,hw1⟩:=aj (w.alloc (.cells #[.int .i64 t.op,.int .i64 t.num,.string t.name,.slice A n c] 64));have hb1:=dz hw1;have hs1:w1.heap.size=w.heap.size+1:=by rw[hw1];simp
  have hbx:w1.heap[w.heap.size]?=some (.cells #[.int .i64 t.op,.int .i64 t.num,.string t.name,.slice A n c] 64 (0,0)):=by rw[hw1];exact eu w _
  have hwi:=acL Al cl l t.name w1 (by omega) (hl.Aq hb1 rfl);rw[←hm]at hwi;have hkl:t.kids.length≤10000000:=by omega
  rw[←hn]at hcap hkl
  have mg:Hid (∀k∈t.kids,k.size≤N):=fun k hk=>by
   have h1:=Tm.aM hk;omega
  have nV:Hid (∀W,Below w1.heap.size w1 W→W.cell? ⟨w.heap.size,3,none⟩=some (.slice A n c)):=fun W hb=>by
   have hx:=(hb.block _ (by rw[hs1];omega)).trans hbx;rw[cR W w.heap.size 3 _ _ (0,0) hx];rfl
  show Calls Tryz.prog 201 #[.agg #[.int .i64 t.op,.int .i64 t.num,.string t.name,.slice A t.kids.length c],.int .i64 op,.slice Al m cl] w F;rw[←hn];have HF:=Hd hF;have qm:=Hd ih;have HN:=Hd hn;have HM:=Hd hm;have HK:=Hd hV.kids;have HB1:=Hd hb1;have fA:=Hd hs1;have HW1:=Hd hw1;have Oe:=Hd hwi;have HL:=Hd hl;have HSE:=Hd hsz;have KG:Hid ((hasNext t=true)=((decide (t.op=4)||eU t.kids)=true)):=by show _=_;rw[ZI]
  have HMB:=Hd hlm;clear hF ih hn hm hsz hnl hb1 hs1 hbx hw1 hV hN hwi hl hlm
  by_cases ho:t.op=op
  ·have ho':(t.op==op)=true:=by simpa using ho
   have HO:=Hd ho;clear ho;go_in;go_wp2_with fail;rw[←HW1];refine Oe.mono ?_;rintro e w2 ⟨A0,c0,L0,rfl,hs0,hp0,hl0,hb2⟩;have JO:=Hd hs0;have HB2:=Hd hb2;have HQ0:Hid (op=4→(0<L0.length↔0<m∨t.op=4∨eU (t.kids.take 0)=true)):=fun h4=>⟨fun _=>.inr (.inl (by rw[HO,h4])),fun _=>hp0⟩;have HL0:Hid (L0.length≤m+1+Tm.aA (t.kids.take 0)):=by show _≤_;have:=HM.out;omega
   clear hs0 hp0 hl0 hb2;go_wp2_with fail
   go_loopw [2,7] (fun sl si wr=>∃(k:Nat)(Ak:Option Addr)(ck:Nat)(Lk:List ByteArray),k≤n∧sl=.slice Ak Lk.length ck∧si=.int .i64 k∧vK wr Ak Lk∧Lk.length≤m+1+Tm.aA (t.kids.take k)∧(op=4→(0<Lk.length↔0<m∨t.op=4∨eU (t.kids.take k)=true))∧Below w1.heap.size w1 wr) (fun _ i _=>n-(intOf i).toNat)
   case atStart=>exact⟨0,A0,c0,L0,zl _,rfl,rfl,JO,HL0,HQ0,HB2⟩
   case round=>
    obtain⟨k,Ak,ck,Lk,hk,rfl,rfl,hsk,hlk,hqk,hbel⟩:=hrel;have oU:=Hd hbel;have HSK:=Hd hsk;have Tt:=Hd hlk;have HQK:=Hd hqk;have nR:=hbel.size;have Sd:=nV wr hbel;have hbt:Below w.heap.size w wr:=HB1.trans (hbel.mono (by have:=fA.out;omega));have Jb:w.heap.size<wr.heap.size:=by have:=fA.out;omega
    by_cases hlt:k<n
    ·obtain⟨kd,hkd⟩:∃kd,t.kids[k]?=some kd:=⟨_,gG (by have:=HN.out;omega)⟩;have hmem:kd∈t.kids:=mG hkd
     rcases HK.out with h9|⟨g,off,rfl,hg,hrow⟩
     ·rw[h9]at hkd;simp at hkd
     have hat:=(hrow.get hkd).below hbt rfl hg;obtain⟨q0,q1,q2,A2,c2,q3,hV2⟩:=hat.open;have hgw:g<wr.heap.size:=by omega
     have htk:=Tm.j4 hkd;have htl:=Tm.eH t.kids (k+1);have hih:=qm kd Ak ck Lk A2 c2 wr (mg kd hmem) hV2 hsk (by have:=HMB.out;have:=HSE.out;omega);unfold Tm.val at hih;obtain⟨n2,hn2⟩:=aj kd.kids.length;rw[←hn2]at q3 hih;obtain⟨mk,HMK⟩:=ak Lk.length;rw[←HMK]at hih⊢;have JZ:=Hd htk;have HHN:Hid (eU (t.kids.take (k+1))=(eU (t.kids.take k)||hasNext kd)):=zh hkd;have HC:=Hd hih;have hk0:(0:Int)≤(k:Int):=by omega
     have hk1:(k:Int)<(n:Int):=by omega
     have e1:off+4*k=off+k*4:=by omega
     rw[e1]at q0 q1 q2 q3;clear hih hn2 hV2 hat hrow hmem hkd e1 hbel hbt htk htl hsk hlk hqk;go_wp2_with fail;refine HC.mono ?_;rintro e w4 ⟨A5,c5,L5,rfl,hs5,hl5,hq5,hb4⟩;have pU:=Hd (oU.trans (hb4.mono nR));have HS5:=Hd hs5
     have HL5:Hid (L5.length≤m+1+Tm.aA (t.kids.take (k+1))):=by
      show _≤_;have:=Tt.out;have:=JZ.out;have:=HMK.out;omega
     have HQ5:Hid (op=4→(0<L5.length↔0<m∨t.op=4∨eU (t.kids.take (k+1))=true)):=fun ho=>by
      rw[hq5 ho,HHN,HMK,HQK ho];cases eU (t.kids.take k)<;>cases hasNext kd<;>simp
     clear hb4 hs5 hl5 hq5 q0 q1 q2 q3 Sd;go_wp2_with fail
     go_roundw
     case rel=>exact⟨k+1,A5,c5,L5,by omega,rfl,by go_num,HS5,HL5,HQ5,pU⟩
     case measure=>simp[intOf];omega
    ·have hkn:k=n:=by omega
     have HE:Hid (Lk.length≤m+t.size∧(op=4→(0<Lk.length↔0<m∨hasNext t=true))):=by
      have h1:=Tt.out;have h2:=HQK.out;rw[hkn,List.take_of_length_le (by rw[←HN];exact lr _)]at h1 h2;refine⟨by have:=HSE.out;omega,fun ho=>?_⟩;rw[h2 ho,KG];cases eU t.kids<;>simp
     have hk1:¬(k:Int)<(n:Int):=by omega
     have lK:=Hd hbt;clear hlt hbel hbt hkn hsk hlk hqk;go_wp2_with fail;rw[HF];exact⟨Ak,ck,Lk,rfl,HSK,HE.1,HE.2,lK⟩
  ·have ho':(t.op==op)=false:=by simpa using ho
   have HO:=Hd ho;have HL0:Hid (l.length≤m+1+Tm.aA (t.kids.take 0)):=by show _≤_;have:=HM.out;omega
   have HQ0:Hid (op=4→(0<l.length↔0<m∨t.op=4∨eU (t.kids.take 0)=true)):=fun h4=>by
    have h1:¬t.op=4:=fun h=>HO (by rw[h,h4]);rw[←HM];simp[h1,eU]
   have JO:Hid (vK w1 Al l):=HL.Aq HB1 rfl;clear ho;go_in;go_wp2_with fail;rw[←HW1]
   go_loopw [2,7] (fun sl si wr=>∃(k:Nat)(Ak:Option Addr)(ck:Nat)(Lk:List ByteArray),k≤n∧sl=.slice Ak Lk.length ck∧si=.int .i64 k∧vK wr Ak Lk∧Lk.length≤m+1+Tm.aA (t.kids.take k)∧(op=4→(0<Lk.length↔0<m∨t.op=4∨eU (t.kids.take k)=true))∧Below w1.heap.size w1 wr) (fun _ i _=>n-(intOf i).toNat)
   case atStart=>exact⟨0,Al,cl,l,zl _,by rw[HM],rfl,JO,HL0,HQ0,Br _ _⟩
   case round=>
    obtain⟨k,Ak,ck,Lk,hk,rfl,rfl,hsk,hlk,hqk,hbel⟩:=hrel;have oU:=Hd hbel;have HSK:=Hd hsk;have Tt:=Hd hlk;have HQK:=Hd hqk;have nR:=hbel.size;have Sd:=nV wr hbel;have hbt:Below w.heap.size w wr:=HB1.trans (hbel.mono (by have:=fA.out;omega));have Jb:w.heap.size<wr.heap.size:=by have:=fA.out;omega
    by_cases hlt:k<n
    ·obtain⟨kd,hkd⟩:∃kd,t.kids[k]?=some kd:=⟨_,gG (by have:=HN.out;omega)⟩;have hmem:kd∈t.kids:=mG hkd
     rcases HK.out with h9|⟨g,off,rfl,hg,hrow⟩
     ·rw[h9]at hkd;simp at hkd
     have hat:=(hrow.get hkd).below hbt rfl hg;obtain⟨q0,q1,q2,A2,c2,q3,hV2⟩:=hat.open;have hgw:g<wr.heap.size:=by omega
     have htk:=Tm.j4 hkd;have htl:=Tm.eH t.kids (k+1);have hih:=qm kd Ak ck Lk A2 c2 wr (mg kd hmem) hV2 hsk (by have:=HMB.out;have:=HSE.out;omega);unfold Tm.val at hih;obtain⟨n2,hn2⟩:=aj kd.kids.length;rw[←hn2]at q3 hih;obtain⟨mk,HMK⟩:=ak Lk.length;rw[←HMK]at hih⊢;have JZ:=Hd htk;have HHN:Hid (eU (t.kids.take (k+1))=(eU (t.kids.take k)||hasNext kd)):=zh hkd;have HC:=Hd hih;have hk0:(0:Int)≤(k:Int):=by omega
     have hk1:(k:Int)<(n:Int):=by omega
     have e1:off+4*k=off+k*4:=by omega
     rw[e1]at q0 q1 q2 q3;clear hih hn2 hV2 hat hrow hmem hkd e1 hbel hbt htk htl hsk hlk hqk;go_wp2_with fail;refine HC.mono ?_;rintro e w4 ⟨A5,c5,L5,rfl,hs5,hl5,hq5,hb4⟩;have pU:=Hd (oU.trans (hb4.mono nR));have HS5:=Hd hs5
     have HL5:Hid (L5.length≤m+1+Tm.aA (t.kids.take (k+1))):=by
      show _≤_;have:=Tt.out;have:=JZ.out;have:=HMK.out;omega
     have HQ5:Hid (op=4→(0<L5.length↔0<m∨t.op=4∨eU (t.kids.take (k+1))=true)):=fun ho=>by
      rw[hq5 ho,HHN,HMK,HQK ho];cases eU (t.kids.take k)<;>cases hasNext kd<;>simp
     clear hb4 hs5 hl5 hq5 q0 q1 q2 q3 Sd;go_wp2_with fail
     go_roundw
     case rel=>exact⟨k+1,A5,c5,L5,by omega,rfl,by go_num,HS5,HL5,HQ5,pU⟩
     case measure=>simp[intOf];omega
    ·have hkn:k=n:=by omega
     have HE:Hid (Lk.length≤m+t.size∧(op=4→(0<Lk.length↔0<m∨hasNext t=true))):=by
      have h1:=Tt.out;have h2:=HQK.out;rw[hkn,List.take_of_length_le (by rw[←HN];exact lr _)]at h1 h2;refine⟨by have:=HSE.out;omega,fun ho=>?_⟩;rw[h2 ho,KG];cases eU t.kids<;>simp
     have hk1:¬(k:Int)<(n:Int):=by omega
     have lK:=Hd hbt;clear hlt hbel hbt hkn hsk hlk hqk;go_wp2_with fail;rw[HF];exact⟨Ak,ck,Lk,rfl,HSK,HE.1,HE.2,lK⟩
def ae7(t:Tm)(w:World)(e:Ending)(w':World):Prop:=∃(v1:Value)(A2:Option Addr)(n2 c2:Nat),e=.returned (.tuple #[v1,.slice A2 n2 c2])∧(n2=0↔hasNext t=false)∧Below w.heap.size w w'
theorem aY{w1 W W':World}(h:Below w1.heap.size w1 W)(hb:Below W.heap.size W W'):Below w1.heap.size w1 W':=h.trans (hb.mono h.size)
theorem aB{w1 W:World}{b:Nat}(h:Below w1.heap.size w1 W)(hb:b<w1.heap.size):∀o,W.cell? ⟨b,o,none⟩=w1.cell? ⟨b,o,none⟩:=fun o=>h.cell (p:=⟨b,o,none⟩) hb
theorem Vl(t:Tm)(A:Option Addr)(c:Nat)(w:World)(hV:zx w A c t)(hsz:t.size≤9000000) :
 Calls Tryz.prog 187 #[t.val A c] w (ae7 t w):=by
 obtain⟨n,hn⟩:=aj t.kids.length;obtain⟨F,hF⟩:=aj (ae7 t w);rw[←hF];obtain⟨w1,hw1⟩:=aj (w.alloc (.cells #[.int .i64 t.op,.int .i64 t.num,.string t.name,.slice A n c] 64));have hb1:=dz hw1;have hs1:w.heap.size<w1.heap.size:=by rw[hw1];simp
 have hbx:w1.heap[w.heap.size]?=some (.cells #[.int .i64 t.op,.int .i64 t.num,.string t.name,.slice A n c] 64 (0,0)):=by rw[hw1];exact eu w _
 have x0:w1.cell? ⟨w.heap.size,0,none⟩=some (.int .i64 t.op):=by rw[cR w1 w.heap.size 0 _ _ (0,0) hbx];rfl
 have x1:w1.cell? ⟨w.heap.size,1,none⟩=some (.int .i64 t.num):=by rw[cR w1 w.heap.size 1 _ _ (0,0) hbx];rfl
 have x2:w1.cell? ⟨w.heap.size,2,none⟩=some (.string t.name):=by rw[cR w1 w.heap.size 2 _ _ (0,0) hbx];rfl
 have x3:w1.cell? ⟨w.heap.size,3,none⟩=some (.slice A n c):=by rw[cR w1 w.heap.size 3 _ _ (0,0) hbx];rfl
 have xR:Hid (∀(op:Int)(W:World),Below w1.heap.size w1 W→Calls Tryz.prog 201 #[.agg #[.int .i64 t.op,.int .i64 t.num,.string t.name,.slice A n c],.int .i64 op,.slice none 0 0] W (ail op 0 t W)):=fun op W hb=>by
  have h:=Vk op t.size t none 0 [] A c W (lr _) ((hV.below hb1 rfl).below hb rfl) (.inl rfl) (by simp;omega);unfold Tm.val at h;rw[←hn]at h;exact h
 show Calls Tryz.prog 187 #[.agg #[.int .i64 t.op,.int .i64 t.num,.string t.name,.slice A t.kids.length c]] w F;rw[←hn];have HF:=Hd hF;have HB1:=Hd hb1;have HW1:=Hd hw1;clear hF hb1 hw1 hbx hV hn;go_in;go_wp2_with fail;rw[←HW1];have hbd:Below w1.heap.size w1 w1.drew:=(Br _ _).drew
 go_region_held3 (fun w'=>(∀o,w'.cell? ⟨w.heap.size,o,none⟩=w1.cell? ⟨w.heap.size,o,none⟩)∧Below w1.heap.size w1 w')
  (first
    |(exact⟨aB (by assumption) hs1,by assumption⟩)
    |fail)
  ((go_at_call 201;refine(xR _ _ (by assumption)).mono ?_;rintro e w5 ⟨A5,c5,L5,rfl,hs5,hl5,hq5,hb5⟩;have hk5:=aY (by assumption) hb5))
 have HQ5:Hid (L5.length=0↔hasNext t=false):=by
  have h:=hq5 trivial
  constructor
  ·intro h0
   cases hh:hasNext t with
   |false=>rfl
   |true=>have:=h.2 (.inr hh);omega
  ·intro h0
   rcases Nat.eq_zero_or_pos L5.length with h1|h1
   ·exact h1
   ·rcases h.1 h1 with h2|h2
    ·omega
    ·rw[h0]at h2;cases h2
 have J4:=Hd (HB1.trans (hk5.mono (by omega)));clear hq5 hk5 hs5 hl5 hb5 hbd;go_wp2_with fail;rw[HF];exact⟨_,A5,_,c5,rfl,HQ5,J4⟩
end Go.Proofs.YtkhoeoilamddaaaGreatDoor
