/- Walks and plain words: RefB RefE. -/
import Derived.Test.YtkhoeoilamddaaaGreatDoorQRefA
import Derived.Test.YtkhoeoilamddaaaGreatDoorQFrmB
namespace Go.Proofs.YtkhoeoilamddaaaGreatDoor
open Go.RowKit
set_option linter.unusedVariables false
set_option maxRecDepth 100000
set_option maxHeartbeats 8000000
theorem akW{o:Array Oper}{i:Nat}{x:Oper}(h:o.toList[i]?=some x):o[i]?=some x:=by simpa using h
def InQ(l:List ByteArray)(w:World)(e:Ending)(w':World):Prop:=∃b,e=.returned (.bool b)∧(b=true→0<l.length)∧w=w'
theorem agR(A:Option Addr)(c:Nat)(l:List ByteArray)(s:ByteArray)(w:World)(hl:l.length≤10000000)(hA:vK w A l) :
 Calls Tryz.prog 213 #[.slice A l.length c,.string s] w (InQ l w):=by
 obtain⟨n,D⟩:=ak l.length;obtain⟨F,I⟩:=ak (InQ l w);rw[←D]at hl⊢;rw[←I];have G:=Hd hA;clear hA;go_in
 go_wp2
 go_loop [5] (fun i=>∃k:Nat,k≤n∧i=.int .i64 k) (fun i=>n-(intOf i).toNat)
 case atStart=>exact⟨0,zl _,rfl⟩
 case round=>
  obtain⟨k,hk,rfl⟩:=hrel
  by_cases aa:k<n
  ·rcases G.out with h0|⟨b,off,rfl,hb,hc⟩
   ·exfalso
    have:=D.out;rw[h0]at this;simp at this;omega
   have x0:=hc k (by have:=D.out;omega);clear hc
   generalize l.getD k ByteArray.empty=x at *
   have Y:(0:Int)≤(k:Int):=by omega
   have J:(k:Int)<(n:Int):=by omega
   have O:Hid (0<n):=by show 0<n;omega
   cases hq:(x.toList==s.toList)
   ·go_wp2_with fail
    go_round
    case rel=>exact⟨k+1,by omega,by go_num⟩
    case measure=>simp[intOf];omega
   ·go_wp2_with fail;rw[I];exact⟨true,rfl,(fun _=>by rw[←D];exact O),rfl⟩
  ·have J:¬(k:Int)<(n:Int):=by omega
   go_wp2
   rw[I];exact⟨false,rfl,(fun h=>by cases h),rfl⟩
def aha(l:List ByteArray)(w:World)(e:Ending)(w':World):Prop:=∃A' c' L',e=.returned (.slice A' L'.length c')∧vK w' A' L'∧0<L'.length∧L'.length≤l.length+1∧Below w.heap.size w w'
theorem jX{w:World}{B:Nat}{T:TypeId}{v:Value}{n:Nat}{xs:List Value}(h:w.ownsRow B T 1 v n xs):∃a cap,v=.slice a n cap:=by
 rcases h.2 with⟨rfl,rfl⟩|⟨g,cap,cur,rfl,_⟩
 ·exact⟨_,_,rfl⟩
 ·exact⟨_,_,rfl⟩
theorem w_{w w2 w3:World}{o:Obj}{v:Value}{n:Nat}{xs:List Value}{T:TypeId}(hb:Below w.heap.size w w2)(I:w2.ownsRow w.heap.size T 1 v n xs)(D:(w2.alloc o).grownBy w3 v.ownBlock):Below w.heap.size w w3:=
 (hb.alloc hb.size o).grown D (by simp;have:=hb.size;omega) fun k G=>(I.lt k G).1
theorem acL(A:Option Addr)(c:Nat)(l:List ByteArray)(s:ByteArray)(w:World)(hl:l.length≤10000000)(hA:vK w A l) :
 Calls Tryz.prog 206 #[.slice A l.length c,.string s] w (aha l w):=by
 obtain⟨i0,hi,ag,ai,ao⟩:=info_parts nO;have ax:=agR A c l s w hl hA;obtain⟨n,HN⟩:=ak l.length;obtain⟨F,HF⟩:=ak (aha l w);rw[←HN]at hl ax⊢;rw[←HF];have ay:=Hd hA;have a6:=Hd ax;clear hA ax;go_in;go_wp2_with fail;refine a6.mono ?_;rintro e w1 ⟨b,rfl,hb,hw⟩;rw[←hw];have aS:=Hd hb;clear hw hb
 cases b with
 |true=>
  go_wp2_with fail;rw[HF];exact⟨A,c,l,by rw[←HN];rfl,ay,aS trivial,by omega,Br _ _⟩
 |false=>
  go_wp2_with fail
  go_loopw [5,6,7] (fun so sd si wr=>∃(k m:Nat)(dn:Bool)(ys:List ByteArray),k≤n∧si=.int .i64 k∧sd=.bool dn∧m=k+dn.toNat∧ys.length=m∧wr.ownsRow w.heap.size 9 1 so m (ys.map Value.string)∧Below w.heap.size w wr) (fun _ _ si _=>n-(intOf si).toNat)
  case atStart=>exact⟨0,0,false,[],zl _,rfl,rfl,rfl,rfl,World.ownsRow_made w #[] 0 (lr _) (zl _) rfl,(Br _ w).alloc (lr _) _⟩
  case round=>
   obtain⟨k,m,dn,ys,hk,rfl,rfl,hm,aQ,Y,J⟩:=hrel;obtain⟨sa,vX,bf⟩:=jX Y;subst bf;have HB:=Hd J;have HO:=Hd Y;have I:=Hd aQ;have HM:=Hd hm;have nR:=J.size;have bn:m≤k+1:=by rw[hm];cases dn<;>simp
   have bo:k≤m:=by rw[hm];cases dn<;>simp
   clear aQ hm
   by_cases bm:k<n
   ·rcases ay.out with h0|⟨b,off,rfl,hb,hc⟩
    ·exfalso
     have:=HN.out;rw[h0]at this;simp at this;omega
    have x0:=hc k (by have:=HN.out;omega);have X0:=Hd x0;rw[←J.cell (p:=⟨b,_,none⟩) hb]at x0;have bk:b<wr.heap.size:=by omega
    have kH:=Hd hb;clear hc
    generalize l.getD k ByteArray.empty=x at *
    have bl:(0:Int)≤(k:Int):=by omega
    have bb:(k:Int)<(n:Int):=by omega
    clear J Y
    cases dn with
    |true=>
     have sH:Hid (m=k+1):=HM
     go_wp2_with (at_builtin;refine wpList_append_lies _ (by rfl) _ _ _ (by rfl) w.heap.size 9 i0 (.string ⟨#[]⟩) 1 16 Tryz.underlying120 hi ag ai ao rfl (by decide) _ (m) _ (by rfl) (HO.alloc _) ⟨wr.heap.size,0,none⟩ 1 1 [.string x] (by rfl) rfl (World.news_of_block (eu wr _)) (fun u hu=>by rw[List.mem_singleton.1 hu];rfl) (by decide) ?c3 ?c4 ?c5 (wr.heap.size+1) (by simp) ?_)
     case c3=>unfold maxLen;omega
     case c4=>omega
     case c5=>first|omega|(simp;omega)
     intro g3 Uo w3 G D Nb af
     have Ai:Hid (w3.ownsRow w.heap.size 9 1 (.slice (some ⟨g3,0,none⟩) (m+1) Uo) (m+1) ((ys++[x]).map Value.string)):=by
      show World.ownsRow _ _ _ _ _ _ _;rw[List.map_append,List.map_singleton];exact G
     have wJ:=w_ HB HO D;have aE:=wJ.size;have u_:=Hd wJ;clear G D Nb wJ;go_wp2_with fail
     go_roundw
     case rel=>exact⟨k+1,m+1,true,ys++[x],by omega,by go_num,rfl,by rw[sH];rfl,by simp[I.out],Ai,u_⟩
     case measure=>simp[intOf];omega
    |false=>
     have sH:Hid (m=k):=HM
     have aw:(Op.bytesLess x.toList s.toList=false∧(x.toList==s.toList)=false)∨Op.bytesLess x.toList s.toList=true∨(Op.bytesLess x.toList s.toList=false∧(x.toList==s.toList)=true):=by
      cases Op.bytesLess x.toList s.toList<;>cases(x.toList==s.toList)<;>simp
     rcases aw with⟨g1,g2⟩|aw
     ·go_wp2_with (at_builtin;refine wpList_append_lies _ (by rfl) _ _ _ (by rfl) w.heap.size 9 i0 (.string ⟨#[]⟩) 1 16 Tryz.underlying120 hi ag ai ao rfl (by decide) _ (m) _ (by rfl) (HO.alloc _) ⟨wr.heap.size,0,none⟩ 1 1 [.string s] (by rfl) rfl (World.news_of_block (eu wr _)) (fun u hu=>by rw[List.mem_singleton.1 hu];rfl) (by decide) ?c3 ?c4 ?c5 (wr.heap.size+1) (by simp) ?_)
      case c3=>unfold maxLen;omega
      case c4=>omega
      case c5=>first|omega|(simp;omega)
      intro g2 ar w2 aa O a7 bd
      have Ah:Hid (w2.ownsRow w.heap.size 9 1 (.slice (some ⟨g2,0,none⟩) (m+1) ar) (m+1) ((ys++[s]).map Value.string)):=by
       show World.ownsRow _ _ _ _ _ _ _;rw[List.map_append,List.map_singleton];exact aa
      have ab:=w_ HB HO O;have bg:=ab.size;have Tc:=Hd ab;clear aa O a7 ab;have y0:w2.cell? ⟨b,off+k,none⟩=some (.string x):=by rw[Tc.cell (p:=⟨b,_,none⟩) kH];exact X0
      have bj:b<w2.heap.size:=by have:=kH.out;omega
      clear x0
      go_wp2_with (at_builtin;refine wpList_append_lies _ (by rfl) _ _ _ (by rfl) w.heap.size 9 i0 (.string ⟨#[]⟩) 1 16 Tryz.underlying120 hi ag ai ao rfl (by decide) _ (m+1) _ (by rfl) (Ah.alloc _) ⟨w2.heap.size,0,none⟩ 1 1 [.string x] (by rfl) rfl (World.news_of_block (eu w2 _)) (fun u hu=>by rw[List.mem_singleton.1 hu];rfl) (by decide) ?c3 ?c4 ?c5 (w2.heap.size+1) (by simp) ?_)
      case c3=>unfold maxLen;omega
      case c4=>omega
      case c5=>first|omega|(simp;omega)
      intro g4 av w4 aJ aF a8 bi
      have uX:Hid (w4.ownsRow w.heap.size 9 1 (.slice (some ⟨g4,0,none⟩) (m+1+1) av) (m+1+1) (((ys++[s])++[x]).map Value.string)):=by
       show World.ownsRow _ _ _ _ _ _ _;rw[List.map_append,List.map_singleton]
       simpa using aJ
      have Ju:=w_ Tc Ah aF;have bh:=Ju.size;have ba:=Hd Ju;clear aJ aF a8 Ju;go_wp2_with fail
      go_roundw
      case rel=>exact⟨k+1,m+1+1,true,ys++[s]++[x],by omega,by go_num,rfl,by rw[sH];rfl,by simp[I.out],uX,ba⟩
      case measure=>simp[intOf];omega
     ·rcases aw with g1|⟨g1,g2⟩
      all_goals
       go_wp2_with (at_builtin;refine wpList_append_lies _ (by rfl) _ _ _ (by rfl) w.heap.size 9 i0 (.string ⟨#[]⟩) 1 16 Tryz.underlying120 hi ag ai ao rfl (by decide) _ (m) _ (by rfl) (HO.alloc _) ⟨wr.heap.size,0,none⟩ 1 1 [.string x] (by rfl) rfl (World.news_of_block (eu wr _)) (fun u hu=>by rw[List.mem_singleton.1 hu];rfl) (by decide) ?c3 ?c4 ?c5 (wr.heap.size+1) (by simp) ?_)
       case c3=>unfold maxLen;omega
       case c4=>omega
       case c5=>first|omega|(simp;omega)
       intro g3 Uo w3 G D Nb af
       have Ai:Hid (w3.ownsRow w.heap.size 9 1 (.slice (some ⟨g3,0,none⟩) (m+1) Uo) (m+1) ((ys++[x]).map Value.string)):=by
        show World.ownsRow _ _ _ _ _ _ _;rw[List.map_append,List.map_singleton];exact G
       have wJ:=w_ HB HO D;have aE:=wJ.size;have u_:=Hd wJ;clear G D Nb wJ;go_wp2_with fail
       go_roundw
       case rel=>exact⟨k+1,m+1,false,ys++[x],by omega,by go_num,rfl,by rw[sH];rfl,by simp[I.out],Ai,u_⟩
       case measure=>simp[intOf];omega
   ·have bb:¬(k:Int)<(n:Int):=by omega
    have aP:k=n:=by omega
    have az:=Hd aP;clear aP J Y
    cases dn with
    |true=>
     have sH:Hid (m=k+1):=HM;go_wp2_with fail;rw[HF];obtain⟨A',c',hv,hs⟩:=gF (by rw[I];exact HO);rw[I]at hv;exact⟨A',c',ys,by first|(rw[hv,I];done)|(rw[hv,I];rfl),hs,by rw[I];have:=sH.out;omega,by rw[I,sH,az,←HN];exact lr _,HB⟩
    |false=>
     have sH:Hid (m=k):=HM
     go_wp2_with (at_builtin;refine wpList_append_lies _ (by rfl) _ _ _ (by rfl) w.heap.size 9 i0 (.string ⟨#[]⟩) 1 16 Tryz.underlying120 hi ag ai ao rfl (by decide) _ (m) _ (by rfl) (HO.alloc _) ⟨wr.heap.size,0,none⟩ 1 1 [.string s] (by rfl) rfl (World.news_of_block (eu wr _)) (fun u hu=>by rw[List.mem_singleton.1 hu];rfl) (by decide) ?c3 ?c4 ?c5 (wr.heap.size+1) (by simp) ?_)
     case c3=>unfold maxLen;omega
     case c4=>omega
     case c5=>first|omega|(simp;omega)
     intro g3 Uo w3 G D Nb af
     have Ai:Hid (w3.ownsRow w.heap.size 9 1 (.slice (some ⟨g3,0,none⟩) (m+1) Uo) (m+1) ((ys++[s]).map Value.string)):=by
      show World.ownsRow _ _ _ _ _ _ _;rw[List.map_append,List.map_singleton];exact G
     have wJ:=w_ HB HO D;have aE:=wJ.size;have u_:=Hd wJ;clear G D Nb wJ;go_wp2_with fail;rw[HF];have ae:(ys++[s]).length=m+1:=by simp[I.out]
     obtain⟨A',c',hv,hs⟩:=gF (by rw[ae];exact Ai);rw[ae]at hv;exact⟨A',c',ys++[s],by rw[hv,ae];rfl,hs,by rw[ae];omega,by rw[ae,sH,az,←HN];exact lr _,u_⟩
def ail(op:Int)(m:Nat)(t:Tm)(w:World)(e:Ending)(w':World):Prop:=∃A' c' L',e=.returned (.slice A' L'.length c')∧vK w' A' L'∧L'.length≤m+t.size∧(op=4→(0<L'.length↔0<m∨hasNext t=true))∧Below w.heap.size w w'
theorem zh:∀{l:List Tm} {k:Nat} {t:Tm},l[k]?=some t→eU (l.take (k+1))=(eU (l.take k)||hasNext t)
 |x::r,0,t,h=>by
  simp at h;subst h;simp[eU]
 |x::r,k+1,t,h=>by
  have:=zh (l:=r) (k:=k) (by simpa using h);simp only[List.take_succ_cons,eU,this,Bool.or_assoc]
theorem ZI(t:Tm):hasNext t=(decide (t.op=4)||eU t.kids):=by cases t;rw[hasNext];rfl
theorem Vk(op:Int):∀(N:Nat)(t:Tm)(Al:Option Addr)(cl:Nat)(l:List ByteArray)(A:Option Addr)(c:Nat)(w:World),t.size≤N→zx w A c t→vK w Al l→l.length+t.size≤10000000 →
 Calls Tryz.prog 201 #[t.val A c,.int .i64 op,.slice Al l.length cl] w (ail op l.length t w):=by
 intro N
 induction N with
 |zero=>
  intro t Al cl l A c w hN;cases t;rw[Tm.size]at hN;omega
 |succ N ih=>
  intro t Al cl l A c w hN hV hl bg;obtain⟨n,hn⟩:=aj t.kids.length;obtain⟨m,hm⟩:=aj l.length;obtain⟨F,hF⟩:=aj (ail op m t w);rw[←hm]at bg⊢;rw[←hF];have hsz:t.size=1+Tm.aA t.kids:=by cases t;rw[Tm.size];rfl
  have bC:=Tm.wG t.kids;have bb:=hV.cap;have aQ:=hV.bU;unfold maxLen at aQ;obtain⟨w1,hw1⟩:=aj (w.alloc (.cells #[.int .i64 t.op,.int .i64 t.num,.string t.name,.slice A n c] 64));have hb1:=dz hw1;have bi:w1.heap.size=w.heap.size+1:=by rw[hw1];simp
  have bn:w1.heap[w.heap.size]?=some (.cells #[.int .i64 t.op,.int .i64 t.num,.string t.name,.slice A n c] 64 (0,0)):=by rw[hw1];exact eu w _
  have bj:=acL Al cl l t.name w1 (by omega) (hl.Aq hb1 rfl);rw[←hm]at bj;have bw:t.kids.length≤10000000:=by omega
  rw[←hn]at bb bw
  have mg:Hid (∀k∈t.kids,k.size≤N):=fun k hk=>by
   have h1:=Tm.aM hk;omega
  have nV:Hid (∀W,Below w1.heap.size w1 W→W.cell? ⟨w.heap.size,3,none⟩=some (.slice A n c)):=fun W hb=>by
   have hx:=(hb.block _ (by rw[bi];omega)).trans bn;rw[cR W w.heap.size 3 _ _ (0,0) hx];rfl
  show Calls Tryz.prog 201 #[.agg #[.int .i64 t.op,.int .i64 t.num,.string t.name,.slice A t.kids.length c],.int .i64 op,.slice Al m cl] w F;rw[←hn];have HF:=Hd hF;have qm:=Hd ih;have HN:=Hd hn;have HM:=Hd hm;have HK:=Hd hV.kids;have aF:=Hd hb1;have fA:=Hd bi;have bl:=Hd hw1;have Oe:=Hd bj;have HL:=Hd hl;have aE:=Hd hsz;have KG:Hid ((hasNext t=true)=((decide (t.op=4)||eU t.kids)=true)):=by show _=_;rw[ZI]
  have bk:=Hd bg;clear hF ih hn hm hsz bC hb1 bi bn hw1 hV hN bj hl bg
  by_cases ho:t.op=op
  ·have bE:(t.op==op)=true:=by simpa using ho
   have HO:=Hd ho;clear ho;go_in;go_wp2_with fail;rw[←bl];refine Oe.mono ?_;rintro e w2 ⟨A0,c0,L0,rfl,bp,bo,bz,bm⟩;have JO:=Hd bp;have br:=Hd bm;have a6:Hid (op=4→(0<L0.length↔0<m∨t.op=4∨eU (t.kids.take 0)=true)):=fun h4=>⟨fun _=>.inr (.inl (by rw[HO,h4])),fun _=>bo⟩;have aP:Hid (L0.length≤m+1+Tm.aA (t.kids.take 0)):=by show _≤_;have:=HM.out;omega
   clear bp bo bz bm;go_wp2_with fail
   go_loopw [2,7] (fun sl si wr=>∃(k:Nat)(Ak:Option Addr)(ck:Nat)(J:List ByteArray),k≤n∧sl=.slice Ak J.length ck∧si=.int .i64 k∧vK wr Ak J∧J.length≤m+1+Tm.aA (t.kids.take k)∧(op=4→(0<J.length↔0<m∨t.op=4∨eU (t.kids.take k)=true))∧Below w1.heap.size w1 wr) (fun _ i _=>n-(intOf i).toNat)
   case atStart=>exact⟨0,A0,c0,L0,zl _,rfl,rfl,JO,aP,a6,br⟩
   case round=>
    obtain⟨k,Ak,ck,J,hk,rfl,rfl,Y,ae,af,D⟩:=hrel;have oU:=Hd D;have ba:=Hd Y;have Tt:=Hd ae;have ag:=Hd af;have nR:=D.size;have Sd:=nV wr D;have O:Below w.heap.size w wr:=aF.trans (D.mono (by have:=fA.out;omega));have Jb:w.heap.size<wr.heap.size:=by have:=fA.out;omega
    by_cases bh:k<n
    ·obtain⟨kd,G⟩:∃kd,t.kids[k]?=some kd:=⟨_,gG (by have:=HN.out;omega)⟩;have aa:kd∈t.kids:=mG G
     rcases HK.out with h9|⟨g,off,rfl,hg,hrow⟩
     ·rw[h9]at G;simp at G
     have ao:=(hrow.get G).below O rfl hg;obtain⟨q0,q1,q2,A2,c2,q3,ai⟩:=ao.open;have bu:g<wr.heap.size:=by omega
     have az:=Tm.j4 G;have htl:=Tm.eH t.kids (k+1);have I:=qm kd Ak ck J A2 c2 wr (mg kd aa) ai Y (by have:=bk.out;have:=aE.out;omega);unfold Tm.val at I;obtain⟨n2,aw⟩:=aj kd.kids.length;rw[←aw]at q3 I;obtain⟨mk,ab⟩:=ak J.length;rw[←ab]at I⊢;have JZ:=Hd az;have aJ:Hid (eU (t.kids.take (k+1))=(eU (t.kids.take k)||hasNext kd)):=zh G;have HC:=Hd I;have bv:(0:Int)≤(k:Int):=by omega
     have bd:(k:Int)<(n:Int):=by omega
     have e1:off+4*k=off+k*4:=by omega
     rw[e1]at q0 q1 q2 q3;clear I aw ai ao hrow aa G e1 D O az htl Y ae af;go_wp2_with fail;refine HC.mono ?_;rintro e w4 ⟨A5,c5,L5,rfl,ay,bf,ax,ar⟩;have pU:=Hd (oU.trans (ar.mono nR));have a8:=Hd ay
     have aS:Hid (L5.length≤m+1+Tm.aA (t.kids.take (k+1))):=by
      show _≤_;have:=Tt.out;have:=JZ.out;have:=ab.out;omega
     have a7:Hid (op=4→(0<L5.length↔0<m∨t.op=4∨eU (t.kids.take (k+1))=true)):=fun ho=>by
      rw[ax ho,aJ,ab,ag ho];cases eU (t.kids.take k)<;>cases hasNext kd<;>simp
     clear ar ay bf ax q0 q1 q2 q3 Sd;go_wp2_with fail
     go_roundw
     case rel=>exact⟨k+1,A5,c5,L5,by omega,rfl,by go_num,a8,aS,a7,pU⟩
     case measure=>simp[intOf];omega
    ·have av:k=n:=by omega
     have HE:Hid (J.length≤m+t.size∧(op=4→(0<J.length↔0<m∨hasNext t=true))):=by
      have h1:=Tt.out;have h2:=ag.out;rw[av,List.take_of_length_le (by rw[←HN];exact lr _)]at h1 h2;refine⟨by have:=aE.out;omega,fun ho=>?_⟩;rw[h2 ho,KG];cases eU t.kids<;>simp
     have bd:¬(k:Int)<(n:Int):=by omega
     have lK:=Hd O;clear bh D O av Y ae af;go_wp2_with fail;rw[HF];exact⟨Ak,ck,J,rfl,ba,HE.1,HE.2,lK⟩
  ·have bE:(t.op==op)=false:=by simpa using ho
   have HO:=Hd ho;have aP:Hid (l.length≤m+1+Tm.aA (t.kids.take 0)):=by show _≤_;have:=HM.out;omega
   have a6:Hid (op=4→(0<l.length↔0<m∨t.op=4∨eU (t.kids.take 0)=true)):=fun h4=>by
    have h1:¬t.op=4:=fun h=>HO (by rw[h,h4]);rw[←HM];simp[h1,eU]
   have JO:Hid (vK w1 Al l):=HL.Aq aF rfl;clear ho;go_in;go_wp2_with fail;rw[←bl]
   go_loopw [2,7] (fun sl si wr=>∃(k:Nat)(Ak:Option Addr)(ck:Nat)(J:List ByteArray),k≤n∧sl=.slice Ak J.length ck∧si=.int .i64 k∧vK wr Ak J∧J.length≤m+1+Tm.aA (t.kids.take k)∧(op=4→(0<J.length↔0<m∨t.op=4∨eU (t.kids.take k)=true))∧Below w1.heap.size w1 wr) (fun _ i _=>n-(intOf i).toNat)
   case atStart=>exact⟨0,Al,cl,l,zl _,by rw[HM],rfl,JO,aP,a6,Br _ _⟩
   case round=>
    obtain⟨k,Ak,ck,J,hk,rfl,rfl,Y,ae,af,D⟩:=hrel;have oU:=Hd D;have ba:=Hd Y;have Tt:=Hd ae;have ag:=Hd af;have nR:=D.size;have Sd:=nV wr D;have O:Below w.heap.size w wr:=aF.trans (D.mono (by have:=fA.out;omega));have Jb:w.heap.size<wr.heap.size:=by have:=fA.out;omega
    by_cases bh:k<n
    ·obtain⟨kd,G⟩:∃kd,t.kids[k]?=some kd:=⟨_,gG (by have:=HN.out;omega)⟩;have aa:kd∈t.kids:=mG G
     rcases HK.out with h9|⟨g,off,rfl,hg,hrow⟩
     ·rw[h9]at G;simp at G
     have ao:=(hrow.get G).below O rfl hg;obtain⟨q0,q1,q2,A2,c2,q3,ai⟩:=ao.open;have bu:g<wr.heap.size:=by omega
     have az:=Tm.j4 G;have htl:=Tm.eH t.kids (k+1);have I:=qm kd Ak ck J A2 c2 wr (mg kd aa) ai Y (by have:=bk.out;have:=aE.out;omega);unfold Tm.val at I;obtain⟨n2,aw⟩:=aj kd.kids.length;rw[←aw]at q3 I;obtain⟨mk,ab⟩:=ak J.length;rw[←ab]at I⊢;have JZ:=Hd az;have aJ:Hid (eU (t.kids.take (k+1))=(eU (t.kids.take k)||hasNext kd)):=zh G;have HC:=Hd I;have bv:(0:Int)≤(k:Int):=by omega
     have bd:(k:Int)<(n:Int):=by omega
     have e1:off+4*k=off+k*4:=by omega
     rw[e1]at q0 q1 q2 q3;clear I aw ai ao hrow aa G e1 D O az htl Y ae af;go_wp2_with fail;refine HC.mono ?_;rintro e w4 ⟨A5,c5,L5,rfl,ay,bf,ax,ar⟩;have pU:=Hd (oU.trans (ar.mono nR));have a8:=Hd ay
     have aS:Hid (L5.length≤m+1+Tm.aA (t.kids.take (k+1))):=by
      show _≤_;have:=Tt.out;have:=JZ.out;have:=ab.out;omega
     have a7:Hid (op=4→(0<L5.length↔0<m∨t.op=4∨eU (t.kids.take (k+1))=true)):=fun ho=>by
      rw[ax ho,aJ,ab,ag ho];cases eU (t.kids.take k)<;>cases hasNext kd<;>simp
     clear ar ay bf ax q0 q1 q2 q3 Sd;go_wp2_with fail
     go_roundw
     case rel=>exact⟨k+1,A5,c5,L5,by omega,rfl,by go_num,a8,aS,a7,pU⟩
     case measure=>simp[intOf];omega
    ·have av:k=n:=by omega
     have HE:Hid (J.length≤m+t.size∧(op=4→(0<J.length↔0<m∨hasNext t=true))):=by
      have h1:=Tt.out;have h2:=ag.out;rw[av,List.take_of_length_le (by rw[←HN];exact lr _)]at h1 h2;refine⟨by have:=aE.out;omega,fun ho=>?_⟩;rw[h2 ho,KG];cases eU t.kids<;>simp
     have bd:¬(k:Int)<(n:Int):=by omega
     have lK:=Hd O;clear bh D O av Y ae af;go_wp2_with fail;rw[HF];exact⟨Ak,ck,J,rfl,ba,HE.1,HE.2,lK⟩
def ae7(t:Tm)(w:World)(e:Ending)(w':World):Prop:=∃(v1:Value)(A2:Option Addr)(n2 c2:Nat),e=.returned (.tuple #[v1,.slice A2 n2 c2])∧(n2=0↔hasNext t=false)∧Below w.heap.size w w'
theorem aY{w1 W W':World}(h:Below w1.heap.size w1 W)(hb:Below W.heap.size W W'):Below w1.heap.size w1 W':=h.trans (hb.mono h.size)
theorem aB{w1 W:World}{b:Nat}(h:Below w1.heap.size w1 W)(hb:b<w1.heap.size):∀o,W.cell? ⟨b,o,none⟩=w1.cell? ⟨b,o,none⟩:=fun o=>h.cell (p:=⟨b,o,none⟩) hb
theorem Vl(t:Tm)(A:Option Addr)(c:Nat)(w:World)(hV:zx w A c t)(hsz:t.size≤9000000) :
 Calls Tryz.prog 187 #[t.val A c] w (ae7 t w):=by
 obtain⟨n,hn⟩:=aj t.kids.length;obtain⟨F,hF⟩:=aj (ae7 t w);rw[←hF];obtain⟨w1,hw1⟩:=aj (w.alloc (.cells #[.int .i64 t.op,.int .i64 t.num,.string t.name,.slice A n c] 64));have hb1:=dz hw1;have af:w.heap.size<w1.heap.size:=by rw[hw1];simp
 have D:w1.heap[w.heap.size]?=some (.cells #[.int .i64 t.op,.int .i64 t.num,.string t.name,.slice A n c] 64 (0,0)):=by rw[hw1];exact eu w _
 have x0:w1.cell? ⟨w.heap.size,0,none⟩=some (.int .i64 t.op):=by rw[cR w1 w.heap.size 0 _ _ (0,0) D];rfl
 have x1:w1.cell? ⟨w.heap.size,1,none⟩=some (.int .i64 t.num):=by rw[cR w1 w.heap.size 1 _ _ (0,0) D];rfl
 have x2:w1.cell? ⟨w.heap.size,2,none⟩=some (.string t.name):=by rw[cR w1 w.heap.size 2 _ _ (0,0) D];rfl
 have x3:w1.cell? ⟨w.heap.size,3,none⟩=some (.slice A n c):=by rw[cR w1 w.heap.size 3 _ _ (0,0) D];rfl
 have xR:Hid (∀(op:Int)(W:World),Below w1.heap.size w1 W→Calls Tryz.prog 201 #[.agg #[.int .i64 t.op,.int .i64 t.num,.string t.name,.slice A n c],.int .i64 op,.slice none 0 0] W (ail op 0 t W)):=fun op W hb=>by
  have h:=Vk op t.size t none 0 [] A c W (lr _) ((hV.below hb1 rfl).below hb rfl) (.inl rfl) (by simp;omega);unfold Tm.val at h;rw[←hn]at h;exact h
 show Calls Tryz.prog 187 #[.agg #[.int .i64 t.op,.int .i64 t.num,.string t.name,.slice A t.kids.length c]] w F;rw[←hn];have HF:=Hd hF;have O:=Hd hb1;have aa:=Hd hw1;clear hF hb1 hw1 D hV hn;go_in;go_wp2_with fail;rw[←aa];have ab:Below w1.heap.size w1 w1.drew:=(Br _ _).drew
 go_region_held3 (fun w'=>(∀o,w'.cell? ⟨w.heap.size,o,none⟩=w1.cell? ⟨w.heap.size,o,none⟩)∧Below w1.heap.size w1 w')
  (first
    |(exact⟨aB (by assumption) af,by assumption⟩)
    |fail)
  ((go_at_call 201;refine(xR _ _ (by assumption)).mono ?_;rintro e w5 ⟨A5,c5,L5,rfl,ag,ae,J,G⟩;have I:=aY (by assumption) G))
 have Y:Hid (L5.length=0↔hasNext t=false):=by
  have h:=J trivial
  constructor
  ·intro h0
   cases hh:hasNext t with
   |false=>rfl
   |true=>have:=h.2 (.inr hh);omega
  ·intro h0
   rcases Nat.eq_zero_or_pos L5.length with h1|h1
   ·exact h1
   ·rcases h.1 h1 with h2|h2
    ·omega
    ·rw[h0]at h2;cases h2
 have J4:=Hd (O.trans (I.mono (by omega)));clear J I ag ae G ab;go_wp2_with fail;rw[HF];exact⟨_,A5,_,c5,rfl,Y,J4⟩
theorem ZN(op:Int)(w:World) :
 Calls Tryz.prog 186 #[.int .i64 op] w fun e w'=>e=.returned (.int .i64 (bV op))∧w=w':=by
 obtain⟨r,D⟩:=ak (bV op);rw[←D];go_in
 go_wp2
 all_goals
  go_ret;rw[D];refine⟨?_,rfl⟩
  simp_all[bV]
theorem Si(op n:Int)(s:ByteArray)(A:Option Addr)(k c:Nat)(w:World)(hs:s.size≤maxLen)(hk:k≤maxLen) :
 Calls Tryz.prog 188 #[.agg #[.int .i64 op,.int .i64 n,.string s,.slice A k c]] w fun e w'=>e=.returned (.bool (decide (op=0)&&decide (n=0)&&decide (s.size=0)&&decide (k=0)))∧Below w.heap.size w w':=by
 unfold maxLen at hs hk;obtain⟨F,hF⟩:∃F:Ending→World→Prop,F=fun e w'=>e=.returned (.bool (decide (op=0)&&decide (n=0)&&decide (s.size=0)&&decide (k=0)))∧Below w.heap.size w w':=⟨_,rfl⟩;rw[←hF];have G:=Hd hF;have D:=Hd ((Br w.heap.size w).alloc (lr _) (.cells #[.int .i64 op,.int .i64 n,.string s,.slice A k c] 64));clear hF
 by_cases h0:op=0
 ·subst h0
  by_cases h1:n=0
  ·subst h1
   rcases Nat.eq_zero_or_pos s.size with h2|h2
   ·have e2:=LD h2;have e3:=mY h2;have J:=Hd h2;clear h2
    by_cases h3:k=0
    ·subst h3;go_in
     go_wp2
     rw[G];exact⟨by rw[J];rfl,D⟩
    ·have aa:((k:Int)==0)=false:=by simp;omega
     have Y:=Hd h3;clear h3;go_in
     go_wp2
     rw[G];exact⟨by rw[dF Y.out];simp,D⟩
   ·have e3:=rE h2;have J:=Hd h2;clear h2;go_in
    go_wp2
    rw[G];exact⟨by rw[dF (show ¬s.size=0 by have:=J.out;omega)];simp,D⟩
  ·have O:(n==0)=false:=by simpa using h1
   have I:=Hd h1;clear h1;go_in
   go_wp2
   rw[G];exact⟨by rw[dF I.out];simp,D⟩
 ·have O:(op==0)=false:=by simpa using h0
  have I:=Hd h0;clear h0;go_in
  go_wp2
  rw[G];exact⟨by rw[dF I.out];simp,D⟩
theorem oK{B:Nat}{a w:World}(h:Below B a w)(n:Nat):Below B a (w.drewN n):=⟨h.os,h.tape,h.output,h.size,h.block⟩
def FWQ(X:(Int×Nat)×Bool)(w:World)(e:Ending)(w':World):Prop:=∃a:Nat,e=.returned (.tuple #[.int .i64 X.1.1,.int .i64 a])∧(X.1.1=0→a=X.1.2)∧a≤5000∧Below w.heap.size w w'
def Kc(f:Fm):Int:=if bV f.op<0 then 11 else if mF f≠0 then mF f else if (f.kids.length:Int)≠bV f.op∨(f.op≠1∧yw f.tm=false)then 3 else 0
theorem ZO(f:Fm)(d n:Nat):nZ f d n=if 64<d then 17 else if Kc f≠0 then Kc f else if 4096<n+1 then 4 else 0:=by
 unfold nZ Kc
 by_cases h1:64<d
 ·simp[h1]
 ·by_cases h2:bV f.op<0
  ·simp[h1,h2]
  ·by_cases h3:mF f=0
   ·by_cases D:(f.kids.length:Int)≠bV f.op∨(f.op≠1∧yw f.tm=false)
    ·simp only[h1,h2,h3,D,if_true,if_false,ne_eq,not_true_eq_false];simp
    ·simp only[h1,h2,h3,D,if_false,ne_eq,not_true_eq_false]
   ·simp[h1,h2,h3]
theorem ae9(t:Fm)(Ae:Option Addr)(ce:Nat)(A:Option Addr)(c:Nat)(w:World)(O:pO w Ae ce A c t)(hsz:t.tm.size≤9000000) :
 Calls Tryz.prog 168 #[t.val Ae ce A c] w fun e w'=>e=.returned (.int .i64 (Kc t))∧Below w.heap.size w w':=by
 obtain⟨n,hn⟩:=aj t.kids.length;obtain⟨ne,hne⟩:=aj t.tm.kids.length;obtain⟨wb,J⟩:=aj (w.alloc (.cells #[.int .i64 t.op,.int .i64 t.tm.op,.int .i64 t.tm.num,.string t.tm.name,.slice Ae ne ce,.slice A n c] 67));have hb1:=dz J;have az:iJ wb w.heap.size Ae ne ce A n c t:=by rw[J];exact eu w _
 have bg:w.heap.size<wb.heap.size:=by rw[J];simp
 have aE:=O.cap;have aQ:=O.bU;have a7:=O.tm.cap;have a6:=O.tm.bU;have aS:=O.tm.name;unfold maxLen at aQ a6 aS
 have IC:Hid (∀W,Below wb.heap.size wb W→Calls Tryz.prog 108 #[.agg #[.int .i64 t.tm.op,.int .i64 t.tm.num,.string t.tm.name,.slice Ae ne ce]] W fun e w'=>e=.returned (.int .i64 t.tm.check)∧Below W.heap.size W w'):=fun W hb=>by
  have h:=F9 t.tm Ae ce W ((O.tm.below hb1 rfl).below hb rfl) hsz;unfold Tm.val at h;rw[←hne]at h;exact h
 have xR:Hid (∀W,Below wb.heap.size wb W→Calls Tryz.prog 187 #[.agg #[.int .i64 t.tm.op,.int .i64 t.tm.num,.string t.tm.name,.slice Ae ne ce]] W (ae7 t.tm W)):=fun W hb=>by
  have h:=Vl t.tm Ae ce W ((O.tm.below hb1 rfl).below hb rfl) hsz;unfold Tm.val at h;rw[←hne]at h;exact h
 have ar:Hid (∀W,Calls Tryz.prog 188 #[.agg #[.int .i64 t.tm.op,.int .i64 t.tm.num,.string t.tm.name,.slice Ae ne ce]] W fun e w'=>e=.returned (.bool (yw t.tm))∧Below W.heap.size W w'):=fun W=>by
  have h:=Si t.tm.op t.tm.num t.tm.name Ae t.tm.kids.length ce W O.tm.name (Nat.le_trans O.tm.cap O.tm.bU);rw[←hne]at h;refine h.mono fun e w' ⟨h1,h2⟩=>⟨?_,h2⟩;rw[h1,hne];rfl
 unfold Fm.val;rw[←hn,←hne];rw[←hn]at aE;rw[←hne]at a7;obtain⟨F,hF⟩:∃F:Ending→World→Prop,F=fun e w'=>e=.returned (.int .i64 (Kc t))∧Below w.heap.size w w':=⟨_,rfl⟩;rw[←hF];obtain⟨ck,Jg⟩:=aj t.tm.check;obtain⟨bb,ay⟩:=aj (yw t.tm);obtain⟨r,hr⟩:=aj (Kc t);rw[←hr]at hF;unfold Kc mF at hr;rw[←Jg,←hn,←ay]at hr;rw[←Jg]at IC;rw[←ay]at ar;obtain⟨op,ag⟩:=aj t.op;obtain⟨K,hK⟩:=aj (bV op);rw[←ag,←hK]at hr;rw[←ag]at J⊢;have G:=Hd (fun W=>ZN op W);rw[←hK]at G;have ao:Hid (∀W,Calls Tryz.prog 186 #[.int .i64 op] W fun e w'=>e=.returned (.int .i64 K)∧w'=W):=fun W=>(G W).mono fun e w' h=>⟨h.1,h.2.symm⟩
 have nV:Hid (∀W,Below wb.heap.size wb W→W.cell? ⟨w.heap.size,0,none⟩=some (.int .i64 op)∧W.cell? ⟨w.heap.size,1,none⟩=some (.int .i64 t.tm.op)∧W.cell? ⟨w.heap.size,2,none⟩=some (.int .i64 t.tm.num)∧W.cell? ⟨w.heap.size,3,none⟩=some (.string t.tm.name)∧W.cell? ⟨w.heap.size,4,none⟩=some (.slice Ae ne ce)∧W.cell? ⟨w.heap.size,5,none⟩=some (.slice A n c)):=fun W hb=>by
  have hx:=az.below hb az.lt;rw[ag];exact⟨hx.c0,hx.c1,hx.c2,hx.c3,hx.c4,hx.c5⟩
 have HR:=Hd hr;have HF:=Hd hF;have jy:=Hd J;have ae:=Hd hb1;clear hn hne J hb1 az O aS hF Jg ay hr ag hK
 by_cases ab:K<0
 ·have bE:Hid (r=11):=by show _=_;rw[HR,iP ab]
  go_in;go_wp2_with fail;refine(G _).mono ?_;rintro e w1 ⟨rfl,hw⟩;rw[←hw];clear hw;go_wp2_with fail;rw[HF,bE];exact⟨rfl,by rw[←jy];exact ae⟩
 have bd:0≤K:=by omega
 by_cases h1:op=1
 ·subst h1
  have I:Hid (r=if (if ck=0 then(if hasNext t.tm=true then(24:Int)else 0)else ck)≠0 then(if ck=0 then(if hasNext t.tm=true then 24 else 0)else ck)else if (n:Int)≠K∨((1:Int)≠1∧bb=false)then 3 else 0):=by
   show _=_;rw[HR,iN ab,iP rfl]
  clear ab;go_in;go_wp2_with fail;refine(G _).mono ?_;rintro e w1 ⟨rfl,hw⟩;rw[←hw,←jy];clear hw;obtain⟨x0,x1,x2,x3,x4,x5⟩:=nV wb (Br _ _);go_wp2_with fail;refine(IC wb (Br _ _)).mono ?_;rintro e w2 ⟨rfl,Y⟩;clear x0 x1 x2 x3 x4 x5;obtain⟨x0,x1,x2,x3,x4,x5⟩:=nV w2 Y;have kU:=Hd (xR w2 Y);have bk:w.heap.size<w2.heap.size:=by have:=Y.size;omega
  have ai:=Hd Y;clear Y
  by_cases aa:ck=0
  ·subst aa;go_wp2_with fail;refine kU.mono ?_;rintro e w3 ⟨v1,A2,n2,c2,rfl,hz,aJ⟩;have af:=ai.trans (aJ.mono (ai.size));clear x0 x1 x2 x3 x4 x5;obtain⟨x0,x1,x2,x3,x4,x5⟩:=nV w3 af;have BS:=Hd (ae.trans (af.mono (by omega)));have bl:w.heap.size<w3.heap.size:=by have:=af.size;omega
   have HZ:=Hd hz;clear hz aJ af
   by_cases h2:n2=0
   ·have hh:hasNext t.tm=false:=HZ.1 h2
    have bE:Hid (r=if (n:Int)≠K then 3 else 0):=by
     show _=_;rw[I,hh];simp
    have a8:¬(0:Int)<(n2:Int):=by omega
    clear h2 hh
    by_cases D:(n:Int)=K
    ·have dJ:Hid (r=0):=by show _=_;rw[bE,iN (by omega)]
     have av:((n:Int) != K)=false:=by simpa using D
     clear D;go_wp2_with fail
     go_quiet ((go_at_call 186;exact Calls.quiet_of_same (ao _)))
     go_wp2_with fail;rw[HF,dJ];refine⟨rfl,BS.trans (Below.mono (B:=w3.heap.size) (oK (Br w3.heap.size w3) _) ?_)⟩;omega
    ·have dJ:Hid (r=3):=by show _=_;rw[bE,iP D]
     have av:((n:Int) != K)=true:=by simpa using D
     clear D;go_wp2_with fail
     go_quiet ((go_at_call 186;exact Calls.quiet_of_same (ao _)))
     go_wp2_with fail;rw[HF,dJ];refine⟨rfl,BS.trans (Below.mono (B:=w3.heap.size) (oK (Br w3.heap.size w3) _) ?_)⟩;omega
   ·have hh:hasNext t.tm=true:=by
     cases hh:hasNext t.tm with
     |false=>exact absurd (HZ.2 hh) h2
     |true=>rfl
    have bE:Hid (r=24):=by
     show _=_;rw[I,hh];simp
    have a8:(0:Int)<(n2:Int):=by omega
    clear h2 hh;go_wp2_with fail;rw[HF,bE];exact⟨rfl,BS⟩
  ·have bE:Hid (r=ck):=by
    show _=_;rw[I,iN aa,iP aa]
   have bh:(ck != 0)=true:=by simpa using aa
   have BS:=Hd (ae.trans (ai.mono (by omega)));clear aa;go_wp2_with fail;rw[HF,bE];exact⟨rfl,BS⟩
 ·have I:Hid (r=if (n:Int)≠K∨bb=false then 3 else 0):=by
   show _=_;rw[HR,iN ab,iN h1];simp[h1]
  have bi:(op==1)=false:=by simpa using h1
  have bj:(op != 1)=true:=by simpa using h1
  have aP:w.heap.size<wb.heap.size:=bg;have aw:Hid (Below w.heap.size w wb):=ae;clear ab h1
  by_cases D:(n:Int)=K
  ·have av:((n:Int) != K)=false:=by simpa using D
   cases bb with
   |false=>
    have dJ:Hid (r=3):=by show _=_;rw[I,iP (.inr rfl)]
    clear D;go_in;go_wp2_with fail;refine(G _).mono ?_;rintro e w1 ⟨rfl,hw⟩;rw[←hw,←jy];clear hw;obtain⟨x0,x1,x2,x3,x4,x5⟩:=nV wb (Br _ _);go_wp2_with fail;have ba:Below wb.heap.size wb wb.drew:=(Br _ _).drew;have aF:∀(x:Bool)(W:World),(Op.unary .not (.bool x)).run Tryz.prog W=.ok (.bool (!x)) W:=fun _ _=>rfl
    (first|(go_region_held3 (fun w'=>(∀o,w'.cell? ⟨w.heap.size,o,none⟩=wb.cell? ⟨w.heap.size,o,none⟩)∧Below wb.heap.size wb w')
      (first
        |(exact⟨aB (by assumption) aP,by assumption⟩)
        |fail)
      (first
        |(go_at_call 186;refine(G _).mono ?_;rintro e w5 ⟨rfl,gH⟩;rw[←gH];clear gH)
        |(go_at_call 188;refine(ar _).mono ?_;rintro e w5 ⟨rfl,ax⟩;have bf:=aY (by assumption) ax)
        |fail))|fail)
    all_goals
     go_wp2_with fail;rw[HF,dJ];refine⟨rfl,aw.trans (Below.mono (B:=wb.heap.size) (by assumption) ?_)⟩;omega
   |true=>
    have dJ:Hid (r=0):=by show _=_;rw[I,iN (fun h=>by rcases h with h|h;exact h D;cases h)]
    clear D;go_in;go_wp2_with fail;refine(G _).mono ?_;rintro e w1 ⟨rfl,hw⟩;rw[←hw,←jy];clear hw;obtain⟨x0,x1,x2,x3,x4,x5⟩:=nV wb (Br _ _);go_wp2_with fail;have ba:Below wb.heap.size wb wb.drew:=(Br _ _).drew;have aF:∀(x:Bool)(W:World),(Op.unary .not (.bool x)).run Tryz.prog W=.ok (.bool (!x)) W:=fun _ _=>rfl
    (first|(go_region_held3 (fun w'=>(∀o,w'.cell? ⟨w.heap.size,o,none⟩=wb.cell? ⟨w.heap.size,o,none⟩)∧Below wb.heap.size wb w')
      (first
        |(exact⟨aB (by assumption) aP,by assumption⟩)
        |fail)
      (first
        |(go_at_call 186;refine(G _).mono ?_;rintro e w5 ⟨rfl,gH⟩;rw[←gH];clear gH)
        |(go_at_call 188;refine(ar _).mono ?_;rintro e w5 ⟨rfl,ax⟩;have bf:=aY (by assumption) ax)
        |fail))|fail)
    all_goals
     go_wp2_with fail;rw[HF,dJ];refine⟨rfl,aw.trans (Below.mono (B:=wb.heap.size) (by assumption) ?_)⟩;omega
  ·have av:((n:Int) != K)=true:=by simpa using D
   have dJ:Hid (r=3):=by show _=_;rw[I,iP (.inl D)]
   clear D;go_in;go_wp2_with fail;refine(G _).mono ?_;rintro e w1 ⟨rfl,hw⟩;rw[←hw,←jy];clear hw;obtain⟨x0,x1,x2,x3,x4,x5⟩:=nV wb (Br _ _);go_wp2_with fail
   go_quiet ((go_at_call 186;exact Calls.quiet_of_same (ao _)))
   go_wp2_with fail;rw[HF,dJ];refine⟨rfl,aw.trans (Below.mono (B:=wb.heap.size) (oK (Br wb.heap.size wb) _) ?_)⟩;omega
theorem ZP:∀(N:Nat) (t:Fm) (d p:Nat) (Ae:Option Addr) (ce:Nat) (A:Option Addr) (c:Nat) (w:World),t.size≤N→d+t.size≤10000000→p≤4096→t.bT≤9000000→pO w Ae ce A c t →
 Calls Tryz.prog 139 #[t.val Ae ce A c,.int .i64 d,.int .i64 p] w (FWQ (nL dA t d (0,p)) w):=by
 intro N
 induction N with
 |zero=>
  intro t d p Ae ce A c w hN;cases t;rw[Fm.size]at hN;omega
 |succ N ih=>
  intro t d p Ae ce A c w hN hd hp bw hV;obtain⟨n,hn⟩:=aj t.kids.length;obtain⟨ne,hne⟩:=aj t.tm.kids.length;obtain⟨X,hX⟩:=aj (nL dA t d (0,p));obtain⟨F,hF⟩:=aj (FWQ X w);rw[←hX,←hF];have hsz:t.size=1+Fm.aA t.kids:=by cases t;rw[Fm.size];rfl
  have bu:=Fm.wG t.kids;have aE:=hV.cap;have aQ:=hV.bU;unfold maxLen at aQ;obtain⟨w1,hw1⟩:=aj (w.alloc (.cells #[.int .i64 t.op,.int .i64 t.tm.op,.int .i64 t.tm.num,.string t.tm.name,.slice Ae ne ce,.slice A n c] 67));have hb1:=dz hw1;have bd:w1.heap.size=w.heap.size+1:=by rw[hw1];simp
  have az:iJ w1 w.heap.size Ae ne ce A n c t:=by rw[hw1];exact eu w _
  have ar:=ae9 t Ae ce A c w1 (hV.below hb1 rfl) (by have:=(Fm.bK t).1;omega);unfold Fm.val at ar;obtain⟨pe,aF⟩:=aj (Kc t);rw[←aF,←hn,←hne]at ar
  have ai:Hid (X=if 64<d then((17,p+1),false)else if pe≠0 then((pe,p+1),false)else if 4096<p+1 then((4,p+1),false)else nM dA t.kids (d+1) (0,p+1)):=by
   show _=_;rw[hX,Gx];have bv:dA (0,p) t d=((nZ t d p,p+1),decide (nZ t d p=0)):=rfl;rw[bv,ZO,←aF]
   by_cases h1:64<d
   ·simp[h1]
   ·by_cases h2:pe=0
    ·by_cases h3:4096<p+1
     ·simp[h1,h2,h3]
     ·simp[h1,h2,h3]
    ·simp[h1,h2]
  have bp:t.kids.length≤10000000:=by omega
  rw[←hn]at aE bp
  have mg:Hid (∀k∈t.kids,k.size≤N∧d+1+k.size≤10000000∧k.bT≤9000000):=fun k hk=>by
   have h1:=Fm.aM hk;have h2:=(Fm.bK t).2 k hk;omega
  have nV:Hid (∀W,Below w1.heap.size w1 W→W.cell? ⟨w.heap.size,5,none⟩=some (.slice A n c)):=fun W hb=>(az.below hb az.lt).c5;unfold Fm.val;rw[←hn,←hne];have HF:=Hd hF;have qm:=Hd ih;have HN:=Hd hn;have HK:=Hd hV.kids;have af:=Hd hb1;have fA:=Hd bd;have ag:=Hd hw1;have aw:=Hd ar;have HP:=Hd hp;have bP:d≤10000000:=by omega
  clear hF ih hn hne hsz bu hb1 bd az hw1 hV hN hX ar aF hd bw
  by_cases I:64<d
  ·have HR:Hid (X=((17,p+1),false)):=by show _=_;rw[ai,iP I]
   have bi:(64:Int)<(d:Int):=by omega
   clear I;go_in;go_wp2_with fail;rw[HF,HR];exact⟨p,rfl,(fun h=>by cases h),by omega,by rw[←ag];exact af⟩
  have bi:¬(64:Int)<(d:Int):=by omega
  by_cases h0:pe=0
  ·by_cases h4:4096<p+1
   ·have HR:Hid (X=((4,p+1),false)):=by show _=_;rw[ai,iN I,iN (fun h=>h h0),iP h4]
    subst h0;have bj:(4096:Int)<(p:Int)+1:=by omega
    clear h4 I;go_in;go_wp2_with fail;rw[←ag];refine aw.mono ?_;rintro e w2 ⟨rfl,D⟩;have aa:=Hd (af.trans (D.mono (by have:=fA.out;omega)));clear D;go_wp2_with fail;rw[HF,HR];exact⟨p+1,by go_num,(fun h=>by cases h),by omega,aa⟩
   ·have HR:Hid (nM dA t.kids (d+1) (0,p+1)=X):=by show _=_;rw[ai,iN I,iN (fun h=>h h0),iN h4]
    subst h0;have bj:¬(4096:Int)<(p:Int)+1:=by omega
    have bk:p+1≤4096:=by omega
    clear h4 I;go_in;go_wp2_with fail;rw[←ag];refine aw.mono ?_;rintro e w2 ⟨rfl,D⟩;have bf:=nV w2 D;have b0:=D.size;have bL:w.heap.size<w2.heap.size:=by have:=fA.out;omega
    have aP:=Hd D;have aa:=Hd (af.trans (D.mono (by have:=fA.out;omega)));clear D;go_wp2_with fail
    go_loopw [2,8,9] (fun sp _ si wr=>∃(k q:Nat),k≤n∧sp=.int .i64 q∧si=.int .i64 k∧q≤4096∧Below w2.heap.size w2 wr∧nM dA (t.kids.drop k) (d+1) (0,q)=X) (fun _ _ i _=>n-(intOf i).toNat)
    case atStart=>exact⟨0,p+1,zl _,by go_num,rfl,bk,Br _ _,HR⟩
    case round=>
     obtain⟨k,q,hk,rfl,rfl,hq,G,aJ⟩:=hrel;have HB:=Hd G;have Ww:=Hd aJ;have nR:=G.size;have bE:=nV wr (aP.trans (G.mono aP.size));have ao:Below w.heap.size w wr:=aa.trans (G.mono (by omega));have Jb:w.heap.size<wr.heap.size:=by omega
     by_cases br:k<n
     ·obtain⟨kd,ab⟩:∃kd,t.kids[k]?=some kd:=⟨_,gG (by have:=HN.out;omega)⟩;have Y:kd∈t.kids:=mG ab
      rcases HK.out with h9|⟨g,off,rfl,hg,hrow⟩
      ·rw[h9]at ab;simp at ab
      have ba:=(hrow.get ab).below ao rfl hg;obtain⟨q0,q1,q2,q3,eD,eF,A2,c2,q4,q5,a7⟩:=ba.open;have bW:g<wr.heap.size:=by omega
      have J:=qm kd (d+1) q eD eF A2 c2 wr (mg kd Y).1 (mg kd Y).2.1 hq (mg kd Y).2.2 a7;rw[show((d+1:Nat):Int)=(d:Int)+1 from by omega]at J;unfold Fm.val at J;obtain⟨n2,bb⟩:=aj kd.kids.length;obtain⟨zT,ae⟩:=aj kd.tm.kids.length;rw[←bb]at q5 J;rw[←ae]at q4 J;have av:=IQ kd (d+1) (0,q);obtain⟨z,hz⟩:=aj (nL dA kd (d+1) (0,q));rw[←hz]at J av
      have aS:Hid (nM dA (t.kids.drop k) (d+1) (0,q)=if z.2=true then nM dA (t.kids.drop (k+1)) (d+1) z.1 else(z.1,false)):=by
       obtain⟨hj,bn⟩:=gE.1 ab;show _=_;rw[List.drop_eq_getElem_cons hj,bn,nM,←hz];obtain⟨z1,z2⟩:=z;cases z2<;>rfl
      have a6:Hid ((z.2=true→z.1.1=0∧z.1.2≤4096)∧(z.2=false→z.1.1≠0)):=⟨fun h=>by
       obtain⟨_,h2,h3⟩:=av.1 h;simp only at h2 h3
       rw[h2];exact⟨rfl,h3⟩,av.2⟩
      have HC:=Hd J;obtain⟨⟨z1,z2⟩,zb⟩:=z;have bZ:(0:Int)≤(k:Int):=by omega
      have bo:(k:Int)<(n:Int):=by omega
      have e1:off+6*k=off+k*6:=by omega
      rw[e1]at q0 q1 q2 q3 q4 q5;clear J bb ae av hz a7 ba hrow Y ab e1 G aJ bf ao;go_wp2_with fail;refine HC.mono ?_;rintro e w4 ⟨a4,rfl,a8,bm,ay⟩;have pU:=Hd (HB.trans (ay.mono nR));have b1:=ay.size;have bg:=Hd a8;clear ay q0 q1 q2 q3 q4 q5 bE a8
      cases zb with
      |false=>
       have O:=a6.2 rfl;have bz:(z1 != 0)=true:=by simpa using O
       have bh:=Hd O;have ax:Hid (X=((z1,z2),false)):=by show _=_;rw[←Ww,aS];rfl
       clear O;go_wp2_with fail;rw[HF,ax];exact⟨a4,rfl,fun h=>absurd h bh,bm,aa.trans (pU.mono (by omega))⟩
      |true=>
       obtain⟨O,bC⟩:=a6.1 rfl
       have ax:Hid (nM dA (t.kids.drop (k+1)) (d+1) (0,z2)=X):=by
        show _=_;rw[←Ww,aS];rw[O]
        rfl
       have bl:=bg O;subst O;subst bl;go_wp2_with fail
       go_roundw
       case rel=>exact⟨k+1,a4,by omega,rfl,by go_num,bC,pU,ax⟩
       case measure=>simp[intOf];omega
     ·have HE:Hid (X=((0,q),true)):=by
       show _=_;rw[←Ww,List.drop_eq_nil_of_le (by have:=HN.out;omega)]
       rfl
      have bo:¬(k:Int)<(n:Int):=by omega
      have lK:=Hd ao;clear br G aJ bf ao;go_wp2_with fail;rw[HF,HE];exact⟨q,rfl,fun _=>rfl,by omega,lK⟩
  ·have HR:Hid (X=((pe,p+1),false)):=by show _=_;rw[ai,iN I,iP h0]
   have bJ:(pe != 0)=true:=by simpa using h0
   have H0:=Hd h0;clear h0 I;go_in;go_wp2_with fail;rw[←ag];refine aw.mono ?_;rintro e w2 ⟨rfl,D⟩;have aa:=Hd (af.trans (D.mono (by have:=fA.out;omega)));clear D;go_wp2_with fail;rw[HF,HR];exact⟨p,rfl,fun h=>absurd h H0,by omega,aa⟩
theorem Ke(t:Fm)(Ae:Option Addr)(ce:Nat)(A:Option Addr)(c:Nat)(w:World)(hV:pO w Ae ce A c t)(hsz:t.bT≤9000000) :
 Calls Tryz.prog 111 #[t.val Ae ce A c] w fun e w'=>e=.returned (.int .i64 t.check)∧Below w.heap.size w w':=by
 obtain⟨w1,hw1⟩:=aj (w.alloc (.cells #[.int .i64 t.op,.int .i64 t.tm.op,.int .i64 t.tm.num,.string t.tm.name,.slice Ae t.tm.kids.length ce,.slice A t.kids.length c] 67));have hb1:=dz hw1;have J:w1.heap.size=w.heap.size+1:=by rw[hw1];simp
 have D:=ZP t.size t 1 0 Ae ce A c w1 (lr _) (by have:=Fm.size_le t;omega) (by omega) hsz (hV.below hb1 rfl);have bE:Hid ((nL dA t 1 (0,0)).1.1=t.check):=rfl;obtain⟨ck,G⟩:=aj t.check;obtain⟨X,hX⟩:=aj (nL dA t 1 (0,0));rw[←hX]at D;rw[←hX,←G]at bE;rw[←G];unfold Fm.val at D⊢;have HC:=Hd D;have O:=Hd hb1;have aa:=Hd hw1;have fA:=Hd J;clear D hX hb1 hw1 J hV G;go_in;go_wp2_with fail;rw[←aa];refine HC.mono ?_;rintro e w2 ⟨a,rfl,_,_,I⟩;have Y:=Hd (O.trans (I.mono (by have:=fA.out;omega)));rw[bE];clear I;go_wp2_with fail;go_ret;exact⟨rfl,Y⟩
end Go.Proofs.YtkhoeoilamddaaaGreatDoor
