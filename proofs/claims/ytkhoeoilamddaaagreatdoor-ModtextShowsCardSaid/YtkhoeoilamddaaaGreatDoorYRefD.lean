/- Walks of the reference of term texts: ref31.text, Show. -/
import Derived.Test.YtkhoeoilamddaaaGreatDoorYDecQ
import Derived.Test.YtkhoeoilamddaaaGreatDoorYRefB
import Derived.Test.YtkhoeoilamddaaaGreatDoorYTrmG
namespace Go.Proofs.YtkhoeoilamddaaaGreatDoor
open Go.RowKit
set_option linter.unusedVariables false
set_option linter.unusedSimpArgs false
set_option maxRecDepth 100000
set_option maxHeartbeats 8000000
theorem fU{o:Array Oper}{i:Nat}{x:Oper}(h:o.toList[i]?=some x):o[i]?=some x:=by simpa using h
theorem bC{a b S:ByteArray}(hS:S=a++b)(h:a.size+b.size≤1000000000):∀W,(Op.stringOp .add a b).run Tryz.prog W=.ok (.string S) W:=fun W=>by
 rw[hS];exact run_string_add_sum W _ _ (by omega)
def ain(N:Nat):Prop:=∀(t:Tm)(rule:Nat)(ends:Bool)(d:Nat)(A:Option Addr)(c:Nat)(w:World),t.size≤N→t.size≤9000000→rule≤8→t.lI d→zx w A c t →
 Calls Tryz.prog 110 #[t.val A c,.int .i64 ((rule:Int)+1),.bool (!ends)] w fun e w'=>e=.returned (.string ⟨(nU aO t rule ends).toArray⟩)∧Below w.heap.size w w'
theorem Im(l:Bs):(⟨l.toArray⟩:ByteArray).size=l.length:=by simp[ByteArray.size]
theorem NH(N:Nat)(H:ain N)(t:Tm)(rule:Nat)(ends:Bool)(d:Nat)(A:Option Addr)(c:Nat)(w:World)(hN:t.size≤N+1)(hsz:t.size≤9000000)(hr8:rule≤8)(hok:t.lI d)(hV:zx w A c t)(hp:pB t rule ends=false) :
 Calls Tryz.prog 110 #[t.val A c,.int .i64 ((rule:Int)+1),.bool (!ends)] w fun e w'=>e=.returned (.string ⟨(oJ t ends).toArray⟩)∧Below w.heap.size w w':=by
 obtain⟨n,hn⟩:=aj t.kids.length;obtain⟨F,hF⟩:∃F:Ending→World→Prop,F=fun e w'=>e=.returned (.string ⟨(oJ t ends).toArray⟩)∧Below w.heap.size w w':=⟨_,rfl⟩;rw[←hF];have hsum:t.size=1+Tm.aA t.kids:=by cases t;rw[Tm.size];rfl
 have hnl:=Tm.wG t.kids;have hcap:=hV.cap;have aQ:=hV.bU;unfold maxLen at aQ;obtain⟨w1,hw1⟩:=aj (w.alloc (.cells #[.int .i64 t.op,.int .i64 t.num,.string t.name,.slice A n c] 64));have hb1:=dz hw1;have hs1:w.heap.size<w1.heap.size:=by rw[hw1];simp
 have hbx:iM w1 w.heap.size A n c t:=by rw[hw1];exact eu w _
 have HST:=Hd (Dj t.op w1);obtain⟨ro,hro⟩:=aj (bQ t.op)
 have hrl:¬ro<rule:=by
  intro h;unfold pB at hp;rw[hro]at h;rw[decide_eq_true h]at hp;cases hp
 have h18:t.op=18→ends=true:=fun h=>by
  unfold pB at hp;rw[decide_eq_true h]at hp
  cases ends with
  |true=>rfl
  |false=>simp at hp
 rw[←hro]at HST;have ame:¬((ro:Int)+1<(rule:Int)+1):=by omega
 have hrl2:ro≤8:=by rw[hro];exact zZ _
 have amf:decide (ro<rule)=false:=dF hrl;have hkl:t.kids.length≤10000000:=by omega
 rw[←hn]at hcap hkl
 have mg:Hid (∀k∈t.kids,k.size≤N∧k.size≤9000000):=fun k hk=>by
  have h1:=Tm.aM hk;omega
 have BQ:Hid (∀k∈t.kids,k.lI (d+1)):=(jI hok).2.2;have aio:=Vj hok;have hlen:=Ql (ends:=ends) hok;have Kj:=(jJ (jI hok).2.1)
 have nV:Hid (∀W,Below w1.heap.size w1 W→W.cell? ⟨w.heap.size,0,none⟩=some (.int .i64 t.op)∧W.cell? ⟨w.heap.size,1,none⟩=some (.int .i64 t.num)∧W.cell? ⟨w.heap.size,2,none⟩=some (.string t.name)∧W.cell? ⟨w.heap.size,3,none⟩=some (.slice A n c)):=fun W hb=>by
  have hx:=hbx.below hb hs1;exact⟨hx.c0,hx.c1,hx.c2,hx.c3⟩
 obtain⟨x0,x1,x2,x3⟩:=nV w1 (Br _ _);show Calls Tryz.prog 110 #[.agg #[.int .i64 t.op,.int .i64 t.num,.string t.name,.slice A t.kids.length c],.int .i64 ((rule:Int)+1),.bool (!ends)] w F;rw[←hn];have HF:=Hd hF;have HH:=Hd H;have HN:=Hd hn;have HK:=Hd hV.kids;have HB1:=Hd hb1;have HW1:=Hd hw1;have jB:=Hd (hV.below hb1 rfl);have HSE:=Hd hsum;have HTS:=Hd hsz;have alp:=Kj.2.2.1
 have ahc:1≤t.op→t.op≤4→Calls Tryz.prog 136 #[.agg #[.int .i64 t.op,.int .i64 t.num,.string t.name,.slice A n c]] w1 fun e w'=>e=.returned (.string ⟨(mq aO t.op t.num (bs t.name)).toArray⟩)∧Below w1.heap.size w1 w':=fun h1 h4=>by
  refine acJ t.op t.num t.name A n c w1 (by omega) ?_ ?_ h1 h4
  ·by_cases ho:t.op=1
   ·have:=(Kj.2.1 ho).1;omega
   ·by_cases ho2:t.op=2
    ·have:=(Kj.2.2.2.2.2.1 ho2).1;omega
    ·have:=Kj.2.2.2.2.2.2.1 ho ho2;omega
  ·by_cases ho:t.op=1
   ·have:=(Kj.2.1 ho).2;omega
   ·by_cases ho2:t.op=2
    ·have:=(Kj.2.2.2.2.2.1 ho2).2;omega
    ·have:=Kj.2.2.2.2.2.2.1 ho ho2;omega
 have HLO:=Hd ahc;clear hF H hn hV hb1 hw1 hsum hnl Kj ahc hN hsz hro hp hbx hrl
 rcases aio with⟨h1,h4,hk⟩|⟨h5,a,hk⟩|⟨hi,a,b,c',hk⟩|⟨h6,Aj,hpos,akZ⟩
 ·have hn0:n=0:=by rw[HN,hk];rfl
  have ajQ:=Hd (HLO h1 h4);have HR:Hid (oJ t ends=mq aO t.op t.num (bs t.name)):=by show _=_;rw[ZG h1 h4];rfl
  obtain⟨L,hL⟩:=aj (mq aO t.op t.num (bs t.name));rw[←hL]at ajQ HR;have agS:(t.op==18)=false:=by simp;omega
  subst hn0;clear hlen hL h18 h1 h4 hk;go_in;go_wp2_with fail;rw[←HW1];refine HST.mono ?_;rintro e w2 ⟨rfl,hw⟩;rw[←hw];clear hw;go_wp2_with fail;refine ajQ.mono ?_;rintro e w3 ⟨rfl,hb3⟩;have HB3:=Hd (HB1.trans (hb3.mono (by omega)));clear hb3;go_wp2_with fail;rw[HF,HR];exact⟨rfl,HB3⟩
 ·have hn1:n=1:=by rw[HN,hk];rfl
  have agS:(t.op==18)=false:=by simp;omega
  have h5b:(t.op==5)=true:=by simp;omega
  have hm:a∈t.kids:=by rw[hk];simp
  have hka:t.kids[0]?=some a:=by rw[hk];rfl
  rcases HK.out with h9|⟨g,off,rfl,hg,hrow⟩
  ·rw[h9]at hk;cases hk
  have hat:=(hrow.get hka).below HB1 rfl hg;obtain⟨q0,q1,q2,A2,c2,q3,hV2⟩:=hat.open;have hgw:g<w1.heap.size:=by omega
  have hcl:=HH a 4 ends (d+1) A2 c2 w1 (mg a hm).1 (mg a hm).2 (by omega) (BQ a hm) hV2;unfold Tm.val at hcl;rw[show((4:Nat):Int)+1=5 from rfl]at hcl;obtain⟨n2,hn2⟩:=aj a.kids.length;rw[←hn2]at q3 hcl;obtain⟨S,hS⟩:∃S:ByteArray,S=⟨(nU aO a 4 ends).toArray⟩:=⟨_,rfl⟩;rw[←hS]at hcl
  have hzS:S.size≤1000000000-1:=by
   rw[hS,Im];rw[Qk h5 hk]at hlen;simp only[List.length_append,List.length_cons,List.length_nil]at hlen;have:=HSE.out;have h8:=(mg a hm).2;have:=eY bB a 4 ends (d+1) (BQ a hm);omega
  obtain⟨S1,hS1⟩:∃S1:ByteArray,S1=(⟨#[33]⟩:ByteArray)++S:=⟨_,rfl⟩;have Ij:=bC hS1 (by show 1+S.size≤_;omega)
  have HR:Hid ((⟨(oJ t ends).toArray⟩:ByteArray)=S1):=by
   show _=_;rw[Qk h5 hk,hS1,hS]
   apply gV
   simp[bs]
  have HC:=Hd hcl;have e0:off+4*0=off:=by omega
  rw[e0]at q0 q1 q2 q3;subst hn1;clear hcl hn2 hS hS1 hat hrow hka hm hk hV2 h18 hlen e0 h5 hzS;go_in;go_wp2_with fail;rw[←HW1];refine HST.mono ?_;rintro e w2 ⟨rfl,hw⟩;rw[←hw];clear hw;go_wp2_with fail;refine HC.mono ?_;rintro e w3 ⟨rfl,hb3⟩;have HB3:=Hd (HB1.trans (hb3.mono (by omega)));clear hb3 q0 q1 q2 q3 x0 x1 x2 x3;go_wp2_with fail;rw[HF,HR];exact⟨rfl,HB3⟩
 -- three parts
 ·have hn3:n=3:=by rw[HN,hk];rfl
  have agS:(t.op==18)=true:=by simp;omega
  have h5b:(t.op==5)=false:=by simp;omega
  have hen:=h18 hi;subst hen
  rcases HK.out with h9|⟨g,off,rfl,hg,hrow⟩
  ·rw[h9]at hk;cases hk
  have hgw:g<w1.heap.size:=by omega
  have ham:a∈t.kids:=by rw[hk];simp
  have ajR:=(hrow.get (show t.kids[0]?=some a by rw[hk];rfl)).below HB1 rfl hg;obtain⟨qa0,qa1,qa2,Aa,ca,qa3,hVa⟩:=ajR.open;obtain⟨na,hna⟩:=aj a.kids.length;obtain⟨Sa,hSa⟩:∃Sa:ByteArray,Sa=⟨(nU aO a 0 true).toArray⟩:=⟨_,rfl⟩
  have Kw:Hid (∀W,Below w1.heap.size w1 W→Calls Tryz.prog 110 #[.agg #[.int .i64 a.op,.int .i64 a.num,.string a.name,.slice Aa na ca],.int .i64 1,.bool false] W fun e w'=>e=.returned (.string Sa)∧Below W.heap.size W w'):=fun W hb=>by
   have h:=HH a 0 true (d+1) Aa ca W (mg a ham).1 (mg a ham).2 (by omega) (BQ a ham) (hVa.below hb rfl);unfold Tm.val at h;rw[←hna,←hSa]at h;exact h
  rw[←hna]at qa3
  have hza:Sa.size≤80*a.size:=by
   rw[hSa,Im];have:=eY bB a 0 true (d+1) (BQ a ham);omega
  rw[show off+4*0=off+0*4 by omega]at qa0 qa1 qa2 qa3;have RB:b∈t.kids:=by rw[hk];simp
  have ajS:=(hrow.get (show t.kids[1]?=some b by rw[hk];rfl)).below HB1 rfl hg;obtain⟨qb0,qb1,qb2,Ab,cb,qb3,hVb⟩:=ajS.open;obtain⟨nb,hnb⟩:=aj b.kids.length;obtain⟨Sb,hSb⟩:∃Sb:ByteArray,Sb=⟨(nU aO b 0 true).toArray⟩:=⟨_,rfl⟩
  have HCb:Hid (∀W,Below w1.heap.size w1 W→Calls Tryz.prog 110 #[.agg #[.int .i64 b.op,.int .i64 b.num,.string b.name,.slice Ab nb cb],.int .i64 1,.bool false] W fun e w'=>e=.returned (.string Sb)∧Below W.heap.size W w'):=fun W hb=>by
   have h:=HH b 0 true (d+1) Ab cb W (mg b RB).1 (mg b RB).2 (by omega) (BQ b RB) (hVb.below hb rfl);unfold Tm.val at h;rw[←hnb,←hSb]at h;exact h
  rw[←hnb]at qb3
  have hzb:Sb.size≤80*b.size:=by
   rw[hSb,Im];have:=eY bB b 0 true (d+1) (BQ b RB);omega
  rw[show off+4*1=off+1*4 by omega]at qb0 qb1 qb2 qb3;have hem:c'∈t.kids:=by rw[hk];simp
  have ajT:=(hrow.get (show t.kids[2]?=some c' by rw[hk];rfl)).below HB1 rfl hg;obtain⟨qe0,qe1,qe2,Ae,ce,qe3,hVe⟩:=ajT.open;obtain⟨ne,hne⟩:=aj c'.kids.length;obtain⟨Se,hSe⟩:∃Se:ByteArray,Se=⟨(nU aO c' 0 true).toArray⟩:=⟨_,rfl⟩
  have HCe:Hid (∀W,Below w1.heap.size w1 W→Calls Tryz.prog 110 #[.agg #[.int .i64 c'.op,.int .i64 c'.num,.string c'.name,.slice Ae ne ce],.int .i64 1,.bool false] W fun e w'=>e=.returned (.string Se)∧Below W.heap.size W w'):=fun W hb=>by
   have h:=HH c' 0 true (d+1) Ae ce W (mg c' hem).1 (mg c' hem).2 (by omega) (BQ c' hem) (hVe.below hb rfl);unfold Tm.val at h;rw[←hne,←hSe]at h;exact h
  rw[←hne]at qe3
  have hze:Se.size≤80*c'.size:=by
   rw[hSe,Im];have:=eY bB c' 0 true (d+1) (BQ c' hem);omega
  rw[show off+4*2=off+2*4 by omega]at qe0 qe1 qe2 qe3
  have adQ:a.size+b.size+c'.size≤9000000:=by
   have h1:=HSE.out;rw[hk]at h1;simp only[Tm.aA]at h1;have h2:=HTS.out;omega
  obtain⟨S1,hS1⟩:∃S1:ByteArray,S1=(⟨#[105,102,32]⟩:ByteArray)++Sa:=⟨_,rfl⟩;obtain⟨S2,hS2⟩:∃S2:ByteArray,S2=S1++(⟨#[32,116,104,101,110,32]⟩:ByteArray):=⟨_,rfl⟩;obtain⟨S3,hS3⟩:∃S3:ByteArray,S3=S2++Sb:=⟨_,rfl⟩;obtain⟨S4,hS4⟩:∃S4:ByteArray,S4=S3++(⟨#[32,101,108,115,101,32]⟩:ByteArray):=⟨_,rfl⟩;obtain⟨S5,hS5⟩:∃S5:ByteArray,S5=S4++Se:=⟨_,rfl⟩;have z1:S1.size=3+Sa.size:=by rw[hS1,bA];rfl
  have z2:S2.size=S1.size+6:=by rw[hS2,bA];rfl
  have z3:S3.size=S2.size+Sb.size:=by rw[hS3,bA]
  have z4:S4.size=S3.size+6:=by rw[hS4,bA];rfl
  have Ib:=bC hS1 (by show 3+Sa.size≤_;omega);have uP:=bC hS2 (by show S1.size+6≤_;omega);have alq:=bC hS3 (by omega);have alr:=bC hS4 (by show S3.size+6≤_;omega);have als:=bC hS5 (by omega)
  have HR:Hid ((⟨(oJ t true).toArray⟩:ByteArray)=S5):=by
   show _=_;rw[ae5 hi hk,hS5,hS4,hS3,hS2,hS1,hSa,hSb,hSe]
   apply gV
   simp[bs,KH]
  have hgo:off+0*4=off:=by omega
  rw[hgo]at qa0 qa1 qa2 qa3;subst hn3;clear hna hnb hne hSa hSb hSe hS1 hS2 hS3 hS4 hS5 ajR ajS ajT hrow ham RB hem hk hVa hVb hVe h18 hlen hi hgo z1 z2 z3 z4 hza hzb hze adQ;go_in;go_wp2_with fail;rw[←HW1];refine HST.mono ?_;rintro e w2 ⟨rfl,hw⟩;rw[←hw];clear hw;go_wp2_with fail;have hbd:Below w1.heap.size w1 w1.drew:=(Br _ _).drew
  go_region_held3 (fun w'=>(∀o,w'.cell? ⟨w.heap.size,o,none⟩=w1.cell? ⟨w.heap.size,o,none⟩)∧(∀o,w'.cell? ⟨g,o,none⟩=w1.cell? ⟨g,o,none⟩)∧Below w1.heap.size w1 w')
   (first
     |(exact⟨aB (by assumption) hs1,aB (by assumption) hgw,by assumption⟩)
     |fail)
   (first
     |(go_at_call 110;with_reducible refine(Kw.out _ (by assumption)).mono ?_;rintro e w5 ⟨rfl,hb5⟩;have hk5:=aY (by assumption) hb5)
     |(go_at_call 110;with_reducible refine(HCb.out _ (by assumption)).mono ?_;rintro e w5 ⟨rfl,hb5⟩;have hk5:=aY (by assumption) hb5)
     |(go_at_call 110;with_reducible refine(HCe.out _ (by assumption)).mono ?_;rintro e w5 ⟨rfl,hb5⟩;have hk5:=aY (by assumption) hb5)
     |fail)
  have VT:=Hd (HB1.trans (hk5.mono (by omega)));clear x0 x1 x2 x3 qa0 qa1 qa2 qa3 qb0 qb1 qb2 qb3 qe0 qe1 qe2 qe3;go_wp2_with fail;rw[HF,HR];exact⟨rfl,VT⟩
 -- a row
 ·have hn0:((n:Int)==0)=false:=by have:=HN.out;simp;omega
  have agS:(t.op==18)=false:=by simp;omega
  have h5b:(t.op==5)=false:=by simp;omega
  have VW:Hid (oJ t ends=aW aO t.op t.kids 0 ends):=ZH h6 Aj;have hJl:(aW aO t.op t.kids 0 ends).length≤720000000:=by rw[←VW];have:=HTS.out;omega
  obtain⟨J,hJ⟩:=aj (aW aO t.op t.kids 0 ends);have zy:Hid (J=bs ⟨#[]⟩++aW aO t.op (t.kids.drop 0) 0 ends):=by show _=_;rw[hJ];rfl
  have HJ1:=Hd hJ;rw[←hJ]at hJl;rw[←HN]at akZ hpos;clear hlen hJ
  cases ends with
  |false=>
   clear h18;go_in;go_wp2_with fail;rw[←HW1];refine HST.mono ?_;rintro e w2 ⟨rfl,hw⟩;rw[←hw];clear hw;go_wp2_with fail
   go_loopw [7,8] (fun sv si wr=>∃(k:Nat)(S:ByteArray),k≤n∧sv=.string S∧si=.int .i64 k∧bs S++aW aO t.op (t.kids.drop k) k false=J∧Below w1.heap.size w1 wr) (fun _ i _=>n-(intOf i).toNat)
   case atStart=>exact⟨0,⟨#[]⟩,zl _,rfl,rfl,zy.symm,Br _ _⟩
   case round=>
    obtain⟨k,S,hk,rfl,rfl,hS,hbel⟩:=hrel;have oU:=Hd hbel;have HS:=Hd hS;have nR:=hbel.size;obtain⟨ZE,kr1,kr2,Sd⟩:=nV wr hbel;have pE:w.heap.size<wr.heap.size:=by omega
    clear kr1 kr2
    by_cases hlt:k<n
    ·obtain⟨kd,hkd⟩:∃kd,t.kids[k]?=some kd:=⟨_,gG (by have:=HN.out;omega)⟩;have hmem:kd∈t.kids:=mG hkd;have hkN:=(mg kd hmem).1;have hkS:=(mg kd hmem).2;have hkO:=BQ kd hmem
     rcases jB.kids with h9|⟨g,off,rfl,hg,hrow⟩
     ·rw[h9]at hkd;simp at hkd
     have hat:=(hrow.get hkd).below hbel rfl hg;obtain⟨q0,q1,q2,A2,c2,q3,hV2⟩:=hat.open;have hgw:g<wr.heap.size:=by omega
     obtain⟨n2,hn2⟩:=aj kd.kids.length;rw[←hn2]at q3;have e1:off+4*k=off+k*4:=by omega
     rw[e1]at q0 q1 q2 q3;obtain⟨rk,Vm⟩:=aj (aX t.op k);have xg:=NG (op:=t.op) (i:=k) (by omega);have Io:aX t.op k≤8:=by rw[xg];refine Vi _ _ ?_;split<;>omega
     have Sg:=Qi t.op (decide (k=0));have ak0:(0:Int)≤(k:Int):=by omega
     have hk1:(k:Int)<(n:Int):=by omega
     have HLT:=Hd hlt;clear hat hrow hmem e1 hbel hS
     by_cases hk0:k=0
     ·have Gq:Hid (∀W,Calls Tryz.prog 138 #[.int .i64 t.op,.bool true] W fun e w'=>e=.returned (.int .i64 ((rk:Int)+1))∧w'=W):=fun W=>by
       have h:=Sg W h6 Aj;rw[←xg,←Vm,decide_eq_true hk0]at h;exact h.mono fun _ _ h=>⟨h.1,h.2.symm⟩
      clear Sg xg;subst hk0;have hka:(0:Nat)*4=0:=by omega
      rw[hka,Nat.add_zero]at q0 q1 q2 q3;obtain⟨e1,he1⟩:=aj ((false&&decide (0+1=n)))
      have hB:(!e1)=true:=by
       rw[he1]
       rfl
      have HJ:Hid (aW aO t.op (t.kids.drop 0) 0 false=[]++nU aO kd rk e1++aW aO t.op (t.kids.drop (0+1)) (0+1) false):=by
       show _=_;rw[Em hkd,iP rfl,←HN,←he1,Vm]
      obtain⟨T,hT⟩:∃T:ByteArray,T=⟨(nU aO kd rk e1).toArray⟩:=⟨_,rfl⟩
      have HC:Hid (∀W,Below wr.heap.size wr W→Calls Tryz.prog 110 #[.agg #[.int .i64 kd.op,.int .i64 kd.num,.string kd.name,.slice A2 n2 c2],.int .i64 ((rk:Int)+1),.bool (true)] W fun e w'=>e=.returned (.string T)∧Below W.heap.size W w'):=fun W hb=>by
       have hih:=HH kd rk e1 (d+1) A2 c2 W hkN hkS (by rw[Vm];exact Io) hkO (hV2.below hb rfl);unfold Tm.val at hih;rw[←hn2,hB]at hih;rw[hT];exact hih
      obtain⟨S2,hS2⟩:∃S2:ByteArray,S2=S++T:=⟨_,rfl⟩
      have HSW:Hid (bs S2++aW aO t.op (t.kids.drop (0+1)) (0+1) false=J):=by
       show _=_;rw[←HS,HJ,hS2,Ga,hT];simp[bs]
      have hz2:S2.size≤J.length:=by
       rw[←HSW,List.length_append];show(bs S2).length≤_;omega
      have Ij:=bC hS2 (by rw[←bA,←hS2];omega);clear he1 hB hT hS2 hz2 hkd hn2 hV2 Vm Io;go_wp2_with fail;have hbd:Below wr.heap.size wr wr.drew:=(Br _ _).drew;refine wp_region_held_drew (S:=(fun w'=>(∀o,w'.cell? ⟨w.heap.size,o,none⟩=wr.cell? ⟨w.heap.size,o,none⟩)∧(∀o,w'.cell? ⟨g,o,none⟩=wr.cell? ⟨g,o,none⟩)∧Below wr.heap.size wr w')) (by kernel_rfl) (⟨aB (by assumption) pE,aB (by assumption) hgw,by assumption⟩) (fun hHeld=>?_);refine gJ 0 (v:=?_) (fU rfl) (Or.inl ⟨by rfl,?hy⟩) (by assumption) ?_
      case hy=>intro w0 hSw;(try dsimp only at hSw);go_simp;(first|done|with_reducible rfl)
      (try simp only[Act.put,aT,aU,aV]);refine gJ 1 (v:=?_) (fU rfl) (Or.inl ⟨by rfl,?hy⟩) (by assumption) ?_
      case hy=>intro w0 hSw;(try dsimp only at hSw);go_simp;(first|done|with_reducible rfl)
      (try simp only[Act.put,aT,aU,aV]);refine gJ 2 (v:=?_) (fU rfl) (Or.inl ⟨by rfl,?hy⟩) (by assumption) ?_
      case hy=>intro w0 hSw;(try dsimp only at hSw);go_simp;(first|done|with_reducible rfl)
      (try simp only[Act.put,aT,aU,aV]);refine gJ 3 (v:=?_) (fU rfl) (Or.inl ⟨by rfl,?hy⟩) (by assumption) ?_
      case hy=>intro w0 hSw;(try dsimp only at hSw);go_simp;(first|done|with_reducible rfl)
      (try simp only[Act.put,aT,aU,aV]);refine gJ 4 (v:=?_) (fU rfl) (Or.inl ⟨by rfl,?hy⟩) (by assumption) ?_
      case hy=>intro w0 hSw;(try dsimp only at hSw);go_simp;(first|done|with_reducible rfl)
      (try simp only[Act.put,aT,aU,aV]);refine gJ 5 (v:=?_) (fU rfl) (Or.inl ⟨by rfl,?hy⟩) (by assumption) ?_
      case hy=>intro w0 hSw;(try dsimp only at hSw);go_simp;(first|done|with_reducible rfl)
      (try simp only[Act.put,aT,aU,aV]);refine gJ 6 (v:=?_) (fU rfl) (Or.inl ⟨by rfl,?hy⟩) (by assumption) ?_
      case hy=>intro w0 hSw;(try dsimp only at hSw);go_simp;(first|done|with_reducible rfl)
      (try simp only[Act.put,aT,aU,aV]);refine gJ 7 (v:=?_) (fU rfl) (Or.inl ⟨by rfl,?hy⟩) (by assumption) ?_
      case hy=>intro w0 hSw;(try dsimp only at hSw);go_simp;(first|done|with_reducible rfl)
      (try simp only[Act.put,aT,aU,aV]);refine gJ 8 (v:=?_) (fU rfl) (Or.inl ⟨by rfl,?hy⟩) (by assumption) ?_
      case hy=>intro w0 hSw;(try dsimp only at hSw);go_simp;(first|done|with_reducible rfl)
      (try simp only[Act.put,aT,aU,aV]);refine gJ 9 (v:=?_) (fU rfl) (Or.inl ⟨by rfl,?hy⟩) (by assumption) ?_
      case hy=>intro w0 hSw;(try dsimp only at hSw);go_simp;(first|done|with_reducible rfl)
      (try simp only[Act.put,aT,aU,aV]);refine gJ 11 (v:=?_) (fU rfl) (Or.inl ⟨by rfl,?hy⟩) (by assumption) ?_
      case hy=>intro w0 hSw;(try dsimp only at hSw);go_simp;(first|done|with_reducible rfl)
      (try simp only[Act.put,aT,aU,aV]);refine Rd (rs:=[10]) (by kernel_rfl) (by simp) ?_;refine Rc (fU rfl) (fun K hK=>?_) Rn;go_simp
      (go_at_call 138;with_reducible refine(Gq.out _).mono ?_;rintro e w5 ⟨rfl,gH⟩;rw[gH];clear gH)
      (try go_wp2_with fail);refine hK.out _ _ (⟨aB (by assumption) pE,aB (by assumption) hgw,by assumption⟩) (fun hHeld=>?_);clear hK K;(try simp only[Act.put,aT,aU,aV]);refine gJ 12 (v:=?_) (fU rfl) (Or.inl ⟨by rfl,?hy⟩) (by assumption) ?_
      case hy=>intro w0 hSw;(try dsimp only at hSw);go_simp;(first|done|with_reducible rfl)
      (try simp only[Act.put,aT,aU,aV]);refine wpAnyH_take (i:=13) (oi:={dst:=some 92,op:=Op.move (Operand.tmp 8),type:=3,pos := "ref.go:354",after:=#[{on:=12,ground:=Ground.guard}],guard:=some (12,false)}) (v:=undef) rfl (by kernel_rfl) (by kernel_rfl) (by kernel_rfl) (fun _ _ _ h=>h) (Or.inr ⟨by rfl,rfl⟩) (by assumption) ?_;(try simp only[Act.put,aT,aU,aV]);refine wpAnyH_take (i:=14) (oi:={dst:=some 93,op:=Op.binOp BinOp.add 3 (Operand.tmp 92) (Operand.const (Value.int IntKind.i64 1)) 3,type:=3,pos := "ref.go:354",after:=#[{on:=13,ground:=Ground.data},{on:=12,ground:=Ground.guard}],guard:=some (12,false)}) (v:=undef) rfl (by kernel_rfl) (by kernel_rfl) (by kernel_rfl) (fun _ _ _ h=>h) (Or.inr ⟨by rfl,rfl⟩) (by assumption) ?_;(try simp only[Act.put,aT,aU,aV]);refine wpAnyH_take (i:=15) (oi:={dst:=some 94,op:=Op.fieldAddr 64 (Operand.tmp 3) 3,type:=0,pos := "ref.go:354",after:=#[{on:=12,ground:=Ground.guard}],guard:=some (12,false)}) (v:=undef) rfl (by kernel_rfl) (by kernel_rfl) (by kernel_rfl) (fun _ _ _ h=>h) (Or.inr ⟨by rfl,rfl⟩) (by assumption) ?_;try simp only[Act.put,aT,aU,aV]
      refine wpAnyH_take (i:=16) (oi:={dst:=some 95,op:=Op.load 25 (Operand.tmp 94),type:=25,pos := "ref.go:354",after:=#[{on:=15,ground:=Ground.data},{on:=12,ground:=Ground.guard}],guard:=some (12,false)}) (v:=undef) rfl (by kernel_rfl) (by kernel_rfl) (by kernel_rfl) (fun _ _ _ h=>h) (Or.inr ⟨by rfl,rfl⟩) (by assumption) ?_;(try simp only[Act.put,aT,aU,aV]);refine wpAnyH_take (i:=17) (oi:={dst:=some 96,op:=Op.call {callee:=Callee.builtin Builtin.len,args:=#[Operand.tmp 95],argTypes:=#[25]},type:=3,pos := "ref.go:354",after:=#[{on:=16,ground:=Ground.data},{on:=12,ground:=Ground.guard}],guard:=some (12,false)}) (v:=undef) rfl (by kernel_rfl) (by kernel_rfl) (by kernel_rfl) (fun _ _ _ h=>h) (Or.inr ⟨by rfl,rfl⟩) (by assumption) ?_;(try simp only[Act.put,aT,aU,aV]);refine wpAnyH_take (i:=18) (oi:={dst:=some 97,op:=Op.binOp BinOp.lss 3 (Operand.tmp 93) (Operand.tmp 96) 3,type:=4,pos := "ref.go:354",after:=#[{on:=14,ground:=Ground.data},{on:=17,ground:=Ground.data},{on:=12,ground:=Ground.guard}],guard:=some (12,false)}) (v:=undef) rfl (by kernel_rfl) (by kernel_rfl) (by kernel_rfl) (fun _ _ _ h=>h) (Or.inr ⟨by rfl,rfl⟩) (by assumption) ?_;(try simp only[Act.put,aT,aU,aV]);refine gJ 19 (v:=?_) (fU rfl) (Or.inl ⟨by rfl,?hy⟩) (by assumption) ?_
      case hy=>intro w0 hSw;(try dsimp only at hSw);go_simp;(first|done|with_reducible rfl)
      (try simp only[Act.put,aT,aU,aV]);refine Rd (rs:=[20]) (by kernel_rfl) (by simp) ?_;refine Rc (fU rfl) (fun K hK=>?_) Rn;go_simp
      (go_at_call 110;with_reducible refine(HC.out _ (by assumption)).mono ?_;rintro e w5 ⟨rfl,hb5⟩;have hk5:=aY (by assumption) hb5)
      (try go_wp2_with fail);refine hK.out _ _ (⟨aB (by assumption) pE,aB (by assumption) hgw,by assumption⟩) (fun hHeld=>?_);clear hK K;(try simp only[Act.put,aT,aU,aV]);refine gJ 21 (v:=?_) (fU rfl) (Or.inl ⟨by rfl,?hy⟩) (by assumption) ?_
      case hy=>intro w0 hSw;(try dsimp only at hSw);go_simp;(first|done|with_reducible rfl)
      (try simp only[Act.put,aT,aU,aV]);refine gJ 22 (v:=?_) (fU rfl) (Or.inl ⟨by rfl,?hy⟩) (by assumption) ?_
      case hy=>intro w0 hSw;(try dsimp only at hSw);go_simp;(first|done|with_reducible rfl)
      (try simp only[Act.put,aT,aU,aV]);refine wpAnyH_done (by kernel_rfl) ?_ _;have pU:Hid (Below w1.heap.size w1 w5):=oU.trans (hk5.mono nR);clear hk5 hb5 q0 q1 q2 q3 ZE Sd;go_wp2_with fail
      go_roundw
      case rel=>exact⟨0+1,S2,by omega,rfl,by go_num,HSW,pU⟩
      case measure=>simp[intOf];omega
     ·have Gq:Hid (∀W,Calls Tryz.prog 138 #[.int .i64 t.op,.bool false] W fun e w'=>e=.returned (.int .i64 ((rk:Int)+1))∧w'=W):=fun W=>by
       have h:=Sg W h6 Aj;rw[←xg,←Vm,dF hk0]at h;exact h.mono fun _ _ h=>⟨h.1,h.2.symm⟩
      have hkb:((k:Int)==0)=false:=by simp;omega
      have hkp:(0:Int)<(k:Int):=by omega
      have oW:=Hd (Il t.op wr h6 Aj);obtain⟨B,hB0⟩:∃B:ByteArray,B=⟨(lG t.op).toArray⟩:=⟨_,rfl⟩;rw[←hB0]at oW;have hBz:B.size≤5:=by rw[hB0,Im];unfold lG;have:=nD t.op;simp;omega
      have hSz:S.size≤J.length:=by
       rw[←HS,List.length_append];show(bs S).length≤_;omega
      obtain⟨S0,hS0⟩:∃S0:ByteArray,S0=S++B:=⟨_,rfl⟩;have ajU:=bC hS0 (by omega);rw[hB0]at hS0;clear Sg xg hB0;go_wp2_with fail;refine oW.mono ?_;rintro e wm ⟨rfl,RB⟩;have HBM:=Hd (oU.trans (RB.mono nR));have aip:=HBM.size;have qm0:=q0;have qm1:=q1;have qm2:=q2;have qm3:=q3;rw[←RB.cell (p:=⟨g,_,none⟩) hgw]at qm0 qm1 qm2 qm3;clear ZE Sd;obtain⟨ZE,kr1,kr2,Sd⟩:=nV wm HBM;have hgm:g<wm.heap.size:=by have:=RB.size;omega
      have ae8:w.heap.size<wm.heap.size:=by have:=RB.size;omega
      clear kr1 kr2;obtain⟨e1,he1⟩:=aj ((false&&decide (k+1=n)))
      have hB:(!e1)=true:=by
       rw[he1]
       rfl
      have HJ:Hid (aW aO t.op (t.kids.drop k) k false=lG t.op++nU aO kd rk e1++aW aO t.op (t.kids.drop (k+1)) (k+1) false):=by
       show _=_;rw[Em hkd,iN hk0,←HN,←he1,Vm]
      obtain⟨T,hT⟩:∃T:ByteArray,T=⟨(nU aO kd rk e1).toArray⟩:=⟨_,rfl⟩
      have HC:Hid (∀W,Below wm.heap.size wm W→Calls Tryz.prog 110 #[.agg #[.int .i64 kd.op,.int .i64 kd.num,.string kd.name,.slice A2 n2 c2],.int .i64 ((rk:Int)+1),.bool (true)] W fun e w'=>e=.returned (.string T)∧Below W.heap.size W w'):=fun W hb=>by
       have hih:=HH kd rk e1 (d+1) A2 c2 W hkN hkS (by rw[Vm];exact Io) hkO ((hV2.below RB rfl).below hb rfl);unfold Tm.val at hih;rw[←hn2,hB]at hih;rw[hT];exact hih
      obtain⟨S2,hS2⟩:∃S2:ByteArray,S2=S0++T:=⟨_,rfl⟩
      have HSW:Hid (bs S2++aW aO t.op (t.kids.drop (k+1)) (k+1) false=J):=by
       show _=_;rw[←HS,HJ,hS2,Ga,hT,hS0,Ga];simp[bs]
      have hz2:S2.size≤J.length:=by
       rw[←HSW,List.length_append];show(bs S2).length≤_;omega
      have Ij:=bC hS2 (by rw[←bA,←hS2];omega);clear he1 hB hT hS2 hz2 hkd hn2 hV2 Vm Io hS0 q0 q1 q2 q3;have q0:=qm0;have q1:=qm1;have q2:=qm2;have q3:=qm3;clear qm0 qm1 qm2 qm3;go_wp2_with fail;have hbd:Below wm.heap.size wm wm.drew:=(Br _ _).drew;refine wp_region_held_drew (S:=(fun w'=>(∀o,w'.cell? ⟨w.heap.size,o,none⟩=wm.cell? ⟨w.heap.size,o,none⟩)∧(∀o,w'.cell? ⟨g,o,none⟩=wm.cell? ⟨g,o,none⟩)∧Below wm.heap.size wm w')) (by kernel_rfl) (⟨aB (by assumption) ae8,aB (by assumption) hgm,by assumption⟩) (fun hHeld=>?_);refine gJ 0 (v:=?_) (fU rfl) (Or.inl ⟨by rfl,?hy⟩) (by assumption) ?_
      case hy=>intro w0 hSw;(try dsimp only at hSw);go_simp;(first|done|with_reducible rfl)
      (try simp only[Act.put,aT,aU,aV]);refine gJ 1 (v:=?_) (fU rfl) (Or.inl ⟨by rfl,?hy⟩) (by assumption) ?_
      case hy=>intro w0 hSw;(try dsimp only at hSw);go_simp;(first|done|with_reducible rfl)
      (try simp only[Act.put,aT,aU,aV]);refine gJ 2 (v:=?_) (fU rfl) (Or.inl ⟨by rfl,?hy⟩) (by assumption) ?_
      case hy=>intro w0 hSw;(try dsimp only at hSw);go_simp;(first|done|with_reducible rfl)
      (try simp only[Act.put,aT,aU,aV]);refine gJ 3 (v:=?_) (fU rfl) (Or.inl ⟨by rfl,?hy⟩) (by assumption) ?_
      case hy=>intro w0 hSw;(try dsimp only at hSw);go_simp;(first|done|with_reducible rfl)
      (try simp only[Act.put,aT,aU,aV]);refine gJ 4 (v:=?_) (fU rfl) (Or.inl ⟨by rfl,?hy⟩) (by assumption) ?_
      case hy=>intro w0 hSw;(try dsimp only at hSw);go_simp;(first|done|with_reducible rfl)
      (try simp only[Act.put,aT,aU,aV]);refine gJ 5 (v:=?_) (fU rfl) (Or.inl ⟨by rfl,?hy⟩) (by assumption) ?_
      case hy=>intro w0 hSw;(try dsimp only at hSw);go_simp;(first|done|with_reducible rfl)
      (try simp only[Act.put,aT,aU,aV]);refine gJ 6 (v:=?_) (fU rfl) (Or.inl ⟨by rfl,?hy⟩) (by assumption) ?_
      case hy=>intro w0 hSw;(try dsimp only at hSw);go_simp;(first|done|with_reducible rfl)
      (try simp only[Act.put,aT,aU,aV]);refine gJ 7 (v:=?_) (fU rfl) (Or.inl ⟨by rfl,?hy⟩) (by assumption) ?_
      case hy=>intro w0 hSw;(try dsimp only at hSw);go_simp;(first|done|with_reducible rfl)
      (try simp only[Act.put,aT,aU,aV]);refine gJ 8 (v:=?_) (fU rfl) (Or.inl ⟨by rfl,?hy⟩) (by assumption) ?_
      case hy=>intro w0 hSw;(try dsimp only at hSw);go_simp;(first|done|with_reducible rfl)
      (try simp only[Act.put,aT,aU,aV]);refine gJ 9 (v:=?_) (fU rfl) (Or.inl ⟨by rfl,?hy⟩) (by assumption) ?_
      case hy=>intro w0 hSw;(try dsimp only at hSw);go_simp;(first|done|with_reducible rfl)
      (try simp only[Act.put,aT,aU,aV]);refine gJ 11 (v:=?_) (fU rfl) (Or.inl ⟨by rfl,?hy⟩) (by assumption) ?_
      case hy=>intro w0 hSw;(try dsimp only at hSw);go_simp;(first|done|with_reducible rfl)
      (try simp only[Act.put,aT,aU,aV]);refine Rd (rs:=[10]) (by kernel_rfl) (by simp) ?_;refine Rc (fU rfl) (fun K hK=>?_) Rn;go_simp
      (go_at_call 138;with_reducible refine(Gq.out _).mono ?_;rintro e w5 ⟨rfl,gH⟩;rw[gH];clear gH)
      (try go_wp2_with fail);refine hK.out _ _ (⟨aB (by assumption) ae8,aB (by assumption) hgm,by assumption⟩) (fun hHeld=>?_);clear hK K;(try simp only[Act.put,aT,aU,aV]);refine gJ 12 (v:=?_) (fU rfl) (Or.inl ⟨by rfl,?hy⟩) (by assumption) ?_
      case hy=>intro w0 hSw;(try dsimp only at hSw);go_simp;(first|done|with_reducible rfl)
      (try simp only[Act.put,aT,aU,aV]);refine wpAnyH_take (i:=13) (oi:={dst:=some 92,op:=Op.move (Operand.tmp 8),type:=3,pos := "ref.go:354",after:=#[{on:=12,ground:=Ground.guard}],guard:=some (12,false)}) (v:=undef) rfl (by kernel_rfl) (by kernel_rfl) (by kernel_rfl) (fun _ _ _ h=>h) (Or.inr ⟨by rfl,rfl⟩) (by assumption) ?_;(try simp only[Act.put,aT,aU,aV]);refine wpAnyH_take (i:=14) (oi:={dst:=some 93,op:=Op.binOp BinOp.add 3 (Operand.tmp 92) (Operand.const (Value.int IntKind.i64 1)) 3,type:=3,pos := "ref.go:354",after:=#[{on:=13,ground:=Ground.data},{on:=12,ground:=Ground.guard}],guard:=some (12,false)}) (v:=undef) rfl (by kernel_rfl) (by kernel_rfl) (by kernel_rfl) (fun _ _ _ h=>h) (Or.inr ⟨by rfl,rfl⟩) (by assumption) ?_;(try simp only[Act.put,aT,aU,aV]);refine wpAnyH_take (i:=15) (oi:={dst:=some 94,op:=Op.fieldAddr 64 (Operand.tmp 3) 3,type:=0,pos := "ref.go:354",after:=#[{on:=12,ground:=Ground.guard}],guard:=some (12,false)}) (v:=undef) rfl (by kernel_rfl) (by kernel_rfl) (by kernel_rfl) (fun _ _ _ h=>h) (Or.inr ⟨by rfl,rfl⟩) (by assumption) ?_;try simp only[Act.put,aT,aU,aV]
      refine wpAnyH_take (i:=16) (oi:={dst:=some 95,op:=Op.load 25 (Operand.tmp 94),type:=25,pos := "ref.go:354",after:=#[{on:=15,ground:=Ground.data},{on:=12,ground:=Ground.guard}],guard:=some (12,false)}) (v:=undef) rfl (by kernel_rfl) (by kernel_rfl) (by kernel_rfl) (fun _ _ _ h=>h) (Or.inr ⟨by rfl,rfl⟩) (by assumption) ?_;(try simp only[Act.put,aT,aU,aV]);refine wpAnyH_take (i:=17) (oi:={dst:=some 96,op:=Op.call {callee:=Callee.builtin Builtin.len,args:=#[Operand.tmp 95],argTypes:=#[25]},type:=3,pos := "ref.go:354",after:=#[{on:=16,ground:=Ground.data},{on:=12,ground:=Ground.guard}],guard:=some (12,false)}) (v:=undef) rfl (by kernel_rfl) (by kernel_rfl) (by kernel_rfl) (fun _ _ _ h=>h) (Or.inr ⟨by rfl,rfl⟩) (by assumption) ?_;(try simp only[Act.put,aT,aU,aV]);refine wpAnyH_take (i:=18) (oi:={dst:=some 97,op:=Op.binOp BinOp.lss 3 (Operand.tmp 93) (Operand.tmp 96) 3,type:=4,pos := "ref.go:354",after:=#[{on:=14,ground:=Ground.data},{on:=17,ground:=Ground.data},{on:=12,ground:=Ground.guard}],guard:=some (12,false)}) (v:=undef) rfl (by kernel_rfl) (by kernel_rfl) (by kernel_rfl) (fun _ _ _ h=>h) (Or.inr ⟨by rfl,rfl⟩) (by assumption) ?_;(try simp only[Act.put,aT,aU,aV]);refine gJ 19 (v:=?_) (fU rfl) (Or.inl ⟨by rfl,?hy⟩) (by assumption) ?_
      case hy=>intro w0 hSw;(try dsimp only at hSw);go_simp;(first|done|with_reducible rfl)
      (try simp only[Act.put,aT,aU,aV]);refine Rd (rs:=[20]) (by kernel_rfl) (by simp) ?_;refine Rc (fU rfl) (fun K hK=>?_) Rn;go_simp
      (go_at_call 110;with_reducible refine(HC.out _ (by assumption)).mono ?_;rintro e w5 ⟨rfl,hb5⟩;have hk5:=aY (by assumption) hb5)
      (try go_wp2_with fail);refine hK.out _ _ (⟨aB (by assumption) ae8,aB (by assumption) hgm,by assumption⟩) (fun hHeld=>?_);clear hK K;(try simp only[Act.put,aT,aU,aV]);refine gJ 21 (v:=?_) (fU rfl) (Or.inl ⟨by rfl,?hy⟩) (by assumption) ?_
      case hy=>intro w0 hSw;(try dsimp only at hSw);go_simp;(first|done|with_reducible rfl)
      (try simp only[Act.put,aT,aU,aV]);refine gJ 22 (v:=?_) (fU rfl) (Or.inl ⟨by rfl,?hy⟩) (by assumption) ?_
      case hy=>intro w0 hSw;(try dsimp only at hSw);go_simp;(first|done|with_reducible rfl)
      (try simp only[Act.put,aT,aU,aV]);refine wpAnyH_done (by kernel_rfl) ?_ _;have pU:Hid (Below w1.heap.size w1 w5):=HBM.trans (hk5.mono aip);clear hk5 hb5 q0 q1 q2 q3 ZE Sd;go_wp2_with fail
      go_roundw
      case rel=>exact⟨k+1,S2,by omega,rfl,by go_num,HSW,pU⟩
      case measure=>simp[intOf];omega
    ·have hkn:k=n:=by omega
     have HE:Hid (bs S=J):=by
      show _=_;have h:=HS.out;rw[List.drop_eq_nil_of_le (by have:=HN.out;omega)]at h
      simpa[aW]using h
     have hk1:¬(k:Int)<(n:Int):=by omega
     have lK:=Hd (HB1.trans (hbel.mono (by omega)));clear hlt hbel hS hkn;go_wp2_with fail;rw[HF];exact⟨by rw[VW,←HJ1,←HE];rfl,lK⟩
  |true=>
   clear h18;go_in;go_wp2_with fail;rw[←HW1];refine HST.mono ?_;rintro e w2 ⟨rfl,hw⟩;rw[←hw];clear hw;go_wp2_with fail
   go_loopw [7,8] (fun sv si wr=>∃(k:Nat)(S:ByteArray),k≤n∧sv=.string S∧si=.int .i64 k∧bs S++aW aO t.op (t.kids.drop k) k true=J∧Below w1.heap.size w1 wr) (fun _ i _=>n-(intOf i).toNat)
   case atStart=>exact⟨0,⟨#[]⟩,zl _,rfl,rfl,zy.symm,Br _ _⟩
   case round=>
    obtain⟨k,S,hk,rfl,rfl,hS,hbel⟩:=hrel;have oU:=Hd hbel;have HS:=Hd hS;have nR:=hbel.size;obtain⟨ZE,kr1,kr2,Sd⟩:=nV wr hbel;have pE:w.heap.size<wr.heap.size:=by omega
    clear kr1 kr2
    by_cases hlt:k<n
    ·obtain⟨kd,hkd⟩:∃kd,t.kids[k]?=some kd:=⟨_,gG (by have:=HN.out;omega)⟩;have hmem:kd∈t.kids:=mG hkd;have hkN:=(mg kd hmem).1;have hkS:=(mg kd hmem).2;have hkO:=BQ kd hmem
     rcases jB.kids with h9|⟨g,off,rfl,hg,hrow⟩
     ·rw[h9]at hkd;simp at hkd
     have hat:=(hrow.get hkd).below hbel rfl hg;obtain⟨q0,q1,q2,A2,c2,q3,hV2⟩:=hat.open;have hgw:g<wr.heap.size:=by omega
     obtain⟨n2,hn2⟩:=aj kd.kids.length;rw[←hn2]at q3;have e1:off+4*k=off+k*4:=by omega
     rw[e1]at q0 q1 q2 q3;obtain⟨rk,Vm⟩:=aj (aX t.op k);have xg:=NG (op:=t.op) (i:=k) (by omega);have Io:aX t.op k≤8:=by rw[xg];refine Vi _ _ ?_;split<;>omega
     have Sg:=Qi t.op (decide (k=0));have ak0:(0:Int)≤(k:Int):=by omega
     have hk1:(k:Int)<(n:Int):=by omega
     have HLT:=Hd hlt;clear hat hrow hmem e1 hbel hS
     by_cases hk0:k=0
     ·have Gq:Hid (∀W,Calls Tryz.prog 138 #[.int .i64 t.op,.bool true] W fun e w'=>e=.returned (.int .i64 ((rk:Int)+1))∧w'=W):=fun W=>by
       have h:=Sg W h6 Aj;rw[←xg,←Vm,decide_eq_true hk0]at h;exact h.mono fun _ _ h=>⟨h.1,h.2.symm⟩
      clear Sg xg;subst hk0;have hka:(0:Nat)*4=0:=by omega
      rw[hka,Nat.add_zero]at q0 q1 q2 q3;obtain⟨e1,he1⟩:=aj ((true&&decide (0+1=n)))
      have hB:(!e1)=decide ((1:Int)<(n:Int)):=by
       rw[he1];rw[Bool.true_and,Bool.eq_iff_iff];simp;omega
      have HJ:Hid (aW aO t.op (t.kids.drop 0) 0 true=[]++nU aO kd rk e1++aW aO t.op (t.kids.drop (0+1)) (0+1) true):=by
       show _=_;rw[Em hkd,iP rfl,←HN,←he1,Vm]
      obtain⟨T,hT⟩:∃T:ByteArray,T=⟨(nU aO kd rk e1).toArray⟩:=⟨_,rfl⟩
      have HC:Hid (∀W,Below wr.heap.size wr W→Calls Tryz.prog 110 #[.agg #[.int .i64 kd.op,.int .i64 kd.num,.string kd.name,.slice A2 n2 c2],.int .i64 ((rk:Int)+1),.bool (decide ((1:Int)<(n:Int)))] W fun e w'=>e=.returned (.string T)∧Below W.heap.size W w'):=fun W hb=>by
       have hih:=HH kd rk e1 (d+1) A2 c2 W hkN hkS (by rw[Vm];exact Io) hkO (hV2.below hb rfl);unfold Tm.val at hih;rw[←hn2,hB]at hih;rw[hT];exact hih
      obtain⟨S2,hS2⟩:∃S2:ByteArray,S2=S++T:=⟨_,rfl⟩
      have HSW:Hid (bs S2++aW aO t.op (t.kids.drop (0+1)) (0+1) true=J):=by
       show _=_;rw[←HS,HJ,hS2,Ga,hT];simp[bs]
      have hz2:S2.size≤J.length:=by
       rw[←HSW,List.length_append];show(bs S2).length≤_;omega
      have Ij:=bC hS2 (by rw[←bA,←hS2];omega);clear he1 hB hT hS2 hz2 hkd hn2 hV2 Vm Io;go_wp2_with fail;have hbd:Below wr.heap.size wr wr.drew:=(Br _ _).drew;have hsum:IntKind.i64.wrap 1=1:=IntWalk.i64_in _ (by omega)
      go_region_held3 (fun w'=>(∀o,w'.cell? ⟨w.heap.size,o,none⟩=wr.cell? ⟨w.heap.size,o,none⟩)∧(∀o,w'.cell? ⟨g,o,none⟩=wr.cell? ⟨g,o,none⟩)∧Below wr.heap.size wr w')
       (first|(exact⟨aB (by assumption) pE,aB (by assumption) hgw,by assumption⟩)|fail)
       (first|(go_at_call 138;with_reducible refine(Gq.out _).mono ?_;rintro e w5 ⟨rfl,gH⟩;rw[gH];clear gH)|(go_at_call 110;with_reducible refine(HC.out _ (by assumption)).mono ?_;rintro e w5 ⟨rfl,hb5⟩;have hk5:=aY (by assumption) hb5)|fail)
      have pU:Hid (Below w1.heap.size w1 w5):=oU.trans (hk5.mono nR);clear hk5 hb5 q0 q1 q2 q3 ZE Sd;go_wp2_with fail
      go_roundw
      case rel=>exact⟨0+1,S2,by omega,rfl,by go_num,HSW,pU⟩
      case measure=>simp[intOf];omega
     ·have Gq:Hid (∀W,Calls Tryz.prog 138 #[.int .i64 t.op,.bool false] W fun e w'=>e=.returned (.int .i64 ((rk:Int)+1))∧w'=W):=fun W=>by
       have h:=Sg W h6 Aj;rw[←xg,←Vm,dF hk0]at h;exact h.mono fun _ _ h=>⟨h.1,h.2.symm⟩
      have hkb:((k:Int)==0)=false:=by simp;omega
      have hkp:(0:Int)<(k:Int):=by omega
      have oW:=Hd (Il t.op wr h6 Aj);obtain⟨B,hB0⟩:∃B:ByteArray,B=⟨(lG t.op).toArray⟩:=⟨_,rfl⟩;rw[←hB0]at oW;have hBz:B.size≤5:=by rw[hB0,Im];unfold lG;have:=nD t.op;simp;omega
      have hSz:S.size≤J.length:=by
       rw[←HS,List.length_append];show(bs S).length≤_;omega
      obtain⟨S0,hS0⟩:∃S0:ByteArray,S0=S++B:=⟨_,rfl⟩;have ajU:=bC hS0 (by omega);rw[hB0]at hS0;clear Sg xg hB0;go_wp2_with fail;refine oW.mono ?_;rintro e wm ⟨rfl,RB⟩;have HBM:=Hd (oU.trans (RB.mono nR));have aip:=HBM.size;have qm0:=q0;have qm1:=q1;have qm2:=q2;have qm3:=q3;rw[←RB.cell (p:=⟨g,_,none⟩) hgw]at qm0 qm1 qm2 qm3;clear ZE Sd;obtain⟨ZE,kr1,kr2,Sd⟩:=nV wm HBM;have hgm:g<wm.heap.size:=by have:=RB.size;omega
      have ae8:w.heap.size<wm.heap.size:=by have:=RB.size;omega
      clear kr1 kr2;obtain⟨e1,he1⟩:=aj ((true&&decide (k+1=n)))
      have hB:(!e1)=decide (((k:Int)+1:Int)<(n:Int)):=by
       rw[he1];rw[Bool.true_and,Bool.eq_iff_iff];simp;omega
      have HJ:Hid (aW aO t.op (t.kids.drop k) k true=lG t.op++nU aO kd rk e1++aW aO t.op (t.kids.drop (k+1)) (k+1) true):=by
       show _=_;rw[Em hkd,iN hk0,←HN,←he1,Vm]
      obtain⟨T,hT⟩:∃T:ByteArray,T=⟨(nU aO kd rk e1).toArray⟩:=⟨_,rfl⟩
      have HC:Hid (∀W,Below wm.heap.size wm W→Calls Tryz.prog 110 #[.agg #[.int .i64 kd.op,.int .i64 kd.num,.string kd.name,.slice A2 n2 c2],.int .i64 ((rk:Int)+1),.bool (decide (((k:Int)+1:Int)<(n:Int)))] W fun e w'=>e=.returned (.string T)∧Below W.heap.size W w'):=fun W hb=>by
       have hih:=HH kd rk e1 (d+1) A2 c2 W hkN hkS (by rw[Vm];exact Io) hkO ((hV2.below RB rfl).below hb rfl);unfold Tm.val at hih;rw[←hn2,hB]at hih;rw[hT];exact hih
      obtain⟨S2,hS2⟩:∃S2:ByteArray,S2=S0++T:=⟨_,rfl⟩
      have HSW:Hid (bs S2++aW aO t.op (t.kids.drop (k+1)) (k+1) true=J):=by
       show _=_;rw[←HS,HJ,hS2,Ga,hT,hS0,Ga];simp[bs]
      have hz2:S2.size≤J.length:=by
       rw[←HSW,List.length_append];show(bs S2).length≤_;omega
      have Ij:=bC hS2 (by rw[←bA,←hS2];omega);clear he1 hB hT hS2 hz2 hkd hn2 hV2 Vm Io hS0 q0 q1 q2 q3;have q0:=qm0;have q1:=qm1;have q2:=qm2;have q3:=qm3;clear qm0 qm1 qm2 qm3;go_wp2_with fail;have hbd:Below wm.heap.size wm wm.drew:=(Br _ _).drew;have hsum:IntKind.i64.wrap ((k:Int)+1)=(k:Int)+1:=IntWalk.i64_in _ (by omega)
      go_region_held3 (fun w'=>(∀o,w'.cell? ⟨w.heap.size,o,none⟩=wm.cell? ⟨w.heap.size,o,none⟩)∧(∀o,w'.cell? ⟨g,o,none⟩=wm.cell? ⟨g,o,none⟩)∧Below wm.heap.size wm w')
       (first|(exact⟨aB (by assumption) ae8,aB (by assumption) hgm,by assumption⟩)|fail)
       (first|(go_at_call 138;with_reducible refine(Gq.out _).mono ?_;rintro e w5 ⟨rfl,gH⟩;rw[gH];clear gH)|(go_at_call 110;with_reducible refine(HC.out _ (by assumption)).mono ?_;rintro e w5 ⟨rfl,hb5⟩;have hk5:=aY (by assumption) hb5)|fail)
      have pU:Hid (Below w1.heap.size w1 w5):=HBM.trans (hk5.mono aip);clear hk5 hb5 q0 q1 q2 q3 ZE Sd;go_wp2_with fail
      go_roundw
      case rel=>exact⟨k+1,S2,by omega,rfl,by go_num,HSW,pU⟩
      case measure=>simp[intOf];omega
    ·have hkn:k=n:=by omega
     have HE:Hid (bs S=J):=by
      show _=_;have h:=HS.out;rw[List.drop_eq_nil_of_le (by have:=HN.out;omega)]at h
      simpa[aW]using h
     have hk1:¬(k:Int)<(n:Int):=by omega
     have lK:=Hd (HB1.trans (hbel.mono (by omega)));clear hlt hbel hS hkn;go_wp2_with fail;rw[HF];exact⟨by rw[VW,←HJ1,←HE];rfl,lK⟩
theorem ZJ(N:Nat)(H:ain N)(t:Tm)(rule:Nat)(ends:Bool)(d:Nat)(A:Option Addr)(c:Nat)(w:World)(hN:t.size≤N+1)(hsz:t.size≤9000000)(hr8:rule≤8)(hok:t.lI d)(hV:zx w A c t)(hp:pB t rule ends=true) :
 Calls Tryz.prog 110 #[t.val A c,.int .i64 ((rule:Int)+1),.bool (!ends)] w fun e w'=>e=.returned (.string ⟨([40]++oJ t true++[41]).toArray⟩)∧Below w.heap.size w w':=by
 obtain⟨n,hn⟩:=aj t.kids.length;obtain⟨F,hF⟩:∃F:Ending→World→Prop,F=fun e w'=>e=.returned (.string ⟨([40]++oJ t true++[41]).toArray⟩)∧Below w.heap.size w w':=⟨_,rfl⟩;rw[←hF];obtain⟨w1,hw1⟩:=aj (w.alloc (.cells #[.int .i64 t.op,.int .i64 t.num,.string t.name,.slice A n c] 64));have hb1:=dz hw1;have hs1:w.heap.size<w1.heap.size:=by rw[hw1];simp
 have hbx:iM w1 w.heap.size A n c t:=by rw[hw1];exact eu w _
 have HST:=Hd (Dj t.op w1);obtain⟨ro,hro⟩:=aj (bQ t.op)
 have hcase:ro<rule∨(¬ro<rule∧t.op=18∧ends=false):=by
  by_cases h:ro<rule
  ·exact .inl h
  ·refine .inr ⟨h,?_⟩;unfold pB at hp;rw[hro]at h;rw[dF h]at hp
   cases ends with
   |true=>simp at hp
   |false=>simpa using hp
 rw[←hro]at HST;have hrl2:ro≤8:=by rw[hro];exact zZ _
 have hbody:=NH N H t 0 true d A c w1 hN hsz (by omega) hok (hV.below hb1 rfl) (agQ t);unfold Tm.val at hbody;rw[←hn]at hbody;obtain⟨S,hS⟩:∃S:ByteArray,S=⟨(oJ t true).toArray⟩:=⟨_,rfl⟩;rw[←hS]at hbody;have hlen:=Ql (ends:=true) hok;have hz:S.size≤720000000:=by rw[hS,Im];omega
 obtain⟨S1,hS1⟩:∃S1:ByteArray,S1=(⟨#[40]⟩:ByteArray)++S:=⟨_,rfl⟩;obtain⟨S2,hS2⟩:∃S2:ByteArray,S2=S1++(⟨#[41]⟩:ByteArray):=⟨_,rfl⟩;have z1:S1.size=1+S.size:=by rw[hS1,bA];rfl
 have Ib:=bC hS1 (by show 1+S.size≤_;omega);have uP:=bC hS2 (by show S1.size+1≤_;omega)
 have HR:Hid ((⟨([40]++oJ t true++[41]).toArray⟩:ByteArray)=S2):=by
  show _=_;rw[hS2,hS1,hS]
  apply gV
  simp[bs]
 have x0:=hbx.c0;have x1:=hbx.c1;have x2:=hbx.c2;have x3:=hbx.c3;show Calls Tryz.prog 110 #[.agg #[.int .i64 t.op,.int .i64 t.num,.string t.name,.slice A t.kids.length c],.int .i64 ((rule:Int)+1),.bool (!ends)] w F;rw[←hn];have HF:=Hd hF;have HB1:=Hd hb1;have HW1:=Hd hw1;have HC:=Hd hbody;clear hF hb1 hw1 hbody hn hV hok hbx hro hp hlen hS hS1 hS2 z1 hN H hsz
 rcases hcase with h|⟨h,h18,rfl⟩
 ·have h':(ro:Int)+1<(rule:Int)+1:=by omega
  clear h;go_in;go_wp2_with fail;rw[←HW1];refine HST.mono ?_;rintro e w2 ⟨rfl,hw⟩;rw[←hw];clear hw;go_wp2_with fail;refine HC.mono ?_;rintro e w3 ⟨rfl,hb3⟩;have HB3:=Hd (HB1.trans (hb3.mono (by omega)));clear hb3 x0 x1 x2 x3;go_wp2_with fail;rw[HF,HR];exact⟨rfl,HB3⟩
 ·have h':¬(ro:Int)+1<(rule:Int)+1:=by omega
  have agS:(t.op==18)=true:=by simp;omega
  clear h h18;go_in;go_wp2_with fail;rw[←HW1];refine HST.mono ?_;rintro e w2 ⟨rfl,hw⟩;rw[←hw];clear hw;go_wp2_with fail;refine HC.mono ?_;rintro e w3 ⟨rfl,hb3⟩;have HB3:=Hd (HB1.trans (hb3.mono (by omega)));clear hb3 x0 x1 x2 x3;go_wp2_with fail;rw[HF,HR];exact⟨rfl,HB3⟩
theorem acM:∀N,ain N:=by
 intro N
 induction N with
 |zero=>
  intro t rule ends d A c w hN;cases t;rw[Tm.size]at hN;omega
 |succ N ih=>
  intro t rule ends d A c w hN hsz hr hok hV;rw[ae4]
  cases hp:pB t rule ends with
  |false=>exact NH N ih t rule ends d A c w hN hsz hr hok hV hp
  |true=>exact ZJ N ih t rule ends d A c w hN hsz hr hok hV hp
end Go.Proofs.YtkhoeoilamddaaaGreatDoor
