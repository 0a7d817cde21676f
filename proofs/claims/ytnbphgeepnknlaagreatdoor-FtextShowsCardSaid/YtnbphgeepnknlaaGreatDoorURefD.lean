/- Walks of the reference of term texts: ref31.text, Show. -/
import Derived.Test.YtnbphgeepnknlaaGreatDoorUTtrH
namespace Go.Proofs.YtnbphgeepnknlaaGreatDoor
open Go.RowKit
set_option linter.unusedVariables false
set_option linter.unusedSimpArgs false
set_option maxRecDepth 100000
set_option maxHeartbeats 8000000
theorem tLRefD {o:Array Oper} {i:Nat} {x:Oper} (h:o.toList[i]?=some x):o[i]?=some x:=by simpa using h
theorem rle_run {a b S:ByteArray} (hS:S=a++b) (h:a.size+b.size≤1000000000):∀ W,(Op.stringOp .add a b).run Tryz.prog W=.ok (.string S) W:=fun W=>by
 rw [hS];exact run_string_add_sum W _ _ (by omega)
def TxtC (N:Nat):Prop:=∀ (t:Tm) (rule:Nat) (ends:Bool) (d:Nat) (A:Option Addr) (c:Nat) (w:World),t.size≤N→t.size≤9000000→rule≤8→t.okT d→TmV w A c t →
 Calls Tryz.prog 152 #[t.val A c,.int .i64 ((rule:Int)+1),.bool (!ends)] w fun e w'=>e=.returned (.string ⟨(shw numS t rule ends).toArray⟩)∧Below w.heap.size w w'
theorem bsz'' (l:Bs):(⟨l.toArray⟩:ByteArray).size=l.length:=by simp [ByteArray.size]
theorem rtext_body (N:Nat) (H:TxtC N) (t:Tm) (rule:Nat) (ends:Bool) (d:Nat) (A:Option Addr) (c:Nat) (w:World) (hN:t.size≤N+1) (hsz:t.size≤9000000) (hr8:rule≤8) (hok:t.okT d) (hV:TmV w A c t) (hp:pB t rule ends=false) :
 Calls Tryz.prog 152 #[t.val A c,.int .i64 ((rule:Int)+1),.bool (!ends)] w fun e w'=>e=.returned (.string ⟨(bodyR t ends).toArray⟩)∧Below w.heap.size w w':=by
 obtain ⟨n,hn⟩:=ex_ t.kids.length;obtain ⟨F,hF⟩:∃ F:Ending→World→Prop,F=fun e w'=>e=.returned (.string ⟨(bodyR t ends).toArray⟩)∧Below w.heap.size w w':=⟨_,rfl⟩;rw [←hF];have hsum:t.size=1+Tm.sizeL t.kids:=by cases t;rw [Tm.size];rfl
 have hnl:=Tm.len_le t.kids;have hcap:=hV.cap;have hcapm:=hV.capm;unfold maxLen at hcapm;obtain ⟨w1,hw1⟩:=ex_ (w.alloc (.cells #[.int .i64 t.op,.int .i64 t.num,.string t.name,.slice A n c] 25));have hb1:=bAl hw1;have hs1:w.heap.size<w1.heap.size:=by rw [hw1];simp
 have hbx:TBox w1 w.heap.size A n c t:=by rw [hw1];exact hA_ w _
 have HST:=Hd (rstrong_any t.op w1);obtain ⟨ro,hro⟩:=ex_ (ruleOf t.op)
 have hrl:¬ro<rule:=by
  intro h;unfold pB at hp;rw [hro] at h;rw [decide_eq_true h] at hp;cases hp
 have h18:t.op=18→ends=true:=fun h=>by
  unfold pB at hp;rw [decide_eq_true h] at hp
  cases ends with
  | true=>rfl
  | false=>simp at hp
 rw [←hro] at HST;have hrl':¬((ro:Int)+1<(rule:Int)+1):=by omega
 have hrl2:ro≤8:=by rw [hro];exact ruleOf_le _
 have hrlb:decide (ro<rule)=false:=dF hrl;have hkl:t.kids.length≤10000000:=by omega
 rw [←hn] at hcap hkl
 have HSZ:Hid (∀ k∈t.kids,k.size≤N∧k.size≤9000000):=fun k hk=>by
  have h1:=Tm.sizeL_mem hk;omega
 have HOK:Hid (∀ k∈t.kids,k.okT (d+1)):=(okT_open hok).2.2;have hkinds:=rbody_kinds hok;have hlen:=rbody_len (ends:=ends) hok;have hnum:=(wrong_ok (okT_open hok).2.1)
 have HXX:Hid (∀ W,Below w1.heap.size w1 W→W.cell? ⟨w.heap.size,0,none⟩=some (.int .i64 t.op)∧W.cell? ⟨w.heap.size,1,none⟩=some (.int .i64 t.num)∧W.cell? ⟨w.heap.size,2,none⟩=some (.string t.name)∧W.cell? ⟨w.heap.size,3,none⟩=some (.slice A n c)):=fun W hb=>by
  have hx:=hbx.below hb hs1;exact ⟨hx.c0,hx.c1,hx.c2,hx.c3⟩
 obtain ⟨x0,x1,x2,x3⟩:=HXX.out w1 (Br _ _);show Calls Tryz.prog 152 #[.agg #[.int .i64 t.op,.int .i64 t.num,.string t.name,.slice A t.kids.length c],.int .i64 ((rule:Int)+1),.bool (!ends)] w F;rw [←hn];have HF:=Hd hF;have HH:=Hd H;have HN:=Hd hn;have HK:=Hd hV.kids;have HB1:=Hd hb1;have HW1:=Hd hw1;have HV1:=Hd (hV.below hb1 rfl);have HSE:=Hd hsum;have HTS:=Hd hsz;have hnm24:=hnum.2.2.1
 have hlone:1≤t.op→t.op≤4→Calls Tryz.prog 190 #[.agg #[.int .i64 t.op,.int .i64 t.num,.string t.name,.slice A n c]] w1 fun e w'=>e=.returned (.string ⟨(loneT numS t.op t.num (bs t.name)).toArray⟩)∧Below w1.heap.size w1 w':=fun h1 h4=>by
  refine rlone_any t.op t.num t.name A n c w1 (by omega) ?_ ?_ h1 h4
  · by_cases ho:t.op=1
    · have:=(hnum.2.1 ho).1;omega
    · by_cases ho2:t.op=2
      · have:=(hnum.2.2.2.2.2.1 ho2).1;omega
      · have:=hnum.2.2.2.2.2.2.1 ho ho2;omega
  · by_cases ho:t.op=1
    · have:=(hnum.2.1 ho).2;omega
    · by_cases ho2:t.op=2
      · have:=(hnum.2.2.2.2.2.1 ho2).2;omega
      · have:=hnum.2.2.2.2.2.2.1 ho ho2;omega
 have HLO:=Hd hlone;clear hF H hn hV hb1 hw1 hsum hnl hnum hlone hN hsz hro hp hbx hrl
 rcases hkinds with ⟨h1,h4,hk⟩ | ⟨h5,a,hk⟩ | ⟨hi,a,b,c',hk⟩ | ⟨h6,h17,hpos,htwo⟩
 · have hn0:n=0:=by rw [HN.out,hk];rfl
   have HLO2:=Hd (HLO.out h1 h4);have HR:Hid (bodyR t ends=loneT numS t.op t.num (bs t.name)):=by show _=_;rw [rbody_lone h1 h4];rfl
   obtain ⟨L,hL⟩:=ex_ (loneT numS t.op t.num (bs t.name));rw [←hL] at HLO2 HR;have h18b:(t.op == 18)=false:=by simp;omega
   subst hn0;clear hlen hL h18 h1 h4 hk;go_enter Tryz.func152,Tryz.ntmps152;go_wp2_with fail;rw [←HW1.out];refine (HST.out).mono ?_;rintro e w2 ⟨rfl,hw⟩;rw [←hw];clear hw;go_wp2_with fail;refine (HLO2.out).mono ?_;rintro e w3 ⟨rfl,hb3⟩;have HB3:=Hd (HB1.out.trans (hb3.mono (by omega)));clear hb3;go_wp2_with fail;rw [HF.out,HR.out];exact ⟨rfl,HB3.out⟩
 · have hn1:n=1:=by rw [HN.out,hk];rfl
   have h18b:(t.op == 18)=false:=by simp;omega
   have h5b:(t.op == 5)=true:=by simp;omega
   have hm:a∈t.kids:=by rw [hk];simp
   have hka:t.kids[0]?=some a:=by rw [hk];rfl
   rcases HK.out with h9 | ⟨g,off,rfl,hg,hrow⟩
   · rw [h9] at hk;cases hk
   have hat:=(hrow.get hka).below HB1.out rfl hg;obtain ⟨q0,q1,q2,A2,c2,q3,hV2⟩:=hat.open;have hgw:g<w1.heap.size:=by omega
   have hcl:=HH.out a 4 ends (d+1) A2 c2 w1 (HSZ.out a hm).1 (HSZ.out a hm).2 (by omega) (HOK.out a hm) hV2;unfold Tm.val at hcl;rw [show ((4:Nat):Int)+1=5 from rfl] at hcl;obtain ⟨n2,hn2⟩:=ex_ a.kids.length;rw [←hn2] at q3 hcl;obtain ⟨S,hS⟩:∃ S:ByteArray,S=⟨(shw numS a 4 ends).toArray⟩:=⟨_,rfl⟩;rw [←hS] at hcl
   have hzS:S.size≤1000000000 - 1:=by
    rw [hS,bsz''];rw [rbody_not h5 hk] at hlen;simp only [List.length_append,List.length_cons,List.length_nil] at hlen;have:=HSE.out;have h8:=(HSZ.out a hm).2;have:=shw_len numS_short a 4 ends (d+1) (HOK.out a hm);omega
   obtain ⟨S1,hS1⟩:∃ S1:ByteArray,S1=(⟨#[33]⟩:ByteArray)++S:=⟨_,rfl⟩;have hcat:=rle_run hS1 (by show 1+S.size≤_;omega)
   have HR:Hid ((⟨(bodyR t ends).toArray⟩:ByteArray)=S1):=by
    show _=_;rw [rbody_not h5 hk,hS1,hS]
    apply bs_ext
    simp [bs]
   have HC:=Hd hcl;have e0:off+4*0=off:=by omega
   rw [e0] at q0 q1 q2 q3;subst hn1;clear hcl hn2 hS hS1 hat hrow hka hm hk hV2 h18 hlen e0 h5 hzS;go_enter Tryz.func152,Tryz.ntmps152;go_wp2_with fail;rw [←HW1.out];refine (HST.out).mono ?_;rintro e w2 ⟨rfl,hw⟩;rw [←hw];clear hw;go_wp2_with fail;refine (HC.out).mono ?_;rintro e w3 ⟨rfl,hb3⟩;have HB3:=Hd (HB1.out.trans (hb3.mono (by omega)));clear hb3 q0 q1 q2 q3 x0 x1 x2 x3;go_wp2_with fail;rw [HF.out,HR.out];exact ⟨rfl,HB3.out⟩
 -- three parts
 · have hn3:n=3:=by rw [HN.out,hk];rfl
   have h18b:(t.op == 18)=true:=by simp;omega
   have h5b:(t.op == 5)=false:=by simp;omega
   have hen:=h18 hi;subst hen
   rcases HK.out with h9 | ⟨g,off,rfl,hg,hrow⟩
   · rw [h9] at hk;cases hk
   have hgw:g<w1.heap.size:=by omega
   have ham:a∈t.kids:=by rw [hk];simp
   have hata:=(hrow.get (show t.kids[0]?=some a by rw [hk];rfl)).below HB1.out rfl hg;obtain ⟨qa0,qa1,qa2,Aa,ca,qa3,hVa⟩:=hata.open;obtain ⟨na,hna⟩:=ex_ a.kids.length;obtain ⟨Sa,hSa⟩:∃ Sa:ByteArray,Sa=⟨(shw numS a 0 true).toArray⟩:=⟨_,rfl⟩
   have HCa:Hid (∀ W,Below w1.heap.size w1 W→Calls Tryz.prog 152 #[.agg #[.int .i64 a.op,.int .i64 a.num,.string a.name,.slice Aa na ca],.int .i64 1,.bool false] W fun e w'=>e=.returned (.string Sa)∧Below W.heap.size W w'):=fun W hb=>by
    have h:=HH.out a 0 true (d+1) Aa ca W (HSZ.out a ham).1 (HSZ.out a ham).2 (by omega) (HOK.out a ham) (hVa.below hb rfl);unfold Tm.val at h;rw [←hna,←hSa] at h;exact h
   rw [←hna] at qa3
   have hza:Sa.size≤80*a.size:=by
    rw [hSa,bsz''];have:=shw_len numS_short a 0 true (d+1) (HOK.out a ham);omega
   rw [show off+4*0=off+0*4 by omega] at qa0 qa1 qa2 qa3;have hbm:b∈t.kids:=by rw [hk];simp
   have hatb:=(hrow.get (show t.kids[1]?=some b by rw [hk];rfl)).below HB1.out rfl hg;obtain ⟨qb0,qb1,qb2,Ab,cb,qb3,hVb⟩:=hatb.open;obtain ⟨nb,hnb⟩:=ex_ b.kids.length;obtain ⟨Sb,hSb⟩:∃ Sb:ByteArray,Sb=⟨(shw numS b 0 true).toArray⟩:=⟨_,rfl⟩
   have HCb:Hid (∀ W,Below w1.heap.size w1 W→Calls Tryz.prog 152 #[.agg #[.int .i64 b.op,.int .i64 b.num,.string b.name,.slice Ab nb cb],.int .i64 1,.bool false] W fun e w'=>e=.returned (.string Sb)∧Below W.heap.size W w'):=fun W hb=>by
    have h:=HH.out b 0 true (d+1) Ab cb W (HSZ.out b hbm).1 (HSZ.out b hbm).2 (by omega) (HOK.out b hbm) (hVb.below hb rfl);unfold Tm.val at h;rw [←hnb,←hSb] at h;exact h
   rw [←hnb] at qb3
   have hzb:Sb.size≤80*b.size:=by
    rw [hSb,bsz''];have:=shw_len numS_short b 0 true (d+1) (HOK.out b hbm);omega
   rw [show off+4*1=off+1*4 by omega] at qb0 qb1 qb2 qb3;have hem:c'∈t.kids:=by rw [hk];simp
   have hate:=(hrow.get (show t.kids[2]?=some c' by rw [hk];rfl)).below HB1.out rfl hg;obtain ⟨qe0,qe1,qe2,Ae,ce,qe3,hVe⟩:=hate.open;obtain ⟨ne,hne⟩:=ex_ c'.kids.length;obtain ⟨Se,hSe⟩:∃ Se:ByteArray,Se=⟨(shw numS c' 0 true).toArray⟩:=⟨_,rfl⟩
   have HCe:Hid (∀ W,Below w1.heap.size w1 W→Calls Tryz.prog 152 #[.agg #[.int .i64 c'.op,.int .i64 c'.num,.string c'.name,.slice Ae ne ce],.int .i64 1,.bool false] W fun e w'=>e=.returned (.string Se)∧Below W.heap.size W w'):=fun W hb=>by
    have h:=HH.out c' 0 true (d+1) Ae ce W (HSZ.out c' hem).1 (HSZ.out c' hem).2 (by omega) (HOK.out c' hem) (hVe.below hb rfl);unfold Tm.val at h;rw [←hne,←hSe] at h;exact h
   rw [←hne] at qe3
   have hze:Se.size≤80*c'.size:=by
    rw [hSe,bsz''];have:=shw_len numS_short c' 0 true (d+1) (HOK.out c' hem);omega
   rw [show off+4*2=off+2*4 by omega] at qe0 qe1 qe2 qe3
   have hsz3:a.size+b.size+c'.size≤9000000:=by
    have h1:=HSE.out;rw [hk] at h1;simp only [Tm.sizeL] at h1;have h2:=HTS.out;omega
   obtain ⟨S1,hS1⟩:∃ S1:ByteArray,S1=(⟨#[105,102,32]⟩:ByteArray)++Sa:=⟨_,rfl⟩;obtain ⟨S2,hS2⟩:∃ S2:ByteArray,S2=S1++(⟨#[32,116,104,101,110,32]⟩:ByteArray):=⟨_,rfl⟩;obtain ⟨S3,hS3⟩:∃ S3:ByteArray,S3=S2++Sb:=⟨_,rfl⟩;obtain ⟨S4,hS4⟩:∃ S4:ByteArray,S4=S3++(⟨#[32,101,108,115,101,32]⟩:ByteArray):=⟨_,rfl⟩;obtain ⟨S5,hS5⟩:∃ S5:ByteArray,S5=S4++Se:=⟨_,rfl⟩;have z1:S1.size=3+Sa.size:=by rw [hS1,bA];rfl
   have z2:S2.size=S1.size+6:=by rw [hS2,bA];rfl
   have z3:S3.size=S2.size+Sb.size:=by rw [hS3,bA]
   have z4:S4.size=S3.size+6:=by rw [hS4,bA];rfl
   have hcat1:=rle_run hS1 (by show 3+Sa.size≤_;omega);have hcat2:=rle_run hS2 (by show S1.size+6≤_;omega);have hcat3:=rle_run hS3 (by omega);have hcat4:=rle_run hS4 (by show S3.size+6≤_;omega);have hcat5:=rle_run hS5 (by omega)
   have HR:Hid ((⟨(bodyR t true).toArray⟩:ByteArray)=S5):=by
    show _=_;rw [rbody_if hi hk,hS5,hS4,hS3,hS2,hS1,hSa,hSb,hSe]
    apply bs_ext
    simp [bs,ifW]
   have hgo:off+0*4=off:=by omega
   rw [hgo] at qa0 qa1 qa2 qa3;subst hn3;clear hna hnb hne hSa hSb hSe hS1 hS2 hS3 hS4 hS5 hata hatb hate hrow ham hbm hem hk hVa hVb hVe h18 hlen hi hgo z1 z2 z3 z4 hza hzb hze hsz3;go_enter Tryz.func152,Tryz.ntmps152;go_wp2_with fail;rw [←HW1.out];refine (HST.out).mono ?_;rintro e w2 ⟨rfl,hw⟩;rw [←hw];clear hw;go_wp2_with fail;have hbd:Below w1.heap.size w1 w1.drew:=(Br _ _).drew
   go_region_held3 (fun w'=>(∀ o,w'.cell? ⟨w.heap.size,o,none⟩=w1.cell? ⟨w.heap.size,o,none⟩)∧(∀ o,w'.cell? ⟨g,o,none⟩=w1.cell? ⟨g,o,none⟩)∧Below w1.heap.size w1 w')
    (first
      | (exact ⟨keep_cells (by assumption) hs1,keep_cells (by assumption) hgw,by assumption⟩)
      | fail)
    (first
      | (go_at_call 152;with_reducible refine (HCa.out _ (by assumption)).mono ?_;rintro e w5 ⟨rfl,hb5⟩;have hk5:=keep_step (by assumption) hb5)
      | (go_at_call 152;with_reducible refine (HCb.out _ (by assumption)).mono ?_;rintro e w5 ⟨rfl,hb5⟩;have hk5:=keep_step (by assumption) hb5)
      | (go_at_call 152;with_reducible refine (HCe.out _ (by assumption)).mono ?_;rintro e w5 ⟨rfl,hb5⟩;have hk5:=keep_step (by assumption) hb5)
      | fail)
   have HB9:=Hd (HB1.out.trans (hk5.mono (by omega)));clear x0 x1 x2 x3 qa0 qa1 qa2 qa3 qb0 qb1 qb2 qb3 qe0 qe1 qe2 qe3;go_wp2_with fail;rw [HF.out,HR.out];exact ⟨rfl,HB9.out⟩
 -- a row
 · have hn0:((n:Int) == 0)=false:=by have:=HN.out;simp;omega
   have h18b:(t.op == 18)=false:=by simp;omega
   have h5b:(t.op == 5)=false:=by simp;omega
   have HRB:Hid (bodyR t ends=shwJoin numS t.op t.kids 0 ends):=rbody_join h6 h17;have hJl:(shwJoin numS t.op t.kids 0 ends).length≤720000000:=by rw [←HRB.out];have:=HTS.out;omega
   obtain ⟨J,hJ⟩:=ex_ (shwJoin numS t.op t.kids 0 ends);have HJ0:Hid (J=bs ⟨#[]⟩++shwJoin numS t.op (t.kids.drop 0) 0 ends):=by show _=_;rw [hJ];rfl
   have HJ1:=Hd hJ;rw [←hJ] at hJl;rw [←HN.out] at htwo hpos;clear hlen hJ
   cases ends with
   | false=>
    clear h18;go_enter Tryz.func152,Tryz.ntmps152;go_wp2_with fail;rw [←HW1.out];refine (HST.out).mono ?_;rintro e w2 ⟨rfl,hw⟩;rw [←hw];clear hw;go_wp2_with fail
    go_loopw [7,8] (fun sv si wr=>∃ (k:Nat) (S:ByteArray),k≤n∧sv=.string S∧si=.int .i64 k∧bs S++shwJoin numS t.op (t.kids.drop k) k false=J∧Below w1.heap.size w1 wr) (fun _ i _=>n - (intOf i).toNat)
    case atStart=>exact ⟨0,⟨#[]⟩,zl _,rfl,rfl,HJ0.out.symm,Br _ _⟩
    case round=>
     obtain ⟨k,S,hk,rfl,rfl,hS,hbel⟩:=hrel;have HBL:=Hd hbel;have HS:=Hd hS;have hszr:=hbel.size;obtain ⟨kr0,kr1,kr2,kr3⟩:=HXX.out wr hbel;have hwwr:w.heap.size<wr.heap.size:=by omega
     clear kr1 kr2
     by_cases hlt:k<n
     · obtain ⟨kd,hkd⟩:∃ kd,t.kids[k]?=some kd:=⟨_,gG (by have:=HN.out;omega)⟩;have hmem:kd∈t.kids:=mG hkd;have hkN:=(HSZ.out kd hmem).1;have hkS:=(HSZ.out kd hmem).2;have hkO:=HOK.out kd hmem
       rcases HV1.out.kids with h9 | ⟨g,off,rfl,hg,hrow⟩
       · rw [h9] at hkd;simp at hkd
       have hat:=(hrow.get hkd).below hbel rfl hg;obtain ⟨q0,q1,q2,A2,c2,q3,hV2⟩:=hat.open;have hgw:g<wr.heap.size:=by omega
       obtain ⟨n2,hn2⟩:=ex_ kd.kids.length;rw [←hn2] at q3;have e1:off+4*k=off+k*4:=by omega
       rw [e1] at q0 q1 q2 q3;obtain ⟨rk,hrk⟩:=ex_ (asksN t.op k);have hfirst:=asks_first (op:=t.op) (i:=k) (by omega);have hasle:asksN t.op k≤8:=by rw [hfirst];refine asks_le0 _ _ ?_;split <;> omega
       have HSD0:=rside_any t.op (decide (k=0));have hk0i:(0:Int)≤(k:Int):=by omega
       have hk1:(k:Int)<(n:Int):=by omega
       have HLT:=Hd hlt;clear hat hrow hmem e1 hbel hS
       by_cases hk0:k=0
       · have HSD:Hid (∀ W,Calls Tryz.prog 192 #[.int .i64 t.op,.bool true] W fun e w'=>e=.returned (.int .i64 ((rk:Int)+1))∧w'=W):=fun W=>by
          have h:=HSD0 W h6 h17;rw [←hfirst,←hrk,decide_eq_true hk0] at h;exact h.mono fun _ _ h=>⟨h.1,h.2.symm⟩
         clear HSD0 hfirst;subst hk0;have hka:(0:Nat)*4=0:=by omega
         rw [hka,Nat.add_zero] at q0 q1 q2 q3;obtain ⟨e1,he1⟩:=ex_ ((false && decide (0+1=n)))
         have hB:(!e1)=true:=by
          rw [he1]
          rfl
         have HJ:Hid (shwJoin numS t.op (t.kids.drop 0) 0 false=[]++shw numS kd rk e1++shwJoin numS t.op (t.kids.drop (0+1)) (0+1) false):=by
          show _=_;rw [join_drop hkd,iP rfl,←HN.out,←he1,hrk]
         obtain ⟨T,hT⟩:∃ T:ByteArray,T=⟨(shw numS kd rk e1).toArray⟩:=⟨_,rfl⟩
         have HC:Hid (∀ W,Below wr.heap.size wr W→Calls Tryz.prog 152 #[.agg #[.int .i64 kd.op,.int .i64 kd.num,.string kd.name,.slice A2 n2 c2],.int .i64 ((rk:Int)+1),.bool (true)] W fun e w'=>e=.returned (.string T)∧Below W.heap.size W w'):=fun W hb=>by
          have hih:=HH.out kd rk e1 (d+1) A2 c2 W hkN hkS (by rw [hrk];exact hasle) hkO (hV2.below hb rfl);unfold Tm.val at hih;rw [←hn2,hB] at hih;rw [hT];exact hih
         obtain ⟨S2,hS2⟩:∃ S2:ByteArray,S2=S++T:=⟨_,rfl⟩
         have HSW:Hid (bs S2++shwJoin numS t.op (t.kids.drop (0+1)) (0+1) false=J):=by
          show _=_;rw [←HS.out,HJ.out,hS2,bs_app,hT];simp [bs]
         have hz2:S2.size≤J.length:=by
          rw [←HSW.out,List.length_append];show (bs S2).length≤_;omega
         have hcat:=rle_run hS2 (by rw [←bA,←hS2];omega);clear he1 hB hT hS2 hz2 hkd hn2 hV2 hrk hasle;go_wp2_with fail;have hbd:Below wr.heap.size wr wr.drew:=(Br _ _).drew;refine wp_region_held_drew (S:=(fun w'=>(∀ o,w'.cell? ⟨w.heap.size,o,none⟩=wr.cell? ⟨w.heap.size,o,none⟩)∧(∀ o,w'.cell? ⟨g,o,none⟩=wr.cell? ⟨g,o,none⟩)∧Below wr.heap.size wr w')) (by kernel_rfl) (⟨keep_cells (by assumption) hwwr,keep_cells (by assumption) hgw,by assumption⟩) (fun hHeld=>?_);refine tkH 0 (v:=?_) (tLRefD rfl) (Or.inl ⟨by rfl,?hy⟩) (by assumption) ?_
         case hy=>intro w0 hSw;(try dsimp only at hSw);go_simp;(first | done | with_reducible rfl)
         (try simp only [Act.put,sAr,sZe,sSu]);refine tkH 1 (v:=?_) (tLRefD rfl) (Or.inl ⟨by rfl,?hy⟩) (by assumption) ?_
         case hy=>intro w0 hSw;(try dsimp only at hSw);go_simp;(first | done | with_reducible rfl)
         (try simp only [Act.put,sAr,sZe,sSu]);refine tkH 2 (v:=?_) (tLRefD rfl) (Or.inl ⟨by rfl,?hy⟩) (by assumption) ?_
         case hy=>intro w0 hSw;(try dsimp only at hSw);go_simp;(first | done | with_reducible rfl)
         (try simp only [Act.put,sAr,sZe,sSu]);refine tkH 3 (v:=?_) (tLRefD rfl) (Or.inl ⟨by rfl,?hy⟩) (by assumption) ?_
         case hy=>intro w0 hSw;(try dsimp only at hSw);go_simp;(first | done | with_reducible rfl)
         (try simp only [Act.put,sAr,sZe,sSu]);refine tkH 4 (v:=?_) (tLRefD rfl) (Or.inl ⟨by rfl,?hy⟩) (by assumption) ?_
         case hy=>intro w0 hSw;(try dsimp only at hSw);go_simp;(first | done | with_reducible rfl)
         (try simp only [Act.put,sAr,sZe,sSu]);refine tkH 5 (v:=?_) (tLRefD rfl) (Or.inl ⟨by rfl,?hy⟩) (by assumption) ?_
         case hy=>intro w0 hSw;(try dsimp only at hSw);go_simp;(first | done | with_reducible rfl)
         (try simp only [Act.put,sAr,sZe,sSu]);refine tkH 6 (v:=?_) (tLRefD rfl) (Or.inl ⟨by rfl,?hy⟩) (by assumption) ?_
         case hy=>intro w0 hSw;(try dsimp only at hSw);go_simp;(first | done | with_reducible rfl)
         (try simp only [Act.put,sAr,sZe,sSu]);refine tkH 7 (v:=?_) (tLRefD rfl) (Or.inl ⟨by rfl,?hy⟩) (by assumption) ?_
         case hy=>intro w0 hSw;(try dsimp only at hSw);go_simp;(first | done | with_reducible rfl)
         (try simp only [Act.put,sAr,sZe,sSu]);refine tkH 8 (v:=?_) (tLRefD rfl) (Or.inl ⟨by rfl,?hy⟩) (by assumption) ?_
         case hy=>intro w0 hSw;(try dsimp only at hSw);go_simp;(first | done | with_reducible rfl)
         (try simp only [Act.put,sAr,sZe,sSu]);refine tkH 9 (v:=?_) (tLRefD rfl) (Or.inl ⟨by rfl,?hy⟩) (by assumption) ?_
         case hy=>intro w0 hSw;(try dsimp only at hSw);go_simp;(first | done | with_reducible rfl)
         (try simp only [Act.put,sAr,sZe,sSu]);refine tkH 11 (v:=?_) (tLRefD rfl) (Or.inl ⟨by rfl,?hy⟩) (by assumption) ?_
         case hy=>intro w0 hSw;(try dsimp only at hSw);go_simp;(first | done | with_reducible rfl)
         (try simp only [Act.put,sAr,sZe,sSu]);refine Rd (rs:=[10]) (by kernel_rfl) (by simp) ?_;refine Rc (tLRefD rfl) (fun K hK=>?_) Rn;go_simp
         (go_at_call 192;with_reducible refine (HSD.out _).mono ?_;rintro e w5 ⟨rfl,hw5⟩;rw [hw5];clear hw5)
         (try go_wp2_with fail);refine hK.out _ _ (⟨keep_cells (by assumption) hwwr,keep_cells (by assumption) hgw,by assumption⟩) (fun hHeld=>?_);clear hK K;(try simp only [Act.put,sAr,sZe,sSu]);refine tkH 12 (v:=?_) (tLRefD rfl) (Or.inl ⟨by rfl,?hy⟩) (by assumption) ?_
         case hy=>intro w0 hSw;(try dsimp only at hSw);go_simp;(first | done | with_reducible rfl)
         (try simp only [Act.put, sAr, sZe, sSu]);refine wpAnyH_take (i := 13) (oi := { dst := some 92, op := Op.move (Operand.tmp 8), type := 3, pos := "ref.go:354", after := #[{ on := 12, ground := Ground.guard }], guard := some (12, false) }) (v := undef) rfl (by kernel_rfl) (by kernel_rfl) (by kernel_rfl) (fun _ _ _ h => h) (Or.inr ⟨by rfl, rfl⟩) (by assumption) ?_;(try simp only [Act.put, sAr, sZe, sSu]);refine wpAnyH_take (i := 14) (oi := { dst := some 93, op := Op.binOp BinOp.add 3 (Operand.tmp 92) (Operand.const (Value.int IntKind.i64 1)) 3, type := 3, pos := "ref.go:354", after := #[{ on := 13, ground := Ground.data }, { on := 12, ground := Ground.guard }], guard := some (12, false) }) (v := undef) rfl (by kernel_rfl) (by kernel_rfl) (by kernel_rfl) (fun _ _ _ h => h) (Or.inr ⟨by rfl, rfl⟩) (by assumption) ?_;(try simp only [Act.put, sAr, sZe, sSu]);refine wpAnyH_take (i := 15) (oi := { dst := some 94, op := Op.fieldAddr 25 (Operand.tmp 3) 3, type := 0, pos := "ref.go:354", after := #[{ on := 12, ground := Ground.guard }], guard := some (12, false) }) (v := undef) rfl (by kernel_rfl) (by kernel_rfl) (by kernel_rfl) (fun _ _ _ h => h) (Or.inr ⟨by rfl, rfl⟩) (by assumption) ?_;try simp only [Act.put, sAr, sZe, sSu]
         refine wpAnyH_take (i := 16) (oi := { dst := some 95, op := Op.load 23 (Operand.tmp 94), type := 23, pos := "ref.go:354", after := #[{ on := 15, ground := Ground.data }, { on := 12, ground := Ground.guard }], guard := some (12, false) }) (v := undef) rfl (by kernel_rfl) (by kernel_rfl) (by kernel_rfl) (fun _ _ _ h => h) (Or.inr ⟨by rfl, rfl⟩) (by assumption) ?_;(try simp only [Act.put, sAr, sZe, sSu]);refine wpAnyH_take (i := 17) (oi := { dst := some 96, op := Op.call { callee := Callee.builtin Builtin.len, args := #[Operand.tmp 95], argTypes := #[23] }, type := 3, pos := "ref.go:354", after := #[{ on := 16, ground := Ground.data }, { on := 12, ground := Ground.guard }], guard := some (12, false) }) (v := undef) rfl (by kernel_rfl) (by kernel_rfl) (by kernel_rfl) (fun _ _ _ h => h) (Or.inr ⟨by rfl, rfl⟩) (by assumption) ?_;(try simp only [Act.put, sAr, sZe, sSu]);refine wpAnyH_take (i := 18) (oi := { dst := some 97, op := Op.binOp BinOp.lss 3 (Operand.tmp 93) (Operand.tmp 96) 3, type := 4, pos := "ref.go:354", after := #[{ on := 14, ground := Ground.data }, { on := 17, ground := Ground.data }, { on := 12, ground := Ground.guard }], guard := some (12, false) }) (v := undef) rfl (by kernel_rfl) (by kernel_rfl) (by kernel_rfl) (fun _ _ _ h => h) (Or.inr ⟨by rfl, rfl⟩) (by assumption) ?_;(try simp only [Act.put, sAr, sZe, sSu]);refine tkH 19 (v := ?_) (tLRefD rfl) (Or.inl ⟨by rfl, ?hy⟩) (by assumption) ?_
         case hy=>intro w0 hSw;(try dsimp only at hSw);go_simp;(first | done | with_reducible rfl)
         (try simp only [Act.put,sAr,sZe,sSu]);refine Rd (rs:=[20]) (by kernel_rfl) (by simp) ?_;refine Rc (tLRefD rfl) (fun K hK=>?_) Rn;go_simp
         (go_at_call 152;with_reducible refine (HC.out _ (by assumption)).mono ?_;rintro e w5 ⟨rfl,hb5⟩;have hk5:=keep_step (by assumption) hb5)
         (try go_wp2_with fail);refine hK.out _ _ (⟨keep_cells (by assumption) hwwr,keep_cells (by assumption) hgw,by assumption⟩) (fun hHeld=>?_);clear hK K;(try simp only [Act.put,sAr,sZe,sSu]);refine tkH 21 (v:=?_) (tLRefD rfl) (Or.inl ⟨by rfl,?hy⟩) (by assumption) ?_
         case hy=>intro w0 hSw;(try dsimp only at hSw);go_simp;(first | done | with_reducible rfl)
         (try simp only [Act.put,sAr,sZe,sSu]);refine tkH 22 (v:=?_) (tLRefD rfl) (Or.inl ⟨by rfl,?hy⟩) (by assumption) ?_
         case hy=>intro w0 hSw;(try dsimp only at hSw);go_simp;(first | done | with_reducible rfl)
         (try simp only [Act.put,sAr,sZe,sSu]);refine wpAnyH_done (by kernel_rfl) ?_ _;have HB5:Hid (Below w1.heap.size w1 w5):=HBL.out.trans (hk5.mono hszr);clear hk5 hb5 q0 q1 q2 q3 kr0 kr3;go_wp2_with fail
         go_roundw
         case rel=>exact ⟨0+1,S2,by omega,rfl,by go_num,HSW.out,HB5.out⟩
         case measure=>simp [intOf];omega
       · have HSD:Hid (∀ W,Calls Tryz.prog 192 #[.int .i64 t.op,.bool false] W fun e w'=>e=.returned (.int .i64 ((rk:Int)+1))∧w'=W):=fun W=>by
          have h:=HSD0 W h6 h17;rw [←hfirst,←hrk,dF hk0] at h;exact h.mono fun _ _ h=>⟨h.1,h.2.symm⟩
         have hkb:((k:Int) == 0)=false:=by simp;omega
         have hkp:(0:Int)<(k:Int):=by omega
         have HBT:=Hd (rbetween_any t.op wr h6 h17);obtain ⟨B,hB0⟩:∃ B:ByteArray,B=⟨(betw t.op).toArray⟩:=⟨_,rfl⟩;rw [←hB0] at HBT;have hBz:B.size≤5:=by rw [hB0,bsz''];unfold betw;have:=signB_len t.op;simp;omega
         have hSz:S.size≤J.length:=by
          rw [←HS.out,List.length_append];show (bs S).length≤_;omega
         obtain ⟨S0,hS0⟩:∃ S0:ByteArray,S0=S++B:=⟨_,rfl⟩;have hcat0:=rle_run hS0 (by omega);rw [hB0] at hS0;clear HSD0 hfirst hB0;go_wp2_with fail;refine (HBT.out).mono ?_;rintro e wm ⟨rfl,hbm⟩;have HBM:=Hd (HBL.out.trans (hbm.mono hszr));have hszm:=HBM.out.size;have qm0:=q0;have qm1:=q1;have qm2:=q2;have qm3:=q3;rw [←hbm.cell (p:=⟨g,_,none⟩) hgw] at qm0 qm1 qm2 qm3;clear kr0 kr3;obtain ⟨kr0,kr1,kr2,kr3⟩:=HXX.out wm HBM.out;have hgm:g<wm.heap.size:=by have:=hbm.size;omega
         have hwwm:w.heap.size<wm.heap.size:=by have:=hbm.size;omega
         clear kr1 kr2;obtain ⟨e1,he1⟩:=ex_ ((false && decide (k+1=n)))
         have hB:(!e1)=true:=by
          rw [he1]
          rfl
         have HJ:Hid (shwJoin numS t.op (t.kids.drop k) k false=betw t.op++shw numS kd rk e1++shwJoin numS t.op (t.kids.drop (k+1)) (k+1) false):=by
          show _=_;rw [join_drop hkd,iN hk0,←HN.out,←he1,hrk]
         obtain ⟨T,hT⟩:∃ T:ByteArray,T=⟨(shw numS kd rk e1).toArray⟩:=⟨_,rfl⟩
         have HC:Hid (∀ W,Below wm.heap.size wm W→Calls Tryz.prog 152 #[.agg #[.int .i64 kd.op,.int .i64 kd.num,.string kd.name,.slice A2 n2 c2],.int .i64 ((rk:Int)+1),.bool (true)] W fun e w'=>e=.returned (.string T)∧Below W.heap.size W w'):=fun W hb=>by
          have hih:=HH.out kd rk e1 (d+1) A2 c2 W hkN hkS (by rw [hrk];exact hasle) hkO ((hV2.below hbm rfl).below hb rfl);unfold Tm.val at hih;rw [←hn2,hB] at hih;rw [hT];exact hih
         obtain ⟨S2,hS2⟩:∃ S2:ByteArray,S2=S0++T:=⟨_,rfl⟩
         have HSW:Hid (bs S2++shwJoin numS t.op (t.kids.drop (k+1)) (k+1) false=J):=by
          show _=_;rw [←HS.out,HJ.out,hS2,bs_app,hT,hS0,bs_app];simp [bs]
         have hz2:S2.size≤J.length:=by
          rw [←HSW.out,List.length_append];show (bs S2).length≤_;omega
         have hcat:=rle_run hS2 (by rw [←bA,←hS2];omega);clear he1 hB hT hS2 hz2 hkd hn2 hV2 hrk hasle hS0 q0 q1 q2 q3;have q0:=qm0;have q1:=qm1;have q2:=qm2;have q3:=qm3;clear qm0 qm1 qm2 qm3;go_wp2_with fail;have hbd:Below wm.heap.size wm wm.drew:=(Br _ _).drew;refine wp_region_held_drew (S:=(fun w'=>(∀ o,w'.cell? ⟨w.heap.size,o,none⟩=wm.cell? ⟨w.heap.size,o,none⟩)∧(∀ o,w'.cell? ⟨g,o,none⟩=wm.cell? ⟨g,o,none⟩)∧Below wm.heap.size wm w')) (by kernel_rfl) (⟨keep_cells (by assumption) hwwm,keep_cells (by assumption) hgm,by assumption⟩) (fun hHeld=>?_);refine tkH 0 (v:=?_) (tLRefD rfl) (Or.inl ⟨by rfl,?hy⟩) (by assumption) ?_
         case hy=>intro w0 hSw;(try dsimp only at hSw);go_simp;(first | done | with_reducible rfl)
         (try simp only [Act.put,sAr,sZe,sSu]);refine tkH 1 (v:=?_) (tLRefD rfl) (Or.inl ⟨by rfl,?hy⟩) (by assumption) ?_
         case hy=>intro w0 hSw;(try dsimp only at hSw);go_simp;(first | done | with_reducible rfl)
         (try simp only [Act.put,sAr,sZe,sSu]);refine tkH 2 (v:=?_) (tLRefD rfl) (Or.inl ⟨by rfl,?hy⟩) (by assumption) ?_
         case hy=>intro w0 hSw;(try dsimp only at hSw);go_simp;(first | done | with_reducible rfl)
         (try simp only [Act.put,sAr,sZe,sSu]);refine tkH 3 (v:=?_) (tLRefD rfl) (Or.inl ⟨by rfl,?hy⟩) (by assumption) ?_
         case hy=>intro w0 hSw;(try dsimp only at hSw);go_simp;(first | done | with_reducible rfl)
         (try simp only [Act.put,sAr,sZe,sSu]);refine tkH 4 (v:=?_) (tLRefD rfl) (Or.inl ⟨by rfl,?hy⟩) (by assumption) ?_
         case hy=>intro w0 hSw;(try dsimp only at hSw);go_simp;(first | done | with_reducible rfl)
         (try simp only [Act.put,sAr,sZe,sSu]);refine tkH 5 (v:=?_) (tLRefD rfl) (Or.inl ⟨by rfl,?hy⟩) (by assumption) ?_
         case hy=>intro w0 hSw;(try dsimp only at hSw);go_simp;(first | done | with_reducible rfl)
         (try simp only [Act.put,sAr,sZe,sSu]);refine tkH 6 (v:=?_) (tLRefD rfl) (Or.inl ⟨by rfl,?hy⟩) (by assumption) ?_
         case hy=>intro w0 hSw;(try dsimp only at hSw);go_simp;(first | done | with_reducible rfl)
         (try simp only [Act.put,sAr,sZe,sSu]);refine tkH 7 (v:=?_) (tLRefD rfl) (Or.inl ⟨by rfl,?hy⟩) (by assumption) ?_
         case hy=>intro w0 hSw;(try dsimp only at hSw);go_simp;(first | done | with_reducible rfl)
         (try simp only [Act.put,sAr,sZe,sSu]);refine tkH 8 (v:=?_) (tLRefD rfl) (Or.inl ⟨by rfl,?hy⟩) (by assumption) ?_
         case hy=>intro w0 hSw;(try dsimp only at hSw);go_simp;(first | done | with_reducible rfl)
         (try simp only [Act.put,sAr,sZe,sSu]);refine tkH 9 (v:=?_) (tLRefD rfl) (Or.inl ⟨by rfl,?hy⟩) (by assumption) ?_
         case hy=>intro w0 hSw;(try dsimp only at hSw);go_simp;(first | done | with_reducible rfl)
         (try simp only [Act.put,sAr,sZe,sSu]);refine tkH 11 (v:=?_) (tLRefD rfl) (Or.inl ⟨by rfl,?hy⟩) (by assumption) ?_
         case hy=>intro w0 hSw;(try dsimp only at hSw);go_simp;(first | done | with_reducible rfl)
         (try simp only [Act.put,sAr,sZe,sSu]);refine Rd (rs:=[10]) (by kernel_rfl) (by simp) ?_;refine Rc (tLRefD rfl) (fun K hK=>?_) Rn;go_simp
         (go_at_call 192;with_reducible refine (HSD.out _).mono ?_;rintro e w5 ⟨rfl,hw5⟩;rw [hw5];clear hw5)
         (try go_wp2_with fail);refine hK.out _ _ (⟨keep_cells (by assumption) hwwm,keep_cells (by assumption) hgm,by assumption⟩) (fun hHeld=>?_);clear hK K;(try simp only [Act.put,sAr,sZe,sSu]);refine tkH 12 (v:=?_) (tLRefD rfl) (Or.inl ⟨by rfl,?hy⟩) (by assumption) ?_
         case hy=>intro w0 hSw;(try dsimp only at hSw);go_simp;(first | done | with_reducible rfl)
         (try simp only [Act.put, sAr, sZe, sSu]);refine wpAnyH_take (i := 13) (oi := { dst := some 92, op := Op.move (Operand.tmp 8), type := 3, pos := "ref.go:354", after := #[{ on := 12, ground := Ground.guard }], guard := some (12, false) }) (v := undef) rfl (by kernel_rfl) (by kernel_rfl) (by kernel_rfl) (fun _ _ _ h => h) (Or.inr ⟨by rfl, rfl⟩) (by assumption) ?_;(try simp only [Act.put, sAr, sZe, sSu]);refine wpAnyH_take (i := 14) (oi := { dst := some 93, op := Op.binOp BinOp.add 3 (Operand.tmp 92) (Operand.const (Value.int IntKind.i64 1)) 3, type := 3, pos := "ref.go:354", after := #[{ on := 13, ground := Ground.data }, { on := 12, ground := Ground.guard }], guard := some (12, false) }) (v := undef) rfl (by kernel_rfl) (by kernel_rfl) (by kernel_rfl) (fun _ _ _ h => h) (Or.inr ⟨by rfl, rfl⟩) (by assumption) ?_;(try simp only [Act.put, sAr, sZe, sSu]);refine wpAnyH_take (i := 15) (oi := { dst := some 94, op := Op.fieldAddr 25 (Operand.tmp 3) 3, type := 0, pos := "ref.go:354", after := #[{ on := 12, ground := Ground.guard }], guard := some (12, false) }) (v := undef) rfl (by kernel_rfl) (by kernel_rfl) (by kernel_rfl) (fun _ _ _ h => h) (Or.inr ⟨by rfl, rfl⟩) (by assumption) ?_;try simp only [Act.put, sAr, sZe, sSu]
         refine wpAnyH_take (i := 16) (oi := { dst := some 95, op := Op.load 23 (Operand.tmp 94), type := 23, pos := "ref.go:354", after := #[{ on := 15, ground := Ground.data }, { on := 12, ground := Ground.guard }], guard := some (12, false) }) (v := undef) rfl (by kernel_rfl) (by kernel_rfl) (by kernel_rfl) (fun _ _ _ h => h) (Or.inr ⟨by rfl, rfl⟩) (by assumption) ?_;(try simp only [Act.put, sAr, sZe, sSu]);refine wpAnyH_take (i := 17) (oi := { dst := some 96, op := Op.call { callee := Callee.builtin Builtin.len, args := #[Operand.tmp 95], argTypes := #[23] }, type := 3, pos := "ref.go:354", after := #[{ on := 16, ground := Ground.data }, { on := 12, ground := Ground.guard }], guard := some (12, false) }) (v := undef) rfl (by kernel_rfl) (by kernel_rfl) (by kernel_rfl) (fun _ _ _ h => h) (Or.inr ⟨by rfl, rfl⟩) (by assumption) ?_;(try simp only [Act.put, sAr, sZe, sSu]);refine wpAnyH_take (i := 18) (oi := { dst := some 97, op := Op.binOp BinOp.lss 3 (Operand.tmp 93) (Operand.tmp 96) 3, type := 4, pos := "ref.go:354", after := #[{ on := 14, ground := Ground.data }, { on := 17, ground := Ground.data }, { on := 12, ground := Ground.guard }], guard := some (12, false) }) (v := undef) rfl (by kernel_rfl) (by kernel_rfl) (by kernel_rfl) (fun _ _ _ h => h) (Or.inr ⟨by rfl, rfl⟩) (by assumption) ?_;(try simp only [Act.put, sAr, sZe, sSu]);refine tkH 19 (v := ?_) (tLRefD rfl) (Or.inl ⟨by rfl, ?hy⟩) (by assumption) ?_
         case hy=>intro w0 hSw;(try dsimp only at hSw);go_simp;(first | done | with_reducible rfl)
         (try simp only [Act.put,sAr,sZe,sSu]);refine Rd (rs:=[20]) (by kernel_rfl) (by simp) ?_;refine Rc (tLRefD rfl) (fun K hK=>?_) Rn;go_simp
         (go_at_call 152;with_reducible refine (HC.out _ (by assumption)).mono ?_;rintro e w5 ⟨rfl,hb5⟩;have hk5:=keep_step (by assumption) hb5)
         (try go_wp2_with fail);refine hK.out _ _ (⟨keep_cells (by assumption) hwwm,keep_cells (by assumption) hgm,by assumption⟩) (fun hHeld=>?_);clear hK K;(try simp only [Act.put,sAr,sZe,sSu]);refine tkH 21 (v:=?_) (tLRefD rfl) (Or.inl ⟨by rfl,?hy⟩) (by assumption) ?_
         case hy=>intro w0 hSw;(try dsimp only at hSw);go_simp;(first | done | with_reducible rfl)
         (try simp only [Act.put,sAr,sZe,sSu]);refine tkH 22 (v:=?_) (tLRefD rfl) (Or.inl ⟨by rfl,?hy⟩) (by assumption) ?_
         case hy=>intro w0 hSw;(try dsimp only at hSw);go_simp;(first | done | with_reducible rfl)
         (try simp only [Act.put,sAr,sZe,sSu]);refine wpAnyH_done (by kernel_rfl) ?_ _;have HB5:Hid (Below w1.heap.size w1 w5):=HBM.out.trans (hk5.mono hszm);clear hk5 hb5 q0 q1 q2 q3 kr0 kr3;go_wp2_with fail
         go_roundw
         case rel=>exact ⟨k+1,S2,by omega,rfl,by go_num,HSW.out,HB5.out⟩
         case measure=>simp [intOf];omega
     · have hkn:k=n:=by omega
       have HE:Hid (bs S=J):=by
        show _=_;have h:=HS.out;rw [List.drop_eq_nil_of_le (by have:=HN.out;omega)] at h
        simpa [shwJoin] using h
       have hk1:¬(k:Int)<(n:Int):=by omega
       have HBE:=Hd (HB1.out.trans (hbel.mono (by omega)));clear hlt hbel hS hkn;go_wp2_with fail;rw [HF.out];exact ⟨by rw [HRB.out,←HJ1.out,←HE.out];rfl,HBE.out⟩
   | true=>
    clear h18;go_enter Tryz.func152,Tryz.ntmps152;go_wp2_with fail;rw [←HW1.out];refine (HST.out).mono ?_;rintro e w2 ⟨rfl,hw⟩;rw [←hw];clear hw;go_wp2_with fail
    go_loopw [7,8] (fun sv si wr=>∃ (k:Nat) (S:ByteArray),k≤n∧sv=.string S∧si=.int .i64 k∧bs S++shwJoin numS t.op (t.kids.drop k) k true=J∧Below w1.heap.size w1 wr) (fun _ i _=>n - (intOf i).toNat)
    case atStart=>exact ⟨0,⟨#[]⟩,zl _,rfl,rfl,HJ0.out.symm,Br _ _⟩
    case round=>
     obtain ⟨k,S,hk,rfl,rfl,hS,hbel⟩:=hrel;have HBL:=Hd hbel;have HS:=Hd hS;have hszr:=hbel.size;obtain ⟨kr0,kr1,kr2,kr3⟩:=HXX.out wr hbel;have hwwr:w.heap.size<wr.heap.size:=by omega
     clear kr1 kr2
     by_cases hlt:k<n
     · obtain ⟨kd,hkd⟩:∃ kd,t.kids[k]?=some kd:=⟨_,gG (by have:=HN.out;omega)⟩;have hmem:kd∈t.kids:=mG hkd;have hkN:=(HSZ.out kd hmem).1;have hkS:=(HSZ.out kd hmem).2;have hkO:=HOK.out kd hmem
       rcases HV1.out.kids with h9 | ⟨g,off,rfl,hg,hrow⟩
       · rw [h9] at hkd;simp at hkd
       have hat:=(hrow.get hkd).below hbel rfl hg;obtain ⟨q0,q1,q2,A2,c2,q3,hV2⟩:=hat.open;have hgw:g<wr.heap.size:=by omega
       obtain ⟨n2,hn2⟩:=ex_ kd.kids.length;rw [←hn2] at q3;have e1:off+4*k=off+k*4:=by omega
       rw [e1] at q0 q1 q2 q3;obtain ⟨rk,hrk⟩:=ex_ (asksN t.op k);have hfirst:=asks_first (op:=t.op) (i:=k) (by omega);have hasle:asksN t.op k≤8:=by rw [hfirst];refine asks_le0 _ _ ?_;split <;> omega
       have HSD0:=rside_any t.op (decide (k=0));have hk0i:(0:Int)≤(k:Int):=by omega
       have hk1:(k:Int)<(n:Int):=by omega
       have HLT:=Hd hlt;clear hat hrow hmem e1 hbel hS
       by_cases hk0:k=0
       · have HSD:Hid (∀ W,Calls Tryz.prog 192 #[.int .i64 t.op,.bool true] W fun e w'=>e=.returned (.int .i64 ((rk:Int)+1))∧w'=W):=fun W=>by
          have h:=HSD0 W h6 h17;rw [←hfirst,←hrk,decide_eq_true hk0] at h;exact h.mono fun _ _ h=>⟨h.1,h.2.symm⟩
         clear HSD0 hfirst;subst hk0;have hka:(0:Nat)*4=0:=by omega
         rw [hka,Nat.add_zero] at q0 q1 q2 q3;obtain ⟨e1,he1⟩:=ex_ ((true && decide (0+1=n)))
         have hB:(!e1)=decide ((1:Int)<(n:Int)):=by
          rw [he1];rw [Bool.true_and,Bool.eq_iff_iff];simp;omega
         have HJ:Hid (shwJoin numS t.op (t.kids.drop 0) 0 true=[]++shw numS kd rk e1++shwJoin numS t.op (t.kids.drop (0+1)) (0+1) true):=by
          show _=_;rw [join_drop hkd,iP rfl,←HN.out,←he1,hrk]
         obtain ⟨T,hT⟩:∃ T:ByteArray,T=⟨(shw numS kd rk e1).toArray⟩:=⟨_,rfl⟩
         have HC:Hid (∀ W,Below wr.heap.size wr W→Calls Tryz.prog 152 #[.agg #[.int .i64 kd.op,.int .i64 kd.num,.string kd.name,.slice A2 n2 c2],.int .i64 ((rk:Int)+1),.bool (decide ((1:Int)<(n:Int)))] W fun e w'=>e=.returned (.string T)∧Below W.heap.size W w'):=fun W hb=>by
          have hih:=HH.out kd rk e1 (d+1) A2 c2 W hkN hkS (by rw [hrk];exact hasle) hkO (hV2.below hb rfl);unfold Tm.val at hih;rw [←hn2,hB] at hih;rw [hT];exact hih
         obtain ⟨S2,hS2⟩:∃ S2:ByteArray,S2=S++T:=⟨_,rfl⟩
         have HSW:Hid (bs S2++shwJoin numS t.op (t.kids.drop (0+1)) (0+1) true=J):=by
          show _=_;rw [←HS.out,HJ.out,hS2,bs_app,hT];simp [bs]
         have hz2:S2.size≤J.length:=by
          rw [←HSW.out,List.length_append];show (bs S2).length≤_;omega
         have hcat:=rle_run hS2 (by rw [←bA,←hS2];omega);clear he1 hB hT hS2 hz2 hkd hn2 hV2 hrk hasle;go_wp2_with fail;have hbd:Below wr.heap.size wr wr.drew:=(Br _ _).drew;have hsum:IntKind.i64.wrap 1=1:=IntWalk.i64_in _ (by omega)
         go_region_held3 (fun w'=>(∀ o,w'.cell? ⟨w.heap.size,o,none⟩=wr.cell? ⟨w.heap.size,o,none⟩)∧(∀ o,w'.cell? ⟨g,o,none⟩=wr.cell? ⟨g,o,none⟩)∧Below wr.heap.size wr w')
          (first | (exact ⟨keep_cells (by assumption) hwwr,keep_cells (by assumption) hgw,by assumption⟩) | fail)
          (first | (go_at_call 192;with_reducible refine (HSD.out _).mono ?_;rintro e w5 ⟨rfl,hw5⟩;rw [hw5];clear hw5) | (go_at_call 152;with_reducible refine (HC.out _ (by assumption)).mono ?_;rintro e w5 ⟨rfl,hb5⟩;have hk5:=keep_step (by assumption) hb5) | fail)
         have HB5:Hid (Below w1.heap.size w1 w5):=HBL.out.trans (hk5.mono hszr);clear hk5 hb5 q0 q1 q2 q3 kr0 kr3;go_wp2_with fail
         go_roundw
         case rel=>exact ⟨0+1,S2,by omega,rfl,by go_num,HSW.out,HB5.out⟩
         case measure=>simp [intOf];omega
       · have HSD:Hid (∀ W,Calls Tryz.prog 192 #[.int .i64 t.op,.bool false] W fun e w'=>e=.returned (.int .i64 ((rk:Int)+1))∧w'=W):=fun W=>by
          have h:=HSD0 W h6 h17;rw [←hfirst,←hrk,dF hk0] at h;exact h.mono fun _ _ h=>⟨h.1,h.2.symm⟩
         have hkb:((k:Int) == 0)=false:=by simp;omega
         have hkp:(0:Int)<(k:Int):=by omega
         have HBT:=Hd (rbetween_any t.op wr h6 h17);obtain ⟨B,hB0⟩:∃ B:ByteArray,B=⟨(betw t.op).toArray⟩:=⟨_,rfl⟩;rw [←hB0] at HBT;have hBz:B.size≤5:=by rw [hB0,bsz''];unfold betw;have:=signB_len t.op;simp;omega
         have hSz:S.size≤J.length:=by
          rw [←HS.out,List.length_append];show (bs S).length≤_;omega
         obtain ⟨S0,hS0⟩:∃ S0:ByteArray,S0=S++B:=⟨_,rfl⟩;have hcat0:=rle_run hS0 (by omega);rw [hB0] at hS0;clear HSD0 hfirst hB0;go_wp2_with fail;refine (HBT.out).mono ?_;rintro e wm ⟨rfl,hbm⟩;have HBM:=Hd (HBL.out.trans (hbm.mono hszr));have hszm:=HBM.out.size;have qm0:=q0;have qm1:=q1;have qm2:=q2;have qm3:=q3;rw [←hbm.cell (p:=⟨g,_,none⟩) hgw] at qm0 qm1 qm2 qm3;clear kr0 kr3;obtain ⟨kr0,kr1,kr2,kr3⟩:=HXX.out wm HBM.out;have hgm:g<wm.heap.size:=by have:=hbm.size;omega
         have hwwm:w.heap.size<wm.heap.size:=by have:=hbm.size;omega
         clear kr1 kr2;obtain ⟨e1,he1⟩:=ex_ ((true && decide (k+1=n)))
         have hB:(!e1)=decide (((k:Int)+1:Int)<(n:Int)):=by
          rw [he1];rw [Bool.true_and,Bool.eq_iff_iff];simp;omega
         have HJ:Hid (shwJoin numS t.op (t.kids.drop k) k true=betw t.op++shw numS kd rk e1++shwJoin numS t.op (t.kids.drop (k+1)) (k+1) true):=by
          show _=_;rw [join_drop hkd,iN hk0,←HN.out,←he1,hrk]
         obtain ⟨T,hT⟩:∃ T:ByteArray,T=⟨(shw numS kd rk e1).toArray⟩:=⟨_,rfl⟩
         have HC:Hid (∀ W,Below wm.heap.size wm W→Calls Tryz.prog 152 #[.agg #[.int .i64 kd.op,.int .i64 kd.num,.string kd.name,.slice A2 n2 c2],.int .i64 ((rk:Int)+1),.bool (decide (((k:Int)+1:Int)<(n:Int)))] W fun e w'=>e=.returned (.string T)∧Below W.heap.size W w'):=fun W hb=>by
          have hih:=HH.out kd rk e1 (d+1) A2 c2 W hkN hkS (by rw [hrk];exact hasle) hkO ((hV2.below hbm rfl).below hb rfl);unfold Tm.val at hih;rw [←hn2,hB] at hih;rw [hT];exact hih
         obtain ⟨S2,hS2⟩:∃ S2:ByteArray,S2=S0++T:=⟨_,rfl⟩
         have HSW:Hid (bs S2++shwJoin numS t.op (t.kids.drop (k+1)) (k+1) true=J):=by
          show _=_;rw [←HS.out,HJ.out,hS2,bs_app,hT,hS0,bs_app];simp [bs]
         have hz2:S2.size≤J.length:=by
          rw [←HSW.out,List.length_append];show (bs S2).length≤_;omega
         have hcat:=rle_run hS2 (by rw [←bA,←hS2];omega);clear he1 hB hT hS2 hz2 hkd hn2 hV2 hrk hasle hS0 q0 q1 q2 q3;have q0:=qm0;have q1:=qm1;have q2:=qm2;have q3:=qm3;clear qm0 qm1 qm2 qm3;go_wp2_with fail;have hbd:Below wm.heap.size wm wm.drew:=(Br _ _).drew;have hsum:IntKind.i64.wrap ((k:Int)+1)=(k:Int)+1:=IntWalk.i64_in _ (by omega)
         go_region_held3 (fun w'=>(∀ o,w'.cell? ⟨w.heap.size,o,none⟩=wm.cell? ⟨w.heap.size,o,none⟩)∧(∀ o,w'.cell? ⟨g,o,none⟩=wm.cell? ⟨g,o,none⟩)∧Below wm.heap.size wm w')
          (first | (exact ⟨keep_cells (by assumption) hwwm,keep_cells (by assumption) hgm,by assumption⟩) | fail)
          (first | (go_at_call 192;with_reducible refine (HSD.out _).mono ?_;rintro e w5 ⟨rfl,hw5⟩;rw [hw5];clear hw5) | (go_at_call 152;with_reducible refine (HC.out _ (by assumption)).mono ?_;rintro e w5 ⟨rfl,hb5⟩;have hk5:=keep_step (by assumption) hb5) | fail)
         have HB5:Hid (Below w1.heap.size w1 w5):=HBM.out.trans (hk5.mono hszm);clear hk5 hb5 q0 q1 q2 q3 kr0 kr3;go_wp2_with fail
         go_roundw
         case rel=>exact ⟨k+1,S2,by omega,rfl,by go_num,HSW.out,HB5.out⟩
         case measure=>simp [intOf];omega
     · have hkn:k=n:=by omega
       have HE:Hid (bs S=J):=by
        show _=_;have h:=HS.out;rw [List.drop_eq_nil_of_le (by have:=HN.out;omega)] at h
        simpa [shwJoin] using h
       have hk1:¬(k:Int)<(n:Int):=by omega
       have HBE:=Hd (HB1.out.trans (hbel.mono (by omega)));clear hlt hbel hS hkn;go_wp2_with fail;rw [HF.out];exact ⟨by rw [HRB.out,←HJ1.out,←HE.out];rfl,HBE.out⟩
theorem rtext_wrap (N:Nat) (H:TxtC N) (t:Tm) (rule:Nat) (ends:Bool) (d:Nat) (A:Option Addr) (c:Nat) (w:World) (hN:t.size≤N+1) (hsz:t.size≤9000000) (hr8:rule≤8) (hok:t.okT d) (hV:TmV w A c t) (hp:pB t rule ends=true) :
 Calls Tryz.prog 152 #[t.val A c,.int .i64 ((rule:Int)+1),.bool (!ends)] w fun e w'=>e=.returned (.string ⟨([40]++bodyR t true++[41]).toArray⟩)∧Below w.heap.size w w':=by
 obtain ⟨n,hn⟩:=ex_ t.kids.length;obtain ⟨F,hF⟩:∃ F:Ending→World→Prop,F=fun e w'=>e=.returned (.string ⟨([40]++bodyR t true++[41]).toArray⟩)∧Below w.heap.size w w':=⟨_,rfl⟩;rw [←hF];obtain ⟨w1,hw1⟩:=ex_ (w.alloc (.cells #[.int .i64 t.op,.int .i64 t.num,.string t.name,.slice A n c] 25));have hb1:=bAl hw1;have hs1:w.heap.size<w1.heap.size:=by rw [hw1];simp
 have hbx:TBox w1 w.heap.size A n c t:=by rw [hw1];exact hA_ w _
 have HST:=Hd (rstrong_any t.op w1);obtain ⟨ro,hro⟩:=ex_ (ruleOf t.op)
 have hcase:ro<rule∨(¬ro<rule∧t.op=18∧ends=false):=by
  by_cases h:ro<rule
  · exact .inl h
  · refine .inr ⟨h,?_⟩;unfold pB at hp;rw [hro] at h;rw [dF h] at hp
    cases ends with
    | true=>simp at hp
    | false=>simpa using hp
 rw [←hro] at HST;have hrl2:ro≤8:=by rw [hro];exact ruleOf_le _
 have hbody:=rtext_body N H t 0 true d A c w1 hN hsz (by omega) hok (hV.below hb1 rfl) (pB_zero t);unfold Tm.val at hbody;rw [←hn] at hbody;obtain ⟨S,hS⟩:∃ S:ByteArray,S=⟨(bodyR t true).toArray⟩:=⟨_,rfl⟩;rw [←hS] at hbody;have hlen:=rbody_len (ends:=true) hok;have hz:S.size≤720000000:=by rw [hS,bsz''];omega
 obtain ⟨S1,hS1⟩:∃ S1:ByteArray,S1=(⟨#[40]⟩:ByteArray)++S:=⟨_,rfl⟩;obtain ⟨S2,hS2⟩:∃ S2:ByteArray,S2=S1++(⟨#[41]⟩:ByteArray):=⟨_,rfl⟩;have z1:S1.size=1+S.size:=by rw [hS1,bA];rfl
 have hcat1:=rle_run hS1 (by show 1+S.size≤_;omega);have hcat2:=rle_run hS2 (by show S1.size+1≤_;omega)
 have HR:Hid ((⟨([40]++bodyR t true++[41]).toArray⟩:ByteArray)=S2):=by
  show _=_;rw [hS2,hS1,hS]
  apply bs_ext
  simp [bs]
 have x0:=hbx.c0;have x1:=hbx.c1;have x2:=hbx.c2;have x3:=hbx.c3;show Calls Tryz.prog 152 #[.agg #[.int .i64 t.op,.int .i64 t.num,.string t.name,.slice A t.kids.length c],.int .i64 ((rule:Int)+1),.bool (!ends)] w F;rw [←hn];have HF:=Hd hF;have HB1:=Hd hb1;have HW1:=Hd hw1;have HC:=Hd hbody;clear hF hb1 hw1 hbody hn hV hok hbx hro hp hlen hS hS1 hS2 z1 hN H hsz
 rcases hcase with h | ⟨h,h18,rfl⟩
 · have h':(ro:Int)+1<(rule:Int)+1:=by omega
   clear h;go_enter Tryz.func152,Tryz.ntmps152;go_wp2_with fail;rw [←HW1.out];refine (HST.out).mono ?_;rintro e w2 ⟨rfl,hw⟩;rw [←hw];clear hw;go_wp2_with fail;refine (HC.out).mono ?_;rintro e w3 ⟨rfl,hb3⟩;have HB3:=Hd (HB1.out.trans (hb3.mono (by omega)));clear hb3 x0 x1 x2 x3;go_wp2_with fail;rw [HF.out,HR.out];exact ⟨rfl,HB3.out⟩
 · have h':¬(ro:Int)+1<(rule:Int)+1:=by omega
   have h18b:(t.op == 18)=true:=by simp;omega
   clear h h18;go_enter Tryz.func152,Tryz.ntmps152;go_wp2_with fail;rw [←HW1.out];refine (HST.out).mono ?_;rintro e w2 ⟨rfl,hw⟩;rw [←hw];clear hw;go_wp2_with fail;refine (HC.out).mono ?_;rintro e w3 ⟨rfl,hb3⟩;have HB3:=Hd (HB1.out.trans (hb3.mono (by omega)));clear hb3 x0 x1 x2 x3;go_wp2_with fail;rw [HF.out,HR.out];exact ⟨rfl,HB3.out⟩
theorem rtext_all:∀ N,TxtC N:=by
 intro N
 induction N with
 | zero=>
  intro t rule ends d A c w hN;cases t;rw [Tm.size] at hN;omega
 | succ N ih=>
  intro t rule ends d A c w hN hsz hr hok hV;rw [shw_body]
  cases hp:pB t rule ends with
  | false=>exact rtext_body N ih t rule ends d A c w hN hsz hr hok hV hp
  | true=>exact rtext_wrap N ih t rule ends d A c w hN hsz hr hok hV hp
end Go.Proofs.YtnbphgeepnknlaaGreatDoor
