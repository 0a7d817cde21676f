/- Walks and plain words: TtrH RefC RefP. -/
import Derived.Test.YtnbphgeepnknlaaGreatDoorUFrmG
import Derived.Laws.IdiomStrings
import Derived.Test.YtnbphgeepnknlaaGreatDoorULexI
namespace Go.Proofs.YtnbphgeepnknlaaGreatDoor
open Go.RowKit
set_option linter.unusedVariables false
set_option maxRecDepth 100000
set_option maxHeartbeats 4000000
theorem rsize_any (x:Int) (w:World) (h1:-9223372036854775808≤x) (h2:x≤9223372036854775807) :
 Calls Tryz.prog 161 #[.int .i64 x] w fun e w'=>e=.returned (.int .u64 (x.natAbs:Int))∧w'=w:=by
 go_enter Tryz.func161,Tryz.ntmps161
 by_cases hx:0≤x
 · have hx':(x.natAbs:Int)=x:=by omega
   go_wp2_with fail;go_ret;exact ⟨by rw [hx'];rfl,rfl⟩
 · have hx':(x.natAbs:Int)=-(x+1)+1:=by omega
   go_wp2_with fail;go_ret;exact ⟨rfl,rfl⟩
theorem conv1 (w w':World) (b:UInt8) (z:Int) (hz:z=(b.toNat:Int)) (hw:w'=w.alloc (.cells #[.int .u8 z] 5)) :
 (convert 104 9 (.slice (some ⟨w.heap.size,0,none⟩) 1 1)).run Tryz.prog w'=.ok (.string ⟨#[b]⟩) w':=by
 subst hw;refine run_convert_bytes_back (l:=[b]) _ 104 9 5 ⟨w.heap.size,0,none⟩ 1 Tryz.underlying104 Tryz.underlying5 Tryz.underlying9 fun j hj=>?_;have:j=0:=by simpa using hj
 subst this;show World.cell? _ ⟨w.heap.size,0+0,none⟩=_;rw [cR _ w.heap.size _ _ 5 (0,0) (hA_ w _),hz]
 rfl
def emp:Value→Nat
 | .string s=>if s.size=0 then 1 else 0
 | _=>0
theorem emp_le (v:Value):emp v≤1:=by
 unfold emp
 split
 · split <;> omega
 · omega
theorem bs_app (a b:ByteArray):bs (a++b)=bs a++bs b:=by unfold bs;simp
theorem bs_back (a:ByteArray):(⟨(bs a).toArray⟩:ByteArray)=a:=rfl
theorem rdigits_any (x:Nat) (w:World) (hx:x<18446744073709551616) :
 Calls Tryz.prog 160 #[.int .u64 x] w fun e w'=>e=.returned (.string ⟨(decB x).toArray⟩)∧Below w.heap.size w w':=by
 obtain ⟨F,hF⟩:∃ F:Ending→World→Prop,F=fun e w'=>e=.returned (.string ⟨(decB x).toArray⟩)∧Below w.heap.size w w':=⟨_,rfl⟩;rw [←hF];have HF:=Hd hF;clear hF;go_enter Tryz.func160,Tryz.ntmps160;go_wp2_with fail
 go_loopw [0,3] (fun sx ss wr=>∃ (n:Nat) (s:ByteArray),sx=.int .u64 n∧ss=.string s∧n≤x∧((s=⟨#[]⟩∧n=x)∨(0<s.size∧((n=0∧decB x=bs s)∨(10≤n∧decB x=decB n++bs s))))∧Below w.heap.size w wr) (fun x s _=>(intOf x).toNat+emp s)
 case atStart=>exact ⟨x,⟨#[]⟩,rfl,rfl,lr _,.inl ⟨rfl,rfl⟩,Br _ _⟩
 case round=>
  obtain ⟨n,s,rfl,rfl,hn,hcase,hbel⟩:=hrel;have HBL:=Hd hbel;have hs:=hbel.size;clear hbel;have hz:(48+(n:Int) % 10)=((UInt8.ofNat (48+n % 10)).toNat:Int):=by rw [dig_toNat _ (by omega)];omega
  have HZ:=Hd hz;clear hz
  have hsz:s.size≤20:=by
   have hl:=decB_len x (by omega);have e:s.size=(bs s).length:=by unfold bs;simp
   rcases hcase with ⟨h1,h2⟩ | ⟨h1,⟨h2,h3⟩ | ⟨h2,h3⟩⟩
   · rw [h1];decide
   · rw [h3] at hl;omega
   · rw [h3,List.length_append] at hl;omega
  obtain ⟨c,hc⟩:=ex_ (UInt8.ofNat (48+n % 10))
  by_cases hgo:9<n∨s=⟨#[]⟩
  · have HX:Hid (if n<10 then decB x=[c]∧s=⟨#[]⟩ else decB x=decB (n / 10)++(c :: bs s)):=by
     show ite _ _ _
     by_cases h10:n<10
     · rw [iP h10];have he:s=⟨#[]⟩:=by rcases hgo with h | h;omega;exact h
       rcases hcase with ⟨h1,h2⟩ | ⟨h1,h2⟩
       · exact ⟨by rw [←h2,decB_one h10,hc,show n % 10=n by omega],he⟩
       · rw [he] at h1;exact absurd h1 (by decide)
     · rw [iN h10]
       rcases hcase with ⟨h1,h2⟩ | ⟨h1,⟨h2,h3⟩ | ⟨h2,h3⟩⟩
       · rw [←h2,decB_step (by omega),h1,hc];rfl
       · omega
       · rw [h3,decB_step (by omega),hc];simp
    have HG:Hid (n<10→s=⟨#[]⟩):=fun h=>by rcases hgo with h1 | h1;omega;exact h1
    have HC:=Hd hc;clear hgo hcase hc
    by_cases h10:n<10
    · have he:=HG.out h10;subst he;have HXX:Hid (decB x=[c]):=by have:=HX.out;rw [iP h10] at this;exact this.1
      have hd0:(n:Int) / 10=0:=by omega
      have h9':¬(9:Int)<(n:Int):=by omega
      clear HX HG;go_wp2_with fail;rw [conv1 wr _ (UInt8.ofNat (48+n % 10)) _ HZ.out rfl,←HC.out];go_wp2_with fail
      go_roundw
      case rel=>
       exact ⟨0,⟨#[c]⟩,by go_num,rfl,by omega,.inr ⟨Nat.zero_lt_one,.inl ⟨rfl,HXX.out⟩⟩,HBL.out.alloc hs _⟩
      case measure=>
       simp only [intOf];show (0:Int).toNat+0<_+1;omega
    · have HXX:Hid (decB x=decB (n / 10)++(c :: bs s)):=by have:=HX.out;rw [iN h10] at this;exact this
      have h9':(9:Int)<(n:Int):=by omega
      have hd0:0<(n:Int) / 10:=by omega
      clear HX HG
      by_cases h100:n<100
      · have hd1:(n:Int) / 10<10:=by omega
        have hz2:(48+(n:Int) / 10)=((UInt8.ofNat (48+n / 10)).toNat:Int):=by rw [dig_toNat _ (by omega)];omega
        have HZ2:=Hd hz2;obtain ⟨c2,hc2⟩:=ex_ (UInt8.ofNat (48+n / 10));have HD2:Hid (decB (n / 10)=[c2]):=by show _=_;rw [hc2];exact decB_one (by omega)
        have HC2:=Hd hc2;clear hz2 hc2;go_wp2_with fail;rw [conv1 wr _ (UInt8.ofNat (48+n % 10)) _ HZ.out rfl,←HC.out];go_wp2_with fail;rw [show wr.heap.size+1=(wr.alloc (.cells #[.int .u8 (48+(n:Int) % 10)] 5)).heap.size by simp,conv1 _ _ (UInt8.ofNat (48+n / 10)) _ HZ2.out rfl,←HC2.out];go_wp2_with fail;rw [HF.out];refine ⟨?_,(HBL.out.alloc hs _).alloc (by simp;omega) _⟩;show Ending.returned (Value.string (⟨#[c2]⟩++(⟨#[c]⟩++s)))=_;rw [HXX.out,HD2.out]
        congr 2
      · have hd1:¬(n:Int) / 10<10:=by omega
        go_wp2_with fail;rw [conv1 wr _ (UInt8.ofNat (48+n % 10)) _ HZ.out rfl,←HC.out];go_wp2_with fail
        go_roundw
        case rel=>
         exact ⟨n / 10,⟨#[c]⟩++s,by go_num,rfl,by omega,.inr ⟨by rw [bA];exact lL Nat.zero_lt_one (Nat.le_add_right _ _),.inr ⟨by omega,by rw [HXX.out,bs_app];rfl⟩⟩,HBL.out.alloc hs _⟩
        case measure=>
         have h1:=emp_le (.string (⟨#[c]⟩++s));simp only [intOf];omega
  · have hne:s.toList.isEmpty=false:=by
     rw [ByteArray.toList_eq]
     cases hl:s.data.toList with
     | nil=>exact absurd (Or.inr (bs_ext (by show s.data.toList=[];exact hl))) hgo
     | cons _ _=>rfl
    have h9':¬(9:Int)<(n:Int):=by omega
    have HX:Hid (decB x=bs s):=by
     rcases hcase with ⟨h1,h2⟩ | ⟨h1,⟨h2,h3⟩ | ⟨h2,h3⟩⟩
     · exact absurd (Or.inr h1) hgo
     · exact h3
     · exact absurd (Or.inl (by omega)) hgo
    clear hcase hgo hc;go_wp2_with fail;rw [HF.out];exact ⟨by rw [HX.out,bs_back],HBL.out⟩
theorem rtext1_any (x:Int) (w:World) (h1:-9223372036854775808≤x) (h2:x≤9223372036854775807) :
 Calls Tryz.prog 106 #[.int .i64 x] w fun e w'=>e=.returned (.string ⟨(numS x).toArray⟩)∧Below w.heap.size w w':=by
 have HSZ:=Hd (rsize_any x w h1 h2);have HDG:=Hd (rdigits_any x.natAbs w (by omega));have hlen:=decB_len x.natAbs (by omega);obtain ⟨S,hS⟩:∃ S:ByteArray,S=⟨(decB x.natAbs).toArray⟩:=⟨_,rfl⟩;have hsz:S.size≤20:=by rw [hS];exact hlen
 rw [←hS] at HDG;have HS:=Hd hS;clear hS hlen;go_enter Tryz.func106,Tryz.ntmps106
 by_cases hx:x<0
 · have HR:Hid ((numS x)=45 :: bs S):=by show _=_;unfold numS;rw [iP hx,HS.out];simp [bs]
   go_wp2_with fail;refine HSZ.out.mono ?_;rintro e w1 ⟨rfl,hw1⟩;rw [hw1];clear hw1;go_wp2_with fail;refine HDG.out.mono ?_;rintro e w2 ⟨rfl,hb2⟩;have HB2:=Hd hb2;clear hb2;go_wp2_with fail;go_ret;refine ⟨?_,HB2.out⟩;show Ending.returned (Value.string (⟨#[45]⟩++S))=_;rw [HR.out]
   congr 2
 · have HR:Hid (numS x=bs S):=by show _=_;unfold numS;rw [iN hx,HS.out];simp [bs]
   go_wp2_with fail;refine HSZ.out.mono ?_;rintro e w1 ⟨rfl,hw1⟩;rw [hw1];clear hw1;go_wp2_with fail;refine HDG.out.mono ?_;rintro e w2 ⟨rfl,hb2⟩;have HB2:=Hd hb2;clear hb2;go_wp2_with fail;go_ret;refine ⟨?_,HB2.out⟩;show Ending.returned (Value.string S)=_;rw [HR.out]
   rfl
set_option maxHeartbeats 8000000
theorem rstrong_any (op:Int) (w:World) :
 Calls Tryz.prog 189 #[.int .i64 op] w fun e w'=>e=.returned (.int .i64 ((ruleOf op:Nat)+1:Int))∧w=w':=by
 obtain ⟨r,HR⟩:=exh_ (ruleOf op);rw [←HR.out];go_enter Tryz.func189,Tryz.ntmps189
 go_wp2
 all_goals
  go_ret;rw [HR.out];refine ⟨?_,rfl⟩
  simp_all [ruleOf]
theorem rbetween_any (op:Int) (w:World) (h6:6≤op) (h17:op≤17) :
 Calls Tryz.prog 191 #[.int .i64 op] w fun e w'=>e=.returned (.string ⟨(betw op).toArray⟩)∧Below w.heap.size w w':=by
 have hc:op=6∨op=7∨op=8∨op=9∨op=10∨op=11∨op=12∨op=13∨op=14∨op=15∨op=16∨op=17:=by omega
 clear h6 h17
 rcases hc with rfl | rfl | rfl | rfl | rfl | rfl | rfl | rfl | rfl | rfl | rfl | rfl
 all_goals
  go_enter Tryz.func191,Tryz.ntmps191
  go_wp2
  go_ret;exact ⟨rfl,(Br _ _).alloc (lr _) _⟩
theorem rlone_any (op n:Int) (s:ByteArray) (A:Option Addr) (k c:Nat) (w:World) (hs:s.size≤1000) (hn1:-9223372036854775808≤n) (hn2:n≤9223372036854775807) (ho:1≤op) (ho4:op≤4) :
 Calls Tryz.prog 190 #[.agg #[.int .i64 op,.int .i64 n,.string s,.slice A k c]] w fun e w'=>e=.returned (.string ⟨(loneT numS op n (bs s)).toArray⟩)∧Below w.heap.size w w':=by
 obtain ⟨w1,HW1⟩:=exh_ (w.alloc (.cells #[.int .i64 op,.int .i64 n,.string s,.slice A k c] 25));have hb1:=bAl HW1.out;have hs1:w.heap.size≤w1.heap.size:=hb1.size;have HB1:=Hd hb1;have HT:=Hd (rtext1_any n w1 hn1 hn2);clear hb1;have hc:op=1∨op=2∨op=3∨op=4:=by omega
 clear ho ho4
 rcases hc with rfl | rfl | rfl | rfl
 · obtain ⟨S,hS⟩:=ex_ (numS n);have HR:Hid (loneT numS 1 n (bs s)=S):=by show _=_;rw [hS];rfl
   rw [←hS] at HT;clear hS;go_enter Tryz.func190,Tryz.ntmps190;go_wp2_with fail;rw [←HW1.out];refine (HT.out).mono ?_;rintro e w2 ⟨rfl,hb2⟩;have HB2:=Hd (HB1.out.trans (hb2.mono hs1));clear hb2;go_wp2_with fail;go_ret;exact ⟨by rw [HR.out];rfl,HB2.out⟩
 · by_cases h1:n=1
   · subst h1;go_enter Tryz.func190,Tryz.ntmps190
     go_wp2
     go_ret;exact ⟨rfl,by rw [←HW1.out];exact HB1.out⟩
   · have h1':(n == 1)=false:=by simpa using h1
     have HR:Hid (loneT numS 2 n (bs s)=[102,97,108,115,101]):=by show _=_;unfold loneT;rw [iN (by omega),iP rfl,iN h1]
     clear h1;go_enter Tryz.func190,Tryz.ntmps190
     go_wp2
     go_ret;exact ⟨by rw [HR.out];rfl,by rw [←HW1.out];exact HB1.out⟩
 · go_enter Tryz.func190,Tryz.ntmps190
   go_wp2
   go_ret;exact ⟨rfl,by rw [←HW1.out];exact HB1.out⟩
 · obtain ⟨S1,hS1⟩:∃ S1:ByteArray,S1=(⟨#[110,101,120,116,40]⟩:ByteArray)++s:=⟨_,rfl⟩;obtain ⟨S2,hS2⟩:∃ S2:ByteArray,S2=S1++(⟨#[41]⟩:ByteArray):=⟨_,rfl⟩;have hz1:S1.size≤1005:=by rw [hS1,bA];show 5+s.size≤_;omega
   have hcat1:∀ W,(Op.stringOp .add (⟨#[110,101,120,116,40]⟩:ByteArray) s).run Tryz.prog W=.ok (.string S1) W:=fun W=>by rw [hS1];exact run_string_add_sum W _ _ (by show 5+s.size≤_;omega)
   have hcat2:∀ W,(Op.stringOp .add S1 (⟨#[41]⟩:ByteArray)).run Tryz.prog W=.ok (.string S2) W:=fun W=>by rw [hS2];exact run_string_add_sum W _ _ (by show S1.size+1≤_;omega)
   have HR:Hid ((⟨(loneT numS 4 n (bs s)).toArray⟩:ByteArray)=S2):=by show _=_;apply bs_ext;rw [hS2,hS1];unfold loneT;simp [bs]
   clear hS1 hS2 hz1;go_enter Tryz.func190,Tryz.ntmps190
   go_wp2
   go_ret;exact ⟨by rw [HR.out];rfl,by rw [←HW1.out];exact HB1.out⟩
theorem rside_any (op:Int) (f:Bool) (w:World) (h6:6≤op) (h17:op≤17) :
 Calls Tryz.prog 192 #[.int .i64 op,.bool f] w fun e w'=>e=.returned (.int .i64 ((asksN op (if f then 0 else 1):Nat)+1:Int))∧w=w':=by
 have HS:=Hd (rstrong_any op w);have hc:op=6∨op=7∨op=8∨op=9∨op=10∨op=11∨op=12∨op=13∨op=14∨op=15∨op=16∨op=17:=by omega
 clear h6 h17
 rcases hc with rfl | rfl | rfl | rfl | rfl | rfl | rfl | rfl | rfl | rfl | rfl | rfl
 all_goals
  cases f
  all_goals
   simp only [ruleOf] at HS;go_enter Tryz.func192,Tryz.ntmps192;go_wp2_with fail;refine (HS.out).mono ?_;rintro e w1 ⟨rfl,hw⟩;rw [←hw];clear hw
   go_wp2
   go_ret;exact ⟨rfl,rfl⟩
mutual
def noneT:Tm→Bool
 | .mk o n s l=>if (o=3∨o=4)∧isName s.data.toList=false then true else if (o=6∨o=7)∧l.length=1 then true else noneL l
def noneL:List Tm→Bool
 | []=>false
 | t :: r=>noneT t || noneL r
end
theorem noneT_eq (t:Tm):noneT t=if (t.op=3∨t.op=4)∧isName t.name.data.toList=false then true else if (t.op=6∨t.op=7)∧t.kids.length=1 then true else noneL t.kids:=by
 cases t;rw [noneT];rfl
mutual
theorem none_told:∀ (t:Tm) (d:Nat),t.okT d→noneT t=!toldT t
 | .mk o n s l,d,h=>by
  rw [Tm.okT] at h;have hl:=noneL_told l (d+1) h.2.2;rw [noneT,toldT]
  by_cases h34:o=3∨o=4
  · have hk:(kidsOf o).2=0:=by unfold kidsOf;rw [iP (by omega)]
    have hw:=(wrong_ok h.2.1).2.2.2.2.1;rw [hk] at hw;have hl0:l=[]:=List.eq_nil_of_length_eq_zero (by omega);rw [iN (show ¬((o=6∨o=7)∧l.length=1) by omega),iN (show ¬((o=6∨o=7)∧l.length=1) by omega),iP h34,hl0];cases hn:isName s.data.toList
    · rw [iP ⟨h34,rfl⟩];rfl
    · rw [iN (fun h=>by cases h.2)];rfl
  · rw [iN (fun h=>h34 h.1),iN h34,hl]
    by_cases h67:(o=6∨o=7)∧l.length=1
    · rw [iP h67,iP h67];rfl
    · rw [iN h67,iN h67]
theorem noneL_told:∀ (l:List Tm) (d:Nat),Tm.okL l d→noneL l=!toldL l
 | [],_,_=>rfl
 | t :: r,d,h=>by
  rw [Tm.okL] at h;rw [noneL,toldL,none_told t d h.1,noneL_told r d h.2];cases toldT t <;> cases toldL r <;> rfl
end
theorem rnone_any:∀ (N:Nat) (t:Tm) (A:Option Addr) (c:Nat) (w:World) (d:Nat),t.size≤N→t.size≤9000000→t.okT d→TmV w A c t →
 Calls Tryz.prog 151 #[t.val A c] w fun e w'=>e=.returned (.bool (noneT t))∧Below w.heap.size w w':=by
 intro N
 induction N with
 | zero=>
  intro t A c w d hN;cases t;rw [Tm.size] at hN;omega
 | succ N ih=>
  intro t A c w d hN hd hok hV;obtain ⟨n,hn⟩:=ex_ t.kids.length;obtain ⟨F,hF⟩:∃ F:Ending→World→Prop,F=fun e w'=>e=.returned (.bool (noneT t))∧Below w.heap.size w w':=⟨_,rfl⟩;rw [←hF];have hsz:t.size=1+Tm.sizeL t.kids:=by cases t;rw [Tm.size];rfl
  have hnl:=Tm.len_le t.kids;have hcap:=hV.cap;have hcapm:=hV.capm;unfold maxLen at hcapm;have hnm:t.name.size≤24:=(wrong_ok (okT_open hok).2.1).2.2.1;obtain ⟨w1,hw1⟩:=ex_ (w.alloc (.cells #[.int .i64 t.op,.int .i64 t.num,.string t.name,.slice A n c] 25));have hb1:=bAl hw1;have hs1:w1.heap.size=w.heap.size+1:=by rw [hw1];simp
  have hbx:w1.heap[w.heap.size]?=some (.cells #[.int .i64 t.op,.int .i64 t.num,.string t.name,.slice A n c] 25 (0,0)):=by rw [hw1];exact hA_ w _
  have his:=ris_any t.name w1 (by omega);have HRE:=Hd (noneT_eq t);obtain ⟨r,hr⟩:=ex_ (noneT t);rw [←hr] at HRE hF;obtain ⟨nb,hnb⟩:=ex_ (isName t.name.data.toList);rw [show isName (bs t.name)=isName t.name.data.toList from rfl,←hnb] at his;rw [←hnb] at HRE;have HIS:=Hd his;have HOK:Hid (∀ k∈t.kids,k.okT (d+1)):=(okT_open hok).2.2
  have HSZ:Hid (∀ k∈t.kids,k.size≤N∧k.size≤9000000):=fun k hk=>by
   have h1:=Tm.sizeL_mem hk;omega
  have hkl:t.kids.length≤10000000:=by omega
  rw [←hn] at hcap hkl HRE;show Calls Tryz.prog 151 #[.agg #[.int .i64 t.op,.int .i64 t.num,.string t.name,.slice A t.kids.length c]] w F;rw [←hn];have HF:=Hd hF;have HIH:=Hd ih;have HN:=Hd hn;have HK:=Hd hV.kids;have HB1:=Hd hb1;have HS1:=Hd hs1;have HBX:=Hd hbx;have HW1:=Hd hw1;obtain ⟨op,hop⟩:=ex_ t.op
  have HX3:∀ W,Below w1.heap.size w1 W→W.cell? ⟨w.heap.size,3,none⟩=some (.slice A n c)∧W.cell? ⟨w.heap.size,0,none⟩=some (.int .i64 op)∧W.cell? ⟨w.heap.size,2,none⟩=some (.string t.name):=fun W hb=>by
   have hx:=(hb.block _ (by rw [HS1.out];omega)).trans HBX.out;rw [hop];exact ⟨by rw [cR W w.heap.size 3 _ _ (0,0) hx];rfl,by rw [cR W w.heap.size 0 _ _ (0,0) hx];rfl,by rw [cR W w.heap.size 2 _ _ (0,0) hx];rfl⟩
  have HXX:=Hd HX3;rw [←hop] at HRE HW1 ⊢;clear hF ih hn hsz hnl hb1 hs1 hbx hw1 hV hN hr hnb his hok HX3 hnm hop
  have hcl:(op=3∨op=4)∨((op=6∨op=7)∧n=1)∨(op=6∧n≠1∧((n:Int) == 1)=false)∨(op=7∧n≠1∧((n:Int) == 1)=false)∨(op≠6∧op≠7∧op≠3∧op≠4∧(op == 6)=false∧(op == 7)=false∧(op == 3)=false∧(op == 4)=false):=by
   by_cases h3:op=3
   · exact .inl (.inl h3)
   by_cases h4:op=4
   · exact .inl (.inr h4)
   by_cases h6:op=6
   · by_cases h1:n=1
     · exact .inr (.inl ⟨.inl h6,h1⟩)
     · exact .inr (.inr (.inl ⟨h6,h1,by simp;omega⟩))
   by_cases h7:op=7
   · by_cases h1:n=1
     · exact .inr (.inl ⟨.inr h7,h1⟩)
     · exact .inr (.inr (.inr (.inl ⟨h7,h1,by simp;omega⟩)))
   exact .inr (.inr (.inr (.inr ⟨h6,h7,h3,h4,by simpa using h6,by simpa using h7,by simpa using h3,by simpa using h4⟩)))
  rcases hcl with h34 | ⟨h67,h1⟩ | hrest
  · cases nb with
    | false=>
     have HR:Hid (r=true):=by show _=_;rw [HRE.out,iP ⟨h34,rfl⟩]
     rcases h34 with rfl | rfl
     all_goals
      go_enter Tryz.func151,Tryz.ntmps151;go_wp2_with fail;rw [←HW1.out];refine (HIS.out).mono ?_;rintro e w2 ⟨rfl,hb2⟩;have HB2:=Hd (HB1.out.trans (hb2.mono (by have:=HS1.out;omega)));clear hb2;go_wp2_with fail;rw [HF.out,HR.out];exact ⟨rfl,HB2.out⟩
    | true=>
     have HR:Hid (r=noneL t.kids):=by show _=_;rw [HRE.out,iN (fun h=>by cases h.2),iN (by omega)]
     rcases h34 with rfl | rfl
     all_goals
      go_enter Tryz.func151,Tryz.ntmps151;go_wp2_with fail;rw [←HW1.out];refine (HIS.out).mono ?_;rintro e w2 ⟨rfl,hb2⟩;have HST:=Hd hb2;obtain ⟨ks3,ks0,ks2⟩:=HXX.out w2 hb2;have hbw2:w.heap.size<w2.heap.size:=by have:=HS1.out;have:=hb2.size;omega
      clear hb2;go_wp2_with fail
      go_loopw [3] (fun si wr=>∃ k:Nat,k≤n∧si=.int .i64 k∧Below w1.heap.size w1 wr∧noneL (t.kids.drop k)=r) (fun i _=>n - (intOf i).toNat)
      case atStart=>exact ⟨0,zl _,rfl,HST.out,HR.out.symm⟩
      case round=>
       obtain ⟨k,hk,rfl,hbel,htl⟩:=hrel;have HBL:=Hd hbel;have HTL:=Hd htl;have hszr:=hbel.size;obtain ⟨kr3,kr0,kr2⟩:=HXX.out wr hbel;have hbt:Below w.heap.size w wr:=HB1.out.trans (hbel.mono (by have:=HS1.out;omega));have hbwr:w.heap.size<wr.heap.size:=by have:=HS1.out;omega
       by_cases hlt:k<n
       · obtain ⟨kd,hkd⟩:∃ kd,t.kids[k]?=some kd:=⟨_,gG (by have:=HN.out;omega)⟩;have hmem:kd∈t.kids:=mG hkd
         rcases HK.out with h9 | ⟨g,off,rfl,hg,hrow⟩
         · rw [h9] at hkd;simp at hkd
         have hat:=(hrow.get hkd).below hbt rfl hg;obtain ⟨q0,q1,q2,A2,c2,q3,hV2⟩:=hat.open;have hgw:g<wr.heap.size:=by omega
         have hih:=HIH.out kd A2 c2 wr (d+1) (HSZ.out kd hmem).1 (HSZ.out kd hmem).2 (HOK.out kd hmem) hV2;unfold Tm.val at hih;obtain ⟨n2,hn2⟩:=ex_ kd.kids.length;rw [←hn2] at q3 hih;obtain ⟨z,hz⟩:=ex_ (noneT kd);rw [←hz] at hih
         have HDR:Hid (noneL (t.kids.drop k)=(z || noneL (t.kids.drop (k+1)))):=by
          obtain ⟨hj,hj2⟩:=gE.1 hkd;show _=_;rw [List.drop_eq_getElem_cons hj,hj2,noneL,←hz]
         have HC:=Hd hih;have hk0:(0:Int)≤(k:Int):=by omega
         have hk1:(k:Int)<(n:Int):=by omega
         have e1:off+4*k=off+k*4:=by omega
         rw [e1] at q0 q1 q2 q3;have HBT:=Hd hbt;clear hih hn2 hz hV2 hat hrow hmem hkd e1 hbel htl hbt kr0 kr2;go_wp2_with fail;refine (HC.out).mono ?_;rintro e w4 ⟨rfl,hb4⟩;have HB5:=Hd (HBL.out.trans (hb4.mono hszr));have HB6:=Hd (HBT.out.trans (hb4.mono (by omega)));clear hb4 q0 q1 q2 q3 kr3
         cases z with
         | true=>
          have HR2:Hid (r=true):=by show _=_;rw [←HTL.out,HDR.out];rfl
          go_wp2_with fail;rw [HF.out,HR2.out];exact ⟨rfl,HB6.out⟩
         | false=>
          have HR2:Hid (noneL (t.kids.drop (k+1))=r):=by show _=_;rw [←HTL.out,HDR.out];rfl
          go_wp2_with fail
          go_roundw
          case rel=>exact ⟨k+1,by omega,by go_num,HB5.out,HR2.out⟩
          case measure=>simp [intOf];omega
       · have HE:Hid (r=false):=by
          show _=_;rw [←HTL.out,List.drop_eq_nil_of_le (by have:=HN.out;omega)]
          rfl
         have hk1:¬(k:Int)<(n:Int):=by omega
         have HBE:=Hd hbt;clear hlt hbel htl hbt kr0 kr2;go_wp2_with fail;rw [HF.out,HE.out];exact ⟨rfl,HBE.out⟩
  · have HR:Hid (r=true):=by show _=_;rw [HRE.out,iN (by omega),iP ⟨h67,h1⟩]
    subst h1
    rcases h67 with rfl | rfl
    all_goals
     go_enter Tryz.func151,Tryz.ntmps151;go_wp2_with fail;rw [HF.out,HR.out];exact ⟨rfl,by rw [←HW1.out];exact HB1.out⟩
  · have HR:Hid (r=noneL t.kids):=by show _=_;rw [HRE.out,iN (by omega),iN (by omega)]
    have HST:Hid (Below w1.heap.size w1 w1):=Br _ _
    rcases hrest with ⟨rfl,h1,h1b⟩ | ⟨rfl,h1,h1b⟩ | ⟨h6,h7,h3,h4,b6,b7,b3,b4⟩
    all_goals
     (try clear h1)
     (try clear h6 h7 h3 h4)
     go_enter Tryz.func151,Tryz.ntmps151;go_wp2_with fail;rw [←HW1.out]
     go_loopw [3] (fun si wr=>∃ k:Nat,k≤n∧si=.int .i64 k∧Below w1.heap.size w1 wr∧noneL (t.kids.drop k)=r) (fun i _=>n - (intOf i).toNat)
     case atStart=>exact ⟨0,zl _,rfl,HST.out,HR.out.symm⟩
     case round=>
      obtain ⟨k,hk,rfl,hbel,htl⟩:=hrel;have HBL:=Hd hbel;have HTL:=Hd htl;have hszr:=hbel.size;obtain ⟨kr3,kr0,kr2⟩:=HXX.out wr hbel;have hbt:Below w.heap.size w wr:=HB1.out.trans (hbel.mono (by have:=HS1.out;omega));have hbwr:w.heap.size<wr.heap.size:=by have:=HS1.out;omega
      by_cases hlt:k<n
      · obtain ⟨kd,hkd⟩:∃ kd,t.kids[k]?=some kd:=⟨_,gG (by have:=HN.out;omega)⟩;have hmem:kd∈t.kids:=mG hkd
        rcases HK.out with h9 | ⟨g,off,rfl,hg,hrow⟩
        · rw [h9] at hkd;simp at hkd
        have hat:=(hrow.get hkd).below hbt rfl hg;obtain ⟨q0,q1,q2,A2,c2,q3,hV2⟩:=hat.open;have hgw:g<wr.heap.size:=by omega
        have hih:=HIH.out kd A2 c2 wr (d+1) (HSZ.out kd hmem).1 (HSZ.out kd hmem).2 (HOK.out kd hmem) hV2;unfold Tm.val at hih;obtain ⟨n2,hn2⟩:=ex_ kd.kids.length;rw [←hn2] at q3 hih;obtain ⟨z,hz⟩:=ex_ (noneT kd);rw [←hz] at hih
        have HDR:Hid (noneL (t.kids.drop k)=(z || noneL (t.kids.drop (k+1)))):=by
         obtain ⟨hj,hj2⟩:=gE.1 hkd;show _=_;rw [List.drop_eq_getElem_cons hj,hj2,noneL,←hz]
        have HC:=Hd hih;have hk0:(0:Int)≤(k:Int):=by omega
        have hk1:(k:Int)<(n:Int):=by omega
        have e1:off+4*k=off+k*4:=by omega
        rw [e1] at q0 q1 q2 q3;have HBT:=Hd hbt;clear hih hn2 hz hV2 hat hrow hmem hkd e1 hbel htl hbt kr0 kr2;go_wp2_with fail;refine (HC.out).mono ?_;rintro e w4 ⟨rfl,hb4⟩;have HB5:=Hd (HBL.out.trans (hb4.mono hszr));have HB6:=Hd (HBT.out.trans (hb4.mono (by omega)));clear hb4 q0 q1 q2 q3 kr3
        cases z with
        | true=>
         have HR2:Hid (r=true):=by show _=_;rw [←HTL.out,HDR.out];rfl
         go_wp2_with fail;rw [HF.out,HR2.out];exact ⟨rfl,HB6.out⟩
        | false=>
         have HR2:Hid (noneL (t.kids.drop (k+1))=r):=by show _=_;rw [←HTL.out,HDR.out];rfl
         go_wp2_with fail
         go_roundw
         case rel=>exact ⟨k+1,by omega,by go_num,HB5.out,HR2.out⟩
         case measure=>simp [intOf];omega
      · have HE:Hid (r=false):=by
         show _=_;rw [←HTL.out,List.drop_eq_nil_of_le (by have:=HN.out;omega)]
         rfl
        have hk1:¬(k:Int)<(n:Int):=by omega
        have HBE:=Hd hbt;clear hlt hbel htl hbt kr0 kr2;go_wp2_with fail;rw [HF.out,HE.out];exact ⟨rfl,HBE.out⟩
theorem asks_first {op:Int} {i:Nat} (h:op=6∨op=7∨i≤1):asksN op i=asksN op (if decide (i=0) then 0 else 1):=by
 by_cases h0:i=0
 · subst h0;rfl
 · have hd:decide (i=0)=false:=dF h0;rw [hd];simp only [Bool.false_eq_true,if_false]
   rcases h with rfl | rfl | h
   · rfl
   · rfl
   · rw [show i=1 by omega]
theorem asks_le0 (op:Int) (i:Nat) (h:i≤1):asksN op i≤8:=by
 unfold asksN
 repeat' split
 all_goals omega
def bodyR (t:Tm) (ends:Bool):Bs:=bodyE numS t.op t.num t.name.data.toList (shwNot numS t.kids ends) (shwIf numS t.kids 0) (shwJoin numS t.op t.kids 0 ends)
theorem shw_body (t:Tm) (rule:Nat) (ends:Bool):shw numS t rule ends=if pB t rule ends=true then [40]++bodyR t true++[41] else bodyR t ends:=by
 rw [shw_eq];unfold wrapP bodyR;cases h:pB t rule ends
 · simp
 · simp
theorem pB_zero (t:Tm):pB t 0 true=false:=by unfold pB;simp
theorem join_drop {op:Int} {l:List Tm} {k:Nat} {t:Tm} {ends:Bool} (h:l[k]?=some t):shwJoin numS op (l.drop k) k ends=(if k=0 then [] else betw op)++shw numS t (asksN op k) (ends && decide (k+1=l.length))++shwJoin numS op (l.drop (k+1)) (k+1) ends:=by
 obtain ⟨hj,hj2⟩:=gE.1 h;rw [List.drop_eq_getElem_cons hj,hj2,shwJoin]
 have he:(l.drop (k+1)).isEmpty=decide (k+1=l.length):=by
  by_cases h2:k+1=l.length
  · rw [decide_eq_true h2,List.drop_eq_nil_of_le (by omega)];rfl
  · rw [dF h2,List.drop_eq_getElem_cons (by omega)];rfl
 rw [he]
theorem rbody_kinds {t:Tm} {d:Nat} (h:t.okT d):(1≤t.op∧t.op≤4∧t.kids=[])∨(t.op=5∧∃ a,t.kids=[a])∨(t.op=18∧∃ a b c,t.kids=[a,b,c])∨(6≤t.op∧t.op≤17∧0<t.kids.length∧(t.op=6∨t.op=7∨t.kids.length=2)):=by
 obtain ⟨-,hw,-⟩:=okT_open h;obtain ⟨h1,-,-,h2,h3,-⟩:=wrong_ok hw
 generalize t.kids=l at *
 generalize t.op=op at *
 by_cases c1:op=1∨op=2∨op=3∨op=4
 · have hk:kidsOf op=(0,0):=by unfold kidsOf;rw [iP c1]
   rw [hk] at h3;exact .inl ⟨by omega,by omega,List.eq_nil_of_length_eq_zero (by simp only at h3;omega)⟩
 by_cases c2:op=5
 · have hk:kidsOf op=(1,1):=by unfold kidsOf;rw [iN c1,iP c2]
   rw [hk] at h2 h3;simp only at h2 h3
   match l,show l.length=1 by omega with
   | [a],_=>exact .inr (.inl ⟨c2,a,rfl⟩)
 by_cases c3:op=6∨op=7
 · have hk:kidsOf op=(1,64):=by unfold kidsOf;rw [iN c1,iN c2,iP c3]
   rw [hk] at h2;simp only at h2;exact .inr (.inr (.inr ⟨by omega,by omega,by omega,by omega⟩))
 by_cases c4:op=8∨op=9∨op=10∨op=11∨op=12∨op=13∨op=14∨op=15∨op=16∨op=17
 · have hk:kidsOf op=(2,2):=by unfold kidsOf;rw [iN c1,iN c2,iN c3,iP c4]
   rw [hk] at h2 h3;simp only at h2 h3;exact .inr (.inr (.inr ⟨by omega,by omega,by omega,.inr (.inr (by omega))⟩))
 by_cases c5:op=18
 · have hk:kidsOf op=(3,3):=by unfold kidsOf;rw [iN c1,iN c2,iN c3,iN c4,iP c5]
   rw [hk] at h2 h3;simp only at h2 h3
   match l,show l.length=3 by omega with
   | [a,b,c],_=>exact .inr (.inr (.inl ⟨c5,a,b,c,rfl⟩))
 exfalso
 have hk:kidsOf op=(-1,-1):=by unfold kidsOf;rw [iN c1,iN c2,iN c3,iN c4,iN c5]
 rw [hk] at h1;simp at h1
theorem rbody_lone {t:Tm} {ends:Bool} (h1:1≤t.op) (h4:t.op≤4):bodyR t ends=loneT numS t.op t.num t.name.data.toList:=by
 unfold bodyR bodyE;rw [iP (by omega)]
theorem rbody_not {t a:Tm} {ends:Bool} (h:t.op=5) (hk:t.kids=[a]):bodyR t ends=[33]++shw numS a 4 ends:=by
 unfold bodyR bodyE;rw [iN (by omega),iP h,hk];rfl
theorem rbody_if {t a b c:Tm} {ends:Bool} (h:t.op=18) (hk:t.kids=[a,b,c]):bodyR t ends=ifW 0++shw numS a 0 true++ifW 1++shw numS b 0 true++ifW 2++shw numS c 0 true:=by
 unfold bodyR bodyE;rw [iN (by omega),iN (by omega),iP h,hk];simp [shwIf]
theorem rbody_join {t:Tm} {ends:Bool} (h6:6≤t.op) (h17:t.op≤17):bodyR t ends=shwJoin numS t.op t.kids 0 ends:=by
 unfold bodyR bodyE;rw [iN (by omega),iN (by omega),iN (by omega)]
theorem rbody_len {t:Tm} {ends:Bool} {d:Nat} (h:t.okT d):(bodyR t ends).length≤80*t.size:=by
 unfold bodyR;have hok:=h
 cases t with
 | mk op n s l=>
  rw [Tm.okT] at h;have hs:=(wrong_ok h.2.1).2.2.1;have hsl:s.data.toList.length=s.size:=by simp
  have hb:=bodyE_len numS_short op n s.data.toList (shwNot numS l ends) (shwIf numS l 0) (shwJoin numS op l 0 ends) (80*Tm.sizeL l) (wrong_ok h.2.1).2.1 (shwNot_len numS_short l _ _ h.2.2) (shwIf_len numS_short l _ _ h.2.2) (shwJoin_len numS_short op l _ _ _ h.2.2);rw [Tm.size];show (bodyE numS op n s.data.toList _ _ _).length≤_;simp only [Tm.kids,Tm.op];omega
end Go.Proofs.YtnbphgeepnknlaaGreatDoor
