/- Walks and plain words: DecQ TtrH RefC RefP. -/
import Derived.Test.YtkhoeoilamddaaaGreatDoorYTrmI
import Derived.Laws.IdiomStrings
import Derived.Test.YtkhoeoilamddaaaGreatDoorYRefA
namespace Go.Proofs.YtkhoeoilamddaaaGreatDoor
set_option linter.unusedVariables false
theorem Qg{x:Nat}(h:10≤x):l9 x=l9 (x/10)++[UInt8.ofNat (48+x%10)]:=by
 have hx:x≠0:=by omega
 have hx2:x/10≠0:=by omega
 unfold l9;rw[iN hx,iN hx2,Gs (by decide) hx,List.reverse_cons,List.map_append]
 rfl
theorem Vg{x:Nat}(h:x<10):l9 x=[UInt8.ofNat (48+x)]:=by
 have:x=0∨x=1∨x=2∨x=3∨x=4∨x=5∨x=6∨x=7∨x=8∨x=9:=by omega
 rcases this with rfl|rfl|rfl|rfl|rfl|rfl|rfl|rfl|rfl|rfl<;>rfl
theorem Qh(d:Nat)(h:d<10):(UInt8.ofNat (48+d)).toNat=48+d:=by
 rw[UInt8.toNat_ofNat'];exact Nat.mod_eq_of_lt (by omega)
open Go.RowKit
set_option maxRecDepth 100000
set_option maxHeartbeats 4000000
theorem acI(x:Int)(w:World)(h1:-9223372036854775808≤x)(h2:x≤9223372036854775807) :
 Calls Tryz.prog 107 #[.int .i64 x] w fun e w'=>e=.returned (.int .u64 (x.natAbs:Int))∧w'=w:=by
 go_in
 by_cases hx:0≤x
 ·have hx':(x.natAbs:Int)=x:=by omega
  go_wp2_with fail;go_ret;exact⟨by rw[hx'];rfl,rfl⟩
 ·have hx':(x.natAbs:Int)=-(x+1)+1:=by omega
  go_wp2_with fail;go_ret;exact⟨rfl,rfl⟩
theorem abj(w w':World)(b:UInt8)(z:Int)(hz:z=(b.toNat:Int))(hw:w'=w.alloc (.cells #[.int .u8 z] 5)) :
 (convert 79 9 (.slice (some ⟨w.heap.size,0,none⟩) 1 1)).run Tryz.prog w'=.ok (.string ⟨#[b]⟩) w':=by
 subst hw;refine run_convert_bytes_back (l:=[b]) _ 79 9 5 ⟨w.heap.size,0,none⟩ 1 Tryz.underlying79 Tryz.underlying5 Tryz.underlying9 fun j hj=>?_;have:j=0:=by simpa using hj
 subst this;show World.cell? _ ⟨w.heap.size,0+0,none⟩=_;rw[cR _ w.heap.size _ _ 5 (0,0) (eu w _),hz]
 rfl
def emp:Value→Nat
 |.string s=>if s.size=0 then 1 else 0
 |_=>0
theorem aik(v:Value):emp v≤1:=by
 unfold emp
 split
 ·split<;>omega
 ·omega
theorem Ga(a b:ByteArray):bs (a++b)=bs a++bs b:=by unfold bs;simp
theorem agP(a:ByteArray):(⟨(bs a).toArray⟩:ByteArray)=a:=rfl
theorem Vh(x:Nat)(w:World)(hx:x<18446744073709551616) :
 Calls Tryz.prog 106 #[.int .u64 x] w fun e w'=>e=.returned (.string ⟨(l9 x).toArray⟩)∧Below w.heap.size w w':=by
 obtain⟨F,hF⟩:∃F:Ending→World→Prop,F=fun e w'=>e=.returned (.string ⟨(l9 x).toArray⟩)∧Below w.heap.size w w':=⟨_,rfl⟩;rw[←hF];have HF:=Hd hF;clear hF;go_in;go_wp2_with fail
 go_loopw [0,3] (fun sx ss wr=>∃(n:Nat)(s:ByteArray),sx=.int .u64 n∧ss=.string s∧n≤x∧((s=⟨#[]⟩∧n=x)∨(0<s.size∧((n=0∧l9 x=bs s)∨(10≤n∧l9 x=l9 n++bs s))))∧Below w.heap.size w wr) (fun x s _=>(intOf x).toNat+emp s)
 case atStart=>exact⟨x,⟨#[]⟩,rfl,rfl,lr _,.inl ⟨rfl,rfl⟩,Br _ _⟩
 case round=>
  obtain⟨n,s,rfl,rfl,hn,hcase,hbel⟩:=hrel;have oU:=Hd hbel;have hs:=hbel.size;clear hbel;have hz:(48+(n:Int)%10)=((UInt8.ofNat (48+n%10)).toNat:Int):=by rw[Qh _ (by omega)];omega
  have HZ:=Hd hz;clear hz
  have hsz:s.size≤20:=by
   have hl:=Te x (by omega);have e:s.size=(bs s).length:=by unfold bs;simp
   rcases hcase with⟨h1,h2⟩|⟨h1,⟨h2,h3⟩|⟨h2,h3⟩⟩
   ·rw[h1];decide
   ·rw[h3]at hl;omega
   ·rw[h3,List.length_append]at hl;omega
  obtain⟨c,hc⟩:=aj (UInt8.ofNat (48+n%10))
  by_cases hgo:9<n∨s=⟨#[]⟩
  ·have HX:Hid (if n<10 then l9 x=[c]∧s=⟨#[]⟩else l9 x=l9 (n/10)++(c::bs s)):=by
    show ite _ _ _
    by_cases h10:n<10
    ·rw[iP h10];have he:s=⟨#[]⟩:=by rcases hgo with h|h;omega;exact h
     rcases hcase with⟨h1,h2⟩|⟨h1,h2⟩
     ·exact⟨by rw[←h2,Vg h10,hc,show n%10=n by omega],he⟩
     ·rw[he]at h1;exact absurd h1 (by decide)
    ·rw[iN h10]
     rcases hcase with⟨h1,h2⟩|⟨h1,⟨h2,h3⟩|⟨h2,h3⟩⟩
     ·rw[←h2,Qg (by omega),h1,hc];rfl
     ·omega
     ·rw[h3,Qg (by omega),hc];simp
   have HG:Hid (n<10→s=⟨#[]⟩):=fun h=>by rcases hgo with h1|h1;omega;exact h1
   have HC:=Hd hc;clear hgo hcase hc
   by_cases h10:n<10
   ·have he:=HG h10;subst he;have nV:Hid (l9 x=[c]):=by have:=HX.out;rw[iP h10]at this;exact this.1
    have hd0:(n:Int)/10=0:=by omega
    have h9':¬(9:Int)<(n:Int):=by omega
    clear HX HG;go_wp2_with fail;rw[abj wr _ (UInt8.ofNat (48+n%10)) _ HZ rfl,←HC];go_wp2_with fail
    go_roundw
    case rel=>
     exact⟨0,⟨#[c]⟩,by go_num,rfl,by omega,.inr ⟨Nat.zero_lt_one,.inl ⟨rfl,nV⟩⟩,oU.alloc hs _⟩
    case measure=>
     simp only[intOf];show(0:Int).toNat+0<_+1;omega
   ·have nV:Hid (l9 x=l9 (n/10)++(c::bs s)):=by have:=HX.out;rw[iN h10]at this;exact this
    have h9':(9:Int)<(n:Int):=by omega
    have hd0:0<(n:Int)/10:=by omega
    clear HX HG
    by_cases amd:n<100
    ·have hd1:(n:Int)/10<10:=by omega
     have hz2:(48+(n:Int)/10)=((UInt8.ofNat (48+n/10)).toNat:Int):=by rw[Qh _ (by omega)];omega
     have HZ2:=Hd hz2;obtain⟨c2,hc2⟩:=aj (UInt8.ofNat (48+n/10));have HD2:Hid (l9 (n/10)=[c2]):=by show _=_;rw[hc2];exact Vg (by omega)
     have Cx:=Hd hc2;clear hz2 hc2;go_wp2_with fail;rw[abj wr _ (UInt8.ofNat (48+n%10)) _ HZ rfl,←HC];go_wp2_with fail;rw[show wr.heap.size+1=(wr.alloc (.cells #[.int .u8 (48+(n:Int)%10)] 5)).heap.size by simp,abj _ _ (UInt8.ofNat (48+n/10)) _ HZ2 rfl,←Cx];go_wp2_with fail;rw[HF];refine⟨?_,(oU.alloc hs _).alloc (by simp;omega) _⟩;show Ending.returned (Value.string (⟨#[c2]⟩++(⟨#[c]⟩++s)))=_;rw[nV,HD2]
     congr 2
    ·have hd1:¬(n:Int)/10<10:=by omega
     go_wp2_with fail;rw[abj wr _ (UInt8.ofNat (48+n%10)) _ HZ rfl,←HC];go_wp2_with fail
     go_roundw
     case rel=>
      exact⟨n/10,⟨#[c]⟩++s,by go_num,rfl,by omega,.inr ⟨by rw[bA];exact lL Nat.zero_lt_one (Nat.le_add_right _ _),.inr ⟨by omega,by rw[nV,Ga];rfl⟩⟩,oU.alloc hs _⟩
     case measure=>
      have h1:=aik (.string (⟨#[c]⟩++s));simp only[intOf];omega
  ·have hne:s.toList.isEmpty=false:=by
    rw[ByteArray.toList_eq]
    cases hl:s.data.toList with
    |nil=>exact absurd (Or.inr (gV (by show s.data.toList=[];exact hl))) hgo
    |cons _ _=>rfl
   have h9':¬(9:Int)<(n:Int):=by omega
   have HX:Hid (l9 x=bs s):=by
    rcases hcase with⟨h1,h2⟩|⟨h1,⟨h2,h3⟩|⟨h2,h3⟩⟩
    ·exact absurd (Or.inr h1) hgo
    ·exact h3
    ·exact absurd (Or.inl (by omega)) hgo
   clear hcase hgo hc;go_wp2_with fail;rw[HF];exact⟨by rw[HX,agP],oU⟩
theorem ZA(x:Int)(w:World)(h1:-9223372036854775808≤x)(h2:x≤9223372036854775807) :
 Calls Tryz.prog 65 #[.int .i64 x] w fun e w'=>e=.returned (.string ⟨(aO x).toArray⟩)∧Below w.heap.size w w':=by
 have mg:=Hd (acI x w h1 h2);have HDG:=Hd (Vh x.natAbs w (by omega));have hlen:=Te x.natAbs (by omega);obtain⟨S,hS⟩:∃S:ByteArray,S=⟨(l9 x.natAbs).toArray⟩:=⟨_,rfl⟩;have hsz:S.size≤20:=by rw[hS];exact hlen
 rw[←hS]at HDG;have HS:=Hd hS;clear hS hlen;go_in
 by_cases hx:x<0
 ·have HR:Hid ((aO x)=45::bs S):=by show _=_;unfold aO;rw[iP hx,HS];simp[bs]
  go_wp2_with fail;refine mg.mono ?_;rintro e w1 ⟨rfl,hw1⟩;rw[hw1];clear hw1;go_wp2_with fail;refine HDG.mono ?_;rintro e w2 ⟨rfl,hb2⟩;have HB2:=Hd hb2;clear hb2;go_wp2_with fail;go_ret;refine⟨?_,HB2⟩;show Ending.returned (Value.string (⟨#[45]⟩++S))=_;rw[HR]
  congr 2
 ·have HR:Hid (aO x=bs S):=by show _=_;unfold aO;rw[iN hx,HS];simp[bs]
  go_wp2_with fail;refine mg.mono ?_;rintro e w1 ⟨rfl,hw1⟩;rw[hw1];clear hw1;go_wp2_with fail;refine HDG.mono ?_;rintro e w2 ⟨rfl,hb2⟩;have HB2:=Hd hb2;clear hb2;go_wp2_with fail;go_ret;refine⟨?_,HB2⟩;show Ending.returned (Value.string S)=_;rw[HR]
  rfl
set_option maxHeartbeats 8000000
theorem Dj(op:Int)(w:World) :
 Calls Tryz.prog 135 #[.int .i64 op] w fun e w'=>e=.returned (.int .i64 ((bQ op:Nat)+1:Int))∧w=w':=by
 obtain⟨r,HR⟩:=ak (bQ op);rw[←HR];go_in
 go_wp2
 all_goals
  go_ret;rw[HR];refine⟨?_,rfl⟩
  simp_all[bQ]
theorem Il(op:Int)(w:World)(h6:6≤op)(Aj:op≤17) :
 Calls Tryz.prog 137 #[.int .i64 op] w fun e w'=>e=.returned (.string ⟨(lG op).toArray⟩)∧Below w.heap.size w w':=by
 have hc:op=6∨op=7∨op=8∨op=9∨op=10∨op=11∨op=12∨op=13∨op=14∨op=15∨op=16∨op=17:=by omega
 clear h6 Aj
 rcases hc with rfl|rfl|rfl|rfl|rfl|rfl|rfl|rfl|rfl|rfl|rfl|rfl
 all_goals
  go_in
  go_wp2
  go_ret;exact⟨rfl,(Br _ _).alloc (lr _) _⟩
theorem acJ(op n:Int)(s:ByteArray)(A:Option Addr)(k c:Nat)(w:World)(hs:s.size≤1000)(hn1:-9223372036854775808≤n)(hn2:n≤9223372036854775807)(ho:1≤op)(iC:op≤4) :
 Calls Tryz.prog 136 #[.agg #[.int .i64 op,.int .i64 n,.string s,.slice A k c]] w fun e w'=>e=.returned (.string ⟨(mq aO op n (bs s)).toArray⟩)∧Below w.heap.size w w':=by
 obtain⟨w1,HW1⟩:=ak (w.alloc (.cells #[.int .i64 op,.int .i64 n,.string s,.slice A k c] 64));have hb1:=dz HW1;have hs1:w.heap.size≤w1.heap.size:=hb1.size;have HB1:=Hd hb1;have HT:=Hd (ZA n w1 hn1 hn2);clear hb1;have hc:op=1∨op=2∨op=3∨op=4:=by omega
 clear ho iC
 rcases hc with rfl|rfl|rfl|rfl
 ·obtain⟨S,hS⟩:=aj (aO n);have HR:Hid (mq aO 1 n (bs s)=S):=by show _=_;rw[hS];rfl
  rw[←hS]at HT;clear hS;go_in;go_wp2_with fail;rw[←HW1];refine HT.mono ?_;rintro e w2 ⟨rfl,hb2⟩;have HB2:=Hd (HB1.trans (hb2.mono hs1));clear hb2;go_wp2_with fail;go_ret;exact⟨by rw[HR];rfl,HB2⟩
 ·by_cases h1:n=1
  ·subst h1;go_in
   go_wp2
   go_ret;exact⟨rfl,by rw[←HW1];exact HB1⟩
  ·have h1':(n==1)=false:=by simpa using h1
   have HR:Hid (mq aO 2 n (bs s)=[102,97,108,115,101]):=by show _=_;unfold mq;rw[iN (by omega),iP rfl,iN h1]
   clear h1;go_in
   go_wp2
   go_ret;exact⟨by rw[HR];rfl,by rw[←HW1];exact HB1⟩
 ·go_in
  go_wp2
  go_ret;exact⟨rfl,by rw[←HW1];exact HB1⟩
 ·obtain⟨S1,hS1⟩:∃S1:ByteArray,S1=(⟨#[110,101,120,116,40]⟩:ByteArray)++s:=⟨_,rfl⟩;obtain⟨S2,hS2⟩:∃S2:ByteArray,S2=S1++(⟨#[41]⟩:ByteArray):=⟨_,rfl⟩;have hz1:S1.size≤1005:=by rw[hS1,bA];show 5+s.size≤_;omega
  have Ib:∀W,(Op.stringOp .add (⟨#[110,101,120,116,40]⟩:ByteArray) s).run Tryz.prog W=.ok (.string S1) W:=fun W=>by rw[hS1];exact run_string_add_sum W _ _ (by show 5+s.size≤_;omega)
  have uP:∀W,(Op.stringOp .add S1 (⟨#[41]⟩:ByteArray)).run Tryz.prog W=.ok (.string S2) W:=fun W=>by rw[hS2];exact run_string_add_sum W _ _ (by show S1.size+1≤_;omega)
  have HR:Hid ((⟨(mq aO 4 n (bs s)).toArray⟩:ByteArray)=S2):=by show _=_;apply gV;rw[hS2,hS1];unfold mq;simp[bs]
  clear hS1 hS2 hz1;go_in
  go_wp2
  go_ret;exact⟨by rw[HR];rfl,by rw[←HW1];exact HB1⟩
theorem Qi(op:Int)(f:Bool)(w:World)(h6:6≤op)(Aj:op≤17) :
 Calls Tryz.prog 138 #[.int .i64 op,.bool f] w fun e w'=>e=.returned (.int .i64 ((aX op (if f then 0 else 1):Nat)+1:Int))∧w=w':=by
 have HS:=Hd (Dj op w);have hc:op=6∨op=7∨op=8∨op=9∨op=10∨op=11∨op=12∨op=13∨op=14∨op=15∨op=16∨op=17:=by omega
 clear h6 Aj
 rcases hc with rfl|rfl|rfl|rfl|rfl|rfl|rfl|rfl|rfl|rfl|rfl|rfl
 all_goals
  cases f
  all_goals
   simp only[bQ]at HS;go_in;go_wp2_with fail;refine HS.mono ?_;rintro e w1 ⟨rfl,hw⟩;rw[←hw];clear hw
   go_wp2
   go_ret;exact⟨rfl,rfl⟩
mutual
def E9:Tm→Bool
 |.mk o n s l=>if (o=3∨o=4)∧isName s.data.toList=false then true else if (o=6∨o=7)∧l.length=1 then true else uR l
def uR:List Tm→Bool
 |[]=>false
 |t::r=>E9 t||uR r
end
theorem ae3(t:Tm):E9 t=if (t.op=3∨t.op=4)∧isName t.name.data.toList=false then true else if (t.op=6∨t.op=7)∧t.kids.length=1 then true else uR t.kids:=by
 cases t;rw[E9];rfl
mutual
theorem Qj:∀(t:Tm) (d:Nat),t.lI d→E9 t=!iW t
 |.mk o n s l,d,h=>by
  rw[Tm.lI]at h;have hl:=ND l (d+1) h.2.2;rw[E9,iW]
  by_cases h34:o=3∨o=4
  ·have hk:(cu o).2=0:=by unfold cu;rw[iP (by omega)]
   have hw:=(jJ h.2.1).2.2.2.2.1;rw[hk]at hw;have hl0:l=[]:=List.eq_nil_of_length_eq_zero (by omega);rw[iN (show ¬((o=6∨o=7)∧l.length=1) by omega),iN (show ¬((o=6∨o=7)∧l.length=1) by omega),iP h34,hl0];cases hn:isName s.data.toList
   ·rw[iP ⟨h34,rfl⟩];rfl
   ·rw[iN (fun h=>by cases h.2)];rfl
  ·rw[iN (fun h=>h34 h.1),iN h34,hl]
   by_cases h67:(o=6∨o=7)∧l.length=1
   ·rw[iP h67,iP h67];rfl
   ·rw[iN h67,iN h67]
theorem ND:∀(l:List Tm) (d:Nat),Tm.Gj l d→uR l=!j_ l
 |[],_,_=>rfl
 |t::r,d,h=>by
  rw[Tm.Gj]at h;rw[uR,j_,Qj t d h.1,ND r d h.2];cases iW t<;>cases j_ r<;>rfl
end
theorem acK:∀(N:Nat) (t:Tm) (A:Option Addr) (c:Nat) (w:World) (d:Nat),t.size≤N→t.size≤9000000→t.lI d→zx w A c t →
 Calls Tryz.prog 109 #[t.val A c] w fun e w'=>e=.returned (.bool (E9 t))∧Below w.heap.size w w':=by
 intro N
 induction N with
 |zero=>
  intro t A c w d hN;cases t;rw[Tm.size]at hN;omega
 |succ N ih=>
  intro t A c w d hN hd hok hV;obtain⟨n,hn⟩:=aj t.kids.length;obtain⟨F,hF⟩:∃F:Ending→World→Prop,F=fun e w'=>e=.returned (.bool (E9 t))∧Below w.heap.size w w':=⟨_,rfl⟩;rw[←hF];have hsz:t.size=1+Tm.aA t.kids:=by cases t;rw[Tm.size];rfl
  have hnl:=Tm.wG t.kids;have hcap:=hV.cap;have aQ:=hV.bU;unfold maxLen at aQ;have hnm:t.name.size≤24:=(jJ (jI hok).2.1).2.2.1;obtain⟨w1,hw1⟩:=aj (w.alloc (.cells #[.int .i64 t.op,.int .i64 t.num,.string t.name,.slice A n c] 64));have hb1:=dz hw1;have hs1:w1.heap.size=w.heap.size+1:=by rw[hw1];simp
  have hbx:w1.heap[w.heap.size]?=some (.cells #[.int .i64 t.op,.int .i64 t.num,.string t.name,.slice A n c] 64 (0,0)):=by rw[hw1];exact eu w _
  have his:=agO t.name w1 (by omega);have bE:=Hd (ae3 t);obtain⟨r,hr⟩:=aj (E9 t);rw[←hr]at bE hF;obtain⟨nb,hnb⟩:=aj (isName t.name.data.toList);rw[show isName (bs t.name)=isName t.name.data.toList from rfl,←hnb]at his;rw[←hnb]at bE;have HIS:=Hd his;have BQ:Hid (∀k∈t.kids,k.lI (d+1)):=(jI hok).2.2
  have mg:Hid (∀k∈t.kids,k.size≤N∧k.size≤9000000):=fun k hk=>by
   have h1:=Tm.aM hk;omega
  have hkl:t.kids.length≤10000000:=by omega
  rw[←hn]at hcap hkl bE;show Calls Tryz.prog 109 #[.agg #[.int .i64 t.op,.int .i64 t.num,.string t.name,.slice A t.kids.length c]] w F;rw[←hn];have HF:=Hd hF;have qm:=Hd ih;have HN:=Hd hn;have HK:=Hd hV.kids;have HB1:=Hd hb1;have fA:=Hd hs1;have qH:=Hd hbx;have HW1:=Hd hw1;obtain⟨op,hop⟩:=aj t.op
  have Oh:∀W,Below w1.heap.size w1 W→W.cell? ⟨w.heap.size,3,none⟩=some (.slice A n c)∧W.cell? ⟨w.heap.size,0,none⟩=some (.int .i64 op)∧W.cell? ⟨w.heap.size,2,none⟩=some (.string t.name):=fun W hb=>by
   have hx:=(hb.block _ (by rw[fA];omega)).trans qH;rw[hop];exact⟨by rw[cR W w.heap.size 3 _ _ (0,0) hx];rfl,by rw[cR W w.heap.size 0 _ _ (0,0) hx];rfl,by rw[cR W w.heap.size 2 _ _ (0,0) hx];rfl⟩
  have nV:=Hd Oh;rw[←hop]at bE HW1⊢;clear hF ih hn hsz hnl hb1 hs1 hbx hw1 hV hN hr hnb his hok Oh hnm hop
  have hcl:(op=3∨op=4)∨((op=6∨op=7)∧n=1)∨(op=6∧n≠1∧((n:Int)==1)=false)∨(op=7∧n≠1∧((n:Int)==1)=false)∨(op≠6∧op≠7∧op≠3∧op≠4∧(op==6)=false∧(op==7)=false∧(op==3)=false∧(op==4)=false):=by
   by_cases h3:op=3
   ·exact .inl (.inl h3)
   by_cases h4:op=4
   ·exact .inl (.inr h4)
   by_cases h6:op=6
   ·by_cases h1:n=1
    ·exact .inr (.inl ⟨.inl h6,h1⟩)
    ·exact .inr (.inr (.inl ⟨h6,h1,by simp;omega⟩))
   by_cases h7:op=7
   ·by_cases h1:n=1
    ·exact .inr (.inl ⟨.inr h7,h1⟩)
    ·exact .inr (.inr (.inr (.inl ⟨h7,h1,by simp;omega⟩)))
   exact .inr (.inr (.inr (.inr ⟨h6,h7,h3,h4,by simpa using h6,by simpa using h7,by simpa using h3,by simpa using h4⟩)))
  rcases hcl with h34|⟨h67,h1⟩|hrest
  ·cases nb with
   |false=>
    have HR:Hid (r=true):=by show _=_;rw[bE,iP ⟨h34,rfl⟩]
    rcases h34 with rfl|rfl
    all_goals
     go_in;go_wp2_with fail;rw[←HW1];refine HIS.mono ?_;rintro e w2 ⟨rfl,hb2⟩;have HB2:=Hd (HB1.trans (hb2.mono (by have:=fA.out;omega)));clear hb2;go_wp2_with fail;rw[HF,HR];exact⟨rfl,HB2⟩
   |true=>
    have HR:Hid (r=uR t.kids):=by show _=_;rw[bE,iN (fun h=>by cases h.2),iN (by omega)]
    rcases h34 with rfl|rfl
    all_goals
     go_in;go_wp2_with fail;rw[←HW1];refine HIS.mono ?_;rintro e w2 ⟨rfl,hb2⟩;have HST:=Hd hb2;obtain⟨ks3,ks0,ks2⟩:=nV w2 hb2;have hbw2:w.heap.size<w2.heap.size:=by have:=fA.out;have:=hb2.size;omega
     clear hb2;go_wp2_with fail
     go_loopw [3] (fun si wr=>∃k:Nat,k≤n∧si=.int .i64 k∧Below w1.heap.size w1 wr∧uR (t.kids.drop k)=r) (fun i _=>n-(intOf i).toNat)
     case atStart=>exact⟨0,zl _,rfl,HST,HR.symm⟩
     case round=>
      obtain⟨k,hk,rfl,hbel,htl⟩:=hrel;have oU:=Hd hbel;have Tf:=Hd htl;have nR:=hbel.size;obtain⟨Sd,ZE,kr2⟩:=nV wr hbel;have hbt:Below w.heap.size w wr:=HB1.trans (hbel.mono (by have:=fA.out;omega));have Jb:w.heap.size<wr.heap.size:=by have:=fA.out;omega
      by_cases hlt:k<n
      ·obtain⟨kd,hkd⟩:∃kd,t.kids[k]?=some kd:=⟨_,gG (by have:=HN.out;omega)⟩;have hmem:kd∈t.kids:=mG hkd
       rcases HK.out with h9|⟨g,off,rfl,hg,hrow⟩
       ·rw[h9]at hkd;simp at hkd
       have hat:=(hrow.get hkd).below hbt rfl hg;obtain⟨q0,q1,q2,A2,c2,q3,hV2⟩:=hat.open;have hgw:g<wr.heap.size:=by omega
       have hih:=qm kd A2 c2 wr (d+1) (mg kd hmem).1 (mg kd hmem).2 (BQ kd hmem) hV2;unfold Tm.val at hih;obtain⟨n2,hn2⟩:=aj kd.kids.length;rw[←hn2]at q3 hih;obtain⟨z,hz⟩:=aj (E9 kd);rw[←hz]at hih
       have HDR:Hid (uR (t.kids.drop k)=(z||uR (t.kids.drop (k+1)))):=by
        obtain⟨hj,hj2⟩:=gE.1 hkd;show _=_;rw[List.drop_eq_getElem_cons hj,hj2,uR,←hz]
       have HC:=Hd hih;have hk0:(0:Int)≤(k:Int):=by omega
       have hk1:(k:Int)<(n:Int):=by omega
       have e1:off+4*k=off+k*4:=by omega
       rw[e1]at q0 q1 q2 q3;have oW:=Hd hbt;clear hih hn2 hz hV2 hat hrow hmem hkd e1 hbel htl hbt ZE kr2;go_wp2_with fail;refine HC.mono ?_;rintro e w4 ⟨rfl,hb4⟩;have pU:=Hd (oU.trans (hb4.mono nR));have bZ:=Hd (oW.trans (hb4.mono (by omega)));clear hb4 q0 q1 q2 q3 Sd
       cases z with
       |true=>
        have HR2:Hid (r=true):=by show _=_;rw[←Tf,HDR];rfl
        go_wp2_with fail;rw[HF,HR2];exact⟨rfl,bZ⟩
       |false=>
        have HR2:Hid (uR (t.kids.drop (k+1))=r):=by show _=_;rw[←Tf,HDR];rfl
        go_wp2_with fail
        go_roundw
        case rel=>exact⟨k+1,by omega,by go_num,pU,HR2⟩
        case measure=>simp[intOf];omega
      ·have HE:Hid (r=false):=by
        show _=_;rw[←Tf,List.drop_eq_nil_of_le (by have:=HN.out;omega)]
        rfl
       have hk1:¬(k:Int)<(n:Int):=by omega
       have lK:=Hd hbt;clear hlt hbel htl hbt ZE kr2;go_wp2_with fail;rw[HF,HE];exact⟨rfl,lK⟩
  ·have HR:Hid (r=true):=by show _=_;rw[bE,iN (by omega),iP ⟨h67,h1⟩]
   subst h1
   rcases h67 with rfl|rfl
   all_goals
    go_in;go_wp2_with fail;rw[HF,HR];exact⟨rfl,by rw[←HW1];exact HB1⟩
  ·have HR:Hid (r=uR t.kids):=by show _=_;rw[bE,iN (by omega),iN (by omega)]
   have HST:Hid (Below w1.heap.size w1 w1):=Br _ _
   rcases hrest with⟨rfl,h1,h1b⟩|⟨rfl,h1,h1b⟩|⟨h6,h7,h3,h4,b6,b7,b3,b4⟩
   all_goals
    (try clear h1)
    (try clear h6 h7 h3 h4)
    go_in;go_wp2_with fail;rw[←HW1]
    go_loopw [3] (fun si wr=>∃k:Nat,k≤n∧si=.int .i64 k∧Below w1.heap.size w1 wr∧uR (t.kids.drop k)=r) (fun i _=>n-(intOf i).toNat)
    case atStart=>exact⟨0,zl _,rfl,HST,HR.symm⟩
    case round=>
     obtain⟨k,hk,rfl,hbel,htl⟩:=hrel;have oU:=Hd hbel;have Tf:=Hd htl;have nR:=hbel.size;obtain⟨Sd,ZE,kr2⟩:=nV wr hbel;have hbt:Below w.heap.size w wr:=HB1.trans (hbel.mono (by have:=fA.out;omega));have Jb:w.heap.size<wr.heap.size:=by have:=fA.out;omega
     by_cases hlt:k<n
     ·obtain⟨kd,hkd⟩:∃kd,t.kids[k]?=some kd:=⟨_,gG (by have:=HN.out;omega)⟩;have hmem:kd∈t.kids:=mG hkd
      rcases HK.out with h9|⟨g,off,rfl,hg,hrow⟩
      ·rw[h9]at hkd;simp at hkd
      have hat:=(hrow.get hkd).below hbt rfl hg;obtain⟨q0,q1,q2,A2,c2,q3,hV2⟩:=hat.open;have hgw:g<wr.heap.size:=by omega
      have hih:=qm kd A2 c2 wr (d+1) (mg kd hmem).1 (mg kd hmem).2 (BQ kd hmem) hV2;unfold Tm.val at hih;obtain⟨n2,hn2⟩:=aj kd.kids.length;rw[←hn2]at q3 hih;obtain⟨z,hz⟩:=aj (E9 kd);rw[←hz]at hih
      have HDR:Hid (uR (t.kids.drop k)=(z||uR (t.kids.drop (k+1)))):=by
       obtain⟨hj,hj2⟩:=gE.1 hkd;show _=_;rw[List.drop_eq_getElem_cons hj,hj2,uR,←hz]
      have HC:=Hd hih;have hk0:(0:Int)≤(k:Int):=by omega
      have hk1:(k:Int)<(n:Int):=by omega
      have e1:off+4*k=off+k*4:=by omega
      rw[e1]at q0 q1 q2 q3;have oW:=Hd hbt;clear hih hn2 hz hV2 hat hrow hmem hkd e1 hbel htl hbt ZE kr2;go_wp2_with fail;refine HC.mono ?_;rintro e w4 ⟨rfl,hb4⟩;have pU:=Hd (oU.trans (hb4.mono nR));have bZ:=Hd (oW.trans (hb4.mono (by omega)));clear hb4 q0 q1 q2 q3 Sd
      cases z with
      |true=>
       have HR2:Hid (r=true):=by show _=_;rw[←Tf,HDR];rfl
       go_wp2_with fail;rw[HF,HR2];exact⟨rfl,bZ⟩
      |false=>
       have HR2:Hid (uR (t.kids.drop (k+1))=r):=by show _=_;rw[←Tf,HDR];rfl
       go_wp2_with fail
       go_roundw
       case rel=>exact⟨k+1,by omega,by go_num,pU,HR2⟩
       case measure=>simp[intOf];omega
     ·have HE:Hid (r=false):=by
       show _=_;rw[←Tf,List.drop_eq_nil_of_le (by have:=HN.out;omega)]
       rfl
      have hk1:¬(k:Int)<(n:Int):=by omega
      have lK:=Hd hbt;clear hlt hbel htl hbt ZE kr2;go_wp2_with fail;rw[HF,HE];exact⟨rfl,lK⟩
theorem NG{op:Int}{i:Nat}(h:op=6∨op=7∨i≤1):aX op i=aX op (if decide (i=0)then 0 else 1):=by
 by_cases h0:i=0
 ·subst h0;rfl
 ·have hd:decide (i=0)=false:=dF h0;rw[hd];simp only[Bool.false_eq_true,if_false]
  rcases h with rfl|rfl|h
  ·rfl
  ·rfl
  ·rw[show i=1 by omega]
theorem Vi(op:Int)(i:Nat)(h:i≤1):aX op i≤8:=by
 unfold aX
 repeat' split
 all_goals omega
def oJ(t:Tm)(ends:Bool):Bs:=fD aO t.op t.num t.name.data.toList (nX aO t.kids ends) (iR aO t.kids 0) (aW aO t.op t.kids 0 ends)
theorem ae4(t:Tm)(rule:Nat)(ends:Bool):nU aO t rule ends=if pB t rule ends=true then[40]++oJ t true++[41]else oJ t ends:=by
 rw[QK];unfold uj oJ;cases h:pB t rule ends
 ·simp
 ·simp
theorem agQ(t:Tm):pB t 0 true=false:=by unfold pB;simp
theorem Em{op:Int}{l:List Tm}{k:Nat}{t:Tm}{ends:Bool}(h:l[k]?=some t):aW aO op (l.drop k) k ends=(if k=0 then[]else lG op)++nU aO t (aX op k) (ends&&decide (k+1=l.length))++aW aO op (l.drop (k+1)) (k+1) ends:=by
 obtain⟨hj,hj2⟩:=gE.1 h;rw[List.drop_eq_getElem_cons hj,hj2,aW]
 have he:(l.drop (k+1)).isEmpty=decide (k+1=l.length):=by
  by_cases h2:k+1=l.length
  ·rw[decide_eq_true h2,List.drop_eq_nil_of_le (by omega)];rfl
  ·rw[dF h2,List.drop_eq_getElem_cons (by omega)];rfl
 rw[he]
theorem Vj{t:Tm}{d:Nat}(h:t.lI d):(1≤t.op∧t.op≤4∧t.kids=[])∨(t.op=5∧∃a,t.kids=[a])∨(t.op=18∧∃a b c,t.kids=[a,b,c])∨(6≤t.op∧t.op≤17∧0<t.kids.length∧(t.op=6∨t.op=7∨t.kids.length=2)):=by
 obtain⟨-,hw,-⟩:=jI h;obtain⟨h1,-,-,h2,h3,-⟩:=jJ hw
 generalize t.kids=l at *
 generalize t.op=op at *
 by_cases c1:op=1∨op=2∨op=3∨op=4
 ·have hk:cu op=(0,0):=by unfold cu;rw[iP c1]
  rw[hk]at h3;exact .inl ⟨by omega,by omega,List.eq_nil_of_length_eq_zero (by simp only at h3;omega)⟩
 by_cases c2:op=5
 ·have hk:cu op=(1,1):=by unfold cu;rw[iN c1,iP c2]
  rw[hk]at h2 h3;simp only at h2 h3
  match l,show l.length=1 by omega with
  |[a],_=>exact .inr (.inl ⟨c2,a,rfl⟩)
 by_cases c3:op=6∨op=7
 ·have hk:cu op=(1,64):=by unfold cu;rw[iN c1,iN c2,iP c3]
  rw[hk]at h2;simp only at h2;exact .inr (.inr (.inr ⟨by omega,by omega,by omega,by omega⟩))
 by_cases c4:op=8∨op=9∨op=10∨op=11∨op=12∨op=13∨op=14∨op=15∨op=16∨op=17
 ·have hk:cu op=(2,2):=by unfold cu;rw[iN c1,iN c2,iN c3,iP c4]
  rw[hk]at h2 h3;simp only at h2 h3;exact .inr (.inr (.inr ⟨by omega,by omega,by omega,.inr (.inr (by omega))⟩))
 by_cases c5:op=18
 ·have hk:cu op=(3,3):=by unfold cu;rw[iN c1,iN c2,iN c3,iN c4,iP c5]
  rw[hk]at h2 h3;simp only at h2 h3
  match l,show l.length=3 by omega with
  |[a,b,c],_=>exact .inr (.inr (.inl ⟨c5,a,b,c,rfl⟩))
 exfalso
 have hk:cu op=(-1,-1):=by unfold cu;rw[iN c1,iN c2,iN c3,iN c4,iN c5]
 rw[hk]at h1;simp at h1
theorem ZG{t:Tm}{ends:Bool}(h1:1≤t.op)(h4:t.op≤4):oJ t ends=mq aO t.op t.num t.name.data.toList:=by
 unfold oJ fD;rw[iP (by omega)]
theorem Qk{t a:Tm}{ends:Bool}(h:t.op=5)(hk:t.kids=[a]):oJ t ends=[33]++nU aO a 4 ends:=by
 unfold oJ fD;rw[iN (by omega),iP h,hk];rfl
theorem ae5{t a b c:Tm}{ends:Bool}(h:t.op=18)(hk:t.kids=[a,b,c]):oJ t ends=KH 0++nU aO a 0 true++KH 1++nU aO b 0 true++KH 2++nU aO c 0 true:=by
 unfold oJ fD;rw[iN (by omega),iN (by omega),iP h,hk];simp[iR]
theorem ZH{t:Tm}{ends:Bool}(h6:6≤t.op)(Aj:t.op≤17):oJ t ends=aW aO t.op t.kids 0 ends:=by
 unfold oJ fD;rw[iN (by omega),iN (by omega),iN (by omega)]
theorem Ql{t:Tm}{ends:Bool}{d:Nat}(h:t.lI d):(oJ t ends).length≤80*t.size:=by
 unfold oJ;have hok:=h
 cases t with
 |mk op n s l=>
  rw[Tm.lI]at h;have hs:=(jJ h.2.1).2.2.1;have hsl:s.data.toList.length=s.size:=by simp
  have hb:=Pb bB op n s.data.toList (nX aO l ends) (iR aO l 0) (aW aO op l 0 ends) (80*Tm.aA l) (jJ h.2.1).2.1 (LC bB l _ _ h.2.2) (II bB l _ _ h.2.2) (Ce bB op l _ _ _ h.2.2);rw[Tm.size];show(fD aO op n s.data.toList _ _ _).length≤_;simp only[Tm.kids,Tm.op];omega
end Go.Proofs.YtkhoeoilamddaaaGreatDoor
