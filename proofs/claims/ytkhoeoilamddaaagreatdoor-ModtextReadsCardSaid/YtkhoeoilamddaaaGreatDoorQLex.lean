/- Walks and plain words: Lex Lex1 Lex2 Lex3 Lex4 Lex5. -/
import Derived.Test.YtkhoeoilamddaaaGreatDoorRows
import Derived.Test.YtkhoeoilamddaaaGreatDoorQSml
import Derived.WalkSpells
import Derived.BigQuiet
import Derived.Test.YtkhoeoilamddaaaGreatDoorQShelf
import Derived.Lib.AsciiSet
namespace Go.Proofs.YtkhoeoilamddaaaGreatDoor
set_option linter.unusedVariables false
abbrev Bs:=List UInt8
def qX(c:UInt8):Bool:=c.toNat==32||c.toNat==9||c.toNat==10||c.toNat==13
def dV(c:UInt8):Bool:=(decide (97≤c.toNat)&&decide (c.toNat≤122))||(decide (65≤c.toNat)&&decide (c.toNat≤90))
def isDigit(c:UInt8):Bool:=decide (48≤c.toNat)&&decide (c.toNat≤57)
def bD(c:UInt8):Bool:=dV c||isDigit c||c.toNat==95
def bs(s:ByteArray):Bs:=s.data.toList
theorem aC(s:ByteArray):(bs s).length=s.size:=by unfold bs;rw[Array.length_toList];rfl
theorem JI(l:Bs):bs ⟨l.toArray⟩=l:=rfl
theorem gV{s t:ByteArray}(h:bs s=bs t):s=t:=by
 cases s;cases t;simp only[bs]at h
 congr 1
 exact Array.toList_inj.1 h
theorem nW{s:ByteArray}{k:Nat}(h:k<s.size):(bs s)[k]?=some s[k]:=by
 unfold bs;rw[Array.getElem?_toList];exact Array.getElem?_eq_getElem (by exact h)
theorem gW(s:ByteArray)(a b:Nat):bs (s.extract a b)=((bs s).take b).drop a:=by
 unfold bs;rw[show(s.extract a b).data=s.data.extract a b from by simp];rw[Array.toList_extract];simp[List.drop_take]
theorem O5{l:Bs}{k:Nat}{c:UInt8}(h:l[k]?=some c):l.take (k+1)=l.take k++[c]:=by
 obtain⟨D,rfl⟩:=gE.1 h;exact List.take_succ_eq_append_getElem D
theorem drop_cons{l:Bs}{k:Nat}{c:UInt8}(h:l[k]?=some c):l.drop k=c::l.drop (k+1):=by
 obtain⟨D,rfl⟩:=gE.1 h;exact List.drop_eq_getElem_cons D
open Go.RowKit
theorem sO(c:UInt8)(w:World):Calls Tryz.prog 71 #[.int .u8 (c.toNat:Nat)] w fun e w'=>e=.returned (.bool (dV c))∧w=w':=by
 have hb:c.toNat<256:=c.toNat_lt;unfold dV
 generalize c.toNat=n at *
 by_cases h1:97≤n<;>by_cases h2:n≤122<;>by_cases h3:65≤n<;>by_cases D:n≤90
 all_goals first
  |(exfalso;omega)
  |(go_in
    go_wp2
    go_ret
    exact⟨by first|(simp[h1,h2,h3,D];done)|(simp[h1,h2,h3,D];omega),rfl⟩)
theorem BZ(c:UInt8)(w:World):Calls Tryz.prog 84 #[.int .u8 (c.toNat:Nat)] w fun e w'=>e=.returned (.bool (dV c))∧w=w':=by
 have hb:c.toNat<256:=c.toNat_lt;unfold dV
 generalize c.toNat=n at *
 by_cases h1:97≤n<;>by_cases h2:n≤122<;>by_cases h3:65≤n<;>by_cases D:n≤90
 all_goals first
  |(exfalso;omega)
  |(go_in
    go_wp2
    go_ret
    exact⟨by first|(simp[h1,h2,h3,D];done)|(simp[h1,h2,h3,D];omega),rfl⟩)
theorem zB(c:UInt8)(w:World):Calls Tryz.prog 75 #[.int .u8 (c.toNat:Nat)] w fun e w'=>e=.returned (.bool (isDigit c))∧w=w':=by
 have hb:c.toNat<256:=c.toNat_lt;unfold isDigit
 generalize c.toNat=n at *
 by_cases h1:48≤n<;>by_cases h2:n≤57
 all_goals first
  |(exfalso;omega)
  |(go_in
    go_wp2
    go_ret
    exact⟨by first|(simp[h1,h2];done)|(simp[h1,h2];omega),rfl⟩)
theorem Lm(c:UInt8)(w:World):Calls Tryz.prog 88 #[.int .u8 (c.toNat:Nat)] w fun e w'=>e=.returned (.bool (isDigit c))∧w=w':=by
 have hb:c.toNat<256:=c.toNat_lt;unfold isDigit
 generalize c.toNat=n at *
 by_cases h1:48≤n<;>by_cases h2:n≤57
 all_goals first
  |(exfalso;omega)
  |(go_in
    go_wp2
    go_ret
    exact⟨by first|(simp[h1,h2];done)|(simp[h1,h2];omega),rfl⟩)
theorem Wi(c:UInt8)(w:World):Calls Tryz.prog 73 #[.int .u8 (c.toNat:Nat)] w fun e w'=>e=.returned (.bool (bD c))∧w=w':=by
 have J:=fun w=>sO c w;have hd:=fun w=>zB c w;unfold bD
 generalize dV c=b1 at *
 generalize isDigit c=b2 at *
 have I:=Hd J;have G:=Hd hd;have hb:c.toNat<256:=c.toNat_lt;clear J hd
 by_cases D:c.toNat=95
 ·have e1:(c.toNat==95)=true:=by simpa using D
  have e2:((c.toNat:Int)==95)=true:=by simp;omega
  rw[e1];clear D e1;cases b1<;>cases b2
  all_goals
   go_in
   go_wp2_with (first|(go_at_call 71;refine(I _).mono ?_;rintro e w' ⟨rfl,rfl⟩)|(go_at_call 75;refine(G _).mono ?_;rintro e w' ⟨rfl,rfl⟩))
   go_ret;exact⟨rfl,rfl⟩
 ·have e1:(c.toNat==95)=false:=by simpa using D
  have e2:((c.toNat:Int)==95)=false:=by simp;omega
  rw[e1];clear D e1;cases b1<;>cases b2
  all_goals
   go_in
   go_wp2_with (first|(go_at_call 71;refine(I _).mono ?_;rintro e w' ⟨rfl,rfl⟩)|(go_at_call 75;refine(G _).mono ?_;rintro e w' ⟨rfl,rfl⟩))
   go_ret;exact⟨rfl,rfl⟩
def rowLen(p:UInt8→Bool)(l:Bs):Nat:=(l.takeWhile p).length
theorem qF(p:UInt8→Bool)(l:Bs):rowLen p l≤l.length:=by unfold rowLen;exact(List.takeWhile_prefix p).length_le
theorem fG{p:UInt8→Bool}{c:UInt8}{l:Bs}(h:p c=true):rowLen p (c::l)=rowLen p l+1:=by simp[rowLen,h]
theorem nK{p:UInt8→Bool}{c:UInt8}{l:Bs}(h:p c=false):rowLen p (c::l)=0:=by simp[rowLen,h]
theorem SS(p:UInt8→Bool)(f:Nat)(hf:∀(c:UInt8) (w:World),Calls Tryz.prog f #[.int .u8 (c.toNat:Nat)] w fun e w'=>e=.returned (.bool (p c))∧w=w')
 (hrun:∀(args:Array Value)(w:World),(callFunc f args).run Tryz.prog w=.ok (.enter f args) w)
 (s:ByteArray) (w:World) (hs:s.size≤maxLen) :
 Calls Tryz.prog 72 #[.string s,.func (.func f) #[] #[]] w fun e w'=>e=.returned (.int .i64 (rowLen p (bs s)))∧w=w':=by
 unfold maxLen at hs;have HF:=Hd hf;clear hf;go_in
 go_wp2
 go_loop [5] (fun n=>∃k:Nat,k≤s.size∧n=.int .i64 k∧rowLen p (bs s)=k+rowLen p ((bs s).drop k)) (fun n=>s.size-(intOf n).toNat)
 case atStart=>exact⟨0,zl _,rfl,by simp⟩
 case round=>
  obtain⟨k,hk,rfl,D⟩:=hrel;have G:=Hd D;clear D
  by_cases O:k<s.size
  ·have hd:=drop_cons (nW O);have Y:=Hd hd;clear hd;cases hp:p s[k]
   ·have I:=Hd (nK (l:=(bs s).drop (k+1)) hp);have J:=Hd hp;clear hp;go_wp2_with fail;refine(HF s[k] _).mono ?_;rw[J];rintro e w' ⟨rfl,rfl⟩
    go_wp2
    go_ret;exact⟨by rw[G,Y,I];rfl,rfl⟩
   ·have I:=Hd (fG (l:=(bs s).drop (k+1)) hp);have J:=Hd hp;clear hp;go_wp2_with fail;refine(HF s[k] _).mono ?_;rw[J];rintro e w' ⟨rfl,rfl⟩
    go_wp2
    go_round
    case rel=>exact⟨k+1,by omega,by go_num,by rw[G,Y,I];omega⟩
    case measure=>simp[intOf];omega
  ·go_wp2
   go_ret;have h0:(bs s).drop k=[]:=List.drop_eq_nil_of_le (by rw[aC];omega);exact⟨by rw[G,h0];rfl,rfl⟩
theorem Dw(s:ByteArray)(w:World)(hs:s.size≤maxLen):Calls Tryz.prog 72 #[.string s,.func (.func 75) #[] #[]] w fun e w'=>e=.returned (.int .i64 (rowLen isDigit (bs s)))∧w=w':=
 SS isDigit 75 zB (fun _ _=>by kernel_rfl) s w hs
theorem Lp(s:ByteArray)(w:World)(hs:s.size≤maxLen):Calls Tryz.prog 72 #[.string s,.func (.func 73) #[] #[]] w fun e w'=>e=.returned (.int .i64 (rowLen bD (bs s)))∧w=w':=
 SS bD 73 Wi (fun _ _=>by kernel_rfl) s w hs
set_option maxRecDepth 100000
set_option maxHeartbeats 4000000
def agZ:Bs:=[32,9,10,13]
theorem abq(c:UInt8):agZ.contains c=qX c:=by
 unfold agZ qX;rw[Bool.eq_iff_iff];simp[←UInt8.toNat_inj];omega
theorem ascii_of_all{l:List UInt8}(h:l.all (fun b=>decide (b.toNat<128))=true):∀(j:Nat) b,l[j]?=some b→b.toNat<128:=by
 intro j b hb;have:=List.all_eq_true.1 h b (mG hb)
 simpa using this
theorem acY{s:ByteArray}(h:0<s.size):s.toList.isEmpty=false:=by
 rw[ByteArray.toList_eq];have:=aC s
 cases hl:s.data.toList with
 |nil=>unfold bs at this;rw[hl]at this;simp at this;omega
 |cons _ _=>rfl
theorem afB{t:ByteArray}:bs (t.extract 1 t.size)=(bs t).drop 1:=by
 rw[gW,←aC,List.take_length]
theorem Oo(s:ByteArray)(b:Nat)(w:World)(hs:s.size≤maxLen)(D:∀x:UInt8,w.cell? ⟨b,x.toNat,none⟩=some (.bool (qX x))) :
 Calls Tryz.prog 115 #[.string s,.pointer (some ⟨b,0,none⟩)] w fun e w'=>(∃t:ByteArray,e=.returned (.string t)∧bs t=(bs s).dropWhile qX)∧w=w':=by
 unfold maxLen at hs;have Y:=Hd D;clear D;go_in
 go_wp2
 go_loop [0] (fun v=>∃t:ByteArray,v=.string t∧t.size≤s.size∧(bs t).dropWhile qX=(bs s).dropWhile qX) (fun v=>match v with|.string t=>t.size|_=>0)
 case atStart=>exact⟨s,rfl,lr _,rfl⟩
 case round=>
  obtain⟨t,rfl,aa,I⟩:=hrel;have J:=Hd I;clear I
  by_cases h0:0<t.size
  ·have hd:=drop_cons (nW h0);rw[List.drop_zero]at hd;have O:=Hd hd;clear hd;cases hw:qX t[0]
   ·have G:=Hd hw;clear hw;go_wp2_with fail;refine(Tryz.asciiSet_contains b t[0] _ _ (Y t[0])).mono ?_;rw[G];rintro e w' ⟨rfl,rfl⟩
    go_wp2
    go_ret;exact⟨⟨t,rfl,by rw[←J,O,List.dropWhile_cons_of_neg (by rw[G];simp)]⟩,rfl⟩
   ·have G:=Hd hw;clear hw;go_wp2_with fail;refine(Tryz.asciiSet_contains b t[0] _ _ (Y t[0])).mono ?_;rw[G];rintro e w' ⟨rfl,rfl⟩
    go_wp2
    go_round
    case rel=>
     refine⟨t.extract 1 t.size,rfl,by simp;omega,?_⟩;rw[←J,afB,O,List.dropWhile_cons_of_pos G]
     rfl
    case measure=>simp;omega
  ·go_wp2
   go_ret;have hn:bs t=[]:=List.eq_nil_of_length_eq_zero (by rw[aC];omega);exact⟨⟨t,rfl,by rw[←J,hn];rfl⟩,rfl⟩
theorem afC:∀w,(zeroValue 173).run Tryz.prog w=.ok (.agg (Array.replicate 256 (.bool false))) w:=fun w=>by kernel_rfl
set_option maxRecDepth 1000000 in
theorem Qu(s:ByteArray)(w:World)(hs:s.size≤maxLen) :
 Calls Tryz.prog 68 #[.string s,.string ⟨#[32,9,10,13]⟩] w fun e w'=>(∃t:ByteArray,e=.returned (.string t)∧bs t=(bs s).dropWhile qX)∧Below w.heap.size w w':=by
 by_cases h0:0<s.size
 ·have J:=Tryz.strings_makeASCIISet afC ⟨#[32,9,10,13]⟩ w (by decide) (ascii_of_all (by decide));obtain⟨C,I⟩:=aj (Lib.setCells (ByteArray.mk #[32,9,10,13]).data.toList);rw[←I]at J;have hsz:C.size=256:=by rw[I];exact Lib.setCells_size _
  have D:C.all (·.oneCell')=true:=by rw[I];exact Lib.setCells_one _
  have hsc:(storeCells ⟨w.heap.size+1,0,none⟩ C.toList 0).run Tryz.prog ((w.alloc (.cells C 173)).alloc (.cells Tryz.zeroCells173 173))=.ok () ((w.alloc (.cells C 173)).alloc (.cells C 173)):=by
   have:=run_storeCells_new (P:=Tryz.prog) (w.alloc (.cells C 173)) 173 Tryz.zeroCells173 C (by rw[hsz];kernel_rfl) (by rw[hsz];kernel_rfl) D
   simpa using this
  have G:Hid (∀x:UInt8,((w.alloc (.cells C 173)).alloc (.cells C 173)).cell? ⟨w.heap.size+1,x.toNat,none⟩=some (.bool (qX x))):=fun x=>by
   rw[World.cell?_alloc_at _ _ _ _ (by simp),I,Lib.setCells_at,←abq]
   rfl
  have hne:=acY h0;have O:=Hd J;have N9:=Hd hsc;clear J I hsc D;go_in;go_wp2_with fail;refine O.mono ?_;rintro e w' ⟨rfl,rfl⟩;go_wp2_with fail;rw[N9];simp only[Result.andThen];rw[Oper.upon_skip];go_wp2_with fail;refine(Oo s _ _ hs G.out).mono ?_;rintro e w' ⟨⟨t,rfl,ht⟩,rfl⟩;have Y:=Hd ht;clear ht
  go_wp2
  go_ret;exact⟨⟨t,rfl,Y⟩,((Br _ _).alloc (lr _) _).alloc (by simp) _⟩
 ·have hn:bs s=[]:=List.eq_nil_of_length_eq_zero (by rw[aC];omega);obtain rfl:s=⟨#[]⟩:=gV hn;go_in
  go_wp2
  go_ret;exact⟨⟨_,rfl,rfl⟩,Br _ _⟩
def valOf(l:Bs):Nat:=l.foldl (fun n c=>10*n+(c.toNat-48)) 0
theorem Fg(l:Bs)(c:UInt8):valOf (l++[c])=10*valOf l+(c.toNat-48):=by simp[valOf,List.foldl_append]
theorem Lr:∀(k:Nat) (l:Bs),l.length=k→(∀c∈l,isDigit c=true)→valOf l<10^k
 |0,l,h,_=>by rw[List.eq_nil_of_length_eq_zero h];decide
 |k+1,l,h,hd=>by
  rcases List.eq_nil_or_concat l with rfl|⟨r,c,rfl⟩
  ·simp at h
  ·have h1:=Lr k r (by simp at h;omega) (fun x hx=>hd x (by simp[hx]));have h2:=hd c (by simp);simp only[isDigit,Bool.and_eq_true,decide_eq_true_eq]at h2;rw[List.concat_eq_append,Fg,Nat.pow_succ];omega
def eX(l:Bs):Nat×Nat×Nat:=
 if 1<rowLen isDigit l∧(l[0]?.map (·.toNat)=some 48)then(0,0,15)
 else if 3<rowLen isDigit l then(0,0,2)
 else if 255<valOf (l.take (rowLen isDigit l))then(0,0,2)
 else(valOf (l.take (rowLen isDigit l)),rowLen isDigit l,0)
theorem Fh{p:UInt8→Bool}{l:Bs}:∀c∈l.take (rowLen p l),p c=true:=by
 unfold rowLen;intro c hc
 have e:l.take (l.takeWhile p).length=l.takeWhile p:=by
  exact(List.prefix_iff_eq_take.1 (List.takeWhile_prefix p)).symm
 rw[e]at hc;have:=List.all_takeWhile (p:=p) (l:=l);exact List.all_eq_true.1 this c hc
def Qv(l:Bs):Value:=.tuple #[.int .i64 (eX l).1,.string ⟨(l.take (eX l).2.1).toArray⟩,.int .i64 (eX l).2.2]
theorem Wj(s:ByteArray)(w:World)(hs:s.size≤maxLen) :
 Calls Tryz.prog 76 #[.string s] w fun e w'=>e=.returned (Qv (bs s))∧w=w':=by
 have hsz:=aC s;obtain⟨n,hn⟩:=aj (rowLen isDigit (bs s));have aE:n≤s.size:=by rw[hn,←hsz];exact qF _ _
 have I:Hid (∀c∈(bs s).take n,isDigit c=true):=by rw[hn];exact Fh
 obtain⟨t,ht⟩:∃t,s.extract 0 n=t:=⟨_,rfl⟩;have ab:bs t=(bs s).take n:=by rw[←ht,gW];simp
 have aF:t.size=n:=by rw[←aC,ab,List.length_take,hsz];omega
 have hmin:min n s.size=n:=by omega
 have HN:=Hd hn;have oW:=Hd ab;have mg:=Hd hsz;have hu:=hs;unfold maxLen at hu
 have D:=Hd (show eX (bs s)=if 1<n∧((bs t)[0]?.map (·.toNat)=some 48)then(0,0,15)else if 3<n then(0,0,2)else if 255<valOf (bs t)then(0,0,2)else(valOf (bs t),n,0)from by
  unfold eX;rw[←hn,ab]
  by_cases h1:1<n
  ·have:((bs s).take n)[0]?=(bs s)[0]?:=by rw[List.getElem?_take,iP (by omega)]
   rw[this]
  ·simp[h1])
 clear hn ab hsz
 have fin:∀(a:Nat)(l:Nat)(e:Nat),eX (bs s)=(a,l,e)→Qv (bs s)=.tuple #[.int .i64 a,.string (s.extract 0 l),.int .i64 e]:=by
  intro a l e h;unfold Qv;rw[h];have:(⟨((bs s).take l).toArray⟩:ByteArray)=s.extract 0 l:=gV (by rw[JI,gW];simp);rw[this]
 have J:=Hd fin;clear fin
 by_cases h1:1<n
 ·have h0:0<t.size:=by omega
  have ae:=nW h0
  by_cases hz:t[0].toNat=48
  ·have az:((t[0].toNat:Int)==48)=true:=by simp;omega
   have O:=J 0 0 15 (by rw[D.out,iP];exact⟨h1,by rw[ae];simp[hz]⟩);have ar:=Hd O;clear O ae hz;go_in;go_wp2_with fail;refine(Dw s _ hs).mono ?_;rw[←HN];rintro e w' ⟨rfl,rfl⟩
   go_wp2
   go_ret3
   exact⟨by rw[ar,show s.extract 0 0=(⟨#[]⟩:ByteArray)from gV (by rw[gW];simp[bs])];rfl,rfl⟩
  ·have az:((t[0].toNat:Int)==48)=false:=by simp;omega
   have Qx:=Hd (show eX (bs s)=if 3<n then(0,0,2)else if 255<valOf (bs t)then(0,0,2)else(valOf (bs t),n,0)from by
    rw[D.out,iN];rintro⟨_,h⟩;rw[ae]at h;simp at h
    exact hz h)
   clear ae hz;go_in
   by_cases h3:3<n
   ·have O:=Hd (J 0 0 2 (by rw[Qx.out,iP h3]));have ao:(3:Int)<(n:Int):=by omega
    go_wp2_with fail;refine(Dw s _ hs).mono ?_;rw[←HN];rintro e w' ⟨rfl,rfl⟩
    go_wp2
    go_ret3
    exact⟨by rw[O,show s.extract 0 0=(⟨#[]⟩:ByteArray)from gV (by rw[gW];simp[bs])];rfl,rfl⟩
   ·have ao:¬(3:Int)<(n:Int):=by omega
    have Ls:=Hd (show eX (bs s)=if 255<valOf (bs t)then(0,0,2)else(valOf (bs t),n,0)from by rw[Qx.out,iN h3]);have av:n≤3:=by omega
    clear h3;go_wp2_with fail;refine(Dw s _ hs).mono ?_;rw[←HN];rintro e w' ⟨rfl,rfl⟩;go_wp2_with fail
    go_loop [6,27] (fun sa si=>∃k:Nat,k≤n∧si=.int .i64 k∧sa=.int .i64 (valOf ((bs t).take k):Nat)) (fun _ i=>n-(intOf i).toNat)
    case atStart=>exact⟨0,zl _,rfl,rfl⟩
    case round=>
     obtain⟨k,hk,rfl,rfl⟩:=hrel;have hv:=Lr k ((bs t).take k) (by rw[List.length_take,aC];omega) (fun c hc=>I.out c (by rw[←oW];exact List.mem_of_mem_take hc));have ag:valOf ((bs t).take k)<1000:=lL hv (Nat.le_trans (Nat.pow_le_pow_right (by decide) (show k≤3 by omega)) (by decide));clear hv
     by_cases ay:k<n
     ·have aa:k<t.size:=by omega
      have Y:=I.out t[k] (by rw[←oW];exact mG (nW aa));have hts:=Hd (O5 (nW aa));simp only[isDigit,Bool.and_eq_true,decide_eq_true_eq]at Y;have ai:=Hd (Fg ((bs t).take k) t[k]);obtain⟨d1,d2⟩:=Y
      generalize valOf ((bs t).take k)=v at *
      have aw:(0:Int)≤(k:Int):=by omega
      have ax:(k:Int)<(n:Int):=by omega
      go_wp2
      go_round
      case rel=>exact⟨k+1,by omega,by go_num,by rw[hts.out,ai.out];exact congrArg (Value.int .i64) (by omega)⟩
      case measure=>simp[intOf];omega
     ·have af:k=n:=by omega
      subst af;have G:(bs t).take k=bs t:=List.take_of_length_le (by rw[aC];omega);rw[G]at ag⊢
      by_cases SX:255<valOf (bs t)
      ·have O:=Hd (J 0 0 2 (by rw[Ls.out,iP SX]));have SY:(255:Int)<(valOf (bs t):Int):=by omega
       clear G
       go_wp2
       go_ret3
       exact⟨by rw[O,show s.extract 0 0=(⟨#[]⟩:ByteArray)from gV (by rw[gW];simp[bs])];rfl,rfl⟩
      ·have O:=Hd (J _ _ _ (by rw[Ls.out,iN SX]));have SY:¬(255:Int)<(valOf (bs t):Int):=by omega
       clear G
       go_wp2
       go_ret3
       exact⟨by rw[O,ht];rfl,rfl⟩
 ·have Qx:=Hd (show eX (bs s)=if 3<n then(0,0,2)else if 255<valOf (bs t)then(0,0,2)else(valOf (bs t),n,0)from by
   rw[D.out,iN];rintro⟨h,_⟩
   exact h1 h)
  go_in
  by_cases h3:3<n
  ·exfalso;omega
  ·have ao:¬(3:Int)<(n:Int):=by omega
   have Ls:=Hd (show eX (bs s)=if 255<valOf (bs t)then(0,0,2)else(valOf (bs t),n,0)from by rw[Qx.out,iN h3]);have av:n≤3:=by omega
   clear h3;go_wp2_with fail;refine(Dw s _ hs).mono ?_;rw[←HN];rintro e w' ⟨rfl,rfl⟩;go_wp2_with fail
   go_loop [6,27] (fun sa si=>∃k:Nat,k≤n∧si=.int .i64 k∧sa=.int .i64 (valOf ((bs t).take k):Nat)) (fun _ i=>n-(intOf i).toNat)
   case atStart=>exact⟨0,zl _,rfl,rfl⟩
   case round=>
    obtain⟨k,hk,rfl,rfl⟩:=hrel;have hv:=Lr k ((bs t).take k) (by rw[List.length_take,aC];omega) (fun c hc=>I.out c (by rw[←oW];exact List.mem_of_mem_take hc));have ag:valOf ((bs t).take k)<1000:=lL hv (Nat.le_trans (Nat.pow_le_pow_right (by decide) (show k≤3 by omega)) (by decide));clear hv
    by_cases ay:k<n
    ·have aa:k<t.size:=by omega
     have Y:=I.out t[k] (by rw[←oW];exact mG (nW aa));have hts:=Hd (O5 (nW aa));simp only[isDigit,Bool.and_eq_true,decide_eq_true_eq]at Y;have ai:=Hd (Fg ((bs t).take k) t[k]);obtain⟨d1,d2⟩:=Y
     generalize valOf ((bs t).take k)=v at *
     have aw:(0:Int)≤(k:Int):=by omega
     have ax:(k:Int)<(n:Int):=by omega
     go_wp2
     go_round
     case rel=>exact⟨k+1,by omega,by go_num,by rw[hts.out,ai.out];exact congrArg (Value.int .i64) (by omega)⟩
     case measure=>simp[intOf];omega
    ·have af:k=n:=by omega
     subst af;have G:(bs t).take k=bs t:=List.take_of_length_le (by rw[aC];omega);rw[G]at ag⊢
     by_cases SX:255<valOf (bs t)
     ·have O:=Hd (J 0 0 2 (by rw[Ls.out,iP SX]));have SY:(255:Int)<(valOf (bs t):Int):=by omega
      clear G
      go_wp2
      go_ret3
      exact⟨by rw[O,show s.extract 0 0=(⟨#[]⟩:ByteArray)from gV (by rw[gW];simp[bs])];rfl,rfl⟩
     ·have O:=Hd (J _ _ _ (by rw[Ls.out,iN SX]));have SY:¬(255:Int)<(valOf (bs t):Int):=by omega
      clear G
      go_wp2
      go_ret3
      exact⟨by rw[O,ht];rfl,rfl⟩
def lC:List ByteArray:=[⟨#[65]⟩,⟨#[65,70]⟩,⟨#[65,71]⟩,⟨#[65,88]⟩,⟨#[69]⟩,⟨#[69,70]⟩,⟨#[69,71]⟩,⟨#[69,88]⟩,⟨#[85]⟩,⟨#[98,111,111,108]⟩,⟨#[100,101,102]⟩,⟨#[101,108,115,101]⟩,⟨#[102,97,105,114]⟩,⟨#[102,97,108,115,101]⟩,⟨#[105,102]⟩,⟨#[105,110,105,116]⟩,⟨#[105,110,118,97,114]⟩,⟨#[109,111,100]⟩,⟨#[110,101,120,116]⟩,⟨#[115,112,101,99]⟩,⟨#[116,104,101,110]⟩,⟨#[116,114,97,110,115]⟩,⟨#[116,114,117,101]⟩,⟨#[118,97,114]⟩]
def gQ:List ByteArray:=[⟨#[60,45,62]⟩,⟨#[58,61]⟩,⟨#[45,62]⟩,⟨#[46,46]⟩,⟨#[60,61]⟩,⟨#[33,61]⟩,⟨#[61]⟩,⟨#[60]⟩,⟨#[38]⟩,⟨#[124]⟩,⟨#[33]⟩,⟨#[40]⟩,⟨#[41]⟩,⟨#[91]⟩,⟨#[93]⟩,⟨#[59]⟩,⟨#[58]⟩,⟨#[44]⟩,⟨#[43]⟩,⟨#[45]⟩,⟨#[42]⟩]
structure Tables(w:World):Prop where
 size:2≤w.heap.size
 words:∀j,j<24→w.cell? ⟨0,j,none⟩=some (.string (lC.getD j ByteArray.empty))
 signs:∀j,j<21→w.cell? ⟨1,j,none⟩=some (.string (gQ.getD j ByteArray.empty))
theorem Tables.below{w w':World}(h:Tables w)(hb:Below w.heap.size w w'):Tables w':=
 ⟨Nat.le_trans h.size hb.size,fun j D=>by rw[hb.cell (p:=⟨0,j,none⟩) (by have:=h.size;show 0<_;omega)];exact h.words j D,
   fun j D=>by rw[hb.cell (p:=⟨1,j,none⟩) (by have:=h.size;show 1<_;omega)];exact h.signs j D⟩
theorem Tables.Aq{w w':World}{B:Nat}(h:Tables w)(hb:Below B w w')(h2:2≤B):Tables w':=
 ⟨Nat.le_trans h.size hb.size,fun j D=>by rw[hb.cell (p:=⟨0,j,none⟩) (by show 0<_;omega)];exact h.words j D,
   fun j D=>by rw[hb.cell (p:=⟨1,j,none⟩) (by show 1<_;omega)];exact h.signs j D⟩
def jC(l:Bs):List ByteArray→Nat→Option Nat
 |[],_=>none
 |x::r,k=>if (bs x).isPrefixOf l then some k else jC l r (k+1)
def Wm:Option Nat→Int
 |some k=>k
 |none=>-1
theorem B_{l:Bs}:∀(L:List ByteArray)(k i:Nat),jC l L k=some i→k≤i∧∃x,L[i-k]?=some x∧(bs x).isPrefixOf l=true
 |[],_,_,h=>by cases h
 |x::r,k,i,h=>by
  unfold jC at h
  split at h
  ·injection h with h
   subst h;exact⟨lr _,x,by simp,by assumption⟩
  ·obtain⟨h1,y,hy,hp⟩:=B_ r (k+1) i h;refine⟨by omega,y,?_,hp⟩;rw[show i-k=(i-(k+1))+1 by omega]
   simpa using hy
theorem Qy(D:Nat)(r x:ByteArray)(w:World)(I:w.cell? ⟨D,0,none⟩=some (.string r)) :
 Calls Tryz.prog 78 #[.string x,.pointer (some ⟨D,0,none⟩)] w fun e w'=>e=.returned (.bool ((bs x).isPrefixOf (bs r)))∧w=w':=by
 have hp:=Tryz.strings_HasPrefix r x;have G:=Hd hp;clear hp;go_in;go_wp2_with fail;refine(G _).mono ?_;rintro e w' ⟨rfl,rfl⟩
 go_wp2
 go_ret;exact⟨rfl,rfl⟩
theorem abr(t7:Nat)(r:ByteArray)(w:World)(hT:Tables w)(h7:w.cell? ⟨t7,0,none⟩=some (.string r)) :
 Calls Tryz.prog 77 #[.slice (some ⟨1,0,none⟩) 21 21,.func (.func 78) #[] #[.pointer (some ⟨t7,0,none⟩)]] w fun e w'=>e=.returned (.int .i64 (Wm (jC (bs r) gQ 0)))∧w=w':=by
 have HT:=Hd hT;have hs:=hT.signs;have HS:=Hd hs;clear hs hT;go_in;go_wp2_with fail
 go_loop [8] (fun si=>∃k:Nat,k≤21∧si=.int .i64 k∧jC (bs r) gQ 0=jC (bs r) (gQ.drop k) k) (fun i=>21-(intOf i).toNat)
 case atStart=>exact⟨0,zl _,rfl,rfl⟩
 case round=>
  obtain⟨k,hk,rfl,G⟩:=hrel;have O:=Hd G;clear G
  by_cases I:k<21
  ·have hc:=HS k I;obtain⟨x,hx⟩:∃x,gQ.getD k ByteArray.empty=x:=⟨_,rfl⟩;rw[hx]at hc
   have hd:gQ.drop k=x::gQ.drop (k+1):=by
    have hl:k<gQ.length:=by show k<21;exact I
    rw[List.drop_eq_getElem_cons hl];have aa:gQ[k]=x:=by rw[←hx];simp[List.getD,hl]
    rw[aa]
   have HD:=Hd hd;clear hd hx;have ab:(0:Int)≤(k:Int):=by omega
   have ae:(k:Int)<(21:Int):=by omega
   have D:=Qy t7 r x w h7;cases hp:(bs x).isPrefixOf (bs r)
   ·rw[hp]at D;have Y:=Hd hp;have J:=Hd D;clear hp D;go_wp2_with fail;refine J.mono ?_;rintro e w' ⟨rfl,rfl⟩
    go_wp2
    go_round
    case rel=>exact⟨k+1,by omega,by go_num,by rw[O,HD,jC,iN (by rw[Y];simp)]⟩
    case measure=>simp[intOf];omega
   ·rw[hp]at D;have Y:=Hd hp;have J:=Hd D;clear hp D;go_wp2_with fail;refine J.mono ?_;rintro e w' ⟨rfl,rfl⟩
    go_wp2
    go_ret;exact⟨by rw[O,HD,jC,iP Y.out];rfl,rfl⟩
  ·have Oq:k=21:=by omega
   subst Oq
   go_wp2
   go_ret;exact⟨by rw[O];rfl,rfl⟩
def rz(c:UInt8):Bool:=!(c.toNat==10)
def dashes(l:Bs):Bool:=Lib.hasPrefix l [45,45]
def rA:Nat→Bs→Bs
 |0,l=>l
 |_+1,[]=>[]
 |n+1,c::r=>if qX c then rA n r else if dashes (c::r)then rA n ((c::r).dropWhile rz)else c::r
theorem ug{l:Bs}(h:dashes l=true):∃r,l=45::45::r:=by
 unfold dashes Lib.hasPrefix at h
 match l,h with
 |[],h=>cases h
 |[_],h=>simp[List.isPrefixOf]at h
 |a::b::r,h=>
  simp[List.isPrefixOf]at h;exact⟨r,by rw[←h.1,←h.2]⟩
theorem EH(p:UInt8→Bool)(l:Bs):(l.dropWhile p).length≤l.length:=(List.dropWhile_suffix p).length_le
theorem yg{l:Bs}(h:dashes l=true):(l.dropWhile rz).length+2≤l.length:=by
 obtain⟨r,rfl⟩:=ug h;have:((45:UInt8)::45::r).dropWhile rz=r.dropWhile rz:=rfl;rw[this];have:=EH rz r;simp only[List.length_cons];omega
theorem yR:∀(n m:Nat) (l:Bs),l.length≤n→l.length≤m→rA n l=rA m l
 |0,m,l,h1,h2=>by
  have:l=[]:=List.eq_nil_of_length_eq_zero (by omega);subst this;cases m<;>rfl
 |n+1,0,l,h1,h2=>by
  have:l=[]:=List.eq_nil_of_length_eq_zero (by omega);subst this
  rfl
 |n+1,m+1,[],h1,h2=>rfl
 |n+1,m+1,c::r,h1,h2=>by
  simp only[List.length_cons]at h1 h2;unfold rA
  split
  ·exact yR n m r (by omega) (by omega)
  ·split
   ·rename_i h
    have:=yg h;simp only[List.length_cons]at this;exact yR n m _ (by omega) (by omega)
   ·rfl
def blank(l:Bs):Bs:=rA l.length l
theorem abt:blank []=[]:=rfl
theorem zC{c:UInt8}{r:Bs}(h:qX c=true):blank (c::r)=blank r:=by
 unfold blank;show rA (r.length+1) (c::r)=_;rw[rA,iP h]
theorem EI{l:Bs}(h:dashes l=true):blank l=blank (l.dropWhile rz):=by
 obtain⟨r,rfl⟩:=ug h;have D:=yg h;simp only[List.length_cons]at D;unfold blank;show rA ((45::r).length+1) (45::45::r)=_;rw[rA,iN (by decide),iP h];exact yR _ _ _ (by simp only[List.length_cons];omega) (lr _)
theorem Fj{c:UInt8}{r:Bs}(h:qX c=false)(hd:dashes (c::r)=false):blank (c::r)=c::r:=by
 unfold blank;show rA (r.length+1) (c::r)=_;rw[rA,iN (by rw[h];simp),iN (by rw[hd];simp)]
theorem Wo(l:Bs):blank (l.dropWhile qX)=blank l:=by
 induction l with
 |nil=>rfl
 |cons c r D=>
  cases h:qX c
  ·rw[List.dropWhile_cons_of_neg (by rw[h];simp)]
  ·rw[List.dropWhile_cons_of_pos h,D,zC h]
theorem yS:∀(n:Nat) (l:Bs),(rA n l) <:+ l
 |0,l=>List.suffix_refl l
 |n+1,[]=>List.suffix_refl []
 |n+1,c::r=>by
  unfold rA
  split
  ·exact(yS n r).trans (List.suffix_cons c r)
  ·split
   ·exact(yS n _).trans (List.dropWhile_suffix _)
   ·exact List.suffix_refl _
theorem Ar(l:Bs):blank l <:+ l:=yS _ l
theorem O6(l:Bs):(blank l).length≤l.length:=(Ar l).length_le
theorem Ca{a l:Bs}(h:a <:+ l):l.drop (l.length-a.length)=a:=by
 obtain⟨p,rfl⟩:=h;rw[List.length_append,show p.length+a.length-a.length=p.length by omega];simp
structure Tok where
 kind:Int
 n:Int
 text:Bs
 at_:Int
def Tok.cells(t:Tok):Array Value:=#[.int .i64 t.kind,.int .i64 t.n,.string ⟨t.text.toArray⟩,.int .i64 t.at_]
def Tok.val(t:Tok):Value:=.agg t.cells
def EJ:Tok:=⟨0,0,[],0⟩
def isWord(l:Bs):Bool:=Lib.containsS lC ⟨l.toArray⟩
def scan(l:Bs):Int×Nat×Nat×Int:=
 match l with
 |[]=>(5,0,0,0)
 |c::_=>
  if dV c then
   if 24<rowLen bD l then(0,0,0,4)
   else if isWord (l.take (rowLen bD l))then(3,0,rowLen bD l,0)
   else(2,0,rowLen bD l,0)
  else if isDigit c then
   if (eX l).2.2=0 then(1,(eX l).1,(eX l).2.1,0)else(0,0,0,(eX l).2.2)
  else match jC l gQ 0 with
   |some k=>(4,0,(gQ.getD k ByteArray.empty).size,0)
   |none=>(0,0,0,15)
def next(l:Bs)(p:Nat):Tok×Nat×Int:=
 let r:=blank (l.drop p)
 let q:=l.length-r.length
 let x:=scan r
 if x.2.2.2=0 then(⟨x.1,x.2.1,r.take x.2.2.1,q⟩,q+x.2.2.1,0)else(EJ,q,x.2.2.2)
def nextVal(x:Tok×Nat×Int):Value:=.tuple #[x.1.val,.int .i64 x.2.1,.int .i64 x.2.2]
theorem indexByte_ge(l:Bs)(c:UInt8):-1≤Lib.indexByte l c:=by
 induction l with
 |nil=>exact Int.le_refl _
 |cons a r D=>
  unfold Lib.indexByte
  split
  ·omega
  ·split<;>omega
theorem Qz(l:Bs):(Lib.indexByte l 10<0∧l.dropWhile rz=[])∨∃k:Nat,Lib.indexByte l 10=k∧k≤l.length∧l.drop k=l.dropWhile rz:=by
 induction l with
 |nil=>exact .inl ⟨by decide,rfl⟩
 |cons b r I=>
  unfold Lib.indexByte
  by_cases hb:b=10
  ·subst hb;exact .inr ⟨0,rfl,zl _,rfl⟩
  ·have hn:rz b=true:=by
    unfold rz;simp;intro h;exact hb (UInt8.toNat_inj.1 h)
   rw[iN (by simpa using hb),List.dropWhile_cons_of_pos hn]
   rcases I with⟨h1,h2⟩|⟨k,h1,h2,h3⟩
   ·left
    refine⟨?_,h2⟩
    split
    ·decide
    ·rename_i hne
     have D:Lib.indexByte r 10≠-1:=by simpa using hne
     have G:=indexByte_ge r 10;omega
   ·right
    rw[h1,iN (by simp)];exact⟨k+1,by omega,by simp only[List.length_cons];omega,by simpa using h3⟩
theorem Wp{l m:Bs}(h:l=m.dropWhile qX)(hd:dashes l=false):blank l=l:=by
 cases l with
 |nil=>rfl
 |cons c r=>
  refine Fj ?_ hd;cases hc:qX c
  ·rfl
  ·exfalso
   clear hd
   induction m with
   |nil=>simp at h
   |cons a m D=>
    cases ha:qX a
    ·rw[List.dropWhile_cons_of_neg (by rw[ha];simp)]at h
     injection h with h _
     rw[h,ha]at hc;cases hc
    ·rw[List.dropWhile_cons_of_pos ha]at h;exact D h
theorem KF{l t:Bs}{p q:Nat}{k:Int}{n len:Nat}{e:Int}(hb:blank (l.drop p)=t)(hq:l.drop q=t)(D:q≤l.length)(hs:scan t=(k,n,len,e)) :
 next l p=if e=0 then(⟨k,n,t.take len,q⟩,q+len,0)else(EJ,q,e):=by
 have hlen:t.length=l.length-q:=by rw[←hq,List.length_drop]
 have e1:l.length-t.length=q:=by omega
 unfold next;rw[hb];simp only[hs,e1]
theorem Lu:scan []=(5,0,0,0):=rfl
theorem uh{c:UInt8}{r:Bs}(h:dV c=true):scan (c::r)=if 24<rowLen bD (c::r)then(0,0,0,4)else if isWord ((c::r).take (rowLen bD (c::r)))then(3,0,rowLen bD (c::r),0)else(2,0,rowLen bD (c::r),0):=by
 simp only[scan,h,if_true]
theorem wC{c:UInt8}{r:Bs}(h:dV c=false)(h2:isDigit c=true):scan (c::r)=if (eX (c::r)).2.2=0 then((1:Int),(eX (c::r)).1,(eX (c::r)).2.1,(0:Int))else((0:Int),0,0,((eX (c::r)).2.2:Int)):=by
 simp only[scan,h,h2,Bool.false_eq_true,if_true,if_false]
theorem Dx{c:UInt8}{r:Bs}(h:dV c=false)(h2:isDigit c=false):scan (c::r)=match jC (c::r) gQ 0 with
 |some k=>((4:Int),0,(gQ.getD k ByteArray.empty).size,0)
 |none=>(0,0,0,15):=by
 simp only[scan,h,h2,Bool.false_eq_true,if_false]
end Go.Proofs.YtkhoeoilamddaaaGreatDoor
