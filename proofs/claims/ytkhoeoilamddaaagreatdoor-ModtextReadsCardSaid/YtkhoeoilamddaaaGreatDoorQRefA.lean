/- Walks and plain words: RefA LexB LexC LexD LexI. -/
import Derived.Test.YtkhoeoilamddaaaGreatDoorQNumA
namespace Go.Proofs.YtkhoeoilamddaaaGreatDoor
open Go.RowKit
set_option linter.unusedVariables false
set_option maxRecDepth 100000
set_option maxHeartbeats 8000000
theorem acF(op:Int)(w:World) :
 Calls Tryz.prog 185 #[.int .i64 op] w fun e w'=>e=.returned (.tuple #[.int .i64 (cu op).1,.int .i64 (cu op).2])∧w=w':=by
 have hc:op=1∨op=2∨op=3∨op=4∨op=5∨op=6∨op=7∨op=8∨op=9∨op=10∨op=11∨op=12∨op=13∨op=14∨op=15∨op=16∨op=17∨op=18∨(op<1∨18<op):=by omega
 rcases hc with rfl|rfl|rfl|rfl|rfl|rfl|rfl|rfl|rfl|rfl|rfl|rfl|rfl|rfl|rfl|rfl|rfl|rfl|hc
 iterate 18
  ·go_in
   go_wp2
   go_ret2
   exact⟨rfl,rfl⟩
 ·have D:Hid (cu op=(-1,-1)):=by
   show _=_;unfold cu;rw[iN (by omega),iN (by omega),iN (by omega),iN (by omega),iN (by omega)]
  obtain⟨r,hr⟩:=aj (cu op);rw[←hr]at D⊢;clear hr;have I:(op==1)=false:=by simp;omega
  have J:(op==2)=false:=by simp;omega
  have O:(op==3)=false:=by simp;omega
  have Y:(op==4)=false:=by simp;omega
  have b5:(op==5)=false:=by simp;omega
  have b6:(op==6)=false:=by simp;omega
  have b7:(op==7)=false:=by simp;omega
  have b8:(op==18)=false:=by simp;omega
  rcases hc with hc|hc
  ·go_in
   go_wp2
   go_ret2
   rw[D];exact⟨rfl,rfl⟩
  ·have G:¬op<1:=by omega
   go_in
   go_wp2
   go_ret2
   rw[D];exact⟨rfl,rfl⟩
theorem anh(op n:Int)(s:ByteArray)(A:Option Addr)(k c d:Nat)(w:World)(hs:s.size≤maxLen)(hk:k≤maxLen)(hd:d≤100000000) :
 Calls Tryz.prog 167 #[.agg #[.int .i64 op,.int .i64 n,.string s,.slice A k c],.int .i64 d] w fun e w'=>e=.returned (.int .i64 (if 64<d then 17 else j5 op n s.size k))∧Below w.heap.size w w':=by
 unfold maxLen at hs hk;obtain⟨fk,J⟩:=ak (cu op);obtain⟨W,HW⟩:=ak (j5 op n s.size k);rw[←HW];have HK:=Hd (fun W=>acF op W);rw[←J]at HK;have HB:=Hd ((Br w.heap.size w).alloc (lr _) (.cells #[.int .i64 op,.int .i64 n,.string s,.slice A k c] 64))
 by_cases D:64<d
 ·have Y:(64:Int)<(d:Int):=by omega
  have HD:=Hd D;clear D;go_in;go_wp2_with fail;go_ret;exact⟨rfl,HB⟩
 have Y:¬(64:Int)<(d:Int):=by omega
 have HD:=Hd D;clear D
 have ab:(0<s.size∧s.toList.isEmpty=false)∨(s.size=0∧s.toList.isEmpty=true):=by
  rcases Nat.eq_zero_or_pos s.size with h|h
  ·exact .inr ⟨h,mY h⟩
  ·exact .inl ⟨h,rE h⟩
 have O:op=1∨op=2∨op=3∨op=4∨(op≠1∧op≠2∧op≠3∧op≠4∧(op==1)=false∧(op==2)=false∧(op==3)=false∧(op==4)=false):=by
  by_cases h1:op=1
  ·exact .inl h1
  by_cases h2:op=2
  ·exact .inr (.inl h2)
  by_cases h3:op=3
  ·exact .inr (.inr (.inl h3))
  by_cases I:op=4
  ·exact .inr (.inr (.inr (.inl I)))
  exact .inr (.inr (.inr (.inr ⟨h1,h2,h3,I,by simpa using h1,by simpa using h2,by simpa using h3,by simpa using I⟩)))
 rcases ab with⟨G,aa⟩|⟨G,aa⟩
 all_goals
  have Iz:=Hd G;try clear G
  rcases O with rfl|rfl|rfl|rfl|⟨h1,h2,h3,I,b1,b2,b3,b4⟩
  all_goals
   (try have gy:=Hd (And.intro h1 (And.intro h2 (And.intro h3 I))))
   (try clear h1 h2 h3 I)
   go_in;go_wp2_with fail;refine(HK _).mono ?_;rintro e w' ⟨rfl,hw⟩;rw[←hw];clear hw;go_wp2_with fail
   all_goals
    go_ret;refine⟨?_,HB⟩;have hn:=Iz.out;refine congrArg (fun x=>Ending.returned (.int .i64 x)) ?_;rw[HW]
    first
     |rw[kT 1 n _ _ (-255) 255 0 rfl rfl rfl]
     |rw[kT 2 n _ _ 0 1 0 rfl rfl rfl]
     |rw[kT 3 n _ _ 0 0 1 rfl rfl rfl]
     |rw[kT 4 n _ _ 0 0 1 rfl rfl rfl]
     |(obtain⟨o1,o2,o3,o4⟩:=gy.out
       rw[kT op n _ _ 0 0 0 (iN o1) (by unfold O8;rw[iN o1,iN o2]) (by rw[iN (by omega)])])
    rw[←J]
    repeat' split
    all_goals first|rfl|omega
theorem Ve:∀(N:Nat) (t:Tm) (d p:Nat) (A:Option Addr) (c:Nat) (w:World),t.size≤N→d+t.size≤10000000→p≤4096→zx w A c t →
 Calls Tryz.prog 134 #[t.val A c,.int .i64 d,.int .i64 p] w fun e w'=>e=.returned (.tuple #[.int .i64 (kN eO t d (0,p)).1.1,.int .i64 ((kN eO t d (0,p)).1.2:Nat)])∧Below w.heap.size w w':=by
 intro N
 induction N with
 |zero=>
  intro t d p A c w hN;cases t;rw[Tm.size]at hN;omega
 |succ N ih=>
  intro t d p A c w hN hd hp hV;obtain⟨n,hn⟩:=aj t.kids.length;obtain⟨X,hX⟩:=aj (kN eO t d (0,p));obtain⟨F,hF⟩:∃F:Ending→World→Prop,F=fun e w'=>e=.returned (.tuple #[.int .i64 X.1.1,.int .i64 (X.1.2:Nat)])∧Below w.heap.size w w':=⟨_,rfl⟩;rw[←hX,←hF];have hsz:t.size=1+Tm.aA t.kids:=by cases t;rw[Tm.size];rfl
  have bl:=Tm.wG t.kids;have ao:=hV.cap;have aQ:=hV.bU;unfold maxLen at aQ;obtain⟨w1,hw1⟩:=aj (w.alloc (.cells #[.int .i64 t.op,.int .i64 t.num,.string t.name,.slice A n c] 64));have hb1:=dz hw1;have a6:w1.heap.size=w.heap.size+1:=by rw[hw1];simp
  have aP:w1.heap[w.heap.size]?=some (.cells #[.int .i64 t.op,.int .i64 t.num,.string t.name,.slice A n c] 64 (0,0)):=by rw[hw1];exact eu w _
  have av:=anh t.op t.num t.name A t.kids.length c d w1 hV.name (Nat.le_trans hV.cap hV.bU) (by omega);obtain⟨pe,ar⟩:=aj (if 64<d then 17 else j5 t.op t.num t.name.size t.kids.length);rw[←ar,←hn]at av
  have ag:Hid (X=if pe=0 then(if 4096<p+1 then((4,p+1),false)else kG eO t.kids (d+1) (0,p+1))else((pe,p+1),false)):=by
   show _=_;rw[hX,Cc];have bm:eO (0,p) t d=((if 64<d then 17 else if j5 t.op t.num t.name.size t.kids.length=0∧4096<p+1 then 4 else j5 t.op t.num t.name.size t.kids.length,p+1),decide ((if 64<d then(17:Int)else if j5 t.op t.num t.name.size t.kids.length=0∧4096<p+1 then 4 else j5 t.op t.num t.name.size t.kids.length)=0)):=rfl;rw[bm,ar]
   generalize j5 t.op t.num t.name.size t.kids.length=we
   by_cases h1:64<d
   ·simp[h1]
   ·by_cases h2:we=0
    ·by_cases h3:4096<p+1
     ·simp[h1,h2,h3]
     ·simp[h1,h2,h3]
    ·simp[h1,h2]
  have bj:t.kids.length≤10000000:=by omega
  rw[←hn]at ao bj
  have mg:Hid (∀k∈t.kids,k.size≤N∧d+1+k.size≤10000000):=fun k hk=>by
   have h1:=Tm.aM hk;omega
  show Calls Tryz.prog 134 #[.agg #[.int .i64 t.op,.int .i64 t.num,.string t.name,.slice A t.kids.length c],.int .i64 d,.int .i64 p] w F;rw[←hn];have HF:=Hd hF;have qm:=Hd ih;have HN:=Hd hn;have HK:=Hd hV.kids;have a8:=Hd hb1;have fA:=Hd a6;have qH:=Hd aP;have bb:=Hd hw1;have ba:=Hd av;have br:d≤10000000:=by omega
  clear hF ih hn hsz bl hb1 a6 aP hw1 hV hN hX av ar hd;go_in;go_wp2_with fail;rw[←bb];refine ba.mono ?_;rintro e w2 ⟨rfl,aa⟩;have aJ:=a8.trans (aa.mono (by have:=fA.out;omega));have ax:=(aa.block _ (by have:=fA.out;omega)).trans qH;have a7:w2.cell? ⟨w.heap.size,3,none⟩=some (.slice A n c):=by rw[cR w2 w.heap.size 3 _ _ (0,0) ax];rfl
  have bw:=aa.size;have bg:w.heap.size<w2.heap.size:=by have:=fA.out;omega
  have Y:=Hd aJ;have Oh:=Hd ax;clear aa aJ ax
  by_cases h0:pe=0
  ·by_cases h4:4096<p+1
   ·have HR:Hid (X=((4,p+1),false)):=by show _=_;rw[ag,iP h0,iP h4]
    subst h0;have bd:(4096:Int)<(p:Int)+1:=by omega
    clear h4;go_wp2_with fail;rw[HF,HR];exact⟨rfl,Y⟩
   ·have HR:Hid (kG eO t.kids (d+1) (0,p+1)=X):=by show _=_;rw[ag,iP h0,iN h4]
    subst h0;have bd:¬(4096:Int)<(p:Int)+1:=by omega
    have bf:p+1≤4096:=by omega
    clear h4;go_wp2_with fail
    go_loopw [2,9,10,11] (fun sp si _ _ wr=>∃(k q:Nat),k≤n∧sp=.int .i64 q∧si=.int .i64 k∧q≤4096∧Below w2.heap.size w2 wr∧kG eO (t.kids.drop k) (d+1) (0,q)=X) (fun _ i _ _ _=>n-(intOf i).toNat)
    case atStart=>exact⟨0,p+1,zl _,by go_num,rfl,bf,Br _ _,HR⟩
    case round=>
     obtain⟨k,q,hk,rfl,rfl,hq,D,aw⟩:=hrel;have HB:=Hd D;have Ww:=Hd aw;have nR:=D.size;have Sd:wr.cell? ⟨w.heap.size,3,none⟩=some (.slice A n c):=by rw[cR wr w.heap.size 3 _ _ (0,0) ((D.block _ bg).trans Oh)];rfl
     have ab:Below w.heap.size w wr:=Y.trans (D.mono (by omega));have Jb:w.heap.size<wr.heap.size:=by omega
     by_cases bk:k<n
     ·obtain⟨kd,I⟩:∃kd,t.kids[k]?=some kd:=⟨_,gG (by have:=HN.out;omega)⟩;have J:kd∈t.kids:=mG I
      rcases HK.out with h9|⟨g,off,rfl,hg,hrow⟩
      ·rw[h9]at I;simp at I
      have aF:=(hrow.get I).below ab rfl hg;obtain⟨q0,q1,q2,A2,c2,q3,aE⟩:=aF.open;have bu:g<wr.heap.size:=by omega
      have G:=qm kd (d+1) q A2 c2 wr (mg kd J).1 (mg kd J).2 hq aE;rw[show((d+1:Nat):Int)=(d:Int)+1 from by omega]at G;unfold Tm.val at G;obtain⟨n2,aS⟩:=aj kd.kids.length;rw[←aS]at q3 G;have ae:=LB kd (d+1) (0,q);obtain⟨z,hz⟩:=aj (kN eO kd (d+1) (0,q));rw[←hz]at G ae
      have ay:Hid (kG eO (t.kids.drop k) (d+1) (0,q)=if z.2=true then kG eO (t.kids.drop (k+1)) (d+1) z.1 else(z.1,false)):=by
       obtain⟨hj,bh⟩:=gE.1 I;show _=_;rw[List.drop_eq_getElem_cons hj,bh,kG,←hz];obtain⟨z1,z2⟩:=z;cases z2<;>rfl
      have az:Hid ((z.2=true→z.1.1=0∧z.1.2≤4096)∧(z.2=false→z.1.1≠0)):=⟨fun h=>by
       obtain⟨_,h2,h3⟩:=ae.1 h;simp only at h2 h3
       rw[h2];exact⟨rfl,h3⟩,ae.2⟩
      have HC:=Hd G;obtain⟨⟨z1,z2⟩,zb⟩:=z;have bv:(0:Int)≤(k:Int):=by omega
      have bi:(k:Int)<(n:Int):=by omega
      have e1:off+4*k=off+k*4:=by omega
      rw[e1]at q0 q1 q2 q3;clear G aS ae hz aE aF hrow J I e1 D aw a7 ab;go_wp2_with fail;refine HC.mono ?_;rintro e w4 ⟨rfl,ai⟩;have pU:=Hd (HB.trans (ai.mono nR));have bz:=ai.size;clear ai q0 q1 q2 q3 Sd
      cases zb with
      |false=>
       have O:=az.2 rfl;have bn:(z1 != 0)=true:=by simpa using O
       have af:Hid (X=((z1,z2),false)):=by show _=_;rw[←Ww,ay];rfl
       clear O;go_wp2_with fail;rw[HF,af];exact⟨rfl,Y.trans (pU.mono (by omega))⟩
      |true=>
       obtain⟨O,bo⟩:=az.1 rfl
       have af:Hid (kG eO (t.kids.drop (k+1)) (d+1) (0,z2)=X):=by
        show _=_;rw[←Ww,ay];rw[O]
        rfl
       subst O;go_wp2_with fail
       go_roundw
       case rel=>exact⟨k+1,z2,by omega,rfl,by go_num,bo,pU,af⟩
       case measure=>simp[intOf];omega
     ·have HE:Hid (X=((0,q),true)):=by
       show _=_;rw[←Ww,List.drop_eq_nil_of_le (by have:=HN.out;omega)]
       rfl
      have bi:¬(k:Int)<(n:Int):=by omega
      have lK:=Hd ab;clear bk D aw a7 ab;go_wp2_with fail;rw[HF,HE];exact⟨rfl,lK⟩
  ·have HR:Hid (X=((pe,p+1),false)):=by show _=_;rw[ag,iN h0]
   have bp:(pe != 0)=true:=by simpa using h0
   clear h0;go_wp2_with fail;rw[HF,HR];exact⟨by go_num,Y⟩
theorem F9(t:Tm)(A:Option Addr)(c:Nat)(w:World)(hV:zx w A c t)(hsz:t.size≤9000000) :
 Calls Tryz.prog 108 #[t.val A c] w fun e w'=>e=.returned (.int .i64 t.check)∧Below w.heap.size w w':=by
 obtain⟨w1,hw1⟩:=aj (w.alloc (.cells #[.int .i64 t.op,.int .i64 t.num,.string t.name,.slice A t.kids.length c] 64));have hb1:=dz hw1;have I:w1.heap.size=w.heap.size+1:=by rw[hw1];simp
 have D:=Ve t.size t 1 0 A c w1 (lr _) (by omega) (by omega) (hV.below hb1 rfl);have bE:Hid ((kN eO t 1 (0,0)).1.1=t.check):=rfl;obtain⟨X,hX⟩:=aj (kN eO t 1 (0,0));rw[←hX]at D bE;unfold Tm.val at D⊢;have HC:=Hd D;have J:=Hd hb1;have Y:=Hd hw1;have fA:=Hd I;clear D hX hb1 hw1 I hV;go_in;go_wp2_with fail;rw[←Y];refine HC.mono ?_;rintro e w2 ⟨rfl,G⟩;have O:=Hd (J.trans (G.mono (by have:=fA.out;omega)));clear G;go_wp2_with fail;go_ret;exact⟨by rw[bE];rfl,O⟩
theorem Zr{s x:ByteArray}{p:Nat}(hp:p≤s.size):(bs x).isPrefixOf ((bs s).drop p)=true↔p+x.size≤s.size∧s.extract p (p+x.size)=x:=by
 constructor
 ·intro h;have h1:=List.isPrefixOf_iff_prefix.1 h;have h2:=h1.length_le;rw[List.length_drop,aC,aC]at h2;refine⟨by omega,gV ?_⟩;rw[gW];have h3:=List.prefix_iff_eq_take.1 h1;rw[aC]at h3;rw[List.drop_take]at *;rw[show p+x.size-p=x.size by omega];exact h3.symm
 ·rintro⟨h1,h2⟩;have h3:bs (s.extract p (p+x.size))=bs x:=by rw[h2]
  rw[gW]at h3;rw[List.isPrefixOf_iff_prefix,←h3,List.drop_take];exact List.take_prefix _ _
theorem Qf{a b:ByteArray}(h:¬a=b):(a.toList==b.toList)=false:=by
 rw[ByteArray.toList_eq,ByteArray.toList_eq,beq_eq_false_iff_ne];exact fun D=>h (gV D)
theorem Nw(s x:ByteArray)(p:Nat)(w:World)(hs:s.size≤1000000)(hx:x.size≤1000000)(hp:p≤s.size) :
 Calls Tryz.prog 91 #[.string s,.int .i64 p,.string x] w fun e w'=>e=.returned (.bool ((bs x).isPrefixOf ((bs s).drop p)))∧w=w':=by
 have D:=Zr (x:=x) hp;have hw:IntKind.i64.wrap ((p:Int)+(x.size:Int))=((p+x.size:Nat):Int):=by rw[IntWalk.i64_in _ (by omega)];omega
 have O:=Hd hw;clear hw
 by_cases h1:p+x.size≤s.size
 ·have Y:((p+x.size:Nat):Int)≤(s.size:Int):=by omega
  by_cases h2:s.extract p (p+x.size)=x
  ·have G:=Hd (D.2 ⟨h1,h2⟩);clear D;have J:=Hd h2;clear h2;go_in;have hw:=O.out;have h2:=J.out
   go_wp2
   go_ret;exact⟨by rw[G];rfl,rfl⟩
  ·have G:=Hd (show(bs x).isPrefixOf ((bs s).drop p)=false from by
    cases h:(bs x).isPrefixOf ((bs s).drop p)
    ·rfl
    ·exact absurd (D.1 h).2 h2)
   clear D;have I:=Qf h2;have J:=Hd I;clear h2 I;go_in;have hw:=O.out;have h2:=J.out
   go_wp2
   go_ret;exact⟨by rw[G];rfl,rfl⟩
 ·have G:=Hd (show(bs x).isPrefixOf ((bs s).drop p)=false from by
   cases h:(bs x).isPrefixOf ((bs s).drop p)
   ·rfl
   ·exact absurd (D.1 h).1 h1)
  have Y:¬((p+x.size:Nat):Int)≤(s.size:Int):=by omega
  clear D;go_in;have hw:=O.out
  go_wp2
  go_ret;exact⟨by rw[G];rfl,rfl⟩
def rowP(digits:Bool):UInt8→Bool:=if digits then isDigit else bD
theorem Ny(s:ByteArray)(p:Nat)(d:Bool)(w:World)(hs:s.size≤1000000)(hp:p≤s.size) :
 Calls Tryz.prog 85 #[.string s,.int .i64 p,.bool d] w fun e w'=>e=.returned (.int .i64 (p+rowLen (rowP d) ((bs s).drop p):Nat))∧w=w':=by
 obtain⟨r,HR⟩:=ak (p+rowLen (rowP d) ((bs s).drop p));rw[←HR];go_in
 go_wp2
 go_loop [1] (fun n=>∃k:Nat,k≤s.size∧n=.int .i64 k∧r=k+rowLen (rowP d) ((bs s).drop k)) (fun n=>s.size-(intOf n).toNat)
 case atStart=>exact⟨p,hp,rfl,HR⟩
 case round=>
  obtain⟨k,hk,rfl,Y⟩:=hrel;have HE:=Hd Y;clear Y
  by_cases af:k<s.size
  ·have aa:(k:Int)<(s.size:Int):=by omega
   have hd:=drop_cons (nW af);have HD:=Hd hd;clear hd;have J:=Hd (BZ s[k]);have I:=Hd (Lm s[k]);have stop:Hid (rowP d s[k]=false→r=k):=fun h=>by rw[HE,HD,nK h];rfl
   have more:Hid (rowP d s[k]=true→r=k+1+rowLen (rowP d) ((bs s).drop (k+1))):=fun h=>by rw[HE,HD,fG h];omega
   have hb:s[k].toNat<256:=s[k].toNat_lt;cases hg:isDigit s[k]
   ·rw[hg]at I;cases d
    ·cases hl:dV s[k]
     ·rw[hl]at J
      by_cases G:s[k].toNat=95
      ·have D:=Hd (more.out (by unfold rowP bD;simp[G]));have ae:=Hd (show ∀w,Calls Tryz.prog 84 #[.int .u8 95] w fun e w'=>e=.returned (.bool false)∧w=w' from fun w=>by have O:=J w;rw[G]at O;exact O);have ab:=Hd (show ∀w,Calls Tryz.prog 88 #[.int .u8 95] w fun e w'=>e=.returned (.bool false)∧w=w' from fun w=>by have O:=I w;rw[G]at O;exact O);clear stop more hg hl
       go_wp2_with (first|(go_at_call 84;refine(ae _).mono ?_;rintro e w' ⟨rfl,rfl⟩)|(go_at_call 88;refine(ab _).mono ?_;rintro e w' ⟨rfl,rfl⟩))
       go_round
       case rel=>exact⟨k+1,by omega,by go_num,D⟩
       case measure=>simp[intOf];omega
      ·have D:=Hd (stop.out (by unfold rowP bD;simp[G,hg,hl]));clear stop more hg hl;have ag:¬((s[k].toNat:Int)=95):=by omega
       go_wp2_with (first|(go_at_call 84;refine(J _).mono ?_;rintro e w' ⟨rfl,rfl⟩)|(go_at_call 88;refine(I _).mono ?_;rintro e w' ⟨rfl,rfl⟩))
       go_ret;exact⟨by rw[D];rfl,rfl⟩
     ·rw[hl]at J;have D:=Hd (more.out (by unfold rowP;exact yT hl));clear stop more hg hl
      go_wp2_with (first|(go_at_call 84;refine(J _).mono ?_;rintro e w' ⟨rfl,rfl⟩)|(go_at_call 88;refine(I _).mono ?_;rintro e w' ⟨rfl,rfl⟩))
      go_round
      case rel=>exact⟨k+1,by omega,by go_num,D⟩
      case measure=>simp[intOf];omega
    ·have D:=Hd (stop.out (by unfold rowP;exact hg));clear stop more hg
     go_wp2_with (first|(go_at_call 84;refine(J _).mono ?_;rintro e w' ⟨rfl,rfl⟩)|(go_at_call 88;refine(I _).mono ?_;rintro e w' ⟨rfl,rfl⟩))
     go_ret;exact⟨by rw[D];rfl,rfl⟩
   ·rw[hg]at I;have D:=Hd (more.out (by cases d<;>unfold rowP bD<;>simp[hg]));clear stop more hg
    go_wp2_with (first|(go_at_call 84;refine(J _).mono ?_;rintro e w' ⟨rfl,rfl⟩)|(go_at_call 88;refine(I _).mono ?_;rintro e w' ⟨rfl,rfl⟩))
    go_round
    case rel=>exact⟨k+1,by omega,by go_num,D⟩
    case measure=>simp[intOf];omega
  ·have aa:¬(k:Int)<(s.size:Int):=by omega
   have h0:(bs s).drop k=[]:=List.drop_eq_nil_of_le (by rw[aC];omega);have D:=Hd (show r=k from by rw[HE,h0];rfl);clear h0
   go_wp2
   go_ret;exact⟨by rw[D];rfl,rfl⟩
theorem Zt(s:ByteArray)(p:Nat)(w:World)(hs:s.size≤1000000)(hp:p≤s.size) :
 Calls Tryz.prog 83 #[.string s,.int .i64 p] w fun e w'=>e=.returned (.int .i64 (s.size-(blank ((bs s).drop p)).length:Nat))∧w=w':=by
 obtain⟨r,HR⟩:=ak (s.size-(blank ((bs s).drop p)).length);rw[←HR];have af:=Hd (fun(k:Nat)(hk:k≤s.size)=>Nw s ⟨#[45,45]⟩ k w hs (by decide) hk);go_in
 go_wp2
 go_loop [1] (fun n=>∃k:Nat,k≤s.size∧n=.int .i64 k∧blank ((bs s).drop p)=blank ((bs s).drop k)) (fun n=>s.size-(intOf n).toNat)
 case atStart=>exact⟨p,hp,rfl,rfl⟩
 case round=>
  obtain⟨k,hk,rfl,G⟩:=hrel;have HE:=Hd G;clear G
  by_cases av:k<s.size
  ·have aa:(k:Int)<(s.size:Int):=by omega
   have hd:=drop_cons (nW av);have HD:=Hd hd;clear hd;have HS:=Hd (af k hk);have hb:s[k].toNat<256:=s[k].toNat_lt;cases hds:dashes ((bs s).drop k)
   ·have D:(bs ⟨#[45,45]⟩).isPrefixOf ((bs s).drop k)=false:=hds;rw[D]at HS;have ae:=Hd hds;clear hds D;cases hw:qX s[k]
    ·have ab:blank ((bs s).drop k)=(bs s).drop k:=by
      rw[HD];exact Fj hw (by rw[←HD];exact ae)
     have I:=Hd (show r=k from by rw[HR,HE,ab,List.length_drop,aC];omega);unfold qX at hw;have h1:¬s[k].toNat=32:=by intro h;simp[h]at hw
     have h2:¬s[k].toNat=9:=by intro h;simp[h]at hw
     have h3:¬s[k].toNat=10:=by intro h;simp[h]at hw
     have h4:¬s[k].toNat=13:=by intro h;simp[h]at hw
     have i1:((s[k].toNat:Int) != 32)=true:=by simp;omega
     have i2:((s[k].toNat:Int) != 9)=true:=by simp;omega
     have i3:((s[k].toNat:Int) != 10)=true:=by simp;omega
     have i4:((s[k].toNat:Int) != 13)=true:=by simp;omega
     clear ab hw h1 h2 h3 h4;go_wp2_with fail;refine HS.mono ?_;rintro e w' ⟨rfl,hw⟩;rw[←hw];clear hw
     go_wp2
     go_ret;exact⟨by rw[I];rfl,rfl⟩
    ·have I:=Hd (show blank ((bs s).drop p)=blank ((bs s).drop (k+1))from by rw[HE,HD];exact zC hw);unfold qX at hw;have aw:s[k].toNat=32∨s[k].toNat=9∨s[k].toNat=10∨s[k].toNat=13:=by simp at hw;omega
     clear hw
     rcases aw with h|h|h|h
     all_goals
      go_wp2_with fail;refine HS.mono ?_;rintro e w' ⟨rfl,hw⟩;rw[←hw];clear hw
      go_wp2
      exact⟨⟨k+1,by omega,by go_num,I⟩,by simp[intOf];omega⟩
   ·have D:(bs ⟨#[45,45]⟩).isPrefixOf ((bs s).drop k)=true:=hds;rw[D]at HS;have ai:=yg hds;rw[List.length_drop,aC]at ai;have I:=Hd (show blank ((bs s).drop p)=blank (((bs s).drop k).dropWhile rz)from by rw[HE];exact EI hds);clear hds D;go_wp2_with fail;refine HS.mono ?_;rintro e w' ⟨rfl,hw⟩;rw[←hw];clear hw
    go_wp2
    go_loop [1] (fun n=>∃j:Nat,k≤j∧j≤s.size∧n=.int .i64 j∧((bs s).drop k).dropWhile rz=((bs s).drop j).dropWhile rz) (fun n=>s.size-(intOf n).toNat)
    case atStart=>exact⟨k,lr _,hk,rfl,rfl⟩
    case round=>
     obtain⟨j,hj,ay,rfl,G⟩:=hrel;have HF:=Hd G;clear G
     by_cases ar:j<s.size
     ·have ag:(j:Int)<(s.size:Int):=by omega
      have hd:=drop_cons (nW ar);have Y:=Hd hd;clear hd;have hb:s[j].toNat<256:=s[j].toNat_lt
      by_cases J:s[j].toNat=10
      ·have O:((bs s).drop j).dropWhile rz=(bs s).drop j:=by
        rw[Y,List.dropWhile_cons_of_neg (by unfold rz;simp[J])]
       have az:k<j:=by
        have h9:(((bs s).drop k).dropWhile rz).length=s.size-j:=by rw[HF,O,List.length_drop,aC]
        omega
       have HN:=Hd (show blank ((bs s).drop p)=blank ((bs s).drop j)from by rw[I,HF,O]);clear O
       go_wp2
       go_round
       case rel=>exact⟨j,by omega,rfl,HN⟩
       case measure=>simp[intOf];omega
      ·have ax:¬(s[j].toNat:Int)=10:=by omega
       have HN:=Hd (show((bs s).drop k).dropWhile rz=((bs s).drop (j+1)).dropWhile rz from by
        rw[HF,Y,List.dropWhile_cons_of_pos (by unfold rz;simp[J])])
       clear J
       go_wp2
       go_round
       case rel=>exact⟨j+1,by omega,by omega,by go_num,HN⟩
       case measure=>simp[intOf];omega
     ·have ag:¬(j:Int)<(s.size:Int):=by omega
      have ao:j=s.size:=by omega
      have h0:(bs s).drop j=[]:=List.drop_eq_nil_of_le (by rw[aC];omega);have HN:=Hd (show blank ((bs s).drop p)=blank ((bs s).drop j)from by rw[I,HF,h0];rfl);clear h0 ao
      go_wp2
      go_round
      case rel=>exact⟨j,by omega,rfl,HN⟩
      case measure=>simp[intOf];omega
  ·have aa:¬(k:Int)<(s.size:Int):=by omega
   have h0:(bs s).drop k=[]:=List.drop_eq_nil_of_le (by rw[aC];omega);have I:=Hd (show r=k from by rw[HR,HE,h0];simp[abt];omega);clear h0
   go_wp2
   go_ret;exact⟨by rw[I];rfl,rfl⟩
def yP(n:Nat)(l:Bs):Nat:=l.foldl (fun n c=>10*n+(c.toNat-48)) n
def tT:Nat→Bs→Nat
 |n,[]=>n
 |n,c::r=>if n≤255 then tT (10*n+(c.toNat-48)) r else n
theorem Nz(n:Nat)(l:Bs):n*10^l.length≤yP n l:=by
 induction l generalizing n with
 |nil=>simp[yP]
 |cons c r D=>
  have h:=D (10*n+(c.toNat-48));refine Nat.le_trans ?_ h;rw[List.length_cons,Nat.pow_succ];have:n*(10^r.length*10)=(10*n)*10^r.length:=by ac_rfl
  rw[this];exact Nat.mul_le_mul_right _ (by omega)
theorem Vf{n:Nat}(l:Bs)(h:255<n):255<yP n l:=by
 have h1:=Nz n l;have h2:1≤10^l.length:=Nat.pow_pos (by omega);have h3:n*1≤n*10^l.length:=Nat.mul_le_mul_left _ h2;omega
theorem acG(n:Nat)(l:Bs):tT n l=yP n l∨(255<tT n l∧255<yP n l):=by
 induction l generalizing n with
 |nil=>exact .inl rfl
 |cons c r D=>
  unfold tT
  split
  ·exact D _
  ·exact .inr ⟨by omega,Vf _ (by omega)⟩
theorem acH{l:Bs}{c:UInt8}{r:Bs}(O:l=c::r)(hc:isDigit c=true) :
 eX l=if 1<rowLen isDigit l∧c.toNat=48 then(0,0,15)else if 255<tT 0 (l.take (rowLen isDigit l))then(0,0,2)else(tT 0 (l.take (rowLen isDigit l)),rowLen isDigit l,0):=by
 subst O;unfold eX;simp only[List.getElem?_cons_zero,Option.map_some,Option.some.injEq]
 split
 ·rfl
 ·rename_i hn
  have hv:valOf ((c::r).take (rowLen isDigit (c::r)))=yP 0 ((c::r).take (rowLen isDigit (c::r))):=rfl;have hcv:=acG 0 ((c::r).take (rowLen isDigit (c::r)));rw[hv];have G:=qF isDigit (c::r);have I:0<rowLen isDigit (c::r):=by rw[fG hc];omega
  have D:3<rowLen isDigit (c::r)→255<yP 0 ((c::r).take (rowLen isDigit (c::r))):=by
   intro h3
   generalize rowLen isDigit (c::r)=m at *
   obtain⟨m,rfl⟩:∃k,m=k+1:=⟨m-1,by omega⟩;rw[List.take_succ_cons];show 255<yP (10*0+(c.toNat-48)) (r.take m);have h1:=Nz (10*0+(c.toNat-48)) (r.take m);rw[List.length_take]at h1;simp only[List.length_cons]at G;rw[Nat.min_eq_left (by omega)]at h1
   have J:48<c.toNat:=by
    have:48≤c.toNat:=by unfold isDigit at hc;simp at hc;omega
    have:c.toNat≠48:=fun h=>hn ⟨by omega,h⟩;omega
   have h2:10^3≤10^m:=Nat.pow_le_pow_right (by omega) (by omega);have Y:1*10^m≤(10*0+(c.toNat-48))*10^m:=Nat.mul_le_mul_right _ (by omega);omega
  generalize (c::r).take (rowLen isDigit (c::r))=d at *
  by_cases h3:3<rowLen isDigit (c::r)
  ·rw[iP h3,iP (hcv.elim (fun h=>by have:=D h3;omega) (fun h=>h.1))]
  ·rw[iN h3]
   rcases hcv with h|h
   ·rw[h]
   ·rw[iP h.1,iP h.2]
theorem Zw(s:ByteArray)(w:World)(hs:s.size≤1000000)(hd:∀c∈bs s,isDigit c=true) :
 Calls Tryz.prog 89 #[.string s] w fun e w'=>e=.returned (.int .i64 (tT 0 (bs s):Nat))∧w=w':=by
 have HD:=Hd hd;clear hd;obtain⟨r,HR⟩:=ak (tT 0 (bs s));rw[←HR];go_in
 go_wp2
 go_loop [3,4] (fun n i=>∃(v k:Nat),k≤s.size∧n=.int .i64 v∧v≤2559∧i=.int .i64 k∧r=tT v ((bs s).drop k)) (fun n i=>s.size-(intOf i).toNat)
 case atStart=>exact⟨0,0,zl _,rfl,by omega,rfl,HR⟩
 case round=>
  obtain⟨v,k,hk,rfl,hv,rfl,I⟩:=hrel;have Y:=Hd I;clear I
  by_cases J:k<s.size
  ·have O:(k:Int)<(s.size:Int):=by omega
   have hc:=drop_cons (nW J)
   by_cases SX:v≤255
   ·have SY:(v:Int)≤255:=by omega
    have D:=HD s[k] (mG (nW J));have hb:48≤s[k].toNat∧s[k].toNat≤57:=by unfold isDigit at D;simp at D;omega
    obtain⟨hb1,aa⟩:=hb;have G:=Hd (show r=tT (10*v+(s[k].toNat-48)) ((bs s).drop (k+1))from by rw[Y,hc,tT,iP SX]);clear D hc
    go_wp2
    go_round
    case rel=>exact⟨10*v+(s[k].toNat-48),k+1,by omega,by (try simp only[IntWalk.i64_in _ _]);go_num,by omega,by go_num,G⟩
    case measure=>simp[intOf];omega
   ·have SY:¬(v:Int)≤255:=by omega
    have G:=Hd (show r=v from by rw[Y,hc,tT,iN SX]);clear hc
    go_wp2
    go_ret;exact⟨by rw[G];rfl,rfl⟩
  ·have O:¬(k:Int)<(s.size:Int):=by omega
   have h0:(bs s).drop k=[]:=List.drop_eq_nil_of_le (by rw[aC];omega);have G:=Hd (show r=v from by rw[Y,h0];rfl);clear h0
   go_wp2
   go_ret;exact⟨by rw[G];rfl,rfl⟩
def vK(w:World)(A:Option Addr)(l:List ByteArray):Prop:=l=[]∨∃b off,A=some ⟨b,off,none⟩∧b<w.heap.size∧∀j,j<l.length→w.cell? ⟨b,off+j,none⟩=some (.string (l.getD j ByteArray.empty))
theorem OY{zs:List ByteArray}{x:ByteArray}{k:Nat}(D:k<zs.length):Lib.containsS (zs.take (k+1)) x=(Lib.containsS (zs.take k) x||decide (zs.getD k ByteArray.empty=x)):=by
 rw[Bool.eq_iff_iff,Lib.containsS_iff,List.take_succ_eq_append_getElem D,Bool.or_eq_true,Lib.containsS_iff,List.mem_append,List.mem_singleton,decide_eq_true_eq];have:zs.getD k ByteArray.empty=zs[k]:=by simp[List.getD,D]
 rw[this]
 constructor
 ·rintro(h|h)
  ·exact .inl h
  ·exact .inr h.symm
 ·rintro(h|h)
  ·exact .inl h
  ·exact .inr h.symm
theorem NA(b off c:Nat)(zs:List ByteArray)(x:ByteArray)(w:World)(hl:zs.length≤1000000)(hc:∀j,j<zs.length→w.cell? ⟨b,off+j,none⟩=some (.string (zs.getD j ByteArray.empty))) :
 Calls Tryz.prog 86 #[.slice (some ⟨b,off,none⟩) zs.length c,.string x] w fun e w'=>e=.returned (.bool (Lib.containsS zs x))∧w=w':=by
 have HC:=Hd hc;clear hc;obtain⟨n,O⟩:=ak zs.length;rw[←O]at hl⊢;go_in
 go_wp2
 go_loop [5] (fun i=>∃k:Nat,k≤n∧i=.int .i64 k∧Lib.containsS (zs.take k) x=false) (fun i=>n-(intOf i).toNat)
 case atStart=>exact⟨0,zl _,rfl,rfl⟩
 case round=>
  obtain⟨k,hk,rfl,Y⟩:=hrel;have HO:=Hd Y;clear Y
  by_cases I:k<n
  ·have af:(0:Int)≤(k:Int):=by omega
   have ab:(k:Int)<(n:Int):=by omega
   have aa:=HC k (by rw[←O];exact I);have G:=OY (x:=x) (by rw[←O];exact I);rw[HO]at G;obtain⟨y,hy⟩:=aj (zs.getD k ByteArray.empty);rw[←hy]at aa G;have HS:=Hd G;clear G
   by_cases D:y=x
   ·have J:=Hd (show Lib.containsS zs x=true from by rw[Lib.containsS_iff,←D,hy];simp only[List.getD];rw[gG (by rw[←O];exact I)];simp);subst D;clear hy
    go_wp2
    go_ret;exact⟨by rw[J];rfl,rfl⟩
   ·have ae:=Qf D;have J:=Hd (show Lib.containsS (zs.take (k+1)) x=false from by rw[HS];simp[D]);clear hy D
    go_wp2
    go_round
    case rel=>exact⟨k+1,by omega,by go_num,J⟩
    case measure=>simp[intOf];omega
  ·have ab:¬(k:Int)<(n:Int):=by omega
   have J:=Hd (show Lib.containsS zs x=false from by rw[←HO,List.take_of_length_le (by rw[←O];omega)])
   go_wp2
   go_ret;exact⟨by rw[J];rfl,rfl⟩
theorem NC(w:World):Calls Tryz.prog 87 #[] w fun e w'=>e=.returned (.slice (some ⟨w.heap.size,0,none⟩) 24 24)∧w'=w.alloc (.cells (lC.map Value.string).toArray 9):=by
 go_in
 go_wp2
 go_ret;exact⟨rfl,rfl⟩
theorem Zz(w:World):Calls Tryz.prog 90 #[] w fun e w'=>e=.returned (.slice (some ⟨w.heap.size,0,none⟩) 21 21)∧w'=w.alloc (.cells (gQ.map Value.string).toArray 9):=by
 go_in
 go_wp2
 go_ret;exact⟨rfl,rfl⟩
theorem vK.Aq{w w':World}{B:Nat}{A:Option Addr}{l:List ByteArray}(h:vK w A l)(hb:Below B w w')(G:B=w.heap.size):vK w' A l:=by
 rcases h with h|⟨b,off,rfl,D,hc⟩
 ·exact .inl h
 ·exact .inr ⟨b,off,rfl,lL D hb.size,fun j I=>by rw[hb.cell (p:=⟨b,_,none⟩) (by subst G;exact D)];exact hc j I⟩
theorem gF{w:World}{base:Nat}{v:Value}{T:TypeId}{l:List ByteArray}(h:w.ownsRow base T 1 v l.length (l.map Value.string)):∃A c,v=.slice A l.length c∧vK w A l:=by
 rcases h.2 with⟨rfl,hn⟩|⟨g,cap,cur,rfl,hb,G,_⟩
 ·exact⟨none,0,by rw[hn],.inl (List.eq_nil_of_length_eq_zero hn)⟩
 ·refine⟨_,_,rfl,.inr ⟨g,0,rfl,(h.lt g rfl).2,fun j D=>?_⟩⟩;have:=h.cells (g:=g) rfl j (.string (l.getD j ByteArray.empty)) (by rw[List.getElem?_map];simp[List.getD,D]);rw[addr_add]at this;exact this
end Go.Proofs.YtkhoeoilamddaaaGreatDoor
