/- Walks and plain words: UnD UnE. -/
import Derived.Test.YtpijlhlpejlhhaaGreatVUnB
import Derived.Shelf.SlSortCmp.WholeK
import Derived.Ground.SlsfProg
import Derived.Ground.NamesProg
import Derived.Shelf.SlSortCmp.NoneTotal
namespace Go.Proofs.YtpijlhlpejlhhaaGreat
open Go.RowKit Go.Shelf Go.Lib Go.Sort
set_option linter.unusedVariables false
set_option maxRecDepth 100000
set_option maxHeartbeats 4000000
def Tryz.sortK_ren:Go.Shelf.Ren:=⟨fun|6=>190|15=>195|14=>194|28=>205|29=>206|20=>197|21=>198|22=>199|23=>200|24=>201|25=>202|26=>203|27=>204|46=>207|47=>208|48=>209|49=>210|50=>211|57=>212|n=>n,fun|22=>245|24=>217|25=>256|3=>3|39=>54|0=>0|53=>268|55=>121|4=>4|46=>262|45=>261|50=>83|5=>5|9=>9|66=>270|70=>274|76=>276|77=>143|n=>n,fun|n=>n⟩
theorem Tryz.sortK:Go.Proofs.SlLaysF0.n6 Tryz.prog Tryz.sortK_ren:={
 mixed:=by kernel_rfl
 f6:=⟨Tryz.f190.name,by decide,Tryz.func190.trans (congrArg some (by kernel_rfl))⟩
 f14:=⟨Tryz.f194.name,by decide,Tryz.func194.trans (congrArg some (by kernel_rfl))⟩
 f15:=Tryz.func195.trans (congrArg some (by kernel_rfl))
 f20:=⟨Tryz.f197.name,by decide,Tryz.func197.trans (congrArg some (by kernel_rfl))⟩
 f21:=⟨Tryz.f198.name,by decide,Tryz.func198.trans (congrArg some (by kernel_rfl))⟩
 f22:=⟨Tryz.f199.name,by decide,Tryz.func199.trans (congrArg some (by kernel_rfl))⟩
 f23:=⟨Tryz.f200.name,by decide,Tryz.func200.trans (congrArg some (by kernel_rfl))⟩
 f24:=⟨Tryz.f201.name,by decide,Tryz.func201.trans (congrArg some (by kernel_rfl))⟩
 f25:=⟨Tryz.f202.name,by decide,Tryz.func202.trans (congrArg some (by kernel_rfl))⟩
 f26:=⟨Tryz.f203.name,by decide,Tryz.func203.trans (congrArg some (by kernel_rfl))⟩
 f27:=⟨Tryz.f204.name,by decide,Tryz.func204.trans (congrArg some (by kernel_rfl))⟩
 f28:=Tryz.func205.trans (congrArg some (by kernel_rfl))
 f29:=Tryz.func206.trans (congrArg some (by kernel_rfl))
 f46:=⟨Tryz.f207.name,by decide,Tryz.func207.trans (congrArg some (by kernel_rfl))⟩
 f47:=Tryz.func208.trans (congrArg some (by kernel_rfl))
 f48:=Tryz.func209.trans (congrArg some (by kernel_rfl))
 f49:=⟨Tryz.f210.name,by decide,Tryz.func210.trans (congrArg some (by kernel_rfl))⟩
 f50:=⟨Tryz.f211.name,by decide,Tryz.func211.trans (congrArg some (by kernel_rfl))⟩
 f57:=⟨Tryz.f212.name,by decide,Tryz.func212.trans (congrArg some (by kernel_rfl))⟩
 t0:=Tryz.underlying0
 a0:=Tryz.isAgg0
 z0:=Tryz.sizeOf0
 v0:=Tryz.zeroValue0
 t3:=Tryz.underlying3
 a3:=Tryz.isAgg3
 z3:=Tryz.sizeOf3
 v3:=Tryz.zeroValue3
 t4:=Tryz.underlying4
 a4:=Tryz.isAgg4
 z4:=Tryz.sizeOf4
 v4:=Tryz.zeroValue4
 t5:=Tryz.underlying5
 a5:=Tryz.isAgg5
 z5:=Tryz.sizeOf5
 v5:=Tryz.zeroValue5
 t9:=Tryz.underlying9
 a9:=Tryz.isAgg9
 z9:=Tryz.sizeOf9
 v9:=Tryz.zeroValue9
 t22:=Tryz.underlying245
 a22:=Tryz.isAgg245
 z22:=Tryz.sizeOf245
 v22:=Tryz.zeroValue245
 t25:=Tryz.underlying256
 a25:=Tryz.isAgg256
 z25:=Tryz.sizeOf256
 v25:=Tryz.zeroValue256
 t39:=Tryz.underlying54
 a39:=Tryz.isAgg54
 z39:=Tryz.sizeOf54
 v39:=Tryz.zeroValue54
 t45:=Tryz.underlying261
 a45:=Tryz.isAgg261
 z45:=Tryz.sizeOf261
 v45:=Tryz.zeroValue261
 t46:=Tryz.underlying262
 a46:=Tryz.isAgg262
 z46:=Tryz.sizeOf262
 v46:=Tryz.zeroValue262
 t50:=Tryz.underlying83
 a50:=Tryz.isAgg83
 z50:=Tryz.sizeOf83
 v50:=Tryz.zeroValue83
 t53:=Tryz.underlying268
 a53:=Tryz.isAgg268
 z53:=Tryz.sizeOf268
 v53:=Tryz.zeroValue268
 t55:=Tryz.underlying121
 a55:=Tryz.isAgg121
 z55:=Tryz.sizeOf121
 v55:=Tryz.zeroValue121
 t66:=Tryz.underlying270
 a66:=Tryz.isAgg270
 z66:=Tryz.sizeOf270
 v66:=Tryz.zeroValue270
 t70:=Tryz.underlying274
 a70:=Tryz.isAgg274
 z70:=Tryz.sizeOf274
 v70:=Tryz.zeroValue274
 t76:=Tryz.underlying276
 a76:=Tryz.isAgg276
 z76:=Tryz.sizeOf276
 v76:=Tryz.zeroValue276
 t77:=Tryz.underlying143
 a77:=Tryz.isAgg143
 z77:=Tryz.sizeOf143
 v77:=Tryz.zeroValue143}
def TK:Type:={x:Nat×Nat // jZ x}
instance:Inhabited TK:=⟨⟨(0,0),by unfold jZ;omega⟩⟩
def kG(x:TK):List Value:=[.int .i64 (x.1.1:Nat),.int .i64 (x.1.2:Nat)]
def BG(f:Nat→Nat→Option Nat)(x y:TK):Int:=QA f x.1 y.1
theorem Ai(a b:Int):iL a b<0↔a<b:=by unfold iL;split<;>(try split)<;>omega
theorem Ik(a b:Int):iL a b=0↔a=b:=by unfold iL;split<;>(try split)<;>omega
theorem Xz(f:Nat→Nat→Option Nat)(x y:TK):ltOf (BG f) x y=decide ((dY f x.1).getD 0<(dY f y.1).getD 0∨((dY f x.1).getD 0=(dY f y.1).getD 0∧((x.1.1:Int)<y.1.1∨((x.1.1:Int)=y.1.1∧(x.1.2:Int)<y.1.2)))):=by
 unfold ltOf BG QA Pp
 generalize (dY f x.1).getD 0=a
 generalize (dY f y.1).getD 0=a'
 congr 1
 have h1:=Ai a a';have h2:=Ik a a';have h3:=Ai x.1.1 y.1.1;have h4:=Ik x.1.1 y.1.1;have h5:=Ai x.1.2 y.1.2
 apply propext
 by_cases e1:iL a a'=0
 ·rw[if_neg (by simpa using e1)]
  by_cases e2:iL x.1.1 y.1.1=0
  ·rw[if_neg (by simpa using e2)];omega
  ·rw[if_pos e2];omega
 ·rw[if_pos e1];omega
theorem EY(f:Nat→Nat→Option Nat):SWO (ltOf (BG f)) where
 irrefl x:=by rw[Xz];simp
 trans x y z h1 h2:=by rw[Xz]at *;simp only[decide_eq_true_eq]at *;omega
 ntrans x y z h1 h2:=by rw[Xz]at *;simp only[decide_eq_false_iff_not]at *;omega
theorem tV{α:Type}[Inhabited α](enc:α→List Value)(k:Nat)(w:World)(blk off m:Nat)(d:Array α)(os:Array Obj):Only (fun q=>q=blk) w (sortWorldK enc k w blk off m d os):=by
 refine⟨rfl,rfl,rfl,?_,fun q hq hne=>?_⟩
 ·exact size_sortWorldK_c enc k w blk off m d os
 ·unfold sortWorldK;rw[heap_grow_old _ _ (by rw[size_putRowK];exact hq)];unfold putRowK putRow mapBlock;simp only[Array.getElem?_modify];rw[if_neg (fun e=>hne e.symm)]
  rfl
theorem Us{w:World}{cb tb mb c blk size:Nat}{f:Nat→Nat→Option Nat}(hc:w.heap[cb]?=some (.cells #[.pointer (some ⟨tb,0,none⟩)] 198 (0,0)))
 (hr:w.heap[tb]?=some (.cells #[.map (some mb)] 227 (0,0))) (hm:bV jh w mb c (dY f)) (h1:cb≠blk) (h2:tb≠blk) (h3:mb≠blk) :
 CmpLays Tryz.prog 191 #[.pointer (some ⟨cb,0,none⟩)] kG 2 (BG f) blk 0 size w:=by
 intro m os dk hs x y;have ho:=tV kG 2 w blk 0 m dk os;exact NA ((ho.block _ (aV hc) h1).trans hc) ((ho.block _ (aV hr) h2).trans hr) (hm.kept (ho.block _ hm.lt h3)) x.1 y.1 x.2 y.2
/-- The keys in their order. -/
def qP(f:Nat→Nat→Option Nat)(ks:List TK):List TK:=ks.mergeSort fun x y=>!(ltOf (BG f)) y x
theorem yK(f:Nat→Nat→Option Nat)(ks:List TK):(qP f ks).Perm ks:=List.mergeSort_perm _ _
theorem XC(f:Nat→Nat→Option Nat)(x y:TK)(h1:ltOf (BG f) x y=false)(h2:ltOf (BG f) y x=false):x=y:=by
 rw[Xz]at *;simp only[decide_eq_false_iff_not]at *
 apply Subtype.ext
 apply Prod.ext<;>omega
theorem JM(f:Nat→Nat→Option Nat)(ks:List TK):(qP f ks).Pairwise fun x y=>ltOf (BG f) y x=false:=by
 have h:=List.pairwise_mergeSort (le:=fun x y=>!(ltOf (BG f)) y x) (fun a b c h1 h2=>by
  simp only[Bool.not_eq_true']at *
  exact(EY f).ntrans _ _ _ h2 h1) (fun a b=>by
  cases h:ltOf (BG f) b a with
  |false=>rfl
  |true=>
   cases h2:ltOf (BG f) a b with
   |false=>rfl
   |true=>have:=(EY f).trans _ _ _ h h2;rw[(EY f).irrefl]at this;cases this) ks
 exact h.imp (fun h=>by simpa using h)
theorem JN(f:Nat→Nat→Option Nat){ks xs:List TK}(hp:ks.Perm xs)(hx:xs.Pairwise fun x y=>ltOf (BG f) y x=false):qP f ks=xs:=by
 refine List.Perm.eq_of_pairwise (le:=fun x y=>ltOf (BG f) y x=false) (fun a b _ _ h1 h2=>XC f a b h2 h1) (JM f ks) hx ((yK f ks).trans hp)
theorem JO{w:World}{cap g:Nat}{ks:List TK}(h:Rw w 217 2 ks.length cap g (fun i=>kG (ks.getD i default))):HoldsK kG 2 w g 0 ks.toArray:=by
 intro t ht;rw[size_flatK]at ht;have hs:ks.toArray.size=ks.length:=by simp
 rw[hs]at ht;have h1:t/2<ks.length:=by omega
 have h2:=h.cell (i:=t/2) (j:=t%2) h1 (by omega);rw[show t/2*2+t%2=t by omega]at h2;rw[Nat.zero_add];refine⟨?_,h.frozen t⟩;rw[h2,get_flatK _ _ _ _ (by rw[hs];exact ht)];have e:ks.toArray[t/2]! =ks.getD (t/2) default:=by simp[List.getD,h1]
 rw[e];unfold kG
 rcases(show t%2=0∨t%2=1 by omega)with e2|e2<;>rw[e2]<;>rfl
theorem JQ{w:World}{cb tb mb c cap g:Nat}{f:Nat→Nat→Option Nat}(hc:w.heap[cb]?=some (.cells #[.pointer (some ⟨tb,0,none⟩)] 198 (0,0)))
 (hr:w.heap[tb]?=some (.cells #[.map (some mb)] 227 (0,0))) (hm:bV jh w mb c (dY f)) (h1:cb≠g) (h2:tb≠g) (h3:mb≠g) (ks:List TK)
 (hk:Rw w 217 2 ks.length cap g (fun i=>kG (ks.getD i default))) (hl:ks.length<4611686018427387904) :
 Calls Tryz.prog 190 #[.slice (some ⟨g,0,none⟩) ks.length cap,.func (.func 191) #[] #[.pointer (some ⟨cb,0,none⟩)]] w fun e w'=>
  e=.returned (.tuple #[])∧Only (fun q=>q=g) w w'∧Rw w' 217 2 ks.length cap g (fun i=>kG ((qP f ks).getD i default)):=by
 have eg:∀args w,(callFunc 191 args).run Tryz.prog w=.ok (.enter 191 args) w:=enters_of Tryz.func191 (by kernel_rfl) rfl;have hH:=JO hk
 have hcon:=AnyQ.slices_SortFunc_total Tryz.sortK 2 Tryz.isAgg217 Tryz.sizeOf217 kG (fun _=>rfl) (fun x v hv=>by simp[kG]at hv;rcases hv with rfl|rfl<;>rfl) (BG f) (EY f) 191 #[.pointer (some ⟨cb,0,none⟩)] g 0 cap ks.toArray w eg
  (Us hc hr hm h1 h2 h3) hH hk.lt (by simpa using hl) (XC f)
 refine hcon.mono ?_;rintro e w' ⟨rfl,n,os,rfl⟩;refine⟨rfl,tV kG 2 w g 0 n _ os,?_⟩;have hy:(qP f ks).length=ks.length:=(yK f ks).length_eq;have hH2:=holdsK_sortWorldK_c kG 2 w g 0 ks.toArray (qP f ks).toArray n os hH hk.lt (by simp[hy]);obtain⟨⟨cur,e1,e2,e3⟩,e4⟩:=hk
 have hg:(sortWorldK kG 2 w g 0 n (qP f ks).toArray os).heap[g]?=some (.cells (putCells id 0 (flatK kG 2 (qP f ks).toArray) cur) 217 (0,0)):=by
  unfold sortWorldK;rw[heap_grow_old _ _ (by rw[size_putRowK];exact aV e1)];unfold putRowK putRow mapBlock;simp only[Array.getElem?_modify,if_true];show(w.heap[g]?).map _=_;rw[e1]
  rfl
 refine⟨⟨_,hg,by simpa[putCells]using e2,fun i hi j hj=>?_⟩,e4⟩;have hb:i*2+j<ks.length*2:=by omega
 have h9:=(hH2 (i*2+j) (by simp[hy];omega)).1;rw[Nat.zero_add]at h9
 have h8:(sortWorldK kG 2 w g 0 n (qP f ks).toArray os).cell? ⟨g,i*2+j,none⟩=(putCells id 0 (flatK kG 2 (qP f ks).toArray) cur)[i*2+j]?:=by
  unfold World.cell?;rw[hg]
  rfl
 rw[←h8,h9,get_flatK _ _ _ _ (by simp[hy];omega)];rw[show(i*2+j)/2=i by omega,show(i*2+j)%2=j by omega]
 have e:(qP f ks).toArray[i]! =(qP f ks).getD i default:=by
  have hi':i<(qP f ks).length:=by omega
  simp[List.getD,hi']
 rw[e];unfold kG
 rcases(show j=0∨j=1 by omega)with rfl|rfl<;>rfl
theorem EZ{w:World}{cb:Nat}:Calls Tryz.prog 190 #[.slice none 0 0,.func (.func 191) #[] #[.pointer (some ⟨cb,0,none⟩)]] w fun e w'=>e=.returned (.tuple #[])∧w'=w:=
 AnyF.slices_SortFunc_none Tryz.sortK none 0 _ w
end Go.Proofs.YtpijlhlpejlhhaaGreat
