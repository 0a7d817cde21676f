/- Walks and plain words: NumA Bld Lex9 TrmE TrmF. -/
import Derived.Test.YtkhoeoilamddaaaGreatDoorQParP
import Derived.Laws.BytesArg
namespace Go.Proofs.YtkhoeoilamddaaaGreatDoor
open Go.RowKit
set_option linter.unusedVariables false
set_option maxRecDepth 100000
set_option maxHeartbeats 4000000
def l9(x:Nat):Bs:=if x=0 then[48]else(afH 10 x).reverse.map fun d=>UInt8.ofNat (48+d)
def aO(n:Int):Bs:=if n<0 then 45::l9 n.natAbs else l9 n.natAbs
def OA:Nat→Nat→Bs
 |0,_=>[]
 |k+1,x=>OA k (x/10)++[UInt8.ofNat (48+x%10)]
theorem LQ:∀(k x:Nat),OA (k+1) x=UInt8.ofNat (48+x/10^k%10)::OA k x
 |0,x=>by rw[OA,Nat.pow_zero,Nat.div_one];rfl
 |k+1,x=>by
  rw[OA,LQ k (x/10),Nat.div_div_eq_div_mul,OA,List.cons_append,Nat.pow_succ,Nat.mul_comm 10]
theorem Td:∀(k x:Nat),x/10^k=0→(k=1∨(1<k∧0<x/10^(k-1)))→OA k x=l9 x
 |0,x,_,h=>by omega
 |1,x,h,_=>by
  rw[Nat.pow_one]at h;have hx:x<10:=by omega
  unfold l9
  by_cases h0:x=0
  ·subst h0;rfl
  ·rw[iN h0,Gs (by decide) h0,h]
   rfl
 |k+2,x,h,G=>by
  have D:0<x/10^(k+1):=by rcases G with G|G;omega;exact G.2
  have hx:x≠0:=by intro h0;subst h0;simp at D
  have e1:x/10^(k+2)=x/10/10^(k+1):=by rw[Nat.div_div_eq_div_mul,Nat.pow_succ 10 (k+1),Nat.mul_comm]
  have e2:x/10^(k+1)=x/10/10^k:=by rw[Nat.div_div_eq_div_mul,Nat.pow_succ 10 k,Nat.mul_comm]
  have J:=Td (k+1) (x/10) (by rw[←e1];exact h) (by
   rcases Nat.eq_zero_or_pos k with h0|h0
   ·left;omega
   ·right;exact⟨by omega,by rw[Nat.add_sub_cancel,←e2];exact D⟩)
  have I:x/10≠0:=by
   intro h0;rw[e2,h0]at D;simp at D
  rw[OA,J];unfold l9;rw[iN I,iN hx,Gs (by decide) hx,List.reverse_cons,List.map_append]
  rfl
def dvB(l:Bs):Array Value:=(l.map fun(c:UInt8)=>Value.int .u8 (c.toNat:Int)).toArray
def Ay(w:World)(g:Nat)(T:TypeId)(l:Bs):Prop:=w.heap[g]?=some (.cells (dvB l) T (0,0))
section
variable {w w':World} {g:Nat} {T:TypeId} {l:Bs}
theorem Ay.lt(h:Ay w g T l):g<w.heap.size:=by
 rcases Nat.lt_or_ge g w.heap.size with G|D
 ·exact G
 ·unfold Ay at h;rw[Array.getElem?_eq_none D]at h;cases h
theorem Ay.cell(h:Ay w g T l){i:Nat}{c:UInt8}(hd:l[i]?=some c):w.cell? ⟨g,i,none⟩=some (.int .u8 (c.toNat:Int)):=by
 rw[cR w g i (dvB l) T (0,0) h];simp[dvB,hd]
theorem Ay.frozen(h:Ay w g T l)(i:Nat):w.frozen? ⟨g,i,none⟩=false:=by
 unfold Ay at h;simp[World.frozen?,h]
theorem Ay.aiV(h:Ay w g T l)(i:Nat)(c:UInt8):Ay (w.setCell ⟨g,i,none⟩ (.int .u8 (c.toNat:Int))) g T (l.set i c):=by
 unfold Ay at h⊢;simp[World.setCell,Array.getElem?_modify,h,dvB,List.map_set]
theorem Ay.below{B:Nat}(h:Ay w g T l)(hb:Below B w w')(D:g<B):Ay w' g T l:=(hb.block g D).trans h
end
theorem ac6(n:Int)(w:World)(h1:-9223372036854775808≤n)(h2:n≤9223372036854775807) :
 Calls Tryz.prog 96 #[.int .i64 n] w fun e w'=>e=.returned (.int .u64 (n.natAbs:Nat))∧w=w':=by
 by_cases h:n<0
 ·have e1:IntKind.u64.wrap (-IntKind.u64.wrap n)=(n.natAbs:Nat):=by
   show(-(n%18446744073709551616))%18446744073709551616=_;omega
  have D:=Hd e1;clear e1;go_in
  go_wp2
  go_ret;rw[D];exact⟨rfl,rfl⟩
 ·obtain⟨m,rfl⟩:∃m:Nat,n=m:=⟨n.toNat,by omega⟩;rw[Int.natAbs_natCast];go_in
  go_wp2
  go_ret;exact⟨rfl,rfl⟩
theorem uq(n:Int)(w:World)(h1:-9223372036854775808≤n)(h2:n≤9223372036854775807) :
 Calls Tryz.prog 56 #[.int .i64 n] w fun e w'=>e=.returned (.string ⟨(aO n).toArray⟩)∧Below w.heap.size w w':=by
 have mg:=Hd (fun W=>ac6 n W h1 h2);obtain⟨x,hx⟩:=aj n.natAbs;have aw:x<10^19:=by rw[hx];show n.natAbs<10000000000000000000;omega
 rw[←hx]at mg;have HX:=Hd hx;have ag:=Hd aw;clear hx aw h1 h2;obtain⟨W,HW⟩:=ak (w.alloc (.cells (dvB (List.replicate 20 0)) 158));have bb:Hid (Ay W w.heap.size 158 (List.replicate 20 0)):=by rw[HW];exact eu w _
 have a8:Hid (Below w.heap.size w W):=by rw[HW];exact(Br _ _).alloc (lr _) _
 go_in;go_wp2_with fail;refine(mg _).mono ?_;rintro e w1 ⟨rfl,hw⟩;rw[←hw];clear hw;go_wp2_with fail;have sQ:Hid (Ay (w.alloc (.cells #[.int .u8 0,.int .u8 0,.int .u8 0,.int .u8 0,.int .u8 0,.int .u8 0,.int .u8 0,.int .u8 0,.int .u8 0,.int .u8 0,.int .u8 0,.int .u8 0,.int .u8 0,.int .u8 0,.int .u8 0,.int .u8 0,.int .u8 0,.int .u8 0,.int .u8 0,.int .u8 0] 158)) w.heap.size 158 (List.replicate 20 0)):=eu w _
 go_loopw [4,5] (fun sa su wr=>∃(k a u:Nat)(L:Bs),a+k=20∧sa=.int .i64 a∧su=.int .u64 u∧u=x/10^k∧L.length=20∧L.drop a=OA k x∧Ay wr w.heap.size 158 L∧(1<k→0<x/10^(k-1))∧Below w.heap.size w wr) (fun a _ _=>(intOf a).toNat)
 case atStart=>exact⟨0,20,x,_,rfl,rfl,rfl,by rw[Nat.pow_zero,Nat.div_one],by simp,rfl,sQ.out,(fun h=>by omega),(Br _ _).alloc (lr _) _⟩
 case round=>
  obtain⟨k,a,u,L,bh,rfl,rfl,hu,hL,hdr,hrow,ab,O⟩:=hrel;have HU:=Hd hu;have HL:=Hd hL;have ae:=Hd hdr;have iF:=Hd hrow;have ai:=Hd ab;have oU:=Hd O;have bj:=hrow.lt;have aP:=hrow.frozen (a-1)
  have ax:∀j,0<x/10^j→j<19:=fun j hj=>by
   have h1:=(Nat.div_pos_iff.1 hj).2;exact(Nat.pow_lt_pow_iff_right (by decide)).1 (Nat.lt_of_le_of_lt h1 ag)
  have Oa:=Hd ax
  have bk:u≤10000000000000000000:=by
   have h1:=ag.out;have h2:u≤x:=by rw[HU];exact Nat.div_le_self _ _
   have h3:(10:Nat)^19=10000000000000000000:=rfl;omega
  clear hu hL hdr hrow ab O ax
  by_cases D:k=0∨0<u
  ·have ay:k≤18:=by
    rcases D with h|h
    ·omega
    ·have:=Oa k (by rw[←HU];exact h);omega
   obtain⟨c,hc⟩:∃c:UInt8,c=UInt8.ofNat (48+u%10):=⟨_,rfl⟩;have aJ:c.toNat=48+u%10:=by rw[hc,UInt8.toNat_ofNat'];omega
   have E1:Hid (48+(u:Int)%10=(c.toNat:Int)):=by show _=_;omega
   have HC:=Hd hc;obtain⟨o0,G⟩:∃o0,L[a-1]?=some o0:=⟨_,gG (by have:=HL.out;omega)⟩;have y0:=iF.cell G;have aS:=Hd G;clear G;have bd:(0:Int)≤(a:Int)-1:=by omega
   have bf:(a:Int)-1<20:=by omega
   have bg:((a:Int)-1).toNat=a-1:=by omega
   have aE:(a:Int)≤20:=by omega
   clear hc aJ
   have aa:(((a:Int)==20)=true)∨(((a:Int)==20)=false∧(0:Int)<(u:Int)):=by
    rcases Nat.eq_zero_or_pos k with h|h
    ·left;simp;omega
    ·right;exact⟨by simp;omega,by omega⟩
   have HG:=Hd D;clear D
   rcases aa with b1|⟨b1,b2⟩
   all_goals
    go_wp2_with fail
    go_roundw
    case rel=>
     rw[E1];refine⟨k+1,a-1,u/10,L.set (a-1) c,by omega,congrArg (Value.int .i64) (by omega),congrArg (Value.int .u64) (by omega),by rw[HU,Nat.div_div_eq_div_mul,Nat.pow_succ],by rw[List.length_set];exact HL,?_,iF.aiV _ _,fun h=>?_,oU.setCell (p:=⟨w.heap.size,a-1,none⟩) (lr _) _⟩
     ·have aQ:a-1<L.length:=by have:=HL.out;omega
      rw[List.drop_eq_getElem_cons (by rw[List.length_set];exact aQ),List.getElem_set_self,List.drop_set_of_lt (by omega),show a-1+1=a from by omega,ae,LQ,←HU,←HC]
     ·have av:k≠0:=by omega
      rw[Nat.add_sub_cancel,←HU]
      rcases HG.out with h9|h9
      ·exact absurd h9 av
      ·exact h9
    case measure=>first|(simp[intOf];done)|(simp[intOf];omega)
  ·have av:k≠0:=fun h=>D (.inl h);have hu0:u=0:=by rcases Nat.eq_zero_or_pos u with h|h;exact h;exact absurd (.inr h) D
   have ay:k≤19:=by
    rcases Nat.lt_or_ge k 2 with h|h
    ·omega
    ·have:=Oa (k-1) (ai (by omega));omega
   have Y:OA k x=l9 x:=Td k x (by rw[←HU];exact hu0) (by
    rcases Nat.lt_or_ge k 2 with h|h
    ·left;omega
    ·right;exact⟨by omega,ai (by omega)⟩)
   have ao:=Hd Y;subst hu0;have b1:((a:Int)==20)=false:=by simp;omega
   clear D Y
   have ar:∀(wr':World)(b:Nat)(J:Bs),b≤20→J.length=20→Ay wr' w.heap.size 158 J→(convert 79 9 (.slice (some ⟨w.heap.size,b,none⟩) (20-b) (20-b))).run Tryz.prog wr'=.ok (.string ⟨(J.drop b).toArray⟩) wr':=by
    intro wr' b J hb ba hr
    have h1:=run_convert_bytes_arg wr' 79 5 Tryz.underlying79 Tryz.underlying5 w.heap.size b (20-b) (20-b) ((J.drop b).map fun(c:UInt8)=>(c.toNat:Int)) (by rw[List.length_map,List.length_drop];omega) (fun i hi=>by
     have hx:J[b+i]?=some (J[b+i]'(by omega)):=gG (by omega);rw[hr.cell hx]
     simp[List.getD,List.getElem?_map,List.getElem?_drop,hx]) 9 Tryz.underlying9
    rw[h1]
    congr 2
    apply ByteArray.ext
    apply Array.toList_inj.1
    rw[strOfNums_data,List.map_map]
    have hid:∀c∈J.drop b,((fun n:Int=>UInt8.ofNat n.toNat)∘fun c:UInt8=>(c.toNat:Int)) c=c:=fun c _=>by
     show UInt8.ofNat ((c.toNat:Int)).toNat=c;rw[Int.toNat_natCast,UInt8.ofNat_toNat]
    first
     |(rw[List.map_congr_left hid];simp)
     |simp
   have I:=Hd ar;clear ar
   by_cases hn:n<0
   ·obtain⟨b,hb⟩:=aj (a-1);obtain⟨o0,G⟩:∃o0,L[b]?=some o0:=⟨_,gG (by have:=HL.out;omega)⟩;have y0:=iF.cell G;rw[←hb]at aP;have e1:(a:Int)-1=(b:Int):=by omega
    have a6:b≤19:=by omega
    have bi:(b:Int)≤20:=by omega
    have a7:(b:Int)<20:=by omega
    have af:=I (wr.setCell ⟨w.heap.size,b,none⟩ (.int .u8 45)) b (L.set b 45) (by omega) (by rw[List.length_set];exact HL) (iF.aiV b 45)
    have hres:(L.set b 45).drop b=aO n:=by
     have aF:b<(L.set b 45).length:=by rw[List.length_set];have:=HL.out;omega
     rw[List.drop_eq_getElem_cons aF,List.getElem_set_self,List.drop_set_of_lt (by omega),show b+1=a from by omega,ae,ao];unfold aO;rw[iP hn,HX]
    rw[hres]at af;have az:=Hd (oU.setCell (p:=⟨w.heap.size,b,none⟩) (lr _) (.int .u8 45));clear G hb hres I;go_wp2_with fail;go_ret;exact⟨rfl,az⟩
   ·have aE:(a:Int)≤20:=by omega
    have af:=I wr a L (by omega) HL iF
    have hres:L.drop a=aO n:=by
     rw[ae,ao];unfold aO;rw[iN hn,HX]
    rw[hres]at af;clear hres I;go_wp2_with fail;go_ret;exact⟨rfl,oU⟩
theorem QF:(Tryz.prog.info? 81).map (·.size)=some 2:=by kernel_rfl
theorem afI:liesAt Tryz.prog Tryz.prog.depth 81 (2/Tryz.prog.cellsOf 81) 0 81 1=true:=by kernel_rfl
theorem QG:(Tryz.prog.info? 5).map (fun i=>(i.zero,i.size,i.bytes))=some (some (.int .u8 0),1,1):=by kernel_rfl
abbrev oV(B b:Nat)(l:List Value)(w:World):Prop:=Lib.IsBuilder 81 5 B b l w
abbrev afJ(B b:Nat)(p:Value)(l:List Value)(w:World):Prop:=Lib.BuilderAt 81 5 B b p l w
theorem Pe(b:Nat)(w:World)(h0:w.cell? ⟨b,0,none⟩=some (.pointer (some ⟨b,0,none⟩))) :
 Calls Tryz.prog 104 #[.pointer (some ⟨b,0,none⟩)] w fun e w'=>e=.returned (.tuple #[])∧w'=w:=by
 obtain⟨j,D,_⟩:=Option.map_eq_some_iff.1 QF;go_in
 go_wp2
 rw[Lib.run_neq_ptr_same w _ Tryz.underlying78 D]
 go_wp2
 go_end0
 exact⟨rfl,rfl⟩
theorem Wy(b:Nat)(w:World)(h0:w.cell? ⟨b,0,none⟩=some (.pointer none))(D:w.shape? b=some (81,2))(J:w.frozen? ⟨b,0,none⟩=false) :
 Calls Tryz.prog 104 #[.pointer (some ⟨b,0,none⟩)] w fun e w'=>e=.returned (.tuple #[])∧w'=w.setCell ⟨b,0,none⟩ (.pointer (some ⟨b,0,none⟩)):=by
 obtain⟨j,I,G⟩:=Option.map_eq_some_iff.1 QF;go_in
 go_wp2
 rw[Lib.run_to_unsafe w ⟨b,0,none⟩ Tryz.underlying78 Tryz.underlying204 I (by rw[G];decide) D (Nat.zero_lt_succ 1)];simp only[Result.andThen];rw[Oper.upon_value]
 go_wp2
 rw[run_callFunc_extern Tryz.func132 (by kernel_rfl) (by kernel_rfl) (by kernel_rfl) (e:=Extern.AbiNoEscape.same) (by kernel_rfl)];rw[Lib.run_noEscape];simp only[Result.andThen];rw[Oper.upon_value]
 go_wp2
 rw[Lib.run_from_unsafe w ⟨b,0,none⟩ Tryz.underlying204 Tryz.underlying78 I D afI];simp only[Result.andThen];rw[Oper.upon_value]
 go_wp2
 go_end0
 exact⟨rfl,rfl⟩
theorem LU(B b:Nat)(bs:List Value)(w:World)(h:oV B b bs w) :
 Calls Tryz.prog 104 #[.pointer (some ⟨b,0,none⟩)] w fun e w'=>e=.returned (.tuple #[])∧(afJ B b (.pointer (some ⟨b,0,none⟩)) bs w'∧Only (fun q=>q=b) w w'):=by
 rcases h with h|h
 ·refine(Wy b w h.cell0 h.shape h.frozen0).mono ?_;rintro e w' ⟨rfl,rfl⟩;exact⟨rfl,h.used _,(Only.refl (F:=fun q=>q=b)).bq rfl _⟩
 ·refine(Pe b w h.cell0).mono ?_;rintro e w' ⟨rfl,rfl⟩;exact⟨rfl,h,Only.refl⟩
structure KB(B b:Nat)(w w':World):Prop where
 below:Below B w w'
 keep:∀q,q<w.heap.size→q≠b→(∀cs fz,w.heap[q]?≠some (.cells cs 5 fz))→w'.heap[q]?=w.heap[q]?
theorem KB.refl{B b:Nat}{w:World}:KB B b w w:=⟨Br _ _,fun _ _ _ _=>rfl⟩
theorem KB.trans{B b:Nat}{w w' D:World}(h:KB B b w w')(k:KB B b w' D):KB B b w D:=⟨h.below.trans k.below,fun q hq hb hn=>by
 have h1:=h.keep q hq hb hn;rw[←h1]
 exact k.keep q (lL hq h.below.size) hb (fun cs G=>by rw[h1];exact hn cs G)⟩
theorem KB.of_below{B b:Nat}{w w':World}(h:Below w.heap.size w w')(D:B≤w.heap.size):KB B b w w':=⟨h.mono D,fun q hq _ _=>h.block q hq⟩
theorem oV.keep{B b:Nat}{l:List Value}{w w':World}(h:oV B b l w)(hb:Below w.heap.size w w'):oV B b l w':=by
 have key:∀p,afJ B b p l w→afJ B b p l w':=fun p ⟨h1,v,h2,h3,O⟩=>by
  have I:b<w.heap.size:=by
   rcases Nat.lt_or_ge b w.heap.size with D|D
   ·exact D
   ·rw[Array.getElem?_eq_none D]at h2;cases h2
  refine⟨h1,v,(hb.block b I).trans h2,?_,O⟩;refine⟨h3.1,?_⟩
  rcases h3.2 with hn|⟨g,cap,cur,rfl,G,J,rest⟩
  ·exact .inl hn
  ·exact .inr ⟨g,cap,cur,rfl,G,(hb.block g (Array.getElem?_eq_some_iff.1 J).1).trans J,rest⟩
 rcases h with h|h
 ·exact .inl (key _ h)
 ·exact .inr (key _ h)
theorem oV.lt{B b:Nat}{l:List Value}{w:World}(h:oV B b l w):b<w.heap.size∧B≤b:=by
 have key:∀p,afJ B b p l w→b<w.heap.size∧B≤b:=fun p ⟨h1,v,h2,h3,G⟩=>by
  refine⟨?_,h1⟩
  rcases Nat.lt_or_ge b w.heap.size with D|D
  ·exact D
  ·rw[Array.getElem?_eq_none D]at h2;cases h2
 rcases h with h|h
 ·exact key _ h
 ·exact key _ h
theorem Gt{B b:Nat}{w w1 w2:World}{v v':Value}{cs:List Value}{n:Nat}(ho:Only (fun q=>q=b) w w1)(I:B≤b)(O:B≤w.heap.size)(D:w1.ownsRow B 5 1 v n cs)(G:w1.grownBy w2 v.ownBlock):KB B b w (w2.setCell ⟨b,1,none⟩ v'):=by
 have hb1:Below B w w1:=ho.below (fun q hq=>by subst hq;exact I) O;have Y:Below B w1 w2:=⟨G.os,G.tape,G.output,G.size,fun q hq=>G.block q (by have:=hb1.size;omega) (fun e=>by have:=(D.lt q e.symm).1;omega)⟩;refine⟨(hb1.trans Y).setCell (p:=⟨b,1,none⟩) I _,fun q hq hb hn=>?_⟩;rw[iw w2 ⟨b,1,none⟩ q v' (fun e=>hb e)];have h1:=ho.block q hq hb;rw[G.block q (lL hq ho.size) ?_,h1];intro e
 rcases D.2 with⟨hv,_⟩|⟨g,cap,cur,hv,_,J,_⟩
 ·rw[hv]at e;cases e
 ·rw[hv]at e
  injection e with e
  have e':q=g:=e;subst e';rw[h1]at J;exact hn _ _ J
theorem bS(B b:Nat)(l:Bs)(s:ByteArray)(w:World)(h:oV B b (Lib.byteCells l) w)(hlen:l.length+s.size≤140737488355328)(ae:B≤w.heap.size) :
 Calls Tryz.prog 61 #[.pointer (some ⟨b,0,none⟩),.string s] w fun e w'=>e=.returned (.tuple #[.int .i64 s.size,.nilIface])∧oV B b (Lib.byteCells (l++s.data.toList)) w'∧KB B b w w':=by
 obtain⟨i0,hi,ai,ar,av⟩:=info_parts QG;go_in;go_wp2_with fail;refine(LU B b _ w h).mono ?_;rintro e w1 ⟨rfl,h1,ab⟩;obtain⟨hB,v,O,aa,hne⟩:=h1;have c0:w1.cell? ⟨b,0,none⟩=some (.pointer (some ⟨b,0,none⟩)):=by rw[Lib.cell_of_heap O];rfl
 have c1:w1.cell? ⟨b,1,none⟩=some v:=by rw[Lib.cell_of_heap O];rfl
 have ag:=ab.size;have G:(Lib.byteCells l).length+s.size≤140737488355328:=by rw[Lib.byteCells_length];exact hlen
 have Y:=Hd G;clear G
 go_wp2_with (at_builtin;refine Lib.wpList_append_own_string _ rfl _ _ 79 9 rfl B 5 i0 Tryz.underlying79 Tryz.underlying9 hi ai ar av _ _ _ rfl aa s rfl ?c3 ?c4 ?c5 ?_)
 case c3=>have:=Y.out;unfold maxLen;omega
 case c4=>exact Y
 case c5=>omega
 intro v' w2 I D _
 have af:b<w1.heap.size:=by
  rcases Nat.lt_or_ge b w1.heap.size with h'|h'
  ·exact h'
  ·simp[Array.getElem?_eq_none h']at O
 have J:w2.heap[b]?=some (.cells #[.pointer (some ⟨b,0,none⟩),v] 81 (0,0)):=by
  rw[D.block b af (fun e=>hne e.symm)];exact O
 have uw:=Hd (Gt (v':=v') ab hB ae aa D);have d0:w2.cell? ⟨b,0,none⟩=some (.pointer (some ⟨b,0,none⟩)):=by rw[Lib.cell_of_heap J];rfl
 have d1:w2.cell? ⟨b,1,none⟩=some v:=by rw[Lib.cell_of_heap J];rfl
 have f1:w2.frozen? ⟨b,1,none⟩=false:=Lib.frozen_of_heap J 1
 obtain⟨ao,n',cap,rfl⟩:∃ao n' cap,v'=.slice ao n' cap:=by
  rcases I.2 with⟨hv,_⟩|⟨g,cap,cur,hv,_⟩
  ·exact⟨_,_,_,hv⟩
  ·exact⟨_,_,_,hv⟩
 go_wp2
 go_ret2
 refine⟨rfl,.inr ?_,uw⟩;have e1:Lib.byteCells (l++s.data.toList)=Lib.byteCells l++Lib.strCells s:=by simp[Lib.byteCells,Lib.strCells]
 rw[e1];exact Lib.BuilderAt.put (T:=81) (e:=5) hB J (bs':=Lib.byteCells l++Lib.strCells s) (by simpa[Lib.strCells_length]using I) (by decide)
theorem EN{l:Bs}(h:l=[]):isName l=false:=by subst h;rfl
theorem JN{l:Bs}(h:l≠[]):isName l=(decide (l.length≤24)&&dV (l.headD 0)&&decide (rowLen bD l=l.length)&&!isWord l):=by
 unfold isName;simp[h]
structure je(w:World):Prop where
 size:0<w.heap.size
 words:∀j,j<24→w.cell? ⟨0,j,none⟩=some (.string (lC.getD j ByteArray.empty))
theorem je.below{w w':World}(h:je w)(hb:Below w.heap.size w w'):je w':=
 ⟨lL h.size hb.size,fun j D=>by rw[hb.cell (p:=⟨0,j,none⟩) h.size];exact h.words j D⟩
theorem Tables.ac7{w:World}(h:Tables w):je w:=⟨by have:=h.size;show 0<_;omega,h.words⟩
theorem aaC(s:ByteArray)(w:World)(hs:s.size≤maxLen)(hT:je w):Calls Tryz.prog 58 #[.string s] w fun e w'=>e=.returned (.bool (isName (bs s)))∧w=w':=by
 have aa:=hs;unfold maxLen at aa;have HT:=Hd hT;clear hT
 by_cases h0:0<s.size
 ·have hne:=acY h0;have G:=drop_cons (nW h0);rw[List.drop_zero]at G;have O:=JN (l:=bs s) (by rw[G];simp);rw[aC,show(bs s).headD 0=s[0]from by rw[G];rfl]at O;have HN:=Hd O;clear O G;have hrow:=Lp s;have iF:=Hd hrow;clear hrow;have J:=Tryz.slices_Contains_string 0 0 24 24 lC s w (by decide) (by decide) (fun j hj=>by rw[Nat.zero_add];exact HT.words j hj)
  rw[show Lib.containsS (lC.take 24) s=isWord (bs s)from by
   unfold isWord
   rw[show lC.take 24=lC from rfl,show(⟨(bs s).toArray⟩:ByteArray)=s from gV rfl]]at J
  have HC:=Hd J;clear J
  by_cases S_:s.size≤24
  ·have Wt:(s.size:Int)≤24:=by omega
   have Y:=Hd (sO s[0]);cases hle:dV s[0]
   ·rw[hle]at Y;have I:=Hd (show isName (bs s)=false from by rw[HN,hle];simp);clear hle;go_in;go_wp2_with fail;refine(Y _).mono ?_;rintro e w3 ⟨rfl,hw⟩;rw[←hw];clear hw
    go_wp2
    go_ret;exact⟨by rw[I];rfl,rfl⟩
   ·rw[hle]at Y
    by_cases hr:rowLen bD (bs s)=s.size
    ·have I:=Hd (show isName (bs s)=!isWord (bs s)from by rw[HN,hle,hr];simp[S_]);rw[hr]at iF;clear hle hr;cases hw:isWord (bs s)
     all_goals
      rw[hw]at HC I;clear hw;go_in;go_wp2_with fail;refine(Y _).mono ?_;rintro e w3 ⟨rfl,hw⟩;rw[←hw];clear hw;go_wp2_with fail;refine(iF _ (by unfold maxLen;omega)).mono ?_;rintro e w3 ⟨rfl,hw⟩;rw[←hw];clear hw;go_wp2_with fail;refine HC.mono ?_;rintro e w3 ⟨rfl,hw⟩;rw[hw];clear hw
      go_wp2
      go_ret;exact⟨by rw[I];rfl,rfl⟩
    ·have I:=Hd (show isName (bs s)=false from by rw[HN];simp[hr]);obtain⟨n,hn⟩:=aj (rowLen bD (bs s));rw[←hn]at iF hr;clear hn hle;have ae:¬(n:Int)=(s.size:Int):=by omega
     go_in;go_wp2_with fail;refine(Y _).mono ?_;rintro e w3 ⟨rfl,hw⟩;rw[←hw];clear hw;go_wp2_with fail;refine(iF _ (by unfold maxLen;omega)).mono ?_;rintro e w3 ⟨rfl,hw⟩;rw[←hw];clear hw
     go_wp2
     go_ret;exact⟨by rw[I];rfl,rfl⟩
  ·have I:=Hd (show isName (bs s)=false from by rw[HN];simp[S_]);have Wt:¬(s.size:Int)≤24:=by omega
   clear S_;go_in
   go_wp2
   go_ret;exact⟨by rw[I];rfl,rfl⟩
 ·have D:bs s=[]:=List.eq_nil_of_length_eq_zero (by rw[aC];omega);have ab:s=⟨#[]⟩:=gV D;rw[EN D];subst ab;clear D h0 hs aa;go_in
  go_wp2
  go_ret;exact⟨rfl,rfl⟩
set_option maxHeartbeats 8000000
mutual
def iW:Tm→Bool
 |.mk o n s l=>if (o=6∨o=7)∧l.length=1 then false else if o=3∨o=4 then isName s.data.toList else j_ l
def j_:List Tm→Bool
 |[]=>true
 |t::r=>iW t&&j_ r
end
theorem Gu(t:Tm):iW t=if (t.op=6∨t.op=7)∧t.kids.length=1 then false else if t.op=3∨t.op=4 then isName t.name.data.toList else j_ t.kids:=by
 cases t;rw[iW];rfl
theorem LY:∀(N:Nat) (t:Tm) (A:Option Addr) (c:Nat) (w:World),t.size≤N→t.size≤9000000→zx w A c t→je w →
 Calls Tryz.prog 127 #[t.val A c] w fun e w'=>e=.returned (.bool (iW t))∧Below w.heap.size w w'
 |0,t,A,c,w,hN,_,_,_=>by cases t;rw[Tm.size]at hN;omega
 |N+1,t,A,c,w,hN,hd,hV,hT=>by
  obtain⟨n,hn⟩:=aj t.kids.length;have ab:=hV.cap;have aQ:=hV.bU;unfold maxLen at aQ
  have ba:n≤10000000:=by
   have:t.kids.length≤Tm.aA t.kids:=Tm.wG t.kids
   cases t with
   |mk o nn ss l=>rw[Tm.size]at hd;simp only[Tm.kids]at this hn;omega
  have mg:Hid (∀k∈t.kids,k.size≤N∧k.size≤9000000):=fun k hk=>by
   have h1:=Tm.aM hk
   cases t with
   |mk o nn ss l=>rw[Tm.size]at hN hd;simp only[Tm.kids]at h1;omega
  have hb1:Below w.heap.size w (w.alloc (.cells #[.int .i64 t.op,.int .i64 t.num,.string t.name,.slice A t.kids.length c] 64)):=(Br _ _).alloc (lr _) _;have aw:=aaC t.name (w.alloc (.cells #[.int .i64 t.op,.int .i64 t.num,.string t.name,.slice A t.kids.length c] 64)) hV.name (hT.below hb1);have I:=Hd hb1;have Y:=Hd aw;have HV:=Hd hV;have HT:=Hd hT;have HN:=Hd hn;obtain⟨r,hr⟩:=aj (iW t);rw[←hr];have ae:=Gu t;rw[←hr,←hn]at ae;have bE:=Hd ae;unfold Tm.val;rw[←hn]at I Y ab⊢;clear hb1 aw hV hT hn hr ae hN;obtain⟨op,ax⟩:=aj t.op;rw[←ax]at I Y bE⊢
  have aJ:((op=6∨op=7)∧n=1)∨(op=3∨op=4)∨(op=6∧n≠1∧((n:Int)==1)=false)∨(op=7∧n≠1∧((n:Int)==1)=false)∨(op≠6∧op≠7∧op≠3∧op≠4∧(op==6)=false∧(op==7)=false∧(op==3)=false∧(op==4)=false):=by
   by_cases h6:op=6
   ·by_cases h1:n=1
    ·exact .inl ⟨.inl h6,h1⟩
    ·exact .inr (.inr (.inl ⟨h6,h1,by simp;omega⟩))
   by_cases h7:op=7
   ·by_cases h1:n=1
    ·exact .inl ⟨.inr h7,h1⟩
    ·exact .inr (.inr (.inr (.inl ⟨h7,h1,by simp;omega⟩)))
   by_cases h3:op=3
   ·exact .inr (.inl (.inl h3))
   by_cases h4:op=4
   ·exact .inr (.inl (.inr h4))
   exact .inr (.inr (.inr (.inr ⟨h6,h7,h3,h4,by simpa using h6,by simpa using h7,by simpa using h3,by simpa using h4⟩)))
  clear ax
  rcases aJ with⟨ai,h1⟩|ag|aa
  ·have HR:Hid (r=false):=by show _=_;rw[bE,iP ⟨ai,h1⟩]
   subst h1
   rcases ai with rfl|rfl
   all_goals
    go_in;go_wp2_with fail;go_ret;rw[HR];exact⟨rfl,I⟩
  ·have HR:Hid (r=isName t.name.data.toList):=by
    show _=_;rw[bE,iN (by omega),iP ag]
   rcases ag with rfl|rfl
   all_goals
    go_in;go_wp2_with fail;refine Y.mono ?_;rintro e w1 ⟨rfl,hw⟩;rw[←hw];clear hw;go_wp2_with fail;go_ret;rw[HR];exact⟨rfl,I⟩
  ·have HR:Hid (r=j_ t.kids):=by
    show _=_;rw[bE,iN (by omega),iN (by omega)]
   rcases aa with⟨rfl,h1,aF⟩|⟨rfl,h1,aF⟩|⟨h6,h7,h3,h4,b6,b7,b3,b4⟩
   all_goals
    (try clear h1)
    (try clear h6 h7 h3 h4)
    go_in;go_wp2_with fail
    go_loopw [23] (fun si wr=>∃k:Nat,k≤n∧si=.int .i64 k∧Below w.heap.size w wr∧j_ (t.kids.drop k)=r) (fun i _=>n-(intOf i).toNat)
    case atStart=>exact⟨0,zl _,rfl,I,HR.symm⟩
    case round=>
     obtain⟨k,hk,rfl,J,htl⟩:=hrel;have oU:=Hd J;have Tf:=Hd htl;have nR:=J.size;clear J htl
     by_cases a8:k<n
     ·obtain⟨D,G⟩:∃D,t.kids[k]?=some D:=⟨_,gG (by have:=HN.out;omega)⟩;have O:D∈t.kids:=mG G
      rcases HV.kids with h9|⟨g,off,rfl,hg,hrow⟩
      ·rw[h9]at G;simp at G
      obtain⟨q0,q1,q2,A2,c2,q3,ao⟩:=(hrow.get G).open;rw[←oU.cell (p:=⟨g,_,none⟩) hg]at q0 q1 q2 q3;have a6:g<wr.heap.size:=by omega
      obtain⟨n2,kU⟩:=ak D.kids.length;rw[←kU]at q3
      have ay:Hid (t.kids.drop k=D::t.kids.drop (k+1)):=by
       obtain⟨hj,aP⟩:=gE.1 G;show _=_;rw[List.drop_eq_getElem_cons hj,aP]
      have a7:(0:Int)≤(k:Int):=by omega
      have aS:(k:Int)<(n:Int):=by omega
      have e1:off+4*k=off+k*4:=by omega
      rw[e1]at q0 q1 q2 q3;have av:Below wr.heap.size wr (wr.alloc (.cells #[.int .i64 D.op,.int .i64 D.num,.string D.name,.slice A2 n2 c2] 64)):=(Br _ _).alloc (lr _) _;have IK:=Hd (oU.trans (av.mono nR));have qm:=Hd (LY N D A2 c2 (wr.alloc (.cells #[.int .i64 D.op,.int .i64 D.num,.string D.name,.slice A2 n2 c2] 64)) (mg D O).1 (mg D O).2 (ao.below IK rfl) (HT.below IK));unfold Tm.val at qm;rw[←kU]at qm;have cB:=IK.size;obtain⟨z,HZ⟩:=ak (iW D);rw[←HZ]at qm;clear G O hrow ao e1 av;go_wp2_with fail;refine qm.mono ?_;rintro e w2 ⟨rfl,ar⟩;have af:=Hd (IK.trans (ar.mono cB));clear ar
      have HS:Hid (j_ (t.kids.drop k)=(z&&j_ (t.kids.drop (k+1)))):=by
       show _=_;rw[ay,j_,←HZ]
      cases z with
      |false=>
       have az:Hid (r=false):=by show _=_;rw[←Tf,HS];rfl
       go_wp2_with fail;go_ret;rw[az];exact⟨rfl,af⟩
      |true=>
       go_wp2_with fail
       go_roundw
       case rel=>exact⟨k+1,by omega,by go_num,af,by rw[←Tf,HS];rfl⟩
       case measure=>first|(simp[intOf];done)|(simp[intOf];omega)
     ·have aE:Hid (r=true):=by
       show _=_;rw[←Tf,List.drop_eq_nil_of_le (by have:=HN.out;omega)]
       rfl
      have aS:¬(k:Int)<(n:Int):=by omega
      go_wp2_with fail;go_ret;rw[aE];exact⟨rfl,oU⟩
theorem LZ(op:Int)(w:World) :
 Calls Tryz.prog 160 #[.int .i64 op] w fun e w'=>e=.returned (.int .i64 (bQ op:Nat))∧w=w':=by
 obtain⟨r,D⟩:=ak (bQ op);rw[←D];go_in
 go_wp2
 all_goals
  go_ret;rw[D];refine⟨?_,rfl⟩
  simp_all[bQ]
theorem Ci(op:Int)(i:Nat)(w:World)(hi:i≤1000000)(D:op=8→i≤2) :
 Calls Tryz.prog 163 #[.int .i64 op,.int .i64 (i:Nat)] w fun e w'=>e=.returned (.int .i64 (aX op i:Nat))∧w=w':=by
 obtain⟨r,I⟩:=ak (aX op i);rw[←I];have G:=Hd D;clear D;go_in
 go_wp2
 all_goals
  go_ret;rw[I];have D:=G.out;refine⟨?_,rfl⟩
  first
   |(simp_all[aX];done)
   |(simp_all[aX];omega)
theorem sS(op:Int)(w:World) :
 Calls Tryz.prog 162 #[.int .i64 op] w fun e w'=>e=.returned (.string ⟨(iy op).toArray⟩)∧w=w':=by
 obtain⟨r,D⟩:=ak (iy op);rw[←D];go_in
 go_wp2
 all_goals
  go_ret;rw[D];refine⟨?_,rfl⟩
  simp_all[iy]
end Go.Proofs.YtkhoeoilamddaaaGreatDoor
