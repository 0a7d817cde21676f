/- Walks: uniq.Find, Put, Cut, New. -/
import Derived.Test.YtpijlhlpejlhhaaGreatVMpA
import Derived.Test.YtpijlhlpejlhhaaGreatVBdM
import Derived.Test.YtpijlhlpejlhhaaGreatVRwB
namespace Go.Proofs.YtpijlhlpejlhhaaGreat
open Go.RowKit Go.Maps
set_option linter.unusedVariables false
set_option maxRecDepth 100000
set_option maxHeartbeats 4000000
/-- A table's function of pairs. -/
def dY(f:Nat→Nat→Option Nat)(x:Nat×Nat):Option Int:=(f x.1 x.2).map (fun i=>(i:Int))
/-- A unique table in memory: roles r and r+1. -/
structure gT(K:Nat→Nat)(w:World)(tb mb r:Nat)(f:Nat→Nat→Option Nat):Prop where
 row:w.heap[tb]?=some (.cells #[.map (some mb)] 227 (0,0))
 map:∃c,bV jh w mb c (dY f)
 kt:K tb=r
 km:K mb=r+1
/-- Few entries. -/
def Ws(f:Nat→Nat→Option Nat):Prop:=∃N,N≤1048577∧(∀a b i,f a b=some i→i<N)∧∀a b c d i,f a b=some i→f c d=some i→a=c∧b=d
section
variable {K K':Nat→Nat} {w w':World} {tb mb r:Nat} {f:Nat→Nat→Option Nat}
theorem gT.aG{R:Nat→Prop}(h:gT K w tb mb r f)(t:aj R K w K' w')(h1:¬R r)(h2:¬R (r+1)):gT K' w' tb mb r f:=by
 obtain⟨c,hm⟩:=h.map;exact⟨t.obj h.row (by rw[h.kt];exact h1),⟨c,hm.kept (t.block hm.lt (by rw[h.km];exact h2))⟩,(t.role h.row).trans h.kt,(t.ext _ hm.lt).trans h.km⟩
theorem MV(hf:Ws f){c:Nat}(h:bV jh w mb c (dY f)):c≤1048577:=by
 obtain⟨N,hN,h1,h2⟩:=hf;obtain⟨l,a1,a2,a3⟩:=h.list
 have key:∀(l:List (Nat×Nat)),l.Nodup→(∀x∈l,f x.1 x.2≠none)→l.length≤N:=fun l hn hl=>by
  have h9:=Bd.eZ N (l.map (fun x=>(f x.1 x.2).getD 0)) (List.pairwise_map.2 (hn.imp_of_mem (fun{x y} hx hy hne e=>hne (by
   have ex:=hl x hx;have ey:=hl y hy
   cases hfx:f x.1 x.2 with
   |none=>exact absurd hfx ex
   |some i=>
    cases hfy:f y.1 y.2 with
    |none=>exact absurd hfy ey
    |some j=>
     rw[hfx,hfy]at e;simp only[Option.getD_some]at e;subst e;obtain⟨e1,e2⟩:=h2 _ _ _ _ _ hfx hfy
     exact Prod.ext e1 e2)))) (fun i hi=>by
   obtain⟨x,hx,rfl⟩:=List.mem_map.1 hi
   cases hfx:f x.1 x.2 with
   |none=>exact absurd hfx (hl x hx)
   |some i=>exact h1 _ _ _ hfx)
  simpa using h9
 have:=key l a1 (fun x hx e=>(a3 x).1 hx (by unfold dY;rw[e];rfl));omega
theorem yD{a b:Nat}(h:f a b=none):dY f (a,b)=none:=by simp[dY,h]
theorem yE{a b i:Nat}(h:f a b=some i):dY f (a,b)=some (i:Int):=by simp[dY,h]
end
theorem ou{K:Nat→Nat}{w:World}{tb mb r:Nat}{f:Nat→Nat→Option Nat}(h:gT K w tb mb r f)(a b:Nat)(ha:a<4611686018427387904)(hb:b<4611686018427387904) :
 Calls Tryz.prog 159 #[.pointer (some ⟨tb,0,none⟩),.int .i64 (a:Nat),.int .i64 (b:Nat)] w fun x w'=>x=.returned (.tuple #[.int .i64 (((f a b).getD 0:Nat):Int),.bool (f a b).isSome])∧w'=w:=by
 obtain⟨c,hm⟩:=h.map;have hr:=hm.pq (x:=(a,b)) ⟨ha,hb⟩;have y0:=au h.row 0 rfl
 have e1:(Instr.lookup 225 (.map (some mb)) (.agg #[.int .i64 (a:Nat),.int .i64 (b:Nat)]) true).run Tryz.prog w=.ok (.tuple #[.int .i64 (((f a b).getD 0:Nat):Int),.bool (f a b).isSome]) w:=by
  cases hf:f a b with
  |none=>rw[yD hf]at hr;exact hr
  |some i=>rw[yE hf]at hr;exact hr
 generalize (f a b).getD 0=u at *
 generalize (f a b).isSome=t at *
 clear hr hm h;go_in
 go_wp2
 go_ret2
 exact⟨rfl,rfl⟩
/-- An entry more. -/
def Cz(f:Nat→Nat→Option Nat)(a b i:Nat):Nat→Nat→Option Nat:=fun x y=>if x=a∧y=b then some i else f x y
/-- An entry less. -/
def MW(f:Nat→Nat→Option Nat)(a b:Nat):Nat→Nat→Option Nat:=fun x y=>if x=a∧y=b then none else f x y
theorem MX(f:Nat→Nat→Option Nat)(a b i:Nat):iC (dY f) (a,b) (some (i:Int))=dY (Cz f a b i):=funext fun x=>by
 unfold iC dY Cz
 by_cases e:x=(a,b)
 ·rw[if_pos e,e];simp
 ·rw[if_neg e,if_neg (fun h=>e (Prod.ext h.1 h.2))]
theorem MZ(f:Nat→Nat→Option Nat)(a b:Nat):iC (dY f) (a,b) none=dY (MW f a b):=funext fun x=>by
 unfold iC dY MW
 by_cases e:x=(a,b)
 ·rw[if_pos e,e];simp
 ·rw[if_neg e,if_neg (fun h=>e (Prod.ext h.1 h.2))]
theorem gT.ne{K:Nat→Nat}{w:World}{tb mb r:Nat}{f:Nat→Nat→Option Nat}(h:gT K w tb mb r f):tb≠mb:=fun e=>by have h1:=h.kt;have h2:=h.km;rw[←e]at h2;omega
theorem gT.turn{K:Nat→Nat}{w w':World}{tb mb r c:Nat}{f g:Nat→Nat→Option Nat}(h:gT K w tb mb r f)(hm:bV jh w' mb c (dY g))(ho:Only (fun q=>q=mb) w w'):gT K w' tb mb r g∧aj (fun q=>q=r+1) K w K w':=
 ⟨⟨(ho.block tb (aV h.row) h.ne).trans h.row,⟨c,hm⟩,h.kt,h.km⟩,⟨ho.mono (fun q hq=>by rw[hq];exact h.km),fun _ _=>rfl⟩⟩
theorem CB{K:Nat→Nat}{w:World}{tb mb r:Nat}{f:Nat→Nat→Option Nat}(h:gT K w tb mb r f)(a b i:Nat)(ha:a<4611686018427387904)(hb:b<4611686018427387904)(hi:i<4611686018427387904)(hf:f a b=none)(aap:Ws f) :
 Calls Tryz.prog 172 #[.pointer (some ⟨tb,0,none⟩),.int .i64 (a:Nat),.int .i64 (b:Nat),.int .i64 (i:Nat)] w fun x w'=>x=.returned (.int .i64 0)∧gT K w' tb mb r (Cz f a b i)∧aj (fun q=>q=r+1) K w K w':=by
 obtain⟨c,hm⟩:=h.map;have hr:=hm.pq (x:=(a,b)) ⟨ha,hb⟩;rw[yD hf]at hr;have y0:=au h.row 0 rfl;have e1:(Instr.lookup 225 (.map (some mb)) (.agg #[.int .i64 (a:Nat),.int .i64 (b:Nat)]) true).run Tryz.prog w=.ok (.tuple #[.int .i64 0,.bool false]) w:=hr;have hc:=MV aap hm;obtain⟨W,h2,h3,h4⟩:=hm.store (x:=(a,b)) ⟨ha,hb⟩ (y:=(i:Int)) (sD hi) (by unfold maxLen;omega);rw[MX]at h3;have e2:(Instr.mapUpdate 225 (.map (some mb)) (.agg #[.int .i64 (a:Nat),.int .i64 (b:Nat)]) (.int .i64 (i:Nat))).run Tryz.prog w=.ok () W:=h2;have HQ:=Lib.hid (h.turn h3 h4);clear hr hm h hc h2 h3 h4 hf;go_in
 go_wp2
 go_ret;exact⟨rfl,HQ⟩
theorem CF{K:Nat→Nat}{w:World}{tb mb r:Nat}{f:Nat→Nat→Option Nat}(h:gT K w tb mb r f)(a b i:Nat)(ha:a<4611686018427387904)(hb:b<4611686018427387904)(hf:f a b=some i) :
 Calls Tryz.prog 169 #[.pointer (some ⟨tb,0,none⟩),.int .i64 (a:Nat),.int .i64 (b:Nat)] w fun x w'=>x=.returned (.int .i64 0)∧gT K w' tb mb r (MW f a b)∧aj (fun q=>q=r+1) K w K w':=by
 obtain⟨c,hm⟩:=h.map;have hr:=hm.pq (x:=(a,b)) ⟨ha,hb⟩;rw[yE hf]at hr;have y0:=au h.row 0 rfl;have e1:(Instr.lookup 225 (.map (some mb)) (.agg #[.int .i64 (a:Nat),.int .i64 (b:Nat)]) true).run Tryz.prog w=.ok (.tuple #[.int .i64 (i:Nat),.bool true]) w:=hr;obtain⟨W,h2,h3,h4⟩:=hm.drop (x:=(a,b)) ⟨ha,hb⟩ 0;rw[MZ]at h3;have e2:(Builtin.delete_ #[225,217] 0 #[.map (some mb),.agg #[.int .i64 (a:Nat),.int .i64 (b:Nat)]]).run Tryz.prog w=.ok (.tuple #[]) W:=h2;have HQ:=Lib.hid (h.turn h3 h4);clear hr hm h h2 h3 h4 hf;go_in
 go_wp2
 go_ret;exact⟨rfl,HQ⟩
theorem M8(K:Nat→Nat)(w:World)(r:Nat) :
 Calls Tryz.prog 145 #[] w fun x w'=>∃K' tb mb,x=.returned (.pointer (some ⟨tb,0,none⟩))∧gT K' w' tb mb r (fun _ _=>none)∧aj (fun _=>False) K w K' w'∧Below w.heap.size w w'∧w.heap.size≤tb∧w.heap.size≤mb∧w'.heap.size=w.heap.size+2:=by
 obtain⟨F,HF⟩:=aJ (fun(x:Ending)(w':World)=>∃K' tb mb,x=.returned (.pointer (some ⟨tb,0,none⟩))∧gT K' w' tb mb r (fun _ _=>none)∧aj (fun _=>False) K w K' w'∧Below w.heap.size w w'∧w.heap.size≤tb∧w.heap.size≤mb∧w'.heap.size=w.heap.size+2);rw[←HF];have hmm:=@run_makeMap Tryz.prog;go_in
 go_wp2
 rw[HF];have hb:Below w.heap.size w ((w.alloc (.map #[] 0)).alloc (.cells #[.map (some w.heap.size)] 227)):=((Below.refl _ w).alloc (Nat.le_refl _) _).alloc (by simp) _;have hm:bV jh (w.alloc (.map #[] 0)) w.heap.size 0 (dY fun _ _=>none):=bV.made w;refine⟨bJ (bJ K (w.heap.size+1) r) w.heap.size (r+1),w.heap.size+1,w.heap.size,rfl,⟨aL (by simp),⟨0,hm.kept (heap_alloc_old _ _ _ (by simp))⟩,by rw[bP (by omega),aW],aW _ _ _⟩,((aj.of_below hb).new (by omega)).new (Nat.le_refl _),hb,by omega,Nat.le_refl _,by simp⟩
end Go.Proofs.YtpijlhlpejlhhaaGreat
