/- Walks and plain words: StA MmA MmB MmC MmD MmE. -/
import Derived.Test.YtpijlhlpejlhhaaGreatVUnA
import Derived.Test.YtpijlhlpejlhhaaGreatVPlA
import Derived.WalkSpells
import Derived.Deep.QuietTactic
import Derived.BigQuiet
import Derived.Handy
import Derived.ChangeKeysEq
import Derived.Lib.SliceRun
namespace Go.Proofs.YtpijlhlpejlhhaaGreat
open Go.RowKit
set_option linter.unusedVariables false
section
/-- Where the store's parts lie. -/
structure SL where
 lb:Nat
 gv:Nat
 cvv:Nat
 gl:Nat
 Ng:Nat
 pb:Nat
 ga:Nat
 ca:Nat
 gt:Nat
 ct:Nat
 fv:Value
 kE:Nat
 qM:Nat
 cv:Value
 tb:Nat→Nat
 mb:Nat→Nat
 ce:Nat→Int
/-- The store's parts in memory. -/
structure StJ(K:Nat→Nat)(w:World)(sb:Nat)(L:SL)(n room:Nat)(P:Bd.St)(tab:Nat→Nat→Nat→Option Nat)(cn:Nat)(dead:Int)(ah:Nat→Nat)(ord:List Nat):Prop where
 row:w.heap[sb]?=some (.cells #[.pointer (some ⟨L.lb,0,none⟩),.pointer (some ⟨L.pb,0,none⟩),.slice (some ⟨L.kE,0,none⟩) n L.qM,L.cv,.int .i64 dead] 177 (0,0))
 iE:w.heap[L.lb]?=some (.cells #[.slice (some ⟨L.gv,0,none⟩) n L.cvv,.slice (some ⟨L.gl,0,none⟩) n L.Ng] 197 (0,0))
 vars:Rw w 3 1 n L.cvv L.gv (fun k=>[.int .i64 (ord.getD k 0:Nat)])
 level:Rw w 3 1 n L.Ng L.gl (fun v=>[.int .i64 (ah v:Nat)])
 pool:aY K w L.pb L.ga L.ca L.gt L.ct L.fv room P
 tabs:Rw w 198 1 n L.qM L.kE (fun v=>[.pointer (some ⟨L.tb v,0,none⟩)])
 tab:∀v,v<n→gT K w (L.tb v) (L.mb v) (100+2*v) (tab v)
 cnt:Sl w 3 1 L.cv cn (fun i=>[.int .i64 (L.ce i)])
 ks:K sb=2
 kl:K L.lb=3
 kv:K L.gv=4
 ke:K L.gl=5
 kt:K L.kE=10
 kc:j4 K 11 L.cv
/-- The store in memory. -/
structure pF(K:Nat→Nat)(w:World)(sb:Nat)(L:SL)(n room:Nat)(S:Bd.St)(ah:Nat→Nat)(ord:List Nat):Prop extends StJ K w sb L n room S S.tab S.cn S.dead ah ord where
 Jr:∀i,S.nd i≠none→L.ce i=S.cnt i
/-- The roles of the store. -/
def sR(r:Nat):Prop:=(2≤r∧r≤11)∨100≤r
/-- The store,wherever its parts lie. -/
def dG(K:Nat→Nat)(w:World)(sb n room:Nat)(S:Bd.St)(ah:Nat→Nat)(ord:List Nat):Prop:=∃L,pF K w sb L n room S ah ord
section
variable {K K':Nat→Nat} {w w':World} {sb n room:Nat} {L:SL} {S:Bd.St} {ah:Nat→Nat} {ord:List Nat}
theorem StJ.aG{P:Bd.St}{tab:Nat→Nat→Nat→Option Nat}{cn:Nat}{dead:Int}{R:Nat→Prop}(h:StJ K w sb L n room P tab cn dead ah ord)(t:aj R K w K' w')(hR:∀r,R r→¬sR r):StJ K' w' sb L n room P tab cn dead ah ord:=by
 have hn:∀r,sR r→¬R r:=fun r h1 h2=>hR r h2 h1;obtain⟨c1,c2⟩:=h.cnt.aG h.kc t (hn 11 (by unfold sR;omega))
 exact⟨t.obj h.row (by rw[h.ks];exact hn 2 (by unfold sR;omega)),t.obj h.iE (by rw[h.kl];exact hn 3 (by unfold sR;omega)),h.vars.kept (t.block h.vars.lt (by rw[h.kv];exact hn 4 (by unfold sR;omega))),h.level.kept (t.block h.level.lt (by rw[h.ke];exact hn 5 (by unfold sR;omega))),
  h.pool.aG t (fun r h1=>by have:=hR r h1;unfold sR at this;omega),h.tabs.kept (t.block h.tabs.lt (by rw[h.kt];exact hn 10 (by unfold sR;omega))),
  fun v hv=>(h.tab v hv).aG t (hn _ (by unfold sR;omega)) (hn _ (by unfold sR;omega)),c1,(t.role h.row).trans h.ks,(t.role h.iE).trans h.kl,(t.ext _ h.vars.lt).trans h.kv,(t.ext _ h.level.lt).trans h.ke,(t.ext _ h.tabs.lt).trans h.kt,c2⟩
theorem pF.aG{R:Nat→Prop}(h:pF K w sb L n room S ah ord)(t:aj R K w K' w')(hR:∀r,R r→¬sR r):pF K' w' sb L n room S ah ord:=⟨h.toStJ.aG t hR,h.Jr⟩
theorem pF.below(h:pF K w sb L n room S ah ord)(hb:Below w.heap.size w w'):pF K w' sb L n room S ah ord:=h.aG (R:=fun _=>False) (aj.of_below hb) (fun _ h=>h.elim)
theorem dG.aG{R:Nat→Prop}(h:dG K w sb n room S ah ord)(t:aj R K w K' w')(hR:∀r,R r→¬sR r):dG K' w' sb n room S ah ord:=by
 obtain⟨L,h⟩:=h;exact⟨L,h.aG t hR⟩
theorem dG.below(h:dG K w sb n room S ah ord)(hb:Below w.heap.size w w'):dG K w' sb n room S ah ord:=h.aG (R:=fun _=>False) (aj.of_below hb) (fun _ h=>h.elim)
theorem dG.lt(h:dG K w sb n room S ah ord):sb<w.heap.size:=by
 obtain⟨L,h⟩:=h;exact aV h.row
theorem pF.N(h:pF K w sb L n room S ah ord):S.N≤1048577:=h.pool.big
theorem pF.nz(h:pF K w sb L n room S ah ord):∀i,S.nd i≠none→0<i∧i<S.N:=h.pool.nz
end
/-- A node's numbers,0 where there is none. -/
def nI(S:Bd.St)(i:Nat):Nat:=match S.nd i with|some _=>i|none=>0
def nV(S:Bd.St)(i:Nat):Nat:=match S.nd i with|some d=>d.v|none=>0
def nL(S:Bd.St)(i:Nat):Nat:=match S.nd i with|some d=>d.lo|none=>0
def nH(S:Bd.St)(i:Nat):Nat:=match S.nd i with|some d=>d.hi|none=>0
def nR(S:Bd.St)(i:Nat):Nat:=match S.nd i with|some _=>S.refs i|none=>0
theorem Nh(S:Bd.St)(i:Nat):bC S i=[.int .i64 (nI S i:Nat),.int .i64 (nV S i:Nat),.int .i64 (nL S i:Nat),.int .i64 (nH S i:Nat),.int .i64 (nR S i:Nat)]:=by
 unfold bC nI nV nL nH nR;cases S.nd i<;>rfl
theorem j5{S:Bd.St}{i:Nat}{d:Bd.Nd}(h:S.nd i=some d):nI S i=i∧nV S i=d.v∧nL S i=d.lo∧nH S i=d.hi∧nR S i=S.refs i:=by
 unfold nI nV nL nH nR;rw[h];exact⟨rfl,rfl,rfl,rfl,rfl⟩
theorem jL{K:Nat→Nat}{w:World}{pb ga ca gt ct room:Nat}{fv:Value}{S:Bd.St}(h:aY K w pb ga ca gt ct fv room S)(i:Nat)(hi:i<4611686018427387904):Calls Tryz.prog 123 #[.pointer (some ⟨pb,0,none⟩),.int .i64 (i:Nat)] w fun x w'=>x=.returned (.tuple #[.agg #[.int .i64 (nI S i:Nat),.int .i64 (nV S i:Nat),.int .i64 (nL S i:Nat),.int .i64 (nH S i:Nat),.int .i64 (nR S i:Nat)],.bool (S.nd i).isSome])∧Below w.heap.size w w':=by
 have:=Hw h i hi;rw[Nh]at this;exact this
end
def mix(n e:Int):Int:=bits BinOp.xor IntKind.u64 (IntKind.u64.wrap (bits BinOp.xor IntKind.u64 n (IntKind.u64.wrap e)*11400714819323198485)) (IntKind.u64.wrap (bits BinOp.xor IntKind.u64 n (IntKind.u64.wrap e)*11400714819323198485)/536870912)
def hash(op a b c:Int):Int:=mix (mix (mix (IntKind.u64.wrap op) a) b) c
theorem EJ(op a b c:Int):0≤hash op a b c∧hash op a b c≤18446744073709551615:=by
 have:=bounds_u64 (wf_bits .xor .u64 (IntKind.u64.wrap (bits BinOp.xor IntKind.u64 (mix (mix (IntKind.u64.wrap op) a) b) (IntKind.u64.wrap c)*11400714819323198485)) (IntKind.u64.wrap (bits BinOp.xor IntKind.u64 (mix (mix (IntKind.u64.wrap op) a) b) (IntKind.u64.wrap c)*11400714819323198485)/536870912));exact this
def dQ(n:Nat)(op a b c:Int):Nat:=(hash op a b c).toNat%n
theorem kS{n:Nat}(h:0<n)(op a b c:Int):dQ n op a b c<n:=Nat.mod_lt _ h
set_option maxHeartbeats 400000 in
theorem kT(mb eb:Nat)(n:Nat)(op a b c:Int)(w:World)(hn:0<n)(hn':n≤65536)(hmb:mb<w.heap.size)
 (h1:w.cell? ⟨mb,1,none⟩=some (.slice (some ⟨eb,0,none⟩) n n)) :
  Calls Tryz.prog 162 #[.pointer (some ⟨mb,0,none⟩),.agg #[.int .i64 op,.int .i64 a,.int .i64 b,.int .i64 c]] w fun e w'=>e=.returned (.pointer (some ⟨eb,6*dQ n op a b c,none⟩))∧Below w.heap.size w w':=by
 have i0:∀w,(Instr.index 218 (.agg #[.int .i64 a,.int .i64 b,.int .i64 c]) (.int .i64 0)).run Tryz.prog w=.ok (.int .i64 a) w:=fun _=>by kernel_rfl
 have i1:∀w,(Instr.index 218 (.agg #[.int .i64 a,.int .i64 b,.int .i64 c]) (.int .i64 1)).run Tryz.prog w=.ok (.int .i64 b) w:=fun _=>by kernel_rfl
 have i2:∀w,(Instr.index 218 (.agg #[.int .i64 a,.int .i64 b,.int .i64 c]) (.int .i64 2)).run Tryz.prog w=.ok (.int .i64 c) w:=fun _=>by kernel_rfl
 obtain⟨h,hh⟩:∃h,h=hash op a b c:=⟨_,rfl⟩;have hr:=EJ op a b c;rw[←hh]at hr;have hx0:0≤h%(n:Int):=Int.emod_nonneg _ (by omega);have hx1:h%(n:Int)<(n:Int):=Int.emod_lt_of_pos _ (by omega)
 have hoff:(h%(n:Int)).toNat*6=6*dQ n op a b c:=by
  unfold dQ;rw[←hh,Int.toNat_emod hr.1 (by omega),Int.toNat_natCast,Nat.mul_comm]
 have H:=Lib.hid hh;have HO:=Lib.hid hoff;clear hh hoff;have hw:IntKind.u64.wrap (n:Int)=n:=by simp[IntKind.wrap,IntKind.bits,IntKind.signed];omega
 have hn0:((n:Int)==0)=false:=by simp;omega
 go_in
 go_wp2
 refine wp_loop_rounds 4 ?_;rw[rounds_succ]
 go_wp2
 rw[rounds_succ]
 go_wp2
 rw[rounds_succ]
 go_wp2
 rw[rounds_succ]
 go_wp2
 generalize hg:bits BinOp.xor IntKind.u64 (IntKind.u64.wrap (bits BinOp.xor IntKind.u64 (bits BinOp.xor IntKind.u64 _ _) (IntKind.u64.wrap c)*11400714819323198485)) _=g
 have hg':g=h:=by rw[H,←hg];simp only[hash,mix]
 clear hg;subst hg'
 go_quiet (fail)
 go_wp2
 go_ret;exact⟨congrArg (fun k=>Ending.returned (.pointer (some ⟨eb,k,none⟩))) HO,below_drewN ((Below.refl _ _).alloc (Nat.le_refl _) _) _⟩
attribute [irreducible] dQ hash mix
/-- What is in a slot. -/
structure iN where
 op:Int
 a:Int
 b:Int
 c:Int
 r:Int
 full:Bool
def nD(e:iN):Nat→Value
 |0=>.int .i64 e.op
 |1=>.int .i64 e.a
 |2=>.int .i64 e.b
 |3=>.int .i64 e.c
 |4=>.int .i64 e.r
 |_=>.bool e.full
def vQ(e:iN)(op a b c:Int):Bool:=e.op==op&&e.a==a&&e.b==b&&e.c==c
theorem vR(x1 x2 x3 x4 y1 y2 y3 y4:Int)(w:World) :
 (binOp .neq 220 (.agg #[.int .i64 x1,.int .i64 x2,.int .i64 x3,.int .i64 x4]) (.agg #[.int .i64 y1,.int .i64 y2,.int .i64 y3,.int .i64 y4])).run Tryz.prog w =
   .ok (.bool (!(x1==y1&&(x2==y2&&(x3==y3&&x4==y4))))) w:=by
 have hi:Tryz.prog.info? 107=some Tryz.t107:=by kernel_rfl
 have ha:=fun d xs ys=>run_equalIn_array (P:=Tryz.prog) w d (t:=218) (e:=107) (n:=3) (i:=Tryz.t107) xs ys Tryz.underlying218 hi;have hc:Tryz.prog.cellsOf 107=1:=by kernel_rfl
 rw[run_neq_struct];simp[go_sem,Op.eqFields,ha,Op.eqItems,hc,List.range_succ]
 by_cases h1:x1=y1<;>by_cases h2:x2=y2<;>by_cases h3:x3=y3<;>by_cases h4:x4=y4<;>simp[h1,h2,h3,h4]
/-- Of what was there,only the blocks in S may have turned. -/
structure Kept(S:Nat→Prop)(w w':World):Prop where
 os:w'.os=w.os
 tape:w'.tape=w.tape
 output:w'.output=w.output
 size:w.heap.size≤w'.heap.size
 block:∀k,k<w.heap.size→¬S k→w'.heap[k]?=w.heap[k]?
theorem Kept.refl(S:Nat→Prop)(w:World):Kept S w w:=⟨rfl,rfl,rfl,Nat.le_refl _,fun _ _ _=>rfl⟩
theorem Kept.trans{S:Nat→Prop}{a b c:World}(h:Kept S a b)(k:Kept S b c):Kept S a c:=
 ⟨k.os.trans h.os,k.tape.trans h.tape,k.output.trans h.output,Nat.le_trans h.size k.size,fun i hi hn=>(k.block i (Nat.lt_of_lt_of_le hi h.size) hn).trans (h.block i hi hn)⟩
theorem Kept.trans'{S S':Nat→Prop}{a b c:World}(h:Kept S a b)(k:Kept S' b c)(hs:∀i,i<a.heap.size→S' i→S i):Kept S a c:=
 ⟨k.os.trans h.os,k.tape.trans h.tape,k.output.trans h.output,Nat.le_trans h.size k.size,fun i hi hn=>(k.block i (Nat.lt_of_lt_of_le hi h.size) (fun h'=>hn (hs i hi h'))).trans (h.block i hi hn)⟩
theorem Kept.mono{S S':Nat→Prop}{a b:World}(h:Kept S a b)(hs:∀k,k<a.heap.size→S k→S' k):Kept S' a b:=
 ⟨h.os,h.tape,h.output,h.size,fun k hk hn=>h.block k hk (fun hsk=>hn (hs k hk hsk))⟩
theorem Kept.of_below{S:Nat→Prop}{a b:World}(h:Below a.heap.size a b):Kept S a b:=
 ⟨h.os,h.tape,h.output,h.size,fun k hk _=>h.block k hk⟩
theorem Kept.drewN{S:Nat→Prop}{a w:World}(h:Kept S a w)(n:Nat):Kept S a (w.drewN n):=⟨h.os,h.tape,h.output,h.size,h.block⟩
theorem Kept.drew{S:Nat→Prop}{a w:World}(h:Kept S a w):Kept S a w.drew:=⟨h.os,h.tape,h.output,h.size,h.block⟩
theorem Kept.alloc{S:Nat→Prop}{a w:World}(h:Kept S a w)(o:Obj):Kept S a (w.alloc o):=
 h.trans (Kept.of_below ((Below.refl _ _).alloc (Nat.le_refl _) o))
theorem Kept.setCell{S:Nat→Prop}{a w:World}(h:Kept S a w){p:Addr}(hp:S p.block∨a.heap.size≤p.block)(u:Value):Kept S a (w.setCell p u):=
 ⟨h.os,h.tape,h.output,Nat.le_trans h.size (by simp[World.setCell]),fun k hk hn=>by
   rw[Below.heap_setCell _ _ _ _ (by rintro rfl;rcases hp with hp|hp;exact hn hp;omega)];exact h.block k hk hn⟩
theorem Kept.cell{S:Nat→Prop}{w w':World}(h:Kept S w w'){b o:Nat}(hb:b<w.heap.size)(hs:¬S b):w'.cell? ⟨b,o,none⟩=w.cell? ⟨b,o,none⟩:=World.cell?_of_block (w:=w) (h.block b hb hs)
theorem Kept.frozen{S:Nat→Prop}{w w':World}(h:Kept S w w'){b o:Nat}(hb:b<w.heap.size)(hs:¬S b):w'.frozen? ⟨b,o,none⟩=w.frozen? ⟨b,o,none⟩:=World.frozen?_of_block (w:=w) (h.block b hb hs)
theorem Kept.below{B:Nat}{S:Nat→Prop}{w w':World}(h:Kept S w w')(hB:B≤w.heap.size)(hs:∀k,S k→B≤k):Below B w w':=
 ⟨h.os,h.tape,h.output,h.size,fun k hk=>h.block k (by omega) (fun e=>by have:=hs k e;omega)⟩
/-- The table's own cells. -/
structure Tab(w:World)(eb n:Nat)(t:Nat→iN):Prop where
 lt:eb<w.heap.size
 cell:∀i,i<n→∀j,j<6→w.cell? ⟨eb,6*i+j,none⟩=some (nD (t i) j)
 free:∀o,w.frozen? ⟨eb,o,none⟩=false
/-- The struct's cells. -/
structure Mem(w:World)(mb:Nat)(n:Nat)(v:Value):Prop where
 lt:mb<w.heap.size
 c0:w.cell? ⟨mb,0,none⟩=some (.int .i64 n)
 c1:w.cell? ⟨mb,1,none⟩=some v
 c2:∃x:Int,w.cell? ⟨mb,2,none⟩=some (.int .i64 x)
 c3:∃x:Int,w.cell? ⟨mb,3,none⟩=some (.int .i64 x)
 free:∀o,w.frozen? ⟨mb,o,none⟩=false
theorem Mem.kept{S:Nat→Prop}{w w':World}{mb n:Nat}{v:Value}(h:Mem w mb n v)(k:Kept S w w')(hs:¬S mb):Mem w' mb n v:=
 ⟨Nat.lt_of_lt_of_le h.lt k.size,by rw[k.cell h.lt hs];exact h.c0,by rw[k.cell h.lt hs];exact h.c1,by rw[k.cell h.lt hs];exact h.c2,by rw[k.cell h.lt hs];exact h.c3,fun o=>by rw[k.frozen h.lt hs];exact h.free o⟩
theorem Tab.kept{S:Nat→Prop}{w w':World}{eb n:Nat}{t:Nat→iN}(h:Tab w eb n t)(k:Kept S w w')(hs:¬S eb):Tab w' eb n t:=
 ⟨Nat.lt_of_lt_of_le h.lt k.size,fun i hi j hj=>by rw[k.cell h.lt hs];exact h.cell i hi j hj,fun o=>by rw[k.frozen h.lt hs];exact h.free o⟩
theorem Mem.ask{w:World}{mb n:Nat}{v:Value}(h:Mem w mb n v)(z:Int):Mem (w.setCell ⟨mb,2,none⟩ (.int .i64 z)) mb n v:=by
 obtain⟨x,c2⟩:=h.c2;exact⟨by rw[World.size_setCell];exact h.lt,by rw[World.cell?_setCell_other _ _ _ _ (by simp)];exact h.c0,by rw[World.cell?_setCell_other _ _ _ _ (by simp)];exact h.c1,⟨z,World.cell?_setCell_same _ _ _ c2⟩,by rw[World.cell?_setCell_other _ _ _ _ (by simp)];exact h.c3,fun o=>by rw[World.frozen?_setCell];exact h.free o⟩
theorem Mem.find{w:World}{mb n:Nat}{v:Value}(h:Mem w mb n v)(z:Int):Mem (w.setCell ⟨mb,3,none⟩ (.int .i64 z)) mb n v:=by
 obtain⟨x,c3⟩:=h.c3;exact⟨by rw[World.size_setCell];exact h.lt,by rw[World.cell?_setCell_other _ _ _ _ (by simp)];exact h.c0,by rw[World.cell?_setCell_other _ _ _ _ (by simp)];exact h.c1,by rw[World.cell?_setCell_other _ _ _ _ (by simp)];exact h.c2,⟨z,World.cell?_setCell_same _ _ _ c3⟩,fun o=>by rw[World.frozen?_setCell];exact h.free o⟩
set_option maxHeartbeats 400000 in
theorem Js(mb n:Nat)(op a b c:Int)(w:World)(h:Mem w mb n (.slice none 0 0))  :
 Calls Tryz.prog 135 #[.pointer (some ⟨mb,0,none⟩),.int .i64 op,.int .i64 a,.int .i64 b,.int .i64 c] w fun e w'=>e=.returned (.tuple #[.int .i64 0,.bool false])∧Mem w' mb n (.slice none 0 0)∧Kept (·=mb) w w':=by
 obtain⟨hlt,c0,c1,⟨x,c2⟩,⟨y,c3⟩,hf⟩:=h;have hf2:=hf 2;go_in
 go_wp2
 go_ret2
 exact⟨rfl,Mem.ask ⟨hlt,c0,c1,⟨x,c2⟩,⟨y,c3⟩,hf⟩ _,(Kept.refl (·=mb) w).setCell (p:=⟨mb,2,none⟩) (.inl rfl) _⟩
theorem CO{W w1:World}(hb:Below W.heap.size W w1):(∀b o,b<W.heap.size→w1.cell? ⟨b,o,none⟩=W.cell? ⟨b,o,none⟩)∧(∀b o,b<W.heap.size→w1.frozen? ⟨b,o,none⟩=W.frozen? ⟨b,o,none⟩):=
 ⟨fun b o h=>hb.cell (p:=⟨b,o,none⟩) h,fun b o h=>hb.frozen (p:=⟨b,o,none⟩) h⟩
set_option maxHeartbeats 400000 in
theorem Qk(mb eb n:Nat)(t:Nat→iN)(op a b c:Int)(w:World)(hn:0<n)(hn':n≤65536)(h:Mem w mb n (.slice (some ⟨eb,0,none⟩) n n))(ht:Tab w eb n t)(hne:mb≠eb)  
 (hfull:(t (dQ n op a b c)).full=true) (hkey:vQ (t (dQ n op a b c)) op a b c=true) :
 Calls Tryz.prog 135 #[.pointer (some ⟨mb,0,none⟩),.int .i64 op,.int .i64 a,.int .i64 b,.int .i64 c] w fun e w'=>e=.returned (.tuple #[.int .i64 (t (dQ n op a b c)).r,.bool true]) ∧
  Mem w' mb n (.slice (some ⟨eb,0,none⟩) n n)∧Kept (·=mb) w w':=by
 have hM:=Lib.hid h;obtain⟨hlt,c0,c1,⟨x,c2⟩,⟨y,c3⟩,hf⟩:=h;have hlt2:=ht.lt;have hf2:=hf 2;have hf3:=hf 3;have hsl:=kS hn op a b c;obtain⟨s,hs⟩:∃s,s=dQ n op a b c:=⟨_,rfl⟩;rw[←hs]at hfull hkey hsl;have e0:=ht.cell s hsl 0 (by omega);have e1:=ht.cell s hsl 1 (by omega);have e2:=ht.cell s hsl 2 (by omega);have e3:=ht.cell s hsl 3 (by omega);have e4:=ht.cell s hsl 4 (by omega);have e5:=ht.cell s hsl 5 (by omega);simp only[nD,hfull,Nat.add_zero]at e0 e1 e2 e3 e4 e5;simp only[vQ,Bool.and_eq_true,beq_iff_eq]at hkey;obtain⟨⟨⟨k0,k1⟩,k2⟩,k3⟩:=hkey;rw[k0]at e0;rw[k1]at e1;rw[k2]at e2;rw[k3]at e3;have hneq:=fun w=>vR op a b c op a b c w;simp only[BEq.rfl,Bool.and_self,Bool.not_true]at hneq;rw[←hs]
 generalize (t s).r=r at *
 clear k0 k1 k2 k3 hfull ht;have HS:=Lib.hid hs;clear hs;go_in;go_wp2_with fail;refine(kT mb eb n op a b c _ hn hn' (by simp;omega) ?_).mono ?_
 ·go_simp
 rintro e w1 ⟨rfl,hb⟩;rw[←HS];obtain⟨bc,bf⟩:=CO hb;go_wp2_with fail
 go_quiet (fail)
 go_wp2
 go_ret2
 have K1:=((((Kept.refl (fun _=>False) _).alloc _).trans (Kept.of_below hb)).drewN nq);exact⟨rfl,Mem.find ((Mem.ask hM.out _).kept K1 (fun h=>h)) _,(((Kept.refl (·=mb) w).setCell (p:=⟨mb,2,none⟩) (.inl rfl) _).trans (K1.mono (fun _ _ h=>h.elim))).setCell (p:=⟨mb,3,none⟩) (.inl rfl) _⟩
set_option maxHeartbeats 400000 in
theorem Jt(mb eb n:Nat)(t:Nat→iN)(op a b c:Int)(w:World)(hn:0<n)(hn':n≤65536)(h:Mem w mb n (.slice (some ⟨eb,0,none⟩) n n))(ht:Tab w eb n t)(hne:mb≠eb)  
 (hfull:(t (dQ n op a b c)).full=false) :
 Calls Tryz.prog 135 #[.pointer (some ⟨mb,0,none⟩),.int .i64 op,.int .i64 a,.int .i64 b,.int .i64 c] w fun e w'=>e=.returned (.tuple #[.int .i64 0,.bool false]) ∧
  Mem w' mb n (.slice (some ⟨eb,0,none⟩) n n)∧Kept (·=mb) w w':=by
 have hM:=Lib.hid h;obtain⟨hlt,c0,c1,⟨x,c2⟩,⟨y,c3⟩,hf⟩:=h;have hlt2:=ht.lt;have hf2:=hf 2;have hf3:=hf 3;have hsl:=kS hn op a b c;obtain⟨s,hs⟩:∃s,s=dQ n op a b c:=⟨_,rfl⟩;rw[←hs]at hfull hsl;have e0:=ht.cell s hsl 0 (by omega);have e1:=ht.cell s hsl 1 (by omega);have e2:=ht.cell s hsl 2 (by omega);have e3:=ht.cell s hsl 3 (by omega);have e4:=ht.cell s hsl 4 (by omega);have e5:=ht.cell s hsl 5 (by omega);simp only[nD,hfull,Nat.add_zero]at e0 e1 e2 e3 e4 e5;clear hfull ht;have HS:=Lib.hid hs;clear hs;go_in;go_wp2_with fail;refine(kT mb eb n op a b c _ hn hn' (by simp;omega) ?_).mono ?_
 ·go_simp
 rintro e w1 ⟨rfl,hb⟩;rw[←HS];obtain⟨bc,bf⟩:=CO hb;go_wp2_with fail
 go_quiet (fail)
 go_wp2
 go_ret2
 have K1:=((((Kept.refl (fun _=>False) _).alloc _).trans (Kept.of_below hb)).drewN nq);exact⟨rfl,(Mem.ask hM.out _).kept K1 (fun h=>h),((Kept.refl (·=mb) w).setCell (p:=⟨mb,2,none⟩) (.inl rfl) _).trans (K1.mono (fun _ _ h=>h.elim))⟩
set_option maxHeartbeats 400000 in
theorem Ju(mb eb n:Nat)(t:Nat→iN)(op a b c:Int)(w:World)(hn:0<n)(hn':n≤65536)(h:Mem w mb n (.slice (some ⟨eb,0,none⟩) n n))(ht:Tab w eb n t)(hne:mb≠eb)  
 (hfull:(t (dQ n op a b c)).full=true) (hkey:vQ (t (dQ n op a b c)) op a b c=false) :
 Calls Tryz.prog 135 #[.pointer (some ⟨mb,0,none⟩),.int .i64 op,.int .i64 a,.int .i64 b,.int .i64 c] w fun e w'=>e=.returned (.tuple #[.int .i64 0,.bool false]) ∧
  Mem w' mb n (.slice (some ⟨eb,0,none⟩) n n)∧Kept (·=mb) w w':=by
 have hM:=Lib.hid h;obtain⟨hlt,c0,c1,⟨x,c2⟩,⟨y,c3⟩,hf⟩:=h;have hlt2:=ht.lt;have hf2:=hf 2;have hf3:=hf 3;have hsl:=kS hn op a b c;obtain⟨s,hs⟩:∃s,s=dQ n op a b c:=⟨_,rfl⟩;rw[←hs]at hfull hkey hsl;have e0:=ht.cell s hsl 0 (by omega);have e1:=ht.cell s hsl 1 (by omega);have e2:=ht.cell s hsl 2 (by omega);have e3:=ht.cell s hsl 3 (by omega);have e4:=ht.cell s hsl 4 (by omega);have e5:=ht.cell s hsl 5 (by omega);simp only[nD,hfull,Nat.add_zero]at e0 e1 e2 e3 e4 e5;have hneq:=fun w=>vR (t s).op (t s).a (t s).b (t s).c op a b c w
 have hk':(!((t s).op==op&&((t s).a==a&&((t s).b==b&&(t s).c==c))))=true:=by
  rw[←Bool.and_assoc,←Bool.and_assoc];simp only[vQ]at hkey;rw[hkey];rfl
 rw[hk']at hneq
 generalize (t s).r=r at *
 generalize (t s).op=q0 at *
 generalize (t s).a=q1 at *
 generalize (t s).b=q2 at *
 generalize (t s).c=q3 at *
 clear hfull ht hkey hk';have HS:=Lib.hid hs;clear hs;go_in;go_wp2_with fail;refine(kT mb eb n op a b c _ hn hn' (by simp;omega) ?_).mono ?_
 ·go_simp
 rintro e w1 ⟨rfl,hb⟩;rw[←HS];obtain⟨bc,bf⟩:=CO hb;go_wp2_with fail
 go_quiet (fail)
 go_wp2
 go_ret2
 have K1:=((((Kept.refl (fun _=>False) _).alloc _).trans (Kept.of_below hb)).drewN nq);exact⟨rfl,(Mem.ask hM.out _).kept K1 (fun h=>h),((Kept.refl (·=mb) w).setCell (p:=⟨mb,2,none⟩) (.inl rfl) _).trans (K1.mono (fun _ _ h=>h.elim))⟩
def j6(n:Nat)(t:Nat→iN)(op a b c:Int):Int×Bool:=
 if (t (dQ n op a b c)).full&&vQ (t (dQ n op a b c)) op a b c then((t (dQ n op a b c)).r,true)else(0,false)
theorem Ql(mb eb n:Nat)(t:Nat→iN)(op a b c:Int)(w:World)(hn:0<n)(hn':n≤65536)(h:Mem w mb n (.slice (some ⟨eb,0,none⟩) n n))(ht:Tab w eb n t)(hne:mb≠eb)   :
 Calls Tryz.prog 135 #[.pointer (some ⟨mb,0,none⟩),.int .i64 op,.int .i64 a,.int .i64 b,.int .i64 c] w fun e w'=>e=.returned (.tuple #[.int .i64 (j6 n t op a b c).1,.bool (j6 n t op a b c).2]) ∧
  Mem w' mb n (.slice (some ⟨eb,0,none⟩) n n)∧Kept (·=mb) w w':=by
 unfold j6;cases hf:(t (dQ n op a b c)).full
 ·simpa using Jt mb eb n t op a b c w hn hn' h ht hne hf
 ·cases hk:vQ (t (dQ n op a b c)) op a b c
  ·simpa using Ju mb eb n t op a b c w hn hn' h ht hne hf hk
  ·simpa using Qk mb eb n t op a b c w hn hn' h ht hne hf hk
def vS(n:Nat)(t:Nat→iN)(op a b c r:Int):Nat→iN:=fun i=>if i=dQ n op a b c then⟨op,a,b,c,r,true⟩else t i
theorem dI(b:Nat):∀(vs:List Value)(o:Nat)(w:World),Kept (·=b) w (w.setCells b o vs)
 |[],_,w=>Kept.refl _ w
 |v::r,o,w=>((Kept.refl (·=b) w).setCell (p:=⟨b,o,none⟩) (.inl rfl) v).trans (dI b r (o+1) _)
theorem yH(w:World)(b o:Nat)(v0 v1 v2 v3 v4 v5:Value):w.setCells b o [v0,v1,v2,v3,v4,v5] =
 (((((w.setCell ⟨b,o,none⟩ v0).setCell ⟨b,o+1,none⟩ v1).setCell ⟨b,o+2,none⟩ v2).setCell ⟨b,o+3,none⟩ v3).setCell ⟨b,o+4,none⟩ v4).setCell ⟨b,o+5,none⟩ v5:=by
 simp only[World.setCells,Nat.add_assoc]
theorem Hy{w:World}{eb n:Nat}{t:Nat→iN}{s:Nat}{op a b c r:Int}(h:Tab w eb n t)(hs:s<n)(he:s=dQ n op a b c) :
 Tab (w.setCells eb (6*s) [.int .i64 op,.int .i64 a,.int .i64 b,.int .i64 c,.int .i64 r,.bool true]) eb n (vS n t op a b c r):=by
 refine⟨Nat.lt_of_lt_of_le h.lt (dI _ _ _ _).size,fun i hi j hj=>?_,fun o=>by rw[World.frozen?_setCells];exact h.free o⟩
 by_cases hij:i=s
 ·subst hij;have hin:=World.cell?_setCells_in eb [.int .i64 op,.int .i64 a,.int .i64 b,.int .i64 c,.int .i64 r,.bool true] (6*i) w (fun k hk=>by rw[h.cell i hi k hk];rfl) j hj;rw[hin];have e:vS n t op a b c r i=⟨op,a,b,c,r,true⟩:=by unfold vS;rw[if_pos he]
  rw[e];have hj':j=0∨j=1∨j=2∨j=3∨j=4∨j=5:=by have:j<6:=hj;omega
  clear hin e
  rcases hj' with rfl|rfl|rfl|rfl|rfl|rfl<;>rfl
 ·rw[World.cell?_setCells_out _ _ _ _ _ (fun _ _=>by simp;omega),h.cell i hi j hj];have e:vS n t op a b c r i=t i:=by unfold vS;rw[if_neg (by rw[←he];exact hij)]
  rw[e]
def fZ:iN:=⟨0,0,0,0,0,false⟩
theorem Mem.row{w:World}{mb n:Nat}{v:Value}(h:Mem w mb n v)(u:Value):Mem (w.setCell ⟨mb,1,none⟩ u) mb n u:=
 ⟨by rw[World.size_setCell];exact h.lt,by rw[World.cell?_setCell_other _ _ _ _ (by simp)];exact h.c0,World.cell?_setCell_same _ _ _ h.c1,by rw[World.cell?_setCell_other _ _ _ _ (by simp)];exact h.c2,by rw[World.cell?_setCell_other _ _ _ _ (by simp)];exact h.c3,fun o=>by rw[World.frozen?_setCell];exact h.free o⟩
theorem jM(n s j:Nat)(hs:s<n)(hj:j<6):(madeCells #[.int .i64 0,.int .i64 0,.int .i64 0,.int .i64 0,.int .i64 0,.bool false] (n*6))[6*s+j]?=some (nD fZ j):=by
 unfold madeCells;have h1:(6*s+j)%6=j:=by omega
 have h2:6*s+j<n*6:=by omega
 simp only[Array.getElem?_map];rw[Array.getElem?_range,if_pos h2];simp[h1];have hj':j=0∨j=1∨j=2∨j=3∨j=4∨j=5:=by omega
 rcases hj' with rfl|rfl|rfl|rfl|rfl|rfl<;>rfl
theorem Qm{n:Nat}(w:World) :
 Tab (w.alloc (.cells (madeCells #[.int .i64 0,.int .i64 0,.int .i64 0,.int .i64 0,.int .i64 0,.bool false] (n*6)) 224)) w.heap.size n (fun _=>fZ):=by
 refine⟨by simp,fun i hi j hj=>?_,fun o=>by simp⟩;rw[World.cell?_alloc_new];exact jM n i j hi hj
theorem Tryz.info224:(Tryz.prog.info? 224).map (fun i=>(i.zero,i.size,i.bytes))=some (some (.agg #[.int .i64 0,.int .i64 0,.int .i64 0,.int .i64 0,.int .i64 0,.bool false]),6,48):=by kernel_rfl
set_option maxHeartbeats 400000 in
theorem Qn(mb eb n:Nat)(t:Nat→iN)(op a b c r:Int)(w:World)(hn:0<n)(hn':n≤65536)(h:Mem w mb n (.slice (some ⟨eb,0,none⟩) n n))(ht:Tab w eb n t)(hne:mb≠eb) :
 Calls Tryz.prog 136 #[.pointer (some ⟨mb,0,none⟩),.int .i64 op,.int .i64 a,.int .i64 b,.int .i64 c,.int .i64 r] w fun e w'=>e=.returned (.tuple #[]) ∧
  Mem w' mb n (.slice (some ⟨eb,0,none⟩) n n)∧Tab w' eb n (vS n t op a b c r)∧Kept (·=eb) w w':=by
 have hM:=Lib.hid h;have hT:=Lib.hid ht;obtain⟨hlt,c0,c1,⟨x,c2⟩,⟨y,c3⟩,hf⟩:=h;have hlt2:=ht.lt;have hsl:=kS hn op a b c;obtain⟨s,hs⟩:∃s,s=dQ n op a b c:=⟨_,rfl⟩;rw[←hs]at hsl;have e0:=ht.cell s hsl 0 (by omega);have e1:=ht.cell s hsl 1 (by omega);have e2:=ht.cell s hsl 2 (by omega);have e3:=ht.cell s hsl 3 (by omega);have e4:=ht.cell s hsl 4 (by omega);have e5:=ht.cell s hsl 5 (by omega);simp only[nD,Nat.add_zero]at e0 e1 e2 e3 e4 e5;have f0:=ht.free (6*s);have f1:=ht.free (6*s+1);have f2:=ht.free (6*s+2);have f3:=ht.free (6*s+3);have f4:=ht.free (6*s+4);have f5:=ht.free (6*s+5);clear ht;have HS:=Lib.hid hs;clear hs;have hsn:=fun w=>Lib.run_eql_slice_nil (P:=Tryz.prog) w 200 224 (some ⟨eb,0,none⟩) n n 0 0 Tryz.underlying200;go_in;go_wp2_with fail;have hq1:eb≠w.heap.size:=by omega
 have hq2:w.heap.size≠eb:=by omega
 have K0:=((Kept.refl (fun _=>False) w).alloc (.cells #[.int .i64 op,.int .i64 a,.int .i64 b,.int .i64 c] 220)).drew
 go_region_held3 (fun w'=>w'.cell? ⟨w.heap.size,0,none⟩=some (.int .i64 op)∧w'.cell? ⟨w.heap.size,1,none⟩=some (.int .i64 a)∧w'.cell? ⟨w.heap.size,2,none⟩=some (.int .i64 b)∧w'.cell? ⟨w.heap.size,3,none⟩=some (.int .i64 c))
  (first|go_keep|(simp[bc, *];done))
  (first|(go_at_call 162;refine(kT mb eb n op a b c _ hn hn' (by simp;omega) (by go_simp)).mono ?_;rintro e w1 ⟨rfl,hb⟩;obtain⟨bc,bf⟩:=CO hb;rw[←HS]))
 have K1:=(K0.mono (fun _ _ h=>h.elim)).trans (Kept.of_below (S:=fun _=>False) hb)
 go_end0
 refine⟨rfl,?_⟩;rw[←yH];exact⟨(hM.out.kept K1 (fun h=>h)).kept (dI eb _ _ w1) hne,Hy (hT.out.kept K1 (fun h=>h)) hsl HS,(K1.mono (fun _ _ h=>h.elim)).trans (dI eb _ _ w1)⟩
set_option maxHeartbeats 400000 in
theorem Qo(mb n:Nat)(op a b c r:Int)(w:World)(hn:0<n)(hn':n≤65536)(h:Mem w mb n (.slice none 0 0)) :
 Calls Tryz.prog 136 #[.pointer (some ⟨mb,0,none⟩),.int .i64 op,.int .i64 a,.int .i64 b,.int .i64 c,.int .i64 r] w fun e w'=>∃eb,e=.returned (.tuple #[]) ∧
  Mem w' mb n (.slice (some ⟨eb,0,none⟩) n n)∧Tab w' eb n (vS n (fun _=>fZ) op a b c r)∧w.heap.size≤eb∧Kept (·=mb) w w':=by
 have hM:=Lib.hid h;obtain⟨hlt,c0,c1,⟨x,c2⟩,⟨y,c3⟩,hf⟩:=h;have hf1:=hf 1;have hsl:=kS hn op a b c;obtain⟨s,hs⟩:∃s,s=dQ n op a b c:=⟨_,rfl⟩;rw[←hs]at hsl;have HS:=Lib.hid hs;clear hs;have hsn:=fun w=>Lib.run_eql_slice_nil (P:=Tryz.prog) w 200 224 none 0 0 0 0 Tryz.underlying200;obtain⟨i0,hi,hz0,hz1,hz2⟩:=info_parts Tryz.info224;have m0:=jM n s 0 hsl (by omega);have m1:=jM n s 1 hsl (by omega);have m2:=jM n s 2 hsl (by omega);have m3:=jM n s 3 hsl (by omega);have m4:=jM n s 4 hsl (by omega);have m5:=jM n s 5 hsl (by omega);simp only[nD,fZ,Nat.add_zero]at m0 m1 m2 m3 m4 m5
 have hmk:∀u:World,(Instr.makeSlice 200 (.int .i64 (n:Int)) (.int .i64 (n:Int))).run Tryz.prog u =
  .ok (.slice (some ⟨u.heap.size,0,none⟩) n n) (u.alloc (.cells (madeCells #[.int .i64 0,.int .i64 0,.int .i64 0,.int .i64 0,.int .i64 0,.bool false] (n*6)) 224)):=fun u=>by
  have h:=run_make (P:=Tryz.prog) u 200 224 i0 _ Tryz.underlying200 hi hz0 .i64 .i64 (n:Int) (n:Int) (by omega) (Int.le_refl _) (by rw[hz2];omega) (by omega)
  simpa[hz1,Value.cells]using h
 go_in;go_wp2_with fail;have hq1:mb≠w.heap.size:=by omega
 have hq2:mb≠w.heap.size+1:=by omega
 have K0:=((((Kept.refl (·=mb) w).setCell (p:=⟨mb,1,none⟩) (.inl rfl) (.slice (some ⟨w.heap.size,0,none⟩) n n)).alloc (.cells (madeCells #[.int .i64 0,.int .i64 0,.int .i64 0,.int .i64 0,.int .i64 0,.bool false] (n*6)) 224)).alloc (.cells #[.int .i64 op,.int .i64 a,.int .i64 b,.int .i64 c] 220)).drew;have hk:∀i,(((w.setCell ⟨mb,1,none⟩ (.slice (some ⟨w.heap.size,0,none⟩) n n)).alloc (.cells (madeCells #[.int .i64 0,.int .i64 0,.int .i64 0,.int .i64 0,.int .i64 0,.bool false] (n*6)) 224)).alloc (.cells #[.int .i64 op,.int .i64 a,.int .i64 b,.int .i64 c] 220)).cell? ⟨w.heap.size+1,i,none⟩=(#[.int .i64 op,.int .i64 a,.int .i64 b,.int .i64 c]:Array Value)[i]?:=fun i=>by rw[World.cell?_alloc_at];simp
 have T0:=Qm (n:=n) (w.setCell ⟨mb,1,none⟩ (.slice (some ⟨w.heap.size,0,none⟩) n n));have M0:=hM.out.row (.slice (some ⟨w.heap.size,0,none⟩) n n)
 go_region_held3 (fun w'=>w'.cell? ⟨w.heap.size+1,0,none⟩=some (.int .i64 op)∧w'.cell? ⟨w.heap.size+1,1,none⟩=some (.int .i64 a)∧w'.cell? ⟨w.heap.size+1,2,none⟩=some (.int .i64 b)∧w'.cell? ⟨w.heap.size+1,3,none⟩=some (.int .i64 c))
  (first|go_keep|(simp[bc, *];done))
  (first|(go_at_call 162;refine(kT mb w.heap.size n op a b c _ hn hn' (by simp;omega) (by go_simp)).mono ?_;rintro e w1 ⟨rfl,hb⟩;obtain⟨bc,bf⟩:=CO hb;rw[←HS]))
 have Kb:=(((Kept.refl (fun _=>False) ((w.setCell ⟨mb,1,none⟩ (.slice (some ⟨w.heap.size,0,none⟩) n n)).alloc (.cells (madeCells #[.int .i64 0,.int .i64 0,.int .i64 0,.int .i64 0,.int .i64 0,.bool false] (n*6)) 224))).alloc (.cells #[.int .i64 op,.int .i64 a,.int .i64 b,.int .i64 c] 220)).drew).trans (Kept.of_below hb);have Ka:=(Kept.refl (fun _=>False) (w.setCell ⟨mb,1,none⟩ (.slice (some ⟨w.heap.size,0,none⟩) n n))).alloc (.cells (madeCells #[.int .i64 0,.int .i64 0,.int .i64 0,.int .i64 0,.int .i64 0,.bool false] (n*6)) 224);rw[World.size_setCell]at T0
 go_end0
 refine⟨w.heap.size,rfl,?_⟩;rw[←yH];exact⟨((M0.kept Ka (fun h=>h)).kept Kb (fun h=>h)).kept (dI w.heap.size _ _ w1) hq1,Hy (T0.kept Kb (fun h=>h)) hsl HS,Nat.le_refl _,(K0.trans (Kept.of_below hb)).trans' (dI w.heap.size _ _ w1) (fun i hi he=>by omega)⟩
theorem Ac(w:World)(n:Nat)(T:TypeId):Mem (w.alloc (.cells #[.int .i64 n,.slice none 0 0,.int .i64 0,.int .i64 0] T)) w.heap.size n (.slice none 0 0):=by
 refine⟨by simp,?_,?_,?_,?_,fun o=>by simp⟩<;>simp
theorem Qp(n:Int)(w:World) :
 Calls Tryz.prog 95 #[.int .i64 n] w fun e w'=>e=.returned (.pointer (some ⟨w.heap.size,0,none⟩))∧Mem w' w.heap.size (min (max n 1) 65536).toNat (.slice none 0 0)∧Kept (fun _=>False) w w':=by
 by_cases h1:n<1
 ·have e:(min (max n 1) 65536).toNat=1:=by omega
  rw[e];go_in
  go_wp2
  go_ret;exact⟨rfl,Ac w 1 202,(Kept.refl _ w).alloc _⟩
 ·by_cases h2:65536<n
  ·have e:(min (max n 1) 65536).toNat=65536:=by omega
   rw[e];go_in
   go_wp2
   go_ret;exact⟨rfl,Ac w 65536 202,(Kept.refl _ w).alloc _⟩
  ·obtain⟨m,rfl⟩:=Int.eq_ofNat_of_zero_le (show 0≤n by omega);have e:(min (max (m:Int) 1) 65536).toNat=m:=by omega
   rw[e];go_in
   go_wp2
   go_ret;exact⟨rfl,Ac w m 202,(Kept.refl _ w).alloc _⟩
theorem Jv(mb n:Nat)(w:World)(h:Mem w mb n (.slice none 0 0)) :
 Calls Tryz.prog 147 #[.pointer (some ⟨mb,0,none⟩)] w fun e w'=>e=.returned (.tuple #[])∧w=w':=by
 obtain⟨hlt,c0,c1,⟨x,c2⟩,⟨y,c3⟩,hf⟩:=h;have hcl:∀ty,(Builtin.clear_ #[200] ty #[.slice none 0 0]).run Tryz.prog w=.ok (.tuple #[]) w:=fun ty=>by simp[Builtin.clear_,run_underlying Tryz.underlying200]
 go_in
 go_wp2
 go_end0
 exact⟨rfl,rfl⟩
def iK(n:Nat):List Value:=(Builtin.zeroCells #[.int .i64 0,.int .i64 0,.int .i64 0,.int .i64 0,.int .i64 0,.bool false] n).toList
theorem zeros_length(n:Nat):(iK n).length=n*6:=by simp[iK,Builtin.zeroCells]
theorem yI(n s j:Nat)(hs:s<n)(hj:j<6)(h:6*s+j<(iK n).length):(iK n)[6*s+j]=nD fZ j:=by
 have h1:(6*s+j)%6=j:=by omega
 simp only[iK,Builtin.zeroCells,Array.getElem_toList,Array.getElem_map,Array.getElem_range];simp only[List.size_toArray,List.length_cons,List.length_nil,h1];have hj':j=0∨j=1∨j=2∨j=3∨j=4∨j=5:=by omega
 rcases hj' with rfl|rfl|rfl|rfl|rfl|rfl<;>rfl
theorem Jw(n:Nat):∀v∈iK n,v.oneCell'=true:=by
 intro v hv;obtain⟨k,hk,rfl⟩:=List.mem_iff_getElem.1 hv;have hl:=zeros_length n;have e:k=6*(k/6)+k%6:=by omega
 have:=yI n (k/6) (k%6) (by omega) (by omega) (by omega);have e2:(iK n)[k]=(iK n)[6*(k/6)+k%6]'(by omega):=by congr 1
 rw[e2,this];have hj':k%6=0∨k%6=1∨k%6=2∨k%6=3∨k%6=4∨k%6=5:=by omega
 rcases hj' with h|h|h|h|h|h<;>rw[h]<;>rfl
theorem Jy{w:World}{eb n:Nat}{t:Nat→iN}(h:Tab w eb n t):Tab (w.setCells eb 0 (iK n)) eb n (fun _=>fZ):=by
 refine⟨Nat.lt_of_lt_of_le h.lt (dI _ _ _ _).size,fun i hi j hj=>?_,fun o=>by rw[World.frozen?_setCells];exact h.free o⟩;have hl:=zeros_length n
 have hin:=World.cell?_setCells_in eb (iK n) 0 w (fun k hk=>by
  have:=h.cell (k/6) (by omega) (k%6) (by omega)
  rw[show 0+k=6*(k/6)+k%6 by omega,this];rfl) (6*i+j) (by omega)
 rw[Nat.zero_add]at hin;rw[hin,yI n i j hi hj]
theorem Jz(w:World)(eb n:Nat)(t:Nat→iN)(hn:0<n)(h:Tab w eb n t)(ty:TypeId) :
 (Builtin.clear_ #[200] ty #[.slice (some ⟨eb,0,none⟩) n n]).run Tryz.prog w=.ok (.tuple #[]) (w.setCells eb 0 (iK n)):=by
 have hl:=zeros_length n
 have hst:=run_storeCells_cells (P:=Tryz.prog) eb 0 (iK n) 0 w (fun k hk=>by
  have:=h.cell (k/6) (by omega) (k%6) (by omega)
  rw[show 0+0+k=6*(k/6)+k%6 by omega,this];rfl) (fun k _=>h.free _) (Jw n)
 simp only[Nat.add_zero]at hst;obtain⟨m,rfl⟩:∃m,n=m+1:=⟨n-1,by omega⟩;have hz:∀w,(zeroValue 224).run Tryz.prog w=.ok (.agg #[.int .i64 0,.int .i64 0,.int .i64 0,.int .i64 0,.int .i64 0,.bool false]) w:=fun w=>by kernel_rfl
 have hzc:(Builtin.zeroCells (Value.agg #[.int .i64 0,.int .i64 0,.int .i64 0,.int .i64 0,.int .i64 0,.bool false]).cells (m+1)).toList=iK (m+1):=rfl;simp[Builtin.clear_,run_underlying Tryz.underlying200,hz,hzc,hst]
theorem JA(mb eb n:Nat)(t:Nat→iN)(w:World)(hn:0<n)(h:Mem w mb n (.slice (some ⟨eb,0,none⟩) n n))(ht:Tab w eb n t) :
 Calls Tryz.prog 147 #[.pointer (some ⟨mb,0,none⟩)] w fun e w'=>e=.returned (.tuple #[])∧w.setCells eb 0 (iK n)=w':=by
 obtain⟨hlt,c0,c1,⟨x,c2⟩,⟨y,c3⟩,hf⟩:=h;have hcl:=Jz w eb n t hn ht;go_in
 go_wp2
 go_end0
 exact⟨rfl,rfl⟩
/-- A cache: its struct,and its table where there is one. -/
def ig(w:World)(mb:Nat)(eo:Option Nat)(n:Nat)(t:Nat→iN):Prop:=
 0<n∧n≤65536∧match eo with
 |none=>Mem w mb n (.slice none 0 0)∧t=fun _=>fZ
 |some eb=>Mem w mb n (.slice (some ⟨eb,0,none⟩) n n)∧Tab w eb n t∧mb≠eb
theorem ig.kept{S:Nat→Prop}{w w':World}{mb:Nat}{eo:Option Nat}{n:Nat}{t:Nat→iN}(h:ig w mb eo n t)(k:Kept S w w')(h1:¬S mb)(h2:∀eb,eo=some eb→¬S eb):ig w' mb eo n t:=by
 obtain⟨hn,hn',h⟩:=h;refine⟨hn,hn',?_⟩
 cases eo with
 |none=>exact⟨h.1.kept k h1,h.2⟩
 |some eb=>exact⟨h.1.kept k h1,h.2.1.kept k (h2 eb rfl),h.2.2⟩
theorem ig.lt{w:World}{mb:Nat}{eo:Option Nat}{n:Nat}{t:Nat→iN}(h:ig w mb eo n t):mb<w.heap.size:=by
 obtain⟨hn,hn',h⟩:=h
 cases eo with
 |none=>exact h.1.lt
 |some eb=>exact h.1.lt
theorem ig.TQ{w:World}{mb:Nat}{eo:Option Nat}{n:Nat}{t:Nat→iN}(h:ig w mb eo n t):∀eb,eo=some eb→eb<w.heap.size:=by
 rintro eb rfl;exact h.2.2.2.1.lt
theorem Ug(mb:Nat)(eo:Option Nat)(n:Nat)(t:Nat→iN)(op a b c:Int)(w:World)(h:ig w mb eo n t)   :
 Calls Tryz.prog 135 #[.pointer (some ⟨mb,0,none⟩),.int .i64 op,.int .i64 a,.int .i64 b,.int .i64 c] w fun e w'=>e=.returned (.tuple #[.int .i64 (j6 n t op a b c).1,.bool (j6 n t op a b c).2]) ∧
  ig w' mb eo n t∧Kept (·=mb) w w':=by
 obtain⟨hn,hn',h⟩:=h
 cases eo with
 |none=>
  obtain⟨h,rfl⟩:=h;refine(Js mb n op a b c w h).mono fun e w' ⟨he,hm,hk⟩=>?_;have e1:j6 n (fun _=>fZ) op a b c=(0,false):=rfl;rw[e1];exact⟨he,⟨hn,hn',hm,rfl⟩,hk⟩
 |some eb=>
  obtain⟨h,ht,hne⟩:=h;refine(Ql mb eb n t op a b c w hn hn' h ht hne).mono fun e w' ⟨he,hm,hk⟩=>?_;exact⟨he,⟨hn,hn',hm,ht.kept hk (fun e=>hne e.symm),hne⟩,hk⟩
theorem Uh(mb:Nat)(eo:Option Nat)(n:Nat)(t:Nat→iN)(op a b c r:Int)(w:World)(h:ig w mb eo n t) :
 Calls Tryz.prog 136 #[.pointer (some ⟨mb,0,none⟩),.int .i64 op,.int .i64 a,.int .i64 b,.int .i64 c,.int .i64 r] w fun e w'=>e=.returned (.tuple #[])∧∃Xu,
  ig w' mb Xu n (vS n t op a b c r)∧Kept (fun k=>k=mb∨eo=some k) w w'∧(Xu=eo∨∃k,Xu=some k∧w.heap.size≤k):=by
 obtain⟨hn,hn',h⟩:=h
 cases eo with
 |none=>
  obtain⟨h,rfl⟩:=h;have hlt:=h.lt;refine(Qo mb n op a b c r w hn hn' h).mono ?_;rintro e w' ⟨eb,he,hm,ht,hsz,hk⟩;exact⟨he,some eb,⟨hn,hn',hm,ht,by omega⟩,hk.mono (fun _ _ h=>.inl h),.inr ⟨eb,rfl,hsz⟩⟩
 |some eb=>
  obtain⟨h,ht,hne⟩:=h;refine(Qn mb eb n t op a b c r w hn hn' h ht hne).mono ?_;rintro e w' ⟨he,hm,ht',hk⟩;exact⟨he,some eb,⟨hn,hn',hm,ht',hne⟩,hk.mono (fun _ _ h=>.inr (by rw[h])),.inl rfl⟩
theorem Ni(mb:Nat)(eo:Option Nat)(n:Nat)(t:Nat→iN)(w:World)(h:ig w mb eo n t) :
 Calls Tryz.prog 147 #[.pointer (some ⟨mb,0,none⟩)] w fun e w'=>e=.returned (.tuple #[]) ∧
  ig w' mb eo n (fun _=>fZ)∧Kept (fun k=>k=mb∨eo=some k) w w':=by
 obtain⟨hn,hn',h⟩:=h
 cases eo with
 |none=>
  obtain⟨h,rfl⟩:=h;refine(Jv mb n w h).mono ?_;rintro e w' ⟨he,rfl⟩;exact⟨he,⟨hn,hn',h,rfl⟩,Kept.refl _ _⟩
 |some eb=>
  obtain⟨h,ht,hne⟩:=h;refine(JA mb eb n t w hn h ht).mono ?_;rintro e w' ⟨he,rfl⟩;exact⟨he,⟨hn,hn',h.kept (dI eb _ _ w) hne,Jy ht,hne⟩,(dI eb _ _ w).mono (fun _ _ h=>.inr (by rw[h]))⟩
theorem Ui(n:Int)(w:World) :
 Calls Tryz.prog 95 #[.int .i64 n] w fun e w'=>e=.returned (.pointer (some ⟨w.heap.size,0,none⟩))∧ig w' w.heap.size none (min (max n 1) 65536).toNat (fun _=>fZ)∧Kept (fun _=>False) w w':=
 (Qp n w).mono fun e w' ⟨he,hm,hk⟩=>⟨he,⟨by omega,by omega,hm,rfl⟩,hk⟩
section
def iq(K:Nat→Nat)(w:World)(mb:Nat)(t:Nat→iN):Prop:=∃eo,ig w mb eo 4096 t∧K mb=12∧∀eb,eo=some eb→K eb=13
section
variable {K K':Nat→Nat} {w w':World} {mb:Nat} {t:Nat→iN}
theorem Kept.aG{S:Nat→Prop}{R:Nat→Prop}(h:Kept S w w')(hS:∀q,q<w.heap.size→S q→R (K q))(hK:∀q,q<w.heap.size→K' q=K q):aj R K w K' w':=⟨⟨h.os,h.tape,h.output,h.size,fun q hq hR=>h.block q hq (fun h9=>hR (hS q hq h9))⟩,hK⟩
theorem iq.aG{R:Nat→Prop}(h:iq K w mb t)(u:aj R K w K' w')(hR:∀r,R r→r≠12∧r≠13):iq K' w' mb t:=by
 obtain⟨eo,h1,h2,h3⟩:=h;have k:Kept (fun q=>R (K q)) w w':=⟨u.only.os,u.only.tape,u.only.output,u.size,u.only.block⟩;refine⟨eo,h1.kept k (fun h9=>(hR _ h9).1 h2) (fun eb he h9=>(hR _ h9).2 (h3 eb he)),(u.ext _ h1.lt).trans h2,fun eb he=>(u.ext _ (h1.TQ eb he)).trans (h3 eb he)⟩
theorem iq.lt(h:iq K w mb t):mb<w.heap.size:=by
 obtain⟨eo,h1,h2,h3⟩:=h;exact h1.lt
theorem CP(h:iq K w mb t)(op a b c:Int):Calls Tryz.prog 135 #[.pointer (some ⟨mb,0,none⟩),.int .i64 op,.int .i64 a,.int .i64 b,.int .i64 c] w fun e w'=>e=.returned (.tuple #[.int .i64 (j6 4096 t op a b c).1,.bool (j6 4096 t op a b c).2])∧iq K w' mb t∧aj (fun r=>r=12) K w K w':=by
 obtain⟨eo,h1,h2,h3⟩:=h;refine(Ug mb eo 4096 t op a b c w h1).mono ?_;rintro e w' ⟨he,hm,hk⟩;exact⟨he,⟨eo,hm,h2,h3⟩,hk.aG (fun q _ hq=>by rw[hq];exact h2) (fun _ _=>rfl)⟩
theorem CQ(h:iq K w mb t)(op a b c r:Int):Calls Tryz.prog 136 #[.pointer (some ⟨mb,0,none⟩),.int .i64 op,.int .i64 a,.int .i64 b,.int .i64 c,.int .i64 r] w fun e w'=>e=.returned (.tuple #[])∧∃K',iq K' w' mb (vS 4096 t op a b c r)∧aj (fun r=>r=12∨r=13) K w K' w':=by
 obtain⟨eo,h1,h2,h3⟩:=h;have hlt:=h1.lt;refine(Uh mb eo 4096 t op a b c r w h1).mono ?_;rintro e w' ⟨he,Xu,hm,hk,h4⟩
 rcases h4 with rfl|⟨k,rfl,hk2⟩
 ·exact⟨he,K,⟨Xu,hm,h2,h3⟩,hk.aG (fun q _ hq=>by rcases hq with rfl|hq;exact .inl h2;exact .inr (h3 _ hq)) (fun _ _=>rfl)⟩
 ·refine⟨he,bJ K k 13,⟨some k,hm,by rw[bP (by omega)];exact h2,fun eb he=>by cases he;exact aW _ _ _⟩,hk.aG (fun q _ hq=>by rcases hq with rfl|hq;exact .inl h2;exact .inr (h3 _ hq)) (fun q hq=>bP (by omega))⟩
theorem pU(h:iq K w mb t):Calls Tryz.prog 147 #[.pointer (some ⟨mb,0,none⟩)] w fun e w'=>e=.returned (.tuple #[])∧iq K w' mb (fun _=>fZ)∧aj (fun r=>r=12∨r=13) K w K w':=by
 obtain⟨eo,h1,h2,h3⟩:=h;refine(Ni mb eo 4096 t w h1).mono ?_;rintro e w' ⟨he,hm,hk⟩;exact⟨he,⟨eo,hm,h2,h3⟩,hk.aG (fun q _ hq=>by rcases hq with rfl|hq;exact .inl h2;exact .inr (h3 _ hq)) (fun _ _=>rfl)⟩
theorem Nj(K:Nat→Nat)(w:World):Calls Tryz.prog 95 #[.int .i64 4096] w fun e w'=>e=.returned (.pointer (some ⟨w.heap.size,0,none⟩))∧∃K',iq K' w' w.heap.size (fun _=>fZ)∧aj (fun _=>False) K w K' w':=by
 refine(Ui 4096 w).mono ?_;rintro e w' ⟨he,hm,hk⟩;exact⟨he,bJ K w.heap.size 12,⟨none,hm,aW _ _ _,fun eb h=>by cases h⟩,hk.aG (fun q _ hq=>hq) (fun q hq=>bP (by omega))⟩
end
end
end Go.Proofs.YtpijlhlpejlhhaaGreat
