/- Walks and plain words: MnK MnL MnM MnN MnO MnP QuB. -/
import Derived.Test.YtpijlhlpejlhhaaGreatVMnI
import Derived.Defers
import Derived.Recover
namespace Go.Proofs.YtpijlhlpejlhhaaGreat
open Go.RowKit
set_option linter.unusedVariables false
set_option maxRecDepth 100000
set_option maxHeartbeats 8000000
theorem Km(b4 b5:Nat)(w:World)(h5:w.heap[b5]?=some (.cells #[.bool true] 4 (0,0))) :
 CallsD Tryz.prog 173 #[.pointer (some ⟨b5,0,none⟩),.pointer (some ⟨b4,0,none⟩)] .returning w fun e u' w'=>e=.returned (.tuple #[])∧u'=.returning∧w'=w:=by
 have y5:w.cell? ⟨b5,0,none⟩=some (.bool true):=au h5 0 rfl;refine(callsD_of_wp (R:=fun e w'=>e=.returned (.tuple #[])∧w'=w) Tryz.func173 rfl ?_).mono (fun e u' w' h=>⟨h.2.1,h.1,h.2.2⟩);obtain⟨F,HF⟩:=aJ (fun(e:Ending)(w':World)=>e=.returned (.tuple #[])∧w'=w);rw[←HF.out];simp only[Tryz.ntmps173,List.size_toArray,List.length_cons,List.length_nil,Nat.reduceAdd,Nat.reduceSub,Array.replicate_succ,Array.replicate_zero,List.push_toArray,List.append_toArray,List.nil_append,List.cons_append]
 go_wp2
 refine bodyPost_ret (results_none rfl _ _ _) rfl ?_;rw[HF.out];exact⟨rfl,rfl⟩
/-- A stop that was thrown,and caught. -/
def Du(e0 e1 e2 e3 e4:Value)(b:Bool):List PanicEntry:=[{v:=.iface 169 (.agg #[e0,e1,e2,e3,e4]),recovered:=b}]
theorem wD(b4 b5:Nat)(w:World)(e0 e2 e3 e4:Int)(e1:Bool)(u0 u1 u2 u3 u4:Value)(h4:w.heap[b4]?=some (.cells #[u0,u1,u2,u3,u4] 169 (0,0)))(h5:w.heap[b5]?=some (.cells #[.bool false] 4 (0,0))) :
 CallsD Tryz.prog 173 #[.pointer (some ⟨b5,0,none⟩),.pointer (some ⟨b4,0,none⟩)] (.panicking (Du (.int .i64 e0) (.bool e1) (.int .i64 e2) (.int .i64 e3) (.int .i64 e4) false)) w fun e u' w'=>
  e=.returned (.tuple #[])∧u'=.panicking (Du (.int .i64 e0) (.bool e1) (.int .i64 e2) (.int .i64 e3) (.int .i64 e4) true)∧w'.heap[b4]?=some (.cells #[.int .i64 e0,.bool e1,.int .i64 e2,.int .i64 e3,.int .i64 e4] 169 (0,0))∧Only (fun q=>q=b4) w w':=by
 have y5:w.cell? ⟨b5,0,none⟩=some (.bool false):=au h5 0 rfl;have y0:w.cell? ⟨b4,0,none⟩=some u0:=au h4 0 rfl;have y1:w.cell? ⟨b4,1,none⟩=some u1:=au h4 1 rfl;have y2:w.cell? ⟨b4,2,none⟩=some u2:=au h4 2 rfl;have y3:w.cell? ⟨b4,3,none⟩=some u3:=au h4 3 rfl;have y4:w.cell? ⟨b4,4,none⟩=some u4:=au h4 4 rfl;have yf:∀o,w.frozen? ⟨b4,o,none⟩=false:=jv h4;have l4:=aV h4;have hta:∀(v:Value)(w:World),(Instr.typeAssert (.iface 169 v) 20 169 true).run Tryz.prog w=.ok (.tuple #[v,.bool true]) w:=fun _ _=>by kernel_rfl
 refine callsD_of_wpS Tryz.func173 rfl fun c₀ cs hu=>?_;simp only[Tryz.ntmps173,List.size_toArray,List.length_cons,List.length_nil,Nat.reduceAdd,Nat.reduceSub,Array.replicate_succ,Array.replicate_zero,List.push_toArray,List.append_toArray,List.nil_append,List.cons_append]
 apply wpS_seq
 refine wpS_of_wp ?_;obtain⟨Q1,hQ1⟩:∃Q1:Exit→Act→World→Prop,Q1=fun e a' w'=>e=.normal∧a'={tmps:=#[.pointer (some ⟨b5,0,none⟩),.pointer (some ⟨b4,0,none⟩),undef,undef,undef,.bool false,undef,undef,undef,undef,undef,undef,undef,undef,undef,undef],defers:=[]}∧w'=w:=⟨_,rfl⟩;refine Code.wp_mono (Q:=Q1) ?hq1 ?hw1
 case hw1=>
  have HQ1:=Lib.hid hQ1;clear hQ1 hu
  go_wp2
  refine(show Q1 _ _ _ from ?_);rw[HQ1.out];exact⟨rfl,rfl,rfl⟩
 case hq1=>
  intro e a' w' h;rw[hQ1]at h;obtain⟨rfl,rfl,rfl⟩:=h;simp only[Exit.thenS]
  apply wpS_seq
  apply wpS_region
  simp[wpOpsS,go_sem,recoverD,hu,Exit.thenS,Du];refine wpS_of_wp ?_;obtain⟨Q2,hQ2⟩:∃Q2:Exit→Act→World→Prop,Q2=fun e a' w''=>e=.normal∧a'.defers=[]∧(w''.heap[b4]?=some (.cells #[.int .i64 e0,.bool e1,.int .i64 e2,.int .i64 e3,.int .i64 e4] 169 (0,0))∧Only (fun q=>q=b4) w' w''):=⟨_,rfl⟩;refine Code.wp_mono (Q:=Q2) ?hq2 ?hw2
  case hq2=>
   intro e a' w'' h;rw[hQ2]at h;obtain⟨rfl,hd,h3,h4⟩:=h;refine⟨hd,_,rfl,.tuple #[],results_none rfl _ _ _,rfl,?_,h3,h4⟩;simp
  case hw2=>
   have Po:=Lib.hid hQ2;have H4:=Lib.hid h4;clear hQ2 hQ1 hu y5 h5 h4
   go_wp2
   refine(show Q2 _ _ _ from ?_);rw[Po.out];refine⟨rfl,rfl,?_,?_⟩
   ·exact(Below.heap_alloc _ _ _ (by simpa using l4)).trans (EO H4.out _ _ _ _ _)
   ·exact(((((Only.refl.iC (F:=fun q=>q=b4) (b:=b4) rfl _).iC rfl _).iC rfl _).iC rfl _).iC rfl _).alloc _
section
/-- What an operation may write when it comes to its end. -/
def mX(r:Nat):Prop:=mR r∨r=50
theorem Kn:¬mX 0:=by unfold mX mR;omega
/-- An operation without a result: what it leaves. -/
def Dv(K:Nat→Nat)(w:World)(p n room:Nat)(M:Bd.MS)(k:Nat)(Z:(Nat→Nat)→World→Bd.MS→Prop)(r:Ending)(w':World):Prop:=
 (∃M' K',r=.returned (.tuple #[])∧Z K' w' M'∧Bd.Inv n room M'∧Bd.Grow M M' k∧aX K' w' p n room M'∧aj mX K w K' w')∨Iw K w p n room M k r w'
/-- A stop's cells. -/
def yX(e0:Int)(e1:Bool)(e2 e3 e4:Int):Value:=.agg #[.int .i64 e0,.bool e1,.int .i64 e2,.int .i64 e3,.int .i64 e4]
/-- What try leaves. -/
def Ym(K:Nat→Nat)(w:World)(p n room:Nat)(M:Bd.MS)(k:Nat)(Z:(Nat→Nat)→World→Bd.MS→Prop)(r:Ending)(w':World):Prop:=
 (∃M' K',r=.returned (.tuple #[yX 0 false 0 0 0,.bool true])∧Z K' w' M'∧Bd.Inv n room M'∧Bd.Grow M M' k∧aX K' w' p n room M'∧aj mX K w K' w') ∨
 (∃ev M' K',r=.returned (.tuple #[yX 0 true ev.after ev.kind ev.level,.bool false])∧Bd.Inv n room M'∧Bd.I6 M M' ev∧aX K' w' p n room M'∧aj mR K w K' w') ∨
 (∃M' K',r=.returned (.tuple #[yX 7 false 0 0 0,.bool false])∧Bd.Inv n room M'∧Bd.lQ room k M M'∧aX K' w' p n room M'∧aj mR K w K' w')
section
variable {K:Nat→Nat} {w:World} {p n room k:Nat} {M:Bd.MS} {Z:(Nat→Nat)→World→Bd.MS→Prop} {fid:FuncId} {cap:Array Value}
/-- What try,run,Do and Look ask of an operation. -/
def UR(K:Nat→Nat)(w:World)(p n room:Nat)(M:Bd.MS)(k:Nat)(Z:(Nat→Nat)→World→Bd.MS→Prop)(fid:FuncId)(cap:Array Value):Prop:=
 ∀K1 w1 xb,(∀R,aj R K w K1 w1)→dL K1 w1 xb p→aX K1 w1 p n room M→Calls Tryz.prog fid (#[.pointer (some ⟨xb,0,none⟩)]++cap) w1 (Dv K1 w1 p n room M k Z)
theorem Oa(hrun:∀args W,(callFunc fid args).run Tryz.prog W=.ok (.enter fid args) W)(hop:UR K w p n room M k Z fid cap)
 (hZ:∀K1 w1 w2 M',Z K1 w1 M'→aj (fun r=>r=0) K1 w1 K1 w2→Z K1 w2 M') (h:aX K w p n room M) :
 Calls Tryz.prog 149 #[.pointer (some ⟨p,0,none⟩),.func (.func fid) #[] cap] w (Ym K w p n room M k Z):=by
 have Ob:∀(fn:Fn)(first cap:Array Value)(w:World),(Instr.makeFunc fn first cap).run Tryz.prog w=.ok (.func fn first cap) w:=fun _ _ _ _=>rfl;obtain⟨F,HF⟩:=aJ (Ym K w p n room M k Z);rw[←HF.out];obtain⟨W,hW⟩:∃W,W=((w.alloc (.cells #[.int .i64 0,.bool false,.int .i64 0,.int .i64 0,.int .i64 0] 169)).alloc (.cells #[.bool false] 4)).alloc (.cells #[.pointer (some ⟨p,0,none⟩)] 167):=⟨_,rfl⟩;have hb:Below w.heap.size w W:=by rw[hW];exact(((Below.refl _ _).alloc (Nat.le_refl _) _).alloc (by simp) _).alloc (by simp;omega) _
 obtain⟨K1,t1,k1⟩:=bX K hb
 have r4:W.heap[w.heap.size]?=some (.cells #[.int .i64 0,.bool false,.int .i64 0,.int .i64 0,.int .i64 0] 169 (0,0)):=by
  rw[hW];exact(Below.heap_alloc _ _ _ (by simp;omega)).trans ((Below.heap_alloc _ _ _ (by simp)).trans (heap_alloc_new _ _))
 have r5:W.heap[w.heap.size+1]?=some (.cells #[.bool false] 4 (0,0)):=by
  rw[hW];exact(Below.heap_alloc _ _ _ (by simp)).trans (aL (by simp))
 have rx:W.heap[w.heap.size+1+1]?=some (.cells #[.pointer (some ⟨p,0,none⟩)] 167 (0,0)):=by
  rw[hW];exact aL (by simp)
 have hc:=hop K1 W (w.heap.size+1+1) t1 ⟨rx,k1 _ (by omega)⟩ (h.aG (t1 (fun _=>False)) (fun _ h=>h.elim));have HC:=Lib.hid hc;have HB:=Lib.hid (And.intro r4 (And.intro r5 (And.intro (k1 w.heap.size (Nat.le_refl _)) (k1 (w.heap.size+1) (by omega)))));have HT:=Lib.hid t1;have HZ:=Lib.hid hZ;clear hc r4 r5 rx t1 k1 hb hop hZ h
 go_enter_defers Tryz.func149,Tryz.ntmps149
 go_wp2_with fail;rw[←hW];clear hW;obtain⟨b4,hb4⟩:∃b4,b4=w.heap.size:=⟨_,rfl⟩;obtain⟨b5,hb5⟩:∃b5,b5=w.heap.size+1:=⟨_,rfl⟩;rw[←hb5,←hb4];rw[←hb5,←hb4]at HB;rw[←hb5]at HC;have n45:b4≠b5:=by omega
 have n54:b5≠b4:=by omega
 have hwb:w.heap.size≤b4∧w.heap.size≤b5:=by omega
 refine(HC.out).mono ?_;intro e w2 hq
 have keep:∀(K2:Nat→Nat),aj mX K1 W K2 w2→(w2.heap[b4]?=some (.cells #[.int .i64 0,.bool false,.int .i64 0,.int .i64 0,.int .i64 0] 169 (0,0))∧K2 b4=0)∧(w2.heap[b5]?=some (.cells #[.bool false] 4 (0,0))∧K2 b5=0):=fun K2 tt=>by
  obtain⟨r4,r5,k4,k5⟩:=HB.out;exact⟨⟨tt.obj r4 (by rw[k4];exact Kn),(tt.role r4).trans k4⟩,⟨tt.obj r5 (by rw[k5];exact Kn),(tt.role r5).trans k5⟩⟩
 have KEEP:=Lib.hid keep;clear keep hb4 hb5
 rcases hq with⟨M',K2,rfl,z2,i2,g2,m2,t2⟩|⟨ev,M',K2,rfl,i2,s2,m2,t2⟩|⟨M',K2,rfl,i2,s2,m2,t2⟩
 ·obtain⟨⟨q4,k4⟩,⟨q5,k5⟩⟩:=KEEP.out K2 t2;have y0:w2.cell? ⟨b4,0,none⟩=some (.int .i64 0):=au q4 0 rfl;have y1:w2.cell? ⟨b4,1,none⟩=some (.bool false):=au q4 1 rfl;have y2:w2.cell? ⟨b4,2,none⟩=some (.int .i64 0):=au q4 2 rfl;have y3:w2.cell? ⟨b4,3,none⟩=some (.int .i64 0):=au q4 3 rfl;have y4:w2.cell? ⟨b4,4,none⟩=some (.int .i64 0):=au q4 4 rfl;have yf:∀o,w2.frozen? ⟨b4,o,none⟩=false:=jv q4;have x0:w2.cell? ⟨b5,0,none⟩=some (.bool false):=au q5 0 rfl;have xf:∀o,w2.frozen? ⟨b5,o,none⟩=false:=jv q5;have HQ:=Lib.hid (And.intro q4 (And.intro q5 (And.intro k4 k5)));have HM:=Lib.hid (And.intro z2 (And.intro i2 (And.intro g2 (And.intro m2 t2))));clear q4 q5 k4 k5 z2 i2 g2 m2 t2;go_wp2_with fail;obtain⟨W3,hW3⟩:∃W3,W3=(((((w2.setCell ⟨b4,0,none⟩ (.int .i64 0)).setCell ⟨b4,1,none⟩ (.bool false)).setCell ⟨b4,2,none⟩ (.int .i64 0)).setCell ⟨b4,3,none⟩ (.int .i64 0)).setCell ⟨b4,4,none⟩ (.int .i64 0)).setCell ⟨b5,0,none⟩ (.bool true):=⟨_,rfl⟩;rw[←hW3];obtain⟨q4,q5,k4,k5⟩:=HQ.out;obtain⟨z2,i2,g2,m2,t2⟩:=HM.out;have l4:=aV q4;have l5:=aV q5;have r4:W3.heap[b4]?=some (.cells #[.int .i64 0,.bool false,.int .i64 0,.int .i64 0,.int .i64 0] 169 (0,0)):=by rw[hW3];exact(heap_setCell_other _ _ _ _ n45).trans (EO q4 _ _ _ _ _)
  have r5:W3.heap[b5]?=some (.cells #[.bool true] 4 (0,0)):=by
   rw[hW3];refine aH (o:=0) (vs:=#[.bool false]) ?_ _;exact(heap_setCell_other _ _ _ _ n54).trans ((heap_setCell_other _ _ _ _ n54).trans ((heap_setCell_other _ _ _ _ n54).trans ((heap_setCell_other _ _ _ _ n54).trans ((heap_setCell_other _ _ _ _ n54).trans q5))))
  have t0:aj (fun r=>r=0) K2 w2 K2 W3:=by
   rw[hW3];exact(((((aj.refl.iI (R:=fun r=>r=0) k4 l4 _).iI k4 (by simpa using l4) _).iI k4 (by simpa using l4) _).iI k4 (by simpa using l4) _).iI k4 (by simpa using l4) _).iI k5 (by simpa using l5) _
  have tt:aj mX K w K2 W3:=by
   rw[hW3];exact(((((((HT.out mX).trans t2).h_ hwb.1 _).h_ hwb.1 _).h_ hwb.1 _).h_ hwb.1 _).h_ hwb.1 _).h_ hwb.2 _
  have kI:=Lib.hid (And.intro (HZ.out K2 w2 W3 M' z2 t0) (And.intro i2 (And.intro g2 (And.intro (m2.aG t0 (fun r h=>by rw[h];exact gM)) tt))));obtain⟨v0,v1,v2,v3,v4,v5⟩:W3.cell? ⟨b4,0,none⟩=some (.int .i64 0)∧W3.cell? ⟨b4,1,none⟩=some (.bool false)∧W3.cell? ⟨b4,2,none⟩=some (.int .i64 0)∧W3.cell? ⟨b4,3,none⟩=some (.int .i64 0)∧W3.cell? ⟨b4,4,none⟩=some (.int .i64 0)∧W3.cell? ⟨b5,0,none⟩=some (.bool true):=⟨au r4 0 rfl,au r4 1 rfl,au r4 2 rfl,au r4 3 rfl,au r4 4 rfl,au r5 0 rfl⟩;refine leaves_cons (f:=173) (args:=#[.pointer (some ⟨b5,0,none⟩),.pointer (some ⟨b4,0,none⟩)]) (by simp) (by simp[go_sem]) ?_;refine(Km b4 b5 W3 r5).mono ?_;rintro e u' w'' ⟨rfl,rfl,rfl⟩;clear q4 q5 z2 i2 g2 m2 t2 r4 r5 t0 tt hW3 y0 y1 y2 y3 y4 yf x0 xf;simp[Leaves,settle,results,Tryz.results149,go_sem,v0,v1,v2,v3,v4,v5];rw[HF.out];exact .inl ⟨M',K2,rfl,kI.out⟩
 ·obtain⟨⟨q4,k4⟩,⟨q5,k5⟩⟩:=KEEP.out K2 (t2.mono (fun r h=>.inl h));have Oc:=wD b4 b5 w2 (0) (ev.after) (ev.kind) (ev.level) (true) _ _ _ _ _ q4 q5;refine leaves_cons (f:=173) (args:=#[.pointer (some ⟨b5,0,none⟩),.pointer (some ⟨b4,0,none⟩)]) (by simp) (by simp[go_sem]) ?_;refine Oc.mono ?_;rintro e u' W3 ⟨rfl,rfl,r4,ho⟩;have r5:W3.heap[b5]?=_:=(ho.block b5 (aV q5) n54).trans q5;have t0:aj (fun r=>r=0) K2 w2 K2 W3:=⟨ho.mono (fun q e=>by rw[e];exact k4),fun _ _=>rfl⟩
  have tt:aj mR K w K2 W3:=by
   have t1:=(HT.out mR).trans t2;exact⟨⟨ho.os.trans t1.only.os,ho.tape.trans t1.only.tape,ho.output.trans t1.only.output,Nat.le_trans t1.size ho.size,fun q hq hr=>(ho.block q (Nat.lt_of_lt_of_le hq t1.size) (by omega)).trans (t1.only.block q hq hr)⟩,t1.ext⟩
  have kI:=Lib.hid (And.intro i2 (And.intro s2 (And.intro (m2.aG t0 (fun r h=>by rw[h];exact gM)) tt)));obtain⟨v0,v1,v2,v3,v4,v5⟩:W3.cell? ⟨b4,0,none⟩=some (.int .i64 0)∧W3.cell? ⟨b4,1,none⟩=some (.bool true)∧W3.cell? ⟨b4,2,none⟩=some (.int .i64 ev.after)∧W3.cell? ⟨b4,3,none⟩=some (.int .i64 ev.kind)∧W3.cell? ⟨b4,4,none⟩=some (.int .i64 ev.level)∧W3.cell? ⟨b5,0,none⟩=some (.bool false):=⟨au r4 0 rfl,au r4 1 rfl,au r4 2 rfl,au r4 3 rfl,au r4 4 rfl,au r5 0 rfl⟩;clear q4 q5 i2 s2 m2 t2 r4 r5 t0 tt ho Oc;simp[Leaves,settle,results,Tryz.results149,go_sem,Du,v0,v1,v2,v3,v4,v5];rw[HF.out];exact .inr (.inl ⟨ev,M',K2,rfl,kI.out⟩)
 ·obtain⟨⟨q4,k4⟩,⟨q5,k5⟩⟩:=KEEP.out K2 (t2.mono (fun r h=>.inl h));have Oc:=wD b4 b5 w2 (7) (0) (0) (0) (false) _ _ _ _ _ q4 q5;refine leaves_cons (f:=173) (args:=#[.pointer (some ⟨b5,0,none⟩),.pointer (some ⟨b4,0,none⟩)]) (by simp) (by simp[go_sem]) ?_;refine Oc.mono ?_;rintro e u' W3 ⟨rfl,rfl,r4,ho⟩;have r5:W3.heap[b5]?=_:=(ho.block b5 (aV q5) n54).trans q5;have t0:aj (fun r=>r=0) K2 w2 K2 W3:=⟨ho.mono (fun q e=>by rw[e];exact k4),fun _ _=>rfl⟩
  have tt:aj mR K w K2 W3:=by
   have t1:=(HT.out mR).trans t2;exact⟨⟨ho.os.trans t1.only.os,ho.tape.trans t1.only.tape,ho.output.trans t1.only.output,Nat.le_trans t1.size ho.size,fun q hq hr=>(ho.block q (Nat.lt_of_lt_of_le hq t1.size) (by omega)).trans (t1.only.block q hq hr)⟩,t1.ext⟩
  have kI:=Lib.hid (And.intro i2 (And.intro s2 (And.intro (m2.aG t0 (fun r h=>by rw[h];exact gM)) tt)));obtain⟨v0,v1,v2,v3,v4,v5⟩:W3.cell? ⟨b4,0,none⟩=some (.int .i64 7)∧W3.cell? ⟨b4,1,none⟩=some (.bool false)∧W3.cell? ⟨b4,2,none⟩=some (.int .i64 0)∧W3.cell? ⟨b4,3,none⟩=some (.int .i64 0)∧W3.cell? ⟨b4,4,none⟩=some (.int .i64 0)∧W3.cell? ⟨b5,0,none⟩=some (.bool false):=⟨au r4 0 rfl,au r4 1 rfl,au r4 2 rfl,au r4 3 rfl,au r4 4 rfl,au r5 0 rfl⟩;clear q4 q5 i2 s2 m2 t2 r4 r5 t0 tt ho Oc;simp[Leaves,settle,results,Tryz.results149,go_sem,Du,v0,v1,v2,v3,v4,v5];rw[HF.out];exact .inr (.inr ⟨M',K2,rfl,kI.out⟩)
end
end
section
/-- Handles stay,their functions stay,events are used up. -/
structure fF(M M':Bd.MS):Prop where
 H:M'.H=M.H
 next:M'.next=M.next
 fn:∀h e,(h,e)∈M.H→Bd.De M'.D e=Bd.De M.D e
 ws:∃l,M.waits=l++M'.waits
theorem fF.refl{M:Bd.MS}:fF M M:=⟨rfl,rfl,fun _ _ _=>rfl,[],rfl⟩
theorem fF.trans{M M' M'':Bd.MS}(h:fF M M')(g:fF M' M''):fF M M'':=by
 refine⟨g.H.trans h.H,g.next.trans h.next,fun a e ha=>(g.fn a e (by rw[h.H];exact ha)).trans (h.fn a e ha),?_⟩;obtain⟨l,e1⟩:=h.ws;obtain⟨l',e2⟩:=g.ws;exact⟨l++l',by rw[e1,e2,List.append_assoc]⟩
theorem fF.still{M M':Bd.MS}(h:Bd.Still M M'):fF M M':=⟨h.H,h.next,h.fn,[],by rw[h.waits];rfl⟩
theorem fF.ev{M M':Bd.MS}{ev:Bd.Ev}(h:Bd.I6 M M' ev):fF M M':=⟨h.H,h.next,h.fn,[ev],by rw[h.waits];rfl⟩
theorem fF.grow{n room k:Nat}{M M':Bd.MS}(hi:Bd.Inv n room M)(hi':Bd.Inv n room M')(g:Bd.Grow M M' k):fF M M':=fF.still (Bd.Grow.still hi hi' g)
/-- What run leaves. -/
def Ko(K:Nat→Nat)(w:World)(p n room:Nat)(M:Bd.MS)(k:Nat)(Z:(Nat→Nat)→World→Bd.MS→Prop)(r:Ending)(w':World):Prop:=
 r=.returned (.int .i64 0)∧∃M1 M' K',fF M M1∧Bd.Inv n room M1∧Bd.Grow M1 M' k∧Z K' w' M'∧Bd.Inv n room M'∧aX K' w' p n room M'∧aj mX K w K' w'
section
variable {K:Nat→Nat} {w:World} {p n room k:Nat} {M:Bd.MS} {Z:(Nat→Nat)→World→Bd.MS→Prop} {fid:FuncId} {cap:Array Value}
theorem Ko.ran{r:Ending}{w':World}(h:Ko K w p n room M k Z r w'):r=.returned (.int .i64 0)∧∃M' K',fF M M'∧Z K' w' M'∧Bd.Inv n room M'∧aX K' w' p n room M'∧aj mX K w K' w':=by
 obtain⟨h0,M1,M',K',h1,h2,h3,h4,h5,h6,h7⟩:=h;exact⟨h0,M',K',h1.trans (fF.grow h2 h5 h3),h4,h5,h6,h7⟩
theorem Dw(hi:Bd.Inv n room M)(h0:0<n)(hn:n≤64)(hrm:room≤1048576)(hx:M.next≤1000000000)(hroom:M.H.length*(2^n-1)+k≤room)
 (hrun:∀args W,(callFunc fid args).run Tryz.prog W=.ok (.enter fid args) W) {J:(Nat→Nat)→World→Prop}
 (hJ:∀K1 w1 K2 w2,J K1 w1→aj mR K1 w1 K2 w2→J K2 w2)
 (hop:∀M1 K1 w1,fF M M1→Bd.Inv n room M1→J K1 w1→UR K1 w1 p n room M1 k Z fid cap)
 (hZ:∀K1 w1 K2 w2 M',Z K1 w1 M'→aj (fun r=>r=0) K1 w1 K2 w2→Z K2 w2 M') (j:J K w) (h:aX K w p n room M) :
 Calls Tryz.prog 112 #[.pointer (some ⟨p,0,none⟩),.func (.func fid) #[] cap] w (Ko K w p n room M k Z):=by
 obtain⟨F,HF⟩:=aJ (Ko K w p n room M k Z);rw[←HF.out];have HH:=Lib.hid h;have HI:=Lib.hid hi;have HJ:=Lib.hid hJ;have HO:=Lib.hid hop;have HZ:=Lib.hid hZ;have HJ0:=Lib.hid j;have HR:=Lib.hid hroom;have HX:=Lib.hid hx;have HN:=Lib.hid (And.intro h0 (And.intro hn hrm));have HRN:=Lib.hid hrun;clear h hi hJ hop hZ j hroom hx h0 hn hrm hrun;go_in;go_wp2_with fail
 go_loopg [5,6,7,8,9,10,11,12,13,16,17,18,19,20,21,22,23,24,25,26,27,28,29,30,31,32,33,34] (2*M.waits.length+1) (fun q v5 v6 v7 v8 v9 v10 v11 v12 v13 v16 v17 v18 v19 v20 v21 v22 v23 v24 v25 v26 v27 v28 v29 v30 v31 v32 v33 v34 wr=>∃(rm:Bool)(M1:Bd.MS)(K1:Nat→Nat),q=2*M1.waits.length+(if rm=true then 0 else 1)∧v5=.bool rm∧fF M M1∧Bd.Inv n room M1∧J K1 wr∧aX K1 wr p n room M1∧aj mR K w K1 wr∧(rm=true→M1.S.many≤M.H.length*(2^n-1)))
 case atStart=>exact⟨false,M,K,rfl,rfl,fF.refl,HI.out,HJ0.out,HH.out,aj.refl,fun h=>by cases h⟩
 case round=>
  obtain⟨rm,M1,K1,rfl,rfl,ra,i1,j1,m1,t1,fw⟩:=hrel;have ct:=Oa (K:=K1) (w:=wr) HRN.out (HO.out M1 K1 wr ra i1 j1) (fun K1 w1 w2 M'=>HZ.out K1 w1 K1 w2 M') m1;have HB:=Lib.hid (And.intro ra (And.intro i1 (And.intro j1 (And.intro t1 fw))));have HC:=Lib.hid ct;clear ra i1 j1 m1 t1 fw ct;go_wp2_with fail;refine(HC.out).mono ?_;intro e w2 hq
  rcases hq with⟨M',K2,rfl,z2,i2,g2,m2,t2⟩|⟨ev,M',K2,rfl,i2,s2,m2,t2⟩|⟨M',K2,rfl,i2,s2,m2,t2⟩
  ·have HM:=Lib.hid (And.intro z2 (And.intro i2 (And.intro g2 (And.intro m2 t2))));clear z2 i2 g2 m2 t2;unfold yX;go_wp2_with fail;rw[HF.out];obtain⟨ra,i1,j1,t1,fw⟩:=HB.out;obtain⟨z2,i2,g2,m2,t2⟩:=HM.out;obtain⟨K3,t3,-⟩:=bX K2 ((Below.refl w2.heap.size w2).alloc (Nat.le_refl _) (.cells #[.int .i64 0,.bool false,.int .i64 0,.int .i64 0,.int .i64 0] 169));exact⟨rfl,M1,M',K3,ra,i1,g2,HZ.out _ _ _ _ _ z2 (t3 _),i2,m2.aG (t3 (fun _=>False)) (fun r h=>h.elim),(t1.mono (fun r h=>.inl h)).trans (t2.trans (t3 mX))⟩
  ·obtain⟨W3,hW3⟩:∃W3,W3=w2.alloc (.cells #[.int .i64 0,.bool true,.int .i64 ev.after,.int .i64 ev.kind,.int .i64 ev.level] 169):=⟨_,rfl⟩;obtain⟨K3,t3,-⟩:=bX K2 (show Below w2.heap.size w2 W3 by rw[hW3];exact(Below.refl w2.heap.size w2).alloc (Nat.le_refl _) _);have hr3:W3.heap[w2.heap.size]?=some (.cells #[.int .i64 0,.bool true,.int .i64 ev.after,.int .i64 ev.kind,.int .i64 ev.level] 169 (0,0)):=by rw[hW3];exact heap_alloc_new _ _
   have m3:=m2.aG (t3 (fun _=>False)) (fun r h=>h.elim);obtain⟨ra,i1,j1,t1,fw⟩:=HB.out;have r2:=ra.trans (fF.ev s2);have hx:M'.next≤1000000000:=by rw[r2.next];exact HX.out
   obtain⟨t,m4,-⟩:=m3;have ch:=Dr i2 HN.out.1 HN.out.2.1 HN.out.2.2 hx ev m4;have um:=Lib.hid ch;have tt:=t2.trans (t3 mR);have HM:=Lib.hid (And.intro r2 (And.intro s2.waits (And.intro (HJ.out _ _ _ _ j1 tt) (t1.trans tt))));have y0:W3.cell? ⟨w2.heap.size,0,none⟩=some (.int .i64 0):=au hr3 0 rfl;have y1:W3.cell? ⟨w2.heap.size,1,none⟩=some (.bool true):=au hr3 1 rfl;have y2:W3.cell? ⟨w2.heap.size,2,none⟩=some (.int .i64 ev.after):=au hr3 2 rfl;have y3:W3.cell? ⟨w2.heap.size,3,none⟩=some (.int .i64 ev.kind):=au hr3 3 rfl;have y4:W3.cell? ⟨w2.heap.size,4,none⟩=some (.int .i64 ev.level):=au hr3 4 rfl;clear i2 s2 m2 t2 t3 hr3 m4 ra i1 j1 t1 fw r2 hx ch tt;unfold yX;go_wp2_with fail;rw[←hW3];clear hW3;refine(um.out).mono ?_;rintro e w5 ⟨rfl,M5,K5,i5,s5,m5,t5⟩;have HM5:=Lib.hid (And.intro i5 (And.intro s5 (And.intro m5 t5)));clear i5 s5 m5 t5 y0 y1 y2 y3 y4;go_wp2_with fail
   all_goals (
    obtain⟨r2,ew,j3,t3⟩:=HM.out;obtain⟨i5,s5,m5,t5⟩:=HM5.out
    go_roundg (2*M5.waits.length+1)
    case rel=>exact⟨false,M5,K5,rfl,rfl,r2.trans (fF.still s5),i5,HJ.out _ _ _ _ j3 t5,⟨_,m5,fB.none⟩,t3.trans t5,fun h=>by cases h⟩
    case measure=>
     rw[s5.waits,ew];simp only[List.length_cons]
     omega)
  ·obtain⟨W3,hW3⟩:∃W3,W3=w2.alloc (.cells #[.int .i64 7,.bool false,.int .i64 0,.int .i64 0,.int .i64 0] 169):=⟨_,rfl⟩;obtain⟨K3,t3,-⟩:=bX K2 (show Below w2.heap.size w2 W3 by rw[hW3];exact(Below.refl w2.heap.size w2).alloc (Nat.le_refl _) _);have m3:=m2.aG (t3 (fun _=>False)) (fun r h=>h.elim);obtain⟨ra,i1,j1,t1,fw⟩:=HB.out
   cases rm with
   |true=>
    exfalso
    have h1:=fw rfl;have h2:=s2.r;have h3:=HR.out;omega
   |false=>
    have r2:=ra.trans (fF.still s2.still);obtain⟨t,m4,-⟩:=m3;have cc:=AB i2 (by have:=HN.out.2.1;omega) HN.out.2.2 m4;have um:=Lib.hid cc;have tt:=t2.trans (t3 mR);have hw:M'.waits.length=M1.waits.length:=by rw[s2.still.waits]
    have HM:=Lib.hid (And.intro r2 (And.intro i2 (And.intro hw (And.intro (HJ.out _ _ _ _ j1 tt) (t1.trans tt)))));clear i2 s2 m2 t2 t3 m4 ra i1 j1 t1 fw r2 cc tt hw;unfold yX;go_wp2_with fail;rw[←hW3];clear hW3;refine(um.out).mono ?_;rintro e w5 ⟨⟨kc,rfl⟩,K5,m5,t5⟩;have HM5:=Lib.hid (And.intro m5 t5);clear m5 t5;go_wp2_with fail;obtain⟨r2,i2,ew,j3,t3⟩:=HM.out;obtain⟨m5,t5⟩:=HM5.out
    go_roundg (2*M'.Lp.waits.length)
    case rel=>exact⟨true,M'.Lp,K5,rfl,rfl,r2.trans (fF.still Bd.xZ),i2.Lp,HJ.out _ _ _ _ j3 t5,⟨_,m5,fB.none⟩,t3.trans t5,fun _=>by rw[←r2.H];exact i2.few⟩
    case measure=>
     show 2*M'.waits.length<_;rw[ew];simp
end
end
section
/-- The box that takes an operation's edge. -/
def gD(K:Nat→Nat)(w:World)(b:Nat)(P:Nat→Prop):Prop:=K b=50∧∃e:Nat,w.heap[b]?=some (.cells #[.int .i64 (e:Nat)] 107 (0,0))∧P e
/-- What Do leaves. -/
def DoQ(K:Nat→Nat)(w:World)(p n room:Nat)(M:Bd.MS)(P:Bd.MS→Nat→Prop)(r:Ending)(w':World):Prop:=
 r=.returned (.tuple #[.int .i64 (M.next:Nat),.int .i64 0])∧∃M' e K',fF M M'∧Bd.Inv n room M'∧Bd.ok M'.S.nd e∧P M' e∧aX K' w' p n room (M'.give n e)∧aj mX K w K' w'
section
variable {K:Nat→Nat} {w:World} {p n room k xb b3 b6:Nat} {M:Bd.MS} {P:Bd.MS→Nat→Prop} {fid:FuncId} {cap:Array Value}
theorem gD.aG{R:Nat→Prop}{K':Nat→Nat}{w':World}{b:Nat}{Q:Nat→Prop}(h:gD K w b Q)(tt:aj R K w K' w')(hR:¬R 50):gD K' w' b Q:=by
 obtain⟨h1,e,h2,h3⟩:=h;exact⟨(tt.role h2).trans h1,e,tt.obj h2 (by rw[h1];exact hR),h3⟩
theorem gD.ex{b:Nat}{Q:Nat→Prop}(h:gD K w b Q):K b=50∧∃e:Nat,w.heap[b]?=some (.cells #[.int .i64 (e:Nat)] 107 (0,0))∧Q e:=h
theorem FN:¬mR 50:=by unfold mR;omega
theorem Od(hrun:∀args W,(callFunc fid args).run Tryz.prog W=.ok (.enter fid args) W)(h3:K b3=0∧w.heap[b3]?=some (.cells #[.func (.func fid) #[] cap] 111 (0,0)))(h6:gD K w b6 (fun _=>True))
 (hop:Calls Tryz.prog fid (#[.pointer (some ⟨xb,0,none⟩)]++cap) w (oF K w p n room M k (fun M' e=>Bd.ok M'.S.nd e∧P M' e))) :
 Calls Tryz.prog 113 #[.pointer (some ⟨xb,0,none⟩),.pointer (some ⟨b3,0,none⟩),.pointer (some ⟨b6,0,none⟩)] w (Dv K w p n room M k (fun K' w' M'=>gD K' w' b6 (fun e=>Bd.ok M'.S.nd e∧P M' e))):=by
 obtain⟨F,HF⟩:=aJ (Dv K w p n room M k (fun K' w' M'=>gD K' w' b6 (fun e=>Bd.ok M'.S.nd e∧P M' e)));rw[←HF.out];have y3:w.cell? ⟨b3,0,none⟩=some (.func (.func fid) #[] cap):=au h3.2 0 rfl;have HO:=Lib.hid hop;have H6:=Lib.hid h6;clear hop h6 h3;go_in;go_wp2_with fail;refine(HO.out).mono ?_;rintro x w2 hq
 rcases hq.ex.symm with⟨c,rfl,hx⟩|⟨e,M1,K1,rfl,p1,i1,g1,m1,t1⟩
 ·have qQ:=Lib.hid hx;clear hx hq y3;go_wp2_with fail;refine(show _∧_ from⟨rfl,?_⟩);rw[HF.out];exact .inr qQ.out
 ·obtain⟨k6,e0,h6,-⟩:=H6.out.aG t1 FN;have y6:w2.cell? ⟨b6,0,none⟩=some (.int .i64 (e0:Nat)):=au h6 0 rfl;have f6:∀o,w2.frozen? ⟨b6,o,none⟩=false:=jv h6;have HM:=Lib.hid (And.intro k6 (And.intro h6 (And.intro p1 (And.intro i1 (And.intro g1 (And.intro m1 t1))))));clear hq k6 h6 p1 i1 g1 m1 t1 y3;go_wp2_with fail;refine bodyPost_ret (results_none rfl _ _ _) rfl ?_;rw[HF.out];obtain⟨k6,h6,p1,i1,g1,m1,t1⟩:=HM.out;have t2:aj (fun r=>r=50) K1 w2 K1 (w2.setCell ⟨b6,0,none⟩ (.int .i64 (e:Nat))):=aj.refl.iI k6 (aV h6) _;exact .inl ⟨M1,K1,rfl,⟨k6,e,aH (o:=0) (vs:=#[.int .i64 (e0:Nat)]) h6 _,p1⟩,i1,g1,m1.aG t2 (fun r h=>by rw[h];exact FN),(t1.mono (fun r h=>.inl h)).trans (t2.mono (fun r h=>.inr h))⟩
theorem Kr(hi:Bd.Inv n room M)(h0:0<n)(hn:n≤64)(hrm:room≤1048576)(hx:M.next≤1000000000)(hroom:M.H.length*(2^n-1)+k≤room)
 (hrun:∀args W,(callFunc fid args).run Tryz.prog W=.ok (.enter fid args) W) {J:(Nat→Nat)→World→Prop} {Z:(Nat→Nat)→World→Bd.MS→Prop}
 (hJ:∀K1 w1 K2 w2,J K1 w1→aj mR K1 w1 K2 w2→J K2 w2)
 (hop:∀M1 K1 w1,fF M M1→Bd.Inv n room M1→J K1 w1→UR K1 w1 p n room M1 k Z fid cap)
 (hZ:∀K1 w1 K2 w2 M',Z K1 w1 M'→aj (fun r=>r=0) K1 w1 K2 w2→Z K2 w2 M') (j:J K w) (h:aX K w p n room M) :
 Calls Tryz.prog 67 #[.pointer (some ⟨p,0,none⟩),.func (.func fid) #[] cap] w (Ko K w p n room M k Z):=by
 obtain⟨F,HF⟩:=aJ (Ko K w p n room M k Z);rw[←HF.out];have hfe:∀W,(binOp .eql 130 (.func (.func fid) #[] cap) .nilFunc).run Tryz.prog W=.ok (.bool false) W:=fun _=>rfl;have HC:=Lib.hid (Dw hi h0 hn hrm hx hroom hrun hJ hop hZ j h);clear hJ hop hZ j h hi hroom hrun hx h0 hn hrm;go_in;go_wp2_with fail;refine(HC.out).mono ?_;rintro x w2 hq;obtain⟨rfl,hq2⟩:=hq;have HQ:=Lib.hid hq2;clear hq2;go_wp2_with fail;rw[HF.out];exact⟨rfl,HQ.out⟩
theorem fB.same{M':Bd.MS}{t:Nat→iN}(h:fB M t)(e1:M'.S.nd=M.S.nd)(e2:M'.D=M.D)(e3:M'.ah=M.ah):fB M' t:=fun i hf=>by
 obtain⟨op,a,b,c,r,h1,g⟩:=h i hf;refine⟨op,a,b,c,r,h1,?_⟩;exact⟨by rw[e1];exact g.oa,by rw[e1];exact g.ob,by rw[e1];exact g.oc,by rw[e1];exact g.or,fun e=>by rw[e1,e2,e3];exact g.ite e,fun e l hl=>by rw[e1]at hl;rw[e1,e2,e3];exact g.ex e l hl,fun e l hl=>by rw[e1]at hl;rw[e1,e2,e3];exact g.and e l hl,fun e l hl=>by rw[e1]at hl;rw[e1,e2,e3];exact g.cof e l hl⟩
theorem fB.give{t:Nat→iN}{e:Nat}(h:fB M t):fB (M.give n e) t:=h.same (Bd.G9 M.S n e).1 rfl rfl
theorem fB.drops{t:Nat→iN}{hs:List Nat}(h:fB M t):fB (drops n M hs) t:=h.same (iY n M hs).2.2.2.2.2 (iY n M hs).2.2.1 (iY n M hs).2.2.2.1
theorem AU(hi:Bd.Inv n room M)(h0:0<n)(hn:n≤64)(hrm:room≤1048576)(hx:M.next≤1000000000)(hroom:M.H.length*(2^n-1)+k≤room)
 (hrun:∀args W,(callFunc fid args).run Tryz.prog W=.ok (.enter fid args) W) {J:(Nat→Nat)→World→Prop}
 (hJ:∀K1 w1 K2 w2,J K1 w1→aj mR K1 w1 K2 w2→J K2 w2)
 (hop:∀M1 K1 w1 xb,fF M M1→Bd.Inv n room M1→J K1 w1→dL K1 w1 xb p→aX K1 w1 p n room M1→Calls Tryz.prog fid (#[.pointer (some ⟨xb,0,none⟩)]++cap) w1 (oF K1 w1 p n room M1 k (fun M' e=>Bd.ok M'.S.nd e∧P M' e))) (j:J K w) (h:aX K w p n room M) :
 Calls Tryz.prog 56 #[.pointer (some ⟨p,0,none⟩),.func (.func fid) #[] cap] w (DoQ K w p n room M P):=by
 have hn2:n≤1000000:=by omega
 have hfe:∀W,(binOp .eql 111 (.func (.func fid) #[] cap) .nilFunc).run Tryz.prog W=.ok (.bool false) W:=fun _=>rfl;have Ob:∀(fn:Fn)(first cap:Array Value)(w:World),(Instr.makeFunc fn first cap).run Tryz.prog w=.ok (.func fn first cap) w:=fun _ _ _ _=>rfl;obtain⟨F,HF⟩:=aJ (DoQ K w p n room M P);rw[←HF.out];obtain⟨W1,hW1⟩:∃W1,W1=(w.alloc (.cells #[.func (.func fid) #[] cap] 111)).alloc (.cells #[.int .i64 0] 107):=⟨_,rfl⟩;have hb:Below w.heap.size w W1:=by rw[hW1];exact((Below.refl _ _).alloc (Nat.le_refl _) _).alloc (by simp) _
 obtain⟨K0,t0,k0⟩:=bX K hb;have t1:∀R,aj R K w (bJ K0 (w.heap.size+1) 50) W1:=fun R=>(t0 R).new (by omega);have q3:W1.heap[w.heap.size]?=some (.cells #[.func (.func fid) #[] cap] 111 (0,0)):=by rw[hW1];exact(Below.heap_alloc _ _ _ (by simp)).trans (heap_alloc_new _ _)
 have q6:W1.heap[w.heap.size+1]?=some (.cells #[.int .i64 (0:Nat)] 107 (0,0)):=by rw[hW1];exact aL (by simp)
 obtain⟨K1,hK1⟩:∃K1,K1=bJ K0 (w.heap.size+1) 50:=⟨_,rfl⟩;rw[←hK1]at t1;obtain⟨b3,hb3⟩:∃b3,b3=w.heap.size:=⟨_,rfl⟩;obtain⟨b6,hb6⟩:∃b6,b6=w.heap.size+1:=⟨_,rfl⟩;have e3:K1 b3=0:=by rw[hK1,hb3];exact(bP (by omega)).trans (k0 _ (Nat.le_refl _))
 have e6:gD K1 W1 b6 (fun _=>True):=⟨by rw[hK1,hb6];exact aW _ _ _,0,by rw[hb6];exact q6,trivial⟩;rw[←hb3]at q3;have j1:J K1 W1:=hJ _ _ _ _ j (t1 _);have m1:=h.aG (t1 (fun _=>False)) (fun r h=>h.elim);have hZ:∀K1 w1 K2 w2 (M':Bd.MS),gD K1 w1 b6 (fun e=>Bd.ok M'.S.nd e∧P M' e)→aj (fun r=>r=0) K1 w1 K2 w2→gD K2 w2 b6 (fun e=>Bd.ok M'.S.nd e∧P M' e):=fun _ _ _ _ _ h tt=>h.aG tt (by omega)
 have cR:=Dw (fid:=113) (cap:=#[.pointer (some ⟨b3,0,none⟩),.pointer (some ⟨b6,0,none⟩)]) (k:=k) (Z:=fun K' w' M'=>gD K' w' b6 (fun e=>Bd.ok M'.S.nd e∧P M' e)) (J:=fun K1 w1=>(K1 b3=0∧w1.heap[b3]?=some (.cells #[.func (.func fid) #[] cap] 111 (0,0)))∧gD K1 w1 b6 (fun _=>True)∧J K1 w1)
  hi h0 hn hrm hx hroom (fun _ _=>rfl) (fun K1 w1 K2 w2 h tt=>⟨⟨(tt.role h.1.2).trans h.1.1,tt.obj h.1.2 (by rw[h.1.1];exact gM)⟩,h.2.1.aG tt FN,hJ _ _ _ _ h.2.2 tt⟩)
  (fun M1 K2 w2 ra i1 j2 K3 w3 xb tt hc hm=>Od hrun ⟨(tt (fun _=>False)|>.role j2.1.2).trans j2.1.1,(tt (fun _=>False)).obj j2.1.2 (fun h=>h)⟩ (j2.2.1.aG (tt (fun _=>False)) (fun h=>h)) (hop M1 K3 w3 xb ra i1 (hJ _ _ _ _ j2.2.2 (tt mR)) hc hm)) hZ ⟨⟨e3,q3⟩,e6,j1⟩ m1
 have HC:=Lib.hid cR;have HT:=Lib.hid t1;have HX:=Lib.hid hx;have HW:=Lib.hid hW1;clear hb t0 k0 t1 q3 q6 hK1 e3 e6 j1 m1 hZ cR hJ hop j h hi hroom hrun hx h0 hn hW1;go_in;go_wp2_with fail;rw[←HW.out,←hb6,←hb3];clear hb6 hb3;refine(HC.out).mono ?_;rintro x w2 hq;obtain⟨rfl,M',K2,ra,⟨k6,e,h6,ho,hp⟩,i2,⟨t,⟨A,h2⟩,hg2⟩,t2⟩:=hq.ran;obtain⟨L2,hs2⟩:=h2.store.ex;have hes:=Inv.small i2 hrm ho;have y6:w2.cell? ⟨b6,0,none⟩=some (.int .i64 (e:Nat)):=au h6 0 rfl;have y0:w2.cell? ⟨p,0,none⟩=some (.pointer (some ⟨A.sb,0,none⟩)):=au h2.row 0 rfl;have y6d:w2.drew.cell? ⟨b6,0,none⟩=some (.int .i64 (e:Nat)):=y6;have y0d:w2.drew.cell? ⟨p,0,none⟩=some (.pointer (some ⟨A.sb,0,none⟩)):=y0;have cI:=qO (hs2.below (w':=w2.drew) (Below.refl _ _).drew) e hes
 have hit:((e/2==0)||(M'.S.nd (e/2)).isSome)=true:=by
  rcases ho with h1|⟨d,h1⟩
  ·simp[h1]
  ·simp[h1]
 rw[hit]at cI;have HM:=Lib.hid (And.intro ra (And.intro ho (And.intro hp (And.intro i2 (And.intro h2 (And.intro hg2 (And.intro t2 h6)))))));have HI:=Lib.hid cI;clear hq ra k6 ho hp i2 h2 hg2 t2 hs2 cI hes hit;go_wp2_with fail;refine aM 5 (by kernel_rfl) (by kernel_rfl) ?_;simp only[List.take_succ_cons,List.take_zero,List.drop_succ_cons,List.drop_zero]
 repeat still_step
 refine wpStill_nil ?_;go_wp2_with fail;refine(HI.out).mono ?_;rintro x w3 ⟨rfl,hb⟩;obtain⟨ra,ho,hp,i2,h2,hg2,t2,h6⟩:=HM.out;have tb:aj (fun _=>False) K2 w2 K2 w3:=(aj.refl.drewN 1).trans (aj.of_below hb);have y63:w3.cell? ⟨b6,0,none⟩=some (.int .i64 (e:Nat)):=au (tb.obj h6 (fun h=>h)) 0 rfl;have cG:=sO i2 hn2 hrm (by rw[ra.next];exact HX.out) ho ⟨A,h2.aG tb (fun r h=>h.elim)⟩;have HG:=Lib.hid cG;have Yn:=Lib.hid ra.next;have kI:=Lib.hid (And.intro ra (And.intro ho (And.intro hp (And.intro i2 (And.intro hg2 ((HT.out mX).trans (t2.trans (aj.mono tb (fun r h=>h.elim)))))))));clear ra ho hp i2 h2 hg2 t2 h6 tb cG hb y0 y6 y0d y6d;go_wp2_with fail;refine(HG.out).mono ?_;rintro x w4 ⟨rfl,K4,m4,t4⟩;rw[Yn.out];have HM4:=Lib.hid (And.intro m4 t4);clear m4 t4;go_wp2_with fail;rw[HF.out];obtain⟨ra,ho,hp,i2,hg2,tt⟩:=kI.out;exact⟨rfl,M',e,K4,ra,i2,ho,hp,⟨t,HM4.out.1,hg2.give⟩,tt.trans (HM4.out.2.mono (fun r h=>.inl h))⟩
end
end
section
/-- A handle of the manager and its function. -/
def Hn(M:Bd.MS)(h:Nat)(ψ:Bd.BF):Prop:=∃e,(h,e)∈M.H∧Bd.De M.D e=ψ
/-- A new handle is given. -/
structure Gets(n room:Nat)(M M':Bd.MS)(ψ:Bd.BF):Prop where
 inv:Bd.Inv n room M'
 new:Hn M' M.next ψ
 old:∀h χ,Hn M h χ→Hn M' h χ
 len:M'.H.length=M.H.length+1
 next:M'.next=M.next+1
 ws:∃l,M.waits=l++M'.waits
 mem:∀h,(∃e,(h,e)∈M'.H)→h=M.next∨∃e,(h,e)∈M.H
def xH(K:Nat→Nat)(w:World)(p n room:Nat)(M:Bd.MS)(ψ:Bd.BF)(r:Ending)(w':World):Prop:=
 r=.returned (.tuple #[.int .i64 (M.next:Nat),.int .i64 0])∧∃M' K',Gets n room M M' ψ∧aX K' w' p n room M'∧aj mX K w K' w'
section
variable {K:Nat→Nat} {w:World} {p n room k xb b3 b5 b6 b7 v f g h e:Nat} {M M':Bd.MS} {ψ φ χ:Bd.BF}
theorem Gets.give(hi:Bd.Inv n room M)(ra:fF M M')(hi':Bd.Inv n room M')(ho:Bd.ok M'.S.nd e)(he:Bd.De M'.D e=ψ):Gets n room M (M'.give n e) ψ:=by
 refine⟨hi'.give ho,⟨e,?_,he⟩,?_,?_,?_,ra.ws,?_⟩
 ·rw[←ra.next];exact List.mem_cons_self ..
 ·rintro a χ ⟨f,h1,h2⟩;refine⟨f,List.mem_cons_of_mem _ (by rw[ra.H];exact h1),?_⟩;show Bd.De M'.D f=χ;rw[ra.fn a f h1];exact h2
 ·show((M'.next,e)::M'.H).length=_;rw[ra.H];rfl
 ·show M'.next+1=_;rw[ra.next]
 ·rintro a ⟨f,hf⟩
  rcases List.mem_cons.1 hf with h1|h1
  ·injection h1 with h2 h3;exact .inl (h2.trans ra.next)
  ·rw[ra.H]at h1;exact .inr ⟨f,h1⟩
theorem DoQ.get{r:Ending}{w':World}(hi:Bd.Inv n room M)(h:DoQ K w p n room M (fun M' e=>Bd.De M'.D e=ψ) r w'):xH K w p n room M ψ r w':=by
 obtain⟨rfl,M',e,K',ra,i2,ho,hp,m,tt⟩:=h;exact⟨rfl,M'.give n e,K',Gets.give hi ra i2 ho hp,m,tt⟩
theorem Ku(hi:Bd.Inv n room M)(hn:n≤1000000)(hrm:room≤1048576)(hv:v<n)(h3:w.heap[b3]?=some (.cells #[.int .i64 (v:Nat)] 3 (0,0)))(hc:dL K w xb p)(h:aX K w p n room M) :
 Calls Tryz.prog 88 #[.pointer (some ⟨xb,0,none⟩),.pointer (some ⟨b3,0,none⟩)] w (oF K w p n room M 1 (fun M' e=>Bd.ok M'.S.nd e∧Bd.De M'.D e=fun s=>s v)):=by
 obtain⟨F,HF⟩:=aJ (oF K w p n room M 1 (fun M' e=>Bd.ok M'.S.nd e∧Bd.De M'.D e=fun s=>s v));rw[←HF.out];have y3:w.cell? ⟨b3,0,none⟩=some (.int .i64 (v:Nat)):=au h3 0 rfl;have cM:=qY hi hn hrm hv (lo:=1) (hi':=0) (.inl rfl) (.inl rfl) hc h;have HC:=Lib.hid cM;have HI:=Lib.hid hi;clear cM hc h h3 hi;go_in;go_wp2_with fail;refine(HC.out).mono ?_;rintro x w2 hq
 rcases hq.ex.symm with⟨c,rfl,hx⟩|⟨e,M1,K1,rfl,⟨p1,-,-⟩,i1,g1,m1,t1⟩
 ·have qQ:=Lib.hid hx;clear hx hq y3;go_wp2_with fail;refine(show _∧_ from⟨rfl,?_⟩);rw[HF.out];exact .inr qQ.out
 ·have HM:=Lib.hid (And.intro p1 (And.intro i1 (And.intro g1 (And.intro m1 t1))));clear hq p1 i1 g1 m1 t1 y3;go_wp2_with fail;rw[HF.out];obtain⟨p1,i1,g1,m1,t1⟩:=HM.out;refine .inl ⟨e,M1,K1,rfl,⟨p1.und.ok,funext fun s=>?_⟩,i1,g1,m1,t1⟩;rw[p1.fn s,Bd.ku HI.out.gi,Bd.iF HI.out.gi];cases s v<;>rfl
theorem Kv(hi:Bd.Inv n room M)(hn:n≤1000000)(hrm:room≤1048576)(hx:M.next≤1000000000)(hf:Hn M f φ)(hg:Hn M g χ)(hh:Hn M h ψ)(h5:w.heap[b5]?=some (.cells #[.int .i64 (f:Nat)] 3 (0,0)))(h6:w.heap[b6]?=some (.cells #[.int .i64 (g:Nat)] 3 (0,0)))(h7:w.heap[b7]?=some (.cells #[.int .i64 (h:Nat)] 3 (0,0)))(hc:dL K w xb p)(hm:aX K w p n room M) :
 Calls Tryz.prog 89 #[.pointer (some ⟨xb,0,none⟩),.pointer (some ⟨b5,0,none⟩),.pointer (some ⟨b6,0,none⟩),.pointer (some ⟨b7,0,none⟩)] w (oF K w p n room M (2^n-1) (fun M' e=>Bd.ok M'.S.nd e∧Bd.De M'.D e=fun s=>if φ s then χ s else ψ s)):=by
 obtain⟨F,HF⟩:=aJ (oF K w p n room M (2^n-1) (fun M' e=>Bd.ok M'.S.nd e∧Bd.De M'.D e=fun s=>if φ s then χ s else ψ s));rw[←HF.out];obtain⟨ef,mf,df⟩:=hf;obtain⟨eg,mg,dg⟩:=hg;obtain⟨eh,mh,dh⟩:=hh;have y5:w.drew.cell? ⟨b5,0,none⟩=some (.int .i64 (f:Nat)):=au h5 0 rfl;have y6:w.drew.cell? ⟨b6,0,none⟩=some (.int .i64 (g:Nat)):=au h6 0 rfl;have y7:w.drew.cell? ⟨b7,0,none⟩=some (.int .i64 (h:Nat)):=au h7 0 rfl;have hc2:=hc.below (w':=w.drew) (Below.refl _ _).drew;have hm2:=hm.below (w':=w.drew) (Below.refl _ _).drew;obtain⟨t,wz,-⟩:=hm2;have c1:=jF hi hx mf hc2 wz;have c2:=jF hi hx mg hc2 wz;have c3:=jF hi hx mh hc2 wz;have u1:=(hi.ho _ _ mf).und (ah:=M.ah);have u2:=(hi.ho _ _ mg).und (ah:=M.ah);have u3:=(hi.ho _ _ mh).und (ah:=M.ah);have cI:=qZ hn hrm n 0 ef eg eh M K w.drew (by omega) hi u1 u2 u3 hc2 (hm.below (w':=w.drew) (Below.refl _ _).drew);have HC:=Lib.hid cI;have H1:=Lib.hid c1;have H2:=Lib.hid c2;have H3:=Lib.hid c3;have HD:=Lib.hid (And.intro u1 (And.intro u2 (And.intro u3 (And.intro df (And.intro dg dh)))));clear cI c1 c2 c3 wz hc2 hc hm h5 h6 h7 hi u1 u2 u3 df dg dh mf mg mh;go_in;go_wp2_with fail;refine aM 10 (by kernel_rfl) (by kernel_rfl) ?_;simp only[List.take_succ_cons,List.take_zero,List.drop_succ_cons,List.drop_zero]
 still_step
 still_step
 still_step
 still_call (H1.out)
 still_step
 still_step
 still_call (H2.out)
 still_step
 still_step
 still_call (H3.out)
 refine wpStill_nil ?_;go_wp2_with fail;refine(HC.out).mono ?_;rintro x w2 hq
 rcases hq.ex.symm with⟨c,rfl,hx⟩|⟨e,M1,K1,rfl,⟨p1,p2⟩,i1,g1,m1,t1⟩
 ·have qQ:=Lib.hid hx;clear hx hq y5 y6 y7;go_wp2_with fail;refine(show _∧_ from⟨rfl,?_⟩);rw[HF.out];exact .inr (qQ.out.AP (aj.refl.drewN 1))
 ·have HM:=Lib.hid (And.intro p1 (And.intro p2 (And.intro i1 (And.intro g1 (And.intro m1 t1)))));clear hq p1 p2 i1 g1 m1 t1 y5 y6 y7;go_wp2_with fail;rw[HF.out];obtain⟨p1,p2,i1,g1,m1,t1⟩:=HM.out;obtain⟨u1,u2,u3,df,dg,dh⟩:=HD.out;refine .inl ⟨e,M1,K1,rfl,⟨(p2 0 u1 u2 u3).ok,funext fun s=>?_⟩,i1,g1,m1,(aj.refl.drewN 1).trans t1⟩;rw[p1];show(if Bd.De M.D ef s then Bd.De M.D eg s else Bd.De M.D eh s)=_;rw[df,dg,dh]
end
end
section
/-- A box that an operation reads. -/
def gF(K:Nat→Nat)(w:World)(b:Nat)(o:Obj):Prop:=K b=0∧w.heap[b]?=some o
section
variable {K K':Nat→Nat} {w w':World} {p n room k v b f g h:Nat} {M M':Bd.MS} {ψ φ χ:Bd.BF} {o:Obj}
theorem gF.aG{R:Nat→Prop}(h:gF K w b o)(tt:aj R K w K' w')(hR:¬R 0):gF K' w' b o:=⟨(tt.role h.2).trans h.1,tt.obj h.2 (by rw[h.1];exact hR)⟩
theorem wF(hi:Bd.Inv n room M)(h0:0<n)(hn:n≤64)(hrm:room≤1048576)(hx:M.next≤1000000000)(hroom:M.H.length*(2^n-1)+1≤room)(hv:v<n)(h:aX K w p n room M) :
 Calls Tryz.prog 26 #[.pointer (some ⟨p,0,none⟩),.int .i64 (v:Nat)] w (xH K w p n room M (fun s=>s v)):=by
 have hn2:n≤1000000:=by omega
 have Ob:∀(fn:Fn)(first cap:Array Value)(w:World),(Instr.makeFunc fn first cap).run Tryz.prog w=.ok (.func fn first cap) w:=fun _ _ _ _=>rfl;obtain⟨F,HF⟩:=aJ (xH K w p n room M (fun s=>s v));rw[←HF.out];obtain⟨W1,hW1⟩:∃W1,W1=w.alloc (.cells #[.int .i64 (v:Nat)] 3):=⟨_,rfl⟩;obtain⟨K1,t1,k1⟩:=bX K (show Below w.heap.size w W1 by rw[hW1];exact(Below.refl _ _).alloc (Nat.le_refl _) _);obtain⟨b3,hb3⟩:∃b3,b3=w.heap.size:=⟨_,rfl⟩;have q3:gF K1 W1 b3 (.cells #[.int .i64 (v:Nat)] 3 (0,0)):=⟨by rw[hb3];exact k1 _ (Nat.le_refl _),by rw[hW1,hb3];exact heap_alloc_new _ _⟩;have m1:=h.aG (t1 (fun _=>False)) (fun r h=>h.elim);have td:aj (fun _=>False) K1 W1 K1 W1.drew:=aj.refl.drewN 1;have y3:W1.drew.cell? ⟨b3,0,none⟩=some (.int .i64 (v:Nat)):=au q3.2 0 rfl
 have cD:=AU (K:=K1) (w:=W1.drew) (fid:=88) (cap:=#[.pointer (some ⟨b3,0,none⟩)]) (k:=1) (P:=fun M' e=>Bd.De M'.D e=fun s=>s v) (J:=fun K1 w1=>gF K1 w1 b3 (.cells #[.int .i64 (v:Nat)] 3 (0,0)))
  hi h0 hn hrm hx hroom (fun _ _=>rfl) (fun K1 w1 K2 w2 h tt=>h.aG tt gM)
  (fun M1 K2 w2 xb ra i1 j2 hc hm=>Ku i1 hn2 hrm hv j2.2 hc hm) (q3.aG td id) (m1.aG td (fun r h=>h.elim))
 have HC:=Lib.hid cD;obtain⟨t,⟨A,h2⟩,-⟩:=m1;obtain⟨L,hs⟩:=h2.store;have y0:W1.drew.cell? ⟨p,0,none⟩=some (.pointer (some ⟨A.sb,0,none⟩)):=h2.c0;have cL:=lV (hs.below (w':=W1.drew) (Below.refl _ _).drew) v hv hn2;have HL:=Lib.hid cL;have HT:=Lib.hid ((t1 mX).trans (td.mono (fun r h=>h.elim)));have HI:=Lib.hid hi;have hlt:decide (((M.ah v:Nat):Int)<0)=false:=by simp
 clear t1 k1 q3 td h2 hs cD cL hi h hroom hx h0 hn hrm;go_in;go_wp2_with fail;rw[←hW1,←hb3];clear hW1 hb3;refine aM 6 (by kernel_rfl) (by kernel_rfl) ?_;simp only[List.take_succ_cons,List.take_zero,List.drop_succ_cons,List.drop_zero]
 still_step
 still_step
 still_step
 still_step
 still_step
 still_call (HL.out)
 refine wpStill_nil ?_;go_wp2_with fail;refine(HC.out).mono ?_;rintro x w2 hq;obtain⟨rfl,M',K2,gt,m2,t2⟩:=hq.get HI.out;have HM:=Lib.hid (And.intro gt (And.intro m2 t2));clear gt m2 t2 hq;go_wp2_with fail;rw[HF.out];exact⟨rfl,M',K2,HM.out.1,HM.out.2.1,HT.out.trans HM.out.2.2⟩
theorem Hn.ran(hM:fF M M')(hh:Hn M h ψ):Hn M' h ψ:=by
 obtain⟨e,h1,h2⟩:=hh;exact⟨e,by rw[hM.H];exact h1,by rw[hM.fn h e h1];exact h2⟩
theorem kV(hi:Bd.Inv n room M)(h0:0<n)(hn:n≤64)(hrm:room≤1048576)(hx:M.next≤1000000000)(hroom:M.H.length*(2^n-1)+(2^n-1)≤room)(hf:Hn M f φ)(hg:Hn M g χ)(hh:Hn M h ψ)(hm:aX K w p n room M) :
 Calls Tryz.prog 27 #[.pointer (some ⟨p,0,none⟩),.int .i64 (f:Nat),.int .i64 (g:Nat),.int .i64 (h:Nat)] w (xH K w p n room M (fun s=>if φ s then χ s else ψ s)):=by
 have hn2:n≤1000000:=by omega
 have Ob:∀(fn:Fn)(first cap:Array Value)(w:World),(Instr.makeFunc fn first cap).run Tryz.prog w=.ok (.func fn first cap) w:=fun _ _ _ _=>rfl;obtain⟨F,HF⟩:=aJ (xH K w p n room M (fun s=>if φ s then χ s else ψ s));rw[←HF.out];obtain⟨W1,hW1⟩:∃W1,W1=((w.alloc (.cells #[.int .i64 (f:Nat)] 3)).alloc (.cells #[.int .i64 (g:Nat)] 3)).alloc (.cells #[.int .i64 (h:Nat)] 3):=⟨_,rfl⟩;obtain⟨K1,t1,k1⟩:=bX K (show Below w.heap.size w W1 by rw[hW1];exact(((Below.refl _ _).alloc (Nat.le_refl _) _).alloc (by simp) _).alloc (by simp;omega) _);have q5:gF K1 W1 w.heap.size (.cells #[.int .i64 (f:Nat)] 3 (0,0)):=⟨k1 _ (Nat.le_refl _),by rw[hW1];exact(Below.heap_alloc _ _ _ (by simp;omega)).trans ((Below.heap_alloc _ _ _ (by simp)).trans (heap_alloc_new _ _))⟩;have q6:gF K1 W1 (w.heap.size+1) (.cells #[.int .i64 (g:Nat)] 3 (0,0)):=⟨k1 _ (by omega),by rw[hW1];exact(Below.heap_alloc _ _ _ (by simp)).trans (aL (by simp))⟩;have q7:gF K1 W1 (w.heap.size+1+1) (.cells #[.int .i64 (h:Nat)] 3 (0,0)):=⟨k1 _ (by omega),by rw[hW1];exact aL (by simp)⟩;have m1:=hm.aG (t1 (fun _=>False)) (fun r h=>h.elim)
 have cD:=AU (K:=K1) (w:=W1) (fid:=89) (cap:=#[.pointer (some ⟨w.heap.size,0,none⟩),.pointer (some ⟨w.heap.size+1,0,none⟩),.pointer (some ⟨w.heap.size+1+1,0,none⟩)]) (k:=2^n-1) (P:=fun M' e=>Bd.De M'.D e=fun s=>if φ s then χ s else ψ s)
  (J:=fun K1 w1=>gF K1 w1 w.heap.size (.cells #[.int .i64 (f:Nat)] 3 (0,0))∧gF K1 w1 (w.heap.size+1) (.cells #[.int .i64 (g:Nat)] 3 (0,0))∧gF K1 w1 (w.heap.size+1+1) (.cells #[.int .i64 (h:Nat)] 3 (0,0)))
  hi h0 hn hrm hx hroom (fun _ _=>rfl) (fun K1 w1 K2 w2 h tt=>⟨h.1.aG tt gM,h.2.1.aG tt gM,h.2.2.aG tt gM⟩)
  (fun M1 K2 w2 xb ra i1 j2 hc hm=>Kv i1 hn2 hrm (by rw[ra.next];exact hx) (hf.ran ra) (hg.ran ra) (hh.ran ra) j2.1.2 j2.2.1.2 j2.2.2.2 hc hm) ⟨q5,q6,q7⟩ m1
 have HC:=Lib.hid cD;have HT:=Lib.hid (t1 mX);have HI:=Lib.hid hi;clear t1 k1 q5 q6 q7 m1 cD hi hm hf hg hh hroom hx h0 hn hrm;go_in;go_wp2_with fail;rw[←hW1];clear hW1;refine(HC.out).mono ?_;rintro x w2 hq;obtain⟨rfl,M',K2,gt,m2,t2⟩:=hq.get HI.out;have HM:=Lib.hid (And.intro gt (And.intro m2 t2));clear gt m2 t2 hq;go_wp2_with fail;rw[HF.out];exact⟨rfl,M',K2,HM.out.1,HM.out.2.1,HT.out.trans HM.out.2.2⟩
end
end
section
/-- A box with one cell,read alone. -/
def Bx(K:Nat→Nat)(w:World)(b:Nat)(T:TypeId)(v:Value):Prop:=gF K w b (.cells #[v] T (0,0))
section
variable {K K':Nat→Nat} {w w':World} {p xb n room k b:Nat} {M M':Bd.MS} {t:Nat→iN} {e f v:Nat} {d:Bd.Nd} {T:TypeId} {x:Value}
theorem Bx.aG{R:Nat→Prop}(h:Bx K w b T x)(tt:aj R K w K' w')(hR:¬R 0):Bx K' w' b T x:=gF.aG h tt hR
theorem Bx.cell(h:Bx K w b T x):w.cell? ⟨b,0,none⟩=some x:=au h.2 0 rfl
theorem Bx.below(h:Bx K w b T x)(hb:Below w.heap.size w w'):Bx K w' b T x:=h.aG (R:=fun _=>False) (aj.of_below hb) id
theorem Bx.bM(h:Bx K w b T x)(hb:Below w.heap.size w w'):w'.cell? ⟨b,0,none⟩=some x:=(h.below hb).cell
theorem Bx.dH{R:Nat→Prop}(h:Bx K w b T x)(tt:aj R K w K' w')(hR:¬R 0):w'.cell? ⟨b,0,none⟩=some x:=(h.aG tt hR).cell
/-- What exists does. -/
def Iz(n room k:Nat):Prop:=∀(xb p L f c:Nat)(l:List Nat)(M:Bd.MS)(K:Nat→Nat)(w:World),n≤L+k→Bd.Inv n room M→Bd.und M.S.nd M.ah L f→Bd.dP M.S.nd c l→dL K w xb p→aX K w p n room M →
 Calls Tryz.prog 117 #[.pointer (some ⟨xb,0,none⟩),.int .i64 (f:Nat),.int .i64 (c:Nat)] w (oF K w p n room M (k*2^k) (Bd.Pm M f l))
theorem Oe(hn:n≤64)(hrm:room≤1048576)(IH:Iz n room k){L c:Nat}{l:List Nat}{b3 b4 b5:Nat}(hL:n≤L+(k+1))(hi:Bd.Inv n room M)(hu:Bd.und M.S.nd M.ah L f)(kM:Bd.dP M.S.nd c l)(hf0:f/2≠0)(hc0:c/2≠0)(hle:Bd.fT M.S.nd M.ah f≤Bd.fT M.S.nd M.ah c)
 (x3:Bx K w b3 106 (.pointer (some ⟨xb,0,none⟩))) (x4:Bx K w b4 107 (.int .i64 (f:Nat))) (x5:Bx K w b5 107 (.int .i64 (c:Nat))) (hc:dL K w xb p) (h:aX K w p n room M) :
 Calls Tryz.prog 153 #[.pointer (some ⟨b3,0,none⟩),.pointer (some ⟨b4,0,none⟩),.pointer (some ⟨b5,0,none⟩)] w (oF K w p n room M ((k+1)*2^(k+1)) (fun M' r=>Bd.Good M' 1500 f c 0 r)):=by
 obtain⟨F,HF⟩:=aJ (oF K w p n room M ((k+1)*2^(k+1)) (fun M' r=>Bd.Good M' 1500 f c 0 r));rw[←HF.out]
 obtain⟨d,hd⟩:∃d,M.S.nd (f/2)=some d:=by
  rcases hu with h1|⟨d,h1,-⟩
  ·exact absurd h1 hf0
  ·exact⟨d,h1⟩
 obtain⟨tt,hm,hg⟩:∃t,bB K w p n room M t∧fB M t:=h;have kL:=hi.gi.lt _ _ hd;have N9:L≤M.ah d.v:=Bd.qD hi.gi hd rfl hu;have huv:Bd.und M.S.nd M.ah (M.ah d.v) f:=.inr ⟨d,hd,Nat.le_refl _⟩;obtain⟨ul,uh⟩:=Bd.bQ hi.gi kL huv;have elf:Bd.fT M.S.nd M.ah f=M.ah d.v:=by unfold Bd.fT;rw[hd]
 rw[elf]at hle;have hll:=hi.gi.ll _ kL;have sf:=Inv.small hi hrm huv.ok;obtain⟨v,hv⟩:∃v,v=d.v:=⟨_,rfl⟩;obtain⟨lo,hlo⟩:∃lo,lo=Bd.aB M.S.nd f d.v:=⟨_,rfl⟩;obtain⟨hh,IB⟩:∃hh,hh=Bd.aI M.S.nd f d.v:=⟨_,rfl⟩;have cT:=oH hi hn hrm hd hc hm;have cS:=fun w' (hb:Below w.heap.size w w')=>iZ hi hrm sf (hc.below hb) (hm.below hb) d.v;have cL:=fun w' (hb:Below w.heap.size w w')=>jN (by omega) kL (hc.below hb) (hm.below hb);have cQ:=fun w' (hb:Below w.heap.size w w')=>jO hi hn hrm kM.ok (hc.below hb) (hm.below hb);have half:∀a,Bd.De M.D f a=if a v then Bd.De M.D hh a else Bd.De M.D lo a:=by rw[hv,hlo,IB];exact fun a=>Bd.halves hi.gi huv a
 rw[←hv]at cT cS cL;rw[hv]at cS;rw[←hlo,←IB,←hv]at cS;rw[←hlo,←hv]at ul;rw[←IB,←hv]at uh;rw[←hv]at hle hll N9 kL huv;obtain⟨lc,hlc⟩:∃lc,lc=Bd.fT M.S.nd M.ah c:=⟨_,rfl⟩;rw[←hlc]at cQ hle;obtain⟨lv,hlv⟩:∃lv,lv=M.ah v:=⟨_,rfl⟩;rw[←hlv]at cL hle;have HT:=Lib.hid cT;have HS:=Lib.hid cS;have lH:=Lib.hid cL;have HQ:=Lib.hid cQ;have HI:=Lib.hid hi;have HC:=Lib.hid hc;have HM:=Lib.hid hm;have HG:=Lib.hid hg;have HX:=Lib.hid (And.intro x3 (And.intro x4 x5));have HU:=Lib.hid (And.intro hu (And.intro huv (And.intro ul uh)));have xI:=Lib.hid kM;have BA:=Lib.hid (And.intro hlv hlc);have HH:=Lib.hid half;have HHd:=Lib.hid (And.intro hd hv.symm);have y3:=x3.cell;have y4:=x4.cell;have y5:=x5.cell;have l3:=aV x3.2;have l4:=aV x4.2;have l5:=aV x5.2;clear cT cS cL cQ hi hc hm hg x3 x4 x5 hu huv ul uh kM hlv hlc half hd hv hlo IB elf sf;go_in
 go_wp2_with (first|(go_at_call 71;with_reducible refine(HT.out).mono ?_;rintro r w2 ⟨rfl,hb2⟩;have y3:=HX.out.1.bM hb2;have y4:=HX.out.2.1.bM hb2;have HB2:=Lib.hid hb2;clear hb2)|(go_at_call 72;with_reducible refine(HS.out _ HB2.out).mono ?_;rintro r w3 ⟨rfl,hb3⟩;have HB3:=Lib.hid (HB2.out.trans (hb3.mono HB2.out.size));clear hb3))
 clear y3 y4 y5;have xJ:Below w.heap.size w w3.drew:=HB3.out.drew;have FP:=Lib.hid xJ;refine wp_region_held_drew (S:=fun W=>W.cell? ⟨b3,0,none⟩=some (.pointer (some ⟨xb,0,none⟩))∧W.cell? ⟨b5,0,none⟩=some (.int .i64 (c:Nat))) (by kernel_rfl) ⟨HX.out.1.bM xJ,HX.out.2.2.bM xJ⟩ (fun hHeld=>?_);clear xJ
 repeat
  (first|refine aD 0 (v:=?_) rfl ?hy ?_|refine aD 1 (v:=?_) rfl ?hy ?_|refine aD 3 (v:=?_) rfl ?hy ?_|refine aD 4 (v:=?_) rfl ?hy ?_
   case hy=>
    intro w0 hS;obtain⟨c0,c1⟩:=hS;go_simp
    (first|done|with_reducible rfl)
   try simp only[Act.put,aZ,bq,bA])
 refine wpAnyH_ready (rs:=[2]) (by decide +kernel) (by simp) (AllReadyH.cons (dA rfl) (fun KC aO=>?_) AllReadyH.nil);refine bW 119 ?_;go_simp;clear hHeld;refine(HQ.out _ FP.out).mono ?_;rintro r w4 ⟨rfl,hb4⟩;have mM:=Lib.hid (FP.out.trans (hb4.mono FP.out.size));clear hb4;refine aO.out _ _ ⟨HX.out.1.bM mM.out,HX.out.2.2.bM mM.out⟩ (fun hHeld=>?_);clear aO KC;(try simp only[Act.put,aZ,bq,bA]);refine wpAnyH_ready (rs:=[5]) (by decide +kernel) (by simp) (AllReadyH.cons (dA rfl) (fun KC aO=>?_) AllReadyH.nil);refine bW 118 ?_;go_simp;clear hHeld;refine(lH.out _ mM.out).mono ?_;rintro r w5 ⟨rfl,jS⟩;rw[jS];clear jS;refine aO.out _ _ ⟨HX.out.1.bM mM.out,HX.out.2.2.bM mM.out⟩ (fun hHeld=>?_);clear aO KC;try simp only[Act.put,aZ,bq,bA]
 repeat
  (first|refine aD 6 (v:=?_) rfl ?hy ?_
   case hy=>
    intro w0 hS;obtain⟨c0,c1⟩:=hS;go_simp
    (first|done|with_reducible rfl)
   try simp only[Act.put,aZ,bq,bA])
 refine wpAnyH_done (by decide +kernel) ?_ _;clear hHeld;obtain⟨hu,huv,ul,uh⟩:=HU.out;have hi:=HI.out;have kM:=xI.out;have wG:=Bd.Ja k;have hmx:1≤max 1 (2^k-1)∧2^k-1≤max 1 (2^k-1):=⟨Nat.le_max_left _ _,Nat.le_max_right _ _⟩;obtain⟨Kw,wH⟩:∃Kw,Kw=(k+1)*2^(k+1):=⟨_,rfl⟩;obtain⟨kb,hkb⟩:∃kb,kb=k*2^k:=⟨_,rfl⟩;obtain⟨mx,FQ⟩:∃mx,mx=max 1 (2^k-1):=⟨_,rfl⟩;rw[←wH]at HF;rw[←wH,←hkb,←FQ]at wG;rw[←FQ]at hmx;have Ky:=Lib.hid hmx;have rO:=Lib.hid hkb;clear hmx wH hkb FQ;have aaY:M.ah v<n:=hll;have Q7:n≤M.ah v+1+k:=by omega
 have HA:=Lib.hid (And.intro hu (And.intro huv (And.intro ul (And.intro uh (And.intro hi (And.intro kM (And.intro Q7 (And.intro kL wG))))))));have HHL:=Lib.hid N9;clear hu huv ul uh hi kM Q7 wG aaY
 by_cases hgt:lv<lc
 ·have hgi:(lv:Int)<(lc:Int):=by omega
  go_wp2_with fail;have kJ:Below w.heap.size w w4.drew:=mM.out.drew;have AV:=Lib.hid kJ;refine wp_region_held_drew (S:=fun W=>W.cell? ⟨b3,0,none⟩=some (.pointer (some ⟨xb,0,none⟩))∧W.cell? ⟨b5,0,none⟩=some (.int .i64 (c:Nat))) (by kernel_rfl) ⟨HX.out.1.bM kJ,HX.out.2.2.bM kJ⟩ (fun hHeld=>?_);clear kJ
  repeat
   (first|refine aD 0 (v:=?_) rfl ?hy ?_|refine aD 1 (v:=?_) rfl ?hy ?_|refine aD 2 (v:=?_) rfl ?hy ?_|refine aD 3 (v:=?_) rfl ?hy ?_|refine aD 4 (v:=?_) rfl ?hy ?_|refine aD 6 (v:=?_) rfl ?hy ?_|refine aD 7 (v:=?_) rfl ?hy ?_|refine aD 8 (v:=?_) rfl ?hy ?_
    case hy=>
     intro w0 hS;obtain⟨c0,c1⟩:=hS;go_simp
     (first|done|with_reducible rfl)
    try simp only[Act.put,aZ,bq,bA])
  refine wpAnyH_ready (rs:=[5]) (by decide +kernel) (by simp) (AllReadyH.cons (dA rfl) (fun KC aO=>?_) AllReadyH.nil);refine bW 117 ?_;go_simp;clear hHeld;refine(IH xb p (M.ah v+1) lo c l M K w4.drew HA.out.2.2.2.2.2.2.1 HA.out.2.2.2.2.1 HA.out.2.2.1 xI.out (HC.out.below AV.out) ⟨_,HM.out.below AV.out,HG.out⟩).mono ?_;rintro x w5 hq
  rcases hq.ex.symm with⟨cp,rfl,hx⟩|⟨r1,M1,K1,rfl,p1,i1,g1,m1,t1⟩
  ·clear aO hq;refine(show _∧_ from⟨rfl,?_⟩);rw[HF.out];have h9:=hx.AP (aj.of_below AV.out);exact .inr (h9.mono (by have:=HA.out.2.2.2.2.2.2.2.2;have:=rO.out;omega))
  clear hq;have t5:aj mR K w K1 w5:=(aj.of_below AV.out).trans t1;have T5:=Lib.hid t5;have P1:=Lib.hid (And.intro p1 (And.intro i1 (And.intro g1 m1)));clear p1 i1 g1 m1 t1 t5;refine aO.out _ _ ⟨HX.out.1.dH T5.out gM,HX.out.2.2.dH T5.out gM⟩ (fun hHeld=>?_);clear aO KC;(try simp only[Act.put,aZ,bq,bA]);refine wpAnyH_ready (rs:=[9]) (by decide +kernel) (by simp) (AllReadyH.cons (dA rfl) (fun KC aO=>?_) AllReadyH.nil);refine bW 117 ?_;go_simp;clear hHeld;refine(IH xb p (M.ah v+1) hh c l M1 K1 w5 HA.out.2.2.2.2.2.2.1 P1.out.2.1 (P1.out.2.2.1.und HA.out.2.2.2.1) (xI.out.up (fun i d h=>(P1.out.2.2.1.up i d h).1)) (HC.out.aG T5.out gM) P1.out.2.2.2).mono ?_;rintro x w6 hq
  rcases hq.ex.symm with⟨cp,rfl,hx⟩|⟨r2,M2,K2,rfl,p2,i2,g2,m2,t2⟩
  ·clear aO hq;refine(show _∧_ from⟨rfl,?_⟩);rw[HF.out];have h9:=hx.pre HA.out.2.2.2.2.1 P1.out.2.1 P1.out.2.2.1 T5.out (m:=Kw) (by have:=HA.out.2.2.2.2.2.2.2.2;have:=rO.out;omega);exact .inr h9
  clear hq;have t6:aj mR K w K2 w6:=T5.out.trans t2;have T6:=Lib.hid t6;have P2:=Lib.hid (And.intro p2 (And.intro i2 (And.intro g2 m2)));clear p2 i2 g2 m2 t2 t6;refine aO.out _ _ ⟨HX.out.1.dH T6.out gM,HX.out.2.2.dH T6.out gM⟩ (fun hHeld=>?_);clear aO KC;(try simp only[Act.put,aZ,bq,bA]);obtain⟨p1,i1,g1,m1⟩:=P1.out;obtain⟨p2,i2,g2,m2⟩:=P2.out;have FR:=HA.out.2.2.2.2.2.2.2.1;have u1:Bd.und M2.S.nd M2.ah (M2.ah v+1) r1:=by rw[g2.ah,g1.ah];exact Bd.uH (g2.und (p1.2 _ HA.out.2.2.1)) (by rw[g2.ah,g1.ah])
  have u2:Bd.und M2.S.nd M2.ah (M2.ah v+1) r2:=by rw[g2.ah,g1.ah];exact Bd.uH (p2.2 _ (g1.und HA.out.2.2.2.1)) (by rw[g2.ah,g1.ah])
  refine wpAnyH_ready (rs:=[10]) (by decide +kernel) (by simp) (AllReadyH.cons (dA rfl) (fun KC aO=>?_) AllReadyH.nil);refine bW 79 ?_;go_simp;clear hHeld;refine(qY (hi':=r2) i2 (by omega) hrm FR u1 u2 (HC.out.aG T6.out gM) m2).mono ?_;rintro x w7 hq
  rcases hq.ex.symm with⟨cp,rfl,hx⟩|⟨r3,M3,K3,rfl,p3,i3,g3,m3,t3⟩
  ·clear aO hq;refine(show _∧_ from⟨rfl,?_⟩);rw[HF.out];have h9:=hx.pre HA.out.2.2.2.2.1 P2.out.2.1 (P1.out.2.2.1.trans P2.out.2.2.1) T6.out (m:=Kw) (by have:=HA.out.2.2.2.2.2.2.2.2;have:=rO.out;have:=Ky.out;omega);exact .inr h9
  clear hq;have t7:aj mR K w K3 w7:=T6.out.trans t3;have T7:=Lib.hid t7;have P3:=Lib.hid (And.intro p3 (And.intro i3 (And.intro g3 m3)));clear p3 i3 g3 m3 t3 t7;refine aO.out _ _ ⟨HX.out.1.dH T7.out gM,HX.out.2.2.dH T7.out gM⟩ (fun hHeld=>?_);clear aO KC;try simp only[Act.put,aZ,bq,bA]
  repeat
   (first|refine aD 11 (v:=?_) rfl ?hy ?_
    case hy=>
     intro w0 hS;obtain⟨c0,c1⟩:=hS;go_simp
     (first|done|with_reducible rfl)
    try simp only[Act.put,aZ,bq,bA])
  refine wpAnyH_done (by decide +kernel) ?_ _;clear hHeld;go_wp2_with fail;rw[HF.out];obtain⟨hu,huv,ul,uh,hi,kM,Q7,FR,wG⟩:=HA.out;obtain⟨p1,i1,g1,m1⟩:=P1.out;obtain⟨p2,i2,g2,m2⟩:=P2.out;obtain⟨p3,i3,g3,m3⟩:=P3.out;have mQ:=(g1.trans g2).trans g3;have hvl:v∉l:=Bd.qE hi.gi kM hn (by rw[←BA.out.1,←BA.out.2];exact hgt) (Nat.lt_of_lt_of_le hll hn);have hfin:=Bd.Co hi i1 g1 i2 g2 g3 hvl HH.out p1.1 (by rw[p2.1,Bd.Grow.De hi i1 g1 uh.ok]) (p1.2 _ ul).ok p3.1;refine .inl ⟨r3,M3,K3,rfl,Bd.Pm.good hi i3 mQ hu.ok kM (l:=l) ⟨hfin.1,fun L' hu'=>hfin.2 L' (Bd.qD hi.gi HHd.out.1 HHd.out.2 hu')⟩,i3,mQ.mono (by have:=rO.out;have:=Ky.out;omega),m3,T7.out⟩
 ·obtain⟨v',hi',l',hl',hnd',AX,Dx,-⟩:=xI.out.top hc0;have Og:=HI.out.gi.lt _ _ hnd';have hlc:lc=M.ah v':=by rw[BA.out.2];unfold Bd.fT;rw[hnd']
  have Oh:v'=v:=Bd.zW HI.out Og kL (by rw[←hlc,←BA.out.1];omega);have cR:=oI HI.out hn hrm hnd' (HC.out.below mM.out) (HM.out.below mM.out);rw[Dx]at cR;obtain⟨ch,hch⟩:∃ch,ch=hi':=⟨_,rfl⟩;rw[←hch]at cR AX;have HR:=Lib.hid cR;have FT:=Lib.hid (And.intro AX (And.intro hl' Oh));have hgi:¬(lv:Int)<(lc:Int):=by omega
  have y3:=HX.out.1.bM mM.out;have y5:=HX.out.2.2.bM mM.out;clear Og hlc Oh cR hch AX hl' hnd' Dx hgt
  go_wp2_with (go_at_call 120;with_reducible refine(HR.out).mono ?_;rintro r w8 ⟨rfl,gY⟩;have UC:=Lib.hid (mM.out.trans (gY.mono mM.out.size));clear gY)
  clear y3 y5;have kJ:Below w.heap.size w w8.drew:=UC.out.drew;have AY:=Lib.hid kJ;refine wp_region_held_drew (S:=fun W=>W.cell? ⟨b3,0,none⟩=some (.pointer (some ⟨xb,0,none⟩))∧W.cell? ⟨b5,0,none⟩=some (.int .i64 (c:Nat))) (by kernel_rfl) ⟨HX.out.1.bM kJ,HX.out.2.2.bM kJ⟩ (fun hHeld=>?_);clear kJ
  repeat
   (first|refine aD 0 (v:=?_) rfl ?hy ?_|refine aD 1 (v:=?_) rfl ?hy ?_|refine aD 2 (v:=?_) rfl ?hy ?_|refine aD 3 (v:=?_) rfl ?hy ?_|refine aD 5 (v:=?_) rfl ?hy ?_|refine aD 6 (v:=?_) rfl ?hy ?_|refine aD 7 (v:=?_) rfl ?hy ?_
    case hy=>
     intro w0 hS;obtain⟨c0,c1⟩:=hS;go_simp
     (first|done|with_reducible rfl)
    try simp only[Act.put,aZ,bq,bA])
  refine wpAnyH_ready (rs:=[4]) (by decide +kernel) (by simp) (AllReadyH.cons (dA rfl) (fun KC aO=>?_) AllReadyH.nil);refine bW 117 ?_;go_simp;clear hHeld;refine(IH xb p (M.ah v+1) lo ch l' M K w8.drew HA.out.2.2.2.2.2.2.1 HA.out.2.2.2.2.1 HA.out.2.2.1 FT.out.1 (HC.out.below AY.out) ⟨_,HM.out.below AY.out,HG.out⟩).mono ?_;rintro x w5 hq
  rcases hq.ex.symm with⟨cp,rfl,hx⟩|⟨r1,M1,K1,rfl,p1,i1,g1,m1,t1⟩
  ·clear aO hq;refine(show _∧_ from⟨rfl,?_⟩);rw[HF.out];have h9:=hx.AP (aj.of_below AY.out);exact .inr (h9.mono (by have:=HA.out.2.2.2.2.2.2.2.2;have:=rO.out;omega))
  clear hq;have t5:aj mR K w K1 w5:=(aj.of_below AY.out).trans t1;have T5:=Lib.hid t5;have P1:=Lib.hid (And.intro p1 (And.intro i1 (And.intro g1 m1)));clear p1 i1 g1 m1 t1 t5;refine aO.out _ _ ⟨HX.out.1.dH T5.out gM,HX.out.2.2.dH T5.out gM⟩ (fun hHeld=>?_);clear aO KC;(try simp only[Act.put,aZ,bq,bA]);refine wpAnyH_ready (rs:=[8]) (by decide +kernel) (by simp) (AllReadyH.cons (dA rfl) (fun KC aO=>?_) AllReadyH.nil);refine bW 117 ?_;go_simp;clear hHeld;refine(IH xb p (M.ah v+1) hh ch l' M1 K1 w5 HA.out.2.2.2.2.2.2.1 P1.out.2.1 (P1.out.2.2.1.und HA.out.2.2.2.1) (FT.out.1.up (fun i d h=>(P1.out.2.2.1.up i d h).1)) (HC.out.aG T5.out gM) P1.out.2.2.2).mono ?_;rintro x w6 hq
  rcases hq.ex.symm with⟨cp,rfl,hx⟩|⟨r2,M2,K2,rfl,p2,i2,g2,m2,t2⟩
  ·clear aO hq;refine(show _∧_ from⟨rfl,?_⟩);rw[HF.out];have h9:=hx.pre HA.out.2.2.2.2.1 P1.out.2.1 P1.out.2.2.1 T5.out (m:=Kw) (by have:=HA.out.2.2.2.2.2.2.2.2;have:=rO.out;omega);exact .inr h9
  clear hq;have t6:aj mR K w K2 w6:=T5.out.trans t2;have T6:=Lib.hid t6;have P2:=Lib.hid (And.intro p2 (And.intro i2 (And.intro g2 m2)));clear p2 i2 g2 m2 t2 t6;refine aO.out _ _ ⟨HX.out.1.dH T6.out gM,HX.out.2.2.dH T6.out gM⟩ (fun hHeld=>?_);clear aO KC;(try simp only[Act.put,aZ,bq,bA]);obtain⟨p1,i1,g1,m1⟩:=P1.out;obtain⟨p2,i2,g2,m2⟩:=P2.out;have u1:Bd.und M2.S.nd M2.ah (M.ah v+1) r1:=g2.und (p1.2 _ HA.out.2.2.1);have u2:Bd.und M2.S.nd M2.ah (M.ah v+1) r2:=p2.2 _ (g1.und HA.out.2.2.2.1);refine wpAnyH_ready (rs:=[9]) (by decide +kernel) (by simp) (AllReadyH.cons (dA rfl) (fun KC aO=>?_) AllReadyH.nil);refine bW 81 ?_;go_simp;clear hHeld;refine(qZ (by omega) hrm k (M.ah v+1) r1 0 r2 M2 K2 w6 HA.out.2.2.2.2.2.2.1 i2 u1 (.inl rfl) u2 (HC.out.aG T6.out gM) m2).mono ?_;rintro x w7 hq
  rcases hq.ex.symm with⟨cp,rfl,hx⟩|⟨r3,M3,K3,rfl,p3,i3,g3,m3,t3⟩
  ·clear aO hq;refine(show _∧_ from⟨rfl,?_⟩);rw[HF.out];have h9:=hx.pre HA.out.2.2.2.2.1 P2.out.2.1 (P1.out.2.2.1.trans P2.out.2.2.1) T6.out (m:=Kw) (by have:=HA.out.2.2.2.2.2.2.2.2;have:=rO.out;have:=Ky.out;omega);exact .inr h9
  clear hq;have t7:aj mR K w K3 w7:=T6.out.trans t3;have T7:=Lib.hid t7;have P3:=Lib.hid (And.intro p3 (And.intro i3 (And.intro g3 m3)));clear p3 i3 g3 m3 t3 t7;refine aO.out _ _ ⟨HX.out.1.dH T7.out gM,HX.out.2.2.dH T7.out gM⟩ (fun hHeld=>?_);clear aO KC;try simp only[Act.put,aZ,bq,bA]
  repeat
   (first|refine aD 10 (v:=?_) rfl ?hy ?_
    case hy=>
     intro w0 hS;obtain⟨c0,c1⟩:=hS;go_simp
     (first|done|with_reducible rfl)
    try simp only[Act.put,aZ,bq,bA])
  refine wpAnyH_done (by decide +kernel) ?_ _;clear hHeld;go_wp2_with fail;rw[HF.out];obtain⟨hu,huv,ul,uh,hi,kM,Q7,FR,wG⟩:=HA.out;obtain⟨p1,i1,g1,m1⟩:=P1.out;obtain⟨p2,i2,g2,m2⟩:=P2.out;obtain⟨p3,i3,g3,m3⟩:=P3.out;have mQ:=(g1.trans g2).trans g3;obtain⟨AX,hl',Oh⟩:=FT.out;have u1:Bd.und M2.S.nd M2.ah (M.ah v+1) r1:=g2.und (p1.2 _ ul);have u2:Bd.und M2.S.nd M2.ah (M.ah v+1) r2:=p2.2 _ (g1.und uh);have hfin:=Bd.MI hi i1 g1 i2 g2 g3 FR HH.out (fun a b hab=>Bd.hang hi.gi uh a b hab) (fun a b hab=>Bd.hang hi.gi ul a b hab) p1.1 (by rw[p2.1,Bd.Grow.De hi i1 g1 uh.ok]) (p1.2 _ ul).ok p3.1 (p3.2 _ u1 (.inl rfl) u2);rw[←Oh,←hl']at hfin;rw[Oh]at hfin;refine .inl ⟨r3,M3,K3,rfl,Bd.Pm.good hi i3 mQ hu.ok kM (l:=l) ⟨hfin.1,fun L' hu'=>hfin.2 L' (Bd.qD hi.gi HHd.out.1 HHd.out.2 hu')⟩,i3,mQ.mono (by have:=rO.out;have:=Ky.out;omega),m3,T7.out⟩
end
end
end Go.Proofs.YtpijlhlpejlhhaaGreat
