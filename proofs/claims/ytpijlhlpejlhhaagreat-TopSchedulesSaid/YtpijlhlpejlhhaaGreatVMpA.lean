/- Walks and plain words: MpA MpB. -/
import Derived.Maps.RangeWalk
import Derived.Maps.OwnSet
import Derived.Test.YtpijlhlpejlhhaaGreatVTsm
import Derived.DeepKeys4
import Derived.WalkArith
namespace Go.Proofs.YtpijlhlpejlhhaaGreat
open Go.RowKit Go.Maps
set_option linter.unusedVariables false
set_option maxRecDepth 100000
section
/-- How keys and elements of a map are written. -/
structure MT(P:Program)(α β:Type) where
 t:TypeId
 k:TypeId
 e:TypeId
 law:Keyed P k
 ut:P.underlying t=some (.map k e)
 key:α→Value
 good:α→Prop
 kok:∀x,good x→(keyOf P k (key x)).isSome=true
 aao:∀x y,key x=key y→x=y
 val:β→Value
 lit:β→Lit
 fine:β→Prop
 vok:∀y,fine y→plainElem (H:=Unit) P e (val y)=some (.lit (lit y),[])
 MQ:∀v z,plainElem (H:=Unit) P e v=some z→∃y,fine y∧v=val y∧z=(.lit (lit y),[])
 MR:∀x y,lit x=lit y→x=y
 zero:β
 Sv:fine zero
 Xl:∀w,(zeroValue e).run P w=.ok (val zero) w
section
variable {P:Program} {α β:Type} (t:MT P α β) {w w':World} {b c:Nat} {f:α→Option β} {x:α}
def MT.kl(x:α):Lit:=(keyOf P t.k (t.key x)).getD (.bool false)
theorem MT.qH(h:t.good x):keyOf P t.k (t.key x)=some (t.kl x):=by
 have:=t.kok x h;unfold MT.kl
 cases hk:keyOf P t.k (t.key x)with
 |none=>rw[hk]at this;cases this
 |some l=>rfl
theorem MT.zZ{x y:α}(hx:t.good x)(hy:t.good y)(h:t.kl x=t.kl y):x=y:=t.aao x y (t.law.inj (t.qH hx) (h ▸ t.qH hy))
/-- Block b is a map of c entries that reads as f. -/
structure bV(w:World)(b c:Nat)(f:α→Option β):Prop where
 ex:∃D:DataW Unit,w.ownsMap P t.k (plainElem P t.e) b c D∧size D=c∧(∀x,t.good x→match f x with|some y=>has D (t.kl x)=true∧∀z,D.atKey (t.kl x) z=.lit (t.lit y)|none=>has D (t.kl x)=false)∧∀l,has D l=true→∃x,t.good x∧l=t.kl x
 good:∀x,f x≠none→t.good x
 fine:∀x y,f x=some y→t.fine y
variable {t}
theorem bV.kept(h:bV t w b c f)(hb:w'.heap[b]?=w.heap[b]?):bV t w' b c f:=by
 obtain⟨⟨D,⟨es,cl,h1,h2⟩,h3⟩,hg,hf⟩:=h;exact⟨⟨D,⟨es,cl,hb.trans h1,h2⟩,h3⟩,hg,hf⟩
theorem bV.lt(h:bV t w b c f):b<w.heap.size:=by
 obtain⟨⟨D,h1,-⟩,-,-⟩:=h;exact h1.lt
theorem bV.le(h:bV t w b c f):c≤maxLen:=by
 obtain⟨⟨D,⟨es,cl,h1,h2,h3,h4⟩,h5,-⟩,-,-⟩:=h;have:c=es.size:=by rw[←h5,h4];simp[size,length_sorted]
 rw[this];exact h2.size
theorem bV.pq(h:bV t w b c f)(hx:t.good x):(Instr.lookup t.t (.map (some b)) (t.key x) true).run P w=.ok (.tuple #[t.val ((f x).getD t.zero),.bool (f x).isSome]) w:=by
 obtain⟨⟨D,h1,h2,h3,h4⟩,hg,hf⟩:=h;obtain⟨v,ps,hr,hv⟩:=h1.look_ok t.law t.ut (t.Xl w) (t.vok _ t.Sv) (t.qH hx);have h5:=h3 x hx
 cases hfx:f x with
 |none=>
  rw[hfx]at h5;simp only at h5;rw[atKey_of_not_has h5]at hv;rw[h5]at hr;obtain⟨y,-,rfl,hy⟩:=t.MQ _ _ hv;obtain rfl:t.zero=y:=t.MR _ _ (by simpa using congrArg Prod.fst hy);exact hr
 |some y0=>
  rw[hfx]at h5;rw[h5.2]at hv;rw[h5.1]at hr;obtain⟨y,-,rfl,hy⟩:=t.MQ _ _ hv;obtain rfl:y0=y:=t.MR _ _ (by simpa using congrArg Prod.fst hy);exact hr
theorem bV.qI(h:bV t w b c f)(hx:t.good x):(Instr.lookup t.t (.map (some b)) (t.key x) false).run P w=.ok (t.val ((f x).getD t.zero)) w:=by
 obtain⟨⟨D,h1,h2,h3,h4⟩,hg,hf⟩:=h;obtain⟨v,ps,hr,hv⟩:=h1.lookup t.law t.ut (t.Xl w) (t.vok _ t.Sv) (t.qH hx);have h5:=h3 x hx
 cases hfx:f x with
 |none=>
  rw[hfx]at h5;simp only at h5;rw[atKey_of_not_has h5]at hv;obtain⟨y,-,rfl,hy⟩:=t.MQ _ _ hv;obtain rfl:t.zero=y:=t.MR _ _ (by simpa using congrArg Prod.fst hy);exact hr
 |some y0=>
  rw[hfx]at h5;rw[h5.2]at hv;obtain⟨y,-,rfl,hy⟩:=t.MQ _ _ hv;obtain rfl:y0=y:=t.MR _ _ (by simpa using congrArg Prod.fst hy);exact hr
theorem bV.len(h:bV t w b c f)(ty:TypeId):(Builtin.len_ #[t.t] ty #[.map (some b)]).run P w=.ok (.int .i64 (c:Nat)) w:=by
 obtain⟨⟨D,h1,h2,-⟩,-,-⟩:=h;rw[h1.len t.ut ty,h2]
theorem ni(h:w.mapTurned w' b):Only (fun q=>q=b) w w':=by
 obtain⟨es,cl,es',cl',hb,rfl⟩:=h;exact⟨rfl,rfl,rfl,by simp[ChangeMaps.setBlock],fun q _ hq=>ChangeMaps.heap_setBlock_other hb _ hq⟩
def iC[DecidableEq α](f:α→Option β)(x:α)(y:Option β):α→Option β:=fun z=>if z=x then y else f z
theorem qJ[DecidableEq α](f:α→Option β)(x:α)(y:Option β):iC f x y x=y:=if_pos rfl
theorem jY[DecidableEq α]{f:α→Option β}{x z:α}{y:Option β}(h:z≠x):iC f x y z=f z:=if_neg h
theorem bV.store[DecidableEq α](h:bV t w b c f)(hx:t.good x){y:β}(hy:t.fine y)(hc:c<maxLen):∃w',(Instr.mapUpdate t.t (.map (some b)) (t.key x) (t.val y)).run P w=.ok () w'∧bV t w' b (if (f x).isSome then c else c+1) (iC f x (some y))∧Only (fun q=>q=b) w w':=by
 obtain⟨⟨D,h1,h2,h3,h4⟩,hg,hf⟩:=h;obtain⟨w',hr,h5,h6⟩:=h1.store t.law t.ut hc (t.qH hx) (t.vok y hy);have hk:WideAt.IsKeyLit (t.kl x):=t.law.key (t.qH hx);have hm:=h1.isMap
 have hsz:size (D.put (t.kl x) (.lit (t.lit y)))=if (f x).isSome then c else c+1:=by
  rw[size_put (h1.tidy t.law),h2];have:=h3 x hx
  cases hfx:f x with
  |none=>rw[hfx]at this;simp only at this;rw[this];rfl
  |some y0=>rw[hfx]at this;rw[this.1];rfl
 refine⟨w',hr,⟨⟨D.put (t.kl x) (.lit (t.lit y)),?_,hsz,fun z hz=>?_,fun l hl=>?_⟩,fun z hz=>?_,fun z y' hz=>?_⟩,ni h6⟩
 ·obtain⟨es,cl,a1,a2,a3,a4⟩:=h5;have:size (D.put (t.kl x) (.lit (t.lit y)))=es.size:=by rw[a4];simp[size,length_sorted]
  exact⟨es,cl,a1,a2,by rw[←this,hsz];exact Nat.le_refl _,a4⟩
 ·by_cases e:z=x
  ·subst e;rw[qJ];exact⟨has_put_same hm hk _,fun z'=>atKey_put_same hm hk _ _⟩
  ·have hne:t.kl z≠t.kl x:=fun h9=>e (t.zZ hz hx h9);rw[jY e];have:=h3 z hz
   cases hfz:f z with
   |none=>rw[hfz]at this;simp only at this⊢;rw[has_put_other hne];exact this
   |some y0=>rw[hfz]at this;exact⟨by rw[has_put_other hne];exact this.1,fun z'=>by rw[atKey_put_other hne];exact this.2 z'⟩
 ·by_cases e:l=t.kl x
  ·exact⟨x,hx,e⟩
  ·rw[has_put_other e]at hl;exact h4 l hl
 ·by_cases e:z=x
  ·subst e;exact hx
  ·rw[jY e]at hz;exact hg z hz
 ·by_cases e:z=x
  ·subst e;rw[qJ]at hz;cases hz;exact hy
  ·rw[jY e]at hz;exact hf z y' hz
theorem bV.drop[DecidableEq α](h:bV t w b c f)(hx:t.good x)(ty:TypeId):∃w',(Builtin.delete_ #[t.t,t.k] ty #[.map (some b),t.key x]).run P w=.ok (.tuple #[]) w'∧bV t w' b (if (f x).isSome then c-1 else c) (iC f x none)∧Only (fun q=>q=b) w w':=by
 obtain⟨⟨D,h1,h2,h3,h4⟩,hg,hf⟩:=h;obtain⟨w',hr,h5,h6⟩:=h1.drop t.law t.ut (t.qH hx) ty
 have hsz:size (D.del (t.kl x))=if (f x).isSome then c-1 else c:=by
  have h7:=size_del (k:=t.kl x) (h1.tidy t.law);rw[h2]at h7;have:=h3 x hx
  cases hfx:f x with
  |none=>rw[hfx]at this;simp only at this;rw[this]at h7;simpa using h7
  |some y0=>rw[hfx]at this;rw[this.1]at h7;simp only[if_true]at h7;show _=c-1;omega
 refine⟨w',hr,⟨⟨D.del (t.kl x),?_,hsz,fun z hz=>?_,fun l hl=>?_⟩,fun z hz=>?_,fun z y' hz=>?_⟩,ni h6⟩
 ·obtain⟨es,cl,a1,a2,a3,a4⟩:=h5;have:size (D.del (t.kl x))=es.size:=by rw[a4];simp[size,length_sorted]
  exact⟨es,cl,a1,a2,by rw[←this,hsz];exact Nat.le_refl _,a4⟩
 ·by_cases e:z=x
  ·subst e;rw[qJ];exact has_del_same
  ·have hne:t.kl z≠t.kl x:=fun h9=>e (t.zZ hz hx h9);rw[jY e];have:=h3 z hz
   cases hfz:f z with
   |none=>rw[hfz]at this;simp only at this⊢;rw[has_del_other hne];exact this
   |some y0=>rw[hfz]at this;exact⟨by rw[has_del_other hne];exact this.1,fun z'=>by rw[atKey_del_other hne];exact this.2 z'⟩
 ·by_cases e:l=t.kl x
  ·exact⟨x,hx,e⟩
  ·rw[has_del_other e]at hl;exact h4 l hl
 ·by_cases e:z=x
  ·subst e;exact hx
  ·rw[jY e]at hz;exact hg z hz
 ·by_cases e:z=x
  ·subst e;rw[qJ]at hz;cases hz
  ·rw[jY e]at hz;exact hf z y' hz
theorem bV.made(w:World):bV t (w.alloc (.map #[] 0)) w.heap.size 0 (fun _=>none):=
 ⟨⟨.map [],World.ownsMap_made _ _ _ _,rfl,fun x hx=>rfl,fun l hl=>by cases hl⟩,fun x hx=>absurd rfl hx,fun x y h=>by cases h⟩
/-- The entries,one by one. -/
theorem bV.list(h:bV t w b c f):∃l:List α,l.Nodup∧l.length=c∧∀x,x∈l↔f x≠none:=by
 obtain⟨⟨D,h1,h2,h3,h4⟩,hg,hf⟩:=h;obtain⟨es,rfl,hne,hk⟩:=h1.entries t.law;have hch:∀p∈es,∃x,t.good x∧p.1=t.kl x:=fun p hp=>h4 p.1 (List.any_eq_true.2 ⟨p,hp,WideAt.sameKey_self (hk p hp)⟩)
 have key2:∀es':List (Lit×DataW Unit),(∀p∈es',∃x,t.good x∧p.1=t.kl x)→∃l:List α,l.length=es'.length∧(∀x∈l,t.good x)∧l.map t.kl=es'.map (·.1):=by
  intro es'
  induction es' with
  |nil=>intro _;exact⟨[],rfl,by simp,rfl⟩
  |cons p r ih=>
   intro hq;obtain⟨l,a1,a2,a3⟩:=ih (fun q hq'=>hq q (List.mem_cons_of_mem _ hq'));obtain⟨x,hx,hxp⟩:=hq p List.mem_cons_self;exact⟨x::l,by simp[a1],fun y hy=>(List.mem_cons.1 hy).elim (fun e=>e ▸ hx) (a2 y),by simp[a3,hxp]⟩
 obtain⟨l,b1,b2,b3⟩:=key2 es hch;have hnd:(es.map (·.1)).Nodup:=List.pairwise_map.2 hne;refine⟨l,?_,by rw[b1];simpa[size]using h2,fun x=>?_⟩
 ·rw[←b3]at hnd;exact(List.pairwise_map.1 hnd).imp (fun h9 e=>h9 (congrArg _ e))
 ·have hmem:∀y,t.good y→(y∈l↔has (.map es) (t.kl y)=true):=fun y hy=>by
   constructor
   ·intro h9;have:t.kl y∈es.map (·.1):=b3 ▸ List.mem_map.2 ⟨y,h9,rfl⟩;obtain⟨p,hp,hpe⟩:=List.mem_map.1 this;exact List.any_eq_true.2 ⟨p,hp,by rw[←hpe];exact WideAt.sameKey_self (hk p hp)⟩
   ·intro h9;obtain⟨p,hp,hpe⟩:=List.any_eq_true.1 h9;have h10:=WideAt.sameKey_eq hpe;have:t.kl y∈l.map t.kl:=by rw[b3,←h10];exact List.mem_map.2 ⟨p,hp,rfl⟩
    obtain⟨z,hz,hze⟩:=List.mem_map.1 this;rw[←t.zZ (b2 z hz) hy hze];exact hz
  constructor
  ·intro hx;have:=(hmem x (b2 x hx)).1 hx;intro e;have h9:=h3 x (b2 x hx);rw[e]at h9;simp only at h9;rw[this]at h9;cases h9
  ·intro hx;have hgx:=hg x hx;refine(hmem x hgx).2 ?_;have h9:=h3 x hgx
   cases hfx:f x with
   |none=>exact absurd hfx hx
   |some y=>rw[hfx]at h9;exact h9.1
end
end
theorem Tryz.laidOut:laidOutB Tryz.prog=true:=by kernel_rfl
theorem Tryz.pairU:Tryz.prog.underlying 217=some (.array 2 107):=by kernel_rfl
theorem Tryz.edgeU:Tryz.prog.underlying 107=some (.int .i64):=by kernel_rfl
theorem Tryz.intU:Tryz.prog.underlying 3=some (.int .i64):=by kernel_rfl
theorem Tryz.boolU:Tryz.prog.underlying 4=some .bool:=by kernel_rfl
theorem Tryz.keyPair:Keyed Tryz.prog 217:=Keyed.of_law (deep_law_laid Tryz.laidOut (m:=9999) (by decide) (by decide +kernel) (by kernel_rfl) (by rw[Tryz.pairU]))
theorem sD{n:Nat}(h:n<4611686018427387904):(Lit.int .i64 (n:Nat)).wf=true:=WalkArith.wf_i64 (by omega)
def gQ(x:Nat×Nat):Value:=.agg #[.int .i64 (x.1:Nat),.int .i64 (x.2:Nat)]
theorem yB(x y:Nat×Nat)(h:gQ x=gQ y):x=y:=by
 unfold gQ at h
 injection h with h
 simp at h;exact Prod.ext (by omega) (by omega)
def jZ(x:Nat×Nat):Prop:=x.1<4611686018427387904∧x.2<4611686018427387904
theorem Hu(x:Nat×Nat)(h:jZ x):(keyOf Tryz.prog 217 (gQ x)).isSome=true:=by
 have hk:Tryz.prog.keyType 217=true:=by kernel_rfl
 have hc:Tryz.prog.cellsOf 217=2:=by kernel_rfl
 have he:Tryz.prog.cellsOf 107=1:=by kernel_rfl
 obtain⟨m,hm⟩:∃m,Tryz.prog.types.size+1=m+1+1:=⟨Tryz.prog.types.size-1,by
  have:0<Tryz.prog.types.size:=by decide +kernel
  omega⟩
 have hl:∀n:Nat,n<4611686018427387904→Tryz.prog.keyLits (m+1) 107 [.int .i64 (n:Nat)]=some [.int .i64 (n:Nat)]:=fun n hn=>by
  unfold Program.keyLits;rw[Tryz.edgeU];simp[sD hn]
 have hL:Tryz.prog.keyLits (m+1+1) 217 [.int .i64 (x.1:Nat),.int .i64 (x.2:Nat)]=some [.int .i64 (x.1:Nat),.int .i64 (x.2:Nat)]:=by
  unfold Program.keyLits;rw[Tryz.pairU];simp only[hc,he];have h1:=hl x.1 h.1;have h2:=hl x.2 h.2;simp[List.range_succ,List.mapM_cons,h1,h2]
 have hf:(gQ x).formed Tryz.prog 217=true:=by
  simp only[Value.formed,gQ];rw[Tryz.pairU];simp only[hc]
  rfl
 unfold keyOf;rw[Tryz.pairU];simp only[hk,hf,Bool.and_self,if_true,hm];rw[show(gQ x).cells.toList=[.int .i64 (x.1:Nat),.int .i64 (x.2:Nat)]from rfl,hL]
 rfl
theorem vM{e:TypeId}(hu:Tryz.prog.underlying e=some (.int .i64))(v:Value)(z:DataW Unit×List MemPlace)(h:plainElem (H:=Unit) Tryz.prog e v=some z):∃y:Int,(Lit.int .i64 y).wf=true∧v=.int .i64 y∧z=(.lit (.int .i64 y),[]):=by
 obtain⟨a,h1,h2,h3⟩:=plainElem_int_inv hu h;exact⟨a,h3,h1,h2⟩
theorem yC{e:TypeId}(hu:Tryz.prog.underlying e=some .bool)(v:Value)(z:DataW Unit×List MemPlace)(h:plainElem (H:=Unit) Tryz.prog e v=some z):∃y:Bool,True∧v=.bool y∧z=(.lit (.bool y),[]):=by
 unfold plainElem at h;rw[hu]at h;cases v<;>simp at h;exact⟨_,trivial,rfl,h.symm⟩
/-- map[[2]edge.Edge]int -/
def jh:MT Tryz.prog (Nat×Nat) Int:=⟨225,217,3,Tryz.keyPair,by kernel_rfl,gQ,jZ,Hu,yB,.int .i64,.int .i64,fun y=>(Lit.int .i64 y).wf=true,fun y hy=>plainElem_int Tryz.intU hy,vM Tryz.intU,fun x y h=>by injection h,0,by decide,fun w=>by kernel_rfl⟩
/-- map[[2]edge.Edge]bool -/
def Cx:MT Tryz.prog (Nat×Nat) Bool:=⟨244,217,4,Tryz.keyPair,by kernel_rfl,gQ,jZ,Hu,yB,.bool,.bool,fun _=>True,fun y _=>plainElem_bool Tryz.boolU y,yC Tryz.boolU,fun x y h=>by injection h,false,trivial,fun w=>by kernel_rfl⟩
def Cy(x:Nat):Value:=.int .i64 (x:Nat)
theorem EI(x:Nat)(h:x<4611686018427387904):(keyOf Tryz.prog 3 (Cy x)).isSome=true:=by
 unfold Cy;rw[keyOf_int_mk Tryz.intU (sD h)];rfl
theorem vN(x y:Nat)(h:Cy x=Cy y):x=y:=by
 unfold Cy at h
 injection h with _ h
 omega
/-- map[int]edge.Edge -/
def MU:MT Tryz.prog Nat Int:=⟨115,3,107,int_keyed Tryz.intU,by kernel_rfl,Cy,(·<4611686018427387904),EI,vN,.int .i64,.int .i64,fun y=>(Lit.int .i64 y).wf=true,fun y hy=>plainElem_int Tryz.edgeU hy,vM Tryz.edgeU,fun x y h=>by injection h,0,by decide,fun w=>by kernel_rfl⟩
/-- map[int]int -/
def jJ:MT Tryz.prog Nat Int:=⟨87,3,3,int_keyed Tryz.intU,by kernel_rfl,Cy,(·<4611686018427387904),EI,vN,.int .i64,.int .i64,fun y=>(Lit.int .i64 y).wf=true,fun y hy=>plainElem_int Tryz.intU hy,vM Tryz.intU,fun x y h=>by injection h,0,by decide,fun w=>by kernel_rfl⟩
/-- map[int]bool -/
def qK:MT Tryz.prog Nat Bool:=⟨155,3,4,int_keyed Tryz.intU,by kernel_rfl,Cy,(·<4611686018427387904),EI,vN,.bool,.bool,fun _=>True,fun y _=>plainElem_bool Tryz.boolU y,yC Tryz.boolU,fun x y h=>by injection h,false,trivial,fun w=>by kernel_rfl⟩
end Go.Proofs.YtpijlhlpejlhhaaGreat
