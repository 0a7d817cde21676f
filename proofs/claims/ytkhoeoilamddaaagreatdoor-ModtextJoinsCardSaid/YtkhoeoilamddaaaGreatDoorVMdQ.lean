/- Walks and plain words: MdQ OpnA ManA. -/
import Derived.Test.YtkhoeoilamddaaaGreatDoorVMdP
import Derived.Test.YtkhoeoilamddaaaGreatDoorCards
import Derived.Test.YtkhoeoilamddaaaGreatDoorTie
import Derived.ProofKit
import Derived.Lay
import Derived.Lib.LaidU8
import Derived.Lib.LaidTab
import Derived.SevenTiedAt
import Derived.LaidOnce
namespace Go.Proofs.YtkhoeoilamddaaaGreatDoor
set_option linter.unusedVariables false
abbrev BE:=Bs×Int
def addL (st x:BE):BE:=if st.2≠0 then st else if x.2≠0 then (st.1,x.2) else (st.1++x.1,0)
def secF {α:Type} (f:α→BE) (l:List α) (st:BE):BE:=l.foldl (fun s x=>addL s (f x)) st
def secM {α:Type} (f:α→BE) (l:List α) (st:BE):BE:=secF f l (if st.2=0∧64<l.length then (st.1,18) else st)
def farI (n:Int):Bool:=decide (n < -255) || decide (255<n)
def eol:Bs:=[32,59,10]
def varL (v:Vr):BE:=
 if isName v.name.data.toList=false then ([],12)
 else if v.bool then (if v.lo≠0∨v.hi≠0 then ([],3) else (wVar++[32]++v.name.data.toList++[32,58,32]++wBool++eol,0))
 else if farI v.lo || farI v.hi then ([],2)
 else (wVar++[32]++v.name.data.toList++[32,58,32]++numS v.lo++[32,46,46,32]++numS v.hi++eol,0)
def defL (w:Bs) (d:Df):BE:=
 if isName d.name.data.toList=false then ([],12)
 else if (showTm d.tm).2≠0 then ([],(showTm d.tm).2)
 else (w++[32]++d.name.data.toList++[32,58,61,32]++(showTm d.tm).1++eol,0)
def tmL (w:Bs) (t:Tm):BE:=if (showTm t).2≠0 then ([],(showTm t).2) else (w++[32]++(showTm t).1++eol,0)
def spL (d:Sp):BE:=
 if isName d.name.data.toList=false then ([],12)
 else if (showFm d.fm).2≠0 then ([],(showFm d.fm).2)
 else (wSpec++[32]++d.name.data.toList++[32,58,32]++(showFm d.fm).1++eol,0)
def rawM (m:Md):BE:=secM spL m.specs (secM (tmL wFair) m.fair (secM (tmL wTrans) m.trans (secM (defL wNext) m.next (secM (tmL wInvar) m.invar (secM (tmL wInit) m.init (secM (defL wDef) m.defs (secM varL m.vars ([],0))))))))
def showM (m:Md):BE:=if (rawM m).2≠0 then ([],(rawM m).2) else if 65536<(rawM m).1.length then ([],4) else ((rawM m).1,0)
theorem addL_ok {st x:BE} (h:(addL st x).2=0):st.2=0∧x.2=0∧(addL st x).1=st.1++x.1:=by
 unfold addL at h ⊢
 by_cases h1:st.2≠0
 · rw [iP h1] at h;exact absurd h h1
 · rw [iN h1] at h ⊢
   by_cases h2:x.2≠0
   · rw [iP h2] at h;exact absurd h h2
   · rw [iN h2];exact ⟨by omega,by omega,rfl⟩
theorem secF_ok {α:Type} {f:α→BE}:∀ {l:List α} {st:BE},(secF f l st).2=0→st.2=0∧(∀ x∈l,(f x).2=0)∧(secF f l st).1=st.1++l.flatMap fun x=>(f x).1
 | [],st,h=>⟨h,fun x hx=>by simp at hx,by simp [secF]⟩
 | x :: r,st,h=>by
  have e:secF f (x :: r) st=secF f r (addL st (f x)):=rfl;rw [e] at h ⊢;obtain ⟨h1,h2,h3⟩:=secF_ok h;obtain ⟨h4,h5,h6⟩:=addL_ok h1;refine ⟨h4,fun y hy=>?_,?_⟩
  · rcases List.mem_cons.1 hy with rfl | hy
    · exact h5
    · exact h2 y hy
  · rw [h3,h6];simp
theorem secM_ok {α:Type} {f:α→BE} {l:List α} {st:BE} (h:(secM f l st).2=0):st.2=0∧l.length≤64∧(∀ x∈l,(f x).2=0)∧(secM f l st).1=st.1++l.flatMap fun x=>(f x).1:=by
 unfold secM at h ⊢
 by_cases hc:st.2=0∧64<l.length
 · rw [iP hc] at h;exact absurd (secF_ok h).1 (by simp)
 · rw [iN hc] at h ⊢;obtain ⟨h1,h2,h3⟩:=secF_ok h;exact ⟨h1,by omega,h2,h3⟩
theorem secF_of {α:Type} {f:α→BE}:∀ {l:List α} {st:BE},st.2=0→(∀ x∈l,(f x).2=0)→secF f l st=(st.1++l.flatMap fun x=>(f x).1,0)
 | [],st,h,_=>by
  obtain ⟨a,b⟩:=st;simp only at h;subst h;simp [secF]
 | x :: r,st,h,hx=>by
  have e:secF f (x :: r) st=secF f r (addL st (f x)):=rfl
  have ha:addL st (f x)=(st.1++(f x).1,0):=by
   unfold addL;rw [iN (by omega),iN (by have:=hx x (by simp);omega)]
  rw [e,ha,secF_of rfl (fun y hy=>hx y (by simp [hy]))];simp
theorem secM_of {α:Type} {f:α→BE} {l:List α} {st:BE} (h:st.2=0) (hl:l.length≤64) (hx:∀ x∈l,(f x).2=0):secM f l st=(st.1++l.flatMap fun x=>(f x).1,0):=by
 unfold secM;rw [iN (by omega)];exact secF_of h hx
def txtM (m:Md):Bs:=(m.vars.flatMap fun x=>(varL x).1)++(m.defs.flatMap fun x=>(defL wDef x).1)++(m.init.flatMap fun x=>(tmL wInit x).1)++(m.invar.flatMap fun x=>(tmL wInvar x).1)++(m.next.flatMap fun x=>(defL wNext x).1)++(m.trans.flatMap fun x=>(tmL wTrans x).1)++(m.fair.flatMap fun x=>(tmL wFair x).1)++(m.specs.flatMap fun x=>(spL x).1)
structure MdOk (m:Md):Prop where
 vars:m.vars.length≤64∧∀ x∈m.vars,(varL x).2=0
 defs:m.defs.length≤64∧∀ x∈m.defs,(defL wDef x).2=0
 init:m.init.length≤64∧∀ x∈m.init,(tmL wInit x).2=0
 invar:m.invar.length≤64∧∀ x∈m.invar,(tmL wInvar x).2=0
 next:m.next.length≤64∧∀ x∈m.next,(defL wNext x).2=0
 trans:m.trans.length≤64∧∀ x∈m.trans,(tmL wTrans x).2=0
 fair:m.fair.length≤64∧∀ x∈m.fair,(tmL wFair x).2=0
 specs:m.specs.length≤64∧∀ x∈m.specs,(spL x).2=0
theorem rawM_ok {m:Md} (h:(rawM m).2=0):MdOk m∧(rawM m).1=txtM m:=by
 unfold rawM at h ⊢;obtain ⟨h8,l8,e8,t8⟩:=secM_ok h;obtain ⟨h7,l7,e7,t7⟩:=secM_ok h8;obtain ⟨h6,l6,e6,t6⟩:=secM_ok h7;obtain ⟨h5,l5,e5,t5⟩:=secM_ok h6;obtain ⟨h4,l4,e4,t4⟩:=secM_ok h5;obtain ⟨h3,l3,e3,t3⟩:=secM_ok h4;obtain ⟨h2,l2,e2,t2⟩:=secM_ok h3;obtain ⟨h1,l1,e1,t1⟩:=secM_ok h2;refine ⟨⟨⟨l1,e1⟩,⟨l2,e2⟩,⟨l3,e3⟩,⟨l4,e4⟩,⟨l5,e5⟩,⟨l6,e6⟩,⟨l7,e7⟩,⟨l8,e8⟩⟩,?_⟩;rw [t8,t7,t6,t5,t4,t3,t2,t1]
 rfl
theorem rawM_of {m:Md} (h:MdOk m):rawM m=(txtM m,0):=by
 unfold rawM;rw [secM_of rfl h.vars.1 h.vars.2,secM_of rfl h.defs.1 h.defs.2,secM_of rfl h.init.1 h.init.2,secM_of rfl h.invar.1 h.invar.2,secM_of rfl h.next.1 h.next.2,secM_of rfl h.trans.1 h.trans.2,secM_of rfl h.fair.1 h.fair.2,secM_of rfl h.specs.1 h.specs.2]
 rfl
theorem showM_ok {m:Md} (h:(showM m).2=0):MdOk m∧(showM m).1=txtM m∧(txtM m).length≤65536:=by
 unfold showM at h ⊢
 by_cases h1:(rawM m).2≠0
 · rw [iP h1] at h;exact absurd h h1
 rw [iN h1] at h ⊢
 by_cases h2:65536<(rawM m).1.length
 · rw [iP h2] at h;exact absurd h (by simp)
 rw [iN h2];obtain ⟨h3,h4⟩:=rawM_ok (m:=m) (by omega);rw [h4] at h2 ⊢;exact ⟨h3,rfl,by omega⟩
theorem showM_of {m:Md} (h:MdOk m) (hl:(txtM m).length≤65536):showM m=(txtM m,0):=by
 unfold showM;rw [rawM_of h,iN (by simp),iN (by show ¬65536<(txtM m).length;omega)]
open Go.ChangeShapes Go.WideShapes Go.ChangeAt Go.RowKit
set_option maxRecDepth 100000
theorem list_of_each {α:Type} {Q:Nat→α→Prop}:∀ (n:Nat),(∀ i,i<n→∃ a,Q i a)→∃ l:List α,l.length=n∧∀ j a,l[j]?=some a→Q j a
 | 0,_=>⟨[],rfl,fun j a h=>by simp at h⟩
 | n+1,h=>by
  obtain ⟨l,hl,hq⟩:=list_of_each n (fun i hi=>h i (by omega));obtain ⟨a,ha⟩:=h n (by omega);refine ⟨l++[a],by simp [hl],fun j b hj=>?_⟩
  rcases Nat.lt_or_ge j l.length with hlt | hge
  · rw [List.getElem?_append_left hlt] at hj;exact hq j b hj
  · rw [List.getElem?_append_right hge] at hj
    have hj0:j - l.length=0:=by
     rcases Nat.eq_zero_or_pos (j - l.length) with h0 | h0
     · exact h0
     · rw [List.getElem?_eq_none (by simp;omega)] at hj;cases hj
    rw [hj0] at hj;simp at hj;subst hj;rw [show j=n from by omega];exact ha
section
variable {H:Type} {enc:TypeId×Value→H} {P:Program} {w:World} {base:Nat} {spare:Nat→Bool} {held:Bool}
theorem slice_rows {α:Type} {t e:TypeId} {k fuel:Nat} {cs:List Value} {x:DataW H×List MemPlace} (ht:P.underlying t=some (.slice e)) (hc:P.cellsOf e=k) (hk:0<k) (R:Nat→Nat→α→Prop)
 (hR:∀ n,fuel=n+1→∀ b o cs' y,b<w.heap.size→cs'.length=k→(∀ i,i<k→w.cell? ⟨b,o+i,none⟩=cs'[i]?)→DataW.trod enc P w base spare held n e cs'=some y→∃ a,R b o a)
 (h:DataW.trod enc P w base spare held fuel t cs=some x) :
 ∃ A c,∃ l:List α,cs=[.slice A l.length c]∧l.length≤c∧c≤maxLen∧(l=[]∨∃ b o,A=some ⟨b,o,none⟩∧b<w.heap.size∧∀ j a,l[j]?=some a→R b (o+k*j) a):=by
 rcases DataW.trod_slice ht h with ⟨rfl,-⟩ | ⟨a,len,cap,elems,rest,n,hf,rfl,hx,hb,hl,hm,hel,hes,-,-⟩
 · exact ⟨none,0,[],rfl,lr _,zl _,.inl rfl⟩
 · by_cases h0:len=0
   · subst h0;exact ⟨some a,cap,[],rfl,zl _,hm,.inl rfl⟩
   · rw [hc] at hes
     have hone:∀ i,i<len→∃ cs' y,w.cells? base (a.add (i*k)) k=some cs'∧DataW.trod enc P w base spare held n e cs'=some y:=fun i hi=>by
      have h1:=hes i hi;rw [gG (by omega)] at h1;obtain ⟨cs',h2,h3⟩:=Option.bind_eq_some_iff.1 h1;exact ⟨cs',_,h2,h3⟩
     obtain ⟨b,o,spot⟩:=a;obtain ⟨cs0,y0,h2,-⟩:=hone 0 (by omega);obtain ⟨-,g1,g2⟩:=World.cells?_some h2;have g3:=g2 0 hk;rw [gG (by omega)] at g3;have hspot:spot=none:=by simpa [Addr.add] using World.cell?_spot g3
     subst hspot
     have hlt:b<w.heap.size:=by
      have:=World.cells?_block h2 hk
      simpa [Addr.add] using this
     obtain ⟨l,hl1,hl2⟩:=list_of_each (Q:=fun i (a:α)=>R b (o+k*i) a) len (fun i hi=>by
      obtain ⟨cs',y,h4,h5⟩:=hone i hi;obtain ⟨-,e1,e2⟩:=World.cells?_some h4;refine hR n hf b (o+k*i) cs' y hlt e1 (fun i' hi'=>?_) h5;have:=e2 i' hi';rw [addr_add,addr_add] at this;rw [Nat.mul_comm k i]
      exact this)
     exact ⟨_,cap,l,by rw [hl1],by omega,hm,.inr ⟨b,o,rfl,hlt,hl2⟩⟩
end
theorem TmRow.mk:∀ {w:World} {l:List Tm} {g o:Nat},(∀ j t,l[j]?=some t→TmAt w g (o+4*j) t)→TmRow w g o l
 | w,[],g,o,h=>by rw [TmRow];trivial
 | w,t :: r,g,o,h=>by
  rw [TmRow];exact ⟨h 0 t rfl,TmRow.mk fun j x hj=>by rw [show o+4+4*j=o+4*(j+1) from by omega];exact h (j+1) x (by simpa using hj)⟩
section
variable {H:Type} {enc:TypeId×Value→H} {w:World} {base:Nat} {spare:Nat→Bool} {held:Bool}
theorem opn_term:∀ (fuel:Nat) (cs:List Value) (x:DataW H×List MemPlace),DataW.trod enc Tryz.prog w base spare held fuel 64 cs=some x→∃ (t:Tm) (A:Option Addr) (c:Nat),cs=[.int .i64 t.op,.int .i64 t.num,.string t.name,.slice A t.kids.length c]∧TmV w A c t:=by
 intro fuel
 induction fuel using Nat.strongRecOn with
 | _ fuel ih=>
  intro cs x h;obtain ⟨xs,n,hfu,-,hl,hxl,hf⟩:=DataW.trod_struct Tryz.underlying64 h;rw [show Tryz.prog.cellsOf 64=4 from by kernel_rfl] at hl
  obtain ⟨c0,c1,c2,c3,rfl⟩:∃ c0 c1 c2 c3,cs=[c0,c1,c2,c3]:=by
   match cs,hl with
   | [c0,c1,c2,c3],_=>exact ⟨c0,c1,c2,c3,rfl⟩
  obtain ⟨y0,y1,y2,y3,rfl⟩:∃ y0 y1 y2 y3,xs=[y0,y1,y2,y3]:=by
   match xs,hxl with
   | [c0,c1,c2,c3],_=>exact ⟨c0,c1,c2,c3,rfl⟩
  have f0:=hf 0 _ rfl;have f1:=hf 1 _ rfl;have f2:=hf 2 _ rfl;have f3:=hf 3 _ rfl;simp [show Tryz.prog.cellsOf 3=1 from by kernel_rfl,show Tryz.prog.cellsOf 9=1 from by kernel_rfl,show Tryz.prog.cellsOf 25=1 from by kernel_rfl] at f0 f1 f2 f3;obtain ⟨n0,e0,-,-⟩:=DataW.trod_int Tryz.underlying3 f0;obtain ⟨n1,e1,-,-⟩:=DataW.trod_int Tryz.underlying3 f1;obtain ⟨s,e2,-,hs⟩:=DataW.trod_string Tryz.underlying9 f2
  obtain ⟨A,c,l,e3,h1,h2,h3⟩:=slice_rows Tryz.underlying25 (show Tryz.prog.cellsOf 64=4 from by kernel_rfl) (by decide) (fun b o (t:Tm)=>TmAt w b o t) (fun m hm b o cs' y hb hcl hcells htr=>by
   obtain ⟨t,A',c',rfl,hV⟩:=ih m (by omega) cs' y htr;refine ⟨t,?_⟩;have g0:=hcells 0 (by omega);have g1:=hcells 1 (by omega);have g2:=hcells 2 (by omega);have g3:=hcells 3 (by omega)
   exact TmAt.mk g0 g1 g2 g3 hV) f3
  injection e0 with e0
  injection e1 with e1
  injection e2 with e2
  injection e3 with e3
  subst e0 e1 e2 e3;refine ⟨.mk n0 n1 s l,A,c,rfl,h1,h2,hs,?_⟩
  rcases h3 with h3 | ⟨b,o,rfl,hb,h3⟩
  · exact .inl h3
  · exact .inr ⟨b,o,rfl,hb,TmRow.mk h3⟩
end
theorem own:ownKnob Tryz.prog.godebug=none:=by kernel_rfl
theorem laidOut:laidOutB Tryz.prog=true:=by kernel_rfl
theorem strs_of_array {H:Type} {enc:TypeId×Value→H} {w:World} {base:Nat} {sp:Nat→Bool} {held:Bool} {fuel:Nat} {t e:TypeId} {n:Nat} {cs:List Value} {l:List ByteArray} {p:List MemPlace}
 (ht:Tryz.prog.underlying t=some (.array n e)) (he:Tryz.prog.underlying e=some .string) (hce:Tryz.prog.cellsOf e=1)
 (h:DataW.trod enc Tryz.prog w base sp held fuel t cs=some (.agg (l.map fun s=>.lit (.string s.data.toList)),p)):∀ j,j<l.length→cs[j]?=some (.string (l.getD j ByteArray.empty)):=by
 obtain ⟨xs,m,rfl,hx,hl,hxl,hall⟩:=DataW.trod_array ht h
 have hxs:xs.map (·.1)=l.map fun s=>(DataW.lit (.string s.data.toList):DataW H):=by
  have:=congrArg Prod.fst hx
  simpa using this.symm
 have hzl:l.length=n:=by
  have:=congrArg List.length hxs;simp at this;omega
 intro j hj;have h1:=hall j (by omega);obtain ⟨b,hb⟩:∃ b,xs[j]?=some b:=⟨xs[j]'(by omega),gG (by omega)⟩;rw [hb,hce] at h1;obtain ⟨s,hcs,rfl,_⟩:=DataW.trod_string he h1
 have h2:cs[j]?=some (.string s):=by
  have:=congrArg (·[0]?) hcs
  simpa [List.getElem?_take,List.getElem?_drop] using this
 have h3:(xs.map (·.1))[j]?=some (DataW.lit (.string s.data.toList):DataW H):=by simp [hb]
 rw [hxs] at h3;simp only [List.getElem?_map,Option.map_eq_some_iff,DataW.lit.injEq,Lit.string.injEq] at h3;obtain ⟨z,hz,hzs⟩:=h3;have:z=s:=bs_ext hzs;subst this;rw [h2];simp [List.getD,hz]
theorem tables_of_reads {W : World} (h1 : Lib.VarReads Tryz.prog W "voussoir/lexi.words" Rows.laid_voussoir_lexi_words) (h2 : Lib.VarReads Tryz.prog W "voussoir/lexi.signs" Rows.laid_voussoir_lexi_signs) : Tables W := by
 obtain ⟨g, t, cs, fuel, p, hg, ht, hv, hd⟩ := h1;obtain rfl := Option.some.inj ((show Tryz.prog.globalNamed "voussoir/lexi.words" = some 0 by kernel_rfl).symm.trans hg);obtain rfl := Option.some.inj ((show (Tryz.prog.globals[0]?).map (·.type) = some 134 by kernel_rfl).symm.trans ht);have c1 := strs_of_array (l := wordL) Tryz.underlying134 Tryz.underlying9 (by kernel_rfl) hd
 have d1:∀ j,j<24→W.cell? ⟨0,j,none⟩=some (.string (wordL.getD j ByteArray.empty)):=fun j hj=>by
  have h3:=World.var?_cell hg hv j;rw [h3,←Array.getElem?_toList];exact c1 j hj
 obtain ⟨g, t, cs, fuel, p, hg, ht, hv, hd⟩ := h2;obtain rfl := Option.some.inj ((show Tryz.prog.globalNamed "voussoir/lexi.signs" = some 1 by kernel_rfl).symm.trans hg);obtain rfl := Option.some.inj ((show (Tryz.prog.globals[1]?).map (·.type) = some 138 by kernel_rfl).symm.trans ht);have c2 := strs_of_array (l := signL) Tryz.underlying138 Tryz.underlying9 (by kernel_rfl) hd
 have d2:∀ j,j<21→W.cell? ⟨1,j,none⟩=some (.string (signL.getD j ByteArray.empty)):=fun j hj=>by
  have h3:=World.var?_cell hg hv j;rw [h3,←Array.getElem?_toList];exact c2 j hj
 exact ⟨World.block_lt_of_cell? W _ (d2 0 (by omega)),d1,d2⟩
section
variable {H:Type} {enc:TypeId×Value→H} {W:World} {base:Nat} {v:Value} {d:DataW H} {p:List MemPlace}
theorem arg_term (hv:Value.okWide Tryz.prog W .any base 64 v) (h:DataW.Trod enc Tryz.prog W 0 (fun _=>true) true 64 v d p):∃ (t:Tm) (A:Option Addr) (c:Nat),v=t.val A c∧TmV W A c t:=by
 obtain ⟨cs,rfl,-⟩:=okWide_struct Tryz.underlying64 hv;obtain ⟨fuel,hf⟩:=h;obtain ⟨t,A,c,e,hV⟩:=opn_term _ _ _ hf;have e':cs.toList=[.int .i64 t.op,.int .i64 t.num,.string t.name,.slice A t.kids.length c]:=e;refine ⟨t,A,c,?_,hV⟩
 have:cs=#[.int .i64 t.op,.int .i64 t.num,.string t.name,.slice A t.kids.length c]:=by
  rw [←Array.toList_inj,e']
 rw [this]
 rfl
end
open Go.RowKit
set_option maxHeartbeats 4000000
def MnQ (m:Int) (s:Nat) (r:Int):Prop:=1≤r∧(0≤m→r≤m+1)∧(m<0→r=1)∧(r≤m→r=(s:Int))
theorem Tm.sizeL_take {l:List Tm} {k:Nat} {t:Tm} (h:l[k]?=some t):Tm.sizeL (l.take (k+1))=Tm.sizeL (l.take k)+t.size:=by
 obtain ⟨hj,hj2⟩:=gE.1 h;rw [List.take_succ_eq_append_getElem hj,hj2]
 generalize l.take k=a
 induction a with
 | nil=>simp [Tm.sizeL]
 | cons x r ih=>rw [List.cons_append,Tm.sizeL,Tm.sizeL,ih];omega
theorem rmany_any:∀ (N:Nat) (t:Tm) (m:Int) (A:Option Addr) (c:Nat) (w:World),t.size≤N→TmV w A c t→-1000000≤m→m≤1000000 →
 Calls Tryz.prog 21 #[t.val A c,.int .i64 m] w fun e w'=>(∃ r:Int,e=.returned (.int .i64 r)∧MnQ m t.size r)∧Below w.heap.size w w':=by
 intro N
 induction N with
 | zero=>
  intro t m A c w hN;cases t;rw [Tm.size] at hN;omega
 | succ N ih=>
  intro t m A c w hN hV hm1 hm2;obtain ⟨n,hn⟩:=ex_ t.kids.length;obtain ⟨F,hF⟩:∃ F:Ending→World→Prop,F=fun e w'=>(∃ r:Int,e=.returned (.int .i64 r)∧MnQ m t.size r)∧Below w.heap.size w w':=⟨_,rfl⟩;rw [←hF];have hsz:t.size=1+Tm.sizeL t.kids:=by cases t;rw [Tm.size];rfl
  have hcap:=hV.cap;have hcapm:=hV.capm;unfold maxLen at hcapm;rw [←hn] at hcap;have hk:=hV.kids;obtain ⟨w1,hw1⟩:=ex_ (w.alloc (.cells #[.int .i64 t.op,.int .i64 t.num,.string t.name,.slice A n c] 64));have hb1:=bAl hw1;have hs1:w1.heap.size=w.heap.size+1:=by rw [hw1];simp
  have hbx:w1.heap[w.heap.size]?=some (.cells #[.int .i64 t.op,.int .i64 t.num,.string t.name,.slice A n c] 64 (0,0)):=by rw [hw1];exact hA_ w _
  show Calls Tryz.prog 21 #[.agg #[.int .i64 t.op,.int .i64 t.num,.string t.name,.slice A t.kids.length c],.int .i64 m] w F;rw [←hn];have HF:=Hd hF;have HIH:=Hd ih;have HN:=Hd hn;have HSZ:=Hd hsz;have HK:=Hd hk;have HB1:=Hd hb1;have HS1:=Hd hs1;have HBX:=Hd hbx;have HW1:=Hd hw1;have HNN:=Hd hN;clear hF ih hn hsz hk hb1 hs1 hbx hw1 hV hN;go_enter Tryz.func21,Tryz.ntmps21;go_wp2_with fail;rw [←HW1.out]
  go_loopw [5,6] (fun sm si wr=>∃ (k:Nat) (x:Int),k≤n∧sm=.int .i64 x∧si=.int .i64 k∧MnQ m (1+Tm.sizeL (t.kids.take k)) x∧Below w1.heap.size w1 wr) (fun _ i _=>n - (intOf i).toNat)
  case atStart=>exact ⟨0,1,zl _,rfl,rfl,⟨Int.le_refl _,fun h=>by omega,fun _=>rfl,fun _=>by simp [Tm.sizeL]⟩,Br _ _⟩
  case round=>
   obtain ⟨k,x,hk,rfl,rfl,hq,hbel⟩:=hrel;have HQ:=Hd hq;have HB:=Hd hbel;have hszr:=hbel.size;have hbw:w.heap.size<wr.heap.size:=by have:=HS1.out;omega
   have kc3:wr.cell? ⟨w.heap.size,3,none⟩=some (.slice A n c):=by rw [cR wr w.heap.size 3 _ _ (0,0) ((hbel.block _ (by have:=HS1.out;omega)).trans HBX.out)];rfl
   have hbt:Below w.heap.size w wr:=HB1.out.trans (hbel.mono (by have:=HS1.out;omega))
   by_cases hgo:k<n∧x≤m
   · obtain ⟨hlt,hx0⟩:=hgo;obtain ⟨q,hq'⟩:∃ q,t.kids[k]?=some q:=⟨_,gG (by have:=HN.out;omega)⟩
     rcases HK.out with h9 | ⟨g,o,rfl,hg,hrow⟩
     · rw [h9] at hq';simp at hq'
     have hat:=(hrow.get hq').below hbt rfl hg;obtain ⟨q0,q1,q2,A',c',q3,hVq⟩:=hat.open;have e1:o+4*k=o+k*4:=by omega
     rw [e1] at q0 q1 q2 q3;have hgr:g<wr.heap.size:=by have:=hbt.size;omega
     have HTK:=Hd (Tm.sizeL_take hq')
     have hqs:q.size≤N:=by
      have h1:=Tm.sizeL_mem (mG hq');have:=HNN.out;have:=HSZ.out;omega
     have hx1:1≤x:=HQ.out.1;have hcall:=HIH.out q (m - x) A' c' wr hqs hVq (by omega) (by omega);have hqz:q.size=1+Tm.sizeL q.kids:=by cases q;rw [Tm.size];rfl
     have HQZ:=Hd hqz;obtain ⟨nq,hnq⟩:=ex_ q.kids.length;have hcall':Calls Tryz.prog 21 #[.agg #[.int .i64 q.op,.int .i64 q.num,.string q.name,.slice A' nq c'],.int .i64 (m - x)] wr fun e w'=>(∃ r:Int,e=.returned (.int .i64 r)∧MnQ (m - x) q.size r)∧Below wr.heap.size wr w':=by rw [hnq];exact hcall
     rw [←hnq] at q3;have HC:=Hd hcall';have hk0:(0:Int)≤(k:Int):=by omega
     have hk1:(k:Int)<(n:Int):=by omega
     clear hcall hcall' hnq hqz hqs hVq hat hrow hq' e1 hbel hq hbt;go_wp2_with fail;refine (HC.out).mono ?_;rintro e w2 ⟨⟨r,rfl,hr⟩,hb2⟩
     have HR:Hid (MnQ m (1+Tm.sizeL (t.kids.take (k+1))) (x+r)):=by
      obtain ⟨a1,a2,a3,a4⟩:=HQ.out;obtain ⟨b1,b2,b3,b4⟩:=hr;have:=HTK.out;have h0:0≤m - x:=by omega
      have h2:=b2 h0;refine ⟨by omega,fun h=>by omega,fun h=>by omega,fun h=>?_⟩;have:=a4 hx0;have:=b4 (by omega);omega
     have hr1:1≤r∧r≤1000002:=by
      obtain ⟨b1,b2,b3,b4⟩:=hr;have:=b2 (by omega);omega
     obtain ⟨hr0,hr2⟩:=hr1;have HB3:=Hd (HB.out.trans (hb2.mono hszr));clear hb2 hr q0 q1 q2 q3 kc3;go_wp2_with fail
     go_roundw
     case rel=>exact ⟨k+1,x+r,by omega,by go_num,by go_num,HR.out,HB3.out⟩
     case measure=>simp [intOf];omega
   · have HE:Hid (MnQ m t.size x):=by
      obtain ⟨a1,a2,a3,a4⟩:=HQ.out;refine ⟨a1,a2,a3,fun h=>?_⟩
      have hkn:k=n:=by
       by_cases h2:k<n
       · exact absurd ⟨h2,h⟩ hgo
       · omega
      have:=a4 h;rw [hkn,List.take_of_length_le (by rw [←HN.out];exact lr _)] at this;have:=HSZ.out;omega
     have HBE:=Hd hbt
     by_cases hlt:k<n
     · have hk1:(k:Int)<(n:Int):=by omega
       have hx0:¬x≤m:=fun h=>hgo ⟨hlt,h⟩;clear hgo hlt hq hbel hbt;go_wp2_with fail;rw [HF.out];exact ⟨⟨x,rfl,HE.out⟩,HBE.out⟩
     · have hk1:¬(k:Int)<(n:Int):=by omega
       clear hgo hlt hq hbel hbt;go_wp2_with fail;rw [HF.out];exact ⟨⟨x,rfl,HE.out⟩,HBE.out⟩
end Go.Proofs.YtkhoeoilamddaaaGreatDoor
