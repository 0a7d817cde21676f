/- Walks and plain words: MsB MwG OpnA. -/
import Derived.Test.YtkhoeoilamddaaaGreatDoorYMwF
import Derived.Laws.StructEq
import Derived.Test.YtkhoeoilamddaaaGreatDoorCards
import Derived.Test.YtkhoeoilamddaaaGreatDoorTie
import Derived.ProofKit
import Derived.Lay
import Derived.Lib.LaidU8
import Derived.Lib.LaidTab
import Derived.SevenTiedAt
import Derived.LaidOnce
namespace Go.Proofs.YtkhoeoilamddaaaGreatDoor
open Go.RowKit
set_option linter.unusedVariables false
set_option maxRecDepth 100000
set_option maxHeartbeats 16000000
theorem aa6(s:ByteArray)(b:Bool)(lo hi:Int)(W:World):(binOp .neq 45 (.agg #[.string s,.bool b,.int .i64 lo,.int .i64 hi]) (.agg #[.string s,.bool b,.int .i64 lo,.int .i64 hi])).run Tryz.prog W=.ok (.bool false) W:=by
 have h:∀d:Nat,(Op.equalIn (d+2) 45 (.agg #[.string s,.bool b,.int .i64 lo,.int .i64 hi]) (.agg #[.string s,.bool b,.int .i64 lo,.int .i64 hi])).run Tryz.prog W=.ok true W:=fun d=>by
  rw[run_equalIn_struct W (d+1) 45 _ _ (by kernel_rfl) (by kernel_rfl)];go_simp
 simp only[binOp];simp[Op.equal,Op.maxDepth,h 9998]
abbrev ajH:=@q8
def IG:Md:=⟨[⟨⟨#[110]⟩,false,-1,2⟩],[],[],[],[⟨⟨#[110]⟩,j6 0⟩],[],[],[⟨⟨#[115]⟩,fT 7 [.mk 1 (dD 10 [iH 3 [110],j6 1]) []]⟩]⟩
theorem YW:parseM (bs ⟨#[118,97,114,32,110,32,58,32,45,49,32,46,46,32,50,59,32,110,101,120,116,32,110,32,58,61,32,48,59,32,115,112,101,99,32,115,32,58,32,69,70,32,91,110,32,61,32,49,93,59]⟩)=(IG,50,0):=by kernel_rfl
theorem aer:parseM (bs ⟨#[105,110,105,116,32,116,114,117,101]⟩)=(bG,9,16):=by kernel_rfl
theorem acg:kg IG=([118,97,114,32,110,32,58,32,45,49,32,46,46,32,50,32,59,10,110,101,120,116,32,110,32,58,61,32,48,32,59,10,115,112,101,99,32,115,32,58,32,69,70,32,91,110,32,61,32,49,93,32,59,10],0):=by kernel_rfl
theorem YZ:WZ IG:=⟨fun d h=>by simp[IG]at h;subst h;decide,fun d h=>by simp[IG]at h,fun d h=>by simp[IG]at h;subst h;decide,fun d h=>by simp[IG]at h;subst h;decide⟩
theorem Ux(hS:JQ IG)(w:World)(hT:Tables w):Calls Tryz.prog 7 #[] w (EA w):=by
 obtain⟨F,HF⟩:=ak (EA w);rw[←HF];have HT:=Hd hT;have HS:=Hd hS
 have uy:Hid (Calls Tryz.prog 8 #[.string ⟨#[118,97,114,32,110,32,58,32,45,49,32,46,46,32,50,59,32,110,101,120,116,32,110,32,58,61,32,48,59,32,115,112,101,99,32,115,32,58,32,69,70,32,91,110,32,61,32,49,93,59]⟩] w (MpQ w (IG,50,0))):=by
  have h:=FW ⟨#[118,97,114,32,110,32,58,32,45,49,32,46,46,32,50,59,32,110,101,120,116,32,110,32,58,61,32,48,59,32,115,112,101,99,32,115,32,58,32,69,70,32,91,110,32,61,32,49,93,59]⟩ w (by unfold maxLen;show 50≤_;omega) hT;rw[YW]at h;exact h
 clear hT hS;go_in;go_wp2_with fail;refine uy.mono ?_;rintro e w1 ⟨V,X,G,B,R,rfl,hma,hgm,hB,jU,hb⟩;have hmd:=Ho hma hgm;simp only at hmd;simp only[J5];obtain⟨A0,c0,e0,p0,q0,r0⟩:=hmd.vars;obtain⟨A1,c1,e1,p1,q1,r1⟩:=hmd.defs;obtain⟨A2,c2,e2,p2,q2,r2⟩:=hmd.init;obtain⟨A3,c3,e3,p3,q3,r3⟩:=hmd.bF;obtain⟨A4,c4,e4,p4,q4,r4⟩:=hmd.next;obtain⟨A5,c5,e5,p5,q5,r5⟩:=hmd.trans;obtain⟨A6,c6,e6,p6,q6,r6⟩:=hmd.fair;obtain⟨A7,c7,e7,p7,q7,r7⟩:=hmd.specs;rw[show IG.vars.length=1 from rfl]at e0 p0;rw[show IG.defs.length=0 from rfl]at e1 p1;rw[show IG.init.length=0 from rfl]at e2 p2;rw[show IG.bF.length=0 from rfl]at e3 p3;rw[show IG.next.length=1 from rfl]at e4 p4;rw[show IG.trans.length=0 from rfl]at e5 p5;rw[show IG.fair.length=0 from rfl]at e6 p6;rw[show IG.specs.length=1 from rfl]at e7 p7;unfold maxLen at q0 q1 q2 q3 q4 q5 q6 q7;rw[e0,e1,e2,e3,e4,e5,e6,e7];obtain⟨g,o,he,hgl,hrow⟩:=r0.resolve_left (by simp[IG]);have hv:=hrow 0 _ rfl;rw[Nat.zero_mul,Nat.add_zero]at hv;obtain⟨x0,x1,x2,x3⟩:=hv;simp only at x0 x1 x2 x3;obtain⟨b1,qY⟩:=ak w1.heap.size;obtain⟨w2,HW2⟩:=ak (w1.alloc (.cells #[.slice A0 1 c0,.slice A1 0 c1,.slice A2 0 c2,.slice A3 0 c3,.slice A4 1 c4,.slice A5 0 c5,.slice A6 0 c6,.slice A7 1 c7] 28));have hb2:=dz HW2;have X1:=jZ HW2 qY
 have hsh:=I7 V IG w2 (hmd.below hb2) HS YZ ((HT.below (hb.trans (hb2.mono hb.size))).ac7);rw[e0,e1,e2,e3,e4,e5,e6,e7,acg]at hsh;have HSH:=Hd hsh;have HB:=Hd (hb.trans (hb2.mono hb.size));have hnv:=aa6 ⟨#[110]⟩ false (-1) 2;subst he;have hgn:g≠w1.heap.size:=by omega
 clear hma hgm hmd e0 e1 r1 e2 r2 e3 r3 e4 r4 e5 r5 e6 r6 e7 r7 hrow hb2 hsh hB jU hb uy;obtain⟨v0,v1,v2,v3,v4,v5,v6,v7,-⟩:=ajH X1;have l1:=lH X1;go_wp2_with fail;rw[←HW2]
 try rw[←qY]
 (try go_wp2_with fail);refine HSH.mono ?_;rintro e w3 ⟨rfl,hb3⟩;have HB3:=kB HB hb3
 have HP2:Hid (Calls Tryz.prog 8 #[.string ⟨#[105,110,105,116,32,116,114,117,101]⟩] w3 (MpQ w3 (bG,9,16))):=by
  have h:=FW ⟨#[105,110,105,116,32,116,114,117,101]⟩ w3 (by unfold maxLen;show 9≤_;omega) (HT.below HB3);rw[aer]at h;exact h
 clear hb3 HSH v0 v1 v2 v3 v4 v5 v6 v7 l1 x0 x1 x2 x3;go_wp2_with fail;refine HP2.mono ?_;rintro e w4 ⟨V,X,G,B,R,rfl,hma,hgm,hB,jU,hb⟩;have hmd:=Ho hma hgm;simp only at hmd;simp only[J5];obtain⟨D0,d0,e0,-,-,-⟩:=hmd.vars;obtain⟨D1,d1,e1,-,-,-⟩:=hmd.defs;obtain⟨D2,d2,e2,-,-,-⟩:=hmd.init;obtain⟨D3,d3,e3,-,-,-⟩:=hmd.bF;obtain⟨D4,d4,e4,-,-,-⟩:=hmd.next;obtain⟨D5,d5,e5,-,-,-⟩:=hmd.trans;obtain⟨D6,d6,e6,-,-,-⟩:=hmd.fair;obtain⟨D7,d7,e7,-,-,-⟩:=hmd.specs;rw[e0,e1,e2,e3,e4,e5,e6,e7];have BS:=kB HB3 hb;clear e0 e1 e2 e3 e4 e5 e6 e7 hmd hma hgm hB jU hb HP2;go_wp2_with fail;rw[HF];exact⟨rfl,(kB BS (dz rfl)).out⟩
open Go.ChangeShapes Go.WideShapes Go.ChangeAt Go.RowKit
theorem Ik{α:Type}{Q:Nat→α→Prop}:∀(n:Nat),(∀i,i<n→∃a,Q i a)→∃l:List α,l.length=n∧∀j a,l[j]?=some a→Q j a
 |0,_=>⟨[],rfl,fun j a h=>by simp at h⟩
 |n+1,h=>by
  obtain⟨l,hl,hq⟩:=Ik n (fun i hi=>h i (by omega));obtain⟨a,ha⟩:=h n (by omega);refine⟨l++[a],by simp[hl],fun j b hj=>?_⟩
  rcases Nat.lt_or_ge j l.length with hlt|hge
  ·rw[List.getElem?_append_left hlt]at hj;exact hq j b hj
  ·rw[List.getElem?_append_right hge]at hj
   have hj0:j-l.length=0:=by
    rcases Nat.eq_zero_or_pos (j-l.length)with h0|h0
    ·exact h0
    ·rw[List.getElem?_eq_none (by simp;omega)]at hj;cases hj
   rw[hj0]at hj;simp at hj;subst hj;rw[show j=n from by omega];exact ha
section
variable {H:Type} {enc:TypeId×Value→H} {P:Program} {w:World} {base:Nat} {spare:Nat→Bool} {held:Bool}
theorem F8{α:Type}{t e:TypeId}{k fuel:Nat}{cs:List Value}{x:DataW H×List MemPlace}(ht:P.underlying t=some (.slice e))(hc:P.cellsOf e=k)(hk:0<k)(R:Nat→Nat→α→Prop)
 (hR:∀n,fuel=n+1→∀b o cs' y,b<w.heap.size→cs'.length=k→(∀i,i<k→w.cell? ⟨b,o+i,none⟩=cs'[i]?)→DataW.trod enc P w base spare held n e cs'=some y→∃a,R b o a)
 (h:DataW.trod enc P w base spare held fuel t cs=some x) :
 ∃A c,∃l:List α,cs=[.slice A l.length c]∧l.length≤c∧c≤maxLen∧(l=[]∨∃b o,A=some ⟨b,o,none⟩∧b<w.heap.size∧∀j a,l[j]?=some a→R b (o+k*j) a):=by
 rcases DataW.trod_slice ht h with⟨rfl,-⟩|⟨a,len,cap,elems,rest,n,hf,rfl,hx,hb,hl,hm,hel,hes,-,-⟩
 ·exact⟨none,0,[],rfl,lr _,zl _,.inl rfl⟩
 ·by_cases h0:len=0
  ·subst h0;exact⟨some a,cap,[],rfl,zl _,hm,.inl rfl⟩
  ·rw[hc]at hes
   have hone:∀i,i<len→∃cs' y,w.cells? base (a.add (i*k)) k=some cs'∧DataW.trod enc P w base spare held n e cs'=some y:=fun i hi=>by
    have h1:=hes i hi;rw[gG (by omega)]at h1;obtain⟨cs',h2,h3⟩:=Option.bind_eq_some_iff.1 h1;exact⟨cs',_,h2,h3⟩
   obtain⟨b,o,spot⟩:=a;obtain⟨cs0,y0,h2,-⟩:=hone 0 (by omega);obtain⟨-,g1,g2⟩:=World.cells?_some h2;have g3:=g2 0 hk;rw[gG (by omega)]at g3;have hspot:spot=none:=by simpa[Addr.add]using World.cell?_spot g3
   subst hspot
   have hlt:b<w.heap.size:=by
    have:=World.cells?_block h2 hk
    simpa[Addr.add]using this
   obtain⟨l,hl1,hl2⟩:=Ik (Q:=fun i (a:α)=>R b (o+k*i) a) len (fun i hi=>by
    obtain⟨cs',y,h4,h5⟩:=hone i hi;obtain⟨-,e1,e2⟩:=World.cells?_some h4;refine hR n hf b (o+k*i) cs' y hlt e1 (fun i' hi'=>?_) h5;have:=e2 i' hi';rw[addr_add,addr_add]at this;rw[Nat.mul_comm k i]
    exact this)
   exact⟨_,cap,l,by rw[hl1],by omega,hm,.inr ⟨b,o,rfl,hlt,hl2⟩⟩
end
theorem mX.mk:∀{w:World} {l:List Tm} {g o:Nat},(∀j t,l[j]?=some t→gB w g (o+4*j) t)→mX w g o l
 |w,[],g,o,h=>by rw[mX];trivial
 |w,t::r,g,o,h=>by
  rw[mX];exact⟨h 0 t rfl,mX.mk fun j x hj=>by rw[show o+4+4*j=o+4*(j+1)from by omega];exact h (j+1) x (by simpa using hj)⟩
section
variable {H:Type} {enc:TypeId×Value→H} {w:World} {base:Nat} {spare:Nat→Bool} {held:Bool}
theorem Vd:∀(fuel:Nat) (cs:List Value) (x:DataW H×List MemPlace),DataW.trod enc Tryz.prog w base spare held fuel 64 cs=some x→∃(t:Tm)(A:Option Addr)(c:Nat),cs=[.int .i64 t.op,.int .i64 t.num,.string t.name,.slice A t.kids.length c]∧zx w A c t:=by
 intro fuel
 induction fuel using Nat.strongRecOn with
 |_ fuel ih=>
  intro cs x h;obtain⟨xs,n,hfu,-,hl,hxl,hf⟩:=DataW.trod_struct Tryz.underlying64 h;rw[show Tryz.prog.cellsOf 64=4 from by kernel_rfl]at hl
  obtain⟨c0,c1,c2,c3,rfl⟩:∃c0 c1 c2 c3,cs=[c0,c1,c2,c3]:=by
   match cs,hl with
   |[c0,c1,c2,c3],_=>exact⟨c0,c1,c2,c3,rfl⟩
  obtain⟨y0,y1,y2,y3,rfl⟩:∃y0 y1 y2 y3,xs=[y0,y1,y2,y3]:=by
   match xs,hxl with
   |[c0,c1,c2,c3],_=>exact⟨c0,c1,c2,c3,rfl⟩
  have f0:=hf 0 _ rfl;have f1:=hf 1 _ rfl;have f2:=hf 2 _ rfl;have f3:=hf 3 _ rfl;simp[show Tryz.prog.cellsOf 3=1 from by kernel_rfl,show Tryz.prog.cellsOf 9=1 from by kernel_rfl,show Tryz.prog.cellsOf 25=1 from by kernel_rfl]at f0 f1 f2 f3;obtain⟨n0,e0,-,-⟩:=DataW.trod_int Tryz.underlying3 f0;obtain⟨n1,e1,-,-⟩:=DataW.trod_int Tryz.underlying3 f1;obtain⟨s,e2,-,hs⟩:=DataW.trod_string Tryz.underlying9 f2
  obtain⟨A,c,l,e3,h1,h2,h3⟩:=F8 Tryz.underlying25 (show Tryz.prog.cellsOf 64=4 from by kernel_rfl) (by decide) (fun b o (t:Tm)=>gB w b o t) (fun m hm b o cs' y hb hcl hcells htr=>by
   obtain⟨t,A',c',rfl,hV⟩:=ih m (by omega) cs' y htr;refine⟨t,?_⟩;have g0:=hcells 0 (by omega);have g1:=hcells 1 (by omega);have g2:=hcells 2 (by omega);have g3:=hcells 3 (by omega)
   exact gB.mk g0 g1 g2 g3 hV) f3
  injection e0 with e0
  injection e1 with e1
  injection e2 with e2
  injection e3 with e3
  subst e0 e1 e2 e3;refine⟨.mk n0 n1 s l,A,c,rfl,h1,h2,hs,?_⟩
  rcases h3 with h3|⟨b,o,rfl,hb,h3⟩
  ·exact .inl h3
  ·exact .inr ⟨b,o,rfl,hb,mX.mk h3⟩
end
theorem own:ownKnob Tryz.prog.godebug=none:=by kernel_rfl
theorem laidOut:laidOutB Tryz.prog=true:=by kernel_rfl
theorem E8{H:Type}{enc:TypeId×Value→H}{w:World}{base:Nat}{sp:Nat→Bool}{held:Bool}{fuel:Nat}{t e:TypeId}{n:Nat}{cs:List Value}{l:List ByteArray}{p:List MemPlace}
 (ht:Tryz.prog.underlying t=some (.array n e)) (he:Tryz.prog.underlying e=some .string) (hce:Tryz.prog.cellsOf e=1)
 (h:DataW.trod enc Tryz.prog w base sp held fuel t cs=some (.agg (l.map fun s=>.lit (.string s.data.toList)),p)):∀j,j<l.length→cs[j]?=some (.string (l.getD j ByteArray.empty)):=by
 obtain⟨xs,m,rfl,hx,hl,hxl,hall⟩:=DataW.trod_array ht h
 have hxs:xs.map (·.1)=l.map fun s=>(DataW.lit (.string s.data.toList):DataW H):=by
  have:=congrArg Prod.fst hx
  simpa using this.symm
 have hzl:l.length=n:=by
  have:=congrArg List.length hxs;simp at this;omega
 intro j hj;have h1:=hall j (by omega);obtain⟨b,hb⟩:∃b,xs[j]?=some b:=⟨xs[j]'(by omega),gG (by omega)⟩;rw[hb,hce]at h1;obtain⟨s,hcs,rfl,_⟩:=DataW.trod_string he h1
 have h2:cs[j]?=some (.string s):=by
  have:=congrArg (·[0]?) hcs
  simpa[List.getElem?_take,List.getElem?_drop]using this
 have h3:(xs.map (·.1))[j]?=some (DataW.lit (.string s.data.toList):DataW H):=by simp[hb]
 rw[hxs]at h3;simp only[List.getElem?_map,Option.map_eq_some_iff,DataW.lit.injEq,Lit.string.injEq]at h3;obtain⟨z,hz,hzs⟩:=h3;have:z=s:=gV hzs;subst this;rw[h2];simp[List.getD,hz]
theorem Kv{W:World}(h1:Lib.VarReads Tryz.prog W "voussoir/lexi.words" Rows.laid_voussoir_lexi_words)(h2:Lib.VarReads Tryz.prog W "voussoir/lexi.signs" Rows.laid_voussoir_lexi_signs):Tables W:=by
 obtain⟨g,t,cs,fuel,p,hg,ht,hv,hd⟩:=h1;obtain rfl:=Option.some.inj ((show Tryz.prog.globalNamed "voussoir/lexi.words"=some 0 by kernel_rfl).symm.trans hg);obtain rfl:=Option.some.inj ((show(Tryz.prog.globals[0]?).map (·.type)=some 134 by kernel_rfl).symm.trans ht);have c1:=E8 (l:=lC) Tryz.underlying134 Tryz.underlying9 (by kernel_rfl) hd
 have d1:∀j,j<24→W.cell? ⟨0,j,none⟩=some (.string (lC.getD j ByteArray.empty)):=fun j hj=>by
  have h3:=World.var?_cell hg hv j;rw[h3,←Array.getElem?_toList];exact c1 j hj
 obtain⟨g,t,cs,fuel,p,hg,ht,hv,hd⟩:=h2;obtain rfl:=Option.some.inj ((show Tryz.prog.globalNamed "voussoir/lexi.signs"=some 1 by kernel_rfl).symm.trans hg);obtain rfl:=Option.some.inj ((show(Tryz.prog.globals[1]?).map (·.type)=some 138 by kernel_rfl).symm.trans ht);have c2:=E8 (l:=gQ) Tryz.underlying138 Tryz.underlying9 (by kernel_rfl) hd
 have d2:∀j,j<21→W.cell? ⟨1,j,none⟩=some (.string (gQ.getD j ByteArray.empty)):=fun j hj=>by
  have h3:=World.var?_cell hg hv j;rw[h3,←Array.getElem?_toList];exact c2 j hj
 exact⟨World.block_lt_of_cell? W _ (d2 0 (by omega)),d1,d2⟩
section
variable {H:Type} {enc:TypeId×Value→H} {W:World} {base:Nat} {v:Value} {d:DataW H} {p:List MemPlace}
end
end Go.Proofs.YtkhoeoilamddaaaGreatDoor
