/- Walks and plain words: PrsT PrsU. -/
import Derived.Test.YtkhoeoilamddaaaGreatDoorQPrsMx
import Derived.Recover
namespace Go.Proofs.YtkhoeoilamddaaaGreatDoor
open Go.RowKit
set_option linter.unusedVariables false
set_option linter.unusedSimpArgs false
set_option maxRecDepth 100000
set_option maxHeartbeats 1000000
def caught(j:Nat)(x:Int):List PanicEntry:=[{v:=.iface 181 (.agg #[.int .i64 (j:Nat),.int .i64 x]),recovered:=true}]
theorem Ri(O I J:Nat)(j:Nat)(x:Int)(w:World)(u0 u1 u2 u3 u5 u6:Value)(h4:w.heap[O]?=some (.cells #[u0,u1,u2,u3] 64 (0,0)))(h5:w.heap[I]?=some (.cells #[u5] 3 (0,0)))(h6:w.heap[J]?=some (.cells #[u6] 29 (0,0)))(hne:O≠I)(ar:O≠J)(ax:I≠J) :
 CallsD Tryz.prog 121 #[.pointer (some ⟨O,0,none⟩),.pointer (some ⟨I,0,none⟩),.pointer (some ⟨J,0,none⟩)] (.panicking (thrown j x)) w fun e u' w'=>
  e=.returned (.tuple #[])∧u'=.panicking (caught j x)∧w'=(((((((w.alloc (.cells #[.int .i64 (j:Nat),.int .i64 x] 181)).drew.setCell ⟨O,0,none⟩ (.int .i64 0)).setCell ⟨O,1,none⟩ (.int .i64 0)).setCell ⟨O,2,none⟩ (.string ⟨#[]⟩)).setCell ⟨O,3,none⟩ (.slice none 0 0)).setCell ⟨I,0,none⟩ (.int .i64 (j:Nat))).setCell ⟨J,0,none⟩ (.int .i64 x)):=by
 obtain⟨y0,y1,y2,y3,pq⟩:=q4 h4;have y5:w.cell? ⟨I,0,none⟩=some u5:=by rw[cR w I 0 _ _ (0,0) h5];rfl
 have p5:w.frozen? ⟨I,0,none⟩=false:=by simp[World.frozen?,h5]
 have y6:w.cell? ⟨J,0,none⟩=some u6:=by rw[cR w J 0 _ _ (0,0) h6];rfl
 have p6:w.frozen? ⟨J,0,none⟩=false:=by simp[World.frozen?,h6]
 have l4:=lH h4;have l5:=lH h5;have l6:=lH h6;have n4:O≠w.heap.size:=by omega
 have n5:I≠w.heap.size:=by omega
 have n6:J≠w.heap.size:=by omega
 obtain⟨WW,ai⟩:=ak ((((((((w.alloc (.cells #[.int .i64 (j:Nat),.int .i64 x] 181)).drew.setCell ⟨O,0,none⟩ (.int .i64 0)).setCell ⟨O,1,none⟩ (.int .i64 0)).setCell ⟨O,2,none⟩ (.string ⟨#[]⟩)).setCell ⟨O,3,none⟩ (.slice none 0 0)).setCell ⟨I,0,none⟩ (.int .i64 (j:Nat))).setCell ⟨J,0,none⟩ (.int .i64 x)));rw[←ai];refine callsD_of_wpS Tryz.func121 rfl fun c₀ cs hu=>?_
 apply wpS_seq
 apply wpS_region
 simp[wpOpsS,go_sem,recoverD,hu,Tryz.ntmps121,Exit.thenS,thrown];refine wpS_of_wp ?_;obtain⟨Q,hQ⟩:∃Q:Exit→Act→World→Prop,Q=fun e a' w'=>e=.normal∧a'.defers=[]∧w'=WW:=⟨_,rfl⟩;refine Code.wp_mono (Q:=Q) ?hq ?hw
 case hq=>
  intro e a' w' h;rw[hQ]at h;obtain⟨rfl,hd,rfl⟩:=h;refine⟨hd,_,rfl,.tuple #[],results_none rfl _ _ _,?_⟩;simp[caught]
 case hw=>
  have aa:Hid (∀c a w,Q (.panic c) a w→False):=fun c a w h=>by rw[hQ]at h;cases h.1
  have HQ:=Hd hQ;clear hQ hu;have lM:∀(v:Value)(w:World),(Instr.typeAssert (.iface 181 v) 20 181 true).run Tryz.prog w=.ok (.tuple #[v,.bool true]) w:=fun _ _=>by kernel_rfl
  change Code.wp _ _ _ {tmps:=#[.pointer (some ⟨O,0,none⟩),.pointer (some ⟨I,0,none⟩),.pointer (some ⟨J,0,none⟩),undef,undef,undef,.iface 181 (.agg #[.int .i64 j,.int .i64 x]),undef,undef,undef,undef,undef,undef,undef,undef,undef,undef],defers:=[]} w
  go_wp2_with fail
  --REGION
  obtain⟨bw,ae⟩:=aj w.heap.size;obtain⟨wb,ag⟩:=aj (w.alloc (.cells #[.int .i64 (j:Nat),.int .i64 x] 181));obtain⟨Y,ab⟩:=aj wb.drew;have af:Y=(w.alloc (.cells #[.int .i64 (j:Nat),.int .i64 x] 181)).drew:=by rw[ab,ag]
  have hrow:Y.heap[bw]?=some (.cells #[.int .i64 (j:Nat),.int .i64 x] 181 (0,0)):=by rw[af,ae];exact eu w _
  have hold:∀q,q<bw→Y.heap[q]?=w.heap[q]?:=fun q hq=>by rw[af];exact((Br w.heap.size w).alloc (lr _) _).block q (by omega)
  rw[←ag,←ae];rw[←ae]at n4 n5 n6 l4 l5 l6;clear y0 y1 y2 y3 pq y5 p5 y6 p6;obtain⟨y0,y1,y2,y3,pq⟩:=q4 ((hold O l4).trans h4);have y5:Y.cell? ⟨I,0,none⟩=some u5:=by rw[cR Y I 0 _ _ (0,0) ((hold I l5).trans h5)];rfl
  have p5:Y.frozen? ⟨I,0,none⟩=false:=by simp[World.frozen?,(hold I l5).trans h5]
  have y6:Y.cell? ⟨J,0,none⟩=some u6:=by rw[cR Y J 0 _ _ (0,0) ((hold J l6).trans h6)];rfl
  have p6:Y.frozen? ⟨J,0,none⟩=false:=by simp[World.frozen?,(hold J l6).trans h6]
  have av:Y.cell? ⟨bw,0,none⟩=some (.int .i64 (j:Nat)):=by rw[cR Y bw 0 _ _ (0,0) hrow];rfl
  have aw:Y.cell? ⟨bw,1,none⟩=some (.int .i64 x):=by rw[cR Y bw 1 _ _ (0,0) hrow];rfl
  have ao:=Lib.hid af;clear af ag ae hrow hold h4 h5 h6 l4 l5 l6;refine wp_region_held_drew (S:=fun w'=>w'.cell? ⟨bw,0,none⟩=some (.int .i64 (j:Nat))∧w'.cell? ⟨bw,1,none⟩=some (.int .i64 x)) (by kernel_rfl) (by rw[← ab]; exact⟨av,aw⟩) (fun D=>?_);rw[← ab]at D⊢;clear ab;refine wpAnyH_take (i:=0) (oi:={dst:=some 12,op:=Op.build 64 #[],type:=64,pos := "ttext.go:354",after:=#[],guard:=none}) (v:=?_) rfl (by kernel_rfl) (by kernel_rfl) (by kernel_rfl) (fun _ _ _ h=>(aa _ _ _ h).elim) (Or.inl ⟨by rfl,?hy⟩) (by assumption) ?_
  case hy=>
   intro w0 G;have e0:=G.1;have e1:=G.2;clear G;go_simp
   (first|done|with_reducible rfl)
  (try simp only[Act.put,aT,aU,aV]);refine wpAnyH_take (i:=1) (oi:={dst:=some 13,op:=Op.fieldAddr 181 (Operand.tmp 4) 0,type:=0,pos := "ttext.go:354",after:=#[{on:=5,ground:=Ground.gcOnly Departure.lateStores}],guard:=none}) (v:=?_) rfl (by kernel_rfl) (by kernel_rfl) (by kernel_rfl) (fun _ _ _ h=>(aa _ _ _ h).elim) (Or.inl ⟨by rfl,?hy⟩) (by assumption) ?_
  case hy=>
   intro w0 G;have e0:=G.1;have e1:=G.2;clear G;go_simp
   (first|done|with_reducible rfl)
  (try simp only[Act.put,aT,aU,aV]);refine wpAnyH_take (i:=2) (oi:={dst:=some 14,op:=Op.load 3 (Operand.tmp 13),type:=3,pos := "ttext.go:354",after:=#[{on:=1,ground:=Ground.data},{on:=5,ground:=Ground.gcOnly Departure.lateStores}],guard:=none}) (v:=?_) rfl (by kernel_rfl) (by kernel_rfl) (by kernel_rfl) (fun _ _ _ h=>(aa _ _ _ h).elim) (Or.inl ⟨by rfl,?hy⟩) (by assumption) ?_
  case hy=>
   intro w0 G;have e0:=G.1;have e1:=G.2;clear G;go_simp
   (first|done|with_reducible rfl)
  (try simp only[Act.put,aT,aU,aV]);refine wpAnyH_take (i:=3) (oi:={dst:=some 15,op:=Op.fieldAddr 181 (Operand.tmp 4) 1,type:=0,pos := "ttext.go:354",after:=#[{on:=6,ground:=Ground.gcOnly Departure.lateStores}],guard:=none}) (v:=?_) rfl (by kernel_rfl) (by kernel_rfl) (by kernel_rfl) (fun _ _ _ h=>(aa _ _ _ h).elim) (Or.inl ⟨by rfl,?hy⟩) (by assumption) ?_
  case hy=>
   intro w0 G;have e0:=G.1;have e1:=G.2;clear G;go_simp
   (first|done|with_reducible rfl)
  (try simp only[Act.put,aT,aU,aV]);refine wpAnyH_take (i:=4) (oi:={dst:=some 16,op:=Op.load 29 (Operand.tmp 15),type:=29,pos := "ttext.go:354",after:=#[{on:=3,ground:=Ground.data},{on:=6,ground:=Ground.gcOnly Departure.lateStores}],guard:=none}) (v:=?_) rfl (by kernel_rfl) (by kernel_rfl) (by kernel_rfl) (fun _ _ _ h=>(aa _ _ _ h).elim) (Or.inl ⟨by rfl,?hy⟩) (by assumption) ?_
  case hy=>
   intro w0 G;have e0:=G.1;have e1:=G.2;clear G;go_simp
   (first|done|with_reducible rfl)
  (try simp only[Act.put,aT,aU,aV]);refine Rd (rs:=[5]) (by kernel_rfl) (by simp) ?_;refine Rc rfl (fun K hK=>?_) Rn;go_simp;refine hK.out _ _ ⟨by rw[Dv _ _ _ _ n4,Dv _ _ _ _ n4,Dv _ _ _ _ n4,Dv _ _ _ _ n4];exact D.1,by rw[Dv _ _ _ _ n4,Dv _ _ _ _ n4,Dv _ _ _ _ n4,Dv _ _ _ _ n4];exact D.2⟩ (fun D=>?_);clear hK K;(try simp only[Act.put,aT,aU,aV]);refine Rd (rs:=[6]) (by kernel_rfl) (by simp) ?_;refine Rc rfl (fun K hK=>?_) Rn;go_simp;refine hK.out _ _ ⟨by rw[Dv _ _ _ _ n5];exact D.1,by rw[Dv _ _ _ _ n5];exact D.2⟩ (fun D=>?_);clear hK K;(try simp only[Act.put,aT,aU,aV]);refine Rd (rs:=[7]) (by kernel_rfl) (by simp) ?_;refine Rc rfl (fun K hK=>?_) Rn;go_simp;refine hK.out _ _ ⟨by rw[Dv _ _ _ _ n6];exact D.1,by rw[Dv _ _ _ _ n6];exact D.2⟩ (fun D=>?_);clear hK K;(try simp only[Act.put,aT,aU,aV]);refine wpAnyH_done (by kernel_rfl) ?_ _
  --END
  refine(show Q _ _ _ from ?_);rw[HQ];refine⟨rfl,rfl,?_⟩;rw[ai,ao]
set_option maxHeartbeats 4000000
abbrev tC:=@q4
theorem JY(G I J:Nat)(w:World) :
 CallsD Tryz.prog 121 #[.pointer (some ⟨G,0,none⟩),.pointer (some ⟨I,0,none⟩),.pointer (some ⟨J,0,none⟩)] .returning w fun e u' w'=>e=.returned (.tuple #[])∧u'=.returning∧w'=w:=by
 refine callsD_of_wpS Tryz.func121 rfl fun c₀ cs O=>?_
 apply wpS_seq
 apply wpS_region
 simp[wpOpsS,go_sem,recoverD,O,Tryz.ntmps121,Exit.thenS];refine wpS_of_wp ?_;obtain⟨Q,D⟩:∃Q:Exit→Act→World→Prop,Q=fun e a' w'=>e=.normal∧a'.defers=[]∧w'=w:=⟨_,rfl⟩;refine Code.wp_mono (Q:=Q) ?hq ?hw
 case hq=>
  intro e a' w' h;rw[D]at h;obtain⟨rfl,hd,rfl⟩:=h;refine⟨hd,.returning,?_,.tuple #[],results_none rfl _ _ _,?_⟩
  ·cases c₀;simp_all
  ·simp
 case hw=>
  have Y:=Hd D;clear D O
  change Code.wp _ _ _ {tmps:=#[.pointer (some ⟨G,0,none⟩),.pointer (some ⟨I,0,none⟩),.pointer (some ⟨J,0,none⟩),undef,undef,undef,.nilIface,undef,undef,undef,undef,undef,undef,undef,undef,undef,undef],defers:=[]} w
  go_wp2
  refine(show Q _ _ _ from ?_);rw[Y];exact⟨rfl,rfl,rfl⟩
structure dP(w:World)(A:Option Addr)(c:Nat)(l:List Tok):Prop where
 toks:wF w A l
 cap:l.length≤c
 bU:c≤maxLen
 len:l.length≤100000
 txt:∀t∈l,t.text.length≤100000
 rng:∀t∈l,-1000000≤t.n∧t.n≤1000000
 old:∀a,A=some a→a.block<w.heap.size
theorem dP.pt{w w':World}{A:Option Addr}{c R:Nat}{l:List Tok}(h:dP w A c l)(hb:Below w.heap.size w w')(hR:w.heap.size≤R):iI w' R A c l:=by
 refine⟨?_,h.cap,h.bU,h.len,?_,h.txt,h.rng⟩
 ·rcases h.toks with h0|⟨b,off,rfl,D,hc⟩
  ·exact .inl h0
  ·exact .inr ⟨b,off,rfl,lL D hb.size,fun k z I j G=>by rw[hb.cell (p:=⟨b,_,none⟩) D];exact hc k z I j G⟩
 ·intro a ha;have:=h.old a ha;omega
theorem CG{P:Program}{fn:Func}{R:Ending→World→Prop}{tmps G:Array Value}(h:results fn G=results fn tmps):∀(ds:List Deferred)(u:FrameMode)(w:World),Leaves P fn G R ds u w→Leaves P fn tmps R ds u w
 |[],.returning,w,⟨v,hv,hr⟩=>⟨v,by rw[←h];exact hv,hr⟩
 |[],.panicking c,w,D=>D
 |[],.run,w,D=>D
 |d::ds,u,w,⟨hu,fv,cap,f,args,h1,h2,h3⟩=>⟨hu,fv,cap,f,args,h1,h2,h3.mono fun e u' w' D=>by
  cases e with
  |returned v=>exact CG h ds _ _ D
  |panicked c=>exact CG h ds _ _ D
  |outgrown=>exact D⟩
theorem Rj(tm:Array Value)(v:Value){k:Nat}(J:7≤k):results Tryz.f81 (tm.setIfInBounds k v)=results Tryz.f81 tm:=by
 have g:∀m,m<7→(tm.setIfInBounds k v)[m]?=tm[m]?:=fun m hm=>by rw[Array.getElem?_setIfInBounds,iN (by omega)]
 have D:=g 4 (by decide);have G:=g 5 (by decide);have I:=g 6 (by decide);unfold results;rw[Tryz.results81];simp only[Array.getD_eq_getD_getElem?];simp[D,G,I]
theorem yY{w:World}{b:Nat}{u:Value}{T:TypeId}(h:w.heap[b]?=some (.cells #[u] T (0,0))):w.cell? ⟨b,0,none⟩=some u∧w.frozen? ⟨b,0,none⟩=false:=⟨by rw[cR w b 0 _ _ (0,0) h];rfl,by simp[World.frozen?,h]⟩
theorem set1{W:World}{b:Nat}{u v:Value}{T:TypeId}(h:W.heap[b]?=some (.cells #[u] T (0,0))):(W.setCell ⟨b,0,none⟩ v).heap[b]?=some (.cells #[v] T (0,0)):=by simp[World.setCell,Array.getElem?_modify,h]
def ajq(i:Nat)(r:Rs Tm):Tm×Nat×Int:=match r with
 |.bad j e=>(dG,j,e)
 |.ok t j=>if t.check=0 then(t,j,0)else(dG,i,t.check)
def VX(l:List Tok)(w:World)(r:Tm×Nat×Int)(e:Ending)(w':World):Prop:=∃A' c',e=.returned (.tuple #[r.1.val A' c',.int .i64 (r.2.1:Nat),.int .i64 r.2.2])∧aD (fun q=>w.heap.size≤q) w' A' c' r.1∧Below w.heap.size w w'
theorem Py(l:List Tok)(A:Option Addr)(c i:Nat)(w:World)(hi:i≤l.length)(hT:dP w A c l) :
 Calls Tryz.prog 81 #[.slice A l.length c,.int .i64 (i:Nat)] w (VX l w (iU l i)):=by
 obtain⟨n,HN⟩:=ak l.length;have hlen:=hT.len;have bb:=hT.cap;have aQ:=hT.bU;unfold maxLen at aQ;rw[←HN]at hi hlen bb⊢;have cq:∀(fn:Fn)(first cap:Array Value)(w:World),(Instr.makeFunc fn first cap).run Tryz.prog w=.ok (.func fn first cap) w:=fun _ _ _ _=>rfl;obtain⟨F,HF⟩:=ak (VX l w (iU l i));rw[←HF];have HT:=Hd hT;have cj:¬(i:Int)<0:=by omega
 have ck:¬(n:Int)<(i:Int):=by omega
 clear hT
 go_enter_defers Tryz.func81,Tryz.ntmps81
 go_wp2_with fail;obtain⟨G,ay⟩:=aj w.heap.size;obtain⟨J,ba⟩:=aj (w.heap.size+1);obtain⟨O,Y⟩:=aj (w.heap.size+1+1);obtain⟨R,hR⟩:=aj (w.heap.size+1+1+1);obtain⟨w3,ao⟩:=aj ((((w.alloc (.cells #[.int .i64 0,.int .i64 0,.string ⟨#[]⟩,.slice none 0 0] 64)).alloc (.cells #[.int .i64 0] 3)).alloc (.cells #[.int .i64 0] 29)).alloc (.cells #[.slice A n c,.int .i64 (i:Nat),.int .i64 0] 186));rw[←ao,←hR,←Y,←ba,←ay];have cg:=Hd ay;have n45:G≠J:=by omega
 have n46:G≠O:=by omega
 have n56:J≠O:=by omega
 have n54:G≠J:=n45;have n64:G≠O:=n46;have aa:G≠R:=by omega
 have bd:J≠R:=by omega
 have bf:O≠R:=by omega
 have r4:w3.heap[G]?=some (.cells #[.int .i64 0,.int .i64 0,.string ⟨#[]⟩,.slice none 0 0] 64 (0,0)):=by
  rw[ao,ay];refine(((Br _ _).alloc (lr _) _).block _ (by simp;omega)).trans ((((Br _ _).alloc (lr _) _).block _ (by simp;omega)).trans ((((Br _ _).alloc (lr _) _).block _ (by simp)).trans (eu w _)))
 have r5:w3.heap[J]?=some (.cells #[.int .i64 0] 3 (0,0)):=by
  rw[ao,ba];refine(((Br _ _).alloc (lr _) _).block _ (by simp)).trans ((((Br _ _).alloc (lr _) _).block _ (by simp)).trans ?_);have h:=eu (w.alloc (.cells #[.int .i64 0,.int .i64 0,.string ⟨#[]⟩,.slice none 0 0] 64)) (.cells #[.int .i64 0] 3)
  simpa using h
 have r6:w3.heap[O]?=some (.cells #[.int .i64 0] 29 (0,0)):=by
  rw[ao,Y];refine(((Br _ _).alloc (lr _) _).block _ (by simp)).trans ?_;have h:=eu ((w.alloc (.cells #[.int .i64 0,.int .i64 0,.string ⟨#[]⟩,.slice none 0 0] 64)).alloc (.cells #[.int .i64 0] 3)) (.cells #[.int .i64 0] 29)
  simpa using h
 have bo:iZ w3 R A n c i 0:=by
  rw[ao,hR];have h:=eu (((w.alloc (.cells #[.int .i64 0,.int .i64 0,.string ⟨#[]⟩,.slice none 0 0] 64)).alloc (.cells #[.int .i64 0] 3)).alloc (.cells #[.int .i64 0] 29)) (.cells #[.slice A n c,.int .i64 (i:Nat),.int .i64 0] 186);unfold iZ
  simpa using h
 have ar:Below w.heap.size w w3:=by
  rw[ao];exact((((Br _ _).alloc (lr _) _).alloc (by simp) _).alloc (by simp;omega) _).alloc (by simp;omega) _
 have cf:w3.heap.size=R+1:=by rw[ao,hR];simp
 have Ol:w.heap.size≤G∧w.heap.size≤J∧w.heap.size≤O∧w.heap.size≤R:=by omega
 have aw:G<w3.heap.size∧J<w3.heap.size∧O<w3.heap.size:=by omega
 obtain⟨r,hr⟩:=aj ((lvl l 256).term i)
 have ai:Calls Tryz.prog 122 #[.pointer (some ⟨R,0,none⟩)] w3 (PQ R A c 0 l i r w3):=by
  rw[hr];exact(aaT R A c l 256 0 (by omega)).term i w3 (by rw[←HN];exact hi) (by rw[←HN];exact bo) (HT.pt ar (by omega)) trivial
 have bE:Hid (F=VX l w (ajq i r)):=by show _=_;rw[HF,hr];rfl
 have Tq:Hid (∀t j,r=.ok t j→Gd l i t j):=fun t j h=>(IV l 256).term i t j (by rw[←hr];exact h);have HC:=Hd ai;have bg:=Hd r4;have OL:=Hd r5;have o7:=Hd r6;have nH:=Hd ar;clear ay ba Y hR ao r4 r5 r6 bo ar ai hr HF;refine HC.mono ?_;intro e w4 hq
 rcases r with⟨j,x⟩|⟨t,j⟩
 ·obtain⟨rfl,iC⟩:=hq;have uX:=Hd iC;have q4:=(iC.block G aw.1 aa).trans bg;have q5:=(iC.block J aw.2.1 bd).trans OL;have q6:=(iC.block O aw.2.2 bf).trans o7;have b7:=iC.size;obtain⟨WW,nT⟩:=aj ((((((((w4.alloc (.cells #[.int .i64 (j:Nat),.int .i64 x] 181)).drew.setCell ⟨G,0,none⟩ (.int .i64 0)).setCell ⟨G,1,none⟩ (.int .i64 0)).setCell ⟨G,2,none⟩ (.string ⟨#[]⟩)).setCell ⟨G,3,none⟩ (.slice none 0 0)).setCell ⟨J,0,none⟩ (.int .i64 (j:Nat))).setCell ⟨O,0,none⟩ (.int .i64 x)));have aF:=Ri G J O j x w4 _ _ _ _ _ _ q4 q5 q6 n45 n46 n56;rw[←nT]at aF;have bj:=Hd aF;have bk:(w4.alloc (.cells #[.int .i64 (j:Nat),.int .i64 x] 181)).drew.heap[G]?=some (.cells #[.int .i64 0,.int .i64 0,.string ⟨#[]⟩,.slice none 0 0] 64 (0,0)):=aK (W:=w4) q4
  have ae:WW.heap[G]?=some (.cells #[.int .i64 0,.int .i64 0,.string ⟨#[]⟩,.slice none 0 0] 64 (0,0)):=by
   rw[nT,iw _ ⟨O,0,none⟩ G _ n46,iw _ ⟨J,0,none⟩ G _ n45];exact ni bk
  have bl:(w4.alloc (.cells #[.int .i64 (j:Nat),.int .i64 x] 181)).drew.heap[J]?=some (.cells #[.int .i64 0] 3 (0,0)):=aK (W:=w4) q5;have bm:(w4.alloc (.cells #[.int .i64 (j:Nat),.int .i64 x] 181)).drew.heap[O]?=some (.cells #[.int .i64 0] 29 (0,0)):=aK (W:=w4) q6
  have af:WW.heap[J]?=some (.cells #[.int .i64 (j:Nat)] 3 (0,0)):=by
   rw[nT,iw _ ⟨O,0,none⟩ J _ n56];exact set1 ((fH (fun e=>n45 e.symm)).trans bl)
  have ag:WW.heap[O]?=some (.cells #[.int .i64 x] 29 (0,0)):=by
   rw[nT];refine set1 (u:=.int .i64 0) ?_;rw[iw _ ⟨J,0,none⟩ O _ (fun e=>n56 e.symm)];exact(fH (fun e=>n46 e.symm)).trans bm
  have ax:Hid (Below w.heap.size w WW):=by
   show Below _ _ _;have o4:Only (fun q=>w.heap.size≤q) w w4:=(Ob nH).trans (uX.mono (fun q h=>by show w.heap.size≤q;omega));have o5:Only (fun q=>w.heap.size≤q) w (w4.alloc (.cells #[.int .i64 (j:Nat),.int .i64 x] 181)).drew:=(o4.trans (Ob ((Br _ _).alloc (lr _) _))).drewN 1;rw[nT];exact((((((o5.bq Ol.1 _).bq Ol.1 _).bq Ol.1 _).bq Ol.1 _).bq Ol.2.1 _).bq Ol.2.2.1 _).below (fun q h=>h) (lr _)
  clear nT aF q4 q5 q6 iC bk bl bm;refine leaves_cons (f:=121) (args:=#[.pointer (some ⟨G,0,none⟩),.pointer (some ⟨J,0,none⟩),.pointer (some ⟨O,0,none⟩)]) (by simp) (by simp[go_sem]) ?_;refine bj.mono ?_;rintro e u' bp ⟨rfl,rfl,rfl⟩;obtain⟨y0,y1,y2,y3,-⟩:=tC ae;have y5:=(yY af).1;have y6:=(yY ag).1;clear ae af ag bj;simp[Leaves,settle,caught,results,Tryz.results81,go_sem,y0,y1,y2,y3,y5,y6];rw[bE];exact⟨none,0,rfl,aD.leaf (zl _),ax⟩
 ·obtain⟨⟨A',c',rfl,hV⟩,cn,cp,vD,iC⟩:=hq;have aP:=Hd (Tq t j rfl);have uX:=Hd iC;have q4:=(iC.block G aw.1 aa).trans bg;have q5:=(iC.block J aw.2.1 bd).trans OL;have q6:=(iC.block O aw.2.2 bf).trans o7;have b7:=iC.size;obtain⟨n2,aE⟩:=aj t.kids.length;have kU:=Hd aE;have ch:G<w4.heap.size:=by omega
  obtain⟨w5,gH⟩:=aj ((((w4.setCell ⟨G,0,none⟩ (.int .i64 t.op)).setCell ⟨G,1,none⟩ (.int .i64 t.num)).setCell ⟨G,2,none⟩ (.string t.name)).setCell ⟨G,3,none⟩ (.slice A' n2 c'));have pU:Hid (w5.heap[G]?=some (.cells #[.int .i64 t.op,.int .i64 t.num,.string t.name,.slice A' n2 c'] 64 (0,0))):=by show _=_;rw[gH];exact ni q4
  have bh:Hid (aD (fun q=>w3.heap.size≤q) w5 A' c' t):=by
   show aD _ _ _ _ _;rw[gH];exact hV.keep ((((aR.refl.set (by omega) _).set (by omega) _).set (by omega) _).set (by omega) _) (fun _ _ h=>h)
  have bW:Hid (w5.heap[J]?=some (.cells #[.int .i64 0] 3 (0,0))):=by show _=_;rw[gH];exact(fH (fun e=>n45 e.symm)).trans q5
  have b0:Hid (w5.heap[O]?=some (.cells #[.int .i64 0] 29 (0,0))):=by show _=_;rw[gH];exact(fH (fun e=>n46 e.symm)).trans q6
  have b1:Hid (w5.cell? ⟨R,1,none⟩=some (.int .i64 (j:Nat))):=by
   show _=_;rw[gH,Dv _ _ _ _ aa,Dv _ _ _ _ aa,Dv _ _ _ _ aa,Dv _ _ _ _ aa];exact vD.c1
  have bw:Hid (Only (fun q=>w.heap.size≤q) w w5):=by
   show Only _ _ _;rw[gH];exact(((((Ob nH).trans (iC.mono (fun q h=>by show w.heap.size≤q;omega))).bq Ol.1 _).bq Ol.1 _).bq Ol.1 _).bq Ol.1 _
  have cr:w5.heap.size=w4.heap.size:=by rw[gH];simp
  have ci:R<w4.heap.size:=vD.lt;obtain⟨y0,y1,y2,y3,pq⟩:=tC q4;have bP:=Hd gH;unfold Tm.val;rw[←aE];have az:=DC t A' c' w5 bh.toV (by have:=aP.sz;have:=aP.jl;have:=aP.ij;rw[←HN]at *;omega);unfold Tm.val at az;rw[←aE]at az;have IC:=Hd az;clear gH q4 q5 q6 iC hV vD aE az;go_wp2_with fail;rw[←bP];clear y0 y1 y2 y3 pq;obtain⟨y0,y1,y2,y3,pq⟩:=tC pU;(try go_wp2_with fail);refine IC.mono ?_;rintro e w6 ⟨rfl,Y⟩;have cs:=Y.size;have b2:G<w5.heap.size:=by omega
  have bC:Hid (aD (fun q=>w3.heap.size≤q) w6 A' c' t):=bh.keep (Kb Y) (fun _ _ h=>h);have bZ:=Hd ((Y.block G b2).trans pU);have aS:=Hd ((Y.block J (by omega)).trans bW);have a6:=Hd ((Y.block O (by omega)).trans b0);have b3:=Hd ((Y.cell (p:=⟨R,1,none⟩) (by show R<_;omega)).trans b1);have Fy:=Hd (bw.trans (Ob Y));clear Y IC y0 y1 y2 y3 pq;obtain⟨y0,y1,y2,y3,pq⟩:=tC bZ;obtain⟨y5,p5⟩:=yY aS;obtain⟨y6,p6⟩:=yY a6
  by_cases hz:t.check=0
  ·have dJ:Hid (F=VX l w (t,j,0)):=by show _=_;rw[bE];show VX l w (if t.check=0 then(t,j,0)else(dG,i,t.check))=_;rw[iP hz]
   rw[hz];clear hz;go_wp2_with fail;obtain⟨wd,hwd⟩:=aj w6.drew;have hB:wd.heap[G]?=some (.cells #[.int .i64 t.op,.int .i64 t.num,.string t.name,.slice A' n2 c'] 64 (0,0)):=by rw[hwd];exact bZ
   have bn:wd.cell? ⟨R,1,none⟩=some (.int .i64 (j:Nat)):=by rw[hwd];exact b3
   have a7:wd.heap[J]?=some (.cells #[.int .i64 0] 3 (0,0)):=by rw[hwd];exact aS
   have a8:wd.heap[O]?=some (.cells #[.int .i64 0] 29 (0,0)):=by rw[hwd];exact a6
   have bz:Hid (Only (fun q=>w.heap.size≤q) w wd):=by show Only _ _ _;rw[hwd];exact Fy.drewN 1
   have bJ:Hid (aD (fun q=>w3.heap.size≤q) wd A' c' t):=by show aD _ _ _ _ _;rw[hwd];exact bC.keep ⟨lr _,fun _ _ _=>rfl⟩ (fun _ _ h=>h)
   have bu:=Lib.hid a7;have bv:=Lib.hid a8;clear y0 y1 y2 y3 pq y5 p5 y6 p6;obtain⟨y5,p5⟩:=yY a7;obtain⟨y6,p6⟩:=yY a8;clear a7 a8;have av:=Lib.hid (fun(k:Nat)(hk:7≤k)(cc:List PanicEntry)(a:Act)(w:World)(v:Value)(h:bodyPostD Tryz.prog Tryz.f81 F (.panic cc) (a.put (some k) v) w)=>(CG (Rj a.tmps v hk) _ _ _ h:bodyPostD Tryz.prog Tryz.f81 F (.panic cc) a w));refine wp_region_held_drew (S:=fun w'=>w'.heap[G]?=some (.cells #[.int .i64 t.op,.int .i64 t.num,.string t.name,.slice A' n2 c'] 64 (0,0))∧w'.cell? ⟨R,1,none⟩=some (.int .i64 (j:Nat))) (by kernel_rfl) (by rw[← hwd]; exact⟨hB,bn⟩) (fun D=>?_);rw[← hwd]at D⊢;clear hwd hB bn;refine wpAnyH_take (i:=0) (oi:={dst:=some 33,op:=Op.load 64 (Operand.tmp 4),type:=64,pos := "ttext.go:364",after:=#[],guard:=none}) (v:=?_) rfl (by kernel_rfl) (by kernel_rfl) (by kernel_rfl) (fun c a w h=>av 33 (by decide) c a w _ h) (Or.inl ⟨by rfl,?hy⟩) (by assumption) ?_
   case hy=>
    intro w0 I;obtain⟨e0,e1,e2,e3,-⟩:=tC I.1;have e4:=I.2;clear I;go_simp
    (first|done|with_reducible rfl)
   (try simp only[Act.put,aT,aU,aV]);refine wpAnyH_take (i:=1) (oi:={dst:=some 34,op:=Op.move (Operand.tmp 7),type:=182,pos := "ttext.go:364",after:=#[],guard:=none}) (v:=?_) rfl (by kernel_rfl) (by kernel_rfl) (by kernel_rfl) (fun c a w h=>av 34 (by decide) c a w _ h) (Or.inl ⟨by rfl,?hy⟩) (by assumption) ?_
   case hy=>
    intro w0 I;obtain⟨e0,e1,e2,e3,-⟩:=tC I.1;have e4:=I.2;clear I;go_simp
    (first|done|with_reducible rfl)
   (try simp only[Act.put,aT,aU,aV]);refine wpAnyH_take (i:=2) (oi:={dst:=some 35,op:=Op.nilCheck (Operand.tmp 34),type:=0,pos := "ttext.go:364",after:=#[{on:=1,ground:=Ground.data}],guard:=none}) (v:=?_) rfl (by kernel_rfl) (by kernel_rfl) (by kernel_rfl) (fun c a w h=>av 35 (by decide) c a w _ h) (Or.inl ⟨by rfl,?hy⟩) (by assumption) ?_
   case hy=>
    intro w0 I;obtain⟨e0,e1,e2,e3,-⟩:=tC I.1;have e4:=I.2;clear I;go_simp
    (first|done|with_reducible rfl)
   (try simp only[Act.put,aT,aU,aV]);refine wpAnyH_take (i:=3) (oi:={dst:=some 36,op:=Op.fieldAddr 186 (Operand.tmp 35) 0,type:=0,pos := "ttext.go:364",after:=#[{on:=2,ground:=Ground.data}],guard:=none}) (v:=?_) rfl (by kernel_rfl) (by kernel_rfl) (by kernel_rfl) (fun c a w h=>av 36 (by decide) c a w _ h) (Or.inl ⟨by rfl,?hy⟩) (by assumption) ?_
   case hy=>
    intro w0 I;obtain⟨e0,e1,e2,e3,-⟩:=tC I.1;have e4:=I.2;clear I;go_simp
    (first|done|with_reducible rfl)
   (try simp only[Act.put,aT,aU,aV]);refine wpAnyH_take (i:=4) (oi:={dst:=some 37,op:=Op.fieldAddr 184 (Operand.tmp 36) 1,type:=0,pos := "ttext.go:364",after:=#[{on:=3,ground:=Ground.data}],guard:=none}) (v:=?_) rfl (by kernel_rfl) (by kernel_rfl) (by kernel_rfl) (fun c a w h=>av 37 (by decide) c a w _ h) (Or.inl ⟨by rfl,?hy⟩) (by assumption) ?_
   case hy=>
    intro w0 I;obtain⟨e0,e1,e2,e3,-⟩:=tC I.1;have e4:=I.2;clear I;go_simp
    (first|done|with_reducible rfl)
   (try simp only[Act.put,aT,aU,aV]);refine wpAnyH_take (i:=5) (oi:={dst:=some 38,op:=Op.load 3 (Operand.tmp 37),type:=3,pos := "ttext.go:364",after:=#[{on:=4,ground:=Ground.data}],guard:=none}) (v:=?_) rfl (by kernel_rfl) (by kernel_rfl) (by kernel_rfl) (fun c a w h=>av 38 (by decide) c a w _ h) (Or.inl ⟨by rfl,?hy⟩) (by assumption) ?_
   case hy=>
    intro w0 I;obtain⟨e0,e1,e2,e3,-⟩:=tC I.1;have e4:=I.2;clear I;go_simp
    (first|done|with_reducible rfl)
   (try simp only[Act.put,aT,aU,aV]);refine Rd (rs:=[6]) (by kernel_rfl) (by simp) ?_;refine Rc rfl (fun K hK=>?_) Rn;obtain⟨y0,y1,y2,y3,pq⟩:=tC D.1;go_simp;clear y0 y1 y2 y3 pq;refine hK.out _ _ ⟨ni D.1,by rw[Dv _ _ _ _ aa,Dv _ _ _ _ aa,Dv _ _ _ _ aa,Dv _ _ _ _ aa];exact D.2⟩ (fun D=>?_);clear hK K;(try simp only[Act.put,aT,aU,aV]);obtain⟨WA,ab⟩:=ak (((((wd.setCell ⟨G,0,none⟩ (.int .i64 t.op)).setCell ⟨G,1,none⟩ (.int .i64 t.num)).setCell ⟨G,2,none⟩ (.string t.name)).setCell ⟨G,3,none⟩ (.slice A' n2 c')));rw[←ab]at D⊢;have cb:WA.cell? ⟨J,0,none⟩=some (.int .i64 0):=by rw[ab,Dv _ _ _ _ n45,Dv _ _ _ _ n45,Dv _ _ _ _ n45,Dv _ _ _ _ n45];exact y5
   have b8:WA.frozen? ⟨J,0,none⟩=false:=by rw[ab];simpa[World.frozen?_setCell]using p5
   have cd:WA.cell? ⟨O,0,none⟩=some (.int .i64 0):=by rw[ab,Dv _ _ _ _ n46,Dv _ _ _ _ n46,Dv _ _ _ _ n46,Dv _ _ _ _ n46];exact y6
   have b9:WA.frozen? ⟨O,0,none⟩=false:=by rw[ab];simpa[World.frozen?_setCell]using p6
   have br:=Hd D.1;clear y5 p5 y6 p6;refine Rd (rs:=[7]) (by kernel_rfl) (by simp) ?_;refine Rc rfl (fun K hK=>?_) Rn;go_simp;refine hK.out _ _ ⟨(iw _ ⟨J,0,none⟩ G _ n54).trans D.1,by rw[Dv _ _ _ _ bd];exact D.2⟩ (fun D=>?_);clear hK K;(try simp only[Act.put,aT,aU,aV]);refine Rd (rs:=[8]) (by kernel_rfl) (by simp) ?_;refine Rc rfl (fun K hK=>?_) Rn;go_simp;refine hK.out _ _ ⟨(iw _ ⟨O,0,none⟩ G _ n64).trans D.1,by rw[Dv _ _ _ _ bf];exact D.2⟩ (fun D=>?_);clear hK K;(try simp only[Act.put,aT,aU,aV]);refine wpAnyH_done (by kernel_rfl) ?_ _;clear D cb b8 cd b9;(try clear y0 y1 y2 y3 pq);go_wp2_with fail;obtain⟨WW,nT⟩:=aj ((WA.setCell ⟨J,0,none⟩ (.int .i64 (j:Nat))).setCell ⟨O,0,none⟩ (.int .i64 0))
   have ae:WW.heap[G]?=some (.cells #[.int .i64 t.op,.int .i64 t.num,.string t.name,.slice A' n2 c'] 64 (0,0)):=by
    rw[nT,iw _ ⟨O,0,none⟩ G _ n46,iw _ ⟨J,0,none⟩ G _ n45];exact br
   have af:WW.heap[J]?=some (.cells #[.int .i64 (j:Nat)] 3 (0,0)):=by
    rw[nT,iw _ ⟨O,0,none⟩ J _ n56];refine set1 (u:=.int .i64 0) ?_;rw[ab];exact(fH (fun e=>n45 e.symm)).trans bu
   have ag:WW.heap[O]?=some (.cells #[.int .i64 0] 29 (0,0)):=by
    rw[nT];refine set1 (u:=.int .i64 0) ?_;rw[iw _ ⟨J,0,none⟩ O _ (fun e=>n56 e.symm),ab];exact(fH (fun e=>n46 e.symm)).trans bv
   have ax:Hid (Below w.heap.size w WW):=by
    show Below _ _ _;rw[nT,ab];exact((((((bz.bq Ol.1 _).bq Ol.1 _).bq Ol.1 _).bq Ol.1 _).bq Ol.2.1 _).bq Ol.2.2.1 _).below (fun q h=>h) (lr _)
   have bL:Hid (aD (fun q=>w3.heap.size≤q) WW A' c' t):=by
    show aD _ _ _ _ _;rw[nT,ab];exact bJ.keep ((((((aR.refl.set (by omega) _).set (by omega) _).set (by omega) _).set (by omega) _).set (by omega) _).set (by omega) _) (fun _ _ h=>h)
   rw[←nT];clear nT;refine leaves_cons (f:=121) (args:=#[.pointer (some ⟨G,0,none⟩),.pointer (some ⟨J,0,none⟩),.pointer (some ⟨O,0,none⟩)]) (by simp) (by simp[go_sem]) ?_;refine(JY G J O WW).mono ?_;rintro e u' bp ⟨rfl,rfl,aJ⟩;rw[aJ];clear aJ;obtain⟨y0,y1,y2,y3,-⟩:=tC ae;have y5:=(yY af).1;have y6:=(yY ag).1;clear ae af ag;simp[Leaves,settle,results,Tryz.results81,go_sem,y0,y1,y2,y3,y5,y6];rw[dJ];exact⟨A',c',by unfold Tm.val;rw[←kU],bL.keep Kr (fun q _ h=>by omega),ax⟩
  ·have dJ:Hid (F=VX l w (dG,i,t.check)):=by show _=_;rw[bE];show VX l w (if t.check=0 then(t,j,0)else(dG,i,t.check))=_;rw[iN hz]
   obtain⟨zz,bi⟩:=ak t.check;rw[←bi]at hz⊢;have ct:(zz != 0)=true:=by simpa using hz
   go_wp2_with fail;obtain⟨WW,nT⟩:=aj ((((((w6.setCell ⟨G,0,none⟩ (.int .i64 0)).setCell ⟨G,1,none⟩ (.int .i64 0)).setCell ⟨G,2,none⟩ (.string ⟨#[]⟩)).setCell ⟨G,3,none⟩ (.slice none 0 0)).setCell ⟨J,0,none⟩ (.int .i64 (i:Nat))).setCell ⟨O,0,none⟩ (.int .i64 zz));clear y0 y1 y2 y3 pq y5 p5 y6 p6
   have ae:WW.heap[G]?=some (.cells #[.int .i64 0,.int .i64 0,.string ⟨#[]⟩,.slice none 0 0] 64 (0,0)):=by
    rw[nT,iw _ ⟨O,0,none⟩ G _ n46,iw _ ⟨J,0,none⟩ G _ n45];exact ni bZ
   have af:WW.heap[J]?=some (.cells #[.int .i64 (i:Nat)] 3 (0,0)):=by
    rw[nT,iw _ ⟨O,0,none⟩ J _ n56];exact set1 ((fH (fun e=>n45 e.symm)).trans aS)
   have ag:WW.heap[O]?=some (.cells #[.int .i64 zz] 29 (0,0)):=by
    rw[nT];refine set1 (u:=.int .i64 0) ?_;rw[iw _ ⟨J,0,none⟩ O _ (fun e=>n56 e.symm)];exact(fH (fun e=>n46 e.symm)).trans a6
   have ax:Hid (Below w.heap.size w WW):=by
    show Below _ _ _;rw[nT];exact((((((Fy.bq Ol.1 _).bq Ol.1 _).bq Ol.1 _).bq Ol.1 _).bq Ol.2.1 _).bq Ol.2.2.1 _).below (fun q h=>h) (lr _)
   rw[←nT];clear nT;refine leaves_cons (f:=121) (args:=#[.pointer (some ⟨G,0,none⟩),.pointer (some ⟨J,0,none⟩),.pointer (some ⟨O,0,none⟩)]) (by simp) (by simp[go_sem]) ?_;refine(JY G J O WW).mono ?_;rintro e u' bp ⟨rfl,rfl,aJ⟩;rw[aJ];clear aJ;obtain⟨y0,y1,y2,y3,-⟩:=tC ae;have y5:=(yY af).1;have y6:=(yY ag).1;clear ae af ag;simp[Leaves,settle,results,Tryz.results81,go_sem,y0,y1,y2,y3,y5,y6];rw[dJ,←bi];exact⟨none,0,rfl,aD.leaf (zl _),ax⟩
end Go.Proofs.YtkhoeoilamddaaaGreatDoor
