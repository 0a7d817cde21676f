/- Walks and plain words: PrsO PrsT PrsU. -/
import Derived.Test.YtkhoeoilamddaaaGreatDoorYPrsMx
import Derived.Recover
namespace Go.Proofs.YtkhoeoilamddaaaGreatDoor
open Go.RowKit
set_option linter.unusedVariables false
structure ahE(R:Nat)(A:Option Addr)(c d:Nat)(l:List Tok)(v:p8):Prop where
 term:KR R A c d l 122 (.pointer (some ⟨R,0,none⟩)) (fun _=>True) v.term
 imp:KR R A c d l 145 (.pointer (some ⟨R,0,none⟩)) (fun _=>True) v.imp
 not:KR R A c d l 173 (.pointer (some ⟨R,0,none⟩)) (fun _=>True) v.not
theorem Px(R:Nat)(A:Option Addr)(c d:Nat)(l:List Tok)(s:Option p8)(v:p8)(hd:d≤256)(hs:s=if d=256 then none else some v)(hv:d<256→ahE R A c (d+1) l v):ahE R A c d l (QB l s):=by
 have ht:s.map p8.term=if d=256 then none else some v.term:=by rw[hs];split<;>rfl
 have hi:s.map p8.imp=if d=256 then none else some v.imp:=by rw[hs];split<;>rfl
 have hn:s.map p8.not=if d=256 then none else some v.not:=by rw[hs];split<;>rfl
 have hunit:=abP R A c d l v.term hd (fun h=>(hv h).term);rw[←ht]at hunit;have hsum:=adB R A c d l _ hunit;have hnot:=adE R A c d l _ v.not hd hsum (fun h=>(hv h).not);rw[←hn]at hnot;have himp:=adC R A c d l _ v.imp hd hnot (fun h=>(hv h).imp);rw[←hi]at himp;exact⟨abM R A c d l _ himp,himp,hnot⟩
theorem aaT(R:Nat)(A:Option Addr)(c:Nat)(l:List Tok):∀r d,d+r=256→ahE R A c d l (lvl l r)
 |0,d,h=>by
  rw[lvl];exact Px R A c d l none (lvl l 0) (by omega) (by rw[iP (by omega)]) (fun h=>by omega)
 |r+1,d,h=>by
  rw[lvl];exact Px R A c d l (some (lvl l r)) (lvl l r) (by omega) (by rw[iN (by omega)]) (fun _=>aaT R A c l r (d+1) (by omega))
set_option linter.unusedSimpArgs false
set_option maxRecDepth 100000
set_option maxHeartbeats 1000000
def caught(j:Nat)(x:Int):List PanicEntry:=[{v:=.iface 181 (.agg #[.int .i64 (j:Nat),.int .i64 x]),recovered:=true}]
theorem Ri(b4 b5 b6:Nat)(j:Nat)(x:Int)(w:World)(u0 u1 u2 u3 u5 u6:Value)(h4:w.heap[b4]?=some (.cells #[u0,u1,u2,u3] 64 (0,0)))(h5:w.heap[b5]?=some (.cells #[u5] 3 (0,0)))(h6:w.heap[b6]?=some (.cells #[u6] 29 (0,0)))(hne:b4≠b5)(hne2:b4≠b6)(abQ:b5≠b6) :
 CallsD Tryz.prog 121 #[.pointer (some ⟨b4,0,none⟩),.pointer (some ⟨b5,0,none⟩),.pointer (some ⟨b6,0,none⟩)] (.panicking (thrown j x)) w fun e u' w'=>
  e=.returned (.tuple #[])∧u'=.panicking (caught j x)∧w'=(((((((w.alloc (.cells #[.int .i64 (j:Nat),.int .i64 x] 181)).drew.setCell ⟨b4,0,none⟩ (.int .i64 0)).setCell ⟨b4,1,none⟩ (.int .i64 0)).setCell ⟨b4,2,none⟩ (.string ⟨#[]⟩)).setCell ⟨b4,3,none⟩ (.slice none 0 0)).setCell ⟨b5,0,none⟩ (.int .i64 (j:Nat))).setCell ⟨b6,0,none⟩ (.int .i64 x)):=by
 obtain⟨y0,y1,y2,y3,pq⟩:=q4 h4;have y5:w.cell? ⟨b5,0,none⟩=some u5:=by rw[cR w b5 0 _ _ (0,0) h5];rfl
 have p5:w.frozen? ⟨b5,0,none⟩=false:=by simp[World.frozen?,h5]
 have y6:w.cell? ⟨b6,0,none⟩=some u6:=by rw[cR w b6 0 _ _ (0,0) h6];rfl
 have p6:w.frozen? ⟨b6,0,none⟩=false:=by simp[World.frozen?,h6]
 have l4:=lH h4;have l5:=lH h5;have l6:=lH h6;have n4:b4≠w.heap.size:=by omega
 have n5:b5≠w.heap.size:=by omega
 have n6:b6≠w.heap.size:=by omega
 obtain⟨WW,HWW⟩:=ak ((((((((w.alloc (.cells #[.int .i64 (j:Nat),.int .i64 x] 181)).drew.setCell ⟨b4,0,none⟩ (.int .i64 0)).setCell ⟨b4,1,none⟩ (.int .i64 0)).setCell ⟨b4,2,none⟩ (.string ⟨#[]⟩)).setCell ⟨b4,3,none⟩ (.slice none 0 0)).setCell ⟨b5,0,none⟩ (.int .i64 (j:Nat))).setCell ⟨b6,0,none⟩ (.int .i64 x)));rw[←HWW];refine callsD_of_wpS Tryz.func121 rfl fun c₀ cs hu=>?_
 apply wpS_seq
 apply wpS_region
 simp[wpOpsS,go_sem,recoverD,hu,Tryz.ntmps121,Exit.thenS,thrown];refine wpS_of_wp ?_;obtain⟨Q,hQ⟩:∃Q:Exit→Act→World→Prop,Q=fun e a' w'=>e=.normal∧a'.defers=[]∧w'=WW:=⟨_,rfl⟩;refine Code.wp_mono (Q:=Q) ?hq ?hw
 case hq=>
  intro e a' w' h;rw[hQ]at h;obtain⟨rfl,hd,rfl⟩:=h;refine⟨hd,_,rfl,.tuple #[],results_none rfl _ _ _,?_⟩;simp[caught]
 case hw=>
  have HQP:Hid (∀c a w,Q (.panic c) a w→False):=fun c a w h=>by rw[hQ]at h;cases h.1
  have HQ:=Hd hQ;clear hQ hu;have lM:∀(v:Value)(w:World),(Instr.typeAssert (.iface 181 v) 20 181 true).run Tryz.prog w=.ok (.tuple #[v,.bool true]) w:=fun _ _=>by kernel_rfl
  change Code.wp _ _ _ {tmps:=#[.pointer (some ⟨b4,0,none⟩),.pointer (some ⟨b5,0,none⟩),.pointer (some ⟨b6,0,none⟩),undef,undef,undef,.iface 181 (.agg #[.int .i64 j,.int .i64 x]),undef,undef,undef,undef,undef,undef,undef,undef,undef,undef],defers:=[]} w
  go_wp2_with fail
  --REGION
  obtain⟨bw,hbw⟩:=aj w.heap.size;obtain⟨wb,hwb⟩:=aj (w.alloc (.cells #[.int .i64 (j:Nat),.int .i64 x] 181));obtain⟨wa,af_⟩:=aj wb.drew;have hwa:wa=(w.alloc (.cells #[.int .i64 (j:Nat),.int .i64 x] 181)).drew:=by rw[af_,hwb]
  have hrow:wa.heap[bw]?=some (.cells #[.int .i64 (j:Nat),.int .i64 x] 181 (0,0)):=by rw[hwa,hbw];exact eu w _
  have hold:∀q,q<bw→wa.heap[q]?=w.heap[q]?:=fun q hq=>by rw[hwa];exact((Br w.heap.size w).alloc (lr _) _).block q (by omega)
  rw[←hwb,←hbw];rw[←hbw]at n4 n5 n6 l4 l5 l6;clear y0 y1 y2 y3 pq y5 p5 y6 p6;obtain⟨y0,y1,y2,y3,pq⟩:=q4 ((hold b4 l4).trans h4);have y5:wa.cell? ⟨b5,0,none⟩=some u5:=by rw[cR wa b5 0 _ _ (0,0) ((hold b5 l5).trans h5)];rfl
  have p5:wa.frozen? ⟨b5,0,none⟩=false:=by simp[World.frozen?,(hold b5 l5).trans h5]
  have y6:wa.cell? ⟨b6,0,none⟩=some u6:=by rw[cR wa b6 0 _ _ (0,0) ((hold b6 l6).trans h6)];rfl
  have p6:wa.frozen? ⟨b6,0,none⟩=false:=by simp[World.frozen?,(hold b6 l6).trans h6]
  have yw0:wa.cell? ⟨bw,0,none⟩=some (.int .i64 (j:Nat)):=by rw[cR wa bw 0 _ _ (0,0) hrow];rfl
  have yw1:wa.cell? ⟨bw,1,none⟩=some (.int .i64 x):=by rw[cR wa bw 1 _ _ (0,0) hrow];rfl
  have HWA:=Lib.hid hwa;clear hwa hwb hbw hrow hold h4 h5 h6 l4 l5 l6;refine wp_region_held_drew (S:=fun w'=>w'.cell? ⟨bw,0,none⟩=some (.int .i64 (j:Nat))∧w'.cell? ⟨bw,1,none⟩=some (.int .i64 x)) (by kernel_rfl) (by rw[← af_]; exact⟨yw0,yw1⟩) (fun hHeld=>?_);rw[← af_]at hHeld⊢;clear af_;refine wpAnyH_take (i:=0) (oi:={dst:=some 12,op:=Op.build 64 #[],type:=64,pos := "ttext.go:354",after:=#[],guard:=none}) (v:=?_) rfl (by kernel_rfl) (by kernel_rfl) (by kernel_rfl) (fun _ _ _ h=>(HQP _ _ _ h).elim) (Or.inl ⟨by rfl,?hy⟩) (by assumption) ?_
  case hy=>
   intro w0 hSw;have e0:=hSw.1;have e1:=hSw.2;clear hSw;go_simp
   (first|done|with_reducible rfl)
  (try simp only[Act.put,aT,aU,aV]);refine wpAnyH_take (i:=1) (oi:={dst:=some 13,op:=Op.fieldAddr 181 (Operand.tmp 4) 0,type:=0,pos := "ttext.go:354",after:=#[{on:=5,ground:=Ground.gcOnly Departure.lateStores}],guard:=none}) (v:=?_) rfl (by kernel_rfl) (by kernel_rfl) (by kernel_rfl) (fun _ _ _ h=>(HQP _ _ _ h).elim) (Or.inl ⟨by rfl,?hy⟩) (by assumption) ?_
  case hy=>
   intro w0 hSw;have e0:=hSw.1;have e1:=hSw.2;clear hSw;go_simp
   (first|done|with_reducible rfl)
  (try simp only[Act.put,aT,aU,aV]);refine wpAnyH_take (i:=2) (oi:={dst:=some 14,op:=Op.load 3 (Operand.tmp 13),type:=3,pos := "ttext.go:354",after:=#[{on:=1,ground:=Ground.data},{on:=5,ground:=Ground.gcOnly Departure.lateStores}],guard:=none}) (v:=?_) rfl (by kernel_rfl) (by kernel_rfl) (by kernel_rfl) (fun _ _ _ h=>(HQP _ _ _ h).elim) (Or.inl ⟨by rfl,?hy⟩) (by assumption) ?_
  case hy=>
   intro w0 hSw;have e0:=hSw.1;have e1:=hSw.2;clear hSw;go_simp
   (first|done|with_reducible rfl)
  (try simp only[Act.put,aT,aU,aV]);refine wpAnyH_take (i:=3) (oi:={dst:=some 15,op:=Op.fieldAddr 181 (Operand.tmp 4) 1,type:=0,pos := "ttext.go:354",after:=#[{on:=6,ground:=Ground.gcOnly Departure.lateStores}],guard:=none}) (v:=?_) rfl (by kernel_rfl) (by kernel_rfl) (by kernel_rfl) (fun _ _ _ h=>(HQP _ _ _ h).elim) (Or.inl ⟨by rfl,?hy⟩) (by assumption) ?_
  case hy=>
   intro w0 hSw;have e0:=hSw.1;have e1:=hSw.2;clear hSw;go_simp
   (first|done|with_reducible rfl)
  (try simp only[Act.put,aT,aU,aV]);refine wpAnyH_take (i:=4) (oi:={dst:=some 16,op:=Op.load 29 (Operand.tmp 15),type:=29,pos := "ttext.go:354",after:=#[{on:=3,ground:=Ground.data},{on:=6,ground:=Ground.gcOnly Departure.lateStores}],guard:=none}) (v:=?_) rfl (by kernel_rfl) (by kernel_rfl) (by kernel_rfl) (fun _ _ _ h=>(HQP _ _ _ h).elim) (Or.inl ⟨by rfl,?hy⟩) (by assumption) ?_
  case hy=>
   intro w0 hSw;have e0:=hSw.1;have e1:=hSw.2;clear hSw;go_simp
   (first|done|with_reducible rfl)
  (try simp only[Act.put,aT,aU,aV]);refine Rd (rs:=[5]) (by kernel_rfl) (by simp) ?_;refine Rc rfl (fun K hK=>?_) Rn;go_simp;refine hK.out _ _ ⟨by rw[Dv _ _ _ _ n4,Dv _ _ _ _ n4,Dv _ _ _ _ n4,Dv _ _ _ _ n4];exact hHeld.1,by rw[Dv _ _ _ _ n4,Dv _ _ _ _ n4,Dv _ _ _ _ n4,Dv _ _ _ _ n4];exact hHeld.2⟩ (fun hHeld=>?_);clear hK K;(try simp only[Act.put,aT,aU,aV]);refine Rd (rs:=[6]) (by kernel_rfl) (by simp) ?_;refine Rc rfl (fun K hK=>?_) Rn;go_simp;refine hK.out _ _ ⟨by rw[Dv _ _ _ _ n5];exact hHeld.1,by rw[Dv _ _ _ _ n5];exact hHeld.2⟩ (fun hHeld=>?_);clear hK K;(try simp only[Act.put,aT,aU,aV]);refine Rd (rs:=[7]) (by kernel_rfl) (by simp) ?_;refine Rc rfl (fun K hK=>?_) Rn;go_simp;refine hK.out _ _ ⟨by rw[Dv _ _ _ _ n6];exact hHeld.1,by rw[Dv _ _ _ _ n6];exact hHeld.2⟩ (fun hHeld=>?_);clear hK K;(try simp only[Act.put,aT,aU,aV]);refine wpAnyH_done (by kernel_rfl) ?_ _
  --END
  refine(show Q _ _ _ from ?_);rw[HQ];refine⟨rfl,rfl,?_⟩;rw[HWW,HWA]
set_option maxHeartbeats 4000000
abbrev tC:=@q4
theorem JY(b4 b5 b6:Nat)(w:World) :
 CallsD Tryz.prog 121 #[.pointer (some ⟨b4,0,none⟩),.pointer (some ⟨b5,0,none⟩),.pointer (some ⟨b6,0,none⟩)] .returning w fun e u' w'=>e=.returned (.tuple #[])∧u'=.returning∧w'=w:=by
 refine callsD_of_wpS Tryz.func121 rfl fun c₀ cs hu=>?_
 apply wpS_seq
 apply wpS_region
 simp[wpOpsS,go_sem,recoverD,hu,Tryz.ntmps121,Exit.thenS];refine wpS_of_wp ?_;obtain⟨Q,hQ⟩:∃Q:Exit→Act→World→Prop,Q=fun e a' w'=>e=.normal∧a'.defers=[]∧w'=w:=⟨_,rfl⟩;refine Code.wp_mono (Q:=Q) ?hq ?hw
 case hq=>
  intro e a' w' h;rw[hQ]at h;obtain⟨rfl,hd,rfl⟩:=h;refine⟨hd,.returning,?_,.tuple #[],results_none rfl _ _ _,?_⟩
  ·cases c₀;simp_all
  ·simp
 case hw=>
  have HQ:=Hd hQ;clear hQ hu
  change Code.wp _ _ _ {tmps:=#[.pointer (some ⟨b4,0,none⟩),.pointer (some ⟨b5,0,none⟩),.pointer (some ⟨b6,0,none⟩),undef,undef,undef,.nilIface,undef,undef,undef,undef,undef,undef,undef,undef,undef,undef],defers:=[]} w
  go_wp2
  refine(show Q _ _ _ from ?_);rw[HQ];exact⟨rfl,rfl,rfl⟩
structure dP(w:World)(A:Option Addr)(c:Nat)(l:List Tok):Prop where
 toks:wF w A l
 cap:l.length≤c
 bU:c≤maxLen
 len:l.length≤100000
 txt:∀t∈l,t.text.length≤100000
 rng:∀t∈l,-1000000≤t.n∧t.n≤1000000
 old:∀a,A=some a→a.block<w.heap.size
theorem dP.pt{w w':World}{A:Option Addr}{c R:Nat}{l:List Tok}(h:dP w A c l)(hb:Below w.heap.size w w')(hR:w.heap.size≤R):iI w' R A c l:=by
 refine⟨?_,h.cap,h.bU,h.len,?_,h.txt,h.rng⟩
 ·rcases h.toks with h0|⟨b,off,rfl,hbl,hc⟩
  ·exact .inl h0
  ·exact .inr ⟨b,off,rfl,lL hbl hb.size,fun k z hz j hj=>by rw[hb.cell (p:=⟨b,_,none⟩) hbl];exact hc k z hz j hj⟩
 ·intro a ha;have:=h.old a ha;omega
theorem CG{P:Program}{fn:Func}{R:Ending→World→Prop}{tmps ag2:Array Value}(h:results fn ag2=results fn tmps):∀(ds:List Deferred)(u:FrameMode)(w:World),Leaves P fn ag2 R ds u w→Leaves P fn tmps R ds u w
 |[],.returning,w,⟨v,hv,hr⟩=>⟨v,by rw[←h];exact hv,hr⟩
 |[],.panicking c,w,hh=>hh
 |[],.run,w,hh=>hh
 |d::ds,u,w,⟨hu,fv,cap,f,args,h1,h2,h3⟩=>⟨hu,fv,cap,f,args,h1,h2,h3.mono fun e u' w' hh=>by
  cases e with
  |returned v=>exact CG h ds _ _ hh
  |panicked c=>exact CG h ds _ _ hh
  |outgrown=>exact hh⟩
theorem Rj(tm:Array Value)(v:Value){k:Nat}(hk:7≤k):results Tryz.f81 (tm.setIfInBounds k v)=results Tryz.f81 tm:=by
 have g:∀m,m<7→(tm.setIfInBounds k v)[m]?=tm[m]?:=fun m hm=>by rw[Array.getElem?_setIfInBounds,iN (by omega)]
 have g4:=g 4 (by decide);have g5:=g 5 (by decide);have g6:=g 6 (by decide);unfold results;rw[Tryz.results81];simp only[Array.getD_eq_getD_getElem?];simp[g4,g5,g6]
theorem yY{w:World}{b:Nat}{u:Value}{T:TypeId}(h:w.heap[b]?=some (.cells #[u] T (0,0))):w.cell? ⟨b,0,none⟩=some u∧w.frozen? ⟨b,0,none⟩=false:=⟨by rw[cR w b 0 _ _ (0,0) h];rfl,by simp[World.frozen?,h]⟩
theorem set1{W:World}{b:Nat}{u v:Value}{T:TypeId}(h:W.heap[b]?=some (.cells #[u] T (0,0))):(W.setCell ⟨b,0,none⟩ v).heap[b]?=some (.cells #[v] T (0,0)):=by simp[World.setCell,Array.getElem?_modify,h]
def ajq(i:Nat)(r:Rs Tm):Tm×Nat×Int:=match r with
 |.bad j e=>(dG,j,e)
 |.ok t j=>if t.check=0 then(t,j,0)else(dG,i,t.check)
def VX(l:List Tok)(w:World)(r:Tm×Nat×Int)(e:Ending)(w':World):Prop:=∃A' c',e=.returned (.tuple #[r.1.val A' c',.int .i64 (r.2.1:Nat),.int .i64 r.2.2])∧aD (fun q=>w.heap.size≤q) w' A' c' r.1∧Below w.heap.size w w'
theorem Py(l:List Tok)(A:Option Addr)(c i:Nat)(w:World)(hi:i≤l.length)(hT:dP w A c l) :
 Calls Tryz.prog 81 #[.slice A l.length c,.int .i64 (i:Nat)] w (VX l w (iU l i)):=by
 obtain⟨n,HN⟩:=ak l.length;have hlen:=hT.len;have hcap:=hT.cap;have aQ:=hT.bU;unfold maxLen at aQ;rw[←HN]at hi hlen hcap⊢;have hmf:∀(fn:Fn)(first cap:Array Value)(w:World),(Instr.makeFunc fn first cap).run Tryz.prog w=.ok (.func fn first cap) w:=fun _ _ _ _=>rfl;obtain⟨F,HF⟩:=ak (VX l w (iU l i));rw[←HF];have HT:=Hd hT;have hi0:¬(i:Int)<0:=by omega
 have hi1:¬(n:Int)<(i:Int):=by omega
 clear hT
 go_enter_defers Tryz.func81,Tryz.ntmps81
 go_wp2_with fail;obtain⟨b4,hb4⟩:=aj w.heap.size;obtain⟨b5,hb5⟩:=aj (w.heap.size+1);obtain⟨b6,hb6⟩:=aj (w.heap.size+1+1);obtain⟨R,hR⟩:=aj (w.heap.size+1+1+1);obtain⟨w3,hw3⟩:=aj ((((w.alloc (.cells #[.int .i64 0,.int .i64 0,.string ⟨#[]⟩,.slice none 0 0] 64)).alloc (.cells #[.int .i64 0] 3)).alloc (.cells #[.int .i64 0] 29)).alloc (.cells #[.slice A n c,.int .i64 (i:Nat),.int .i64 0] 186));rw[←hw3,←hR,←hb6,←hb5,←hb4];have alR:=Hd hb4;have n45:b4≠b5:=by omega
 have n46:b4≠b6:=by omega
 have n56:b5≠b6:=by omega
 have n54:b4≠b5:=n45;have n64:b4≠b6:=n46;have n4R:b4≠R:=by omega
 have n5R:b5≠R:=by omega
 have n6R:b6≠R:=by omega
 have r4:w3.heap[b4]?=some (.cells #[.int .i64 0,.int .i64 0,.string ⟨#[]⟩,.slice none 0 0] 64 (0,0)):=by
  rw[hw3,hb4];refine(((Br _ _).alloc (lr _) _).block _ (by simp;omega)).trans ((((Br _ _).alloc (lr _) _).block _ (by simp;omega)).trans ((((Br _ _).alloc (lr _) _).block _ (by simp)).trans (eu w _)))
 have r5:w3.heap[b5]?=some (.cells #[.int .i64 0] 3 (0,0)):=by
  rw[hw3,hb5];refine(((Br _ _).alloc (lr _) _).block _ (by simp)).trans ((((Br _ _).alloc (lr _) _).block _ (by simp)).trans ?_);have h:=eu (w.alloc (.cells #[.int .i64 0,.int .i64 0,.string ⟨#[]⟩,.slice none 0 0] 64)) (.cells #[.int .i64 0] 3)
  simpa using h
 have r6:w3.heap[b6]?=some (.cells #[.int .i64 0] 29 (0,0)):=by
  rw[hw3,hb6];refine(((Br _ _).alloc (lr _) _).block _ (by simp)).trans ?_;have h:=eu ((w.alloc (.cells #[.int .i64 0,.int .i64 0,.string ⟨#[]⟩,.slice none 0 0] 64)).alloc (.cells #[.int .i64 0] 3)) (.cells #[.int .i64 0] 29)
  simpa using h
 have hrd:iZ w3 R A n c i 0:=by
  rw[hw3,hR];have h:=eu (((w.alloc (.cells #[.int .i64 0,.int .i64 0,.string ⟨#[]⟩,.slice none 0 0] 64)).alloc (.cells #[.int .i64 0] 3)).alloc (.cells #[.int .i64 0] 29)) (.cells #[.slice A n c,.int .i64 (i:Nat),.int .i64 0] 186);unfold iZ
  simpa using h
 have hbel:Below w.heap.size w w3:=by
  rw[hw3];exact((((Br _ _).alloc (lr _) _).alloc (by simp) _).alloc (by simp;omega) _).alloc (by simp;omega) _
 have adQ:w3.heap.size=R+1:=by rw[hw3,hR];simp
 have Ol:w.heap.size≤b4∧w.heap.size≤b5∧w.heap.size≤b6∧w.heap.size≤R:=by omega
 have hb3:b4<w3.heap.size∧b5<w3.heap.size∧b6<w3.heap.size:=by omega
 obtain⟨r,hr⟩:=aj ((lvl l 256).term i)
 have hcall:Calls Tryz.prog 122 #[.pointer (some ⟨R,0,none⟩)] w3 (PQ R A c 0 l i r w3):=by
  rw[hr];exact(aaT R A c l 256 0 (by omega)).term i w3 (by rw[←HN];exact hi) (by rw[←HN];exact hrd) (HT.pt hbel (by omega)) trivial
 have bE:Hid (F=VX l w (ajq i r)):=by show _=_;rw[HF,hr];rfl
 have Tq:Hid (∀t j,r=.ok t j→Gd l i t j):=fun t j h=>(IV l 256).term i t j (by rw[←hr];exact h);have HC:=Hd hcall;have HR4:=Hd r4;have OL:=Hd r5;have o7:=Hd r6;have nH:=Hd hbel;clear hb4 hb5 hb6 hR hw3 r4 r5 r6 hrd hbel hcall hr HF;refine HC.mono ?_;intro e w4 hq
 rcases r with⟨j,x⟩|⟨t,j⟩
 ·obtain⟨rfl,iC⟩:=hq;have uX:=Hd iC;have q4:=(iC.block b4 hb3.1 n4R).trans HR4;have q5:=(iC.block b5 hb3.2.1 n5R).trans OL;have q6:=(iC.block b6 hb3.2.2 n6R).trans o7;have hs4:=iC.size;obtain⟨WW,nT⟩:=aj ((((((((w4.alloc (.cells #[.int .i64 (j:Nat),.int .i64 x] 181)).drew.setCell ⟨b4,0,none⟩ (.int .i64 0)).setCell ⟨b4,1,none⟩ (.int .i64 0)).setCell ⟨b4,2,none⟩ (.string ⟨#[]⟩)).setCell ⟨b4,3,none⟩ (.slice none 0 0)).setCell ⟨b5,0,none⟩ (.int .i64 (j:Nat))).setCell ⟨b6,0,none⟩ (.int .i64 x)));have ahF:=Ri b4 b5 b6 j x w4 _ _ _ _ _ _ q4 q5 q6 n45 n46 n56;rw[←nT]at ahF;have ajr:=Hd ahF;have h4a:(w4.alloc (.cells #[.int .i64 (j:Nat),.int .i64 x] 181)).drew.heap[b4]?=some (.cells #[.int .i64 0,.int .i64 0,.string ⟨#[]⟩,.slice none 0 0] 64 (0,0)):=aK (W:=w4) q4
  have h4f:WW.heap[b4]?=some (.cells #[.int .i64 0,.int .i64 0,.string ⟨#[]⟩,.slice none 0 0] 64 (0,0)):=by
   rw[nT,iw _ ⟨b6,0,none⟩ b4 _ n46,iw _ ⟨b5,0,none⟩ b4 _ n45];exact ni h4a
  have h5a:(w4.alloc (.cells #[.int .i64 (j:Nat),.int .i64 x] 181)).drew.heap[b5]?=some (.cells #[.int .i64 0] 3 (0,0)):=aK (W:=w4) q5;have h6a:(w4.alloc (.cells #[.int .i64 (j:Nat),.int .i64 x] 181)).drew.heap[b6]?=some (.cells #[.int .i64 0] 29 (0,0)):=aK (W:=w4) q6
  have h5f:WW.heap[b5]?=some (.cells #[.int .i64 (j:Nat)] 3 (0,0)):=by
   rw[nT,iw _ ⟨b6,0,none⟩ b5 _ n56];exact set1 ((fH (fun e=>n45 e.symm)).trans h5a)
  have h6f:WW.heap[b6]?=some (.cells #[.int .i64 x] 29 (0,0)):=by
   rw[nT];refine set1 (u:=.int .i64 0) ?_;rw[iw _ ⟨b5,0,none⟩ b6 _ (fun e=>n56 e.symm)];exact(fH (fun e=>n46 e.symm)).trans h6a
  have adR:Hid (Below w.heap.size w WW):=by
   show Below _ _ _;have o4:Only (fun q=>w.heap.size≤q) w w4:=(Ob nH).trans (uX.mono (fun q h=>by show w.heap.size≤q;omega));have o5:Only (fun q=>w.heap.size≤q) w (w4.alloc (.cells #[.int .i64 (j:Nat),.int .i64 x] 181)).drew:=(o4.trans (Ob ((Br _ _).alloc (lr _) _))).drewN 1;rw[nT];exact((((((o5.bq Ol.1 _).bq Ol.1 _).bq Ol.1 _).bq Ol.1 _).bq Ol.2.1 _).bq Ol.2.2.1 _).below (fun q h=>h) (lr _)
  clear nT ahF q4 q5 q6 iC h4a h5a h6a;refine leaves_cons (f:=121) (args:=#[.pointer (some ⟨b4,0,none⟩),.pointer (some ⟨b5,0,none⟩),.pointer (some ⟨b6,0,none⟩)]) (by simp) (by simp[go_sem]) ?_;refine ajr.mono ?_;rintro e u' w'' ⟨rfl,rfl,rfl⟩;obtain⟨y0,y1,y2,y3,-⟩:=tC h4f;have y5:=(yY h5f).1;have y6:=(yY h6f).1;clear h4f h5f h6f ajr;simp[Leaves,settle,caught,results,Tryz.results81,go_sem,y0,y1,y2,y3,y5,y6];rw[bE];exact⟨none,0,rfl,aD.leaf (zl _),adR⟩
 ·obtain⟨⟨A',c',rfl,hV⟩,hij,hjl,vD,iC⟩:=hq;have ahG:=Hd (Tq t j rfl);have uX:=Hd iC;have q4:=(iC.block b4 hb3.1 n4R).trans HR4;have q5:=(iC.block b5 hb3.2.1 n5R).trans OL;have q6:=(iC.block b6 hb3.2.2 n6R).trans o7;have hs4:=iC.size;obtain⟨n2,hn2⟩:=aj t.kids.length;have kU:=Hd hn2;have alS:b4<w4.heap.size:=by omega
  obtain⟨w5,gH⟩:=aj ((((w4.setCell ⟨b4,0,none⟩ (.int .i64 t.op)).setCell ⟨b4,1,none⟩ (.int .i64 t.num)).setCell ⟨b4,2,none⟩ (.string t.name)).setCell ⟨b4,3,none⟩ (.slice A' n2 c'));have pU:Hid (w5.heap[b4]?=some (.cells #[.int .i64 t.op,.int .i64 t.num,.string t.name,.slice A' n2 c'] 64 (0,0))):=by show _=_;rw[gH];exact ni q4
  have HV5:Hid (aD (fun q=>w3.heap.size≤q) w5 A' c' t):=by
   show aD _ _ _ _ _;rw[gH];exact hV.keep ((((aR.refl.set (by omega) _).set (by omega) _).set (by omega) _).set (by omega) _) (fun _ _ h=>h)
  have aku:Hid (w5.heap[b5]?=some (.cells #[.int .i64 0] 3 (0,0))):=by show _=_;rw[gH];exact(fH (fun e=>n45 e.symm)).trans q5
  have akv:Hid (w5.heap[b6]?=some (.cells #[.int .i64 0] 29 (0,0))):=by show _=_;rw[gH];exact(fH (fun e=>n46 e.symm)).trans q6
  have akw:Hid (w5.cell? ⟨R,1,none⟩=some (.int .i64 (j:Nat))):=by
   show _=_;rw[gH,Dv _ _ _ _ n4R,Dv _ _ _ _ n4R,Dv _ _ _ _ n4R,Dv _ _ _ _ n4R];exact vD.c1
  have HO5:Hid (Only (fun q=>w.heap.size≤q) w w5):=by
   show Only _ _ _;rw[gH];exact(((((Ob nH).trans (iC.mono (fun q h=>by show w.heap.size≤q;omega))).bq Ol.1 _).bq Ol.1 _).bq Ol.1 _).bq Ol.1 _
  have hs5:w5.heap.size=w4.heap.size:=by rw[gH];simp
  have alT:R<w4.heap.size:=vD.lt;obtain⟨y0,y1,y2,y3,pq⟩:=tC q4;have HW5:=Hd gH;unfold Tm.val;rw[←hn2];have hck:=DC t A' c' w5 HV5.toV (by have:=ahG.sz;have:=ahG.jl;have:=ahG.ij;rw[←HN]at *;omega);unfold Tm.val at hck;rw[←hn2]at hck;have IC:=Hd hck;clear gH q4 q5 q6 iC hV vD hn2 hck;go_wp2_with fail;rw[←HW5];clear y0 y1 y2 y3 pq;obtain⟨y0,y1,y2,y3,pq⟩:=tC pU;(try go_wp2_with fail);refine IC.mono ?_;rintro e w6 ⟨rfl,hb6⟩;have hs6:=hb6.size;have akx:b4<w5.heap.size:=by omega
  have HV6:Hid (aD (fun q=>w3.heap.size≤q) w6 A' c' t):=HV5.keep (Kb hb6) (fun _ _ h=>h);have bZ:=Hd ((hb6.block b4 akx).trans pU);have ahH:=Hd ((hb6.block b5 (by omega)).trans aku);have ahI:=Hd ((hb6.block b6 (by omega)).trans akv);have aky:=Hd ((hb6.cell (p:=⟨R,1,none⟩) (by show R<_;omega)).trans akw);have Fy:=Hd (HO5.trans (Ob hb6));clear hb6 IC y0 y1 y2 y3 pq;obtain⟨y0,y1,y2,y3,pq⟩:=tC bZ;obtain⟨y5,p5⟩:=yY ahH;obtain⟨y6,p6⟩:=yY ahI
  by_cases hz:t.check=0
  ·have dJ:Hid (F=VX l w (t,j,0)):=by show _=_;rw[bE];show VX l w (if t.check=0 then(t,j,0)else(dG,i,t.check))=_;rw[iP hz]
   rw[hz];clear hz;go_wp2_with fail;obtain⟨wd,hwd⟩:=aj w6.drew;have hB:wd.heap[b4]?=some (.cells #[.int .i64 t.op,.int .i64 t.num,.string t.name,.slice A' n2 c'] 64 (0,0)):=by rw[hwd];exact bZ
   have hRD:wd.cell? ⟨R,1,none⟩=some (.int .i64 (j:Nat)):=by rw[hwd];exact aky
   have h5r:wd.heap[b5]?=some (.cells #[.int .i64 0] 3 (0,0)):=by rw[hwd];exact ahH
   have h6r:wd.heap[b6]?=some (.cells #[.int .i64 0] 29 (0,0)):=by rw[hwd];exact ahI
   have HO7:Hid (Only (fun q=>w.heap.size≤q) w wd):=by show Only _ _ _;rw[hwd];exact Fy.drewN 1
   have HV7:Hid (aD (fun q=>w3.heap.size≤q) wd A' c' t):=by show aD _ _ _ _ _;rw[hwd];exact HV6.keep ⟨lr _,fun _ _ _=>rfl⟩ (fun _ _ h=>h)
   have HH5:=Lib.hid h5r;have HH6:=Lib.hid h6r;clear y0 y1 y2 y3 pq y5 p5 y6 p6;obtain⟨y5,p5⟩:=yY h5r;obtain⟨y6,p6⟩:=yY h6r;clear h5r h6r;have HQD:=Lib.hid (fun(k:Nat)(hk:7≤k)(cc:List PanicEntry)(a:Act)(w:World)(v:Value)(h:bodyPostD Tryz.prog Tryz.f81 F (.panic cc) (a.put (some k) v) w)=>(CG (Rj a.tmps v hk) _ _ _ h:bodyPostD Tryz.prog Tryz.f81 F (.panic cc) a w));refine wp_region_held_drew (S:=fun w'=>w'.heap[b4]?=some (.cells #[.int .i64 t.op,.int .i64 t.num,.string t.name,.slice A' n2 c'] 64 (0,0))∧w'.cell? ⟨R,1,none⟩=some (.int .i64 (j:Nat))) (by kernel_rfl) (by rw[← hwd]; exact⟨hB,hRD⟩) (fun hHeld=>?_);rw[← hwd]at hHeld⊢;clear hwd hB hRD;refine wpAnyH_take (i:=0) (oi:={dst:=some 33,op:=Op.load 64 (Operand.tmp 4),type:=64,pos := "ttext.go:364",after:=#[],guard:=none}) (v:=?_) rfl (by kernel_rfl) (by kernel_rfl) (by kernel_rfl) (fun c a w h=>HQD 33 (by decide) c a w _ h) (Or.inl ⟨by rfl,?hy⟩) (by assumption) ?_
   case hy=>
    intro w0 hSw;obtain⟨e0,e1,e2,e3,-⟩:=tC hSw.1;have e4:=hSw.2;clear hSw;go_simp
    (first|done|with_reducible rfl)
   (try simp only[Act.put,aT,aU,aV]);refine wpAnyH_take (i:=1) (oi:={dst:=some 34,op:=Op.move (Operand.tmp 7),type:=182,pos := "ttext.go:364",after:=#[],guard:=none}) (v:=?_) rfl (by kernel_rfl) (by kernel_rfl) (by kernel_rfl) (fun c a w h=>HQD 34 (by decide) c a w _ h) (Or.inl ⟨by rfl,?hy⟩) (by assumption) ?_
   case hy=>
    intro w0 hSw;obtain⟨e0,e1,e2,e3,-⟩:=tC hSw.1;have e4:=hSw.2;clear hSw;go_simp
    (first|done|with_reducible rfl)
   (try simp only[Act.put,aT,aU,aV]);refine wpAnyH_take (i:=2) (oi:={dst:=some 35,op:=Op.nilCheck (Operand.tmp 34),type:=0,pos := "ttext.go:364",after:=#[{on:=1,ground:=Ground.data}],guard:=none}) (v:=?_) rfl (by kernel_rfl) (by kernel_rfl) (by kernel_rfl) (fun c a w h=>HQD 35 (by decide) c a w _ h) (Or.inl ⟨by rfl,?hy⟩) (by assumption) ?_
   case hy=>
    intro w0 hSw;obtain⟨e0,e1,e2,e3,-⟩:=tC hSw.1;have e4:=hSw.2;clear hSw;go_simp
    (first|done|with_reducible rfl)
   (try simp only[Act.put,aT,aU,aV]);refine wpAnyH_take (i:=3) (oi:={dst:=some 36,op:=Op.fieldAddr 186 (Operand.tmp 35) 0,type:=0,pos := "ttext.go:364",after:=#[{on:=2,ground:=Ground.data}],guard:=none}) (v:=?_) rfl (by kernel_rfl) (by kernel_rfl) (by kernel_rfl) (fun c a w h=>HQD 36 (by decide) c a w _ h) (Or.inl ⟨by rfl,?hy⟩) (by assumption) ?_
   case hy=>
    intro w0 hSw;obtain⟨e0,e1,e2,e3,-⟩:=tC hSw.1;have e4:=hSw.2;clear hSw;go_simp
    (first|done|with_reducible rfl)
   (try simp only[Act.put,aT,aU,aV]);refine wpAnyH_take (i:=4) (oi:={dst:=some 37,op:=Op.fieldAddr 184 (Operand.tmp 36) 1,type:=0,pos := "ttext.go:364",after:=#[{on:=3,ground:=Ground.data}],guard:=none}) (v:=?_) rfl (by kernel_rfl) (by kernel_rfl) (by kernel_rfl) (fun c a w h=>HQD 37 (by decide) c a w _ h) (Or.inl ⟨by rfl,?hy⟩) (by assumption) ?_
   case hy=>
    intro w0 hSw;obtain⟨e0,e1,e2,e3,-⟩:=tC hSw.1;have e4:=hSw.2;clear hSw;go_simp
    (first|done|with_reducible rfl)
   (try simp only[Act.put,aT,aU,aV]);refine wpAnyH_take (i:=5) (oi:={dst:=some 38,op:=Op.load 3 (Operand.tmp 37),type:=3,pos := "ttext.go:364",after:=#[{on:=4,ground:=Ground.data}],guard:=none}) (v:=?_) rfl (by kernel_rfl) (by kernel_rfl) (by kernel_rfl) (fun c a w h=>HQD 38 (by decide) c a w _ h) (Or.inl ⟨by rfl,?hy⟩) (by assumption) ?_
   case hy=>
    intro w0 hSw;obtain⟨e0,e1,e2,e3,-⟩:=tC hSw.1;have e4:=hSw.2;clear hSw;go_simp
    (first|done|with_reducible rfl)
   (try simp only[Act.put,aT,aU,aV]);refine Rd (rs:=[6]) (by kernel_rfl) (by simp) ?_;refine Rc rfl (fun K hK=>?_) Rn;obtain⟨y0,y1,y2,y3,pq⟩:=tC hHeld.1;go_simp;clear y0 y1 y2 y3 pq;refine hK.out _ _ ⟨ni hHeld.1,by rw[Dv _ _ _ _ n4R,Dv _ _ _ _ n4R,Dv _ _ _ _ n4R,Dv _ _ _ _ n4R];exact hHeld.2⟩ (fun hHeld=>?_);clear hK K;(try simp only[Act.put,aT,aU,aV]);obtain⟨WA,HWA⟩:=ak (((((wd.setCell ⟨b4,0,none⟩ (.int .i64 t.op)).setCell ⟨b4,1,none⟩ (.int .i64 t.num)).setCell ⟨b4,2,none⟩ (.string t.name)).setCell ⟨b4,3,none⟩ (.slice A' n2 c')));rw[←HWA]at hHeld⊢;have y5A:WA.cell? ⟨b5,0,none⟩=some (.int .i64 0):=by rw[HWA,Dv _ _ _ _ n45,Dv _ _ _ _ n45,Dv _ _ _ _ n45,Dv _ _ _ _ n45];exact y5
   have p5A:WA.frozen? ⟨b5,0,none⟩=false:=by rw[HWA];simpa[World.frozen?_setCell]using p5
   have y6A:WA.cell? ⟨b6,0,none⟩=some (.int .i64 0):=by rw[HWA,Dv _ _ _ _ n46,Dv _ _ _ _ n46,Dv _ _ _ _ n46,Dv _ _ _ _ n46];exact y6
   have p6A:WA.frozen? ⟨b6,0,none⟩=false:=by rw[HWA];simpa[World.frozen?_setCell]using p6
   have HB7:=Hd hHeld.1;clear y5 p5 y6 p6;refine Rd (rs:=[7]) (by kernel_rfl) (by simp) ?_;refine Rc rfl (fun K hK=>?_) Rn;go_simp;refine hK.out _ _ ⟨(iw _ ⟨b5,0,none⟩ b4 _ n54).trans hHeld.1,by rw[Dv _ _ _ _ n5R];exact hHeld.2⟩ (fun hHeld=>?_);clear hK K;(try simp only[Act.put,aT,aU,aV]);refine Rd (rs:=[8]) (by kernel_rfl) (by simp) ?_;refine Rc rfl (fun K hK=>?_) Rn;go_simp;refine hK.out _ _ ⟨(iw _ ⟨b6,0,none⟩ b4 _ n64).trans hHeld.1,by rw[Dv _ _ _ _ n6R];exact hHeld.2⟩ (fun hHeld=>?_);clear hK K;(try simp only[Act.put,aT,aU,aV]);refine wpAnyH_done (by kernel_rfl) ?_ _;clear hHeld y5A p5A y6A p6A;(try clear y0 y1 y2 y3 pq);go_wp2_with fail;obtain⟨WW,nT⟩:=aj ((WA.setCell ⟨b5,0,none⟩ (.int .i64 (j:Nat))).setCell ⟨b6,0,none⟩ (.int .i64 0))
   have h4f:WW.heap[b4]?=some (.cells #[.int .i64 t.op,.int .i64 t.num,.string t.name,.slice A' n2 c'] 64 (0,0)):=by
    rw[nT,iw _ ⟨b6,0,none⟩ b4 _ n46,iw _ ⟨b5,0,none⟩ b4 _ n45];exact HB7
   have h5f:WW.heap[b5]?=some (.cells #[.int .i64 (j:Nat)] 3 (0,0)):=by
    rw[nT,iw _ ⟨b6,0,none⟩ b5 _ n56];refine set1 (u:=.int .i64 0) ?_;rw[HWA];exact(fH (fun e=>n45 e.symm)).trans HH5
   have h6f:WW.heap[b6]?=some (.cells #[.int .i64 0] 29 (0,0)):=by
    rw[nT];refine set1 (u:=.int .i64 0) ?_;rw[iw _ ⟨b5,0,none⟩ b6 _ (fun e=>n56 e.symm),HWA];exact(fH (fun e=>n46 e.symm)).trans HH6
   have adR:Hid (Below w.heap.size w WW):=by
    show Below _ _ _;rw[nT,HWA];exact((((((HO7.bq Ol.1 _).bq Ol.1 _).bq Ol.1 _).bq Ol.1 _).bq Ol.2.1 _).bq Ol.2.2.1 _).below (fun q h=>h) (lr _)
   have HVF:Hid (aD (fun q=>w3.heap.size≤q) WW A' c' t):=by
    show aD _ _ _ _ _;rw[nT,HWA];exact HV7.keep ((((((aR.refl.set (by omega) _).set (by omega) _).set (by omega) _).set (by omega) _).set (by omega) _).set (by omega) _) (fun _ _ h=>h)
   rw[←nT];clear nT;refine leaves_cons (f:=121) (args:=#[.pointer (some ⟨b4,0,none⟩),.pointer (some ⟨b5,0,none⟩),.pointer (some ⟨b6,0,none⟩)]) (by simp) (by simp[go_sem]) ?_;refine(JY b4 b5 b6 WW).mono ?_;rintro e u' w'' ⟨rfl,rfl,aJ⟩;rw[aJ];clear aJ;obtain⟨y0,y1,y2,y3,-⟩:=tC h4f;have y5:=(yY h5f).1;have y6:=(yY h6f).1;clear h4f h5f h6f;simp[Leaves,settle,results,Tryz.results81,go_sem,y0,y1,y2,y3,y5,y6];rw[dJ];exact⟨A',c',by unfold Tm.val;rw[←kU],HVF.keep Kr (fun q _ h=>by omega),adR⟩
  ·have dJ:Hid (F=VX l w (dG,i,t.check)):=by show _=_;rw[bE];show VX l w (if t.check=0 then(t,j,0)else(dG,i,t.check))=_;rw[iN hz]
   obtain⟨zz,HZZ⟩:=ak t.check;rw[←HZZ]at hz⊢;have hzb:(zz != 0)=true:=by simpa using hz
   go_wp2_with fail;obtain⟨WW,nT⟩:=aj ((((((w6.setCell ⟨b4,0,none⟩ (.int .i64 0)).setCell ⟨b4,1,none⟩ (.int .i64 0)).setCell ⟨b4,2,none⟩ (.string ⟨#[]⟩)).setCell ⟨b4,3,none⟩ (.slice none 0 0)).setCell ⟨b5,0,none⟩ (.int .i64 (i:Nat))).setCell ⟨b6,0,none⟩ (.int .i64 zz));clear y0 y1 y2 y3 pq y5 p5 y6 p6
   have h4f:WW.heap[b4]?=some (.cells #[.int .i64 0,.int .i64 0,.string ⟨#[]⟩,.slice none 0 0] 64 (0,0)):=by
    rw[nT,iw _ ⟨b6,0,none⟩ b4 _ n46,iw _ ⟨b5,0,none⟩ b4 _ n45];exact ni bZ
   have h5f:WW.heap[b5]?=some (.cells #[.int .i64 (i:Nat)] 3 (0,0)):=by
    rw[nT,iw _ ⟨b6,0,none⟩ b5 _ n56];exact set1 ((fH (fun e=>n45 e.symm)).trans ahH)
   have h6f:WW.heap[b6]?=some (.cells #[.int .i64 zz] 29 (0,0)):=by
    rw[nT];refine set1 (u:=.int .i64 0) ?_;rw[iw _ ⟨b5,0,none⟩ b6 _ (fun e=>n56 e.symm)];exact(fH (fun e=>n46 e.symm)).trans ahI
   have adR:Hid (Below w.heap.size w WW):=by
    show Below _ _ _;rw[nT];exact((((((Fy.bq Ol.1 _).bq Ol.1 _).bq Ol.1 _).bq Ol.1 _).bq Ol.2.1 _).bq Ol.2.2.1 _).below (fun q h=>h) (lr _)
   rw[←nT];clear nT;refine leaves_cons (f:=121) (args:=#[.pointer (some ⟨b4,0,none⟩),.pointer (some ⟨b5,0,none⟩),.pointer (some ⟨b6,0,none⟩)]) (by simp) (by simp[go_sem]) ?_;refine(JY b4 b5 b6 WW).mono ?_;rintro e u' w'' ⟨rfl,rfl,aJ⟩;rw[aJ];clear aJ;obtain⟨y0,y1,y2,y3,-⟩:=tC h4f;have y5:=(yY h5f).1;have y6:=(yY h6f).1;clear h4f h5f h6f;simp[Leaves,settle,results,Tryz.results81,go_sem,y0,y1,y2,y3,y5,y6];rw[dJ,←HZZ];exact⟨none,0,rfl,aD.leaf (zl _),adR⟩
end Go.Proofs.YtkhoeoilamddaaaGreatDoor
