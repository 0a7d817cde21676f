/- Walks and plain words: Lex6 Lex7 Lex8 TrmP. -/
import Derived.Test.YtkhoeoilamddaaaGreatDoorQLex
import Derived.ScopeJumps
import Derived.WalkMore
import Derived.IntWalk
import Derived.Deep.AppendLies
namespace Go.Proofs.YtkhoeoilamddaaaGreatDoor
open Go.RowKit
set_option linter.unusedVariables false
set_option maxRecDepth 100000
set_option maxHeartbeats 4000000
theorem wD{P:Program}{Q:Exit→Act→World→Prop}{a:Act}{w:World}{c r:Code}(l:Nat)(J:Act→World→Prop)(μ:Act→World→Nat)(hf:findLabel c l=some (Code.skip.seq r))
 (pass:∀a w,J a w→r.wp P (Exit.jump l (fun a' w'=>J a' w'∧μ a' w'<μ a w) Q) a w)
 (first:(∀a w,J a w→r.wp P (Exit.jump l J Q) a w)→c.wp P (Exit.jump l J Q) a w):(Code.scope c).wp P Q a w:=
 wp_scope_jumps l J μ hf (first fun a w h=>wp_mono (pass a w h) fun e a' w' h=>by
  cases e with
  |goto l'=>exact⟨h.1,h.2.1⟩
  |_=>exact h) fun a w h=>wp_seq (wp_skip (pass a w h))
theorem aiS{W w1:World}{B:Nat}(hb:Below B W w1):(∀b o,b<B→w1.cell? ⟨b,o,none⟩=W.cell? ⟨b,o,none⟩)∧(∀b o,b<B→w1.frozen? ⟨b,o,none⟩=W.frozen? ⟨b,o,none⟩):=
 ⟨fun b o h=>hb.cell (p:=⟨b,o,none⟩) h,fun b o h=>hb.frozen (p:=⟨b,o,none⟩) h⟩
theorem lS(W:World)(C:Array Value)(T:TypeId)(n o:Nat)(hn:n=W.heap.size):(W.alloc (.cells C T)).drew.cell? ⟨n,o,none⟩=C[o]?:=by
 rw[World.cell?_drew,World.cell?_alloc_at _ _ _ _ hn]
theorem Au{W:World}{b:Nat}{C:Array Value}(D:C.size=4)(h:∀o,W.cell? ⟨b,o,none⟩=C[o]?)(v0 v1 v2 v3:Value) :
 ∀o,o<4→((((W.setCell ⟨b,0,none⟩ v0).setCell ⟨b,1,none⟩ v1).setCell ⟨b,2,none⟩ v2).setCell ⟨b,3,none⟩ v3).cell? ⟨b,o,none⟩=(#[v0,v1,v2,v3]:Array Value)[o]?:=by
 intro o ho;have hs:∀j,j<4→(W.cell? ⟨b,0+j,none⟩).isSome=true:=fun j G=>by rw[Nat.zero_add,h j,Array.getElem?_eq_getElem (by omega)];rfl
 have:=World.cell?_setCells_in b [v0,v1,v2,v3] 0 W hs o ho;rw[Nat.zero_add]at this;rw[show(#[v0,v1,v2,v3]:Array Value)[o]?=some ([v0,v1,v2,v3][o]'ho)from by rw[←Array.getElem?_toList];exact gG ho,←this]
 rfl
theorem jq(tmps:Array Value)(W:World)(b:Nat)(v0 v1 v2 v3 v5 v6:Value)(D:tmps.getD 4 undef=.pointer (some ⟨b,0,none⟩))(h5:tmps.getD 5 undef=v5)(G:tmps.getD 6 undef=v6)
 (h:∀o,o<4→W.cell? ⟨b,o,none⟩=(#[v0,v1,v2,v3]:Array Value)[o]?) :
 (results Tryz.f37 tmps).run Tryz.prog W=.ok (.tuple #[.agg #[v0,v1,v2,v3],v5,v6]) W:=by
 have c0:=h 0 (by omega);have c1:=h 1 (by omega);have c2:=h 2 (by omega);have c3:=h 3 (by omega);simp at c0 c1 c2 c3 D h5 G;simp[results,Tryz.results37,go_sem,D,h5,G,c0,c1,c2,c3]
theorem qG{B:Nat}{w W:World}(h:Below B w W)(D:B≤W.heap.size)(v0 v1 v2 v3:Value)(o1 o2:Obj) :
 Below B w ((((((W.setCell ⟨B,0,none⟩ v0).setCell ⟨B,1,none⟩ v1).setCell ⟨B,2,none⟩ v2).setCell ⟨B,3,none⟩ v3).alloc o1).alloc o2):=
 (((((h.setCell (p:=⟨B,0,none⟩) (lr _) _).setCell (p:=⟨B,1,none⟩) (lr _) _).setCell (p:=⟨B,2,none⟩) (lr _) _).setCell (p:=⟨B,3,none⟩) (lr _) _).alloc (by simp;omega) _).alloc (by simp;omega) _
theorem sP{r:Tok×Nat×Int}{k:Int}{n q len:Nat}{tt:Bs}{x:ByteArray}{z:Tok×Nat×Int}(h:r=if (0:Int)=0 then(⟨k,n,tt,q⟩,q+len,0)else z)(hx:(⟨tt.toArray⟩:ByteArray)=x) :
 nextVal r=.tuple #[.agg #[.int .i64 k,.int .i64 n,.string x,.int .i64 q],.int .i64 ((q:Int)+(len:Int)),.int .i64 0]:=by
 rw[h,iP rfl];subst hx
 rfl
def aiT(s:ByteArray)(pz:Nat)(w W0:World)(a':Act)(w':World):Prop:=∃(p:Nat)(u7 u8 u14 u15 u16 u17 u18 u19 u20 u21 u22 u23 u24 u25 u26 u27 u28 u29 u30 u31 u32 u33 u34 u35 u36 u37 u38 u39 u40 u41 u42 u43 u44 u45 u46 u47 u48:Value),a'={tmps:=#[.string s,.int .i64 (p:Nat),undef,undef,.pointer (some ⟨w.heap.size,0,none⟩),.int .i64 0,.int .i64 0,u7,u8,undef,undef,undef,undef,undef,u14,u15,u16,u17,u18,u19,u20,u21,u22,u23,u24,u25,u26,u27,u28,u29,u30,u31,u32,u33,u34,u35,u36,u37,u38,u39,u40,u41,u42,u43,u44,u45,u46,u47,u48,undef,undef,undef,undef,undef,undef,undef,undef,undef,undef,undef,undef,undef,undef,undef,undef,undef,undef,undef,undef,undef,undef,undef,undef,undef,undef,undef,undef,undef,undef,undef,undef,undef,undef,undef,undef,undef,undef,undef,undef,undef,undef,undef,undef,undef,undef,undef,undef,undef,undef,undef,undef,undef,undef,undef,undef,undef,undef,undef,undef,undef,undef,undef,undef,undef],defers:=[]}∧p≤s.size∧blank ((bs s).drop p)=blank ((bs s).drop pz)∧Below W0.heap.size W0 w'
theorem afE(s:ByteArray)(p pz:Nat)(w:World)(hz:Hid (pz=p))(hs:s.size≤maxLen)(bo:p≤s.size)(hT:Tables w) :
 Calls Tryz.prog 37 #[.string s,.int .i64 p] w fun e w'=>e=.returned (nextVal (next (bs s) pz))∧Below w.heap.size w w':=by
 have b2:=hs;unfold maxLen at b2;have HT:=Hd hT;have hH:=hT.size;clear hT;have bL:decide ((p:Int)<0)=false:=by simp
 have bP:decide (s.size<p)=false:=by simp;omega
 go_in;go_wp2_with fail;obtain⟨W0,af⟩:=aj (w.alloc (.cells #[.int .i64 0,.int .i64 0,.string ⟨#[]⟩,.int .i64 0] 55));have B0:=Hd (show Below w.heap.size w W0 from by rw[af];exact(Br _ _).alloc (lr _) _);have bh:w.heap.size<W0.heap.size:=by rw[af];simp
 have a6:∀o,W0.cell? ⟨w.heap.size,o,none⟩=(#[.int .i64 0,.int .i64 0,.string ⟨#[]⟩,.int .i64 0]:Array Value)[o]?:=fun o=>by rw[af,World.cell?_alloc_at];rfl
 have ba:∀o,W0.frozen? ⟨w.heap.size,o,none⟩=false:=fun o=>by rw[af,World.frozen?_alloc_at];rfl
 rw[←af];clear af;have bi:=Hd (HT.below B0);obtain⟨Wz,ax⟩:=ak W0;refine wD 0 (aiT s pz w Wz) (fun a' _=>s.size-(intOf (a'.tmps.getD 1 undef)).toNat) rfl ?_ ?_
 rotate_left
 ·intro bE;have hQ:blank ((bs s).drop p)=blank ((bs s).drop pz):=by rw[hz.out]
  have ai:Below Wz.heap.size Wz W0:=by rw[ax];exact Br _ _
  go_wp2
  go_step3
  rename_i hK
  refine hK _ _ (bE _ _ ⟨p,_,_,_,_,_,_,_,_,_,_,_,_,_,_,_,_,_,_,_,_,_,_,_,_,_,_,_,_,_,_,_,_,_,_,_,_,_,rfl,bo,hQ,ai⟩)
 rintro a' wr ⟨p,u7,u8,cp,cq,cr,cs,ct,cv,cw,cx,cy,cz,cA,cB,cC,cE,cF,cG,cH,cI,cJ,cK,cL,cM,cN,cP,cQ,cS,cU,cV,cW,cX,cY,c6,c7,c8,c9,rfl,bo,hQ,J⟩;rw[ax]at J;have HE:=Hd hQ;have HB:=Hd J;have hsz:=J.size;obtain⟨bc,bf⟩:=aiS J;clear hQ J;go_wp2_with fail;have bg:(s.extract p s.size).size=s.size-p:=by simp
 go_region_held3 (fun w'=>W0.heap.size≤w'.heap.size) (first|exact hsz|exact HB.size|(simp;omega)|(have h9:=hb1.size;simp at h9;omega))
  (first|(go_at_call 68;refine(Qu (s.extract p s.size) _ (by rw[bg];unfold maxLen;omega)).mono ?_;rintro e w1 ⟨⟨t,rfl,ht⟩,hb1⟩))
 have htl:t.size≤s.size-p:=by rw[←bg,←aC,←aC,ht];exact EH _ _
 have e1:IntKind.i64.wrap (((s.size-p:Nat):Int)-(t.size:Int))=((s.size-p-t.size:Nat):Int):=by rw[IntWalk.i64_in _ (by omega)];omega
 have e2:IntKind.i64.wrap ((p:Int)+((s.size-p-t.size:Nat):Int))=((p+(s.size-p-t.size):Nat):Int):=by rw[IntWalk.i64_in _ (by omega)];omega
 rw[e1,e2];clear e1 e2
 have a8:(bs s).drop (p+(s.size-p-t.size))=bs t:=by
  have h1:bs (s.extract p s.size)=(bs s).drop p:=by rw[gW,←aC,List.take_length]
  have h2:=Ca (a:=bs t) (l:=(bs s).drop p) (by rw[ht,h1];exact List.dropWhile_suffix _);rw[List.length_drop,aC,aC,List.drop_drop]at h2;exact h2
 have bk:blank (bs t)=blank ((bs s).drop pz):=by
  have h1:bs (s.extract p s.size)=(bs s).drop p:=by rw[gW,←aC,List.take_length]
  rw[ht,h1,Wo,HE]
 have bp:p≤p+(s.size-p-t.size)∧p+(s.size-p-t.size)≤s.size∧s.size-(p+(s.size-p-t.size))=t.size:=by omega
 generalize p+(s.size-p-t.size)=q at *
 obtain⟨bp,N_,b1⟩:=bp;have b0:q+t.size≤s.size:=by omega
 have ck:s.extract q s.size=t:=gV (by rw[gW,←a8,←aC,List.take_length]);have aF:=Hd a8;have oW:=Hd bk;have bC:=Hd ht;have G:=Hd (HB.drew.trans (hb1.mono hsz));have b3:=hb1.size;clear a8 bk ht b1 htl hb1 bg;go_wp2_with fail;refine(Tryz.strings_HasPrefix t ⟨#[45,45]⟩ _).mono ?_;rintro e w2 ⟨rfl,az⟩;cases hdd:dashes (bs t)
 ·have ag:Lib.hasPrefix t.data.toList (ByteArray.mk #[45,45]).data.toList=false:=hdd;rw[ag,az];clear ag az;have ab:blank (bs t)=bs t:=Wp bC hdd;have KG:=Hd (fun(k:Int)(n len:Nat)(e:Int)(h:scan (bs t)=(k,n,len,e))=>KF (p:=pz) (by rw[←oW,ab]) aF (by rw[aC];exact N_) h);have S9:w.heap.size<w1.heap.size:=by have:=G.size;omega
  have O:∀o,w1.cell? ⟨w.heap.size,o,none⟩=(#[.int .i64 0,.int .i64 0,.string ⟨#[]⟩,.int .i64 0]:Array Value)[o]?:=fun o=>by rw[G.cell (p:=⟨w.heap.size,o,none⟩) bh];exact a6 o
  have cd:∀o,w1.frozen? ⟨w.heap.size,o,none⟩=false:=fun o=>by rw[G.frozen (p:=⟨w.heap.size,o,none⟩) bh];exact ba o
  have b7:=Hd a6;have b8:=Hd ba;have Ot:=Hd (B0.trans (G.mono (Nat.le_of_lt bh)));clear hdd ab a6 ba bc bf bL bP
  by_cases bu:0<t.size
  ·have hne:=acY bu;have a7:=drop_cons (nW bu);rw[List.drop_zero]at a7;have I:=Hd a7;have b9:=Hd (show(0:Int)<(t.size:Int)from by omega);clear a7;obtain⟨T,cb⟩:=ak (bs t);cases hle:dV t[0]
   ·cases hdg:isDigit t[0]
    ·have N9:=Hd (Dx (r:=(bs t).drop 1) hle hdg);have zD:=Hd hle;have aw:=Hd hdg;clear hle hdg;have Wq:=(bi.Aq G (by omega));have VN:=Hd Wq;clear Wq;go_wp2_with fail;refine(sO t[0] _).mono ?_;rw[zD];rintro e w3 ⟨rfl,rfl⟩;go_wp2_with fail;refine(zB t[0] _).mono ?_;rw[aw];rintro e w3 ⟨rfl,rfl⟩;go_wp2_with fail;refine(abr w1.heap.size t _ (VN.below (((Br _ _).alloc (lr _) _).alloc (by simp) _)) (by rw[World.cell?_alloc_past _ _ _ (by simp),World.cell?_alloc_at _ _ _ _ rfl];rfl)).mono ?_;have br:=fun i=>B_ (l:=bs t) gQ 0 i;have qj:=Hd br;clear br;rw[←I]at N9
     generalize jC (bs t) gQ 0=si at *
     cases si with
     |none=>
      have Y:=Hd (KG 0 0 0 15 (by rw[I,←I];exact N9));unfold Wm;rintro e w3 ⟨rfl,rfl⟩
      go_wp2
      simp only[Exit.jump]
      refine bR (jq _ _ w.heap.size _ _ _ _ _ _ rfl rfl rfl (fun o ho=>by
       (try simp only[World.cell?_drew]);rw[World.cell?_alloc_lt _ _ _ (by simp;omega),World.cell?_alloc_lt _ _ _ (by simp;omega)]
       exact Au rfl O _ _ _ _ o ho)) rfl ⟨?_,?_⟩
      ·rw[Y];rfl
      ·exact(qG Ot (Nat.le_of_lt S9) _ _ _ _ _ _)
     |some k=>
      obtain⟨_,x,hx,bd⟩:=qj k rfl;rw[Nat.sub_zero]at hx;have Oq:k<21:=(gE.1 hx).1;have bb:gQ.getD k ByteArray.empty=x:=by simp[List.getD,hx]
      have Y:=Hd (KG 4 0 x.size 0 (by rw[←bb];exact N9))
      have bw:(bs t).take x.size=bs x:=by
       have:=List.isPrefixOf_iff_prefix.1 bd;rw[←aC];exact(List.prefix_iff_eq_take.1 this).symm
      have cn:x.size≤t.size:=by
       have:=(List.isPrefixOf_iff_prefix.1 bd).length_le;rw[aC,aC]at this;exact this
      have Ws:=Hd (show(⟨((bs t).take x.size).toArray⟩:ByteArray)=x from gV (by rw[JI,bw]));have bJ:=VN.signs k Oq;rw[bb]at bJ;have D:IntKind.i64.wrap ((q:Int)+(x.size:Int))=((q+x.size:Nat):Int):=by rw[IntWalk.i64_in _ (by omega)];omega
      have ae:=Hd D;clear D hx bd bb bw N9;unfold Wm;have cf:(0:Int)≤(k:Int):=by omega
      have cg:(k:Int)<(21:Int):=by omega
      have bW:1<w1.heap.size:=by omega
      rintro e w3 ⟨rfl,rfl⟩;go_wp2_with fail
      go_region_held3 (fun w'=>(∀o,w'.cell? ⟨1,o,none⟩=w1.cell? ⟨1,o,none⟩)) (first|(intro o;rw[World.cell?_drew,World.cell?_alloc_past _ _ _ (by simp;omega),World.cell?_alloc_past _ _ _ bW])|go_keep) (fail)
      have D:=ae.out;go_wp2_with fail
      go_region_held3 (fun w'=>(∀o,w'.cell? ⟨w1.heap.size+1,o,none⟩=(#[.int .i64 4,.int .i64 0,.string x,.int .i64 q]:Array Value)[o]?)) (first|(intro o;exact lS _ _ _ _ _ (by simp))|(intro o;rw[World.cell?_drew];exact lS _ _ _ _ _ (by simp))|go_keep) (fail)
      go_wp2
      simp only[Exit.jump]
      refine bR (jq _ _ w.heap.size _ _ _ _ _ _ rfl rfl rfl (fun o ho=>by
       (try simp only[World.cell?_drew]);rw[World.cell?_alloc_lt _ _ _ (by simp;omega),World.cell?_alloc_lt _ _ _ (by simp;omega)]
       exact Au rfl O _ _ _ _ o ho)) rfl ⟨?_,?_⟩
      ·rw[sP (z:=(EJ,q,0)) Y Ws];rfl
      ·exact(qG Ot (Nat.le_of_lt S9) _ _ _ _ _ _).drew.drew
    ·have N9:=Hd (wC (r:=(bs t).drop 1) hle hdg);have zD:=Hd hle;have aw:=Hd hdg;clear hle hdg;have Kj:=Wj t;unfold Qv at Kj;have xR:=Hd Kj;clear Kj
     have ao:(eX (bs t)).2.1≤t.size:=by
      rw[←aC];unfold eX
      split
      ·exact zl _
      ·split
       ·exact zl _
       ·split
        ·exact zl _
        ·exact qF _ _
     rw[←I]at N9
     generalize eX (bs t)=ns at *
     obtain⟨nv,nl,ne⟩:=ns;obtain⟨x,hx⟩:=aj ((⟨((bs t).take nl).toArray⟩:ByteArray));have b6:x.size=nl:=by rw[←aC,hx,JI,List.length_take,aC];simp at ao;omega
     have Ws:=Hd hx.symm;rw[←hx]at xR;clear hx
     by_cases ay:ne=0
     ·subst ay;have Y:=Hd (KG 1 nv nl 0 (by exact N9));have D:IntKind.i64.wrap ((q:Int)+(nl:Int))=((q+nl:Nat):Int):=by simp at ao;rw[IntWalk.i64_in _ (by omega)];omega
      have ae:=Hd D;clear D;go_wp2_with fail;refine(sO t[0] _).mono ?_;rw[zD];rintro e w3 ⟨rfl,rfl⟩;go_wp2_with fail;refine(zB t[0] _).mono ?_;rw[aw];rintro e w3 ⟨rfl,rfl⟩;go_wp2_with fail;refine(xR _ (by unfold maxLen;omega)).mono ?_;rintro e w3 ⟨rfl,rfl⟩;have D:=ae.out;go_wp2_with fail
      go_region_held3 (fun w'=>(∀o,w'.cell? ⟨w1.heap.size+1,o,none⟩=(#[.int .i64 1,.int .i64 nv,.string x,.int .i64 q]:Array Value)[o]?)) (first|(intro o;exact lS _ _ _ _ _ (by simp))|(intro o;rw[World.cell?_drew];exact lS _ _ _ _ _ (by simp))|go_keep) (fail)
      go_wp2
      simp only[Exit.jump]
      refine bR (jq _ _ w.heap.size _ _ _ _ _ _ rfl rfl rfl (fun o ho=>by
       (try simp only[World.cell?_drew]);rw[World.cell?_alloc_lt _ _ _ (by simp;omega),World.cell?_alloc_lt _ _ _ (by simp;omega)]
       exact Au rfl O _ _ _ _ o ho)) rfl ⟨?_,?_⟩
      ·rw[Y,←Ws];rfl
      ·exact(qG Ot (Nat.le_of_lt S9) _ _ _ _ _ _).drew
     ·have Y:=Hd (KG 0 0 0 ne (by rw[N9,iN ay]));have bZ:((ne:Int)==0)=false:=by simp;omega
      have cc:((ne:Int) != 0)=true:=by simp;omega
      have vM:=Hd ay;clear ay;go_wp2_with fail;refine(sO t[0] _).mono ?_;rw[zD];rintro e w3 ⟨rfl,rfl⟩;go_wp2_with fail;refine(zB t[0] _).mono ?_;rw[aw];rintro e w3 ⟨rfl,rfl⟩;go_wp2_with fail;refine(xR _ (by unfold maxLen;omega)).mono ?_;rintro e w3 ⟨rfl,rfl⟩
      go_wp2
      simp only[Exit.jump]
      refine bR (jq _ _ w.heap.size _ _ _ _ _ _ rfl rfl rfl (fun o ho=>by
       (try simp only[World.cell?_drew]);rw[World.cell?_alloc_lt _ _ _ (by simp;omega),World.cell?_alloc_lt _ _ _ (by simp;omega)]
       exact Au rfl O _ _ _ _ o ho)) rfl ⟨?_,?_⟩
      ·rw[Y,iN (by have:=vM.out;omega)];rfl
      ·exact(qG Ot (Nat.le_of_lt S9) _ _ _ _ _ _)
   ·have N9:=Hd (uh (r:=(bs t).drop 1) hle);have zD:=Hd hle;clear hle;go_wp2_with fail;refine(sO t[0] _).mono ?_;rw[zD];rintro e w3 ⟨rfl,rfl⟩;obtain⟨n,Iy⟩:=ak (rowLen bD (bs t));have ci:n≤t.size:=by rw[Iy,←aC];exact qF _ _
    obtain⟨x,hx⟩:∃x,t.extract 0 n=x:=⟨_,rfl⟩;have aS:bs x=(bs t).take n:=by rw[←hx,gW];simp
    have b6:x.size=n:=by rw[←aC,aS,List.length_take,aC];omega
    have hmin:min n t.size=n:=by omega
    have qH:=Hd aS;clear aS;have hrow:=Lp t;have iF:=Hd hrow;clear hrow;go_wp2_with fail
    go_region_held3 (fun w'=>(∀o,w'.cell? ⟨w1.heap.size,o,none⟩=(#[.string t]:Array Value)[o]?)) (first|(intro o;rw[World.cell?_drew,World.cell?_alloc_past _ _ _ (by simp),World.cell?_alloc_at _ _ _ _ rfl];done)|go_keep)
     (first|(go_at_call 72;refine(iF _ (by unfold maxLen;omega)).mono ?_;rw[←Iy];rintro e w4 ⟨rfl,rfl⟩))
    by_cases S_:24<n
    ·have Y:=Hd (KG 0 0 0 4 (by rw[I,N9,←I,←Iy,iP S_]));have Wt:(24:Int)<(n:Int):=by omega
     go_wp2
     simp only[Exit.jump]
     refine bR (jq _ _ w.heap.size _ _ _ _ _ _ rfl rfl rfl (fun o ho=>by
      (try simp only[World.cell?_drew]);rw[World.cell?_alloc_lt _ _ _ (by simp;omega),World.cell?_alloc_lt _ _ _ (by simp;omega)]
      exact Au rfl O _ _ _ _ o ho)) rfl ⟨?_,?_⟩
     ·rw[Y];rfl
     ·exact(qG Ot (Nat.le_of_lt S9) _ _ _ _ _ _).drew
    ·have Wt:¬(24:Int)<(n:Int):=by omega
     have ar:scan (bs t)=if isWord (bs x)then(3,0,n,0)else(2,0,n,0):=by
      rw[I,N9,←I,←Iy,iN S_,←qH]
     have aJ:=Hd ar;clear ar S_;have Wq:=(bi.Aq G (by omega));have VN:=Hd Wq;clear Wq;have bm:=fun(W:World)(hW:Tables W)=>Tryz.slices_Contains_string 0 0 24 24 lC x W (by decide) (by decide) (fun j hj=>by rw[Nat.zero_add];exact hW.words j hj);have bz:=Hd bm;clear bm
     have hwd:Lib.containsS (lC.take 24) x=isWord (bs x):=by
      unfold isWord;rw[show lC.take 24=lC from rfl,show(⟨(bs x).toArray⟩:ByteArray)=x from gV rfl]
     have Dy:=Hd hwd;clear hwd;have D:IntKind.i64.wrap ((q:Int)+(n:Int))=((q+n:Nat):Int):=by rw[IntWalk.i64_in _ (by omega)];omega
     have ae:=Hd D;clear D;cases hiw:isWord (bs x)
     all_goals
      rw[hiw]at Dy aJ;clear hiw;go_wp2_with fail
      go_region_held3 (fun w'=>(∀o,w'.cell? ⟨w1.heap.size+1,o,none⟩=(#[.int .i64 2,.int .i64 0,.string x,.int .i64 q]:Array Value)[o]?)) (first|(intro o;exact lS _ _ _ _ _ (by simp))|(intro o;rw[World.cell?_drew];exact lS _ _ _ _ _ (by simp))|go_keep)
       (first|(go_at_call 74;refine(bz _ ?_).mono ?_;(exact VN.below (((Br _ _).alloc (lr _) _).alloc (by simp) _).drew.drew);rw[Dy];rintro e w4 ⟨rfl,b5⟩;rw[b5]))
     ·have Y:=Hd (KG 2 0 n 0 (by rw[aJ];rfl));have av:(⟨((bs t).take n).toArray⟩:ByteArray)=x:=gV (by rw[JI,qH]);have Ws:=Hd av;clear av;have D:=ae.out;go_wp2_with fail
      go_region_held3 (fun w'=>(∀o,w'.cell? ⟨w1.heap.size+1,o,none⟩=(#[.int .i64 2,.int .i64 0,.string x,.int .i64 q]:Array Value)[o]?)) (first|(intro o;exact lS _ _ _ _ _ (by simp))|(intro o;rw[World.cell?_drew];exact lS _ _ _ _ _ (by simp))|(intro o;rw[World.cell?_drew,World.cell?_drew];exact lS _ _ _ _ _ (by simp))|go_keep) (fail)
      go_wp2
      simp only[Exit.jump]
      refine bR (jq _ _ w.heap.size _ _ _ _ _ _ rfl rfl rfl (fun o ho=>by
       (try simp only[World.cell?_drew]);rw[World.cell?_alloc_lt _ _ _ (by simp;omega),World.cell?_alloc_lt _ _ _ (by simp;omega)]
       exact Au rfl O _ _ _ _ o ho)) rfl ⟨?_,?_⟩
      ·rw[Y,←Ws];rfl
      ·exact(qG Ot (Nat.le_of_lt S9) _ _ _ _ _ _).drew.drew.drew
     ·have Y:=Hd (KG 3 0 n 0 (by rw[aJ];rfl));have av:(⟨((bs t).take n).toArray⟩:ByteArray)=x:=gV (by rw[JI,qH]);have Ws:=Hd av;clear av;have D:=ae.out;go_wp2_with fail
      go_region_held3 (fun w'=>(∀o,w'.cell? ⟨w1.heap.size+1,o,none⟩=(#[.int .i64 3,.int .i64 0,.string x,.int .i64 q]:Array Value)[o]?)) (first|(intro o;exact lS _ _ _ _ _ (by simp))|(intro o;rw[World.cell?_drew];exact lS _ _ _ _ _ (by simp))|(intro o;rw[World.cell?_drew,World.cell?_drew];exact lS _ _ _ _ _ (by simp))|go_keep) (fail)
      go_wp2
      simp only[Exit.jump]
      refine bR (jq _ _ w.heap.size _ _ _ _ _ _ rfl rfl rfl (fun o ho=>by
       (try simp only[World.cell?_drew]);rw[World.cell?_alloc_lt _ _ _ (by simp;omega),World.cell?_alloc_lt _ _ _ (by simp;omega)]
       exact Au rfl O _ _ _ _ o ho)) rfl ⟨?_,?_⟩
      ·rw[Y,←Ws];rfl
      ·exact(qG Ot (Nat.le_of_lt S9) _ _ _ _ _ _).drew.drew.drew
  ·have aa:bs t=[]:=List.eq_nil_of_length_eq_zero (by rw[aC];omega);have b4:t=⟨#[]⟩:=gV aa;have Y:=Hd (KG 5 0 0 0 (by rw[aa];rfl));rw[aa]at Y;have D:IntKind.i64.wrap (q:Int)=(q:Int):=IntWalk.i64_in _ (by omega);subst b4;clear aa;go_wp2_with fail
   go_region_held3 (fun w'=>(∀o,w'.cell? ⟨w1.heap.size+1,o,none⟩=(#[.int .i64 5,.int .i64 0,.string ⟨#[]⟩,.int .i64 q]:Array Value)[o]?)) (first|(intro o;exact lS _ _ _ _ _ (by simp))|go_keep) (fail)
   go_wp2
   simp only[Exit.jump]
   refine bR (jq _ _ w.heap.size _ _ _ _ _ _ rfl rfl rfl (fun o ho=>by
    (try simp only[World.cell?_drew]);rw[World.cell?_alloc_lt _ _ _ (by simp;omega),World.cell?_alloc_lt _ _ _ (by simp;omega)]
    exact Au rfl O _ _ _ _ o ho)) rfl ⟨?_,?_⟩
   ·rw[Y];rfl
   ·exact(qG Ot (Nat.le_of_lt S9) _ _ _ _ _ _).drew
 ·have ag:Lib.hasPrefix t.data.toList (ByteArray.mk #[45,45]).data.toList=true:=hdd;rw[ag,az];clear ag az;have bl:=yg hdd;rw[aC]at bl;have cj:2≤t.size:=by omega
  have bj:=EI hdd;have aE:=Hd bj;clear bj hdd;go_wp2_with fail;have bn:=Tryz.strings_IndexByte t 10;refine(bn _).mono ?_;rintro e w3 ⟨rfl,bv⟩;rw[bv];clear bv bn;have ao:=Qz (bs t);rw[show(10:Int).toNat.toUInt8=10 from rfl]
  change Lib.indexByte (bs t) 10<0∧_∨_ at ao
  rw[show t.data.toList=bs t from rfl]
  generalize Lib.indexByte (bs t) 10=line at *
  rcases ao with⟨h1,h2⟩|⟨k,rfl,h2,h3⟩
  ·rw[h2]at aE;have H2:=Hd h2;clear h2
   go_wp2
   go_step3
   have aP:blank ((bs s).drop (q+t.size))=blank ((bs s).drop pz):=by
    rw[List.drop_eq_nil_of_le (by rw[aC];have h9:=congrArg List.length aF;rw[List.length_drop,aC,aC]at h9;omega),←oW,aE]
   have aQ:Below Wz.heap.size Wz (w1.alloc (.cells #[.string t] 9)):=by rw[ax];exact G.alloc (by omega) (.cells #[.string t] 9)
   exact⟨rfl,⟨q+t.size,_,_,_,_,_,_,_,_,_,_,_,_,_,_,_,_,_,_,_,_,_,_,_,_,_,_,_,_,_,_,_,_,_,_,_,_,_,rfl,b0,aP,aQ⟩,by simp[intOf];omega⟩
  ·have hkk:2≤k:=by rw[←h3,List.length_drop,aC]at bl;omega
   have ch:k≤t.size:=by rw[aC]at h2;exact h2
   have H3:=Hd h3;clear h3 h2
   go_wp2
   go_step3
   have aP:blank ((bs s).drop (q+k))=blank ((bs s).drop pz):=by
    rw[←oW,aE,←H3,←aF,List.drop_drop]
   have aQ:Below Wz.heap.size Wz (w1.alloc (.cells #[.string t] 9)):=by rw[ax];exact G.alloc (by omega) (.cells #[.string t] 9)
   exact⟨rfl,⟨q+k,_,_,_,_,_,_,_,_,_,_,_,_,_,_,_,_,_,_,_,_,_,_,_,_,_,_,_,_,_,_,_,_,_,_,_,_,_,rfl,by omega,aP,aQ⟩,by simp[intOf];omega⟩
def Lv(l:Bs)(at_:Int):Tok×Int×Int:=if at_<0∨(l.length:Int)<at_ then(EJ,0,2)else((next l at_.toNat).1,((next l at_.toNat).2.1:Int),(next l at_.toNat).2.2)
def aaA(x:Tok×Int×Int):Value:=.tuple #[x.1.val,.int .i64 x.2.1,.int .i64 x.2.2]
theorem Lx{l:Bs}{p:Int}(h:p<0∨(l.length:Int)<p):Lv l p=(EJ,0,2):=iP h
theorem Dz{l:Bs}{p:Nat}(h:p≤l.length):Lv l p=((next l p).1,((next l p).2.1:Int),(next l p).2.2):=by
 unfold Lv;rw[iN (by omega)]
 rfl
theorem ac0(s:ByteArray)(p:Int)(w:World)(hs:s.size≤maxLen)(I:Tables w) :
 Calls Tryz.prog 37 #[.string s,.int .i64 p] w fun e w'=>e=.returned (aaA (Lv (bs s) p))∧Below w.heap.size w w':=by
 by_cases D:p<0∨((bs s).length:Int)<p
 ·rw[Lx D];rw[aC]at D;have G:=hs;unfold maxLen at G;clear I
  by_cases h0:p<0
  ·clear D;go_in
   go_wp2
   refine wD 0 (fun _ _=>False) (fun _ _=>0) rfl (fun _ _ h=>h.elim) (fun _=>?_)
   go_wp2
   simp only[Exit.jump];refine bR (jq _ _ w.heap.size _ _ _ _ _ _ rfl rfl rfl (fun o D=>World.cell?_alloc_at _ _ _ _ rfl)) rfl ⟨?_,?_⟩
   ·rfl
   ·exact(Br _ _).alloc (lr _) _
  ·have h1:(s.size:Int)<p:=by omega
   clear D;go_in
   go_wp2
   refine wD 0 (fun _ _=>False) (fun _ _=>0) rfl (fun _ _ h=>h.elim) (fun _=>?_)
   go_wp2
   simp only[Exit.jump];refine bR (jq _ _ w.heap.size _ _ _ _ _ _ rfl rfl rfl (fun o D=>World.cell?_alloc_at _ _ _ _ rfl)) rfl ⟨?_,?_⟩
   ·rfl
   ·exact(Br _ _).alloc (lr _) _
 ·obtain⟨n,rfl⟩:∃n:Nat,p=n:=⟨p.toNat,by omega⟩;rw[Dz (by omega)];exact afE s n n w (Hd rfl) hs (by rw[aC]at D;omega) I
theorem yT{c:UInt8}(h:dV c=true):bD c=true:=by
 unfold bD;simp[h]
theorem QA{l:Bs}{k:Int}{n len:Nat}(h:scan l=(k,n,len,0)):(k=5∧l=[]∧len=0∧n=0)∨(k≠5∧0<len∧len≤l.length):=by
 cases l with
 |nil=>
  rw[Lu]at h
  injection h with h1 h2
  injection h2 with h2 h3
  injection h3 with h3 h4
  exact .inl ⟨h1.symm,rfl,h3.symm,h2.symm⟩
 |cons c r=>
  right
  cases hl:dV c
  ·cases hd:isDigit c
   ·rw[Dx hl hd]at h
    cases hs:jC (c::r) gQ 0 with
    |none=>rw[hs]at h;simp at h
    |some i=>
     rw[hs]at h;simp only[Prod.mk.injEq]at h;obtain⟨h1,_,h3,_⟩:=h;obtain⟨_,x,hx,hp⟩:=B_ _ _ _ hs;rw[Nat.sub_zero]at hx;have G:gQ.getD i ByteArray.empty=x:=by simp[List.getD,hx]
     rw[G]at h3;refine⟨by omega,?_,?_⟩
     ·have:x∈gQ:=mG hx;have D:∀y∈gQ,0<y.size:=by decide
      rw[←h3];exact D x this
     ·rw[←h3,←aC];exact(List.isPrefixOf_iff_prefix.1 hp).length_le
   ·rw[wC hl hd]at h
    split at h
    ·rename_i he
     simp only[Prod.mk.injEq]at h;obtain⟨h1,_,h3,_⟩:=h
     have hr:(eX (c::r)).2.1=rowLen isDigit (c::r):=by
      revert he
      unfold eX
      split
      ·intro he;simp at he
      ·split
       ·intro he;simp at he
       ·split
        ·intro he;simp at he
        ·intro _;rfl
     rw[hr]at h3;refine⟨by omega,?_,?_⟩
     ·rw[←h3,fG hd];omega
     ·rw[←h3];exact qF _ _
    ·rename_i he
     simp only[Prod.mk.injEq]at h;omega
  ·rw[uh hl]at h;have I:0<rowLen bD (c::r):=by rw[fG (yT hl)];omega
   have J:=qF bD (c::r)
   split at h
   ·simp at h
   ·split at h
    all_goals
     simp only[Prod.mk.injEq]at h;refine⟨by omega,by omega,by omega⟩
theorem Gh{l:Bs}{p:Nat}(hp:p≤l.length)(h:(next l p).2.2=0):((next l p).1.kind=5∧blank (l.drop p)=[]∧(next l p).2.1=l.length)∨((next l p).1.kind≠5∧p<(next l p).2.1∧(next l p).2.1≤l.length):=by
 have hb:=O6 (l.drop p);rw[List.length_drop]at hb
 have hs:scan (blank (l.drop p))=((scan (blank (l.drop p))).1,(scan (blank (l.drop p))).2.1,(scan (blank (l.drop p))).2.2.1,0):=by
  unfold next at h;simp only at h
  split at h
  ·rename_i he
   rw[←he]
  ·rename_i he
   simp at h;exact absurd h he
 unfold next;simp only;rw[iP (by rw[hs])];simp only
 rcases QA hs with⟨h1,h2,h3,D⟩|⟨h1,h2,h3⟩
 ·left
  refine⟨h1,h2,?_⟩;rw[h3,h2];simp
 ·right
  refine⟨h1,by omega,by omega⟩
def Gi:Nat→Bs→Nat→List Tok→List Tok×Int×Int
 |0,_,_,_=>([],0,0)
 |n+1,l,p,acc=>
  if (next l p).2.2=0 then
   if (next l p).1.kind=5 then(acc,0,0)else Gi n l (next l p).2.1 (acc++[(next l p).1])
  else([],((next l p).2.1:Int),(next l p).2.2)
def all(l:Bs):List Tok×Int×Int:=if 65536<l.length then([],0,4)else Gi (l.length+1) l 0 []
theorem JK:∀(n m:Nat) (l:Bs) (p:Nat) (acc:List Tok),p≤l.length→l.length+1-p≤n→l.length+1-p≤m→Gi n l p acc=Gi m l p acc
 |0,m,l,p,acc,hp,h1,h2=>by omega
 |n+1,0,l,p,acc,hp,h1,h2=>by omega
 |n+1,m+1,l,p,acc,hp,h1,h2=>by
  unfold Gi
  split
  ·rename_i he
   split
   ·rfl
   ·rename_i hk
    rcases Gh hp he with⟨h3,_⟩|⟨_,D,h5⟩
    ·exact absurd h3 hk
    ·exact JK n m l _ _ h5 (by omega) (by omega)
  ·rfl
def oZ(l:Bs)(p:Nat)(acc:List Tok):List Tok×Int×Int:=Gi (l.length+1) l p acc
theorem Cb{l:Bs}{p:Nat}{acc:List Tok}(h:(next l p).2.2=0)(D:(next l p).1.kind=5):oZ l p acc=(acc,0,0):=by
 unfold oZ Gi;rw[iP h,iP D]
theorem JL{l:Bs}{p:Nat}{acc:List Tok}(h:(next l p).2.2≠0):oZ l p acc=([],((next l p).2.1:Int),(next l p).2.2):=by
 unfold oZ Gi;rw[iN h]
theorem Aw{l:Bs}{p:Nat}{acc:List Tok}(hp:p≤l.length)(h:(next l p).2.2=0)(D:(next l p).1.kind≠5):oZ l p acc=oZ l (next l p).2.1 (acc++[(next l p).1]):=by
 rcases Gh hp h with⟨h3,_⟩|⟨_,G,h5⟩
 ·exact absurd h3 D
 ·show Gi (l.length+1) l p acc=_;rw[Gi,iP h,iN D];exact JK _ _ _ _ _ h5 (by omega) (by omega)
def Ow(t:Tok):List Value:=[.int .i64 t.kind,.int .i64 t.n,.string ⟨t.text.toArray⟩,.int .i64 t.at_]
def fZ(t:Tok):Nat→Value
 |0=>.int .i64 t.kind
 |1=>.int .i64 t.n
 |2=>.string ⟨t.text.toArray⟩
 |_=>.int .i64 t.at_
def flat(l:List Tok):List Value:=l.flatMap Ow
theorem O7(l:List Tok)(z:Tok):flat (l++[z])=flat l++Ow z:=by simp[flat]
theorem flat_get{l:List Tok}{k j:Nat}{z:Tok}(h:l[k]?=some z)(I:j<4):(flat l)[k*4+j]?=some (fZ z j):=by
 unfold flat
 induction l generalizing k with
 |nil=>simp at h
 |cons y l G=>
  rw[List.flatMap_cons]
  cases k with
  |zero=>
   simp at h;subst h;rw[List.getElem?_append_left (by simp[Ow];omega)];have D:j=0∨j=1∨j=2∨j=3:=by omega
   rcases D with rfl|rfl|rfl|rfl<;>rfl
  |succ k=>
   rw[List.getElem?_append_right (by simp[Ow];omega)];rw[show(k+1)*4+j-(Ow y).length=k*4+j by simp[Ow];omega];exact G (by simpa using h)
def wF(w:World)(A:Option Addr)(l:List Tok):Prop:=l=[]∨∃b off,A=some ⟨b,off,none⟩∧b<w.heap.size∧∀k z,l[k]?=some z→∀j,j<4→w.cell? ⟨b,off+k*4+j,none⟩=some (fZ z j)
theorem wF.Aq{w w':World}{B:Nat}{A:Option Addr}{l:List Tok}(h:wF w A l)(hb:Below B w w')(G:B=w.heap.size):wF w' A l:=by
 rcases h with h|⟨b,off,rfl,D,hc⟩
 ·exact .inl h
 ·exact .inr ⟨b,off,rfl,lL D hb.size,fun k z J j I=>by rw[hb.cell (p:=⟨b,_,none⟩) (by subst G;exact D)];exact hc k z J j I⟩
theorem ownsRow_below{w w':World}{base:Nat}{e:TypeId}{size:Nat}{v:Value}{n:Nat}{xs:List Value}(h:w.ownsRow base e size v n xs)(hb:Below w.heap.size w w'):w'.ownsRow base e size v n xs:=by
 refine⟨h.1,?_⟩
 rcases h.2 with hn|⟨g,cap,cur,rfl,D,G,rest⟩
 ·exact .inl hn
 ·refine .inr ⟨g,cap,cur,rfl,D,?_,rest⟩;rw[hb.block g ?_]
  ·exact G
  ·have:=h.lt g rfl;exact this.2
theorem addr_add(b o k:Nat):(⟨b,o,none⟩:Addr).add k=⟨b,o+k,none⟩:=by unfold Addr.add;split<;>simp_all
def isName(l:Bs):Bool:=decide (l≠[])&&decide (l.length≤24)&&dV (l.headD 0)&&decide (rowLen bD l=l.length)&&!isWord l
set_option linter.unusedSectionVars false
inductive Tm where
 |mk (op n:Int) (name:ByteArray) (kids:List Tm):Tm
namespace Tm
def op:Tm→Int|mk o _ _ _=>o
def num:Tm→Int|mk _ n _ _=>n
def name:Tm→ByteArray|mk _ _ s _=>s
def kids:Tm→List Tm|mk _ _ _ l=>l
end Tm
mutual
def Tm.size:Tm→Nat
 |.mk _ _ _ l=>1+Tm.aA l
def Tm.aA:List Tm→Nat
 |[]=>0
 |t::r=>t.size+Tm.aA r
end
theorem Tm.aM:∀{l:List Tm} {t:Tm},t∈l→t.size≤Tm.aA l
 |x::r,t,h=>by
  rcases List.mem_cons.1 h with rfl|h
  ·rw[Tm.aA];omega
  ·have:=Tm.aM h;rw[Tm.aA];omega
theorem Tm.wG:∀(l:List Tm),l.length≤Tm.aA l
 |[]=>zl _
 |t::r=>by
  have:=Tm.wG r;cases t;rw[Tm.aA,Tm.size,List.length_cons];omega
theorem Tm.j4:∀{l:List Tm} {k:Nat} {t:Tm},l[k]?=some t→Tm.aA (l.take (k+1))=Tm.aA (l.take k)+t.size
 |x::r,0,t,h=>by
  simp at h;subst h;simp[Tm.aA]
 |x::r,k+1,t,h=>by
  have:=Tm.j4 (l:=r) (k:=k) (by simpa using h);simp only[List.take_succ_cons,Tm.aA]at this⊢;omega
theorem Tm.eH:∀(l:List Tm) (k:Nat),Tm.aA (l.take k)≤Tm.aA l
 |[],k=>by simp
 |x::r,0=>by simp[Tm.aA]
 |x::r,k+1=>by
  have:=Tm.eH r k;simp only[List.take_succ_cons,Tm.aA];omega
def cu(op:Int):Int×Int:=
 if op=1∨op=2∨op=3∨op=4 then(0,0)else if op=5 then(1,1)else if op=6∨op=7 then(1,64)else if op=8∨op=9∨op=10∨op=11∨op=12∨op=13∨op=14∨op=15∨op=16∨op=17 then(2,2)else if op=18 then(3,3)else(-1,-1)
def afF(op:Int):Int:=if op=1 then -255 else 0
def O8(op:Int):Int:=if op=1 then 255 else if op=2 then 1 else 0
def j5(op n:Int)(nm k:Nat):Int:=
 if (cu op).1<0 then 11
 else if n<afF op∨O8 op<n then 2
 else if (op=3∨op=4)∧(nm=0∨24<nm)∨¬(op=3∨op=4)∧nm≠0 then 12
 else if (k:Int)<(cu op).1∨(cu op).2<k then 3 else 0
section
variable {σ:Type} (step:σ→Tm→Nat→σ×Bool)
mutual
def kN:Tm→Nat→σ→σ×Bool
 |.mk o n s l,d,x=>match step x (.mk o n s l) d with
  |(y,true)=>kG l (d+1) y
  |(y,false)=>(y,false)
def kG:List Tm→Nat→σ→σ×Bool
 |[],_,x=>(x,true)
 |t::r,d,x=>match kN t d x with
  |(y,true)=>kG r d y
  |(y,false)=>(y,false)
end
end
def eO(x:Int×Nat)(t:Tm)(d:Nat):(Int×Nat)×Bool:=
 let e:Int:=if 64<d then 17 else let e:=j5 t.op t.num t.name.size t.kids.length;if e=0∧4096<x.2+1 then 4 else e
 ((e,x.2+1),decide (e=0))
def Tm.check(t:Tm):Int:=(kN eO t 1 (0,0)).1.1
theorem Cc{σ:Type}(step:σ→Tm→Nat→σ×Bool)(t:Tm)(d:Nat)(x:σ):kN step t d x=if (step x t d).2=true then kG step t.kids (d+1) (step x t d).1 else((step x t d).1,false):=by
 cases t with
 |mk o n s l=>
  rw[kN]
  cases h:step x (.mk o n s l) d with
  |mk y b=>cases b<;>rfl
def bQ(op:Int):Nat:=
 if op=9 then 0 else if op=8 then 1 else if op=7 then 2 else if op=6 then 3 else if op=5 then 4 else if op=10∨op=11∨op=12∨op=13 then 5 else if op=14∨op=15 then 6 else if op=16∨op=17 then 7 else 8
def aX(op:Int)(i:Nat):Nat:=
 if op=9 then 1 else if op=8 then 2-i else if op=7 then 3 else if op=6∨op=5 then 4 else if op=10∨op=11∨op=12∨op=13 then 6 else if op=14∨op=15 then 6+i else if op=16∨op=17 then 7+i else 0
def iy(op:Int):Bs:=
 if op=9 then[60,45,62]else if op=8 then[45,62]else if op=7 then[124]else if op=6 then[38]else if op=10 then[61]else if op=11 then[33,61]else if op=12 then[60]else if op=13 then[60,61]else if op=14 then[43]else if op=15 then[45]else if op=16 then[42]else[109,111,100]
def lG(op:Int):Bs:=[32]++iy op++[32]
def KH(i:Nat):Bs:=if i=0 then[105,102,32]else if i=1 then[32,116,104,101,110,32]else[32,101,108,115,101,32]
def uj(p:Bool)(b:Bs):Bs:=if p then[40]++b++[41]else b
section
variable (aO:Int→Bs)
def mq(op n:Int)(s:Bs):Bs:=
 if op=1 then aO n else if op=2 then(if n=1 then[116,114,117,101]else[102,97,108,115,101])else if op=3 then s else[110,101,120,116,40]++s++[41]
def fD(op n:Int)(s:Bs)(b5 b18 bj:Bs):Bs:=
 if op=1∨op=2∨op=3∨op=4 then mq aO op n s else if op=5 then[33]++b5 else if op=18 then b18 else bj
mutual
def nU:Tm→Nat→Bool→Bs
 |.mk op n s l,rule,ends=>
  let p:=decide (bQ op<rule)||(decide (op=18)&&!ends)
  uj p (fD aO op n s.data.toList (nX l (p||ends)) (iR l 0) (aW op l 0 (p||ends)))
def nX:List Tm→Bool→Bs
 |[],_=>[]
 |k::_,ends=>nU k 4 ends
def iR:List Tm→Nat→Bs
 |[],_=>[]
 |k::r,i=>KH i++nU k 0 true++iR r (i+1)
def aW(op:Int):List Tm→Nat→Bool→Bs
 |[],_,_=>[]
 |k::r,i,ends=>(if i=0 then[]else lG op)++nU k (aX op i) (ends&&r.isEmpty)++aW op r (i+1) ends
end
end
mutual
def Tm.lI:Tm→Nat→Prop
 |.mk o n s l,d=>d≤64∧j5 o n s.size l.length=0∧Tm.Gj l (d+1)
def Tm.Gj:List Tm→Nat→Prop
 |[],_=>True
 |t::r,d=>t.lI d∧Tm.Gj r d
end
mutual
theorem LB:∀(t:Tm) (d:Nat) (x:Int×Nat),((kN eO t d x).2=true→t.lI d∧(kN eO t d x).1=(0,x.2+t.size)∧x.2+t.size≤4096)∧((kN eO t d x).2=false→(kN eO t d x).1.1≠0)
 |.mk o n s l,d,x=>by
  rw[Cc,Tm.lI,Tm.size];have hs:eO x (.mk o n s l) d=((if 64<d then 17 else if j5 o n s.size l.length=0∧4096<x.2+1 then 4 else j5 o n s.size l.length,x.2+1),decide ((if 64<d then(17:Int)else if j5 o n s.size l.length=0∧4096<x.2+1 then 4 else j5 o n s.size l.length)=0)):=rfl;rw[hs]
  by_cases h1:64<d
  ·simp[h1]
  ·by_cases h2:j5 o n s.size l.length=0
   ·by_cases h3:4096<x.2+1
    ·simp[h1,h2,h3]
    ·have G:=O9 l (d+1) (0,x.2+1) rfl (by simp;omega);simp only[h1,h2,h3,if_false,and_false,decide_true,if_true,Tm.kids];refine⟨fun h=>?_,fun h=>G.2 h⟩;obtain⟨I,D,J⟩:=G.1 h;simp only at D J;exact⟨⟨by omega,trivial,I⟩,by rw[D,Nat.add_assoc],by omega⟩
   ·simp[h1,h2]
theorem O9:∀(l:List Tm) (d:Nat) (x:Int×Nat),x.1=0→x.2≤4096→((kG eO l d x).2=true→Tm.Gj l d∧(kG eO l d x).1=(0,x.2+Tm.aA l)∧x.2+Tm.aA l≤4096)∧((kG eO l d x).2=false→(kG eO l d x).1.1≠0)
 |[],d,x,h0,h1=>by
  rw[kG,Tm.Gj,Tm.aA];refine⟨fun _=>⟨trivial,by rw[←h0];rfl,h1⟩,fun h=>by cases h⟩
 |t::r,d,x,h0,h1=>by
  have G:=LB t d x;rw[kG,Tm.Gj,Tm.aA]
  cases hw:kN eO t d x with
  |mk y b=>
   rw[hw]at G
   cases b with
   |false=>
    exact⟨(fun h=>by cases h),fun _=>G.2 rfl⟩
   |true=>
    obtain⟨J,I,O⟩:=G.1 rfl;simp only at I;subst I;have D:=O9 r d (0,x.2+t.size) rfl O;refine⟨fun h=>?_,fun h=>D.2 h⟩;obtain⟨Y,j2,j3⟩:=D.1 h;simp only at j2 j3;exact⟨⟨J,Y⟩,by simp only;rw[j2,Nat.add_assoc],by omega⟩
end
theorem nY{t:Tm}(h:t.check=0):t.lI 1∧t.size≤4096:=by
 have hs:=LB t 1 (0,0);unfold Tm.check at h
 cases hb:(kN eO t 1 (0,0)).2 with
 |false=>exact absurd h (hs.2 hb)
 |true=>
  obtain⟨h1,_,h3⟩:=hs.1 hb;exact⟨h1,by simpa using h3⟩
theorem aaB:∀{l:List Tm} {d:Nat} {t:Tm},Tm.Gj l d→t∈l→t.lI d
 |x::r,d,t,h,hm=>by
  rw[Tm.Gj]at h
  rcases List.mem_cons.1 hm with rfl|hm
  ·exact h.1
  ·exact aaB h.2 hm
theorem jI{t:Tm}{d:Nat}(h:t.lI d):d≤64∧j5 t.op t.num t.name.size t.kids.length=0∧∀k∈t.kids,k.lI (d+1):=by
 cases t with
 |mk o n s l=>
  rw[Tm.lI]at h;exact⟨h.1,h.2.1,fun k D=>aaB h.2.2 D⟩
theorem jJ{op n:Int}{nm k:Nat}(h:j5 op n nm k=0):0≤(cu op).1∧(op=1→-255≤n∧n≤255)∧nm≤24∧(cu op).1≤k∧(k:Int)≤(cu op).2∧(op=2→0≤n∧n≤1)∧(op≠1→op≠2→n=0)∧((op=3∨op=4)→0<nm)∧(¬(op=3∨op=4)→nm=0):=by
 unfold j5 at h
 by_cases h1:(cu op).1<0
 ·rw[iP h1]at h;cases h
 rw[iN h1]at h
 by_cases h2:n<afF op∨O8 op<n
 ·rw[iP h2]at h;cases h
 rw[iN h2]at h
 by_cases h3:(op=3∨op=4)∧(nm=0∨24<nm)∨¬(op=3∨op=4)∧nm≠0
 ·rw[iP h3]at h;cases h
 rw[iN h3]at h
 by_cases G:(k:Int)<(cu op).1∨(cu op).2<k
 ·rw[iP G]at h;cases h
 unfold afF O8 at h2
 have h5:(op=3∨op=4)→0<nm∧nm≤24:=fun hx=>by
  have:¬(nm=0∨24<nm):=fun hy=>h3 (.inl ⟨hx,hy⟩);omega
 have D:¬(op=3∨op=4)→nm=0:=fun hx=>by
  have:¬nm≠0:=fun hy=>h3 (.inr ⟨hx,hy⟩);omega
 refine⟨by omega,fun hx=>?_,?_,by omega,by omega,fun hx=>?_,fun hx hy=>?_,fun hx=>(h5 hx).1,D⟩
 ·rw[iP hx,iP hx]at h2;omega
 ·by_cases hn:op=3∨op=4
  ·exact(h5 hn).2
  ·have:=D hn;omega
 ·subst hx;simp at h2;omega
 ·rw[iN hx,iN hx,iN hy]at h2;omega
theorem nD(op:Int):(iy op).length≤3:=by
 unfold iy
 iterate 11 (split;· simp)
 simp
theorem Gl(i:Nat):(KH i).length≤6:=by
 unfold KH
 split
 ·simp
 ·split<;>simp
theorem O_(p:Bool)(b:Bs):(uj p b).length≤b.length+2:=by
 unfold uj
 split<;>simp
section
variable {aO:Int→Bs} (hn:∀n,-255≤n→n≤255→(aO n).length≤20)
include hn
theorem abu(op n:Int)(s:Bs)(h1:op=1→-255≤n∧n≤255):(mq aO op n s).length≤s.length+20:=by
 unfold mq
 split
 ·rename_i ho;have:=hn n (h1 ho).1 (h1 ho).2;omega
 ·split
  ·split<;>simp
  ·split
   ·omega
   ·simp<;>omega
theorem Pb(op n:Int)(s G D I:Bs)(L:Nat)(h1:op=1→-255≤n∧n≤255)(h5:G.length≤L)(J:D.length≤L)(O:I.length≤L):(fD aO op n s G D I).length≤s.length+20+L:=by
 unfold fD
 split
 ·have:=abu hn op n s h1;omega
 ·split
  ·simp;omega
  ·split<;>omega
mutual
theorem eY:∀(t:Tm) (rule:Nat) (ends:Bool) (d:Nat),t.lI d→(nU aO t rule ends).length+10≤80*t.size
 |.mk op n s l,rule,ends,d,h=>by
  rw[Tm.lI]at h;have hs:=(jJ h.2.1).2.2.1;have hsl:s.data.toList.length=s.size:=by simp
  have hb:=Pb hn op n s.data.toList (nX aO l (decide (bQ op<rule)||(decide (op=18)&&!ends)||ends)) (iR aO l 0) (aW aO op l 0 (decide (bQ op<rule)||(decide (op=18)&&!ends)||ends)) (80*Tm.aA l) (jJ h.2.1).2.1 (LC l _ _ h.2.2) (II l _ _ h.2.2) (Ce op l _ _ _ h.2.2);rw[nU,Tm.size];have hw:=O_ (decide (bQ op<rule)||(decide (op=18)&&!ends)) (fD aO op n s.data.toList (nX aO l (decide (bQ op<rule)||(decide (op=18)&&!ends)||ends)) (iR aO l 0) (aW aO op l 0 (decide (bQ op<rule)||(decide (op=18)&&!ends)||ends)));show(uj _ _).length+10≤_;omega
theorem LC:∀(l:List Tm) (ends:Bool) (d:Nat),Tm.Gj l d→(nX aO l ends).length≤80*Tm.aA l
 |[],_,_,_=>by simp[nX]
 |k::r,ends,d,h=>by
  rw[Tm.Gj]at h;have:=eY k 4 ends d h.1;rw[nX,Tm.aA];omega
theorem II:∀(l:List Tm) (i d:Nat),Tm.Gj l d→(iR aO l i).length≤80*Tm.aA l
 |[],_,_,_=>by simp[iR]
 |k::r,i,d,h=>by
  rw[Tm.Gj]at h;have h1:=eY k 0 true d h.1;have h2:=II r (i+1) d h.2;have h3:=Gl i;rw[iR,Tm.aA,List.length_append,List.length_append];omega
theorem Ce(op:Int):∀(l:List Tm)(i:Nat)(ends:Bool)(d:Nat),Tm.Gj l d→(aW aO op l i ends).length≤80*Tm.aA l
 |[],_,_,_,_=>by simp[aW]
 |k::r,i,ends,d,h=>by
  rw[Tm.Gj]at h;have h1:=eY k (aX op i) (ends&&r.isEmpty) d h.1;have h2:=Ce op r (i+1) ends d h.2;have h3:=nD op
  have D:(if i=0 then[]else lG op).length≤5:=by
   split
   ·simp
   ·simp[lG];omega
  rw[aW,Tm.aA,List.length_append,List.length_append];omega
end
end
end Go.Proofs.YtkhoeoilamddaaaGreatDoor
