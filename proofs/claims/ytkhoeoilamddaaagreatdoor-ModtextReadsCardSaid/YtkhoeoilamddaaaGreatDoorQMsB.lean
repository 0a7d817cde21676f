/- Walks and plain words: MsB MwG OpnA. -/
import Derived.Test.YtkhoeoilamddaaaGreatDoorQMwF
import Derived.Laws.StructEq
import Derived.Test.YtkhoeoilamddaaaGreatDoorCards
import Derived.Test.YtkhoeoilamddaaaGreatDoorTie
import Derived.ProofKit
import Derived.Lay
import Derived.Lib.LaidU8
import Derived.Lib.LaidTab
import Derived.SevenTiedAt
import Derived.LaidOnce
namespace Go.Proofs.YtkhoeoilamddaaaGreatDoor
open Go.RowKit
set_option linter.unusedVariables false
set_option linter.unusedSimpArgs false
set_option maxRecDepth 100000
set_option maxHeartbeats 16000000
theorem aep{o:Array Oper}{i:Nat}{x:Oper}(h:o.toList[i]?=some x):o[i]?=some x:=by simpa using h
theorem vW(ts:List Tm)(A1:Option Addr)(c1:Nat)(A2:Option Addr)(c2:Nat)(w:World)(h1:fK gB 4 w (.slice A1 ts.length c1) ts)(h2:fK gB 4 w (.slice A2 ts.length c2) ts) :
 Calls Tryz.prog 20 #[.slice A1 ts.length c1,.slice A2 ts.length c2] w (EA w):=by
 obtain⟨F,HF⟩:=ak (EA w);rw[←HF];obtain⟨A',c',he,O,Bb,I⟩:=h1
 injection he with he1 _ he2
 subst he1 he2;obtain⟨A',c',he,Y,Bc,J⟩:=h2
 injection he with he1 _ he2
 subst he1 he2;obtain⟨n,HN⟩:=ak ts.length;rw[←HN]at O Y⊢;unfold maxLen at Bb Bc;have aw:=Hd I;have ax:=Hd J;clear I J;go_in;go_wp2_with fail
 go_loopw [5] (fun si wr=>∃k:Nat,k≤n∧si=.int .i64 k∧Below w.heap.size w wr) (fun i _=>n-(intOf i).toNat)
 case atStart=>exact⟨0,zl _,rfl,Br _ _⟩
 case round=>
  obtain⟨k,hk,rfl,G⟩:=hrel
  by_cases aP:k<n
  ·obtain⟨q,hq⟩:∃q,ts[k]?=some q:=⟨_,gG (by have:=HN.out;omega)⟩
   rcases aw.out with h9|⟨g1,o1,rfl,aa,I⟩
   ·rw[h9]at hq;simp at hq
   rcases ax.out with h9|⟨g2,o2,rfl,ab,J⟩
   ·rw[h9]at hq;simp at hq
   obtain⟨aQ,M8,aS,B1,d1,Uv,hv1⟩:=(gB.below G rfl aa (I k q hq)).open;have ao:g1<wr.heap.size:=lL aa G.size;obtain⟨a6,a7,a8,B2,d2,aE,av⟩:=(gB.below G rfl ab (J k q hq)).open;have ar:g2<wr.heap.size:=lL ab G.size;obtain⟨nq,ae⟩:=aj q.kids.length
   have HC:Hid (∀W,Below wr.heap.size wr W→Calls Tryz.prog 54 #[.agg #[.int .i64 q.op,.int .i64 q.num,.string q.name,.slice B1 nq d1],.agg #[.int .i64 q.op,.int .i64 q.num,.string q.name,.slice B2 nq d2]] W (EA W)):=fun W hb=>by
    have h:=J7 q.size q B1 d1 B2 d2 W (lr _) (hv1.below hb rfl) (av.below hb rfl);unfold Tm.val at h;rw[←ae]at h;exact h
   rw[←ae]at Uv aE;have oW:=Hd G;have aF:(0:Int)≤(k:Int):=by omega
   have aJ:(k:Int)<(n:Int):=by omega
   clear ae hq hv1 av I J aa ab G;go_wp2_with fail;refine wp_region_held_drew (S:=fun W=>Below wr.heap.size wr W) (by kernel_rfl) (Br _ _).drew (fun D=>?_);obtain⟨Wc,af⟩:=aj wr.drew;rw[←af]at D⊢;clear af
   repeat
    (first|refine aI 0 (v:=?_) rfl ?hy ?_|refine aI 1 (v:=?_) rfl ?hy ?_|refine aI 2 (v:=?_) rfl ?hy ?_|refine aI 3 (v:=?_) rfl ?hy ?_|refine aI 4 (v:=?_) rfl ?hy ?_|refine aI 5 (v:=?_) rfl ?hy ?_|refine aI 6 (v:=?_) rfl ?hy ?_|refine aI 7 (v:=?_) rfl ?hy ?_|refine aI 9 (v:=?_) rfl ?hy ?_
     case hy=>
      intro w0 hS;have e3:=bI hS ao;have e4:=bI hS ar;clear hS;go_simp
      (first|done|with_reducible rfl)
     try simp only[Act.put,aT,aU,aV])
   iterate 1
    all_goals first
     |refine Rd (rs:=[8]) (by decide +kernel) (by simp) (Rc (aep rfl) (fun K hK=>?_) Rn)
     |fail
    all_goals first
     |(go_simp
       (with_reducible refine(HC.out _ D).mono ?_);rintro e We ⟨rfl,ag⟩;have ai:=D.trans (ag.mono D.size);clear D;refine hK.out _ _ ai (fun D=>?_);clear hK K ag ai
       try simp only[Act.put,aT,aU,aV])
     |fail
    all_goals
     repeat
      (first|refine aI 0 (v:=?_) rfl ?hy ?_|refine aI 1 (v:=?_) rfl ?hy ?_|refine aI 2 (v:=?_) rfl ?hy ?_|refine aI 3 (v:=?_) rfl ?hy ?_|refine aI 4 (v:=?_) rfl ?hy ?_|refine aI 5 (v:=?_) rfl ?hy ?_|refine aI 6 (v:=?_) rfl ?hy ?_|refine aI 7 (v:=?_) rfl ?hy ?_|refine aI 9 (v:=?_) rfl ?hy ?_
       case hy=>
        intro w0 hS;have e3:=bI hS ao;have e4:=bI hS ar;clear hS;go_simp
        (first|done|with_reducible rfl)
       try simp only[Act.put,aT,aU,aV])
   all_goals refine wpAnyH_done (by decide +kernel) ?_ _
   all_goals
    go_wp2_with fail
    go_round
    case rel=>exact⟨k+1,by omega,by go_num,oW.trans (D.mono oW.size)⟩
    case measure=>simp[intOf];omega
  ·have ay:k=n:=by omega
   subst ay;have az:¬(k:Int)<(k:Int):=by omega
   have oW:=Hd G;clear G;go_wp2_with fail;rw[HF];exact⟨rfl,oW⟩
theorem J9(ts:List Df)(A1:Option Addr)(c1:Nat)(A2:Option Addr)(c2:Nat)(w:World)(h1:fK uD 5 w (.slice A1 ts.length c1) ts)(h2:fK uD 5 w (.slice A2 ts.length c2) ts) :
 Calls Tryz.prog 19 #[.slice A1 ts.length c1,.slice A2 ts.length c2] w (EA w):=by
 obtain⟨F,HF⟩:=ak (EA w);rw[←HF];obtain⟨A',c',he,O,Bb,I⟩:=h1
 injection he with he1 _ he2
 subst he1 he2;obtain⟨A',c',he,Y,Bc,J⟩:=h2
 injection he with he1 _ he2
 subst he1 he2;obtain⟨n,HN⟩:=ak ts.length;rw[←HN]at O Y⊢;unfold maxLen at Bb Bc;have aP:=Hd I;have aQ:=Hd J;clear I J;go_in;go_wp2_with fail
 go_loopw [5] (fun si wr=>∃k:Nat,k≤n∧si=.int .i64 k∧Below w.heap.size w wr) (fun i _=>n-(intOf i).toNat)
 case atStart=>exact⟨0,zl _,rfl,Br _ _⟩
 case round=>
  obtain⟨k,hk,rfl,G⟩:=hrel
  by_cases bf:k<n
  ·obtain⟨q,hq⟩:∃q,ts[k]?=some q:=⟨_,gG (by have:=HN.out;omega)⟩
   rcases aP.out with h9|⟨g1,o1,rfl,aa,I⟩
   ·rw[h9]at hq;simp at hq
   rcases aQ.out with h9|⟨g2,o2,rfl,ab,J⟩
   ·rw[h9]at hq;simp at hq
   obtain⟨a7,ar⟩:=uD.below G _ _ _ aa (I k q hq);obtain⟨M8,aE,Uv,B1,d1,ag,hv1⟩:=ar.open;rw[show o1+k*5+1+1=o1+k*5+2 from rfl]at aE;rw[show o1+k*5+1+2=o1+k*5+3 from rfl]at Uv;rw[show o1+k*5+1+3=o1+k*5+4 from rfl]at ag;have ay:g1<wr.heap.size:=lL aa G.size;obtain⟨a8,av⟩:=uD.below G _ _ _ ab (J k q hq);obtain⟨ba,aF,aJ,B2,d2,ai,af⟩:=av.open;rw[show o2+k*5+1+1=o2+k*5+2 from rfl]at aF;rw[show o2+k*5+1+2=o2+k*5+3 from rfl]at aJ;rw[show o2+k*5+1+3=o2+k*5+4 from rfl]at ai;have az:g2<wr.heap.size:=lL ab G.size;clear ar av;obtain⟨nm,q⟩:=q;simp only at a7 M8 aE Uv ag a8 ba aF aJ ai hv1 af;obtain⟨nq,ae⟩:=aj q.kids.length
   have HC:Hid (∀W,Below wr.heap.size wr W→Calls Tryz.prog 54 #[.agg #[.int .i64 q.op,.int .i64 q.num,.string q.name,.slice B1 nq d1],.agg #[.int .i64 q.op,.int .i64 q.num,.string q.name,.slice B2 nq d2]] W (EA W)):=fun W hb=>by
    have h:=J7 q.size q B1 d1 B2 d2 W (lr _) (hv1.below hb rfl) (af.below hb rfl);unfold Tm.val at h;rw[←ae]at h;exact h
   rw[←ae]at ag ai;have oW:=Hd G;have bb:(0:Int)≤(k:Int):=by omega
   have bd:(k:Int)<(n:Int):=by omega
   clear ae hq hv1 af I J aa ab G;go_wp2_with fail;refine wp_region_held_drew (S:=fun W=>Below wr.heap.size wr W) (by kernel_rfl) (Br _ _).drew (fun D=>?_);obtain⟨Wc,ao⟩:=aj wr.drew;rw[←ao]at D⊢;clear ao
   repeat
    (first|refine aI 0 (v:=?_) rfl ?hy ?_|refine aI 1 (v:=?_) rfl ?hy ?_|refine aI 2 (v:=?_) rfl ?hy ?_|refine aI 3 (v:=?_) rfl ?hy ?_|refine aI 4 (v:=?_) rfl ?hy ?_|refine aI 5 (v:=?_) rfl ?hy ?_|refine aI 6 (v:=?_) rfl ?hy ?_|refine aI 7 (v:=?_) rfl ?hy ?_|refine aI 8 (v:=?_) rfl ?hy ?_|refine aI 9 (v:=?_) rfl ?hy ?_|refine aI 10 (v:=?_) rfl ?hy ?_|refine aI 11 (v:=?_) rfl ?hy ?_|refine aI 12 (v:=?_) rfl ?hy ?_|refine aI 13 (v:=?_) rfl ?hy ?_|refine aI 14 (v:=?_) rfl ?hy ?_|refine aI 15 (v:=?_) rfl ?hy ?_|refine aI 16 (v:=?_) rfl ?hy ?_|refine aI 17 (v:=?_) rfl ?hy ?_|refine aI 18 (v:=?_) rfl ?hy ?_|refine aI 19 (v:=?_) rfl ?hy ?_|refine aI 20 (v:=?_) rfl ?hy ?_|refine aI 21 (v:=?_) rfl ?hy ?_|refine aI 23 (v:=?_) rfl ?hy ?_|refine aI 24 (v:=?_) rfl ?hy ?_
     case hy=>
      intro w0 hS;have e3:=bI hS ay;have e4:=bI hS az;clear hS;go_simp
      (first|done|with_reducible rfl)
     try simp only[Act.put,aT,aU,aV])
   iterate 1
    all_goals first
     |refine Rd (rs:=[22]) (by decide +kernel) (by simp) (Rc (aep rfl) (fun K hK=>?_) Rn)
     |fail
    all_goals first
     |(go_simp
       (with_reducible refine(HC.out _ D).mono ?_);rintro e We ⟨rfl,aw⟩;have ax:=D.trans (aw.mono D.size);clear D;refine hK.out _ _ ax (fun D=>?_);clear hK K aw ax
       try simp only[Act.put,aT,aU,aV])
     |fail
    all_goals
     repeat
      (first|refine aI 0 (v:=?_) rfl ?hy ?_|refine aI 1 (v:=?_) rfl ?hy ?_|refine aI 2 (v:=?_) rfl ?hy ?_|refine aI 3 (v:=?_) rfl ?hy ?_|refine aI 4 (v:=?_) rfl ?hy ?_|refine aI 5 (v:=?_) rfl ?hy ?_|refine aI 6 (v:=?_) rfl ?hy ?_|refine aI 7 (v:=?_) rfl ?hy ?_|refine aI 8 (v:=?_) rfl ?hy ?_|refine aI 9 (v:=?_) rfl ?hy ?_|refine aI 10 (v:=?_) rfl ?hy ?_|refine aI 11 (v:=?_) rfl ?hy ?_|refine aI 12 (v:=?_) rfl ?hy ?_|refine aI 13 (v:=?_) rfl ?hy ?_|refine aI 14 (v:=?_) rfl ?hy ?_|refine aI 15 (v:=?_) rfl ?hy ?_|refine aI 16 (v:=?_) rfl ?hy ?_|refine aI 17 (v:=?_) rfl ?hy ?_|refine aI 18 (v:=?_) rfl ?hy ?_|refine aI 19 (v:=?_) rfl ?hy ?_|refine aI 20 (v:=?_) rfl ?hy ?_|refine aI 21 (v:=?_) rfl ?hy ?_|refine aI 23 (v:=?_) rfl ?hy ?_|refine aI 24 (v:=?_) rfl ?hy ?_
       case hy=>
        intro w0 hS;have e3:=bI hS ay;have e4:=bI hS az;clear hS;go_simp
        (first|done|with_reducible rfl)
       try simp only[Act.put,aT,aU,aV])
   all_goals refine wpAnyH_done (by decide +kernel) ?_ _
   all_goals
    go_wp2_with fail
    go_round
    case rel=>exact⟨k+1,by omega,by go_num,oW.trans (D.mono oW.size)⟩
    case measure=>simp[intOf];omega
  ·have aS:k=n:=by omega
   subst aS;have a6:¬(k:Int)<(k:Int):=by omega
   have oW:=Hd G;clear G;go_wp2_with fail;rw[HF];exact⟨rfl,oW⟩
theorem aa6(s:ByteArray)(b:Bool)(lo hi:Int)(W:World):(binOp .neq 45 (.agg #[.string s,.bool b,.int .i64 lo,.int .i64 hi]) (.agg #[.string s,.bool b,.int .i64 lo,.int .i64 hi])).run Tryz.prog W=.ok (.bool false) W:=by
 have h:∀d:Nat,(Op.equalIn (d+2) 45 (.agg #[.string s,.bool b,.int .i64 lo,.int .i64 hi]) (.agg #[.string s,.bool b,.int .i64 lo,.int .i64 hi])).run Tryz.prog W=.ok true W:=fun d=>by
  rw[run_equalIn_struct W (d+1) 45 _ _ (by kernel_rfl) (by kernel_rfl)];go_simp
 simp only[binOp];simp[Op.equal,Op.maxDepth,h 9998]
theorem J_(V1 V2:Nat→Value)(m:Md)(w:World)(h1:Km w V1 m)(h2:Km w V2 m) :
 Calls Tryz.prog 10 #[.agg #[V1 0,V1 1,V1 2,V1 3,V1 4,V1 5,V1 6,V1 7],.agg #[V2 0,V2 1,V2 2,V2 3,V2 4,V2 5,V2 6,V2 7]] w (EA w):=by
 obtain⟨F,HF⟩:=ak (EA w);rw[←HF];obtain⟨bm,bu,cB,c7,q10,dR⟩:=h1.vars;have cd:=Hd (show fK GN 4 w (.slice bm m.vars.length bu) m.vars from⟨bm,bu,rfl,c7,q10,dR⟩);obtain⟨ai,aQ,cC,c8,dr,dS⟩:=h1.defs;have cf:=Hd (show fK uD 5 w (.slice ai m.defs.length aQ) m.defs from⟨ai,aQ,rfl,c8,dr,dS⟩);obtain⟨ao,aS,cE,c9,dt,dT⟩:=h1.init;have cg:=Hd (show fK gB 4 w (.slice ao m.init.length aS) m.init from⟨ao,aS,rfl,c9,dt,dT⟩);obtain⟨ar,a6,cF,dc,du,d3⟩:=h1.bF;have ch:=Hd (show fK gB 4 w (.slice ar m.bF.length a6) m.bF from⟨ar,a6,rfl,dc,du,d3⟩);obtain⟨av,a7,cG,de,dv,d4⟩:=h1.next;have ci:=Hd (show fK uD 5 w (.slice av m.next.length a7) m.next from⟨av,a7,rfl,de,dv,d4⟩);obtain⟨aw,a8,cH,df,dx,d5⟩:=h1.trans;have cj:=Hd (show fK gB 4 w (.slice aw m.trans.length a8) m.trans from⟨aw,a8,rfl,df,dx,d5⟩);obtain⟨ax,ba,e16,di,dy,d6⟩:=h1.fair;have ck:=Hd (show fK gB 4 w (.slice ax m.fair.length ba) m.fair from⟨ax,ba,rfl,di,dy,d6⟩);obtain⟨bn,bv,e17,dj,dB,d7⟩:=h1.specs;have cn:=Hd (show fK Fw 7 w (.slice bn m.specs.length bv) m.specs from⟨bn,bv,rfl,dj,dB,d7⟩);obtain⟨bp,bw,cI,dk,dC,d8⟩:=h2.vars
 have cp:=Hd (show fK GN 4 w (.slice bp m.vars.length bw) m.vars from⟨bp,bw,rfl,dk,dC,d8⟩);obtain⟨ay,bb,cJ,dl,dE,d9⟩:=h2.defs;have cq:=Hd (show fK uD 5 w (.slice ay m.defs.length bb) m.defs from⟨ay,bb,rfl,dl,dE,d9⟩);obtain⟨az,bd,cK,dm,dH,ea⟩:=h2.init;have cr:=Hd (show fK gB 4 w (.slice az m.init.length bd) m.init from⟨az,bd,rfl,dm,dH,ea⟩);obtain⟨aE,bf,cL,dn,dI,eb⟩:=h2.bF;have cs:=Hd (show fK gB 4 w (.slice aE m.bF.length bf) m.bF from⟨aE,bf,rfl,dn,dI,eb⟩);obtain⟨aF,bg,cM,dp,dJ,ec⟩:=h2.next;have ct:=Hd (show fK uD 5 w (.slice aF m.next.length bg) m.next from⟨aF,bg,rfl,dp,dJ,ec⟩);obtain⟨aJ,bh,cN,p25,dN,ed⟩:=h2.trans;have cv:=Hd (show fK gB 4 w (.slice aJ m.trans.length bh) m.trans from⟨aJ,bh,rfl,p25,dN,ed⟩);obtain⟨aP,bi,cP,p26,dO,ee⟩:=h2.fair;have cw:=Hd (show fK gB 4 w (.slice aP m.fair.length bi) m.fair from⟨aP,bi,rfl,p26,dO,ee⟩);obtain⟨br,bz,cQ,p27,dQ,ef⟩:=h2.specs;have cx:=Hd (show fK Fw 7 w (.slice br m.specs.length bz) m.specs from⟨br,bz,rfl,p27,dQ,ef⟩);rw[cB,cC,cE,cF,cG,cH,e16,e17,cI,cJ,cK,cL,cM,cN,cP,cQ];obtain⟨n0,N0⟩:=ak m.vars.length;rw[←N0]at cd cp c7 dk⊢;unfold maxLen at q10 dC;obtain⟨n1,N1⟩:=ak m.defs.length
 rw[←N1]at cf cq c8 dl⊢;unfold maxLen at dr dE;obtain⟨n2,N2⟩:=ak m.init.length;rw[←N2]at cg cr c9 dm⊢;unfold maxLen at dt dH;obtain⟨n3,N3⟩:=ak m.bF.length;rw[←N3]at ch cs dc dn⊢;unfold maxLen at du dI;obtain⟨n4,N4⟩:=ak m.next.length;rw[←N4]at ci ct de dp⊢;unfold maxLen at dv dJ;obtain⟨n5,N5⟩:=ak m.trans.length;rw[←N5]at cj cv df p25⊢;unfold maxLen at dx dN;obtain⟨n6,N6⟩:=ak m.fair.length;rw[←N6]at ck cw di p26⊢;unfold maxLen at dy dO;obtain⟨n7,N7⟩:=ak m.specs.length;rw[←N7]at cn cx dj p27⊢;unfold maxLen at dB dQ;clear h1 h2 cB dR cC dS cE dT cF d3 cG d4 cH d5 e16 d6 e17 d7 cI d8 cJ d9 cK ea cL eb cM ec cN ed cP ee cQ ef;obtain⟨b1,hb1⟩:=aj w.heap.size;obtain⟨w1,hw1⟩:=aj (w.alloc (.cells #[.slice bm n0 bu,.slice ai n1 aQ,.slice ao n2 aS,.slice ar n3 a6,.slice av n4 a7,.slice aw n5 a8,.slice ax n6 ba,.slice bn n7 bv] 28));obtain⟨b2,cW⟩:=aj (b1+1);obtain⟨w2,ag⟩:=aj (w1.alloc (.cells #[.slice bp n0 bw,.slice ay n1 bb,.slice az n2 bd,.slice aE n3 bf,.slice aF n4 bg,.slice aJ n5 bh,.slice aP n6 bi,.slice br n7 bz] 28));have et:=sAl hw1;have ew:=sAl ag;have X1:=kX (dz ag) (jZ hw1 hb1);have X2:=jZ ag (show b2=w1.heap.size by omega);have ej:=Hd (Below.trans (dz hw1) ((dz ag).mono (show w.heap.size≤w1.heap.size by omega)));have ek:=Hd hw1
 have en:=Hd ag;have ei:=Hd hb1;have cc:=Hd cW;have eo:=Hd (show w.heap.size≤w2.heap.size by omega);have QJ:Hid (∀W,Below w2.heap.size w2 W→Below w.heap.size w W):=fun W h=>ej.trans (h.mono eo);clear hb1 cW hw1 ag et ew;have hne:b1≠b2:=by have:=cc.out;omega
 obtain⟨u0,u1,u2,u3,u4,u5,u6,u7,-⟩:=q8 X1;obtain⟨v0,v1,v2,v3,v4,v5,v6,v7,-⟩:=q8 X2;have l1:=lH X1;have l2:=lH X2;go_in;go_wp2_with fail;rw[←ek,←ei];try go_wp2_with fail
 try rw[←en,←cc]
 (try go_wp2_with fail);clear u0 u1 u2 u3 u4 u5 u6 u7 v0 v1 v2 v3 v4 v5 v6 v7 l1 l2
 go_loopw [5] (fun si wr=>∃k:Nat,k≤n0∧si=.int .i64 k∧Below w2.heap.size w2 wr) (fun i _=>n0-(intOf i).toNat)
 case atStart=>exact⟨0,zl _,rfl,Br _ _⟩
 case round=>
  obtain⟨k,hk,rfl,G⟩:=hrel;have I:=kX G X1;have J:=kX G X2;obtain⟨u0,u1,u2,u3,u4,u5,u6,u7,-⟩:=q8 I;obtain⟨v0,v1,v2,v3,v4,v5,v6,v7,-⟩:=q8 J;have l1:=lH I;have l2:=lH J
  by_cases bL:k<n0
  ·obtain⟨q,hq⟩:∃q,m.vars[k]?=some q:=⟨_,gG (by have:=N0.out;omega)⟩;have D:=QJ _ G;obtain⟨A',c',he,-,-,aa⟩:=cd.out
   injection he with he1 hen he2
   clear hen;subst he1 he2
   rcases aa with h9|⟨g1,o1,rfl,ae,aa⟩
   ·rw[h9]at hq;simp at hq
   obtain⟨b0,M8,bj,Uv⟩:=GN.below D _ _ _ ae (aa k q hq);have bE:g1<wr.heap.size:=lL ae D.size;obtain⟨A',c',he,-,-,ab⟩:=cp.out
   injection he with he1 hen he2
   clear hen;subst he1 he2
   rcases ab with h9|⟨g2,o2,rfl,af,ab⟩
   ·rw[h9]at hq;simp at hq
   obtain⟨b5,b6,bk,bl⟩:=GN.below D _ _ _ af (ab k q hq);have bJ:g2<wr.heap.size:=lL af D.size;obtain⟨nm,bo,lo,hh⟩:=q;simp only at b0 M8 bj Uv b5 b6 bk bl;have ey:=aa6 nm bo lo hh;have Y:=Hd G;have ep:(0:Int)≤(k:Int):=by omega
   have er:(k:Int)<(n0:Int):=by omega
   clear hq aa ab ae af G D I J;go_wp2_with fail
   go_quiet (fail)
   go_wp2_with fail
   go_round
   case rel=>exact⟨k+1,by omega,by go_num,QX Y _⟩
   case measure=>simp[intOf];omega
  ·have bC:k=n0:=by omega
   have c6:¬(k:Int)<(n0:Int):=by omega
   have cy:=Hd G;clear G;go_wp2_with fail;clear u0 u1 u2 u3 u4 u5 u6 u7 v0 v1 v2 v3 v4 v5 v6 v7 l1 l2
   go_loopw [6] (fun si ws=>∃k:Nat,k≤n7∧si=.int .i64 k∧Below w2.heap.size w2 ws) (fun i _=>n7-(intOf i).toNat)
   case atStart=>exact⟨0,zl _,rfl,cy⟩
   case round=>
    clear hk c6 bL bC I J cy;obtain⟨k,hk,rfl,G⟩:=hrel;rename World=>ws;have I:=kX G X1;have J:=kX G X2;obtain⟨u0,u1,u2,u3,u4,u5,u6,u7,-⟩:=q8 I;obtain⟨v0,v1,v2,v3,v4,v5,v6,v7,-⟩:=q8 J;have l1:=lH I;have l2:=lH J
    by_cases bL:k<n7
    ·obtain⟨q,hq⟩:∃q,m.specs[k]?=some q:=⟨_,gG (by have:=N7.out;omega)⟩;have D:=QJ _ G;obtain⟨A',c',he,-,-,aa⟩:=cn.out
     injection he with he1 hen he2
     clear hen;subst he1 he2
     rcases aa with h9|⟨g1,o1,rfl,ae,aa⟩
     ·rw[h9]at hq;simp at hq
     obtain⟨b0,cU⟩:=Fw.below D _ _ _ ae (aa k q hq);obtain⟨M8,bj,Uv,eg,b9,cz,B1,d1,b3,b4,hv1⟩:=cU.open;have bE:g1<ws.heap.size:=lL ae D.size;rw[show o1+k*7+1+1=o1+k*7+2 from rfl]at bj;rw[show o1+k*7+1+2=o1+k*7+3 from rfl]at Uv;rw[show o1+k*7+1+3=o1+k*7+4 from rfl]at eg;rw[show o1+k*7+1+4=o1+k*7+5 from rfl]at b3;rw[show o1+k*7+1+5=o1+k*7+6 from rfl]at b4;obtain⟨A',c',he,-,-,ab⟩:=cx.out
     injection he with he1 hen he2
     clear hen;subst he1 he2
     rcases ab with h9|⟨g2,o2,rfl,af,ab⟩
     ·rw[h9]at hq;simp at hq
     obtain⟨b5,cV⟩:=Fw.below D _ _ _ af (ab k q hq);obtain⟨b6,bk,bl,eh,cb,cA,B2,d2,b7,b8,bZ⟩:=cV.open;have bJ:g2<ws.heap.size:=lL af D.size;rw[show o2+k*7+1+1=o2+k*7+2 from rfl]at bk;rw[show o2+k*7+1+2=o2+k*7+3 from rfl]at bl;rw[show o2+k*7+1+3=o2+k*7+4 from rfl]at eh;rw[show o2+k*7+1+4=o2+k*7+5 from rfl]at b7;rw[show o2+k*7+1+5=o2+k*7+6 from rfl]at b8;clear cU cV;obtain⟨nm,q⟩:=q;simp only at b0 M8 bj Uv eg b3 b4 b5 b6 bk bl eh b7 b8 hv1 bZ;obtain⟨nq,bW⟩:=aj q.kids.length;obtain⟨me,bP⟩:=aj q.tm.kids.length
     have HC:Hid (∀W,Below ws.heap.size ws W→Calls Tryz.prog 18 #[.agg #[.int .i64 q.op,.int .i64 q.tm.op,.int .i64 q.tm.num,.string q.tm.name,.slice b9 me cz,.slice B1 nq d1],.agg #[.int .i64 q.op,.int .i64 q.tm.op,.int .i64 q.tm.num,.string q.tm.name,.slice cb me cA,.slice B2 nq d2]] W (EA W)):=fun W hb=>by
      have h:=YU q.size q b9 cz B1 d1 cb cA B2 d2 W (lr _) (hv1.below hb rfl) (bZ.below hb rfl);unfold Fm.val at h;rw[←bW,←bP]at h;exact h
     rw[←bP]at b3 b7;rw[←bW]at b4 b8;have Y:=Hd G;have ep:(0:Int)≤(k:Int):=by omega
     have er:(k:Int)<(n7:Int):=by omega
     clear bW bP hq hv1 bZ aa ab ae af G D I J;go_wp2_with fail;refine wp_region_held_drew (S:=fun W=>Below ws.heap.size ws W) (by kernel_rfl) (Br _ _).drew (fun O=>?_);obtain⟨Wc,cS⟩:=aj ws.drew;rw[←cS]at O⊢;clear cS
     repeat
      (first|refine aI 0 (v:=?_) rfl ?hy ?_|refine aI 1 (v:=?_) rfl ?hy ?_|refine aI 2 (v:=?_) rfl ?hy ?_|refine aI 3 (v:=?_) rfl ?hy ?_|refine aI 4 (v:=?_) rfl ?hy ?_|refine aI 5 (v:=?_) rfl ?hy ?_|refine aI 6 (v:=?_) rfl ?hy ?_|refine aI 7 (v:=?_) rfl ?hy ?_|refine aI 8 (v:=?_) rfl ?hy ?_|refine aI 9 (v:=?_) rfl ?hy ?_|refine aI 10 (v:=?_) rfl ?hy ?_|refine aI 11 (v:=?_) rfl ?hy ?_|refine aI 12 (v:=?_) rfl ?hy ?_|refine aI 13 (v:=?_) rfl ?hy ?_|refine aI 14 (v:=?_) rfl ?hy ?_|refine aI 15 (v:=?_) rfl ?hy ?_|refine aI 16 (v:=?_) rfl ?hy ?_|refine aI 17 (v:=?_) rfl ?hy ?_|refine aI 18 (v:=?_) rfl ?hy ?_|refine aI 19 (v:=?_) rfl ?hy ?_|refine aI 20 (v:=?_) rfl ?hy ?_|refine aI 21 (v:=?_) rfl ?hy ?_|refine aI 22 (v:=?_) rfl ?hy ?_|refine aI 23 (v:=?_) rfl ?hy ?_|refine aI 24 (v:=?_) rfl ?hy ?_|refine aI 25 (v:=?_) rfl ?hy ?_|refine aI 27 (v:=?_) rfl ?hy ?_|refine aI 28 (v:=?_) rfl ?hy ?_
       case hy=>
        intro w0 hS;have e1:=bI hS l1;have e2:=bI hS l2;have e3:=bI hS bE;have e4:=bI hS bJ;clear hS;go_simp
        (first|done|with_reducible rfl)
       try simp only[Act.put,aT,aU,aV])
     iterate 1
      all_goals first
       |refine Rd (rs:=[26]) (by decide +kernel) (by simp) (Rc (aep rfl) (fun K hK=>?_) Rn)
       |fail
      all_goals first
       |(go_simp
         (with_reducible refine(HC.out _ O).mono ?_);rintro e We ⟨rfl,cX⟩;have cY:=O.trans (cX.mono O.size);clear O;refine hK.out _ _ cY (fun O=>?_);clear hK K cX cY
         try simp only[Act.put,aT,aU,aV])
       |fail
      all_goals
       repeat
        (first|refine aI 0 (v:=?_) rfl ?hy ?_|refine aI 1 (v:=?_) rfl ?hy ?_|refine aI 2 (v:=?_) rfl ?hy ?_|refine aI 3 (v:=?_) rfl ?hy ?_|refine aI 4 (v:=?_) rfl ?hy ?_|refine aI 5 (v:=?_) rfl ?hy ?_|refine aI 6 (v:=?_) rfl ?hy ?_|refine aI 7 (v:=?_) rfl ?hy ?_|refine aI 8 (v:=?_) rfl ?hy ?_|refine aI 9 (v:=?_) rfl ?hy ?_|refine aI 10 (v:=?_) rfl ?hy ?_|refine aI 11 (v:=?_) rfl ?hy ?_|refine aI 12 (v:=?_) rfl ?hy ?_|refine aI 13 (v:=?_) rfl ?hy ?_|refine aI 14 (v:=?_) rfl ?hy ?_|refine aI 15 (v:=?_) rfl ?hy ?_|refine aI 16 (v:=?_) rfl ?hy ?_|refine aI 17 (v:=?_) rfl ?hy ?_|refine aI 18 (v:=?_) rfl ?hy ?_|refine aI 19 (v:=?_) rfl ?hy ?_|refine aI 20 (v:=?_) rfl ?hy ?_|refine aI 21 (v:=?_) rfl ?hy ?_|refine aI 22 (v:=?_) rfl ?hy ?_|refine aI 23 (v:=?_) rfl ?hy ?_|refine aI 24 (v:=?_) rfl ?hy ?_|refine aI 25 (v:=?_) rfl ?hy ?_|refine aI 27 (v:=?_) rfl ?hy ?_|refine aI 28 (v:=?_) rfl ?hy ?_
         case hy=>
          intro w0 hS;have e1:=bI hS l1;have e2:=bI hS l2;have e3:=bI hS bE;have e4:=bI hS bJ;clear hS;go_simp
          (first|done|with_reducible rfl)
         try simp only[Act.put,aT,aU,aV])
     all_goals refine wpAnyH_done (by decide +kernel) ?_ _
     all_goals
      go_wp2_with fail
      go_round
      case rel=>exact⟨k+1,by omega,by go_num,Y.trans (O.mono Y.size)⟩
      case measure=>simp[intOf];omega
    ·have bC:k=n7:=by omega
     have c6:¬(k:Int)<(n7:Int):=by omega
     have Y:=Hd G;clear G bL hk bC
     have hc:Calls Tryz.prog 19 #[.slice ai n1 aQ,.slice ay n1 bb] ws (EA ws):=by
      have D:=QJ _ Y;have h:=J9 m.defs ai aQ ay bb ws (by rw[←N1];exact(fK.below cf (uD.below D) D.size)) (by rw[←N1];exact(fK.below cq (uD.below D) D.size));rw[←N1]at h;exact h
     have HC:=Hd hc;clear hc;go_wp2_with fail;refine HC.mono ?_;rintro e wn ⟨rfl,hb⟩;replace Y:=Hd (Y.trans (hb.mono Y.size));replace I:=kX hb I;replace J:=kX hb J;clear u0 u1 u2 u3 u4 u5 u6 u7 v0 v1 v2 v3 v4 v5 v6 v7 l1 l2 hb HC ws;rename World=>ws;obtain⟨u0,u1,u2,u3,u4,u5,u6,u7,-⟩:=q8 I;obtain⟨v0,v1,v2,v3,v4,v5,v6,v7,-⟩:=q8 J;have l1:=lH I;have l2:=lH J
     have hc:Calls Tryz.prog 20 #[.slice ao n2 aS,.slice az n2 bd] ws (EA ws):=by
      have D:=QJ _ Y;have h:=vW m.init ao aS az bd ws (by rw[←N2];exact(fK.below cg (fun g o x hg=>gB.below D rfl hg) D.size)) (by rw[←N2];exact(fK.below cr (fun g o x hg=>gB.below D rfl hg) D.size));rw[←N2]at h;exact h
     have HC:=Hd hc;clear hc;go_wp2_with fail;refine HC.mono ?_;rintro e wn ⟨rfl,hb⟩;replace Y:=Hd (Y.trans (hb.mono Y.size));replace I:=kX hb I;replace J:=kX hb J;clear u0 u1 u2 u3 u4 u5 u6 u7 v0 v1 v2 v3 v4 v5 v6 v7 l1 l2 hb HC ws;rename World=>ws;obtain⟨u0,u1,u2,u3,u4,u5,u6,u7,-⟩:=q8 I;obtain⟨v0,v1,v2,v3,v4,v5,v6,v7,-⟩:=q8 J;have l1:=lH I;have l2:=lH J
     have hc:Calls Tryz.prog 20 #[.slice ar n3 a6,.slice aE n3 bf] ws (EA ws):=by
      have D:=QJ _ Y;have h:=vW m.bF ar a6 aE bf ws (by rw[←N3];exact(fK.below ch (fun g o x hg=>gB.below D rfl hg) D.size)) (by rw[←N3];exact(fK.below cs (fun g o x hg=>gB.below D rfl hg) D.size));rw[←N3]at h;exact h
     have HC:=Hd hc;clear hc;go_wp2_with fail;refine HC.mono ?_;rintro e wn ⟨rfl,hb⟩;replace Y:=Hd (Y.trans (hb.mono Y.size));replace I:=kX hb I;replace J:=kX hb J;clear u0 u1 u2 u3 u4 u5 u6 u7 v0 v1 v2 v3 v4 v5 v6 v7 l1 l2 hb HC ws;rename World=>ws;obtain⟨u0,u1,u2,u3,u4,u5,u6,u7,-⟩:=q8 I;obtain⟨v0,v1,v2,v3,v4,v5,v6,v7,-⟩:=q8 J;have l1:=lH I;have l2:=lH J
     have hc:Calls Tryz.prog 19 #[.slice av n4 a7,.slice aF n4 bg] ws (EA ws):=by
      have D:=QJ _ Y;have h:=J9 m.next av a7 aF bg ws (by rw[←N4];exact(fK.below ci (uD.below D) D.size)) (by rw[←N4];exact(fK.below ct (uD.below D) D.size));rw[←N4]at h;exact h
     have HC:=Hd hc;clear hc;go_wp2_with fail;refine HC.mono ?_;rintro e wn ⟨rfl,hb⟩;replace Y:=Hd (Y.trans (hb.mono Y.size));replace I:=kX hb I;replace J:=kX hb J;clear u0 u1 u2 u3 u4 u5 u6 u7 v0 v1 v2 v3 v4 v5 v6 v7 l1 l2 hb HC ws;rename World=>ws;obtain⟨u0,u1,u2,u3,u4,u5,u6,u7,-⟩:=q8 I;obtain⟨v0,v1,v2,v3,v4,v5,v6,v7,-⟩:=q8 J;have l1:=lH I;have l2:=lH J
     have hc:Calls Tryz.prog 20 #[.slice aw n5 a8,.slice aJ n5 bh] ws (EA ws):=by
      have D:=QJ _ Y;have h:=vW m.trans aw a8 aJ bh ws (by rw[←N5];exact(fK.below cj (fun g o x hg=>gB.below D rfl hg) D.size)) (by rw[←N5];exact(fK.below cv (fun g o x hg=>gB.below D rfl hg) D.size));rw[←N5]at h;exact h
     have HC:=Hd hc;clear hc;go_wp2_with fail;refine HC.mono ?_;rintro e wn ⟨rfl,hb⟩;replace Y:=Hd (Y.trans (hb.mono Y.size));replace I:=kX hb I;replace J:=kX hb J;clear u0 u1 u2 u3 u4 u5 u6 u7 v0 v1 v2 v3 v4 v5 v6 v7 l1 l2 hb HC ws;rename World=>ws;obtain⟨u0,u1,u2,u3,u4,u5,u6,u7,-⟩:=q8 I;obtain⟨v0,v1,v2,v3,v4,v5,v6,v7,-⟩:=q8 J;have l1:=lH I;have l2:=lH J
     have hc:Calls Tryz.prog 20 #[.slice ax n6 ba,.slice aP n6 bi] ws (EA ws):=by
      have D:=QJ _ Y;have h:=vW m.fair ax ba aP bi ws (by rw[←N6];exact(fK.below ck (fun g o x hg=>gB.below D rfl hg) D.size)) (by rw[←N6];exact(fK.below cw (fun g o x hg=>gB.below D rfl hg) D.size));rw[←N6]at h;exact h
     have HC:=Hd hc;clear hc;go_wp2_with fail;refine HC.mono ?_;rintro e wn ⟨rfl,hb⟩;replace Y:=Hd (Y.trans (hb.mono Y.size));replace I:=kX hb I;replace J:=kX hb J;clear u0 u1 u2 u3 u4 u5 u6 u7 v0 v1 v2 v3 v4 v5 v6 v7 l1 l2 hb HC ws;rename World=>ws;obtain⟨u0,u1,u2,u3,u4,u5,u6,u7,-⟩:=q8 I;obtain⟨v0,v1,v2,v3,v4,v5,v6,v7,-⟩:=q8 J;have l1:=lH I;have l2:=lH J;go_wp2_with fail;rw[HF];exact⟨rfl,QJ _ Y⟩
abbrev ajH:=@q8
def IG:Md:=⟨[⟨⟨#[110]⟩,false,-1,2⟩],[],[],[],[⟨⟨#[110]⟩,j6 0⟩],[],[],[⟨⟨#[115]⟩,fT 7 [.mk 1 (dD 10 [iH 3 [110],j6 1]) []]⟩]⟩
theorem YW:parseM (bs ⟨#[118,97,114,32,110,32,58,32,45,49,32,46,46,32,50,59,32,110,101,120,116,32,110,32,58,61,32,48,59,32,115,112,101,99,32,115,32,58,32,69,70,32,91,110,32,61,32,49,93,59]⟩)=(IG,50,0):=by kernel_rfl
theorem aer:parseM (bs ⟨#[105,110,105,116,32,116,114,117,101]⟩)=(bG,9,16):=by kernel_rfl
theorem acg:kg IG=([118,97,114,32,110,32,58,32,45,49,32,46,46,32,50,32,59,10,110,101,120,116,32,110,32,58,61,32,48,32,59,10,115,112,101,99,32,115,32,58,32,69,70,32,91,110,32,61,32,49,93,32,59,10],0):=by kernel_rfl
theorem YZ:WZ IG:=⟨fun d h=>by simp[IG]at h;subst h;decide,fun d h=>by simp[IG]at h,fun d h=>by simp[IG]at h;subst h;decide,fun d h=>by simp[IG]at h;subst h;decide⟩
theorem Ux(hS:JQ IG)(w:World)(hT:Tables w):Calls Tryz.prog 7 #[] w (EA w):=by
 obtain⟨F,HF⟩:=ak (EA w);rw[←HF];have HT:=Hd hT;have HS:=Hd hS
 have uy:Hid (Calls Tryz.prog 8 #[.string ⟨#[118,97,114,32,110,32,58,32,45,49,32,46,46,32,50,59,32,110,101,120,116,32,110,32,58,61,32,48,59,32,115,112,101,99,32,115,32,58,32,69,70,32,91,110,32,61,32,49,93,59]⟩] w (MpQ w (IG,50,0))):=by
  have h:=FW ⟨#[118,97,114,32,110,32,58,32,45,49,32,46,46,32,50,59,32,110,101,120,116,32,110,32,58,61,32,48,59,32,115,112,101,99,32,115,32,58,32,69,70,32,91,110,32,61,32,49,93,59]⟩ w (by unfold maxLen;show 50≤_;omega) hT;rw[YW]at h;exact h
 clear hT hS;go_in;go_wp2_with fail;refine uy.mono ?_;rintro e w1 ⟨V,X,G,B,R,rfl,J,I,hB,jU,hb⟩;have D:=Ho J I;simp only at D;simp only[J5];obtain⟨A0,c0,e0,p0,q0,r0⟩:=D.vars;obtain⟨A1,c1,e1,p1,q1,r1⟩:=D.defs;obtain⟨A2,c2,e2,p2,q2,r2⟩:=D.init;obtain⟨A3,c3,e3,p3,q3,r3⟩:=D.bF;obtain⟨A4,c4,e4,p4,q4,r4⟩:=D.next;obtain⟨A5,c5,e5,p5,q5,r5⟩:=D.trans;obtain⟨A6,c6,e6,p6,q6,r6⟩:=D.fair;obtain⟨A7,c7,e7,p7,q7,r7⟩:=D.specs;rw[show IG.vars.length=1 from rfl]at e0 p0;rw[show IG.defs.length=0 from rfl]at e1 p1;rw[show IG.init.length=0 from rfl]at e2 p2;rw[show IG.bF.length=0 from rfl]at e3 p3;rw[show IG.next.length=1 from rfl]at e4 p4;rw[show IG.trans.length=0 from rfl]at e5 p5;rw[show IG.fair.length=0 from rfl]at e6 p6;rw[show IG.specs.length=1 from rfl]at e7 p7;unfold maxLen at q0 q1 q2 q3 q4 q5 q6 q7;rw[e0,e1,e2,e3,e4,e5,e6,e7];obtain⟨g,o,he,ai,hrow⟩:=r0.resolve_left (by simp[IG]);have hv:=hrow 0 _ rfl;rw[Nat.zero_mul,Nat.add_zero]at hv;obtain⟨x0,x1,x2,x3⟩:=hv;simp only at x0 x1 x2 x3;obtain⟨b1,qY⟩:=ak w1.heap.size;obtain⟨w2,Y⟩:=ak (w1.alloc (.cells #[.slice A0 1 c0,.slice A1 0 c1,.slice A2 0 c2,.slice A3 0 c3,.slice A4 1 c4,.slice A5 0 c5,.slice A6 0 c6,.slice A7 1 c7] 28));have O:=dz Y;have X1:=jZ Y qY
 have aa:=I7 V IG w2 (D.below O) HS YZ ((HT.below (hb.trans (O.mono hb.size))).ac7);rw[e0,e1,e2,e3,e4,e5,e6,e7,acg]at aa;have af:=Hd aa;have HB:=Hd (hb.trans (O.mono hb.size));have ar:=aa6 ⟨#[110]⟩ false (-1) 2;subst he;have ao:g≠w1.heap.size:=by omega
 clear J I D e0 e1 r1 e2 r2 e3 r3 e4 r4 e5 r5 e6 r6 e7 r7 hrow O aa hB jU hb uy;obtain⟨v0,v1,v2,v3,v4,v5,v6,v7,-⟩:=ajH X1;have l1:=lH X1;go_wp2_with fail;rw[←Y]
 try rw[←qY]
 (try go_wp2_with fail);refine af.mono ?_;rintro e w3 ⟨rfl,ag⟩;have ab:=kB HB ag
 have ae:Hid (Calls Tryz.prog 8 #[.string ⟨#[105,110,105,116,32,116,114,117,101]⟩] w3 (MpQ w3 (bG,9,16))):=by
  have h:=FW ⟨#[105,110,105,116,32,116,114,117,101]⟩ w3 (by unfold maxLen;show 9≤_;omega) (HT.below ab);rw[aer]at h;exact h
 clear ag af v0 v1 v2 v3 v4 v5 v6 v7 l1 x0 x1 x2 x3;go_wp2_with fail;refine ae.mono ?_;rintro e w4 ⟨V,X,G,B,R,rfl,J,I,hB,jU,hb⟩;have D:=Ho J I;simp only at D;simp only[J5];obtain⟨D0,d0,e0,-,-,-⟩:=D.vars;obtain⟨D1,d1,e1,-,-,-⟩:=D.defs;obtain⟨D2,d2,e2,-,-,-⟩:=D.init;obtain⟨D3,d3,e3,-,-,-⟩:=D.bF;obtain⟨D4,d4,e4,-,-,-⟩:=D.next;obtain⟨D5,d5,e5,-,-,-⟩:=D.trans;obtain⟨D6,d6,e6,-,-,-⟩:=D.fair;obtain⟨D7,d7,e7,-,-,-⟩:=D.specs;rw[e0,e1,e2,e3,e4,e5,e6,e7];have BS:=kB ab hb;clear e0 e1 e2 e3 e4 e5 e6 e7 D J I hB jU hb ae;go_wp2_with fail;rw[HF];exact⟨rfl,(kB BS (dz rfl)).out⟩
open Go.ChangeShapes Go.WideShapes Go.ChangeAt Go.RowKit
section
variable {H:Type} {enc:TypeId×Value→H} {P:Program} {w:World} {base:Nat} {spare:Nat→Bool} {held:Bool}
end
theorem mX.mk:∀{w:World} {l:List Tm} {g o:Nat},(∀j t,l[j]?=some t→gB w g (o+4*j) t)→mX w g o l
 |w,[],g,o,h=>by rw[mX];trivial
 |w,t::r,g,o,h=>by
  rw[mX];exact⟨h 0 t rfl,mX.mk fun j x D=>by rw[show o+4+4*j=o+4*(j+1)from by omega];exact h (j+1) x (by simpa using D)⟩
section
variable {H:Type} {enc:TypeId×Value→H} {w:World} {base:Nat} {spare:Nat→Bool} {held:Bool}
end
theorem own:ownKnob Tryz.prog.godebug=none:=by kernel_rfl
theorem laidOut:laidOutB Tryz.prog=true:=by kernel_rfl
theorem E8{H:Type}{enc:TypeId×Value→H}{w:World}{base:Nat}{sp:Nat→Bool}{held:Bool}{fuel:Nat}{t e:TypeId}{n:Nat}{cs:List Value}{l:List ByteArray}{p:List MemPlace}
 (ht:Tryz.prog.underlying t=some (.array n e)) (he:Tryz.prog.underlying e=some .string) (hce:Tryz.prog.cellsOf e=1)
 (h:DataW.trod enc Tryz.prog w base sp held fuel t cs=some (.agg (l.map fun s=>.lit (.string s.data.toList)),p)):∀j,j<l.length→cs[j]?=some (.string (l.getD j ByteArray.empty)):=by
 obtain⟨xs,m,rfl,hx,hl,O,D⟩:=DataW.trod_array ht h
 have G:xs.map (·.1)=l.map fun s=>(DataW.lit (.string s.data.toList):DataW H):=by
  have:=congrArg Prod.fst hx
  simpa using this.symm
 have aa:l.length=n:=by
  have:=congrArg List.length G;simp at this;omega
 intro j hj;have h1:=D j (by omega);obtain⟨b,hb⟩:∃b,xs[j]?=some b:=⟨xs[j]'(by omega),gG (by omega)⟩;rw[hb,hce]at h1;obtain⟨s,I,rfl,_⟩:=DataW.trod_string he h1
 have h2:cs[j]?=some (.string s):=by
  have:=congrArg (·[0]?) I
  simpa[List.getElem?_take,List.getElem?_drop]using this
 have h3:(xs.map (·.1))[j]?=some (DataW.lit (.string s.data.toList):DataW H):=by simp[hb]
 rw[G]at h3;simp only[List.getElem?_map,Option.map_eq_some_iff,DataW.lit.injEq,Lit.string.injEq]at h3;obtain⟨z,Y,J⟩:=h3;have:z=s:=gV J;subst this;rw[h2];simp[List.getD,Y]
theorem Kv{W:World}(h1:Lib.VarReads Tryz.prog W "voussoir/lexi.words" Rows.laid_voussoir_lexi_words)(h2:Lib.VarReads Tryz.prog W "voussoir/lexi.signs" Rows.laid_voussoir_lexi_signs):Tables W:=by
 obtain⟨g,t,cs,fuel,p,D,ht,hv,hd⟩:=h1;obtain rfl:=Option.some.inj ((show Tryz.prog.globalNamed "voussoir/lexi.words"=some 0 by kernel_rfl).symm.trans D);obtain rfl:=Option.some.inj ((show(Tryz.prog.globals[0]?).map (·.type)=some 134 by kernel_rfl).symm.trans ht);have c1:=E8 (l:=lC) Tryz.underlying134 Tryz.underlying9 (by kernel_rfl) hd
 have J:∀j,j<24→W.cell? ⟨0,j,none⟩=some (.string (lC.getD j ByteArray.empty)):=fun j G=>by
  have h3:=World.var?_cell D hv j;rw[h3,←Array.getElem?_toList];exact c1 j G
 obtain⟨g,t,cs,fuel,p,D,ht,hv,hd⟩:=h2;obtain rfl:=Option.some.inj ((show Tryz.prog.globalNamed "voussoir/lexi.signs"=some 1 by kernel_rfl).symm.trans D);obtain rfl:=Option.some.inj ((show(Tryz.prog.globals[1]?).map (·.type)=some 138 by kernel_rfl).symm.trans ht);have c2:=E8 (l:=gQ) Tryz.underlying138 Tryz.underlying9 (by kernel_rfl) hd
 have I:∀j,j<21→W.cell? ⟨1,j,none⟩=some (.string (gQ.getD j ByteArray.empty)):=fun j G=>by
  have h3:=World.var?_cell D hv j;rw[h3,←Array.getElem?_toList];exact c2 j G
 exact⟨World.block_lt_of_cell? W _ (I 0 (by omega)),J,I⟩
section
variable {H:Type} {enc:TypeId×Value→H} {W:World} {base:Nat} {v:Value} {d:DataW H} {p:List MemPlace}
end
end Go.Proofs.YtkhoeoilamddaaaGreatDoor
