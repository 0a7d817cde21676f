/- Walk of the reference of module texts: ref34.Parse. -/
import Derived.Test.YtkhoeoilamddaaaGreatDoorQSpH
import Derived.Test.YtkhoeoilamddaaaGreatDoorQMwF
namespace Go.Proofs.YtkhoeoilamddaaaGreatDoor
open Go.RowKit
set_option linter.unusedVariables false
set_option linter.unusedSimpArgs false
set_option maxRecDepth 100000
set_option maxHeartbeats 16000000
theorem aoi{o:Array Oper}{i:Nat}{x:Oper}(h:o.toList[i]?=some x):o[i]?=some x:=by simpa using h
def RAl:Prop:=∀(s:ByteArray) W,s.size≤maxLen→Calls Tryz.prog 16 #[.string s] W fun e w'=>∃v,e=.returned (.tuple #[v,.int .i64 (all (bs s)).2.1,.int .i64 (all (bs s)).2.2])∧w'.ownsRow W.heap.size 62 4 v (all (bs s)).1.length (flat (all (bs s)).1)∧Below W.heap.size W w'
def PmQ(w:World)(r:Md×Int×Int)(e:Ending)(w':World):Prop:=∃V:Nat→Value,e=.returned (.tuple #[.agg #[V 0,V 1,V 2,V 3,V 4,V 5,V 6,V 7],.int .i64 r.2.1,.int .i64 r.2.2])∧Km w' V r.1∧Below w.heap.size w w'
theorem anm(tm:Array Value)(D:Nat)(z1 z2:Value)(G I J O Y u5 u6 u7:Value)(w:World)(h2:tm[2]?=some (.pointer (some ⟨D,0,none⟩)))(h3:tm[3]?=some z1)(h4:tm[4]?=some z2)(h:w.heap[D]?=some (.cells #[G,I,J,O,Y,u5,u6,u7] 28 (0,0))) :
 (results Tryz.f9 tm).run Tryz.prog w=.ok (.tuple #[.agg #[G,I,J,O,Y,u5,u6,u7],z1,z2]) w:=by
 obtain⟨y0,y1,y2,y3,y4,y5,y6,y7,-⟩:=q8 h;unfold results;rw[Tryz.results9];simp only[Array.getD_eq_getD_getElem?];simp[h2,h3,h4,go_sem,y0,y1,y2,y3,y4,y5,y6,y7]
theorem aoe{w:World}{B:Nat}{v:Value}{l:List Tok}(h:w.ownsRow B 62 4 v l.length (flat l))(hok:∀t∈l,Mf t)(hs:xU l≤65536):∃A c,v=.slice A l.length c∧dP w A c l:=by
 have hlen:=zL hok;have G:∀t∈l,t.text.length≤100000:=fun t ht=>by have:=TG ht;omega
 have D:∀t∈l,-1000000≤t.n∧t.n≤1000000:=fun t ht=>by have h1:=(hok t ht).n0;have h2:=(hok t ht).n1;omega
 rcases h.2 with⟨h1,h2⟩|⟨g,cap,cur,hv,hb,O,J,I,Y,aa⟩
 ·exact⟨none,0,by rw[h1,h2],⟨.inl (List.length_eq_zero_iff.1 h2),by omega,by unfold maxLen;omega,by omega,G,D,fun a ha=>by cases ha⟩⟩
 ·refine⟨some ⟨g,0,none⟩,cap,hv,⟨.inr ⟨g,0,rfl,lH O,fun k z hz j hj=>?_⟩,J,I,by omega,G,D,fun a ha=>by cases ha;exact lH O⟩⟩;have hc:=h.cells (g:=g) (by rw[hv];rfl) (k*4+j) (fZ z j) (flat_get hz hj);rw[addr_add]at hc;rw[Nat.zero_add]at hc⊢;exact hc
def anM(W:World)(p:Nat)(V:Nat→Value):World:=(((((((W.setCell ⟨p,0,none⟩ (V 0)).setCell ⟨p,1,none⟩ (V 1)).setCell ⟨p,2,none⟩ (V 2)).setCell ⟨p,3,none⟩ (V 3)).setCell ⟨p,4,none⟩ (V 4)).setCell ⟨p,5,none⟩ (V 5)).setCell ⟨p,6,none⟩ (V 6)).setCell ⟨p,7,none⟩ (V 7)
theorem an0(W:World)(p:Nat):(((((((W.setCell ⟨p,0,none⟩ (.slice none 0 0)).setCell ⟨p,1,none⟩ (.slice none 0 0)).setCell ⟨p,2,none⟩ (.slice none 0 0)).setCell ⟨p,3,none⟩ (.slice none 0 0)).setCell ⟨p,4,none⟩ (.slice none 0 0)).setCell ⟨p,5,none⟩ (.slice none 0 0)).setCell ⟨p,6,none⟩ (.slice none 0 0)).setCell ⟨p,7,none⟩ (.slice none 0 0)=anM W p (fun _=>.slice none 0 0):=rfl
theorem anG{W:World}{p:Nat}{V:Nat→Value}{D G I J O Y u6 u7:Value}{T:TypeId}(h:W.heap[p]?=some (.cells #[D,G,I,J,O,Y,u6,u7] T (0,0))):(anM W p V).heap[p]?=some (.cells #[V 0,V 1,V 2,V 3,V 4,V 5,V 6,V 7] T (0,0)):=by
 unfold anM;simp[World.setCell,Array.getElem?_modify,h]
theorem anv{w W:World}{p:Nat}{V:Nat→Value}(h:Below w.heap.size w W)(hp:w.heap.size≤p):Below w.heap.size w (anM W p V):=
 (((((((h.setCell (p:=⟨p,0,none⟩) hp _).setCell (p:=⟨p,1,none⟩) hp _).setCell (p:=⟨p,2,none⟩) hp _).setCell (p:=⟨p,3,none⟩) hp _).setCell (p:=⟨p,4,none⟩) hp _).setCell (p:=⟨p,5,none⟩) hp _).setCell (p:=⟨p,6,none⟩) hp _).setCell (p:=⟨p,7,none⟩) hp _
theorem anH{w:World}{B:Nat}{F:Nat→Prop}{V:Nat→Value}{X:Nat→List (List Value)}{G:Nat→List El}{m:Md}(h:RM w B F V X G)(D:V8 G m):Km w V m:=ab9 (fun k I=>h.own k I) (fun _ _=>rfl) h.vals D
theorem aom(W:World)(p:Nat)(a:Nat→Option Addr)(D c:Nat→Nat):(((((((W.setCell ⟨p,0,none⟩ (.slice (a 0) (D 0) (c 0))).setCell ⟨p,1,none⟩ (.slice (a 1) (D 1) (c 1))).setCell ⟨p,2,none⟩ (.slice (a 2) (D 2) (c 2))).setCell ⟨p,3,none⟩ (.slice (a 3) (D 3) (c 3))).setCell ⟨p,4,none⟩ (.slice (a 4) (D 4) (c 4))).setCell ⟨p,5,none⟩ (.slice (a 5) (D 5) (c 5))).setCell ⟨p,6,none⟩ (.slice (a 6) (D 6) (c 6))).setCell ⟨p,7,none⟩ (.slice (a 7) (D 7) (c 7))=anM W p (VSl a D c):=rfl
theorem an5{F:Nat→Prop}{w W:World}{r:Nat}{V:Nat→Value}(h:Only F w W)(hr:F r):Only F w (anM W r V):=
 (((((((h.bq hr _).bq hr _).bq hr _).bq hr _).bq hr _).bq hr _).bq hr _).bq hr _
theorem anX(hA:RAl)(b1:∀l A c,RTk l A c)(b0:∀l A c,RFk l A c)(s:ByteArray)(w:World)(hs:s.size≤maxLen) :
 Calls Tryz.prog 9 #[.string s] w (PmQ w (parseM (bs s))):=by
 obtain⟨R,HR⟩:=ak (parseM (bs s));obtain⟨F,HF⟩:=ak (PmQ w R);rw[←HR.out,←HF.out];obtain⟨w1,hw1⟩:=aj (w.alloc (.cells #[.slice none 0 0,.slice none 0 0,.slice none 0 0,.slice none 0 0,.slice none 0 0,.slice none 0 0,.slice none 0 0,.slice none 0 0] 28));obtain⟨p,hp⟩:=aj w.heap.size;have hb1:=dz hw1;have yJ:=jZ hw1 hp;have a7:=hA s w1 hs;have hok:=WJ (bs s);unfold parseM at HR;obtain⟨al,b2⟩:=aj (all (bs s));rw[←b2]at a7 hok HR;obtain⟨l,bW,e0⟩:=al;simp only at a7 hok HR;have cp:=hs;unfold maxLen at cp;have bd:=Hd a7;have BQ:=Hd hok;have bu:=Hd hb1;have cd:=Hd hw1;have ar:=Hd hp;have JZ:=Hd b1;have b8:=Hd b0;have cz:p<w1.heap.size:=lH yJ.out;clear hA hs hw1 hp hb1 a7 hok b2 b1 b0;go_in;go_wp2_with fail;rw[←cd.out]
 try rw[←ar.out]
 (try go_wp2_with fail);refine(bd.out).mono ?_;rintro e w2 ⟨v,rfl,ab,a8⟩;have ae:Hid (Below w.heap.size w w2):=bu.trans (a8.mono bu.size);have FK:=kX a8 yJ;have aS:=lH FK.out;have cs:=a8.size;clear a8 yJ
 by_cases ba:e0=0
 case neg=>
  have cw:(e0 != 0)=true:=by simpa using ba
  have bE:Hid (R=(bG,bW,e0)):=by show _=_;rw[HR.out,iP ba]
  clear ba ab bd;obtain⟨u0,u1,u2,u3,u4,u5,u6,u7,uf⟩:=q8 FK.out;go_wp2_with fail;clear u0 u1 u2 u3 u4 u5 u6 u7 uf;rw[an0];obtain⟨V,hV⟩:=aj (fun _:Nat=>Value.slice none 0 0);rw[←hV];refine bR (anm _ p (.int .i64 bW) (.int .i64 e0) _ _ _ _ _ _ _ _ _ rfl rfl rfl (anG (V:=V) FK.out)) rfl ?_;rw[HF.out,bE.out];have ao:=anv (V:=V) ae.out (by have:=ar.out;omega:w.heap.size≤p)
  have ag:Km (anM w2 p V) V bG:=by
   rw[hV];exact anH (RM.nil _ w.heap.size fun _=>False) ⟨rfl,rfl,rfl,rfl,rfl,rfl,rfl,rfl⟩
  exact⟨V,rfl,ag,ao⟩
 case pos=>
 subst ba;have b4:∀q,v.ownBlock=some q→w1.heap.size≤q:=fun q hq=>(ab.lt q hq).1;obtain⟨A,c,rfl,b6⟩:=aoe ab (fun t ht=>BQ.1 t ht) BQ.2.2;have cb:Hid (∀a,A=some a→w1.heap.size≤a.block):=fun a ha=>b4 a.block (by rw[ha];rfl);clear b4;have aP:=Hd b6
 have aJ:Hid (R=ag6 l (bs s).length (AB l l.length bG 0)):=by
  show _=_;rw[HR.out];simp only[ne_eq,not_true_eq_false,if_false];cases AB l l.length bG 0<;>rfl
 obtain⟨bx,qH⟩:=ak w2.heap.size;obtain⟨w3,bh⟩:=ak (w2.alloc (.cells #[.slice none 0 0,.slice none 0 0,.slice none 0 0,.slice none 0 0,.slice none 0 0,.slice none 0 0,.slice none 0 0,.slice none 0 0,.int .i64 0,.int .i64 0] 60));clear b6 ab HR bd;go_wp2_with fail;rw[←bh.out]
 try rw[←qH.out]
 have cf:=jZ bh.out qH.out
 have BS:Hid (Below bx w2 w3):=by
  show Below _ _ _;rw[qH.out];exact dz bh.out
 obtain⟨r0,Kq⟩:=ak (AB l l.length bG 0);rw[←Kq.out]at aJ;obtain⟨n,hn⟩:=aj l.length;have bf:Hid (n≤1000000):=by show n≤_;have:=aP.len;rw[hn];omega
 have HN:=Hd hn;rw[←hn];clear hn
 go_loopg [] (n+1) (fun k wr=>∃(i:Nat)(a:Nat→Option Addr)(nn c0:Nat→Nat)(X:Nat→List (List Value))(G:Nat→List El)(m:Md)(f:Nat),k=f+1∧wr.heap[bx]?=some (.cells #[.slice (a 0) (nn 0) (c0 0),.slice (a 1) (nn 1) (c0 1),.slice (a 2) (nn 2) (c0 2),.slice (a 3) (nn 3) (c0 3),.slice (a 4) (nn 4) (c0 4),.slice (a 5) (nn 5) (c0 5),.slice (a 6) (nn 6) (c0 6),.slice (a 7) (nn 7) (c0 7),.int .i64 (i:Nat),.int .i64 0] 60 (0,0))∧RM wr bx (fun q=>q=bx∨q=p) (VSl a nn c0) X G∧V8 G m∧(∀k,k<8→nn k=(G k).length)∧Below bx w2 wr∧i≤l.length∧l.length≤i+f∧AB l f m i=r0)
 case atStart=>
  exact⟨0,fun _=>none,fun _=>0,fun _=>0,fun _=>[],fun _=>[],bG,n,rfl,cf.out,RM.nil _ _ _,⟨rfl,rfl,rfl,rfl,rfl,rfl,rfl,rfl⟩,fun _ _=>rfl,BS.out,zl _,by have:=HN.out;omega,by rw[HN.out];exact Kq.symm⟩
 case round=>
  obtain⟨i,a,nn,c0,X,G,m,f,hk,hx,bo,bl,bm,hb,b5,aa,O⟩:=hrel;have HX:=Hd hx;have bz:=Hd bo;have bv:=Hd bl;have Iy:=Hd bm;have HB:=Hd hb;have HK:=Hd hk;have aE:=Hd aa;have aF:=Hd O;have cq:=Hd b5;have hlen:=bf.out;rw[←HN.out]at b5;have bb:bx<wr.heap.size:=lH HX.out
  by_cases hi:i<n
  ·have bk:=an4 l A c (JZ.out l A c) (b8.out l A c) i wr bx (fun q=>q=bx∨q=p) a nn c0 X G m (aP.ano (by rw[←qH.out];exact HB.out)) (by rw[←HN.out];exact hi) bz.out Iy.out bv.out (Nat.le_of_lt bb) (fun q hq=>by rcases hq with rfl|rfl;exact bb;exact Nat.lt_trans (by rw[qH.out];exact aS) bb) (fun x hx=>by rw[qH.out];exact aP.old x hx);rw[←HN.out]at bk;have b7:=Hd bk;have cj:(i:Int)<(n:Int):=by omega
   obtain⟨u0,u1,u2,u3,u4,u5,u6,u7,u8,u9,uf⟩:=q10 HX.out;clear bk hx bo bl bm hb hk aa O hi;go_wp2_with fail;refine(b7.out).mono ?_;rintro e w6 ⟨Y,n6,c6,iX,hq⟩;obtain⟨re,bn⟩:=aj (m_ l m i);rw[←bn]at hq;have bE:=Hd bn;have Pq:=Hd ((iX.block bx bb (fun h=>h.2 (.inl rfl))).trans HX.out);have bZ:Hid (Below bx w2 w6):=HB.trans ⟨iX.os,iX.tape,iX.output,iX.size,fun q cA=>iX.block q (by omega) (fun h=>by have:=h.1;omega)⟩;clear u0 u1 u2 u3 u4 u5 u6 u7 u8 u9 uf iX bn;obtain⟨u0,u1,u2,u3,u4,u5,u6,u7,u8,u9,uf⟩:=q10 Pq.out;have bC:bx<w6.heap.size:=lH Pq.out
   cases re with
   |bad j x=>
    obtain⟨rfl,bp⟩:=hq;have cC:(x != 0)=true:=by simpa using bp
    have cr:=Hd bp;clear bp;unfold anO;simp only[VSl]
    go_upto_if 34 with fail
    obtain⟨w7,I⟩:=aj (anr w6 bx (VSl Y n6 c6) (.int .i64 (j:Nat)) (.int .i64 x));have ai:Only (fun q=>q=bx) w6 w7:=by rw[I];exact ank ⟨rfl,rfl,rfl,lr _,fun _ _ _=>rfl⟩ rfl
    have E5:Hid (w7.heap[bx]?=some (.cells #[.slice (Y 0) (n6 0) (c6 0),.slice (Y 1) (n6 1) (c6 1),.slice (Y 2) (n6 2) (c6 2),.slice (Y 3) (n6 3) (c6 3),.slice (Y 4) (n6 4) (c6 4),.slice (Y 5) (n6 5) (c6 5),.slice (Y 6) (n6 6) (c6 6),.slice (Y 7) (n6 7) (c6 7),.int .i64 (j:Nat),.int .i64 x] 60 (0,0))):=by rw[I];exact anw (V:=VSl Y n6 c6) Pq.out
    have bw:=Hd ai;have af:Hid (Below bx w2 w7):=bZ.trans (b_ ai (lr _) (Nat.le_of_lt bC));unfold anr at I;simp only[VSl]at I;rw[←I];clear I ai u0 u1 u2 u3 u4 u5 u6 u7 u8 u9 uf;obtain⟨u0,u1,u2,u3,u4,u5,u6,u7,u8,u9,uf⟩:=q10 E5.out
    by_cases hj:j<n
    ·have ck:(j:Int)<(n:Int):=by omega
     have av:Hid (R=(bG,Wv l (bs s).length j,x)):=by
      show _=_;have O:=aF.out;have aa:=aE.out;rw[←HN.out]at aa;rw[aJ.out,←O]
      cases f with
      |zero=>omega
      |succ f'=>rw[AB,iN (by rw[←HN.out];omega),←bE.out];rfl
     have ay:p<bx:=by rw[qH.out];exact aS
     have X2:=Hd ((af.block p ay).trans FK.out);have Ot:Hid (Below w.heap.size w w7):=ae.trans (af.mono (by have:=qH.out;have:=ae.size;omega));have aw:=lH E5.out;have ax:=(aP.ano (by rw[←qH.out];exact af.out):dP w7 A c l);obtain⟨tk,tb,off,ht,bi,htl,-⟩:=ax.at (show j<l.length by have:=HN.out;omega)
     have br:w7.cell? ⟨tb,off+j*4+3,none⟩=some (.int .i64 tk.at_):=by
      rcases ax.toks with h0|⟨b',o',b3,-,hc⟩
      ·rw[h0]at ht;simp at ht
      ·rw[bi]at b3;cases b3;exact hc j tk ht 3 (by omega)
     have az:Hid (Wv l (bs s).length j=tk.at_):=by show _=_;unfold Wv;rw[ht]
     obtain⟨ta,Uc⟩:=ak tk.at_;rw[←Uc.out]at az br
     have ct:tb≠p:=by
      have h9:=cb.out _ bi;simp only at h9;omega
     have cy:(0:Int)≤(j:Int):=by omega
     have bj:=ax.cap;have aQ:=ax.bU;unfold maxLen at aQ;rw[←HN.out]at bj;subst bi;clear ax ht;go_wp2_with fail;refine wp_region_held_drew (S:=fun W=>W.cell? ⟨bx,8,none⟩=some (.int .i64 (j:Nat))∧W.cell? ⟨bx,9,none⟩=some (.int .i64 x)∧W.cell? ⟨tb,off+j*4+3,none⟩=some (.int .i64 ta)) (by kernel_rfl) ⟨u8,u9,br⟩ (fun D=>?_);obtain⟨Wc,J⟩:=aj w7.drew;replace X2:=X2.out;replace Ot:=Ot.out;replace X2:Hid (Wc.heap[p]?=some (.cells #[.slice none 0 0,.slice none 0 0,.slice none 0 0,.slice none 0 0,.slice none 0 0,.slice none 0 0,.slice none 0 0,.slice none 0 0] 28 (0,0))):=by show _=_;rw[J];exact X2
     replace Ot:Hid (Below w.heap.size w Wc):=by show Below _ _ _;rw[J];exact Ot.drew
     have cg:bx<Wc.heap.size:=by rw[J];exact aw
     have cB:tb<Wc.heap.size:=by rw[J];exact htl
     rw[←J]at D⊢;clear J u0 u1 u2 u3 u4 u5 u6 u7 u8 u9 uf aw htl br
     repeat
      (first|refine aI 0 (v:=?_) rfl ?hy ?_|refine aI 1 (v:=?_) rfl ?hy ?_|refine aI 2 (v:=?_) rfl ?hy ?_|refine aI 3 (v:=?_) rfl ?hy ?_|refine aI 4 (v:=?_) rfl ?hy ?_|refine aI 5 (v:=?_) rfl ?hy ?_|refine aI 6 (v:=?_) rfl ?hy ?_|refine aI 7 (v:=?_) rfl ?hy ?_|refine aI 8 (v:=?_) rfl ?hy ?_|refine aI 10 (v:=?_) rfl ?hy ?_|refine aI 11 (v:=?_) rfl ?hy ?_
       case hy=>
        intro w0 hS;obtain⟨h1,h2,h3⟩:=hS;go_simp
        (first|done|with_reducible rfl|rfl)
       try simp only[Act.put,aT,aU,aV])
     iterate 1
      all_goals first
       |refine Rd (rs:=[9]) (by decide +kernel) (by simp) (Rc (aoi rfl) (fun K hK=>?_) Rn)
       |fail
      all_goals first
       |(refine Gw ?_
         obtain⟨u0,u1,u2,u3,u4,u5,u6,u7,uz⟩:=q8 X2.out;have sG:=lH X2.out;go_simp;clear u0 u1 u2 u3 u4 u5 u6 u7 uz sG;refine hK.out _ _ (⟨(World.cell?_of_block (a:=⟨bx,8,none⟩) ((tZ _ _ _ _ _ _ _ _).block bx (by assumption) (by omega))).trans D.1,(World.cell?_of_block (a:=⟨bx,9,none⟩) ((tZ _ _ _ _ _ _ _ _).block bx (by assumption) (by omega))).trans D.2.1,(World.cell?_of_block (a:=⟨tb,off+j*4+3,none⟩) ((tZ _ _ _ _ _ _ _ _).block tb (by assumption) (by omega))).trans D.2.2⟩) (fun D=>?_);clear hK K
         try simp only[Act.put,aT,aU,aV])
       |fail
      all_goals
       repeat
        (first|refine aI 0 (v:=?_) rfl ?hy ?_|refine aI 1 (v:=?_) rfl ?hy ?_|refine aI 2 (v:=?_) rfl ?hy ?_|refine aI 3 (v:=?_) rfl ?hy ?_|refine aI 4 (v:=?_) rfl ?hy ?_|refine aI 5 (v:=?_) rfl ?hy ?_|refine aI 6 (v:=?_) rfl ?hy ?_|refine aI 7 (v:=?_) rfl ?hy ?_|refine aI 8 (v:=?_) rfl ?hy ?_|refine aI 10 (v:=?_) rfl ?hy ?_|refine aI 11 (v:=?_) rfl ?hy ?_
         case hy=>
          intro w0 hS;obtain⟨h1,h2,h3⟩:=hS;go_simp
          (first|done|with_reducible rfl|rfl)
         try simp only[Act.put,aT,aU,aV])
     all_goals refine wpAnyH_done (by decide +kernel) ?_ _
     all_goals
      go_wp2_with fail;rw[an0];obtain⟨V,hV⟩:=aj (fun _:Nat=>Value.slice none 0 0);rw[←hV];refine bR (anm _ p (.int .i64 ta) (.int .i64 x) _ _ _ _ _ _ _ _ _ rfl rfl rfl (anG (V:=V) X2.out)) rfl ?_;rw[HF.out,av.out];have ao:=anv (V:=V) Ot.out (by have:=ar.out;omega:w.heap.size≤p)
      have ag:Km (anM Wc p V) V bG:=by
       rw[hV];exact anH (RM.nil _ w.heap.size fun _=>False) ⟨rfl,rfl,rfl,rfl,rfl,rfl,rfl,rfl⟩
      exact⟨V,by rw[az.out],ag,ao⟩
    ·have ck:¬(j:Int)<(n:Int):=by omega
     have aw:=lH E5.out
     have av:Hid (R=(bG,Wv l (bs s).length j,x)):=by
      show _=_;have O:=aF.out;have aa:=aE.out;rw[←HN.out]at aa;rw[aJ.out,←O]
      cases f with
      |zero=>omega
      |succ f'=>rw[AB,iN (by rw[←HN.out];omega),←bE.out];rfl
     have az:Hid (Wv l (bs s).length j=(s.size:Nat)):=by
      show _=_;unfold Wv;rw[List.getElem?_eq_none (by have:=HN.out;omega),aC s]
     have ay:p<bx:=by rw[qH.out];exact aS
     have X2:=Hd ((af.block p ay).trans FK.out);have Ot:Hid (Below w.heap.size w w7):=ae.trans (af.mono (by have:=qH.out;have:=ae.size;omega));go_wp2_with fail;refine wp_region_held_drew (S:=fun W=>W.cell? ⟨bx,9,none⟩=some (.int .i64 x)) (by kernel_rfl) u9 (fun D=>?_);obtain⟨Wc,J⟩:=aj w7.drew;replace X2:=X2.out;replace Ot:=Ot.out;replace X2:Hid (Wc.heap[p]?=some (.cells #[.slice none 0 0,.slice none 0 0,.slice none 0 0,.slice none 0 0,.slice none 0 0,.slice none 0 0,.slice none 0 0,.slice none 0 0] 28 (0,0))):=by show _=_;rw[J];exact X2
     replace Ot:Hid (Below w.heap.size w Wc):=by show Below _ _ _;rw[J];exact Ot.drew
     have cg:bx<Wc.heap.size:=by rw[J];exact aw
     rw[←J]at D⊢;clear J u0 u1 u2 u3 u4 u5 u6 u7 u8 u9 uf aw
     repeat
      (first|refine aI 0 (v:=?_) rfl ?hy ?_|refine aI 1 (v:=?_) rfl ?hy ?_|refine aI 2 (v:=?_) rfl ?hy ?_|refine aI 3 (v:=?_) rfl ?hy ?_|refine aI 4 (v:=?_) rfl ?hy ?_|refine aI 6 (v:=?_) rfl ?hy ?_|refine aI 7 (v:=?_) rfl ?hy ?_
       case hy=>
        intro w0 hS;have h2:=hS;clear hS;go_simp
        (first|done|with_reducible rfl|rfl)
       try simp only[Act.put,aT,aU,aV])
     iterate 1
      all_goals first
       |refine Rd (rs:=[5]) (by decide +kernel) (by simp) (Rc (aoi rfl) (fun K hK=>?_) Rn)
       |fail
      all_goals first
       |(refine Gw ?_
         obtain⟨u0,u1,u2,u3,u4,u5,u6,u7,uz⟩:=q8 X2.out;have sG:=lH X2.out;go_simp;clear u0 u1 u2 u3 u4 u5 u6 u7 uz sG;refine hK.out _ _ ((World.cell?_of_block (a:=⟨bx,9,none⟩) ((tZ _ _ _ _ _ _ _ _).block bx (by assumption) (by omega))).trans D) (fun D=>?_);clear hK K
         try simp only[Act.put,aT,aU,aV])
       |fail
      all_goals
       repeat
        (first|refine aI 0 (v:=?_) rfl ?hy ?_|refine aI 1 (v:=?_) rfl ?hy ?_|refine aI 2 (v:=?_) rfl ?hy ?_|refine aI 3 (v:=?_) rfl ?hy ?_|refine aI 4 (v:=?_) rfl ?hy ?_|refine aI 6 (v:=?_) rfl ?hy ?_|refine aI 7 (v:=?_) rfl ?hy ?_
         case hy=>
          intro w0 hS;have h2:=hS;clear hS;go_simp
          (first|done|with_reducible rfl|rfl)
         try simp only[Act.put,aT,aU,aV])
     all_goals refine wpAnyH_done (by decide +kernel) ?_ _
     all_goals
      go_wp2_with fail;rw[an0];obtain⟨V,hV⟩:=aj (fun _:Nat=>Value.slice none 0 0);rw[←hV];refine bR (anm _ p (.int .i64 (s.size:Nat)) (.int .i64 x) _ _ _ _ _ _ _ _ _ rfl rfl rfl (anG (V:=V) X2.out)) rfl ?_;rw[HF.out,av.out];have ao:=anv (V:=V) Ot.out (by have:=ar.out;omega:w.heap.size≤p)
      have ag:Km (anM Wc p V) V bG:=by
       rw[hV];exact anH (RM.nil _ w.heap.size fun _=>False) ⟨rfl,rfl,rfl,rfl,rfl,rfl,rfl,rfl⟩
      exact⟨V,by rw[az.out],ag,ao⟩
   |ok m' j=>
    obtain⟨rfl,X6,G6,bJ,bL,bP⟩:=hq;have o7:=Hd bJ;have b9:=Hd bL;have cc:=Hd bP;have cn:=agp bE.symm;rw[←HN.out]at cn;clear bJ bL bP;unfold anO;simp only[VSl]
    go_upto_if 34 with fail
    obtain⟨w7,I⟩:=aj (anr w6 bx (VSl Y n6 c6) (.int .i64 (j:Nat)) (.int .i64 0));have ai:Only (fun q=>q=bx) w6 w7:=by rw[I];exact ank ⟨rfl,rfl,rfl,lr _,fun _ _ _=>rfl⟩ rfl
    have E5:Hid (w7.heap[bx]?=some (.cells #[.slice (Y 0) (n6 0) (c6 0),.slice (Y 1) (n6 1) (c6 1),.slice (Y 2) (n6 2) (c6 2),.slice (Y 3) (n6 3) (c6 3),.slice (Y 4) (n6 4) (c6 4),.slice (Y 5) (n6 5) (c6 5),.slice (Y 6) (n6 6) (c6 6),.slice (Y 7) (n6 7) (c6 7),.int .i64 (j:Nat),.int .i64 0] 60 (0,0))):=by rw[I];exact anw (V:=VSl Y n6 c6) Pq.out
    have bw:=Hd ai;have af:Hid (Below bx w2 w7):=bZ.trans (b_ ai (lr _) (Nat.le_of_lt bC));unfold anr at I;simp only[VSl]at I;rw[←I];clear I ai u0 u1 u2 u3 u4 u5 u6 u7 u8 u9 uf;obtain⟨u0,u1,u2,u3,u4,u5,u6,u7,u8,u9,uf⟩:=q10 E5.out;go_wp2_with fail
    have ci:∃f',f=f'+1∧AB l f' m' j=r0:=by
     have aa:=aE.out;have O:=aF.out;rw[←HN.out]at aa
     cases f with
     |zero=>omega
     |succ f'=>exact⟨f',rfl,by rw[←O,AB,iN (by rw[←HN.out];omega),←bE.out];rfl⟩
    obtain⟨f',cx,ch⟩:=ci
    go_roundg (f'+1)
    case rel=>exact⟨j,Y,n6,c6,X6,G6,m',f',rfl,E5.out,o7.only (bw.mono fun q h=>.inl h),b9.out,cc.out,af.out,by rw[←HN.out];omega,by have:=aE.out;omega,ch⟩
    case measure=>have:=HK.out;omega
  ·have cj:¬(i:Int)<(n:Int):=by omega
   have av:Hid (R=(m,((bs s).length:Int),0)):=by
    have O:=aF.out
    have hr:r0=.ok m i:=by
     rw[←O]
     cases f with
     |zero=>rfl
     |succ f'=>rw[AB,iP (by rw[←HN.out];omega)]
    show _=_;rw[aJ.out,hr]
    rfl
   have ay:p<bx:=by rw[qH.out];exact aS
   have bg:=Hd ((HB.block p ay).trans FK.out);obtain⟨u0,u1,u2,u3,u4,u5,u6,u7,u8,u9,uf⟩:=q10 HX.out;obtain⟨v0,v1,v2,v3,v4,v5,v6,v7,vf⟩:=q8 bg.out;have cv:=lH bg.out;clear hx bo bl bm hb hk aa O hi;go_wp2_with fail;clear u0 u1 u2 u3 u4 u5 u6 u7 u8 u9 uf v0 v1 v2 v3 v4 v5 v6 v7 vf;rw[aom];obtain⟨V,hV⟩:=aj (VSl a nn c0);rw[←hV];refine bR (anm _ p (.int .i64 (s.size:Nat)) (.int .i64 0) _ _ _ _ _ _ _ _ _ rfl rfl rfl (anG (V:=V) bg.out)) rfl ?_;rw[HF.out,av.out]
   have ag:Km (anM wr p V) V m:=by
    rw[hV];exact anH (bz.only (an5 ⟨rfl,rfl,rfl,lr _,fun _ _ _=>rfl⟩ (.inr rfl))) bv.out
   have ao:=anv (V:=V) (ae.trans (HB.mono (by have:=qH.out;have:=ae.size;omega))) (by have:=ar.out;omega:w.heap.size≤p);exact⟨V,by rw[aC s],ag,ao⟩
end Go.Proofs.YtkhoeoilamddaaaGreatDoor
