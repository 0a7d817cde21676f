/- Walks and plain words: RprS RprT RprW RprX RprZ. -/
import Derived.Test.YtkhoeoilamddaaaGreatDoorQRprG
namespace Go.Proofs.YtkhoeoilamddaaaGreatDoor
open Go.RowKit
set_option linter.unusedVariables false
def jAt(b:Nat)(w:World):Nat:=match w.cell? ⟨b,4,none⟩with
 |some (.int _ z)=>z.toNat
 |_=>0
structure VB(w:World)(l:List Tok)(i b6 b7:Nat)(one:jN)(ops:List Int)(r:Rs Tm)(wr:World)(ra:Rs Tm)(A':Option Addr)(c' fuel:Nat):Prop where
 x6:wr.heap[b6]?=some (.cells #[.int .i64 0,.int .i64 0,.string ⟨#[]⟩,.slice none 0 0,.int .i64 0,.int .i64 0] 194 (0,0))
 x7:wr.heap[b7]?=some (.cells #[.int .i64 (jY ra).op,.int .i64 (jY ra).num,.string (jY ra).name,.slice A' (jY ra).kids.length c',.int .i64 (Vn ra:Nat),.int .i64 (Vo ra)] 194 (0,0))
 v:aD (fun q=>b7<q) wr A' c' (jY ra)
 below:Below w.heap.size w wr
 ok:∀t j,ra=.ok t j→i<j∧j≤l.length∧l.length≤fuel+j
 bad:∀j x,ra=.bad j x→x≠0
 re:(ra.then fun t j=>jK l one ops fuel t j)=r
theorem Sy{b:Nat}{w:World}{D G I J O:Value}{j:Nat}(h:w.heap[b]?=some (.cells #[D,G,I,J,.int .i64 (j:Nat),O] 194 (0,0))):jAt b w=j:=by
 unfold jAt;rw[(aiD h).2.2.2.2.1.1];simp
theorem VB.set{w W:World}{l:List Tok}{i G D:Nat}{one:jN}{ops:List Int}{r ra:Rs Tm}{A':Option Addr}{c' fuel:Nat}{I J O Y u4 u5:Value}(hb:G=w.heap.size)(hne:G<D)(x6:W.heap[G]?=some (.cells #[.int .i64 0,.int .i64 0,.string ⟨#[]⟩,.slice none 0 0,.int .i64 0,.int .i64 0] 194 (0,0)))(x7:W.heap[D]?=some (.cells #[I,J,O,Y,u4,u5] 194 (0,0)))(v:aD (fun q=>D<q) W A' c' (jY ra))(below:Below w.heap.size w W)(ok:∀t j,ra=.ok t j→i<j∧j≤l.length∧l.length≤fuel+j)(bad:∀j x,ra=.bad j x→x≠0)(re:(ra.then fun t j=>jK l one ops fuel t j)=r) :
 VB w l i G D one ops r ((((((W.setCell ⟨D,0,none⟩ (.int .i64 (jY ra).op)).setCell ⟨D,1,none⟩ (.int .i64 (jY ra).num)).setCell ⟨D,2,none⟩ (.string (jY ra).name)).setCell ⟨D,3,none⟩ (.slice A' (jY ra).kids.length c')).setCell ⟨D,4,none⟩ (.int .i64 (Vn ra:Nat))).setCell ⟨D,5,none⟩ (.int .i64 (Vo ra))) ra A' c' fuel:=by
 have h0:w.heap.size≤D:=by omega
 refine⟨(fV (by omega)).trans x6,iG x7,?_,?_,ok,bad,re⟩
 ·exact v.keep ((((((aR.refl.set (by simp) _).set (by simp) _).set (by simp) _).set (by simp) _).set (by simp) _).set (by simp) _) (fun q _ h=>h)
 ·exact((((((Ob (F:=fun q=>w.heap.size≤q) below).bq h0 _).bq h0 _).bq h0 _).bq h0 _).bq h0 _).bq h0 _|>.below (fun q h=>h) (lr _)
theorem Ll{w W:World}{G D:Nat}{r:Rs Tm}{A':Option Addr}{c':Nat}(O Y u2 u3 u4 u5 v0 v1 v2 v3 v4 v5:Value)(hb:G=w.heap.size)(h8:w.heap.size<D)(J:aD (fun q=>D<q) W A' c' (jY r))(I:Below w.heap.size w W) :
 GQ w r (.returned (.agg #[.int .i64 (jY r).op,.int .i64 (jY r).num,.string (jY r).name,.slice A' (jY r).kids.length c',.int .i64 (Vn r:Nat),.int .i64 (Vo r)])) ((((((((((((W.setCell ⟨D,0,none⟩ (O)).setCell ⟨D,1,none⟩ (Y)).setCell ⟨D,2,none⟩ (u2)).setCell ⟨D,3,none⟩ (u3)).setCell ⟨D,4,none⟩ (u4)).setCell ⟨D,5,none⟩ (u5)).setCell ⟨G,0,none⟩ (v0)).setCell ⟨G,1,none⟩ (v1)).setCell ⟨G,2,none⟩ (v2)).setCell ⟨G,3,none⟩ (v3)).setCell ⟨G,4,none⟩ (v4)).setCell ⟨G,5,none⟩ (v5)):=by
 have h0:w.heap.size≤D:=by omega
 refine fF v0 v1 v2 v3 v4 v5 hb ?_ ?_
 ·exact J.keep ((((((aR.refl.set (by omega) _).set (by omega) _).set (by omega) _).set (by omega) _).set (by omega) _).set (by omega) _) (fun q _ h=>by omega)
 ·exact((((((Ob (F:=fun q=>w.heap.size≤q) I).bq h0 _).bq h0 _).bq h0 _).bq h0 _).bq h0 _).bq h0 _|>.below (fun q h=>h) (lr _)
theorem Kh{S:Nat→Prop}{W:World}{b:Nat}{v0 v1 v2 v3 v4 v5:Value}(h:¬S b):aR S W ((((((W.setCell ⟨b,0,none⟩ (v0)).setCell ⟨b,1,none⟩ (v1)).setCell ⟨b,2,none⟩ (v2)).setCell ⟨b,3,none⟩ (v3)).setCell ⟨b,4,none⟩ (v4)).setCell ⟨b,5,none⟩ (v5)):=((((((aR.refl.set h _).set h _).set h _).set h _).set h _).set h _)
theorem Sz{w W:World}{b:Nat}{v0 v1 v2 v3 v4 v5:Value}(D:Below w.heap.size w W)(h0:w.heap.size≤b):Below w.heap.size w ((((((W.setCell ⟨b,0,none⟩ (v0)).setCell ⟨b,1,none⟩ (v1)).setCell ⟨b,2,none⟩ (v2)).setCell ⟨b,3,none⟩ (v3)).setCell ⟨b,4,none⟩ (v4)).setCell ⟨b,5,none⟩ (v5)):=((((((Ob (F:=fun q=>w.heap.size≤q) D).bq h0 _).bq h0 _).bq h0 _).bq h0 _).bq h0 _).bq h0 _|>.below (fun q h=>h) (lr _)
theorem Qn{l:List Tok}{one:jN}{ops:List Int}{i:Nat}:left l one ops i=(one i).then fun t j=>jK l one ops l.length t j:=rfl
set_option linter.unusedSimpArgs false
set_option maxRecDepth 100000
set_option maxHeartbeats 4000000
theorem zo{o:Array Oper}{i:Nat}{x:Oper}(h:o.toList[i]?=some x):o[i]?=some x:=by simpa using h
theorem aoN(l:List Tok)(d:Nat)(b:Bool)(ops:List Int)(P:jN)(hd:d≤256)(hb:(b=true∧ops=[16,17]∧Sm l d 214 P)∨(b=false∧ops=[14,15]∧OZ l d 211 true P))(hG:wu l P)(hZ:rG P):OZ l d 211 b (left l P ops):=by
 rcases hb with⟨hb,ab,hF⟩|⟨hb,ab,hF⟩
 case' inl=>obtain⟨DT,-⟩:∃n:Nat,n=n:=⟨0,rfl⟩
 all_goals
  subst hb;have gy:=Hd ab;clear ab;intro A c i w hi hP;obtain⟨n,b6,w1,F,hlen,cA,cz,cB,I,O,HP,uy,HS,HI,HF,HN,bZ,cg⟩:=tV A c l w hP (GQ w (left l P ops i));rw[←HF,←HN];rw[←HN]at hi;clear hP;have h9:=fun(i:Nat)(W:World)(h1:i≤l.length)(h2:dP W A c l)=>hF A c i W h1 h2;rw[←HN]at h9;have aS:=Hd h9;clear h9;obtain⟨iE,jF⟩:=ak P;rw[←jF]at aS;have Dr:Hid (wu l iE):=by show wu _ _;rw[jF];exact hG
  have Dt:Hid (rG iE):=by show rG _;rw[jF];exact hZ
  clear hF hG hZ;go_in;obtain⟨G,iY⟩:=aj w1.heap.size;obtain⟨w2,aQ⟩:=aj (w1.alloc (.cells #[.int .i64 0,.int .i64 0,.string ⟨#[]⟩,.slice none 0 0,.int .i64 0,.int .i64 0] 194));have D:=jZ aQ iY;have Dm:Hid (G≠b6):=by show _≠_;have:=lH I;omega
  have ae:=dz aQ;have qM:=Hd iY;have cn:=Hd aQ;clear iY aQ;have aw:Hid (b6<G):=by show _<_;have:=qM.out;omega
  replace I:=kX ae I;replace O:=kB O ae;clear ae;have af:=aS (i) w2 (by first|omega|(rw[←HN];omega)) (HP.below O);obtain⟨r1,dx⟩:=ak (iE (i));rw[←dx]at af;have HC:=Hd af;have Dn:Hid (∀x k,r1=.ok x k→Gd l (i) x k):=fun x k h=>Dr (i) x k (by rw[←dx];exact h);have Dp:Hid (∀k x,r1=.bad k x→x≠0):=fun k x h=>Dt (i) k x (by rw[←dx];exact h);clear af;go_wp2_with fail;rw[←cg,←cn,show w.heap.size+1=G from by have:=qM.out;have:=bZ.out;omega]
  try rw[←bZ]
  refine HC.mono ?_;intro e w3 hq;have bE:Hid (F=GQ w (left l P ops i)):=HF;obtain⟨r,hr⟩:=aj (left l P ops i);rw[←hr]at bE;rw[Qn,←jF,←dx]at hr;obtain⟨A',c',rfl,hV,J⟩:=hq;have HV:Hid (aD (fun q=>G<q) w3 A' c' (jY r1)):=hV.keep Kr (fun q _ h=>by have:=lH D;omega);replace I:=kX J I;replace D:=kX J D;replace O:=kB O J;have bn:=VB.set (i:=i) (one:=iE) (ops:=ops) (fuel:=l.length) (ra:=r1) (r:=r) bZ (by have:=bZ.out;have:=qM.out;have:=O.size;have:=lH I;omega) I D HV O (fun t j h=>by have:=Dn t j h;exact⟨this.ij,this.jl,by omega⟩) (Dp) hr.symm;clear J hV HC hr;obtain⟨w4,Uq⟩:=ak (((((((w3.setCell ⟨G,0,none⟩ (.int .i64 (jY r1).op)).setCell ⟨G,1,none⟩ (.int .i64 (jY r1).num)).setCell ⟨G,2,none⟩ (.string (jY r1).name)).setCell ⟨G,3,none⟩ (.slice A' (jY r1).kids.length c')).setCell ⟨G,4,none⟩ (.int .i64 (Vn r1:Nat))).setCell ⟨G,5,none⟩ (.int .i64 (Vo r1))));rw[←Uq]at bn;have JO:=Hd bn;clear bn;obtain⟨n1,ag⟩:=aj ((jY r1).kids.length);have pY:=Hd ag;rw[←ag];obtain⟨u0,u1,u2,u3,u4,u5,eG⟩:=q6 D;have ul:G<w3.heap.size:=lH D;obtain⟨v0,v1,v2,v3,v4,v5,bW⟩:=q6 I;have vl:b6<w3.heap.size:=lH I;go_wp2_with fail;clear u0 eG u1 u2 u3 u4 u5 ul v0 bW v1 v2 v3 v4 v5 vl
  try rw[ag]
  rw[←Uq];clear ag
  go_loopw [10] (fun sv wr=>∃(ra:Rs Tm)(A':Option Addr)(c' fuel:Nat),VB w l i b6 G iE ops r wr ra A' c' fuel) (fun _ wr=>l.length-jAt G wr)
  case atStart=>exact⟨r1,A',c',l.length,JO⟩
  case round=>
   obtain⟨ra,A',c',fuel,hS⟩:=hrel;have HS:=Hd hS;clear hS I D HV O JO Uq pY;have I:=Hd HS.x6;have D:=Hd HS.x7;have O:=Hd HS.below;have cE:G≠b6:=Dm
   rcases ra with⟨jb,xb⟩|⟨t1,j1⟩
   ·have av:Hid (F=GQ w (.bad jb xb)):=by show _=_;rw[bE,←HS.re];rfl
    have hx:=HS.bad jb xb rfl;have cy:(xb==0)=false:=by simpa using hx
    replace D:Hid (wr.heap[G]?=some (.cells #[.int .i64 0,.int .i64 0,.string ⟨#[]⟩,.slice A' 0 c',.int .i64 (jb:Nat),.int .i64 xb] 194 (0,0))):=D;have HV:Hid (aD (fun q=>w.heap.size<q) wr A' c' dG):=HS.v.keep Kr (fun q _ h=>by have:=bZ.out;have:=aw.out;omega);clear hx;obtain⟨u0,u1,u2,u3,u4,u5,eG⟩:=q6 D;have ul:G<wr.heap.size:=lH D;obtain⟨v0,v1,v2,v3,v4,v5,bW⟩:=q6 I;have vl:b6<wr.heap.size:=lH I;go_wp2_with fail;clear u0 eG u1 u2 u3 u4 u5 ul v0 bW v1 v2 v3 v4 v5 vl;refine bR (sJ (iG I)) rfl ?_;rw[av];exact fF (r:=.bad jb xb) (A':=A') (c':=c') _ _ _ _ _ _ bZ HV O
   ·obtain⟨A1,bm⟩:=aj A';obtain⟨c1,bo⟩:=aj c';obtain⟨n1,ag⟩:=aj t1.kids.length;have pY:=Hd ag;replace D:Hid (wr.heap[G]?=some (.cells #[.int .i64 t1.op,.int .i64 t1.num,.string t1.name,.slice A1 n1 c1,.int .i64 (j1:Nat),.int .i64 0] 194 (0,0))):=by show _=_;rw[bm,bo,ag];exact D
    have jB:Hid (aD (fun q=>G<q) wr A1 c1 t1):=by show aD _ _ _ _ _;rw[bm,bo];exact HS.v
    have OH:Hid (jK l iE ops fuel t1 j1=r):=HS.re;have hok:=HS.ok t1 j1 rfl;have Dq:=hok.1;have oQ:=hok.2.1;have He:=Hd hok.2.2;have cd:Hid (jAt G wr=j1):=Sy D;rw[←HN]at oQ;clear hok HS bm bo ag;obtain⟨ax,bf⟩:=aj wr.heap.size;obtain⟨sp,az⟩:=aj (wr.alloc (.cells #[.string ⟨#[43]⟩,.string ⟨#[45]⟩] 9));have bg:=dz az;have bh:sp.heap[ax]?=some (.cells #[.string ⟨#[43]⟩,.string ⟨#[45]⟩] 9 (0,0)):=by rw[az,bf];exact eu wr _
    obtain⟨bk,bi⟩:=aj sp.heap.size;obtain⟨tp,aF⟩:=aj (sp.alloc (.cells #[.int .i64 14,.int .i64 15] 3));have bj:=dz aF;have lZ:Below wr.heap.size wr tp:=bg.trans (bj.mono bg.size);have hO:uF tp bk [14,15]:=by rw[aF,bi];exact tY sp [14,15]
    have b3:tp.heap[ax]?=some (.cells #[.string ⟨#[43]⟩,.string ⟨#[45]⟩] 9 (0,0)):=(bj.block ax (lH bh)).trans bh
    have ar:=yQ A c j1 l [14,15] ax bk 2 2 tp (HP.below (O.trans (lZ.mono O.size))) (by omega) (by decide) (fun k op ab=>by
     rw[cR tp ax k _ _ (0,0) b3];have hk:=(gE.1 ab).1;simp only[List.length_cons,List.length_nil]at hk;have br:k=0∨k=1:=by omega
     rcases br with rfl|rfl
     all_goals
      simp at ab;subst ab
      rfl) hO (by decide)
    rw[←HN]at ar;have HC:=Hd ar;have cr:=Hd bf;have cs:Hid (bk=wr.heap.size+1):=by show _=_;rw[bi,az];simp
    have ch:=Hd az;have cj:=Hd aF;obtain⟨u0,u1,u2,u3,u4,u5,eG⟩:=q6 D;have ul:G<wr.heap.size:=lH D;clear ar bf bi az aF hO bh b3 bg bj;go_wp2_with fail;rw[←ch,←cj,←cs,←cr];clear u0 eG u1 u2 u3 u4 u5 ul;replace I:=kX lZ I;replace D:=kX lZ D;replace jB:Hid (aD (fun q=>G<q) tp A1 c1 t1):=jB.keep (Kb lZ) (fun _ _ h=>h);replace O:=kB O lZ;clear lZ;refine HC.mono ?_;rintro e w' ⟨rfl,aJ⟩;rw[aJ];clear aJ HC
    first
     |(have:=DT
       obtain⟨zp,cb⟩:=aj (au l j1 [14,15]);rw[←cb];clear cb;obtain⟨ay,a7⟩:=aj tp.heap.size;obtain⟨sq,aE⟩:=aj (tp.alloc (.cells #[.string ⟨#[42]⟩,.string ⟨#[109,111,100]⟩] 9));have a8:=dz aE;have ba:sq.heap[ay]?=some (.cells #[.string ⟨#[42]⟩,.string ⟨#[109,111,100]⟩] 9 (0,0)):=by rw[aE,a7];exact eu tp _
       obtain⟨bl,bb⟩:=aj sq.heap.size;obtain⟨tq,aP⟩:=aj (sq.alloc (.cells #[.int .i64 16,.int .i64 17] 3));have bd:=dz aP;have lZ:Below tp.heap.size tp tq:=a8.trans (bd.mono a8.size);have hO:uF tq bl [16,17]:=by rw[aP,bb];exact tY sq [16,17]
       have b2:tq.heap[ay]?=some (.cells #[.string ⟨#[42]⟩,.string ⟨#[109,111,100]⟩] 9 (0,0)):=(bd.block ay (lH ba)).trans ba
       have ar:=yQ A c j1 l [16,17] ay bl 2 2 tq (HP.below (O.trans (lZ.mono O.size))) (by omega) (by decide) (fun k op ab=>by
        rw[cR tq ay k _ _ (0,0) b2];have hk:=(gE.1 ab).1;simp only[List.length_cons,List.length_nil]at hk;have br:k=0∨k=1:=by omega
        rcases br with rfl|rfl
        all_goals
         simp at ab;subst ab
         rfl) hO (by decide)
       rw[←HN]at ar;have HC:=Hd ar;have cp:=Hd a7;have cq:Hid (bl=tp.heap.size+1):=by show _=_;rw[bb,aE];simp
       have ci:=Hd aE;have ck:=Hd aP;obtain⟨u0,u1,u2,u3,u4,u5,eG⟩:=q6 D;have ul:G<tp.heap.size:=lH D;clear ar a7 bb aE aP hO ba b2 a8 bd;go_wp2_with fail;rw[←ci,←ck,←cq,←cp];clear u0 eG u1 u2 u3 u4 u5 ul;replace I:=kX lZ I;replace D:=kX lZ D;replace jB:Hid (aD (fun q=>G<q) tq A1 c1 t1):=jB.keep (Kb lZ) (fun _ _ h=>h);replace O:=kB O lZ;clear lZ;refine HC.mono ?_;rintro e w' ⟨rfl,aJ⟩;rw[aJ];clear aJ HC w'
       rename World=>tp)
     |skip
    rw[←gy]
    by_cases hz:au l j1 ops=0
    ·have av:Hid (F=GQ w (.ok t1 j1)):=by show _=_;rw[bE,←OH,left_stop hz]
     rw[hz];clear hz;obtain⟨u0,u1,u2,u3,u4,u5,eG⟩:=q6 D;have ul:G<tp.heap.size:=lH D;obtain⟨v0,v1,v2,v3,v4,v5,bW⟩:=q6 I;have vl:b6<tp.heap.size:=lH I;go_wp2_with fail;clear u0 eG u1 u2 u3 u4 u5 ul v0 bW v1 v2 v3 v4 v5 vl;refine bR (sJ (iG I)) rfl ?_;rw[av,pY];exact fF (r:=.ok t1 j1) (A':=A1) (c':=c1) _ _ _ _ _ _ bZ (jB.keep Kr (fun q _ h=>by have:=bZ.out;have:=aw.out;omega)) O
    ·have vE:=rO hz;rw[←HN]at vE;obtain⟨fu,b9⟩:∃fu,fuel=fu+1:=⟨fuel-1,by have:=He.out;have:=HN.out;omega⟩;have Yk:Hid (l.length≤fu+1+j1):=by show _≤_;have:=He.out;omega
     have Jd:Hid ((iE (j1+1)).then (fun u k=>jK l iE ops fu (dD (au l j1 ops) [t1,u]) k)=r):=by show _=_;rw[←OH,b9,Q6 hz]
     obtain⟨zz,cc⟩:=aj (au l j1 ops);rw[←cc]at hz Jd⊢;have cC:(zz==0)=false:=by simpa using hz
     clear hz cc b9 He OH;obtain⟨u0,u1,u2,u3,u4,u5,eG⟩:=q6 D;have ul:G<tp.heap.size:=lH D;have bz:Hid (G<tp.heap.size):=lH D;obtain⟨b8,Gb⟩:=aj tp.heap.size;obtain⟨w5,gH⟩:=aj (tp.alloc (.cells #[.int .i64 0,.int .i64 0,.string ⟨#[]⟩,.slice none 0 0,.int .i64 0,.int .i64 0] 194));have lQ:=jZ gH Gb;have KE:Hid (b8≠b6):=by show _≠_;have:=lH I;omega
     have ae:=dz gH;have NT:=Hd Gb;have O4:=Hd gH;clear Gb gH;replace jB:Hid (aD (fun q=>G<q∧q≠b8) tp A1 c1 t1):=jB.keep Kr (fun q hq h=>⟨h,by have:=NT.out;omega⟩);replace I:=kX ae I;replace D:=kX ae D;replace jB:Hid (aD (fun q=>G<q∧q≠b8) w5 A1 c1 t1):=jB.keep (Kb ae) (fun _ _ h=>h);replace O:=kB O ae;have bv:Hid (b8≠G):=by show _≠_;have:=NT.out;have:=lH D;have:=ae.size;have:G<tp.heap.size:=bz.out;omega
     have a6:Hid (G<b8):=by show _<_;have:=NT.out;have:G<tp.heap.size:=bz.out;omega
     clear ae;have af:=aS (j1+1) w5 (by first|omega|(rw[←HN];omega)) (HP.below O);rw[show((j1+1:Nat):Int)=(j1:Int)+1 from by omega]at af;obtain⟨r2,jR⟩:=ak (iE (j1+1));rw[←jR]at af;have HC:=Hd af;have NW:Hid (∀x k,r2=.ok x k→Gd l (j1+1) x k):=fun x k h=>Dr (j1+1) x k (by rw[←jR];exact h);have NY:Hid (∀k x,r2=.bad k x→x≠0):=fun k x h=>Dt (j1+1) k x (by rw[←jR];exact h);clear af;go_wp2_with fail;rw[←O4,←NT];clear u0 eG u1 u2 u3 u4 u5 ul;refine HC.mono ?_;intro e w6 hq
     rcases r2 with⟨jb,xb⟩|⟨t2,j2⟩
     ·obtain⟨A2,c2,rfl,hV,J⟩:=iq.1 hq;have av:Hid (F=GQ w (.bad jb xb)):=by show _=_;rw[bE,←Jd,←jR];rfl
      have hx:=NY _ _ rfl;have cy:(xb != 0)=true:=by simpa using hx
      have HV:Hid (aD (fun q=>b8<q) w6 A2 c2 dG):=hV.keep Kr (fun q _ h=>by have:=lH lQ;omega);replace I:=kX J I;replace D:=kX J D;replace lQ:=kX J lQ;replace jB:Hid (aD (fun q=>G<q∧q≠b8) w6 A1 c1 t1):=jB.keep (Kb J) (fun _ _ h=>h);replace O:=kB O J;clear J hV hq HC hx;have bu:b8≠b6:=KE;obtain⟨u0,u1,u2,u3,u4,u5,eG⟩:=q6 lQ;have ul:b8<w6.heap.size:=lH lQ;obtain⟨v0,v1,v2,v3,v4,v5,bW⟩:=q6 I;have vl:b6<w6.heap.size:=lH I;go_wp2_with fail;clear u0 eG u1 u2 u3 u4 u5 ul v0 bW v1 v2 v3 v4 v5 vl;refine bR (sJ (iG ((fV bu.symm).trans I))) rfl ?_;rw[av];exact Ll (r:=.bad jb xb) (A':=A2) (c':=c2) _ _ _ _ _ _ _ _ _ _ _ _ bZ (by have:=bZ.out;have:=aw.out;have:=a6.out;omega) HV O
     ·obtain⟨A2,c2,rfl,hV,J⟩:=vS.1 hq;have ct:Hid (jK l iE ops fu (dD zz [t1,t2]) j2=r):=by show _=_;rw[←Jd,←jR];rfl
      have jm:Hid (aD (fun q=>b8<q) w6 A2 c2 t2):=hV.keep Kr (fun q _ h=>by have:=lH lQ;omega);have bp:=NW _ _ rfl;have NZ:=bp.ij;have xJ:=bp.jl;rw[←HN]at xJ;clear bp Jd;obtain⟨n2,uT⟩:=ak t2.kids.length;rw[←uT];replace I:=kX J I;replace D:=kX J D;replace lQ:=kX J lQ;replace jB:Hid (aD (fun q=>G<q∧q≠b8) w6 A1 c1 t1):=jB.keep (Kb J) (fun _ _ h=>h);replace O:=kB O J;clear J hV hq HC;obtain⟨w7,ai⟩:=aj (((((((w6.setCell ⟨b8,0,none⟩ (.int .i64 t2.op)).setCell ⟨b8,1,none⟩ (.int .i64 t2.num)).setCell ⟨b8,2,none⟩ (.string t2.name)).setCell ⟨b8,3,none⟩ (.slice A2 n2 c2)).setCell ⟨b8,4,none⟩ (.int .i64 (j2:Nat))).setCell ⟨b8,5,none⟩ (.int .i64 0)));have bu:b8≠b6:=KE;have cv:b8≠G:=bv;have bL:Hid (w7.heap[b6]?=some (.cells #[.int .i64 0,.int .i64 0,.string ⟨#[]⟩,.slice none 0 0,.int .i64 0,.int .i64 0] 194 (0,0))):=by show _=_;rw[ai];exact(fV bu.symm).trans I
      have b0:Hid (w7.heap[G]?=some (.cells #[.int .i64 t1.op,.int .i64 t1.num,.string t1.name,.slice A1 n1 c1,.int .i64 (j1:Nat),.int .i64 0] 194 (0,0))):=by show _=_;rw[ai];exact(fV cv.symm).trans D
      have b1:Hid (w7.heap[b8]?=some (.cells #[.int .i64 t2.op,.int .i64 t2.num,.string t2.name,.slice A2 n2 c2,.int .i64 (j2:Nat),.int .i64 0] 194 (0,0))):=by show _=_;rw[ai];exact iG lQ
      have bC:Hid (aD (fun q=>G<q) w7 A1 c1 t1):=by show aD _ _ _ _ _;rw[ai];exact jB.keep (Kh (by simp)) (fun q _ h=>h.1)
      have bJ:Hid (aD (fun q=>G<q) w7 A2 c2 t2):=by show aD _ _ _ _ _;rw[ai];exact jm.keep (Kh (by simp)) (fun q _ h=>by have:=a6.out;omega)
      have YB:Hid (Below w.heap.size w w7):=by show Below _ _ _;rw[ai];exact Sz O (by have:=bZ.out;have:=aw.out;have:=a6.out;omega)
      have bw:=Hd ai;clear ai;obtain⟨u0,u1,u2,u3,u4,u5,eG⟩:=q6 lQ;have ul:b8<w6.heap.size:=lH lQ;go_wp2_with fail;rw[←bw];clear u0 eG u1 u2 u3 u4 u5 ul I D lQ jB jm O;have I:=bL;have D:=b0;have lQ:=b1;have jB:=bC;have jm:=bJ;have O:=YB;clear bL b0 b1 bC bJ YB bw;have n87:b8≠G:=bv;obtain⟨wd,hwd⟩:=aj w7.drew;have ao:Below w7.heap.size w7 wd:=by rw[hwd];exact(Br _ _).drew
      replace I:=kX ao I;replace D:=kX ao D;replace lQ:=kX ao lQ;replace jB:Hid (aD (fun q=>G<q) wd A1 c1 t1):=jB.keep (Kb ao) (fun _ _ h=>h);replace jm:Hid (aD (fun q=>G<q) wd A2 c2 t2):=jm.keep (Kb ao) (fun _ _ h=>h);replace O:=kB O ao
      have qb:Hid (Calls Tryz.prog 155 #[.int .i64 zz,.agg #[.int .i64 t1.op,.int .i64 t1.num,.string t1.name,.slice A1 n1 c1],.agg #[.int .i64 t2.op,.int .i64 t2.num,.string t2.name,.slice A2 n2 c2]] wd fun e w'=>∃g,e=.returned (.agg #[.int .i64 zz,.int .i64 0,.string ⟨#[]⟩,.slice (some ⟨g,0,none⟩) 2 2])∧aD (fun q=>G<q) w' (some ⟨g,0,none⟩) 2 (dD zz [t1,t2])∧Below wd.heap.size wd w'):=by
       have h:=Ac zz t1 t2 A1 c1 A2 c2 (G+1) wd (by have:=lH D;omega) jB jm;unfold Tm.val at h;rw[←pY,←uT]at h;exact h
      refine wp_region_held_drew (S:=fun w'=>w'.heap[b8]?=some (.cells #[.int .i64 t2.op,.int .i64 t2.num,.string t2.name,.slice A2 n2 c2,.int .i64 (j2:Nat),.int .i64 0] 194 (0,0))) (by kernel_rfl) (by rw[←hwd];exact lQ) (fun Y=>?_);rw[←hwd]at Y⊢;clear hwd ao;refine gJ 0 (v:=?_) (zo rfl) (Or.inl ⟨by rfl,?hy⟩) (by assumption) ?_
      case hy=>
       intro w0 aa;clear aa;go_simp
       (first|done|with_reducible rfl)
      (try simp only[Act.put,aT,aU,aV]);refine gJ 1 (v:=?_) (zo rfl) (Or.inl ⟨by rfl,?hy⟩) (by assumption) ?_
      case hy=>
       intro w0 aa;clear aa;go_simp
       (first|done|with_reducible rfl)
      (try simp only[Act.put,aT,aU,aV]);refine gJ 3 (v:=?_) (zo rfl) (Or.inl ⟨by rfl,?hy⟩) (by assumption) ?_
      case hy=>
       intro w0 aa;clear aa;go_simp
       (first|done|with_reducible rfl)
      (try simp only[Act.put,aT,aU,aV]);refine gJ 4 (v:=?_) (zo rfl) (Or.inl ⟨by rfl,?hy⟩) (by assumption) ?_
      case hy=>
       intro w0 aa;obtain⟨h0,h1,h2,h3,h4,h5,-⟩:=q6 aa;clear aa;go_simp
       (first|done|with_reducible rfl)
      (try simp only[Act.put,aT,aU,aV]);refine gJ 6 (v:=?_) (zo rfl) (Or.inl ⟨by rfl,?hy⟩) (by assumption) ?_
      case hy=>
       intro w0 aa;clear aa;go_simp
       (first|done|with_reducible rfl)
      (try simp only[Act.put,aT,aU,aV]);refine gJ 7 (v:=?_) (zo rfl) (Or.inl ⟨by rfl,?hy⟩) (by assumption) ?_
      case hy=>
       intro w0 aa;obtain⟨h0,h1,h2,h3,h4,h5,-⟩:=q6 aa;clear aa;go_simp
       (first|done|with_reducible rfl)
      (try simp only[Act.put,aT,aU,aV]);refine Rd (rs:=[2]) (by kernel_rfl) (by simp) ?_;refine Rc (zo rfl) (fun K hK=>?_) Rn;obtain⟨u0,u1,u2,u3,u4,u5,eG⟩:=q6 D;have ul:G<wd.heap.size:=lH D;go_simp;clear u0 eG u1 u2 u3 u4 u5 ul;refine hK.out _ _ Y (fun Y=>?_);clear hK K;(try simp only[Act.put,aT,aU,aV]);refine Rd (rs:=[5]) (by kernel_rfl) (by simp) ?_;refine Rc (zo rfl) (fun K hK=>?_) Rn;go_simp;(with_reducible refine(qb.out).mono ?_);rintro e w8 ⟨g,rfl,b5,xX⟩;have cf:=Hd b5;refine hK.out _ _ ((xX.block b8 (lH lQ)).trans lQ) (fun Y=>?_);clear hK K;(try simp only[Act.put,aT,aU,aV]);replace I:=kX xX I;replace D:=kX xX D;replace O:=kB O xX;clear xX b5 qb;refine gJ 8 (v:=?_) (zo rfl) (Or.inl ⟨by rfl,?hy⟩) (by assumption) ?_
      case hy=>
       intro w0 aa;clear aa;go_simp
       (first|done|with_reducible rfl)
      (try simp only[Act.put,aT,aU,aV]);refine Rd (rs:=[9]) (by kernel_rfl) (by simp) ?_;refine Rc (zo rfl) (fun K hK=>?_) Rn;obtain⟨u0,u1,u2,u3,u4,u5,eG⟩:=q6 D;have ul:G<w8.heap.size:=lH D;go_simp;clear u0 eG u1 u2 u3 u4 u5 ul;refine hK.out _ _ ((fV n87).trans Y) (fun Y=>?_);clear hK K;(try simp only[Act.put,aT,aU,aV]);refine wpAnyH_done (by kernel_rfl) ?_ _;clear Y;have b4:=VB.set (i:=i) (one:=iE) (ops:=ops) (fuel:=fu) (ra:=.ok (dD zz [t1,t2]) j2) (r:=r) bZ aw I D cf O (fun t j h=>by cases h;have:=Yk.out;have:=HN.out;exact⟨by omega,by omega,by omega⟩) (fun j x h=>by cases h) ct;have cw:=cd.out;have cx:=Sy b4.x7;go_wp2_with fail
      go_roundw
      case rel=>exact⟨.ok (dD zz [t1,t2]) j2,some ⟨g,0,none⟩,2,fu,b4⟩
      case measure=>
       have:=HN.out;rw[cw];refine lt_of_eq_of_lt (congrArg (l.length - ·) cx) ?_;show l.length-j2<_;omega
theorem own_below{B n sz:Nat}{T:TypeId}{w w':World}{v:Value}{xs:List Value}(h:w.ownsRow B T sz v n xs)(hb:Below w.heap.size w w'):w'.ownsRow B T sz v n xs:=h.kept (row:=none) ⟨hb.os,hb.tape,hb.output,hb.size,fun k D _=>hb.block k D⟩ (by cases v.ownBlock<;>simp)
structure RowK(w:World)(b6:Nat)(wr:World)(v:Value)(acc:List jo):Prop where
 x6:wr.heap[b6]?=some (.cells #[.int .i64 0,.int .i64 0,.string ⟨#[]⟩,.slice none 0 0,.int .i64 0,.int .i64 0] 194 (0,0))
 own:wr.ownsRow (b6+1) 64 4 v acc.length (bY acc)
 vals:∀e∈acc,aD (fun q=>b6<q∧v.ownBlock≠some q) wr e.A e.c e.t
 below:Below w.heap.size w wr
structure aj2(w:World)(l:List Tok)(b6:Nat)(op:Int)(one:jN)(r:Rs Tm)(wr:World)(v:Value)(acc:List jo)(i fuel:Nat):Prop where
 b:RowK w b6 wr v acc
 cnt:acc.length≤i
 il:i≤l.length
 fu:l.length≤fuel+i
 re:((one i).then fun t j=>lD l op one fuel (acc.map jo.t++[t]) j)=r
theorem RowK.next{w wr G w6:World}{D:Nat}{v v':Value}{acc:List jo}{o:Obj}{t:Tm}{A':Option Addr}{c':Nat}(h:RowK w D wr v acc)(hb:D=w.heap.size)(ho:Below wr.heap.size wr G)(hV:aD (fun q=>wr.heap.size≤q) G A' c' t)
 (hown:w6.ownsRow (D+1) 64 4 v' (acc.length+1) (bY acc++(jo.mk t A' c').cells)) (hg:(G.alloc o).grownBy w6 v.ownBlock) (hat:v'.ownBlock=v.ownBlock∨∀q,v'.ownBlock=some q→G.heap.size≤q) :
 RowK w D w6 v' (acc++[⟨t,A',c'⟩]):=by
 have af:=ho.size;have ae:=h.below.size;have ab:D<wr.heap.size:=lH h.x6;have J:∀q,v.ownBlock=some q→D+1≤q∧q<wr.heap.size:=fun q hq=>h.own.lt q hq;have aa:Below G.heap.size G (G.alloc o):=(Br _ _).alloc (lr _) o;have hk:∀q,v.ownBlock≠some q→q<G.heap.size→w6.heap[q]?=G.heap[q]?:=fun q hq Y=>(hg.block q (by simp;omega) (fun e=>hq e.symm)).trans (aa.block q Y);have O:G.heap.size≤w6.heap.size:=by have:=hg.size;simp at this;omega
 have hR:v.ownBlock≠some D:=fun e=>by have:=(J D e).1;omega
 refine⟨((hk D hR (by omega)).trans (ho.block D ab)).trans h.x6,by rw[List.length_append,Fx];simpa[bY]using hown,fun e he=>?_,?_⟩
 ·have I:∀q,q<G.heap.size→(D<q∧v.ownBlock≠some q)→(D<q∧v'.ownBlock≠some q):=fun q hq ⟨h1,h2⟩=>⟨h1,fun e=>by
   rcases hat with h3|h3
   ·exact h2 (h3 ▸ e)
   ·have:=h3 q e;omega⟩
  rcases List.mem_append.1 he with he|he
  ·have h1:=(h.vals e he).keep (S':=fun q=>(D<q∧v.ownBlock≠some q)) (Kb ho) (fun _ _ h=>h);exact h1.keep ⟨O,fun q hq Y=>hk q hq.2 Y⟩ I
  ·rw[List.mem_singleton.1 he];have h1:=hV.keep (S':=fun q=>(D<q∧v.ownBlock≠some q)) Kr (fun q _ h=>⟨by omega,fun e=>by have:=(J q e).2;omega⟩);exact h1.keep ⟨O,fun q hq Y=>hk q hq.2 Y⟩ I
 ·have h1:=h.below.trans (ho.mono ae);refine⟨by rw[hg.os];exact h1.os,by rw[hg.tape];exact h1.tape,by rw[hg.output];exact h1.output,Nat.le_trans h1.size O,fun q hq=>?_⟩;rw[hk q (fun e=>by have:=(J q e).1;omega) (by omega)];exact h1.block q hq
theorem RowK.many{w wr:World}{J g cap n:Nat}{acc:List jo}{op:Int}(h:RowK w J wr (.slice (some ⟨g,0,none⟩) n cap) acc)(hb:J=w.heap.size):aD (fun q=>w.heap.size<q) wr (some ⟨g,0,none⟩) cap (dD op (acc.map jo.t)):=by
 rcases h.own.2 with⟨h9,-⟩|⟨g2,O,cur,he,aa,hg,I,D,ab,ae⟩
 ·cases h9
 ·cases he;refine⟨by show(acc.map jo.t).length≤cap;rw[List.length_map];exact I,D,zl _,.inr ⟨g,0,rfl,by show w.heap.size<g;omega,lH hg,?_⟩⟩;refine jP acc 0 (fun jj vv hv=>?_) (fun Y G=>(h.vals Y G).keep Kr (fun q _ h=>by have:=h.1;omega));have h:=h.own.cells (g:=g) rfl jj vv hv;rw[addr_add]at h;exact h
theorem RowK.one{w wr:World}{J g cap n:Nat}{e1:jo}(h:RowK w J wr (.slice (some ⟨g,0,none⟩) n cap) [e1]):wr.cell? ⟨g,0,none⟩=some (.int .i64 e1.t.op)∧wr.cell? ⟨g,1,none⟩=some (.int .i64 e1.t.num)∧wr.cell? ⟨g,2,none⟩=some (.string e1.t.name)∧wr.cell? ⟨g,3,none⟩=some (.slice e1.A e1.t.kids.length e1.c):=by
 have D:∀G I,(bY [e1])[G]?=some I→wr.cell? ⟨g,G,none⟩=some I:=fun G I hv=>by
  have h:=h.own.cells (g:=g) rfl G I hv;rw[addr_add,Nat.zero_add]at h;exact h
 exact⟨D 0 _ rfl,D 1 _ rfl,D 2 _ rfl,D 3 _ rfl⟩
theorem aoO(l:List Tok)(d:Nat)(b:Bool)(op:Int)(sg:Bs)(P:jN)(hd:d≤256)(hb:(b=true∧op=6∧sg=[38]∧Sm l d 198 P)∨(b=false∧op=7∧sg=[124]∧OZ l d 181 true P))(hG:wu l P)(hZ:rG P):OZ l d 181 b (many l op P):=by
 rcases hb with⟨hb,az,aE,hF⟩|⟨hb,az,aE,hF⟩
 all_goals
  subst hb;have gy:=Hd az;have qj:=Hd aE;clear az aE;intro A c i w hi hP;obtain⟨n,b6,w1,F,hlen,bz,bw,bJ,I,HB,HP,uy,HS,HI,HF,HN,bZ,bg⟩:=tV A c l w hP (GQ w (many l op P i));rw[←HF.out,←HN.out];rw[←HN.out]at hi;clear hP;have h9:=fun(i:Nat)(W:World)(h1:i≤l.length)(h2:dP W A c l)=>hF A c i W h1 h2;rw[←HN.out]at h9;have aP:=Hd h9;clear h9;obtain⟨iE,jF⟩:=ak P;rw[←jF.out]at aP;have Dr:Hid (wu l iE):=by show wu _ _;rw[jF.out];exact hG
  have Dt:Hid (rG iE):=by show rG _;rw[jF.out];exact hZ
  clear hF hG hZ;go_in;obtain⟨r,hr⟩:=aj (many l op P i);have bE:Hid (F=GQ w r):=by show _=_;rw[HF.out,hr]
  have Kq:Hid (((iE i).then fun t j=>lD l op iE l.length ([]++[t]) j)=r):=by show _=_;rw[hr,jF.out];rfl
  clear hr;go_wp2_with fail;rw[←bg.out]
  try rw[←bZ.out]
  go_loopw [1,11] (fun si sv wr=>∃(acc:List jo)(i fuel:Nat),si=.int .i64 (i:Nat)∧aj2 w l b6 op iE r wr sv acc i fuel) (fun si _ wr=>l.length+1-(intOf si).toNat)
  case atStart=>exact⟨[],i,l.length,rfl,⟨I.out,World.ownsRow_nil _ _ _ _,fun _ h=>by simp at h,HB.out⟩,zl _,by rw[←HN.out];omega,by omega,Kq.out⟩
  case round=>
   obtain⟨acc,i,fuel,rfl,hS⟩:=hrel;have HS:=Hd hS;have bo:=hS.il;rw[←HN.out]at bo;clear hS I HB uy;have I:=Hd HS.b.x6;have HB:=Hd HS.b.below;obtain⟨D,iY⟩:=aj wr.heap.size;obtain⟨w5,gH⟩:=aj (wr.alloc (.cells #[.int .i64 0,.int .i64 0,.string ⟨#[]⟩,.slice none 0 0,.int .i64 0,.int .i64 0] 194));have O:=jZ gH iY;have Dm:Hid (D≠b6):=by show _≠_;have:=lH I.out;omega
   have ar:=dz gH;have qM:=Hd iY;have O4:=Hd gH;clear iY gH;replace I:=kX ar I;replace HB:=kB HB ar;have kH:Hid (Below wr.heap.size wr w5):=ar;clear ar;have ab:=aP.out (i) w5 (by first|omega|(rw[←HN.out];omega)) (HP.below HB.out);obtain⟨r1,dx⟩:=ak (iE (i));rw[←dx.out]at ab;have HC:=Hd ab;have Dn:Hid (∀x k,r1=.ok x k→Gd l (i) x k):=fun x k h=>Dr.out (i) x k (by rw[←dx.out];exact h);have Dp:Hid (∀k x,r1=.bad k x→x≠0):=fun k x h=>Dt.out (i) k x (by rw[←dx.out];exact h);clear ab;go_wp2_with fail;rw[←O4.out,←qM.out];refine(HC.out).mono ?_;intro e w6 hq
   rcases r1 with⟨jb,xb⟩|⟨G,J⟩
   ·obtain⟨A2,c2,rfl,hV,Y⟩:=iq.1 hq;have ai:Hid (F=GQ w (.bad jb xb)):=by show _=_;rw[bE.out,←HS.re,←dx.out];rfl
    have hx:=Dp.out _ _ rfl;have bL:(xb != 0)=true:=by simpa using hx
    have HV:Hid (aD (fun q=>D<q) w6 A2 c2 dG):=hV.keep Kr (fun q _ h=>by have:=lH O.out;omega);have bh:Hid (b6<D):=by show _<_;have:=qM.out;have:=lH HS.b.x6;omega
    replace I:=kX Y I;replace O:=kX Y O;replace HB:=kB HB Y;clear Y hV hq HC hx;have aF:D≠b6:=Dm.out;obtain⟨u0,u1,u2,u3,u4,u5,eG⟩:=q6 O.out;have ul:D<w6.heap.size:=lH O.out;obtain⟨v0,v1,v2,v3,v4,v5,bW⟩:=q6 I.out;have vl:b6<w6.heap.size:=lH I.out;go_wp2_with fail;clear u0 eG u1 u2 u3 u4 u5 ul v0 bW v1 v2 v3 v4 v5 vl;refine bR (sJ (iG ((fV aF.symm).trans I.out))) rfl ?_;rw[ai.out];exact Ll (r:=.bad jb xb) (A':=A2) (c':=c2) _ _ _ _ _ _ _ _ _ _ _ _ bZ.out (by have:=bZ.out;have:=bh.out;omega) HV.out HB.out
   ·obtain⟨A1,c1,rfl,hV,Y⟩:=vS.1 hq;have OH:Hid (lD l op iE fuel (acc.map jo.t++[G]) J=r):=by show _=_;rw[←HS.re,←dx.out];rfl
    have jB:Hid (aD (fun q=>D<q) w6 A1 c1 G):=hV.keep Kr (fun q _ h=>by have:=lH O.out;omega);have ax:=Dn.out _ _ rfl;have Dq:=ax.ij;have oQ:=ax.jl;rw[←HN.out]at oQ;clear ax;obtain⟨n1,pY⟩:=ak G.kids.length;rw[←pY.out];have a7:Hid (Below wr.heap.size wr w6):=kH.trans (Y.mono kH.size);replace I:=kX Y I;replace O:=kX Y O;replace HB:=kB HB Y;clear Y hV hq HC;obtain⟨w7,ag⟩:=aj (((((((w6.setCell ⟨D,0,none⟩ (.int .i64 G.op)).setCell ⟨D,1,none⟩ (.int .i64 G.num)).setCell ⟨D,2,none⟩ (.string G.name)).setCell ⟨D,3,none⟩ (.slice A1 n1 c1)).setCell ⟨D,4,none⟩ (.int .i64 (J:Nat))).setCell ⟨D,5,none⟩ (.int .i64 0)));have aF:D≠b6:=Dm.out;have bk:Hid (w7.heap[b6]?=some (.cells #[.int .i64 0,.int .i64 0,.string ⟨#[]⟩,.slice none 0 0,.int .i64 0,.int .i64 0] 194 (0,0))):=by show _=_;rw[ag];exact(fV aF.symm).trans I.out
    have bl:Hid (w7.heap[D]?=some (.cells #[.int .i64 G.op,.int .i64 G.num,.string G.name,.slice A1 n1 c1,.int .i64 (J:Nat),.int .i64 0] 194 (0,0))):=by show _=_;rw[ag];exact iG O.out
    have bj:Hid (aD (fun q=>D<q) w7 A1 c1 G):=by show aD _ _ _ _ _;rw[ag];exact jB.keep (Kh (by simp)) (fun q _ h=>h)
    have bi:=Hd ag;clear ag;have KV:Hid (Below wr.heap.size wr ((((((w6.setCell ⟨D,0,none⟩ (.int .i64 G.op)).setCell ⟨D,1,none⟩ (.int .i64 G.num)).setCell ⟨D,2,none⟩ (.string G.name)).setCell ⟨D,3,none⟩ (.slice A1 n1 c1)).setCell ⟨D,4,none⟩ (.int .i64 (J:Nat))).setCell ⟨D,5,none⟩ (.int .i64 0))):=Sz a7.out (by have:=qM.out;omega);obtain⟨n,av⟩:=aj acc.length;have Iy:=Hd av;have aS:Hid (((((((w6.setCell ⟨D,0,none⟩ (.int .i64 G.op)).setCell ⟨D,1,none⟩ (.int .i64 G.num)).setCell ⟨D,2,none⟩ (.string G.name)).setCell ⟨D,3,none⟩ (.slice A1 n1 c1)).setCell ⟨D,4,none⟩ (.int .i64 (J:Nat))).setCell ⟨D,5,none⟩ (.int .i64 0)).ownsRow (b6+1) 64 4 u11 n (bY acc)):=by show World.ownsRow _ _ _ _ _ _ _;rw[av];exact own_below HS.b.own KV.out
    have aw:=HS.cnt;rw[←av]at aw;have bm:((((((w6.setCell ⟨D,0,none⟩ (.int .i64 G.op)).setCell ⟨D,1,none⟩ (.int .i64 G.num)).setCell ⟨D,2,none⟩ (.string G.name)).setCell ⟨D,3,none⟩ (.slice A1 n1 c1)).setCell ⟨D,4,none⟩ (.int .i64 (J:Nat))).setCell ⟨D,5,none⟩ (.int .i64 0)).heap.size=w6.heap.size:=by simp
    clear av;obtain⟨i0,bn,bp,br,bu⟩:=info_parts Cv;obtain⟨u0,u1,u2,u3,u4,u5,eG⟩:=q6 O.out;have ul:D<w6.heap.size:=lH O.out
    go_wp2_with (at_builtin;refine wpList_append_lies _ (by rfl) _ _ _ (by rfl) (b6+1) 64 i0 (.agg #[.int .i64 0,.int .i64 0,.string ⟨#[]⟩,.slice none 0 0]) 4 56 Tryz.underlying25 bn bp br bu rfl (by decide) _ n _ (by rfl) (aS.alloc _) ⟨w6.heap.size,0,none⟩ 1 1 [.int .i64 G.op,.int .i64 G.num,.string G.name,.slice A1 n1 c1] (by rfl) rfl (World.news_of_block (by rw[←bm];exact eu _ _)) (fun u hu=>by simp at hu;rcases hu with rfl|rfl|rfl|rfl<;>rfl) (by decide) ?c3 ?c4 ?c5 (w6.heap.size+1) (by simp) ?_)
    case c3=>unfold maxLen;omega
    case c4=>omega
    case c5=>simp;have:=lH I.out;omega
    intro g cap w8 VE Gc a8 bv;clear u0 eG u1 u2 u3 u4 u5 ul
    have ao:=HS.b.next (acc:=acc) (t:=G) (A':=A1) (c':=c1) bZ.out KV.out ((jB.keep (Kh (by simp)) (fun q _ h=>by have:=qM.out;omega))) (by rw[←Iy.out];unfold jo.cells;simp only;rw[←pY.out];exact VE) Gc (by
     rcases a8 with h|h
     ·exact .inl h.symm
     ·refine .inr (fun q hq=>?_);have e:g=q:=by simpa[Value.ownBlock]using hq
      simp
      omega)
    have dN:u11.ownBlock≠some D:=fun e=>by have:=(HS.b.own.lt D e).2;have:=qM.out;omega
    have a6:Hid (w8.heap[D]?=some (.cells #[.int .i64 G.op,.int .i64 G.num,.string G.name,.slice A1 n1 c1,.int .i64 (J:Nat),.int .i64 0] 194 (0,0))):=by
     show _=_;refine(Gc.block D (by simp;have:=lH O.out;omega) (fun e=>dN e.symm)).trans ?_;exact aK (iG O.out)
    clear O I HB jB VE Gc a8 dN aS KV bk bl bj bi a7 kH;have O:=a6;have ae:=Hd ao;have I:=Hd ao.x6;have HB:=Hd ao.below;clear a6 ao;obtain⟨m,HM⟩:=ak (n+1);rw[←HM.out];rw[←HM.out]at ae;have hI:=qB A c J l ⟨sg.toArray⟩ w8 (HP.below HB.out) (by omega);rw[←HN.out]at hI;have mE:au l J [op]=if ah l J 4 sg then op else 0:=by rw[gy.out,qj.out];rfl
    by_cases aa:ah l J 4 sg=true
    ·rw[show ah l J 4 (bs ⟨sg.toArray⟩)=true from aa,qj.out]at hI;rw[iP aa]at mE;have HC:=Hd hI;have vE:=dL aa;obtain⟨fu,ba⟩:∃fu,fuel=fu+1:=⟨fuel-1,by have:=HS.fu;omega⟩
     have bf:Hid (((iE (J+1)).then fun u j=>lD l op iE fu ((acc++[jo.mk G A1 c1]).map jo.t++[u]) j)=r):=by
      show _=_;rw[←OH.out,ba,QZ (by rw[mE,gy.out];decide),List.map_append]
      rfl
     have He:Hid (l.length≤fu+(J+1)):=by show _≤_;have:=HS.fu;omega
     clear hI aa mE ba;obtain⟨u0,u1,u2,u3,u4,u5,eG⟩:=q6 O.out;have ul:D<w8.heap.size:=lH O.out;go_wp2_with fail;refine(HC.out).mono ?_;rintro e w' ⟨rfl,aJ⟩;rw[aJ];clear aJ HC;go_wp2_with fail;clear u0 eG u1 u2 u3 u4 u5 ul
     go_roundw
     case rel=>exact⟨acc++[⟨G,A1,c1⟩],J+1,fu,by go_num,⟨ae.out,by rw[List.length_append,←Iy.out];simp;omega,by have:=HN.out;omega,He.out,bf.out⟩⟩
     case measure=>simp[intOf];have:=HN.out;omega
    ·have ab:ah l J 4 sg=false:=by simpa using aa
     rw[iN aa]at mE;rw[show ah l J 4 (bs ⟨sg.toArray⟩)=false from ab,qj.out]at hI;have HC:=Hd hI;have ai:Hid (F=GQ w (.ok (ql op ((acc++[jo.mk G A1 c1]).map jo.t)) J)):=by show _=_;rw[bE.out,←OH.out,I_ mE,List.map_append];rfl
     clear hI aa ab mE
     by_cases ay:m=1
     ·subst ay;obtain rfl:acc=[]:=List.eq_nil_of_length_eq_zero (by have:=HM.out;have:=Iy.out;omega);obtain⟨y0,y1,y2,y3⟩:=ae.one;obtain⟨u0,u1,u2,u3,u4,u5,eG⟩:=q6 O.out;have ul:D<w8.heap.size:=lH O.out;obtain⟨v0,v1,v2,v3,v4,v5,bW⟩:=q6 I.out;have vl:b6<w8.heap.size:=lH I.out;go_wp2_with fail;refine(HC.out).mono ?_;rintro e w' ⟨rfl,aJ⟩;rw[aJ];clear aJ HC;go_wp2_with fail;clear u0 eG u1 u2 u3 u4 u5 ul v0 bW v1 v2 v3 v4 v5 vl;clear y0 y1 y2 y3;refine bR (sJ (iG I.out)) rfl ?_;rw[ai.out];exact fF (r:=.ok G J) (A':=A1) (c':=c1) _ _ _ _ _ _ bZ.out ((ae.vals ⟨G,A1,c1⟩ (by simp)).keep Kr (fun q _ h=>by have:=h.1;have:=bZ.out;omega)) HB.out
     ·have bC:((m:Int)==1)=false:=by simp;omega
      have Rw:Hid (m≠1):=ay;clear ay;have bb:((acc++[jo.mk G A1 c1]).map jo.t).length=m:=by rw[List.length_map,List.length_append,←Iy.out,HM.out];rfl
      have bd:=Hd (ae.many (op:=op) bZ.out);have aQ:=Hd bb;clear bb;obtain⟨u0,u1,u2,u3,u4,u5,eG⟩:=q6 O.out;have ul:D<w8.heap.size:=lH O.out;obtain⟨v0,v1,v2,v3,v4,v5,bW⟩:=q6 I.out;have vl:b6<w8.heap.size:=lH I.out;go_wp2_with fail;refine(HC.out).mono ?_;rintro e w' ⟨rfl,aJ⟩;rw[aJ];clear aJ HC;go_wp2_with fail;clear u0 eG u1 u2 u3 u4 u5 ul v0 bW v1 v2 v3 v4 v5 vl;refine bR (sJ (iG I.out)) rfl ?_;rw[ai.out,Cw (by rw[aQ.out];exact Rw.out),gy.out];have af:=fF (r:=.ok (dD op ((acc++[jo.mk G A1 c1]).map jo.t)) J) (A':=some ⟨g,0,none⟩) (c':=cap) (.int .i64 op) (.int .i64 0) (.string ⟨#[]⟩) (.slice (some ⟨g,0,none⟩) m cap) (.int .i64 (J:Nat)) (.int .i64 0) bZ.out bd.out HB.out;have hk:(jY (.ok (dD op ((acc++[jo.mk G A1 c1]).map jo.t)) J)).kids.length=m:=aQ.out;rw[hk,gy.out]at af;exact af
structure afx(d:Nat)(l:List Tok)(v:p8):Prop where
 term:Sm l d 125 v.term
 imp:Sm l d 153 v.imp
 not:Sm l d 198 v.not
theorem agW{l:List Tok}{s:Option p8}(h:∀v,s=some v→TF l v):GdS l (s.map p8.term)∧GdS l (s.map p8.imp)∧GdS l (s.map p8.not):=by
 refine⟨fun p hp=>?_,fun p hp=>?_,fun p hp=>?_⟩
 ·cases s with
  |none=>cases hp
  |some v=>simp at hp;subst hp;exact(h v rfl).term
 ·cases s with
  |none=>cases hp
  |some v=>simp at hp;subst hp;exact(h v rfl).imp
 ·cases s with
  |none=>cases hp
  |some v=>simp at hp;subst hp;exact(h v rfl).not
theorem agX{s:Option p8}(h:∀v,s=some v→rG v.term∧rG v.imp∧rG v.not):NzS (s.map p8.term)∧NzS (s.map p8.imp)∧NzS (s.map p8.not):=by
 refine⟨fun p hp=>?_,fun p hp=>?_,fun p hp=>?_⟩
 ·cases s with
  |none=>cases hp
  |some v=>simp at hp;subst hp;exact(h v rfl).1
 ·cases s with
  |none=>cases hp
  |some v=>simp at hp;subst hp;exact(h v rfl).2.1
 ·cases s with
  |none=>cases hp
  |some v=>simp at hp;subst hp;exact(h v rfl).2.2
theorem aiO{l:List Tok}{s:Option jN}{sum:jN}(hn:NzS s)(h:rG sum):rG (Kk l s sum):=by
 intro i j e he;unfold Kk at he
 split at he
 ·rcases dh he with h1|⟨x,k,-,h1⟩
  ·exact Co hn _ _ _ h1
  ·cases h1
 ·rcases dh he with h1|⟨x,k,-,h1⟩
  ·exact h _ _ _ h1
  ·split at h1
   ·cases h1
   ·rcases dh h1 with h1|⟨x,k,-,h1⟩
    ·exact h _ _ _ h1
    ·cases h1
theorem aiP{l:List Tok}{s:Option jN}{or:jN}(hn:NzS s)(h:rG or):rG (Gn l s or):=by
 intro i j e he;unfold Gn at he
 rcases dh he with h1|⟨x,k,-,h1⟩
 ·exact h _ _ _ h1
 ·split at h1
  ·cases h1
  ·rcases dh h1 with h1|⟨x,k,-,h1⟩
   ·exact Co hn _ _ _ h1
   ·cases h1
theorem Qo(d:Nat)(l:List Tok)(s:Option p8)(v:p8)(hd:d≤256)(hs:s=if d=256 then none else some v)(hv:d<256→afx (d+1) l v)(hg:TF l v)(hz:rG v.term∧rG v.imp∧rG v.not):afx d l (QB l s):=by
 have ht:s.map p8.term=if d=256 then none else some v.term:=by rw[hs];split<;>rfl
 have hi:s.map p8.imp=if d=256 then none else some v.imp:=by rw[hs];split<;>rfl
 have hn:s.map p8.not=if d=256 then none else some v.not:=by rw[hs];split<;>rfl
 have ab:∀v',s=some v'→v'=v:=fun v' h=>by
  rw[hs]at h
  split at h
  ·cases h
  ·cases h;rfl
 obtain⟨gt,gi,gn⟩:=agW (l:=l) (s:=s) (fun v' h=>by rw[ab v' h];exact hg);obtain⟨zt,zi,zn⟩:=agX (s:=s) (fun v' h=>by rw[ab v' h];exact hz);have D:=aaj l d v.term hd (fun h=>(hv h).term) hg.term hz.1;rw[←ht]at D;have gU:=aaI gt;have zU:=aaL (l:=l) zt;have I:=aoN l d true [16,17] _ hd (.inl ⟨rfl,rfl,D⟩) gU zU;have gP:wu l (EL l (s.map p8.term)):=KM (fun op ho=>by simp at ho;omega) gU;have zP:rG (EL l (s.map p8.term)):=KN zU;have aa:=aoN l d false [14,15] _ hd (.inr ⟨rfl,rfl,I⟩) gP zP;have gS:wu l (Gp l (s.map p8.term)):=KM (fun op ho=>by simp at ho;omega) gP;have zS:rG (Gp l (s.map p8.term)):=KN zP;have Y:=acU l d _ hd aa gS zS;have G:=acV l d _ v.not hd Y (fun h=>(hv h).not) hg.not hz.2.2;rw[←hn]at G;have J:Sm l d 198 (EM l s):=G;have gN:wu l (EM l s):=adf gn gS;have zN:rG (EM l s):=aiO zn zS;have hand:OZ l d 181 true (Pd l s):=aoO l d true 6 [38] _ hd (.inl ⟨rfl,rfl,rfl,J⟩) gN zN;have ae:OZ l d 181 false (Oz l s):=aoO l d false 7 [124] _ hd (.inr ⟨rfl,rfl,rfl,hand⟩) (GA (.inl rfl) gN) (GI zN);have gO:wu l (Oz l s):=GA (.inr rfl) (GA (.inl rfl) gN);have zO:rG (Oz l s):=GI (GI zN);have himp:=acT l d _ v.imp hd ae gO zO (fun h=>(hv h).imp) hg.imp hz.2.1;rw[←hi]at himp
 have O:Sm l d 153 (Ch l s):=himp;exact⟨aak l d _ hd O (ade gi gO) (aiP zi zO),O,J⟩
theorem abm(l:List Tok):∀r d,d+r=256→afx d l (lvl l r)
 |0,d,h=>by
  rw[lvl];exact Qo d l none (lvl l 0) (by omega) (by rw[iP (by omega)]) (fun h=>by omega) (IV l 0) (Mh l 0)
 |r+1,d,h=>by
  rw[lvl];exact Qo d l (some (lvl l r)) (lvl l r) (by omega) (by rw[iN (by omega)]) (fun _=>abm l r (d+1) (by omega)) (IV l r) (Mh l r)
end Go.Proofs.YtkhoeoilamddaaaGreatDoor
