/- Walks and plain words: RprG RprH RprI. -/
import Derived.Test.YtkhoeoilamddaaaGreatDoorQRprD
namespace Go.Proofs.YtkhoeoilamddaaaGreatDoor
open Go.RowKit
set_option linter.unusedVariables false
set_option linter.unusedSimpArgs false
set_option maxRecDepth 100000
set_option maxHeartbeats 4000000
theorem Bn{o:Array Oper}{i:Nat}{x:Oper}(h:o.toList[i]?=some x):o[i]?=some x:=by simpa using h
theorem aak(l:List Tok)(d:Nat)(P:jN)(hd:d≤256)(hF:Sm l d 153 P)(hG:wu l P)(hZ:rG P):Sm l d 125 (Bu l P):=by
 intro A c i w hi hP;obtain⟨n,b6,w1,F,hlen,az,ay,aE,I,O,HP,uy,HS,HI,HF,HN,bZ,ar⟩:=tV A c l w hP (GQ w (Bu l P i));rw[←HF,←HN];rw[←HN]at hi;clear hP
 have ag:Hid (∀(i:Nat)(W:World),i≤l.length→dP W A c l→Calls Tryz.prog 153 #[.slice A n c,.int .i64 (i:Nat),.int .i64 ((d:Nat):Int)] W (GQ W (P i))):=by
  intro i W h1 h2;have:=hF A c i W h1 h2;rw[←HN]at this;exact this
 obtain⟨iE,jF⟩:=ak P;rw[←jF]at ag;have Dr:Hid (wu l iE):=by show wu _ _;rw[jF];exact hG
 have Dt:Hid (rG iE):=by show rG _;rw[jF];exact hZ
 clear hF hG hZ;go_in;have aa:=ag (i) w1 (by first|omega|(rw[←HN];omega)) (HP.below O);obtain⟨r1,dx⟩:=ak (iE (i));rw[←dx]at aa;have HC:=Hd aa;have Dn:Hid (∀x k,r1=.ok x k→Gd l (i) x k):=fun x k h=>Dr (i) x k (by rw[←dx];exact h);have Dp:Hid (∀k x,r1=.bad k x→x≠0):=fun k x h=>Dt (i) k x (by rw[←dx];exact h);clear aa;go_wp2_with fail;rw[←ar]
 try rw[←bZ]
 refine HC.mono ?_;intro e w2 hq;have uU:Hid (F=GQ w (r1.then fun t j=>if au l j [9]=0 then .ok t j else(iE (j+1)).then fun u k=>.ok (dD 9 [t,u]) k)):=by show _=_;rw[HF,dx,jF];rfl
 clear dx
 rcases r1 with⟨jb,xb⟩|⟨t1,j1⟩
 ·obtain⟨A',c',rfl,hV,G⟩:=iq.1 hq;have hx:=Dp _ _ rfl;have av:(xb != 0)=true:=by simpa using hx
  have HV:Hid (aD (fun q=>w.heap.size<q) w2 A' c' dG):=hV.keep Kr (fun q _ h=>by have:=bZ.out;have:=lH I;omega);replace I:=kX G I;replace O:=kB O G;clear G hV hq HC hx;obtain⟨v0,v1,v2,v3,v4,v5,bW⟩:=q6 I;have vl:b6<w2.heap.size:=lH I;go_wp2_with fail;clear v0 bW v1 v2 v3 v4 v5 vl;refine bR (sJ (aK (iG I))) rfl ?_;rw[uU];exact r_ (r:=.bad jb xb) (A':=A') (c':=c') _ _ _ _ _ _ _ bZ HV O
 obtain⟨A1,c1,rfl,hV,G⟩:=vS.1 hq;have jB:Hid (aD (fun q=>w.heap.size<q) w2 A1 c1 t1):=hV.keep Kr (fun q _ h=>by have:=bZ.out;have:=lH I;omega);have mR:=Dn _ _ rfl;have Dq:=mR.ij;have oQ:=mR.jl;rw[←HN]at oQ;clear mR;obtain⟨n1,pY⟩:=ak t1.kids.length;rw[←pY];replace I:=kX G I;replace O:=kB O G;clear G hV hq HC;obtain⟨b7,iY⟩:=aj w2.heap.size;obtain⟨w3,af⟩:=aj (w2.alloc (.cells #[.int .i64 t1.op,.int .i64 t1.num,.string t1.name,.slice A1 n1 c1,.int .i64 (j1:Nat),.int .i64 0] 194));have bP:=jZ af iY;have Dm:Hid (b7≠b6):=by show _≠_;have:=lH I;omega
 have Y:=dz af;have qM:=Hd iY;have Ao:=Hd af;clear iY af;replace I:=kX Y I;replace jB:Hid (aD (fun q=>w.heap.size<q) w3 A1 c1 t1):=jB.keep (Kb Y) (fun _ _ h=>h);replace O:=kB O Y;clear Y;have hI:=qB A c j1 l ⟨#[60,45,62]⟩ w3 (HP.below O) (by omega);rw[←HN]at hI;have mE:au l j1 [9]=if ah l j1 4 [60,45,62]then 9 else 0:=rfl
 by_cases ae:ah l j1 4 [60,45,62]=true
 ·rw[show ah l j1 4 (bs ⟨#[60,45,62]⟩)=true from ae]at hI;have HC:=Hd hI;have vE:=dL ae;have yc:Hid (F=GQ w ((iE (j1+1)).then fun u k=>.ok (dD 9 [t1,u]) k)):=by show _=_;rw[uU];show GQ w (if au l j1 [9]=0 then _ else _)=_;rw[mE,iP ae];rfl
  clear hI ae mE uU;obtain⟨u0,u1,u2,u3,u4,u5,eG⟩:=q6 bP;have ul:b7<w3.heap.size:=lH bP;go_wp2_with fail;rw[←Ao,←qM];(try go_wp2_with fail);refine HC.mono ?_;rintro e w' ⟨rfl,aJ⟩;rw[aJ];clear aJ HC;have aa:=ag (j1+1) w3 (by first|omega|(rw[←HN];omega)) (HP.below O);rw[show((j1+1:Nat):Int)=(j1:Int)+1 from by omega]at aa;obtain⟨r2,jR⟩:=ak (iE (j1+1));rw[←jR]at aa;have HC:=Hd aa;have NW:Hid (∀x k,r2=.ok x k→Gd l (j1+1) x k):=fun x k h=>Dr (j1+1) x k (by rw[←jR];exact h);have NY:Hid (∀k x,r2=.bad k x→x≠0):=fun k x h=>Dt (j1+1) k x (by rw[←jR];exact h);clear aa;go_wp2_with fail;refine HC.mono ?_;intro e w4 hq;have dJ:Hid (F=GQ w (r2.then fun u k=>.ok (dD 9 [t1,u]) k)):=by show _=_;rw[yc,jR]
  clear jR yc u0 eG u1 u2 u3 u4 u5 ul
  rcases r2 with⟨jb,xb⟩|⟨t2,j2⟩
  ·obtain⟨A',c',rfl,hV,G⟩:=iq.1 hq;have hx:=NY _ _ rfl;have av:(xb != 0)=true:=by simpa using hx
   have HV:Hid (aD (fun q=>w.heap.size<q) w4 A' c' dG):=hV.keep Kr (fun q _ h=>by have:=bZ.out;have:=lH I;omega);replace I:=kX G I;replace bP:=kX G bP;replace jB:Hid (aD (fun q=>w.heap.size<q) w4 A1 c1 t1):=jB.keep (Kb G) (fun _ _ h=>h);replace O:=kB O G;clear G hV hq HC hx;obtain⟨v0,v1,v2,v3,v4,v5,bW⟩:=q6 I;have vl:b6<w4.heap.size:=lH I;go_wp2_with fail;clear v0 bW v1 v2 v3 v4 v5 vl;refine bR (sJ (aK (iG I))) rfl ?_;rw[dJ];exact r_ (r:=.bad jb xb) (A':=A') (c':=c') _ _ _ _ _ _ _ bZ HV O
  obtain⟨A2,c2,rfl,hV,G⟩:=vS.1 hq;have jm:Hid (aD (fun q=>w.heap.size<q) w4 A2 c2 t2):=hV.keep Kr (fun q _ h=>by have:=bZ.out;have:=lH I;omega);have qC:=NW _ _ rfl;have NZ:=qC.ij;have xJ:=qC.jl;rw[←HN]at xJ;clear qC;obtain⟨n2,uT⟩:=ak t2.kids.length;rw[←uT];replace I:=kX G I;replace bP:=kX G bP;replace jB:Hid (aD (fun q=>w.heap.size<q) w4 A1 c1 t1):=jB.keep (Kb G) (fun _ _ h=>h);replace O:=kB O G;clear G hV hq HC;obtain⟨b8,Gb⟩:=aj w4.heap.size;obtain⟨w5,gH⟩:=aj (w4.alloc (.cells #[.int .i64 t2.op,.int .i64 t2.num,.string t2.name,.slice A2 n2 c2,.int .i64 (j2:Nat),.int .i64 0] 194));have lQ:=jZ gH Gb;have KE:Hid (b8≠b6):=by show _≠_;have:=lH I;omega
  have Y:=dz gH;have NT:=Hd Gb;have O4:=Hd gH;clear Gb gH;replace I:=kX Y I;replace bP:=kX Y bP;replace jB:Hid (aD (fun q=>w.heap.size<q) w5 A1 c1 t1):=jB.keep (Kb Y) (fun _ _ h=>h);replace jm:Hid (aD (fun q=>w.heap.size<q) w5 A2 c2 t2):=jm.keep (Kb Y) (fun _ _ h=>h);replace O:=kB O Y;clear Y;go_wp2_with fail;rw[←O4,←NT];have aw:b7≠b6:=Dm;have ax:b8≠b6:=KE;obtain⟨wd,hwd⟩:=aj w5.drew;have ab:Below w5.heap.size w5 wd:=by rw[hwd];exact(Br _ _).drew
  replace I:=kX ab I;replace bP:=kX ab bP;replace lQ:=kX ab lQ;replace jB:Hid (aD (fun q=>w.heap.size<q) wd A1 c1 t1):=jB.keep (Kb ab) (fun _ _ h=>h);replace jm:Hid (aD (fun q=>w.heap.size<q) wd A2 c2 t2):=jm.keep (Kb ab) (fun _ _ h=>h);replace O:=kB O ab
  have qb:Hid (Calls Tryz.prog 155 #[.int .i64 9,.agg #[.int .i64 t1.op,.int .i64 t1.num,.string t1.name,.slice A1 n1 c1],.agg #[.int .i64 t2.op,.int .i64 t2.num,.string t2.name,.slice A2 n2 c2]] wd fun e w'=>∃g,e=.returned (.agg #[.int .i64 9,.int .i64 0,.string ⟨#[]⟩,.slice (some ⟨g,0,none⟩) 2 2])∧aD (fun q=>w.heap.size<q) w' (some ⟨g,0,none⟩) 2 (dD 9 [t1,t2])∧Below wd.heap.size wd w'):=by
   have h:=Ac 9 t1 t2 A1 c1 A2 c2 (w.heap.size+1) wd (by have:=bZ.out;have:=lH I;omega) jB jm;unfold Tm.val at h;rw[←pY,←uT]at h;exact h
  refine wp_region_held_drew (S:=fun w'=>w'.heap[b7]?=some (.cells #[.int .i64 t1.op,.int .i64 t1.num,.string t1.name,.slice A1 n1 c1,.int .i64 (j1:Nat),.int .i64 0] 194 (0,0))∧w'.heap[b8]?=some (.cells #[.int .i64 t2.op,.int .i64 t2.num,.string t2.name,.slice A2 n2 c2,.int .i64 (j2:Nat),.int .i64 0] 194 (0,0))) (by kernel_rfl) (by rw[←hwd];exact⟨bP,lQ⟩) (fun J=>?_);rw[←hwd]at J⊢;clear hwd ab;refine gJ 0 (v:=?_) (Bn rfl) (Or.inl ⟨by rfl,?hy⟩) (by assumption) ?_
  case hy=>
   intro w0 D;clear D;go_simp
   (first|done|with_reducible rfl)
  (try simp only[Act.put,aT,aU,aV]);refine gJ 1 (v:=?_) (Bn rfl) (Or.inl ⟨by rfl,?hy⟩) (by assumption) ?_
  case hy=>
   intro w0 D;obtain⟨e0,e1,e2,e3,e4,e5,-⟩:=q6 D.1;obtain⟨h0,h1,h2,h3,h4,h5,-⟩:=q6 D.2;clear D;go_simp
   (first|done|with_reducible rfl)
  (try simp only[Act.put,aT,aU,aV]);refine gJ 2 (v:=?_) (Bn rfl) (Or.inl ⟨by rfl,?hy⟩) (by assumption) ?_
  case hy=>
   intro w0 D;clear D;go_simp
   (first|done|with_reducible rfl)
  (try simp only[Act.put,aT,aU,aV]);refine gJ 3 (v:=?_) (Bn rfl) (Or.inl ⟨by rfl,?hy⟩) (by assumption) ?_
  case hy=>
   intro w0 D;obtain⟨e0,e1,e2,e3,e4,e5,-⟩:=q6 D.1;obtain⟨h0,h1,h2,h3,h4,h5,-⟩:=q6 D.2;clear D;go_simp
   (first|done|with_reducible rfl)
  (try simp only[Act.put,aT,aU,aV]);refine gJ 5 (v:=?_) (Bn rfl) (Or.inl ⟨by rfl,?hy⟩) (by assumption) ?_
  case hy=>
   intro w0 D;clear D;go_simp
   (first|done|with_reducible rfl)
  (try simp only[Act.put,aT,aU,aV]);refine gJ 6 (v:=?_) (Bn rfl) (Or.inl ⟨by rfl,?hy⟩) (by assumption) ?_
  case hy=>
   intro w0 D;obtain⟨e0,e1,e2,e3,e4,e5,-⟩:=q6 D.1;obtain⟨h0,h1,h2,h3,h4,h5,-⟩:=q6 D.2;clear D;go_simp
   (first|done|with_reducible rfl)
  (try simp only[Act.put,aT,aU,aV]);refine Rd (rs:=[4]) (by kernel_rfl) (by simp) ?_;refine Rc (Bn rfl) (fun K hK=>?_) Rn;go_simp;(with_reducible refine(qb.out).mono ?_);rintro e w8 ⟨g,rfl,ai,xX⟩;have ao:=Hd ai;refine hK.out _ _ ⟨(xX.block b7 (lH bP)).trans bP,(xX.block b8 (lH lQ)).trans lQ⟩ (fun J=>?_);clear hK K;(try simp only[Act.put,aT,aU,aV]);replace I:=kX xX I;replace O:=kB O xX;clear xX ai qb;refine gJ 7 (v:=?_) (Bn rfl) (Or.inl ⟨by rfl,?hy⟩) (by assumption) ?_
  case hy=>
   intro w0 D;clear D;go_simp
   (first|done|with_reducible rfl)
  (try simp only[Act.put,aT,aU,aV]);refine Rd (rs:=[8]) (by kernel_rfl) (by simp) ?_;refine Rc (Bn rfl) (fun K hK=>?_) Rn;obtain⟨v0,v1,v2,v3,v4,v5,bW⟩:=q6 I;have vl:b6<w8.heap.size:=lH I;go_simp;clear v0 bW v1 v2 v3 v4 v5 vl;refine hK.out _ _ ⟨(fV aw).trans J.1,(fV ax).trans J.2⟩ (fun J=>?_);clear hK K;(try simp only[Act.put,aT,aU,aV]);refine wpAnyH_done (by kernel_rfl) ?_ _;clear J;go_wp2_with fail;refine bR (sJ (iG I)) rfl ?_;rw[dJ];exact fF (r:=.ok (dD 9 [t1,t2]) j2) (A':=some ⟨g,0,none⟩) (c':=2) _ _ _ _ _ _ bZ ao O
 ·have aa:ah l j1 4 [60,45,62]=false:=by simpa using ae
  rw[show ah l j1 4 (bs ⟨#[60,45,62]⟩)=false from aa]at hI;have HC:=Hd hI;have bE:Hid (F=GQ w (.ok t1 j1)):=by show _=_;rw[uU];show GQ w (if au l j1 [9]=0 then _ else _)=_;rw[mE,iN ae];rfl
  clear hI ae aa mE uU;obtain⟨u0,u1,u2,u3,u4,u5,eG⟩:=q6 bP;have ul:b7<w3.heap.size:=lH bP;obtain⟨v0,v1,v2,v3,v4,v5,bW⟩:=q6 I;have vl:b6<w3.heap.size:=lH I;go_wp2_with fail;rw[←Ao,←qM];(try go_wp2_with fail);refine HC.mono ?_;rintro e w' ⟨rfl,aJ⟩;rw[aJ];clear aJ HC;go_wp2_with fail;clear u0 eG u1 u2 u3 u4 u5 ul v0 bW v1 v2 v3 v4 v5 vl;refine bR (sJ (iG I)) rfl ?_;rw[bE,pY];exact fF (r:=.ok t1 j1) (A':=A1) (c':=c1) _ _ _ _ _ _ bZ jB O
theorem mU{o:Array Oper}{i:Nat}{x:Oper}(h:o.toList[i]?=some x):o[i]?=some x:=by simpa using h
theorem acT(l:List Tok)(d:Nat)(P PI:jN)(hd:d≤256)(hF:OZ l d 181 false P)(hG:wu l P)(hZ:rG P)(ax:d<256→Sm l (d+1) 153 PI)(ay:wu l PI)(aF:rG PI):Sm l d 153 (Gn l (if d=256 then none else some PI) P):=by
 intro A c i w hi hP;obtain⟨n,b6,w1,F,hlen,bi,bh,bj,D,O,HP,uy,HS,HI,HF,HN,bZ,a6⟩:=tV A c l w hP (GQ w (Gn l (if d=256 then none else some PI) P i));rw[←HF,←HN];rw[←HN]at hi;clear hP
 have ao:Hid (∀(i:Nat)(W:World),i≤l.length→dP W A c l→Calls Tryz.prog 181 #[.slice A n c,.int .i64 (i:Nat),.int .i64 ((d:Nat):Int),.bool false] W (GQ W (P i))):=by
  intro i W h1 h2;have:=hF A c i W h1 h2;rw[←HN]at this;exact this
 obtain⟨iE,jF⟩:=ak P;rw[←jF]at ao;have Dr:Hid (wu l iE):=by show wu _ _;rw[jF];exact hG
 have Dt:Hid (rG iE):=by show rG _;rw[jF];exact hZ
 have a7:Hid (d<256→∀(i:Nat)(W:World),i≤l.length→dP W A c l→Calls Tryz.prog 153 #[.slice A n c,.int .i64 (i:Nat),.int .i64 ((d+1:Nat):Int)] W (GQ W (PI i))):=by
  intro hdd i W h1 h2;have:=ax hdd A c i W h1 h2;rw[←HN]at this;exact this
 have av:=Hd ay;have aw:=Hd aF;clear hF hG hZ ax ay aF;go_in;have Y:=ao (i) w1 (by first|omega|(rw[←HN];omega)) (HP.below O);obtain⟨r1,dx⟩:=ak (iE (i));rw[←dx]at Y;have HC:=Hd Y;have Dn:Hid (∀x k,r1=.ok x k→Gd l (i) x k):=fun x k h=>Dr (i) x k (by rw[←dx];exact h);have Dp:Hid (∀k x,r1=.bad k x→x≠0):=fun k x h=>Dt (i) k x (by rw[←dx];exact h);clear Y;go_wp2_with fail;rw[←a6]
 try rw[←bZ]
 refine HC.mono ?_;intro e w2 hq;have uU:Hid (F=GQ w (r1.then fun t j=>if au l j [8]=0 then .ok t j else(inner (if d=256 then none else some PI) j).then fun u k=>.ok (dD 8 [t,u]) k)):=by show _=_;rw[HF,dx,jF];rfl
 clear dx
 rcases r1 with⟨jb,xb⟩|⟨t1,j1⟩
 ·obtain⟨A',c',rfl,hV,I⟩:=iq.1 hq;have hx:=Dp _ _ rfl;have bd:(xb != 0)=true:=by simpa using hx
  have HV:Hid (aD (fun q=>w.heap.size<q) w2 A' c' dG):=hV.keep Kr (fun q _ h=>by have:=bZ.out;have:=lH D;omega);replace D:=kX I D;replace O:=kB O I;clear I hV hq HC hx;obtain⟨v0,v1,v2,v3,v4,v5,bW⟩:=q6 D;have vl:b6<w2.heap.size:=lH D;go_wp2_with fail;clear v0 bW v1 v2 v3 v4 v5 vl;refine bR (sJ (aK (iG D))) rfl ?_;rw[uU];exact r_ (r:=.bad jb xb) (A':=A') (c':=c') _ _ _ _ _ _ _ bZ HV O
 obtain⟨A1,c1,rfl,hV,I⟩:=vS.1 hq;have jB:Hid (aD (fun q=>w.heap.size<q) w2 A1 c1 t1):=hV.keep Kr (fun q _ h=>by have:=bZ.out;have:=lH D;omega);have mR:=Dn _ _ rfl;have Dq:=mR.ij;have oQ:=mR.jl;rw[←HN]at oQ;clear mR;obtain⟨n1,pY⟩:=ak t1.kids.length;rw[←pY];replace D:=kX I D;replace O:=kB O I;clear I hV hq HC;obtain⟨b7,iY⟩:=aj w2.heap.size;obtain⟨w3,af⟩:=aj (w2.alloc (.cells #[.int .i64 t1.op,.int .i64 t1.num,.string t1.name,.slice A1 n1 c1,.int .i64 (j1:Nat),.int .i64 0] 194));have bP:=jZ af iY;have Dm:Hid (b7≠b6):=by show _≠_;have:=lH D;omega
 have aa:=dz af;have qM:=Hd iY;have Ao:=Hd af;clear iY af;replace D:=kX aa D;replace jB:Hid (aD (fun q=>w.heap.size<q) w3 A1 c1 t1):=jB.keep (Kb aa) (fun _ _ h=>h);replace O:=kB O aa;clear aa;have hI:=qB A c j1 l ⟨#[45,62]⟩ w3 (HP.below O) (by omega);rw[←HN]at hI;have mE:au l j1 [8]=if ah l j1 4 [45,62]then 8 else 0:=rfl
 by_cases ae:ah l j1 4 [45,62]=true
 ·rw[show ah l j1 4 (bs ⟨#[45,62]⟩)=true from ae]at hI;have HC:=Hd hI;have vE:=dL ae;have yc:Hid (F=GQ w ((inner (if d=256 then none else some PI) j1).then fun u k=>.ok (dD 8 [t1,u]) k)):=by show _=_;rw[uU];show GQ w (if au l j1 [8]=0 then _ else _)=_;rw[mE,iP ae];rfl
  clear hI ae mE uU
  by_cases gq:d=256
  ·have bb:((d:Int)==256)=true:=by simp;omega
   have bE:Hid (F=GQ w (.bad j1 17)):=by show _=_;rw[yc,iP gq];rfl
   clear gq yc;obtain⟨u0,u1,u2,u3,u4,u5,eG⟩:=q6 bP;have ul:b7<w3.heap.size:=lH bP;go_wp2_with fail;rw[←Ao,←qM];(try go_wp2_with fail);refine HC.mono ?_;rintro e w' ⟨rfl,aJ⟩;rw[aJ];clear aJ HC;have HC:=Hd (ig j1 17 w3);go_wp2_with fail;refine HC.mono ?_;intro e w9 hq;obtain⟨AF,cF,rfl,az,ai⟩:=iq.1 hq;clear u0 eG u1 u2 u3 u4 u5 ul;have aQ:Hid (aD (fun q=>w.heap.size<q) w9 AF cF dG):=az.keep Kr (fun q _ h=>by have:=bZ.out;have:=lH D;omega);replace D:=kX ai D;replace O:=kB O ai;clear hq az ai HC;obtain⟨v0,v1,v2,v3,v4,v5,bW⟩:=q6 D;have vl:b6<w9.heap.size:=lH D;go_wp2_with fail;clear v0 bW v1 v2 v3 v4 v5 vl;refine bR (sJ (iG D)) rfl ?_;rw[bE];exact fF (r:=.bad j1 17) (A':=AF) (c':=cF) _ _ _ _ _ _ bZ aQ O
  ·have bb:((d:Int)==256)=false:=by simp;omega
   have ba:d<256:=by omega
   have ag:Hid (F=GQ w ((PI (j1+1)).then fun u k=>.ok (dD 8 [t1,u]) k)):=by show _=_;rw[yc,iN gq];rfl
   have ar:Hid (∀(i:Nat)(W:World),i≤l.length→dP W A c l→Calls Tryz.prog 153 #[.slice A n c,.int .i64 (i:Nat),.int .i64 ((d+1:Nat):Int)] W (GQ W (PI i))):=a7 ba;obtain⟨a8,aP⟩:=aj PI;rw[←aP]at ar ag av aw;clear gq yc aP;obtain⟨u0,u1,u2,u3,u4,u5,eG⟩:=q6 bP;have ul:b7<w3.heap.size:=lH bP;go_wp2_with fail;rw[←Ao,←qM];(try go_wp2_with fail);refine HC.mono ?_;rintro e w' ⟨rfl,aJ⟩;rw[aJ];clear aJ HC;have Y:=ar (j1+1) w3 (by first|omega|(rw[←HN];omega)) (HP.below O);rw[show((j1+1:Nat):Int)=(j1:Int)+1 from by omega]at Y;rw[show((d+1:Nat):Int)=(d:Int)+1 from by omega]at Y;obtain⟨r2,jR⟩:=ak (a8 (j1+1));rw[←jR]at Y;have HC:=Hd Y;have NW:Hid (∀x k,r2=.ok x k→Gd l (j1+1) x k):=fun x k h=>av (j1+1) x k (by rw[←jR];exact h);have NY:Hid (∀k x,r2=.bad k x→x≠0):=fun k x h=>aw (j1+1) k x (by rw[←jR];exact h);clear Y;go_wp2_with fail;refine HC.mono ?_;intro e w4 hq;have dJ:Hid (F=GQ w (r2.then fun u k=>.ok (dD 8 [t1,u]) k)):=by show _=_;rw[ag,jR]
   clear jR ag u0 eG u1 u2 u3 u4 u5 ul
   rcases r2 with⟨jb,xb⟩|⟨t2,j2⟩
   ·obtain⟨A',c',rfl,hV,I⟩:=iq.1 hq;have hx:=NY _ _ rfl;have bd:(xb != 0)=true:=by simpa using hx
    have HV:Hid (aD (fun q=>w.heap.size<q) w4 A' c' dG):=hV.keep Kr (fun q _ h=>by have:=bZ.out;have:=lH D;omega);replace D:=kX I D;replace bP:=kX I bP;replace jB:Hid (aD (fun q=>w.heap.size<q) w4 A1 c1 t1):=jB.keep (Kb I) (fun _ _ h=>h);replace O:=kB O I;clear I hV hq HC hx;obtain⟨v0,v1,v2,v3,v4,v5,bW⟩:=q6 D;have vl:b6<w4.heap.size:=lH D;go_wp2_with fail;clear v0 bW v1 v2 v3 v4 v5 vl;refine bR (sJ (aK (iG D))) rfl ?_;rw[dJ];exact r_ (r:=.bad jb xb) (A':=A') (c':=c') _ _ _ _ _ _ _ bZ HV O
   obtain⟨A2,c2,rfl,hV,I⟩:=vS.1 hq;have jm:Hid (aD (fun q=>w.heap.size<q) w4 A2 c2 t2):=hV.keep Kr (fun q _ h=>by have:=bZ.out;have:=lH D;omega);have qC:=NW _ _ rfl;have NZ:=qC.ij;have xJ:=qC.jl;rw[←HN]at xJ;clear qC;obtain⟨n2,uT⟩:=ak t2.kids.length;rw[←uT];replace D:=kX I D;replace bP:=kX I bP;replace jB:Hid (aD (fun q=>w.heap.size<q) w4 A1 c1 t1):=jB.keep (Kb I) (fun _ _ h=>h);replace O:=kB O I;clear I hV hq HC;obtain⟨b8,Gb⟩:=aj w4.heap.size;obtain⟨w5,gH⟩:=aj (w4.alloc (.cells #[.int .i64 t2.op,.int .i64 t2.num,.string t2.name,.slice A2 n2 c2,.int .i64 (j2:Nat),.int .i64 0] 194));have lQ:=jZ gH Gb;have KE:Hid (b8≠b6):=by show _≠_;have:=lH D;omega
   have aa:=dz gH;have NT:=Hd Gb;have O4:=Hd gH;clear Gb gH;replace D:=kX aa D;replace bP:=kX aa bP;replace jB:Hid (aD (fun q=>w.heap.size<q) w5 A1 c1 t1):=jB.keep (Kb aa) (fun _ _ h=>h);replace jm:Hid (aD (fun q=>w.heap.size<q) w5 A2 c2 t2):=jm.keep (Kb aa) (fun _ _ h=>h);replace O:=kB O aa;clear aa;go_wp2_with fail;rw[←O4,←NT];have bf:b7≠b6:=Dm;have bg:b8≠b6:=KE;obtain⟨wd,hwd⟩:=aj w5.drew;have ab:Below w5.heap.size w5 wd:=by rw[hwd];exact(Br _ _).drew
   replace D:=kX ab D;replace bP:=kX ab bP;replace lQ:=kX ab lQ;replace jB:Hid (aD (fun q=>w.heap.size<q) wd A1 c1 t1):=jB.keep (Kb ab) (fun _ _ h=>h);replace jm:Hid (aD (fun q=>w.heap.size<q) wd A2 c2 t2):=jm.keep (Kb ab) (fun _ _ h=>h);replace O:=kB O ab
   have qb:Hid (Calls Tryz.prog 155 #[.int .i64 8,.agg #[.int .i64 t1.op,.int .i64 t1.num,.string t1.name,.slice A1 n1 c1],.agg #[.int .i64 t2.op,.int .i64 t2.num,.string t2.name,.slice A2 n2 c2]] wd fun e w'=>∃g,e=.returned (.agg #[.int .i64 8,.int .i64 0,.string ⟨#[]⟩,.slice (some ⟨g,0,none⟩) 2 2])∧aD (fun q=>w.heap.size<q) w' (some ⟨g,0,none⟩) 2 (dD 8 [t1,t2])∧Below wd.heap.size wd w'):=by
    have h:=Ac 8 t1 t2 A1 c1 A2 c2 (w.heap.size+1) wd (by have:=bZ.out;have:=lH D;omega) jB jm;unfold Tm.val at h;rw[←pY,←uT]at h;exact h
   refine wp_region_held_drew (S:=fun w'=>w'.heap[b7]?=some (.cells #[.int .i64 t1.op,.int .i64 t1.num,.string t1.name,.slice A1 n1 c1,.int .i64 (j1:Nat),.int .i64 0] 194 (0,0))∧w'.heap[b8]?=some (.cells #[.int .i64 t2.op,.int .i64 t2.num,.string t2.name,.slice A2 n2 c2,.int .i64 (j2:Nat),.int .i64 0] 194 (0,0))) (by kernel_rfl) (by rw[←hwd];exact⟨bP,lQ⟩) (fun J=>?_);rw[←hwd]at J⊢;clear hwd ab;refine gJ 0 (v:=?_) (mU rfl) (Or.inl ⟨by rfl,?hy⟩) (by assumption) ?_
   case hy=>
    intro w0 G;clear G;go_simp
    (first|done|with_reducible rfl)
   (try simp only[Act.put,aT,aU,aV]);refine gJ 1 (v:=?_) (mU rfl) (Or.inl ⟨by rfl,?hy⟩) (by assumption) ?_
   case hy=>
    intro w0 G;obtain⟨e0,e1,e2,e3,e4,e5,-⟩:=q6 G.1;obtain⟨h0,h1,h2,h3,h4,h5,-⟩:=q6 G.2;clear G;go_simp
    (first|done|with_reducible rfl)
   (try simp only[Act.put,aT,aU,aV]);refine gJ 2 (v:=?_) (mU rfl) (Or.inl ⟨by rfl,?hy⟩) (by assumption) ?_
   case hy=>
    intro w0 G;clear G;go_simp
    (first|done|with_reducible rfl)
   (try simp only[Act.put,aT,aU,aV]);refine gJ 3 (v:=?_) (mU rfl) (Or.inl ⟨by rfl,?hy⟩) (by assumption) ?_
   case hy=>
    intro w0 G;obtain⟨e0,e1,e2,e3,e4,e5,-⟩:=q6 G.1;obtain⟨h0,h1,h2,h3,h4,h5,-⟩:=q6 G.2;clear G;go_simp
    (first|done|with_reducible rfl)
   (try simp only[Act.put,aT,aU,aV]);refine gJ 5 (v:=?_) (mU rfl) (Or.inl ⟨by rfl,?hy⟩) (by assumption) ?_
   case hy=>
    intro w0 G;clear G;go_simp
    (first|done|with_reducible rfl)
   (try simp only[Act.put,aT,aU,aV]);refine gJ 6 (v:=?_) (mU rfl) (Or.inl ⟨by rfl,?hy⟩) (by assumption) ?_
   case hy=>
    intro w0 G;obtain⟨e0,e1,e2,e3,e4,e5,-⟩:=q6 G.1;obtain⟨h0,h1,h2,h3,h4,h5,-⟩:=q6 G.2;clear G;go_simp
    (first|done|with_reducible rfl)
   (try simp only[Act.put,aT,aU,aV]);refine Rd (rs:=[4]) (by kernel_rfl) (by simp) ?_;refine Rc (mU rfl) (fun K hK=>?_) Rn;go_simp;(with_reducible refine(qb.out).mono ?_);rintro e w8 ⟨g,rfl,aE,xX⟩;have aS:=Hd aE;refine hK.out _ _ ⟨(xX.block b7 (lH bP)).trans bP,(xX.block b8 (lH lQ)).trans lQ⟩ (fun J=>?_);clear hK K;(try simp only[Act.put,aT,aU,aV]);replace D:=kX xX D;replace O:=kB O xX;clear xX aE qb;refine gJ 7 (v:=?_) (mU rfl) (Or.inl ⟨by rfl,?hy⟩) (by assumption) ?_
   case hy=>
    intro w0 G;clear G;go_simp
    (first|done|with_reducible rfl)
   (try simp only[Act.put,aT,aU,aV]);refine Rd (rs:=[8]) (by kernel_rfl) (by simp) ?_;refine Rc (mU rfl) (fun K hK=>?_) Rn;obtain⟨v0,v1,v2,v3,v4,v5,bW⟩:=q6 D;have vl:b6<w8.heap.size:=lH D;go_simp;clear v0 bW v1 v2 v3 v4 v5 vl;refine hK.out _ _ ⟨(fV bf).trans J.1,(fV bg).trans J.2⟩ (fun J=>?_);clear hK K;(try simp only[Act.put,aT,aU,aV]);refine wpAnyH_done (by kernel_rfl) ?_ _;clear J;go_wp2_with fail;refine bR (sJ (iG D)) rfl ?_;rw[dJ];exact fF (r:=.ok (dD 8 [t1,t2]) j2) (A':=some ⟨g,0,none⟩) (c':=2) _ _ _ _ _ _ bZ aS O
 ·have Y:ah l j1 4 [45,62]=false:=by simpa using ae
  rw[show ah l j1 4 (bs ⟨#[45,62]⟩)=false from Y]at hI;have HC:=Hd hI;have bE:Hid (F=GQ w (.ok t1 j1)):=by show _=_;rw[uU];show GQ w (if au l j1 [8]=0 then _ else _)=_;rw[mE,iN ae];rfl
  clear hI ae Y mE uU;obtain⟨u0,u1,u2,u3,u4,u5,eG⟩:=q6 bP;have ul:b7<w3.heap.size:=lH bP;obtain⟨v0,v1,v2,v3,v4,v5,bW⟩:=q6 D;have vl:b6<w3.heap.size:=lH D;go_wp2_with fail;rw[←Ao,←qM];(try go_wp2_with fail);refine HC.mono ?_;rintro e w' ⟨rfl,aJ⟩;rw[aJ];clear aJ HC;go_wp2_with fail;clear u0 eG u1 u2 u3 u4 u5 ul v0 bW v1 v2 v3 v4 v5 vl;refine bR (sJ (iG D)) rfl ?_;rw[bE,pY];exact fF (r:=.ok t1 j1) (A':=A1) (c':=c1) _ _ _ _ _ _ bZ jB O
theorem acU(l:List Tok)(d:Nat)(P:jN)(hd:d≤256)(hF:OZ l d 211 false P)(hG:wu l P)(hZ:rG P):Sm l d 205 (fun i=>(P i).then fun t j=>if au l j [10,11,12,13]=0 then .ok t j else(P (j+1)).then fun u k=>.ok (dD (au l j [10,11,12,13]) [t,u]) k):=by
 intro A c i w hi hP;show Calls _ _ _ _ (GQ w ((P i).then fun t j=>if au l j [10,11,12,13]=0 then .ok t j else(P (j+1)).then fun u k=>.ok (dD (au l j [10,11,12,13]) [t,u]) k));obtain⟨n,b6,w1,F,hlen,bm,bl,bn,I,O,HP,uy,HS,HI,HF,HN,bZ,ba⟩:=tV A c l w hP (GQ w ((P i).then fun t j=>if au l j [10,11,12,13]=0 then .ok t j else(P (j+1)).then fun u k=>.ok (dD (au l j [10,11,12,13]) [t,u]) k));rw[←HF,←HN];rw[←HN]at hi;clear hP
 have ar:Hid (∀(i:Nat)(W:World),i≤l.length→dP W A c l→Calls Tryz.prog 211 #[.slice A n c,.int .i64 (i:Nat),.int .i64 ((d:Nat):Int),.bool false] W (GQ W (P i))):=by
  intro i W h1 h2;have:=hF A c i W h1 h2;rw[←HN]at this;exact this
 obtain⟨iE,jF⟩:=ak P;rw[←jF]at ar;have Dr:Hid (wu l iE):=by show wu _ _;rw[jF];exact hG
 have Dt:Hid (rG iE):=by show rG _;rw[jF];exact hZ
 clear hF hG hZ;go_in;have ab:=ar (i) w1 (by first|omega|(rw[←HN];omega)) (HP.below O);obtain⟨r1,dx⟩:=ak (iE (i));rw[←dx]at ab;have HC:=Hd ab;have Dn:Hid (∀x k,r1=.ok x k→Gd l (i) x k):=fun x k h=>Dr (i) x k (by rw[←dx];exact h);have Dp:Hid (∀k x,r1=.bad k x→x≠0):=fun k x h=>Dt (i) k x (by rw[←dx];exact h);clear ab;go_wp2_with fail;rw[←ba]
 try rw[←bZ]
 refine HC.mono ?_;intro e w2 hq;have uU:Hid (F=GQ w (r1.then fun t j=>if au l j [10,11,12,13]=0 then .ok t j else(iE (j+1)).then fun u k=>.ok (dD (au l j [10,11,12,13]) [t,u]) k)):=by show _=_;rw[HF,dx,jF]
 clear dx
 rcases r1 with⟨jb,xb⟩|⟨Y,j1⟩
 ·obtain⟨A',c',rfl,hV,G⟩:=iq.1 hq;have hx:=Dp _ _ rfl;have bi:(xb != 0)=true:=by simpa using hx
  have HV:Hid (aD (fun q=>w.heap.size<q) w2 A' c' dG):=hV.keep Kr (fun q _ h=>by have:=bZ.out;have:=lH I;omega);replace I:=kX G I;replace O:=kB O G;clear G hV hq HC hx;obtain⟨v0,v1,v2,v3,v4,v5,bW⟩:=q6 I;have vl:b6<w2.heap.size:=lH I;go_wp2_with fail;clear v0 bW v1 v2 v3 v4 v5 vl;refine bR (sJ (aK (iG I))) rfl ?_;rw[uU];exact r_ (r:=.bad jb xb) (A':=A') (c':=c') _ _ _ _ _ _ _ bZ HV O
 obtain⟨A1,c1,rfl,hV,G⟩:=vS.1 hq;have jB:Hid (aD (fun q=>w.heap.size<q) w2 A1 c1 Y):=hV.keep Kr (fun q _ h=>by have:=bZ.out;have:=lH I;omega);have mR:=Dn _ _ rfl;have Dq:=mR.ij;have oQ:=mR.jl;rw[←HN]at oQ;clear mR;obtain⟨n1,pY⟩:=ak Y.kids.length;rw[←pY];replace I:=kX G I;replace O:=kB O G;clear G hV hq HC;obtain⟨b7,iY⟩:=aj w2.heap.size;obtain⟨w3,ao⟩:=aj (w2.alloc (.cells #[.int .i64 Y.op,.int .i64 Y.num,.string Y.name,.slice A1 n1 c1,.int .i64 (j1:Nat),.int .i64 0] 194));have bP:=jZ ao iY;have Dm:Hid (b7≠b6):=by show _≠_;have:=lH I;omega
 have aa:=dz ao;have qM:=Hd iY;have Ao:=Hd ao;clear iY ao;replace I:=kX aa I;replace jB:Hid (aD (fun q=>w.heap.size<q) w3 A1 c1 Y):=jB.keep (Kb aa) (fun _ _ h=>h);replace O:=kB O aa;clear aa;obtain⟨af,av⟩:=aj w3.heap.size;obtain⟨sq,ag⟩:=aj (w3.alloc (.cells #[.string ⟨#[61]⟩,.string ⟨#[33,61]⟩,.string ⟨#[60]⟩,.string ⟨#[60,61]⟩] 9));have aw:=dz ag;have ax:sq.heap[af]?=some (.cells #[.string ⟨#[61]⟩,.string ⟨#[33,61]⟩,.string ⟨#[60]⟩,.string ⟨#[60,61]⟩] 9 (0,0)):=by rw[ag,av];exact eu w3 _
 obtain⟨aF,ay⟩:=aj sq.heap.size;obtain⟨tq,ai⟩:=aj (sq.alloc (.cells #[.int .i64 10,.int .i64 11,.int .i64 12,.int .i64 13] 3));have az:=dz ai;have lZ:Below w3.heap.size w3 tq:=aw.trans (az.mono aw.size);have hO:uF tq aF [10,11,12,13]:=by rw[ai,ay];exact tY sq [10,11,12,13]
 have aS:tq.heap[af]?=some (.cells #[.string ⟨#[61]⟩,.string ⟨#[33,61]⟩,.string ⟨#[60]⟩,.string ⟨#[60,61]⟩] 9 (0,0)):=(az.block af (lH ax)).trans ax
 have aQ:=yQ A c j1 l [10,11,12,13] af aF 4 4 tq (HP.below (O.trans (lZ.mono O.size))) (by omega) (by decide) (fun k op aP=>by
  rw[cR tq af k _ _ (0,0) aS];have hk:=(gE.1 aP).1;simp only[List.length_cons,List.length_nil]at hk;have bh:k=0∨k=1∨k=2∨k=3:=by omega
  rcases bh with rfl|rfl|rfl|rfl
  all_goals
   simp at aP;subst aP
   rfl) hO (by decide)
 rw[←HN]at aQ;have HC:=Hd aQ;have aE:w3.heap.size=b7+1:=by rw[Ao,qM];simp
 have bf:Hid (af=b7+1):=by show _=_;rw[av,aE]
 have bg:Hid (aF=b7+1+1):=by show _=_;rw[ay,ag];simp[aE]
 have bb:=Hd ag;have bd:=Hd ai;obtain⟨u0,u1,u2,u3,u4,u5,eG⟩:=q6 bP;have ul:b7<w3.heap.size:=lH bP;clear aQ aE av ay ag ai hO ax aS aw az;go_wp2_with fail;rw[←Ao,←qM,←bb,←bd,←bg,←bf];clear u0 eG u1 u2 u3 u4 u5 ul;replace I:=kX lZ I;replace bP:=kX lZ bP;replace jB:Hid (aD (fun q=>w.heap.size<q) tq A1 c1 Y):=jB.keep (Kb lZ) (fun _ _ h=>h);replace O:=kB O lZ;clear lZ;refine HC.mono ?_;rintro e w' ⟨rfl,aJ⟩;rw[aJ];clear aJ HC
 by_cases hz:au l j1 [10,11,12,13]=0
 ·have bE:Hid (F=GQ w (.ok Y j1)):=by show _=_;rw[uU];show GQ w (if au l j1 [10,11,12,13]=0 then _ else _)=_;rw[iP hz]
  rw[hz];clear hz uU;obtain⟨u0,u1,u2,u3,u4,u5,eG⟩:=q6 bP;have ul:b7<tq.heap.size:=lH bP;obtain⟨v0,v1,v2,v3,v4,v5,bW⟩:=q6 I;have vl:b6<tq.heap.size:=lH I;go_wp2_with fail;clear u0 eG u1 u2 u3 u4 u5 ul v0 bW v1 v2 v3 v4 v5 vl;refine bR (sJ (iG I)) rfl ?_;rw[bE,pY];exact fF (r:=.ok Y j1) (A':=A1) (c':=c1) _ _ _ _ _ _ bZ jB O
 ·have yc:Hid (F=GQ w ((iE (j1+1)).then fun u k=>.ok (dD (au l j1 [10,11,12,13]) [Y,u]) k)):=by show _=_;rw[uU];show GQ w (if au l j1 [10,11,12,13]=0 then _ else _)=_;rw[iN hz]
  have vE:=rO hz;obtain⟨zz,a7⟩:=aj (au l j1 [10,11,12,13]);rw[←a7]at hz yc⊢;have bo:(zz==0)=false:=by simpa using hz
  clear hz a7 uU;obtain⟨u0,u1,u2,u3,u4,u5,eG⟩:=q6 bP;have ul:b7<tq.heap.size:=lH bP;have ab:=ar (j1+1) tq (by first|omega|(rw[←HN];omega)) (HP.below O);rw[show((j1+1:Nat):Int)=(j1:Int)+1 from by omega]at ab;obtain⟨r2,jR⟩:=ak (iE (j1+1));rw[←jR]at ab;have HC:=Hd ab;have NW:Hid (∀x k,r2=.ok x k→Gd l (j1+1) x k):=fun x k h=>Dr (j1+1) x k (by rw[←jR];exact h);have NY:Hid (∀k x,r2=.bad k x→x≠0):=fun k x h=>Dt (j1+1) k x (by rw[←jR];exact h);clear ab;go_wp2_with fail;refine HC.mono ?_;intro e w4 hq;have dJ:Hid (F=GQ w (r2.then fun u k=>.ok (dD zz [Y,u]) k)):=by show _=_;rw[yc,jR]
  clear jR yc u0 eG u1 u2 u3 u4 u5 ul
  rcases r2 with⟨jb,xb⟩|⟨t2,j2⟩
  ·obtain⟨A',c',rfl,hV,G⟩:=iq.1 hq;have hx:=NY _ _ rfl;have bi:(xb != 0)=true:=by simpa using hx
   have HV:Hid (aD (fun q=>w.heap.size<q) w4 A' c' dG):=hV.keep Kr (fun q _ h=>by have:=bZ.out;have:=lH I;omega);replace I:=kX G I;replace bP:=kX G bP;replace jB:Hid (aD (fun q=>w.heap.size<q) w4 A1 c1 Y):=jB.keep (Kb G) (fun _ _ h=>h);replace O:=kB O G;clear G hV hq HC hx;obtain⟨v0,v1,v2,v3,v4,v5,bW⟩:=q6 I;have vl:b6<w4.heap.size:=lH I;go_wp2_with fail;clear v0 bW v1 v2 v3 v4 v5 vl;refine bR (sJ (aK (iG I))) rfl ?_;rw[dJ];exact r_ (r:=.bad jb xb) (A':=A') (c':=c') _ _ _ _ _ _ _ bZ HV O
  obtain⟨A2,c2,rfl,hV,G⟩:=vS.1 hq;have jm:Hid (aD (fun q=>w.heap.size<q) w4 A2 c2 t2):=hV.keep Kr (fun q _ h=>by have:=bZ.out;have:=lH I;omega);have qC:=NW _ _ rfl;have NZ:=qC.ij;have xJ:=qC.jl;rw[←HN]at xJ;clear qC;obtain⟨n2,uT⟩:=ak t2.kids.length;rw[←uT];replace I:=kX G I;replace bP:=kX G bP;replace jB:Hid (aD (fun q=>w.heap.size<q) w4 A1 c1 Y):=jB.keep (Kb G) (fun _ _ h=>h);replace O:=kB O G;clear G hV hq HC;obtain⟨b8,Gb⟩:=aj w4.heap.size;obtain⟨w5,gH⟩:=aj (w4.alloc (.cells #[.int .i64 t2.op,.int .i64 t2.num,.string t2.name,.slice A2 n2 c2,.int .i64 (j2:Nat),.int .i64 0] 194));have lQ:=jZ gH Gb;have KE:Hid (b8≠b6):=by show _≠_;have:=lH I;omega
  have aa:=dz gH;have NT:=Hd Gb;have O4:=Hd gH;clear Gb gH;replace I:=kX aa I;replace bP:=kX aa bP;replace jB:Hid (aD (fun q=>w.heap.size<q) w5 A1 c1 Y):=jB.keep (Kb aa) (fun _ _ h=>h);replace jm:Hid (aD (fun q=>w.heap.size<q) w5 A2 c2 t2):=jm.keep (Kb aa) (fun _ _ h=>h);replace O:=kB O aa;clear aa;go_wp2_with fail;rw[←O4,←NT];have bj:b7≠b6:=Dm;have bk:b8≠b6:=KE;obtain⟨wd,hwd⟩:=aj w5.drew;have ae:Below w5.heap.size w5 wd:=by rw[hwd];exact(Br _ _).drew
  replace I:=kX ae I;replace bP:=kX ae bP;replace lQ:=kX ae lQ;replace jB:Hid (aD (fun q=>w.heap.size<q) wd A1 c1 Y):=jB.keep (Kb ae) (fun _ _ h=>h);replace jm:Hid (aD (fun q=>w.heap.size<q) wd A2 c2 t2):=jm.keep (Kb ae) (fun _ _ h=>h);replace O:=kB O ae
  have qb:Hid (Calls Tryz.prog 155 #[.int .i64 zz,.agg #[.int .i64 Y.op,.int .i64 Y.num,.string Y.name,.slice A1 n1 c1],.agg #[.int .i64 t2.op,.int .i64 t2.num,.string t2.name,.slice A2 n2 c2]] wd fun e w'=>∃g,e=.returned (.agg #[.int .i64 zz,.int .i64 0,.string ⟨#[]⟩,.slice (some ⟨g,0,none⟩) 2 2])∧aD (fun q=>w.heap.size<q) w' (some ⟨g,0,none⟩) 2 (dD zz [Y,t2])∧Below wd.heap.size wd w'):=by
   have h:=Ac zz Y t2 A1 c1 A2 c2 (w.heap.size+1) wd (by have:=bZ.out;have:=lH I;omega) jB jm;unfold Tm.val at h;rw[←pY,←uT]at h;exact h
  refine wp_region_held_drew (S:=fun w'=>w'.heap[b7]?=some (.cells #[.int .i64 Y.op,.int .i64 Y.num,.string Y.name,.slice A1 n1 c1,.int .i64 (j1:Nat),.int .i64 0] 194 (0,0))∧w'.heap[b8]?=some (.cells #[.int .i64 t2.op,.int .i64 t2.num,.string t2.name,.slice A2 n2 c2,.int .i64 (j2:Nat),.int .i64 0] 194 (0,0))) (by kernel_rfl) (by rw[←hwd];exact⟨bP,lQ⟩) (fun J=>?_);rw[←hwd]at J⊢;clear hwd ae;refine gJ 0 (v:=?_) (mU rfl) (Or.inl ⟨by rfl,?hy⟩) (by assumption) ?_
  case hy=>
   intro w0 D;clear D;go_simp
   (first|done|with_reducible rfl)
  (try simp only[Act.put,aT,aU,aV]);refine gJ 1 (v:=?_) (mU rfl) (Or.inl ⟨by rfl,?hy⟩) (by assumption) ?_
  case hy=>
   intro w0 D;clear D;go_simp
   (first|done|with_reducible rfl)
  (try simp only[Act.put,aT,aU,aV]);refine gJ 2 (v:=?_) (mU rfl) (Or.inl ⟨by rfl,?hy⟩) (by assumption) ?_
  case hy=>
   intro w0 D;obtain⟨e0,e1,e2,e3,e4,e5,-⟩:=q6 D.1;obtain⟨h0,h1,h2,h3,h4,h5,-⟩:=q6 D.2;clear D;go_simp
   (first|done|with_reducible rfl)
  (try simp only[Act.put,aT,aU,aV]);refine gJ 3 (v:=?_) (mU rfl) (Or.inl ⟨by rfl,?hy⟩) (by assumption) ?_
  case hy=>
   intro w0 D;clear D;go_simp
   (first|done|with_reducible rfl)
  (try simp only[Act.put,aT,aU,aV]);refine gJ 4 (v:=?_) (mU rfl) (Or.inl ⟨by rfl,?hy⟩) (by assumption) ?_
  case hy=>
   intro w0 D;obtain⟨e0,e1,e2,e3,e4,e5,-⟩:=q6 D.1;obtain⟨h0,h1,h2,h3,h4,h5,-⟩:=q6 D.2;clear D;go_simp
   (first|done|with_reducible rfl)
  (try simp only[Act.put,aT,aU,aV]);refine gJ 6 (v:=?_) (mU rfl) (Or.inl ⟨by rfl,?hy⟩) (by assumption) ?_
  case hy=>
   intro w0 D;clear D;go_simp
   (first|done|with_reducible rfl)
  (try simp only[Act.put,aT,aU,aV]);refine gJ 7 (v:=?_) (mU rfl) (Or.inl ⟨by rfl,?hy⟩) (by assumption) ?_
  case hy=>
   intro w0 D;obtain⟨e0,e1,e2,e3,e4,e5,-⟩:=q6 D.1;obtain⟨h0,h1,h2,h3,h4,h5,-⟩:=q6 D.2;clear D;go_simp
   (first|done|with_reducible rfl)
  (try simp only[Act.put,aT,aU,aV]);refine Rd (rs:=[5]) (by kernel_rfl) (by simp) ?_;refine Rc (mU rfl) (fun K hK=>?_) Rn;go_simp;(with_reducible refine(qb.out).mono ?_);rintro e w8 ⟨g,rfl,a6,xX⟩;have a8:=Hd a6;refine hK.out _ _ ⟨(xX.block b7 (lH bP)).trans bP,(xX.block b8 (lH lQ)).trans lQ⟩ (fun J=>?_);clear hK K;(try simp only[Act.put,aT,aU,aV]);replace I:=kX xX I;replace O:=kB O xX;clear xX a6 qb;refine gJ 8 (v:=?_) (mU rfl) (Or.inl ⟨by rfl,?hy⟩) (by assumption) ?_
  case hy=>
   intro w0 D;clear D;go_simp
   (first|done|with_reducible rfl)
  (try simp only[Act.put,aT,aU,aV]);refine Rd (rs:=[9]) (by kernel_rfl) (by simp) ?_;refine Rc (mU rfl) (fun K hK=>?_) Rn;obtain⟨v0,v1,v2,v3,v4,v5,bW⟩:=q6 I;have vl:b6<w8.heap.size:=lH I;go_simp;clear v0 bW v1 v2 v3 v4 v5 vl;refine hK.out _ _ ⟨(fV bj).trans J.1,(fV bk).trans J.2⟩ (fun J=>?_);clear hK K;(try simp only[Act.put,aT,aU,aV]);refine wpAnyH_done (by kernel_rfl) ?_ _;clear J;go_wp2_with fail;refine bR (sJ (iG I)) rfl ?_;rw[dJ];exact fF (r:=.ok (dD zz [Y,t2]) j2) (A':=some ⟨g,0,none⟩) (c':=2) _ _ _ _ _ _ bZ a8 O
theorem acV(l:List Tok)(d:Nat)(PC PN:jN)(hd:d≤256)(hF:Sm l d 205 PC)(ai:d<256→Sm l (d+1) 198 PN)(ao:wu l PN)(ar:rG PN):Sm l d 198 (fun i=>if ah l i 4 [33]then(inner (if d=256 then none else some PN) i).then fun t j=>.ok (dD 5 [t]) j else PC i):=by
 intro A c i w hi hP;show Calls _ _ _ _ (GQ w (if ah l i 4 [33]then(inner (if d=256 then none else some PN) i).then fun t j=>.ok (dD 5 [t]) j else PC i));obtain⟨n,b6,w1,F,hlen,aS,aQ,a6,I,Y,HP,uy,HS,HI,HF,HN,bZ,ae⟩:=tV A c l w hP (GQ w (if ah l i 4 [33]then(inner (if d=256 then none else some PN) i).then fun t j=>.ok (dD 5 [t]) j else PC i));rw[←HF,←HN];rw[←HN]at hi;clear hP
 have ax:Hid (∀(i:Nat)(W:World),i≤l.length→dP W A c l→Calls Tryz.prog 205 #[.slice A n c,.int .i64 (i:Nat),.int .i64 (d:Nat)] W (GQ W (PC i))):=by
  intro i W h1 h2;have:=hF A c i W h1 h2;rw[←HN]at this;exact this
 have ay:Hid (d<256→∀(i:Nat)(W:World),i≤l.length→dP W A c l→Calls Tryz.prog 198 #[.slice A n c,.int .i64 (i:Nat),.int .i64 ((d+1:Nat):Int)] W (GQ W (PN i))):=by
  intro hdd i W h1 h2;have:=ai hdd A c i W h1 h2;rw[←HN]at this;exact this
 have af:=Hd ao;have ag:=Hd ar;clear hF ai ao ar;go_in
 by_cases O:ah l i 4 [33]=true
 ·have aP:=dL O;have yc:Hid (F=GQ w ((inner (if d=256 then none else some PN) i).then fun t j=>.ok (dD 5 [t]) j)):=by show _=_;rw[HF,iP O]
  have hI:=HS i ⟨#[33]⟩ (by omega);rw[show ah l i 4 (bs ⟨#[33]⟩)=true from O]at hI;have J:=Hd hI;clear hI O;go_wp2_with fail;rw[←ae]
  try rw[←bZ]
  refine J.mono ?_;rintro e w' ⟨rfl,aJ⟩;rw[aJ];clear aJ J
  by_cases gq:d=256
  ·have aF:((d:Int)==256)=true:=by simp;omega
   have bE:Hid (F=GQ w (.bad i 17)):=by show _=_;rw[yc,iP gq];rfl
   clear gq yc hd;have G:=ig (i) 17 w1;have J:=Hd G;clear G;go_wp2_with fail;refine J.mono ?_;intro e w2 hq;obtain⟨A',c',rfl,hV,D⟩:=iq.1 hq;have zm:=kX D I;have aw:=kB Y D;have HV:Hid (aD (fun q=>w.heap.size<q) w2 A' c' dG):=hV.keep Kr (fun q _ h=>by have:=bZ.out;omega);obtain⟨v0,v1,v2,v3,v4,v5,zq⟩:=q6 zm;have l6:b6<w2.heap.size:=lH zm;clear hq hV D J;go_wp2_with fail;clear v0 v1 v2 v3 v4 v5 zq l6;refine bR (sJ (iG zm)) rfl ?_;rw[bE];exact fF (r:=.bad (i) 17) (A':=A') (c':=c') _ _ _ _ _ _ bZ HV aw
  ·have aF:((d:Int)==256)=false:=by simp;omega
   have aE:d<256:=by omega
   have aa:Hid (F=GQ w ((PN (i+1)).then fun t j=>.ok (dD 5 [t]) j)):=by show _=_;rw[yc,iN gq];rfl
   have ab:Hid (∀(i:Nat)(W:World),i≤l.length→dP W A c l→Calls Tryz.prog 198 #[.slice A n c,.int .i64 (i:Nat),.int .i64 ((d+1:Nat):Int)] W (GQ W (PN i))):=ay aE;obtain⟨az,av⟩:=aj PN;rw[←av]at ab aa af ag;clear gq yc av;have G:=ab (i+1) w1 (by first|omega|(rw[←HN];omega)) (HP.below Y);rw[show((i+1:Nat):Int)=(i:Int)+1 from by omega]at G;rw[show((d+1:Nat):Int)=(d:Int)+1 from by omega]at G;obtain⟨r1,dx⟩:=ak (az (i+1));rw[←dx]at G;have J:=Hd G;have Dn:Hid (∀x k,r1=.ok x k→Gd l (i+1) x k):=fun x k h=>af (i+1) x k (by rw[←dx];exact h);have Dp:Hid (∀k x,r1=.bad k x→x≠0):=fun k x h=>ag (i+1) k x (by rw[←dx];exact h);clear G;go_wp2_with fail;refine J.mono ?_;intro e w2 hq;have uU:Hid (F=GQ w (r1.then fun t j=>.ok (dD 5 [t]) j)):=by show _=_;rw[aa,dx]
   clear dx aa
   rcases r1 with⟨jb,xb⟩|⟨t1,j1⟩
   ·obtain⟨A',c',rfl,hV,D⟩:=iq.1 hq;have hx:=Dp _ _ rfl;have a7:(xb != 0)=true:=by simpa using hx
    have HV:Hid (aD (fun q=>w.heap.size<q) w2 A' c' dG):=hV.keep Kr (fun q _ h=>by have:=bZ.out;have:=lH I;omega);replace I:=kX D I;replace Y:=kB Y D;clear D hV hq J hx;obtain⟨v0,v1,v2,v3,v4,v5,bW⟩:=q6 I;have vl:b6<w2.heap.size:=lH I;go_wp2_with fail;clear v0 bW v1 v2 v3 v4 v5 vl;refine bR (sJ (aK (iG I))) rfl ?_;rw[uU];exact r_ (r:=.bad jb xb) (A':=A') (c':=c') _ _ _ _ _ _ _ bZ HV Y
   obtain⟨A1,c1,rfl,hV,D⟩:=vS.1 hq;have jB:Hid (aD (fun q=>w.heap.size<q) w2 A1 c1 t1):=hV.keep Kr (fun q _ h=>by have:=bZ.out;have:=lH I;omega);have mR:=Dn _ _ rfl;have Dq:=mR.ij;have oQ:=mR.jl;rw[←HN]at oQ;clear mR;obtain⟨n1,pY⟩:=ak t1.kids.length;rw[←pY];replace I:=kX D I;replace Y:=kB Y D;clear D hV hq J;obtain⟨v0,v1,v2,v3,v4,v5,bW⟩:=q6 I;have vl:b6<w2.heap.size:=lH I;go_wp2_with fail;clear v0 bW v1 v2 v3 v4 v5 vl;refine bR (sJ (aK (aK (iG I)))) rfl ?_;rw[uU,pY]
   exact abl (op:=5) [⟨t1,A1,c1⟩] _ _ _ _ _ _ _ bZ (show 1≤3 from by decide) (fun e he=>by
    simp only[List.mem_cons,List.not_mem_nil,or_false]at he;rcases he with rfl
    exact jB) Y
 ·have G:ah l i 4 [33]=false:=by simpa using O
  have bE:Hid (F=GQ w (PC i)):=by show _=_;rw[HF,iN O]
  have hI:=HS i ⟨#[33]⟩ (by omega);rw[show ah l i 4 (bs ⟨#[33]⟩)=false from G]at hI;have J:=Hd hI;clear hI O G;go_wp2_with fail;rw[←ae]
  try rw[←bZ]
  refine J.mono ?_;rintro e w' ⟨rfl,aJ⟩;rw[aJ];clear aJ J;have G:=ax i w1 (by rw[←HN];omega) (HP.below Y);obtain⟨r,hr⟩:=aj (PC i);rw[←hr]at G bE;have J:=Hd G;clear G hr;go_wp2_with fail;refine J.mono ?_;intro e w2 hq;obtain⟨A',c',rfl,hV,D⟩:=hq;have HV:Hid (aD (fun q=>w.heap.size<q) w2 A' c' (jY r)):=hV.keep Kr (fun q _ h=>by have:=bZ.out;have:=lH I;omega);obtain⟨n2,uT⟩:=ak ((jY r).kids.length);rw[←uT];replace I:=kX D I;replace Y:=kB Y D;clear D hV J;obtain⟨v0,v1,v2,v3,v4,v5,bW⟩:=q6 I;have vl:b6<w2.heap.size:=lH I;go_wp2_with fail;clear v0 bW v1 v2 v3 v4 v5 vl;refine bR (sJ (iG I)) rfl ?_;rw[bE,uT];exact fF (r:=r) (A':=A') (c':=c') _ _ _ _ _ _ bZ HV Y
end Go.Proofs.YtkhoeoilamddaaaGreatDoor
