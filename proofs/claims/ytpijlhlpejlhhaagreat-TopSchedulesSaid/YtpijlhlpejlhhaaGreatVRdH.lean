/- Walks and plain words: RdH RdJ MnT RdK AwA. -/
import Derived.Test.YtpijlhlpejlhhaaGreatVRdG
namespace Go.Proofs.YtpijlhlpejlhhaaGreat
open Go.RowKit
set_option linter.unusedVariables false
set_option maxRecDepth 100000
set_option maxHeartbeats 16000000
section
section
variable {p n room:Nat} {w0 w:World} {K:Nat→Nat} {M:Bd.MS} {lo:List Int} {Ao:Option Addr} {co:Nat}
/-- The variables' order is as asked;nothing else turned. -/
def VD(K:Nat→Nat)(w:World)(p n room:Nat)(M:Bd.MS)(r:Ending)(w':World):Prop:=
 r=.returned (.bool true)∧∃M' K',Bd.Inv n room M'∧fF M M'∧aX K' w' p n room M'∧aj mX K w K' w'
theorem sK.dM{w W:World}{v:Value}{l:List Nat}(h:sK w v l W):av W v l:=by
 obtain⟨g,c,h1,-,h3,-⟩:=h;exact .inr ⟨g,c,h1,h3⟩
theorem VE{i j a:Nat}{order:List Nat}(hi:Bd.Inv n room M)(hj:M.ord[j]?=some i)(ha:a<j):∃x,M.ord[a]?=some x∧x≠i:=by
 obtain⟨hjl,ej⟩:=List.getElem?_eq_some_iff.1 hj;refine⟨M.ord[a],List.getElem?_eq_getElem (by omega),fun e=>?_⟩;have h1:=hi.od.at' a (by omega);have h2:=hi.od.at' j hjl;rw[e,←ej,h2]at h1;omega
theorem Bq(ho:kZ w0 Ao co lo)(hperm:lo=[]∨(lo.length=n∧lo.Nodup∧∀z∈lo,0≤z∧z<n))(hak:mD w0 K w)(hi:Bd.Inv n room M)(hne:∀i,M.S.nd i=none)(h0:0<n)(hn:n≤64)(hrm:room≤1048576)(hx:M.next≤1000000000)(hm:aX K w p n room M) :
 Calls Tryz.prog 36 #[.pointer (some ⟨p,0,none⟩),.slice Ao lo.length co] w (VD K w p n room M):=by
 obtain⟨F,HF⟩:=aJ (VD K w p n room M);rw[←HF.out];obtain⟨m,hml⟩:∃m,m=lo.length:=⟨_,rfl⟩;rw[←hml];obtain⟨order,Lb⟩:∃order,order=lo.map Int.toNat:=⟨_,rfl⟩;have hol:order.length=m:=by rw[Lb,List.length_map,hml]
 have Va:m≤64:=by
  rcases hperm with h|⟨h,-⟩
  ·rw[hml,h];exact Nat.zero_le _
  ·omega
 have hmn:0<m→m=n:=fun h=>by
  rcases hperm with h9|⟨h9,-⟩
  ·rw[hml,h9]at h;cases h
  ·omega
 have hz:∀z∈lo,0≤z∧z<n:=fun z hz=>by
  rcases hperm with h9|⟨-,-,h9⟩
  ·rw[h9]at hz;cases hz
  ·exact h9 z hz
 have hnd:order.Nodup:=by
  rcases hperm with h9|⟨-,h9,h8⟩
  ·rw[Lb,h9];exact List.nodup_nil
  ·rw[Lb,List.Nodup,List.pairwise_map];exact h9.imp_of_mem (fun ha hb h e=>h (by have:=h8 _ ha;have:=h8 _ hb;omega))
 have hlt:∀v∈order,v<n:=fun v hv=>by
  rw[Lb]at hv;obtain⟨z,hz9,rfl⟩:=List.mem_map.1 hv;have:=hz z hz9;omega
 have HG:=Lib.hid (And.intro h0 (And.intro hn (And.intro hrm hx)));have HO:=Lib.hid (And.intro hol (And.intro hnd (And.intro hlt hmn)));have HI:=Lib.hid (And.intro hi (And.intro hne (And.intro hm hak)));have HA:=Lib.hid (And.intro ho (And.intro hml (And.intro hz Lb)));clear h0 hn hrm hx hol hnd hlt hi hne hm hak ho hml hz Lb hperm hmn;go_in;go_wp2_with fail
 go_loopg [5,6,7,8,9,10,11,12,13,14,15,16,17,18,19,20,21,22,23,24,25,26,27,28,29,30,31,32,33,34,35,36,37,38,39,40,41,42,43,44,45,46,47,48,49,50,51,52] m (fun q v5 v6 v7 v8 v9 v10 v11 v12 v13 v14 v15 v16 v17 v18 v19 v20 v21 v22 v23 v24 v25 v26 v27 v28 v29 v30 v31 v32 v33 v34 v35 v36 v37 v38 v39 v40 v41 v42 v43 v44 v45 v46 v47 v48 v49 v50 v51 v52 wr=>∃(i:Nat)(M':Bd.MS)(K':Nat→Nat),q=m-i∧i≤m∧v5=.int .i64 (i:Nat)∧Bd.Inv n room M'∧(∀i,M'.S.nd i=none)∧M'.ord.take i=order.take i∧fF M M'∧aX K' wr p n room M'∧aj mX K w K' wr)
 case atStart=>exact⟨0,M,K,rfl,Nat.zero_le _,rfl,HI.out.1,HI.out.2.1,rfl,fF.refl,HI.out.2.2.1,aj.refl⟩
 case round=>
  obtain⟨i,M',K',rfl,hi,rfl,hinv,hne,hpre,tJ,hm,ht⟩:=hrel;obtain⟨wA,hwA⟩:∃x,x=wr:=⟨_,rfl⟩;subst hwA
  by_cases hlt:i<m
  ·have hii:(i:Int)<(m:Int):=by omega
   have hmn:=HO.out.2.2.2 (by omega);have hm0:=hm;obtain⟨t,wz,-⟩:=hm0;have hak:mD w0 K' wA:=HI.out.2.2.2.aG ht;have c0:=FK hinv (by have:=HG.out;omega) HG.out.1 wz;obtain⟨jt,hj1,hj2,hj3⟩:=Bd.Mr hinv HO.out.2.1 HO.out.2.2.1 hpre (by rw[HO.out.1];exact hlt);have hio:i<order.length:=by rw[HO.out.1];exact hlt
   obtain⟨z,hz,hzo⟩:∃z,lo[i]?=some z∧z=(order[i]:Nat):=by
    have h9:=HA.out.2.2;have hil:i<lo.length:=by rw[←HA.out.2.1];exact hlt
    refine⟨lo[i],List.getElem?_eq_getElem hil,?_⟩;have:=h9.1 lo[i] (List.getElem_mem hil);have e:order[i]=lo[i].toNat:=by simp only[h9.2,List.getElem_map]
    rw[e];omega
   have hol:M'.ord.length=m:=by rw[hmn];exact hinv.od.len
   have c1:Calls Tryz.prog 97 #[.pointer (some ⟨p,0,none⟩)] wA fun r w'=>∃g cap,r=.returned (.slice (some ⟨g,0,none⟩) m cap)∧wA.heap.size≤g∧Rw w' 3 1 m cap g (fun i=>[.int .i64 (M'.ord.getD i 0:Nat)])∧Below wA.heap.size wA w':=c0.mono (fun r w' h=>by
    obtain⟨v,rfl,g,cap,rfl,h1,h2,h3⟩:=h;rw[hol]at h2⊢
    exact⟨g,cap,rfl,h1,h2,h3⟩)
   have HL:=Lib.hid (And.intro hinv (And.intro hne (And.intro hpre (And.intro tJ (And.intro hm (And.intro ht (And.intro hak (show ∃jt,i≤jt∧jt<m∧M'.ord[jt]?=order[i]? from⟨jt,hj1,by omega,hj3⟩))))))));have HJ:=Lib.hid (And.intro hol hzo);obtain⟨bo,oo,hAo,xK,hco⟩:=HA.out.1.get hz;have Zg:bo<wA.heap.size:=Nat.lt_of_lt_of_le xK hak.b.size;have y1:wA.cell? ⟨bo,oo+i,none⟩=some (.int .i64 z):=by rw[hak.b.cell (p:=⟨bo,_,none⟩) xK];exact hco
   subst hAo;clear hmn c0 hinv hne hpre tJ hm ht hak wz hj1 hj2 hj3 hz hzo hol xK hco;obtain⟨X0,HX⟩:∃X:Prop,X=True:=⟨_,rfl⟩;have EP:=Lib.hid c1;clear c1
   go_wp2_with (refine(EP.out).mono ?_)
   rintro r w5 ⟨g,cap,rfl,hg1,hg2,hg3⟩;have HV:=Lib.hid (And.intro hg1 (And.intro hg2 hg3));clear hg1 hg2 hg3;go_wp2_with fail;obtain⟨jt,hj1,hj2,hj3⟩:=HL.out.2.2.2.2.2.2.2;have HJT:=Lib.hid hj3;clear hj3
   go_loopg [7,22,23,24,25,26,27,28,29,30,31,32,33,34,35,36,37,38] (jt-i) (fun q v7 v22 v23 v24 v25 v26 v27 v28 v29 v30 v31 v32 v33 v34 v35 v36 v37 v38 wr=>∃a:Nat,q=jt-a∧i≤a∧a≤jt∧v7=.int .i64 (a:Nat)∧Below w5.heap.size w5 wr)
   case atStart=>exact⟨i,rfl,Nat.le_refl _,hj1,rfl,Below.refl _ _⟩
   case round=>
    obtain⟨a,rfl,hia,haj,rfl,hbx⟩:=hrel;have RH:Below wA.heap.size wA wr:=HV.out.2.2.trans (hbx.mono HV.out.2.2.size);obtain⟨x,hx⟩:∃x,M'.ord[a]?=some x:=⟨_,List.getElem?_eq_getElem (by rw[HJ.out.1];omega)⟩;have hxd:M'.ord.getD a 0=x:=by rw[List.getD_eq_getElem?_getD,hx];rfl
    have z0:wr.cell? ⟨g,a,none⟩=some (.int .i64 (x:Nat)):=by
     have:=(HV.out.2.1.kept (hbx.block g HV.out.2.1.lt)).cell (i:=a) (j:=0) (by omega) (by omega);simp only[Nat.mul_one,Nat.add_zero,List.getElem?_cons_zero,hxd]at this;exact this
    have z1:wr.cell? ⟨bo,oo+i,none⟩=some (.int .i64 z):=(RH.cell (p:=⟨bo,_,none⟩) Zg).trans y1;have hgl:g<wr.heap.size:=Nat.lt_of_lt_of_le HV.out.2.1.lt hbx.size;have ab7:bo<wr.heap.size:=Nat.lt_of_lt_of_le Zg RH.size;have han:(a:Int)<(m:Int):=by omega
    have hand:decide ((a:Int)<(m:Int))=true:=decide_eq_true han;have dJ:=Lib.hid (And.intro hbx (And.intro RH hx));clear hbx RH hxd
    by_cases hlt2:a<jt
    ·have hxz:(x:Int)≠z:=by
      obtain⟨x',h1,h2⟩:=VE (order:=[]) HL.out.1 (by rw[HJT.out,List.getElem?_eq_getElem hio]) hlt2;rw[dJ.out.2.2]at h1
      injection h1 with h1
      rw[HJ.out.2];intro e;exact h2 (by omega)
     have hxb:((x:Int) != z)=true:=by simpa using hxz
     have hxe:((x:Int)==z)=false:=by simpa using hxz
     have abk:decide ((x:Int)=z)=false:=decide_eq_false hxz;clear hx;go_wp2_with fail
     go_quiet (fail)
     go_wp2_with fail
     go_roundg (jt-(a+1))
     case rel=>exact⟨a+1,rfl,by omega,by omega,by go_num,below_drewN dJ.out.1 _⟩
     case measure=>omega
    ·obtain rfl:a=jt:=by omega
     have hxz:(x:Int)=z:=by
      have h1:=HJT.out;rw[dJ.out.2.2,List.getElem?_eq_getElem hio]at h1
      injection h1 with h1
      rw[HJ.out.2,h1]
     have hxb:((x:Int) != z)=false:=by simp[hxz]
     have hxe:((x:Int)==z)=true:=by simp[hxz]
     have abk:decide ((x:Int)=z)=true:=decide_eq_true hxz;have ab8:((a:Int)==(m:Int))=false:=by rw[beq_eq_false_iff_ne];omega
     clear hx;go_wp2_with fail
     go_quiet (fail)
     go_wp2_with fail
     go_loopg [7,43,44,45,46,47,48,49,50,51,52] (a-i) (fun q v7 v43 v44 v45 v46 v47 v48 v49 v50 v51 v52 wr=>∃(k:Nat)(M2:Bd.MS)(K2:Nat→Nat),q=k-i∧i≤k∧k≤a∧v7=.int .i64 (k:Nat)∧Bd.Arr n room order i k M2∧fF M' M2∧aX K2 wr p n room M2∧aj mX K' wA K2 wr)
     case atStart=>exact⟨a,M',K',rfl,hia,Nat.le_refl _,rfl,⟨HL.out.1,HL.out.2.1,HL.out.2.2.1,HJT.out,hia⟩,fF.refl,HL.out.2.2.2.2.1.below (below_drewN dJ.out.2.1 _),aj.of_below (below_drewN dJ.out.2.1 _)⟩
     case round=>
      obtain⟨k,M2,K2,rfl,hik,hka,rfl,harr,tJ,RI,htt⟩:=hrel;have HK:=Lib.hid (And.intro harr (And.intro tJ (And.intro RI htt)))
      by_cases hlt3:i<k
      ·have hki:(i:Int)<(k:Int):=by omega
       have hkd:decide ((i:Int)<(k:Int))=true:=decide_eq_true hki;obtain⟨k1,hk1⟩:∃k1,k=k1+1:=⟨k-1,by omega⟩;have VF:=Lib.hid hk1;obtain⟨t2,UM,-⟩:=RI;have xB:M2.next≤1000000000:=by rw[tJ.next,HL.out.2.2.2.1.next];exact HG.out.2.2.2
       have cS:=Kh harr.inv HG.out.1 (by have:=HG.out;omega) HG.out.2.2.1 xB ((k:Int)-1) UM;have HS:=Lib.hid cS;clear tJ UM htt xB cS harr hk1
       go_wp2_with (refine(HS.out).mono ?_)
       rintro r w9 ⟨e,S',fV,ji,D',K9,rfl,i9,s9,m9,t9,f9⟩;obtain⟨x,y,h1,h2,h3,h4⟩:=Bd.MK (j:=k1) (by have:=HK.out.1;rw[VF.out]at this;exact this) hio (by have:=VF.out;omega);obtain⟨rfl,e2,e3⟩:=f9 k1 x y (by have:=VF.out;omega) h1 h2 h3;have h5:=h4 _ i9 e3 e2;have H9:=Lib.hid (And.intro h5 (And.intro (HK.out.2.1.trans (fF.still s9)) (And.intro (show aX K9 w9 p n room _ from⟨_,m9,fB.none⟩) (HK.out.2.2.2.trans t9.mX))));clear i9 s9 m9 t9 f9 h1 h2 h3 h4 h5 e2 e3;go_wp2_with fail
       go_roundg (k-1-i)
       case rel=>exact⟨k1,_,K9,by have:=VF.out;omega,by have:=VF.out;omega,by have:=VF.out;omega,by have:=VF.out;go_num,H9.out.1,H9.out.2.1,H9.out.2.2.1,H9.out.2.2.2⟩
       case measure=>omega
      ·obtain rfl:k=i:=by omega
       have hkd:decide ((k:Int)<(k:Int))=false:=decide_eq_false (by omega);clear harr tJ RI htt;go_wp2_with fail
       go_roundg (m-(k+1))
       case rel=>exact⟨k+1,M2,K2,by omega,by omega,by go_num,HK.out.1.inv,HK.out.1.none,Bd.Mq HK.out.1 hio,HL.out.2.2.2.1.trans HK.out.2.1,HK.out.2.2.1,HL.out.2.2.2.2.2.1.trans HK.out.2.2.2⟩
       case measure=>omega
  ·obtain rfl:i=m:=by omega
   have H5:=Lib.hid (show VD K w p n room M (.returned (.bool true)) wA from⟨rfl,M',K',hinv,tJ,hm,ht⟩);clear hinv hne hpre tJ hm ht;go_wp2_with fail;rw[HF.out];exact H5.out
end
end
section
theorem Zh:dS Tryz.prog 30 33 1 24:=dS.mk (z:=.slice none 0 0) (by kernel_rfl) (by kernel_rfl) (by decide) (by decide) rfl
/-- What stands from B on is the client's. -/
def Gp(K:Nat→Nat)(B:Nat):Nat→Nat:=fun q=>if q<B then K q else 0
theorem uR{K:Nat→Nat}{B q:Nat}(h:B≤q):Gp K B q=0:=if_neg (by omega)
theorem aj.WK{R:Nat→Prop}{K:Nat→Nat}{w w':World}(hb:Below w.heap.size w w'):aj R K w (Gp K w.heap.size) w':=⟨Only.of_below hb,fun q hq=>if_pos hq⟩
theorem lD{w w':World}{K':Nat→Nat}(h:aj mX (fun _=>0) w K' w'):Below w.heap.size w w':=h.only.below (fun q hq=>absurd hq Kn) (Nat.le_refl _)
theorem IU(n room:Nat){M:Bd.MS}(hi:Bd.Inv n room M)(hr:fF (Bd.rZ n) M):Cli n room M []:=by
 refine⟨hi,(fun q h=>by cases h),fun a e h=>?_,(fun q h=>by cases h),List.nodup_nil⟩;rw[hr.H]at h;have h:(a,e)∈([(1,0),(0,1)]:List (Nat×Nat)):=h;simp only[List.mem_cons,List.not_mem_nil,or_false,Prod.mk.injEq]at h;omega
section
variable {α:Type} {B n g2 c2 T m:Nat} {K K':Nat→Nat} {w w' w2:World} {v x:Value} {l:List α} {e:α} {f:α→List Value} {cs:List Value} {g:Nat→Bool} {vs:List Value} {gs:List (Nat→Bool)}
theorem DY(h:aQ B w T 1 f v l)(hr:j4 K 0 v)(hn:l.length=n)(hB:B≤w.heap.size)(hq:bY w T 1 v n 1 (fun q=>if q=n then cs else fC f l q) g2 c2 w2)(hc:cs=f e) :
 aQ B w2 T 1 f (.slice (some ⟨g2,0,none⟩) (n+1) c2) (l++[e])∧j4 (bJ K g2 0) 0 (.slice (some ⟨g2,0,none⟩) (n+1) c2)∧(∀p m room M,aX K w p m room M→aX (bJ K g2 0) w2 p m room M)∧(∀K0 w0,w0.heap.size≤B→aj mX K0 w0 K w→aj mX K0 w0 (bJ K g2 0) w2)∧kK T w w2:=by
 have hk:=kK.app h hq;obtain⟨r1,r2⟩:=h.push (e:=e) hn hq hB hc;refine⟨r1,j4.of (aW _ _ _),fun p m room M hm=>?_,fun K0 w0 h0 t=>?_,hk⟩
 ·have hsl:=h.1;rw[hn]at hsl;exact hm.aG (hq.aG (R:=fun r=>r=0) aj.refl hr rfl hsl).1 (fun r hr=>by rw[hr];unfold mR;omega)
 ·have hg:B≤g2:=r1.2 _ _ _ rfl;exact⟨t.only.oq r2 h0,fun q hq=>(bP (by omega)).trans (t.ext q hq)⟩
theorem j4.bJ(h:j4 K 0 v):j4 (bJ K g2 0) 0 v:=fun g n c e=>by
 by_cases h9:g=g2
 ·rw[h9];exact aW _ _ _
 ·rw[bP h9];exact h g n c e
theorem jo.kp{l:List Nat}(h:jo B K w v l)(kp:kK T w w')(hT:3≠T):jo B (bJ K g2 0) w' v l:=⟨h.acc.kp kp hT,h.rl.bJ⟩
/-- A table of the client. -/
structure LG(B:Nat)(K:Nat→Nat)(w:World)(x:Value)(m:Nat)(g:Nat→Bool):Prop where
 tb:qh B w x m g
 rl:j4 K 0 x
theorem LG.aG(h:LG B K w x m g)(t:aj mX K w K' w'):LG B K' w' x m g:=by
 obtain⟨⟨b,c,rfl,hb,hr⟩,rl⟩:=h;have hk:=rl _ _ _ rfl;exact⟨⟨b,c,rfl,hb,hr.kept (t.block hr.lt (by rw[hk];exact Kn))⟩,j4.of (by rw[t.ext b hr.lt];exact hk)⟩
theorem LG.kp(h:LG B K w x m g)(kp:kK T w w')(hT:4≠T):LG B (bJ K g2 0) w' x m g:=by
 obtain⟨⟨b,c,rfl,hb,hr⟩,rl⟩:=h;exact⟨⟨b,c,rfl,hb,hr.kp kp hT⟩,rl.bJ⟩
/-- A client's list of lists;P tells what an element holds. -/
structure fE{β:Type}(T:TypeId)(P:(Nat→Nat)→World→Value→β→Prop)(B:Nat)(K:Nat→Nat)(w:World)(v:Value)(vs:List Value)(gs:List β):Prop where
 len:vs.length=gs.length
 acc:aQ B w T 1 vE v vs
 rl:j4 K 0 v
 at':∀(i:Nat)(x:Value)(g:β),vs[i]?=some x→gs[i]?=some g→P K w x g
section
variable {β:Type} {P:(Nat→Nat)→World→Value→β→Prop} {X:TypeId} {gs:List β} {g:β}
theorem fE.aG(h:fE T P B K w v vs gs)(t:aj mX K w K' w')(hP:∀x g,P K w x g→P K' w' x g):fE T P B K' w' v vs gs:=by
 refine⟨h.len,⟨h.acc.1.kept (fun g m c e hg=>t.block hg (by rw[h.rl g m c e];exact Kn)),h.acc.2⟩,fun g m c e=>?_,fun i x g hx hg=>hP _ _ (h.at' i x g hx hg)⟩;rw[t.ext g (h.acc.blk e)];exact h.rl g m c e
theorem fE.kp(h:fE T P B K w v vs gs)(kp:kK X w w')(hT:T≠X)(hP:∀x g,P K w x g→P (bJ K g2 0) w' x g):fE T P B (bJ K g2 0) w' v vs gs:=⟨h.len,h.acc.kp kp hT,h.rl.bJ,fun i x g hx hg=>hP _ _ (h.at' i x g hx hg)⟩
theorem fE.push(h:fE T P B K w v vs gs)(hn:vs.length=n)(hB:B≤w.heap.size)(hx:P K w x g)(hq:bY w T 1 v n 1 (fun q=>if q=n then[x]else fC vE vs q) g2 c2 w2)(hP:kK T w w2→∀x g,P K w x g→P (bJ K g2 0) w2 x g) :
 fE T P B (bJ K g2 0) w2 (.slice (some ⟨g2,0,none⟩) (n+1) c2) (vs++[x]) (gs++[g])∧(∀p m room M,aX K w p m room M→aX (bJ K g2 0) w2 p m room M)∧(∀K0 w0,w0.heap.size≤B→aj mX K0 w0 K w→aj mX K0 w0 (bJ K g2 0) w2)∧kK T w w2:=by
 obtain⟨r1,r2,r3,r4,r5⟩:=DY (e:=x) h.acc h.rl hn hB hq rfl;refine⟨⟨by rw[List.length_append,List.length_append,h.len];rfl,r1,r2,fun i y g' hy hg=>?_⟩,r3,r4,r5⟩;have hlen:=h.len
 rcases Nat.lt_or_ge i vs.length with hi|hi
 ·rw[List.getElem?_append_left hi]at hy;rw[List.getElem?_append_left (by omega)]at hg;exact hP r5 _ _ (h.at' i y g' hy hg)
 ·have hi2:=(List.getElem?_eq_some_iff.1 hy).1;simp only[List.length_append,List.length_cons,List.length_nil]at hi2;obtain rfl:i=vs.length:=by omega
  rw[List.getElem?_append_right (Nat.le_refl _),Nat.sub_self]at hy;rw[hlen,List.getElem?_append_right (Nat.le_refl _),Nat.sub_self]at hg;simp only[List.getElem?_cons_zero,Option.some.injEq]at hy hg;rw[←hy,←hg];exact hP r5 _ _ hx
theorem fE.nil:fE T P B K w (.slice none 0 0) [] ([]:List β):=⟨rfl,aQ.nil,j4.nil,(fun i x g h=>by cases h)⟩
theorem fE.get{p:Option Addr}{n c j:Nat}(h:fE T P B K w (.slice p n c) vs gs)(hj:gs[j]?=some g):∃b x,p=some ⟨b,0,none⟩∧b<w.heap.size∧w.cell? ⟨b,j,none⟩=some x∧P K w x g:=by
 have hl:=(List.getElem?_eq_some_iff.1 hj).1;have hlen:=h.len;have hx:vs[j]?=some vs[j]:=List.getElem?_eq_getElem (by omega)
 rcases h.acc.1 with⟨h1,h2⟩|⟨b,cap,h1,hr⟩
 ·omega
 ·injection h1 with h1 _ _
  have:=hr.cell (i:=j) (j:=0) (by omega) (by omega);rw[kg hx]at this;simp only[Nat.mul_one,Nat.add_zero,vE,List.getElem?_cons_zero]at this;exact⟨b,_,h1,hr.lt,this,h.at' j _ _ hx hj⟩
end
/-- The client's list of tables. -/
def Zi(B m:Nat)(K:Nat→Nat)(w:World)(v:Value)(vs:List Value)(gs:List (Nat→Bool)):Prop:=fE 33 (fun K w x g=>LG B K w x m g) B K w v vs gs
end
end
section
/-- A list of events,anywhere in its block. -/
def Br(w:World)(pv:Option Addr)(cv:Nat)(l:List Bd.Ev):Prop:=l.length≤cv∧(l=[]∨∃b o,pv=some ⟨b,o,none⟩∧b<w.heap.size∧∀i e,l[i]?=some e→∀j,j<3→w.cell? ⟨b,o+(i*3+j),none⟩=(EM e)[j]?)
section
variable {K:Nat→Nat} {w w':World} {p n room:Nat} {M:Bd.MS} {t:Nat→iN}
theorem Br.kept{pv:Option Addr}{cv:Nat}{l:List Bd.Ev}(h:Br w pv cv l)(hk:l≠[]→∀a,pv=some a→a.block<w.heap.size→w'.heap[a.block]?=w.heap[a.block]?):Br w' pv cv l:=by
 obtain⟨h1,h2|⟨b,o,rfl,hb,h2⟩⟩:=h
 ·exact⟨h1,.inl h2⟩
 ·by_cases hl:l=[]
  ·exact⟨h1,.inl hl⟩
  have hh:=hk hl _ rfl hb;have hh:w'.heap[b]?=w.heap[b]?:=hh;refine⟨h1,.inr ⟨b,o,rfl,?_,fun i e hi j hj=>?_⟩⟩
  ·rw[Array.getElem?_eq_getElem hb]at hh;exact(Array.getElem?_eq_some_iff.1 hh).1
  ·rw[←h2 i e hi j hj];simp only[World.cell?,hh]
theorem Br.get{pv:Option Addr}{cv i:Nat}{l:List Bd.Ev}{e:Bd.Ev}(h:Br w pv cv l)(hi:l[i]?=some e):∃b o,pv=some ⟨b,o,none⟩∧b<w.heap.size∧∀j,j<3→w.cell? ⟨b,o+i*3+j,none⟩=(EM e)[j]?:=by
 obtain⟨h1,h2|⟨b,o,rfl,hb,h2⟩⟩:=h
 ·rw[h2]at hi;cases hi
 ·exact⟨b,o,rfl,hb,fun j hj=>by rw[Nat.add_assoc];exact h2 i e hi j hj⟩
theorem Gq{v:Value}{l:List Bd.Ev}{b o c:Nat}(h:Wt K w v [])(hl:0<l.length)(hn:l.length≤256)(hle:l.length≤c)(hr:∀i e,l[i]?=some e→∀j,j<3→w.cell? ⟨b,o+(i*3+j),none⟩=(EM e)[j]?)(ty:TypeId) :
 ∃v' w' K',(Builtin.append_ #[24,24] ty #[v,.slice (some ⟨b,o,none⟩) l.length c]).run Tryz.prog w=.ok v' w'∧Wt K' w' v' l∧aj (fun r=>r=15) K w K' w':=by
 obtain⟨m,hm⟩:∃m,m=l.length:=⟨_,rfl⟩;obtain⟨h0,hb,ht,i,z,hi,hz,hs,hby,hzs⟩:=Tf;rw[←hm]at hle hl hn;have hmc:m*3≤c*3:=Nat.mul_le_mul_right 3 hle;obtain⟨news,hnews⟩:∃news,news=(List.range (m*3)).map (fun q=>((Te l (q/3))[q%3]?).getD undef):=⟨_,rfl⟩;have hnl:news.length=m*3:=by rw[hnews,List.length_map,List.length_range]
 have hat:∀q,q<m*3→news[q]?=(Te l (q/3))[q%3]?:=fun q hq=>by
  have hlt:q/3<l.length:=by omega
  have h9:(Te l (q/3))[q%3]?=some (((Te l (q/3))[q%3]?).getD undef):=by
   rw[Bb (List.getElem?_eq_getElem hlt)];have:q%3<(EM l[q/3]).length:=by unfold EM;simp;omega
   rw[List.getElem?_eq_getElem this];rfl
  rw[h9,hnews,List.getElem?_map,List.getElem?_range hq];rfl
 have hn1:∀j u,news[j]?=some u→w.cell? ((⟨b,o,none⟩:Addr).add j)=some u:=fun j u hj=>by
  have hjl:j<m*3:=by rw[←hnl];exact(List.getElem?_eq_some_iff.1 hj).1
  have hlt:j/3<l.length:=by omega
  rw[hat j hjl,Bb (List.getElem?_eq_getElem hlt)]at hj;have:=hr (j/3) _ (List.getElem?_eq_getElem hlt) (j%3) (by omega);rw[Addr.add_lit,←hj,←this,show j/3*3+j%3=j from by omega]
 have h1:∀u∈news,u.oneCell'=true:=fun u hu=>by
  obtain⟨q,hq⟩:=List.mem_iff_getElem?.1 hu;have TY:q<m*3:=by rw[←hnl];exact(List.getElem?_eq_some_iff.1 hq).1
  rw[hat q TY]at hq;have hlt:q/3<l.length:=by omega
  rw[Bb (List.getElem?_eq_getElem hlt)]at hq;have hmem:=List.mem_of_getElem? hq;unfold EM at hmem;simp only[List.mem_cons,List.not_mem_nil,or_false]at hmem
  rcases hmem with rfl|rfl|rfl<;>rfl
 have hidx:∀i,i<m→∀j,j<3→news[i*3+j]?=(Te l i)[j]?:=fun i hi j hj=>by
  rw[hat _ (by omega)]
  congr 1
  ·congr 1;omega
  ·omega
 have fresh:∀(v':Value)(w':World),w'.ownsRow w.heap.size 73 3 v' (0+m) ([]++news)→w.grownBy w' none→∃K',Wt K' w' v' l∧aj (fun r=>r=15) K w K' w':=by
  intro v' w' how hg;obtain⟨hx,h9|⟨g,cap,cs,rfl,hge,hb,hc1,hc2,hc3,hc4⟩⟩:=how
  ·omega
  refine⟨bJ K g 15,?_,(show aj (fun r=>r=15) K w K w' from⟨⟨hg.os,hg.tape,hg.output,hg.size,fun q hq _=>hg.block q hq (by simp)⟩,fun _ _=>rfl⟩).new hge⟩;rw[show 0+m=l.length from by omega];refine Tg (by omega) (aW _ _ _) hb (by omega) (fun i hi j hj=>?_);rw[←hidx i (by omega) j hj];have hlt:i*3+j<(0+m)*3:=by omega
  have:(cs.toList.take ((0+m)*3))[i*3+j]?=([]++news)[i*3+j]?:=by rw[hc4]
  rw[List.getElem?_take_of_lt hlt]at this
  simpa using this
 rcases h with⟨rfl,-⟩|⟨g,off,cap,rfl,hcap,hk,⟨cs,T,hg,hsz2⟩,-⟩
 ·obtain⟨v',w',hrun,r1,r2,-⟩:=run_append_own (P:=Tryz.prog) w w.heap.size 24 ty _ i z 3 24 ht hi hz hs hby hzs h0 (.slice none 0 0) 0 [] (World.ownsRow_nil w _ _ 3) ⟨b,o,none⟩ m c news hnl hn1 h1 (by unfold maxLen;omega) (by omega) (Nat.le_refl _)
  obtain⟨K',q1,q2⟩:=fresh v' w' r1 (by
   have h5:(Value.slice none 0 0).ownBlock=none:=rfl
   rwa [h5]at r2)
  exact⟨v',w',K',by rw[←hm];exact hrun,q1,q2⟩
 ·by_cases hroom:m≤cap
  ·obtain⟨cur',b1,b2,b3⟩:=iJ (T:=T) g news off w cs hg (by rw[hnl];omega)
   have hrun:=run_append_room_cells (P:=Tryz.prog) w 24 ty _ i ht hi g off 0 cap ⟨b,o,none⟩ m c news (by rw[hs];exact hnl) hn1 h1 (by omega) (fun j hj=>by
    rw[hnl]at hj;have:off+j<cs.size:=by omega
    simp[World.cell?,hg,this]) (fun j hj=>by simp[World.frozen?,hg])
   rw[hs,Nat.zero_mul,Nat.add_zero,Nat.zero_add]at hrun;obtain⟨s1,s2,s3,s4⟩:=kD g news off w;refine⟨_,_,K,by rw[←hm];exact hrun,?_,⟨⟨s1,s2,s3,by rw[s4];exact Nat.le_refl _,fun q hq hf=>jK g news off w q (fun h9=>hf (by rw[h9];exact hk))⟩,fun _ _=>rfl⟩⟩;rw[hm];refine Tg (by omega) hk b1 (by omega) (fun i hi j hj=>?_);rw[←hidx i (by omega) j hj,b3,if_pos ⟨by omega,by rw[hnl];omega⟩]
   congr 1;omega
  ·obtain⟨v',w',hrun,r1,r2⟩:=run_append_arg_grows (P:=Tryz.prog) w 24 ty _ i z 3 24 ht hi hz hs hby hzs h0 ⟨g,off,none⟩ 0 cap [] (by simp) (fun j u hj=>by cases hj) ⟨b,o,none⟩ m c news hnl hn1 (by omega) (by unfold maxLen;omega) (by omega);obtain⟨K',q1,q2⟩:=fresh v' w' r1 r2;exact⟨v',w',K',by rw[←hm];exact hrun,q1,q2⟩
theorem RJ{v:Value}{pv:Option Addr}{cv:Nat}{l:List Bd.Ev}(h:Wt K w v [])(hn:l.length≤256)(hv:Br w pv cv l)(ty:TypeId) :
 ∃v' w' K',(Builtin.append_ #[24,24] ty #[v,.slice pv l.length cv]).run Tryz.prog w=.ok v' w'∧Wt K' w' v' l∧aj (fun r=>r=15) K w K' w':=by
 by_cases hl:0<l.length
 ·obtain⟨hc,h2|⟨b,o,rfl,-,h2⟩⟩:=hv
  ·rw[h2]at hl;cases hl
  ·exact Gq h hl hn hc h2 ty
 ·obtain rfl:l=[]:=by
   cases l with
   |nil=>rfl
   |cons a b=>simp at hl
  obtain⟨h0,hb,ht,i,z,hi,hz,hs,hby,hzs⟩:=Tf
  obtain⟨pw,cw,rfl⟩:∃pw cw,v=.slice pw 0 cw:=by
   rcases h with⟨h1,h2⟩|⟨g,off,c,h1,-⟩
   ·exact⟨none,0,h1⟩
   ·exact⟨_,c,h1⟩
  rw[List.length_nil];refine⟨_,w,K,run_append_nothing (P:=Tryz.prog) w _ _ ty _ i ht hi pw 0 cw (Nat.zero_le _) _ ?_,h,aj.refl⟩
  cases pv with
  |none=>exact Src.ofNil w ht cv
  |some a=>exact Src.ofSlice w ht a 0 cv [] (by simp) (fun j u hj=>by cases hj) (fun u hu=>by cases hu)
theorem Gr(h0:0<n)(hn:n≤64){l:List Bd.Ev}(hl:l.length≤256)(hok:∀e∈l,aa5 n e)(hw:M.waits=[])(h:bB K w p n room M t){pv:Option Addr}{cv:Nat}(hv:Br w pv cv l)(mK:l≠[]→∀a,pv=some a→K a.block=0) :
 Calls Tryz.prog 39 #[.pointer (some ⟨p,0,none⟩),.slice pv l.length cv] w fun r w'=>r=.returned (.int .i64 0)∧∃K',bB K' w' p n room {M with waits:=l} t∧aj mR K w K' w':=by
 obtain⟨F,HF⟩:=aJ (fun(r:Ending)(w':World)=>r=.returned (.int .i64 0)∧∃K',bB K' w' p n room {M with waits:=l} t∧aj mR K w K' w');rw[←HF.out];obtain⟨A,h⟩:=h;obtain⟨m,hm⟩:∃m,m=l.length:=⟨_,rfl⟩;have wz:(m:Int)≤256:=by omega
 rw[←hm]
 obtain⟨pw,cw,hwv⟩:∃pw cw,A.wv=.slice pw 0 cw:=by
  have:=h.wait;rw[hw]at this
  rcases this with⟨h1,h2⟩|⟨g,off,c,h1,-⟩
  ·exact⟨none,0,h1⟩
  ·exact⟨_,c,h1⟩
 have hrow:=h.row;rw[hwv]at hrow;have y4:w.cell? ⟨p,4,none⟩=some (.slice pw 0 cw):=au hrow 4 rfl;have HH:=Lib.hid h;have HV:=Lib.hid hv;have HVR:=Lib.hid mK;have HO:=Lib.hid hok;have HM:=Lib.hid hm;have HW:=Lib.hid (And.intro hw hwv);have HL:=Lib.hid hl;have HN:=Lib.hid hn;have HR:=Lib.hid hrow;clear h hv mK hok hm hw hwv hl hn hrow;go_in;go_wp2_with fail
 go_loopg [6,20,21,22,23,24,25,26,27,28,29,30,31,32,33,34,35,36,37,38,39,40,41,42,43,44,45,46,47,48,49,50,51,52,53] m (fun q v6 v20 v21 v22 v23 v24 v25 v26 v27 v28 v29 v30 v31 v32 v33 v34 v35 v36 v37 v38 v39 v40 v41 v42 v43 v44 v45 v46 v47 v48 v49 v50 v51 v52 v53 wr=>∃j:Nat,q=m-j∧j≤m∧v20=.int .i64 (j:Nat)∧Below w.heap.size w wr)
 case atStart=>exact⟨0,rfl,Nat.zero_le _,rfl,Below.refl _ _⟩
 case round=>
  obtain⟨j,rfl,hj,rfl,hb⟩:=hrel;have HB:=Lib.hid hb
  by_cases hlt:j<m
  ·have hji:(j:Int)<(m:Int):=by omega
   have hjl:j<l.length:=by rw[←HM.out];exact hlt
   obtain⟨e,he⟩:∃e,l[j]?=some e:=⟨_,List.getElem?_eq_getElem hjl⟩;obtain⟨k1,k2,k3,k4⟩:=HO.out e (List.mem_of_getElem? he);obtain⟨bo,oo,hpo,xK,hco⟩:=HV.out.get he;subst hpo;have z0:wr.cell? ⟨bo,oo+j*3,none⟩=some (.int .i64 e.after):=by rw[hb.cell (p:=⟨bo,_,none⟩) xK];exact hco 0 (by omega)
   have z1:wr.cell? ⟨bo,oo+j*3+1,none⟩=some (.int .i64 e.kind):=by rw[hb.cell (p:=⟨bo,_,none⟩) xK];exact hco 1 (by omega)
   have z2:wr.cell? ⟨bo,oo+j*3+2,none⟩=some (.int .i64 e.level):=by rw[hb.cell (p:=⟨bo,_,none⟩) xK];exact hco 2 (by omega)
   have zlt:bo<wr.heap.size:=Nat.lt_of_lt_of_le xK hb.size;obtain⟨xa,hxa⟩:∃xa,xa=e.after:=⟨_,rfl⟩;obtain⟨xk,hxk⟩:∃xk,xk=e.kind:=⟨_,rfl⟩;obtain⟨xl,hxl⟩:∃xl,xl=e.level:=⟨_,rfl⟩;rw[←hxa]at z0 k3;rw[←hxk]at z1 k1 k2 k4;rw[←hxl]at z2 k4;have b1:¬xk<1:=by omega
   have b2:¬3<xk:=by omega
   have b3:¬xa<1:=by omega
   have b4:1≤xa:=k3;have b5:decide (xa<1)=false:=decide_eq_false b3;have HK4:=Lib.hid k4;clear hxa hxk hxl he xK hco k1 k2 k3 k4;obtain⟨W7,xD⟩:∃W7,W7=wr.alloc (.cells #[.int .i64 xa,.int .i64 xk,.int .i64 xl] 73):=⟨_,rfl⟩;have kH:Below w.heap.size w W7:=by rw[xD];exact hb.alloc hb.size _
   have q7:W7.heap[wr.heap.size]?=some (.cells #[.int .i64 xa,.int .i64 xk,.int .i64 xl] 73 (0,0)):=by rw[xD];exact heap_alloc_new _ _
   obtain⟨b7,O1⟩:∃b7,b7=wr.heap.size:=⟨_,rfl⟩;rw[←O1]at q7;have x0:W7.cell? ⟨b7,0,none⟩=some (.int .i64 xa):=au q7 0 rfl;have x1:W7.cell? ⟨b7,1,none⟩=some (.int .i64 xk):=au q7 1 rfl;have x2:W7.cell? ⟨b7,2,none⟩=some (.int .i64 xl):=au q7 2 rfl;have cV:∀k,Calls Tryz.prog 41 #[.pointer (some ⟨p,0,none⟩)] (W7.drewN k) fun r w'=>r=.returned (.int .i64 (n:Nat))∧w'=W7.drewN k:=fun k=>oD ⟨A,HH.out.aG (R:=fun _=>False) ((aj.of_below kH).drewN k) (fun r h=>h.elim)⟩;have HB7:=Lib.hid kH;clear hb kH q7
   by_cases hk2:xk=2
   ·obtain⟨l1,l2⟩:=HK4.out hk2;have ab9:=HN.out;have hw1:IntKind.i64.wrap ((n:Int)-1)=(n:Int)-1:=IntWalk.i64_in _ (by omega);have c1:¬xl<0:=by omega
    have c2:¬(n:Int)-1≤xl:=by omega
    subst hk2;go_wp2_with fail;rw[←O1,←xD];clear O1 xD
    go_quiet ((go_at_call 41;exact Calls.quiet_of_same (cV _)))
    go_wp2_with fail
    go_roundg (m-(j+1))
    case rel=>exact⟨j+1,rfl,by omega,by go_num,below_drewN HB7.out _⟩
    case measure=>omega
   ·have abl:xk=1∨xk=3:=by omega
    clear hk2 b1 b2
    rcases abl with rfl|rfl
    all_goals
     go_wp2_with fail;rw[←O1,←xD];clear O1 xD
     go_quiet ((go_at_call 41;exact Calls.quiet_of_same (cV _)))
     go_wp2_with fail
     go_roundg (m-(j+1))
     case rel=>exact⟨j+1,rfl,by omega,by go_num,below_drewN HB7.out _⟩
     case measure=>omega
  ·obtain rfl:j=m:=by omega
   have hA:=HH.out.aG (R:=fun _=>False) (aj.of_below hb) (fun r h=>h.elim);have hc:=hA.JC 0;obtain⟨W1,hW1⟩:∃W1,W1=wr.setCell ⟨p,5,none⟩ (.int .i64 0):=⟨_,rfl⟩;have t1:=(hA.CW 5 (.int .i64 0)).mono (R':=mR) (fun r hr=>by unfold mR;omega);rw[←hW1]at hc t1;have t0:aj mR K w K wr:=aj.of_below hb;have hv1:Br W1 pv cv l:=HV.out.kept (fun hl a e hg=>(t0.trans t1).block hg (by rw[HVR.out hl a e];exact gM));have hwt:Wt K W1 (.slice pw 0 cw) []:=by have:=hc.wait;rw[HW.out.1]at this;rw[←HW.out.2];exact this
   obtain⟨v',W2,K2,hrun,VG,t2⟩:=RJ hwt HL.out hv1 24;rw[←HM.out]at hrun
   obtain⟨pz,mz,cz,rfl⟩:∃pz mz cz,v'=.slice pz mz cz:=by
    rcases VG with⟨h1,-⟩|⟨g,off,c,h1,-⟩
    ·exact⟨_,_,_,h1⟩
    ·exact⟨_,_,_,h1⟩
   have h3:=hc.aa6 t2 VG;have hr2:=t2.obj hc.row (by rw[hc.kp];omega);rw[show({A with calls:=0}:ML).wv=A.wv from rfl,HW.out.2]at hr2;have z4:wr.cell? ⟨p,4,none⟩=some (.slice pw 0 cw):=by have:=hA.row;rw[HW.out.2]at this;exact au this 4 rfl
   have zf:∀o,wr.frozen? ⟨p,o,none⟩=false:=jv hA.row;have zl:=aV hA.row;have z5:wr.cell? ⟨p,5,none⟩=some (.int .i64 A.calls):=au hA.row 5 rfl;have x4:W1.cell? ⟨p,4,none⟩=some (.slice pw 0 cw):=by have:=hc.row;rw[show({A with calls:=0}:ML).wv=A.wv from rfl,HW.out.2]at this;exact au this 4 rfl
   have u4':W2.cell? ⟨p,4,none⟩=some (.slice pw 0 cw):=au hr2 4 rfl;have uf:∀o,W2.frozen? ⟨p,o,none⟩=false:=jv hr2;have ul:=aV hr2;have kI:=Lib.hid (And.intro h3.1 ((t0.trans t1).trans h3.2));have OC:=Lib.hid hrun;clear hA hc t1 t0 hv1 hwt VG t2 h3 hr2 hb hrun
   go_wp2_with (at_builtin;rw[←hW1];refine wpList_append_run rfl (.tmp 67) (.tmp 68) _ rfl rfl rfl OC.out ?_)
   rw[HF.out];exact⟨rfl,K2,⟨_,kI.out.1⟩,kI.out.2⟩
end
end
section
/-- What the client holds: handles with their functions,and their tables. -/
structure RL(B:Nat)(w0:World)(n room p:Nat)(le:List Ex)(K:Nat→Nat)(w:World)(M:Bd.MS)(l:List (Nat×Bd.BF))(vs:List Value)(vl vx:Value):Prop where
 cli:Cli n room M l.reverse
 mg:aX K w p n room M
 ol:jo B K w vl (l.map (·.1))
 tb:Zi B (2^n) K w vx vs (l.map (fun q i=>q.2 (Bd.iy i)))
 fs:l.map (·.2)=le.map (·.val)
 nx:M.next≤2+320*l.length
 aG:aj mX (fun _=>0) w0 K w
def RN(x:Int×Int×Int):Bd.Ev:=⟨x.1,x.2.1,x.2.2⟩
def nY(n:Nat):Nat:=4*2^(2*n)+4*(40+8)*2^n
/-- Setup succeeds. -/
def VH(w0:World)(n:Nat)(le:List Ex)(lp:List (Int×Int×Int))(r:Ending)(w':World):Prop:=
 ∃w1 p M K l vs vl vx,r=.returned (.tuple #[.pointer (some ⟨p,0,none⟩),vl,vx,.bool true])∧Below w0.heap.size w0 w1∧RL w1.heap.size w1 n (nY n) p le K w' M l vs vl vx∧M.waits=lp.map RN
section
variable {n:Nat} {w:World} {lo:List Int} {le:List Ex} {lp:List (Int×Int×Int)} {Ao Ae Ap:Option Addr} {co ce cp:Nat}
theorem xL.p(h:xL w Ap cp lp):Br w Ap cp (lp.map RN):=by
 obtain⟨h1,-,h2⟩:=h;refine⟨by rw[List.length_map];exact h1,?_⟩
 rcases h2 with rfl|⟨b,o,rfl,hb,h3⟩
 ·exact .inl rfl
 ·refine .inr ⟨b,o,rfl,hb,fun i e hi j hj=>?_⟩;rw[List.getElem?_map]at hi;obtain⟨z,hz,rfl⟩:=Option.map_eq_some_iff.1 hi;obtain⟨c0,c1,c2⟩:=h3 i z hz
  rcases(show j=0∨j=1∨j=2 by omega)with rfl|rfl|rfl
  ·exact c0
  ·exact c1
  ·exact c2
theorem Bt{fn:Func}{t1 t2 t3 t4:Tmp}(h:fn.results=#[.tmp t1,.tmp t2,.tmp t3,.tmp t4])(tmps:Array Value)(P:Program)(w:World):(results fn tmps).run P w=.ok (.tuple #[tmps.getD t1 undef,tmps.getD t2 undef,tmps.getD t3 undef,tmps.getD t4 undef]) w:=by
 simp[results,h]
theorem Gs(h:Bn w lo le lp Ao Ae Ap co ce cp)(hs:uO (n:Int) lo le lp) :
 Calls Tryz.prog 7 #[nT (n:Nat) lo le lp Ao Ae Ap co ce cp] w (VH w n le lp):=by
 obtain⟨F,HF⟩:=aJ (VH w n le lp);rw[←HF.out];unfold nT;obtain⟨room,hroom⟩:∃room,room=nY n:=⟨_,rfl⟩;obtain⟨m,hm⟩:∃m,m=le.length:=⟨_,rfl⟩;obtain⟨mo,hmo⟩:∃mo,mo=lo.length:=⟨_,rfl⟩;obtain⟨mp,hmp⟩:∃mp,mp=lp.length:=⟨_,rfl⟩;have h1:0<n:=by have:=hs.n1;omega
 have h6:n≤6:=by have:=hs.n6;omega
 have hp1:2^n≤64:=Nat.pow_le_pow_right (n:=2) (by decide) h6;have hp2:2^(2*n)≤4096:=Nat.pow_le_pow_right (n:=2) (by decide) (show 2*n≤12 by omega);have hp3:1≤2^n:=Nat.one_le_two_pow;have hrm:room≤1048576:=by rw[hroom];unfold nY;omega
 have hr1:1≤room:=by rw[hroom];unfold nY;omega
 have Tw:192*2^n≤room:=by rw[hroom];unfold nY;omega
 have cR:∀W,Calls Tryz.prog 35 #[.int .i64 (n:Nat),.int .i64 40] W fun r w'=>r=.returned (.int .i64 (room:Nat))∧w'=W:=fun W=>by
  have:=KW n 40 (by omega) (by omega) W;rw[show 4*2^(2*n)+4*(40+8)*2^n=room from hroom.symm]at this;exact this
 have hperm:lo=[]∨(lo.length=n∧lo.Nodup∧∀z∈lo,0≤z∧z<n):=by
  rcases hs.perm with h9|⟨h9,h8⟩
  ·exact .inl h9
  ·have hl:lo.length=n:=by omega
   exact .inr ⟨hl,Bd.EH hl (fun v hv=>h8 v (by omega))⟩
 rw[←hm,←hmo,←hmp];obtain⟨W1,hW1⟩:∃W1,W1=w.alloc (.cells #[.int .i64 (n:Nat),.slice Ao mo co,.slice Ae m ce,.slice Ap mp cp] 26):=⟨_,rfl⟩;obtain⟨bx,hbx⟩:∃bx,bx=w.heap.size:=⟨_,rfl⟩;have hx1:W1.heap[bx]?=some (.cells #[.int .i64 (n:Nat),.slice Ao mo co,.slice Ae m ce,.slice Ap mp cp] 26 (0,0)):=by rw[hW1,hbx];exact heap_alloc_new _ _
 have oV:=aV hx1
 have mW:∀K' W',aj mX (fun _=>0) W1 K' W'→W'.cell? ⟨bx,0,none⟩=some (.int .i64 (n:Nat))∧W'.cell? ⟨bx,1,none⟩=some (.slice Ao mo co)∧W'.cell? ⟨bx,2,none⟩=some (.slice Ae m ce)∧W'.cell? ⟨bx,3,none⟩=some (.slice Ap mp cp)∧bx<W'.heap.size:=fun K' W' t=>by
  have q:=(uP hx1 rfl t).1;exact⟨au q 0 rfl,au q 1 rfl,au q 2 rfl,au q 3 rfl,aV q⟩
 have dJ:=Lib.hid mW;have DZ:Below w.heap.size w W1:=jU hW1;have HA:=Lib.hid h;have HS:=Lib.hid hs;have HM:=Lib.hid (And.intro hm (And.intro hmo hmp));have HG:=Lib.hid (And.intro h1 (And.intro h6 (And.intro hrm (And.intro hr1 Tw))));have QS:=Lib.hid cR;have HPM:=Lib.hid hperm;have HRO:=Lib.hid hroom;have xO:=Lib.hid DZ;have hlm:m≤5:=by rw[hm];exact hs.el
 clear h hs hm hmo hmp h1 h6 hp1 hp2 hp3 hrm hr1 Tw cR hperm hroom mW DZ hx1 oV;obtain⟨w5,jS⟩:∃w5,w5=W1.drew:=⟨_,rfl⟩;have hbd:Below W1.heap.size W1 w5:=by rw[jS];exact(Below.refl _ _).drew
 have HD:=Lib.hid (show aj mX (fun _=>0) W1 (fun _=>0) w5 from aj.of_below hbd);have Tq:=Lib.hid (y8 HG.out.1 (by have:=HG.out;omega) HG.out.2.2.2.1 HG.out.2.2.1 (fun _=>0) w5);clear hbd;go_in;go_wp2_with fail;rw[←hbx,←hW1];clear hbx hW1;refine wp_region_held_drew (S:=fun W=>W.cell? ⟨bx,0,none⟩=some (.int .i64 (n:Nat))) (by kernel_rfl) (by rw[←jS];exact(dJ.out _ _ HD.out).1) (fun hHeld=>?_)
 repeat
  (first|refine aD 0 (v:=?_) rfl ?hy ?_|refine aD 1 (v:=?_) rfl ?hy ?_|refine aD 2 (v:=?_) rfl ?hy ?_|refine aD 3 (v:=?_) rfl ?hy ?_
   case hy=>
    intro w0 hS;have c0:=hS;go_simp
    (first|done|with_reducible rfl)
   try simp only[Act.put,aZ,bq,bA])
 rw[←jS];clear jS;refine wpAnyH_ready (rs:=[4]) (by decide +kernel) (by simp) (AllReadyH.cons (dA rfl) (fun KC aO=>?_) AllReadyH.nil);refine bW 35 ?_;go_simp;clear hHeld;refine(QS.out _).mono ?_;rintro r w4 ⟨rfl,hw4⟩;rw[hw4];clear hw4;refine aO.out _ _ (dJ.out _ _ HD.out).1 (fun hHeld=>?_);clear aO KC;(try simp only[Act.put,aZ,bq,bA]);refine wpAnyH_ready (rs:=[5]) (by decide +kernel) (by simp) (AllReadyH.cons (dA rfl) (fun KC aO=>?_) AllReadyH.nil);refine bW 34 ?_;go_simp;clear hHeld;refine(Tq.out).mono ?_;rintro r w6 ⟨K6,p,rfl,hi6,zD,ow,hp6⟩;have H6:=Lib.hid (And.intro hi6 (And.intro zD (HD.out.trans ow.mX)));clear hi6 zD ow hp6;refine aO.out _ _ (dJ.out _ _ H6.out.2.2).1 (fun hHeld=>?_);clear aO KC;try simp only[Act.put,aZ,bq,bA]
 repeat
  (first|refine aD 6 (v:=?_) rfl ?hy ?_|refine aD 7 (v:=?_) rfl ?hy ?_|refine aD 8 (v:=?_) rfl ?hy ?_|refine aD 9 (v:=?_) rfl ?hy ?_|refine aD 10 (v:=?_) rfl ?hy ?_
   case hy=>
    intro w0 hS;have c0:=hS;go_simp
    (first|done|with_reducible rfl)
   try simp only[Act.put,aZ,bq,bA])
 refine wpAnyH_done (by decide +kernel) ?_ _;clear hHeld;obtain⟨z0,z1,z2,z3,zl⟩:=dJ.out _ _ H6.out.2.2;have UG:mD w K6 w6:=mD.aG (K:=fun _=>0) ⟨Below.refl _ _,fun _ _=>rfl⟩ ((aj.of_below xO.out).trans H6.out.2.2);have cA:=Bq HA.out.ord HPM.out UG H6.out.1 (fun _=>rfl) HG.out.1 (by have:=HG.out;omega) HG.out.2.2.1 (show(2:Nat)≤_ by omega) H6.out.2.1;rw[←HM.out.2.1]at cA;have Vg:=Lib.hid cA;clear cA UG;clear z0 z1 z2 z3 zl;obtain⟨z0,z1,z2,z3,zl⟩:=dJ.out _ _ H6.out.2.2;have HR1:=Lib.hid (show aj mX (fun _=>0) W1 K6 w6 from H6.out.2.2)
 go_wp2_with (refine(Vg.out).mono ?_)
 rintro r w7 ⟨rfl,M7,K7,i7,r7,m7,t7⟩
 have hw7:M7.waits=[]:=by
  obtain⟨q,hq⟩:=r7.ws;have hq:[]=q++M7.waits:=hq;exact(List.append_eq_nil_iff.1 hq.symm).2
 have H7:=Lib.hid (And.intro (IU n room i7 r7) (And.intro m7 (And.intro (HR1.out.trans t7) (And.intro (show M7.next=2 from r7.next) hw7))));clear i7 r7 m7 t7 hw7 z0 z1 z2 z3 zl;obtain⟨z0,z1,z2,z3,zl⟩:=dJ.out _ _ H7.out.2.2.1;go_wp2_with fail
 go_loopg [8,9,11,12,13,40,41,42,43,44,45,46,47,48,49,50,51,52,53,54,55,56,57,58,59,60,61,62,63,64] m (fun q v8 v9 v11 v12 v13 v40 v41 v42 v43 v44 v45 v46 v47 v48 v49 v50 v51 v52 v53 v54 v55 v56 v57 v58 v59 v60 v61 v62 v63 v64 wr=>∃(j cl cx:Nat)(pl px:Option Addr)(M:Bd.MS)(K:Nat→Nat)(l:List (Nat×Bd.BF))(vs:List Value),q=m-j∧j≤m∧v40=.int .i64 (j:Nat)∧v8=.slice pl j cl∧v9=.slice px j cx∧RL W1.heap.size W1 n room p (le.take j) K wr M l vs (.slice pl j cl) (.slice px j cx)∧l.length=j∧vs.length=j∧M.waits=[])
 case atStart=>exact⟨0,0,0,none,none,M7,K7,[],[],rfl,Nat.zero_le _,rfl,rfl,rfl,⟨H7.out.1,H7.out.2.1,⟨aQ.nil,j4.nil⟩,fE.nil,rfl,by rw[H7.out.2.2.2.1];exact Nat.le_refl _,H7.out.2.2.1⟩,rfl,rfl,H7.out.2.2.2.2⟩
 case round=>
  clear z0 z1 z2 z3 zl;obtain⟨j,cl,cx,pl,px,M,K,l,vs,rfl,hj,rfl,rfl,rfl,hst,hll,hvl,hws⟩:=hrel;obtain⟨z0,z1,z2,z3,zl⟩:=dJ.out _ _ hst.aG;have HR:=Lib.hid (And.intro hst (And.intro hll (And.intro hvl hws)));clear hst hll hvl hws
  by_cases hlt:j<m
  ·have hji:(j:Int)<(m:Int):=by omega
   have hjd:decide ((j:Int)<(m:Int))=true:=decide_eq_true hji;obtain⟨x,hxk⟩:∃x,le[j]?=some x:=⟨_,List.getElem?_eq_getElem (by rw[←HM.out.1];exact hlt)⟩;have b_:mD w K wr:=mD.aG (K:=fun _=>0) ⟨Below.refl _ _,fun _ _=>rfl⟩ ((aj.of_below xO.out).trans HR.out.1.aG);obtain⟨g,o,A',c',hA,hg,k0,k1,k2,hV⟩:=HA.out.exs.kid (t:=.mk 0 0 le) hxk;have k0:wr.cell? ⟨g,o+j*3,none⟩=some (.int .i64 x.op):=(b_.b.cell (p:=⟨g,_,none⟩) hg).trans k0;have k1:wr.cell? ⟨g,o+j*3+1,none⟩=some (.int .i64 x.var):=(b_.b.cell (p:=⟨g,_,none⟩) hg).trans k1;have k2:wr.cell? ⟨g,o+j*3+2,none⟩=some (.slice A' x.kids.length c'):=(b_.b.cell (p:=⟨g,_,none⟩) hg).trans k2;have hg:g<wr.heap.size:=Nat.lt_of_lt_of_le hg b_.b.size;subst hA;have hfit:=HS.out.ex x (List.mem_of_getElem? hxk);rw[Int.toNat_natCast]at hfit;obtain⟨kl,hkl⟩:∃kl,kl=x.kids.length:=⟨_,rfl⟩;obtain⟨xo,hxo⟩:∃xo,xo=x.op:=⟨_,rfl⟩;obtain⟨xv,hxv⟩:∃xv,xv=x.var:=⟨_,rfl⟩;obtain⟨b5,hb5⟩:∃b,b=wr.heap.size:=⟨_,rfl⟩;rw[←hxo]at k0;rw[←hxv]at k1;rw[←hkl]at k2;obtain⟨W5,mV⟩:∃W5,W5=wr.alloc (.cells #[.int .i64 xo,.int .i64 xv,.slice A' kl c'] 75):=⟨_,rfl⟩;obtain⟨uQ,pV⟩:=bG HR.out.1.mg mV;rw[←hb5]at uQ pV;have q5:W5.heap[b5]?=some (.cells #[.int .i64 xo,.int .i64 xv,.slice A' kl c'] 75 (0,0)):=by rw[mV,hb5];exact heap_alloc_new _ _
   have Tw:=HG.out.2.2.2.2;have cB:=Gm (w0:=w) HG.out.1 (by have:=HG.out;omega) HG.out.2.2.1 x.size A' c' x W5 (bJ K b5 0) M l.reverse (Nat.le_refl _) (by have:=hfit.1;omega) hfit.2.1 hfit.2.2 hV (b_.aG pV) HR.out.1.cli (by have:=HR.out.1.nx;have:=HR.out.2.1;have:=hfit.1;omega) (Nat.le_trans (Nat.mul_le_mul_right _ (by rw[List.length_reverse];have:=HR.out.2.1;have:=hfit.1;omega)) Tw) uQ;have hxe:dz A' c' x=.agg #[.int .i64 xo,.int .i64 xv,.slice A' kl c']:=by unfold dz bN;rw[hxo,hxv,hkl]
   rw[hxe]at cB;have lI:=Lib.hid cB;have H5:=Lib.hid (And.intro pV (And.intro q5 (And.intro hfit (And.intro hV (And.intro hxe hxk)))));have hlk:kl≤9223372036854775807:=by have:=hV.cap;have:=hV.kY;unfold maxLen at this;omega
   clear b_ hV hfit hkl hxo hxv uQ pV q5 Tw cB hxe hxk
   go_wp2_with (rw[←hb5,←mV];clear hb5 mV;refine(lI.out).mono ?_)
   rintro r w6 ⟨hk,M6,K6,rfl,hc6,zD,ow,hx6,rP⟩;obtain⟨ko,gH⟩:=bG (o:=.cells #[.int .i64 (hk:Nat)] 3) zD rfl;have t57:=H5.out.1.trans (ow.trans gH);have rQ:=(HR.out.1.ol.aG t57).acc.1;rw[List.length_map,HR.out.2.1]at rQ;have RD:=Lib.hid rQ;have q7:=(uP H5.out.2.1 (aW _ _ _) (ow.trans gH)).1;have H6:=Lib.hid (And.intro ko (And.intro t57 (And.intro q7 (And.intro hc6 (And.intro hx6 rP)))));clear ko gH t57 rQ q7 hc6 zD ow hx6 rP z0 z1 z2 z3 zl k0 k1 k2 hg
   go_wp2_with (at_builtin;refine aA _ rfl _ _ _ rfl jq rfl RD.out rfl (aL (by simp)) rfl (by simp[Value.oneCell']) (by omega) ?_;intro g2 c2 w8 hq2;have hq3:bY _ 3 1 (.slice pl j cl) j 1 (fun q=>if q=j then[.int .i64 (hk:Nat)]else fC nE (l.map (·.1)) q) g2 c2 w8:=hq2;obtain⟨q1,q2,q3,q4,q5⟩:=DY (e:=hk) (HR.out.1.ol.aG H6.out.2.1).acc (HR.out.1.ol.aG H6.out.2.1).rl (by rw[List.length_map];exact HR.out.2.1) (HR.out.1.aG.trans H6.out.2.1).size hq3 rfl;have t8:=q4 _ W1 (Nat.le_refl _) (HR.out.1.aG.trans H6.out.2.1);obtain⟨z0,z1,z2,z3,zl⟩:=dJ.out _ _ t8;have q8:=q5.row b5 _ _ (by decide) H6.out.2.2.1;have x0:=au q8 0 rfl;have x1:=au q8 1 rfl;have x2:=au q8 2 rfl;have xl:=aV q8;have tb8:=(fE.aG HR.out.1.tb H6.out.2.1 (fun x g hx=>hx.aG H6.out.2.1)).kp q5 (by decide) (g2:=g2) (fun x g hx=>hx.kp q5 (by decide));have H8:=Lib.hid (And.intro (q3 _ _ _ _ H6.out.1) (And.intro t8 (And.intro q1 (And.intro q2 tb8))));clear q1 q2 q3 q4 q5 t8 q8 tb8 hq2 hq3)
   have hbe:=lD ((aj.of_below xO.out).trans H8.out.2.1);have cT:=DR A' c' x n _ (by have:=H5.out.2.2.1.1;omega) H5.out.2.2.1.2.1 H5.out.2.2.1.2.2 (by have:=HG.out;omega) (H5.out.2.2.2.1.below hbe);rw[H5.out.2.2.2.2.1]at cT;have HCT:=Lib.hid cT;clear cT hbe
   go_wp2_with (refine(HCT.out).mono ?_)
   rintro r w9 ⟨vt,rfl,htb,tX⟩;obtain⟨bt,ct,rfl,hbt,hrt⟩:=htb;have t9:aj mX (bJ (bJ K6 w6.heap.size 0) g2 0) w8 (Gp (bJ (bJ K6 w6.heap.size 0) g2 0) w8.heap.size) w9:=aj.WK tX;have rG:=H8.out.1.aG (R:=fun _=>False) (aj.WK tX) (fun _ h=>h.elim);obtain⟨Zj,VI⟩:=bG (o:=.cells #[.slice (some ⟨bt,0,none⟩) (2^n) ct] 33) rG rfl;have t10:=t9.trans VI;have VJ:=fE.aG H8.out.2.2.2.2 t10 (fun x g hx=>hx.aG t10);have VK:=VJ.acc.1;rw[HR.out.2.2.1]at VK;have abm:=Lib.hid VK;have tk9:LG W1.heap.size (Gp (bJ (bJ K6 w6.heap.size 0) g2 0) w8.heap.size) w9 (.slice (some ⟨bt,0,none⟩) (2^n) ct) (2^n) (fun i=>x.val (Bd.iy i)):=⟨⟨bt,ct,rfl,Nat.le_trans H8.out.2.1.size hbt,hrt⟩,j4.of (uR hbt)⟩;have Px:=Lib.hid (And.intro Zj (And.intro (H8.out.2.1.trans t10) (And.intro VJ (And.intro (jo.aG ⟨H8.out.2.2.1,H8.out.2.2.2.1⟩ t10) (tk9.aG VI)))));clear tX hbt hrt t9 rG Zj VI t10 VJ VK tk9 z0 z1 z2 z3 zl x0 x1 x2 xl
   go_wp2_with (at_builtin;refine aA _ rfl _ _ _ rfl Zh rfl abm.out rfl (aL (by simp)) rfl (by simp[Value.oneCell']) (by omega) ?_;intro g3 c3 w11 hq2;have HQ:=Lib.hid hq2;clear hq2)
   go_roundg (m-(j+1))
   case rel=>
    have hq3:bY _ 33 1 (.slice px j cx) j 1 (fun q=>if q=j then[.slice (some ⟨bt,0,none⟩) (2^n) ct]else fC vE vs q) g3 c3 w11:=HQ.out;obtain⟨q1,q2,q3,q4⟩:=fE.push Px.out.2.2.1 HR.out.2.2.1 Px.out.2.1.size Px.out.2.2.2.2 hq3 (fun kp x g hx=>hx.kp kp (by decide));refine⟨j+1,c2,c3,_,_,M6,_,l++[(hk,x.val)],vs++[.slice (some ⟨bt,0,none⟩) (2^n) ct],rfl,by omega,by go_num,rfl,rfl,⟨?_,q2 _ _ _ _ Px.out.1,?_,?_,?_,?_,q3 _ _ (Nat.le_refl _) Px.out.2.1⟩,?_,?_,?_⟩
    ·rw[List.reverse_append];exact H6.out.2.2.2.1
    ·have h9:=Px.out.2.2.2.1.kp (g2:=g3) q4 (by decide);rw[List.map_append];exact h9
    ·rw[List.map_append];exact q1
    ·rw[List.map_append,HR.out.1.fs,List.take_add_one,H5.out.2.2.2.2.2,List.map_append];rfl
    ·have h1:=H6.out.2.2.2.2.1;have h2:=HR.out.1.nx;have h3:=H5.out.2.2.1.1;rw[List.length_append,List.length_singleton];omega
    ·rw[List.length_append,HR.out.2.1];rfl
    ·rw[List.length_append,HR.out.2.2.1];rfl
    ·obtain⟨q,hq⟩:=H6.out.2.2.2.2.2;rw[HR.out.2.2.2]at hq;exact(List.append_eq_nil_iff.1 hq.symm).2
   case measure=>omega
  ·obtain rfl:j=m:=by omega
   have hjd:decide ((j:Int)<(j:Int))=false:=decide_eq_false (by omega);have hall:le.take j=le:=List.take_of_length_le (by rw[←HM.out.1];exact Nat.le_refl _);have hst:=HR.out.1;rw[hall]at hst;have b_:mD w K wr:=mD.aG (K:=fun _=>0) ⟨Below.refl _ _,fun _ _=>rfl⟩ ((aj.of_below xO.out).trans hst.aG);have hep:=(HA.out.evs.p).kept (w':=wr) (fun _ a _ hg=>b_.b.block _ hg);obtain⟨t,wz,hgd⟩:=hst.mg
   have cP:=Gr (l:=lp.map RN) HG.out.1 (by have:=HG.out;omega) (by rw[List.length_map];have:=HS.out.pl;omega) (fun e he=>by
    obtain⟨z,hz,rfl⟩:=List.mem_map.1 he;obtain⟨⟨h1,h2,h3,h4⟩,-⟩:=HS.out.ev z hz;refine⟨h1,h2,h3,fun h=>?_⟩;have:=h4 h;rw[Int.toNat_natCast]at this
    exact⟨this.1,by show z.2.2<_;omega⟩) HR.out.2.2.2 wz hep (fun hl a ha=>by
    obtain⟨-,-,h9⟩:=HA.out.evs
    rcases h9 with h9|⟨b,o,h8,hb,-⟩
    ·rw[h9]at hl;exact absurd rfl hl
    ·rw[h8]at ha
     injection ha with ha
     rw[←ha]
     exact b_.k _ hb)
   rw[List.length_map,←HM.out.2.2]at cP;have Ro:=Lib.hid cP;have HE:=Lib.hid (And.intro hst hgd);clear hall hst b_ hep wz hgd cP
   go_wp2_with (refine(Ro.out).mono ?_)
   rintro r w8 ⟨rfl,K8,rF,t8⟩;have H8:=Lib.hid (And.intro rF t8);clear rF t8;go_wp2_with fail;refine bodyPost_ret (Bt rfl _ _ _) rfl ?_;rw[HF.out];obtain⟨hst,hgd⟩:=HE.out;have t8:=H8.out.2.mX;unfold VH;rw[←HRO.out];refine⟨W1,p,{M with waits:=lp.map RN},K8,l,vs,_,_,rfl,xO.out,⟨⟨⟨hst.cli.inv.gi,hst.cli.inv.si,hst.cli.inv.od,hst.cli.inv.rf,hst.cli.inv.ho,hst.cli.inv.hd,hst.cli.inv.h0,hst.cli.inv.h1,hst.cli.inv.hn⟩,hst.cli.fn,hst.cli.all,hst.cli.big,hst.cli.nd⟩,⟨t,H8.out.1,hgd.same rfl rfl rfl⟩,hst.ol.aG t8,fE.aG hst.tb t8 (fun x g hx=>hx.aG t8),hst.fs,hst.nx,hst.aG.trans t8⟩,rfl⟩
end
end
theorem RO:Bd.eP [1] (fun s=>s 0&&s 1)=fun s=>s 0:=by
 funext a
 simp[Bd.eP,Bd.IX,Bd.upd]
theorem Cli.same{n room a b:Nat}{M:Bd.MS}{hs:List (Nat×Bd.BF)}{φ:Bd.BF}(h:Cli n room M hs)(ha:Hn M a φ)(hb:Hn M b φ):∃e,(a,e)∈M.H∧(b,e)∈M.H:=by
 obtain⟨e,h1,h2⟩:=ha;obtain⟨f,h3,h4⟩:=hb;have:=Bd.Jb h.inv.gi (h.inv.ho _ _ h1) (h.inv.ho _ _ h3) (h2.trans h4.symm);exact⟨e,h1,by rw[this];exact h3⟩
theorem Gt(w:World):Calls Tryz.prog 6 #[] w fun r w'=>r=.returned (.bool true)∧Below w.heap.size w w':=by
 obtain⟨F,HF⟩:=aJ (fun(r:Ending)(w':World)=>r=.returned (.bool true)∧Below w.heap.size w w');rw[←HF.out];have cN:Calls Tryz.prog 34 #[.int .i64 2,.int .i64 1000] w fun r w'=>∃K' p,r=.returned (.tuple #[.pointer (some ⟨p,0,none⟩),.int .i64 0])∧Bd.Inv 2 1000 (Bd.rZ 2)∧aX K' w' p 2 1000 (Bd.rZ 2)∧aj mR (fun _=>0) w K' w'∧w.heap.size≤p:=y8 (n:=2) (room:=1000) (by decide) (by decide) (by decide) (by decide) (fun _=>0) w;have HN:=Lib.hid cN;clear cN;go_in;go_wp2_with fail;refine(HN.out).mono ?_;rintro r w1 ⟨K1,p,rfl,i1,m1,t1,-⟩;have l1:=IU 2 1000 i1 fF.refl;have c1:Calls Tryz.prog 26 #[.pointer (some ⟨p,0,none⟩),.int .i64 0] w1 (Gl K1 w1 p 2 1000 (Bd.rZ 2) [] (fun s=>s 0)):=nX (wF (v:=0) i1 (by decide) (by decide) (by decide) (show(2:Nat)≤_ by decide) (show(2:Nat)*(2^2-1)+1≤1000 by decide) (by decide) m1) l1;have H1:=Lib.hid (And.intro c1 t1.mX);clear i1 m1 t1 l1 c1;go_wp2_with fail;refine(H1.out.1).mono ?_;rintro r w2 ⟨f,M2,K2,rfl,l2,m2,t2,x2,-⟩;have x2:M2.next=3:=x2;have n2:=l2.len;have c2:Calls Tryz.prog 26 #[.pointer (some ⟨p,0,none⟩),.int .i64 1] w2 (Gl K2 w2 p 2 1000 M2 [(f,fun s=>s 0)] (fun s=>s 1)):=nX (wF (v:=1) l2.inv (by decide) (by decide) (by decide) (by omega) (by rw[n2];show(1+2)*(2^2-1)+1≤1000;decide) (by decide) m2) l2
 have H2:=Lib.hid (And.intro c2 (And.intro (H1.out.2.trans t2) x2));clear l2 m2 t2 x2 n2 c2 H1;go_wp2_with fail;refine(H2.out.1).mono ?_;rintro r w3 ⟨g,M3,K3,rfl,l3,m3,t3,x3,-⟩;have n3:=l3.len;obtain⟨W3,hW3⟩:∃W3,W3=w3.alloc (.cells #[.int .i64 1] 3):=⟨_,rfl⟩;obtain⟨b3,hb3⟩:∃b3,b3=w3.heap.size:=⟨_,rfl⟩;obtain⟨m4,t4⟩:=bG m3 hW3;rw[←hb3]at m4 t4;have q4:W3.heap[b3]?=some (.cells #[.int .i64 ((1:Nat):Int)] 3 (0,0)):=by rw[hW3,hb3];exact heap_alloc_new _ _
 have k4:fQ (bJ K3 b3 0) W3 (.slice (some ⟨b3,0,none⟩) 1 1) [1]:=⟨b3,1,rfl,aW _ _ _,⟨_,q4,by simp,fun i hi j hj=>by
  obtain rfl:i=0:=by simpa using hi
  obtain rfl:j=0:=by omega
  rfl⟩,Nat.le_refl _⟩
 have y2:=H2.out.2.2;have c3:=nX (nQ l3.inv (by decide) (by decide) (by decide) (by omega) (by rw[n3];show(2+2)*(2^2-1)+(2+(2+1)*2^2)≤1000;decide) (l3.fn (f,fun s=>s 0) (by simp)) (l3.fn (g,fun s=>s 1) (by simp)) (by decide) (by decide) k4 m4) l3;rw[RO]at c3;have H3:=Lib.hid (And.intro c3 (And.intro (H2.out.2.1.trans (t3.trans t4)) (show M3.next=4 by omega)));clear l3 m3 t3 x3 n3 c3 H2 m4 t4 q4 k4 y2
 go_wp2_with (rw[←hb3,←hW3];clear hb3 hW3;refine(H3.out.1).mono ?_)
 rintro r w5 ⟨h,M5,K5,rfl,l5,m5,t5,x5,-⟩;obtain⟨e,e1,e2⟩:=l5.same (l5.fn (h,fun s=>s 0) (by simp)) (l5.fn (f,fun s=>s 0) (by simp));obtain⟨t,m5,-⟩:=m5;have y3:=H3.out.2.2;have c5:=JZ l5.inv (by omega) e1 e2 m5;rw[show(e==e)=true by simp]at c5;have H5:=Lib.hid (And.intro c5 (lD (H3.out.2.1.trans t5)));clear l5 m5 t5 x5 e1 e2 c5 y3 H3
 go_wp2_with (refine(H5.out.1).mono ?_;rintro r w6 ⟨rfl,hw⟩;rw[hw];clear hw)
 rw[HF.out];exact⟨rfl,H5.out.2⟩
end Go.Proofs.YtpijlhlpejlhhaaGreat
