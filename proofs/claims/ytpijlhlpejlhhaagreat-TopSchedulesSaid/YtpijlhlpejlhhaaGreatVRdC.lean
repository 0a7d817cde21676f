/- Walks and plain words: RdC RdE RdF RdI. -/
import Derived.Test.YtpijlhlpejlhhaaGreatVRcB
namespace Go.Proofs.YtpijlhlpejlhhaaGreat
open Go.RowKit
set_option linter.unusedVariables false
set_option maxRecDepth 100000
set_option maxHeartbeats 8000000
section
section
variable {w w':World} {A:Option Addr} {c n:Nat} {l:List Int} {x u:Value} {g:Nat→Bool}
/-- The numbers below n that stand in a list. -/
def nW(n:Nat)(l:List Int):List Nat:=(List.range n).filter (fun v=>decide ((v:Int)∈l))
theorem zq(n:Nat)(l:List Int):nW (n+1) l=nW n l++(if (n:Int)∈l then[n]else[]):=by
 unfold nW;rw[List.range_succ,List.filter_append]
 congr 1
 by_cases h:(n:Int)∈l
 ·rw[if_pos h];exact List.filter_cons_of_pos (by simpa using h)
 ·rw[if_neg h];exact List.filter_cons_of_neg (by simpa using h)
theorem DV(n:Nat)(l:List Int):(nW n l).length≤n:=by
 unfold nW;exact Nat.le_trans (List.length_filter_le _ _) (by rw[List.length_range];exact Nat.le_refl _)
theorem Ry{n v:Nat}{l:List Int}(h:v∈nW n l):v<n:=by
 unfold nW at h;exact List.mem_range.1 (List.mem_filter.1 h).1
theorem DW(h:kZ w A c l)(hn:n≤64) :
 Calls Tryz.prog 11 #[.slice A l.length c,.int .i64 (n:Nat)] w fun r w'=>∃o,r=.returned o∧aQ w.heap.size w' 3 1 nE o (nW n l)∧Below w.heap.size w w':=by
 obtain⟨F,HF⟩:=aJ (fun(r:Ending)(w':World)=>∃o,r=.returned o∧aQ w.heap.size w' 3 1 nE o (nW n l)∧Below w.heap.size w w');rw[←HF.out];obtain⟨m,hm⟩:∃m,m=l.length:=⟨_,rfl⟩;rw[←hm];have hmb:m≤9223372036854775807:=by have h1:=h.1;have h2:=h.2.1;unfold maxLen at h2;omega
 have HH:=Lib.hid (And.intro h hm);clear h hm;go_in;go_wp2_with fail
 go_loopg [5,6,8,10,11,12,13,14,15,16,17,18,19,20,21,22,23,24,25,26,27] n (fun q v5 v6 v8 v10 v11 v12 v13 v14 v15 v16 v17 v18 v19 v20 v21 v22 v23 v24 v25 v26 v27 wr=>∃j:Nat,q=n-j∧j≤n∧v10=.int .i64 (j:Nat)∧aQ w.heap.size wr 3 1 nE v5 (nW j l)∧Below w.heap.size w wr)
 case atStart=>exact⟨0,rfl,Nat.zero_le _,rfl,aQ.nil,Below.refl _ _⟩
 case round=>
  obtain⟨j,rfl,hj,rfl,hacc,hb⟩:=hrel;obtain⟨pa,ca,hsh⟩:=hacc.shape;obtain⟨na,hna⟩:∃na,na=(nW j l).length:=⟨_,rfl⟩;rw[←hna]at hsh;subst hsh;have abD:na≤64:=by have:=DV j l;omega
  have HK:=Lib.hid (And.intro hacc (And.intro hb hna));obtain⟨w4,hw4⟩:∃w4,w4=wr:=⟨_,rfl⟩;subst hw4
  by_cases hlt:j<n
  ·have hji:(j:Int)<(n:Int):=by omega
   have lU:=Lib.hid (show ∀o,Sl (w4.alloc o) 3 1 (.slice pa na ca) na (fC nE (nW j l))from fun o=>by
    have:=(hacc.alloc o).1;rw[←hna]at this
    exact this)
   clear hacc hna;go_wp2_with fail
   go_loopg [5,8,15,16,17,18,19,20,21,22,23,24,25,26] m (fun q v5 v8 v15 v16 v17 v18 v19 v20 v21 v22 v23 v24 v25 v26 wx=>∃i:Nat,q=m-i∧i≤m∧v15=.int .i64 (i:Nat)∧v5=.slice pa na ca∧(j:Int)∉l.take i∧wx=w4)
   case atStart=>exact⟨0,rfl,Nat.zero_le _,rfl,rfl,by simp,rfl⟩
   case round=>
    obtain⟨i,rfl,hi,rfl,rfl,hno,hw⟩:=hrel;rw[hw];have wY:=Lib.hid (And.intro hno hw);clear hno hw
    by_cases hlt2:i<m
    ·have hii:(i:Int)<(m:Int):=by omega
     obtain⟨y,hy⟩:∃y,l[i]?=some y:=⟨_,List.getElem?_eq_getElem (by rw[←HH.out.2];exact hlt2)⟩;obtain⟨b,o,hA,hbl,hcell⟩:=(HH.out.1.below hb).get hy;have HY:=Lib.hid hy;subst hA;clear hy
     by_cases hyj:y=(j:Int)
     ·have S_:=Lib.hid (show nW (j+1) l=nW j l++[j] by
       rw[zq,if_pos (by rw[←hyj];exact List.mem_of_getElem? HY.out)])
      subst hyj
      go_wp2_with (at_builtin;refine aA _ rfl _ _ _ rfl jq rfl (lU.out _) rfl (aL (by simp)) rfl (by simp[Value.oneCell']) (by omega) ?_;intro g2 c2 w5 hq2;have HQ:=Lib.hid hq2;clear hq2)
      go_roundg (n-(j+1))
      case rel=>
       obtain⟨hacc,hb,hna⟩:=HK.out;have hq:bY _ 3 1 (.slice pa na ca) na 1 _ g2 c2 w5:=HQ.out;obtain⟨r1,r2⟩:=(hacc.alloc _).push (e:=j) hna.symm hq (by have:=hb.size;simp;omega) rfl;refine⟨j+1,rfl,by omega,by go_num,?_,(hb.alloc hb.size _).trans r2⟩;rw[S_.out];exact r1
      case measure=>omega
     ·have hye:(y==(j:Int))=false:=beq_false_of_ne hyj
      have HT:=Lib.hid (show(j:Int)∉l.take (i+1) by
       rw[List.take_add_one,HY.out];simp only[Option.toList_some,List.mem_append,List.mem_singleton];rintro(h|h)
       ·exact wY.out.1 h
       ·exact hyj h.symm)
      have hyb:=HH.out.1.2.2.1 y (List.mem_of_getElem? HY.out);clear hyj;go_wp2_with fail
      go_roundg (m-(i+1))
      case rel=>exact⟨i+1,rfl,by omega,by go_num,rfl,HT.out,rfl⟩
      case measure=>omega
    ·obtain rfl:i=m:=by omega
     have hall:l.take i=l:=List.take_of_length_le (by rw[←HH.out.2];exact Nat.le_refl _)
     have S_:=Lib.hid (show nW (j+1) l=nW j l by
      have:=wY.out.1;rw[hall]at this
      rw[zq,if_neg this,List.append_nil])
     clear hall;go_wp2_with fail
     go_roundg (n-(j+1))
     case rel=>exact⟨j+1,rfl,by omega,by go_num,by rw[S_.out];exact HK.out.1,HK.out.2.1⟩
     case measure=>omega
  ·obtain rfl:j=n:=by omega
   clear hacc hb hna;go_wp2_with fail;rw[HF.out];exact⟨_,rfl,HK.out.1,HK.out.2.1⟩
theorem Rz{n v i:Nat}{φ:Bd.BF}:(φ (Bd.iy (Bd.jX i v false))||φ (Bd.iy (Bd.jX i v true)))=Bd.IX v φ (Bd.iy i):=by
 rw[Bd.x9,Bd.x9];rfl
theorem K_{vars:List Nat}{φ:Bd.BF}(hx:Tb w x (2^n) (fun i=>φ (Bd.iy i)))(hn:n≤16)(hu:av w u vars)(hv:∀v∈vars,v<n)(hl:vars.length≤1000) :
 Calls Tryz.prog 18 #[x,u] w fun r w'=>∃o,r=.returned o∧Tb w' o (2^n) (fun i=>Bd.eP vars φ (Bd.iy i))∧Below w.heap.size w w':=by
 obtain⟨F,HF⟩:=aJ (fun(r:Ending)(w':World)=>∃o,r=.returned o∧Tb w' o (2^n) (fun i=>Bd.eP vars φ (Bd.iy i))∧Below w.heap.size w w');rw[←HF.out];obtain⟨pu,cu,rfl⟩:=hu.shape;obtain⟨m,hm⟩:∃m,m=vars.length:=⟨_,rfl⟩;rw[←hm]at hu hl⊢;have Za:2^n≤100000:=Nat.le_trans (Nat.pow_le_pow_right (n:=2) (by decide) hn) (by decide);have HH:=Lib.hid (And.intro hu (And.intro hm (And.intro hv (And.intro hx Za))));clear hu hm hv hx Za;go_in;go_wp2_with fail
 go_loopg [0,6,9,10,11,12,13,14,15,16,17,18,19,20] m (fun q v0 v6 v9 v10 v11 v12 v13 v14 v15 v16 v17 v18 v19 v20 wr=>∃j:Nat,q=m-j∧j≤m∧v9=.int .i64 (j:Nat)∧Tb wr v0 (2^n) (fun i=>Bd.eP (vars.take j) φ (Bd.iy i))∧Below w.heap.size w wr)
 case atStart=>exact⟨0,rfl,Nat.zero_le _,rfl,HH.out.2.2.2.1,Below.refl _ _⟩
 case round=>
  obtain⟨j,rfl,hj,rfl,htb,hb⟩:=hrel
  by_cases hlt:j<m
  ·have hji:(j:Int)<(m:Int):=by omega
   obtain⟨g,a,hpp,hgl,ha,hcell⟩:=(HH.out.1.below hb).wN HH.out.2.1 hlt;subst hpp;have han:=HH.out.2.2.1 a (List.mem_of_getElem? ha);obtain⟨N,hN⟩:∃N,N=2^n:=⟨_,rfl⟩;have hNb:N≤100000:=by rw[hN];exact HH.out.2.2.2.2
   have hin:∀(yes:Bool) i,i<N→Bd.jX i a yes<N:=fun yes i hi=>by rw[hN]at hi⊢;exact Bd.Mj hi han
   rw[←hN]at htb;have c1:=zh htb hNb a (by omega) false (hin false);have EP:=Lib.hid c1;have HT:=Lib.hid (And.intro htb (And.intro hb hin));have Ej:=Lib.hid hN
   have HX:=Lib.hid (show ∀i,Bd.eP (vars.take (j+1)) φ (Bd.iy i)=(Bd.eP (vars.take j) φ (Bd.iy (Bd.jX i a false))||Bd.eP (vars.take j) φ (Bd.iy (Bd.jX i a true)))from fun i=>by
    rw[List.take_add_one,ha,Option.toList_some,Bd.GU,Rz (n:=n)];rfl)
   have ha16:a≤16:=by omega
   clear ha han hN hin htb hb c1;go_wp2_with fail;refine(EP.out).mono ?_;rintro r w2 ⟨o2,rfl,ho2,hb2⟩;have c2:=zh (HT.out.1.below hb2) hNb a ha16 true (HT.out.2.2 true);have um:=Lib.hid c2;have H2:=Lib.hid (And.intro ho2.tb hb2);clear c2 ho2 hb2 EP;go_wp2_with fail;refine(um.out).mono ?_;rintro r w3 ⟨o3,rfl,ho3,hb3⟩;have c3:=OL (H2.out.1.below hb3) ho3.tb hNb;have HC3:=Lib.hid c3;have H3:=Lib.hid (HT.out.2.1.trans ((H2.out.2.trans (hb3.mono H2.out.2.size)).mono HT.out.2.1.size));clear c3 ho3 hb3 um;go_wp2_with fail;refine(HC3.out).mono ?_;rintro r w4 ⟨o4,rfl,LD,hb4⟩;have H4:=Lib.hid (show Tb w4 o4 (2^n) (fun i=>Bd.eP (vars.take (j+1)) φ (Bd.iy i))∧Below w.heap.size w w4 from⟨by rw[←Ej.out];exact LD.tb.congr (fun i hi=>HX.out i),H3.out.trans (hb4.mono H3.out.size)⟩);clear LD hb4 HC3;go_wp2_with fail
   go_roundg (m-(j+1))
   case rel=>exact⟨j+1,rfl,by omega,by go_num,H4.out⟩
   case measure=>omega
  ·obtain rfl:j=m:=by omega
   have hall:vars.take j=vars:=List.take_of_length_le (by rw[←HH.out.2.1];exact Nat.le_refl _);have HT:=Lib.hid (And.intro htb hb);clear htb hb;go_wp2_with fail;rw[HF.out];exact⟨_,rfl,by have:=HT.out.1;rw[hall]at this;exact this,HT.out.2⟩
end
section
variable {K:Nat→Nat} {w:World} {p n room h:Nat} {M:Bd.MS} {g:Nat→Bool} {φ:Bd.BF} {x:Value}
theorem La(hm:aX K w p n room M){k:Nat}(hk:k≤1000000)(hl:M.H.length≤1000000) :
 Calls Tryz.prog 19 #[.pointer (some ⟨p,0,none⟩),.int .i64 (k:Nat)] w fun r w'=>r=.returned (.bool (decide (M.H.length=k+2)))∧w'=w:=by
 obtain⟨F,HF⟩:=aJ (fun(r:Ending)(w':World)=>r=.returned (.bool (decide (M.H.length=k+2)))∧w'=w);rw[←HF.out];obtain⟨t,hm,hg⟩:=hm;have cH:=Ar hm;obtain⟨z,hz⟩:∃z,z=M.H.length:=⟨_,rfl⟩;rw[←hz]at cH hl HF;have HC:=Lib.hid cH;clear cH hm hz hg;go_in
 go_wp2_with (go_at_call 65;with_reducible refine(HC.out).mono ?_;rintro r w' ⟨rfl,hw⟩;rw[hw];clear hw)
 rw[HF.out]
 have h9:((z:Int)==(k:Int)+2)=decide (z=k+2):=by
  rw[Bool.eq_iff_iff];simp only[beq_iff_eq,decide_eq_true_eq];omega
 rw[←h9];exact⟨rfl,rfl⟩
/-- A handle is what the table says. -/
theorem RA(hi:Bd.Inv n room M)(hn:n≤16)(hrm:room≤1048576)(hx:M.next≤1000000000)(hh:Hn M h φ)(hm:aX K w p n room M)(ht:Tb w x (2^n) g)(hgf:∀i,i<2^n→g i=φ (Bd.iy i))(Tv:Bd.pK n φ) :
 Calls Tryz.prog 17 #[.pointer (some ⟨p,0,none⟩),.int .i64 (h:Nat),x] w fun r w'=>r=.returned (.bool true)∧Below w.heap.size w w':=by
 obtain⟨F,HF⟩:=aJ (fun(r:Ending)(w':World)=>r=.returned (.bool true)∧Below w.heap.size w w');rw[←HF.out];obtain⟨t,hm,hgd⟩:=hm;obtain⟨e,hme,hde⟩:=hh;obtain⟨bx,cx,rfl⟩:=ht.shape;have cV:=oD hm;have cC:=tZ false n hn;obtain⟨N,hN⟩:∃N,N=2^n:=⟨_,rfl⟩;rw[←hN]at ht hgf cC⊢;have hNb:N≤65536:=by rw[hN];exact Nat.pow_le_pow_right (n:=2) (by decide) hn
 have HH:=Lib.hid (And.intro hi (And.intro hme (And.intro hde (And.intro hm (And.intro ht (And.intro hgf Tv))))));have HV:=Lib.hid cV;have HC:=Lib.hid cC;clear hi hme hde hm ht hgf Tv cV cC hgd hN;go_in
 go_wp2_with (go_at_call 41;with_reducible refine(HV.out).mono ?_;rintro r w' ⟨rfl,hw⟩;rw[hw];clear hw)
 refine(HC.out w).mono ?_;rintro r w2 ⟨o2,rfl,ho2,hb2⟩;obtain⟨b2,c2,hs2⟩:=ho2.tb.shape;subst hs2;have HB2:=Lib.hid hb2;clear ho2 hb2;go_wp2_with fail
 go_loopg [8,9,10,21,22,23,24,25,26,27,28,29,30,31,32,33,34,35,36,37,38,39,40,41,42,43,44] N (fun q v8 v9 v10 v21 v22 v23 v24 v25 v26 v27 v28 v29 v30 v31 v32 v33 v34 v35 v36 v37 v38 v39 v40 v41 v42 v43 v44 wr=>∃i:Nat,q=N-i∧i≤N∧v21=.int .i64 (i:Nat)∧Below w.heap.size w wr)
 case atStart=>exact⟨0,rfl,Nat.zero_le _,rfl,HB2.out⟩
 case round=>
  obtain⟨i,rfl,hi,rfl,hb⟩:=hrel
  by_cases hlt:i<N
  ·have hii:(i:Int)<(N:Int):=by omega
   have hcell:=(HH.out.2.2.2.2.1.below hb).cell hlt;have hlb:=(HH.out.2.2.2.2.1.below hb).lt;rw[HH.out.2.2.2.2.2.1 i hlt]at hcell;have cO:=OM i n (by omega) (by omega) wr;have HO:=Lib.hid cO;have HB:=Lib.hid hb;obtain⟨bv,hbv⟩:∃bv,bv=φ (Bd.iy i):=⟨_,rfl⟩;rw[←hbv]at hcell;have HBV:=Lib.hid hbv;clear cO hb hbv;go_wp2_with fail;refine(HO.out).mono ?_;rintro r w5 ⟨o5,rfl,Ls,hb5⟩;have hbb:=HB.out.trans (hb5.mono HB.out.size);have cE:=J4 HH.out.1 (by omega) hrm hx HH.out.2.1 (HH.out.2.2.2.1.below hbb) (v:=o5) (l:=gZ i n) Ls.bools (by rw[d_];omega);have OQ:w5.cell? ⟨bx,i,none⟩=some (.bool bv):=(hb5.cell (p:=⟨bx,i,none⟩) hlb).trans hcell;have Vs:bx<w5.heap.size:=Nat.lt_of_lt_of_le hlb hb5.size;rw[HH.out.2.2.1,show φ (fun q=>(gZ i n).getD q false)=bv by rw[HBV.out];exact HH.out.2.2.2.2.2.2 _ _ (fun v hv=>DK hv)]at cE;have HE:=Lib.hid cE;have mU:=Lib.hid hbb;clear Ls hb5 hbb cE hcell hlb;go_wp2_with fail;refine(HE.out).mono ?_;rintro r w6 ⟨rfl,hb6⟩;have OT:w6.cell? ⟨bx,i,none⟩=some (.bool bv):=(hb6.cell (p:=⟨bx,i,none⟩) Vs).trans OQ;have ab6:bx<w6.heap.size:=Nat.lt_of_lt_of_le Vs hb6.size;have BH:=Lib.hid (mU.out.trans (hb6.mono mU.out.size));have hbe:(bv != bv)=false:=by simp
   clear hb6 OQ Vs;go_wp2_with fail
   go_roundg (N-(i+1))
   case rel=>exact⟨i+1,rfl,by omega,by go_num,BH.out⟩
   case measure=>omega
  ·obtain rfl:i=N:=by omega
   have HB:=Lib.hid hb;clear hb;go_wp2_with fail;rw[HF.out];exact⟨rfl,HB.out⟩
end
end
section
/-- The client's handles and their functions: all that the manager has given,but the constants. -/
structure Cli(n room:Nat)(M:Bd.MS)(hs:List (Nat×Bd.BF)):Prop where
 inv:Bd.Inv n room M
 fn:∀q∈hs,Hn M q.1 q.2
 all:∀a e,(a,e)∈M.H→a=0∨a=1∨a∈hs.map (·.1)
 big:∀q∈hs,1<q.1
 nd:(hs.map (·.1)).Nodup
section
variable {n room:Nat} {M M':Bd.MS} {hs:List (Nat×Bd.BF)} {ψ φ χ:Bd.BF} {a b r:Nat}
theorem Inv.two(hi:Bd.Inv n room M):2≤M.next:=hi.hn 1 0 hi.h1
theorem Gj:∀{l m:List Nat},l.Nodup→m.Nodup→(∀x,x∈l→x∈m)→(∀x,x∈m→x∈l)→l.length=m.length:=fun{l m} hl hm h1 h2=>by
 have key:∀(l m:List Nat),l.Nodup→(∀x,x∈l→x∈m)→l.length≤m.length:=by
  intro l
  induction l with
  |nil=>intro m _ _;exact Nat.zero_le _
  |cons a l ih=>
   intro m hl h;rw[List.nodup_cons]at hl;have Ta:=h a (List.mem_cons_self ..)
   have h3:=ih (m.erase a) hl.2 (fun x hx=>by
    have hxa:x≠a:=fun e=>hl.1 (e ▸ hx)
    exact(List.mem_erase_of_ne hxa).2 (h x (List.mem_cons_of_mem _ hx)))
   rw[List.length_erase_of_mem Ta]at h3;have:0<m.length:=List.length_pos_of_mem Ta;simp only[List.length_cons];omega
 exact Nat.le_antisymm (key l m hl h1) (key m l hm h2)
theorem Cli.len(h:Cli n room M hs):M.H.length=hs.length+2:=by
 have h1:=Gj (l:=M.H.map (·.1)) (m:=0::1::hs.map (·.1)) h.inv.hd (by
  rw[List.nodup_cons,List.nodup_cons];refine⟨fun h9=>?_,fun h9=>?_,h.nd⟩
  ·rcases List.mem_cons.1 h9 with h9|h9
   ·omega
   ·obtain⟨q,hq,e⟩:=List.mem_map.1 h9;have:=h.big q hq;omega
  ·obtain⟨q,hq,e⟩:=List.mem_map.1 h9
   have:=h.big q hq;omega) (fun x hx=>by
  obtain⟨⟨x1,e⟩,hq,rfl⟩:=List.mem_map.1 hx
  rcases h.all x1 e hq with h9|h9|h9
  ·simp only;rw[h9];exact List.mem_cons_self ..
  ·simp only;rw[h9];exact List.mem_cons_of_mem _ (List.mem_cons_self ..)
  ·exact List.mem_cons_of_mem _ (List.mem_cons_of_mem _ h9)) (fun x hx=>by
  rcases List.mem_cons.1 hx with rfl|hx
  ·exact List.mem_map.2 ⟨_,h.inv.h0,rfl⟩
  ·rcases List.mem_cons.1 hx with rfl|hx
   ·exact List.mem_map.2 ⟨_,h.inv.h1,rfl⟩
   ·obtain⟨q,hq,rfl⟩:=List.mem_map.1 hx;obtain⟨e,he,-⟩:=h.fn q hq
    exact List.mem_map.2 ⟨_,he,rfl⟩)
 simp only[List.length_map,List.length_cons]at h1;exact h1
theorem Cli.Bp(h:Cli n room M hs):Hn M 0 (fun _=>false):=⟨1,h.inv.h0,funext fun a=>Bd.iF h.inv.gi a⟩
theorem Cli.wS(h:Cli n room M hs):Hn M 1 (fun _=>true):=⟨0,h.inv.h1,funext fun a=>Bd.ku h.inv.gi a⟩
theorem Cli.get(h:Cli n room M hs)(g:Gets n room M M' ψ):Cli n room M' ((M.next,ψ)::hs):=by
 refine⟨g.inv,fun q hq=>?_,fun a e ha=>?_,fun q hq=>?_,?_⟩
 ·rcases List.mem_cons.1 hq with rfl|hq
  ·exact g.new
  ·exact g.old _ _ (h.fn q hq)
 ·rcases g.mem a ⟨e,ha⟩with h9|⟨f,hf⟩
  ·exact .inr (.inr (by rw[List.map_cons,h9];exact List.mem_cons_self ..))
  ·rcases h.all a f hf with h9|h9|h9
   ·exact .inl h9
   ·exact .inr (.inl h9)
   ·exact .inr (.inr (List.mem_cons_of_mem _ h9))
 ·rcases List.mem_cons.1 hq with rfl|hq
  ·exact Inv.two h.inv
  ·exact h.big q hq
 ·rw[List.map_cons,List.nodup_cons];refine⟨fun h9=>?_,h.nd⟩;obtain⟨q,hq,e⟩:=List.mem_map.1 h9;obtain⟨f,hf,-⟩:=h.fn q hq;have:=h.inv.hn _ _ hf;omega
theorem Cli.perm{hs':List (Nat×Bd.BF)}(h:Cli n room M hs)(hp:hs.Perm hs'):Cli n room M hs':=⟨h.inv,fun q hq=>h.fn q (hp.mem_iff.2 hq),fun a e ha=>by
 rcases h.all a e ha with h9|h9|h9
 ·exact .inl h9
 ·exact .inr (.inl h9)
 ·exact .inr (.inr ((hp.map _).mem_iff.1 h9)),fun q hq=>h.big q (hp.mem_iff.2 hq),(hp.map _).nodup_iff.1 h.nd⟩
/-- The first handles are dropped. -/
theorem Cli.drops{l:List (Nat×Bd.BF)}(h:Cli n room M (l++hs)):Cli n room (drops n M (l.map (·.1))) hs:=by
 have abj:∀x,x∈l.map (·.1)→x∉hs.map (·.1):=fun x h1 h2=>by
  have:=h.nd;rw[List.map_append,List.nodup_append]at this;exact this.2.2 x h1 x h2 rfl
 refine⟨yP h.inv _,fun q hq=>?_,fun a e ha=>?_,fun q hq=>h.big q (List.mem_append_right _ hq),?_⟩
 ·obtain⟨e,h1,h2⟩:=h.fn q (List.mem_append_right _ hq);refine⟨e,(sP h.inv).2 ⟨h1,fun x hx _ e9=>abj x hx (by rw[←e9];exact List.mem_map.2 ⟨q,hq,rfl⟩)⟩,?_⟩;rw[(iY n M _).2.2.1];exact h2
 ·obtain⟨h1,h2⟩:=(sP h.inv).1 ha
  rcases h.all a e h1 with h9|h9|h9
  ·exact .inl h9
  ·exact .inr (.inl h9)
  ·rw[List.map_append]at h9
   rcases List.mem_append.1 h9 with h9|h9
   ·obtain⟨q,hq,e9⟩:=List.mem_map.1 h9;exact absurd e9.symm (h2 q.1 (List.mem_map.2 ⟨q,hq,rfl⟩) (h.big q (List.mem_append_left _ hq)))
   ·exact .inr (.inr h9)
 ·have:=h.nd;rw[List.map_append,List.nodup_append]at this;exact this.2.1
theorem Cli.mem(h:Cli n room M hs){q:Nat×Bd.BF}(hq:q∈hs):∃e,(q.1,e)∈M.H:=by
 obtain⟨e,h1,-⟩:=h.fn q hq;exact⟨e,h1⟩
end
/-- The client is given a handle. -/
def Gl(K:Nat→Nat)(w:World)(p n room:Nat)(M:Bd.MS)(hs:List (Nat×Bd.BF))(ψ:Bd.BF)(r:Ending)(w':World):Prop:=
 ∃h M' K',r=.returned (.tuple #[.int .i64 (h:Nat),.int .i64 0])∧Cli n room M' ((h,ψ)::hs)∧aX K' w' p n room M'∧aj mX K w K' w'∧M'.next=M.next+1∧∃l,M.waits=l++M'.waits
section
variable {K:Nat→Nat} {w:World} {p n room a:Nat} {M:Bd.MS} {hs l:List (Nat×Bd.BF)} {ψ φ:Bd.BF}
theorem xH.cli{r:Ending}{w':World}(h:Cli n room M hs)(g:xH K w p n room M ψ r w'):Gl K w p n room M hs ψ r w':=by
 obtain⟨e,M',K',g,m,t⟩:=g;exact⟨_,M',K',e,h.get g,m,t,g.next,g.ws⟩
theorem aj.mX{K':Nat→Nat}{w':World}(h:aj mR K w K' w'):aj mX K w K' w':=h.mono (fun r hr=>.inl hr)
theorem Cli.give{e:Nat}(h:Cli n room M hs)(ho:Bd.ok M.S.nd e):Gets n room M (M.give n e) (Bd.De M.D e):=Gets.give h.inv fF.refl h.inv ho rfl
theorem tu(h:Cli n room M hs)(hn:n≤1000000)(hrm:room≤1048576)(hx:M.next≤1000000000)(ha:Hn M a φ)(hm:aX K w p n room M) :
 Calls Tryz.prog 101 #[.pointer (some ⟨p,0,none⟩),.int .i64 (a:Nat)] w (Gl K w p n room M hs (fun s=>!φ s)):=by
 obtain⟨e,he,hφ⟩:=ha;obtain⟨t,hm,hg⟩:=hm;refine(NQ h.inv hn hrm hx he hm).mono ?_;rintro r w' ⟨rfl,K',hm',tt⟩;have hok:Bd.ok M.S.nd (Bd.neg e):=Bd.uy (h.inv.ho a e he);have g:=h.give hok;rw[show Bd.De M.D (Bd.neg e)=(fun s=>!φ s)from funext fun s=>by rw[Bd.rR,hφ]]at g;exact⟨_,_,K',rfl,h.get g,⟨t,hm',hg.give⟩,tt.mX,g.next,g.ws⟩
theorem jQ(h:Cli n room M hs)(hn:n≤1000000)(hrm:room≤1048576)(hx:M.next≤1000000000)(ha:Hn M a φ)(hm:aX K w p n room M) :
 Calls Tryz.prog 99 #[.pointer (some ⟨p,0,none⟩),.int .i64 (a:Nat)] w (Gl K w p n room M hs φ):=by
 obtain⟨e,he,hφ⟩:=ha;obtain⟨t,hm,hg⟩:=hm;refine(JY h.inv hn hrm hx he hm).mono ?_;rintro r w' ⟨rfl,K',hm',tt⟩;have g:=h.give (h.inv.ho a e he);rw[hφ]at g;exact⟨_,_,K',rfl,h.get g,⟨t,hm',hg.give⟩,tt.mX,g.next,g.ws⟩
theorem eO(h:Cli n room M (l++hs))(hn:n≤1000000)(hrm:room≤1048576)(hx:M.next≤1000000000)(hl:l.length≤1000)(hm:aX K w p n room M){v:Value}(hv:av w v (l.map (·.1)))(mK:j4 K 0 v) :
 Calls Tryz.prog 16 #[.pointer (some ⟨p,0,none⟩),v] w fun r w'=>r=.returned (.int .i64 0)∧∃M' K',Cli n room M' hs∧aX K' w' p n room M'∧aj mX K w K' w'∧M'.next=M.next∧M'.waits=M.waits:=by
 obtain⟨t,hm,hg⟩:=hm
 have hnd:(l.map (·.1)).Nodup:=by
  have:=h.nd;rw[List.map_append,List.nodup_append]at this;exact this.1
 refine(yQ h.inv hn hrm hx hnd (fun a ha=>by
  obtain⟨q,hq,rfl⟩:=List.mem_map.1 ha
  exact h.mem (List.mem_append_left _ hq)) (by rw[List.length_map];omega) hm hv mK).mono ?_
 rintro r w' ⟨rfl,K',hm',tt⟩;obtain⟨e1,e2,e3,e4,e5,e6⟩:=iY n M (l.map (·.1));exact⟨rfl,_,K',h.drops,⟨t,hm',hg.same e6 e3 e4⟩,tt.mX,e1,e2⟩
end
end
section
/-- Two handles have become one. -/
def wT(K:Nat→Nat)(w:World)(p n room:Nat)(M:Bd.MS)(hs:List (Nat×Bd.BF))(ψ:Bd.BF)(r:Ending)(w':World):Prop:=
 ∃h M' K',r=.returned (.tuple #[.int .i64 (h:Nat),.bool true])∧Cli n room M' ((h,ψ)::hs)∧aX K' w' p n room M'∧aj mX K w K' w'∧M'.next≤M.next+2∧∃l,M.waits=l++M'.waits
section
variable {K:Nat→Nat} {w w':World} {p n room a b:Nat} {M:Bd.MS} {hs:List (Nat×Bd.BF)} {ψ φ χ:Bd.BF}
theorem bG{o:Obj}(hm:aX K w p n room M)(hw:w'=w.alloc o):aX (bJ K w.heap.size 0) w' p n room M∧aj mX K w (bJ K w.heap.size 0) w':=by
 have t:∀R:Nat→Prop,aj R K w (bJ K w.heap.size 0) w':=fun R=>by rw[hw];exact(aj.refl.alloc o).new (Nat.le_refl _)
 exact⟨hm.aG (t (fun _=>False)) (fun _ h=>h.elim),t _⟩
theorem lu{x y g:Nat}(h:w.heap[g]?=some (.cells #[.int .i64 (x:Nat),.int .i64 (y:Nat)] 3 (0,0))):av w (.slice (some ⟨g,0,none⟩) 2 2) [x,y]:=by
 refine .inr ⟨g,2,rfl,⟨_,h,by simp,fun i hi j hj=>?_⟩,Nat.le_refl _⟩;obtain rfl:j=0:=by omega
 simp only[List.length_cons,List.length_nil,Nat.zero_add,Nat.reduceAdd]at hi
 rcases(show i=0∨i=1 by omega)with rfl|rfl<;>rfl
theorem oN{x g:Nat}(h:w.heap[g]?=some (.cells #[.int .i64 (x:Nat)] 3 (0,0))):av w (.slice (some ⟨g,0,none⟩) 1 1) [x]:=by
 refine .inr ⟨g,1,rfl,⟨_,h,by simp,fun i hi j hj=>?_⟩,Nat.le_refl _⟩;obtain rfl:j=0:=by omega
 simp only[List.length_cons,List.length_nil,Nat.zero_add]at hi;obtain rfl:i=0:=by omega
 rfl
theorem zu{α:Type}(x y z:α)(l:List α):(x::y::z::l).Perm ([z,y]++x::l):=by
 show(x::y::z::l).Perm (z::y::x::l);exact((List.Perm.swap y x (z::l)).trans ((List.Perm.swap z x l).cons y)).trans (List.Perm.swap z y (x::l))
theorem oO{k h N room:Nat}(h1:k≤h)(h2:(h+1)*N≤room):k*(N-1)+(N-1)≤room:=by
 have h3:k*(N-1)+(N-1)=(k+1)*(N-1):=by rw[Nat.add_mul,Nat.one_mul]
 rw[h3];exact Nat.le_trans (Nat.mul_le_mul (by omega) (Nat.sub_le _ _)) h2
theorem Cli.re{l:List (Nat×Bd.BF)}{h:Nat}{ψ':Bd.BF}(hc:Cli n room M ((h,ψ')::l))(he:∀s,ψ' s=ψ s):Cli n room M ((h,ψ)::l):=by rw[←funext he];exact hc
theorem lC{op:Int}(hop:op=5∨op=6∨op=8∨op=7∨op=9)(hc:Cli n room M ((b,χ)::(a,φ)::hs))(h0:0<n)(hn:n≤64)(hrm:room≤1048576)(hx:M.next≤900000000)(hroom:(hs.length+6)*2^n≤room)(hm:aX K w p n room M) :
 Calls Tryz.prog 100 #[.pointer (some ⟨p,0,none⟩),.int .i64 op,.int .i64 (a:Nat),.int .i64 (b:Nat)] w (wT K w p n room M hs (fun s=>Bd.cZ op (φ s) (χ s))):=by
 obtain⟨F,HF⟩:=aJ (wT K w p n room M hs (fun s=>Bd.cZ op (φ s) (χ s)));rw[←HF.out];have HB:=Lib.hid (And.intro h0 (And.intro hn (And.intro hrm (And.intro hx hroom))));have HC:=Lib.hid hc;have yG:=Lib.hid hm;have HFA:=Lib.hid (hc.fn (a,φ) (by simp));have Zb:=Lib.hid (hc.fn (b,χ) (by simp));have HLEN:=Lib.hid hc.len;clear hc hm h0 hn hrm hx hroom;go_in
 rcases hop with rfl|rfl|rfl|rfl|rfl
 ·have cI:=(kV HC.out.inv HB.out.1 HB.out.2.1 HB.out.2.2.1 (by have:=HB.out.2.2.2.1;omega) (oO (h:=hs.length+5) (by rw[HLEN.out];simp) HB.out.2.2.2.2) HFA.out Zb.out HC.out.Bp yG.out);have HI:=Lib.hid cI;clear cI
  go_wp2_with (refine(HI.out).mono ?_)
  intro r w1 hq1;obtain⟨h,M1,K1,rfl,hc1,hm1,ht1,hx1,hw1⟩:=hq1.cli HC.out;obtain⟨ψ,hψ⟩:∃ψ:Bd.BF,ψ=(fun s=>if φ s then χ s else false):=⟨_,rfl⟩;have hc1:Cli n room M1 ((h,ψ)::(b,χ)::(a,φ)::hs):=hc1.re (fun s=>by rw[hψ]<;>(cases hq:φ s<;>simp[hq]));rw[show(fun s=>Bd.cZ 5 (φ s) (χ s))=ψ by rw[hψ];funext s;simp[Bd.cZ]]at HF;have lH:=Lib.hid hc1;have HM:=Lib.hid hm1;have HT:=Lib.hid ht1;have HN:=Lib.hid (show M1.next≤M.next+2 by omega);have HW:=Lib.hid hw1;clear hc1 hm1 ht1 hx1 hw1 hψ hq1;obtain⟨b8,gY⟩:∃b8,b8=w1.heap.size:=⟨_,rfl⟩;obtain⟨w8,hw8⟩:∃w8,w8=w1.alloc (.cells #[.int .i64 (a:Nat),.int .i64 (b:Nat)] 3):=⟨_,rfl⟩;obtain⟨rF,zy⟩:=bG HM.out hw8;have cD:=eO (l:=[(a,φ),(b,χ)]) (hs:=(h,ψ)::hs) (lH.out.perm (zu _ _ _ _)) (by have:=HB.out.2.1;omega) HB.out.2.2.1 (by have:=HN.out;have:=HB.out.2.2.2.1;omega) (by simp) rF (v:=.slice (some ⟨b8,0,none⟩) 2 2) (lu (by rw[hw8,gY];exact heap_alloc_new _ _)) (fun g m c e=>by injection e with e;injection e with e;injection e with e;rw[←e,gY];exact aW _ _ _);have HD:=Lib.hid cD;have RB:=Lib.hid (HT.out.trans zy);clear cD rF zy
  go_wp2_with (rw[←hw8,←gY];clear hw8 gY;refine(HD.out).mono ?_)
  rintro r w9 ⟨rfl,M9,K9,xM,rG,tF,wZ,tH⟩;have H9:=Lib.hid (show wT K w p n room M hs ψ (.returned (.tuple #[.int .i64 (h:Nat),.bool true])) w9 from⟨h,M9,K9,rfl,xM,rG,RB.out.trans tF,by rw[wZ];have:=HN.out;omega,by rw[tH];exact HW.out⟩);clear xM rG tF wZ tH;go_wp2_with fail;rw[HF.out];exact H9.out
 ·have cI:=(kV HC.out.inv HB.out.1 HB.out.2.1 HB.out.2.2.1 (by have:=HB.out.2.2.2.1;omega) (oO (h:=hs.length+5) (by rw[HLEN.out];simp) HB.out.2.2.2.2) HFA.out HC.out.wS Zb.out yG.out);have HI:=Lib.hid cI;clear cI
  go_wp2_with (refine(HI.out).mono ?_)
  intro r w1 hq1;obtain⟨h,M1,K1,rfl,hc1,hm1,ht1,hx1,hw1⟩:=hq1.cli HC.out;obtain⟨ψ,hψ⟩:∃ψ:Bd.BF,ψ=(fun s=>if φ s then true else χ s):=⟨_,rfl⟩;have hc1:Cli n room M1 ((h,ψ)::(b,χ)::(a,φ)::hs):=hc1.re (fun s=>by rw[hψ]<;>(cases hq:φ s<;>simp[hq]));rw[show(fun s=>Bd.cZ 6 (φ s) (χ s))=ψ by rw[hψ];funext s;simp[Bd.cZ]]at HF;have lH:=Lib.hid hc1;have HM:=Lib.hid hm1;have HT:=Lib.hid ht1;have HN:=Lib.hid (show M1.next≤M.next+2 by omega);have HW:=Lib.hid hw1;clear hc1 hm1 ht1 hx1 hw1 hψ hq1;obtain⟨b8,gY⟩:∃b8,b8=w1.heap.size:=⟨_,rfl⟩;obtain⟨w8,hw8⟩:∃w8,w8=w1.alloc (.cells #[.int .i64 (a:Nat),.int .i64 (b:Nat)] 3):=⟨_,rfl⟩;obtain⟨rF,zy⟩:=bG HM.out hw8;have cD:=eO (l:=[(a,φ),(b,χ)]) (hs:=(h,ψ)::hs) (lH.out.perm (zu _ _ _ _)) (by have:=HB.out.2.1;omega) HB.out.2.2.1 (by have:=HN.out;have:=HB.out.2.2.2.1;omega) (by simp) rF (v:=.slice (some ⟨b8,0,none⟩) 2 2) (lu (by rw[hw8,gY];exact heap_alloc_new _ _)) (fun g m c e=>by injection e with e;injection e with e;injection e with e;rw[←e,gY];exact aW _ _ _);have HD:=Lib.hid cD;have RB:=Lib.hid (HT.out.trans zy);clear cD rF zy
  go_wp2_with (rw[←hw8,←gY];clear hw8 gY;refine(HD.out).mono ?_)
  rintro r w9 ⟨rfl,M9,K9,xM,rG,tF,wZ,tH⟩;have H9:=Lib.hid (show wT K w p n room M hs ψ (.returned (.tuple #[.int .i64 (h:Nat),.bool true])) w9 from⟨h,M9,K9,rfl,xM,rG,RB.out.trans tF,by rw[wZ];have:=HN.out;omega,by rw[tH];exact HW.out⟩);clear xM rG tF wZ tH;go_wp2_with fail;rw[HF.out];exact H9.out
 ·have cI:=(kV HC.out.inv HB.out.1 HB.out.2.1 HB.out.2.2.1 (by have:=HB.out.2.2.2.1;omega) (oO (h:=hs.length+5) (by rw[HLEN.out];simp) HB.out.2.2.2.2) HFA.out Zb.out HC.out.wS yG.out);have HI:=Lib.hid cI;clear cI
  go_wp2_with (refine(HI.out).mono ?_)
  intro r w1 hq1;obtain⟨h,M1,K1,rfl,hc1,hm1,ht1,hx1,hw1⟩:=hq1.cli HC.out;obtain⟨ψ,hψ⟩:∃ψ:Bd.BF,ψ=(fun s=>if φ s then χ s else true):=⟨_,rfl⟩;have hc1:Cli n room M1 ((h,ψ)::(b,χ)::(a,φ)::hs):=hc1.re (fun s=>by rw[hψ]<;>(cases hq:φ s<;>simp[hq]));rw[show(fun s=>Bd.cZ 8 (φ s) (χ s))=ψ by rw[hψ];funext s;simp[Bd.cZ]]at HF;have lH:=Lib.hid hc1;have HM:=Lib.hid hm1;have HT:=Lib.hid ht1;have HN:=Lib.hid (show M1.next≤M.next+2 by omega);have HW:=Lib.hid hw1;clear hc1 hm1 ht1 hx1 hw1 hψ hq1;obtain⟨b8,gY⟩:∃b8,b8=w1.heap.size:=⟨_,rfl⟩;obtain⟨w8,hw8⟩:∃w8,w8=w1.alloc (.cells #[.int .i64 (a:Nat),.int .i64 (b:Nat)] 3):=⟨_,rfl⟩;obtain⟨rF,zy⟩:=bG HM.out hw8;have cD:=eO (l:=[(a,φ),(b,χ)]) (hs:=(h,ψ)::hs) (lH.out.perm (zu _ _ _ _)) (by have:=HB.out.2.1;omega) HB.out.2.2.1 (by have:=HN.out;have:=HB.out.2.2.2.1;omega) (by simp) rF (v:=.slice (some ⟨b8,0,none⟩) 2 2) (lu (by rw[hw8,gY];exact heap_alloc_new _ _)) (fun g m c e=>by injection e with e;injection e with e;injection e with e;rw[←e,gY];exact aW _ _ _);have HD:=Lib.hid cD;have RB:=Lib.hid (HT.out.trans zy);clear cD rF zy
  go_wp2_with (rw[←hw8,←gY];clear hw8 gY;refine(HD.out).mono ?_)
  rintro r w9 ⟨rfl,M9,K9,xM,rG,tF,wZ,tH⟩;have H9:=Lib.hid (show wT K w p n room M hs ψ (.returned (.tuple #[.int .i64 (h:Nat),.bool true])) w9 from⟨h,M9,K9,rfl,xM,rG,RB.out.trans tF,by rw[wZ];have:=HN.out;omega,by rw[tH];exact HW.out⟩);clear xM rG tF wZ tH;go_wp2_with fail;rw[HF.out];exact H9.out
 ·have cN:=tu HC.out (by have:=HB.out.2.1;omega) HB.out.2.2.1 (by have:=HB.out.2.2.2.1;omega) Zb.out yG.out;have Ej:=Lib.hid cN;clear cN
  go_wp2_with (refine(Ej.out).mono ?_)
  rintro r w1 ⟨nn,M1,K1,rfl,hc1,hm1,ht1,hx1,hw1⟩;have Vt:=Lib.hid (hc1.fn (a,φ) (by simp));have Vw:=Lib.hid (hc1.fn (b,χ) (by simp));have Vz:=Lib.hid (hc1.fn (nn,fun s=>!χ s) (by simp));have cI:=(kV hc1.inv HB.out.1 HB.out.2.1 HB.out.2.2.1 (by have:=HB.out.2.2.2.1;omega) (oO (h:=hs.length+5) (by rw[hc1.len];simp) HB.out.2.2.2.2) Vt.out Vz.out Vw.out hm1);have HI:=Lib.hid cI;have H1:=Lib.hid (And.intro hc1 (And.intro ht1 (And.intro hx1 hw1)));clear cI hc1 hm1 ht1 hx1 hw1
  go_wp2_with (refine(HI.out).mono ?_)
  intro r w2 hq2;obtain⟨h,M2,K2,rfl,hc2,hm2,ht2,hx2,hw2⟩:=hq2.cli H1.out.1;obtain⟨ψ,hψ⟩:∃ψ:Bd.BF,ψ=(fun s=>if φ s then !χ s else χ s):=⟨_,rfl⟩;have hc2:Cli n room M2 ((h,ψ)::(nn,fun s=>!χ s)::(b,χ)::(a,φ)::hs):=hc2.re (fun s=>by rw[hψ]<;>(cases hq:φ s<;>simp[hq]));rw[show(fun s=>Bd.cZ 7 (φ s) (χ s))=ψ by rw[hψ];funext s;simp[Bd.cZ]]at HF;obtain⟨b3,hb3⟩:∃b3,b3=w2.heap.size:=⟨_,rfl⟩;obtain⟨w3,hw3⟩:∃w3,w3=w2.alloc (.cells #[.int .i64 (nn:Nat)] 3):=⟨_,rfl⟩;obtain⟨w_,ht3⟩:=bG hm2 hw3;have cE:=eO (l:=[(nn,fun s=>!χ s)]) (hs:=(h,ψ)::(b,χ)::(a,φ)::hs) (hc2.perm (List.Perm.swap _ _ _)) (by have:=HB.out.2.1;omega) HB.out.2.2.1 (by have:=HB.out.2.2.2.1;have:=H1.out.2.2.1;omega) (by simp) w_ (v:=.slice (some ⟨b3,0,none⟩) 1 1) (oN (by rw[hw3,hb3];exact heap_alloc_new _ _)) (fun g m c e=>by injection e with e;injection e with e;injection e with e;rw[←e,hb3];exact aW _ _ _);have HE:=Lib.hid cE;have H2:=Lib.hid (And.intro (H1.out.2.1.trans (ht2.trans ht3)) (And.intro hx2 hw2));clear cE hc2 hm2 ht2 hx2 hw2 w_ ht3 hq2 hψ
  go_wp2_with (rw[←hw3,←hb3];clear hw3 hb3;refine(HE.out).mono ?_)
  rintro r w4 ⟨rfl,M4,K4,hc4,oG,zB,hx4,hw4⟩;have lH:=Lib.hid hc4;have HM:=Lib.hid oG;have HT:=Lib.hid (H2.out.1.trans zB);have HN:=Lib.hid (show M4.next≤M.next+2 by have:=H1.out.2.2.1;have:=H2.out.2.1;omega)
  have HW:=Lib.hid (show ∃l,M.waits=l++M4.waits by
   obtain⟨l1,e1⟩:=H1.out.2.2.2;obtain⟨l2,e2⟩:=H2.out.2.2
   exact⟨l1++l2,by rw[hw4,e1,e2,List.append_assoc]⟩)
  clear hc4 oG zB hx4 hw4;obtain⟨b8,gY⟩:∃b8,b8=w4.heap.size:=⟨_,rfl⟩;obtain⟨w8,hw8⟩:∃w8,w8=w4.alloc (.cells #[.int .i64 (a:Nat),.int .i64 (b:Nat)] 3):=⟨_,rfl⟩;obtain⟨rF,zy⟩:=bG HM.out hw8;have cD:=eO (l:=[(a,φ),(b,χ)]) (hs:=(h,ψ)::hs) (lH.out.perm (zu _ _ _ _)) (by have:=HB.out.2.1;omega) HB.out.2.2.1 (by have:=HN.out;have:=HB.out.2.2.2.1;omega) (by simp) rF (v:=.slice (some ⟨b8,0,none⟩) 2 2) (lu (by rw[hw8,gY];exact heap_alloc_new _ _)) (fun g m c e=>by injection e with e;injection e with e;injection e with e;rw[←e,gY];exact aW _ _ _);have HD:=Lib.hid cD;have RB:=Lib.hid (HT.out.trans zy);clear cD rF zy
  go_wp2_with (rw[←hw8,←gY];clear hw8 gY;refine(HD.out).mono ?_)
  rintro r w9 ⟨rfl,M9,K9,xM,rG,tF,wZ,tH⟩;have H9:=Lib.hid (show wT K w p n room M hs ψ (.returned (.tuple #[.int .i64 (h:Nat),.bool true])) w9 from⟨h,M9,K9,rfl,xM,rG,RB.out.trans tF,by rw[wZ];have:=HN.out;omega,by rw[tH];exact HW.out⟩);clear xM rG tF wZ tH;go_wp2_with fail;rw[HF.out];exact H9.out
 ·have cN:=tu HC.out (by have:=HB.out.2.1;omega) HB.out.2.2.1 (by have:=HB.out.2.2.2.1;omega) Zb.out yG.out;have Ej:=Lib.hid cN;clear cN
  go_wp2_with (refine(Ej.out).mono ?_)
  rintro r w1 ⟨nn,M1,K1,rfl,hc1,hm1,ht1,hx1,hw1⟩;have Vt:=Lib.hid (hc1.fn (a,φ) (by simp));have Vw:=Lib.hid (hc1.fn (b,χ) (by simp));have Vz:=Lib.hid (hc1.fn (nn,fun s=>!χ s) (by simp));have cI:=(kV hc1.inv HB.out.1 HB.out.2.1 HB.out.2.2.1 (by have:=HB.out.2.2.2.1;omega) (oO (h:=hs.length+5) (by rw[hc1.len];simp) HB.out.2.2.2.2) Vt.out Vw.out Vz.out hm1);have HI:=Lib.hid cI;have H1:=Lib.hid (And.intro hc1 (And.intro ht1 (And.intro hx1 hw1)));clear cI hc1 hm1 ht1 hx1 hw1
  go_wp2_with (refine(HI.out).mono ?_)
  intro r w2 hq2;obtain⟨h,M2,K2,rfl,hc2,hm2,ht2,hx2,hw2⟩:=hq2.cli H1.out.1;obtain⟨ψ,hψ⟩:∃ψ:Bd.BF,ψ=(fun s=>if φ s then χ s else !χ s):=⟨_,rfl⟩;have hc2:Cli n room M2 ((h,ψ)::(nn,fun s=>!χ s)::(b,χ)::(a,φ)::hs):=hc2.re (fun s=>by rw[hψ]<;>(cases hq:φ s<;>simp[hq]));rw[show(fun s=>Bd.cZ 9 (φ s) (χ s))=ψ by rw[hψ];funext s;simp[Bd.cZ]]at HF;obtain⟨b3,hb3⟩:∃b3,b3=w2.heap.size:=⟨_,rfl⟩;obtain⟨w3,hw3⟩:∃w3,w3=w2.alloc (.cells #[.int .i64 (nn:Nat)] 3):=⟨_,rfl⟩;obtain⟨w_,ht3⟩:=bG hm2 hw3;have cE:=eO (l:=[(nn,fun s=>!χ s)]) (hs:=(h,ψ)::(b,χ)::(a,φ)::hs) (hc2.perm (List.Perm.swap _ _ _)) (by have:=HB.out.2.1;omega) HB.out.2.2.1 (by have:=HB.out.2.2.2.1;have:=H1.out.2.2.1;omega) (by simp) w_ (v:=.slice (some ⟨b3,0,none⟩) 1 1) (oN (by rw[hw3,hb3];exact heap_alloc_new _ _)) (fun g m c e=>by injection e with e;injection e with e;injection e with e;rw[←e,hb3];exact aW _ _ _);have HE:=Lib.hid cE;have H2:=Lib.hid (And.intro (H1.out.2.1.trans (ht2.trans ht3)) (And.intro hx2 hw2));clear cE hc2 hm2 ht2 hx2 hw2 w_ ht3 hq2 hψ
  go_wp2_with (rw[←hw3,←hb3];clear hw3 hb3;refine(HE.out).mono ?_)
  rintro r w4 ⟨rfl,M4,K4,hc4,oG,zB,hx4,hw4⟩;have lH:=Lib.hid hc4;have HM:=Lib.hid oG;have HT:=Lib.hid (H2.out.1.trans zB);have HN:=Lib.hid (show M4.next≤M.next+2 by have:=H1.out.2.2.1;have:=H2.out.2.1;omega)
  have HW:=Lib.hid (show ∃l,M.waits=l++M4.waits by
   obtain⟨l1,e1⟩:=H1.out.2.2.2;obtain⟨l2,e2⟩:=H2.out.2.2
   exact⟨l1++l2,by rw[hw4,e1,e2,List.append_assoc]⟩)
  clear hc4 oG zB hx4 hw4;obtain⟨b8,gY⟩:∃b8,b8=w4.heap.size:=⟨_,rfl⟩;obtain⟨w8,hw8⟩:∃w8,w8=w4.alloc (.cells #[.int .i64 (a:Nat),.int .i64 (b:Nat)] 3):=⟨_,rfl⟩;obtain⟨rF,zy⟩:=bG HM.out hw8;have cD:=eO (l:=[(a,φ),(b,χ)]) (hs:=(h,ψ)::hs) (lH.out.perm (zu _ _ _ _)) (by have:=HB.out.2.1;omega) HB.out.2.2.1 (by have:=HN.out;have:=HB.out.2.2.2.1;omega) (by simp) rF (v:=.slice (some ⟨b8,0,none⟩) 2 2) (lu (by rw[hw8,gY];exact heap_alloc_new _ _)) (fun g m c e=>by injection e with e;injection e with e;injection e with e;rw[←e,gY];exact aW _ _ _);have HD:=Lib.hid cD;have RB:=Lib.hid (HT.out.trans zy);clear cD rF zy
  go_wp2_with (rw[←hw8,←gY];clear hw8 gY;refine(HD.out).mono ?_)
  rintro r w9 ⟨rfl,M9,K9,xM,rG,tF,wZ,tH⟩;have H9:=Lib.hid (show wT K w p n room M hs ψ (.returned (.tuple #[.int .i64 (h:Nat),.bool true])) w9 from⟨h,M9,K9,rfl,xM,rG,RB.out.trans tF,by rw[wZ];have:=HN.out;omega,by rw[tH];exact HW.out⟩);clear xM rG tF wZ tH;go_wp2_with fail;rw[HF.out];exact H9.out
end
end
section
structure jo(B:Nat)(K:Nat→Nat)(w:World)(v:Value)(l:List Nat):Prop where
 acc:aQ B w 3 1 nE v l
 rl:j4 K 0 v
section
variable {B n g2 c2 a:Nat} {K K':Nat→Nat} {w w' w2:World} {v:Value} {l:List Nat}
theorem jo.aG(h:jo B K w v l)(t:aj mX K w K' w'):jo B K' w' v l:=by
 have hlt:∀g m c,v=.slice (some ⟨g,0,none⟩) m c→g<w.heap.size:=fun g m c e=>h.acc.blk e;refine⟨⟨h.acc.1.kept (fun g m c e hg=>t.block hg (by rw[h.rl g m c e];exact Kn)),h.acc.2⟩,fun g m c e=>?_⟩;rw[t.ext g (hlt g m c e)];exact h.rl g m c e
theorem jo.push(h:jo B K w v l)(hn:l.length=n)(hB:B≤w.heap.size)(hq:bY w 3 1 v n 1 (fun q=>if q=n then[.int .i64 (a:Nat)]else fC nE l q) g2 c2 w2) :
 jo B (bJ K g2 0) w2 (.slice (some ⟨g2,0,none⟩) (n+1) c2) (l++[a])∧(∀p m room M,aX K w p m room M→aX (bJ K g2 0) w2 p m room M)∧(∀K0 w0,w0.heap.size≤B→aj mX K0 w0 K w→aj mX K0 w0 (bJ K g2 0) w2):=by
 obtain⟨r1,r2⟩:=h.acc.push (e:=a) hn hq hB rfl;refine⟨⟨r1,j4.of (aW _ _ _)⟩,fun p m room M hm=>?_,fun K0 w0 h0 t=>?_⟩
 ·have hsl:=h.acc.1;rw[hn]at hsl;exact hm.aG (hq.aG (R:=fun r=>r=0) aj.refl h.rl rfl hsl).1 (fun r hr=>by rw[hr];unfold mR;omega)
 ·have hg:B≤g2:=r1.2 _ _ _ rfl;exact⟨t.only.oq r2 h0,fun q hq=>(bP (by omega)).trans (t.ext q hq)⟩
theorem jo.fresh(w:World):jo w.heap.size (bJ K w.heap.size 0) (w.alloc (.cells #[] 3)) (.slice (some ⟨w.heap.size,0,none⟩) 0 0) []:=⟨aQ.fresh w,j4.of (aW _ _ _)⟩
end
end
end Go.Proofs.YtpijlhlpejlhhaaGreat
