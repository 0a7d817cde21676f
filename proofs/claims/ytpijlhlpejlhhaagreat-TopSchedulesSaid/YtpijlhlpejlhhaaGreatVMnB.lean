/- Walks and plain words: MnB MnC MnD. -/
import Derived.Test.YtpijlhlpejlhhaaGreatVStT
namespace Go.Proofs.YtpijlhlpejlhhaaGreat
open Go.RowKit
set_option linter.unusedVariables false
set_option maxRecDepth 100000
set_option maxHeartbeats 8000000
section
section
variable {K:Nat→Nat} {w:World} {p n room:Nat} {A:ML} {M:Bd.MS} {t:Nat→iN} {e a b f:Nat}
theorem Inv.hxb(hi:Bd.Inv n room M)(hx:M.next≤1000000000)(i:Nat):Bd.hx M.H i≤1000000000:=by
 have h1:=Bd.eZ M.next (M.H.map (·.1)) hi.hd (fun a ha=>by
  obtain⟨q,hq,rfl⟩:=List.mem_map.1 ha
  exact hi.hn q.1 q.2 hq)
 rw[List.length_map]at h1;unfold Bd.hx
 split
 ·omega
 ·have:=List.length_filter_le (fun q=>q.2/2==i) M.H;omega
theorem Inv.hlen(hi:Bd.Inv n room M):M.H.length≤M.next:=by
 have h1:=Bd.eZ M.next (M.H.map (·.1)) hi.hd (fun a ha=>by
  obtain⟨q,hq,rfl⟩:=List.mem_map.1 ha
  exact hi.hn q.1 q.2 hq)
 rw[List.length_map]at h1;exact h1
theorem Inv.down(hi:Bd.Inv n room M)(hrm:room≤1048576):kF n M.S (fun i=>match M.S.nd i with|some d=>M.ah d.v|none=>n) (fun _=>True):=by
 have hN:=hi.si.Nr;exact⟨hi.gi.wf,fun i h=>(hi.si.nz i h).2,hi.si.cn,by omega,fun i d h=>⟨bF hi.si hrm (hi.gi.ul i d h).ok,bF hi.si hrm (hi.gi.uh i d h).ok⟩⟩
theorem Inv.small(hi:Bd.Inv n room M)(hrm:room≤1048576)(he:Bd.ok M.S.nd e):e<4611686018427387904:=bF hi.si hrm he
theorem Inv.look(hi:Bd.Inv n room M)(hm:(a,e)∈M.H):hgt M.H a=some e:=(Ad hi.hd).2 hm
theorem jT.pq(h:jT K w p A n room M t)(ha:a<4611686018427387904):(Instr.lookup 115 (.map (some A.hb)) (.int .i64 (a:Nat)) true).run Tryz.prog w=.ok (.tuple #[.int .i64 (((hgt M.H a).getD 0:Nat):Int),.bool (hgt M.H a).isSome]) w:=by
 have:=h.han.pq (x:=a) ha;unfold nJ at this
 cases hf:hgt M.H a with
 |none=>rw[hf]at this;exact this
 |some e=>rw[hf]at this;exact this
theorem jT.iW(h:jT K w p A n room M t)(ha:a<4611686018427387904)(hf:hgt M.H a=some e):(Instr.lookup 115 (.map (some A.hb)) (.int .i64 (a:Nat)) true).run Tryz.prog w=.ok (.tuple #[.int .i64 (e:Nat),.bool true]) w:=by
 have:=h.pq (a:=a) ha;rw[hf]at this;exact this
theorem sO(hi:Bd.Inv n room M)(hn:n≤1000000)(hrm:room≤1048576)(hx:M.next≤1000000000)(he:Bd.ok M.S.nd e)(h:bB K w p n room M t) :
 Calls Tryz.prog 115 #[.pointer (some ⟨p,0,none⟩),.int .i64 (e:Nat)] w fun r w'=>r=.returned (.int .i64 (M.next:Nat))∧∃K',bB K' w' p n room (M.give n e) t∧aj mR K w K' w':=by
 obtain⟨F,HF⟩:=aJ (fun(r:Ending)(w':World)=>r=.returned (.int .i64 (M.next:Nat))∧∃K',bB K' w' p n room (M.give n e) t∧aj mR K w K' w');rw[←HF];obtain⟨A,h⟩:=h;have hes:=Inv.small hi hrm he;have cH:=JG (Inv.down hi hrm) (B:=1000000000000) (Nat.le_refl _) (Bd.hx M.H) K w e hes he (Bd.He hi.gi he) hi.si.ci (fun i=>by have:=Inv.hxb hi hx i;omega) (fun h=>by have:=hi.rf _ h;have:=Inv.hxb hi hx (e/2);omega) h.store;have y0:w.cell? ⟨p,0,none⟩=some (.pointer (some ⟨A.sb,0,none⟩)):=au h.row 0 rfl
 have hnone:nJ M.H M.next=none:=by
  unfold nJ
  cases hg:hgt M.H M.next with
  |none=>rfl
  |some f=>have:=hi.hn _ _ ((Ad hi.hd).1 hg);omega
 have hlen:=Inv.hlen hi;have HH:=Lib.hid h;have HN:=Lib.hid (And.intro hnone hlen);clear h hi he hnone hlen;go_in
 go_wp2_with (go_at_call 152;refine cH.mono ?_;rintro r w1 ⟨rfl,K1,h1,t1⟩;have h2:=HH.CV (D':=M.D) h1 t1;have T1:=Lib.hid t1;have H2:=Lib.hid h2;have z2:w1.cell? ⟨p,2,none⟩=some (.map (some A.hb)):=au h2.row 2 rfl;have z3:w1.cell? ⟨p,3,none⟩=some (.int .i64 (M.next:Nat)):=au h2.row 3 rfl;obtain⟨W,u1,u2,u3⟩:=h2.han.store (x:=M.next) (show M.next<4611686018427387904 by omega) (y:=(e:Int)) (sD hes) (by have:=HN.2;show M.H.length<maxLen;unfold maxLen;omega);have e2:(Instr.mapUpdate 115 (.map (some A.hb)) (.int .i64 (M.next:Nat)) (.int .i64 (e:Nat))).run Tryz.prog w1=.ok () W:=u1;have hW:jT K1 W p A n room {M with S:=M.S.hold n e,H:=(M.next,e)::M.H} t∧aj (fun r=>r=14) K1 w1 K1 W:=(h2.setH (H':=(M.next,e)::M.H) (by rw[JB];have:=u2;rw[show(nJ M.H M.next).isSome=false from by rw[HN.1];rfl]at this;exact this) u3);have HW:=Lib.hid hW;have z4:W.cell? ⟨p,3,none⟩=some (.int .i64 (M.next:Nat)):=au hW.1.row 3 rfl;have zf:∀o,W.frozen? ⟨p,o,none⟩=false:=jv hW.1.row;have zl:=aV hW.1.row;clear h1 t1 h2 u1 u2 u3 hW cH)
 rw[HF];have h3:=HW.1.Ub (M.next+1);rw[show((M.next+1:Nat):Int)=(M.next:Int)+1 from by omega]at h3;refine⟨rfl,K1,⟨A,h3⟩,?_⟩;exact((T1.mono (fun r hr=>by unfold sR at hr;unfold mR;omega)).trans (HW.2.mono (fun r hr=>by unfold mR;omega))).trans ((HW.1.CW 3 _).mono (fun r hr=>by unfold mR;omega))
theorem JY(hi:Bd.Inv n room M)(hn:n≤1000000)(hrm:room≤1048576)(hx:M.next≤1000000000)(hm:(a,e)∈M.H)(h:bB K w p n room M t) :
 Calls Tryz.prog 99 #[.pointer (some ⟨p,0,none⟩),.int .i64 (a:Nat)] w fun r w'=>r=.returned (.tuple #[.int .i64 (M.next:Nat),.int .i64 0])∧∃K',bB K' w' p n room (M.give n e) t∧aj mR K w K' w':=by
 obtain⟨F,HF⟩:=aJ (fun(r:Ending)(w':World)=>r=.returned (.tuple #[.int .i64 (M.next:Nat),.int .i64 0])∧∃K',bB K' w' p n room (M.give n e) t∧aj mR K w K' w');rw[←HF];have cG:=sO hi hn hrm hx (hi.ho a e hm) h;obtain⟨A,h⟩:=h;have hl:=h.iW (show a<4611686018427387904 by have:=hi.hn _ _ hm;omega) (Inv.look hi hm);have y2:w.cell? ⟨p,2,none⟩=some (.map (some A.hb)):=au h.row 2 rfl;clear h hi hm;go_in
 go_wp2_with (go_at_call 115;with_reducible refine cG.mono ?_;rintro r w1 ⟨rfl,K1,h1,t1⟩;have H1:=Lib.hid (And.intro h1 t1);clear h1 t1 cG)
 rw[HF];exact⟨rfl,K1,H1⟩
theorem NQ(hi:Bd.Inv n room M)(hn:n≤1000000)(hrm:room≤1048576)(hx:M.next≤1000000000)(hm:(a,e)∈M.H)(h:bB K w p n room M t) :
 Calls Tryz.prog 101 #[.pointer (some ⟨p,0,none⟩),.int .i64 (a:Nat)] w fun r w'=>r=.returned (.tuple #[.int .i64 (M.next:Nat),.int .i64 0])∧∃K',bB K' w' p n room (M.give n (Bd.neg e)) t∧aj mR K w K' w':=by
 obtain⟨F,HF⟩:=aJ (fun(r:Ending)(w':World)=>r=.returned (.tuple #[.int .i64 (M.next:Nat),.int .i64 0])∧∃K',bB K' w' p n room (M.give n (Bd.neg e)) t∧aj mR K w K' w');rw[←HF];have cG:=sO hi hn hrm hx (e:=Bd.neg e) (Bd.uy (hi.ho a e hm)) h;have cN:=qN e w (Inv.small hi hrm (hi.ho a e hm));obtain⟨A,h⟩:=h;have hl:=h.iW (show a<4611686018427387904 by have:=hi.hn _ _ hm;omega) (Inv.look hi hm);have y2:w.cell? ⟨p,2,none⟩=some (.map (some A.hb)):=au h.row 2 rfl;clear h hi hm;go_in
 go_wp2_with (first|(go_at_call 133;with_reducible refine cN.mono ?_;rintro r w' ⟨rfl,hw⟩;rw[hw];clear hw cN)|(go_at_call 115;with_reducible refine cG.mono ?_;rintro r w1 ⟨rfl,K1,h1,t1⟩;have H1:=Lib.hid (And.intro h1 t1);clear h1 t1 cG))
 rw[HF];exact⟨rfl,K1,H1⟩
theorem Iu(ha:a<4611686018427387904)(h:bB K w p n room M t) :
 Calls Tryz.prog 104 #[.pointer (some ⟨p,0,none⟩),.int .i64 (a:Nat)] w fun r w'=>r=.returned (.bool (hgt M.H a).isSome)∧w'=w:=by
 obtain⟨F,HF⟩:=aJ (fun(r:Ending)(w':World)=>r=.returned (.bool (hgt M.H a).isSome)∧w'=w);rw[←HF];obtain⟨A,h⟩:=h;have hl:=h.pq ha;have y2:w.cell? ⟨p,2,none⟩=some (.map (some A.hb)):=au h.row 2 rfl;clear h;go_in
 go_wp2
 rw[HF];exact⟨rfl,rfl⟩
theorem iX(b:Bool)(w:World):Calls Tryz.prog 14 #[.pointer (some ⟨p,0,none⟩),.bool b] w fun r w'=>r=.returned (.int .i64 ((if b then 1 else 0:Nat):Int))∧w'=w:=by
 obtain⟨F,HF⟩:=aJ (fun(r:Ending)(w':World)=>r=.returned (.int .i64 ((if b then 1 else 0:Nat):Int))∧w'=w);rw[←HF];go_in;cases b
 ·go_wp2
  rw[HF];exact⟨rfl,rfl⟩
 ·go_wp2
  rw[HF];exact⟨rfl,rfl⟩
theorem oD(h:bB K w p n room M t):Calls Tryz.prog 41 #[.pointer (some ⟨p,0,none⟩)] w fun r w'=>r=.returned (.int .i64 (n:Nat))∧w'=w:=by
 obtain⟨F,HF⟩:=aJ (fun(r:Ending)(w':World)=>r=.returned (.int .i64 (n:Nat))∧w'=w);rw[←HF];obtain⟨A,h⟩:=h;obtain⟨L,hs⟩:=h.store;have c:=JD hs;have y0:w.cell? ⟨p,0,none⟩=some (.pointer (some ⟨A.sb,0,none⟩)):=au h.row 0 rfl;clear h hs;go_in
 go_wp2_with (go_at_call 109;refine c.mono ?_;rintro r w' ⟨rfl,hw⟩;rw[hw];clear hw)
 rw[HF];exact⟨rfl,rfl⟩
theorem Ar(h:bB K w p n room M t):Calls Tryz.prog 65 #[.pointer (some ⟨p,0,none⟩)] w fun r w'=>r=.returned (.int .i64 (M.H.length:Nat))∧w'=w:=by
 obtain⟨F,HF⟩:=aJ (fun(r:Ending)(w':World)=>r=.returned (.int .i64 (M.H.length:Nat))∧w'=w);rw[←HF];obtain⟨A,h⟩:=h;have hl:(Builtin.len_ #[115] 3 #[.map (some A.hb)]).run Tryz.prog w=_:=h.han.len 3;have y2:w.cell? ⟨p,2,none⟩=some (.map (some A.hb)):=au h.row 2 rfl;clear h;go_in
 go_wp2
 rw[HF];exact⟨rfl,rfl⟩
theorem JZ(hi:Bd.Inv n room M)(hx:M.next≤1000000000)(hm:(a,e)∈M.H)(hm2:(b,f)∈M.H)(h:bB K w p n room M t) :
 Calls Tryz.prog 24 #[.pointer (some ⟨p,0,none⟩),.int .i64 (a:Nat),.int .i64 (b:Nat)] w fun r w'=>r=.returned (.tuple #[.bool (e==f),.int .i64 0])∧w'=w:=by
 obtain⟨F,HF⟩:=aJ (fun(r:Ending)(w':World)=>r=.returned (.tuple #[.bool (e==f),.int .i64 0])∧w'=w);rw[←HF];obtain⟨A,h⟩:=h;have hl:=h.iW (show a<4611686018427387904 by have:=hi.hn _ _ hm;omega) (Inv.look hi hm);have hl2:=h.iW (show b<4611686018427387904 by have:=hi.hn _ _ hm2;omega) (Inv.look hi hm2);have y2:w.cell? ⟨p,2,none⟩=some (.map (some A.hb)):=au h.row 2 rfl
 have ee:(e==f)=(((e:Nat):Int)==((f:Nat):Int)):=by
  by_cases h:e=f
  ·subst h;simp
  ·have h1:(e==f)=false:=by simp[h]
   have h2:(((e:Nat):Int)==((f:Nat):Int))=false:=by simp;omega
   rw[h1,h2]
 have HE:=Lib.hid ee;clear h hi hm hm2 ee;go_in
 go_wp2
 rw[HF,HE];exact⟨rfl,rfl⟩
end
end
section
/-- A list of truth values in memory. -/
def gB(w:World)(v:Value)(l:List Bool):Prop:=Sl w 4 1 v l.length (fun i=>[.bool (l.getD i false)])
section
variable {K:Nat→Nat} {w:World} {p n room:Nat} {M:Bd.MS} {t:Nat→iN} {e a:Nat}
theorem QG{n:Nat}{ah:Nat→Nat}{nd:Nat→Option Bd.Nd}{D:Nat→Bd.BF}(h:Bd.GI n ah nd D){e:Nat}{d:Bd.Nd}(hd:nd (e/2)=some d)(s:Nat→Bool):Bd.De D e s=Bd.De D (if s d.v then Bd.flip d.hi (Bd.odd e)else Bd.flip d.lo (Bd.odd e)) s:=by
 have h1:Bd.De D e s=xor (Bd.odd e) (D (e/2) s):=rfl;rw[h1,h.dD _ d hd];cases s d.v
 ·simp only[Bool.false_eq_true,if_false];rw[Bd.eY]
 ·simp only[if_true];rw[Bd.eY]
theorem NR{n:Nat}{ah:Nat→Nat}{nd:Nat→Option Bd.Nd}{D:Nat→Bd.BF}(h:Bd.GI n ah nd D){i:Nat}{d:Bd.Nd}(hd:nd i=some d)(b c:Bool):Bd.und nd ah (ah d.v+1) (if b then Bd.flip d.hi c else Bd.flip d.lo c):=by
 cases b
 ·exact Bd.bT (h.ul _ _ hd)
 ·exact Bd.bT (h.uh _ _ hd)
theorem J4(hi:Bd.Inv n room M)(hn:n≤1000000)(hrm:room≤1048576)(hx:M.next≤1000000000)(hm:(a,e)∈M.H)(h:bB K w p n room M t){v:Value}{l:List Bool}(hl:gB w v l)(hll:l.length≤1000) :
 Calls Tryz.prog 62 #[.pointer (some ⟨p,0,none⟩),.int .i64 (a:Nat),v] w fun r w'=>r=.returned (.tuple #[.bool (Bd.De M.D e (fun i=>l.getD i false)),.int .i64 0])∧Below w.heap.size w w':=by
 obtain⟨F,HF⟩:=aJ (fun(r:Ending)(w':World)=>r=.returned (.tuple #[.bool (Bd.De M.D e (fun i=>l.getD i false)),.int .i64 0])∧Below w.heap.size w w');rw[←HF];obtain⟨A,h⟩:=h;have hlk:=h.iW (show a<4611686018427387904 by have:=hi.hn _ _ hm;omega) (Inv.look hi hm);have y2:w.cell? ⟨p,2,none⟩=some (.map (some A.hb)):=au h.row 2 rfl;have hp:=aV h.row;have hok:=hi.ho a e hm;obtain⟨m,hm0⟩:∃m,m=l.length:=⟨_,rfl⟩
 obtain⟨pv,kv,hv⟩:∃pv kv,v=.slice pv m kv:=by
  rw[hm0]
  rcases hl with⟨h1,h2⟩|⟨g,c,h1,-⟩
  ·exact⟨none,0,by rw[h1,h2]⟩
  ·exact⟨_,_,h1⟩
 have abU:m≤1000:=by rw[hm0];exact hll
 subst hv;have HH:=Lib.hid h;have HI:=Lib.hid hi;have HL:=Lib.hid hl;have HM:=Lib.hid hm0;have Au:=Lib.hid hok;clear h hi hm hl hok hm0 hll;go_in
 go_wp2
 go_loopg [8,10,11,12,13,27,28,29,30,31,32,33,34,35,36,37,38,39,40,41,42,43,44,45,46,47,48,49,50,51,52] (n+1) (fun q v8 v10 v11 v12 v13 v27 v28 v29 v30 v31 v32 v33 v34 v35 v36 v37 v38 v39 v40 v41 v42 v43 v44 v45 v46 v47 v48 v49 v50 v51 v52 wr=>∃(f k:Nat),v8=.int .i64 (f:Nat)∧Bd.und M.S.nd M.ah k f∧k≤n∧q=n-k+1∧Bd.De M.D e (fun i=>l.getD i false)=Bd.De M.D f (fun i=>l.getD i false)∧Below w.heap.size w wr)
 case atStart=>exact⟨e,0,rfl,Au.und,Nat.zero_le _,rfl,rfl,Below.refl _ _⟩
 case round=>
  obtain⟨f,k,rfl,hu,hk,rfl,hD,hb⟩:=hrel;have HU:=Lib.hid hu;have HD:=Lib.hid hD;have HB:=Lib.hid hb;have hfs:=Inv.small HI hrm hu.ok;have hrow:=(HB.block p hp).trans HH.row;have y0:wr.cell? ⟨p,0,none⟩=some (.pointer (some ⟨A.sb,0,none⟩)):=au hrow 0 rfl;have cC:=iU f wr hfs;obtain⟨L,hst⟩:=HH.store.below HB;have cA:=uJ hst (fun i d h=>⟨((Inv.down HI hrm).ed i d h).1,((Inv.down HI hrm).ed i d h).2⟩) f hfs;clear hu hD hb hrow hst
  cases hd:M.S.nd (f/2)with
  |none=>
   have hz:f/2=0:=by
    rcases HU.out with h|⟨d,h,-⟩
    ·exact h
    ·rw[h]at hd;cases hd
   have HZ:=Lib.hid hz;rw[hz]at cC;clear hz hd cA
   go_wp2_with (go_at_call 107;refine cC.mono ?_;rintro r w' ⟨rfl,hw⟩;rw[hw];clear hw)
   rw[HF,HD,Bd.bI HI.gi HZ];refine⟨?_,HB⟩
   have:(f==0)=(((f:Nat):Int)==0):=by
    by_cases h:f=0
    ·subst h;rfl
    ·have h1:(f==0)=false:=by simp[h]
     have h2:(((f:Nat):Int)==0)=false:=by simp;omega
     rw[h1,h2]
   rw[this]
   rfl
  |some d=>
   have hne:(f/2==0)=false:=by
    have:f/2≠0:=fun h=>by rw[h,HI.gi.n0]at hd;cases hd
    simp;omega
   rw[hne]at cC;rw[hd]at cA;simp only at cA
   have hlv:k≤M.ah d.v:=by
    rcases HU.out with h|⟨d',h,h2⟩
    ·rw[h,HI.gi.n0]at hd;cases hd
    ·rw[hd]at h;obtain rfl:=Option.some.inj h;exact h2
   have kL:=HI.gi.lt _ _ hd;have hln:=HI.gi.ll _ kL;have hstep:=QG HI.gi hd (fun i=>l.getD i false);have oQ:=NR HI.gi hd (l.getD d.v false) (Bd.odd f);have HX:=Lib.hid (And.intro hstep oQ);have BA:=Lib.hid (And.intro hlv hln);clear hne hd hlv hln hstep oQ HU
   generalize Bd.flip d.lo (Bd.odd f)=lo at *
   generalize Bd.flip d.hi (Bd.odd f)=hi at *
   generalize d.v=x at *
   by_cases hxm:x<m
   ·have hxi:(x:Int)<(m:Int):=by omega
    obtain⟨g,c,hsv,hrw⟩:∃g c,pv=some ⟨g,0,none⟩∧Rw w 4 1 m c g (fun i=>[.bool (l.getD i false)]):=by
     rcases HL.out with⟨h1,h2⟩|⟨g,c,h1,h2⟩
     ·rw[←HM]at h2;omega
     ·rw[←HM]at h2;injection h1 with h3;exact⟨g,c,h3,h2⟩
    subst hsv;have z0:=fun w' (hb:Below w.heap.size w w')=>(hrw.kept (hb.block g hrw.lt)).cell (i:=x) (j:=0) hxm (by omega);have HZ0:=Lib.hid z0;clear z0 hrw
    cases hbit:l.getD x false with
    |true=>
     have xE:=Lib.hid hbit;clear hbit
     go_wp2_with (first|(go_at_call 107;refine cC.mono ?_;rintro r w' ⟨rfl,hw⟩;rw[hw];clear hw cC)|(go_at_call 126;refine cA.mono ?_;rintro r w2 ⟨rfl,hb2⟩;have hb3:=HB.trans (hb2.mono HB.size);have z1:=HZ0 w2 hb3;simp only[Nat.mul_one,Nat.add_zero,List.getElem?_cons_zero]at z1;rw[xE]at z1;have HB3:=Lib.hid hb3;clear hb2 hb3 cA))
     go_roundg (n-(M.ah x+1)+1)
     case rel=>
      refine⟨hi,M.ah x+1,rfl,?_,BA.2,rfl,?_,HB3⟩
      ·have:=HX.2;rw[xE]at this;exact this
      ·have:=HX.1;rw[xE]at this;exact HD.trans this
     case measure=>have:=BA.out;omega
    |false=>
     have xE:=Lib.hid hbit;clear hbit
     go_wp2_with (first|(go_at_call 107;refine cC.mono ?_;rintro r w' ⟨rfl,hw⟩;rw[hw];clear hw cC)|(go_at_call 126;refine cA.mono ?_;rintro r w2 ⟨rfl,hb2⟩;have hb3:=HB.trans (hb2.mono HB.size);have z1:=HZ0 w2 hb3;simp only[Nat.mul_one,Nat.add_zero,List.getElem?_cons_zero]at z1;rw[xE]at z1;have HB3:=Lib.hid hb3;clear hb2 hb3 cA))
     go_roundg (n-(M.ah x+1)+1)
     case rel=>
      refine⟨lo,M.ah x+1,rfl,?_,BA.2,rfl,?_,HB3⟩
      ·have:=HX.2;rw[xE]at this;exact this
      ·have:=HX.1;rw[xE]at this;exact HD.trans this
     case measure=>have:=BA.out;omega
   ·have hxi:¬(x:Int)<(m:Int):=by omega
    have hbit:l.getD x false=false:=by
     rw[List.getD_eq_getElem?_getD,List.getElem?_eq_none (by rw[←HM];omega)];rfl
    have xE:=Lib.hid hbit;clear hbit
    go_wp2_with (first|(go_at_call 107;refine cC.mono ?_;rintro r w' ⟨rfl,hw⟩;rw[hw];clear hw cC)|(go_at_call 126;refine cA.mono ?_;rintro r w2 ⟨rfl,hb2⟩;have hb3:=HB.trans (hb2.mono HB.size);have HB3:=Lib.hid hb3;clear hb2 hb3 cA))
    go_roundg (n-(M.ah x+1)+1)
    case rel=>
     refine⟨lo,M.ah x+1,rfl,?_,BA.2,rfl,?_,HB3⟩
     ·have:=HX.2;rw[xE]at this;exact this
     ·have:=HX.1;rw[xE]at this;exact HD.trans this
    case measure=>have:=BA.out;omega
end
end
section
/-- A list of numbers in memory. -/
def av(w:World)(v:Value)(l:List Nat):Prop:=Sl w 3 1 v l.length (fun i=>[.int .i64 (l.getD i 0:Nat)])
/-- A handle is let go;the two constants stay. -/
def drop1(n:Nat)(M:Bd.MS)(h:Nat):Bd.MS:=if 1<h then match hgt M.H h with|some e=>M.let n h e|none=>M else M
def drops(n:Nat)(M:Bd.MS)(hs:List Nat):Bd.MS:=hs.foldl (drop1 n) M
section
variable {K:Nat→Nat} {w:World} {p n room:Nat} {M:Bd.MS} {t:Nat→iN} {φ:Nat→Bd.BF}
theorem yO(hi:Bd.Inv n room M)(h:Nat):Bd.Inv n room (drop1 n M h):=by
 unfold drop1
 split
 ·rename_i h1
  cases hg:hgt M.H h with
  |none=>exact hi
  |some e=>exact hi.let ((Ad hi.hd).1 hg) h1
 ·exact hi
theorem Fu(n:Nat)(M:Bd.MS)(h:Nat):(drop1 n M h).next=M.next∧(drop1 n M h).waits=M.waits∧(drop1 n M h).D=M.D∧(drop1 n M h).ah=M.ah∧(drop1 n M h).ord=M.ord∧(drop1 n M h).S.nd=M.S.nd:=by
 unfold drop1
 split
 ·cases hg:hgt M.H h with
  |none=>exact⟨rfl,rfl,rfl,rfl,rfl,rfl⟩
  |some e=>exact⟨rfl,rfl,rfl,rfl,rfl,(Bd.G_ M.S n e).1⟩
 ·exact⟨rfl,rfl,rfl,rfl,rfl,rfl⟩
theorem J5(hi:Bd.Inv n room M){h a e:Nat}:(a,e)∈(drop1 n M h).H↔(a,e)∈M.H∧(1<h→a≠h):=by
 unfold drop1
 by_cases h1:1<h
 ·rw[if_pos h1]
  cases hg:hgt M.H h with
  |none=>
   constructor
   ·intro h2;refine⟨h2,fun _ e2=>?_⟩;have:=Inv.look hi h2;rw[e2,hg]at this;cases this
   ·exact fun h2=>h2.1
  |some f=>
   show(a,e)∈M.H.filter (fun p=>p.1 != h)↔_;rw[List.mem_filter];simp[h1]
 ·rw[if_neg h1];exact⟨fun h2=>⟨h2,fun h3=>absurd h3 h1⟩,fun h2=>h2.1⟩
theorem yP(hi:Bd.Inv n room M)(hs:List Nat):Bd.Inv n room (drops n M hs):=by
 induction hs generalizing M with
 |nil=>exact hi
 |cons a hs ih=>exact ih (yO hi a)
theorem iY(n:Nat)(M:Bd.MS)(hs:List Nat):(drops n M hs).next=M.next∧(drops n M hs).waits=M.waits∧(drops n M hs).D=M.D∧(drops n M hs).ah=M.ah∧(drops n M hs).ord=M.ord∧(drops n M hs).S.nd=M.S.nd:=by
 induction hs generalizing M with
 |nil=>exact⟨rfl,rfl,rfl,rfl,rfl,rfl⟩
 |cons a hs ih=>
  obtain⟨h1,h2,h3,h4,h5,h6⟩:=ih (drop1 n M a);obtain⟨g1,g2,g3,g4,g5,g6⟩:=Fu n M a;exact⟨h1.trans g1,h2.trans g2,h3.trans g3,h4.trans g4,h5.trans g5,h6.trans g6⟩
theorem sP(hi:Bd.Inv n room M){hs:List Nat}{a e:Nat}:(a,e)∈(drops n M hs).H↔(a,e)∈M.H∧∀h∈hs,1<h→a≠h:=by
 induction hs generalizing M with
 |nil=>simp[drops]
 |cons b hs ih=>
  have:=ih (M:=drop1 n M b) (yO hi b);rw[show drops n M (b::hs)=drops n (drop1 n M b) hs from rfl,this,J5 hi];simp only[List.mem_cons,forall_eq_or_imp]
  constructor
  ·rintro⟨⟨h1,h2⟩,h3⟩;exact⟨h1,h2,h3⟩
  ·rintro⟨h1,h2,h3⟩;exact⟨⟨h1,h2⟩,h3⟩
theorem yQ(hi:Bd.Inv n room M)(hn:n≤1000000)(hrm:room≤1048576)(hx:M.next≤1000000000){hs:List Nat}(hnd:hs.Nodup)(hm:∀a∈hs,∃e,(a,e)∈M.H)(hN:hs.length≤1000000)(h:bB K w p n room M t){v:Value}(hv:av w v hs)(mK:j4 K 0 v) :
 Calls Tryz.prog 16 #[.pointer (some ⟨p,0,none⟩),v] w fun r w'=>r=.returned (.int .i64 0)∧∃K',bB K' w' p n room (drops n M hs) t∧aj mR K w K' w':=by
 obtain⟨F,HF⟩:=aJ (fun(r:Ending)(w':World)=>r=.returned (.int .i64 0)∧∃K',bB K' w' p n room (drops n M hs) t∧aj mR K w K' w');rw[←HF];obtain⟨m,hm0⟩:∃m,m=hs.length:=⟨_,rfl⟩
 obtain⟨pv,kv,hsv⟩:∃pv kv,v=.slice pv m kv:=by
  rw[hm0]
  rcases hv with⟨h1,h2⟩|⟨g,c,h1,-⟩
  ·exact⟨none,0,by rw[h1,h2]⟩
  ·exact⟨_,_,h1⟩
 have hmN:m≤1000000:=by omega
 subst hsv;have HH:=Lib.hid h;have HI:=Lib.hid hi;have HV:=Lib.hid hv;have HVR:=Lib.hid mK;have HM:=Lib.hid hm;have Fv:=Lib.hid hnd;have yG:=Lib.hid hm0;clear h hi hv mK hm hnd hm0 hN;go_in
 go_wp2
 go_loopg [6,7,8,13,14,15,16,17,18,19,20,21,22,23,24,25,26,27,28,29,30,31,32,33,34,35,36,37,38,39,40,41] m (fun q v6 v7 v8 v13 v14 v15 v16 v17 v18 v19 v20 v21 v22 v23 v24 v25 v26 v27 v28 v29 v30 v31 v32 v33 v34 v35 v36 v37 v38 v39 v40 v41 wr=>∃(j:Nat)(K':Nat→Nat),q=m-j∧j≤m∧v13=.int .i64 (j:Nat)∧bB K' wr p n room (drops n M (hs.take j)) t∧aj mR K w K' wr)
 case atStart=>exact⟨0,K,rfl,Nat.zero_le _,rfl,by rw[List.take_zero];exact HH,aj.refl⟩
 case round=>
  obtain⟨j,K',rfl,hj,rfl,hM,ht⟩:=hrel;have HT:=Lib.hid ht
  by_cases hlt:j<m
  ·have hji:(j:Int)<(m:Int):=by omega
   have hjl:j<hs.length:=by rw[←yG];exact hlt
   have hI:=yP HI (hs.take j);obtain⟨a,ha⟩:∃a,hs[j]?=some a:=⟨_,List.getElem?_eq_getElem hjl⟩;have hsucc:hs.take (j+1)=hs.take j++[a]:=by rw[List.take_add_one,ha];rfl
   have hnot:a∉hs.take j:=by
    have hnd:=Fv.out;rw[←List.take_append_drop j hs,List.nodup_append]at hnd;intro hm;refine hnd.2.2 a hm a (List.mem_of_getElem? (i:=0) ?_) rfl;rw[List.getElem?_drop];exact ha
   obtain⟨e,he0⟩:=HM a (List.mem_of_getElem? ha);have he:(a,e)∈(drops n M (hs.take j)).H:=(sP HI).2 ⟨he0,fun h hh _ e9=>hnot (e9 ▸ hh)⟩;have hgd:hs.getD j 0=a:=by rw[List.getD_eq_getElem?_getD,ha];rfl
   have hnx:=(iY n M (hs.take j)).1;have hstep:drops n M (hs.take (j+1))=drop1 n (drops n M (hs.take j)) a:=by rw[hsucc];unfold drops;rw[List.foldl_append];rfl
   have HS:=Lib.hid hstep
   obtain⟨g,c,hsv,hrw⟩:∃g c,pv=some ⟨g,0,none⟩∧Rw w 3 1 m c g (fun i=>[.int .i64 (hs.getD i 0:Nat)]):=by
    rcases HV.out with⟨h1,h2⟩|⟨g,c,h1,h2⟩
    ·omega
    ·rw[←yG]at h2;injection h1 with h3;exact⟨g,c,h3,h2⟩
   subst hsv;have hkg:K g=0:=HVR _ _ _ rfl;have z0:=(hrw.kept (ht.block hrw.lt (by rw[hkg];unfold mR;omega))).cell (i:=j) (j:=0) hlt (by omega);simp only[Nat.mul_one,Nat.add_zero,List.getElem?_cons_zero]at z0;rw[hgd]at z0;obtain⟨M',hM'⟩:∃M',M'=drops n M (hs.take j):=⟨_,rfl⟩;rw[←hM']at hM hI he hnx HS;obtain⟨A,hA⟩:=hM;have hab:a<1000000000:=by have:=hI.hn _ _ he;omega
   have hlk:=hA.iW (show a<4611686018427387904 by omega) (Inv.look hI he);have y2:wr.cell? ⟨p,2,none⟩=some (.map (some A.hb)):=au hA.row 2 rfl;have y0:wr.cell? ⟨p,0,none⟩=some (.pointer (some ⟨A.sb,0,none⟩)):=au hA.row 0 rfl;have HA:=Lib.hid hA;have HE:=Lib.hid (And.intro he hI)
   by_cases h1:1<a
   ·have h1i:(1:Int)<(a:Int):=by omega
    have hok:=hI.ho a e he;have hes:=Inv.small hI hrm hok;have hpos:=fun(h:M'.S.nd (e/2)≠none)=>Bd.rV he (fun h0=>h (by rw[h0];exact hI.gi.n0));have cD:=JI (Inv.down hI hrm) (B:=1000000000000) (Nat.le_refl _) (Bd.hx M'.H) K' wr e hes hok (Bd.He hI.gi hok) hI.si.ci (fun i=>by have:=Inv.hxb hI (by omega) i;omega) (fun h=>by have:=hI.rf _ h;have:=Inv.hxb hI (by omega) (e/2);omega) hI.si.x0 (fun h=>by have:=hpos h;omega) (fun h=>by have:=hpos h;have:=hI.rf _ h;omega) hA.store;have hd1:drop1 n M' a=M'.let n a e:=by unfold drop1;rw[if_pos h1,Inv.look hI he]
    have hfl:=EL hI.hd he;have hsm:(nJ M'.H a).isSome=true:=by unfold nJ;rw[Inv.look hI he];rfl
    have HD1:=Lib.hid (And.intro hd1 (And.intro hfl hsm));clear hA hI he hstep ht hnx hsucc hnot he0 hgd ha hM' hok hpos hrw hkg hd1 hfl hsm
    go_wp2_with (go_at_call 61;refine cD.mono ?_;rintro r w1 ⟨rfl,K1,h1,t1⟩;have h2:=HA.CV (D':=M'.D) h1 t1;have T1:=Lib.hid t1;have z2:w1.cell? ⟨p,2,none⟩=some (.map (some A.hb)):=au h2.row 2 rfl;obtain⟨W,u1,u2,u3⟩:=h2.han.drop (x:=a) (show a<4611686018427387904 by omega) 0;have e2:(Builtin.delete_ #[115,3] 0 #[.map (some A.hb),.int .i64 (a:Nat)]).run Tryz.prog w1=.ok (.tuple #[]) W:=u1;have hW:jT K1 W p A n room (M'.let n a e) t∧aj (fun r=>r=14) K1 w1 K1 W:=(h2.setH (H':=M'.H.filter (fun p=>p.1 != a)) (by rw[CU];have:=u2;rw[show(nJ M'.H a).isSome=true from HD1.2.2]at this;rw[show(M'.H.filter (fun p=>p.1 != a)).length=M'.H.length-1 from by have:=HD1.2.1;omega];exact this) u3);have HW:=Lib.hid hW;clear h1 t1 h2 u1 u2 u3 hW cD)
    go_roundg (m-(j+1))
    case rel=>
     refine⟨j+1,K1,rfl,by omega,by simp,by rw[HS,HD1.1];exact⟨A,HW.1⟩,?_⟩;exact(HT.trans (T1.mono (R':=mR) (fun r hr=>by unfold sR at hr;unfold mR;omega))).trans (HW.2.mono (fun r hr=>by unfold mR;omega))
    case measure=>omega
   ·have h1i:¬(1:Int)<(a:Int):=by omega
    have hd1:drop1 n M' a=M':=by unfold drop1;rw[if_neg h1]
    have HD1:=Lib.hid hd1;clear hA hI he hstep ht hnx hsucc hnot he0 hgd ha hM' hrw hkg hd1
    go_wp2
    go_roundg (m-(j+1))
    case rel=>exact⟨j+1,K',rfl,by omega,by simp,by rw[HS,HD1];exact⟨A,HA⟩,HT⟩
    case measure=>omega
  ·obtain rfl:j=m:=by omega
   have XR:=Lib.hid hM;clear hM ht
   go_wp2
   rw[HF];exact⟨rfl,K',by have:=XR.out;rw[List.take_of_length_le (by rw[←yG];exact Nat.le_refl _)]at this;exact this,HT⟩
end
end
end Go.Proofs.YtpijlhlpejlhhaaGreat
