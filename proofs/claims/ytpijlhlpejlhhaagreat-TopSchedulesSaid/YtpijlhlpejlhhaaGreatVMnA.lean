/- Walks and plain words: MnA EgA StB Tst StC StD. -/
import Derived.Test.YtpijlhlpejlhhaaGreatVStA
import Derived.Test.YtpijlhlpejlhhaaGreatVBdS
import Derived.BigGuardPart
import Derived.OrdersHeld
namespace Go.Proofs.YtpijlhlpejlhhaaGreat
open Go.RowKit
set_option linter.unusedVariables false
set_option maxRecDepth 100000
set_option maxHeartbeats 4000000
section
/-- The edge of a handle. -/
def hgt(H:List (Nat×Nat))(h:Nat):Option Nat:=(H.find? (fun p=>p.1==h)).map (·.2)
def nJ(H:List (Nat×Nat))(h:Nat):Option Int:=(hgt H h).map (fun e=>(e:Int))
theorem nK(H:List (Nat×Nat))(a e h:Nat):hgt ((a,e)::H) h=if h=a then some e else hgt H h:=by
 unfold hgt
 by_cases hh:h=a
 ·subst hh;simp
 ·have:(a==h)=false:=by simp;omega
  simp[this,hh]
theorem Ad{H:List (Nat×Nat)}(hd:(H.map (·.1)).Nodup){h e:Nat}:hgt H h=some e↔(h,e)∈H:=by
 induction H with
 |nil=>simp[hgt]
 |cons p H ih=>
  obtain⟨a,f⟩:=p;rw[List.map_cons,List.nodup_cons]at hd;rw[nK]
  by_cases hh:h=a
  ·subst hh;rw[if_pos rfl]
   constructor
   ·intro h9;injection h9 with h9;subst h9;exact List.mem_cons_self
   ·intro h9
    rcases List.mem_cons.1 h9 with h8|h8
    ·injection h8 with _ h8;rw[h8]
    ·exact absurd (List.mem_map.2 ⟨_,h8,rfl⟩) hd.1
  ·rw[if_neg hh,ih hd.2]
   constructor
   ·exact List.mem_cons_of_mem _
   ·intro h9
    rcases List.mem_cons.1 h9 with h8|h8
    ·injection h8 with h8;exact absurd h8 hh
    ·exact h8
theorem EK(H:List (Nat×Nat))(a h:Nat):hgt (H.filter (fun p=>p.1 != a)) h=if h=a then none else hgt H h:=by
 induction H with
 |nil=>simp[hgt]
 |cons p H ih=>
  obtain⟨b,f⟩:=p
  by_cases hb:b=a
  ·subst hb;rw[List.filter_cons_of_neg (by simp),ih,nK]
   by_cases hh:h=b
   ·rw[if_pos hh,if_pos hh]
   ·rw[if_neg hh,if_neg hh,if_neg hh]
  ·rw[List.filter_cons_of_pos (by simpa using hb),nK,nK,ih]
   by_cases hh:h=b
   ·subst hh;rw[if_pos rfl,if_neg hb,if_pos rfl]
   ·rw[if_neg hh,if_neg hh]
theorem JB(H:List (Nat×Nat))(a e:Nat):nJ ((a,e)::H)=iC (nJ H) a (some (e:Int)):=by
 funext h
 unfold nJ iC;rw[nK]
 split<;>rfl
theorem CU(H:List (Nat×Nat))(a:Nat):nJ (H.filter (fun p=>p.1 != a))=iC (nJ H) a none:=by
 funext h
 unfold nJ iC;rw[EK]
 split<;>rfl
theorem EL{H:List (Nat×Nat)}(hd:(H.map (·.1)).Nodup){a e:Nat}(h:(a,e)∈H):(H.filter (fun p=>p.1 != a)).length+1=H.length:=by
 induction H with
 |nil=>cases h
 |cons p H ih=>
  obtain⟨b,f⟩:=p;rw[List.map_cons,List.nodup_cons]at hd
  by_cases hb:b=a
  ·subst hb;rw[List.filter_cons_of_neg (by simp)]
   have:H.filter (fun p=>p.1 != b)=H:=List.filter_eq_self.2 (fun q hq=>by
    simp only[bne_iff_ne,ne_eq];intro h9
    exact hd.1 (List.mem_map.2 ⟨q,hq,h9⟩))
   rw[this];rfl
  ·rw[List.filter_cons_of_pos (by simpa using hb)]
   rcases List.mem_cons.1 h with h8|h8
   ·injection h8 with h8;exact absurd h8.symm hb
   ·have:=ih hd.2 h8;simp only[List.length_cons];omega
/-- An event's cells. -/
def EM(e:Bd.Ev):List Value:=[.int .i64 e.after,.int .i64 e.kind,.int .i64 e.level]
/-- The events that wait. -/
def Wt(K:Nat→Nat)(w:World)(v:Value)(l:List Bd.Ev):Prop:=(v=.slice none 0 0∧l=[])∨∃g off cap,v=.slice (some ⟨g,off,none⟩) l.length cap∧l.length≤cap∧K g=15∧(∃(cs:Array Value)(T:TypeId),w.heap[g]?=some (.cells cs T (0,0))∧off+cap*3≤cs.size)∧∀i e,l[i]?=some e→∀j,j<3→w.cell? ⟨g,off+(i*3+j),none⟩=(EM e)[j]?
/-- Where the manager's parts lie. -/
structure ML where
 sb:Nat
 mb:Nat
 hb:Nat
 wv:Value
 calls:Int
/-- The manager's parts in memory. -/
structure jT(K:Nat→Nat)(w:World)(p:Nat)(A:ML)(n room:Nat)(M:Bd.MS)(t:Nat→iN):Prop where
 row:w.heap[p]?=some (.cells #[.pointer (some ⟨A.sb,0,none⟩),.pointer (some ⟨A.mb,0,none⟩),.map (some A.hb),.int .i64 (M.next:Nat),A.wv,.int .i64 A.calls] 117 (0,0))
 store:dG K w A.sb n room M.S M.ah M.ord
 memo:iq K w A.mb t
 han:bV MU w A.hb M.H.length (nJ M.H)
 wait:Wt K w A.wv M.waits
 kp:K p=1
 kh:K A.hb=14
/-- The manager in memory,wherever its parts lie. -/
def bB(K:Nat→Nat)(w:World)(p n room:Nat)(M:Bd.MS)(t:Nat→iN):Prop:=∃A,jT K w p A n room M t
/-- The roles of the manager (50: a box that an operation writes). -/
def mR(r:Nat):Prop:=1≤r∧r≠50
section
variable {K K':Nat→Nat} {w w':World} {p n room:Nat} {A:ML} {M M':Bd.MS} {t t':Nat→iN} {R:Nat→Prop}
theorem Wt.aG{v:Value}{l:List Bd.Ev}(h:Wt K w v l)(tt:aj R K w K' w')(hR:¬R 15):Wt K' w' v l:=by
 rcases h with h|⟨g,off,cap,h1,h2,h3,⟨cs,T,h4,h6⟩,h5⟩
 ·exact .inl h
 ·refine .inr ⟨g,off,cap,h1,h2,(tt.role h4).trans h3,⟨cs,T,tt.obj h4 (by rw[h3];exact hR),h6⟩,fun i e hi j hj=>?_⟩;rw[←h5 i e hi j hj];exact World.cell?_of_block (a:=⟨g,_,none⟩) (tt.block (aV h4) (by rw[h3];exact hR))
theorem jT.aG(h:jT K w p A n room M t)(tt:aj R K w K' w')(hR:∀r,R r→¬mR r):jT K' w' p A n room M t:=by
 have hn:∀r,1≤r∧r≠50→¬R r:=fun r h1 h2=>hR r h2 h1;exact⟨tt.obj h.row (by rw[h.kp];exact hn 1 (by omega)),h.store.aG tt (fun r h1 h2=>hn r (by unfold sR at h2;omega) h1),h.memo.aG tt (fun r h1=>⟨fun e=>hn r (by omega) h1,fun e=>hn r (by omega) h1⟩),h.han.kept (tt.block h.han.lt (by rw[h.kh];exact hn 14 (by omega))),h.wait.aG tt (hn 15 (by omega)),(tt.role h.row).trans h.kp,(tt.ext _ h.han.lt).trans h.kh⟩
theorem jT.CV{S':Bd.St}{fV:Nat→Nat}{ji:List Nat}{D':Nat→Bd.BF}(h:jT K w p A n room M t)(hs:dG K' w' A.sb n room S' fV ji)(tt:aj sR K w K' w'):jT K' w' p A n room {M with S:=S',ah:=fV,ord:=ji,D:=D'} t:=
 ⟨tt.obj h.row (by rw[h.kp];unfold sR;omega),hs,h.memo.aG tt (fun r h1=>by unfold sR at h1;omega),h.han.kept (tt.block h.han.lt (by rw[h.kh];unfold sR;omega)),h.wait.aG tt (by unfold sR;omega),(tt.role h.row).trans h.kp,(tt.ext _ h.han.lt).trans h.kh⟩
theorem jT.EN(h:jT K w p A n room M t)(hm:iq K' w' A.mb t')(tt:aj (fun r=>r=12∨r=13) K w K' w'):jT K' w' p A n room M t':=
 ⟨tt.obj h.row (by rw[h.kp];omega),h.store.aG tt (fun r h1 h2=>by unfold sR at h2;omega),hm,h.han.kept (tt.block h.han.lt (by rw[h.kh];omega)),h.wait.aG tt (by omega),(tt.role h.row).trans h.kp,(tt.ext _ h.han.lt).trans h.kh⟩
theorem jT.setH{H':List (Nat×Nat)}(h:jT K w p A n room M t)(hm:bV MU w' A.hb H'.length (nJ H'))(o:Only (fun q=>q=A.hb) w w'):jT K w' p A n room {M with H:=H'} t∧aj (fun r=>r=14) K w K w':=by
 have tt:aj (fun r=>r=14) K w K w':=⟨o.mono (fun q e=>by rw[e];exact h.kh),fun _ _=>rfl⟩;exact⟨⟨tt.obj h.row (by rw[h.kp];omega),h.store.aG tt (fun r h1 h2=>by unfold sR at h2;omega),h.memo.aG tt (fun r h1=>by omega),hm,h.wait.aG tt (by omega),h.kp,h.kh⟩,tt⟩
/-- One cell of the manager's own row is written. -/
theorem jT.CW(h:jT K w p A n room M t)(o:Nat)(v:Value):aj (fun r=>r=1) K w K (w.setCell ⟨p,o,none⟩ v):=aj.refl.iI h.kp (aV h.row) v
theorem jT.Ub(h:jT K w p A n room M t)(x:Nat):jT K (w.setCell ⟨p,3,none⟩ (.int .i64 (x:Nat))) p A n room {M with next:=x} t:=by
 have tt:=h.CW 3 (.int .i64 (x:Nat));exact⟨aH h.row _,h.store.aG tt (fun r h1 h2=>by unfold sR at h2;omega),h.memo.aG tt (fun r h1=>by omega),h.han.kept (tt.block h.han.lt (by rw[h.kh];omega)),h.wait.aG tt (by omega),h.kp,h.kh⟩
theorem jT.JC(h:jT K w p A n room M t)(x:Int):jT K (w.setCell ⟨p,5,none⟩ (.int .i64 x)) p {A with calls:=x} n room M t:=by
 have tt:=h.CW 5 (.int .i64 x);exact⟨aH h.row _,h.store.aG tt (fun r h1 h2=>by unfold sR at h2;omega),h.memo.aG tt (fun r h1=>by omega),h.han.kept (tt.block h.han.lt (by rw[h.kh];omega)),h.wait.aG tt (by omega),h.kp,h.kh⟩
theorem jT.setW{v:Value}{l:List Bd.Ev}(h:jT K w p A n room M t)(hv:Wt K w v l):jT K (w.setCell ⟨p,4,none⟩ v) p {A with wv:=v} n room {M with waits:=l} t:=by
 have tt:=h.CW 4 v;exact⟨aH h.row _,h.store.aG tt (fun r h1 h2=>by unfold sR at h2;omega),h.memo.aG tt (fun r h1=>by omega),h.han.kept (tt.block h.han.lt (by rw[h.kh];omega)),hv.aG tt (by omega),h.kp,h.kh⟩
theorem bB.aG(h:bB K w p n room M t)(tt:aj R K w K' w')(hR:∀r,R r→¬mR r):bB K' w' p n room M t:=by
 obtain⟨A,h⟩:=h;exact⟨A,h.aG tt hR⟩
theorem bB.below(h:bB K w p n room M t)(hb:Below w.heap.size w w'):bB K w' p n room M t:=h.aG (R:=fun _=>False) (aj.of_below hb) (fun _ h=>h.elim)
/-- The first event and the rest. -/
theorem Wt.rest{g off cap:Nat}{v:Value}{e:Bd.Ev}{l:List Bd.Ev}(h1:v=.slice (some ⟨g,off,none⟩) (l.length+1) cap)(h2:l.length+1≤cap)(h3:K g=15)(h4:∃(cs:Array Value) (T:TypeId),w.heap[g]?=some (.cells cs T (0,0))∧off+cap*3≤cs.size)(h5:∀i a,(e::l)[i]?=some a→∀j,j<3→w.cell? ⟨g,off+(i*3+j),none⟩=(EM a)[j]?):Wt K w (.slice (some ⟨g,off+3,none⟩) l.length (cap-1)) l:=by
 obtain⟨cs,T,h6,h7⟩:=h4;refine .inr ⟨g,off+3,cap-1,rfl,by omega,h3,⟨cs,T,h6,by omega⟩,fun i a hi j hj=>?_⟩;rw[←h5 (i+1) a (by simpa using hi) j hj];rw[show off+3+(i*3+j)=off+((i+1)*3+j) by omega]
end
end
theorem fA(e:Nat)(w:World)(h:e<4611686018427387904):Calls Tryz.prog 108 #[.int .i64 (e:Nat)] w fun x w'=>x=.returned (.int .i64 ((e/2:Nat):Int))∧w'=w:=by
 go_in
 go_wp2
 go_ret;exact⟨by rw[show((e/2:Nat):Int)=(e:Int)/2 from by omega];rfl,rfl⟩
theorem qN(e:Nat)(w:World)(h:e<4611686018427387904):Calls Tryz.prog 133 #[.int .i64 (e:Nat)] w fun x w'=>x=.returned (.int .i64 ((Bd.neg e:Nat):Int))∧w'=w:=by
 have hb:=MP (e:=e) (by omega);go_in
 go_wp2
 go_ret;exact⟨rfl,rfl⟩
theorem vT(e:Nat)(w:World)(h:e<4611686018427387904):Calls Tryz.prog 155 #[.int .i64 (e:Nat)] w fun x w'=>x=.returned (.bool (Bd.odd e))∧w'=w:=by
 have ho:Bd.odd e=(((e:Nat):Int)%2==1):=by
  unfold Bd.odd;rw[Bool.eq_iff_iff,beq_iff_eq,beq_iff_eq];omega
 have H:=Lib.hid ho;clear ho;go_in
 go_wp2
 all_goals go_ret
 ·exact⟨by rw[H];rfl,rfl⟩
 ·rename_i h0
  have h1:e=0:=by omega
  subst h1;exact⟨rfl,rfl⟩
theorem gq(e:Nat)(b:Bool)(w:World)(h:e<4611686018427387904):Calls Tryz.prog 80 #[.int .i64 (e:Nat),.bool b] w fun x w'=>x=.returned (.int .i64 ((Bd.flip e b:Nat):Int))∧w'=w:=by
 have c:=qN e w h;cases b
 ·go_in
  go_wp2
  go_ret;exact⟨rfl,rfl⟩
 ·go_in
  go_wp2_with (go_at_call 133;refine c.mono ?_;rintro x w' ⟨rfl,rfl⟩)
  go_ret;exact⟨rfl,rfl⟩
theorem iU(e:Nat)(w:World)(h:e<4611686018427387904):Calls Tryz.prog 107 #[.int .i64 (e:Nat)] w fun x w'=>x=.returned (.bool (e/2==0))∧w'=w:=by
 have c:=fA e w h
 have ho:(e/2==0)=(((e/2:Nat):Int)==0):=by
  rw[Bool.eq_iff_iff,beq_iff_eq,beq_iff_eq];omega
 have H:=Lib.hid ho;clear ho
 generalize hk:e/2=k at *
 go_in
 go_wp2_with (go_at_call 108;refine c.mono ?_;rintro x w' ⟨rfl,rfl⟩)
 go_ret;exact⟨by rw[H];rfl,rfl⟩
theorem uI(i:Nat)(b:Bool)(w:World)(h:i<1000000000000000000):Calls Tryz.prog 161 #[.int .i64 (i:Nat),.bool b] w fun x w'=>x=.returned (.int .i64 ((Bd.edge i b:Nat):Int))∧w'=w:=by
 have c:=gq (2*i) b w (by omega);have H:=Lib.hid (show Bd.edge i b=Bd.flip (2*i) b from rfl);go_in
 go_wp2_with (go_at_call 80;refine c.mono ?_;rintro x w' ⟨rfl,rfl⟩)
 go_ret;exact⟨by rw[H];rfl,rfl⟩
theorem sH(a b:Nat)(w:World)(ha:a<4611686018427387904)(hb:b<4611686018427387904):Calls Tryz.prog 158 #[.int .i64 (a:Nat),.int .i64 (b:Nat)] w fun x w'=>x=.returned (.tuple #[.int .i64 ((Bd.flip a (Bd.odd b):Nat):Int),.int .i64 ((Bd.flip b (Bd.odd b):Nat):Int),.bool (Bd.odd b)])∧w'=w:=by
 have c1:=vT b w hb;have c2:=gq a (Bd.odd b) w ha;have c3:=gq b (Bd.odd b) w hb
 generalize Bd.odd b=t at *
 generalize Bd.flip a t=p at *
 generalize Bd.flip b t=q at *
 go_in
 go_wp2_with (first|(go_at_call 155;refine c1.mono ?_;rintro x w' ⟨rfl,rfl⟩)|(go_at_call 80;first|(refine c2.mono ?_;rintro x w' ⟨rfl,rfl⟩)|(refine c3.mono ?_;rintro x w' ⟨rfl,rfl⟩)))
 go_ret3
 exact⟨rfl,rfl⟩
section
section
variable {K K':Nat→Nat} {w w':World} {sb n room:Nat} {L:SL} {S:Bd.St} {ah:Nat→Nat} {ord:List Nat}
theorem CX(h:pF K w sb L n room S ah ord)(v:Nat)(hv:v<n)(hn:n≤1000000):Calls Tryz.prog 139 #[.pointer (some ⟨L.lb,0,none⟩),.int .i64 (v:Nat)] w fun x w'=>x=.returned (.int .i64 (ah v:Nat))∧w'=w:=by
 have y1:w.cell? ⟨L.lb,1,none⟩=some (.slice (some ⟨L.gl,0,none⟩) n L.Ng):=au h.iE 1 rfl;have z:=h.level.cell (i:=v) (j:=0) hv (by omega);simp only[Nat.mul_one,Nat.add_zero,List.getElem?_cons_zero]at z;have hv':(v:Int)<(n:Int):=by omega
 have hlb:=aV h.iE
 generalize L.lb=lb at *
 generalize L.gl=gl at *
 generalize L.Ng=Ng at *
 generalize ah v=x at *
 clear h;go_in
 go_wp2
 go_ret;exact⟨rfl,rfl⟩
theorem lV(h:pF K w sb L n room S ah ord)(v:Nat)(hv:v<n)(hn:n≤1000000):Calls Tryz.prog 87 #[.pointer (some ⟨sb,0,none⟩),.int .i64 (v:Nat)] w fun x w'=>x=.returned (.int .i64 (ah v:Nat))∧w'=w:=by
 have y0:w.cell? ⟨sb,0,none⟩=some (.pointer (some ⟨L.lb,0,none⟩)):=au h.row 0 rfl;have c:=CX h v hv hn;clear h;go_in
 go_wp2_with (go_at_call 139;refine c.mono ?_;rintro x w' ⟨rfl,hw⟩;rw[hw];clear hw)
 go_ret;exact⟨rfl,rfl⟩
theorem JD(h:pF K w sb L n room S ah ord):Calls Tryz.prog 109 #[.pointer (some ⟨sb,0,none⟩)] w fun x w'=>x=.returned (.int .i64 (n:Nat))∧w'=w:=by
 have y0:w.cell? ⟨sb,0,none⟩=some (.pointer (some ⟨L.lb,0,none⟩)):=au h.row 0 rfl;have y1:w.cell? ⟨L.lb,0,none⟩=some (.slice (some ⟨L.gv,0,none⟩) n L.cvv):=au h.iE 0 rfl;clear h;go_in
 go_wp2
 go_ret;exact⟨rfl,rfl⟩
theorem JE(h:pF K w sb L n room S ah ord):Calls Tryz.prog 166 #[.pointer (some ⟨sb,0,none⟩)] w fun x w'=>x=.returned (.int .i64 (room:Nat))∧w'=w:=by
 have y0:w.cell? ⟨sb,1,none⟩=some (.pointer (some ⟨L.pb,0,none⟩)):=au h.row 1 rfl;have c:=Jm h.pool;clear h;go_in
 go_wp2_with (go_at_call 181;refine c.mono ?_;rintro x w' ⟨rfl,hw⟩;rw[hw];clear hw)
 go_ret;exact⟨rfl,rfl⟩
theorem Nk(h:pF K w sb L n room S ah ord):Calls Tryz.prog 167 #[.pointer (some ⟨sb,0,none⟩)] w fun x w'=>x=.returned (.int .i64 (S.many:Nat))∧w'=w:=by
 have y0:w.cell? ⟨sb,1,none⟩=some (.pointer (some ⟨L.pb,0,none⟩)):=au h.row 1 rfl;have c:=Nb h.pool;clear h;go_in
 go_wp2_with (go_at_call 182;refine c.mono ?_;rintro x w' ⟨rfl,hw⟩;rw[hw];clear hw)
 go_ret;exact⟨rfl,rfl⟩
end
end
abbrev aZ:=@List.setIfInBounds_toArray
abbrev bq:=@List.set_cons_zero
abbrev bA:=@List.set_cons_succ
theorem jU{w W:World}{o:Obj}(h:W=w.alloc o):Below w.heap.size w W:=by rw[h];exact(Below.refl _ _).alloc (Nat.le_refl _) _
theorem JF{w W:World}{o:Obj}{b:Nat}(h:W=w.alloc o)(hb:b=w.heap.size):Hid (W.heap[b]?=some o):=by show _=_;rw[h,hb];exact heap_alloc_new w o
theorem kX{w w':World}{b:Nat}{o:Obj}(hb:Below w.heap.size w w')(X:Hid (w.heap[b]?=some o)):Hid (w'.heap[b]?=some o):=(hb.block b (aV X)).trans X
theorem bcl{W w1:World}(hb:Below W.heap.size W w1):(∀b o,b<W.heap.size→w1.cell? ⟨b,o,none⟩=W.cell? ⟨b,o,none⟩)∧(∀b o,b<W.heap.size→w1.frozen? ⟨b,o,none⟩=W.frozen? ⟨b,o,none⟩):=
 ⟨fun b o h=>hb.cell (p:=⟨b,o,none⟩) h,fun b o h=>hb.frozen (p:=⟨b,o,none⟩) h⟩
theorem aD{P:Program}{ops:Array Oper}{Q:Exit→Act→World→Prop}{S:World→Prop}(i:Nat){oi:Oper}{v:Value}{fuel:Nat}{listed:Array Bool}{a:Act}{w:World}(hi:ops.toList[i]?=some oi)(hy:∀w0,S w0→(execOp a.eval oi).run P w0=.ok (.value v) w0)
 (h:wpAnyH P .any ops Q S fuel (listed.setIfInBounds i true) (a.put oi.dst v) w) (hw:Region.wanted oi (yielded ops a.tmps)=true:=by rfl) (hS:S w:=by assumption) (hs:Region.noSelect ops=true:=by kernel_rfl) (hf:Region.free .any ops listed i=true:=by kernel_rfl) (hr:(Region.ready .any ops listed).contains i=true:=by decide +kernel)
 (hQ:∀c a w,Q (.panic c) (a.put oi.dst v) w→Q (.panic c) a w:=by exact fun _ _ _ h=>h):wpAnyH P .any ops Q S (fuel+1) listed a w:=wpAnyH_take (by simpa using hi) hs hf hr hQ (.inl ⟨hw,hy⟩) hS h
theorem dA{o:Array Oper}{i:Nat}{x:Oper}(h:o.toList[i]?=some x):o[i]?=some x:=by simpa using h
theorem Nl{P:Program}{ops:Array Oper}{a:Act}{W:World}{K:Act→World→Prop}{Q:Exit→Act→World→Prop}{d:Option Tmp}{ty:TypeId}{ps:String}{af:Array Edge}{gd:Option (Nat×Bool)}{E:Prop}{t:TypeId}(h:if Region.wanted (Oper.mk d (.alloc t) ty ps af gd) (yielded ops a.tmps)=true then Oper.wp P (Oper.mk d (.alloc t) ty ps af gd) a W K Q else E):if Region.wanted (Oper.mk d (.alloc t) ty ps af gd) (yielded ops a.tmps)=true then Oper.wp P (Oper.mk d (.alloc t) ty ps af gd) a W K Q else E:=h
theorem bW{P:Program}{ops:Array Oper}{a:Act}{W:World}{K:Act→World→Prop}{Q:Exit→Act→World→Prop}{d:Option Tmp}{ty:TypeId}{ps:String}{af:Array Edge}{gd:Option (Nat×Bool)}{E:Prop}(k:Nat){ar:Array Operand}{at_:Array TypeId}(h:if Region.wanted (Oper.mk d (.call {callee:=.value (.func k),args:=ar,argTypes:=at_}) ty ps af gd) (yielded ops a.tmps)=true then Oper.wp P (Oper.mk d (.call {callee:=.value (.func k),args:=ar,argTypes:=at_}) ty ps af gd) a W K Q else E):if Region.wanted (Oper.mk d (.call {callee:=.value (.func k),args:=ar,argTypes:=at_}) ty ps af gd) (yielded ops a.tmps)=true then Oper.wp P (Oper.mk d (.call {callee:=.value (.func k),args:=ar,argTypes:=at_}) ty ps af gd) a W K Q else E:=h
theorem Np{P:Program}{ops:Array Oper}{a:Act}{W:World}{K:Act→World→Prop}{Q:Exit→Act→World→Prop}{d:Option Tmp}{ty:TypeId}{ps:String}{af:Array Edge}{gd:Option (Nat×Bool)}{E:Prop}{t:TypeId}{x y:Operand}(h:if Region.wanted (Oper.mk d (.store t x y) ty ps af gd) (yielded ops a.tmps)=true then Oper.wp P (Oper.mk d (.store t x y) ty ps af gd) a W K Q else E):if Region.wanted (Oper.mk d (.store t x y) ty ps af gd) (yielded ops a.tmps)=true then Oper.wp P (Oper.mk d (.store t x y) ty ps af gd) a W K Q else E:=h
/-- A node that was read lies in a new block. -/
def CY(w:World)(S:Bd.St)(i:Nat)(v u:Value)(W:World):Prop:=∃b,v=.pointer (some ⟨b,0,none⟩)∧u=.bool (S.nd i).isSome∧w.heap.size≤b∧Below w.heap.size w W∧W.heap[b]?=some (.cells #[.int .i64 (nI S i:Nat),.int .i64 (nV S i:Nat),.int .i64 (nL S i:Nat),.int .i64 (nH S i:Nat),.int .i64 (nR S i:Nat)] 171 (0,0))
theorem aN{w W:World}{b:Nat}(h:Below w.heap.size w W)(hb:w.heap.size≤b)(j:Nat)(v:Value):Below w.heap.size w (W.setCell ⟨b,j,none⟩ v):=h.setCell (p:=⟨b,j,none⟩) hb v
theorem EO{W:World}{b:Nat}{T:TypeId}{u0 u1 u2 u3 u4:Value}(h:W.heap[b]?=some (.cells #[u0,u1,u2,u3,u4] T (0,0)))(v0 v1 v2 v3 v4:Value) :
 (((((W.setCell ⟨b,0,none⟩ v0).setCell ⟨b,1,none⟩ v1).setCell ⟨b,2,none⟩ v2).setCell ⟨b,3,none⟩ v3).setCell ⟨b,4,none⟩ v4).heap[b]?=some (.cells #[v0,v1,v2,v3,v4] T (0,0)):=
 aH (aH (aH (aH (aH h v0) v1) v2) v3) v4
section
section
variable {K K':Nat→Nat} {w w':World} {sb n room:Nat} {L:SL} {S:Bd.St} {ah:Nat→Nat} {ord:List Nat}
theorem qO(h:pF K w sb L n room S ah ord)(e:Nat)(he:e<4611686018427387904):Calls Tryz.prog 114 #[.pointer (some ⟨sb,0,none⟩),.int .i64 (e:Nat)] w fun x w'=>x=.returned (.bool ((e/2==0)||(S.nd (e/2)).isSome))∧Below w.heap.size w w':=by
 have y1:w.cell? ⟨sb,1,none⟩=some (.pointer (some ⟨L.pb,0,none⟩)):=au h.row 1 rfl;have tQ:=Lib.hid h.row;have hsb:=aV h.row;have cN:=fun w=>fA e w he;have Qq:=Lib.hid h.pool;obtain⟨i,HI⟩:=aJ (e/2);have hib:i<4611686018427387904:=by have:=HI.out;omega
 rw[←HI]at cN⊢;obtain⟨F,HF⟩:=aJ (fun(x:Ending)(w':World)=>x=.returned (.bool ((i==0)||(S.nd i).isSome))∧Below w.heap.size w w');rw[←HF];clear h;go_in
 go_upto_region 3 with fail
 go_cut [5,6]from 7 (fun v u W=>CY w S i v u W)
 case first=>
  refine wp_region_held_drew (S:=fun W=>W.cell? ⟨sb,1,none⟩=some (.pointer (some ⟨L.pb,0,none⟩))) (by kernel_rfl) y1 (fun hHeld=>?_);obtain⟨Wc,hWc⟩:=wX w.drew;have HB:Hid (Below w.heap.size w Wc):=by show Below _ _ _;rw[hWc];exact(Below.refl _ w).drew
  rw[←hWc]at hHeld⊢;clear hWc y1
  repeat
   (first|refine aD 0 (v:=?_) rfl ?hy ?_|refine aD 1 (v:=?_) rfl ?hy ?_|refine aD 2 (v:=?_) rfl ?hy ?_|refine aD 3 (v:=?_) rfl ?hy ?_|refine aD 4 (v:=?_) rfl ?hy ?_|refine aD 7 (v:=?_) rfl ?hy ?_|refine aD 8 (v:=?_) rfl ?hy ?_|refine aD 9 (v:=?_) rfl ?hy ?_|refine aD 12 (v:=?_) rfl ?hy ?_
    case hy=>
     intro w0 hS;have c1:=hS;clear hS;go_simp
     (first|done|with_reducible rfl)
    try simp only[Act.put,aZ,bq,bA])
  iterate 4
   all_goals first
    |refine wpAnyH_ready (rs:=[5,10]) (by decide +kernel) (by simp) (AllReadyH.cons (dA rfl) (fun K hK=>?_) (AllReadyH.cons (dA rfl) (fun K hK=>?_) AllReadyH.nil))
    |refine wpAnyH_ready (rs:=[6,10]) (by decide +kernel) (by simp) (AllReadyH.cons (dA rfl) (fun K hK=>?_) (AllReadyH.cons (dA rfl) (fun K hK=>?_) AllReadyH.nil))
    |refine wpAnyH_ready (rs:=[5]) (by decide +kernel) (by simp) (AllReadyH.cons (dA rfl) (fun K hK=>?_) AllReadyH.nil)
    |refine wpAnyH_ready (rs:=[10]) (by decide +kernel) (by simp) (AllReadyH.cons (dA rfl) (fun K hK=>?_) AllReadyH.nil)
    |refine wpAnyH_ready (rs:=[6]) (by decide +kernel) (by simp) (AllReadyH.cons (dA rfl) (fun K hK=>?_) AllReadyH.nil)
    |refine wpAnyH_ready (rs:=[11]) (by decide +kernel) (by simp) (AllReadyH.cons (dA rfl) (fun K hK=>?_) AllReadyH.nil)
    |fail
   all_goals first
    |(refine bW 108 ?_
      go_simp;clear hHeld;refine(cN Wc).mono ?_;rintro x w3 ⟨rfl,hw3⟩;rw[hw3];clear hw3;refine hK.out _ _ (au ((HB.block sb hsb).trans tQ) 1 rfl) (fun hHeld=>?_);clear hK K
      try simp only[Act.put,aZ,bq,bA])
    |(refine bW 123 ?_
      go_simp;clear hHeld;refine(jL (Qq.below HB) i hib).mono ?_;rintro x w3 ⟨rfl,hb3⟩;replace HB:=Lib.hid (HB.trans (hb3.mono HB.size));refine hK.out _ _ (au ((HB.block sb hsb).trans tQ) 1 rfl) (fun hHeld=>?_);clear hK K;try simp only[Act.put,aZ,bq,bA]
      first
       |(replace X3:=kX hb3 X3)
       |skip
      clear hb3 Wc
      rename World=>Wc)
    |(refine Nl ?_
      go_simp;clear hHeld;obtain⟨b3,hb3⟩:=wX Wc.heap.size;obtain⟨Wd,hV⟩:=wX (Wc.alloc (.cells #[.int .i64 0,.int .i64 0,.int .i64 0,.int .i64 0,.int .i64 0] 171));have bZ:w.heap.size≤b3:=by rw[hb3];exact HB.size
      have hb5:=jU hV;have X3:=JF hV hb3;replace HB:=Lib.hid (HB.trans (hb5.mono HB.size));rw[←hV,←hb3];refine hK.out _ _ (au ((HB.block sb hsb).trans tQ) 1 rfl) (fun hHeld=>?_);clear hK K;(try simp only[Act.put,aZ,bq,bA]);clear hV hb3 hb5 Wc
      rename World=>Wc)
    |(refine Np ?_
      have v0:=au X3 0 rfl;have v1:=au X3 1 rfl;have v2:=au X3 2 rfl;have v3:=au X3 3 rfl;have v4:=au X3 4 rfl;have vz:=jv X3;have hx3:=aV X3;go_simp;clear hHeld v0 v1 v2 v3 v4 vz hx3;have HB2:=Lib.hid (aN (aN (aN (aN (aN HB bZ 0 (.int .i64 (nI S i:Nat))) bZ 1 (.int .i64 (nV S i:Nat))) bZ 2 (.int .i64 (nL S i:Nat))) bZ 3 (.int .i64 (nH S i:Nat))) bZ 4 (.int .i64 (nR S i:Nat)));refine hK.out _ _ (au ((HB2.block sb hsb).trans tQ) 1 rfl) (fun hHeld=>?_);clear hK K
      try simp only[Act.put,aZ,bq,bA])
    |fail
   all_goals
    repeat
     (first|refine aD 0 (v:=?_) rfl ?hy ?_|refine aD 1 (v:=?_) rfl ?hy ?_|refine aD 2 (v:=?_) rfl ?hy ?_|refine aD 3 (v:=?_) rfl ?hy ?_|refine aD 4 (v:=?_) rfl ?hy ?_|refine aD 7 (v:=?_) rfl ?hy ?_|refine aD 8 (v:=?_) rfl ?hy ?_|refine aD 9 (v:=?_) rfl ?hy ?_|refine aD 12 (v:=?_) rfl ?hy ?_
      case hy=>
       intro w0 hS;have c1:=hS;clear hS;go_simp
       (first|done|with_reducible rfl)
      try simp only[Act.put,aZ,bq,bA])
  all_goals refine wpAnyH_done (by decide +kernel) ?_ _
  all_goals
   clear hHeld;go_wp2_with fail
   go_meet
   case rel=>exact⟨b3,rfl,rfl,bZ,aN (aN (aN (aN (aN HB bZ 0 _) bZ 1 _) bZ 2 _) bZ 3 _) bZ 4 _,EO X3 _ _ _ _ _⟩
 case rest=>
  obtain⟨b,rfl,rfl,hb,hB,hx⟩:=hcut
  generalize (S.nd i).isSome=t at *
  have HB:=Lib.hid hB;clear hB hx
  by_cases hi:i=0
  ·subst hi
   go_wp2_with (go_at_call 108;refine(cN _).mono ?_;rintro x w3 ⟨rfl,hw3⟩;rw[hw3];clear hw3)
   rw[HF];exact⟨rfl,HB⟩
  ·have hi1:((i:Int)==0)=false:=by simp;omega
   have HX:Hid ((i==0)=false):=by show _=_;simp;omega
   clear hi
   go_wp2_with (go_at_call 108;refine(cN _).mono ?_;rintro x w3 ⟨rfl,hw3⟩;rw[hw3];clear hw3)
   rw[HF];exact⟨by rw[HX];rfl,HB⟩
theorem vU(h:pF K w sb L n room S ah ord)(hlt:∀i d,S.nd i=some d→d.v<n)(hn:n≤1000000)(hlv:∀v,v<n→ah v<1000000)(e l:Nat)(he:e<4611686018427387904)(hl:l≤1000000):Calls Tryz.prog 157 #[.pointer (some ⟨sb,0,none⟩),.int .i64 (e:Nat),.int .i64 (l:Nat)] w fun x w'=>x=.returned (.bool ((e/2==0)||((S.nd (e/2)).isSome&&decide (l<ah (nV S (e/2))))))∧Below w.heap.size w w':=by
 have y1:w.cell? ⟨sb,1,none⟩=some (.pointer (some ⟨L.pb,0,none⟩)):=au h.row 1 rfl;have tQ:=Lib.hid h.row;have hsb:=aV h.row;have cN:=fun w=>fA e w he;have Qq:=Lib.hid h.pool;obtain⟨i,HI⟩:=aJ (e/2);have hib:i<4611686018427387904:=by have:=HI.out;omega
 rw[←HI]at cN⊢;obtain⟨F,HF⟩:=aJ (fun(x:Ending)(w':World)=>x=.returned (.bool ((i==0)||((S.nd i).isSome&&decide (l<ah (nV S i)))))∧Below w.heap.size w w');rw[←HF];have HH:=Lib.hid h;have HLT:=Lib.hid hlt;have BA:=Lib.hid hlv;clear h hlt hlv;go_in
 go_upto_region 1 with fail
 go_cut [7,8]from 9 (fun v u W=>CY w S i v u W)
 case first=>
  refine wp_region_held_drew (S:=fun W=>W.cell? ⟨sb,1,none⟩=some (.pointer (some ⟨L.pb,0,none⟩))) (by kernel_rfl) y1 (fun hHeld=>?_);obtain⟨Wc,hWc⟩:=wX w.drew;have HB:Hid (Below w.heap.size w Wc):=by show Below _ _ _;rw[hWc];exact(Below.refl _ w).drew
  rw[←hWc]at hHeld⊢;clear hWc y1
  repeat
   (first|refine aD 0 (v:=?_) rfl ?hy ?_|refine aD 1 (v:=?_) rfl ?hy ?_|refine aD 2 (v:=?_) rfl ?hy ?_|refine aD 3 (v:=?_) rfl ?hy ?_|refine aD 4 (v:=?_) rfl ?hy ?_|refine aD 7 (v:=?_) rfl ?hy ?_|refine aD 8 (v:=?_) rfl ?hy ?_|refine aD 9 (v:=?_) rfl ?hy ?_|refine aD 12 (v:=?_) rfl ?hy ?_
    case hy=>
     intro w0 hS;have c1:=hS;clear hS;go_simp
     (first|done|with_reducible rfl)
    try simp only[Act.put,aZ,bq,bA])
  iterate 4
   all_goals first
    |refine wpAnyH_ready (rs:=[5,10]) (by decide +kernel) (by simp) (AllReadyH.cons (dA rfl) (fun K hK=>?_) (AllReadyH.cons (dA rfl) (fun K hK=>?_) AllReadyH.nil))
    |refine wpAnyH_ready (rs:=[6,10]) (by decide +kernel) (by simp) (AllReadyH.cons (dA rfl) (fun K hK=>?_) (AllReadyH.cons (dA rfl) (fun K hK=>?_) AllReadyH.nil))
    |refine wpAnyH_ready (rs:=[5]) (by decide +kernel) (by simp) (AllReadyH.cons (dA rfl) (fun K hK=>?_) AllReadyH.nil)
    |refine wpAnyH_ready (rs:=[10]) (by decide +kernel) (by simp) (AllReadyH.cons (dA rfl) (fun K hK=>?_) AllReadyH.nil)
    |refine wpAnyH_ready (rs:=[6]) (by decide +kernel) (by simp) (AllReadyH.cons (dA rfl) (fun K hK=>?_) AllReadyH.nil)
    |refine wpAnyH_ready (rs:=[11]) (by decide +kernel) (by simp) (AllReadyH.cons (dA rfl) (fun K hK=>?_) AllReadyH.nil)
    |fail
   all_goals first
    |(refine bW 108 ?_
      go_simp;clear hHeld;refine(cN Wc).mono ?_;rintro x w3 ⟨rfl,hw3⟩;rw[hw3];clear hw3;refine hK.out _ _ (au ((HB.block sb hsb).trans tQ) 1 rfl) (fun hHeld=>?_);clear hK K
      try simp only[Act.put,aZ,bq,bA])
    |(refine bW 123 ?_
      go_simp;clear hHeld;refine(jL (Qq.below HB) i hib).mono ?_;rintro x w3 ⟨rfl,hb3⟩;replace HB:=Lib.hid (HB.trans (hb3.mono HB.size));refine hK.out _ _ (au ((HB.block sb hsb).trans tQ) 1 rfl) (fun hHeld=>?_);clear hK K;try simp only[Act.put,aZ,bq,bA]
      first
       |(replace X3:=kX hb3 X3)
       |skip
      clear hb3 Wc
      rename World=>Wc)
    |(refine Nl ?_
      go_simp;clear hHeld;obtain⟨b3,hb3⟩:=wX Wc.heap.size;obtain⟨Wd,hV⟩:=wX (Wc.alloc (.cells #[.int .i64 0,.int .i64 0,.int .i64 0,.int .i64 0,.int .i64 0] 171));have bZ:w.heap.size≤b3:=by rw[hb3];exact HB.size
      have hb5:=jU hV;have X3:=JF hV hb3;replace HB:=Lib.hid (HB.trans (hb5.mono HB.size));rw[←hV,←hb3];refine hK.out _ _ (au ((HB.block sb hsb).trans tQ) 1 rfl) (fun hHeld=>?_);clear hK K;(try simp only[Act.put,aZ,bq,bA]);clear hV hb3 hb5 Wc
      rename World=>Wc)
    |(refine Np ?_
      have v0:=au X3 0 rfl;have v1:=au X3 1 rfl;have v2:=au X3 2 rfl;have v3:=au X3 3 rfl;have v4:=au X3 4 rfl;have vz:=jv X3;have hx3:=aV X3;go_simp;clear hHeld v0 v1 v2 v3 v4 vz hx3;have HB2:=Lib.hid (aN (aN (aN (aN (aN HB bZ 0 (.int .i64 (nI S i:Nat))) bZ 1 (.int .i64 (nV S i:Nat))) bZ 2 (.int .i64 (nL S i:Nat))) bZ 3 (.int .i64 (nH S i:Nat))) bZ 4 (.int .i64 (nR S i:Nat)));refine hK.out _ _ (au ((HB2.block sb hsb).trans tQ) 1 rfl) (fun hHeld=>?_);clear hK K
      try simp only[Act.put,aZ,bq,bA])
    |fail
   all_goals
    repeat
     (first|refine aD 0 (v:=?_) rfl ?hy ?_|refine aD 1 (v:=?_) rfl ?hy ?_|refine aD 2 (v:=?_) rfl ?hy ?_|refine aD 3 (v:=?_) rfl ?hy ?_|refine aD 4 (v:=?_) rfl ?hy ?_|refine aD 7 (v:=?_) rfl ?hy ?_|refine aD 8 (v:=?_) rfl ?hy ?_|refine aD 9 (v:=?_) rfl ?hy ?_|refine aD 12 (v:=?_) rfl ?hy ?_
      case hy=>
       intro w0 hS;have c1:=hS;clear hS;go_simp
       (first|done|with_reducible rfl)
      try simp only[Act.put,aZ,bq,bA])
  all_goals refine wpAnyH_done (by decide +kernel) ?_ _
  all_goals
   clear hHeld;go_wp2_with fail
   go_meet
   case rel=>exact⟨b3,rfl,rfl,bZ,aN (aN (aN (aN (aN HB bZ 0 _) bZ 1 _) bZ 2 _) bZ 3 _) bZ 4 _,EO X3 _ _ _ _ _⟩
 case rest=>
  obtain⟨b,rfl,rfl,hb,hB,hx⟩:=hcut;have HB:=Lib.hid hB;have x1:wc.cell? ⟨b,1,none⟩=some (.int .i64 (nV S i:Nat)):=au hx 1 rfl
  by_cases hi:i=0
  ·clear hB hx x1;subst hi
   generalize (S.nd 0).isSome=t at *
   go_wp2_with (go_at_call 108;refine(cN _).mono ?_;rintro x w3 ⟨rfl,hw3⟩;rw[hw3];clear hw3)
   all_goals
    rw[HF];exact⟨rfl,HB⟩
  ·have hi1:((i:Int)==0)=false:=by simp;omega
   have HX:Hid ((i==0)=false):=by show _=_;simp;omega
   clear hi;have HH2:=Lib.hid (HH.below hB);clear hB hx
   cases hd:S.nd i with
   |none=>
    have HD:=Lib.hid hd;clear hd x1;simp only[Option.isSome_none]
    go_wp2_with (go_at_call 108;refine(cN _).mono ?_;rintro x w3 ⟨rfl,hw3⟩;rw[hw3];clear hw3)
    all_goals
     rw[HF];exact⟨by rw[HX,HD];rfl,HB⟩
   |some d=>
    have hv:=HLT _ _ hd;have hvl:=BA _ hv;rw[(j5 hd).2.1]at x1;have HD:=Lib.hid hd;have HV:=Lib.hid (j5 hd).2.1;clear hd;simp only[Option.isSome_some];have cL:=lV HH2 d.v hv hn
    by_cases ht:l<ah d.v
    ·have ht1:(l:Int)<(ah d.v:Int):=by omega
     have HT2:Hid (decide (l<ah (nV S i))=true):=by show _=_;rw[HV];simpa using ht
     clear ht
     go_wp2_with (first|(go_at_call 108;refine(cN _).mono ?_;rintro x w3 ⟨rfl,hw3⟩;rw[hw3];clear hw3)|(go_at_call 87;refine cL.mono ?_;rintro x w3 ⟨rfl,hw3⟩;rw[hw3];clear hw3))
     all_goals
      rw[HF];exact⟨by rw[HX,HD,HT2];rfl,HB⟩
    ·have ht1:¬(l:Int)<(ah d.v:Int):=by omega
     have HT2:Hid (decide (l<ah (nV S i))=false):=by show _=_;rw[HV];simpa using ht
     have HT3:Hid (decide (l<ah d.v)=false):=by show _=_;simpa using ht
     clear ht
     go_wp2_with (first|(go_at_call 108;refine(cN _).mono ?_;rintro x w3 ⟨rfl,hw3⟩;rw[hw3];clear hw3)|(go_at_call 87;refine cL.mono ?_;rintro x w3 ⟨rfl,hw3⟩;rw[hw3];clear hw3))
     all_goals
      rw[HF];exact⟨by rw[HX,HD,HT2];show Ending.returned (.bool (decide (l<ah d.v)))=_;rw[HT3];rfl,HB⟩
theorem uJ(h:pF K w sb L n room S ah ord)(hee:∀i d,S.nd i=some d→d.lo<4611686018427387904∧d.hi<4611686018427387904)(e:Nat)(he:e<4611686018427387904):Calls Tryz.prog 126 #[.pointer (some ⟨sb,0,none⟩),.int .i64 (e:Nat)] w fun x w'=>x=.returned (match S.nd (e/2)with|some d=>.tuple #[.int .i64 (d.v:Nat),.int .i64 (Bd.flip d.lo (Bd.odd e):Nat),.int .i64 (Bd.flip d.hi (Bd.odd e):Nat),.bool true]|none=>.tuple #[.int .i64 (-1),.int .i64 0,.int .i64 0,.bool false])∧Below w.heap.size w w':=by
 have y1:w.cell? ⟨sb,1,none⟩=some (.pointer (some ⟨L.pb,0,none⟩)):=au h.row 1 rfl;have tQ:=Lib.hid h.row;have hsb:=aV h.row;have cN:=fun w=>fA e w he;have Qq:=Lib.hid h.pool;obtain⟨i,HI⟩:=aJ (e/2);have hib:i<4611686018427387904:=by have:=HI.out;omega
 rw[←HI]at cN⊢;obtain⟨F,HF⟩:=aJ (fun(x:Ending)(w':World)=>x=.returned (match S.nd i with|some d=>.tuple #[.int .i64 (d.v:Nat),.int .i64 (Bd.flip d.lo (Bd.odd e):Nat),.int .i64 (Bd.flip d.hi (Bd.odd e):Nat),.bool true]|none=>.tuple #[.int .i64 (-1),.int .i64 0,.int .i64 0,.bool false])∧Below w.heap.size w w');rw[←HF];have HEE:=Lib.hid hee;have cG:=fun w=>vT e w he;clear h hee;go_in
 go_upto_region 3 with fail
 go_cut [7,8]from 9 (fun u v W=>CY w S i v u W)
 case first=>
  refine wp_region_held_drew (S:=fun W=>W.cell? ⟨sb,1,none⟩=some (.pointer (some ⟨L.pb,0,none⟩))) (by kernel_rfl) y1 (fun hHeld=>?_);obtain⟨Wc,hWc⟩:=wX w.drew;have HB:Hid (Below w.heap.size w Wc):=by show Below _ _ _;rw[hWc];exact(Below.refl _ w).drew
  rw[←hWc]at hHeld⊢;clear hWc y1
  repeat
   (first|refine aD 0 (v:=?_) rfl ?hy ?_|refine aD 1 (v:=?_) rfl ?hy ?_|refine aD 2 (v:=?_) rfl ?hy ?_|refine aD 3 (v:=?_) rfl ?hy ?_|refine aD 4 (v:=?_) rfl ?hy ?_|refine aD 7 (v:=?_) rfl ?hy ?_|refine aD 8 (v:=?_) rfl ?hy ?_|refine aD 9 (v:=?_) rfl ?hy ?_|refine aD 12 (v:=?_) rfl ?hy ?_
    case hy=>
     intro w0 hS;have c1:=hS;clear hS;go_simp
     (first|done|with_reducible rfl)
    try simp only[Act.put,aZ,bq,bA])
  iterate 4
   all_goals first
    |refine wpAnyH_ready (rs:=[5,10]) (by decide +kernel) (by simp) (AllReadyH.cons (dA rfl) (fun K hK=>?_) (AllReadyH.cons (dA rfl) (fun K hK=>?_) AllReadyH.nil))
    |refine wpAnyH_ready (rs:=[6,10]) (by decide +kernel) (by simp) (AllReadyH.cons (dA rfl) (fun K hK=>?_) (AllReadyH.cons (dA rfl) (fun K hK=>?_) AllReadyH.nil))
    |refine wpAnyH_ready (rs:=[5]) (by decide +kernel) (by simp) (AllReadyH.cons (dA rfl) (fun K hK=>?_) AllReadyH.nil)
    |refine wpAnyH_ready (rs:=[10]) (by decide +kernel) (by simp) (AllReadyH.cons (dA rfl) (fun K hK=>?_) AllReadyH.nil)
    |refine wpAnyH_ready (rs:=[6]) (by decide +kernel) (by simp) (AllReadyH.cons (dA rfl) (fun K hK=>?_) AllReadyH.nil)
    |refine wpAnyH_ready (rs:=[11]) (by decide +kernel) (by simp) (AllReadyH.cons (dA rfl) (fun K hK=>?_) AllReadyH.nil)
    |fail
   all_goals first
    |(refine bW 108 ?_
      go_simp;clear hHeld;refine(cN Wc).mono ?_;rintro x w3 ⟨rfl,hw3⟩;rw[hw3];clear hw3;refine hK.out _ _ (au ((HB.block sb hsb).trans tQ) 1 rfl) (fun hHeld=>?_);clear hK K
      try simp only[Act.put,aZ,bq,bA])
    |(refine bW 123 ?_
      go_simp;clear hHeld;refine(jL (Qq.below HB) i hib).mono ?_;rintro x w3 ⟨rfl,hb3⟩;replace HB:=Lib.hid (HB.trans (hb3.mono HB.size));refine hK.out _ _ (au ((HB.block sb hsb).trans tQ) 1 rfl) (fun hHeld=>?_);clear hK K;try simp only[Act.put,aZ,bq,bA]
      first
       |(replace X3:=kX hb3 X3)
       |skip
      clear hb3 Wc
      rename World=>Wc)
    |(refine Nl ?_
      go_simp;clear hHeld;obtain⟨b3,hb3⟩:=wX Wc.heap.size;obtain⟨Wd,hV⟩:=wX (Wc.alloc (.cells #[.int .i64 0,.int .i64 0,.int .i64 0,.int .i64 0,.int .i64 0] 171));have bZ:w.heap.size≤b3:=by rw[hb3];exact HB.size
      have hb5:=jU hV;have X3:=JF hV hb3;replace HB:=Lib.hid (HB.trans (hb5.mono HB.size));rw[←hV,←hb3];refine hK.out _ _ (au ((HB.block sb hsb).trans tQ) 1 rfl) (fun hHeld=>?_);clear hK K;(try simp only[Act.put,aZ,bq,bA]);clear hV hb3 hb5 Wc
      rename World=>Wc)
    |(refine Np ?_
      have v0:=au X3 0 rfl;have v1:=au X3 1 rfl;have v2:=au X3 2 rfl;have v3:=au X3 3 rfl;have v4:=au X3 4 rfl;have vz:=jv X3;have hx3:=aV X3;go_simp;clear hHeld v0 v1 v2 v3 v4 vz hx3;have HB2:=Lib.hid (aN (aN (aN (aN (aN HB bZ 0 (.int .i64 (nI S i:Nat))) bZ 1 (.int .i64 (nV S i:Nat))) bZ 2 (.int .i64 (nL S i:Nat))) bZ 3 (.int .i64 (nH S i:Nat))) bZ 4 (.int .i64 (nR S i:Nat)));refine hK.out _ _ (au ((HB2.block sb hsb).trans tQ) 1 rfl) (fun hHeld=>?_);clear hK K
      try simp only[Act.put,aZ,bq,bA])
    |fail
   all_goals
    repeat
     (first|refine aD 0 (v:=?_) rfl ?hy ?_|refine aD 1 (v:=?_) rfl ?hy ?_|refine aD 2 (v:=?_) rfl ?hy ?_|refine aD 3 (v:=?_) rfl ?hy ?_|refine aD 4 (v:=?_) rfl ?hy ?_|refine aD 7 (v:=?_) rfl ?hy ?_|refine aD 8 (v:=?_) rfl ?hy ?_|refine aD 9 (v:=?_) rfl ?hy ?_|refine aD 12 (v:=?_) rfl ?hy ?_
      case hy=>
       intro w0 hS;have c1:=hS;clear hS;go_simp
       (first|done|with_reducible rfl)
      try simp only[Act.put,aZ,bq,bA])
  all_goals refine wpAnyH_done (by decide +kernel) ?_ _
  all_goals
   clear hHeld;go_wp2_with fail
   go_meet
   case rel=>exact⟨b3,rfl,rfl,bZ,aN (aN (aN (aN (aN HB bZ 0 _) bZ 1 _) bZ 2 _) bZ 3 _) bZ 4 _,EO X3 _ _ _ _ _⟩
 case rest=>
  obtain⟨b,rfl,rfl,hb,hB,hx⟩:=hcut;have HB:=Lib.hid hB
  cases hd:S.nd i with
  |none=>
   have HD:=Lib.hid hd;clear hB hx hd;simp only[Option.isSome_none];go_wp2_with fail;refine bodyPost_ret (v:=.tuple #[.int .i64 (-1),.int .i64 0,.int .i64 0,.bool false]) (by simp[results,Tryz.results126,go_sem]) rfl ?_;rw[HF];refine⟨?_,HB⟩;rw[HD]
  |some d=>
   have h1:=j5 hd;have hx1:wc.cell? ⟨b,1,none⟩=some (.int .i64 (d.v:Nat)):=(au hx 1 rfl).trans (by rw[h1.2.1];rfl);have hx2:wc.cell? ⟨b,2,none⟩=some (.int .i64 (d.lo:Nat)):=(au hx 2 rfl).trans (by rw[h1.2.2.1];rfl);have hx3:wc.cell? ⟨b,3,none⟩=some (.int .i64 (d.hi:Nat)):=(au hx 3 rfl).trans (by rw[h1.2.2.2.1];rfl);obtain⟨e1,e2⟩:=HEE _ _ hd;have cF:=fun w=>gq d.lo (Bd.odd e) w e1;have cF2:=fun w=>gq d.hi (Bd.odd e) w e2;have HD:=Lib.hid hd;clear hB hx hd h1;simp only[Option.isSome_some];go_wp2_with fail;obtain⟨p,HP⟩:=aJ (Bd.flip d.lo (Bd.odd e));obtain⟨q,HQ⟩:=aJ (Bd.flip d.hi (Bd.odd e));rw[←HP]at cF;rw[←HQ]at cF2;obtain⟨t,HT⟩:=aJ (Bd.odd e);rw[←HT]at cF cF2 cG
   go_quiet ((first|(go_at_call 155;exact Calls.quiet_of_same (cG _))|(go_at_call 80;first|exact Calls.quiet_of_same (cF _)|exact Calls.quiet_of_same (cF2 _))))
   go_wp2_with fail;refine bodyPost_ret (v:=.tuple #[.int .i64 (d.v:Nat),.int .i64 (p:Nat),.int .i64 (q:Nat),.bool true]) (by simp[results,Tryz.results126,go_sem]) rfl ?_;rw[HF];refine⟨?_,below_drewN HB _⟩;rw[HD,HP,HQ]
end
end
section
section
variable {K K':Nat→Nat} {w w':World} {sb n room:Nat} {L:SL} {P P':Bd.St} {tab:Nat→Nat→Nat→Option Nat} {cn:Nat} {dead:Int} {ah fV:Nat→Nat} {ord ji:List Nat}
theorem StJ.far(h:StJ K w sb L n room P tab cn dead ah ord)(hb:Below w.heap.size w w'):StJ K w' sb L n room P tab cn dead ah ord:=h.aG (R:=fun _=>False) (aj.of_below hb) (fun _ h=>h.elim)
theorem StJ.alloc(h:StJ K w sb L n room P tab cn dead ah ord)(o:Obj):StJ K (w.alloc o) sb L n room P tab cn dead ah ord:=h.far ((Below.refl _ _).alloc (Nat.le_refl _) o)
theorem StJ.drew(h:StJ K w sb L n room P tab cn dead ah ord):StJ K w.drew sb L n room P tab cn dead ah ord:=h.far (Below.refl _ _).drew
/-- The pool has turned. -/
theorem StJ.Qr{ga ca gt ct:Nat}{fv:Value}(h:StJ K w sb L n room P tab cn dead ah ord)(hp:aY K' w' L.pb ga ca gt ct fv room P')(t:aj pR K w K' w'):StJ K' w' sb {L with ga:=ga,ca:=ca,gt:=gt,ct:=ct,fv:=fv} n room P' tab cn dead ah ord:=by
 have hn:∀r,pR r→6≤r∧r≤9:=fun r h=>h;obtain⟨c1,c2⟩:=h.cnt.aG h.kc t (fun h9=>by have:=hn _ h9;omega);have h2:=h.ks;have h3:=h.kl;have h4:=h.kv;have h5:=h.ke;have h6:=h.kt
 exact⟨t.obj h.row (by rw[h2];intro h9;have:=hn _ h9;omega),t.obj h.iE (by rw[h3];intro h9;have:=hn _ h9;omega),h.vars.kept (t.block h.vars.lt (by rw[h4];intro h9;have:=hn _ h9;omega)),h.level.kept (t.block h.level.lt (by rw[h5];intro h9;have:=hn _ h9;omega)),hp,h.tabs.kept (t.block h.tabs.lt (by rw[h6];intro h9;have:=hn _ h9;omega)),
  fun v hv=>(h.tab v hv).aG t (fun h9=>by have:=hn _ h9;omega) (fun h9=>by have:=hn _ h9;omega),c1,(t.role h.row).trans h2,(t.role h.iE).trans h3,(t.ext _ h.vars.lt).trans h4,(t.ext _ h.level.lt).trans h5,(t.ext _ h.tabs.lt).trans h6,c2⟩
/-- One table has turned. -/
theorem StJ.Qs{v:Nat}{g:Nat→Nat→Option Nat}(h:StJ K w sb L n room P tab cn dead ah ord)(hv:v<n)(hp:gT K' w' (L.tb v) (L.mb v) (100+2*v) g)(t:aj (fun q=>q=100+2*v+1) K w K' w'):StJ K' w' sb L n room P (fun u=>if u=v then g else tab u) cn dead ah ord:=by
 obtain⟨c1,c2⟩:=h.cnt.aG h.kc t (by omega);have h2:=h.ks;have h3:=h.kl;have h4:=h.kv;have h5:=h.ke;have h6:=h.kt;refine⟨t.obj h.row (by rw[h2];omega),t.obj h.iE (by rw[h3];omega),h.vars.kept (t.block h.vars.lt (by rw[h4];omega)),h.level.kept (t.block h.level.lt (by rw[h5];omega)),h.pool.aG t (fun r hr=>by omega),h.tabs.kept (t.block h.tabs.lt (by rw[h6];omega)),fun u hu=>?_,c1,(t.role h.row).trans h2,(t.role h.iE).trans h3,(t.ext _ h.vars.lt).trans h4,(t.ext _ h.level.lt).trans h5,(t.ext _ h.tabs.lt).trans h6,c2⟩
 by_cases e:u=v
 ·rw[e,if_pos rfl];exact hp
 ·rw[if_neg e];exact(h.tab u hu).aG t (by omega) (by omega)
/-- The number of dead nodes is written. -/
theorem StJ.Qt(h:StJ K w sb L n room P tab cn dead ah ord)(x:Int):StJ K (w.setCell ⟨sb,4,none⟩ (.int .i64 x)) sb L n room P tab cn x ah ord∧aj (fun q=>q=2) K w K (w.setCell ⟨sb,4,none⟩ (.int .i64 x)):=by
 have t:aj (fun q=>q=2) K w K (w.setCell ⟨sb,4,none⟩ (.int .i64 x)):=aj.refl.iI h.ks (aV h.row) _;obtain⟨c1,c2⟩:=h.cnt.aG h.kc t (by omega);have h3:=h.kl;have h4:=h.kv;have h5:=h.ke;have h6:=h.kt;exact⟨⟨aH h.row _,t.obj h.iE (by rw[h3];omega),h.vars.kept (t.block h.vars.lt (by rw[h4];omega)),h.level.kept (t.block h.level.lt (by rw[h5];omega)),h.pool.aG t (fun r hr=>by omega),h.tabs.kept (t.block h.tabs.lt (by rw[h6];omega)),fun u hu=>(h.tab u hu).aG t (by omega) (by omega),c1,h.ks,h3,h4,h5,h6,c2⟩,t⟩
/-- The counts have turned (their row,or where it lies). -/
theorem StJ.JC{cv:Value}{CZ:Nat}{ce:Nat→Int}{R:Nat→Prop}(h:StJ K w sb L n room P tab cn dead ah ord)(hr:w'.heap[sb]?=some (.cells #[.pointer (some ⟨L.lb,0,none⟩),.pointer (some ⟨L.pb,0,none⟩),.slice (some ⟨L.kE,0,none⟩) n L.qM,cv,.int .i64 dead] 177 (0,0)))
 (hc:Sl w' 3 1 cv CZ (fun i=>[.int .i64 (ce i)])) (hk:j4 K' 11 cv) (t:aj R K w K' w') (hR:∀r,R r→r=2∨r=11):StJ K' w' sb {L with cv:=cv,ce:=ce} n room P tab CZ dead ah ord:=by
 have hn:∀r,r≠2→r≠11→¬R r:=fun r h1 h2 h3=>by have:=hR r h3;omega
 have h2:=h.ks;have h3:=h.kl;have h4:=h.kv;have h5:=h.ke;have h6:=h.kt;exact⟨hr,t.obj h.iE (by rw[h3];exact hn _ (by omega) (by omega)),h.vars.kept (t.block h.vars.lt (by rw[h4];exact hn _ (by omega) (by omega))),h.level.kept (t.block h.level.lt (by rw[h5];exact hn _ (by omega) (by omega))),h.pool.aG t (fun r hr=>by have:=hR r hr;omega),h.tabs.kept (t.block h.tabs.lt (by rw[h6];exact hn _ (by omega) (by omega))),fun u hu=>(h.tab u hu).aG t (hn _ (by omega) (by omega)) (hn _ (by omega) (by omega)),hc,(t.role h.row).trans h2,(t.role h.iE).trans h3,(t.ext _ h.vars.lt).trans h4,(t.ext _ h.level.lt).trans h5,(t.ext _ h.tabs.lt).trans h6,hk⟩
/-- One count is written. -/
theorem StJ.set1{g c i:Nat}(h:StJ K w sb L n room P tab cn dead ah ord)(hv:L.cv=.slice (some ⟨g,0,none⟩) cn c)(hi:i<cn)(x:Int):StJ K (w.setCell ⟨g,i,none⟩ (.int .i64 x)) sb {L with ce:=fun j=>if j=i then x else L.ce j} n room P tab cn dead ah ord∧aj (fun q=>q=11) K w K (w.setCell ⟨g,i,none⟩ (.int .i64 x)):=by
 have hg:K g=11:=h.kc g _ _ hv
 obtain⟨r1,hr1⟩:∃r1,Rw w 3 1 cn r1 g (fun i=>[.int .i64 (L.ce i)]):=by
  rcases h.cnt with⟨e,-⟩|⟨g',c',e,hr⟩
  ·rw[hv]at e;cases e
  ·rw[hv]at e;cases e;exact⟨_,hr⟩
 have t:aj (fun q=>q=11) K w K (w.setCell ⟨g,i,none⟩ (.int .i64 x)):=aj.refl.iI hg hr1.lt _;refine⟨?_,t⟩;have h9:=h.JC (w':=w.setCell ⟨g,i,none⟩ (.int .i64 x)) (cv:=L.cv) (CZ:=cn) (ce:=fun j=>if j=i then x else L.ce j) (t.obj h.row (by rw[h.ks];omega)) ?_ h.kc t (fun r hr=>.inr hr)
 ·exact h9
 ·rcases h.cnt with⟨e,-⟩|⟨g',c',e,hr⟩
  ·rw[hv]at e;cases e
  ·rw[hv]at e;cases e;exact .inr ⟨g,c,hv,(hr.set1 hi _).congr (fun q hq j hj=>by by_cases e:q=i<;>simp[e])⟩
theorem StJ.slR(h:StJ K w sb L n room P tab cn dead ah ord)(hcn:0<cn):∃g c,L.cv=.slice (some ⟨g,0,none⟩) cn c∧Rw w 3 1 cn c g (fun i=>[.int .i64 (L.ce i)])∧K g=11:=by
 rcases h.cnt with⟨e,e2⟩|⟨g',c',e,hr⟩
 ·omega
 ·exact⟨g',c',e,hr,h.kc _ _ _ e⟩
/-- A count is appended. -/
theorem StJ.app{g c:Nat}{x:Int}{cs:List Value}(h:StJ K w sb L n room P tab cn dead ah ord)(hq:bY w 3 1 L.cv cn 1 (fun q=>if q=cn then cs else[.int .i64 (L.ce q)]) g c w')(hcs:cs=[.int .i64 x]) :
 StJ (bJ K g 11) (w'.setCell ⟨sb,3,none⟩ (.slice (some ⟨g,0,none⟩) (cn+1) c)) sb {L with cv:=.slice (some ⟨g,0,none⟩) (cn+1) c,ce:=fun j=>if j=cn then x else L.ce j} n room P tab (cn+1) dead ah ord ∧
 aj (fun r=>r=2∨r=11) K w (bJ K g 11) (w'.setCell ⟨sb,3,none⟩ (.slice (some ⟨g,0,none⟩) (cn+1) c))∧w'.cell? ⟨sb,3,none⟩=some L.cv∧w'.frozen? ⟨sb,3,none⟩=false:=by
 subst hcs;obtain⟨t,k⟩:=hq.aG (R:=fun r=>r=11) aj.refl h.kc rfl h.cnt;have hr:=t.obj h.row (by rw[h.ks];omega);have hk:bJ K g 11 sb=2:=(t.role h.row).trans h.ks;have t2:aj (fun r=>r=2) (bJ K g 11) w' (bJ K g 11) (w'.setCell ⟨sb,3,none⟩ (.slice (some ⟨g,0,none⟩) (cn+1) c)):=aj.refl.iI hk (aV hr) _;have t3:=(t.mono (R':=fun r=>r=2∨r=11) (fun r h=>.inr h)).trans (t2.mono (fun r h=>.inl h));refine⟨h.JC (aH hr _) (.inr ⟨g,c,rfl,(hq.row.kept (heap_setCell_other _ _ _ _ (fun(e:g=sb)=>by rw[e]at k hk;omega))).congr (fun q hq' j hj=>by by_cases e:q=cn<;>simp[e])⟩) (j4.of k) t3 (fun r h=>h),t3,au hr 3 rfl,jv hr 3⟩
end
end
end Go.Proofs.YtpijlhlpejlhhaaGreat
