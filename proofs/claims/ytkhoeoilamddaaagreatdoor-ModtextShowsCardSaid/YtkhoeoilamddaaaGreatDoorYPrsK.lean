/- Walk: ttext's reader.unit$1: the three parts of an if. -/
import Derived.Test.YtkhoeoilamddaaaGreatDoorYPrsJ
namespace Go.Proofs.YtkhoeoilamddaaaGreatDoor
open Go.RowKit
set_option linter.unusedVariables false
set_option linter.unusedSimpArgs false
set_option maxRecDepth 100000
set_option maxHeartbeats 16000000
def ch3(T:jN)(a b:Tm)(k:Nat):Rs Tm:=(T (k+1)).then fun c m=>.ok (dD 18 [a,b,c]) m
def ch2(l:List Tok)(T:jN)(a:Tm)(j:Nat):Rs Tm:=(T (j+1)).then fun b k=>if ah l k 3 uo then ch3 T a b k else .bad k 16
def Xe(l:List Tok)(T:jN)(i:Nat):Rs Tm:=(T i).then fun a j=>if ah l j 3 um then ch2 l T a j else .bad j 16
def Oi(R:Nat)(A:Option Addr)(c d:Nat)(l:List Tok)(i tb:Nat)(r:Rs Tm)(w0 wE:World)(B:Nat)(e:Ending)(w':World):Prop:=match r with
 |.ok t j=>(∃A' c',e=.returned (t.val A' c')∧w'.heap[tb]?=some (.cells #[.int .i64 t.op,.int .i64 t.num,.string t.name,.slice A' t.kids.length c'] 64 (0,0))∧aD (fun q=>B≤q) w' A' c' t)∧i<j∧j≤l.length∧iZ w' R A l.length c j d∧Only (fun q=>q=R) w0 w'∧Only (fun q=>q=R∨q=tb) wE w'
 |.bad j x=>e=.panicked (thrown j x)∧Only (fun q=>q=R) w0 w'
theorem fH{W:World}{b q o0 o1 o2 o3:Nat}{v0 v1 v2 v3:Value}(h:q≠b):((((W.setCell ⟨b,o0,none⟩ v0).setCell ⟨b,o1,none⟩ v1).setCell ⟨b,o2,none⟩ v2).setCell ⟨b,o3,none⟩ v3).heap[q]?=W.heap[q]?:=by
 rw[iw _ ⟨b,o3,none⟩ q _ h,iw _ ⟨b,o2,none⟩ q _ h,iw _ ⟨b,o1,none⟩ q _ h,iw _ ⟨b,o0,none⟩ q _ h]
theorem World.kQ{W:World}{a b:Addr}{u v:Value}(h:a.block≠b.block):(W.setCell a u).setCell b v=(W.setCell b v).setCell a u:=by
 unfold World.setCell;simp only[World.mk.injEq,and_true]
 apply Array.ext_getElem?
 intro k;simp only[Array.getElem?_modify]
 by_cases h1:b.block=k
 ·by_cases h2:a.block=k
  ·exact absurd (h2.trans h1.symm) h
  ·simp[h1,h2]
 ·simp[h1]
theorem Fz{W:World}{b q o0 o1 o2 o3:Nat}{v0 v1 v2 v3 u:Value}(h:q≠b):(((((W.setCell ⟨q,3,none⟩ u).setCell ⟨b,o0,none⟩ v0).setCell ⟨b,o1,none⟩ v1).setCell ⟨b,o2,none⟩ v2).setCell ⟨b,o3,none⟩ v3)=((((W.setCell ⟨b,o0,none⟩ v0).setCell ⟨b,o1,none⟩ v1).setCell ⟨b,o2,none⟩ v2).setCell ⟨b,o3,none⟩ v3).setCell ⟨q,3,none⟩ u:=by
 rw[World.kQ (a:=⟨q,3,none⟩) (b:=⟨b,o0,none⟩) h,World.kQ (a:=⟨q,3,none⟩) (b:=⟨b,o1,none⟩) h,World.kQ (a:=⟨q,3,none⟩) (b:=⟨b,o2,none⟩) h,World.kQ (a:=⟨q,3,none⟩) (b:=⟨b,o3,none⟩) h]
theorem Cy.fin{R c d i tb rb rs B0 j:Nat}{A:Option Addr}{l:List Tok}{w0 wE wr:World}{g cap B:Nat}{e1 e2 e3:jo}{v0 v1 v2 v3:Value}(h:Cy R A c d l i tb rb rs B0 w0 wE wr (.slice (some ⟨g,0,none⟩) 3 cap) [e1,e2,e3] j)(hn:IfN R tb rb rs B0 w0)(hB:B≤B0)(hij:i<j) :
 Oi R A c d l i tb (.ok (dD 18 [e1.t,e2.t,e3.t]) j) w0 wE B (.returned (.agg #[.int .i64 18,.int .i64 0,.string ⟨#[]⟩,.slice (some ⟨g,0,none⟩) 3 cap])) ((((wr.setCell ⟨rs,0,none⟩ v0).setCell ⟨rs,1,none⟩ v1).setCell ⟨rs,2,none⟩ v2).setCell ⟨rs,3,none⟩ v3):=by
 have h1:=hn.r0;have h2:=hn.rs0;have h3:=hn.rsB;have h4:=h.only.size;have hk:aR (fun q=>B0≤q) wr ((((wr.setCell ⟨rs,0,none⟩ v0).setCell ⟨rs,1,none⟩ v1).setCell ⟨rs,2,none⟩ v2).setCell ⟨rs,3,none⟩ v3):=(((aR.refl.set (by omega) _).set (by omega) _).set (by omega) _).set (by omega) _;have hg:=h.own.lt g rfl
 rcases h.own.2 with⟨h9,-⟩|⟨g',cap',cur,hv,-,-,hnc,hcm,-,-⟩
 ·cases h9
 have hcc:cap'=cap:=by injection hv with _ _ h9;exact h9.symm
 rw[hcc]at hnc hcm;refine⟨⟨some ⟨g,0,none⟩,cap,rfl,(fH hn.zT).trans h.tbx,⟨hnc,hcm,zl _,.inr ⟨g,0,rfl,by omega,by simpa using hg.2,?_⟩⟩⟩,hij,h.jl,(fH (by omega)).trans h.bN,dU (dU (dU (dU h.only h2 _) h2 _) h2 _) h2 _,dU (dU (dU (dU h.two h.rsE _) h.rsE _) h.rsE _) h.rsE _⟩;refine kZ.keep hk (fun q _ hq=>Nat.le_trans hB hq) hg.1 hg.2 ?_;refine jP [e1,e2,e3] 0 (fun k v hv=>?_) (fun e he=>(h.vals e he).keep Kr (fun q _ hq=>hq.1));have h9:=h.own.cells (g:=g) rfl k v hv;rw[addr_add]at h9;exact h9
theorem aD.Xf{S:Nat→Prop}{w:World}{A:Option Addr}{c:Nat}{t:Tm}(h:aD S w A c t)(o:Obj):aD S (w.alloc o) A c t:=h.keep (Kb ((Br _ _).alloc (lr _) _)) (fun _ _ h=>h)
theorem Mv{w:World}{B n k tb g cap:Nat}{T:TypeId}{u:Value}{xs:List Value}(htg:tb≠g)(h:w.ownsRow B T k (.slice (some ⟨g,0,none⟩) n cap) n xs):(w.setCell ⟨tb,3,none⟩ u).ownsRow B T k (.slice (some ⟨g,0,none⟩) n cap) n xs:=
 h.kept (row:=some tb) ⟨rfl,rfl,rfl,by simp,fun k hk hne=>iw _ ⟨tb,3,none⟩ k _ (fun e=>hne (by rw[e]))⟩ (.inr (fun e=>htg (by
  have e2:g=tb:=by simpa[Value.ownBlock]using e
  exact e2.symm)))
def Xg:Oper:={dst:=some 3,op:=Op.fieldAddr 64 (Operand.tmp 0) 3,type:=0,pos := "ttext.go:330",after:=#[],guard:=none}
def Mw:Oper:={dst:=some 4,op:=Op.load 25 (Operand.tmp 3),type:=25,pos := "ttext.go:330",after:=#[{on:=0,ground:=Ground.data}],guard:=none}
def Xh:Oper:={dst:=some 5,op:=Op.load 182 (Operand.tmp 1),type:=182,pos := "ttext.go:330",after:=#[],guard:=none}
def Mx:Oper:={dst:=some 6,op:=Op.call {callee:=Callee.value (Operand.func 122),args:=#[Operand.tmp 5],argTypes:=#[182]},type:=64,pos := "ttext.go:330",after:=#[{on:=2,ground:=Ground.data}],guard:=none}
def Xi:Oper:={dst:=some 7,op:=Op.call {callee:=Callee.builtin Builtin.len,args:=#[Operand.tmp 4],argTypes:=#[25]},type:=3,pos := "ttext.go:330",after:=#[{on:=1,ground:=Ground.data}],guard:=none}
def MB:Oper:={dst:=some 8,op:=Op.buildSlice 25 1 #[(0,Operand.const (Value.agg #[Value.int IntKind.i64 0,Value.int IntKind.i64 0,Value.string {data:=#[]},Value.slice none 0 0]))],type:=25,pos := "ttext.go:330",after:=#[],guard:=none}
def adF:Oper:={dst:=some 9,op:=Op.call {callee:=Callee.builtin Builtin.append,args:=#[Operand.tmp 4,Operand.tmp 8],argTypes:=#[25,25]},type:=25,pos := "ttext.go:330",after:=#[{on:=1,ground:=Ground.data},{on:=5,ground:=Ground.data},{on:=3,ground:=Ground.chain},{on:=0,ground:=Ground.phase},{on:=1,ground:=Ground.phase},{on:=2,ground:=Ground.phase},{on:=3,ground:=Ground.phase},{on:=4,ground:=Ground.phase},{on:=5,ground:=Ground.phase}],guard:=none}
def Xj:Oper:={dst:=some 10,op:=Op.indexAddr 25 (Operand.tmp 9) (Operand.tmp 7),type:=0,pos := "ttext.go:330",after:=#[{on:=6,ground:=Ground.data},{on:=4,ground:=Ground.data},{on:=0,ground:=Ground.phase},{on:=1,ground:=Ground.phase},{on:=2,ground:=Ground.phase},{on:=3,ground:=Ground.phase},{on:=4,ground:=Ground.phase},{on:=5,ground:=Ground.phase},{on:=6,ground:=Ground.phase},{on:=10,ground:=Ground.gcOnly Departure.appendInPlace}],guard:=none}
def Xk:Oper:={dst:=none,op:=Op.store 64 (Operand.tmp 10) (Operand.tmp 6),type:=0,pos := "ttext.go:330",after:=#[{on:=7,ground:=Ground.data},{on:=3,ground:=Ground.data},{on:=6,ground:=Ground.chain},{on:=0,ground:=Ground.phase},{on:=1,ground:=Ground.phase},{on:=2,ground:=Ground.phase},{on:=3,ground:=Ground.phase},{on:=4,ground:=Ground.phase},{on:=5,ground:=Ground.phase},{on:=6,ground:=Ground.phase},{on:=10,ground:=Ground.gcOnly Departure.appendInPlace}],guard:=none}
def Xl:Oper:={dst:=some 11,op:=Op.fieldAddr 64 (Operand.tmp 0) 3,type:=0,pos := "ttext.go:330",after:=#[{on:=0,ground:=Ground.phase},{on:=1,ground:=Ground.phase},{on:=2,ground:=Ground.phase},{on:=3,ground:=Ground.phase},{on:=4,ground:=Ground.phase},{on:=5,ground:=Ground.phase},{on:=6,ground:=Ground.phase},{on:=7,ground:=Ground.textOnly Departure.appendInPlace},{on:=8,ground:=Ground.textOnly Departure.appendInPlace}],guard:=none}
def Q7:Oper:={dst:=none,op:=Op.store 25 (Operand.tmp 11) (Operand.tmp 9),type:=0,pos := "ttext.go:330",after:=#[{on:=9,ground:=Ground.data},{on:=6,ground:=Ground.data},{on:=6,ground:=Ground.chain},{on:=8,ground:=Ground.textOnly Departure.appendInPlace},{on:=0,ground:=Ground.phase},{on:=1,ground:=Ground.phase},{on:=2,ground:=Ground.phase},{on:=3,ground:=Ground.phase},{on:=4,ground:=Ground.phase},{on:=5,ground:=Ground.phase},{on:=6,ground:=Ground.phase},{on:=7,ground:=Ground.textOnly Departure.appendInPlace},{on:=8,ground:=Ground.textOnly Departure.appendInPlace}],guard:=none}
def Xm:Oper:={dst:=some 16,op:=Op.fieldAddr 64 (Operand.tmp 0) 3,type:=0,pos := "ttext.go:332",after:=#[],guard:=none}
def MC:Oper:={dst:=some 17,op:=Op.load 25 (Operand.tmp 16),type:=25,pos := "ttext.go:332",after:=#[{on:=0,ground:=Ground.data}],guard:=none}
def Xn:Oper:={dst:=some 18,op:=Op.load 182 (Operand.tmp 1),type:=182,pos := "ttext.go:332",after:=#[],guard:=none}
def ME:Oper:={dst:=some 19,op:=Op.call {callee:=Callee.value (Operand.func 122),args:=#[Operand.tmp 18],argTypes:=#[182]},type:=64,pos := "ttext.go:332",after:=#[{on:=2,ground:=Ground.data}],guard:=none}
def Xo:Oper:={dst:=some 20,op:=Op.call {callee:=Callee.builtin Builtin.len,args:=#[Operand.tmp 17],argTypes:=#[25]},type:=3,pos := "ttext.go:332",after:=#[{on:=1,ground:=Ground.data}],guard:=none}
def MG:Oper:={dst:=some 21,op:=Op.buildSlice 25 1 #[(0,Operand.const (Value.agg #[Value.int IntKind.i64 0,Value.int IntKind.i64 0,Value.string {data:=#[]},Value.slice none 0 0]))],type:=25,pos := "ttext.go:332",after:=#[],guard:=none}
def adG:Oper:={dst:=some 22,op:=Op.call {callee:=Callee.builtin Builtin.append,args:=#[Operand.tmp 17,Operand.tmp 21],argTypes:=#[25,25]},type:=25,pos := "ttext.go:332",after:=#[{on:=1,ground:=Ground.data},{on:=5,ground:=Ground.data},{on:=3,ground:=Ground.chain},{on:=0,ground:=Ground.phase},{on:=1,ground:=Ground.phase},{on:=2,ground:=Ground.phase},{on:=3,ground:=Ground.phase},{on:=4,ground:=Ground.phase},{on:=5,ground:=Ground.phase}],guard:=none}
def Xp:Oper:={dst:=some 23,op:=Op.indexAddr 25 (Operand.tmp 22) (Operand.tmp 20),type:=0,pos := "ttext.go:332",after:=#[{on:=6,ground:=Ground.data},{on:=4,ground:=Ground.data},{on:=0,ground:=Ground.phase},{on:=1,ground:=Ground.phase},{on:=2,ground:=Ground.phase},{on:=3,ground:=Ground.phase},{on:=4,ground:=Ground.phase},{on:=5,ground:=Ground.phase},{on:=6,ground:=Ground.phase},{on:=10,ground:=Ground.gcOnly Departure.appendInPlace}],guard:=none}
def Xq:Oper:={dst:=none,op:=Op.store 64 (Operand.tmp 23) (Operand.tmp 19),type:=0,pos := "ttext.go:332",after:=#[{on:=7,ground:=Ground.data},{on:=3,ground:=Ground.data},{on:=6,ground:=Ground.chain},{on:=0,ground:=Ground.phase},{on:=1,ground:=Ground.phase},{on:=2,ground:=Ground.phase},{on:=3,ground:=Ground.phase},{on:=4,ground:=Ground.phase},{on:=5,ground:=Ground.phase},{on:=6,ground:=Ground.phase},{on:=10,ground:=Ground.gcOnly Departure.appendInPlace}],guard:=none}
def Xr:Oper:={dst:=some 24,op:=Op.fieldAddr 64 (Operand.tmp 0) 3,type:=0,pos := "ttext.go:332",after:=#[{on:=0,ground:=Ground.phase},{on:=1,ground:=Ground.phase},{on:=2,ground:=Ground.phase},{on:=3,ground:=Ground.phase},{on:=4,ground:=Ground.phase},{on:=5,ground:=Ground.phase},{on:=6,ground:=Ground.phase},{on:=7,ground:=Ground.textOnly Departure.appendInPlace},{on:=8,ground:=Ground.textOnly Departure.appendInPlace}],guard:=none}
def Q9:Oper:={dst:=none,op:=Op.store 25 (Operand.tmp 24) (Operand.tmp 22),type:=0,pos := "ttext.go:332",after:=#[{on:=9,ground:=Ground.data},{on:=6,ground:=Ground.data},{on:=6,ground:=Ground.chain},{on:=8,ground:=Ground.textOnly Departure.appendInPlace},{on:=0,ground:=Ground.phase},{on:=1,ground:=Ground.phase},{on:=2,ground:=Ground.phase},{on:=3,ground:=Ground.phase},{on:=4,ground:=Ground.phase},{on:=5,ground:=Ground.phase},{on:=6,ground:=Ground.phase},{on:=7,ground:=Ground.textOnly Departure.appendInPlace},{on:=8,ground:=Ground.textOnly Departure.appendInPlace}],guard:=none}
def Xt:Oper:={dst:=some 29,op:=Op.fieldAddr 64 (Operand.tmp 0) 3,type:=0,pos := "ttext.go:334",after:=#[],guard:=none}
def MH:Oper:={dst:=some 30,op:=Op.load 25 (Operand.tmp 29),type:=25,pos := "ttext.go:334",after:=#[{on:=0,ground:=Ground.data}],guard:=none}
def Xu:Oper:={dst:=some 31,op:=Op.load 182 (Operand.tmp 1),type:=182,pos := "ttext.go:334",after:=#[],guard:=none}
def MI:Oper:={dst:=some 32,op:=Op.call {callee:=Callee.value (Operand.func 122),args:=#[Operand.tmp 31],argTypes:=#[182]},type:=64,pos := "ttext.go:334",after:=#[{on:=2,ground:=Ground.data}],guard:=none}
def Xv:Oper:={dst:=some 33,op:=Op.call {callee:=Callee.builtin Builtin.len,args:=#[Operand.tmp 30],argTypes:=#[25]},type:=3,pos := "ttext.go:334",after:=#[{on:=1,ground:=Ground.data}],guard:=none}
def MJ:Oper:={dst:=some 34,op:=Op.buildSlice 25 1 #[(0,Operand.const (Value.agg #[Value.int IntKind.i64 0,Value.int IntKind.i64 0,Value.string {data:=#[]},Value.slice none 0 0]))],type:=25,pos := "ttext.go:334",after:=#[],guard:=none}
def adH:Oper:={dst:=some 35,op:=Op.call {callee:=Callee.builtin Builtin.append,args:=#[Operand.tmp 30,Operand.tmp 34],argTypes:=#[25,25]},type:=25,pos := "ttext.go:334",after:=#[{on:=1,ground:=Ground.data},{on:=5,ground:=Ground.data},{on:=3,ground:=Ground.chain},{on:=0,ground:=Ground.phase},{on:=1,ground:=Ground.phase},{on:=2,ground:=Ground.phase},{on:=3,ground:=Ground.phase},{on:=4,ground:=Ground.phase},{on:=5,ground:=Ground.phase}],guard:=none}
def Xw:Oper:={dst:=some 36,op:=Op.indexAddr 25 (Operand.tmp 35) (Operand.tmp 33),type:=0,pos := "ttext.go:334",after:=#[{on:=6,ground:=Ground.data},{on:=4,ground:=Ground.data},{on:=0,ground:=Ground.phase},{on:=1,ground:=Ground.phase},{on:=2,ground:=Ground.phase},{on:=3,ground:=Ground.phase},{on:=4,ground:=Ground.phase},{on:=5,ground:=Ground.phase},{on:=6,ground:=Ground.phase},{on:=10,ground:=Ground.gcOnly Departure.appendInPlace}],guard:=none}
def Xx:Oper:={dst:=none,op:=Op.store 64 (Operand.tmp 36) (Operand.tmp 32),type:=0,pos := "ttext.go:334",after:=#[{on:=7,ground:=Ground.data},{on:=3,ground:=Ground.data},{on:=6,ground:=Ground.chain},{on:=0,ground:=Ground.phase},{on:=1,ground:=Ground.phase},{on:=2,ground:=Ground.phase},{on:=3,ground:=Ground.phase},{on:=4,ground:=Ground.phase},{on:=5,ground:=Ground.phase},{on:=6,ground:=Ground.phase},{on:=10,ground:=Ground.gcOnly Departure.appendInPlace}],guard:=none}
def Xy:Oper:={dst:=some 37,op:=Op.fieldAddr 64 (Operand.tmp 0) 3,type:=0,pos := "ttext.go:334",after:=#[{on:=0,ground:=Ground.phase},{on:=1,ground:=Ground.phase},{on:=2,ground:=Ground.phase},{on:=3,ground:=Ground.phase},{on:=4,ground:=Ground.phase},{on:=5,ground:=Ground.phase},{on:=6,ground:=Ground.phase},{on:=7,ground:=Ground.textOnly Departure.appendInPlace},{on:=8,ground:=Ground.textOnly Departure.appendInPlace}],guard:=none}
def Ra:Oper:={dst:=none,op:=Op.store 25 (Operand.tmp 37) (Operand.tmp 35),type:=0,pos := "ttext.go:334",after:=#[{on:=9,ground:=Ground.data},{on:=6,ground:=Ground.data},{on:=6,ground:=Ground.chain},{on:=8,ground:=Ground.textOnly Departure.appendInPlace},{on:=0,ground:=Ground.phase},{on:=1,ground:=Ground.phase},{on:=2,ground:=Ground.phase},{on:=3,ground:=Ground.phase},{on:=4,ground:=Ground.phase},{on:=5,ground:=Ground.phase},{on:=6,ground:=Ground.phase},{on:=7,ground:=Ground.textOnly Departure.appendInPlace},{on:=8,ground:=Ground.textOnly Departure.appendInPlace}],guard:=none}
theorem Xz(R:Nat)(A:Option Addr)(c d:Nat)(l:List Tok)(tb rb:Nat)(w0 w:World)(i:Nat)(T:jN)(hF:KR R A c d l 122 (.pointer (some ⟨R,0,none⟩)) (fun _=>True) T)
 (h0:R<w0.heap.size) (af4:w0.heap.size≤tb) (af5:w0.heap.size≤rb) (Pw:tb<w.heap.size) (hrt:tb≠rb) (hi:i≤l.length) (hR:iZ w R A l.length c i d) (hP:iI w0 R A c l) (hO:Only (fun q=>q=R) w0 w) (vF:vV R rb w)
 (adI:w.heap[tb]?=some (.cells #[.int .i64 18,.int .i64 0,.string ⟨#[]⟩,.slice none 0 0] 64 (0,0))) :
 Calls Tryz.prog 210 #[.pointer (some ⟨tb,0,none⟩),.pointer (some ⟨rb,0,none⟩)] w (Oi R A c d l i tb (Xe l T i) w0 w w.heap.size):=by
 obtain⟨i0,hi0,hz0,hz1,hz2⟩:=info_parts Cv;have hlen:=hP.len;obtain⟨wn0,hw1⟩:=aj (w.alloc (.cells #[.int .i64 0,.int .i64 0,.string ⟨#[]⟩,.slice none 0 0] 64));have hb1:=dz hw1;have hs1:wn0.heap.size=w.heap.size+1:=by rw[hw1];simp
 have hbx:wn0.heap[w.heap.size]?=some (.cells #[.int .i64 0,.int .i64 0,.string ⟨#[]⟩,.slice none 0 0] 64 (0,0)):=by rw[hw1];exact eu w _
 have hO0:=hO.size;obtain⟨wE,hwE⟩:=aj w;obtain⟨B,hB⟩:=aj w.heap.size;obtain⟨B0,hB0⟩:=aj (w.heap.size+1);obtain⟨rs,hrs⟩:=aj w.heap.size;have aja:=vF.2.1;have HN:Hid (IfN R tb rb rs B0 w0):=⟨h0,af4,af5,by omega,by omega,by omega,by omega,hrt,by omega,by omega⟩
 have HS:Hid (Cy R A c d l i tb rb rs B0 w0 wE wn0 (.slice none 0 0) [] i):=by
  show Cy _ _ _ _ _ _ _ _ _ _ _ _ _ _ _ _;rw[hwE];exact⟨World.ownsRow_nil _ _ _ _,fun _ h=>by simp at h,hR.below hb1 hR.lt,hO.trans (Ob hb1),vF.only (Ob (F:=fun q=>q=R) hb1),(hb1.block tb Pw).trans adI,by rw[hrs];exact hbx,lr _,hi,by omega,Ob hb1,by omega,by omega⟩
 have HT:=Hd (fun(W:World)(j:Nat)(hj:j≤l.length)(hr:iZ W R A l.length c j d)(ho:Only (fun q=>q=R) w0 W)=>hF j W hj hr (hP.only ho) trivial);have HMY:=Hd (fun(W:World)(j:Nat)(s:ByteArray)(hj:j≤l.length)(hr:iZ W R A l.length c j d)(ho:Only (fun q=>q=R) w0 W)(h:ah l j 3 (bs s)=true)=>vZ R A c j d l 3 s W hr (hP.only ho) (by omega) h);have HMN:=Hd (fun(W:World)(j:Nat)(s:ByteArray)(hj:j≤l.length)(hr:iZ W R A l.length c j d)(ho:Only (fun q=>q=R) w0 W)(h:ah l j 3 (bs s)=false)=>Gv R A c j d l 3 s W hr (hP.only ho) (by omega) h);obtain⟨F,vU⟩:=aj (Oi R A c d l i tb (Xe l T i) w0 w w.heap.size);rw[←vU];rw[←hB]at vU;have bE:Hid (F=Oi R A c d l i tb ((T i).then fun a j=>if ah l j 3 um then ch2 l T a j else .bad j 16) w0 wE B):=by show _=_;rw[hwE];exact vU
 have HW1:=Hd hw1;have BI:=Hd hrs;have alB:B≤B0:=by omega
 have Ot:=Hd hB;have HWE:=Hd hwE;clear hwE;have HB0:=Hd hB0;clear hF hi hR hP hO vF adI hw1 hb1 hs1 hbx hO0 hB hB0 hrs aja vU h0 af4 af5 Pw hrt;go_in;go_wp2_with fail;rw[←HW1,←BI];obtain⟨j0,hj0⟩:=aj i;have HSJ:Hid (Cy R A c d l i tb rb rs B0 w0 wE wn0 (.slice none 0 0) [] j0):=by show Cy _ _ _ _ _ _ _ _ _ _ _ _ _ _ _ _;rw[hj0];exact HS
 clear HS;rename Hid (Cy _ _ _ _ _ _ _ _ _ _ _ _ _ _ _ _)=>HS;have alC:Hid (F=Oi R A c d l i tb ((T j0).then fun a j=>if ah l j 3 um then ch2 l T a j else .bad j 16) w0 wE B):=by show _=_;rw[hj0];exact bE
 clear bE;rename Hid (F=_)=>bE
 go_cut []from 3 (fun wc=>∃(e1:jo)(g1 abO k1:Nat),Cy R A c d l i tb rb rs B0 w0 wE wc (.slice (some ⟨g1,0,none⟩) 1 abO) ([]++[e1]) k1∧Hid (F=Oi R A c d l i tb (if ah l k1 3 um then ch2 l T e1.t k1 else .bad k1 16) w0 wE B)∧j0<k1)
 case first=>
  refine wp_region_held_drew (S:=fun w9=>vV R rb w9) (by kernel_rfl) HS.box (fun hHeld=>?_);obtain⟨Wc,hWD⟩:=aj wn0.drew;rw[←hWD]at hHeld⊢;have Gq:Hid (Cy R A c d l i tb rb rs B0 w0 wE Wc (.slice none 0 0) [] j0):=by show Cy _ _ _ _ _ _ _ _ _ _ _ _ _ _ _ _;rw[hWD];exact HS.drew HN
  clear hWD HS;rename Hid (Cy _ _ _ _ _ _ _ _ _ _ _ _ _ _ _ _)=>HS;refine wpAnyH_take (i:=0) (oi:=Xg) (v:=?_) rfl (by kernel_rfl) (by kernel_rfl) (by kernel_rfl) (fun _ _ _ h=>h) (Or.inl ⟨by rfl,?hy⟩) (by assumption) ?_
  case hy=>
   unfold Xg;intro w0 hSw;clear hSw;go_simp
   (first|done|with_reducible rfl)
  (try simp only[Xg,Act.put,aT,aU,aV]);refine wpAnyH_take (i:=2) (oi:=Xh) (v:=?_) rfl (by kernel_rfl) (by kernel_rfl) (by kernel_rfl) (fun _ _ _ h=>h) (Or.inl ⟨by rfl,?hy⟩) (by assumption) ?_
  case hy=>
   unfold Xh;intro w0 hSw;have e4:=hSw.1;clear hSw;go_simp
   (first|done|with_reducible rfl)
  (try simp only[Xh,Act.put,aT,aU,aV]);refine Rd (rs:=[1,3,5]) (by kernel_rfl) (by simp) ?_;refine Rc (o:=Mw) rfl (fun K hK=>?_) (Rc (o:=Mx) rfl (fun K hK=>?_) (Rc (o:=MB) rfl (fun K hK=>?_) Rn))
  iterate 6
   all_goals first
    |(unfold Mw
      have y3:=(kr HS.tbx).2.2.2.1;go_simp;clear y3;refine hK.out _ _ (hHeld) (fun hHeld=>?_);clear hK K;try simp only[Act.put,aT,aU,aV]
      obtain⟨D1,-⟩:∃n:Nat,n=n:=⟨0,rfl⟩)
    |(unfold Mx
      go_simp;(with_reducible refine(HT.out _ _ HS.out.jl HS.out.bN HS.out.only).mono ?_);intro e Wc hq;obtain⟨r2,hr2⟩:=aj (T j0);rw[←hr2]at hq
      rcases r2 with⟨jb,xb⟩|⟨t2,jn⟩
      ·obtain⟨rfl,iX⟩:=hq;refine(show _∧_ from⟨rfl,?_⟩);rw[bE,←hr2];exact⟨rfl,HS.only.trans iX⟩
      obtain⟨⟨A2,c2,rfl,hV2⟩,hij2,vE,uI,iX⟩:=hq;obtain⟨n3,AV⟩:=ak t2.kids.length;unfold Tm.val;rw[←AV];have HR2:=Hd hr2;have ajc:=iX.size;have hbig:=HS.big;have jm:Hid (aD (fun q=>B0≤q∧(Value.ownBlock (.slice none 0 0))≠some q) Wc A2 c2 t2):=hV2.keep Kr (fun q _ h=>⟨by omega,fun e=>by have:=(HS.own.lt q e).2;omega⟩);have hs2:=HS.Et HN iX uI (by omega) vE
      first
       |(have hz2:=(iX.block z (by omega) Ul).trans HZ
         clear HZ;have HZ:=Hd hz2
         clear hz2)
       |skip
      clear HS hV2 uI iX hr2 vE;have HS:=Hd hs2;clear hs2;refine hK.out _ _ (HS.box) (fun hHeld=>?_);clear hK K;try simp only[Act.put,aT,aU,aV]
      obtain⟨D3,-⟩:∃n:Nat,n=n:=⟨0,rfl⟩)
    |(unfold MB
      go_simp;refine hK.out _ _ ((HS.alloc HN _).box) (fun hHeld=>?_);clear hK K;(try simp only[Act.put,aT,aU,aV]);obtain⟨z,hz⟩:=aj Wc.heap.size;have Ul:z≠R:=by have:=HS.bN.lt;omega
      have hs2:=HS.alloc HN ((.cells #[.int .i64 0,.int .i64 0,.string ⟨#[]⟩,.slice none 0 0] 64):Obj);obtain⟨Wc,hV⟩:=aj (Wc.alloc (.cells #[.int .i64 0,.int .i64 0,.string ⟨#[]⟩,.slice none 0 0] 64));rw[←hV,←hz];rw[←hV]at hHeld hs2;have HZ:=jZ hV hz;have hzl:z<Wc.heap.size:=lH HZ
      first
       |(have hv2:=jm.Xf ((.cells #[.int .i64 0,.int .i64 0,.string ⟨#[]⟩,.slice none 0 0] 64):Obj)
         rw[←hV]at hv2;clear jm;have jm:=Hd hv2
         clear hv2)
       |skip
      clear hV hz HS;have HS:=Hd hs2;clear hs2
      obtain⟨D5,-⟩:∃n:Nat,n=n:=⟨0,rfl⟩)
    |(unfold adF
      refine step_append_lies _ (by rfl) _ _ _ (by rfl) B0 64 i0 (.agg #[.int .i64 0,.int .i64 0,.string ⟨#[]⟩,.slice none 0 0]) 4 56 Tryz.underlying25 hi0 hz0 hz1 hz2 rfl (by decide) (.slice none 0 0) 0 (bY []) (by rfl) HS.own ⟨z,0,none⟩ 1 1 [.int .i64 0,.int .i64 0,.string ⟨#[]⟩,.slice none 0 0] (by rfl) (by rfl) (World.news_of_block HZ) (by simp[Value.oneCell']) (by decide) (by unfold maxLen;omega) (by omega) HS.big _ rfl ?_;intro g cap W7 dN dO ku yV;have hold:∀q,q<B0→W7.heap[q]?=Wc.heap[q]?:=fun q hq=>dO.block q (by have:=HS.big;omega) (fun e=>by have:=(HS.own.lt q e.symm).1;omega);refine hK.out _ _ (hHeld.block (hold rb HN.rbB) dO.size) (fun hHeld=>?_);clear hK K;(try simp only[Act.put,aT,aU,aV]);have hgB:B0≤g:=(dN.lt g rfl).1;have htg:tb≠g:=by have:=HN.tbB;omega
      have hrg:rb≠g:=by have:=HN.rbB;omega
      have G6:=Hd ((hold tb HN.tbB).trans HS.tbx);have JX:=Hd dN;have fM:=Hd dN;have ML:=Hd dO;have adJ:=Hd ku;clear hold dN dO ku
      obtain⟨D6,-⟩:∃n:Nat,n=n:=⟨0,rfl⟩)
    |(unfold Xk
      have y0:=(fM.cellAt 0 (by decide)).trans (show _=some (.int .i64 0)from rfl);have x0:=fM.frozenAt 0;have y1:=(fM.cellAt 1 (by decide)).trans (show _=some (.int .i64 0)from rfl);have x1:=fM.frozenAt 1;have y2:=(fM.cellAt 2 (by decide)).trans (show _=some (.string ⟨#[]⟩)from rfl);have x2:=fM.frozenAt 2;have y3:=(fM.cellAt 3 (by decide)).trans (show _=some (.slice none 0 0)from rfl);have x3:=fM.frozenAt 3;go_simp;clear y0 y1 y2 y3 x0 x1 x2 x3;refine hK.out _ _ (hHeld.block (fH hrg) (by simp)) (fun hHeld=>?_);clear hK K;try simp only[Act.put,aT,aU,aV]
      first
       |have:=G7
       |(obtain⟨WS,hWS⟩:=aj ((((W7.setCell ⟨g,0,none⟩ (.int .i64 t2.op)).setCell ⟨g,1,none⟩ (.int .i64 t2.num)).setCell ⟨g,2,none⟩ (.string t2.name)).setCell ⟨g,3,none⟩ (.slice A2 n3 c2))
         rw[←hWS];rw[←hWS]at hHeld;have MN:=(fH (W:=W7) (o0:=0) (o1:=1) (o2:=2) (o3:=3) (v0:=.int .i64 t2.op) (v1:=.int .i64 t2.num) (v2:=.string t2.name) (v3:=.slice A2 n3 c2) htg).trans G6;rw[←hWS]at MN;clear G6;have G6:=Hd MN;have kY:=Hd hWS
         clear hWS MN)
      obtain⟨D8,-⟩:∃n:Nat,n=n:=⟨0,rfl⟩)
    |(unfold Q7
      obtain⟨y3,x3⟩:=(kr G6).2.2.2;go_simp;clear y3 x3;refine hK.out _ _ (hHeld.block (iw _ ⟨tb,3,none⟩ rb _ (fun e=>HN.ne1 e.symm)) (by simp)) (fun hHeld=>?_);clear hK K;try simp only[Act.put,aT,aU,aV]
      first
       |have:=D8
       |(obtain⟨WT,Um⟩:=aj (W7.setCell ⟨tb,3,none⟩ (.slice (some ⟨g,0,none⟩) 1 cap))
         rw[←Um];rw[←Um]at hHeld;have Cz:=Mv (tb:=tb) (u:=.slice (some ⟨g,0,none⟩) 1 cap) htg JX;rw[←Um]at Cz;clear fM;have fM:=Hd Cz;have HWT:=Hd Um
         clear Um Cz)
      obtain⟨G7,-⟩:∃n:Nat,n=n:=⟨0,rfl⟩)
    |fail
   all_goals first
    |have:=T4
    |(have:=D1
      refine wpAnyH_take (i:=4) (oi:=Xi) (v:=?_) rfl (by kernel_rfl) (by kernel_rfl) (by kernel_rfl) (fun _ _ _ h=>h) (Or.inl ⟨by rfl,?hy⟩) (by assumption) ?_
      case hy=>
       unfold Xi;intro w0 hSw;clear hSw;go_simp
       (first|done|with_reducible rfl)
      try simp only[Xi,Act.put,aT,aU,aV]
      obtain⟨T4,-⟩:∃n:Nat,n=n:=⟨0,rfl⟩)
    |skip
   all_goals first
    |have:=T7
    |(have:=D1
      have:=D3;have:=D5;have:=D6;refine wpAnyH_take (i:=7) (oi:=Xj) (v:=?_) rfl (by kernel_rfl) (by kernel_rfl) (by kernel_rfl) (fun _ _ _ h=>h) (Or.inl ⟨by rfl,?hy⟩) (by assumption) ?_
      case hy=>
       unfold Xj;intro w0 hSw;clear hSw;go_simp
       (first|done|with_reducible rfl)
      try simp only[Xj,Act.put,aT,aU,aV]
      obtain⟨T7,-⟩:∃n:Nat,n=n:=⟨0,rfl⟩)
    |skip
   all_goals first
    |have:=T9
    |(have:=D1
      have:=D3;have:=D5;have:=D6;refine wpAnyH_take (i:=9) (oi:=Xl) (v:=?_) rfl (by kernel_rfl) (by kernel_rfl) (by kernel_rfl) (fun _ _ _ h=>h) (Or.inl ⟨by rfl,?hy⟩) (by assumption) ?_
      case hy=>
       unfold Xl;intro w0 hSw;clear hSw;go_simp
       (first|done|with_reducible rfl)
      try simp only[Xl,Act.put,aT,aU,aV]
      obtain⟨T9,-⟩:∃n:Nat,n=n:=⟨0,rfl⟩)
    |skip
   all_goals first
    |(have:=D1
      have:=D3;have:=D5;have:=D6;have:=D8;have:=G7;refine wpAnyH_done (by kernel_rfl) ?_ _;have dJ:Hid (F=Oi R A c d l i tb (if ah l jn 3 um then ch2 l T t2 jn else .bad jn 16) w0 wE B):=by show _=_;rw[bE,←HR2];rfl
      have Oc:=Hd (HS.put (o:=0) HN jm JX ML adJ rfl)
      first
       |(rw[HWT,Fz htg]
         rw[←AV]at Oc)
       |rw[←AV,←kY]at Oc
      go_wp2_with fail
      go_meet
      case rel=>exact⟨⟨t2,A2,c2⟩,g,cap,jn,Oc,dJ,hij2⟩)
    |(have:=D1
      have:=D3;have:=D5;have:=D6;have:=D8;refine Rd (rs:=[10]) (by kernel_rfl) (by simp) ?_
      refine Rc (o:=Q7) rfl (fun K hK=>?_) Rn)
    |(have:=D1
      have:=D3;have:=D5;have:=D6;have:=G7;refine Rd (rs:=[8]) (by kernel_rfl) (by simp) ?_
      refine Rc (o:=Xk) rfl (fun K hK=>?_) Rn)
    |(have:=D1
      have:=D3;have:=D5;have:=D6;refine Rd (rs:=[8,10]) (by kernel_rfl) (by simp) ?_
      refine Rc (o:=Xk) rfl (fun K hK=>?_) (Rc (o:=Q7) rfl (fun K hK=>?_) Rn))
    |(have:=D1
      have:=D3;have:=D5;refine Rd (rs:=[6]) (by kernel_rfl) (by simp) ?_
      refine Rc (o:=adF) rfl (fun K hK=>?_) Rn)
    |(have:=D1
      have:=D3;refine Rd (rs:=[5]) (by kernel_rfl) (by simp) ?_
      refine Rc (o:=MB) rfl (fun K hK=>?_) Rn)
    |(have:=D1
      have:=D5;refine Rd (rs:=[3]) (by kernel_rfl) (by simp) ?_
      refine Rc (o:=Mx) rfl (fun K hK=>?_) Rn)
    |(have:=D3
      have:=D5;refine Rd (rs:=[1]) (by kernel_rfl) (by simp) ?_
      refine Rc (o:=Mw) rfl (fun K hK=>?_) Rn)
    |(have:=D1
      refine Rd (rs:=[3,5]) (by kernel_rfl) (by simp) ?_
      refine Rc (o:=Mx) rfl (fun K hK=>?_) (Rc (o:=MB) rfl (fun K hK=>?_) Rn))
    |(have:=D3
      refine Rd (rs:=[1,5]) (by kernel_rfl) (by simp) ?_
      refine Rc (o:=Mw) rfl (fun K hK=>?_) (Rc (o:=MB) rfl (fun K hK=>?_) Rn))
    |(have:=D5
      refine Rd (rs:=[1,3]) (by kernel_rfl) (by simp) ?_
      refine Rc (o:=Mw) rfl (fun K hK=>?_) (Rc (o:=Mx) rfl (fun K hK=>?_) Rn))
    |fail
 case rest=>
  obtain⟨e1,g1,abO,k1,Oj,Un,alD⟩:=hcut;clear HS bE;have HS:=Hd Oj;have bE:=Un;clear Oj Un;have b0:=HS.box.1;have akk:=HS.jl
  by_cases hm:ah l k1 3 um=true
  ·have HM:=Hd (HMY wc k1 ⟨#[116,104,101,110]⟩ HS.jl HS.bN HS.only hm);have Rb:Hid (F=Oi R A c d l i tb ((T (k1+1)).then fun b k=>if ah l k 3 uo then ch3 T e1.t b k else .bad k 16) w0 wE B):=by show _=_;rw[bE,iP hm];rfl
   have hkl:=dL hm;clear hm bE;go_wp2_with fail;refine HM.mono ?_;rintro e wn1 ⟨rfl,fB⟩;obtain⟨j1,hj1⟩:=aj (k1+1);rw[←hj1]at fB;have HS2:Hid (Cy R A c d l i tb rb rs B0 w0 wE wn1 (.slice (some ⟨g1,0,none⟩) 1 abO) [e1] j1):=HS.Et HN fB.2.1 fB.1 (by omega) (by omega);have bE:Hid (F=Oi R A c d l i tb ((T j1).then fun b k=>if ah l k 3 uo then ch3 T e1.t b k else .bad k 16) w0 wE B):=by show _=_;rw[hj1];exact Rb
   have alE:k1<j1:=by omega
   clear HS fB Rb HM hj1 b0;rename Hid (Cy _ _ _ _ _ _ _ _ _ _ _ _ _ _ _ _)=>HS;go_wp2_with fail
   go_cut []from 3 (fun wc=>∃(e2:jo)(g2 cap2 k2:Nat),Cy R A c d l i tb rb rs B0 w0 wE wc (.slice (some ⟨g2,0,none⟩) 2 cap2) ([e1]++[e2]) k2∧Hid (F=Oi R A c d l i tb (if ah l k2 3 uo then ch3 T e1.t e2.t k2 else .bad k2 16) w0 wE B)∧j1<k2)
   case first=>
    refine wp_region_held_drew (S:=fun w9=>vV R rb w9) (by kernel_rfl) HS.box (fun hHeld=>?_);obtain⟨Wc,hWD⟩:=aj wn1.drew;rw[←hWD]at hHeld⊢;have Gq:Hid (Cy R A c d l i tb rb rs B0 w0 wE Wc (.slice (some ⟨g1,0,none⟩) 1 abO) [e1] j1):=by show Cy _ _ _ _ _ _ _ _ _ _ _ _ _ _ _ _;rw[hWD];exact HS.drew HN
    clear hWD HS;rename Hid (Cy _ _ _ _ _ _ _ _ _ _ _ _ _ _ _ _)=>HS;refine wpAnyH_take (i:=0) (oi:=Xm) (v:=?_) rfl (by kernel_rfl) (by kernel_rfl) (by kernel_rfl) (fun _ _ _ h=>h) (Or.inl ⟨by rfl,?hy⟩) (by assumption) ?_
    case hy=>
     unfold Xm;intro w0 hSw;clear hSw;go_simp
     (first|done|with_reducible rfl)
    (try simp only[Xm,Act.put,aT,aU,aV]);refine wpAnyH_take (i:=2) (oi:=Xn) (v:=?_) rfl (by kernel_rfl) (by kernel_rfl) (by kernel_rfl) (fun _ _ _ h=>h) (Or.inl ⟨by rfl,?hy⟩) (by assumption) ?_
    case hy=>
     unfold Xn;intro w0 hSw;have e4:=hSw.1;clear hSw;go_simp
     (first|done|with_reducible rfl)
    (try simp only[Xn,Act.put,aT,aU,aV]);refine Rd (rs:=[1,3,5]) (by kernel_rfl) (by simp) ?_;refine Rc (o:=MC) rfl (fun K hK=>?_) (Rc (o:=ME) rfl (fun K hK=>?_) (Rc (o:=MG) rfl (fun K hK=>?_) Rn))
    iterate 6
     all_goals first
      |(unfold MC
        have y3:=(kr HS.tbx).2.2.2.1;go_simp;clear y3;refine hK.out _ _ (hHeld) (fun hHeld=>?_);clear hK K;try simp only[Act.put,aT,aU,aV]
        obtain⟨D1,-⟩:∃n:Nat,n=n:=⟨0,rfl⟩)
      |(unfold ME
        go_simp;(with_reducible refine(HT.out _ _ HS.out.jl HS.out.bN HS.out.only).mono ?_);intro e Wc hq;obtain⟨r2,hr2⟩:=aj (T j1);rw[←hr2]at hq
        rcases r2 with⟨jb,xb⟩|⟨t2,jn⟩
        ·obtain⟨rfl,iX⟩:=hq;refine(show _∧_ from⟨rfl,?_⟩);rw[bE,←hr2];exact⟨rfl,HS.only.trans iX⟩
        obtain⟨⟨A2,c2,rfl,hV2⟩,hij2,vE,uI,iX⟩:=hq;obtain⟨n3,AV⟩:=ak t2.kids.length;unfold Tm.val;rw[←AV];have HR2:=Hd hr2;have ajc:=iX.size;have hbig:=HS.big;have jm:Hid (aD (fun q=>B0≤q∧(Value.ownBlock (.slice (some ⟨g1,0,none⟩) 1 abO))≠some q) Wc A2 c2 t2):=hV2.keep Kr (fun q _ h=>⟨by omega,fun e=>by have:=(HS.own.lt q e).2;omega⟩);have hs2:=HS.Et HN iX uI (by omega) vE
        first
         |(have hz2:=(iX.block z (by omega) Ul).trans HZ
           clear HZ;have HZ:=Hd hz2
           clear hz2)
         |skip
        clear HS hV2 uI iX hr2 vE;have HS:=Hd hs2;clear hs2;refine hK.out _ _ (HS.box) (fun hHeld=>?_);clear hK K;try simp only[Act.put,aT,aU,aV]
        obtain⟨D3,-⟩:∃n:Nat,n=n:=⟨0,rfl⟩)
      |(unfold MG
        go_simp;refine hK.out _ _ ((HS.alloc HN _).box) (fun hHeld=>?_);clear hK K;(try simp only[Act.put,aT,aU,aV]);obtain⟨z,hz⟩:=aj Wc.heap.size;have Ul:z≠R:=by have:=HS.bN.lt;omega
        have hs2:=HS.alloc HN ((.cells #[.int .i64 0,.int .i64 0,.string ⟨#[]⟩,.slice none 0 0] 64):Obj);obtain⟨Wc,hV⟩:=aj (Wc.alloc (.cells #[.int .i64 0,.int .i64 0,.string ⟨#[]⟩,.slice none 0 0] 64));rw[←hV,←hz];rw[←hV]at hHeld hs2;have HZ:=jZ hV hz;have hzl:z<Wc.heap.size:=lH HZ
        first
         |(have hv2:=jm.Xf ((.cells #[.int .i64 0,.int .i64 0,.string ⟨#[]⟩,.slice none 0 0] 64):Obj)
           rw[←hV]at hv2;clear jm;have jm:=Hd hv2
           clear hv2)
         |skip
        clear hV hz HS;have HS:=Hd hs2;clear hs2
        obtain⟨D5,-⟩:∃n:Nat,n=n:=⟨0,rfl⟩)
      |(unfold adG
        refine step_append_lies _ (by rfl) _ _ _ (by rfl) B0 64 i0 (.agg #[.int .i64 0,.int .i64 0,.string ⟨#[]⟩,.slice none 0 0]) 4 56 Tryz.underlying25 hi0 hz0 hz1 hz2 rfl (by decide) (.slice (some ⟨g1,0,none⟩) 1 abO) 1 (bY [e1]) (by rfl) HS.own ⟨z,0,none⟩ 1 1 [.int .i64 0,.int .i64 0,.string ⟨#[]⟩,.slice none 0 0] (by rfl) (by rfl) (World.news_of_block HZ) (by simp[Value.oneCell']) (by decide) (by unfold maxLen;omega) (by omega) HS.big _ rfl ?_;intro g cap W7 dN dO ku yV;have hold:∀q,q<B0→W7.heap[q]?=Wc.heap[q]?:=fun q hq=>dO.block q (by have:=HS.big;omega) (fun e=>by have:=(HS.own.lt q e.symm).1;omega);refine hK.out _ _ (hHeld.block (hold rb HN.rbB) dO.size) (fun hHeld=>?_);clear hK K;(try simp only[Act.put,aT,aU,aV]);have hgB:B0≤g:=(dN.lt g rfl).1;have htg:tb≠g:=by have:=HN.tbB;omega
        have hrg:rb≠g:=by have:=HN.rbB;omega
        have G6:=Hd ((hold tb HN.tbB).trans HS.tbx);have JX:=Hd dN;have fM:=Hd dN;have ML:=Hd dO;have adJ:=Hd ku;clear hold dN dO ku
        obtain⟨D6,-⟩:∃n:Nat,n=n:=⟨0,rfl⟩)
      |(unfold Xq
        have y0:=(fM.cellAt 4 (by decide)).trans (show _=some (.int .i64 0)from rfl);have x0:=fM.frozenAt 4;have y1:=(fM.cellAt 5 (by decide)).trans (show _=some (.int .i64 0)from rfl);have x1:=fM.frozenAt 5;have y2:=(fM.cellAt 6 (by decide)).trans (show _=some (.string ⟨#[]⟩)from rfl);have x2:=fM.frozenAt 6;have y3:=(fM.cellAt 7 (by decide)).trans (show _=some (.slice none 0 0)from rfl);have x3:=fM.frozenAt 7;go_simp;clear y0 y1 y2 y3 x0 x1 x2 x3;refine hK.out _ _ (hHeld.block (fH hrg) (by simp)) (fun hHeld=>?_);clear hK K;try simp only[Act.put,aT,aU,aV]
        first
         |have:=G7
         |(obtain⟨WS,hWS⟩:=aj ((((W7.setCell ⟨g,4,none⟩ (.int .i64 t2.op)).setCell ⟨g,5,none⟩ (.int .i64 t2.num)).setCell ⟨g,6,none⟩ (.string t2.name)).setCell ⟨g,7,none⟩ (.slice A2 n3 c2))
           rw[←hWS];rw[←hWS]at hHeld;have MN:=(fH (W:=W7) (o0:=4) (o1:=5) (o2:=6) (o3:=7) (v0:=.int .i64 t2.op) (v1:=.int .i64 t2.num) (v2:=.string t2.name) (v3:=.slice A2 n3 c2) htg).trans G6;rw[←hWS]at MN;clear G6;have G6:=Hd MN;have kY:=Hd hWS
           clear hWS MN)
        obtain⟨D8,-⟩:∃n:Nat,n=n:=⟨0,rfl⟩)
      |(unfold Q9
        obtain⟨y3,x3⟩:=(kr G6).2.2.2;go_simp;clear y3 x3;refine hK.out _ _ (hHeld.block (iw _ ⟨tb,3,none⟩ rb _ (fun e=>HN.ne1 e.symm)) (by simp)) (fun hHeld=>?_);clear hK K;try simp only[Act.put,aT,aU,aV]
        first
         |have:=D8
         |(obtain⟨WT,Um⟩:=aj (W7.setCell ⟨tb,3,none⟩ (.slice (some ⟨g,0,none⟩) 2 cap))
           rw[←Um];rw[←Um]at hHeld;have Cz:=Mv (tb:=tb) (u:=.slice (some ⟨g,0,none⟩) 2 cap) htg JX;rw[←Um]at Cz;clear fM;have fM:=Hd Cz;have HWT:=Hd Um
           clear Um Cz)
        obtain⟨G7,-⟩:∃n:Nat,n=n:=⟨0,rfl⟩)
      |fail
     all_goals first
      |have:=T4
      |(have:=D1
        refine wpAnyH_take (i:=4) (oi:=Xo) (v:=?_) rfl (by kernel_rfl) (by kernel_rfl) (by kernel_rfl) (fun _ _ _ h=>h) (Or.inl ⟨by rfl,?hy⟩) (by assumption) ?_
        case hy=>
         unfold Xo;intro w0 hSw;clear hSw;go_simp
         (first|done|with_reducible rfl)
        try simp only[Xo,Act.put,aT,aU,aV]
        obtain⟨T4,-⟩:∃n:Nat,n=n:=⟨0,rfl⟩)
      |skip
     all_goals first
      |have:=T7
      |(have:=D1
        have:=D3;have:=D5;have:=D6;refine wpAnyH_take (i:=7) (oi:=Xp) (v:=?_) rfl (by kernel_rfl) (by kernel_rfl) (by kernel_rfl) (fun _ _ _ h=>h) (Or.inl ⟨by rfl,?hy⟩) (by assumption) ?_
        case hy=>
         unfold Xp;intro w0 hSw;clear hSw;go_simp
         (first|done|with_reducible rfl)
        try simp only[Xp,Act.put,aT,aU,aV]
        obtain⟨T7,-⟩:∃n:Nat,n=n:=⟨0,rfl⟩)
      |skip
     all_goals first
      |have:=T9
      |(have:=D1
        have:=D3;have:=D5;have:=D6;refine wpAnyH_take (i:=9) (oi:=Xr) (v:=?_) rfl (by kernel_rfl) (by kernel_rfl) (by kernel_rfl) (fun _ _ _ h=>h) (Or.inl ⟨by rfl,?hy⟩) (by assumption) ?_
        case hy=>
         unfold Xr;intro w0 hSw;clear hSw;go_simp
         (first|done|with_reducible rfl)
        try simp only[Xr,Act.put,aT,aU,aV]
        obtain⟨T9,-⟩:∃n:Nat,n=n:=⟨0,rfl⟩)
      |skip
     all_goals first
      |(have:=D1
        have:=D3;have:=D5;have:=D6;have:=D8;have:=G7;refine wpAnyH_done (by kernel_rfl) ?_ _;have dJ:Hid (F=Oi R A c d l i tb (if ah l jn 3 uo then ch3 T e1.t t2 jn else .bad jn 16) w0 wE B):=by show _=_;rw[bE,←HR2];rfl
        have Oc:=Hd (HS.put (o:=4) HN jm JX ML adJ rfl)
        first
         |(rw[HWT,Fz htg]
           rw[←AV]at Oc)
         |rw[←AV,←kY]at Oc
        go_wp2_with fail
        go_meet
        case rel=>exact⟨⟨t2,A2,c2⟩,g,cap,jn,Oc,dJ,hij2⟩)
      |(have:=D1
        have:=D3;have:=D5;have:=D6;have:=D8;refine Rd (rs:=[10]) (by kernel_rfl) (by simp) ?_
        refine Rc (o:=Q9) rfl (fun K hK=>?_) Rn)
      |(have:=D1
        have:=D3;have:=D5;have:=D6;have:=G7;refine Rd (rs:=[8]) (by kernel_rfl) (by simp) ?_
        refine Rc (o:=Xq) rfl (fun K hK=>?_) Rn)
      |(have:=D1
        have:=D3;have:=D5;have:=D6;refine Rd (rs:=[8,10]) (by kernel_rfl) (by simp) ?_
        refine Rc (o:=Xq) rfl (fun K hK=>?_) (Rc (o:=Q9) rfl (fun K hK=>?_) Rn))
      |(have:=D1
        have:=D3;have:=D5;refine Rd (rs:=[6]) (by kernel_rfl) (by simp) ?_
        refine Rc (o:=adG) rfl (fun K hK=>?_) Rn)
      |(have:=D1
        have:=D3;refine Rd (rs:=[5]) (by kernel_rfl) (by simp) ?_
        refine Rc (o:=MG) rfl (fun K hK=>?_) Rn)
      |(have:=D1
        have:=D5;refine Rd (rs:=[3]) (by kernel_rfl) (by simp) ?_
        refine Rc (o:=ME) rfl (fun K hK=>?_) Rn)
      |(have:=D3
        have:=D5;refine Rd (rs:=[1]) (by kernel_rfl) (by simp) ?_
        refine Rc (o:=MC) rfl (fun K hK=>?_) Rn)
      |(have:=D1
        refine Rd (rs:=[3,5]) (by kernel_rfl) (by simp) ?_
        refine Rc (o:=ME) rfl (fun K hK=>?_) (Rc (o:=MG) rfl (fun K hK=>?_) Rn))
      |(have:=D3
        refine Rd (rs:=[1,5]) (by kernel_rfl) (by simp) ?_
        refine Rc (o:=MC) rfl (fun K hK=>?_) (Rc (o:=MG) rfl (fun K hK=>?_) Rn))
      |(have:=D5
        refine Rd (rs:=[1,3]) (by kernel_rfl) (by simp) ?_
        refine Rc (o:=MC) rfl (fun K hK=>?_) (Rc (o:=ME) rfl (fun K hK=>?_) Rn))
      |fail
   case rest=>
    obtain⟨e2,g2,cap2,k2,Oj,Un,alF⟩:=hcut;clear HS bE;have HS:=Hd Oj;have bE:=Un;clear Oj Un;have b0:=HS.box.1;have akk:=HS.jl
    by_cases hm:ah l k2 3 uo=true
    ·have HM:=Hd (HMY wc k2 ⟨#[101,108,115,101]⟩ HS.jl HS.bN HS.only hm);have Rb:Hid (F=Oi R A c d l i tb ((T (k2+1)).then fun c m=>.ok (dD 18 [e1.t,e2.t,c]) m) w0 wE B):=by show _=_;rw[bE,iP hm];rfl
     have hkl:=dL hm;clear hm bE;go_wp2_with fail;refine HM.mono ?_;rintro e wn2 ⟨rfl,fB⟩;obtain⟨j2,hj2⟩:=aj (k2+1);rw[←hj2]at fB;have HS2:Hid (Cy R A c d l i tb rb rs B0 w0 wE wn2 (.slice (some ⟨g2,0,none⟩) 2 cap2) [e1,e2] j2):=HS.Et HN fB.2.1 fB.1 (by omega) (by omega);have bE:Hid (F=Oi R A c d l i tb ((T j2).then fun c m=>.ok (dD 18 [e1.t,e2.t,c]) m) w0 wE B):=by show _=_;rw[hj2];exact Rb
     have alG:k2<j2:=by omega
     clear HS fB Rb HM hj2 b0;rename Hid (Cy _ _ _ _ _ _ _ _ _ _ _ _ _ _ _ _)=>HS;go_wp2_with fail
     go_cut []from 3 (fun wc=>∃(e3:jo)(g3 Uo k3:Nat),Cy R A c d l i tb rb rs B0 w0 wE wc (.slice (some ⟨g3,0,none⟩) 3 Uo) ([e1,e2]++[e3]) k3∧Hid (F=Oi R A c d l i tb (.ok (dD 18 [e1.t,e2.t,e3.t]) k3) w0 wE B)∧j2<k3)
     case first=>
      refine wp_region_held_drew (S:=fun w9=>vV R rb w9) (by kernel_rfl) HS.box (fun hHeld=>?_);obtain⟨Wc,hWD⟩:=aj wn2.drew;rw[←hWD]at hHeld⊢;have Gq:Hid (Cy R A c d l i tb rb rs B0 w0 wE Wc (.slice (some ⟨g2,0,none⟩) 2 cap2) [e1,e2] j2):=by show Cy _ _ _ _ _ _ _ _ _ _ _ _ _ _ _ _;rw[hWD];exact HS.drew HN
      clear hWD HS;rename Hid (Cy _ _ _ _ _ _ _ _ _ _ _ _ _ _ _ _)=>HS;refine wpAnyH_take (i:=0) (oi:=Xt) (v:=?_) rfl (by kernel_rfl) (by kernel_rfl) (by kernel_rfl) (fun _ _ _ h=>h) (Or.inl ⟨by rfl,?hy⟩) (by assumption) ?_
      case hy=>
       unfold Xt;intro w0 hSw;clear hSw;go_simp
       (first|done|with_reducible rfl)
      (try simp only[Xt,Act.put,aT,aU,aV]);refine wpAnyH_take (i:=2) (oi:=Xu) (v:=?_) rfl (by kernel_rfl) (by kernel_rfl) (by kernel_rfl) (fun _ _ _ h=>h) (Or.inl ⟨by rfl,?hy⟩) (by assumption) ?_
      case hy=>
       unfold Xu;intro w0 hSw;have e4:=hSw.1;clear hSw;go_simp
       (first|done|with_reducible rfl)
      (try simp only[Xu,Act.put,aT,aU,aV]);refine Rd (rs:=[1,3,5]) (by kernel_rfl) (by simp) ?_;refine Rc (o:=MH) rfl (fun K hK=>?_) (Rc (o:=MI) rfl (fun K hK=>?_) (Rc (o:=MJ) rfl (fun K hK=>?_) Rn))
      iterate 6
       all_goals first
        |(unfold MH
          have y3:=(kr HS.tbx).2.2.2.1;go_simp;clear y3;refine hK.out _ _ (hHeld) (fun hHeld=>?_);clear hK K;try simp only[Act.put,aT,aU,aV]
          obtain⟨D1,-⟩:∃n:Nat,n=n:=⟨0,rfl⟩)
        |(unfold MI
          go_simp;(with_reducible refine(HT.out _ _ HS.out.jl HS.out.bN HS.out.only).mono ?_);intro e Wc hq;obtain⟨r2,hr2⟩:=aj (T j2);rw[←hr2]at hq
          rcases r2 with⟨jb,xb⟩|⟨t2,jn⟩
          ·obtain⟨rfl,iX⟩:=hq;refine(show _∧_ from⟨rfl,?_⟩);rw[bE,←hr2];exact⟨rfl,HS.only.trans iX⟩
          obtain⟨⟨A2,c2,rfl,hV2⟩,hij2,vE,uI,iX⟩:=hq;obtain⟨n3,AV⟩:=ak t2.kids.length;unfold Tm.val;rw[←AV];have HR2:=Hd hr2;have ajc:=iX.size;have hbig:=HS.big;have jm:Hid (aD (fun q=>B0≤q∧(Value.ownBlock (.slice (some ⟨g2,0,none⟩) 2 cap2))≠some q) Wc A2 c2 t2):=hV2.keep Kr (fun q _ h=>⟨by omega,fun e=>by have:=(HS.own.lt q e).2;omega⟩);have hs2:=HS.Et HN iX uI (by omega) vE
          first
           |(have hz2:=(iX.block z (by omega) Ul).trans HZ
             clear HZ;have HZ:=Hd hz2
             clear hz2)
           |skip
          clear HS hV2 uI iX hr2 vE;have HS:=Hd hs2;clear hs2;refine hK.out _ _ (HS.box) (fun hHeld=>?_);clear hK K;try simp only[Act.put,aT,aU,aV]
          obtain⟨D3,-⟩:∃n:Nat,n=n:=⟨0,rfl⟩)
        |(unfold MJ
          go_simp;refine hK.out _ _ ((HS.alloc HN _).box) (fun hHeld=>?_);clear hK K;(try simp only[Act.put,aT,aU,aV]);obtain⟨z,hz⟩:=aj Wc.heap.size;have Ul:z≠R:=by have:=HS.bN.lt;omega
          have hs2:=HS.alloc HN ((.cells #[.int .i64 0,.int .i64 0,.string ⟨#[]⟩,.slice none 0 0] 64):Obj);obtain⟨Wc,hV⟩:=aj (Wc.alloc (.cells #[.int .i64 0,.int .i64 0,.string ⟨#[]⟩,.slice none 0 0] 64));rw[←hV,←hz];rw[←hV]at hHeld hs2;have HZ:=jZ hV hz;have hzl:z<Wc.heap.size:=lH HZ
          first
           |(have hv2:=jm.Xf ((.cells #[.int .i64 0,.int .i64 0,.string ⟨#[]⟩,.slice none 0 0] 64):Obj)
             rw[←hV]at hv2;clear jm;have jm:=Hd hv2
             clear hv2)
           |skip
          clear hV hz HS;have HS:=Hd hs2;clear hs2
          obtain⟨D5,-⟩:∃n:Nat,n=n:=⟨0,rfl⟩)
        |(unfold adH
          refine step_append_lies _ (by rfl) _ _ _ (by rfl) B0 64 i0 (.agg #[.int .i64 0,.int .i64 0,.string ⟨#[]⟩,.slice none 0 0]) 4 56 Tryz.underlying25 hi0 hz0 hz1 hz2 rfl (by decide) (.slice (some ⟨g2,0,none⟩) 2 cap2) 2 (bY [e1,e2]) (by rfl) HS.own ⟨z,0,none⟩ 1 1 [.int .i64 0,.int .i64 0,.string ⟨#[]⟩,.slice none 0 0] (by rfl) (by rfl) (World.news_of_block HZ) (by simp[Value.oneCell']) (by decide) (by unfold maxLen;omega) (by omega) HS.big _ rfl ?_;intro g cap W7 dN dO ku yV;have hold:∀q,q<B0→W7.heap[q]?=Wc.heap[q]?:=fun q hq=>dO.block q (by have:=HS.big;omega) (fun e=>by have:=(HS.own.lt q e.symm).1;omega);refine hK.out _ _ (hHeld.block (hold rb HN.rbB) dO.size) (fun hHeld=>?_);clear hK K;(try simp only[Act.put,aT,aU,aV]);have hgB:B0≤g:=(dN.lt g rfl).1;have htg:tb≠g:=by have:=HN.tbB;omega
          have hrg:rb≠g:=by have:=HN.rbB;omega
          have G6:=Hd ((hold tb HN.tbB).trans HS.tbx);have JX:=Hd dN;have fM:=Hd dN;have ML:=Hd dO;have adJ:=Hd ku;clear hold dN dO ku
          obtain⟨D6,-⟩:∃n:Nat,n=n:=⟨0,rfl⟩)
        |(unfold Xx
          have y0:=(fM.cellAt 8 (by decide)).trans (show _=some (.int .i64 0)from rfl);have x0:=fM.frozenAt 8;have y1:=(fM.cellAt 9 (by decide)).trans (show _=some (.int .i64 0)from rfl);have x1:=fM.frozenAt 9;have y2:=(fM.cellAt 10 (by decide)).trans (show _=some (.string ⟨#[]⟩)from rfl);have x2:=fM.frozenAt 10;have y3:=(fM.cellAt 11 (by decide)).trans (show _=some (.slice none 0 0)from rfl);have x3:=fM.frozenAt 11;go_simp;clear y0 y1 y2 y3 x0 x1 x2 x3;refine hK.out _ _ (hHeld.block (fH hrg) (by simp)) (fun hHeld=>?_);clear hK K;try simp only[Act.put,aT,aU,aV]
          first
           |have:=G7
           |(obtain⟨WS,hWS⟩:=aj ((((W7.setCell ⟨g,8,none⟩ (.int .i64 t2.op)).setCell ⟨g,9,none⟩ (.int .i64 t2.num)).setCell ⟨g,10,none⟩ (.string t2.name)).setCell ⟨g,11,none⟩ (.slice A2 n3 c2))
             rw[←hWS];rw[←hWS]at hHeld;have MN:=(fH (W:=W7) (o0:=8) (o1:=9) (o2:=10) (o3:=11) (v0:=.int .i64 t2.op) (v1:=.int .i64 t2.num) (v2:=.string t2.name) (v3:=.slice A2 n3 c2) htg).trans G6;rw[←hWS]at MN;clear G6;have G6:=Hd MN;have kY:=Hd hWS
             clear hWS MN)
          obtain⟨D8,-⟩:∃n:Nat,n=n:=⟨0,rfl⟩)
        |(unfold Ra
          obtain⟨y3,x3⟩:=(kr G6).2.2.2;go_simp;clear y3 x3;refine hK.out _ _ (hHeld.block (iw _ ⟨tb,3,none⟩ rb _ (fun e=>HN.ne1 e.symm)) (by simp)) (fun hHeld=>?_);clear hK K;try simp only[Act.put,aT,aU,aV]
          first
           |have:=D8
           |(obtain⟨WT,Um⟩:=aj (W7.setCell ⟨tb,3,none⟩ (.slice (some ⟨g,0,none⟩) 3 cap))
             rw[←Um];rw[←Um]at hHeld;have Cz:=Mv (tb:=tb) (u:=.slice (some ⟨g,0,none⟩) 3 cap) htg JX;rw[←Um]at Cz;clear fM;have fM:=Hd Cz;have HWT:=Hd Um
             clear Um Cz)
          obtain⟨G7,-⟩:∃n:Nat,n=n:=⟨0,rfl⟩)
        |fail
       all_goals first
        |have:=T4
        |(have:=D1
          refine wpAnyH_take (i:=4) (oi:=Xv) (v:=?_) rfl (by kernel_rfl) (by kernel_rfl) (by kernel_rfl) (fun _ _ _ h=>h) (Or.inl ⟨by rfl,?hy⟩) (by assumption) ?_
          case hy=>
           unfold Xv;intro w0 hSw;clear hSw;go_simp
           (first|done|with_reducible rfl)
          try simp only[Xv,Act.put,aT,aU,aV]
          obtain⟨T4,-⟩:∃n:Nat,n=n:=⟨0,rfl⟩)
        |skip
       all_goals first
        |have:=T7
        |(have:=D1
          have:=D3;have:=D5;have:=D6;refine wpAnyH_take (i:=7) (oi:=Xw) (v:=?_) rfl (by kernel_rfl) (by kernel_rfl) (by kernel_rfl) (fun _ _ _ h=>h) (Or.inl ⟨by rfl,?hy⟩) (by assumption) ?_
          case hy=>
           unfold Xw;intro w0 hSw;clear hSw;go_simp
           (first|done|with_reducible rfl)
          try simp only[Xw,Act.put,aT,aU,aV]
          obtain⟨T7,-⟩:∃n:Nat,n=n:=⟨0,rfl⟩)
        |skip
       all_goals first
        |have:=T9
        |(have:=D1
          have:=D3;have:=D5;have:=D6;refine wpAnyH_take (i:=9) (oi:=Xy) (v:=?_) rfl (by kernel_rfl) (by kernel_rfl) (by kernel_rfl) (fun _ _ _ h=>h) (Or.inl ⟨by rfl,?hy⟩) (by assumption) ?_
          case hy=>
           unfold Xy;intro w0 hSw;clear hSw;go_simp
           (first|done|with_reducible rfl)
          try simp only[Xy,Act.put,aT,aU,aV]
          obtain⟨T9,-⟩:∃n:Nat,n=n:=⟨0,rfl⟩)
        |skip
       all_goals first
        |(have:=D1
          have:=D3;have:=D5;have:=D6;have:=D8;have:=G7;refine wpAnyH_done (by kernel_rfl) ?_ _;have dJ:Hid (F=Oi R A c d l i tb (.ok (dD 18 [e1.t,e2.t,t2]) jn) w0 wE B):=by show _=_;rw[bE,←HR2];rfl
          have Oc:=Hd (HS.put (o:=8) HN jm JX ML adJ rfl)
          first
           |(rw[HWT,Fz htg]
             rw[←AV]at Oc)
           |rw[←AV,←kY]at Oc
          go_wp2_with fail
          go_meet
          case rel=>exact⟨⟨t2,A2,c2⟩,g,cap,jn,Oc,dJ,hij2⟩)
        |(have:=D1
          have:=D3;have:=D5;have:=D6;have:=D8;refine Rd (rs:=[10]) (by kernel_rfl) (by simp) ?_
          refine Rc (o:=Ra) rfl (fun K hK=>?_) Rn)
        |(have:=D1
          have:=D3;have:=D5;have:=D6;have:=G7;refine Rd (rs:=[8]) (by kernel_rfl) (by simp) ?_
          refine Rc (o:=Xx) rfl (fun K hK=>?_) Rn)
        |(have:=D1
          have:=D3;have:=D5;have:=D6;refine Rd (rs:=[8,10]) (by kernel_rfl) (by simp) ?_
          refine Rc (o:=Xx) rfl (fun K hK=>?_) (Rc (o:=Ra) rfl (fun K hK=>?_) Rn))
        |(have:=D1
          have:=D3;have:=D5;refine Rd (rs:=[6]) (by kernel_rfl) (by simp) ?_
          refine Rc (o:=adH) rfl (fun K hK=>?_) Rn)
        |(have:=D1
          have:=D3;refine Rd (rs:=[5]) (by kernel_rfl) (by simp) ?_
          refine Rc (o:=MJ) rfl (fun K hK=>?_) Rn)
        |(have:=D1
          have:=D5;refine Rd (rs:=[3]) (by kernel_rfl) (by simp) ?_
          refine Rc (o:=MI) rfl (fun K hK=>?_) Rn)
        |(have:=D3
          have:=D5;refine Rd (rs:=[1]) (by kernel_rfl) (by simp) ?_
          refine Rc (o:=MH) rfl (fun K hK=>?_) Rn)
        |(have:=D1
          refine Rd (rs:=[3,5]) (by kernel_rfl) (by simp) ?_
          refine Rc (o:=MI) rfl (fun K hK=>?_) (Rc (o:=MJ) rfl (fun K hK=>?_) Rn))
        |(have:=D3
          refine Rd (rs:=[1,5]) (by kernel_rfl) (by simp) ?_
          refine Rc (o:=MH) rfl (fun K hK=>?_) (Rc (o:=MJ) rfl (fun K hK=>?_) Rn))
        |(have:=D5
          refine Rd (rs:=[1,3]) (by kernel_rfl) (by simp) ?_
          refine Rc (o:=MH) rfl (fun K hK=>?_) (Rc (o:=MI) rfl (fun K hK=>?_) Rn))
        |fail
     case rest=>
      obtain⟨e3,g3,Uo,k3,Oj,Un,alH⟩:=hcut;clear HS bE;have HS:=Hd Oj;have bE:=Un;clear Oj Un;obtain⟨⟨y0,x0⟩,⟨y1,x1⟩,⟨y2,x2⟩,y3,x3⟩:=kr HS.tbx;obtain⟨v0,v1,v2,v3,zq⟩:=q4 HS.res;clear x0 x1 x2 x3;go_wp2_with fail;refine bR (Gg (ni HS.res)) rfl ?_;clear y0 y1 y2 y3 v0 v1 v2 v3 zq;rw[bE];exact HS.fin HN (by omega) (by omega)
    ·have hmf:ah l k2 3 uo=false:=by simpa using hm
     have HM:=Hd (HMN wc k2 ⟨#[101,108,115,101]⟩ HS.jl HS.bN HS.only hmf);have Rb:Hid (F=Oi R A c d l i tb (.bad k2 16) w0 wE B):=by show _=_;rw[bE,iN hm]
     clear hm hmf bE;go_wp2_with fail;refine HM.mono ?_;rintro e w9 ⟨rfl,m9,mE⟩;refine(show _∧_ from⟨rfl,?_⟩);rw[Rb,mE];exact⟨rfl,HS.only.drewN m9⟩
  ·have hmf:ah l k1 3 um=false:=by simpa using hm
   have HM:=Hd (HMN wc k1 ⟨#[116,104,101,110]⟩ HS.jl HS.bN HS.only hmf);have Rb:Hid (F=Oi R A c d l i tb (.bad k1 16) w0 wE B):=by show _=_;rw[bE,iN hm]
   clear hm hmf bE;go_wp2_with fail;refine HM.mono ?_;rintro e w9 ⟨rfl,m9,mE⟩;refine(show _∧_ from⟨rfl,?_⟩);rw[Rb,mE];exact⟨rfl,HS.only.drewN m9⟩
end Go.Proofs.YtkhoeoilamddaaaGreatDoor
