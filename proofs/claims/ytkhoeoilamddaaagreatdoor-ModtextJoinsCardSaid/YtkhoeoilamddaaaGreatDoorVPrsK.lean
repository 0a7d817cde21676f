/- Walk: ttext's reader.unit$1: the three parts of an if. -/
import Derived.Test.YtkhoeoilamddaaaGreatDoorVPrsJ
namespace Go.Proofs.YtkhoeoilamddaaaGreatDoor
open Go.RowKit
set_option linter.unusedVariables false
set_option linter.unusedSimpArgs false
set_option maxRecDepth 100000
set_option maxHeartbeats 16000000
def ch3 (T:Par) (a b:Tm) (k:Nat):Rs Tm:=(T (k+1)).then fun c m=>.ok (tmOf 18 [a,b,c]) m
def ch2 (l:List Tok) (T:Par) (a:Tm) (j:Nat):Rs Tm:=(T (j+1)).then fun b k=>if isTk l k 3 wElse then ch3 T a b k else .bad k 16
def ch1 (l:List Tok) (T:Par) (i:Nat):Rs Tm:=(T i).then fun a j=>if isTk l j 3 wThen then ch2 l T a j else .bad j 16
def IfQ (R:Nat) (A:Option Addr) (c d:Nat) (l:List Tok) (i tb:Nat) (r:Rs Tm) (w0 wE:World) (B:Nat) (e:Ending) (w':World):Prop:=match r with
 | .ok t j=>(∃ A' c',e=.returned (t.val A' c')∧w'.heap[tb]?=some (.cells #[.int .i64 t.op,.int .i64 t.num,.string t.name,.slice A' t.kids.length c'] 64 (0,0))∧TmVS (fun q=>B≤q) w' A' c' t)∧i<j∧j≤l.length∧Rdr w' R A l.length c j d∧Only (fun q=>q=R) w0 w'∧Only (fun q=>q=R∨q=tb) wE w'
 | .bad j x=>e=.panicked (thrown j x)∧Only (fun q=>q=R) w0 w'
theorem sets4_far {W:World} {b q o0 o1 o2 o3:Nat} {v0 v1 v2 v3:Value} (h:q≠b):((((W.setCell ⟨b,o0,none⟩ v0).setCell ⟨b,o1,none⟩ v1).setCell ⟨b,o2,none⟩ v2).setCell ⟨b,o3,none⟩ v3).heap[q]?=W.heap[q]?:=by
 rw [hO_ _ ⟨b,o3,none⟩ q _ h,hO_ _ ⟨b,o2,none⟩ q _ h,hO_ _ ⟨b,o1,none⟩ q _ h,hO_ _ ⟨b,o0,none⟩ q _ h]
theorem World.setCell_swap {W:World} {a b:Addr} {u v:Value} (h:a.block≠b.block):(W.setCell a u).setCell b v=(W.setCell b v).setCell a u:=by
 unfold World.setCell;simp only [World.mk.injEq,and_true]
 apply Array.ext_getElem?
 intro k;simp only [Array.getElem?_modify]
 by_cases h1:b.block=k
 · by_cases h2:a.block=k
   · exact absurd (h2.trans h1.symm) h
   · simp [h1,h2]
 · simp [h1]
theorem sets4_swap {W:World} {b q o0 o1 o2 o3:Nat} {v0 v1 v2 v3 u:Value} (h:q≠b):(((((W.setCell ⟨q,3,none⟩ u).setCell ⟨b,o0,none⟩ v0).setCell ⟨b,o1,none⟩ v1).setCell ⟨b,o2,none⟩ v2).setCell ⟨b,o3,none⟩ v3)=((((W.setCell ⟨b,o0,none⟩ v0).setCell ⟨b,o1,none⟩ v1).setCell ⟨b,o2,none⟩ v2).setCell ⟨b,o3,none⟩ v3).setCell ⟨q,3,none⟩ u:=by
 rw [World.setCell_swap (a:=⟨q,3,none⟩) (b:=⟨b,o0,none⟩) h,World.setCell_swap (a:=⟨q,3,none⟩) (b:=⟨b,o1,none⟩) h,World.setCell_swap (a:=⟨q,3,none⟩) (b:=⟨b,o2,none⟩) h,World.setCell_swap (a:=⟨q,3,none⟩) (b:=⟨b,o3,none⟩) h]
theorem IfS.fin {R c d i tb rb rs B0 j:Nat} {A:Option Addr} {l:List Tok} {w0 wE wr:World} {g cap B:Nat} {e1 e2 e3:TmE} {v0 v1 v2 v3:Value} (h:IfS R A c d l i tb rb rs B0 w0 wE wr (.slice (some ⟨g,0,none⟩) 3 cap) [e1,e2,e3] j) (hn:IfN R tb rb rs B0 w0) (hB:B≤B0) (hij:i<j) :
 IfQ R A c d l i tb (.ok (tmOf 18 [e1.t,e2.t,e3.t]) j) w0 wE B (.returned (.agg #[.int .i64 18,.int .i64 0,.string ⟨#[]⟩,.slice (some ⟨g,0,none⟩) 3 cap])) ((((wr.setCell ⟨rs,0,none⟩ v0).setCell ⟨rs,1,none⟩ v1).setCell ⟨rs,2,none⟩ v2).setCell ⟨rs,3,none⟩ v3):=by
 have h1:=hn.r0;have h2:=hn.rs0;have h3:=hn.rsB;have h4:=h.only.size;have hk:KeepS (fun q=>B0≤q) wr ((((wr.setCell ⟨rs,0,none⟩ v0).setCell ⟨rs,1,none⟩ v1).setCell ⟨rs,2,none⟩ v2).setCell ⟨rs,3,none⟩ v3):=(((KeepS.refl.set (by omega) _).set (by omega) _).set (by omega) _).set (by omega) _;have hg:=h.own.lt g rfl
 rcases h.own.2 with ⟨h9,-⟩ | ⟨g',cap',cur,hv,-,-,hnc,hcm,-,-⟩
 · cases h9
 have hcc:cap'=cap:=by injection hv with _ _ h9;exact h9.symm
 rw [hcc] at hnc hcm;refine ⟨⟨some ⟨g,0,none⟩,cap,rfl,(sets4_far hn.ne2).trans h.tbx,⟨hnc,hcm,zl _,.inr ⟨g,0,rfl,by omega,by simpa using hg.2,?_⟩⟩⟩,hij,h.jl,(sets4_far (by omega)).trans h.rdr,only_setN (only_setN (only_setN (only_setN h.only h2 _) h2 _) h2 _) h2 _,only_setN (only_setN (only_setN (only_setN h.two h.rsE _) h.rsE _) h.rsE _) h.rsE _⟩;refine TmRowS.keep hk (fun q _ hq=>Nat.le_trans hB hq) hg.1 hg.2 ?_;refine row_of_cells [e1,e2,e3] 0 (fun k v hv=>?_) (fun e he=>(h.vals e he).keep Kr (fun q _ hq=>hq.1));have h9:=h.own.cells (g:=g) rfl k v hv;rw [addr_add] at h9;exact h9
theorem TmVS.alloc1 {S:Nat→Prop} {w:World} {A:Option Addr} {c:Nat} {t:Tm} (h:TmVS S w A c t) (o:Obj):TmVS S (w.alloc o) A c t:=h.keep (Kb ((Br _ _).alloc (lr _) _)) (fun _ _ h=>h)
theorem own_set3 {w:World} {B n k tb g cap:Nat} {T:TypeId} {u:Value} {xs:List Value} (htg:tb≠g) (h:w.ownsRow B T k (.slice (some ⟨g,0,none⟩) n cap) n xs):(w.setCell ⟨tb,3,none⟩ u).ownsRow B T k (.slice (some ⟨g,0,none⟩) n cap) n xs:=
 h.kept (row:=some tb) ⟨rfl,rfl,rfl,by simp,fun k hk hne=>hO_ _ ⟨tb,3,none⟩ k _ (fun e=>hne (by rw [e]))⟩ (.inr (fun e=>htg (by
  have e2:g=tb:=by simpa [Value.ownBlock] using e
  exact e2.symm)))
def opk0_0 : Oper := { dst := some 3, op := Op.fieldAddr 64 (Operand.tmp 0) 3, type := 0, pos := "ttext.go:330", after := #[], guard := none }
def opk0_1 : Oper := { dst := some 4, op := Op.load 25 (Operand.tmp 3), type := 25, pos := "ttext.go:330", after := #[{ on := 0, ground := Ground.data }], guard := none }
def opk0_2 : Oper := { dst := some 5, op := Op.load 182 (Operand.tmp 1), type := 182, pos := "ttext.go:330", after := #[], guard := none }
def opk0_3 : Oper := { dst := some 6, op := Op.call { callee := Callee.value (Operand.func 122), args := #[Operand.tmp 5], argTypes := #[182] }, type := 64, pos := "ttext.go:330", after := #[{ on := 2, ground := Ground.data }], guard := none }
def opk0_4 : Oper := { dst := some 7, op := Op.call { callee := Callee.builtin Builtin.len, args := #[Operand.tmp 4], argTypes := #[25] }, type := 3, pos := "ttext.go:330", after := #[{ on := 1, ground := Ground.data }], guard := none }
def opk0_5 : Oper := { dst := some 8, op := Op.buildSlice 25 1 #[(0, Operand.const (Value.agg #[Value.int IntKind.i64 0, Value.int IntKind.i64 0, Value.string { data := #[] }, Value.slice none 0 0]))], type := 25, pos := "ttext.go:330", after := #[], guard := none }
def opk0_6 : Oper := { dst := some 9, op := Op.call { callee := Callee.builtin Builtin.append, args := #[Operand.tmp 4, Operand.tmp 8], argTypes := #[25, 25] }, type := 25, pos := "ttext.go:330", after := #[{ on := 1, ground := Ground.data }, { on := 5, ground := Ground.data }, { on := 3, ground := Ground.chain }, { on := 0, ground := Ground.phase }, { on := 1, ground := Ground.phase }, { on := 2, ground := Ground.phase }, { on := 3, ground := Ground.phase }, { on := 4, ground := Ground.phase }, { on := 5, ground := Ground.phase }], guard := none }
def opk0_7 : Oper := { dst := some 10, op := Op.indexAddr 25 (Operand.tmp 9) (Operand.tmp 7), type := 0, pos := "ttext.go:330", after := #[{ on := 6, ground := Ground.data }, { on := 4, ground := Ground.data }, { on := 0, ground := Ground.phase }, { on := 1, ground := Ground.phase }, { on := 2, ground := Ground.phase }, { on := 3, ground := Ground.phase }, { on := 4, ground := Ground.phase }, { on := 5, ground := Ground.phase }, { on := 6, ground := Ground.phase }, { on := 10, ground := Ground.gcOnly Departure.appendInPlace }], guard := none }
def opk0_8 : Oper := { dst := none, op := Op.store 64 (Operand.tmp 10) (Operand.tmp 6), type := 0, pos := "ttext.go:330", after := #[{ on := 7, ground := Ground.data }, { on := 3, ground := Ground.data }, { on := 6, ground := Ground.chain }, { on := 0, ground := Ground.phase }, { on := 1, ground := Ground.phase }, { on := 2, ground := Ground.phase }, { on := 3, ground := Ground.phase }, { on := 4, ground := Ground.phase }, { on := 5, ground := Ground.phase }, { on := 6, ground := Ground.phase }, { on := 10, ground := Ground.gcOnly Departure.appendInPlace }], guard := none }
def opk0_9 : Oper := { dst := some 11, op := Op.fieldAddr 64 (Operand.tmp 0) 3, type := 0, pos := "ttext.go:330", after := #[{ on := 0, ground := Ground.phase }, { on := 1, ground := Ground.phase }, { on := 2, ground := Ground.phase }, { on := 3, ground := Ground.phase }, { on := 4, ground := Ground.phase }, { on := 5, ground := Ground.phase }, { on := 6, ground := Ground.phase }, { on := 7, ground := Ground.textOnly Departure.appendInPlace }, { on := 8, ground := Ground.textOnly Departure.appendInPlace }], guard := none }
def opk0_10 : Oper := { dst := none, op := Op.store 25 (Operand.tmp 11) (Operand.tmp 9), type := 0, pos := "ttext.go:330", after := #[{ on := 9, ground := Ground.data }, { on := 6, ground := Ground.data }, { on := 6, ground := Ground.chain }, { on := 8, ground := Ground.textOnly Departure.appendInPlace }, { on := 0, ground := Ground.phase }, { on := 1, ground := Ground.phase }, { on := 2, ground := Ground.phase }, { on := 3, ground := Ground.phase }, { on := 4, ground := Ground.phase }, { on := 5, ground := Ground.phase }, { on := 6, ground := Ground.phase }, { on := 7, ground := Ground.textOnly Departure.appendInPlace }, { on := 8, ground := Ground.textOnly Departure.appendInPlace }], guard := none }
def opk1_0 : Oper := { dst := some 16, op := Op.fieldAddr 64 (Operand.tmp 0) 3, type := 0, pos := "ttext.go:332", after := #[], guard := none }
def opk1_1 : Oper := { dst := some 17, op := Op.load 25 (Operand.tmp 16), type := 25, pos := "ttext.go:332", after := #[{ on := 0, ground := Ground.data }], guard := none }
def opk1_2 : Oper := { dst := some 18, op := Op.load 182 (Operand.tmp 1), type := 182, pos := "ttext.go:332", after := #[], guard := none }
def opk1_3 : Oper := { dst := some 19, op := Op.call { callee := Callee.value (Operand.func 122), args := #[Operand.tmp 18], argTypes := #[182] }, type := 64, pos := "ttext.go:332", after := #[{ on := 2, ground := Ground.data }], guard := none }
def opk1_4 : Oper := { dst := some 20, op := Op.call { callee := Callee.builtin Builtin.len, args := #[Operand.tmp 17], argTypes := #[25] }, type := 3, pos := "ttext.go:332", after := #[{ on := 1, ground := Ground.data }], guard := none }
def opk1_5 : Oper := { dst := some 21, op := Op.buildSlice 25 1 #[(0, Operand.const (Value.agg #[Value.int IntKind.i64 0, Value.int IntKind.i64 0, Value.string { data := #[] }, Value.slice none 0 0]))], type := 25, pos := "ttext.go:332", after := #[], guard := none }
def opk1_6 : Oper := { dst := some 22, op := Op.call { callee := Callee.builtin Builtin.append, args := #[Operand.tmp 17, Operand.tmp 21], argTypes := #[25, 25] }, type := 25, pos := "ttext.go:332", after := #[{ on := 1, ground := Ground.data }, { on := 5, ground := Ground.data }, { on := 3, ground := Ground.chain }, { on := 0, ground := Ground.phase }, { on := 1, ground := Ground.phase }, { on := 2, ground := Ground.phase }, { on := 3, ground := Ground.phase }, { on := 4, ground := Ground.phase }, { on := 5, ground := Ground.phase }], guard := none }
def opk1_7 : Oper := { dst := some 23, op := Op.indexAddr 25 (Operand.tmp 22) (Operand.tmp 20), type := 0, pos := "ttext.go:332", after := #[{ on := 6, ground := Ground.data }, { on := 4, ground := Ground.data }, { on := 0, ground := Ground.phase }, { on := 1, ground := Ground.phase }, { on := 2, ground := Ground.phase }, { on := 3, ground := Ground.phase }, { on := 4, ground := Ground.phase }, { on := 5, ground := Ground.phase }, { on := 6, ground := Ground.phase }, { on := 10, ground := Ground.gcOnly Departure.appendInPlace }], guard := none }
def opk1_8 : Oper := { dst := none, op := Op.store 64 (Operand.tmp 23) (Operand.tmp 19), type := 0, pos := "ttext.go:332", after := #[{ on := 7, ground := Ground.data }, { on := 3, ground := Ground.data }, { on := 6, ground := Ground.chain }, { on := 0, ground := Ground.phase }, { on := 1, ground := Ground.phase }, { on := 2, ground := Ground.phase }, { on := 3, ground := Ground.phase }, { on := 4, ground := Ground.phase }, { on := 5, ground := Ground.phase }, { on := 6, ground := Ground.phase }, { on := 10, ground := Ground.gcOnly Departure.appendInPlace }], guard := none }
def opk1_9 : Oper := { dst := some 24, op := Op.fieldAddr 64 (Operand.tmp 0) 3, type := 0, pos := "ttext.go:332", after := #[{ on := 0, ground := Ground.phase }, { on := 1, ground := Ground.phase }, { on := 2, ground := Ground.phase }, { on := 3, ground := Ground.phase }, { on := 4, ground := Ground.phase }, { on := 5, ground := Ground.phase }, { on := 6, ground := Ground.phase }, { on := 7, ground := Ground.textOnly Departure.appendInPlace }, { on := 8, ground := Ground.textOnly Departure.appendInPlace }], guard := none }
def opk1_10 : Oper := { dst := none, op := Op.store 25 (Operand.tmp 24) (Operand.tmp 22), type := 0, pos := "ttext.go:332", after := #[{ on := 9, ground := Ground.data }, { on := 6, ground := Ground.data }, { on := 6, ground := Ground.chain }, { on := 8, ground := Ground.textOnly Departure.appendInPlace }, { on := 0, ground := Ground.phase }, { on := 1, ground := Ground.phase }, { on := 2, ground := Ground.phase }, { on := 3, ground := Ground.phase }, { on := 4, ground := Ground.phase }, { on := 5, ground := Ground.phase }, { on := 6, ground := Ground.phase }, { on := 7, ground := Ground.textOnly Departure.appendInPlace }, { on := 8, ground := Ground.textOnly Departure.appendInPlace }], guard := none }
def opk2_0 : Oper := { dst := some 29, op := Op.fieldAddr 64 (Operand.tmp 0) 3, type := 0, pos := "ttext.go:334", after := #[], guard := none }
def opk2_1 : Oper := { dst := some 30, op := Op.load 25 (Operand.tmp 29), type := 25, pos := "ttext.go:334", after := #[{ on := 0, ground := Ground.data }], guard := none }
def opk2_2 : Oper := { dst := some 31, op := Op.load 182 (Operand.tmp 1), type := 182, pos := "ttext.go:334", after := #[], guard := none }
def opk2_3 : Oper := { dst := some 32, op := Op.call { callee := Callee.value (Operand.func 122), args := #[Operand.tmp 31], argTypes := #[182] }, type := 64, pos := "ttext.go:334", after := #[{ on := 2, ground := Ground.data }], guard := none }
def opk2_4 : Oper := { dst := some 33, op := Op.call { callee := Callee.builtin Builtin.len, args := #[Operand.tmp 30], argTypes := #[25] }, type := 3, pos := "ttext.go:334", after := #[{ on := 1, ground := Ground.data }], guard := none }
def opk2_5 : Oper := { dst := some 34, op := Op.buildSlice 25 1 #[(0, Operand.const (Value.agg #[Value.int IntKind.i64 0, Value.int IntKind.i64 0, Value.string { data := #[] }, Value.slice none 0 0]))], type := 25, pos := "ttext.go:334", after := #[], guard := none }
def opk2_6 : Oper := { dst := some 35, op := Op.call { callee := Callee.builtin Builtin.append, args := #[Operand.tmp 30, Operand.tmp 34], argTypes := #[25, 25] }, type := 25, pos := "ttext.go:334", after := #[{ on := 1, ground := Ground.data }, { on := 5, ground := Ground.data }, { on := 3, ground := Ground.chain }, { on := 0, ground := Ground.phase }, { on := 1, ground := Ground.phase }, { on := 2, ground := Ground.phase }, { on := 3, ground := Ground.phase }, { on := 4, ground := Ground.phase }, { on := 5, ground := Ground.phase }], guard := none }
def opk2_7 : Oper := { dst := some 36, op := Op.indexAddr 25 (Operand.tmp 35) (Operand.tmp 33), type := 0, pos := "ttext.go:334", after := #[{ on := 6, ground := Ground.data }, { on := 4, ground := Ground.data }, { on := 0, ground := Ground.phase }, { on := 1, ground := Ground.phase }, { on := 2, ground := Ground.phase }, { on := 3, ground := Ground.phase }, { on := 4, ground := Ground.phase }, { on := 5, ground := Ground.phase }, { on := 6, ground := Ground.phase }, { on := 10, ground := Ground.gcOnly Departure.appendInPlace }], guard := none }
def opk2_8 : Oper := { dst := none, op := Op.store 64 (Operand.tmp 36) (Operand.tmp 32), type := 0, pos := "ttext.go:334", after := #[{ on := 7, ground := Ground.data }, { on := 3, ground := Ground.data }, { on := 6, ground := Ground.chain }, { on := 0, ground := Ground.phase }, { on := 1, ground := Ground.phase }, { on := 2, ground := Ground.phase }, { on := 3, ground := Ground.phase }, { on := 4, ground := Ground.phase }, { on := 5, ground := Ground.phase }, { on := 6, ground := Ground.phase }, { on := 10, ground := Ground.gcOnly Departure.appendInPlace }], guard := none }
def opk2_9 : Oper := { dst := some 37, op := Op.fieldAddr 64 (Operand.tmp 0) 3, type := 0, pos := "ttext.go:334", after := #[{ on := 0, ground := Ground.phase }, { on := 1, ground := Ground.phase }, { on := 2, ground := Ground.phase }, { on := 3, ground := Ground.phase }, { on := 4, ground := Ground.phase }, { on := 5, ground := Ground.phase }, { on := 6, ground := Ground.phase }, { on := 7, ground := Ground.textOnly Departure.appendInPlace }, { on := 8, ground := Ground.textOnly Departure.appendInPlace }], guard := none }
def opk2_10 : Oper := { dst := none, op := Op.store 25 (Operand.tmp 37) (Operand.tmp 35), type := 0, pos := "ttext.go:334", after := #[{ on := 9, ground := Ground.data }, { on := 6, ground := Ground.data }, { on := 6, ground := Ground.chain }, { on := 8, ground := Ground.textOnly Departure.appendInPlace }, { on := 0, ground := Ground.phase }, { on := 1, ground := Ground.phase }, { on := 2, ground := Ground.phase }, { on := 3, ground := Ground.phase }, { on := 4, ground := Ground.phase }, { on := 5, ground := Ground.phase }, { on := 6, ground := Ground.phase }, { on := 7, ground := Ground.textOnly Departure.appendInPlace }, { on := 8, ground := Ground.textOnly Departure.appendInPlace }], guard := none }
theorem punit1_any (R:Nat) (A:Option Addr) (c d:Nat) (l:List Tok) (tb rb:Nat) (w0 w:World) (i:Nat) (T:Par) (hF:FnC R A c d l 122 (.pointer (some ⟨R,0,none⟩)) (fun _=>True) T)
 (h0:R<w0.heap.size) (htb0:w0.heap.size≤tb) (hrb0:w0.heap.size≤rb) (htw:tb<w.heap.size) (hrt:tb≠rb) (hi:i≤l.length) (hR:Rdr w R A l.length c i d) (hP:PTok w0 R A c l) (hO:Only (fun q=>q=R) w0 w) (hbox:BoxR R rb w)
 (htbx:w.heap[tb]?=some (.cells #[.int .i64 18,.int .i64 0,.string ⟨#[]⟩,.slice none 0 0] 64 (0,0))) :
 Calls Tryz.prog 210 #[.pointer (some ⟨tb,0,none⟩),.pointer (some ⟨rb,0,none⟩)] w (IfQ R A c d l i tb (ch1 l T i) w0 w w.heap.size):=by
 obtain ⟨i0,hi0,hz0,hz1,hz2⟩:=info_parts infoTm;have hlen:=hP.len;obtain ⟨wn0,hw1⟩:=ex_ (w.alloc (.cells #[.int .i64 0,.int .i64 0,.string ⟨#[]⟩,.slice none 0 0] 64));have hb1:=bAl hw1;have hs1:wn0.heap.size=w.heap.size+1:=by rw [hw1];simp
 have hbx:wn0.heap[w.heap.size]?=some (.cells #[.int .i64 0,.int .i64 0,.string ⟨#[]⟩,.slice none 0 0] 64 (0,0)):=by rw [hw1];exact hA_ w _
 have hO0:=hO.size;obtain ⟨wE,hwE⟩:=ex_ w;obtain ⟨B,hB⟩:=ex_ w.heap.size;obtain ⟨B0,hB0⟩:=ex_ (w.heap.size+1);obtain ⟨rs,hrs⟩:=ex_ w.heap.size;have hrbl:=hbox.2.1;have HN:Hid (IfN R tb rb rs B0 w0):=⟨h0,htb0,hrb0,by omega,by omega,by omega,by omega,hrt,by omega,by omega⟩
 have HS:Hid (IfS R A c d l i tb rb rs B0 w0 wE wn0 (.slice none 0 0) [] i):=by
  show IfS _ _ _ _ _ _ _ _ _ _ _ _ _ _ _ _;rw [hwE];exact ⟨World.ownsRow_nil _ _ _ _,fun _ h=>by simp at h,hR.below hb1 hR.lt,hO.trans (Ob hb1),hbox.only (Ob (F:=fun q=>q=R) hb1),(hb1.block tb htw).trans htbx,by rw [hrs];exact hbx,lr _,hi,by omega,Ob hb1,by omega,by omega⟩
 have HT:=Hd (fun (W:World) (j:Nat) (hj:j≤l.length) (hr:Rdr W R A l.length c j d) (ho:Only (fun q=>q=R) w0 W)=>hF j W hj hr (hP.only ho) trivial);have HMY:=Hd (fun (W:World) (j:Nat) (s:ByteArray) (hj:j≤l.length) (hr:Rdr W R A l.length c j d) (ho:Only (fun q=>q=R) w0 W) (h:isTk l j 3 (bs s)=true)=>pmust_yes R A c j d l 3 s W hr (hP.only ho) (by omega) h);have HMN:=Hd (fun (W:World) (j:Nat) (s:ByteArray) (hj:j≤l.length) (hr:Rdr W R A l.length c j d) (ho:Only (fun q=>q=R) w0 W) (h:isTk l j 3 (bs s)=false)=>pmust_no R A c j d l 3 s W hr (hP.only ho) (by omega) h);obtain ⟨F,hF0⟩:=ex_ (IfQ R A c d l i tb (ch1 l T i) w0 w w.heap.size);rw [←hF0];rw [←hB] at hF0;have HRE:Hid (F=IfQ R A c d l i tb ((T i).then fun a j=>if isTk l j 3 wThen then ch2 l T a j else .bad j 16) w0 wE B):=by show _=_;rw [hwE];exact hF0
 have HW1:=Hd hw1;have HRS:=Hd hrs;have hBB0:B≤B0:=by omega
 have HBB:=Hd hB;have HWE:=Hd hwE;clear hwE;have HB0:=Hd hB0;clear hF hi hR hP hO hbox htbx hw1 hb1 hs1 hbx hO0 hB hB0 hrs hrbl hF0 h0 htb0 hrb0 htw hrt;go_enter Tryz.func210,Tryz.ntmps210;go_wp2_with fail;rw [←HW1.out,←HRS.out];obtain ⟨j0,hj0⟩:=ex_ i;have HSJ:Hid (IfS R A c d l i tb rb rs B0 w0 wE wn0 (.slice none 0 0) [] j0):=by show IfS _ _ _ _ _ _ _ _ _ _ _ _ _ _ _ _;rw [hj0];exact HS.out
 clear HS;rename Hid (IfS _ _ _ _ _ _ _ _ _ _ _ _ _ _ _ _)=>HS;have HREJ:Hid (F=IfQ R A c d l i tb ((T j0).then fun a j=>if isTk l j 3 wThen then ch2 l T a j else .bad j 16) w0 wE B):=by show _=_;rw [hj0];exact HRE.out
 clear HRE;rename Hid (F=_)=>HRE
 go_cut [] from 3 (fun wc=>∃ (e1:TmE) (g1 cap1 k1:Nat),IfS R A c d l i tb rb rs B0 w0 wE wc (.slice (some ⟨g1,0,none⟩) 1 cap1) ([]++[e1]) k1∧Hid (F=IfQ R A c d l i tb (if isTk l k1 3 wThen then ch2 l T e1.t k1 else .bad k1 16) w0 wE B)∧j0<k1)
 case first=>
  refine wp_region_held_drew (S:=fun w9=>BoxR R rb w9) (by kernel_rfl) HS.out.box (fun hHeld=>?_);obtain ⟨Wc,hWD⟩:=ex_ wn0.drew;rw [←hWD] at hHeld ⊢;have HSD:Hid (IfS R A c d l i tb rb rs B0 w0 wE Wc (.slice none 0 0) [] j0):=by show IfS _ _ _ _ _ _ _ _ _ _ _ _ _ _ _ _;rw [hWD];exact HS.out.drew HN.out
  clear hWD HS;rename Hid (IfS _ _ _ _ _ _ _ _ _ _ _ _ _ _ _ _)=>HS;refine wpAnyH_take (i:=0) (oi:=opk0_0) (v:=?_) rfl (by kernel_rfl) (by kernel_rfl) (by kernel_rfl) (fun _ _ _ h=>h) (Or.inl ⟨by rfl,?hy⟩) (by assumption) ?_
  case hy=>
   unfold opk0_0;intro w0 hSw;clear hSw;go_simp
   (first | done | with_reducible rfl)
  (try simp only [opk0_0,Act.put,sAr,sZe,sSu]);refine wpAnyH_take (i:=2) (oi:=opk0_2) (v:=?_) rfl (by kernel_rfl) (by kernel_rfl) (by kernel_rfl) (fun _ _ _ h=>h) (Or.inl ⟨by rfl,?hy⟩) (by assumption) ?_
  case hy=>
   unfold opk0_2;intro w0 hSw;have e4:=hSw.1;clear hSw;go_simp
   (first | done | with_reducible rfl)
  (try simp only [opk0_2,Act.put,sAr,sZe,sSu]);refine Rd (rs:=[1,3,5]) (by kernel_rfl) (by simp) ?_;refine Rc (o:=opk0_1) rfl (fun K hK=>?_) (Rc (o:=opk0_3) rfl (fun K hK=>?_) (Rc (o:=opk0_5) rfl (fun K hK=>?_) Rn))
  iterate 6
   all_goals first
    | (unfold opk0_1
       have y3:=(cells4 HS.out.tbx).2.2.2.1;go_simp;clear y3;refine hK.out _ _ (hHeld) (fun hHeld=>?_);clear hK K;try simp only [Act.put,sAr,sZe,sSu]
       obtain ⟨D1,-⟩:∃ n:Nat,n=n:=⟨0,rfl⟩)
    | (unfold opk0_3
       go_simp;(with_reducible refine (HT.out _ _ HS.out.jl HS.out.rdr HS.out.only).mono ?_);intro e Wc hq;obtain ⟨r2,hr2⟩:=ex_ (T j0);rw [←hr2] at hq
       rcases r2 with ⟨jb,xb⟩ | ⟨t2,jn⟩
       · obtain ⟨rfl,ho6⟩:=hq;refine (show _∧_ from ⟨rfl,?_⟩);rw [HRE.out,←hr2];exact ⟨rfl,HS.out.only.trans ho6⟩
       obtain ⟨⟨A2,c2,rfl,hV2⟩,hij2,hjl2,hR6,ho6⟩:=hq;obtain ⟨n3,HN3⟩:=exh_ t2.kids.length;unfold Tm.val;rw [←HN3.out];have HR2:=Hd hr2;have hsz6:=ho6.size;have hbig:=HS.out.big;have HV2:Hid (TmVS (fun q=>B0≤q∧(Value.ownBlock (.slice none 0 0))≠some q) Wc A2 c2 t2):=hV2.keep Kr (fun q _ h=>⟨by omega,fun e=>by have:=(HS.out.own.lt q e).2;omega⟩);have hs2:=HS.out.onw HN.out ho6 hR6 (by omega) hjl2
       first
        | (have hz2:=(ho6.block z (by omega) hzR).trans HZ.out
           clear HZ;have HZ:=Hd hz2
           clear hz2)
        | skip
       clear HS hV2 hR6 ho6 hr2 hjl2;have HS:=Hd hs2;clear hs2;refine hK.out _ _ (HS.out.box) (fun hHeld=>?_);clear hK K;try simp only [Act.put,sAr,sZe,sSu]
       obtain ⟨D3,-⟩:∃ n:Nat,n=n:=⟨0,rfl⟩)
    | (unfold opk0_5
       go_simp;refine hK.out _ _ ((HS.out.alloc HN.out _).box) (fun hHeld=>?_);clear hK K;(try simp only [Act.put,sAr,sZe,sSu]);obtain ⟨z,hz⟩:=ex_ Wc.heap.size;have hzR:z≠R:=by have:=HS.out.rdr.lt;omega
       have hs2:=HS.out.alloc HN.out ((.cells #[.int .i64 0,.int .i64 0,.string ⟨#[]⟩,.slice none 0 0] 64):Obj);obtain ⟨Wc,hV⟩:=ex_ (Wc.alloc (.cells #[.int .i64 0,.int .i64 0,.string ⟨#[]⟩,.slice none 0 0] 64));rw [←hV,←hz];rw [←hV] at hHeld hs2;have HZ:=nAl hV hz;have hzl:z<Wc.heap.size:=lH HZ.out
       first
        | (have hv2:=HV2.out.alloc1 ((.cells #[.int .i64 0,.int .i64 0,.string ⟨#[]⟩,.slice none 0 0] 64):Obj)
           rw [←hV] at hv2;clear HV2;have HV2:=Hd hv2
           clear hv2)
        | skip
       clear hV hz HS;have HS:=Hd hs2;clear hs2
       obtain ⟨D5,-⟩:∃ n:Nat,n=n:=⟨0,rfl⟩)
    | (unfold opk0_6
       refine step_append_lies _ (by rfl) _ _ _ (by rfl) B0 64 i0 (.agg #[.int .i64 0,.int .i64 0,.string ⟨#[]⟩,.slice none 0 0]) 4 56 Tryz.underlying25 hi0 hz0 hz1 hz2 rfl (by decide) (.slice none 0 0) 0 (flatE []) (by rfl) HS.out.own ⟨z,0,none⟩ 1 1 [.int .i64 0,.int .i64 0,.string ⟨#[]⟩,.slice none 0 0] (by rfl) (by rfl) (World.news_of_block HZ.out) (by simp [Value.oneCell']) (by decide) (by unfold maxLen;omega) (by omega) HS.out.big _ rfl ?_;intro g cap W7 hown7 hgrow7 hat7 hlt7;have hold:∀ q,q<B0→W7.heap[q]?=Wc.heap[q]?:=fun q hq=>hgrow7.block q (by have:=HS.out.big;omega) (fun e=>by have:=(HS.out.own.lt q e.symm).1;omega);refine hK.out _ _ (hHeld.block (hold rb HN.out.rbB) hgrow7.size) (fun hHeld=>?_);clear hK K;(try simp only [Act.put,sAr,sZe,sSu]);have hgB:B0≤g:=(hown7.lt g rfl).1;have htg:tb≠g:=by have:=HN.out.tbB;omega
       have hrg:rb≠g:=by have:=HN.out.rbB;omega
       have HTBC:=Hd ((hold tb HN.out.tbB).trans HS.out.tbx);have HOWN7:=Hd hown7;have HOWNC:=Hd hown7;have HGROW7:=Hd hgrow7;have HAT7:=Hd hat7;clear hold hown7 hgrow7 hat7
       obtain ⟨D6,-⟩:∃ n:Nat,n=n:=⟨0,rfl⟩)
    | (unfold opk0_8
       have y0:=(HOWNC.out.cellAt 0 (by decide)).trans (show _=some (.int .i64 0) from rfl);have x0:=HOWNC.out.frozenAt 0;have y1:=(HOWNC.out.cellAt 1 (by decide)).trans (show _=some (.int .i64 0) from rfl);have x1:=HOWNC.out.frozenAt 1;have y2:=(HOWNC.out.cellAt 2 (by decide)).trans (show _=some (.string ⟨#[]⟩) from rfl);have x2:=HOWNC.out.frozenAt 2;have y3:=(HOWNC.out.cellAt 3 (by decide)).trans (show _=some (.slice none 0 0) from rfl);have x3:=HOWNC.out.frozenAt 3;go_simp;clear y0 y1 y2 y3 x0 x1 x2 x3;refine hK.out _ _ (hHeld.block (sets4_far hrg) (by simp)) (fun hHeld=>?_);clear hK K;try simp only [Act.put,sAr,sZe,sSu]
       first
        | have:=D10
        | (obtain ⟨WS,hWS⟩:=ex_ ((((W7.setCell ⟨g,0,none⟩ (.int .i64 t2.op)).setCell ⟨g,1,none⟩ (.int .i64 t2.num)).setCell ⟨g,2,none⟩ (.string t2.name)).setCell ⟨g,3,none⟩ (.slice A2 n3 c2))
           rw [←hWS];rw [←hWS] at hHeld;have htbs:=(sets4_far (W:=W7) (o0:=0) (o1:=1) (o2:=2) (o3:=3) (v0:=.int .i64 t2.op) (v1:=.int .i64 t2.num) (v2:=.string t2.name) (v3:=.slice A2 n3 c2) htg).trans HTBC.out;rw [←hWS] at htbs;clear HTBC;have HTBC:=Hd htbs;have HWS:=Hd hWS
           clear hWS htbs)
       obtain ⟨D8,-⟩:∃ n:Nat,n=n:=⟨0,rfl⟩)
    | (unfold opk0_10
       obtain ⟨y3,x3⟩:=(cells4 HTBC.out).2.2.2;go_simp;clear y3 x3;refine hK.out _ _ (hHeld.block (hO_ _ ⟨tb,3,none⟩ rb _ (fun e=>HN.out.ne1 e.symm)) (by simp)) (fun hHeld=>?_);clear hK K;try simp only [Act.put,sAr,sZe,sSu]
       first
        | have:=D8
        | (obtain ⟨WT,hWT⟩:=ex_ (W7.setCell ⟨tb,3,none⟩ (.slice (some ⟨g,0,none⟩) 1 cap))
           rw [←hWT];rw [←hWT] at hHeld;have hownt:=own_set3 (tb:=tb) (u:=.slice (some ⟨g,0,none⟩) 1 cap) htg HOWN7.out;rw [←hWT] at hownt;clear HOWNC;have HOWNC:=Hd hownt;have HWT:=Hd hWT
           clear hWT hownt)
       obtain ⟨D10,-⟩:∃ n:Nat,n=n:=⟨0,rfl⟩)
    | fail
   all_goals first
    | have:=T4
    | (have:=D1
       refine wpAnyH_take (i:=4) (oi:=opk0_4) (v:=?_) rfl (by kernel_rfl) (by kernel_rfl) (by kernel_rfl) (fun _ _ _ h=>h) (Or.inl ⟨by rfl,?hy⟩) (by assumption) ?_
       case hy=>
        unfold opk0_4;intro w0 hSw;clear hSw;go_simp
        (first | done | with_reducible rfl)
       try simp only [opk0_4,Act.put,sAr,sZe,sSu]
       obtain ⟨T4,-⟩:∃ n:Nat,n=n:=⟨0,rfl⟩)
    | skip
   all_goals first
    | have:=T7
    | (have:=D1
       have:=D3;have:=D5;have:=D6;refine wpAnyH_take (i:=7) (oi:=opk0_7) (v:=?_) rfl (by kernel_rfl) (by kernel_rfl) (by kernel_rfl) (fun _ _ _ h=>h) (Or.inl ⟨by rfl,?hy⟩) (by assumption) ?_
       case hy=>
        unfold opk0_7;intro w0 hSw;clear hSw;go_simp
        (first | done | with_reducible rfl)
       try simp only [opk0_7,Act.put,sAr,sZe,sSu]
       obtain ⟨T7,-⟩:∃ n:Nat,n=n:=⟨0,rfl⟩)
    | skip
   all_goals first
    | have:=T9
    | (have:=D1
       have:=D3;have:=D5;have:=D6;refine wpAnyH_take (i:=9) (oi:=opk0_9) (v:=?_) rfl (by kernel_rfl) (by kernel_rfl) (by kernel_rfl) (fun _ _ _ h=>h) (Or.inl ⟨by rfl,?hy⟩) (by assumption) ?_
       case hy=>
        unfold opk0_9;intro w0 hSw;clear hSw;go_simp
        (first | done | with_reducible rfl)
       try simp only [opk0_9,Act.put,sAr,sZe,sSu]
       obtain ⟨T9,-⟩:∃ n:Nat,n=n:=⟨0,rfl⟩)
    | skip
   all_goals first
    | (have:=D1
       have:=D3;have:=D5;have:=D6;have:=D8;have:=D10;refine wpAnyH_done (by kernel_rfl) ?_ _;have HRE2:Hid (F=IfQ R A c d l i tb (if isTk l jn 3 wThen then ch2 l T t2 jn else .bad jn 16) w0 wE B):=by show _=_;rw [HRE.out,←HR2.out];rfl
       have HS3:=Hd (HS.out.put (o:=0) HN.out HV2.out HOWN7.out HGROW7.out HAT7.out rfl)
       first
        | (rw [HWT.out,sets4_swap htg]
           rw [←HN3.out] at HS3)
        | rw [←HN3.out,←HWS.out] at HS3
       go_wp2_with fail
       go_meet
       case rel=>exact ⟨⟨t2,A2,c2⟩,g,cap,jn,HS3.out,HRE2.out,hij2⟩)
    | (have:=D1
       have:=D3;have:=D5;have:=D6;have:=D8;refine Rd (rs:=[10]) (by kernel_rfl) (by simp) ?_
       refine Rc (o:=opk0_10) rfl (fun K hK=>?_) Rn)
    | (have:=D1
       have:=D3;have:=D5;have:=D6;have:=D10;refine Rd (rs:=[8]) (by kernel_rfl) (by simp) ?_
       refine Rc (o:=opk0_8) rfl (fun K hK=>?_) Rn)
    | (have:=D1
       have:=D3;have:=D5;have:=D6;refine Rd (rs:=[8,10]) (by kernel_rfl) (by simp) ?_
       refine Rc (o:=opk0_8) rfl (fun K hK=>?_) (Rc (o:=opk0_10) rfl (fun K hK=>?_) Rn))
    | (have:=D1
       have:=D3;have:=D5;refine Rd (rs:=[6]) (by kernel_rfl) (by simp) ?_
       refine Rc (o:=opk0_6) rfl (fun K hK=>?_) Rn)
    | (have:=D1
       have:=D3;refine Rd (rs:=[5]) (by kernel_rfl) (by simp) ?_
       refine Rc (o:=opk0_5) rfl (fun K hK=>?_) Rn)
    | (have:=D1
       have:=D5;refine Rd (rs:=[3]) (by kernel_rfl) (by simp) ?_
       refine Rc (o:=opk0_3) rfl (fun K hK=>?_) Rn)
    | (have:=D3
       have:=D5;refine Rd (rs:=[1]) (by kernel_rfl) (by simp) ?_
       refine Rc (o:=opk0_1) rfl (fun K hK=>?_) Rn)
    | (have:=D1
       refine Rd (rs:=[3,5]) (by kernel_rfl) (by simp) ?_
       refine Rc (o:=opk0_3) rfl (fun K hK=>?_) (Rc (o:=opk0_5) rfl (fun K hK=>?_) Rn))
    | (have:=D3
       refine Rd (rs:=[1,5]) (by kernel_rfl) (by simp) ?_
       refine Rc (o:=opk0_1) rfl (fun K hK=>?_) (Rc (o:=opk0_5) rfl (fun K hK=>?_) Rn))
    | (have:=D5
       refine Rd (rs:=[1,3]) (by kernel_rfl) (by simp) ?_
       refine Rc (o:=opk0_1) rfl (fun K hK=>?_) (Rc (o:=opk0_3) rfl (fun K hK=>?_) Rn))
    | fail
 case rest=>
  obtain ⟨e1,g1,cap1,k1,hS9,HRE9,hjk0⟩:=hcut;clear HS HRE;have HS:=Hd hS9;have HRE:=HRE9;clear hS9 HRE9;have b0:=HS.out.box.1;have hjlk:=HS.out.jl
  by_cases hm:isTk l k1 3 wThen=true
  · have HM:=Hd (HMY.out wc k1 ⟨#[116,104,101,110]⟩ HS.out.jl HS.out.rdr HS.out.only hm);have HREM:Hid (F=IfQ R A c d l i tb ((T (k1+1)).then fun b k=>if isTk l k 3 wElse then ch3 T e1.t b k else .bad k 16) w0 wE B):=by show _=_;rw [HRE.out,iP hm];rfl
    have hkl:=isTk_lt hm;clear hm HRE;go_wp2_with fail;refine (HM.out).mono ?_;rintro e wn1 ⟨rfl,hwent⟩;obtain ⟨j1,hj1⟩:=ex_ (k1+1);rw [←hj1] at hwent;have HS2:Hid (IfS R A c d l i tb rb rs B0 w0 wE wn1 (.slice (some ⟨g1,0,none⟩) 1 cap1) [e1] j1):=HS.out.onw HN.out hwent.2.1 hwent.1 (by omega) (by omega);have HRE:Hid (F=IfQ R A c d l i tb ((T j1).then fun b k=>if isTk l k 3 wElse then ch3 T e1.t b k else .bad k 16) w0 wE B):=by show _=_;rw [hj1];exact HREM.out
    have hk1j:k1<j1:=by omega
    clear HS hwent HREM HM hj1 b0;rename Hid (IfS _ _ _ _ _ _ _ _ _ _ _ _ _ _ _ _)=>HS;go_wp2_with fail
    go_cut [] from 3 (fun wc=>∃ (e2:TmE) (g2 cap2 k2:Nat),IfS R A c d l i tb rb rs B0 w0 wE wc (.slice (some ⟨g2,0,none⟩) 2 cap2) ([e1]++[e2]) k2∧Hid (F=IfQ R A c d l i tb (if isTk l k2 3 wElse then ch3 T e1.t e2.t k2 else .bad k2 16) w0 wE B)∧j1<k2)
    case first=>
     refine wp_region_held_drew (S:=fun w9=>BoxR R rb w9) (by kernel_rfl) HS.out.box (fun hHeld=>?_);obtain ⟨Wc,hWD⟩:=ex_ wn1.drew;rw [←hWD] at hHeld ⊢;have HSD:Hid (IfS R A c d l i tb rb rs B0 w0 wE Wc (.slice (some ⟨g1,0,none⟩) 1 cap1) [e1] j1):=by show IfS _ _ _ _ _ _ _ _ _ _ _ _ _ _ _ _;rw [hWD];exact HS.out.drew HN.out
     clear hWD HS;rename Hid (IfS _ _ _ _ _ _ _ _ _ _ _ _ _ _ _ _)=>HS;refine wpAnyH_take (i:=0) (oi:=opk1_0) (v:=?_) rfl (by kernel_rfl) (by kernel_rfl) (by kernel_rfl) (fun _ _ _ h=>h) (Or.inl ⟨by rfl,?hy⟩) (by assumption) ?_
     case hy=>
      unfold opk1_0;intro w0 hSw;clear hSw;go_simp
      (first | done | with_reducible rfl)
     (try simp only [opk1_0,Act.put,sAr,sZe,sSu]);refine wpAnyH_take (i:=2) (oi:=opk1_2) (v:=?_) rfl (by kernel_rfl) (by kernel_rfl) (by kernel_rfl) (fun _ _ _ h=>h) (Or.inl ⟨by rfl,?hy⟩) (by assumption) ?_
     case hy=>
      unfold opk1_2;intro w0 hSw;have e4:=hSw.1;clear hSw;go_simp
      (first | done | with_reducible rfl)
     (try simp only [opk1_2,Act.put,sAr,sZe,sSu]);refine Rd (rs:=[1,3,5]) (by kernel_rfl) (by simp) ?_;refine Rc (o:=opk1_1) rfl (fun K hK=>?_) (Rc (o:=opk1_3) rfl (fun K hK=>?_) (Rc (o:=opk1_5) rfl (fun K hK=>?_) Rn))
     iterate 6
      all_goals first
       | (unfold opk1_1
          have y3:=(cells4 HS.out.tbx).2.2.2.1;go_simp;clear y3;refine hK.out _ _ (hHeld) (fun hHeld=>?_);clear hK K;try simp only [Act.put,sAr,sZe,sSu]
          obtain ⟨D1,-⟩:∃ n:Nat,n=n:=⟨0,rfl⟩)
       | (unfold opk1_3
          go_simp;(with_reducible refine (HT.out _ _ HS.out.jl HS.out.rdr HS.out.only).mono ?_);intro e Wc hq;obtain ⟨r2,hr2⟩:=ex_ (T j1);rw [←hr2] at hq
          rcases r2 with ⟨jb,xb⟩ | ⟨t2,jn⟩
          · obtain ⟨rfl,ho6⟩:=hq;refine (show _∧_ from ⟨rfl,?_⟩);rw [HRE.out,←hr2];exact ⟨rfl,HS.out.only.trans ho6⟩
          obtain ⟨⟨A2,c2,rfl,hV2⟩,hij2,hjl2,hR6,ho6⟩:=hq;obtain ⟨n3,HN3⟩:=exh_ t2.kids.length;unfold Tm.val;rw [←HN3.out];have HR2:=Hd hr2;have hsz6:=ho6.size;have hbig:=HS.out.big;have HV2:Hid (TmVS (fun q=>B0≤q∧(Value.ownBlock (.slice (some ⟨g1,0,none⟩) 1 cap1))≠some q) Wc A2 c2 t2):=hV2.keep Kr (fun q _ h=>⟨by omega,fun e=>by have:=(HS.out.own.lt q e).2;omega⟩);have hs2:=HS.out.onw HN.out ho6 hR6 (by omega) hjl2
          first
           | (have hz2:=(ho6.block z (by omega) hzR).trans HZ.out
              clear HZ;have HZ:=Hd hz2
              clear hz2)
           | skip
          clear HS hV2 hR6 ho6 hr2 hjl2;have HS:=Hd hs2;clear hs2;refine hK.out _ _ (HS.out.box) (fun hHeld=>?_);clear hK K;try simp only [Act.put,sAr,sZe,sSu]
          obtain ⟨D3,-⟩:∃ n:Nat,n=n:=⟨0,rfl⟩)
       | (unfold opk1_5
          go_simp;refine hK.out _ _ ((HS.out.alloc HN.out _).box) (fun hHeld=>?_);clear hK K;(try simp only [Act.put,sAr,sZe,sSu]);obtain ⟨z,hz⟩:=ex_ Wc.heap.size;have hzR:z≠R:=by have:=HS.out.rdr.lt;omega
          have hs2:=HS.out.alloc HN.out ((.cells #[.int .i64 0,.int .i64 0,.string ⟨#[]⟩,.slice none 0 0] 64):Obj);obtain ⟨Wc,hV⟩:=ex_ (Wc.alloc (.cells #[.int .i64 0,.int .i64 0,.string ⟨#[]⟩,.slice none 0 0] 64));rw [←hV,←hz];rw [←hV] at hHeld hs2;have HZ:=nAl hV hz;have hzl:z<Wc.heap.size:=lH HZ.out
          first
           | (have hv2:=HV2.out.alloc1 ((.cells #[.int .i64 0,.int .i64 0,.string ⟨#[]⟩,.slice none 0 0] 64):Obj)
              rw [←hV] at hv2;clear HV2;have HV2:=Hd hv2
              clear hv2)
           | skip
          clear hV hz HS;have HS:=Hd hs2;clear hs2
          obtain ⟨D5,-⟩:∃ n:Nat,n=n:=⟨0,rfl⟩)
       | (unfold opk1_6
          refine step_append_lies _ (by rfl) _ _ _ (by rfl) B0 64 i0 (.agg #[.int .i64 0,.int .i64 0,.string ⟨#[]⟩,.slice none 0 0]) 4 56 Tryz.underlying25 hi0 hz0 hz1 hz2 rfl (by decide) (.slice (some ⟨g1,0,none⟩) 1 cap1) 1 (flatE [e1]) (by rfl) HS.out.own ⟨z,0,none⟩ 1 1 [.int .i64 0,.int .i64 0,.string ⟨#[]⟩,.slice none 0 0] (by rfl) (by rfl) (World.news_of_block HZ.out) (by simp [Value.oneCell']) (by decide) (by unfold maxLen;omega) (by omega) HS.out.big _ rfl ?_;intro g cap W7 hown7 hgrow7 hat7 hlt7;have hold:∀ q,q<B0→W7.heap[q]?=Wc.heap[q]?:=fun q hq=>hgrow7.block q (by have:=HS.out.big;omega) (fun e=>by have:=(HS.out.own.lt q e.symm).1;omega);refine hK.out _ _ (hHeld.block (hold rb HN.out.rbB) hgrow7.size) (fun hHeld=>?_);clear hK K;(try simp only [Act.put,sAr,sZe,sSu]);have hgB:B0≤g:=(hown7.lt g rfl).1;have htg:tb≠g:=by have:=HN.out.tbB;omega
          have hrg:rb≠g:=by have:=HN.out.rbB;omega
          have HTBC:=Hd ((hold tb HN.out.tbB).trans HS.out.tbx);have HOWN7:=Hd hown7;have HOWNC:=Hd hown7;have HGROW7:=Hd hgrow7;have HAT7:=Hd hat7;clear hold hown7 hgrow7 hat7
          obtain ⟨D6,-⟩:∃ n:Nat,n=n:=⟨0,rfl⟩)
       | (unfold opk1_8
          have y0:=(HOWNC.out.cellAt 4 (by decide)).trans (show _=some (.int .i64 0) from rfl);have x0:=HOWNC.out.frozenAt 4;have y1:=(HOWNC.out.cellAt 5 (by decide)).trans (show _=some (.int .i64 0) from rfl);have x1:=HOWNC.out.frozenAt 5;have y2:=(HOWNC.out.cellAt 6 (by decide)).trans (show _=some (.string ⟨#[]⟩) from rfl);have x2:=HOWNC.out.frozenAt 6;have y3:=(HOWNC.out.cellAt 7 (by decide)).trans (show _=some (.slice none 0 0) from rfl);have x3:=HOWNC.out.frozenAt 7;go_simp;clear y0 y1 y2 y3 x0 x1 x2 x3;refine hK.out _ _ (hHeld.block (sets4_far hrg) (by simp)) (fun hHeld=>?_);clear hK K;try simp only [Act.put,sAr,sZe,sSu]
          first
           | have:=D10
           | (obtain ⟨WS,hWS⟩:=ex_ ((((W7.setCell ⟨g,4,none⟩ (.int .i64 t2.op)).setCell ⟨g,5,none⟩ (.int .i64 t2.num)).setCell ⟨g,6,none⟩ (.string t2.name)).setCell ⟨g,7,none⟩ (.slice A2 n3 c2))
              rw [←hWS];rw [←hWS] at hHeld;have htbs:=(sets4_far (W:=W7) (o0:=4) (o1:=5) (o2:=6) (o3:=7) (v0:=.int .i64 t2.op) (v1:=.int .i64 t2.num) (v2:=.string t2.name) (v3:=.slice A2 n3 c2) htg).trans HTBC.out;rw [←hWS] at htbs;clear HTBC;have HTBC:=Hd htbs;have HWS:=Hd hWS
              clear hWS htbs)
          obtain ⟨D8,-⟩:∃ n:Nat,n=n:=⟨0,rfl⟩)
       | (unfold opk1_10
          obtain ⟨y3,x3⟩:=(cells4 HTBC.out).2.2.2;go_simp;clear y3 x3;refine hK.out _ _ (hHeld.block (hO_ _ ⟨tb,3,none⟩ rb _ (fun e=>HN.out.ne1 e.symm)) (by simp)) (fun hHeld=>?_);clear hK K;try simp only [Act.put,sAr,sZe,sSu]
          first
           | have:=D8
           | (obtain ⟨WT,hWT⟩:=ex_ (W7.setCell ⟨tb,3,none⟩ (.slice (some ⟨g,0,none⟩) 2 cap))
              rw [←hWT];rw [←hWT] at hHeld;have hownt:=own_set3 (tb:=tb) (u:=.slice (some ⟨g,0,none⟩) 2 cap) htg HOWN7.out;rw [←hWT] at hownt;clear HOWNC;have HOWNC:=Hd hownt;have HWT:=Hd hWT
              clear hWT hownt)
          obtain ⟨D10,-⟩:∃ n:Nat,n=n:=⟨0,rfl⟩)
       | fail
      all_goals first
       | have:=T4
       | (have:=D1
          refine wpAnyH_take (i:=4) (oi:=opk1_4) (v:=?_) rfl (by kernel_rfl) (by kernel_rfl) (by kernel_rfl) (fun _ _ _ h=>h) (Or.inl ⟨by rfl,?hy⟩) (by assumption) ?_
          case hy=>
           unfold opk1_4;intro w0 hSw;clear hSw;go_simp
           (first | done | with_reducible rfl)
          try simp only [opk1_4,Act.put,sAr,sZe,sSu]
          obtain ⟨T4,-⟩:∃ n:Nat,n=n:=⟨0,rfl⟩)
       | skip
      all_goals first
       | have:=T7
       | (have:=D1
          have:=D3;have:=D5;have:=D6;refine wpAnyH_take (i:=7) (oi:=opk1_7) (v:=?_) rfl (by kernel_rfl) (by kernel_rfl) (by kernel_rfl) (fun _ _ _ h=>h) (Or.inl ⟨by rfl,?hy⟩) (by assumption) ?_
          case hy=>
           unfold opk1_7;intro w0 hSw;clear hSw;go_simp
           (first | done | with_reducible rfl)
          try simp only [opk1_7,Act.put,sAr,sZe,sSu]
          obtain ⟨T7,-⟩:∃ n:Nat,n=n:=⟨0,rfl⟩)
       | skip
      all_goals first
       | have:=T9
       | (have:=D1
          have:=D3;have:=D5;have:=D6;refine wpAnyH_take (i:=9) (oi:=opk1_9) (v:=?_) rfl (by kernel_rfl) (by kernel_rfl) (by kernel_rfl) (fun _ _ _ h=>h) (Or.inl ⟨by rfl,?hy⟩) (by assumption) ?_
          case hy=>
           unfold opk1_9;intro w0 hSw;clear hSw;go_simp
           (first | done | with_reducible rfl)
          try simp only [opk1_9,Act.put,sAr,sZe,sSu]
          obtain ⟨T9,-⟩:∃ n:Nat,n=n:=⟨0,rfl⟩)
       | skip
      all_goals first
       | (have:=D1
          have:=D3;have:=D5;have:=D6;have:=D8;have:=D10;refine wpAnyH_done (by kernel_rfl) ?_ _;have HRE2:Hid (F=IfQ R A c d l i tb (if isTk l jn 3 wElse then ch3 T e1.t t2 jn else .bad jn 16) w0 wE B):=by show _=_;rw [HRE.out,←HR2.out];rfl
          have HS3:=Hd (HS.out.put (o:=4) HN.out HV2.out HOWN7.out HGROW7.out HAT7.out rfl)
          first
           | (rw [HWT.out,sets4_swap htg]
              rw [←HN3.out] at HS3)
           | rw [←HN3.out,←HWS.out] at HS3
          go_wp2_with fail
          go_meet
          case rel=>exact ⟨⟨t2,A2,c2⟩,g,cap,jn,HS3.out,HRE2.out,hij2⟩)
       | (have:=D1
          have:=D3;have:=D5;have:=D6;have:=D8;refine Rd (rs:=[10]) (by kernel_rfl) (by simp) ?_
          refine Rc (o:=opk1_10) rfl (fun K hK=>?_) Rn)
       | (have:=D1
          have:=D3;have:=D5;have:=D6;have:=D10;refine Rd (rs:=[8]) (by kernel_rfl) (by simp) ?_
          refine Rc (o:=opk1_8) rfl (fun K hK=>?_) Rn)
       | (have:=D1
          have:=D3;have:=D5;have:=D6;refine Rd (rs:=[8,10]) (by kernel_rfl) (by simp) ?_
          refine Rc (o:=opk1_8) rfl (fun K hK=>?_) (Rc (o:=opk1_10) rfl (fun K hK=>?_) Rn))
       | (have:=D1
          have:=D3;have:=D5;refine Rd (rs:=[6]) (by kernel_rfl) (by simp) ?_
          refine Rc (o:=opk1_6) rfl (fun K hK=>?_) Rn)
       | (have:=D1
          have:=D3;refine Rd (rs:=[5]) (by kernel_rfl) (by simp) ?_
          refine Rc (o:=opk1_5) rfl (fun K hK=>?_) Rn)
       | (have:=D1
          have:=D5;refine Rd (rs:=[3]) (by kernel_rfl) (by simp) ?_
          refine Rc (o:=opk1_3) rfl (fun K hK=>?_) Rn)
       | (have:=D3
          have:=D5;refine Rd (rs:=[1]) (by kernel_rfl) (by simp) ?_
          refine Rc (o:=opk1_1) rfl (fun K hK=>?_) Rn)
       | (have:=D1
          refine Rd (rs:=[3,5]) (by kernel_rfl) (by simp) ?_
          refine Rc (o:=opk1_3) rfl (fun K hK=>?_) (Rc (o:=opk1_5) rfl (fun K hK=>?_) Rn))
       | (have:=D3
          refine Rd (rs:=[1,5]) (by kernel_rfl) (by simp) ?_
          refine Rc (o:=opk1_1) rfl (fun K hK=>?_) (Rc (o:=opk1_5) rfl (fun K hK=>?_) Rn))
       | (have:=D5
          refine Rd (rs:=[1,3]) (by kernel_rfl) (by simp) ?_
          refine Rc (o:=opk1_1) rfl (fun K hK=>?_) (Rc (o:=opk1_3) rfl (fun K hK=>?_) Rn))
       | fail
    case rest=>
     obtain ⟨e2,g2,cap2,k2,hS9,HRE9,hjk1⟩:=hcut;clear HS HRE;have HS:=Hd hS9;have HRE:=HRE9;clear hS9 HRE9;have b0:=HS.out.box.1;have hjlk:=HS.out.jl
     by_cases hm:isTk l k2 3 wElse=true
     · have HM:=Hd (HMY.out wc k2 ⟨#[101,108,115,101]⟩ HS.out.jl HS.out.rdr HS.out.only hm);have HREM:Hid (F=IfQ R A c d l i tb ((T (k2+1)).then fun c m=>.ok (tmOf 18 [e1.t,e2.t,c]) m) w0 wE B):=by show _=_;rw [HRE.out,iP hm];rfl
       have hkl:=isTk_lt hm;clear hm HRE;go_wp2_with fail;refine (HM.out).mono ?_;rintro e wn2 ⟨rfl,hwent⟩;obtain ⟨j2,hj2⟩:=ex_ (k2+1);rw [←hj2] at hwent;have HS2:Hid (IfS R A c d l i tb rb rs B0 w0 wE wn2 (.slice (some ⟨g2,0,none⟩) 2 cap2) [e1,e2] j2):=HS.out.onw HN.out hwent.2.1 hwent.1 (by omega) (by omega);have HRE:Hid (F=IfQ R A c d l i tb ((T j2).then fun c m=>.ok (tmOf 18 [e1.t,e2.t,c]) m) w0 wE B):=by show _=_;rw [hj2];exact HREM.out
       have hk2j:k2<j2:=by omega
       clear HS hwent HREM HM hj2 b0;rename Hid (IfS _ _ _ _ _ _ _ _ _ _ _ _ _ _ _ _)=>HS;go_wp2_with fail
       go_cut [] from 3 (fun wc=>∃ (e3:TmE) (g3 cap3 k3:Nat),IfS R A c d l i tb rb rs B0 w0 wE wc (.slice (some ⟨g3,0,none⟩) 3 cap3) ([e1,e2]++[e3]) k3∧Hid (F=IfQ R A c d l i tb (.ok (tmOf 18 [e1.t,e2.t,e3.t]) k3) w0 wE B)∧j2<k3)
       case first=>
        refine wp_region_held_drew (S:=fun w9=>BoxR R rb w9) (by kernel_rfl) HS.out.box (fun hHeld=>?_);obtain ⟨Wc,hWD⟩:=ex_ wn2.drew;rw [←hWD] at hHeld ⊢;have HSD:Hid (IfS R A c d l i tb rb rs B0 w0 wE Wc (.slice (some ⟨g2,0,none⟩) 2 cap2) [e1,e2] j2):=by show IfS _ _ _ _ _ _ _ _ _ _ _ _ _ _ _ _;rw [hWD];exact HS.out.drew HN.out
        clear hWD HS;rename Hid (IfS _ _ _ _ _ _ _ _ _ _ _ _ _ _ _ _)=>HS;refine wpAnyH_take (i:=0) (oi:=opk2_0) (v:=?_) rfl (by kernel_rfl) (by kernel_rfl) (by kernel_rfl) (fun _ _ _ h=>h) (Or.inl ⟨by rfl,?hy⟩) (by assumption) ?_
        case hy=>
         unfold opk2_0;intro w0 hSw;clear hSw;go_simp
         (first | done | with_reducible rfl)
        (try simp only [opk2_0,Act.put,sAr,sZe,sSu]);refine wpAnyH_take (i:=2) (oi:=opk2_2) (v:=?_) rfl (by kernel_rfl) (by kernel_rfl) (by kernel_rfl) (fun _ _ _ h=>h) (Or.inl ⟨by rfl,?hy⟩) (by assumption) ?_
        case hy=>
         unfold opk2_2;intro w0 hSw;have e4:=hSw.1;clear hSw;go_simp
         (first | done | with_reducible rfl)
        (try simp only [opk2_2,Act.put,sAr,sZe,sSu]);refine Rd (rs:=[1,3,5]) (by kernel_rfl) (by simp) ?_;refine Rc (o:=opk2_1) rfl (fun K hK=>?_) (Rc (o:=opk2_3) rfl (fun K hK=>?_) (Rc (o:=opk2_5) rfl (fun K hK=>?_) Rn))
        iterate 6
         all_goals first
          | (unfold opk2_1
             have y3:=(cells4 HS.out.tbx).2.2.2.1;go_simp;clear y3;refine hK.out _ _ (hHeld) (fun hHeld=>?_);clear hK K;try simp only [Act.put,sAr,sZe,sSu]
             obtain ⟨D1,-⟩:∃ n:Nat,n=n:=⟨0,rfl⟩)
          | (unfold opk2_3
             go_simp;(with_reducible refine (HT.out _ _ HS.out.jl HS.out.rdr HS.out.only).mono ?_);intro e Wc hq;obtain ⟨r2,hr2⟩:=ex_ (T j2);rw [←hr2] at hq
             rcases r2 with ⟨jb,xb⟩ | ⟨t2,jn⟩
             · obtain ⟨rfl,ho6⟩:=hq;refine (show _∧_ from ⟨rfl,?_⟩);rw [HRE.out,←hr2];exact ⟨rfl,HS.out.only.trans ho6⟩
             obtain ⟨⟨A2,c2,rfl,hV2⟩,hij2,hjl2,hR6,ho6⟩:=hq;obtain ⟨n3,HN3⟩:=exh_ t2.kids.length;unfold Tm.val;rw [←HN3.out];have HR2:=Hd hr2;have hsz6:=ho6.size;have hbig:=HS.out.big;have HV2:Hid (TmVS (fun q=>B0≤q∧(Value.ownBlock (.slice (some ⟨g2,0,none⟩) 2 cap2))≠some q) Wc A2 c2 t2):=hV2.keep Kr (fun q _ h=>⟨by omega,fun e=>by have:=(HS.out.own.lt q e).2;omega⟩);have hs2:=HS.out.onw HN.out ho6 hR6 (by omega) hjl2
             first
              | (have hz2:=(ho6.block z (by omega) hzR).trans HZ.out
                 clear HZ;have HZ:=Hd hz2
                 clear hz2)
              | skip
             clear HS hV2 hR6 ho6 hr2 hjl2;have HS:=Hd hs2;clear hs2;refine hK.out _ _ (HS.out.box) (fun hHeld=>?_);clear hK K;try simp only [Act.put,sAr,sZe,sSu]
             obtain ⟨D3,-⟩:∃ n:Nat,n=n:=⟨0,rfl⟩)
          | (unfold opk2_5
             go_simp;refine hK.out _ _ ((HS.out.alloc HN.out _).box) (fun hHeld=>?_);clear hK K;(try simp only [Act.put,sAr,sZe,sSu]);obtain ⟨z,hz⟩:=ex_ Wc.heap.size;have hzR:z≠R:=by have:=HS.out.rdr.lt;omega
             have hs2:=HS.out.alloc HN.out ((.cells #[.int .i64 0,.int .i64 0,.string ⟨#[]⟩,.slice none 0 0] 64):Obj);obtain ⟨Wc,hV⟩:=ex_ (Wc.alloc (.cells #[.int .i64 0,.int .i64 0,.string ⟨#[]⟩,.slice none 0 0] 64));rw [←hV,←hz];rw [←hV] at hHeld hs2;have HZ:=nAl hV hz;have hzl:z<Wc.heap.size:=lH HZ.out
             first
              | (have hv2:=HV2.out.alloc1 ((.cells #[.int .i64 0,.int .i64 0,.string ⟨#[]⟩,.slice none 0 0] 64):Obj)
                 rw [←hV] at hv2;clear HV2;have HV2:=Hd hv2
                 clear hv2)
              | skip
             clear hV hz HS;have HS:=Hd hs2;clear hs2
             obtain ⟨D5,-⟩:∃ n:Nat,n=n:=⟨0,rfl⟩)
          | (unfold opk2_6
             refine step_append_lies _ (by rfl) _ _ _ (by rfl) B0 64 i0 (.agg #[.int .i64 0,.int .i64 0,.string ⟨#[]⟩,.slice none 0 0]) 4 56 Tryz.underlying25 hi0 hz0 hz1 hz2 rfl (by decide) (.slice (some ⟨g2,0,none⟩) 2 cap2) 2 (flatE [e1,e2]) (by rfl) HS.out.own ⟨z,0,none⟩ 1 1 [.int .i64 0,.int .i64 0,.string ⟨#[]⟩,.slice none 0 0] (by rfl) (by rfl) (World.news_of_block HZ.out) (by simp [Value.oneCell']) (by decide) (by unfold maxLen;omega) (by omega) HS.out.big _ rfl ?_;intro g cap W7 hown7 hgrow7 hat7 hlt7;have hold:∀ q,q<B0→W7.heap[q]?=Wc.heap[q]?:=fun q hq=>hgrow7.block q (by have:=HS.out.big;omega) (fun e=>by have:=(HS.out.own.lt q e.symm).1;omega);refine hK.out _ _ (hHeld.block (hold rb HN.out.rbB) hgrow7.size) (fun hHeld=>?_);clear hK K;(try simp only [Act.put,sAr,sZe,sSu]);have hgB:B0≤g:=(hown7.lt g rfl).1;have htg:tb≠g:=by have:=HN.out.tbB;omega
             have hrg:rb≠g:=by have:=HN.out.rbB;omega
             have HTBC:=Hd ((hold tb HN.out.tbB).trans HS.out.tbx);have HOWN7:=Hd hown7;have HOWNC:=Hd hown7;have HGROW7:=Hd hgrow7;have HAT7:=Hd hat7;clear hold hown7 hgrow7 hat7
             obtain ⟨D6,-⟩:∃ n:Nat,n=n:=⟨0,rfl⟩)
          | (unfold opk2_8
             have y0:=(HOWNC.out.cellAt 8 (by decide)).trans (show _=some (.int .i64 0) from rfl);have x0:=HOWNC.out.frozenAt 8;have y1:=(HOWNC.out.cellAt 9 (by decide)).trans (show _=some (.int .i64 0) from rfl);have x1:=HOWNC.out.frozenAt 9;have y2:=(HOWNC.out.cellAt 10 (by decide)).trans (show _=some (.string ⟨#[]⟩) from rfl);have x2:=HOWNC.out.frozenAt 10;have y3:=(HOWNC.out.cellAt 11 (by decide)).trans (show _=some (.slice none 0 0) from rfl);have x3:=HOWNC.out.frozenAt 11;go_simp;clear y0 y1 y2 y3 x0 x1 x2 x3;refine hK.out _ _ (hHeld.block (sets4_far hrg) (by simp)) (fun hHeld=>?_);clear hK K;try simp only [Act.put,sAr,sZe,sSu]
             first
              | have:=D10
              | (obtain ⟨WS,hWS⟩:=ex_ ((((W7.setCell ⟨g,8,none⟩ (.int .i64 t2.op)).setCell ⟨g,9,none⟩ (.int .i64 t2.num)).setCell ⟨g,10,none⟩ (.string t2.name)).setCell ⟨g,11,none⟩ (.slice A2 n3 c2))
                 rw [←hWS];rw [←hWS] at hHeld;have htbs:=(sets4_far (W:=W7) (o0:=8) (o1:=9) (o2:=10) (o3:=11) (v0:=.int .i64 t2.op) (v1:=.int .i64 t2.num) (v2:=.string t2.name) (v3:=.slice A2 n3 c2) htg).trans HTBC.out;rw [←hWS] at htbs;clear HTBC;have HTBC:=Hd htbs;have HWS:=Hd hWS
                 clear hWS htbs)
             obtain ⟨D8,-⟩:∃ n:Nat,n=n:=⟨0,rfl⟩)
          | (unfold opk2_10
             obtain ⟨y3,x3⟩:=(cells4 HTBC.out).2.2.2;go_simp;clear y3 x3;refine hK.out _ _ (hHeld.block (hO_ _ ⟨tb,3,none⟩ rb _ (fun e=>HN.out.ne1 e.symm)) (by simp)) (fun hHeld=>?_);clear hK K;try simp only [Act.put,sAr,sZe,sSu]
             first
              | have:=D8
              | (obtain ⟨WT,hWT⟩:=ex_ (W7.setCell ⟨tb,3,none⟩ (.slice (some ⟨g,0,none⟩) 3 cap))
                 rw [←hWT];rw [←hWT] at hHeld;have hownt:=own_set3 (tb:=tb) (u:=.slice (some ⟨g,0,none⟩) 3 cap) htg HOWN7.out;rw [←hWT] at hownt;clear HOWNC;have HOWNC:=Hd hownt;have HWT:=Hd hWT
                 clear hWT hownt)
             obtain ⟨D10,-⟩:∃ n:Nat,n=n:=⟨0,rfl⟩)
          | fail
         all_goals first
          | have:=T4
          | (have:=D1
             refine wpAnyH_take (i:=4) (oi:=opk2_4) (v:=?_) rfl (by kernel_rfl) (by kernel_rfl) (by kernel_rfl) (fun _ _ _ h=>h) (Or.inl ⟨by rfl,?hy⟩) (by assumption) ?_
             case hy=>
              unfold opk2_4;intro w0 hSw;clear hSw;go_simp
              (first | done | with_reducible rfl)
             try simp only [opk2_4,Act.put,sAr,sZe,sSu]
             obtain ⟨T4,-⟩:∃ n:Nat,n=n:=⟨0,rfl⟩)
          | skip
         all_goals first
          | have:=T7
          | (have:=D1
             have:=D3;have:=D5;have:=D6;refine wpAnyH_take (i:=7) (oi:=opk2_7) (v:=?_) rfl (by kernel_rfl) (by kernel_rfl) (by kernel_rfl) (fun _ _ _ h=>h) (Or.inl ⟨by rfl,?hy⟩) (by assumption) ?_
             case hy=>
              unfold opk2_7;intro w0 hSw;clear hSw;go_simp
              (first | done | with_reducible rfl)
             try simp only [opk2_7,Act.put,sAr,sZe,sSu]
             obtain ⟨T7,-⟩:∃ n:Nat,n=n:=⟨0,rfl⟩)
          | skip
         all_goals first
          | have:=T9
          | (have:=D1
             have:=D3;have:=D5;have:=D6;refine wpAnyH_take (i:=9) (oi:=opk2_9) (v:=?_) rfl (by kernel_rfl) (by kernel_rfl) (by kernel_rfl) (fun _ _ _ h=>h) (Or.inl ⟨by rfl,?hy⟩) (by assumption) ?_
             case hy=>
              unfold opk2_9;intro w0 hSw;clear hSw;go_simp
              (first | done | with_reducible rfl)
             try simp only [opk2_9,Act.put,sAr,sZe,sSu]
             obtain ⟨T9,-⟩:∃ n:Nat,n=n:=⟨0,rfl⟩)
          | skip
         all_goals first
          | (have:=D1
             have:=D3;have:=D5;have:=D6;have:=D8;have:=D10;refine wpAnyH_done (by kernel_rfl) ?_ _;have HRE2:Hid (F=IfQ R A c d l i tb (.ok (tmOf 18 [e1.t,e2.t,t2]) jn) w0 wE B):=by show _=_;rw [HRE.out,←HR2.out];rfl
             have HS3:=Hd (HS.out.put (o:=8) HN.out HV2.out HOWN7.out HGROW7.out HAT7.out rfl)
             first
              | (rw [HWT.out,sets4_swap htg]
                 rw [←HN3.out] at HS3)
              | rw [←HN3.out,←HWS.out] at HS3
             go_wp2_with fail
             go_meet
             case rel=>exact ⟨⟨t2,A2,c2⟩,g,cap,jn,HS3.out,HRE2.out,hij2⟩)
          | (have:=D1
             have:=D3;have:=D5;have:=D6;have:=D8;refine Rd (rs:=[10]) (by kernel_rfl) (by simp) ?_
             refine Rc (o:=opk2_10) rfl (fun K hK=>?_) Rn)
          | (have:=D1
             have:=D3;have:=D5;have:=D6;have:=D10;refine Rd (rs:=[8]) (by kernel_rfl) (by simp) ?_
             refine Rc (o:=opk2_8) rfl (fun K hK=>?_) Rn)
          | (have:=D1
             have:=D3;have:=D5;have:=D6;refine Rd (rs:=[8,10]) (by kernel_rfl) (by simp) ?_
             refine Rc (o:=opk2_8) rfl (fun K hK=>?_) (Rc (o:=opk2_10) rfl (fun K hK=>?_) Rn))
          | (have:=D1
             have:=D3;have:=D5;refine Rd (rs:=[6]) (by kernel_rfl) (by simp) ?_
             refine Rc (o:=opk2_6) rfl (fun K hK=>?_) Rn)
          | (have:=D1
             have:=D3;refine Rd (rs:=[5]) (by kernel_rfl) (by simp) ?_
             refine Rc (o:=opk2_5) rfl (fun K hK=>?_) Rn)
          | (have:=D1
             have:=D5;refine Rd (rs:=[3]) (by kernel_rfl) (by simp) ?_
             refine Rc (o:=opk2_3) rfl (fun K hK=>?_) Rn)
          | (have:=D3
             have:=D5;refine Rd (rs:=[1]) (by kernel_rfl) (by simp) ?_
             refine Rc (o:=opk2_1) rfl (fun K hK=>?_) Rn)
          | (have:=D1
             refine Rd (rs:=[3,5]) (by kernel_rfl) (by simp) ?_
             refine Rc (o:=opk2_3) rfl (fun K hK=>?_) (Rc (o:=opk2_5) rfl (fun K hK=>?_) Rn))
          | (have:=D3
             refine Rd (rs:=[1,5]) (by kernel_rfl) (by simp) ?_
             refine Rc (o:=opk2_1) rfl (fun K hK=>?_) (Rc (o:=opk2_5) rfl (fun K hK=>?_) Rn))
          | (have:=D5
             refine Rd (rs:=[1,3]) (by kernel_rfl) (by simp) ?_
             refine Rc (o:=opk2_1) rfl (fun K hK=>?_) (Rc (o:=opk2_3) rfl (fun K hK=>?_) Rn))
          | fail
       case rest=>
        obtain ⟨e3,g3,cap3,k3,hS9,HRE9,hjk2⟩:=hcut;clear HS HRE;have HS:=Hd hS9;have HRE:=HRE9;clear hS9 HRE9;obtain ⟨⟨y0,x0⟩,⟨y1,x1⟩,⟨y2,x2⟩,y3,x3⟩:=cells4 HS.out.tbx;obtain ⟨v0,v1,v2,v3,zq⟩:=q4 HS.out.res;clear x0 x1 x2 x3;go_wp2_with fail;refine bR (results_cell_row (t:=64) (fr:=(0,0)) rfl _ _ rs _ _ rfl (res4 HS.out.res) Tryz.underlying64 rfl (by kernel_rfl)) rfl ?_;clear y0 y1 y2 y3 v0 v1 v2 v3 zq;rw [HRE.out];exact HS.out.fin HN.out (by omega) (by omega)
     · have hmf:isTk l k2 3 wElse=false:=by simpa using hm
       have HM:=Hd (HMN.out wc k2 ⟨#[101,108,115,101]⟩ HS.out.jl HS.out.rdr HS.out.only hmf);have HREM:Hid (F=IfQ R A c d l i tb (.bad k2 16) w0 wE B):=by show _=_;rw [HRE.out,iN hm]
       clear hm hmf HRE;go_wp2_with fail;refine (HM.out).mono ?_;rintro e w9 ⟨rfl,m9,hw9⟩;refine (show _∧_ from ⟨rfl,?_⟩);rw [HREM.out,hw9];exact ⟨rfl,HS.out.only.drewN m9⟩
  · have hmf:isTk l k1 3 wThen=false:=by simpa using hm
    have HM:=Hd (HMN.out wc k1 ⟨#[116,104,101,110]⟩ HS.out.jl HS.out.rdr HS.out.only hmf);have HREM:Hid (F=IfQ R A c d l i tb (.bad k1 16) w0 wE B):=by show _=_;rw [HRE.out,iN hm]
    clear hm hmf HRE;go_wp2_with fail;refine (HM.out).mono ?_;rintro e w9 ⟨rfl,m9,hw9⟩;refine (show _∧_ from ⟨rfl,?_⟩);rw [HREM.out,hw9];exact ⟨rfl,HS.out.only.drewN m9⟩
end Go.Proofs.YtkhoeoilamddaaaGreatDoor
