/- Walks and plain words: Sm2 MtS PrsB PrsC. -/
import Derived.Test.YtkhoeoilamddaaaGreatDoorVMdP
namespace Go.Proofs.YtkhoeoilamddaaaGreatDoor
open Go.RowKit
set_option linter.unusedVariables false
theorem tkI {P:Program} {ops:Array Oper} {Q:Exit→Act→World→Prop} {S:World→Prop} (i:Nat) {oi:Oper} {v:Value} {fuel:Nat} {listed:Array Bool} {a:Act} {w:World} (hi:ops.toList[i]?=some oi) (hy:∀ w0,S w0→(execOp a.eval oi).run P w0=.ok (.value v) w0)
 (h:wpAnyH P .any ops Q S fuel (listed.setIfInBounds i true) (a.put oi.dst v) w) (hw:Region.wanted oi (yielded ops a.tmps)=true:=by rfl) (hS:S w:=by assumption) (hs:Region.noSelect ops=true:=by kernel_rfl) (hf:Region.free .any ops listed i=true:=by kernel_rfl) (hr:(Region.ready .any ops listed).contains i=true:=by decide +kernel)
 (hQ:∀ c a w,Q (.panic c) (a.put oi.dst v) w→Q (.panic c) a w:=by exact fun _ _ _ h=>h):wpAnyH P .any ops Q S (fuel+1) listed a w:=wpAnyH_take (by simpa using hi) hs hf hr hQ (.inl ⟨hw,hy⟩) hS h
theorem tL_ {o:Array Oper} {i:Nat} {x:Oper} (h:o.toList[i]?=some x):o[i]?=some x:=by simpa using h
theorem rcA {P:Program} {fn:Func} {p:Tmp} {tmps:Array Value} {W:World} {b:Nat} {cs:Array Value} {T:TypeId} {d:TypeDesc} (hu:P.underlying T=some d) (h:W.heap[b]?=some (.cells cs T (0,0))) (hr:fn.results=#[.cell p T]:=by rfl) (hp:tmps.getD p undef=.pointer (some ⟨b,0,none⟩):=by rfl) (hd:(match d with | .struct _ | .array _ _=>true | _=>false)=true:=by rfl) (hi:(P.info? T).map (·.size)=some cs.size:=by kernel_rfl):(results fn tmps).run P W=.ok (.agg cs) W:=results_cell_row hr tmps W b T cs (0,0) _ hp h hu hd hi
theorem setAt {W:World} {b o:Nat} (v:Value):Only (fun q=>q=b) W (W.setCell ⟨b,o,none⟩ v):=(Only.refl (F:=fun q=>q=b)).setF (show b=b from rfl) _
theorem isTk_ltM {l:List Tok} {i:Nat} {k:Int} {s:Bs} (h:isTk l i k s=true):i<l.length:=by
 unfold isTk at h
 cases ht:l[i]? with
 | none=>rw [ht] at h;cases h
 | some t=>exact (gE.1 ht).1
theorem isLd {P:Program} {ops:Array Oper} {a:Act} {W:World} {K:Act→World→Prop} {Q:Exit→Act→World→Prop} {d:Option Tmp} {ty:TypeId} {ps:String} {af:Array Edge} {gd:Option (Nat×Bool)} {E:Prop} {t:TypeId} {x:Operand} (h:if Region.wanted (Oper.mk d (.load t x) ty ps af gd) (yielded ops a.tmps)=true then Oper.wp P (Oper.mk d (.load t x) ty ps af gd) a W K Q else E):if Region.wanted (Oper.mk d (.load t x) ty ps af gd) (yielded ops a.tmps)=true then Oper.wp P (Oper.mk d (.load t x) ty ps af gd) a W K Q else E:=h
theorem isCl {P:Program} {ops:Array Oper} {a:Act} {W:World} {K:Act→World→Prop} {Q:Exit→Act→World→Prop} {d:Option Tmp} {ty:TypeId} {ps:String} {af:Array Edge} {gd:Option (Nat×Bool)} {E:Prop} {f:Operand} {ar:Array Operand} {at_:Array TypeId} (h:if Region.wanted (Oper.mk d (.call { callee:=.value f,args:=ar,argTypes:=at_ }) ty ps af gd) (yielded ops a.tmps)=true then Oper.wp P (Oper.mk d (.call { callee:=.value f,args:=ar,argTypes:=at_ }) ty ps af gd) a W K Q else E):if Region.wanted (Oper.mk d (.call { callee:=.value f,args:=ar,argTypes:=at_ }) ty ps af gd) (yielded ops a.tmps)=true then Oper.wp P (Oper.mk d (.call { callee:=.value f,args:=ar,argTypes:=at_ }) ty ps af gd) a W K Q else E:=h
theorem isBs {P:Program} {ops:Array Oper} {a:Act} {W:World} {K:Act→World→Prop} {Q:Exit→Act→World→Prop} {d:Option Tmp} {ty:TypeId} {ps:String} {af:Array Edge} {gd:Option (Nat×Bool)} {E:Prop} {t:TypeId} {n:Nat} {q:Array (Nat×Operand)} (h:if Region.wanted (Oper.mk d (.buildSlice t n q) ty ps af gd) (yielded ops a.tmps)=true then Oper.wp P (Oper.mk d (.buildSlice t n q) ty ps af gd) a W K Q else E):if Region.wanted (Oper.mk d (.buildSlice t n q) ty ps af gd) (yielded ops a.tmps)=true then Oper.wp P (Oper.mk d (.buildSlice t n q) ty ps af gd) a W K Q else E:=h
theorem isSt {P:Program} {ops:Array Oper} {a:Act} {W:World} {K:Act→World→Prop} {Q:Exit→Act→World→Prop} {d:Option Tmp} {ty:TypeId} {ps:String} {af:Array Edge} {gd:Option (Nat×Bool)} {E:Prop} {t:TypeId} {x y:Operand} (h:if Region.wanted (Oper.mk d (.store t x y) ty ps af gd) (yielded ops a.tmps)=true then Oper.wp P (Oper.mk d (.store t x y) ty ps af gd) a W K Q else E):if Region.wanted (Oper.mk d (.store t x y) ty ps af gd) (yielded ops a.tmps)=true then Oper.wp P (Oper.mk d (.store t x y) ty ps af gd) a W K Q else E:=h
set_option maxRecDepth 100000
set_option maxHeartbeats 16000000
theorem row_set {W:World} {b:Nat} {vs:Array Value} {T:TypeId} {z:Nat×Nat} (h:W.heap[b]?=some (.cells vs T z)) (o:Nat) (v:Value):(W.setCell ⟨b,o,none⟩ v).heap[b]?=some (.cells (vs.setIfInBounds o v) T z):=by
 simp [World.setCell,Array.getElem?_modify,h]
structure BxS (w:World) (R:Nat) (A:Option Addr) (n c i:Nat) (x:Int) (V:Nat→Value) (bx:Nat) (OB:Obj) (W:World):Prop where
 rdr:MRd W R A n c i x V
 only:Only (fun q=>q=R) w W
 box:W.heap[bx]?=some OB
section
variable {w W W':World} {R n c i b bx j:Nat} {A:Option Addr} {x y:Int} {V:Nat→Value} {OB:Obj}
theorem BxS.below (h:BxS w R A n c i x V bx OB W) (hb:Below W.heap.size W W'):BxS w R A n c i x V bx OB W':=⟨h.rdr.below hb h.rdr.lt,h.only.trans (Ob hb),(hb.block bx (lH h.box)).trans h.box⟩
theorem BxS.aside (h:BxS w R A n c i x V bx OB W) (ho:Only (fun q=>q=b) W W') (hw:w.heap.size≤b) (hb:b≠bx) (hR:b≠R):BxS w R A n c i x V bx OB W':=⟨(ho.block R h.rdr.lt (fun e=>hR e.symm)).trans h.rdr,⟨ho.os.trans h.only.os,ho.tape.trans h.only.tape,ho.output.trans h.only.output,Nat.le_trans h.only.size ho.size,fun q hq hf=>(ho.block q (lL hq h.only.size) (by omega)).trans (h.only.block q hq hf)⟩,(ho.block bx (lH h.box) (fun e=>hb e.symm)).trans h.box⟩
theorem BxS.go (h:BxS w R A n c i x V bx OB W) (hg:MRd W' R A n c j y V∧Only (fun q=>q=R) W W') (hR:bx≠R):BxS w R A n c j y V bx OB W':=⟨hg.1,h.only.trans hg.2,(hg.2.block bx (lH h.box) hR).trans h.box⟩
end
theorem MGo.two {R n c j:Nat} {A:Option Addr} {x:Int} {V:Nat→Value} {w w':World} (h:MGo R A n c V j x w w'):MRd w' R A n c j x V∧Only (fun q=>q=R) w w':=⟨h.1,h.2.1⟩
def MFin (R:Nat) (A:Option Addr) (n c:Nat) (V:Nat→Value) (j:Nat) (x:Int) (w w':World):Prop:=MRd w' R A n c j x V∧Only (fun q=>q=R) w w'
theorem onlyS_4 {W:World} {b:Nat} (v0 v1 v2 v3:Value):Only (fun q=>q=b) W ((((W.setCell ⟨b,0,none⟩ v0).setCell ⟨b,1,none⟩ v1).setCell ⟨b,2,none⟩ v2).setCell ⟨b,3,none⟩ v3):=((((((((Only.refl (F:=fun q=>q=b)).setF (show b=b from rfl) _)).setF (show b=b from rfl) _)).setF (show b=b from rfl) _)).setF (show b=b from rfl) _)
theorem onlyS_6 {W:World} {b:Nat} (v0 v1 v2 v3 v4 v5:Value):Only (fun q=>q=b) W ((((((W.setCell ⟨b,0,none⟩ v0).setCell ⟨b,1,none⟩ v1).setCell ⟨b,2,none⟩ v2).setCell ⟨b,3,none⟩ v3).setCell ⟨b,4,none⟩ v4).setCell ⟨b,5,none⟩ v5):=((((((((((((Only.refl (F:=fun q=>q=b)).setF (show b=b from rfl) _)).setF (show b=b from rfl) _)).setF (show b=b from rfl) _)).setF (show b=b from rfl) _)).setF (show b=b from rfl) _)).setF (show b=b from rfl) _)
theorem bxs_fin {w W W':World} {R n c i bx:Nat} {A:Option Addr} {x:Int} {V:Nat→Value} {OB:Obj} (h:BxS w R A n c i x V bx OB W) (ho:Only (fun q=>q=bx) W W') (hw:w.heap.size≤bx) (hR:bx≠R):MFin R A n c V i x w W':=⟨(ho.block R h.rdr.lt (fun e=>hR e.symm)).trans h.rdr,⟨ho.os.trans h.only.os,ho.tape.trans h.only.tape,ho.output.trans h.only.output,Nat.le_trans h.only.size ho.size,fun q hq hf=>(ho.block q (lL hq h.only.size) (by omega)).trans (h.only.block q hq hf)⟩⟩
theorem s4A {W:World} {b:Nat} {v0 v1 v2 v3 u0 u1 u2 u3:Value} {T:TypeId} (h:W.heap[b]?=some (.cells #[u0,u1,u2,u3] T (0,0))):((((W.setCell ⟨b,0,none⟩ v0).setCell ⟨b,1,none⟩ v1).setCell ⟨b,2,none⟩ v2).setCell ⟨b,3,none⟩ v3).heap[b]?=some (.cells #[v0,v1,v2,v3] T (0,0)):=by
 simp [World.setCell,Array.getElem?_modify,h]
theorem s5A {W:World} {b:Nat} {v0 v1 v2 v3 v4 u0 u1 u2 u3 u4:Value} {T:TypeId} (h:W.heap[b]?=some (.cells #[u0,u1,u2,u3,u4] T (0,0))):(((((W.setCell ⟨b,0,none⟩ v0).setCell ⟨b,1,none⟩ v1).setCell ⟨b,2,none⟩ v2).setCell ⟨b,3,none⟩ v3).setCell ⟨b,4,none⟩ v4).heap[b]?=some (.cells #[v0,v1,v2,v3,v4] T (0,0)):=by
 simp [World.setCell,Array.getElem?_modify,h]
theorem s6A {W:World} {b:Nat} {v0 v1 v2 v3 v4 v5 u0 u1 u2 u3 u4 u5:Value} {T:TypeId} (h:W.heap[b]?=some (.cells #[u0,u1,u2,u3,u4,u5] T (0,0))):((((((W.setCell ⟨b,0,none⟩ v0).setCell ⟨b,1,none⟩ v1).setCell ⟨b,2,none⟩ v2).setCell ⟨b,3,none⟩ v3).setCell ⟨b,4,none⟩ v4).setCell ⟨b,5,none⟩ v5).heap[b]?=some (.cells #[v0,v1,v2,v3,v4,v5] T (0,0)):=by
 simp [World.setCell,Array.getElem?_modify,h]
theorem s7A {W:World} {b:Nat} {v0 v1 v2 v3 v4 v5 v6 u0 u1 u2 u3 u4 u5 u6:Value} {T:TypeId} (h:W.heap[b]?=some (.cells #[u0,u1,u2,u3,u4,u5,u6] T (0,0))):(((((((W.setCell ⟨b,0,none⟩ v0).setCell ⟨b,1,none⟩ v1).setCell ⟨b,2,none⟩ v2).setCell ⟨b,3,none⟩ v3).setCell ⟨b,4,none⟩ v4).setCell ⟨b,5,none⟩ v5).setCell ⟨b,6,none⟩ v6).heap[b]?=some (.cells #[v0,v1,v2,v3,v4,v5,v6] T (0,0)):=by
 simp [World.setCell,Array.getElem?_modify,h]
theorem onlyS_5 {W:World} {b:Nat} (v0 v1 v2 v3 v4:Value):Only (fun q=>q=b) W (((((W.setCell ⟨b,0,none⟩ v0).setCell ⟨b,1,none⟩ v1).setCell ⟨b,2,none⟩ v2).setCell ⟨b,3,none⟩ v3).setCell ⟨b,4,none⟩ v4):=((((((((((Only.refl (F:=fun q=>q=b)).setF (show b=b from rfl) _)).setF (show b=b from rfl) _)).setF (show b=b from rfl) _)).setF (show b=b from rfl) _)).setF (show b=b from rfl) _)
theorem onlyS_7 {W:World} {b:Nat} (v0 v1 v2 v3 v4 v5 v6:Value):Only (fun q=>q=b) W (((((((W.setCell ⟨b,0,none⟩ v0).setCell ⟨b,1,none⟩ v1).setCell ⟨b,2,none⟩ v2).setCell ⟨b,3,none⟩ v3).setCell ⟨b,4,none⟩ v4).setCell ⟨b,5,none⟩ v5).setCell ⟨b,6,none⟩ v6):=((((((((((((((Only.refl (F:=fun q=>q=b)).setF (show b=b from rfl) _)).setF (show b=b from rfl) _)).setF (show b=b from rfl) _)).setF (show b=b from rfl) _)).setF (show b=b from rfl) _)).setF (show b=b from rfl) _)).setF (show b=b from rfl) _)
theorem q5 {w:World} {b:Nat} {T:TypeId} {u0 u1 u2 u3 u4:Value} (h:w.heap[b]?=some (.cells #[u0,u1,u2,u3,u4] T (0,0))):w.cell? ⟨b,0,none⟩=some u0∧w.cell? ⟨b,1,none⟩=some u1∧w.cell? ⟨b,2,none⟩=some u2∧w.cell? ⟨b,3,none⟩=some u3∧w.cell? ⟨b,4,none⟩=some u4∧∀ j,w.frozen? ⟨b,j,none⟩=false:=
 ⟨cel h 0 rfl,cel h 1 rfl,cel h 2 rfl,cel h 3 rfl,cel h 4 rfl,frz h⟩
theorem q7 {w:World} {b:Nat} {T:TypeId} {u0 u1 u2 u3 u4 u5 u6:Value} (h:w.heap[b]?=some (.cells #[u0,u1,u2,u3,u4,u5,u6] T (0,0))):w.cell? ⟨b,0,none⟩=some u0∧w.cell? ⟨b,1,none⟩=some u1∧w.cell? ⟨b,2,none⟩=some u2∧w.cell? ⟨b,3,none⟩=some u3∧w.cell? ⟨b,4,none⟩=some u4∧w.cell? ⟨b,5,none⟩=some u5∧w.cell? ⟨b,6,none⟩=some u6∧∀ j,w.frozen? ⟨b,j,none⟩=false:=
 ⟨cel h 0 rfl,cel h 1 rfl,cel h 2 rfl,cel h 3 rfl,cel h 4 rfl,cel h 5 rfl,cel h 6 rfl,frz h⟩
def OpsAt (w:World) (b:Nat) (l:List Int):Prop:=∀ j z,l[j]?=some z→w.cell? ⟨b,j,none⟩=some (.int .i64 z)
theorem OpsAt.drewN {w:World} {b:Nat} {l:List Int} (h:OpsAt w b l) (m:Nat):OpsAt (w.drewN m) b l:=h
theorem ops_new (w:World) (l:List Int):OpsAt (w.alloc (.cells (l.map fun z=>Value.int .i64 z).toArray 3)) w.heap.size l:=fun j z hj=>by
 rw [cR _ w.heap.size j _ _ (0,0) (hA_ w _)];simp [hj]
theorem which_drop (l:List Tok) (i:Nat):∀ (ops:List Int) (k:Nat) (op:Int),ops[k]?=some op→whichOp l i (ops.drop k)=if (if op=17 then isTk l i 3 [109,111,100] else isTk l i 4 (signB op))=true then op else whichOp l i (ops.drop (k+1)):=by
 intro ops k op h;obtain ⟨hj,hj2⟩:=gE.1 h;rw [List.drop_eq_getElem_cons hj,hj2,whichOp]
theorem psign_any (R:Nat) (A:Option Addr) (c i d:Nat) (l:List Tok) (bo co:Nat) (ops:List Int) (w:World) (hR:Rdr w R A l.length c i d) (hP:PTok w R A c l) (hi:i≤1000000) (ho:OpsAt w bo ops) (hol:ops.length≤20) (hb:bo<w.heap.size) :
 Calls Tryz.prog 146 #[.pointer (some ⟨R,0,none⟩),.slice (some ⟨bo,0,none⟩) ops.length co] w fun e w'=>e=.returned (.int .i64 (whichOp l i ops))∧∃ n,w'=w.drewN n:=by
 obtain ⟨n,HN⟩:=exh_ ops.length;obtain ⟨r,HR⟩:=exh_ (whichOp l i ops);obtain ⟨F,hF⟩:∃ F:Ending→World→Prop,F=fun e w'=>e=.returned (.int .i64 r)∧∃ n,w'=w.drewN n:=⟨_,rfl⟩;rw [←HN.out] at hol ⊢;rw [←HR.out,←hF];have HRD:=Hd hR;have HPD:=Hd hP;have hRlt:=hR.lt;have HF:=Hd hF;have HO:=Hd ho;clear hF hR hP ho;go_enter Tryz.func146,Tryz.ntmps146;go_wp2_with fail
 go_loopw [6,9] (fun _ si wr=>∃ k m:Nat,k≤n∧si=.int .i64 k∧wr=w.drewN m∧whichOp l i (ops.drop k)=r) (fun _ i _=>n - (intOf i).toNat)
 case atStart=>exact ⟨0,0,zl _,rfl,rfl,HR.out.symm⟩
 case round=>
  obtain ⟨k,m,hk,rfl,hwr,hw⟩:=hrel;have hRr:Rdr wr R A l.length c i d:=by rw [hwr];exact HRD.out.drewN m
  have hPr:PTok wr R A c l:=by rw [hwr];exact HPD.out.only (Only.refl.drewN m)
  have hOr:OpsAt wr bo ops:=by rw [hwr];exact HO.out.drewN m
  have hbr:bo<wr.heap.size:=by rw [hwr];exact hb
  have HFW:Hid (∀ q,∃ n,wr.drewN q=w.drewN n):=fun q=>⟨m+q,by rw [hwr,World.drewN_drewN]⟩;have HW:=Hd hw;clear hw hwr
  by_cases hlt:k<n
  · obtain ⟨op,hop⟩:∃ op,ops[k]?=some op:=⟨_,gG (by have:=HN.out;omega)⟩;have x0:=hOr k op hop;have HD:=Hd (which_drop l i ops k op hop);have hk0:(0:Int)≤(k:Int):=by omega
    have hk1:(k:Int)<(n:Int):=by omega
    clear hop
    by_cases h17:op=17
    · subst h17;obtain ⟨bw,HB⟩:=exh_ (isTk l i 3 [109,111,100])
      have HI2:Hid (∀ q,Calls Tryz.prog 175 #[.pointer (some ⟨R,0,none⟩),.int .i64 3,.string ⟨#[109,111,100]⟩] (wr.drewN q) fun e w'=>e=.returned (.bool bw)∧∃ n,w'=(wr.drewN q).drewN n):=fun q=>by
       have h:=pis_any R A c i d l 3 ⟨#[109,111,100]⟩ (wr.drewN q) (hRr.drewN q) (hPr.only (Only.refl.drewN q)) hi;rw [show isTk l i 3 (bs ⟨#[109,111,100]⟩)=bw by rw [HB.out];rfl] at h;exact h
      clear hRr hPr hOr
      cases bw with
      | true=>
       have HRR:Hid (r=17):=by show _=_;rw [←HW.out,HD.out,iP rfl,←HB.out,iP rfl]
       go_wp2_with fail
       go_quiet ((go_at_call 175;exact Calls.quiet_of (HI2.out _)))
       go_wp2_with fail;rw [HF.out,HRR.out];exact ⟨rfl,HFW.out _⟩
      | false=>
       have HRR:Hid (whichOp l i (ops.drop (k+1))=r):=by show _=_;rw [←HW.out,HD.out,iP rfl,←HB.out,iN (by decide)]
       go_wp2_with fail
       go_quiet ((go_at_call 175;exact Calls.quiet_of (HI2.out _)))
       go_wp2_with fail
       go_roundw
       case rel=>exact ⟨k+1,(HFW.out _).choose,by omega,by go_num,(HFW.out _).choose_spec,HRR.out⟩
       case measure=>simp [intOf];omega
    · obtain ⟨bw,HB⟩:=exh_ (isTk l i 4 (signB op));obtain ⟨S,hS⟩:∃ S:ByteArray,S=⟨(signB op).toArray⟩:=⟨_,rfl⟩
      have HI2:Hid (∀ q,Calls Tryz.prog 175 #[.pointer (some ⟨R,0,none⟩),.int .i64 4,.string S] (wr.drewN q) fun e w'=>e=.returned (.bool bw)∧∃ n,w'=(wr.drewN q).drewN n):=fun q=>by
       have h:=pis_any R A c i d l 4 S (wr.drewN q) (hRr.drewN q) (hPr.only (Only.refl.drewN q)) hi;rw [show isTk l i 4 (bs S)=bw by rw [HB.out,hS];rfl] at h;exact h
      have HSG:Hid (∀ q,Calls Tryz.prog 162 #[.int .i64 op] (wr.drewN q) fun e w'=>e=.returned (.string S)∧w'=wr.drewN q):=fun q=>by
       rw [hS];exact (signOf_any op (wr.drewN q)).mono fun _ _ h=>⟨h.1,h.2.symm⟩
      have H17:=Hd h17;have h17a:(op != 17)=true:=by simpa using h17
      have h17b:(op == 17)=false:=by simpa using h17
      clear hRr hPr hOr h17 hS
      cases bw with
      | true=>
       have HRR:Hid (r=op):=by show _=_;rw [←HW.out,HD.out,iN H17.out,←HB.out,iP rfl]
       go_wp2_with fail
       go_quiet (first | (go_at_call 175;exact Calls.quiet_of (HI2.out _)) | (go_at_call 162;exact Calls.quiet_of_same (HSG.out _)) | fail)
       go_wp2_with fail;rw [HF.out,HRR.out];exact ⟨rfl,HFW.out _⟩
      | false=>
       have HRR:Hid (whichOp l i (ops.drop (k+1))=r):=by show _=_;rw [←HW.out,HD.out,iN H17.out,←HB.out,iN (by decide)]
       go_wp2_with fail
       go_quiet (first | (go_at_call 175;exact Calls.quiet_of (HI2.out _)) | (go_at_call 162;exact Calls.quiet_of_same (HSG.out _)) | fail)
       go_wp2_with fail
       go_roundw
       case rel=>exact ⟨k+1,(HFW.out _).choose,by omega,by go_num,(HFW.out _).choose_spec,HRR.out⟩
       case measure=>simp [intOf];omega
  · have hk1:¬(k:Int)<(n:Int):=by omega
    have HRR:Hid (r=0):=by
     show _=_;rw [←HW.out,List.drop_eq_nil_of_le (by have:=HN.out;omega)]
     rfl
    clear hRr hPr hOr hlt;go_wp2_with fail;rw [HF.out,HRR.out];exact ⟨rfl,by have:=HFW.out 0;exact this⟩
structure KeepS (S:Nat→Prop) (w w':World):Prop where
 size:w.heap.size≤w'.heap.size
 block:∀ q,S q→q<w.heap.size→w'.heap[q]?=w.heap[q]?
theorem KeepS.cell {S:Nat→Prop} {w w':World} (h:KeepS S w w') {b o:Nat} (hs:S b) (hb:b<w.heap.size):w'.cell? ⟨b,o,none⟩=w.cell? ⟨b,o,none⟩:=World.cell?_of_block (a:=⟨b,o,none⟩) (h.block b hs hb)
theorem KeepS.refl {S:Nat→Prop} {w:World}:KeepS S w w:=⟨lr _,fun _ _ _=>rfl⟩
theorem KeepS.trans {S:Nat→Prop} {w w' w'':World} (h:KeepS S w w') (k:KeepS S w' w''):KeepS S w w'':=⟨Nat.le_trans h.size k.size,fun q hs hq=>(k.block q hs (lL hq h.size)).trans (h.block q hs hq)⟩
theorem KeepS.of_only {S:Nat→Prop} {R:Nat} {w w':World} (h:Only (fun q=>q=R) w w') (hR:¬S R):KeepS S w w':=⟨h.size,fun q hs hq=>h.block q hq (fun e=>hR (e ▸ hs))⟩
theorem KeepS.of_below {S:Nat→Prop} {w w':World} (h:Below w.heap.size w w'):KeepS S w w':=⟨h.size,fun q _ hq=>h.block q hq⟩
theorem KeepS.set {S:Nat→Prop} {w w':World} (h:KeepS S w w') {b o:Nat} (hb:¬S b) (v:Value):KeepS S w (w'.setCell ⟨b,o,none⟩ v):=⟨by simpa using h.size,fun q hs hq=>(hO_ w' ⟨b,o,none⟩ q v (fun e=>hb (by subst e;exact hs))).trans (h.block q hs hq)⟩
theorem KeepS.alloc {S:Nat→Prop} {w w':World} (h:KeepS S w w') (o:Obj):KeepS S w (w'.alloc o):=⟨by simp;exact Nat.le_succ_of_le h.size,fun q hs hq=>(((Br w'.heap.size w').alloc (lr _) o).block q (lL hq h.size)).trans (h.block q hs hq)⟩
mutual
def TmAtS (S:Nat→Prop) (w:World) (g o:Nat):Tm→Prop
 | .mk op n s l=>w.cell? ⟨g,o,none⟩=some (.int .i64 op)∧w.cell? ⟨g,o+1,none⟩=some (.int .i64 n)∧w.cell? ⟨g,o+2,none⟩=some (.string s)∧s.size≤maxLen ∧
  ∃ A c,w.cell? ⟨g,o+3,none⟩=some (.slice A l.length c)∧l.length≤c∧c≤maxLen∧(l=[]∨∃ g' o',A=some ⟨g',o',none⟩∧S g'∧g'<w.heap.size∧TmRowS S w g' o' l)
def TmRowS (S:Nat→Prop) (w:World) (g o:Nat):List Tm→Prop
 | []=>True
 | t :: r=>TmAtS S w g o t∧TmRowS S w g (o+4) r
end
def KidsS (S:Nat→Prop) (w:World) (A:Option Addr) (l:List Tm):Prop:=l=[]∨∃ g' o',A=some ⟨g',o',none⟩∧S g'∧g'<w.heap.size∧TmRowS S w g' o' l
mutual
theorem TmAtS.toAt {S:Nat→Prop} {w:World}:∀ {t:Tm} {g o:Nat},TmAtS S w g o t→TmAt w g o t
 | .mk op n s l,g,o,h=>by
  rw [TmAtS] at h;rw [TmAt];obtain ⟨h0,h1,h2,hs,A,c,h3,h4,h5,h6⟩:=h;refine ⟨h0,h1,h2,hs,A,c,h3,h4,h5,?_⟩
  rcases h6 with h6 | ⟨g',o',hA,_,hg,h6⟩
  · exact .inl h6
  · exact .inr ⟨g',o',hA,hg,TmRowS.toRow h6⟩
theorem TmRowS.toRow {S:Nat→Prop} {w:World}:∀ {l:List Tm} {g o:Nat},TmRowS S w g o l→TmRow w g o l
 | [],g,o,h=>by rw [TmRow];trivial
 | t :: r,g,o,h=>by
  rw [TmRowS] at h;rw [TmRow];exact ⟨TmAtS.toAt h.1,TmRowS.toRow h.2⟩
end
mutual
theorem TmAtS.keep {S S':Nat→Prop} {w w':World} (ho:KeepS S w w') (hS:∀ q,q<w.heap.size→S q→S' q):∀ {t:Tm} {g o:Nat},S g→g<w.heap.size→TmAtS S w g o t→TmAtS S' w' g o t
 | .mk op n s l,g,o,hg,hl,h=>by
  rw [TmAtS] at h ⊢;obtain ⟨h0,h1,h2,hs,A,c,h3,h4,h5,h6⟩:=h;refine ⟨by rw [ho.cell hg hl];exact h0,by rw [ho.cell hg hl];exact h1,by rw [ho.cell hg hl];exact h2,hs,A,c,by rw [ho.cell hg hl];exact h3,h4,h5,?_⟩
  rcases h6 with h6 | ⟨g',o',hA,hn,hg',h6⟩
  · exact .inl h6
  · exact .inr ⟨g',o',hA,hS g' hg' hn,lL hg' ho.size,TmRowS.keep ho hS hn hg' h6⟩
theorem TmRowS.keep {S S':Nat→Prop} {w w':World} (ho:KeepS S w w') (hS:∀ q,q<w.heap.size→S q→S' q):∀ {l:List Tm} {g o:Nat},S g→g<w.heap.size→TmRowS S w g o l→TmRowS S' w' g o l
 | [],g,o,_,_,h=>by rw [TmRowS];trivial
 | t :: r,g,o,hg,hl,h=>by
  rw [TmRowS] at h ⊢;exact ⟨TmAtS.keep ho hS hg hl h.1,TmRowS.keep ho hS hg hl h.2⟩
end
structure TmVS (S:Nat→Prop) (w:World) (A:Option Addr) (c:Nat) (t:Tm):Prop where
 cap:t.kids.length≤c
 capm:c≤maxLen
 name:t.name.size≤maxLen
 kids:KidsS S w A t.kids
theorem TmVS.toV {S:Nat→Prop} {c:Nat} {w:World} {A:Option Addr} {t:Tm} (h:TmVS S w A c t):TmV w A c t:=⟨h.cap,h.capm,h.name,by
 rcases h.kids with h | ⟨g',o',hA,_,hg,h⟩
 · exact .inl h
 · exact .inr ⟨g',o',hA,hg,TmRowS.toRow h⟩⟩
theorem TmVS.keep {S S':Nat→Prop} {c:Nat} {w w':World} {A:Option Addr} {t:Tm} (h:TmVS S w A c t) (ho:KeepS S w w') (hS:∀ q,q<w.heap.size→S q→S' q):TmVS S' w' A c t:=⟨h.cap,h.capm,h.name,by
 rcases h.kids with h | ⟨g',o',hA,hs,hg,h⟩
 · exact .inl h
 · exact .inr ⟨g',o',hA,hS g' hg hs,lL hg ho.size,TmRowS.keep ho hS hs hg h⟩⟩
theorem TmAtS.mk {S:Nat→Prop} {w:World} {g o:Nat} {t:Tm} {A:Option Addr} {c:Nat} (h0:w.cell? ⟨g,o,none⟩=some (.int .i64 t.op)) (h1:w.cell? ⟨g,o+1,none⟩=some (.int .i64 t.num)) (h2:w.cell? ⟨g,o+2,none⟩=some (.string t.name)) (h3:w.cell? ⟨g,o+3,none⟩=some (.slice A t.kids.length c)) (h:TmVS S w A c t):TmAtS S w g o t:=by
 cases t with
 | mk op n s l=>
  rw [TmAtS];exact ⟨h0,h1,h2,h.name,A,c,h3,h.cap,h.capm,h.kids⟩
theorem TmVS.leaf {S:Nat→Prop} {w:World} {op n:Int} {s:ByteArray} (hs:s.size≤maxLen):TmVS S w none 0 (.mk op n s []):=⟨lr _,by unfold maxLen;show 0≤_;omega,hs,.inl rfl⟩
def PQ (R:Nat) (A:Option Addr) (c d:Nat) (l:List Tok) (i:Nat) (r:Rs Tm) (w:World) (e:Ending) (w':World):Prop:=match r with
 | .ok t j=>(∃ A' c',e=.returned (t.val A' c')∧TmVS (fun q=>w.heap.size≤q) w' A' c' t)∧i<j∧j≤l.length∧Rdr w' R A l.length c j d∧Only (fun q=>q=R) w w'
 | .bad j x=>e=.panicked (thrown j x)∧Only (fun q=>q=R) w w'
def FnC (R:Nat) (A:Option Addr) (c d:Nat) (l:List Tok) (K:FuncId) (x:Value) (Inv:World→Prop) (P:Par):Prop:=
 ∀ (i:Nat) (w:World),i≤l.length→Rdr w R A l.length c i d→PTok w R A c l→Inv w→Calls Tryz.prog K #[x] w (PQ R A c d l i (P i) w)
def fvOf (m:Bool) (K:FuncId) (x:Value):Value:=if m then .func (.func K) #[x] #[] else .func (.func K) #[] #[x]
theorem Went.only {R n c d j:Nat} {A:Option Addr} {w w':World} (h:Went R A n c d j w w'):Only (fun q=>q=R) w w':=h.2.1
theorem cells4 {w:World} {b:Nat} {u0 u1 u2 u3:Value} {T:TypeId} (h:w.heap[b]?=some (.cells #[u0,u1,u2,u3] T (0,0))) :
 (w.cell? ⟨b,0,none⟩=some u0∧w.frozen? ⟨b,0,none⟩=false)∧(w.cell? ⟨b,1,none⟩=some u1∧w.frozen? ⟨b,1,none⟩=false)∧(w.cell? ⟨b,2,none⟩=some u2∧w.frozen? ⟨b,2,none⟩=false)∧w.cell? ⟨b,3,none⟩=some u3∧w.frozen? ⟨b,3,none⟩=false:=
 ⟨⟨by rw [cR w b 0 _ _ (0,0) h];rfl,by simp [World.frozen?,h]⟩,⟨by rw [cR w b 1 _ _ (0,0) h];rfl,by simp [World.frozen?,h]⟩,⟨by rw [cR w b 2 _ _ (0,0) h];rfl,by simp [World.frozen?,h]⟩,by rw [cR w b 3 _ _ (0,0) h];rfl,by simp [World.frozen?,h]⟩
theorem alloc_keep {W:World} {o:Obj} {b:Nat} {x:Obj} (h:W.heap[b]?=some x):(W.alloc o).heap[b]?=some x:=(((Br W.heap.size W).alloc (lr _) o).block b (lH h)).trans h
theorem only_new {R:Nat} {w W:World} {o:Obj} {v0 v1 v2 v3:Value} (h:Only (fun q=>q=R) w W):Only (fun q=>q=R) w (((((W.setCell ⟨w.heap.size,0,none⟩ v0).setCell ⟨w.heap.size,1,none⟩ v1).setCell ⟨w.heap.size,2,none⟩ v2).setCell ⟨w.heap.size,3,none⟩ v3).alloc o):=by
 refine ⟨h.os,h.tape,h.output,by simp;exact Nat.le_succ_of_le h.size,fun q hq hf=>?_⟩;have hne:q≠w.heap.size:=by omega
 rw [((Br _ _).alloc (lr _) o).block q (by simp;exact lL hq h.size),hO_ _ ⟨w.heap.size,3,none⟩ q _ hne,hO_ _ ⟨w.heap.size,2,none⟩ q _ hne,hO_ _ ⟨w.heap.size,1,none⟩ q _ hne,hO_ _ ⟨w.heap.size,0,none⟩ q _ hne];exact h.block q hq hf
theorem res4 {W:World} {b:Nat} {u0 u1 u2 u3 v0 v1 v2 v3:Value} {T:TypeId} (h:W.heap[b]?=some (.cells #[u0,u1,u2,u3] T (0,0))) :
 ((((W.setCell ⟨b,0,none⟩ v0).setCell ⟨b,1,none⟩ v1).setCell ⟨b,2,none⟩ v2).setCell ⟨b,3,none⟩ v3).heap[b]?=some (.cells #[v0,v1,v2,v3] T (0,0)):=by
 simp [World.setCell,Array.getElem?_modify,h]
theorem pinside_any (R:Nat) (A:Option Addr) (c d:Nat) (l:List Tok) (K:FuncId) (x:Value) (m:Bool) (Inv:World→Prop) (P:Par) (i:Nat) (w:World) (hrun:∀ args W,(callFunc K args).run Tryz.prog W=.ok (.enter K args) W)
 (hInv:∀ w w',Inv w→Only (fun q=>q=R) w w'→Inv w') (hF:d<256→FnC R A c (d+1) l K x Inv P) (hd:d≤256) (hi:i<l.length) (hR:Rdr w R A l.length c i d) (hP:PTok w R A c l) (hw:Inv w) :
 Calls Tryz.prog 174 #[.pointer (some ⟨R,0,none⟩),fvOf m K x] w (PQ R A c d l i (if d=256 then .bad i 17 else P (i+1)) w):=by
 have hlen:=hP.len;obtain ⟨w1,hw1⟩:=ex_ (w.alloc (.cells #[.int .i64 0,.int .i64 0,.string ⟨#[]⟩,.slice none 0 0] 64));have hb1:=bAl hw1;have hs1:w1.heap.size=w.heap.size+1:=by rw [hw1];simp
 have hR1:=hR.below hb1 hR.lt;have hRlt:=hR.lt;have d1:=hR.c1;have d2:=hR.c2;have c0:=hR1.c0;have c1:=hR1.c1;have c2:=hR1.c2;have f1:=hR1.frozen 1;have f2:=hR1.frozen 2;have e1:=hR.frozen 1;have e2:=hR.frozen 2;obtain ⟨F,HF⟩:=exh_ (PQ R A c d l i (if d=256 then .bad i 17 else P (i+1)) w);rw [←HF.out];have HW1:=Hd hw1;have HB1:=Hd hb1;have HR1:=Hd hR1;have HRW:=Hd hR;have HFN:=Hd hF;have HINV:=Hd hInv;have HP:=Hd hP;have HWI:=Hd hw;clear hw1 hb1 hR hR1 hF hInv hP hw
 by_cases h256:d=256
 · have HRE:Hid (F=PQ R A c d l i (.bad i 17) w):=by show _=_;rw [HF.out,iP h256]
   have hd1:(256:Int)≤(d:Int):=by omega
   have HFA:=Hd (pfail_any R A l.length c i d 17 w1 HR1.out);clear h256;go_enter Tryz.func174,Tryz.ntmps174;go_wp2_with fail;rw [←HW1.out];go_wp2_with fail;refine (HFA.out).mono ?_;rintro e w' ⟨rfl,hw'⟩;rw [←hw'];refine (show _∧_ from ⟨rfl,?_⟩);rw [HRE.out];exact ⟨rfl,Ob HB1.out⟩
 · have HRE:Hid (F=PQ R A c d l i (P (i+1)) w):=by show _=_;rw [HF.out,iN h256]
   have hd1:¬(256:Int)≤(d:Int):=by omega
   have hd2:d<256:=by omega
   obtain ⟨w3,hw3⟩:=ex_ (((w.setCell ⟨R,1,none⟩ (.int .i64 ((i:Int)+1))).setCell ⟨R,2,none⟩ (.int .i64 ((d:Int)+1))).alloc (.cells #[.int .i64 0,.int .i64 0,.string ⟨#[]⟩,.slice none 0 0] 64))
   have ho3:Only (fun q=>q=R) w w3:=by
    rw [hw3];exact (((Only.refl (F:=fun q=>q=R)).setF rfl _).setF rfl _).thenBelow ((Br _ _).alloc (lr _) _) (by simp)
   have hR3:Rdr w3 R A l.length c (i+1) (d+1):=by
    have h:=((HRW.out.at_ (i+1)).deep (d+1));rw [hw3];refine Rdr.below (B:=w.heap.size) (w:=(w.setCell ⟨R,1,none⟩ (.int .i64 ((i:Int)+1))).setCell ⟨R,2,none⟩ (.int .i64 ((d:Int)+1))) ?_ ((Br _ _).alloc (by simp) _) hRlt;rw [show ((i+1:Nat):Int)=(i:Int)+1 from by omega,show ((d+1:Nat):Int)=(d:Int)+1 from by omega] at h;exact h
   have hcall:=HFN.out hd2 (i+1) w3 (by omega) hR3 (HP.out.only ho3) (HINV.out w w3 HWI.out ho3);obtain ⟨r,hr⟩:=ex_ (P (i+1));rw [←hr] at hcall HRE
   have hb3:w3.heap[w.heap.size]?=some (.cells #[.int .i64 0,.int .i64 0,.string ⟨#[]⟩,.slice none 0 0] 64 (0,0)):=by
    rw [hw3];have h:=hA_ ((w.setCell ⟨R,1,none⟩ (.int .i64 ((i:Int)+1))).setCell ⟨R,2,none⟩ (.int .i64 ((d:Int)+1))) (.cells #[.int .i64 0,.int .i64 0,.string ⟨#[]⟩,.slice none 0 0] 64)
    simpa using h
   have hs3:w3.heap.size=w.heap.size+1:=by rw [hw3];simp
   have HC:=Hd hcall;have HO3:=Hd ho3;have HB3:=Hd hb3;have HW3:=Hd hw3;clear hcall hr ho3 hR3 hb3 hw3 h256;cases m
   all_goals
    unfold fvOf;simp only [if_true,Bool.false_eq_true,if_false];go_enter Tryz.func174,Tryz.ntmps174;go_wp2_with fail;rw [←HW3.out];refine (HC.out).mono ?_;intro e w4 hq
    cases r with
    | bad j x=>
     obtain ⟨rfl,ho4⟩:=hq;refine (show _∧_ from ⟨rfl,?_⟩);rw [HRE.out];exact ⟨rfl,HO3.out.trans ho4⟩
    | ok t j=>
     obtain ⟨⟨A',c',rfl,hV⟩,hij,hjl,hR4,ho4⟩:=hq;have HV:=Hd hV;have HR4:=Hd hR4;have HO4:=Hd (HO3.out.trans ho4);have hRw:w.heap.size≠R:=by omega
     have HB4:=Hd ((ho4.block w.heap.size (by omega) hRw).trans HB3.out);have hs4:=ho4.size;have g2:=hR4.c2;have k2:=hR4.frozen 2;have hlt4:=hR4.lt;have rc:w4.heap.size > w.heap.size:=by omega
     obtain ⟨n2,HN2⟩:=exh_ t.kids.length;unfold Tm.val;rw [←HN2.out];obtain ⟨v0,v1,v2,v3,zq⟩:=q4 HB4.out;clear hV hR4 ho4;go_wp2_with fail;obtain ⟨W5,hW5⟩:=ex_ (w4.setCell ⟨R,2,none⟩ (.int .i64 (d:Nat)))
     have hB5:W5.heap[w.heap.size]?=some (.cells #[.int .i64 0,.int .i64 0,.string ⟨#[]⟩,.slice none 0 0] 64 (0,0)):=by
      rw [hW5];exact (hO_ w4 ⟨R,2,none⟩ w.heap.size _ hRw).trans HB4.out
     have hz5:W5.heap.size=w4.heap.size:=by rw [hW5];simp
     have hR5:Rdr W5 R A l.length c j d:=by rw [hW5];exact HR4.out.deep d
     have hO5:Only (fun q=>q=R) w W5:=by rw [hW5];exact HO4.out.setF rfl _
     have hV5:TmVS (fun q=>w3.heap.size≤q) W5 A' c' t:=by
      rw [hW5];exact HV.out.keep (KeepS.refl.set (by omega) _) (fun _ _ h=>h)
     rw [←hW5];clear hW5;have hres:=alloc_keep (o:=.cells #[.int .i64 t.op,.int .i64 t.num,.string t.name,.slice A' n2 c'] 64) (res4 (v0:=.int .i64 t.op) (v1:=.int .i64 t.num) (v2:=.string t.name) (v3:=.slice A' n2 c') hB5);refine bR (results_cell_row (t:=64) (fr:=(0,0)) rfl _ _ w.heap.size _ _ rfl hres Tryz.underlying64 rfl (by kernel_rfl)) rfl ?_;rw [HRE.out];refine ⟨⟨A',c',by unfold Tm.val;rw [←HN2.out],?_⟩,by omega,hjl,?_,?_⟩
     · exact hV5.keep (((((KeepS.refl.set (by omega) _).set (by omega) _).set (by omega) _).set (by omega) _).alloc _) (fun q _ h=>by omega)
     · have hRne:R≠w.heap.size:=fun h=>hRw h.symm;refine Rdr.below (B:=W5.heap.size) ?_ ((Br _ _).alloc (by simp) _) (by omega);unfold Rdr;rw [hO_ _ ⟨w.heap.size,3,none⟩ R _ hRne,hO_ _ ⟨w.heap.size,2,none⟩ R _ hRne,hO_ _ ⟨w.heap.size,1,none⟩ R _ hRne,hO_ _ ⟨w.heap.size,0,none⟩ R _ hRne];exact hR5
     · exact only_new hO5
abbrev Kb := @KeepS.of_below
abbrev Kr := @KeepS.refl
abbrev aK := @alloc_keep
end Go.Proofs.YtkhoeoilamddaaaGreatDoor
