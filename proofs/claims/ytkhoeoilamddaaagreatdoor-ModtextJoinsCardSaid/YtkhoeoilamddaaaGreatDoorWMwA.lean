/- Walks and plain words: MwA MwB. -/
import Derived.Test.YtkhoeoilamddaaaGreatDoorVSm2
import Derived.Test.YtkhoeoilamddaaaGreatDoorVBld
import Derived.Test.YtkhoeoilamddaaaGreatDoorVMdQ
import Derived.Lib.UnsafeStr
import Derived.Test.YtkhoeoilamddaaaGreatDoorVSml
import Derived.Test.YtkhoeoilamddaaaGreatDoorWShJ
namespace Go.Proofs.YtkhoeoilamddaaaGreatDoor
open Go.RowKit
set_option linter.unusedVariables false
set_option maxRecDepth 100000
set_option maxHeartbeats 8000000
def WrB (B b:Nat) (p v:Value) (l:Bs) (x:Int) (w:World):Prop:=
 B≤b∧w.heap[b]?=some (.cells #[p,v,.int .i64 x] 83 (0,0))∧w.ownsRow B 5 1 v (Lib.byteCells l).length (Lib.byteCells l)∧v.ownBlock≠some b∧(l=[]→v=.slice none 0 0)
def Wr (B b:Nat) (l:Bs) (x:Int) (w:World):Prop:=∃ p v,(p=.pointer none∨p=.pointer (some ⟨b,0,none⟩))∧WrB B b p v l x w
def WG (B b:Nat) (l:Bs) (x:Int) (w w':World):Prop:=Wr B b l x w'∧KB B b w w'
section
variable {B b:Nat} {p v:Value} {l m:Bs} {x y:Int} {w w' w'':World}
theorem own_w {n s:Nat} {T:TypeId} {xs:List Value} (h:w.ownsRow B T s v n xs) (hq:∀ q,v.ownBlock=some q→w'.heap[q]?=w.heap[q]?):w'.ownsRow B T s v n xs:=by
 refine ⟨h.1,?_⟩
 rcases h.2 with hn | ⟨g,cap,cur,rfl,hb,hgg,rest⟩
 · exact .inl hn
 · exact .inr ⟨g,cap,cur,rfl,hb,(hq g rfl).trans hgg,rest⟩
theorem WrB.lt (h:WrB B b p v l x w):b<w.heap.size:=lH h.2.1
theorem WrB.keep (h:WrB B b p v l x w) (hk:∀ q,B≤q→q<w.heap.size→w'.heap[q]?=w.heap[q]?):WrB B b p v l x w':=
 ⟨h.1,(hk b h.1 h.lt).trans h.2.1,own_w h.2.2.1 (fun q hq=>hk q (h.2.2.1.lt q hq).1 (h.2.2.1.lt q hq).2),h.2.2.2⟩
theorem Wr.lt (h:Wr B b l x w):b<w.heap.size:=by obtain ⟨p,v,-,h⟩:=h;exact h.lt
theorem Wr.le (h:Wr B b l x w):B≤b:=by obtain ⟨p,v,-,h⟩:=h;exact h.1
theorem Wr.below (h:Wr B b l x w) (hb:Below w.heap.size w w'):Wr B b l x w':=by
 obtain ⟨p,v,hp,h⟩:=h;exact ⟨p,v,hp,h.keep fun q _ hq=>hb.block q hq⟩
theorem Wr.drewN (h:Wr B b l x w) (n:Nat):Wr B b l x (w.drewN n):=h
theorem Wr.cell2 (h:Wr B b l x w):w.cell? ⟨b,2,none⟩=some (.int .i64 x):=by obtain ⟨p,v,-,h⟩:=h;exact cel h.2.1 2 rfl
theorem Wr.frozen (h:Wr B b l x w) (o:Nat):w.frozen? ⟨b,o,none⟩=false:=by obtain ⟨p,v,-,h⟩:=h;exact frz h.2.1 o
theorem Wr.err (h:Wr B b l x w) (y:Int):Wr B b l y (w.setCell ⟨b,2,none⟩ (.int .i64 y)):=by
 obtain ⟨p,v,hp,h⟩:=h;refine ⟨p,v,hp,h.1,by simp [World.setCell,Array.getElem?_modify,h.2.1],own_w h.2.2.1 (fun q hq=>hO_ _ ⟨b,2,none⟩ q _ (fun (e:q=b)=>h.2.2.2.1 (e ▸ hq))),h.2.2.2⟩
theorem kb_set (hb:B≤b) (o:Nat) (u:Value):KB B b w (w.setCell ⟨b,o,none⟩ u):=⟨(Br _ _).setCell (p:=⟨b,o,none⟩) hb _,fun q _ hq _=>hO_ _ ⟨b,o,none⟩ q _ hq⟩
theorem KB.drewN (h:KB B b w w') (n:Nat):KB B b w (w'.drewN n):=⟨⟨h.below.os,h.below.tape,h.below.output,h.below.size,h.below.block⟩,h.keep⟩
theorem WG.refl (h:Wr B b l x w):WG B b l x w w:=⟨h,KB.refl⟩
theorem WG.drewN (h:WG B b l x w w') (n:Nat):WG B b l x w (w'.drewN n):=⟨h.1.drewN n,h.2.drewN n⟩
theorem WG.trans (h:WG B b l x w w') (k:WG B b m y w' w''):WG B b m y w w'':=⟨k.1,h.2.trans k.2⟩
theorem WG.below (h:WG B b l x w w') (hb:Below w'.heap.size w' w'') (hB:B≤w.heap.size):WG B b l x w w'':=⟨h.1.below hb,h.2.trans (KB.of_below hb (Nat.le_trans hB h.2.below.size))⟩
theorem WG.err (h:WG B b l x w w') (y:Int):WG B b l y w (w'.setCell ⟨b,2,none⟩ (.int .i64 y)):=⟨h.1.err y,h.2.trans (kb_set h.1.le 2 _)⟩
theorem Wr.fresh (w:World) (hB:B≤w.heap.size):Wr B w.heap.size [] 0 (w.alloc (.cells #[.pointer none,.slice none 0 0,.int .i64 0] 83)):=
 ⟨_,_,.inl rfl,hB,hA_ w _,World.ownsRow_nil _ _ _ _,by simp [Value.ownBlock],fun _=>rfl⟩
end
theorem liesWr:liesAt Tryz.prog Tryz.prog.depth 83 (3 / Tryz.prog.cellsOf 83) 0 81 1=true:=by kernel_rfl
theorem mcopy_fresh (b:Nat) (w:World) (h0:w.cell? ⟨b,0,none⟩=some (.pointer none)) (hsh:w.shape? b=some (83,3)) (hfz:w.frozen? ⟨b,0,none⟩=false) :
 Calls Tryz.prog 104 #[.pointer (some ⟨b,0,none⟩)] w fun e w'=>e=.returned (.tuple #[])∧w'=w.setCell ⟨b,0,none⟩ (.pointer (some ⟨b,0,none⟩)):=by
 obtain ⟨j,hj,hjs⟩:=Option.map_eq_some_iff.1 infoBld;go_enter Tryz.func104,Tryz.ntmps104
 go_wp2
 rw [Lib.run_to_unsafe w ⟨b,0,none⟩ Tryz.underlying78 Tryz.underlying204 hj (by rw [hjs];decide) hsh (Nat.zero_lt_succ 2)];simp only [Result.andThen];rw [Oper.upon_value]
 go_wp2
 rw [run_callFunc_extern Tryz.func132 (by kernel_rfl) (by kernel_rfl) (by kernel_rfl) (e:=Extern.AbiNoEscape.same) (by kernel_rfl)];rw [Lib.run_noEscape];simp only [Result.andThen];rw [Oper.upon_value]
 go_wp2
 rw [Lib.run_from_unsafe w ⟨b,0,none⟩ Tryz.underlying204 Tryz.underlying78 hj hsh liesWr];simp only [Result.andThen];rw [Oper.upon_value]
 go_wp2
 go_end0
 exact ⟨rfl,rfl⟩
theorem mcopy_any (B b:Nat) (l:Bs) (x:Int) (w:World) (h:Wr B b l x w) :
 Calls Tryz.prog 104 #[.pointer (some ⟨b,0,none⟩)] w fun e w'=>e=.returned (.tuple #[])∧∃ v,WrB B b (.pointer (some ⟨b,0,none⟩)) v l x w'∧Only (fun q=>q=b) w w':=by
 obtain ⟨p,v,hp,h⟩:=h;have hs:w.shape? b=some (83,3):=by simp [World.shape?,h.2.1]
 rcases hp with rfl | rfl
 · refine (mcopy_fresh b w (cel h.2.1 0 rfl) hs (frz h.2.1 0)).mono ?_;rintro e w' ⟨rfl,rfl⟩;exact ⟨rfl,v,⟨h.1,by simp [World.setCell,Array.getElem?_modify,h.2.1],own_w h.2.2.1 (fun q hq=>hO_ _ ⟨b,0,none⟩ q _ (fun (e:q=b)=>h.2.2.2.1 (e ▸ hq))),h.2.2.2⟩,setAt _⟩
 · refine (copy_used b w (cel h.2.1 0 rfl)).mono ?_;rintro e w' ⟨rfl,rfl⟩;exact ⟨rfl,v,h,Only.refl⟩
theorem mwstring_any (B b:Nat) (l:Bs) (x:Int) (s:ByteArray) (w:World) (h:Wr B b l x w) (hlen:l.length+s.size≤140737488355328) (hs0:s.data.toList≠[]) (hBw:B≤w.heap.size) :
 Calls Tryz.prog 61 #[.pointer (some ⟨b,0,none⟩),.string s] w fun e w'=>e=.returned (.tuple #[.int .i64 s.size,.nilIface])∧WG B b (l++s.data.toList) x w w':=by
 obtain ⟨i0,hi,hz0,hz1,hz2⟩:=info_parts infoU8;go_enter Tryz.func61,Tryz.ntmps61;go_wp2_with fail;refine (mcopy_any B b _ _ w h).mono ?_;rintro e w1 ⟨rfl,v,h1,ho1⟩;obtain ⟨hB,hbk,hown,hne,-⟩:=h1;have c0:w1.cell? ⟨b,0,none⟩=some (.pointer (some ⟨b,0,none⟩)):=cel hbk 0 rfl;have c1:w1.cell? ⟨b,1,none⟩=some v:=cel hbk 1 rfl;have hsz1:=ho1.size;have hlen':(Lib.byteCells l).length+s.size≤140737488355328:=by rw [Lib.byteCells_length];exact hlen
 have HLEN:=Hd hlen';have HS0:=Hd hs0;clear hlen' hs0
 go_wp2_with (at_builtin;refine Lib.wpList_append_own_string _ rfl _ _ 79 9 rfl B 5 i0 Tryz.underlying79 Tryz.underlying9 hi hz0 hz1 hz2 _ _ _ rfl hown s rfl ?c3 ?c4 ?c5 ?_)
 case c3=>have:=HLEN.out;unfold maxLen;omega
 case c4=>exact HLEN.out
 case c5=>omega
 intro v' w2 hown' hgrow _;have hlt:b<w1.heap.size:=lH hbk
 have hb2:w2.heap[b]?=some (.cells #[.pointer (some ⟨b,0,none⟩),v,.int .i64 x] 83 (0,0)):=by
  rw [hgrow.block b hlt (fun e=>hne e.symm)];exact hbk
 have HKB:=Hd (kb_write (v':=v') ho1 hB hBw hown hgrow);have d0:w2.cell? ⟨b,0,none⟩=some (.pointer (some ⟨b,0,none⟩)):=cel hb2 0 rfl;have d1:w2.cell? ⟨b,1,none⟩=some v:=cel hb2 1 rfl;have f1:w2.frozen? ⟨b,1,none⟩=false:=frz hb2 1;have HNE:=Hd (Lib.ownBlock_ne hown' hb2 (by decide))
 obtain ⟨ao,n',cap,rfl⟩:∃ ao n' cap,v'=.slice ao n' cap:=by
  rcases hown'.2 with ⟨hv,_⟩ | ⟨g,cap,cur,hv,_⟩
  · exact ⟨_,_,_,hv⟩
  · exact ⟨_,_,_,hv⟩
 have HB2:=Hd hb2;have HOWN:=Hd hown';clear hb2 hown' hown hgrow hbk ho1
 go_wp2
 go_ret2
 refine ⟨rfl,⟨_,.slice ao n' cap,.inr rfl,hB,by simp [World.setCell,Array.getElem?_modify,HB2.out],?_,HNE.out,fun e=>absurd (List.append_eq_nil_iff.1 e).2 HS0.out⟩,HKB.out⟩;have e1:Lib.byteCells (l++s.data.toList)=Lib.byteCells l++Lib.strCells s:=by simp [Lib.byteCells,Lib.strCells]
 rw [e1];exact own_w (by simpa [Lib.strCells_length] using HOWN.out) (fun q hq=>hO_ _ ⟨b,1,none⟩ q _ (fun (e:q=b)=>HNE.out (e ▸ hq)))
theorem mlen_any (B b:Nat) (l:Bs) (x:Int) (w:World) (h:Wr B b l x w) :
 Calls Tryz.prog 31 #[.pointer (some ⟨b,0,none⟩)] w fun e w'=>e=.returned (.int .i64 l.length)∧w'=w:=by
 obtain ⟨p,v,-,hB,hbk,hown,-⟩:=h;rw [Lib.byteCells_length] at hown
 obtain ⟨ao,cap,rfl⟩:∃ ao cap,v=.slice ao l.length cap:=by
  rcases hown.2 with ⟨hv,h0⟩ | ⟨g,cap,cur,hv,_⟩
  · exact ⟨none,0,by rw [hv,h0]⟩
  · exact ⟨_,_,hv⟩
 have c1:w.cell? ⟨b,1,none⟩=some (.slice ao l.length cap):=cel hbk 1 rfl;clear hbk hown;go_enter Tryz.func31,Tryz.ntmps31
 go_wp2
 go_ret;exact ⟨rfl,rfl⟩
theorem mstr_any (B b:Nat) (l:Bs) (x:Int) (w:World) (h:Wr B b l x w) :
 Calls Tryz.prog 32 #[.pointer (some ⟨b,0,none⟩)] w fun e w'=>e=.returned (.string ⟨l.toArray⟩)∧Below B w w':=by
 obtain ⟨p,v,-,hB,hbk,hown,-,hnil⟩:=h;rw [Lib.byteCells_length] at hown
 by_cases h0:l=[]
 · obtain rfl:=hnil h0;subst h0;have hUS:∀ W,(Builtin.unsafeString_ #[126,3] 9 #[.pointer none,.int .i64 0]).run Tryz.prog W=.ok (.string .empty) W:=fun W=>Lib.run_unsafeString_none W _ _ _ none;have c1:w.drew.cell? ⟨b,1,none⟩=some (.slice none 0 0):=cel (w:=w.drew) hbk 1 rfl;have hSD:(Builtin.unsafeSliceData_ #[79] 126 #[.slice none 0 0]).run Tryz.prog w.drew=.ok (.pointer none) w.drew:=rfl;clear hbk hown hnil;go_enter Tryz.func32,Tryz.ntmps32
   go_wp2
   go_region
   all_goals (go_wp2;go_ret;exact ⟨rfl,Below.drew (Br B w)⟩)
 have hl0:l.length≠0:=by simpa using h0
 obtain ⟨g,cap,cur,rfl,hbg,hg,hnc,hcm,hcs,htake⟩:∃ g cap cur,v=.slice (some ⟨g,0,none⟩) l.length cap∧B≤g∧w.heap[g]?=some (.cells cur 5 (0,0))∧l.length≤cap∧cap≤maxLen∧cur.size=cap*1∧cur.toList.take (l.length*1)=Lib.byteCells l:=by
  rcases hown.2 with ⟨_,hz⟩ | ⟨g,cap,cur,hv,r⟩
  · exact absurd hz hl0
  · exact ⟨g,cap,cur,hv,r⟩
 have c1:w.drew.cell? ⟨b,1,none⟩=some (.slice (some ⟨g,0,none⟩) l.length cap):=cel (w:=w.drew) hbk 1 rfl
 have hSD:(Builtin.unsafeSliceData_ #[79] 126 #[.slice (some ⟨g,0,none⟩) l.length cap]).run Tryz.prog w.drew=.ok (.pointer (some ⟨g,0,none⟩)) w.drew:=
  Lib.run_unsafeSliceData_row _ _ _ _ _ _ (by omega)
 have hUS:(Builtin.unsafeString_ #[126,3] 9 #[.pointer (some ⟨g,0,none⟩),.int .i64 l.length]).run Tryz.prog w.drew=.ok (.string ⟨l.toArray⟩) (w.drew.freeze ⟨g,0,none⟩ l.length):=by
  refine Lib.run_unsafeString_row w.drew _ _ _ 5 Tryz.underlying126 (by kernel_rfl) g cur.size (by have hg':w.drew.heap[g]?=some (.cells cur 5 (0,0)):=hg;simp [World.shape?,hg']) l h0 (by omega) (by unfold maxLen at hcm;omega) ?_;intro j x hx;exact hown.cells (g:=g) rfl j (.int .u8 x.toNat) (by simp [Lib.byteCells,hx])
 have HBG:=Hd hbg;clear hbk hown hnil hg htake hcs hbg;go_enter Tryz.func32,Tryz.ntmps32
 go_wp2
 go_region
 all_goals (go_wp2;go_ret;exact ⟨rfl,Lib.below_freeze (Below.drew (Br B w)) (p:=⟨g,0,none⟩) HBG.out _⟩)
set_option linter.unusedSimpArgs false
theorem tLMwB {o:Array Oper} {i:Nat} {x:Oper} (h:o.toList[i]?=some x):o[i]?=some x:=by simpa using h
def failM (x e:Int):Int:=if x=0 then e else x
def manyM (x:Int) (n:Nat):Int:=if 64<n then failM x 18 else x
def nameM (x:Int) (s:ByteArray):Int:=if isName (bs s) then x else failM x 12
theorem wr2 {B b:Nat} {l:Bs} {x:Int} {w:World} (h:Wr B b l x w):w.cell? ⟨b,2,none⟩=some (.int .i64 x)∧w.frozen? ⟨b,2,none⟩=false∧b<w.heap.size:=⟨h.cell2,h.frozen 2,h.lt⟩
theorem mwfail_any (B b:Nat) (l:Bs) (x e:Int) (w:World) (h:Wr B b l x w) :
 Calls Tryz.prog 29 #[.pointer (some ⟨b,0,none⟩),.int .i64 e] w fun r w'=>r=.returned (.tuple #[])∧WG B b l (failM x e) w w':=by
 obtain ⟨F,HF⟩:=exh_ (fun (r:Ending) (w':World)=>r=.returned (.tuple #[])∧WG B b l (failM x e) w w');rw [←HF.out];obtain ⟨c2,f2,hlt⟩:=wr2 h;have HW:=Hd h;clear h;unfold failM at HF
 by_cases hx:x=0
 · subst hx;rw [iP rfl] at HF;go_enter Tryz.func29,Tryz.ntmps29;go_wp2_with fail;refine bR (v:=.tuple #[]) (results_none rfl _ _ _) rfl ?_;rw [HF.out];exact ⟨rfl,(WG.refl HW.out).err e⟩
 · have hb:(x == 0)=false:=by simpa using hx
   rw [iN hx] at HF;clear hx;go_enter Tryz.func29,Tryz.ntmps29;go_wp2_with fail;refine bR (v:=.tuple #[]) (results_none rfl _ _ _) rfl ?_;rw [HF.out];exact ⟨rfl,WG.refl HW.out⟩
theorem mwmany_any (B b:Nat) (l:Bs) (x:Int) (n:Nat) (w:World) (h:Wr B b l x w) :
 Calls Tryz.prog 23 #[.pointer (some ⟨b,0,none⟩),.int .i64 (n:Nat)] w fun r w'=>r=.returned (.tuple #[])∧WG B b l (manyM x n) w w':=by
 obtain ⟨F,HF⟩:=exh_ (fun (r:Ending) (w':World)=>r=.returned (.tuple #[])∧WG B b l (manyM x n) w w');rw [←HF.out];have HFA:=Hd (mwfail_any B b l x 18 w h);have HW:=Hd h;clear h;unfold manyM at HF
 by_cases hn:64<n
 · have hn1:(64:Int)<(n:Int):=by omega
   rw [iP hn] at HF;clear hn;go_enter Tryz.func23,Tryz.ntmps23;go_wp2_with fail;refine (HFA.out).mono ?_;rintro e w' ⟨rfl,hg⟩;have HG:=Hd hg;clear hg;go_wp2_with fail;refine bR (v:=.tuple #[]) (results_none rfl _ _ _) rfl ?_;rw [HF.out];exact ⟨rfl,HG.out⟩
 · have hn1:¬(64:Int)<(n:Int):=by omega
   rw [iN hn] at HF;clear hn;go_enter Tryz.func23,Tryz.ntmps23;go_wp2_with fail;refine bR (v:=.tuple #[]) (results_none rfl _ _ _) rfl ?_;rw [HF.out];exact ⟨rfl,WG.refl HW.out⟩
theorem mwname_any (B b:Nat) (l:Bs) (x:Int) (s:ByteArray) (w:World) (h:Wr B b l x w) (hs:s.size≤maxLen) (hT:WordsT w) :
 Calls Tryz.prog 27 #[.pointer (some ⟨b,0,none⟩),.string s] w fun r w'=>r=.returned (.string s)∧WG B b l (nameM x s) w w':=by
 obtain ⟨F,HF⟩:=exh_ (fun (r:Ending) (w':World)=>r=.returned (.string s)∧WG B b l (nameM x s) w w');rw [←HF.out];have HFA:=Hd (mwfail_any B b l x 12 w h);have HIS:=Hd (isw_any s w hs hT);have HW:=Hd h;clear h hs hT;unfold nameM at HF;obtain ⟨r,hr⟩:=ex_ (isName (bs s));rw [←hr] at HF HIS;clear hr;cases r
 · rw [iN (by decide)] at HF;go_enter Tryz.func27,Tryz.ntmps27;go_wp2_with fail;refine (HIS.out).mono ?_;rintro e w' ⟨rfl,hw⟩;rw [←hw];clear hw;go_wp2_with fail;refine (HFA.out).mono ?_;rintro e w' ⟨rfl,hg⟩;have HG:=Hd hg;clear hg;go_wp2_with fail;rw [HF.out];exact ⟨rfl,HG.out⟩
 · rw [iP rfl] at HF;go_enter Tryz.func27,Tryz.ntmps27;go_wp2_with fail;refine (HIS.out).mono ?_;rintro e w' ⟨rfl,hw⟩;rw [←hw];clear hw;go_wp2_with fail;rw [HF.out];exact ⟨rfl,WG.refl HW.out⟩
def joinP (xs:List ByteArray):Bs:=Lib.join (xs.map (·.data.toList)) [32]++eol
theorem mwline_any (B b bk c:Nat) (l:Bs) (x:Int) (xs:List ByteArray) (w:World) (h:Wr B b l x w) (hcells:∀ (j:Nat) y,xs[j]?=some y→w.cell? ⟨bk,0+j,none⟩=some (.string y)) (hbk:bk<w.heap.size) (hn:xs.length≤100) (hcap:xs.length≤c) (hlen:x=0→l.length+(joinP xs).length≤1000000000) (hB:B≤w.heap.size) :
 Calls Tryz.prog 30 #[.pointer (some ⟨b,0,none⟩),.slice (some ⟨bk,0,none⟩) xs.length c] w fun r w'=>r=.returned (.tuple #[])∧WG B b (if x=0 then l++joinP xs else l) x w w':=by
 obtain ⟨F,HF⟩:=exh_ (fun (r:Ending) (w':World)=>r=.returned (.tuple #[])∧WG B b (if x=0 then l++joinP xs else l) x w w');rw [←HF.out];obtain ⟨c2,f2,hlt⟩:=wr2 h;have HW:=Hd h;clear h f2
 by_cases hx:x=0
 · subst hx;rw [iP rfl] at HF;replace hlen:=hlen rfl;obtain ⟨S0,hS0⟩:∃ S0:ByteArray,S0=⟨(Lib.join (xs.map (·.data.toList)) [32]).toArray⟩:=⟨_,rfl⟩;obtain ⟨S1,hS1⟩:=ex_ (S0++⟨#[32,59,10]⟩);have hj1:S1.data.toList=joinP xs:=by rw [hS1,hS0];simp [joinP,eol]
   have hz1:S1.size=(joinP xs).length:=by rw [←hj1];rfl
   have hz0:S0.size=(Lib.join (xs.map (·.data.toList)) [32]).length:=by rw [hS0];rfl
   have hz2:(joinP xs).length=(Lib.join (xs.map (·.data.toList)) [32]).length+3:=by unfold joinP;simp [eol]
   have hadd:∀ W,(Op.stringOp .add S0 ⟨#[32,59,10]⟩).run Tryz.prog W=.ok (.string S1) W:=fun W=>by rw [hS1];exact run_string_add_sum W _ _ (by show S0.size+3≤_;omega)
   have HJ:Hid (∀ W,Below w.heap.size w W→Calls Tryz.prog 62 #[.slice (some ⟨bk,0,none⟩) xs.length c,.string ⟨#[32]⟩] W fun e w'=>e=.returned (.string S0)∧Below W.heap.size W w'):=fun W hb=>by
    rw [hS0];exact Tryz.strings_Join bk 0 c xs ⟨#[32]⟩ W (fun j y hy=>(hb.cell (p:=⟨bk,0+j,none⟩) hbk).trans (hcells j y hy)) (lL hbk hb.size) (by omega) hcap (by show (Lib.join (xs.map (·.data.toList)) [32]).length≤_;omega)
   have HWS:Hid (∀ W,Below w.heap.size w W→Calls Tryz.prog 61 #[.pointer (some ⟨b,0,none⟩),.string S1] W fun e w'=>e=.returned (.tuple #[.int .i64 S1.size,.nilIface])∧WG B b (l++joinP xs) 0 w w'):=fun W hb=>by
    have h:=mwstring_any B b l 0 S1 W (HW.out.below hb) (by omega) (by rw [hj1];unfold joinP;simp [eol]) (Nat.le_trans hB hb.size);rw [hj1] at h;exact h.mono fun e w' ⟨h1,h2⟩=>⟨h1,h2.1,(KB.of_below hb hB).trans h2.2⟩
   obtain ⟨n,hn'⟩:=ex_ xs.length;rw [←hn'] at HJ ⊢;clear hj1 hz1 hz0 hz2 hS0 hS1 hcells hbk hcap hlen hn hn';go_enter Tryz.func30,Tryz.ntmps30;go_wp2_with fail;refine wp_region_held_drew (S:=fun _=>True) (by kernel_rfl) trivial (fun hHeld=>?_);obtain ⟨Wc,hWc⟩:=ex_ w.drew;have HB:Hid (Below w.heap.size w Wc):=by show Below _ _ _;rw [hWc];exact (Br _ _).drew
   rw [←hWc];clear hWc c2
   repeat
    (first | refine tkI 0 (v:=?_) rfl ?hy ?_ | refine tkI 1 (v:=?_) rfl ?hy ?_ | refine tkI 2 (v:=?_) rfl ?hy ?_ | refine tkI 3 (v:=?_) rfl ?hy ?_ | refine tkI 5 (v:=?_) rfl ?hy ?_
     case hy=>
      intro w0 hS;clear hS;go_simp
      (first | done | with_reducible rfl)
     try simp only [Act.put,sAr,sZe,sSu])
   iterate 2
    all_goals first
     | refine Rd (rs:=[4]) (by decide +kernel) (by simp) (Rc (tLMwB rfl) (fun K hK=>?_) Rn)
     | refine Rd (rs:=[6]) (by decide +kernel) (by simp) (Rc (tLMwB rfl) (fun K hK=>?_) Rn)
     | fail
    all_goals first
     | (go_simp
        clear hHeld;(with_reducible refine (HJ.out _ HB.out).mono ?_);rintro e Wc ⟨rfl,hb5⟩;refine hK.out _ _ trivial (fun hHeld=>?_);clear hK K;(try simp only [Act.put,sAr,sZe,sSu]);replace HB:=Hd (HB.out.trans (hb5.mono HB.out.size))
        clear hb5)
     | (go_simp
        clear hHeld;(with_reducible refine (HWS.out _ HB.out).mono ?_);rintro e Wc ⟨rfl,hg5⟩;refine hK.out _ _ trivial (fun hHeld=>?_);clear hK K;(try simp only [Act.put,sAr,sZe,sSu]);have HG:=Hd hg5
        clear hg5)
     | fail
    all_goals
     repeat
      (first | refine tkI 0 (v:=?_) rfl ?hy ?_ | refine tkI 1 (v:=?_) rfl ?hy ?_ | refine tkI 2 (v:=?_) rfl ?hy ?_ | refine tkI 3 (v:=?_) rfl ?hy ?_ | refine tkI 5 (v:=?_) rfl ?hy ?_
       case hy=>
        intro w0 hS;clear hS;go_simp
        (first | done | with_reducible rfl)
       try simp only [Act.put,sAr,sZe,sSu])
   all_goals refine wpAnyH_done (by decide +kernel) ?_ _
   all_goals
    clear hHeld;go_wp2_with fail;refine bR (v:=.tuple #[]) (results_none rfl _ _ _) rfl ?_;rw [HF.out];exact ⟨rfl,HG.out⟩
 · have hb:(x == 0)=false:=by simpa using hx
   rw [iN hx] at HF;clear hx hcells hlen;go_enter Tryz.func30,Tryz.ntmps30;go_wp2_with fail;refine bR (v:=.tuple #[]) (results_none rfl _ _ _) rfl ?_;rw [HF.out];exact ⟨rfl,WG.refl HW.out⟩
def ShT (w:World) (t:Tm) (A:Option Addr) (c:Nat):Prop:=∀ W,Below w.heap.size w W→Calls Tryz.prog 97 #[t.val A c] W fun e w'=>e=.returned (.tuple #[.string ⟨(showTm t).1.toArray⟩,.int .i64 (showTm t).2])∧Below W.heap.size W w'
theorem mwterm_any (B b:Nat) (l:Bs) (x:Int) (t:Tm) (A:Option Addr) (c:Nat) (w:World) (h:Wr B b l x w) (hB:B≤w.heap.size) (hS:ShT w t A c) :
 Calls Tryz.prog 57 #[.pointer (some ⟨b,0,none⟩),t.val A c] w fun r w'=>r=.returned (.string (if x=0 then ⟨(showTm t).1.toArray⟩ else ⟨#[]⟩))∧WG B b l (if x=0 then (showTm t).2 else x) w w':=by
 obtain ⟨F,HF⟩:=exh_ (fun (r:Ending) (w':World)=>r=.returned (.string (if x=0 then ⟨(showTm t).1.toArray⟩ else ⟨#[]⟩))∧WG B b l (if x=0 then (showTm t).2 else x) w w');rw [←HF.out];unfold Tm.val;obtain ⟨n,hn⟩:=ex_ t.kids.length;unfold ShT Tm.val at hS;rw [←hn] at hS ⊢;obtain ⟨w1,HW1⟩:=exh_ (w.alloc (.cells #[.int .i64 t.op,.int .i64 t.num,.string t.name,.slice A n c] 64));have hb1:=bAl HW1.out;have x1:=nAl HW1.out rfl;have hs1:=sAl HW1.out;have hg1:=(WG.refl h).below hb1 hB;obtain ⟨c2,f2,hlt⟩:=wr2 h;have HG1:=Hd hg1;have HBW:=Hd hB;have HS:=Hd (hS w1 hb1);obtain ⟨r,hr⟩:=ex_ (showTm t);rw [←hr] at HS HF;obtain ⟨S,y⟩:=r;obtain ⟨S2,hS2⟩:∃ S2:ByteArray,S2=⟨S.toArray⟩:=⟨_,rfl⟩;rw [←hS2] at HS HF;clear hr hb1 hg1 hB hS hn h f2 x1 hS2
 by_cases hx:x=0
 · subst hx;rw [iP rfl,iP rfl] at HF;go_enter Tryz.func57,Tryz.ntmps57;go_wp2_with fail;rw [←HW1.out];(try go_wp2_with fail);refine (HS.out).mono ?_;rintro e w2 ⟨rfl,hb2⟩;have hg2:=HG1.out.below hb2 HBW.out;have hfa:=mwfail_any B b l 0 y w2 hg2.1;unfold failM at hfa;rw [iP rfl] at hfa;have HFA:=Hd hfa;have HG2:=Hd hg2;clear hg2 hb2 c2 hfa;go_wp2_with fail;refine (HFA.out).mono ?_;rintro e w3 ⟨rfl,hg⟩;have HG:=Hd (HG2.out.trans hg);clear hg;go_wp2_with fail;rw [HF.out];exact ⟨rfl,HG.out⟩
 · have hb:(x != 0)=true:=by simpa using hx
   rw [iN hx,iN hx] at HF;clear hx;go_enter Tryz.func57,Tryz.ntmps57;go_wp2_with fail;rw [←HW1.out];(try go_wp2_with fail);rw [HF.out];exact ⟨rfl,HG1.out⟩
end Go.Proofs.YtkhoeoilamddaaaGreatDoor
