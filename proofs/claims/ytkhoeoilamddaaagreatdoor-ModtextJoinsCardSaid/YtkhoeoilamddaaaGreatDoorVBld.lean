/- Walks and plain words: Bld Lex9 TrmE TrmF BldD TrmS FrmQ FrmA FrmB. -/
import Derived.Test.YtkhoeoilamddaaaGreatDoorVTrmI
import Derived.Defers
import Derived.Tactics2
namespace Go.Proofs.YtkhoeoilamddaaaGreatDoor
open Go.RowKit
set_option linter.unusedVariables false
set_option maxRecDepth 100000
set_option maxHeartbeats 2000000
theorem infoBld:(Tryz.prog.info? 81).map (·.size)=some 2:=by kernel_rfl
theorem liesBld:liesAt Tryz.prog Tryz.prog.depth 81 (2 / Tryz.prog.cellsOf 81) 0 81 1=true:=by kernel_rfl
theorem infoU8:(Tryz.prog.info? 5).map (fun i=>(i.zero,i.size,i.bytes))=some (some (.int .u8 0),1,1):=by kernel_rfl
abbrev IsB (B b:Nat) (l:List Value) (w:World):Prop:=Lib.IsBuilder 81 5 B b l w
abbrev BAtB (B b:Nat) (p:Value) (l:List Value) (w:World):Prop:=Lib.BuilderAt 81 5 B b p l w
theorem copy_used (b:Nat) (w:World) (h0:w.cell? ⟨b,0,none⟩=some (.pointer (some ⟨b,0,none⟩))) :
 Calls Tryz.prog 104 #[.pointer (some ⟨b,0,none⟩)] w fun e w'=>e=.returned (.tuple #[])∧w'=w:=by
 obtain ⟨j,hj,_⟩:=Option.map_eq_some_iff.1 infoBld;go_enter Tryz.func104,Tryz.ntmps104
 go_wp2
 rw [Lib.run_neq_ptr_same w _ Tryz.underlying78 hj]
 go_wp2
 go_end0
 exact ⟨rfl,rfl⟩
theorem copy_fresh (b:Nat) (w:World) (h0:w.cell? ⟨b,0,none⟩=some (.pointer none)) (hsh:w.shape? b=some (81,2)) (hfz:w.frozen? ⟨b,0,none⟩=false) :
 Calls Tryz.prog 104 #[.pointer (some ⟨b,0,none⟩)] w fun e w'=>e=.returned (.tuple #[])∧w'=w.setCell ⟨b,0,none⟩ (.pointer (some ⟨b,0,none⟩)):=by
 obtain ⟨j,hj,hjs⟩:=Option.map_eq_some_iff.1 infoBld;go_enter Tryz.func104,Tryz.ntmps104
 go_wp2
 rw [Lib.run_to_unsafe w ⟨b,0,none⟩ Tryz.underlying78 Tryz.underlying204 hj (by rw [hjs];decide) hsh (Nat.zero_lt_succ 1)];simp only [Result.andThen];rw [Oper.upon_value]
 go_wp2
 rw [run_callFunc_extern Tryz.func132 (by kernel_rfl) (by kernel_rfl) (by kernel_rfl) (e:=Extern.AbiNoEscape.same) (by kernel_rfl)];rw [Lib.run_noEscape];simp only [Result.andThen];rw [Oper.upon_value]
 go_wp2
 rw [Lib.run_from_unsafe w ⟨b,0,none⟩ Tryz.underlying204 Tryz.underlying78 hj hsh liesBld];simp only [Result.andThen];rw [Oper.upon_value]
 go_wp2
 go_end0
 exact ⟨rfl,rfl⟩
theorem copy_any (B b:Nat) (bs:List Value) (w:World) (h:IsB B b bs w) :
 Calls Tryz.prog 104 #[.pointer (some ⟨b,0,none⟩)] w fun e w'=>e=.returned (.tuple #[])∧(BAtB B b (.pointer (some ⟨b,0,none⟩)) bs w'∧Only (fun q=>q=b) w w'):=by
 rcases h with h | h
 · refine (copy_fresh b w h.cell0 h.shape h.frozen0).mono ?_;rintro e w' ⟨rfl,rfl⟩;exact ⟨rfl,h.used _,(Only.refl (F:=fun q=>q=b)).setF rfl _⟩
 · refine (copy_used b w h.cell0).mono ?_;rintro e w' ⟨rfl,rfl⟩;exact ⟨rfl,h,Only.refl⟩
structure KB (B b:Nat) (w w':World):Prop where
 below:Below B w w'
 keep:∀ q,q<w.heap.size→q≠b→(∀ cs fz,w.heap[q]?≠some (.cells cs 5 fz))→w'.heap[q]?=w.heap[q]?
theorem KB.refl {B b:Nat} {w:World}:KB B b w w:=⟨Br _ _,fun _ _ _ _=>rfl⟩
theorem KB.trans {B b:Nat} {w w' w'':World} (h:KB B b w w') (k:KB B b w' w''):KB B b w w'':=⟨h.below.trans k.below,fun q hq hb hn=>by
 have h1:=h.keep q hq hb hn;rw [←h1]
 exact k.keep q (lL hq h.below.size) hb (fun cs fz=>by rw [h1];exact hn cs fz)⟩
theorem KB.of_below {B b:Nat} {w w':World} (h:Below w.heap.size w w') (hB:B≤w.heap.size):KB B b w w':=⟨h.mono hB,fun q hq _ _=>h.block q hq⟩
theorem IsB.keep {B b:Nat} {l:List Value} {w w':World} (h:IsB B b l w) (hb:Below w.heap.size w w'):IsB B b l w':=by
 have key:∀ p,BAtB B b p l w→BAtB B b p l w':=fun p ⟨h1,v,h2,h3,h4⟩=>by
  have hlt:b<w.heap.size:=by
   rcases Nat.lt_or_ge b w.heap.size with h' | h'
   · exact h'
   · rw [Array.getElem?_eq_none h'] at h2;cases h2
  refine ⟨h1,v,(hb.block b hlt).trans h2,?_,h4⟩;refine ⟨h3.1,?_⟩
  rcases h3.2 with hn | ⟨g,cap,cur,rfl,hbb,hg,rest⟩
  · exact .inl hn
  · exact .inr ⟨g,cap,cur,rfl,hbb,(hb.block g (Array.getElem?_eq_some_iff.1 hg).1).trans hg,rest⟩
 rcases h with h | h
 · exact .inl (key _ h)
 · exact .inr (key _ h)
theorem IsB.lt {B b:Nat} {l:List Value} {w:World} (h:IsB B b l w):b<w.heap.size∧B≤b:=by
 have key:∀ p,BAtB B b p l w→b<w.heap.size∧B≤b:=fun p ⟨h1,v,h2,h3,h4⟩=>by
  refine ⟨?_,h1⟩
  rcases Nat.lt_or_ge b w.heap.size with h' | h'
  · exact h'
  · rw [Array.getElem?_eq_none h'] at h2;cases h2
 rcases h with h | h
 · exact key _ h
 · exact key _ h
theorem kb_write {B b:Nat} {w w1 w2:World} {v v':Value} {cs:List Value} {n:Nat} (ho:Only (fun q=>q=b) w w1) (hBb:B≤b) (hBw:B≤w.heap.size) (hown:w1.ownsRow B 5 1 v n cs) (hg:w1.grownBy w2 v.ownBlock):KB B b w (w2.setCell ⟨b,1,none⟩ v'):=by
 have hb1:Below B w w1:=ho.below (fun q hq=>by subst hq;exact hBb) hBw;have hb2:Below B w1 w2:=⟨hg.os,hg.tape,hg.output,hg.size,fun q hq=>hg.block q (by have:=hb1.size;omega) (fun e=>by have:=(hown.lt q e.symm).1;omega)⟩;refine ⟨(hb1.trans hb2).setCell (p:=⟨b,1,none⟩) hBb _,fun q hq hb hn=>?_⟩;rw [hO_ w2 ⟨b,1,none⟩ q v' (fun e=>hb e)];have h1:=ho.block q hq hb;rw [hg.block q (lL hq ho.size) ?_,h1];intro e
 rcases hown.2 with ⟨hv,_⟩ | ⟨g,cap,cur,hv,_,hgg,_⟩
 · rw [hv] at e;cases e
 · rw [hv] at e
   injection e with e
   have e':q=g:=e;subst e';rw [h1] at hgg;exact hn _ _ hgg
theorem wstring_any (B b:Nat) (l:Bs) (s:ByteArray) (w:World) (h:IsB B b (Lib.byteCells l) w) (hlen:l.length+s.size≤140737488355328) (hBw:B≤w.heap.size) :
 Calls Tryz.prog 61 #[.pointer (some ⟨b,0,none⟩),.string s] w fun e w'=>e=.returned (.tuple #[.int .i64 s.size,.nilIface])∧IsB B b (Lib.byteCells (l++s.data.toList)) w'∧KB B b w w':=by
 obtain ⟨i0,hi,hz0,hz1,hz2⟩:=info_parts infoU8;go_enter Tryz.func61,Tryz.ntmps61;go_wp2_with fail;refine (copy_any B b _ w h).mono ?_;rintro e w1 ⟨rfl,h1,ho1⟩;obtain ⟨hB,v,hbk,hown,hne⟩:=h1;have c0:w1.cell? ⟨b,0,none⟩=some (.pointer (some ⟨b,0,none⟩)):=by rw [Lib.cell_of_heap hbk];rfl
 have c1:w1.cell? ⟨b,1,none⟩=some v:=by rw [Lib.cell_of_heap hbk];rfl
 have hsz1:=ho1.size;have hlen':(Lib.byteCells l).length+s.size≤140737488355328:=by rw [Lib.byteCells_length];exact hlen
 have HLEN:=Hd hlen';clear hlen'
 go_wp2_with (at_builtin;refine Lib.wpList_append_own_string _ rfl _ _ 79 9 rfl B 5 i0 Tryz.underlying79 Tryz.underlying9 hi hz0 hz1 hz2 _ _ _ rfl hown s rfl ?c3 ?c4 ?c5 ?_)
 case c3=>have:=HLEN.out;unfold maxLen;omega
 case c4=>exact HLEN.out
 case c5=>omega
 intro v' w2 hown' hgrow _
 have hlt:b<w1.heap.size:=by
  rcases Nat.lt_or_ge b w1.heap.size with h' | h'
  · exact h'
  · simp [Array.getElem?_eq_none h'] at hbk
 have hb2:w2.heap[b]?=some (.cells #[.pointer (some ⟨b,0,none⟩),v] 81 (0,0)):=by
  rw [hgrow.block b hlt (fun e=>hne e.symm)];exact hbk
 have HKB:=Hd (kb_write (v':=v') ho1 hB hBw hown hgrow);have d0:w2.cell? ⟨b,0,none⟩=some (.pointer (some ⟨b,0,none⟩)):=by rw [Lib.cell_of_heap hb2];rfl
 have d1:w2.cell? ⟨b,1,none⟩=some v:=by rw [Lib.cell_of_heap hb2];rfl
 have f1:w2.frozen? ⟨b,1,none⟩=false:=Lib.frozen_of_heap hb2 1
 obtain ⟨ao,n',cap,rfl⟩:∃ ao n' cap,v'=.slice ao n' cap:=by
  rcases hown'.2 with ⟨hv,_⟩ | ⟨g,cap,cur,hv,_⟩
  · exact ⟨_,_,_,hv⟩
  · exact ⟨_,_,_,hv⟩
 go_wp2
 go_ret2
 refine ⟨rfl,.inr ?_,HKB.out⟩;have e1:Lib.byteCells (l++s.data.toList)=Lib.byteCells l++Lib.strCells s:=by simp [Lib.byteCells,Lib.strCells]
 rw [e1];exact Lib.BuilderAt.put (T:=81) (e:=5) hB hb2 (bs':=Lib.byteCells l++Lib.strCells s) (by simpa [Lib.strCells_length] using hown') (by decide)
theorem wbyte_any (B b:Nat) (l:Bs) (c:UInt8) (w:World) (h:IsB B b (Lib.byteCells l) w) (hlen:l.length+1≤140737488355328) (hBw:B≤w.heap.size) :
 Calls Tryz.prog 161 #[.pointer (some ⟨b,0,none⟩),.int .u8 (c.toNat:Int)] w fun e w'=>e=.returned .nilIface∧IsB B b (Lib.byteCells (l++[c])) w'∧KB B b w w':=by
 obtain ⟨i0,hi,hz0,hz1,hz2⟩:=info_parts infoU8;go_enter Tryz.func161,Tryz.ntmps161;go_wp2_with fail;refine (copy_any B b _ w h).mono ?_;rintro e w1 ⟨rfl,h1,ho1⟩;obtain ⟨hB,v,hbk,hown,hne⟩:=h1;have c0:w1.cell? ⟨b,0,none⟩=some (.pointer (some ⟨b,0,none⟩)):=by rw [Lib.cell_of_heap hbk];rfl
 have c1:w1.cell? ⟨b,1,none⟩=some v:=by rw [Lib.cell_of_heap hbk];rfl
 have hsz1:=ho1.size;have HLEN:=Hd (show (Lib.byteCells l).length+1≤140737488355328 by rw [Lib.byteCells_length];exact hlen)
 go_wp2_with (at_builtin;refine wpList_append_own _ rfl _ _ 79 rfl B 5 i0 (.int .u8 0) 1 1 Tryz.underlying79 hi hz0 hz1 hz2 rfl (by decide) _ _ _ rfl (hown.alloc _) ⟨w1.heap.size,0,none⟩ 1 1 [.int .u8 (c.toNat:Int)] rfl rfl ?c1 ?c2 ?c3 ?c4 ?c5 ?_)
 case c1=>
  intro j u hj
  match j,hj with
  | 0,hj=>simp at hj;subst hj;simp [Addr.add]
 case c2=>intro u hu;simp at hu;subst hu;rfl
 case c3=>have:=HLEN.out;unfold maxLen;omega
 case c4=>have:=HLEN.out;omega
 case c5=>simp;omega
 intro v' w2 hown' hgrow _
 have hlt:b<w1.heap.size:=by
  rcases Nat.lt_or_ge b w1.heap.size with h' | h'
  · exact h'
  · simp [Array.getElem?_eq_none h'] at hbk
 have hb2:w2.heap[b]?=some (.cells #[.pointer (some ⟨b,0,none⟩),v] 81 (0,0)):=by
  rw [hgrow.block b (by simp;omega) (fun e=>hne e.symm),Lib.alloc_old w1 _ b hlt];exact hbk
 have hgrow2:w1.grownBy w2 v.ownBlock:=⟨hgrow.os,hgrow.tape,hgrow.output,Nat.le_trans (by simp) hgrow.size,fun q hq hne=>(hgrow.block q (by simp;omega) hne).trans (heap_alloc_old w1 _ hq)⟩;have HKB:=Hd (kb_write (v':=v') ho1 hB hBw hown hgrow2);have d0:w2.cell? ⟨b,0,none⟩=some (.pointer (some ⟨b,0,none⟩)):=by rw [Lib.cell_of_heap hb2];rfl
 have d1:w2.cell? ⟨b,1,none⟩=some v:=by rw [Lib.cell_of_heap hb2];rfl
 have f1:w2.frozen? ⟨b,1,none⟩=false:=Lib.frozen_of_heap hb2 1
 obtain ⟨ao,n',cap,rfl⟩:∃ ao n' cap,v'=.slice ao n' cap:=by
  rcases hown'.2 with ⟨hv,_⟩ | ⟨g,cap,cur,hv,_⟩
  · exact ⟨_,_,_,hv⟩
  · exact ⟨_,_,_,hv⟩
 go_wp2
 go_ret;refine ⟨rfl,.inr ?_,HKB.out⟩;have e1:Lib.byteCells (l++[c])=Lib.byteCells l++[.int .u8 (c.toNat:Int)]:=by simp [Lib.byteCells]
 rw [e1];exact Lib.BuilderAt.put (T:=81) (e:=5) hB hb2 (bs':=Lib.byteCells l++[.int .u8 (c.toNat:Int)]) (by simpa using hown') (by decide)
theorem isName_false1 {l:Bs} (h:l=[]):isName l=false:=by subst h;rfl
theorem isName_form {l:Bs} (h:l≠[]):isName l=(decide (l.length≤24) && isLetter (l.headD 0) && decide (rowLen isInside l=l.length) && !isWord l):=by
 unfold isName;simp [h]
structure WordsT (w:World):Prop where
 size:0<w.heap.size
 words:∀ j,j<24→w.cell? ⟨0,j,none⟩=some (.string (wordL.getD j ByteArray.empty))
theorem WordsT.below {w w':World} (h:WordsT w) (hb:Below w.heap.size w w'):WordsT w':=
 ⟨lL h.size hb.size,fun j hj=>by rw [hb.cell (p:=⟨0,j,none⟩) h.size];exact h.words j hj⟩
theorem Tables.wordsT {w:World} (h:Tables w):WordsT w:=⟨by have:=h.size;show 0<_;omega,h.words⟩
theorem isw_any (s:ByteArray) (w:World) (hs:s.size≤maxLen) (hT:WordsT w):Calls Tryz.prog 58 #[.string s] w fun e w'=>e=.returned (.bool (isName (bs s)))∧w=w':=by
 have hs':=hs;unfold maxLen at hs';have HT:=Hd hT;clear hT
 by_cases h0:0<s.size
 · have hne:=bs_ne h0;have hd0:=drop_cons (bs_get h0);rw [List.drop_zero] at hd0;have hnm:=isName_form (l:=bs s) (by rw [hd0];simp);rw [bs_length,show (bs s).headD 0=s[0] from by rw [hd0];rfl] at hnm;have HN:=Hd hnm;clear hnm hd0;have hrow:=row_inside s;have HROW:=Hd hrow;clear hrow;have hct:=Tryz.slices_Contains_string 0 0 24 24 wordL s w (by decide) (by decide) (fun j hj=>by rw [Nat.zero_add];exact HT.out.words j hj)
   rw [show Lib.containsS (wordL.take 24) s=isWord (bs s) from by
    unfold isWord
    rw [show wordL.take 24=wordL from rfl,show (⟨(bs s).toArray⟩:ByteArray)=s from bs_ext rfl]] at hct
   have HC:=Hd hct;clear hct
   by_cases h24:s.size≤24
   · have h24':(s.size:Int)≤24:=by omega
     have HL:=Hd (letter_any s[0]);cases hle:isLetter s[0]
     · rw [hle] at HL;have HV:=Hd (show isName (bs s)=false from by rw [HN.out,hle];simp);clear hle;go_enter Tryz.func58,Tryz.ntmps58;go_wp2_with fail;refine (HL.out _).mono ?_;rintro e w3 ⟨rfl,hw⟩;rw [←hw];clear hw
       go_wp2
       go_ret;exact ⟨by rw [HV.out];rfl,rfl⟩
     · rw [hle] at HL
       by_cases hr:rowLen isInside (bs s)=s.size
       · have HV:=Hd (show isName (bs s)=!isWord (bs s) from by rw [HN.out,hle,hr];simp [h24]);rw [hr] at HROW;clear hle hr;cases hw:isWord (bs s)
         all_goals
          rw [hw] at HC HV;clear hw;go_enter Tryz.func58,Tryz.ntmps58;go_wp2_with fail;refine (HL.out _).mono ?_;rintro e w3 ⟨rfl,hw⟩;rw [←hw];clear hw;go_wp2_with fail;refine (HROW.out _ (by unfold maxLen;omega)).mono ?_;rintro e w3 ⟨rfl,hw⟩;rw [←hw];clear hw;go_wp2_with fail;refine (HC.out).mono ?_;rintro e w3 ⟨rfl,hw⟩;rw [hw];clear hw
          go_wp2
          go_ret;exact ⟨by rw [HV.out];rfl,rfl⟩
       · have HV:=Hd (show isName (bs s)=false from by rw [HN.out];simp [hr]);obtain ⟨n,hn⟩:=ex_ (rowLen isInside (bs s));rw [←hn] at HROW hr;clear hn hle;have hr':¬(n:Int)=(s.size:Int):=by omega
         go_enter Tryz.func58,Tryz.ntmps58;go_wp2_with fail;refine (HL.out _).mono ?_;rintro e w3 ⟨rfl,hw⟩;rw [←hw];clear hw;go_wp2_with fail;refine (HROW.out _ (by unfold maxLen;omega)).mono ?_;rintro e w3 ⟨rfl,hw⟩;rw [←hw];clear hw
         go_wp2
         go_ret;exact ⟨by rw [HV.out];rfl,rfl⟩
   · have HV:=Hd (show isName (bs s)=false from by rw [HN.out];simp [h24]);have h24':¬(s.size:Int)≤24:=by omega
     clear h24;go_enter Tryz.func58,Tryz.ntmps58
     go_wp2
     go_ret;exact ⟨by rw [HV.out];rfl,rfl⟩
 · have hnil:bs s=[]:=List.eq_nil_of_length_eq_zero (by rw [bs_length];omega);have hte:s=⟨#[]⟩:=bs_ext hnil;rw [isName_false1 hnil];subst hte;clear hnil h0 hs hs';go_enter Tryz.func58,Tryz.ntmps58
   go_wp2
   go_ret;exact ⟨rfl,rfl⟩
theorem is_any (s:ByteArray) (w:World) (hs:s.size≤maxLen) (hT:Tables w):Calls Tryz.prog 58 #[.string s] w fun e w'=>e=.returned (.bool (isName (bs s)))∧w=w':=isw_any s w hs hT.wordsT
set_option maxHeartbeats 8000000
mutual
def toldT:Tm→Bool
 | .mk o n s l=>if (o=6∨o=7)∧l.length=1 then false else if o=3∨o=4 then isName s.data.toList else toldL l
def toldL:List Tm→Bool
 | []=>true
 | t :: r=>toldT t && toldL r
end
theorem toldT_eq (t:Tm):toldT t=if (t.op=6∨t.op=7)∧t.kids.length=1 then false else if t.op=3∨t.op=4 then isName t.name.data.toList else toldL t.kids:=by
 cases t;rw [toldT];rfl
theorem told_any:∀ (N:Nat) (t:Tm) (A:Option Addr) (c:Nat) (w:World),t.size≤N→t.size≤9000000→TmV w A c t→WordsT w →
 Calls Tryz.prog 127 #[t.val A c] w fun e w'=>e=.returned (.bool (toldT t))∧Below w.heap.size w w'
 | 0,t,A,c,w,hN,_,_,_=>by cases t;rw [Tm.size] at hN;omega
 | N+1,t,A,c,w,hN,hd,hV,hT=>by
  obtain ⟨n,hn⟩:=ex_ t.kids.length;have hcap:=hV.cap;have hcapm:=hV.capm;unfold maxLen at hcapm
  have hnl:n≤10000000:=by
   have:t.kids.length≤Tm.sizeL t.kids:=Tm.len_le t.kids
   cases t with
   | mk o nn ss l=>rw [Tm.size] at hd;simp only [Tm.kids] at this hn;omega
  have HSZ:Hid (∀ k∈t.kids,k.size≤N∧k.size≤9000000):=fun k hk=>by
   have h1:=Tm.sizeL_mem hk
   cases t with
   | mk o nn ss l=>rw [Tm.size] at hN hd;simp only [Tm.kids] at h1;omega
  have hb1:Below w.heap.size w (w.alloc (.cells #[.int .i64 t.op,.int .i64 t.num,.string t.name,.slice A t.kids.length c] 64)):=(Br _ _).alloc (lr _) _;have his:=isw_any t.name (w.alloc (.cells #[.int .i64 t.op,.int .i64 t.num,.string t.name,.slice A t.kids.length c] 64)) hV.name (hT.below hb1);have HB1:=Hd hb1;have HIS:=Hd his;have HV:=Hd hV;have HT:=Hd hT;have HN:=Hd hn;obtain ⟨r,hr⟩:=ex_ (toldT t);rw [←hr];have hre:=toldT_eq t;rw [←hr,←hn] at hre;have HRE:=Hd hre;unfold Tm.val;rw [←hn] at HB1 HIS hcap ⊢;clear hb1 his hV hT hn hr hre hN;obtain ⟨op,hop⟩:=ex_ t.op;rw [←hop] at HB1 HIS HRE ⊢
  have hcl:((op=6∨op=7)∧n=1)∨(op=3∨op=4)∨(op=6∧n≠1∧((n:Int) == 1)=false)∨(op=7∧n≠1∧((n:Int) == 1)=false)∨(op≠6∧op≠7∧op≠3∧op≠4∧(op == 6)=false∧(op == 7)=false∧(op == 3)=false∧(op == 4)=false):=by
   by_cases h6:op=6
   · by_cases h1:n=1
     · exact .inl ⟨.inl h6,h1⟩
     · exact .inr (.inr (.inl ⟨h6,h1,by simp;omega⟩))
   by_cases h7:op=7
   · by_cases h1:n=1
     · exact .inl ⟨.inr h7,h1⟩
     · exact .inr (.inr (.inr (.inl ⟨h7,h1,by simp;omega⟩)))
   by_cases h3:op=3
   · exact .inr (.inl (.inl h3))
   by_cases h4:op=4
   · exact .inr (.inl (.inr h4))
   exact .inr (.inr (.inr (.inr ⟨h6,h7,h3,h4,by simpa using h6,by simpa using h7,by simpa using h3,by simpa using h4⟩)))
  clear hop
  rcases hcl with ⟨h67,h1⟩ | h34 | hrest
  · have HR:Hid (r=false):=by show _=_;rw [HRE.out,iP ⟨h67,h1⟩]
    subst h1
    rcases h67 with rfl | rfl
    all_goals
     go_enter Tryz.func127,Tryz.ntmps127;go_wp2_with fail;go_ret;rw [HR.out];exact ⟨rfl,HB1.out⟩
  · have HR:Hid (r=isName t.name.data.toList):=by
     show _=_;rw [HRE.out,iN (by omega),iP h34]
    rcases h34 with rfl | rfl
    all_goals
     go_enter Tryz.func127,Tryz.ntmps127;go_wp2_with fail;refine (HIS.out).mono ?_;rintro e w1 ⟨rfl,hw⟩;rw [←hw];clear hw;go_wp2_with fail;go_ret;rw [HR.out];exact ⟨rfl,HB1.out⟩
  · have HR:Hid (r=toldL t.kids):=by
     show _=_;rw [HRE.out,iN (by omega),iN (by omega)]
    rcases hrest with ⟨rfl,h1,h1b⟩ | ⟨rfl,h1,h1b⟩ | ⟨h6,h7,h3,h4,b6,b7,b3,b4⟩
    all_goals
     (try clear h1)
     (try clear h6 h7 h3 h4)
     go_enter Tryz.func127,Tryz.ntmps127;go_wp2_with fail
     go_loopw [23] (fun si wr=>∃ k:Nat,k≤n∧si=.int .i64 k∧Below w.heap.size w wr∧toldL (t.kids.drop k)=r) (fun i _=>n - (intOf i).toNat)
     case atStart=>exact ⟨0,zl _,rfl,HB1.out,HR.out.symm⟩
     case round=>
      obtain ⟨k,hk,rfl,hbel,htl⟩:=hrel;have HBL:=Hd hbel;have HTL:=Hd htl;have hszr:=hbel.size;clear hbel htl
      by_cases hlt:k<n
      · obtain ⟨kd,hkd⟩:∃ kd,t.kids[k]?=some kd:=⟨_,gG (by have:=HN.out;omega)⟩;have hmem:kd∈t.kids:=mG hkd
        rcases HV.out.kids with h9 | ⟨g,off,rfl,hg,hrow⟩
        · rw [h9] at hkd;simp at hkd
        obtain ⟨q0,q1,q2,A2,c2,q3,hV2⟩:=(hrow.get hkd).open;rw [←HBL.out.cell (p:=⟨g,_,none⟩) hg] at q0 q1 q2 q3;have hgw:g<wr.heap.size:=by omega
        obtain ⟨n2,HN2⟩:=exh_ kd.kids.length;rw [←HN2.out] at q3
        have HDR:Hid (t.kids.drop k=kd :: t.kids.drop (k+1)):=by
         obtain ⟨hj,hj2⟩:=gE.1 hkd;show _=_;rw [List.drop_eq_getElem_cons hj,hj2]
        have hk0:(0:Int)≤(k:Int):=by omega
        have hk1:(k:Int)<(n:Int):=by omega
        have e1:off+4*k=off+k*4:=by omega
        rw [e1] at q0 q1 q2 q3;have hbk:Below wr.heap.size wr (wr.alloc (.cells #[.int .i64 kd.op,.int .i64 kd.num,.string kd.name,.slice A2 n2 c2] 64)):=(Br _ _).alloc (lr _) _;have HBK:=Hd (HBL.out.trans (hbk.mono hszr));have HIH:=Hd (told_any N kd A2 c2 (wr.alloc (.cells #[.int .i64 kd.op,.int .i64 kd.num,.string kd.name,.slice A2 n2 c2] 64)) (HSZ.out kd hmem).1 (HSZ.out kd hmem).2 (hV2.below HBK.out rfl) (HT.out.below HBK.out));unfold Tm.val at HIH;rw [←HN2.out] at HIH;have hszk:=HBK.out.size;obtain ⟨z,HZ⟩:=exh_ (toldT kd);rw [←HZ.out] at HIH;clear hkd hmem hrow hV2 e1 hbk;go_wp2_with fail;refine (HIH.out).mono ?_;rintro e w2 ⟨rfl,hb2⟩;have HB2:=Hd (HBK.out.trans (hb2.mono hszk));clear hb2
        have HS:Hid (toldL (t.kids.drop k)=(z && toldL (t.kids.drop (k+1)))):=by
         show _=_;rw [HDR.out,toldL,←HZ.out]
        cases z with
        | false=>
         have HRF:Hid (r=false):=by show _=_;rw [←HTL.out,HS.out];rfl
         go_wp2_with fail;go_ret;rw [HRF.out];exact ⟨rfl,HB2.out⟩
        | true=>
         go_wp2_with fail
         go_roundw
         case rel=>exact ⟨k+1,by omega,by go_num,HB2.out,by rw [←HTL.out,HS.out];rfl⟩
         case measure=>first | (simp [intOf];done) | (simp [intOf];omega)
      · have HRT:Hid (r=true):=by
         show _=_;rw [←HTL.out,List.drop_eq_nil_of_le (by have:=HN.out;omega)]
         rfl
        have hk1:¬(k:Int)<(n:Int):=by omega
        go_wp2_with fail;go_ret;rw [HRT.out];exact ⟨rfl,HBL.out⟩
theorem ruleOf_any (op:Int) (w:World) :
 Calls Tryz.prog 160 #[.int .i64 op] w fun e w'=>e=.returned (.int .i64 (ruleOf op:Nat))∧w=w':=by
 obtain ⟨r,HR⟩:=exh_ (ruleOf op);rw [←HR.out];go_enter Tryz.func160,Tryz.ntmps160
 go_wp2
 all_goals
  go_ret;rw [HR.out];refine ⟨?_,rfl⟩
  simp_all [ruleOf]
theorem asks_any (op:Int) (i:Nat) (w:World) (hi:i≤1000000) (hi2:op=8→i≤2) :
 Calls Tryz.prog 163 #[.int .i64 op,.int .i64 (i:Nat)] w fun e w'=>e=.returned (.int .i64 (asksN op i:Nat))∧w=w':=by
 obtain ⟨r,HR⟩:=exh_ (asksN op i);rw [←HR.out];have HI2:=Hd hi2;clear hi2;go_enter Tryz.func163,Tryz.ntmps163
 go_wp2
 all_goals
  go_ret;rw [HR.out];have hi2:=HI2.out;refine ⟨?_,rfl⟩
  first
   | (simp_all [asksN];done)
   | (simp_all [asksN];omega)
theorem signOf_any (op:Int) (w:World) :
 Calls Tryz.prog 162 #[.int .i64 op] w fun e w'=>e=.returned (.string ⟨(signB op).toArray⟩)∧w=w':=by
 obtain ⟨r,HR⟩:=exh_ (signB op);rw [←HR.out];go_enter Tryz.func162,Tryz.ntmps162
 go_wp2
 all_goals
  go_ret;rw [HR.out];refine ⟨?_,rfl⟩
  simp_all [signB]
theorem wbyte_d (u:FrameMode) (B b:Nat) (l:Bs) (c:UInt8) (w:World) (h:IsB B b (Lib.byteCells l) w) (hlen:l.length+1≤140737488355328) (hBw:B≤w.heap.size) :
 CallsD Tryz.prog 161 #[.pointer (some ⟨b,0,none⟩),.int .u8 (c.toNat:Int)] u w fun e u' w'=>u'=u∧(e=.returned .nilIface∧IsB B b (Lib.byteCells (l++[c])) w'∧KB B b w w'):=by
 obtain ⟨i0,hi,hz0,hz1,hz2⟩:=info_parts infoU8
 go_enter_d Tryz.func161,Tryz.ntmps161
 go_wp2_with fail;refine (copy_any B b _ w h).mono ?_;rintro e w1 ⟨rfl,h1,ho1⟩;obtain ⟨hB,v,hbk,hown,hne⟩:=h1;have c0:w1.cell? ⟨b,0,none⟩=some (.pointer (some ⟨b,0,none⟩)):=by rw [Lib.cell_of_heap hbk];rfl
 have c1:w1.cell? ⟨b,1,none⟩=some v:=by rw [Lib.cell_of_heap hbk];rfl
 have hsz1:=ho1.size;have HLEN:=Hd (show (Lib.byteCells l).length+1≤140737488355328 by rw [Lib.byteCells_length];exact hlen)
 go_wp2_with (at_builtin;refine wpList_append_own _ rfl _ _ 79 rfl B 5 i0 (.int .u8 0) 1 1 Tryz.underlying79 hi hz0 hz1 hz2 rfl (by decide) _ _ _ rfl (hown.alloc _) ⟨w1.heap.size,0,none⟩ 1 1 [.int .u8 (c.toNat:Int)] rfl rfl ?c1 ?c2 ?c3 ?c4 ?c5 ?_)
 case c1=>
  intro j u hj
  match j,hj with
  | 0,hj=>simp at hj;subst hj;simp [Addr.add]
 case c2=>intro u hu;simp at hu;subst hu;rfl
 case c3=>have:=HLEN.out;unfold maxLen;omega
 case c4=>have:=HLEN.out;omega
 case c5=>simp;omega
 intro v' w2 hown' hgrow _
 have hlt:b<w1.heap.size:=by
  rcases Nat.lt_or_ge b w1.heap.size with h' | h'
  · exact h'
  · simp [Array.getElem?_eq_none h'] at hbk
 have hb2:w2.heap[b]?=some (.cells #[.pointer (some ⟨b,0,none⟩),v] 81 (0,0)):=by
  rw [hgrow.block b (by simp;omega) (fun e=>hne e.symm),Lib.alloc_old w1 _ b hlt];exact hbk
 have hgrow2:w1.grownBy w2 v.ownBlock:=⟨hgrow.os,hgrow.tape,hgrow.output,Nat.le_trans (by simp) hgrow.size,fun q hq hne=>(hgrow.block q (by simp;omega) hne).trans (heap_alloc_old w1 _ hq)⟩;have HKB:=Hd (kb_write (v':=v') ho1 hB hBw hown hgrow2);have d0:w2.cell? ⟨b,0,none⟩=some (.pointer (some ⟨b,0,none⟩)):=by rw [Lib.cell_of_heap hb2];rfl
 have d1:w2.cell? ⟨b,1,none⟩=some v:=by rw [Lib.cell_of_heap hb2];rfl
 have f1:w2.frozen? ⟨b,1,none⟩=false:=Lib.frozen_of_heap hb2 1
 obtain ⟨ao,n',cap,rfl⟩:∃ ao n' cap,v'=.slice ao n' cap:=by
  rcases hown'.2 with ⟨hv,_⟩ | ⟨g,cap,cur,hv,_⟩
  · exact ⟨_,_,_,hv⟩
  · exact ⟨_,_,_,hv⟩
 go_wp2
 go_ret;refine ⟨rfl,.inr ?_,HKB.out⟩;have e1:Lib.byteCells (l++[c])=Lib.byteCells l++[.int .u8 (c.toNat:Int)]:=by simp [Lib.byteCells]
 rw [e1];exact Lib.BuilderAt.put (T:=81) (e:=5) hB hb2 (bs':=Lib.byteCells l++[.int .u8 (c.toNat:Int)]) (by simpa using hown') (by decide)
def pB (t:Tm) (rule:Nat) (ends:Bool):Bool:=decide (ruleOf t.op<rule) || (decide (t.op=18) && !ends)
theorem shw_eq (t:Tm) (rule:Nat) (ends:Bool):shw numS t rule ends=wrapP (pB t rule ends) (bodyE numS t.op t.num t.name.data.toList (shwNot numS t.kids (pB t rule ends || ends)) (shwIf numS t.kids 0) (shwJoin numS t.op t.kids 0 (pB t rule ends || ends))):=by
 cases t;rw [shw];rfl
theorem numS_short:∀ n,-255≤n→n≤255→(numS n).length≤20:=by
 intro n h1 h2;have h3:n.natAbs<10 ^ 3:=by omega
 have h4:(decB n.natAbs).length≤3:=by
  unfold decB
  split
  · decide
  · have:=digs_len (b:=10) (by decide) 3 _ h3
    simpa using this
 unfold numS
 split <;> simp <;> omega
def showTm (t:Tm):Bs×Int:=if t.check≠0 then ([],t.check) else if toldT t=false then ([],3) else if 65536<(shw numS t 0 true).length then ([],4) else (shw numS t 0 true,0)
def strongF (op:Int):Nat:=if op=5 then 1 else if op=4 then 2 else if op=3 then 3 else 4
def leftF (op:Int):Nat:=if op=5 then 2 else if op=4 then 2 else if op=3 then 3 else 1
def rightF (op:Int):Nat:=if op=5 then 1 else if op=4 then 3 else if op=3 then 4 else 1
def inF (op:Int):Bs:=if op=5 then [32,45,62,32] else if op=4 then [32,124,32] else if op=3 then [32,38,32] else [32,85,32]
def preF (op:Int):Bs:=if op=2 then [33] else if op=6 then [69,88,32] else if op=7 then [69,70,32] else if op=8 then [69,71,32] else if op=10 then [65,88,32] else if op=11 then [65,70,32] else [65,71,32]
def openF (op:Int):Bs:=if op=9 then [69,91] else if op=13 then [65,91] else []
def closeF (op:Int):Bs:=if op=9∨op=13 then [93] else []
mutual
def frmT:Fm→Nat→Bs×Int
 | .mk o e l,least=>
  let r:=if o=1 then ([91]++(showTm e).1++[93],(showTm e).2) else frmK o l
  if r.2≠0 then ([],r.2) else if strongF o<least then ([40]++r.1++[41],0) else (r.1,0)
def frmK (o:Int):List Fm→Bs×Int
 | []=>([],0)
 | a :: r=>frmK2 o (frmT a (if fkids o=2 then leftF o else 4)) r
def frmK2 (o:Int) (x:Bs×Int):List Fm→Bs×Int
 | []=>(preF o++x.1,x.2)
 | b :: _=>if x.2≠0 then ([],x.2) else
  let y:=frmT b (rightF o)
  (openF o++x.1++inF o++y.1++closeF o,y.2)
end
def showFm (f:Fm):Bs×Int:=
 if f.check≠0 then ([],f.check) else
 if (frmT f 1).2≠0 then ([],(frmT f 1).2) else if 65536<(frmT f 1).1.length then ([],4) else ((frmT f 1).1,0)
theorem showTm_len (t:Tm):(showTm t).1.length≤65536:=by
 unfold showTm
 split
 · simp
 · split
   · simp
   · split
     · simp
     · show (shw numS t 0 true).length≤65536;omega
theorem preF_len (op:Int):(preF op).length≤3:=by
 unfold preF
 iterate 6 (split;· simp)
 simp
theorem inF_len (op:Int):(inF op).length≤4:=by
 unfold inF
 iterate 3 (split;· simp)
 simp
theorem openF_len (op:Int):(openF op).length≤2:=by
 unfold openF
 iterate 2 (split;· simp)
 simp
theorem closeF_len (op:Int):(closeF op).length≤1:=by
 unfold closeF
 split <;> simp
mutual
theorem frmT_len:∀ (f:Fm) (least:Nat),(frmT f least).1.length≤65600*f.size
 | .mk o e l,least=>by
  have h1:=frmK_len o l;have h2:=showTm_len e;rw [frmT,Fm.size]
  have h3:(if o=1 then ([91]++(showTm e).1++[93],(showTm e).2) else frmK o l).1.length≤65600*Fm.sizeL l+65540:=by
   split
   · simp only [List.length_append,List.length_cons,List.length_nil];omega
   · omega
  generalize (if o=1 then ([91]++(showTm e).1++[93],(showTm e).2) else frmK o l)=r at h3 ⊢
  split
  · simp
  · split
    · simp only [List.length_append,List.length_cons,List.length_nil];omega
    · show r.1.length≤_;omega
theorem frmK_len:∀ (o:Int) (l:List Fm),(frmK o l).1.length≤65600*Fm.sizeL l+10
 | o,[]=>by rw [frmK];simp
 | o,a :: r=>by
  rw [frmK,Fm.sizeL];have h1:=frmT_len a (if fkids o=2 then leftF o else 4);have h2:=frmK2_len o (frmT a (if fkids o=2 then leftF o else 4)) r;omega
theorem frmK2_len:∀ (o:Int) (x:Bs×Int) (l:List Fm),(frmK2 o x l).1.length≤x.1.length+65600*Fm.sizeL l+10
 | o,x,[]=>by
  have:=preF_len o;rw [frmK2,Fm.sizeL];simp only [List.length_append];omega
 | o,x,b :: r=>by
  have h1:=frmT_len b (rightF o);have h2:=inF_len o;have h3:=openF_len o;have h4:=closeF_len o;rw [frmK2,Fm.sizeL]
  split
  · simp
  · simp only [List.length_append]
    generalize 65600*Fm.sizeL r=z at *
    omega
end
mutual
def FmAt (w:World) (g o:Nat):Fm→Prop
 | .mk op e l=>w.cell? ⟨g,o,none⟩=some (.int .i64 op)∧TmAt w g (o+1) e ∧
  ∃ A c,w.cell? ⟨g,o+5,none⟩=some (.slice A l.length c)∧l.length≤c∧c≤maxLen∧(l=[]∨∃ g' o',A=some ⟨g',o',none⟩∧g'<w.heap.size∧FmRow w g' o' l)
def FmRow (w:World) (g o:Nat):List Fm→Prop
 | []=>True
 | t :: r=>FmAt w g o t∧FmRow w g (o+6) r
end
def FKidsAt (w:World) (A:Option Addr) (l:List Fm):Prop:=l=[]∨∃ g' o',A=some ⟨g',o',none⟩∧g'<w.heap.size∧FmRow w g' o' l
mutual
theorem FmAt.below {B:Nat} {w w':World} (hb:Below B w w') (hB:B=w.heap.size):∀ {t:Fm} {g o:Nat},g<B→FmAt w g o t→FmAt w' g o t
 | .mk op e l,g,o,hg,h=>by
  rw [FmAt] at h ⊢;obtain ⟨h0,h1,A,c,h3,h4,h5,h6⟩:=h;refine ⟨by rw [hb.cell (p:=⟨g,_,none⟩) hg];exact h0,TmAt.below hb hB hg h1,A,c,by rw [hb.cell (p:=⟨g,_,none⟩) hg];exact h3,h4,h5,?_⟩
  rcases h6 with h6 | ⟨g',o',rfl,hg',h6⟩
  · exact .inl h6
  · exact .inr ⟨g',o',rfl,lL hg' hb.size,FmRow.below hb hB (by omega) h6⟩
theorem FmRow.below {B:Nat} {w w':World} (hb:Below B w w') (hB:B=w.heap.size):∀ {l:List Fm} {g o:Nat},g<B→FmRow w g o l→FmRow w' g o l
 | [],g,o,hg,h=>by rw [FmRow];trivial
 | t :: r,g,o,hg,h=>by
  rw [FmRow] at h ⊢;exact ⟨FmAt.below hb hB hg h.1,FmRow.below hb hB hg h.2⟩
end
theorem FKidsAt.below {B:Nat} {w w':World} {A:Option Addr} {l:List Fm} (h:FKidsAt w A l) (hb:Below B w w') (hB:B=w.heap.size):FKidsAt w' A l:=by
 rcases h with h | ⟨g',o',rfl,hg',h⟩
 · exact .inl h
 · exact .inr ⟨g',o',rfl,lL hg' hb.size,FmRow.below hb hB (by omega) h⟩
theorem FmRow.get:∀ {w:World} {l:List Fm} {g o j:Nat} {t:Fm},FmRow w g o l→l[j]?=some t→FmAt w g (o+6*j) t
 | w,x :: r,g,o,0,t,h,hj=>by
  rw [FmRow] at h;simp at hj;subst hj;exact h.1
 | w,x :: r,g,o,j+1,t,h,hj=>by
  rw [FmRow] at h;have:=FmRow.get h.2 (j:=j) (by simpa using hj)
  rwa [show o+6+6*j=o+6*(j+1) from by omega] at this
structure FmV (w:World) (Ae:Option Addr) (ce:Nat) (A:Option Addr) (c:Nat) (t:Fm):Prop where
 tm:TmV w Ae ce t.tm
 cap:t.kids.length≤c
 capm:c≤maxLen
 kids:FKidsAt w A t.kids
theorem FmV.below {B:Nat} {w w':World} {Ae A:Option Addr} {ce c:Nat} {t:Fm} (h:FmV w Ae ce A c t) (hb:Below B w w') (hB:B=w.heap.size):FmV w' Ae ce A c t:=⟨h.tm.below hb hB,h.cap,h.capm,h.kids.below hb hB⟩
def Fm.val (Ae:Option Addr) (ce:Nat) (A:Option Addr) (c:Nat) (t:Fm):Value:=.agg #[.int .i64 t.op,.int .i64 t.tm.op,.int .i64 t.tm.num,.string t.tm.name,.slice Ae t.tm.kids.length ce,.slice A t.kids.length c]
theorem FmAt.open {w:World} {g o:Nat} {t:Fm} (h:FmAt w g o t):w.cell? ⟨g,o,none⟩=some (.int .i64 t.op)∧w.cell? ⟨g,o+1,none⟩=some (.int .i64 t.tm.op)∧w.cell? ⟨g,o+2,none⟩=some (.int .i64 t.tm.num)∧w.cell? ⟨g,o+3,none⟩=some (.string t.tm.name) ∧
 ∃ Ae ce A c,w.cell? ⟨g,o+4,none⟩=some (.slice Ae t.tm.kids.length ce)∧w.cell? ⟨g,o+5,none⟩=some (.slice A t.kids.length c)∧FmV w Ae ce A c t:=by
 cases t with
 | mk op e l=>
  rw [FmAt] at h;obtain ⟨h0,h1,A,c,h3,h4,h5,h6⟩:=h;obtain ⟨e0,e1,e2,Ae,ce,e3,hv⟩:=h1.open;exact ⟨h0,e0,e1,e2,Ae,ce,A,c,e3,h3,hv,h4,h5,h6⟩
theorem FmAt.mk {w:World} {g o:Nat} {t:Fm} {Ae A:Option Addr} {ce c:Nat} (h0:w.cell? ⟨g,o,none⟩=some (.int .i64 t.op)) (h1:w.cell? ⟨g,o+1,none⟩=some (.int .i64 t.tm.op)) (h2:w.cell? ⟨g,o+2,none⟩=some (.int .i64 t.tm.num)) (h3:w.cell? ⟨g,o+3,none⟩=some (.string t.tm.name))
 (h4:w.cell? ⟨g,o+4,none⟩=some (.slice Ae t.tm.kids.length ce)) (h5:w.cell? ⟨g,o+5,none⟩=some (.slice A t.kids.length c)) (h:FmV w Ae ce A c t):FmAt w g o t:=by
 cases t with
 | mk op e l=>
  rw [FmAt];exact ⟨h0,TmAt.mk h1 h2 h3 h4 h.tm,A,c,h5,h.cap,h.capm,h.kids⟩
def FBox (w:World) (bx:Nat) (Ae:Option Addr) (ne ce:Nat) (A:Option Addr) (n c:Nat) (t:Fm):Prop:=w.heap[bx]?=some (.cells #[.int .i64 t.op,.int .i64 t.tm.op,.int .i64 t.tm.num,.string t.tm.name,.slice Ae ne ce,.slice A n c] 67 (0,0))
section
variable {w w':World} {bx:Nat} {Ae A:Option Addr} {ne ce n c:Nat} {t:Fm}
theorem FBox.c0 (h:FBox w bx Ae ne ce A n c t):w.cell? ⟨bx,0,none⟩=some (.int .i64 t.op):=by rw [cR w bx 0 _ _ (0,0) h];rfl
theorem FBox.c1 (h:FBox w bx Ae ne ce A n c t):w.cell? ⟨bx,1,none⟩=some (.int .i64 t.tm.op):=by rw [cR w bx 1 _ _ (0,0) h];rfl
theorem FBox.c2 (h:FBox w bx Ae ne ce A n c t):w.cell? ⟨bx,2,none⟩=some (.int .i64 t.tm.num):=by rw [cR w bx 2 _ _ (0,0) h];rfl
theorem FBox.c3 (h:FBox w bx Ae ne ce A n c t):w.cell? ⟨bx,3,none⟩=some (.string t.tm.name):=by rw [cR w bx 3 _ _ (0,0) h];rfl
theorem FBox.c4 (h:FBox w bx Ae ne ce A n c t):w.cell? ⟨bx,4,none⟩=some (.slice Ae ne ce):=by rw [cR w bx 4 _ _ (0,0) h];rfl
theorem FBox.c5 (h:FBox w bx Ae ne ce A n c t):w.cell? ⟨bx,5,none⟩=some (.slice A n c):=by rw [cR w bx 5 _ _ (0,0) h];rfl
theorem FBox.lt (h:FBox w bx Ae ne ce A n c t):bx<w.heap.size:=lH h
theorem FBox.below {B:Nat} (h:FBox w bx Ae ne ce A n c t) (k:Below B w w') (hb:bx<B):FBox w' bx Ae ne ce A n c t:=(k.block bx hb).trans h
end
set_option linter.unusedSectionVars false
theorem Fm.len_le:∀ (l:List Fm),l.length≤Fm.sizeL l
 | []=>zl _
 | t :: r=>by
  have:=Fm.len_le r;cases t;rw [Fm.sizeL,Fm.size,List.length_cons];omega
mutual
def Fm.wsize:Fm→Nat
 | .mk _ e l=>1+e.size+Fm.wsizeL l
def Fm.wsizeL:List Fm→Nat
 | []=>0
 | t :: r=>t.wsize+Fm.wsizeL r
end
theorem Fm.wsizeL_mem:∀ {l:List Fm} {t:Fm},t∈l→t.wsize≤Fm.wsizeL l
 | x :: r,t,h=>by
  rcases List.mem_cons.1 h with rfl | h
  · rw [Fm.wsizeL];omega
  · have:=Fm.wsizeL_mem h;rw [Fm.wsizeL];omega
theorem Fm.wsize_open (t:Fm):t.tm.size≤t.wsize∧∀ k∈t.kids,k.wsize≤t.wsize:=by
 cases t with
 | mk o e l=>
  rw [Fm.wsize];refine ⟨by show e.size≤_;omega,fun k hk=>?_⟩;have:=Fm.wsizeL_mem (show k∈l from hk);omega
mutual
theorem Fm.size_le:∀ t:Fm,t.size≤t.wsize
 | .mk o e l=>by
  have:=Fm.sizeL_le l;rw [Fm.size,Fm.wsize];omega
theorem Fm.sizeL_le:∀ l:List Fm,Fm.sizeL l≤Fm.wsizeL l
 | []=>by rw [Fm.sizeL];omega
 | t :: r=>by
  have h1:=Fm.size_le t;have h2:=Fm.sizeL_le r;rw [Fm.sizeL,Fm.wsizeL];omega
end
structure FVisitor (K:Nat) (cap:Array Value) (B:Nat) (w0:World) {σ:Type} (Inv Fin:σ→World→Prop) (step:σ→Fm→Nat→σ×Bool) (room:σ→Nat):Prop where
 enter:∀ args w,(callFunc K args).run Tryz.prog w=.ok (.enter K args) w
 fin:∀ s w,Inv s w→Fin s w
 keep:∀ s w w',Inv s w→Below w.heap.size w w'→Inv s w'
 lose:∀ s t d,room s≤room (step s t d).1+1
 call:∀ s t (d:Nat) Ae ce A c w,Inv s w→Below B w0 w→FmV w0 Ae ce A c t→d≤10000000→0<room s→t.wsize≤9000000→Calls Tryz.prog K #[t.val Ae ce A c,.int .i64 d,cap.getD 0 undef,cap.getD 1 undef] w fun e w'=>e=.returned (.bool (step s t d).2)∧(Fin (step s t d).1 w'∧((step s t d).2=true→Inv (step s t d).1 w'))∧KT 67 B w w'
section
variable {σ:Type} {step:σ→Fm→Nat→σ×Bool} {room:σ→Nat} (hl:∀ s t d,room s≤room (step s t d).1+1)
include hl
mutual
theorem eachF_lose:∀ (t:Fm) (d:Nat) (s:σ),room s≤room (eachF step t d s).1+t.size
 | .mk o n l,d,s=>by
  rw [eachF_eq,Fm.size];have h1:=hl s (.mk o n l) d
  split
  · have h2:=eachL_lose l (d+1) (step s (.mk o n l) d).1;show _≤room (eachL step l (d+1) _).1+_;omega
  · show _≤room (step s (.mk o n l) d).1+_;omega
theorem eachL_lose:∀ (l:List Fm) (d:Nat) (s:σ),room s≤room (eachL step l d s).1+Fm.sizeL l
 | [],d,s=>by rw [eachL,Fm.sizeL];exact lr _
 | t :: r,d,s=>by
  have h1:=eachF_lose t d s;rw [eachL,Fm.sizeL]
  cases hw:eachF step t d s with
  | mk y b=>
   rw [hw] at h1;simp only at h1
   cases b with
   | false=>simp only;omega
   | true=>
    have h2:=eachL_lose r d y;simp only;omega
end
end
theorem Fm.sizeL_drop {l:List Fm} {k:Nat} {t:Fm} (h:l[k]?=some t):Fm.sizeL (l.drop k)=t.size+Fm.sizeL (l.drop (k+1)):=by
 obtain ⟨hj,hj2⟩:=gE.1 h;rw [List.drop_eq_getElem_cons hj,hj2,Fm.sizeL]
theorem each_any {K:Nat} {c0 c1:Value} {B:Nat} {w0:World} {σ:Type} {Inv Fin:σ→World→Prop} {step:σ→Fm→Nat→σ×Bool} {room:σ→Nat} (V:FVisitor K #[c0,c1] B w0 Inv Fin step room) (hB:B=w0.heap.size) :
 ∀ (N:Nat) (t:Fm) (d:Nat) (Ae:Option Addr) (ce:Nat) (A:Option Addr) (c:Nat) (s:σ) (w:World),t.size≤N→d+t.size≤10000000→t.wsize≤9000000→t.size≤room s→FmV w0 Ae ce A c t→Inv s w→Below B w0 w →
 Calls Tryz.prog 98 #[t.val Ae ce A c,.int .i64 d,.func (.func K) #[] #[c0,c1]] w fun e w'=>e=.returned (.bool (eachF step t d s).2)∧(Fin (eachF step t d s).1 w'∧((eachF step t d s).2=true→Inv (eachF step t d s).1 w'))∧KT 67 B w w':=by
 intro N
 induction N with
 | zero=>
  intro t d Ae ce A c s w hN;cases t;rw [Fm.size] at hN;omega
 | succ N ih=>
  intro t d Ae ce A c s w hN hd hws hroom hV hI hbel;have hrun:=V.enter;have HIHH:=Hd ih;have HV:=Hd hV;have HBEL:=Hd hbel;obtain ⟨wb,hwb⟩:=ex_ (w.alloc (.cells #[.int .i64 t.op,.int .i64 t.tm.op,.int .i64 t.tm.num,.string t.tm.name,.slice Ae t.tm.kids.length ce,.slice A t.kids.length c] 67));have hb1:=bAl hwb;have hI1:=V.keep s w wb hI hb1;have hbw:B≤w.heap.size:=by rw [hB];exact hbel.size
  have hbel1:Below B w0 wb:=hbel.trans (hb1.mono hbw);have htp:1≤t.size:=by cases t;rw [Fm.size];omega
  have hcall:Calls Tryz.prog K #[.agg #[.int .i64 t.op,.int .i64 t.tm.op,.int .i64 t.tm.num,.string t.tm.name,.slice Ae t.tm.kids.length ce,.slice A t.kids.length c],.int .i64 d,c0,c1] wb fun e w'=>e=.returned (.bool (step s t d).2)∧(Fin (step s t d).1 w'∧((step s t d).2=true→Inv (step s t d).1 w'))∧KT 67 B wb w':=V.call s t d Ae ce A c wb hI1 hbel1 hV (by omega) (by omega) hws;have hlos:t.size - 1≤room (step s t d).1:=by have:=V.lose s t d;omega
  have hszk:Fm.sizeL t.kids=t.size - 1:=by cases t;rw [Fm.size];simp only [Fm.kids];omega
  have hbx:wb.heap[w.heap.size]?=some (.cells #[.int .i64 t.op,.int .i64 t.tm.op,.int .i64 t.tm.num,.string t.tm.name,.slice Ae t.tm.kids.length ce,.slice A t.kids.length c] 67 (0,0)):=by rw [hwb];exact hA_ w _
  have hsb:wb.heap.size=w.heap.size+1:=by rw [hwb];simp
  have HBX:=Hd hbx;have HSB:=Hd hsb;have HB1:=Hd hb1;have HBL1:=Hd hbel1;have HFX:=Hd (eachF_eq step t d s);obtain ⟨s1,hs1⟩:=ex_ (step s t d);obtain ⟨r,hr⟩:=ex_ (eachF step t d s);rw [←hs1] at hcall HFX hlos;rw [←hszk] at hlos;rw [←hr] at HFX;rw [←hr];rw [hwb] at hcall;have HC:=Hd hcall;have HON:Hid (KT 67 B w wb):=KT.of_below hb1 hbw;obtain ⟨n,hn⟩:=ex_ t.kids.length;have HN:=Hd hn;have hcap:=hV.cap;have hcapm:=hV.capm;unfold maxLen at hcapm
  have hnl:n≤10000000:=by
   have:t.kids.length≤Fm.sizeL t.kids:=Fm.len_le t.kids;omega
  have HKID:=Hd hV.kids
  have HSZ:Hid (∀ k∈t.kids,k.size≤N∧d+1+k.size≤10000000∧k.wsize≤9000000):=fun k hk=>by
   have h1:=Fm.sizeL_mem hk;have h2:=(Fm.wsize_open t).2 k hk;omega
  have HLOS:=Hd hlos;unfold Fm.val;rw [←hn] at HBX HC hcap hwb ⊢;have HWB:=Hd hwb;have HBQ:=Hd hB;clear hB ih hV hbel hcall hI hI1 hb1 hbel1 hwb hbx hsb hs1 hr hn hN hlos hroom hszk htp;go_enter Tryz.func98,Tryz.ntmps98;go_wp2_with fail;refine (HC.out).mono ?_;rintro e w1 ⟨rfl,hI1,ho1⟩;rw [←HWB.out] at ho1;have HI1:=Hd hI1;have hsz1:=ho1.below.size
  have x3:w1.cell? ⟨w.heap.size,5,none⟩=some (.slice A n c):=by
   have h9:=(ho1.keep _ _ _ HBX.out).trans HBX.out;rw [cR w1 w.heap.size 5 _ _ (0,0) h9];rfl
  have HO1:Hid (KT 67 B w w1):=HON.out.trans ho1;have hlt1:w.heap.size<w1.heap.size:=by have:=HSB.out;omega
  clear hI1 ho1 hsz1;obtain ⟨y,b⟩:=s1
  cases b with
  | false=>
   simp only at HI1;simp only [Bool.false_eq_true,if_false] at HFX;go_wp2_with fail;go_ret;rw [HFX.out];exact ⟨rfl,⟨HI1.out.1,fun h=>by cases h⟩,HO1.out⟩
  | true=>
   simp only at HI1 HLOS;simp only [if_true] at HFX;go_wp2_with fail
   go_loopw [17] (fun si wr=>∃ (k:Nat) (x:σ),k≤n∧si=.int .i64 k∧Inv x wr∧KT 67 B w wr∧w.heap.size<wr.heap.size∧Fm.sizeL (t.kids.drop k)≤room x∧eachL step (t.kids.drop k) (d+1) x=r) (fun i _=>n - (intOf i).toNat)
   case atStart=>exact ⟨0,y,zl _,rfl,HI1.out.2 (by first | rfl | trivial),HO1.out,hlt1,HLOS.out,HFX.out.symm⟩
   case round=>
    obtain ⟨k,x,hk,rfl,hI,ho,hlr,hrm,hwl⟩:=hrel;have HI:=Hd hI;have HO:=Hd ho;have HWL:=Hd hwl;have HRM:=Hd hrm;have hszr:=ho.below.size;clear hI ho hwl hrm
    by_cases hlt:k<n
    · obtain ⟨kd,hkd⟩:∃ kd,t.kids[k]?=some kd:=⟨_,gG (by have:=HN.out;omega)⟩;have hmem:kd∈t.kids:=mG hkd
      rcases HKID.out with h9 | ⟨g,off,rfl,hg,hrow⟩
      · rw [h9] at hkd;simp at hkd
      obtain ⟨q0,q1,q2,q3,Ae2,ce2,A2,c2,q4,q5,hV2⟩:=(hrow.get hkd).open;have hbr:Below B w0 wr:=HBEL.out.trans HO.out.below;have hgB:g<B:=by rw [HBQ.out];exact hg
      rw [←hbr.cell (p:=⟨g,_,none⟩) hgB] at q0 q1 q2 q3 q4 q5;have hgw:g<wr.heap.size:=by omega
      obtain ⟨n2,HN2⟩:=exh_ kd.kids.length;rw [←HN2.out] at q5;have HBR:=Hd hbr;have HV2:=Hd hV2
      have HDR:Hid (t.kids.drop k=kd :: t.kids.drop (k+1)):=by
       obtain ⟨hj,hj2⟩:=gE.1 hkd;show _=_;rw [List.drop_eq_getElem_cons hj,hj2]
      have HSD:=Hd (Fm.sizeL_drop hkd);have HSK:=Hd (HSZ.out kd hmem);have hk0:(0:Int)≤(k:Int):=by omega
      have hk1:(k:Int)<(n:Int):=by omega
      have e1:off+6*k=off+k*6:=by omega
      rw [e1] at q0 q1 q2 q3 q4 q5;clear hkd hmem hrow hbr hV2 e1;obtain ⟨wk,hwk⟩:=ex_ (wr.alloc (.cells #[.int .i64 kd.op,.int .i64 kd.tm.op,.int .i64 kd.tm.num,.string kd.tm.name,.slice Ae2 kd.tm.kids.length ce2,.slice A2 n2 c2] 67));have hbk:=bAl hwk;have hBr:B≤wr.heap.size:=by omega
      have hzk:w.heap.size<wk.heap.size:=by have:=hbk.size;omega
      have hok:KT 67 B w wk:=HO.out.thenBelow hbk (by omega) hBr;have hih:=HIHH.out kd (d+1) Ae2 ce2 A2 c2 x wk HSK.out.1 HSK.out.2.1 HSK.out.2.2 (by have h1:=HRM.out;rw [HSD.out] at h1;omega) HV2.out (V.keep x wr wk HI.out hbk) (HBR.out.trans (hbk.mono hBr))
      have HLO:Hid (Fm.sizeL (t.kids.drop (k+1))≤room (eachF step kd (d+1) x).1):=by
       have h1:=HRM.out;rw [HSD.out] at h1;have h2:=eachF_lose V.lose kd (d+1) x;show _≤_;omega
      rw [show ((d+1:Nat):Int)=(d:Int)+1 from by omega] at hih;unfold Fm.val at hih;rw [←HN2.out] at hih;obtain ⟨z,HZ⟩:=exh_ (eachF step kd (d+1) x);rw [←HZ.out] at hih HLO;have HIH:=Hd hih;have HWK:=Hd hwk;have HOK:=Hd hok;rw [HWK.out] at HIH;clear hih hwk hbk hok;go_wp2_with fail;refine (HIH.out).mono ?_;rintro e w2 ⟨rfl,hI2,ho2⟩;rw [←HWK.out] at ho2;have hz2:=ho2.below.size;have HI2:=Hd hI2;have HO2:=Hd (HOK.out.trans ho2);clear hI2 ho2;obtain ⟨y2,b2⟩:=z
      have HW2:Hid (eachL step (t.kids.drop k) (d+1) x=if b2=true then eachL step (t.kids.drop (k+1)) (d+1) y2 else (y2,false)):=by
       show _=_;rw [HDR.out,eachL,←HZ.out];cases b2 <;> rfl
      cases b2 with
      | false=>
       have HR:Hid (r=(y2,false)):=by show _=_;rw [←HWL.out,HW2.out];rfl
       go_wp2_with fail;go_ret;rw [HR.out];exact ⟨rfl,⟨HI2.out.1,fun h=>by cases h⟩,HO2.out⟩
      | true=>
       go_wp2_with fail
       go_roundw
       case rel=>exact ⟨k+1,y2,by omega,by go_num,HI2.out.2 (by first | rfl | trivial),HO2.out,by omega,HLO.out,by rw [←HWL.out,HW2.out];rfl⟩
       case measure=>first | (simp [intOf];done) | (simp [intOf];omega)
    · have hkn:k=n:=by omega
      have HR:Hid (r=(x,true)):=by
       show _=_;rw [←HWL.out,List.drop_eq_nil_of_le (by have:=HN.out;omega)]
       rfl
      have hk1:¬(k:Int)<(n:Int):=by omega
      go_wp2_with fail;go_ret;rw [HR.out];exact ⟨rfl,⟨V.fin _ _ HI.out,fun _=>HI.out⟩,HO.out⟩
end Go.Proofs.YtkhoeoilamddaaaGreatDoor
