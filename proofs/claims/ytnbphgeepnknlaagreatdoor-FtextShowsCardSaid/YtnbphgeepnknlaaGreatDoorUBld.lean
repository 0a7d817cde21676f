/- Walks and plain words: Bld Lex9 TrmE TrmF. -/
import Derived.Test.YtnbphgeepnknlaaGreatDoorUTrmC
namespace Go.Proofs.YtnbphgeepnknlaaGreatDoor
open Go.RowKit
set_option linter.unusedVariables false
set_option maxRecDepth 100000
set_option maxHeartbeats 2000000
theorem infoBld:(Tryz.prog.info? 106).map (·.size)=some 2:=by kernel_rfl
theorem liesBld:liesAt Tryz.prog Tryz.prog.depth 106 (2 / Tryz.prog.cellsOf 106) 0 106 1=true:=by kernel_rfl
theorem infoU8:(Tryz.prog.info? 5).map (fun i=>(i.zero,i.size,i.bytes))=some (some (.int .u8 0),1,1):=by kernel_rfl
abbrev IsB (B b:Nat) (l:List Value) (w:World):Prop:=Lib.IsBuilder 106 5 B b l w
abbrev BAtB (B b:Nat) (p:Value) (l:List Value) (w:World):Prop:=Lib.BuilderAt 106 5 B b p l w
theorem copy_used (b:Nat) (w:World) (h0:w.cell? ⟨b,0,none⟩=some (.pointer (some ⟨b,0,none⟩))) :
 Calls Tryz.prog 158 #[.pointer (some ⟨b,0,none⟩)] w fun e w'=>e=.returned (.tuple #[])∧w'=w:=by
 obtain ⟨j,hj,_⟩:=Option.map_eq_some_iff.1 infoBld;go_enter Tryz.func158,Tryz.ntmps158
 go_wp2
 rw [Lib.run_neq_ptr_same w _ Tryz.underlying103 hj]
 go_wp2
 go_end0
 exact ⟨rfl,rfl⟩
theorem copy_fresh (b:Nat) (w:World) (h0:w.cell? ⟨b,0,none⟩=some (.pointer none)) (hsh:w.shape? b=some (106,2)) (hfz:w.frozen? ⟨b,0,none⟩=false) :
 Calls Tryz.prog 158 #[.pointer (some ⟨b,0,none⟩)] w fun e w'=>e=.returned (.tuple #[])∧w'=w.setCell ⟨b,0,none⟩ (.pointer (some ⟨b,0,none⟩)):=by
 obtain ⟨j,hj,hjs⟩:=Option.map_eq_some_iff.1 infoBld;go_enter Tryz.func158,Tryz.ntmps158
 go_wp2
 rw [Lib.run_to_unsafe w ⟨b,0,none⟩ Tryz.underlying103 Tryz.underlying236 hj (by rw [hjs];decide) hsh (Nat.zero_lt_succ 1)];simp only [Result.andThen];rw [Oper.upon_value]
 go_wp2
 rw [run_callFunc_extern Tryz.func194 (by kernel_rfl) (by kernel_rfl) (by kernel_rfl) (e:=Extern.AbiNoEscape.same) (by kernel_rfl)];rw [Lib.run_noEscape];simp only [Result.andThen];rw [Oper.upon_value]
 go_wp2
 rw [Lib.run_from_unsafe w ⟨b,0,none⟩ Tryz.underlying236 Tryz.underlying103 hj hsh liesBld];simp only [Result.andThen];rw [Oper.upon_value]
 go_wp2
 go_end0
 exact ⟨rfl,rfl⟩
theorem copy_any (B b:Nat) (bs:List Value) (w:World) (h:IsB B b bs w) :
 Calls Tryz.prog 158 #[.pointer (some ⟨b,0,none⟩)] w fun e w'=>e=.returned (.tuple #[])∧(BAtB B b (.pointer (some ⟨b,0,none⟩)) bs w'∧Only (fun q=>q=b) w w'):=by
 rcases h with h | h
 · refine (copy_fresh b w h.cell0 h.shape h.frozen0).mono ?_;rintro e w' ⟨rfl,rfl⟩;exact ⟨rfl,h.used _,(Only.refl (F:=fun q=>q=b)).setF rfl _⟩
 · refine (copy_used b w h.cell0).mono ?_;rintro e w' ⟨rfl,rfl⟩;exact ⟨rfl,h,Only.refl⟩
structure KB (B b:Nat) (w w':World):Prop where
 below:Below B w w'
 keep:∀ q,q<w.heap.size→q≠b→(∀ cs fz,w.heap[q]?≠some (.cells cs 5 fz))→w'.heap[q]?=w.heap[q]?
theorem KB.refl {B b:Nat} {w:World}:KB B b w w:=⟨Br _ _,fun _ _ _ _=>rfl⟩
theorem KB.trans {B b:Nat} {w w' w'':World} (h:KB B b w w') (k:KB B b w' w''):KB B b w w'':=⟨h.below.trans k.below,fun q hq hb hn=>by
 have h1:=h.keep q hq hb hn;rw [←h1]
 exact k.keep q (lL hq h.below.size) hb (fun cs fz=>by rw [h1];exact hn cs fz)⟩
theorem KB.of_below {B b:Nat} {w w':World} (h:Below w.heap.size w w') (hB:B≤w.heap.size):KB B b w w':=⟨h.mono hB,fun q hq _ _=>h.block q hq⟩
theorem IsB.keep {B b:Nat} {l:List Value} {w w':World} (h:IsB B b l w) (hb:Below w.heap.size w w'):IsB B b l w':=by
 have key:∀ p,BAtB B b p l w→BAtB B b p l w':=fun p ⟨h1,v,h2,h3,h4⟩=>by
  have hlt:b<w.heap.size:=by
   rcases Nat.lt_or_ge b w.heap.size with h' | h'
   · exact h'
   · rw [Array.getElem?_eq_none h'] at h2;cases h2
  refine ⟨h1,v,(hb.block b hlt).trans h2,?_,h4⟩;refine ⟨h3.1,?_⟩
  rcases h3.2 with hn | ⟨g,cap,cur,rfl,hbb,hg,rest⟩
  · exact .inl hn
  · exact .inr ⟨g,cap,cur,rfl,hbb,(hb.block g (Array.getElem?_eq_some_iff.1 hg).1).trans hg,rest⟩
 rcases h with h | h
 · exact .inl (key _ h)
 · exact .inr (key _ h)
theorem IsB.lt {B b:Nat} {l:List Value} {w:World} (h:IsB B b l w):b<w.heap.size∧B≤b:=by
 have key:∀ p,BAtB B b p l w→b<w.heap.size∧B≤b:=fun p ⟨h1,v,h2,h3,h4⟩=>by
  refine ⟨?_,h1⟩
  rcases Nat.lt_or_ge b w.heap.size with h' | h'
  · exact h'
  · rw [Array.getElem?_eq_none h'] at h2;cases h2
 rcases h with h | h
 · exact key _ h
 · exact key _ h
theorem kb_write {B b:Nat} {w w1 w2:World} {v v':Value} {cs:List Value} {n:Nat} (ho:Only (fun q=>q=b) w w1) (hBb:B≤b) (hBw:B≤w.heap.size) (hown:w1.ownsRow B 5 1 v n cs) (hg:w1.grownBy w2 v.ownBlock):KB B b w (w2.setCell ⟨b,1,none⟩ v'):=by
 have hb1:Below B w w1:=ho.below (fun q hq=>by subst hq;exact hBb) hBw;have hb2:Below B w1 w2:=⟨hg.os,hg.tape,hg.output,hg.size,fun q hq=>hg.block q (by have:=hb1.size;omega) (fun e=>by have:=(hown.lt q e.symm).1;omega)⟩;refine ⟨(hb1.trans hb2).setCell (p:=⟨b,1,none⟩) hBb _,fun q hq hb hn=>?_⟩;rw [hO_ w2 ⟨b,1,none⟩ q v' (fun e=>hb e)];have h1:=ho.block q hq hb;rw [hg.block q (lL hq ho.size) ?_,h1];intro e
 rcases hown.2 with ⟨hv,_⟩ | ⟨g,cap,cur,hv,_,hgg,_⟩
 · rw [hv] at e;cases e
 · rw [hv] at e
   injection e with e
   have e':q=g:=e;subst e';rw [h1] at hgg;exact hn _ _ hgg
theorem wstring_any (B b:Nat) (l:Bs) (s:ByteArray) (w:World) (h:IsB B b (Lib.byteCells l) w) (hlen:l.length+s.size≤140737488355328) (hBw:B≤w.heap.size) :
 Calls Tryz.prog 102 #[.pointer (some ⟨b,0,none⟩),.string s] w fun e w'=>e=.returned (.tuple #[.int .i64 s.size,.nilIface])∧IsB B b (Lib.byteCells (l++s.data.toList)) w'∧KB B b w w':=by
 obtain ⟨i0,hi,hz0,hz1,hz2⟩:=info_parts infoU8;go_enter Tryz.func102,Tryz.ntmps102;go_wp2_with fail;refine (copy_any B b _ w h).mono ?_;rintro e w1 ⟨rfl,h1,ho1⟩;obtain ⟨hB,v,hbk,hown,hne⟩:=h1;have c0:w1.cell? ⟨b,0,none⟩=some (.pointer (some ⟨b,0,none⟩)):=by rw [Lib.cell_of_heap hbk];rfl
 have c1:w1.cell? ⟨b,1,none⟩=some v:=by rw [Lib.cell_of_heap hbk];rfl
 have hsz1:=ho1.size;have hlen':(Lib.byteCells l).length+s.size≤140737488355328:=by rw [Lib.byteCells_length];exact hlen
 have HLEN:=Hd hlen';clear hlen'
 go_wp2_with (at_builtin;refine Lib.wpList_append_own_string _ rfl _ _ 104 9 rfl B 5 i0 Tryz.underlying104 Tryz.underlying9 hi hz0 hz1 hz2 _ _ _ rfl hown s rfl ?c3 ?c4 ?c5 ?_)
 case c3=>have:=HLEN.out;unfold maxLen;omega
 case c4=>exact HLEN.out
 case c5=>omega
 intro v' w2 hown' hgrow _
 have hlt:b<w1.heap.size:=by
  rcases Nat.lt_or_ge b w1.heap.size with h' | h'
  · exact h'
  · simp [Array.getElem?_eq_none h'] at hbk
 have hb2:w2.heap[b]?=some (.cells #[.pointer (some ⟨b,0,none⟩),v] 106 (0,0)):=by
  rw [hgrow.block b hlt (fun e=>hne e.symm)];exact hbk
 have HKB:=Hd (kb_write (v':=v') ho1 hB hBw hown hgrow);have d0:w2.cell? ⟨b,0,none⟩=some (.pointer (some ⟨b,0,none⟩)):=by rw [Lib.cell_of_heap hb2];rfl
 have d1:w2.cell? ⟨b,1,none⟩=some v:=by rw [Lib.cell_of_heap hb2];rfl
 have f1:w2.frozen? ⟨b,1,none⟩=false:=Lib.frozen_of_heap hb2 1
 obtain ⟨ao,n',cap,rfl⟩:∃ ao n' cap,v'=.slice ao n' cap:=by
  rcases hown'.2 with ⟨hv,_⟩ | ⟨g,cap,cur,hv,_⟩
  · exact ⟨_,_,_,hv⟩
  · exact ⟨_,_,_,hv⟩
 go_wp2
 go_ret2
 refine ⟨rfl,.inr ?_,HKB.out⟩;have e1:Lib.byteCells (l++s.data.toList)=Lib.byteCells l++Lib.strCells s:=by simp [Lib.byteCells,Lib.strCells]
 rw [e1];exact Lib.BuilderAt.put (T:=106) (e:=5) hB hb2 (bs':=Lib.byteCells l++Lib.strCells s) (by simpa [Lib.strCells_length] using hown') (by decide)
theorem wbyte_any (B b:Nat) (l:Bs) (c:UInt8) (w:World) (h:IsB B b (Lib.byteCells l) w) (hlen:l.length+1≤140737488355328) (hBw:B≤w.heap.size) :
 Calls Tryz.prog 111 #[.pointer (some ⟨b,0,none⟩),.int .u8 (c.toNat:Int)] w fun e w'=>e=.returned .nilIface∧IsB B b (Lib.byteCells (l++[c])) w'∧KB B b w w':=by
 obtain ⟨i0,hi,hz0,hz1,hz2⟩:=info_parts infoU8;go_enter Tryz.func111,Tryz.ntmps111;go_wp2_with fail;refine (copy_any B b _ w h).mono ?_;rintro e w1 ⟨rfl,h1,ho1⟩;obtain ⟨hB,v,hbk,hown,hne⟩:=h1;have c0:w1.cell? ⟨b,0,none⟩=some (.pointer (some ⟨b,0,none⟩)):=by rw [Lib.cell_of_heap hbk];rfl
 have c1:w1.cell? ⟨b,1,none⟩=some v:=by rw [Lib.cell_of_heap hbk];rfl
 have hsz1:=ho1.size;have HLEN:=Hd (show (Lib.byteCells l).length+1≤140737488355328 by rw [Lib.byteCells_length];exact hlen)
 go_wp2_with (at_builtin;refine wpList_append_own _ rfl _ _ 104 rfl B 5 i0 (.int .u8 0) 1 1 Tryz.underlying104 hi hz0 hz1 hz2 rfl (by decide) _ _ _ rfl (hown.alloc _) ⟨w1.heap.size,0,none⟩ 1 1 [.int .u8 (c.toNat:Int)] rfl rfl ?c1 ?c2 ?c3 ?c4 ?c5 ?_)
 case c1=>
  intro j u hj
  match j,hj with
  | 0,hj=>simp at hj;subst hj;simp [Addr.add]
 case c2=>intro u hu;simp at hu;subst hu;rfl
 case c3=>have:=HLEN.out;unfold maxLen;omega
 case c4=>have:=HLEN.out;omega
 case c5=>simp;omega
 intro v' w2 hown' hgrow _
 have hlt:b<w1.heap.size:=by
  rcases Nat.lt_or_ge b w1.heap.size with h' | h'
  · exact h'
  · simp [Array.getElem?_eq_none h'] at hbk
 have hb2:w2.heap[b]?=some (.cells #[.pointer (some ⟨b,0,none⟩),v] 106 (0,0)):=by
  rw [hgrow.block b (by simp;omega) (fun e=>hne e.symm),Lib.alloc_old w1 _ b hlt];exact hbk
 have hgrow2:w1.grownBy w2 v.ownBlock:=⟨hgrow.os,hgrow.tape,hgrow.output,Nat.le_trans (by simp) hgrow.size,fun q hq hne=>(hgrow.block q (by simp;omega) hne).trans (heap_alloc_old w1 _ hq)⟩;have HKB:=Hd (kb_write (v':=v') ho1 hB hBw hown hgrow2);have d0:w2.cell? ⟨b,0,none⟩=some (.pointer (some ⟨b,0,none⟩)):=by rw [Lib.cell_of_heap hb2];rfl
 have d1:w2.cell? ⟨b,1,none⟩=some v:=by rw [Lib.cell_of_heap hb2];rfl
 have f1:w2.frozen? ⟨b,1,none⟩=false:=Lib.frozen_of_heap hb2 1
 obtain ⟨ao,n',cap,rfl⟩:∃ ao n' cap,v'=.slice ao n' cap:=by
  rcases hown'.2 with ⟨hv,_⟩ | ⟨g,cap,cur,hv,_⟩
  · exact ⟨_,_,_,hv⟩
  · exact ⟨_,_,_,hv⟩
 go_wp2
 go_ret;refine ⟨rfl,.inr ?_,HKB.out⟩;have e1:Lib.byteCells (l++[c])=Lib.byteCells l++[.int .u8 (c.toNat:Int)]:=by simp [Lib.byteCells]
 rw [e1];exact Lib.BuilderAt.put (T:=106) (e:=5) hB hb2 (bs':=Lib.byteCells l++[.int .u8 (c.toNat:Int)]) (by simpa using hown') (by decide)
theorem isName_false1 {l:Bs} (h:l=[]):isName l=false:=by subst h;rfl
theorem isName_form {l:Bs} (h:l≠[]):isName l=(decide (l.length≤24) && isLetter (l.headD 0) && decide (rowLen isInside l=l.length) && !isWord l):=by
 unfold isName;simp [h]
structure WordsT (w:World):Prop where
 size:0<w.heap.size
 words:∀ j,j<24→w.cell? ⟨0,j,none⟩=some (.string (wordL.getD j ByteArray.empty))
theorem WordsT.below {w w':World} (h:WordsT w) (hb:Below w.heap.size w w'):WordsT w':=
 ⟨lL h.size hb.size,fun j hj=>by rw [hb.cell (p:=⟨0,j,none⟩) h.size];exact h.words j hj⟩
theorem Tables.wordsT {w:World} (h:Tables w):WordsT w:=⟨by have:=h.size;show 0<_;omega,h.words⟩
theorem isw_any (s:ByteArray) (w:World) (hs:s.size≤maxLen) (hT:WordsT w):Calls Tryz.prog 101 #[.string s] w fun e w'=>e=.returned (.bool (isName (bs s)))∧w=w':=by
 have hs':=hs;unfold maxLen at hs';have HT:=Hd hT;clear hT
 by_cases h0:0<s.size
 · have hne:=bs_ne h0;have hd0:=drop_cons (bs_get h0);rw [List.drop_zero] at hd0;have hnm:=isName_form (l:=bs s) (by rw [hd0];simp);rw [bs_length,show (bs s).headD 0=s[0] from by rw [hd0];rfl] at hnm;have HN:=Hd hnm;clear hnm hd0;have hrow:=row_inside s;have HROW:=Hd hrow;clear hrow;have hct:=Tryz.slices_Contains_string 0 0 24 24 wordL s w (by decide) (by decide) (fun j hj=>by rw [Nat.zero_add];exact HT.out.words j hj)
   rw [show Lib.containsS (wordL.take 24) s=isWord (bs s) from by
    unfold isWord
    rw [show wordL.take 24=wordL from rfl,show (⟨(bs s).toArray⟩:ByteArray)=s from bs_ext rfl]] at hct
   have HC:=Hd hct;clear hct
   by_cases h24:s.size≤24
   · have h24':(s.size:Int)≤24:=by omega
     have HL:=Hd (letter_any s[0]);cases hle:isLetter s[0]
     · rw [hle] at HL;have HV:=Hd (show isName (bs s)=false from by rw [HN.out,hle];simp);clear hle;go_enter Tryz.func101,Tryz.ntmps101;go_wp2_with fail;refine (HL.out _).mono ?_;rintro e w3 ⟨rfl,hw⟩;rw [←hw];clear hw
       go_wp2
       go_ret;exact ⟨by rw [HV.out];rfl,rfl⟩
     · rw [hle] at HL
       by_cases hr:rowLen isInside (bs s)=s.size
       · have HV:=Hd (show isName (bs s)=!isWord (bs s) from by rw [HN.out,hle,hr];simp [h24]);rw [hr] at HROW;clear hle hr;cases hw:isWord (bs s)
         all_goals
          rw [hw] at HC HV;clear hw;go_enter Tryz.func101,Tryz.ntmps101;go_wp2_with fail;refine (HL.out _).mono ?_;rintro e w3 ⟨rfl,hw⟩;rw [←hw];clear hw;go_wp2_with fail;refine (HROW.out _ (by unfold maxLen;omega)).mono ?_;rintro e w3 ⟨rfl,hw⟩;rw [←hw];clear hw;go_wp2_with fail;refine (HC.out).mono ?_;rintro e w3 ⟨rfl,hw⟩;rw [hw];clear hw
          go_wp2
          go_ret;exact ⟨by rw [HV.out];rfl,rfl⟩
       · have HV:=Hd (show isName (bs s)=false from by rw [HN.out];simp [hr]);obtain ⟨n,hn⟩:=ex_ (rowLen isInside (bs s));rw [←hn] at HROW hr;clear hn hle;have hr':¬(n:Int)=(s.size:Int):=by omega
         go_enter Tryz.func101,Tryz.ntmps101;go_wp2_with fail;refine (HL.out _).mono ?_;rintro e w3 ⟨rfl,hw⟩;rw [←hw];clear hw;go_wp2_with fail;refine (HROW.out _ (by unfold maxLen;omega)).mono ?_;rintro e w3 ⟨rfl,hw⟩;rw [←hw];clear hw
         go_wp2
         go_ret;exact ⟨by rw [HV.out];rfl,rfl⟩
   · have HV:=Hd (show isName (bs s)=false from by rw [HN.out];simp [h24]);have h24':¬(s.size:Int)≤24:=by omega
     clear h24;go_enter Tryz.func101,Tryz.ntmps101
     go_wp2
     go_ret;exact ⟨by rw [HV.out];rfl,rfl⟩
 · have hnil:bs s=[]:=List.eq_nil_of_length_eq_zero (by rw [bs_length];omega);have hte:s=⟨#[]⟩:=bs_ext hnil;rw [isName_false1 hnil];subst hte;clear hnil h0 hs hs';go_enter Tryz.func101,Tryz.ntmps101
   go_wp2
   go_ret;exact ⟨rfl,rfl⟩
set_option maxHeartbeats 8000000
mutual
def toldT:Tm→Bool
 | .mk o n s l=>if (o=6∨o=7)∧l.length=1 then false else if o=3∨o=4 then isName s.data.toList else toldL l
def toldL:List Tm→Bool
 | []=>true
 | t :: r=>toldT t && toldL r
end
theorem toldT_eq (t:Tm):toldT t=if (t.op=6∨t.op=7)∧t.kids.length=1 then false else if t.op=3∨t.op=4 then isName t.name.data.toList else toldL t.kids:=by
 cases t;rw [toldT];rfl
theorem told_any:∀ (N:Nat) (t:Tm) (A:Option Addr) (c:Nat) (w:World),t.size≤N→t.size≤9000000→TmV w A c t→WordsT w →
 Calls Tryz.prog 63 #[t.val A c] w fun e w'=>e=.returned (.bool (toldT t))∧Below w.heap.size w w'
 | 0,t,A,c,w,hN,_,_,_=>by cases t;rw [Tm.size] at hN;omega
 | N+1,t,A,c,w,hN,hd,hV,hT=>by
  obtain ⟨n,hn⟩:=ex_ t.kids.length;have hcap:=hV.cap;have hcapm:=hV.capm;unfold maxLen at hcapm
  have hnl:n≤10000000:=by
   have:t.kids.length≤Tm.sizeL t.kids:=Tm.len_le t.kids
   cases t with
   | mk o nn ss l=>rw [Tm.size] at hd;simp only [Tm.kids] at this hn;omega
  have HSZ:Hid (∀ k∈t.kids,k.size≤N∧k.size≤9000000):=fun k hk=>by
   have h1:=Tm.sizeL_mem hk
   cases t with
   | mk o nn ss l=>rw [Tm.size] at hN hd;simp only [Tm.kids] at h1;omega
  have hb1:Below w.heap.size w (w.alloc (.cells #[.int .i64 t.op,.int .i64 t.num,.string t.name,.slice A t.kids.length c] 25)):=(Br _ _).alloc (lr _) _;have his:=isw_any t.name (w.alloc (.cells #[.int .i64 t.op,.int .i64 t.num,.string t.name,.slice A t.kids.length c] 25)) hV.name (hT.below hb1);have HB1:=Hd hb1;have HIS:=Hd his;have HV:=Hd hV;have HT:=Hd hT;have HN:=Hd hn;obtain ⟨r,hr⟩:=ex_ (toldT t);rw [←hr];have hre:=toldT_eq t;rw [←hr,←hn] at hre;have HRE:=Hd hre;unfold Tm.val;rw [←hn] at HB1 HIS hcap ⊢;clear hb1 his hV hT hn hr hre hN;obtain ⟨op,hop⟩:=ex_ t.op;rw [←hop] at HB1 HIS HRE ⊢
  have hcl:((op=6∨op=7)∧n=1)∨(op=3∨op=4)∨(op=6∧n≠1∧((n:Int) == 1)=false)∨(op=7∧n≠1∧((n:Int) == 1)=false)∨(op≠6∧op≠7∧op≠3∧op≠4∧(op == 6)=false∧(op == 7)=false∧(op == 3)=false∧(op == 4)=false):=by
   by_cases h6:op=6
   · by_cases h1:n=1
     · exact .inl ⟨.inl h6,h1⟩
     · exact .inr (.inr (.inl ⟨h6,h1,by simp;omega⟩))
   by_cases h7:op=7
   · by_cases h1:n=1
     · exact .inl ⟨.inr h7,h1⟩
     · exact .inr (.inr (.inr (.inl ⟨h7,h1,by simp;omega⟩)))
   by_cases h3:op=3
   · exact .inr (.inl (.inl h3))
   by_cases h4:op=4
   · exact .inr (.inl (.inr h4))
   exact .inr (.inr (.inr (.inr ⟨h6,h7,h3,h4,by simpa using h6,by simpa using h7,by simpa using h3,by simpa using h4⟩)))
  clear hop
  rcases hcl with ⟨h67,h1⟩ | h34 | hrest
  · have HR:Hid (r=false):=by show _=_;rw [HRE.out,iP ⟨h67,h1⟩]
    subst h1
    rcases h67 with rfl | rfl
    all_goals
     go_enter Tryz.func63,Tryz.ntmps63;go_wp2_with fail;go_ret;rw [HR.out];exact ⟨rfl,HB1.out⟩
  · have HR:Hid (r=isName t.name.data.toList):=by
     show _=_;rw [HRE.out,iN (by omega),iP h34]
    rcases h34 with rfl | rfl
    all_goals
     go_enter Tryz.func63,Tryz.ntmps63;go_wp2_with fail;refine (HIS.out).mono ?_;rintro e w1 ⟨rfl,hw⟩;rw [←hw];clear hw;go_wp2_with fail;go_ret;rw [HR.out];exact ⟨rfl,HB1.out⟩
  · have HR:Hid (r=toldL t.kids):=by
     show _=_;rw [HRE.out,iN (by omega),iN (by omega)]
    rcases hrest with ⟨rfl,h1,h1b⟩ | ⟨rfl,h1,h1b⟩ | ⟨h6,h7,h3,h4,b6,b7,b3,b4⟩
    all_goals
     (try clear h1)
     (try clear h6 h7 h3 h4)
     go_enter Tryz.func63,Tryz.ntmps63;go_wp2_with fail
     go_loopw [23] (fun si wr=>∃ k:Nat,k≤n∧si=.int .i64 k∧Below w.heap.size w wr∧toldL (t.kids.drop k)=r) (fun i _=>n - (intOf i).toNat)
     case atStart=>exact ⟨0,zl _,rfl,HB1.out,HR.out.symm⟩
     case round=>
      obtain ⟨k,hk,rfl,hbel,htl⟩:=hrel;have HBL:=Hd hbel;have HTL:=Hd htl;have hszr:=hbel.size;clear hbel htl
      by_cases hlt:k<n
      · obtain ⟨kd,hkd⟩:∃ kd,t.kids[k]?=some kd:=⟨_,gG (by have:=HN.out;omega)⟩;have hmem:kd∈t.kids:=mG hkd
        rcases HV.out.kids with h9 | ⟨g,off,rfl,hg,hrow⟩
        · rw [h9] at hkd;simp at hkd
        obtain ⟨q0,q1,q2,A2,c2,q3,hV2⟩:=(hrow.get hkd).open;rw [←HBL.out.cell (p:=⟨g,_,none⟩) hg] at q0 q1 q2 q3;have hgw:g<wr.heap.size:=by omega
        obtain ⟨n2,HN2⟩:=exh_ kd.kids.length;rw [←HN2.out] at q3
        have HDR:Hid (t.kids.drop k=kd :: t.kids.drop (k+1)):=by
         obtain ⟨hj,hj2⟩:=gE.1 hkd;show _=_;rw [List.drop_eq_getElem_cons hj,hj2]
        have hk0:(0:Int)≤(k:Int):=by omega
        have hk1:(k:Int)<(n:Int):=by omega
        have e1:off+4*k=off+k*4:=by omega
        rw [e1] at q0 q1 q2 q3;have hbk:Below wr.heap.size wr (wr.alloc (.cells #[.int .i64 kd.op,.int .i64 kd.num,.string kd.name,.slice A2 n2 c2] 25)):=(Br _ _).alloc (lr _) _;have HBK:=Hd (HBL.out.trans (hbk.mono hszr));have HIH:=Hd (told_any N kd A2 c2 (wr.alloc (.cells #[.int .i64 kd.op,.int .i64 kd.num,.string kd.name,.slice A2 n2 c2] 25)) (HSZ.out kd hmem).1 (HSZ.out kd hmem).2 (hV2.below HBK.out rfl) (HT.out.below HBK.out));unfold Tm.val at HIH;rw [←HN2.out] at HIH;have hszk:=HBK.out.size;obtain ⟨z,HZ⟩:=exh_ (toldT kd);rw [←HZ.out] at HIH;clear hkd hmem hrow hV2 e1 hbk;go_wp2_with fail;refine (HIH.out).mono ?_;rintro e w2 ⟨rfl,hb2⟩;have HB2:=Hd (HBK.out.trans (hb2.mono hszk));clear hb2
        have HS:Hid (toldL (t.kids.drop k)=(z && toldL (t.kids.drop (k+1)))):=by
         show _=_;rw [HDR.out,toldL,←HZ.out]
        cases z with
        | false=>
         have HRF:Hid (r=false):=by show _=_;rw [←HTL.out,HS.out];rfl
         go_wp2_with fail;go_ret;rw [HRF.out];exact ⟨rfl,HB2.out⟩
        | true=>
         go_wp2_with fail
         go_roundw
         case rel=>exact ⟨k+1,by omega,by go_num,HB2.out,by rw [←HTL.out,HS.out];rfl⟩
         case measure=>first | (simp [intOf];done) | (simp [intOf];omega)
      · have HRT:Hid (r=true):=by
         show _=_;rw [←HTL.out,List.drop_eq_nil_of_le (by have:=HN.out;omega)]
         rfl
        have hk1:¬(k:Int)<(n:Int):=by omega
        go_wp2_with fail;go_ret;rw [HRT.out];exact ⟨rfl,HBL.out⟩
theorem ruleOf_any (op:Int) (w:World) :
 Calls Tryz.prog 110 #[.int .i64 op] w fun e w'=>e=.returned (.int .i64 (ruleOf op:Nat))∧w=w':=by
 obtain ⟨r,HR⟩:=exh_ (ruleOf op);rw [←HR.out];go_enter Tryz.func110,Tryz.ntmps110
 go_wp2
 all_goals
  go_ret;rw [HR.out];refine ⟨?_,rfl⟩
  simp_all [ruleOf]
theorem asks_any (op:Int) (i:Nat) (w:World) (hi:i≤1000000) (hi2:op=8→i≤2) :
 Calls Tryz.prog 113 #[.int .i64 op,.int .i64 (i:Nat)] w fun e w'=>e=.returned (.int .i64 (asksN op i:Nat))∧w=w':=by
 obtain ⟨r,HR⟩:=exh_ (asksN op i);rw [←HR.out];have HI2:=Hd hi2;clear hi2;go_enter Tryz.func113,Tryz.ntmps113
 go_wp2
 all_goals
  go_ret;rw [HR.out];have hi2:=HI2.out;refine ⟨?_,rfl⟩
  first
   | (simp_all [asksN];done)
   | (simp_all [asksN];omega)
theorem signOf_any (op:Int) (w:World) :
 Calls Tryz.prog 112 #[.int .i64 op] w fun e w'=>e=.returned (.string ⟨(signB op).toArray⟩)∧w=w':=by
 obtain ⟨r,HR⟩:=exh_ (signB op);rw [←HR.out];go_enter Tryz.func112,Tryz.ntmps112
 go_wp2
 all_goals
  go_ret;rw [HR.out];refine ⟨?_,rfl⟩
  simp_all [signB]
end Go.Proofs.YtnbphgeepnknlaaGreatDoor
