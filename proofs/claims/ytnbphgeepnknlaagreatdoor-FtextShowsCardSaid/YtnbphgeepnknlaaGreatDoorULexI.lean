/- Walks and plain words: LexI RefB. -/
import Derived.Test.YtnbphgeepnknlaaGreatDoorURefA
import Derived.Test.YtnbphgeepnknlaaGreatDoorUTrmI
namespace Go.Proofs.YtnbphgeepnknlaaGreatDoor
open Go.RowKit
set_option linter.unusedVariables false
set_option maxRecDepth 100000
set_option maxHeartbeats 4000000
theorem StrsAt.belowB {w w':World} {B:Nat} {A:Option Addr} {l:List ByteArray} (h:StrsAt w A l) (hb:Below B w w') (hB:B=w.heap.size):StrsAt w' A l:=by
 rcases h with h | ⟨b,off,rfl,hlt,hc⟩
 · exact .inl h
 · exact .inr ⟨b,off,rfl,lL hlt hb.size,fun j hj=>by rw [hb.cell (p:=⟨b,_,none⟩) (by subst hB;exact hlt)];exact hc j hj⟩
theorem strs_of_own {w:World} {base:Nat} {v:Value} {T:TypeId} {l:List ByteArray} (h:w.ownsRow base T 1 v l.length (l.map Value.string)):∃ A c,v=.slice A l.length c∧StrsAt w A l:=by
 rcases h.2 with ⟨rfl,hn⟩ | ⟨g,cap,cur,rfl,hb,hg,_⟩
 · exact ⟨none,0,by rw [hn],.inl (List.eq_nil_of_length_eq_zero hn)⟩
 · refine ⟨_,_,rfl,.inr ⟨g,0,rfl,(h.lt g rfl).2,fun j hj=>?_⟩⟩;have:=h.cells (g:=g) rfl j (.string (l.getD j ByteArray.empty)) (by rw [List.getElem?_map];simp [List.getD,hj]);rw [addr_add] at this;exact this
theorem ris_any (s:ByteArray) (w:World) (hs:s.size≤1000000):Calls Tryz.prog 104 #[.string s] w fun e w'=>e=.returned (.bool (isName (bs s)))∧Below w.heap.size w w':=by
 by_cases h0:0<s.size
 · have hd0:=drop_cons (bs_get h0);rw [List.drop_zero] at hd0;have hnm:=isName_form (l:=bs s) (by rw [hd0];simp);rw [bs_length,show (bs s).headD 0=s[0] from by rw [hd0];rfl] at hnm;have HN:=Hd hnm;clear hnm hd0;have h0':(1:Int)≤(s.size:Int):=by omega
   have hrow:=rrow_any s 0 false w hs (zl _);rw [show rowP false=isInside from rfl,List.drop_zero,Nat.zero_add] at hrow;have HROW:=Hd hrow;clear hrow
   by_cases h24:s.size≤24
   · have h24':(s.size:Int)≤24:=by omega
     have HL:=Hd (rletter_any s[0]);cases hle:isLetter s[0]
     · rw [hle] at HL;have HV:=Hd (show isName (bs s)=false from by rw [HN.out,hle];simp);clear hle;go_enter Tryz.func104,Tryz.ntmps104;go_wp2_with fail;refine (HL.out _).mono ?_;rintro e w3 ⟨rfl,hw⟩;rw [←hw];clear hw
       go_wp2
       go_ret;exact ⟨by rw [HV.out];rfl,Br _ _⟩
     · rw [hle] at HL
       by_cases hr:rowLen isInside (bs s)=s.size
       · have HV:=Hd (show isName (bs s)=!isWord (bs s) from by rw [HN.out,hle,hr];simp [h24]);rw [hr] at HROW
         have hwd:Lib.containsS wordL s=isWord (bs s):=by
          unfold isWord;rw [show (⟨(bs s).toArray⟩:ByteArray)=s from bs_ext rfl]
         have hcw:∀ j,j<wordL.length→(w.alloc (.cells (wordL.map Value.string).toArray 9)).cell? ⟨w.heap.size,0+j,none⟩=some (.string (wordL.getD j ByteArray.empty)):=fun j hj=>by
          rw [Nat.zero_add,World.cell?_alloc_at _ _ _ _ rfl];simp [List.getD,hj]
         have hca:=ramong_any w.heap.size 0 24 wordL s (w.alloc (.cells (wordL.map Value.string).toArray 9)) (by decide) hcw;rw [hwd] at hca;have HC:Hid (Calls Tryz.prog 130 #[.slice (some ⟨w.heap.size,0,none⟩) 24 24,.string s] (w.alloc (.cells (wordL.map Value.string).toArray 9)) fun e w'=>e=.returned (.bool (isWord (bs s)))∧(w.alloc (.cells (wordL.map Value.string).toArray 9))=w'):=hca;obtain ⟨W,hW⟩:=ex_ (w.alloc (.cells (wordL.map Value.string).toArray 9));have HBW:Hid (Below w.heap.size w W):=by rw [hW];exact (Br _ _).alloc (lr _) _
         have HRW:=Hd (rwords_any w);rw [←hW] at HC HRW;clear hle hr hcw hca hwd hW;cases hw:isWord (bs s)
         all_goals
          rw [hw] at HC HV;clear hw;go_enter Tryz.func104,Tryz.ntmps104;go_wp2_with fail;refine (HL.out _).mono ?_;rintro e w3 ⟨rfl,hw⟩;rw [←hw];clear hw;go_wp2_with fail;refine (HROW.out).mono ?_;rintro e w3 ⟨rfl,hw⟩;rw [←hw];clear hw;go_wp2_with fail;refine (HRW.out).mono ?_;rintro e w3 ⟨rfl,hw⟩;rw [hw];clear hw;go_wp2_with fail;refine (HC.out).mono ?_;rintro e w3 ⟨rfl,hw⟩;rw [←hw];clear hw
          go_wp2
          go_ret;exact ⟨by rw [HV.out];rfl,HBW.out⟩
       · have HV:=Hd (show isName (bs s)=false from by rw [HN.out];simp [hr]);obtain ⟨n,hn⟩:=ex_ (rowLen isInside (bs s));rw [←hn] at HROW hr;clear hn hle;have hr':¬(n:Int)=(s.size:Int):=by omega
         go_enter Tryz.func104,Tryz.ntmps104;go_wp2_with fail;refine (HL.out _).mono ?_;rintro e w3 ⟨rfl,hw⟩;rw [←hw];clear hw;go_wp2_with fail;refine (HROW.out).mono ?_;rintro e w3 ⟨rfl,hw⟩;rw [←hw];clear hw
         go_wp2
         go_ret;exact ⟨by rw [HV.out];rfl,Br _ _⟩
   · have HV:=Hd (show isName (bs s)=false from by rw [HN.out];simp [h24]);have h24':¬(s.size:Int)≤24:=by omega
     clear h24;go_enter Tryz.func104,Tryz.ntmps104
     go_wp2
     go_ret;exact ⟨by rw [HV.out];rfl,Br _ _⟩
 · have hnil:bs s=[]:=List.eq_nil_of_length_eq_zero (by rw [bs_length];omega);have hte:s=⟨#[]⟩:=bs_ext hnil;rw [isName_false1 hnil];subst hte;clear hnil h0 hs;go_enter Tryz.func104,Tryz.ntmps104
   go_wp2
   go_ret;exact ⟨rfl,Br _ _⟩
set_option maxHeartbeats 8000000
theorem tLRefB {o:Array Oper} {i:Nat} {x:Oper} (h:o.toList[i]?=some x):o[i]?=some x:=by simpa using h
def InQ (l:List ByteArray) (w:World) (e:Ending) (w':World):Prop:=∃ b,e=.returned (.bool b)∧(b=true→0<l.length)∧w=w'
theorem rin_any (A:Option Addr) (c:Nat) (l:List ByteArray) (s:ByteArray) (w:World) (hl:l.length≤10000000) (hA:StrsAt w A l) :
 Calls Tryz.prog 228 #[.slice A l.length c,.string s] w (InQ l w):=by
 obtain ⟨n,HN⟩:=exh_ l.length;obtain ⟨F,HF⟩:=exh_ (InQ l w);rw [←HN.out] at hl ⊢;rw [←HF.out];have HAA:=Hd hA;clear hA;go_enter Tryz.func228,Tryz.ntmps228
 go_wp2
 go_loop [5] (fun i=>∃ k:Nat,k≤n∧i=.int .i64 k) (fun i=>n - (intOf i).toNat)
 case atStart=>exact ⟨0,zl _,rfl⟩
 case round=>
  obtain ⟨k,hk,rfl⟩:=hrel
  by_cases hlt:k<n
  · rcases HAA.out with h0 | ⟨b,off,rfl,hb,hc⟩
    · exfalso
      have:=HN.out;rw [h0] at this;simp at this;omega
    have x0:=hc k (by have:=HN.out;omega);clear hc
    generalize l.getD k ByteArray.empty=x at *
    have hk0:(0:Int)≤(k:Int):=by omega
    have hk1:(k:Int)<(n:Int):=by omega
    have HP:Hid (0<n):=by show 0<n;omega
    cases hq:(x.toList == s.toList)
    · go_wp2_with fail
      go_round
      case rel=>exact ⟨k+1,by omega,by go_num⟩
      case measure=>simp [intOf];omega
    · go_wp2_with fail;rw [HF.out];exact ⟨true,rfl,(fun _=>by rw [←HN.out];exact HP.out),rfl⟩
  · have hk1:¬(k:Int)<(n:Int):=by omega
    go_wp2
    rw [HF.out];exact ⟨false,rfl,(fun h=>by cases h),rfl⟩
def WithQ (l:List ByteArray) (w:World) (e:Ending) (w':World):Prop:=∃ A' c' L',e=.returned (.slice A' L'.length c')∧StrsAt w' A' L'∧0<L'.length∧L'.length≤l.length+1∧Below w.heap.size w w'
theorem own_shape {w:World} {B:Nat} {T:TypeId} {v:Value} {n:Nat} {xs:List Value} (h:w.ownsRow B T 1 v n xs):∃ a cap,v=.slice a n cap:=by
 rcases h.2 with ⟨rfl,rfl⟩ | ⟨g,cap,cur,rfl,_⟩
 · exact ⟨_,_,rfl⟩
 · exact ⟨_,_,rfl⟩
theorem with_below {w w2 w3:World} {o:Obj} {v:Value} {n:Nat} {xs:List Value} {T:TypeId} (hb:Below w.heap.size w w2) (ho:w2.ownsRow w.heap.size T 1 v n xs) (hg:(w2.alloc o).grownBy w3 v.ownBlock):Below w.heap.size w w3:=
 (hb.alloc hb.size o).grown hg (by simp;have:=hb.size;omega) fun k hk=>(ho.lt k hk).1
theorem rwith_any (A:Option Addr) (c:Nat) (l:List ByteArray) (s:ByteArray) (w:World) (hl:l.length≤10000000) (hA:StrsAt w A l) :
 Calls Tryz.prog 218 #[.slice A l.length c,.string s] w (WithQ l w):=by
 obtain ⟨i0,hi,hz0,hz1,hz2⟩:=info_parts infoStr;have hin:=rin_any A c l s w hl hA;obtain ⟨n,HN⟩:=exh_ l.length;obtain ⟨F,HF⟩:=exh_ (WithQ l w);rw [←HN.out] at hl hin ⊢;rw [←HF.out];have HAA:=Hd hA;have HIN:=Hd hin;clear hA hin;go_enter Tryz.func218,Tryz.ntmps218;go_wp2_with fail;refine (HIN.out).mono ?_;rintro e w1 ⟨b,rfl,hb,hw⟩;rw [←hw];have HBP:=Hd hb;clear hw hb
 cases b with
 | true=>
  go_wp2_with fail;rw [HF.out];exact ⟨A,c,l,by rw [←HN.out];rfl,HAA.out,HBP.out trivial,by omega,Br _ _⟩
 | false=>
  go_wp2_with fail
  go_loopw [5,6,7] (fun so sd si wr=>∃ (k m:Nat) (dn:Bool) (ys:List ByteArray),k≤n∧si=.int .i64 k∧sd=.bool dn∧m=k+dn.toNat∧ys.length=m∧wr.ownsRow w.heap.size 9 1 so m (ys.map Value.string)∧Below w.heap.size w wr) (fun _ _ si _=>n - (intOf si).toNat)
  case atStart=>exact ⟨0,0,false,[],zl _,rfl,rfl,rfl,rfl,World.ownsRow_made w #[] 0 (lr _) (zl _) rfl,(Br _ w).alloc (lr _) _⟩
  case round=>
   obtain ⟨k,m,dn,ys,hk,rfl,rfl,hm,hys,hown,hbel⟩:=hrel;obtain ⟨sa,scap,hsv⟩:=own_shape hown;subst hsv;have HB:=Hd hbel;have HO:=Hd hown;have HYS:=Hd hys;have HM:=Hd hm;have hszr:=hbel.size;have hm1:m≤k+1:=by rw [hm];cases dn <;> simp
   have hm2:k≤m:=by rw [hm];cases dn <;> simp
   clear hys hm
   by_cases hlt:k<n
   · rcases HAA.out with h0 | ⟨b,off,rfl,hb,hc⟩
     · exfalso
       have:=HN.out;rw [h0] at this;simp at this;omega
     have x0:=hc k (by have:=HN.out;omega);have X0:=Hd x0;rw [←hbel.cell (p:=⟨b,_,none⟩) hb] at x0;have hbr:b<wr.heap.size:=by omega
     have HBW:=Hd hb;clear hc
     generalize l.getD k ByteArray.empty=x at *
     have hk0:(0:Int)≤(k:Int):=by omega
     have hk1:(k:Int)<(n:Int):=by omega
     clear hbel hown
     cases dn with
     | true=>
      have HM2:Hid (m=k+1):=HM.out
      go_wp2_with (at_builtin;refine wpList_append_lies _ (by rfl) _ _ _ (by rfl) w.heap.size 9 i0 (.string ⟨#[]⟩) 1 16 Tryz.underlying48 hi hz0 hz1 hz2 rfl (by decide) _ (m) _ (by rfl) (HO.out.alloc _) ⟨wr.heap.size,0,none⟩ 1 1 [.string x] (by rfl) rfl (World.news_of_block (hA_ wr _)) (fun u hu=>by rw [List.mem_singleton.1 hu];rfl) (by decide) ?c3 ?c4 ?c5 (wr.heap.size+1) (by simp) ?_)
      case c3=>unfold maxLen;omega
      case c4=>omega
      case c5=>first | omega | (simp;omega)
      intro g3 cap3 w3 hown3 hgrow3 hat3 hlt3
      have HO3:Hid (w3.ownsRow w.heap.size 9 1 (.slice (some ⟨g3,0,none⟩) (m+1) cap3) (m+1) ((ys++[x]).map Value.string)):=by
       show World.ownsRow _ _ _ _ _ _ _;rw [List.map_append,List.map_singleton];exact hown3
      have hbw3:=with_below HB.out HO.out hgrow3;have hsz3:=hbw3.size;have HBW3:=Hd hbw3;clear hown3 hgrow3 hat3 hbw3;go_wp2_with fail
      go_roundw
      case rel=>exact ⟨k+1,m+1,true,ys++[x],by omega,by go_num,rfl,by rw [HM2.out];rfl,by simp [HYS.out],HO3.out,HBW3.out⟩
      case measure=>simp [intOf];omega
     | false=>
      have HM2:Hid (m=k):=HM.out
      have hgt:(Op.bytesLess x.toList s.toList=false∧(x.toList == s.toList)=false)∨Op.bytesLess x.toList s.toList=true∨(Op.bytesLess x.toList s.toList=false∧(x.toList == s.toList)=true):=by
       cases Op.bytesLess x.toList s.toList <;> cases (x.toList == s.toList) <;> simp
      rcases hgt with ⟨g1,g2⟩ | hgt
      · go_wp2_with (at_builtin;refine wpList_append_lies _ (by rfl) _ _ _ (by rfl) w.heap.size 9 i0 (.string ⟨#[]⟩) 1 16 Tryz.underlying48 hi hz0 hz1 hz2 rfl (by decide) _ (m) _ (by rfl) (HO.out.alloc _) ⟨wr.heap.size,0,none⟩ 1 1 [.string s] (by rfl) rfl (World.news_of_block (hA_ wr _)) (fun u hu=>by rw [List.mem_singleton.1 hu];rfl) (by decide) ?c3 ?c4 ?c5 (wr.heap.size+1) (by simp) ?_)
        case c3=>unfold maxLen;omega
        case c4=>omega
        case c5=>first | omega | (simp;omega)
        intro g2 cap2 w2 hown2 hgrow2 hat2 hlt2
        have HO2:Hid (w2.ownsRow w.heap.size 9 1 (.slice (some ⟨g2,0,none⟩) (m+1) cap2) (m+1) ((ys++[s]).map Value.string)):=by
         show World.ownsRow _ _ _ _ _ _ _;rw [List.map_append,List.map_singleton];exact hown2
        have hbw2:=with_below HB.out HO.out hgrow2;have hsz2:=hbw2.size;have HBW2:=Hd hbw2;clear hown2 hgrow2 hat2 hbw2;have y0:w2.cell? ⟨b,off+k,none⟩=some (.string x):=by rw [HBW2.out.cell (p:=⟨b,_,none⟩) HBW.out];exact X0.out
        have hb2:b<w2.heap.size:=by have:=HBW.out;omega
        clear x0
        go_wp2_with (at_builtin;refine wpList_append_lies _ (by rfl) _ _ _ (by rfl) w.heap.size 9 i0 (.string ⟨#[]⟩) 1 16 Tryz.underlying48 hi hz0 hz1 hz2 rfl (by decide) _ (m+1) _ (by rfl) (HO2.out.alloc _) ⟨w2.heap.size,0,none⟩ 1 1 [.string x] (by rfl) rfl (World.news_of_block (hA_ w2 _)) (fun u hu=>by rw [List.mem_singleton.1 hu];rfl) (by decide) ?c3 ?c4 ?c5 (w2.heap.size+1) (by simp) ?_)
        case c3=>unfold maxLen;omega
        case c4=>omega
        case c5=>first | omega | (simp;omega)
        intro g4 cap4 w4 hown4 hgrow4 hat4 hlt4
        have HO4:Hid (w4.ownsRow w.heap.size 9 1 (.slice (some ⟨g4,0,none⟩) (m+1+1) cap4) (m+1+1) (((ys++[s])++[x]).map Value.string)):=by
         show World.ownsRow _ _ _ _ _ _ _;rw [List.map_append,List.map_singleton]
         simpa using hown4
        have hbw4:=with_below HBW2.out HO2.out hgrow4;have hsz4:=hbw4.size;have HBW4:=Hd hbw4;clear hown4 hgrow4 hat4 hbw4;go_wp2_with fail
        go_roundw
        case rel=>exact ⟨k+1,m+1+1,true,ys++[s]++[x],by omega,by go_num,rfl,by rw [HM2.out];rfl,by simp [HYS.out],HO4.out,HBW4.out⟩
        case measure=>simp [intOf];omega
      · rcases hgt with g1 | ⟨g1,g2⟩
        all_goals
         go_wp2_with (at_builtin;refine wpList_append_lies _ (by rfl) _ _ _ (by rfl) w.heap.size 9 i0 (.string ⟨#[]⟩) 1 16 Tryz.underlying48 hi hz0 hz1 hz2 rfl (by decide) _ (m) _ (by rfl) (HO.out.alloc _) ⟨wr.heap.size,0,none⟩ 1 1 [.string x] (by rfl) rfl (World.news_of_block (hA_ wr _)) (fun u hu=>by rw [List.mem_singleton.1 hu];rfl) (by decide) ?c3 ?c4 ?c5 (wr.heap.size+1) (by simp) ?_)
         case c3=>unfold maxLen;omega
         case c4=>omega
         case c5=>first | omega | (simp;omega)
         intro g3 cap3 w3 hown3 hgrow3 hat3 hlt3
         have HO3:Hid (w3.ownsRow w.heap.size 9 1 (.slice (some ⟨g3,0,none⟩) (m+1) cap3) (m+1) ((ys++[x]).map Value.string)):=by
          show World.ownsRow _ _ _ _ _ _ _;rw [List.map_append,List.map_singleton];exact hown3
         have hbw3:=with_below HB.out HO.out hgrow3;have hsz3:=hbw3.size;have HBW3:=Hd hbw3;clear hown3 hgrow3 hat3 hbw3;go_wp2_with fail
         go_roundw
         case rel=>exact ⟨k+1,m+1,false,ys++[x],by omega,by go_num,rfl,by rw [HM2.out];rfl,by simp [HYS.out],HO3.out,HBW3.out⟩
         case measure=>simp [intOf];omega
   · have hk1:¬(k:Int)<(n:Int):=by omega
     have hkn:k=n:=by omega
     have HKN:=Hd hkn;clear hkn hbel hown
     cases dn with
     | true=>
      have HM2:Hid (m=k+1):=HM.out;go_wp2_with fail;rw [HF.out];obtain ⟨A',c',hv,hs⟩:=strs_of_own (by rw [HYS.out];exact HO.out);rw [HYS.out] at hv;exact ⟨A',c',ys,by first | (rw [hv,HYS.out];done) | (rw [hv,HYS.out];rfl),hs,by rw [HYS.out];have:=HM2.out;omega,by rw [HYS.out,HM2.out,HKN.out,←HN.out];exact lr _,HB.out⟩
     | false=>
      have HM2:Hid (m=k):=HM.out
      go_wp2_with (at_builtin;refine wpList_append_lies _ (by rfl) _ _ _ (by rfl) w.heap.size 9 i0 (.string ⟨#[]⟩) 1 16 Tryz.underlying48 hi hz0 hz1 hz2 rfl (by decide) _ (m) _ (by rfl) (HO.out.alloc _) ⟨wr.heap.size,0,none⟩ 1 1 [.string s] (by rfl) rfl (World.news_of_block (hA_ wr _)) (fun u hu=>by rw [List.mem_singleton.1 hu];rfl) (by decide) ?c3 ?c4 ?c5 (wr.heap.size+1) (by simp) ?_)
      case c3=>unfold maxLen;omega
      case c4=>omega
      case c5=>first | omega | (simp;omega)
      intro g3 cap3 w3 hown3 hgrow3 hat3 hlt3
      have HO3:Hid (w3.ownsRow w.heap.size 9 1 (.slice (some ⟨g3,0,none⟩) (m+1) cap3) (m+1) ((ys++[s]).map Value.string)):=by
       show World.ownsRow _ _ _ _ _ _ _;rw [List.map_append,List.map_singleton];exact hown3
      have hbw3:=with_below HB.out HO.out hgrow3;have hsz3:=hbw3.size;have HBW3:=Hd hbw3;clear hown3 hgrow3 hat3 hbw3;go_wp2_with fail;rw [HF.out];have hl3:(ys++[s]).length=m+1:=by simp [HYS.out]
      obtain ⟨A',c',hv,hs⟩:=strs_of_own (by rw [hl3];exact HO3.out);rw [hl3] at hv;exact ⟨A',c',ys++[s],by rw [hv,hl3];rfl,hs,by rw [hl3];omega,by rw [hl3,HM2.out,HKN.out,←HN.out];exact lr _,HBW3.out⟩
def NmsQ (op:Int) (m:Nat) (t:Tm) (w:World) (e:Ending) (w':World):Prop:=∃ A' c' L',e=.returned (.slice A' L'.length c')∧StrsAt w' A' L'∧L'.length≤m+t.size∧(op=4→(0<L'.length↔0<m∨hasNext t=true))∧Below w.heap.size w w'
theorem hasNextL_take:∀ {l:List Tm} {k:Nat} {t:Tm},l[k]?=some t→hasNextL (l.take (k+1))=(hasNextL (l.take k) || hasNext t)
 | x :: r,0,t,h=>by
  simp at h;subst h;simp [hasNextL]
 | x :: r,k+1,t,h=>by
  have:=hasNextL_take (l:=r) (k:=k) (by simpa using h);simp only [List.take_succ_cons,hasNextL,this,Bool.or_assoc]
theorem hasNext_eq (t:Tm):hasNext t=(decide (t.op=4) || hasNextL t.kids):=by cases t;rw [hasNext];rfl
theorem rnames1_any (op:Int):∀ (N:Nat) (t:Tm) (Al:Option Addr) (cl:Nat) (l:List ByteArray) (A:Option Addr) (c:Nat) (w:World),t.size≤N→TmV w A c t→StrsAt w Al l→l.length+t.size≤10000000 →
 Calls Tryz.prog 210 #[t.val A c,.int .i64 op,.slice Al l.length cl] w (NmsQ op l.length t w):=by
 intro N
 induction N with
 | zero=>
  intro t Al cl l A c w hN;cases t;rw [Tm.size] at hN;omega
 | succ N ih=>
  intro t Al cl l A c w hN hV hl hlm;obtain ⟨n,hn⟩:=ex_ t.kids.length;obtain ⟨m,hm⟩:=ex_ l.length;obtain ⟨F,hF⟩:=ex_ (NmsQ op m t w);rw [←hm] at hlm ⊢;rw [←hF];have hsz:t.size=1+Tm.sizeL t.kids:=by cases t;rw [Tm.size];rfl
  have hnl:=Tm.len_le t.kids;have hcap:=hV.cap;have hcapm:=hV.capm;unfold maxLen at hcapm;obtain ⟨w1,hw1⟩:=ex_ (w.alloc (.cells #[.int .i64 t.op,.int .i64 t.num,.string t.name,.slice A n c] 25));have hb1:=bAl hw1;have hs1:w1.heap.size=w.heap.size+1:=by rw [hw1];simp
  have hbx:w1.heap[w.heap.size]?=some (.cells #[.int .i64 t.op,.int .i64 t.num,.string t.name,.slice A n c] 25 (0,0)):=by rw [hw1];exact hA_ w _
  have hwi:=rwith_any Al cl l t.name w1 (by omega) (hl.belowB hb1 rfl);rw [←hm] at hwi;have hkl:t.kids.length≤10000000:=by omega
  rw [←hn] at hcap hkl
  have HSZ:Hid (∀ k∈t.kids,k.size≤N):=fun k hk=>by
   have h1:=Tm.sizeL_mem hk;omega
  have HXX:Hid (∀ W,Below w1.heap.size w1 W→W.cell? ⟨w.heap.size,3,none⟩=some (.slice A n c)):=fun W hb=>by
   have hx:=(hb.block _ (by rw [hs1];omega)).trans hbx;rw [cR W w.heap.size 3 _ _ (0,0) hx];rfl
  show Calls Tryz.prog 210 #[.agg #[.int .i64 t.op,.int .i64 t.num,.string t.name,.slice A t.kids.length c],.int .i64 op,.slice Al m cl] w F;rw [←hn];have HF:=Hd hF;have HIH:=Hd ih;have HN:=Hd hn;have HM:=Hd hm;have HK:=Hd hV.kids;have HB1:=Hd hb1;have HS1:=Hd hs1;have HW1:=Hd hw1;have HWI:=Hd hwi;have HL:=Hd hl;have HSE:=Hd hsz;have HNX:Hid ((hasNext t=true)=((decide (t.op=4) || hasNextL t.kids)=true)):=by show _=_;rw [hasNext_eq]
  have HMB:=Hd hlm;clear hF ih hn hm hsz hnl hb1 hs1 hbx hw1 hV hN hwi hl hlm
  by_cases ho:t.op=op
  · have ho':(t.op == op)=true:=by simpa using ho
    have HO:=Hd ho;clear ho;go_enter Tryz.func210,Tryz.ntmps210;go_wp2_with fail;rw [←HW1.out];refine (HWI.out).mono ?_;rintro e w2 ⟨A0,c0,L0,rfl,hs0,hp0,hl0,hb2⟩;have HS0:=Hd hs0;have HB2:=Hd hb2;have HQ0:Hid (op=4→(0<L0.length↔0<m∨t.op=4∨hasNextL (t.kids.take 0)=true)):=fun h4=>⟨fun _=>.inr (.inl (by rw [HO.out,h4])),fun _=>hp0⟩;have HL0:Hid (L0.length≤m+1+Tm.sizeL (t.kids.take 0)):=by show _≤_;have:=HM.out;omega
    clear hs0 hp0 hl0 hb2;go_wp2_with fail
    go_loopw [2,7] (fun sl si wr=>∃ (k:Nat) (Ak:Option Addr) (ck:Nat) (Lk:List ByteArray),k≤n∧sl=.slice Ak Lk.length ck∧si=.int .i64 k∧StrsAt wr Ak Lk∧Lk.length≤m+1+Tm.sizeL (t.kids.take k)∧(op=4→(0<Lk.length↔0<m∨t.op=4∨hasNextL (t.kids.take k)=true))∧Below w1.heap.size w1 wr) (fun _ i _=>n - (intOf i).toNat)
    case atStart=>exact ⟨0,A0,c0,L0,zl _,rfl,rfl,HS0.out,HL0.out,HQ0.out,HB2.out⟩
    case round=>
     obtain ⟨k,Ak,ck,Lk,hk,rfl,rfl,hsk,hlk,hqk,hbel⟩:=hrel;have HBL:=Hd hbel;have HSK:=Hd hsk;have HLK:=Hd hlk;have HQK:=Hd hqk;have hszr:=hbel.size;have kr3:=HXX.out wr hbel;have hbt:Below w.heap.size w wr:=HB1.out.trans (hbel.mono (by have:=HS1.out;omega));have hbwr:w.heap.size<wr.heap.size:=by have:=HS1.out;omega
     by_cases hlt:k<n
     · obtain ⟨kd,hkd⟩:∃ kd,t.kids[k]?=some kd:=⟨_,gG (by have:=HN.out;omega)⟩;have hmem:kd∈t.kids:=mG hkd
       rcases HK.out with h9 | ⟨g,off,rfl,hg,hrow⟩
       · rw [h9] at hkd;simp at hkd
       have hat:=(hrow.get hkd).below hbt rfl hg;obtain ⟨q0,q1,q2,A2,c2,q3,hV2⟩:=hat.open;have hgw:g<wr.heap.size:=by omega
       have htk:=Tm.sizeL_snoc hkd;have htl:=Tm.sizeL_take_le t.kids (k+1);have hih:=HIH.out kd Ak ck Lk A2 c2 wr (HSZ.out kd hmem) hV2 hsk (by have:=HMB.out;have:=HSE.out;omega);unfold Tm.val at hih;obtain ⟨n2,hn2⟩:=ex_ kd.kids.length;rw [←hn2] at q3 hih;obtain ⟨mk,HMK⟩:=exh_ Lk.length;rw [←HMK.out] at hih ⊢;have HTK:=Hd htk;have HHN:Hid (hasNextL (t.kids.take (k+1))=(hasNextL (t.kids.take k) || hasNext kd)):=hasNextL_take hkd;have HC:=Hd hih;have hk0:(0:Int)≤(k:Int):=by omega
       have hk1:(k:Int)<(n:Int):=by omega
       have e1:off+4*k=off+k*4:=by omega
       rw [e1] at q0 q1 q2 q3;clear hih hn2 hV2 hat hrow hmem hkd e1 hbel hbt htk htl hsk hlk hqk;go_wp2_with fail;refine (HC.out).mono ?_;rintro e w4 ⟨A5,c5,L5,rfl,hs5,hl5,hq5,hb4⟩;have HB5:=Hd (HBL.out.trans (hb4.mono hszr));have HS5:=Hd hs5
       have HL5:Hid (L5.length≤m+1+Tm.sizeL (t.kids.take (k+1))):=by
        show _≤_;have:=HLK.out;have:=HTK.out;have:=HMK.out;omega
       have HQ5:Hid (op=4→(0<L5.length↔0<m∨t.op=4∨hasNextL (t.kids.take (k+1))=true)):=fun ho=>by
        rw [hq5 ho,HHN.out,HMK.out,HQK.out ho];cases hasNextL (t.kids.take k) <;> cases hasNext kd <;> simp
       clear hb4 hs5 hl5 hq5 q0 q1 q2 q3 kr3;go_wp2_with fail
       go_roundw
       case rel=>exact ⟨k+1,A5,c5,L5,by omega,rfl,by go_num,HS5.out,HL5.out,HQ5.out,HB5.out⟩
       case measure=>simp [intOf];omega
     · have hkn:k=n:=by omega
       have HE:Hid (Lk.length≤m+t.size∧(op=4→(0<Lk.length↔0<m∨hasNext t=true))):=by
        have h1:=HLK.out;have h2:=HQK.out;rw [hkn,List.take_of_length_le (by rw [←HN.out];exact lr _)] at h1 h2;refine ⟨by have:=HSE.out;omega,fun ho=>?_⟩;rw [h2 ho,HNX.out];cases hasNextL t.kids <;> simp
       have hk1:¬(k:Int)<(n:Int):=by omega
       have HBE:=Hd hbt;clear hlt hbel hbt hkn hsk hlk hqk;go_wp2_with fail;rw [HF.out];exact ⟨Ak,ck,Lk,rfl,HSK.out,HE.out.1,HE.out.2,HBE.out⟩
  · have ho':(t.op == op)=false:=by simpa using ho
    have HO:=Hd ho;have HL0:Hid (l.length≤m+1+Tm.sizeL (t.kids.take 0)):=by show _≤_;have:=HM.out;omega
    have HQ0:Hid (op=4→(0<l.length↔0<m∨t.op=4∨hasNextL (t.kids.take 0)=true)):=fun h4=>by
     have h1:¬t.op=4:=fun h=>HO.out (by rw [h,h4]);rw [←HM.out];simp [h1,hasNextL]
    have HS0:Hid (StrsAt w1 Al l):=HL.out.belowB HB1.out rfl;clear ho;go_enter Tryz.func210,Tryz.ntmps210;go_wp2_with fail;rw [←HW1.out]
    go_loopw [2,7] (fun sl si wr=>∃ (k:Nat) (Ak:Option Addr) (ck:Nat) (Lk:List ByteArray),k≤n∧sl=.slice Ak Lk.length ck∧si=.int .i64 k∧StrsAt wr Ak Lk∧Lk.length≤m+1+Tm.sizeL (t.kids.take k)∧(op=4→(0<Lk.length↔0<m∨t.op=4∨hasNextL (t.kids.take k)=true))∧Below w1.heap.size w1 wr) (fun _ i _=>n - (intOf i).toNat)
    case atStart=>exact ⟨0,Al,cl,l,zl _,by rw [HM.out],rfl,HS0.out,HL0.out,HQ0.out,Br _ _⟩
    case round=>
     obtain ⟨k,Ak,ck,Lk,hk,rfl,rfl,hsk,hlk,hqk,hbel⟩:=hrel;have HBL:=Hd hbel;have HSK:=Hd hsk;have HLK:=Hd hlk;have HQK:=Hd hqk;have hszr:=hbel.size;have kr3:=HXX.out wr hbel;have hbt:Below w.heap.size w wr:=HB1.out.trans (hbel.mono (by have:=HS1.out;omega));have hbwr:w.heap.size<wr.heap.size:=by have:=HS1.out;omega
     by_cases hlt:k<n
     · obtain ⟨kd,hkd⟩:∃ kd,t.kids[k]?=some kd:=⟨_,gG (by have:=HN.out;omega)⟩;have hmem:kd∈t.kids:=mG hkd
       rcases HK.out with h9 | ⟨g,off,rfl,hg,hrow⟩
       · rw [h9] at hkd;simp at hkd
       have hat:=(hrow.get hkd).below hbt rfl hg;obtain ⟨q0,q1,q2,A2,c2,q3,hV2⟩:=hat.open;have hgw:g<wr.heap.size:=by omega
       have htk:=Tm.sizeL_snoc hkd;have htl:=Tm.sizeL_take_le t.kids (k+1);have hih:=HIH.out kd Ak ck Lk A2 c2 wr (HSZ.out kd hmem) hV2 hsk (by have:=HMB.out;have:=HSE.out;omega);unfold Tm.val at hih;obtain ⟨n2,hn2⟩:=ex_ kd.kids.length;rw [←hn2] at q3 hih;obtain ⟨mk,HMK⟩:=exh_ Lk.length;rw [←HMK.out] at hih ⊢;have HTK:=Hd htk;have HHN:Hid (hasNextL (t.kids.take (k+1))=(hasNextL (t.kids.take k) || hasNext kd)):=hasNextL_take hkd;have HC:=Hd hih;have hk0:(0:Int)≤(k:Int):=by omega
       have hk1:(k:Int)<(n:Int):=by omega
       have e1:off+4*k=off+k*4:=by omega
       rw [e1] at q0 q1 q2 q3;clear hih hn2 hV2 hat hrow hmem hkd e1 hbel hbt htk htl hsk hlk hqk;go_wp2_with fail;refine (HC.out).mono ?_;rintro e w4 ⟨A5,c5,L5,rfl,hs5,hl5,hq5,hb4⟩;have HB5:=Hd (HBL.out.trans (hb4.mono hszr));have HS5:=Hd hs5
       have HL5:Hid (L5.length≤m+1+Tm.sizeL (t.kids.take (k+1))):=by
        show _≤_;have:=HLK.out;have:=HTK.out;have:=HMK.out;omega
       have HQ5:Hid (op=4→(0<L5.length↔0<m∨t.op=4∨hasNextL (t.kids.take (k+1))=true)):=fun ho=>by
        rw [hq5 ho,HHN.out,HMK.out,HQK.out ho];cases hasNextL (t.kids.take k) <;> cases hasNext kd <;> simp
       clear hb4 hs5 hl5 hq5 q0 q1 q2 q3 kr3;go_wp2_with fail
       go_roundw
       case rel=>exact ⟨k+1,A5,c5,L5,by omega,rfl,by go_num,HS5.out,HL5.out,HQ5.out,HB5.out⟩
       case measure=>simp [intOf];omega
     · have hkn:k=n:=by omega
       have HE:Hid (Lk.length≤m+t.size∧(op=4→(0<Lk.length↔0<m∨hasNext t=true))):=by
        have h1:=HLK.out;have h2:=HQK.out;rw [hkn,List.take_of_length_le (by rw [←HN.out];exact lr _)] at h1 h2;refine ⟨by have:=HSE.out;omega,fun ho=>?_⟩;rw [h2 ho,HNX.out];cases hasNextL t.kids <;> simp
       have hk1:¬(k:Int)<(n:Int):=by omega
       have HBE:=Hd hbt;clear hlt hbel hbt hkn hsk hlk hqk;go_wp2_with fail;rw [HF.out];exact ⟨Ak,ck,Lk,rfl,HSK.out,HE.out.1,HE.out.2,HBE.out⟩
def NextQ (t:Tm) (w:World) (e:Ending) (w':World):Prop:=∃ (v1:Value) (A2:Option Addr) (n2 c2:Nat),e=.returned (.tuple #[v1,.slice A2 n2 c2])∧(n2=0↔hasNext t=false)∧Below w.heap.size w w'
theorem keep_step {w1 W W':World} (h:Below w1.heap.size w1 W) (hb:Below W.heap.size W W'):Below w1.heap.size w1 W':=h.trans (hb.mono h.size)
theorem keep_cells {w1 W:World} {b:Nat} (h:Below w1.heap.size w1 W) (hb:b<w1.heap.size):∀ o,W.cell? ⟨b,o,none⟩=w1.cell? ⟨b,o,none⟩:=fun o=>h.cell (p:=⟨b,o,none⟩) hb
theorem rnames2_any (t:Tm) (A:Option Addr) (c:Nat) (w:World) (hV:TmV w A c t) (hsz:t.size≤9000000) :
 Calls Tryz.prog 187 #[t.val A c] w (NextQ t w):=by
 obtain ⟨n,hn⟩:=ex_ t.kids.length;obtain ⟨F,hF⟩:=ex_ (NextQ t w);rw [←hF];obtain ⟨w1,hw1⟩:=ex_ (w.alloc (.cells #[.int .i64 t.op,.int .i64 t.num,.string t.name,.slice A n c] 25));have hb1:=bAl hw1;have hs1:w.heap.size<w1.heap.size:=by rw [hw1];simp
 have hbx:w1.heap[w.heap.size]?=some (.cells #[.int .i64 t.op,.int .i64 t.num,.string t.name,.slice A n c] 25 (0,0)):=by rw [hw1];exact hA_ w _
 have x0:w1.cell? ⟨w.heap.size,0,none⟩=some (.int .i64 t.op):=by rw [cR w1 w.heap.size 0 _ _ (0,0) hbx];rfl
 have x1:w1.cell? ⟨w.heap.size,1,none⟩=some (.int .i64 t.num):=by rw [cR w1 w.heap.size 1 _ _ (0,0) hbx];rfl
 have x2:w1.cell? ⟨w.heap.size,2,none⟩=some (.string t.name):=by rw [cR w1 w.heap.size 2 _ _ (0,0) hbx];rfl
 have x3:w1.cell? ⟨w.heap.size,3,none⟩=some (.slice A n c):=by rw [cR w1 w.heap.size 3 _ _ (0,0) hbx];rfl
 have HNM:Hid (∀ (op:Int) (W:World),Below w1.heap.size w1 W→Calls Tryz.prog 210 #[.agg #[.int .i64 t.op,.int .i64 t.num,.string t.name,.slice A n c],.int .i64 op,.slice none 0 0] W (NmsQ op 0 t W)):=fun op W hb=>by
  have h:=rnames1_any op t.size t none 0 [] A c W (lr _) ((hV.below hb1 rfl).below hb rfl) (.inl rfl) (by simp;omega);unfold Tm.val at h;rw [←hn] at h;exact h
 show Calls Tryz.prog 187 #[.agg #[.int .i64 t.op,.int .i64 t.num,.string t.name,.slice A t.kids.length c]] w F;rw [←hn];have HF:=Hd hF;have HB1:=Hd hb1;have HW1:=Hd hw1;clear hF hb1 hw1 hbx hV hn;go_enter Tryz.func187,Tryz.ntmps187;go_wp2_with fail;rw [←HW1.out];have hbd:Below w1.heap.size w1 w1.drew:=(Br _ _).drew
 go_region_held3 (fun w'=>(∀ o,w'.cell? ⟨w.heap.size,o,none⟩=w1.cell? ⟨w.heap.size,o,none⟩)∧Below w1.heap.size w1 w')
  (first
    | (exact ⟨keep_cells (by assumption) hs1,by assumption⟩)
    | fail)
  ((go_at_call 210;refine (HNM.out _ _ (by assumption)).mono ?_;rintro e w5 ⟨A5,c5,L5,rfl,hs5,hl5,hq5,hb5⟩;have hk5:=keep_step (by assumption) hb5))
 have HQ5:Hid (L5.length=0↔hasNext t=false):=by
  have h:=hq5 trivial
  constructor
  · intro h0
    cases hh:hasNext t with
    | false=>rfl
    | true=>have:=h.2 (.inr hh);omega
  · intro h0
    rcases Nat.eq_zero_or_pos L5.length with h1 | h1
    · exact h1
    · rcases h.1 h1 with h2 | h2
      · omega
      · rw [h0] at h2;cases h2
 have HBF:=Hd (HB1.out.trans (hk5.mono (by omega)));clear hq5 hk5 hs5 hl5 hb5 hbd;go_wp2_with fail;rw [HF.out];exact ⟨_,A5,_,c5,rfl,HQ5.out,HBF.out⟩
end Go.Proofs.YtnbphgeepnknlaaGreatDoor
