/- The rows of a module in memory; walks: modtext's writer.terms, defs. -/
import Derived.Test.YtkhoeoilamddaaaGreatDoorWMwC
namespace Go.Proofs.YtkhoeoilamddaaaGreatDoor
open Go.RowKit
set_option linter.unusedVariables false
set_option maxRecDepth 100000
set_option maxHeartbeats 8000000
def RowV {α:Type} (At:World→Nat→Nat→α→Prop) (s:Nat) (w:World) (v:Value) (l:List α):Prop:=
 ∃ A c,v=.slice A l.length c∧l.length≤c∧c≤maxLen∧(l=[]∨∃ g o,A=some ⟨g,o,none⟩∧g<w.heap.size∧∀ j x,l[j]?=some x→At w g (o+j*s) x)
def VrAt (w:World) (g o:Nat) (v:Vr):Prop:=w.cell? ⟨g,o,none⟩=some (.string v.name)∧w.cell? ⟨g,o+1,none⟩=some (.bool v.bool)∧w.cell? ⟨g,o+2,none⟩=some (.int .i64 v.lo)∧w.cell? ⟨g,o+3,none⟩=some (.int .i64 v.hi)
def DfAt (w:World) (g o:Nat) (d:Df):Prop:=w.cell? ⟨g,o,none⟩=some (.string d.name)∧TmAt w g (o+1) d.tm
def SpAt (w:World) (g o:Nat) (d:Sp):Prop:=w.cell? ⟨g,o,none⟩=some (.string d.name)∧FmAt w g (o+1) d.fm
theorem q5w {w:World} {b:Nat} {T:TypeId} {u0 u1 u2 u3 u4:Value} (h:w.heap[b]?=some (.cells #[u0,u1,u2,u3,u4] T (0,0))):w.cell? ⟨b,0,none⟩=some u0∧w.cell? ⟨b,1,none⟩=some u1∧w.cell? ⟨b,2,none⟩=some u2∧w.cell? ⟨b,3,none⟩=some u3∧w.cell? ⟨b,4,none⟩=some u4∧∀ j,w.frozen? ⟨b,j,none⟩=false:=
 ⟨cel h 0 rfl,cel h 1 rfl,cel h 2 rfl,cel h 3 rfl,cel h 4 rfl,frz h⟩
theorem RowV.below {α:Type} {At:World→Nat→Nat→α→Prop} {s:Nat} {w w':World} {v:Value} {l:List α} (h:RowV At s w v l) (hA:∀ g o x,g<w.heap.size→At w g o x→At w' g o x) (hs:w.heap.size≤w'.heap.size):RowV At s w' v l:=by
 obtain ⟨A,c,h1,h2,h3,h4⟩:=h;refine ⟨A,c,h1,h2,h3,?_⟩
 rcases h4 with h4 | ⟨g,o,h5,h6,h7⟩
 · exact .inl h4
 · exact .inr ⟨g,o,h5,lL h6 hs,fun j x hj=>hA _ _ _ h6 (h7 j x hj)⟩
section
variable {w w':World} (hb:Below w.heap.size w w')
include hb
theorem VrAt.below (g o:Nat) (v:Vr) (hg:g<w.heap.size) (h:VrAt w g o v):VrAt w' g o v:=by
 obtain ⟨h0,h1,h2,h3⟩:=h;exact ⟨(hb.cell (p:=⟨g,_,none⟩) hg).trans h0,(hb.cell (p:=⟨g,_,none⟩) hg).trans h1,(hb.cell (p:=⟨g,_,none⟩) hg).trans h2,(hb.cell (p:=⟨g,_,none⟩) hg).trans h3⟩
theorem DfAt.below (g o:Nat) (v:Df) (hg:g<w.heap.size) (h:DfAt w g o v):DfAt w' g o v:=⟨(hb.cell (p:=⟨g,_,none⟩) hg).trans h.1,TmAt.below hb rfl hg h.2⟩
theorem SpAt.below (g o:Nat) (v:Sp) (hg:g<w.heap.size) (h:SpAt w g o v):SpAt w' g o v:=⟨(hb.cell (p:=⟨g,_,none⟩) hg).trans h.1,FmAt.below hb rfl hg h.2⟩
end
def ShX (t:Tm):Prop:=∀ A c W,TmV W A c t→WordsT W→Calls Tryz.prog 97 #[t.val A c] W fun e w'=>e=.returned (.tuple #[.string ⟨(showTm t).1.toArray⟩,.int .i64 (showTm t).2])∧Below W.heap.size W w'
theorem ShX.at {t:Tm} {A:Option Addr} {c:Nat} {w:World} (h:ShX t) (hV:TmV w A c t) (hT:WordsT w):ShT w t A c:=fun W hb=>h A c W (hV.below hb rfl) (hT.below hb)
theorem secM_many {α:Type} (f:α→BE) (ts:List α) (l:Bs) (x:Int):secM f ts (l,x)=secF f ts (l,manyM x ts.length):=by
 unfold secM manyM failM
 by_cases hx:x=0 <;> by_cases hn:64<ts.length <;> simp [hx,hn]
theorem secF_stuck {α:Type} {f:α→BE}:∀ {ts:List α} {l:Bs} {x:Int},x≠0→secF f ts (l,x)=(l,x)
 | [],_,_,_=>rfl
 | t :: r,l,x,h=>by
  show secF f r (addL (l,x) (f t))=_;unfold addL;rw [iP h];exact secF_stuck h
theorem secF_drop {α:Type} {f:α→BE} {ts:List α} {k:Nat} {t:α} {st:BE} (h:ts[k]?=some t):secF f (ts.drop k) st=secF f (ts.drop (k+1)) (addL st (f t)):=by
 obtain ⟨hk,rfl⟩:=gE.1 h;rw [List.drop_eq_getElem_cons hk]
 rfl
theorem many_le {x:Int} {n:Nat} (h:manyM x n=0):n≤64:=by
 unfold manyM failM at h
 by_cases hn:64<n
 · rw [iP hn] at h
   split at h
   · cases h
   · exact absurd h ‹_›
 · omega
theorem addT (l:Bs) (w:ByteArray) (t:Tm):addL (l,0) (tmL (bs w) t)=(lineM l (showTm t).2 [w,⟨(showTm t).1.toArray⟩],(showTm t).2):=by
 by_cases h:(showTm t).2=0
 · simp [tmL,addL,h,lineM,joinP,Lib.join,bs]
 · simp [tmL,addL,h,lineM]
def dfM (s:ByteArray) (t:Tm):Int:=if nameM 0 s=0 then (showTm t).2 else nameM 0 s
theorem addD (l:Bs) (w s:ByteArray) (t:Tm):addL (l,0) (defL (bs w) ⟨s,t⟩)=(lineM l (dfM s t) [w,s,⟨#[58,61]⟩,if nameM 0 s=0 then ⟨(showTm t).1.toArray⟩ else ⟨#[]⟩],dfM s t):=by
 unfold dfM;rw [nameM_0]
 cases hn:isName (bs s) with
 | false=>
  have h':isName s.data.toList=false:=hn;simp [defL,addL,h',lineM]
 | true=>
  have h':¬isName s.data.toList=false:=by show ¬isName (bs s)=false;rw [hn];decide
  by_cases h:(showTm t).2=0
  · simp [defL,addL,h',h,lineM,joinP,Lib.join,bs]
  · simp [defL,addL,h',h,lineM]
theorem line_len2 {l:Bs} {y:Int} {a b:ByteArray} {k:Nat} (ha:a.size≤10) (hb:b.size≤65536) (hl:l.length≤k):(lineM l y [a,b]).length≤k+70000:=by
 unfold lineM
 split
 · rw [List.length_append,joinP_len2];omega
 · omega
theorem line_len4 {l:Bs} {y:Int} {a b c d:ByteArray} {k:Nat} (ha:a.size≤10) (hb:y=0→b.size≤24) (hc:c.size≤10) (hd:d.size≤65536) (hl:l.length≤k):(lineM l y [a,b,c,d]).length≤k+70000:=by
 unfold lineM
 split
 · rename_i h;rw [List.length_append,joinP_len4];have:=hb h;omega
 · omega
theorem nameM_len {s:ByteArray} (h:nameM 0 s=0):s.size≤24:=by
 rw [nameM_0] at h
 cases hn:isName (bs s) with
 | false=>rw [hn] at h;cases h
 | true=>have:=isName_len hn;rwa [bs_length] at this
theorem dfM_len {s:ByteArray} {t:Tm} (h:dfM s t=0):s.size≤24:=by
 unfold dfM at h
 split at h
 · exact nameM_len ‹_›
 · exact absurd h ‹_›
theorem mwterms_any (B b:Nat) (l:Bs) (x:Int) (word:ByteArray) (ts:List Tm) (A:Option Addr) (c:Nat) (w0 w:World) (hB:B=w0.heap.size) (hb0:Below B w0 w) (h:Wr B b l x w) (hrow:RowV TmAt 4 w0 (.slice A ts.length c) ts) (hX:∀ t∈ts,ShX t) (hT:WordsT w0) (hl:l.length≤800000000) (hw:word.size≤10) :
 Calls Tryz.prog 26 #[.pointer (some ⟨b,0,none⟩),.string word,.slice A ts.length c] w fun r w'=>r=.returned (.tuple #[])∧WG B b (secM (tmL (bs word)) ts (l,x)).1 (secM (tmL (bs word)) ts (l,x)).2 w w'∧(secM (tmL (bs word)) ts (l,x)).1.length≤l.length+4480000:=by
 rw [secM_many];obtain ⟨R,hR⟩:=ex_ (secF (tmL (bs word)) ts (l,manyM x ts.length));rw [←hR];obtain ⟨F,HF⟩:=exh_ (fun (r:Ending) (w':World)=>r=.returned (.tuple #[])∧WG B b R.1 R.2 w w'∧R.1.length≤l.length+4480000);rw [←HF.out];obtain ⟨A',c',he,hcap,hcapm,hrow⟩:=hrow
 injection he with he1 _ he2
 subst he1 he2;have hmany:=mwmany_any B b l x ts.length w h;obtain ⟨n,HN⟩:=exh_ ts.length;have hm64:manyM x n=0→n≤64:=many_le;have hBw:B≤w.heap.size:=Nat.le_trans h.le (Nat.le_of_lt h.lt);rw [←HN.out] at hmany hcap hR ⊢;obtain ⟨y,hy⟩:=ex_ (manyM x n);rw [←hy] at hmany hR hm64;unfold maxLen at hcapm;have HM:=Hd hmany;have HR:=Hd hR;have HROW:=Hd hrow;have HXT:=Hd hX;have HT:=Hd hT;have HBQ:=Hd hB;have HB0:=Hd hb0;have HBW:=Hd hBw;have HM64:=Hd hm64;have HL:=Hd hl;have HWD:=Hd hw;have hb0':0≤b:=zl _;clear hmany hR hrow hX hT hB hb0 hBw hm64 hl hw hy h;go_enter Tryz.func26,Tryz.ntmps26;go_wp2_with fail;refine (HM.out).mono ?_;rintro e w1 ⟨rfl,hg1⟩;have HG1:=Hd hg1;clear hg1 HM;go_wp2_with fail
 go_loopw [14] (fun si wr=>∃ (k:Nat) (l1:Bs) (x1:Int),k≤n∧k≤64∧si=.int .i64 k∧WG B b l1 x1 w wr∧secF (tmL (bs word)) (ts.drop k) (l1,x1)=R∧l1.length≤l.length+70000*k∧(x1=0→n≤64)) (fun i _=>n - (intOf i).toNat)
 case atStart=>exact ⟨0,l,y,zl _,zl _,rfl,HG1.out,HR.out.symm,lr _,HM64.out⟩
 case round=>
  obtain ⟨k,l1,x1,hk,hk64,rfl,hg,hrest,hl1,h64⟩:=hrel;obtain ⟨c2,f2,hlt⟩:=wr2 hg.1;have HG:=Hd hg;have HRE:=Hd hrest;have HL1:=Hd hl1;have H64:=Hd h64;clear hg hrest hl1 h64
  by_cases hkn:k<n
  · obtain ⟨q,hq⟩:∃ q,ts[k]?=some q:=⟨_,gG (by have:=HN.out;omega)⟩
    rcases HROW.out with h9 | ⟨g,o,rfl,hg,hrow⟩
    · rw [h9] at hq;simp at hq
    have hbw:Below w0.heap.size w0 wr:=by rw [←HBQ.out];exact HB0.out.trans HG.out.2.below
    have hqx:=HXT.out q (mG hq);have hTr:=HT.out.below hbw;have hat:=hrow k q hq;have hgr:g<wr.heap.size:=lL hg hbw.size;have hne:g≠wr.heap.size:=by omega
    have hbn:b≠wr.heap.size:=by omega
    obtain ⟨y0,y1,y2,A5,c5,y3,hV⟩:=(TmAt.below hbw rfl hg hat).open;have HE:=Hd (HRE.out.symm.trans (secF_drop hq));obtain ⟨n5,HN5⟩:=exh_ q.kids.length;rw [←HN5.out] at y3;have HV:=Hd hV;have HTr:=Hd hTr;have HQX:=Hd hqx;have hk0:(0:Int)≤(k:Int):=by omega
    have hk1:(k:Int)<(n:Int):=by omega
    obtain ⟨w2,HW2⟩:=exh_ (wr.alloc (.cells #[.int .i64 q.op,.int .i64 q.num,.string q.name,.slice A5 n5 c5] 64));obtain ⟨z,HZ⟩:=exh_ wr.heap.size;have hbz:=bAl HW2.out;have HX:=nAl HW2.out HZ.out;have HG2:=Hd (HG.out.below hbz HBW.out);have HV2:=Hd (HV.out.below hbz rfl);have HT2:=Hd (HTr.out.below hbz);clear hq hg hrow hbw hqx hTr hat hV hbz HTr HV
    by_cases hx:x1=0
    · subst hx;have HN64:=Hd (H64.out rfl);clear H64;obtain ⟨v0,v1,v2,v3,-⟩:=q4 HX.out;obtain ⟨S,hS⟩:∃ S:ByteArray,S=⟨(showTm q).1.toArray⟩:=⟨_,rfl⟩;obtain ⟨e1,he1⟩:=ex_ (showTm q).2;have hsl:S.size≤65536:=by rw [hS];exact showTm_len q
      have hadd:=addT l1 word q;rw [←hS,←he1] at hadd;have htm:=mwterm_any B b l1 0 q A5 c5 w2 HG2.out.1 (Nat.le_trans HBW.out HG2.out.2.below.size) (HQX.out.at HV2.out HT2.out);rw [iP rfl,iP rfl,←hS,←he1] at htm;unfold Tm.val at htm;rw [←HN5.out] at htm;have HTM:=Hd htm;have HADD:=Hd hadd;have HSL:=Hd hsl;clear hadd htm hsl hS he1;have h00:((0:Int) != 0)=false:=rfl;go_wp2_with fail;rw [←HW2.out]
      try rw [←HZ.out]
      (try go_wp2_with fail);refine (HTM.out).mono ?_;rintro e w3 ⟨rfl,hg3⟩;have hg3:=HG2.out.trans hg3;obtain ⟨z4,hz4⟩:=ex_ w3.heap.size;obtain ⟨w4,hw4⟩:=ex_ (w3.alloc (.cells (strR [word,S]) 9));have hb4:=bAl hw4;have HZ4:=nAl hw4 hz4;have hg4:=hg3.below hb4 HBW.out;have hln:Calls Tryz.prog 30 #[.pointer (some ⟨b,0,none⟩),.slice (some ⟨z4,0,none⟩) 2 2] w4 _:=mwline_row B b z4 l1 e1 [word,S] w4 hg4.1 HZ4.out (by simp) (fun h=>by rw [joinP_len2];have:=HSL.out;have:=HWD.out;have:=HL1.out;have:=HL.out;have:=HN64.out;omega) (Nat.le_trans HBW.out hg4.2.below.size);have HLN:=Hd hln;have HW4:=Hd hw4;have HZQ:=Hd hz4;have HG4:=Hd hg4;clear hz4 hw4 hb4 hg4 hln hg3 v0 v1 v2 v3 y0 y1 y2 y3;go_wp2_with fail;show Calls _ _ #[_,.slice (some ⟨w3.heap.size,0,none⟩) 2 2] (w3.alloc (.cells (strR [word,S]) 9)) _;rw [←HW4.out,←HZQ.out];refine (HLN.out).mono ?_;rintro e w5 ⟨rfl,hg⟩;have HG5:=Hd (HG4.out.trans hg);clear hg;go_wp2_with fail
      go_round
      case rel=>exact ⟨k+1,_,_,by omega,by have:=HN64.out;omega,by go_num,HG5.out,by rw [←HADD.out];exact HE.out.symm,Nat.le_trans (line_len2 HWD.out HSL.out HL1.out) (Nat.le_of_eq (by rw [Nat.mul_succ,Nat.add_assoc])),fun _=>HN64.out⟩
      case measure=>simp [intOf];omega
    · have HR2:=Hd (HRE.out.symm.trans (secF_stuck hx));have hb:(x1 != 0)=true:=by simpa using hx
      clear hx;go_wp2_with fail;rw [←HW2.out];refine bR (v:=.tuple #[]) (results_none rfl _ _ _) rfl ?_;rw [HF.out,HR2.out];exact ⟨rfl,HG2.out,by have:=HL1.out;have:=HL.out;show l1.length≤_;omega⟩
  · have hkn':k=n:=by omega
    subst hkn';have HR2:Hid (R=(l1,x1)):=by show _=_;rw [←HRE.out,HN.out,List.drop_length];rfl
    have hlt2:¬(k:Int)<(k:Int):=by omega
    go_wp2_with fail;refine bR (v:=.tuple #[]) (results_none rfl _ _ _) rfl ?_;rw [HF.out,HR2.out];exact ⟨rfl,HG.out,by have:=HL1.out;show l1.length≤_;omega⟩
theorem mwdefs_any (B b:Nat) (l:Bs) (x:Int) (word:ByteArray) (ts:List Df) (A:Option Addr) (c:Nat) (w0 w:World) (hB:B=w0.heap.size) (hb0:Below B w0 w) (h:Wr B b l x w) (hrow:RowV DfAt 5 w0 (.slice A ts.length c) ts) (hX:(∀ d∈ts,ShX d.tm)∧∀ d∈ts,d.name.size≤maxLen) (hT:WordsT w0) (hl:l.length≤800000000) (hw:word.size≤10) :
 Calls Tryz.prog 25 #[.pointer (some ⟨b,0,none⟩),.string word,.slice A ts.length c] w fun r w'=>r=.returned (.tuple #[])∧WG B b (secM (defL (bs word)) ts (l,x)).1 (secM (defL (bs word)) ts (l,x)).2 w w'∧(secM (defL (bs word)) ts (l,x)).1.length≤l.length+4480000:=by
 rw [secM_many];obtain ⟨R,hR⟩:=ex_ (secF (defL (bs word)) ts (l,manyM x ts.length));rw [←hR];obtain ⟨F,HF⟩:=exh_ (fun (r:Ending) (w':World)=>r=.returned (.tuple #[])∧WG B b R.1 R.2 w w'∧R.1.length≤l.length+4480000);rw [←HF.out];obtain ⟨A',c',he,hcap,hcapm,hrow⟩:=hrow
 injection he with he1 _ he2
 subst he1 he2;have hmany:=mwmany_any B b l x ts.length w h;obtain ⟨n,HN⟩:=exh_ ts.length;have hm64:manyM x n=0→n≤64:=many_le;have hBw:B≤w.heap.size:=Nat.le_trans h.le (Nat.le_of_lt h.lt);rw [←HN.out] at hmany hcap hR ⊢;obtain ⟨y,hy⟩:=ex_ (manyM x n);rw [←hy] at hmany hR hm64;unfold maxLen at hcapm;have HM:=Hd hmany;have HR:=Hd hR;have HROW:=Hd hrow;have HXT:=Hd hX.1;have HNX:=Hd hX.2;have HT:=Hd hT;have HBQ:=Hd hB;have HB0:=Hd hb0;have HBW:=Hd hBw;have HM64:=Hd hm64;have HL:=Hd hl;have HWD:=Hd hw;have hb0':0≤b:=zl _;clear hmany hR hrow hX hT hB hb0 hBw hm64 hl hw hy h;go_enter Tryz.func25,Tryz.ntmps25;go_wp2_with fail;refine (HM.out).mono ?_;rintro e w1 ⟨rfl,hg1⟩;have HG1:=Hd hg1;clear hg1 HM;go_wp2_with fail
 go_loopw [15] (fun si wr=>∃ (k:Nat) (l1:Bs) (x1:Int),k≤n∧k≤64∧si=.int .i64 k∧WG B b l1 x1 w wr∧secF (defL (bs word)) (ts.drop k) (l1,x1)=R∧l1.length≤l.length+70000*k∧(x1=0→n≤64)) (fun i _=>n - (intOf i).toNat)
 case atStart=>exact ⟨0,l,y,zl _,zl _,rfl,HG1.out,HR.out.symm,lr _,HM64.out⟩
 case round=>
  obtain ⟨k,l1,x1,hk,hk64,rfl,hg,hrest,hl1,h64⟩:=hrel;obtain ⟨c2,f2,hlt⟩:=wr2 hg.1;have HG:=Hd hg;have HRE:=Hd hrest;have HL1:=Hd hl1;have H64:=Hd h64;clear hg hrest hl1 h64
  by_cases hkn:k<n
  · obtain ⟨q,hq⟩:∃ q,ts[k]?=some q:=⟨_,gG (by have:=HN.out;omega)⟩
    rcases HROW.out with h9 | ⟨g,o,rfl,hg,hrow⟩
    · rw [h9] at hq;simp at hq
    have hbw:Below w0.heap.size w0 wr:=by rw [←HBQ.out];exact HB0.out.trans HG.out.2.below
    have hqx:=HXT.out q (mG hq);have hTr:=HT.out.below hbw;have hat:=hrow k q hq;have hgr:g<wr.heap.size:=lL hg hbw.size;have hne:g≠wr.heap.size:=by omega
    have hbn:b≠wr.heap.size:=by omega
    obtain ⟨hy0,ha2⟩:=hat;have hnm:=HNX.out q (mG hq);obtain ⟨hy1,hy2,hy3,A5,c5,hy4,hV⟩:=ha2.open;have hy:=fun (o:Nat) (v:Value) (h:w0.cell? ⟨g,o,none⟩=some v)=>(hbw.cell (p:=⟨g,o,none⟩) hg).trans h;have y0:=hy _ _ hy0;have y1:=hy _ _ hy1;have y2:=hy _ _ hy2;have y3:=hy _ _ hy3;have y4:=hy _ _ hy4;rw [show o+k*5+1+1=o+k*5+2 from rfl] at y2;rw [show o+k*5+1+2=o+k*5+3 from rfl] at y3;rw [show o+k*5+1+3=o+k*5+4 from rfl] at y4;have HNM:=Hd hnm;have hat:=True.intro;clear ha2 hnm hy0 hy1 hy2 hy3 hy4 hy;have HE:=Hd (HRE.out.symm.trans (secF_drop hq));obtain ⟨n5,HN5⟩:=exh_ q.tm.kids.length;rw [←HN5.out] at y4;have HV:=Hd hV;have HTr:=Hd hTr;have HQX:=Hd hqx;have hk0:(0:Int)≤(k:Int):=by omega
    have hk1:(k:Int)<(n:Int):=by omega
    obtain ⟨w2,HW2⟩:=exh_ (wr.alloc (.cells #[.string q.name,.int .i64 q.tm.op,.int .i64 q.tm.num,.string q.tm.name,.slice A5 n5 c5] 74));obtain ⟨z,HZ⟩:=exh_ wr.heap.size;have hbz:=bAl HW2.out;have HX:=nAl HW2.out HZ.out;have HG2:=Hd (HG.out.below hbz HBW.out);have HT2:=Hd (HTr.out.below hbz);clear hq hg hrow hbw hqx hTr hat hV hbz HTr
    by_cases hx:x1=0
    · subst hx;have HN64:=Hd (H64.out rfl);clear H64;obtain ⟨v0,v1,v2,v3,v4,-⟩:=q5w HX.out;obtain ⟨nm,tm⟩:=q;simp only at *;obtain ⟨e0,he0⟩:=ex_ (nameM 0 nm);obtain ⟨e1,he1⟩:=ex_ (dfM nm tm);obtain ⟨S,hS⟩:∃ S:ByteArray,S=if e0=0 then ⟨(showTm tm).1.toArray⟩ else ⟨#[]⟩:=⟨_,rfl⟩;have hsl:S.size≤65536:=by rw [hS];split;exact showTm_len tm;exact zl _
      have hadd:=addD l1 word nm tm;rw [←he0,←hS,←he1] at hadd;have hdl:e1=0→nm.size≤24:=fun h=>dfM_len (he1 ▸ h);have hnmc:=mwname_any B b l1 0 nm w2 HG2.out.1 HNM.out HT2.out;rw [←he0] at hnmc
      have HTM:Hid (∀ W,Below w0.heap.size w0 W→B≤W.heap.size→Wr B b l1 e0 W→Calls Tryz.prog 57 #[.pointer (some ⟨b,0,none⟩),.agg #[.int .i64 tm.op,.int .i64 tm.num,.string tm.name,.slice A5 n5 c5]] W fun r w'=>r=.returned (.string S)∧WG B b l1 e1 W w'):=fun W hbw hB hg=>by
       have h:=mwterm_any B b l1 e0 tm A5 c5 W hg hB (HQX.out.at (HV.out.below hbw rfl) (HT.out.below hbw));unfold Tm.val at h;rw [←HN5.out,show (if e0=0 then (⟨(showTm tm).1.toArray⟩:ByteArray) else ⟨#[]⟩)=S from hS.symm,show (if e0=0 then (showTm tm).2 else e0)=e1 by rw [he1,he0];rfl] at h;exact h
      have HNC:=Hd hnmc;have HADD:=Hd hadd;have HSL:=Hd hsl;have HDL:=Hd hdl;clear hadd hnmc hsl hS he1 he0 hdl;have h00:((0:Int) != 0)=false:=rfl;go_wp2_with fail;rw [←HW2.out]
      try rw [←HZ.out]
      (try go_wp2_with fail);refine (HNC.out).mono ?_;rintro e w3 ⟨rfl,hg3⟩;have hx3:=kbX hg3.2 HX (by have:=HZ.out;omega);obtain ⟨v0,v1,v2,v3,v4,-⟩:=q5w hx3.out;have hl3:=lH hx3.out;have hg3:=HG2.out.trans hg3;have HTM3:=Hd (HTM.out w3 (by rw [←HBQ.out];exact HB0.out.trans hg3.2.below) (Nat.le_trans HBW.out hg3.2.below.size) hg3.1);have HG3:=Hd hg3;clear hg3 hx3 HTM;go_wp2_with fail;refine (HTM3.out).mono ?_;rintro e w4 ⟨rfl,hg4⟩;have hg4:=HG3.out.trans hg4;obtain ⟨z5,hz5⟩:=ex_ w4.heap.size;obtain ⟨w5,hw5⟩:=ex_ (w4.alloc (.cells (strR [word,nm,⟨#[58,61]⟩,S]) 9));have hb5:=bAl hw5;have HZ5:=nAl hw5 hz5;have hg5:=hg4.below hb5 HBW.out;have hln:Calls Tryz.prog 30 #[.pointer (some ⟨b,0,none⟩),.slice (some ⟨z5,0,none⟩) 4 4] w5 _:=mwline_row B b z5 l1 e1 [word,nm,⟨#[58,61]⟩,S] w5 hg5.1 HZ5.out (by simp) (fun h=>by rw [joinP_len4];have:=HSL.out;have:=HWD.out;have:=HL1.out;have:=HL.out;have:=HN64.out;have:=HDL.out h;show _+(word.size+nm.size+2+S.size+6)≤_;omega) (Nat.le_trans HBW.out hg5.2.below.size);have HLN:=Hd hln;have HW5:=Hd hw5;have HZQ:=Hd hz5;have HG5:=Hd hg5;clear hz5 hw5 hb5 hg5 hln hg4 v0 v1 v2 v3 v4 y0 y1 y2 y3 y4 hl3;go_wp2_with fail;show Calls _ _ #[_,.slice (some ⟨w4.heap.size,0,none⟩) 4 4] (w4.alloc (.cells (strR [word,nm,⟨#[58,61]⟩,S]) 9)) _;rw [←HW5.out,←HZQ.out];refine (HLN.out).mono ?_;rintro e w6 ⟨rfl,hg⟩;have HG6:=Hd (HG5.out.trans hg);clear hg
      go_wp2_with fail
      go_round
      case rel=>exact ⟨k+1,_,_,by omega,by have:=HN64.out;omega,by go_num,HG6.out,by rw [←HADD.out];exact HE.out.symm,Nat.le_trans (line_len4 HWD.out HDL.out (by show 2≤10;omega) HSL.out HL1.out) (Nat.le_of_eq (by rw [Nat.mul_succ,Nat.add_assoc])),fun _=>HN64.out⟩
      case measure=>simp [intOf];omega
    · have HR2:=Hd (HRE.out.symm.trans (secF_stuck hx));have hb:(x1 != 0)=true:=by simpa using hx
      clear hx;go_wp2_with fail;rw [←HW2.out];refine bR (v:=.tuple #[]) (results_none rfl _ _ _) rfl ?_;rw [HF.out,HR2.out];exact ⟨rfl,HG2.out,by have:=HL1.out;have:=HL.out;show l1.length≤_;omega⟩
  · have hkn':k=n:=by omega
    subst hkn';have HR2:Hid (R=(l1,x1)):=by show _=_;rw [←HRE.out,HN.out,List.drop_length];rfl
    have hlt2:¬(k:Int)<(k:Int):=by omega
    go_wp2_with fail;refine bR (v:=.tuple #[]) (results_none rfl _ _ _) rfl ?_;rw [HF.out,HR2.out];exact ⟨rfl,HG.out,by have:=HL1.out;show l1.length≤_;omega⟩
end Go.Proofs.YtkhoeoilamddaaaGreatDoor
