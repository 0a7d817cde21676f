/- Walk: modtext.Show. -/
import Derived.Test.YtkhoeoilamddaaaGreatDoorWMwD
namespace Go.Proofs.YtkhoeoilamddaaaGreatDoor
open Go.RowKit
set_option linter.unusedVariables false
set_option maxRecDepth 100000
set_option maxHeartbeats 16000000
abbrev qMwE8:=@q8
structure MdIn (w:World) (V:Nat→Value) (m:Md):Prop where
 vars:RowV VrAt 4 w (V 0) m.vars
 defs:RowV DfAt 5 w (V 1) m.defs
 init:RowV TmAt 4 w (V 2) m.init
 invar:RowV TmAt 4 w (V 3) m.invar
 next:RowV DfAt 5 w (V 4) m.next
 trans:RowV TmAt 4 w (V 5) m.trans
 fair:RowV TmAt 4 w (V 6) m.fair
 specs:RowV SpAt 7 w (V 7) m.specs
theorem MdIn.below {w w':World} {V:Nat→Value} {m:Md} (h:MdIn w V m) (hb:Below w.heap.size w w'):MdIn w' V m:=
 ⟨h.vars.below (VrAt.below hb) hb.size,h.defs.below (DfAt.below hb) hb.size,h.init.below (fun g o x hg=>TmAt.below hb rfl hg) hb.size,h.invar.below (fun g o x hg=>TmAt.below hb rfl hg) hb.size,h.next.below (DfAt.below hb) hb.size,h.trans.below (fun g o x hg=>TmAt.below hb rfl hg) hb.size,h.fair.below (fun g o x hg=>TmAt.below hb rfl hg) hb.size,h.specs.below (SpAt.below hb) hb.size⟩
def ShXF (f:Fm):Prop:=∀ Ae ce A c W,FmV W Ae ce A c f→WordsT W→Calls Tryz.prog 28 #[f.val Ae ce A c] W fun e w'=>e=.returned (.tuple #[.string ⟨(showFm f).1.toArray⟩,.int .i64 (showFm f).2])∧Below W.heap.size W w'
structure ShAll (m:Md):Prop where
 defs:∀ d∈m.defs,ShX d.tm
 init:∀ t∈m.init,ShX t
 invar:∀ t∈m.invar,ShX t
 next:∀ d∈m.next,ShX d.tm
 trans:∀ t∈m.trans,ShX t
 fair:∀ t∈m.fair,ShX t
 specs:∀ s∈m.specs,ShXF s.fm
structure NmOk (m:Md):Prop where
 vars:∀ d∈m.vars,d.name.size≤maxLen
 defs:∀ d∈m.defs,d.name.size≤maxLen
 next:∀ d∈m.next,d.name.size≤maxLen
 specs:∀ d∈m.specs,d.name.size≤maxLen
theorem showFm_le (f:Fm):(showFm f).1.length≤65536:=by
 unfold showFm
 split
 · simp
 split
 · simp
 split
 · simp
 · show (frmT f 1).1.length≤_;omega
theorem addS_bad {l:Bs} {s:ByteArray} {f:Fm} (h:nameM 0 s≠0):addL (l,0) (spL ⟨s,f⟩)=(l,nameM 0 s):=by
 rw [nameM_0] at h ⊢
 cases hn:isName (bs s) with
 | false=>
  have h':isName s.data.toList=false:=hn;simp [spL,addL,h']
 | true=>rw [hn] at h;exact absurd rfl h
theorem addS_ok {l:Bs} {s:ByteArray} {f:Fm} (h:nameM 0 s=0):addL (l,0) (spL ⟨s,f⟩)=(lineM l (showFm f).2 [⟨#[115,112,101,99]⟩,s,⟨#[58]⟩,⟨(showFm f).1.toArray⟩],(showFm f).2):=by
 rw [nameM_0] at h
 cases hn:isName (bs s) with
 | false=>rw [hn] at h;cases h
 | true=>
  have h':¬isName s.data.toList=false:=by show ¬isName (bs s)=false;rw [hn];decide
  by_cases h:(showFm f).2=0
  · simp [spL,addL,h',h,lineM,joinP,Lib.join,wSpec]
  · simp [spL,addL,h',h,lineM]
theorem q7w {w:World} {b:Nat} {T:TypeId} {u0 u1 u2 u3 u4 u5 u6:Value} (h:w.heap[b]?=some (.cells #[u0,u1,u2,u3,u4,u5,u6] T (0,0))):w.cell? ⟨b,0,none⟩=some u0∧w.cell? ⟨b,1,none⟩=some u1∧w.cell? ⟨b,2,none⟩=some u2∧w.cell? ⟨b,3,none⟩=some u3∧w.cell? ⟨b,4,none⟩=some u4∧w.cell? ⟨b,5,none⟩=some u5∧w.cell? ⟨b,6,none⟩=some u6∧∀ j,w.frozen? ⟨b,j,none⟩=false:=
 ⟨cel h 0 rfl,cel h 1 rfl,cel h 2 rfl,cel h 3 rfl,cel h 4 rfl,cel h 5 rfl,cel h 6 rfl,frz h⟩
theorem bdrewM {B:Nat} {a w:World} (h:Below B a w) (n:Nat):Below B a (w.drewN n):=⟨h.os,h.tape,h.output,h.size,h.block⟩
theorem varL_len {l:Bs} {v:Vr}:(addL (l,0) (varL v)).1.length≤l.length+70000:=by
 have hlen:(varL v).1.length≤70000:=by
  unfold varL
  split
  · simp
  · rename_i hn
    have h2:isName v.name.data.toList=true:=by cases h:isName v.name.data.toList <;> simp_all
    have h3:v.name.size≤24:=isName_len h2
    split
    · split
      · simp
      · have:v.name.data.toList.length=v.name.size:=rfl;simp only [wVar,wBool,eol,List.length_append,List.length_cons,List.length_nil];omega
    · split
      · simp
      · rename_i hf
        have hf:farI v.lo=false∧farI v.hi=false:=by simpa using hf
        have h4:=numS_short _ (far_rng hf.1).1 (far_rng hf.1).2;have h5:=numS_short _ (far_rng hf.2).1 (far_rng hf.2).2;have:v.name.data.toList.length=v.name.size:=rfl;simp only [wVar,eol,List.length_append,List.length_cons,List.length_nil];omega
 unfold addL;rw [iN (fun h=>h rfl)]
 split
 · show l.length≤_;omega
 · show (l++_).length≤_;rw [List.length_append];omega
theorem mshow_any (V:Nat→Value) (m:Md) (w:World) (hM:MdIn w V m) (hX:ShAll m) (hNm:NmOk m) (hT:WordsT w) :
 Calls Tryz.prog 12 #[.agg #[V 0,V 1,V 2,V 3,V 4,V 5,V 6,V 7]] w fun r w'=>r=.returned (.tuple #[.string ⟨(showM m).1.toArray⟩,.int .i64 (showM m).2])∧Below w.heap.size w w':=by
 obtain ⟨F,HF⟩:=exh_ (fun (r:Ending) (w':World)=>r=.returned (.tuple #[.string ⟨(showM m).1.toArray⟩,.int .i64 (showM m).2])∧Below w.heap.size w w');rw [←HF.out];obtain ⟨A0,c0,e0,p0,q0,r0⟩:=hM.vars;have R0:=Hd (show RowV VrAt 4 w (.slice A0 m.vars.length c0) m.vars from ⟨A0,c0,rfl,p0,q0,r0⟩);obtain ⟨A1,c1,e1,p1,q1,r1⟩:=hM.defs;have R1:=Hd (show RowV DfAt 5 w (.slice A1 m.defs.length c1) m.defs from ⟨A1,c1,rfl,p1,q1,r1⟩);obtain ⟨A2,c2,e2,p2,q2,r2⟩:=hM.init;have R2:=Hd (show RowV TmAt 4 w (.slice A2 m.init.length c2) m.init from ⟨A2,c2,rfl,p2,q2,r2⟩);obtain ⟨A3,c3,e3,p3,q3,r3⟩:=hM.invar;have R3:=Hd (show RowV TmAt 4 w (.slice A3 m.invar.length c3) m.invar from ⟨A3,c3,rfl,p3,q3,r3⟩);obtain ⟨A4,c4,e4,p4,q4,r4⟩:=hM.next;have R4:=Hd (show RowV DfAt 5 w (.slice A4 m.next.length c4) m.next from ⟨A4,c4,rfl,p4,q4,r4⟩);obtain ⟨A5,c5,e5,p5,q5,r5⟩:=hM.trans;have R5:=Hd (show RowV TmAt 4 w (.slice A5 m.trans.length c5) m.trans from ⟨A5,c5,rfl,p5,q5,r5⟩);obtain ⟨A6,c6,e6,p6,q6,r6⟩:=hM.fair;have R6:=Hd (show RowV TmAt 4 w (.slice A6 m.fair.length c6) m.fair from ⟨A6,c6,rfl,p6,q6,r6⟩);obtain ⟨A7,c7,e7,p7,q7,r7⟩:=hM.specs;have R7:=Hd (show RowV SpAt 7 w (.slice A7 m.specs.length c7) m.specs from ⟨A7,c7,rfl,p7,q7,r7⟩);rw [e0,e1,e2,e3,e4,e5,e6,e7];obtain ⟨n0,N0⟩:=exh_ m.vars.length;rw [←N0.out] at R0 p0 ⊢;unfold maxLen at q0
 obtain ⟨n1,N1⟩:=exh_ m.defs.length;rw [←N1.out] at R1 p1 ⊢;unfold maxLen at q1;obtain ⟨n2,N2⟩:=exh_ m.init.length;rw [←N2.out] at R2 p2 ⊢;unfold maxLen at q2;obtain ⟨n3,N3⟩:=exh_ m.invar.length;rw [←N3.out] at R3 p3 ⊢;unfold maxLen at q3;obtain ⟨n4,N4⟩:=exh_ m.next.length;rw [←N4.out] at R4 p4 ⊢;unfold maxLen at q4;obtain ⟨n5,N5⟩:=exh_ m.trans.length;rw [←N5.out] at R5 p5 ⊢;unfold maxLen at q5;obtain ⟨n6,N6⟩:=exh_ m.fair.length;rw [←N6.out] at R6 p6 ⊢;unfold maxLen at q6;obtain ⟨n7,N7⟩:=exh_ m.specs.length;rw [←N7.out] at R7 p7 ⊢;unfold maxLen at q7;clear hM e0 e1 e2 e3 e4 e5 e6 e7 r0 r1 r2 r3 r4 r5 r6 r7;obtain ⟨S0,hS0⟩:=ex_ (secM varL m.vars ([],0));obtain ⟨S1,hS1⟩:=ex_ (secM (defL wDef) m.defs S0);obtain ⟨S2,hS2⟩:=ex_ (secM (tmL wInit) m.init S1);obtain ⟨S3,hS3⟩:=ex_ (secM (tmL wInvar) m.invar S2);obtain ⟨S4,hS4⟩:=ex_ (secM (defL wNext) m.next S3);obtain ⟨S5,hS5⟩:=ex_ (secM (tmL wTrans) m.trans S4);obtain ⟨S6,hS6⟩:=ex_ (secM (tmL wFair) m.fair S5);obtain ⟨S7,hS7⟩:=ex_ (secM spL m.specs S6);have hraw:rawM m=S7:=by unfold rawM;rw [←hS0,←hS1,←hS2,←hS3,←hS4,←hS5,←hS6,←hS7]
 have hsh:showM m=if S7.2≠0 then ([],S7.2) else if 65536<S7.1.length then ([],4) else (S7.1,0):=by unfold showM;rw [hraw]
 rw [hsh] at HF;clear hsh hraw;obtain ⟨B,hB⟩:=ex_ w.heap.size;obtain ⟨b,hb⟩:=ex_ (B+1);obtain ⟨w1,hw1⟩:=ex_ (w.alloc (.cells #[.slice A0 n0 c0,.slice A1 n1 c1,.slice A2 n2 c2,.slice A3 n3 c3,.slice A4 n4 c4,.slice A5 n5 c5,.slice A6 n6 c6,.slice A7 n7 c7] 28));obtain ⟨w2,hw2⟩:=ex_ (w1.alloc (.cells #[.pointer none,.slice none 0 0,.int .i64 0] 83));have hb1:=bAl hw1;have hb2:=bAl hw2;have hs1:=sAl hw1;have HXa:=nAl hw1 hB;have HX:=kX hb2 HXa
 have hfr:Wr B b [] 0 w2:=by
  rw [hw2,hb,hB,←hs1];exact Wr.fresh w1 (by omega)
 have HB2:Hid (Below B w w2):=by
  have h:=hb1.trans (hb2.mono (by omega));rw [←hB] at h;exact h
 have hBb:B≠b:=by omega
 have HBL:=Hd (show B≤w2.heap.size by have:=hb2.size;omega);have HT:=Hd hT;have HXA:=Hd hX;have HNM0:=Hd hNm;have HW1:=Hd hw1;have HW2:=Hd hw2;have HBQ:=Hd hB;have HBB:=Hd hb;have hmany:=mwmany_any B b [] 0 n0 w2 hfr;obtain ⟨y,hy⟩:=ex_ (manyM 0 n0);have hm64:y=0→n0≤64:=fun h=>many_le (hy.symm.trans h);rw [secM_many,←N0.out,←hy] at hS0;rw [←hy] at hmany;have HM:=Hd hmany;have HM64:=Hd hm64;have HS0:=Hd hS0;have HS1:=Hd hS1;have HS2:=Hd hS2;have HS3:=Hd hS3;have HS4:=Hd hS4;have HS5:=Hd hS5;have HS6:=Hd hS6;have HS7:=Hd hS7;have HX0:=HX;clear HXa hT hX hNm hw1 hw2 hb1 hb2 hs1 hB hb hmany hy hm64 hfr hS0 hS1 hS2 hS3 hS4 hS5 hS6 hS7;obtain ⟨v0,v1,v2,v3,v4,v5,v6,v7,-⟩:=qMwE8 HX.out;have hBlt:=lH HX.out;go_enter Tryz.func12,Tryz.ntmps12;go_wp2_with fail;rw [←HW1.out];(try go_wp2_with fail);rw [←HW2.out,←HBQ.out,←HBB.out];refine (HM.out).mono ?_;rintro e w3 ⟨rfl,hg⟩;clear v0 v1 v2 v3 v4 v5 v6 v7 hBlt;replace HX:=kbX hg.2 HX hBb;obtain ⟨v0,v1,v2,v3,v4,v5,v6,v7,-⟩:=qMwE8 HX.out;have hBlt:=lH HX.out;have HG:=Hd hg;clear hg HM;go_wp2_with fail;have HXR:Hid (∀ W,KB B b w2 W→W.heap[B]?=some (.cells #[.slice A0 n0 c0,.slice A1 n1 c1,.slice A2 n2 c2,.slice A3 n3 c3,.slice A4 n4 c4,.slice A5 n5 c5,.slice A6 n6 c6,.slice A7 n7 c7] 28 (0,0))):=fun W hk=>(kbX hk HX0 hBb).out;clear HX0
 go_loopw [22] (fun si wr=>∃ (k:Nat) (l1:Bs) (x1:Int),k≤n0∧si=.int .i64 k∧WG B b l1 x1 w2 wr∧secF varL (m.vars.drop k) (l1,x1)=S0∧l1.length≤70000*k∧l1.length≤4480000∧(x1=0→n0≤64)) (fun i _=>n0 - (intOf i).toNat)
 case atStart=>exact ⟨0,[],y,zl _,rfl,HG.out,HS0.out.symm,zl _,zl _,HM64.out⟩
 case round=>
  obtain ⟨k,l1,x1,hk,rfl,hg,hrest,hl1,hl2,h64⟩:=hrel;clear v0 v1 v2 v3 v4 v5 v6 v7 hBlt HM64 HS0;replace HX:Hid (wr.heap[B]?=some (.cells #[.slice A0 n0 c0,.slice A1 n1 c1,.slice A2 n2 c2,.slice A3 n3 c3,.slice A4 n4 c4,.slice A5 n5 c5,.slice A6 n6 c6,.slice A7 n7 c7] 28 (0,0))):=HXR.out wr hg.2;obtain ⟨c2,f2,hlt⟩:=wr2 hg.1;replace HG:=Hd hg;have HRE:=Hd hrest;have HL1:=Hd hl1;have HL2:=Hd hl2;have H64:=Hd h64;clear hg hrest hl1 hl2 h64
  by_cases hkn:k<n0
  · obtain ⟨q,hq⟩:∃ q,m.vars[k]?=some q:=⟨_,gG (by have:=N0.out;omega)⟩;obtain ⟨A',c',he,-,-,hrow⟩:=R0.out
    injection he with he1 hen he2
    clear hen;subst he1 he2
    rcases hrow with h9 | ⟨g,o,rfl,hgl,hrow⟩
    · rw [h9] at hq;simp at hq
    have hbw:Below w.heap.size w wr:=by rw [←HBQ.out];exact HB2.out.trans HG.out.2.below
    have hgr:g<wr.heap.size:=lL hgl hbw.size;obtain ⟨y0,y1,y2,y3⟩:=VrAt.below hbw _ _ _ hgl (hrow k q hq);have hnm:=HNM0.out.vars q (mG hq);have HE:=Hd (HRE.out.symm.trans (secF_drop hq));have hk0:(0:Int)≤(k:Int):=by omega
    have hk1:(k:Int)<(n0:Int):=by omega
    have hne:g≠wr.heap.size:=by omega
    have hbn:b≠wr.heap.size:=by omega
    have hTr:=HT.out.below hbw;obtain ⟨nm,bo,lo,hh⟩:=q;simp only at y0 y1 y2 y3 hnm;obtain ⟨w5,HW5⟩:=exh_ (wr.alloc (.cells #[.string nm,.bool bo,.int .i64 lo,.int .i64 hh] 45));obtain ⟨z,HZ⟩:=exh_ wr.heap.size;have hbz:=bAl HW5.out;have HXV:=nAl HW5.out HZ.out;have HG5:=Hd (HG.out.below hbz HBL.out);have HT5:=Hd (hTr.below hbz);have HNM:=Hd hnm;clear hq hrow hgl hbw hbz hTr hnm
    by_cases hx:x1=0
    · subst hx;have HN64:=Hd (H64.out rfl);clear H64;have hvar:=mwvar_any B b l1 ⟨nm,bo,lo,hh⟩ w5 HG5.out.1 (Nat.le_trans HBL.out HG5.out.2.below.size) HNM.out HT5.out (by have:=HL2.out;omega);have HVL:=Hd (varL_len (l:=l1) (v:=⟨nm,bo,lo,hh⟩));obtain ⟨st,hst⟩:=ex_ (addL (l1,0) (varL ⟨nm,bo,lo,hh⟩));rw [←hst] at hvar HE HVL;have HV:=Hd hvar;clear hvar hst;have h00:((0:Int) == 0)=true:=rfl;go_wp2_with fail;rw [←HW5.out]
      try rw [←HZ.out]
      (try go_wp2_with fail);refine (HV.out).mono ?_;rintro e w6 ⟨rfl,hg6⟩;have HG6:=Hd (HG5.out.trans hg6);clear hg6 y0 y1 y2 y3 HV;go_wp2_with fail
      go_round
      case rel=>exact ⟨k+1,st.1,st.2,by omega,by go_num,HG6.out,HE.out.symm,Nat.le_trans HVL.out (by have:=HL1.out;omega),Nat.le_trans HVL.out (by have:=HL1.out;have:=HN64.out;omega),fun _=>HN64.out⟩
      case measure=>simp [intOf];omega
    · have hb:(x1 == 0)=false:=by simpa using hx
      have hst:secF varL (m.vars.drop (k+1)) (l1,x1)=S0:=by
       rw [secF_stuck hx,←HRE.out,secF_stuck hx]
      have HST:=Hd hst;clear hx hst;go_wp2_with fail;rw [←HW5.out];try go_wp2_with fail
      go_round
      case rel=>exact ⟨k+1,l1,x1,by omega,by go_num,HG5.out,HST.out,by have:=HL1.out;omega,HL2.out,H64.out⟩
      case measure=>simp [intOf];omega
  · have hkn':k=n0:=by omega
    subst hkn';have hS:S0=(l1,x1):=by rw [←HRE.out,N0.out,List.drop_length];rfl
    have HLS0:Hid (S0.1.length≤4480000):=by rw [hS];exact HL2.out
    replace HG:Hid (WG B b S0.1 S0.2 w2 wr):=by rw [hS];exact HG.out
    have hlt2:¬(k:Int)<(k:Int):=by omega
    clear hS HRE HL1 HL2 H64 c2 f2 hlt;obtain ⟨v0,v1,v2,v3,v4,v5,v6,v7,-⟩:=qMwE8 HX.out;have hBlt:=lH HX.out
    have hc:Calls Tryz.prog 25 #[.pointer (some ⟨b,0,none⟩),.string ⟨#[100,101,102]⟩,.slice A1 n1 c1] wr fun r w'=>r=.returned (.tuple #[])∧WG B b S1.1 S1.2 wr w'∧S1.1.length≤S0.1.length+4480000:=by
     have h:=mwdefs_any B b S0.1 S0.2 ⟨#[100,101,102]⟩ m.defs A1 c1 w wr HBQ.out (HB2.out.trans HG.out.2.below) HG.out.1 (by rw [←N1.out];exact R1.out) ⟨HXA.out.defs,HNM0.out.defs⟩ HT.out (by have:=HLS0.out;omega) (by decide);rw [←N1.out] at h;rw [HS1.out];exact h
    have HC:=Hd hc;clear hc;go_wp2_with fail;refine (HC.out).mono ?_;rintro e wn ⟨rfl,hg,hlen⟩;clear v0 v1 v2 v3 v4 v5 v6 v7 hBlt;replace HX:=kbX hg.2 HX hBb;replace HG:=Hd (HG.out.trans hg);have HLS1:Hid (S1.1.length≤8960000):=by have:=HLS0.out;show S1.1.length≤_;omega
    clear hg hlen HC HLS0 HS1 wr;rename World=>wr;obtain ⟨v0,v1,v2,v3,v4,v5,v6,v7,-⟩:=qMwE8 HX.out;have hBlt:=lH HX.out
    have hc:Calls Tryz.prog 26 #[.pointer (some ⟨b,0,none⟩),.string ⟨#[105,110,105,116]⟩,.slice A2 n2 c2] wr fun r w'=>r=.returned (.tuple #[])∧WG B b S2.1 S2.2 wr w'∧S2.1.length≤S1.1.length+4480000:=by
     have h:=mwterms_any B b S1.1 S1.2 ⟨#[105,110,105,116]⟩ m.init A2 c2 w wr HBQ.out (HB2.out.trans HG.out.2.below) HG.out.1 (by rw [←N2.out];exact R2.out) HXA.out.init HT.out (by have:=HLS1.out;omega) (by decide);rw [←N2.out] at h;rw [HS2.out];exact h
    have HC:=Hd hc;clear hc;go_wp2_with fail;refine (HC.out).mono ?_;rintro e wn ⟨rfl,hg,hlen⟩;clear v0 v1 v2 v3 v4 v5 v6 v7 hBlt;replace HX:=kbX hg.2 HX hBb;replace HG:=Hd (HG.out.trans hg);have HLS2:Hid (S2.1.length≤13440000):=by have:=HLS1.out;show S2.1.length≤_;omega
    clear hg hlen HC HLS1 HS2 wr;rename World=>wr;obtain ⟨v0,v1,v2,v3,v4,v5,v6,v7,-⟩:=qMwE8 HX.out;have hBlt:=lH HX.out
    have hc:Calls Tryz.prog 26 #[.pointer (some ⟨b,0,none⟩),.string ⟨#[105,110,118,97,114]⟩,.slice A3 n3 c3] wr fun r w'=>r=.returned (.tuple #[])∧WG B b S3.1 S3.2 wr w'∧S3.1.length≤S2.1.length+4480000:=by
     have h:=mwterms_any B b S2.1 S2.2 ⟨#[105,110,118,97,114]⟩ m.invar A3 c3 w wr HBQ.out (HB2.out.trans HG.out.2.below) HG.out.1 (by rw [←N3.out];exact R3.out) HXA.out.invar HT.out (by have:=HLS2.out;omega) (by decide);rw [←N3.out] at h;rw [HS3.out];exact h
    have HC:=Hd hc;clear hc;go_wp2_with fail;refine (HC.out).mono ?_;rintro e wn ⟨rfl,hg,hlen⟩;clear v0 v1 v2 v3 v4 v5 v6 v7 hBlt;replace HX:=kbX hg.2 HX hBb;replace HG:=Hd (HG.out.trans hg);have HLS3:Hid (S3.1.length≤17920000):=by have:=HLS2.out;show S3.1.length≤_;omega
    clear hg hlen HC HLS2 HS3 wr;rename World=>wr;obtain ⟨v0,v1,v2,v3,v4,v5,v6,v7,-⟩:=qMwE8 HX.out;have hBlt:=lH HX.out
    have hc:Calls Tryz.prog 25 #[.pointer (some ⟨b,0,none⟩),.string ⟨#[110,101,120,116]⟩,.slice A4 n4 c4] wr fun r w'=>r=.returned (.tuple #[])∧WG B b S4.1 S4.2 wr w'∧S4.1.length≤S3.1.length+4480000:=by
     have h:=mwdefs_any B b S3.1 S3.2 ⟨#[110,101,120,116]⟩ m.next A4 c4 w wr HBQ.out (HB2.out.trans HG.out.2.below) HG.out.1 (by rw [←N4.out];exact R4.out) ⟨HXA.out.next,HNM0.out.next⟩ HT.out (by have:=HLS3.out;omega) (by decide);rw [←N4.out] at h;rw [HS4.out];exact h
    have HC:=Hd hc;clear hc;go_wp2_with fail;refine (HC.out).mono ?_;rintro e wn ⟨rfl,hg,hlen⟩;clear v0 v1 v2 v3 v4 v5 v6 v7 hBlt;replace HX:=kbX hg.2 HX hBb;replace HG:=Hd (HG.out.trans hg);have HLS4:Hid (S4.1.length≤22400000):=by have:=HLS3.out;show S4.1.length≤_;omega
    clear hg hlen HC HLS3 HS4 wr;rename World=>wr;obtain ⟨v0,v1,v2,v3,v4,v5,v6,v7,-⟩:=qMwE8 HX.out;have hBlt:=lH HX.out
    have hc:Calls Tryz.prog 26 #[.pointer (some ⟨b,0,none⟩),.string ⟨#[116,114,97,110,115]⟩,.slice A5 n5 c5] wr fun r w'=>r=.returned (.tuple #[])∧WG B b S5.1 S5.2 wr w'∧S5.1.length≤S4.1.length+4480000:=by
     have h:=mwterms_any B b S4.1 S4.2 ⟨#[116,114,97,110,115]⟩ m.trans A5 c5 w wr HBQ.out (HB2.out.trans HG.out.2.below) HG.out.1 (by rw [←N5.out];exact R5.out) HXA.out.trans HT.out (by have:=HLS4.out;omega) (by decide);rw [←N5.out] at h;rw [HS5.out];exact h
    have HC:=Hd hc;clear hc;go_wp2_with fail;refine (HC.out).mono ?_;rintro e wn ⟨rfl,hg,hlen⟩;clear v0 v1 v2 v3 v4 v5 v6 v7 hBlt;replace HX:=kbX hg.2 HX hBb;replace HG:=Hd (HG.out.trans hg);have HLS5:Hid (S5.1.length≤26880000):=by have:=HLS4.out;show S5.1.length≤_;omega
    clear hg hlen HC HLS4 HS5 wr;rename World=>wr;obtain ⟨v0,v1,v2,v3,v4,v5,v6,v7,-⟩:=qMwE8 HX.out;have hBlt:=lH HX.out
    have hc:Calls Tryz.prog 26 #[.pointer (some ⟨b,0,none⟩),.string ⟨#[102,97,105,114]⟩,.slice A6 n6 c6] wr fun r w'=>r=.returned (.tuple #[])∧WG B b S6.1 S6.2 wr w'∧S6.1.length≤S5.1.length+4480000:=by
     have h:=mwterms_any B b S5.1 S5.2 ⟨#[102,97,105,114]⟩ m.fair A6 c6 w wr HBQ.out (HB2.out.trans HG.out.2.below) HG.out.1 (by rw [←N6.out];exact R6.out) HXA.out.fair HT.out (by have:=HLS5.out;omega) (by decide);rw [←N6.out] at h;rw [HS6.out];exact h
    have HC:=Hd hc;clear hc;go_wp2_with fail;refine (HC.out).mono ?_;rintro e wn ⟨rfl,hg,hlen⟩;clear v0 v1 v2 v3 v4 v5 v6 v7 hBlt;replace HX:=kbX hg.2 HX hBb;replace HG:=Hd (HG.out.trans hg);have HLS6:Hid (S6.1.length≤31360000):=by have:=HLS5.out;show S6.1.length≤_;omega
    clear hg hlen HC HLS5 HS6 wr;rename World=>wr;obtain ⟨v0,v1,v2,v3,v4,v5,v6,v7,-⟩:=qMwE8 HX.out;have hBlt:=lH HX.out;have hmany7:=mwmany_any B b S6.1 S6.2 n7 wr HG.out.1;obtain ⟨y7,hy7⟩:=ex_ (manyM S6.2 n7);have HM647:Hid (y7=0→n7≤64):=fun h=>many_le (hy7.symm.trans h);have hS7:S7=secF spL m.specs (S6.1,y7):=by rw [HS7.out,hy7,N7.out];exact secM_many spL m.specs S6.1 S6.2
    rw [←hy7] at hmany7;have HM7:=Hd hmany7;clear HS7;have HS7:=Hd hS7;clear hmany7 hy7 hS7;go_wp2_with fail;refine (HM7.out).mono ?_;rintro e wn ⟨rfl,hg⟩;clear v0 v1 v2 v3 v4 v5 v6 v7 hBlt;replace HX:=kbX hg.2 HX hBb;replace HG:=Hd (HG.out.trans hg);clear hg HM7 wr;rename World=>wr;obtain ⟨v0,v1,v2,v3,v4,v5,v6,v7,-⟩:=qMwE8 HX.out;have hBlt:=lH HX.out;go_wp2_with fail
    go_loopw [67] (fun si ws=>∃ (k:Nat) (l1:Bs) (x1:Int),k≤n7∧k≤64∧si=.int .i64 k∧WG B b l1 x1 w2 ws∧secF spL (m.specs.drop k) (l1,x1)=S7∧l1.length≤40000000+70000*k∧(x1=0→n7≤64)) (fun i _=>n7 - (intOf i).toNat)
    case atStart=>exact ⟨0,S6.1,y7,zl _,zl _,rfl,HG.out,HS7.out.symm,by have:=HLS6.out;omega,HM647.out⟩
    case round=>
     obtain ⟨k,l1,x1,hk,hk64,rfl,hg,hrest,hl1,h64⟩:=hrel;rename World=>ws;clear v0 v1 v2 v3 v4 v5 v6 v7 hBlt HM647 HS7 HG HX HLS6;obtain ⟨c2,f2,hlt⟩:=wr2 hg.1;have HG:=Hd hg;have HRE:=Hd hrest;have HL1:=Hd hl1;have H64:=Hd h64;clear hg hrest hl1 h64
     by_cases hkn:k<n7
     · obtain ⟨q,hq⟩:∃ q,m.specs[k]?=some q:=⟨_,gG (by have:=N7.out;omega)⟩;obtain ⟨A',c',he,-,-,hrow⟩:=R7.out
       injection he with he1 hen he2
       clear hen;subst he1 he2
       rcases hrow with h9 | ⟨g,o,rfl,hgl,hrow⟩
       · rw [h9] at hq;simp at hq
       have hbw:Below w.heap.size w ws:=by rw [←HBQ.out];exact HB2.out.trans HG.out.2.below
       have hgr:g<ws.heap.size:=lL hgl hbw.size;obtain ⟨y0,ha2⟩:=SpAt.below hbw _ _ _ hgl (hrow k q hq);have hnm:=HNM0.out.specs q (mG hq);have hfv0:=(hrow k q hq).2;obtain ⟨z0,z1,z2,z3,A9,c9,A8,c8,z4,z5,hfv⟩:=hfv0.open;clear ha2 hfv0;have hy:=fun (o:Nat) (v:Value) (h:w.cell? ⟨g,o,none⟩=some v)=>(hbw.cell (p:=⟨g,o,none⟩) hgl).trans h;have y1:=hy _ _ z0;have y2:=hy _ _ z1;have y3:=hy _ _ z2;have y4:=hy _ _ z3;have y5:=hy _ _ z4;have y6:=hy _ _ z5;rw [show o+k*7+1+1=o+k*7+2 from rfl] at y2;rw [show o+k*7+1+2=o+k*7+3 from rfl] at y3;rw [show o+k*7+1+3=o+k*7+4 from rfl] at y4;rw [show o+k*7+1+4=o+k*7+5 from rfl] at y5;rw [show o+k*7+1+5=o+k*7+6 from rfl] at y6;have HE:=Hd (HRE.out.symm.trans (secF_drop hq));have hk0:(0:Int)≤(k:Int):=by omega
       have hk1:(k:Int)<(n7:Int):=by omega
       have hne:g≠ws.heap.size:=by omega
       have hbn:b≠ws.heap.size:=by omega
       have hTr:=HT.out.below hbw;have hxf:=HXA.out.specs q (mG hq);clear z0 z1 z2 z3 z4 z5 hy;obtain ⟨nm,fm⟩:=q;simp only at y0 y1 y2 y3 y4 y5 y6 hnm hxf hfv;obtain ⟨n9,hn9⟩:=ex_ fm.tm.kids.length;obtain ⟨n8,hn8⟩:=ex_ fm.kids.length;rw [←hn9] at y5;rw [←hn8] at y6;obtain ⟨w5,hw5⟩:=ex_ (ws.alloc (.cells #[.string nm,.int .i64 fm.op,.int .i64 fm.tm.op,.int .i64 fm.tm.num,.string fm.tm.name,.slice A9 n9 c9,.slice A8 n8 c8] 69));obtain ⟨z,hz⟩:=ex_ ws.heap.size;have hzb:z≠b:=by omega
       have hbz:=bAl hw5;have HXV:=nAl hw5 hz;have HW5:=Hd hw5;have HZ:=Hd hz;have HG5:=Hd (HG.out.below hbz HBL.out);have HT5:=Hd (hTr.below hbz);have HNM:=Hd hnm;have HFV:=Hd hfv;have HXF:=Hd hxf;have HN9:=Hd hn9;have HN8:=Hd hn8;clear hq hrow hbw hw5 hz hbz hTr hnm hfv hxf hn9 hn8
       by_cases hx:x1=0
       · subst hx;have HN64:=Hd (H64.out rfl);clear H64;obtain ⟨e0,HE0⟩:=exh_ (nameM 0 nm);have hnmc:=mwname_any B b l1 0 nm w5 HG5.out.1 HNM.out HT5.out;rw [←HE0.out] at hnmc;have HNC:=Hd hnmc;clear hnmc;have h00:((0:Int) != 0)=false:=rfl;go_wp2_with fail;rw [←HW5.out]
         try rw [←HZ.out]
         (try go_wp2_with fail);refine (HNC.out).mono ?_;rintro e w6 ⟨rfl,hg6⟩;have HX6:=kbX hg6.2 HXV hzb;have HG6:=Hd (HG5.out.trans hg6);clear hg6 HNC y0 y1 y2 y3 y4 y5 y6 c2 f2 hlt;obtain ⟨c2,f2,hlt⟩:=wr2 HG6.out.1;obtain ⟨v0,v1,v2,v3,v4,v5,v6,-⟩:=q7w HX6.out;have hl6:=lH HX6.out
         by_cases hy0:e0=0
         · obtain ⟨S,hS⟩:∃ S:ByteArray,S=⟨(showFm fm).1.toArray⟩:=⟨_,rfl⟩;obtain ⟨e1,he1⟩:=ex_ (showFm fm).2;have hsl:S.size≤65536:=by rw [hS];exact showFm_le fm
           have hadd:=addS_ok (l:=l1) (s:=nm) (f:=fm) (HE0.out.symm.trans hy0);rw [←hS,←he1] at hadd;have hnl:nm.size≤24:=nameM_len (HE0.out.symm.trans hy0);have hb6:Below w.heap.size w w6:=by rw [←HBQ.out];exact HB2.out.trans HG6.out.2.below
           have hsh:=HXF.out A9 c9 A8 c8 w6 (HFV.out.below hb6 rfl) (HT.out.below hb6);unfold Fm.val at hsh;rw [←HN9.out,←HN8.out,←hS,←he1] at hsh;have HSH:=Hd hsh;have HADD:=Hd hadd;have HSL:=Hd hsl;have HNL:=Hd hnl;subst hy0;clear hS he1 hsl hadd hnl hb6 hsh;have h01:((0:Int) == 0)=true:=rfl;go_wp2_with fail;refine (HSH.out).mono ?_;rintro e w7 ⟨rfl,hb7⟩;have hg7:=HG6.out.below hb7 HBL.out;have hfa:=mwfail_any B b l1 0 e1 w7 hg7.1;rw [show failM 0 e1=e1 from rfl] at hfa;have HFA:=Hd hfa;have HG7:=Hd hg7;clear hb7 hg7 hfa HSH v0 v1 v2 v3 v4 v5 v6 hl6 c2 f2 hlt;go_wp2_with fail;refine (HFA.out).mono ?_;rintro e w8 ⟨rfl,hg8⟩;have hg8:=HG7.out.trans hg8;obtain ⟨z9,hz9⟩:=ex_ w8.heap.size;obtain ⟨w9,hw9⟩:=ex_ (w8.alloc (.cells (strR [⟨#[115,112,101,99]⟩,nm,⟨#[58]⟩,S]) 9));have hb9:=bAl hw9;have HZ9:=nAl hw9 hz9;have hg9:=hg8.below hb9 HBL.out;have hln:Calls Tryz.prog 30 #[.pointer (some ⟨b,0,none⟩),.slice (some ⟨z9,0,none⟩) 4 4] w9 _:=mwline_row B b z9 l1 e1 [⟨#[115,112,101,99]⟩,nm,⟨#[58]⟩,S] w9 hg9.1 HZ9.out (by simp) (fun h=>by rw [joinP_len4];have:=HSL.out;have:=HL1.out;have:=HNL.out;show _+(4+nm.size+1+S.size+6)≤_;omega) (Nat.le_trans HBL.out hg9.2.below.size);have HLN:=Hd hln;have HW9:=Hd hw9;have HZQ:=Hd hz9;have HG9:=Hd hg9;clear hz9 hw9 hb9 hg9 hln hg8 HFA;go_wp2_with fail
           show Calls _ _ #[_,.slice (some ⟨w8.heap.size,0,none⟩) 4 4] (w8.alloc (.cells (strR [⟨#[115,112,101,99]⟩,nm,⟨#[58]⟩,S]) 9)) _;rw [←HW9.out,←HZQ.out];refine (HLN.out).mono ?_;rintro e wa ⟨rfl,hga⟩;have HGa:=Hd (HG9.out.trans hga);clear hga HLN;go_wp2_with fail
           go_round
           case rel=>exact ⟨k+1,_,_,by omega,by have:=HN64.out;omega,by go_num,HGa.out,by rw [←HADD.out];exact HE.out.symm,Nat.le_trans (line_len4 (by decide) (fun _=>HNL.out) (by decide) HSL.out HL1.out) (Nat.le_of_eq (by rw [Nat.mul_succ,Nat.add_assoc])),fun _=>HN64.out⟩
           case measure=>simp [intOf];omega
         · have hadd:=addS_bad (l:=l1) (s:=nm) (f:=fm) (fun h=>hy0 (HE0.out.trans h));rw [←HE0.out] at hadd;have HADD:=Hd hadd;have hb:(e0 == 0)=false:=by simpa using hy0
           have HY0:=Hd hy0;clear hadd hy0;go_wp2_with fail
           go_round
           case rel=>exact ⟨k+1,l1,e0,by omega,by have:=HN64.out;omega,by go_num,HG6.out,by rw [←HADD.out];exact HE.out.symm,by have:=HL1.out;omega,fun h=>absurd h HY0.out⟩
           case measure=>simp [intOf];omega
       · have HE7:=Hd (HRE.out.symm.trans (secF_stuck hx));clear HRE HE HG;have hb:(x1 != 0)=true:=by simpa using hx
         go_wp2_with fail;rw [←HW5.out];have HG:=HG5;have HBW:=Hd (HB2.out.trans HG.out.2.below);obtain ⟨c2,f2,hlt⟩:=wr2 HG.out.1;rw [HE7.out] at HF;have hb:(x1 != 0)=true:=by simpa using hx
         rw [iP hx] at HF;go_wp2_with fail
         go_quiet (fail)
         go_wp2_with fail;rw [HF.out];rw [HBQ.out] at HBW;exact ⟨rfl,bdrewM HBW.out _⟩
     · have hkn':k=n7:=by omega
       subst hkn';have HE7:Hid (S7=(l1,x1)):=by show _=_;rw [←HRE.out,N7.out,List.drop_length];rfl
       have hlt2:¬(k:Int)<(k:Int):=by omega
       clear HRE HL1 H64 c2 f2 hlt;have HBW:=Hd (HB2.out.trans HG.out.2.below);obtain ⟨c2,f2,hlt⟩:=wr2 HG.out.1;rw [HE7.out] at HF
       by_cases hx:x1=0
       · subst hx;have hb:((0:Int) != 0)=false:=rfl;rw [iN (fun h=>h rfl)] at HF;have HLN:=Hd (mlen_any B b l1 0 _ HG.out.1);have HST:=Hd (mstr_any B b l1 0 _ HG.out.1)
         by_cases h6:65536<l1.length
         · have h6':(65536:Int)<(l1.length:Int):=by omega
           rw [iP h6] at HF;go_wp2_with fail;refine (HLN.out).mono ?_;rintro e w9 ⟨rfl,hw9⟩;rw [hw9];clear hw9;go_wp2_with fail;rw [HF.out];rw [HBQ.out] at HBW;exact ⟨rfl,HBW.out⟩
         · have h6':¬(65536:Int)<(l1.length:Int):=by omega
           rw [iN h6] at HF;go_wp2_with fail;refine (HLN.out).mono ?_;rintro e w9 ⟨rfl,hw9⟩;rw [hw9];clear hw9;go_wp2_with fail;refine (HST.out).mono ?_;rintro e w9 ⟨rfl,hb9⟩;have HB9:=Hd (HBW.out.trans hb9);clear hb9;go_wp2_with fail;rw [HF.out];rw [HBQ.out] at HB9;exact ⟨rfl,HB9.out⟩
       · have hb:(x1 != 0)=true:=by simpa using hx
         rw [iP hx] at HF;go_wp2_with fail
         go_quiet (fail)
         go_wp2_with fail;rw [HF.out];rw [HBQ.out] at HBW;exact ⟨rfl,bdrewM HBW.out _⟩
end Go.Proofs.YtkhoeoilamddaaaGreatDoor
