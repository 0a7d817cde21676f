/- Walks: modtext's writer.variable. -/
import Derived.Test.YtkhoeoilamddaaaGreatDoorWMwA
namespace Go.Proofs.YtkhoeoilamddaaaGreatDoor
open Go.RowKit
set_option linter.unusedVariables false
set_option linter.unusedSimpArgs false
set_option maxRecDepth 100000
set_option maxHeartbeats 8000000
theorem tLMwC {o:Array Oper} {i:Nat} {x:Oper} (h:o.toList[i]?=some x):o[i]?=some x:=by simpa using h
theorem kbX {B b q:Nat} {w w':World} {cs:Array Value} {T:TypeId} {fz:Nat×Nat} (hk:KB B b w w') (X:Hid (w.heap[q]?=some (.cells cs T fz))) (hq:q≠b) (hT:T≠5:=by decide):Hid (w'.heap[q]?=some (.cells cs T fz)):=by
 show _=_;rw [hk.keep q (lH X.out) hq (fun cs' fz' e=>by rw [X.out] at e;injection e with e;injection e with _ e _;exact hT e)];exact X.out
theorem mfar_any (n:Int) (w:World):Calls Tryz.prog 55 #[.int .i64 n] w fun r w'=>r=.returned (.bool (farI n))∧w=w':=by
 obtain ⟨F,HF⟩:=exh_ (fun (r:Ending) (w':World)=>r=.returned (.bool (farI n))∧w=w');rw [←HF.out];unfold farI at HF
 by_cases h1:n < -255
 · rw [decide_eq_true h1,Bool.true_or] at HF;go_enter Tryz.func55,Tryz.ntmps55;go_wp2_with fail;rw [HF.out];exact ⟨rfl,rfl⟩
 · rw [dF h1,Bool.false_or] at HF
   by_cases h2:255<n
   all_goals
    simp only [h2,decide_true,decide_false] at HF;go_enter Tryz.func55,Tryz.ntmps55;go_wp2_with fail;rw [HF.out];exact ⟨rfl,rfl⟩
theorem isName_len {s:Bs} (h:isName s=true):s.length≤24:=by
 unfold isName at h;simp only [Bool.and_eq_true,decide_eq_true_iff] at h;exact h.1.1.1.2
theorem join4 (a b c d:Bs):Lib.join [a,b,c,d] [32]=a++[32]++b++[32]++c++[32]++d:=by simp [Lib.join]
theorem join6 (a b c d e f:Bs):Lib.join [a,b,c,d,e,f] [32]=a++[32]++b++[32]++c++[32]++d++[32]++e++[32]++f:=by simp [Lib.join]
theorem join2 (a b:Bs):Lib.join [a,b] [32]=a++[32]++b:=by simp [Lib.join]
def lineM (l:Bs) (y:Int) (xs:List ByteArray):Bs:=if y=0 then l++joinP xs else l
theorem nameM_0 (s:ByteArray):nameM 0 s=if isName (bs s) then 0 else 12:=by unfold nameM failM;rw [iP rfl]
theorem addV_name {l:Bs} {v:Vr} (h:isName (bs v.name)=false):addL (l,0) (varL v)=(l,12):=by
 have h':isName v.name.data.toList=false:=h;unfold varL addL;rw [iN (fun h=>h rfl),iP h',iP (by decide)]
theorem addV_form {l:Bs} {v:Vr} (hb:v.bool=true) (h:v.lo≠0∨v.hi≠0):addL (l,0) (varL v)=(l,failM (nameM 0 v.name) 3):=by
 rw [nameM_0]
 cases hn:isName (bs v.name) with
 | false=>rw [addV_name hn];rfl
 | true=>
  have h':¬isName v.name.data.toList=false:=by show ¬isName (bs v.name)=false;rw [hn];decide
  simp [varL,addL,h',hb,h,failM]
theorem addV_bool {l:Bs} {v:Vr} (hb:v.bool=true) (h1:v.lo=0) (h2:v.hi=0):addL (l,0) (varL v)=(lineM l (nameM 0 v.name) [⟨#[118,97,114]⟩,v.name,⟨#[58]⟩,⟨#[98,111,111,108]⟩],nameM 0 v.name):=by
 rw [nameM_0]
 cases hn:isName (bs v.name) with
 | false=>rw [addV_name hn];rfl
 | true=>
  have h':¬isName v.name.data.toList=false:=by show ¬isName (bs v.name)=false;rw [hn];decide
  simp [varL,addL,h',hb,h1,h2,lineM,joinP,Lib.join,eol,wVar,wBool]
theorem addV_far {l:Bs} {v:Vr} (hb:v.bool=false) (h:(farI v.lo || farI v.hi)=true):addL (l,0) (varL v)=(l,failM (nameM 0 v.name) 2):=by
 rw [nameM_0]
 cases hn:isName (bs v.name) with
 | false=>rw [addV_name hn];rfl
 | true=>
  have h':¬isName v.name.data.toList=false:=by show ¬isName (bs v.name)=false;rw [hn];decide
  have hf:farI v.lo=true∨farI v.hi=true:=by simpa using h
  simp [varL,addL,h',hb,hf,failM]
theorem addV_num {l:Bs} {v:Vr} (hb:v.bool=false) (h:(farI v.lo || farI v.hi)=false):addL (l,0) (varL v)=(lineM l (nameM 0 v.name) [⟨#[118,97,114]⟩,v.name,⟨#[58]⟩,⟨(numS v.lo).toArray⟩,⟨#[46,46]⟩,⟨(numS v.hi).toArray⟩],nameM 0 v.name):=by
 rw [nameM_0]
 cases hn:isName (bs v.name) with
 | false=>rw [addV_name hn];rfl
 | true=>
  have h':¬isName v.name.data.toList=false:=by show ¬isName (bs v.name)=false;rw [hn];decide
  have hf:farI v.lo=false∧farI v.hi=false:=by simpa using h
  simp [varL,addL,h',hb,hf.1,hf.2,lineM,joinP,Lib.join,eol,wVar]
theorem far_rng {n:Int} (h:farI n=false):-255≤n∧n≤255:=by
 unfold farI at h;simp only [Bool.or_eq_false_iff,decide_eq_false_iff_not] at h;omega
theorem joinP_len4 (a b c d:ByteArray):(joinP [a,b,c,d]).length=a.size+b.size+c.size+d.size+6:=by
 unfold joinP;show (Lib.join [a.data.toList,b.data.toList,c.data.toList,d.data.toList] [32]++eol).length=_;rw [join4];have hz:∀ s:ByteArray,s.data.toList.length=s.size:=bs_length;simp only [List.length_append,hz,eol,List.length_cons,List.length_nil];omega
theorem joinP_len6 (a b c d e f:ByteArray):(joinP [a,b,c,d,e,f]).length=a.size+b.size+c.size+d.size+e.size+f.size+8:=by
 unfold joinP;show (Lib.join [a.data.toList,b.data.toList,c.data.toList,d.data.toList,e.data.toList,f.data.toList] [32]++eol).length=_;rw [join6];have hz:∀ s:ByteArray,s.data.toList.length=s.size:=bs_length;simp only [List.length_append,hz,eol,List.length_cons,List.length_nil];omega
theorem joinP_len2 (a b:ByteArray):(joinP [a,b]).length=a.size+b.size+4:=by
 unfold joinP;show (Lib.join [a.data.toList,b.data.toList] [32]++eol).length=_;rw [join2];have hz:∀ s:ByteArray,s.data.toList.length=s.size:=bs_length;simp only [List.length_append,hz,eol,List.length_cons,List.length_nil];omega
def strR (xs:List ByteArray):Array Value:=(xs.map Value.string).toArray
theorem strR_cell {w:World} {q:Nat} {xs:List ByteArray} (h:w.heap[q]?=some (.cells (strR xs) 9 (0,0))):∀ (j:Nat) y,xs[j]?=some y→w.cell? ⟨q,0+j,none⟩=some (.string y):=fun j y hy=>by
 rw [Nat.zero_add];exact cel h j (by simp [strR,hy])
theorem mwline_row (B b q:Nat) (l:Bs) (x:Int) (xs:List ByteArray) (w:World) (h:Wr B b l x w) (hrow:w.heap[q]?=some (.cells (strR xs) 9 (0,0))) (hn:xs.length≤100) (hlen:x=0→l.length+(joinP xs).length≤1000000000) (hB:B≤w.heap.size) :
 Calls Tryz.prog 30 #[.pointer (some ⟨b,0,none⟩),.slice (some ⟨q,0,none⟩) xs.length xs.length] w fun r w'=>r=.returned (.tuple #[])∧WG B b (lineM l x xs) x w w':=
 mwline_any B b q xs.length l x xs w h (strR_cell hrow) (lH hrow) hn (lr _) hlen hB
theorem mwvar_any (B b:Nat) (l:Bs) (v:Vr) (w:World) (h:Wr B b l 0 w) (hB:B≤w.heap.size) (hs:v.name.size≤maxLen) (hT:WordsT w) (hl:l.length≤900000000) :
 Calls Tryz.prog 24 #[.pointer (some ⟨b,0,none⟩),.agg #[.string v.name,.bool v.bool,.int .i64 v.lo,.int .i64 v.hi]] w fun r w'=>r=.returned (.tuple #[])∧WG B b (addL (l,0) (varL v)).1 (addL (l,0) (varL v)).2 w w':=by
 obtain ⟨R,hR⟩:=ex_ (addL (l,0) (varL v));rw [←hR];have HA:=Hd (fun h1 h2=>addV_form (l:=l) (v:=v) h1 h2);have HBo:=Hd (fun h1 h2 h3=>addV_bool (l:=l) (v:=v) h1 h2 h3);have HFr:=Hd (fun h1 h2=>addV_far (l:=l) (v:=v) h1 h2);have HNu:=Hd (fun h1 h2=>addV_num (l:=l) (v:=v) h1 h2);rw [←hR] at HA HBo HFr HNu;clear hR;obtain ⟨nm,bo,lo,hh⟩:=v;simp only at hs HA HBo HFr HNu ⊢;obtain ⟨y,hy⟩:=ex_ (nameM 0 nm)
 have hy0:y=0→nm.size≤24:=fun h=>by
  rw [hy,nameM_0] at h
  cases hn:isName (bs nm) with
  | false=>rw [hn] at h;cases h
  | true=>have:=isName_len hn;rwa [bs_length] at this
 obtain ⟨w1,hw1⟩:=ex_ (w.alloc (.cells #[.string nm,.bool bo,.int .i64 lo,.int .i64 hh] 45));obtain ⟨q,hq⟩:=ex_ w.heap.size;have hb1:=bAl hw1;have HX:=nAl hw1 hq;have hs1:=sAl hw1;have hqb:q≠b:=by have:=h.lt;omega
 have hg1:=(WG.refl h).below hb1 hB;have hnm:=mwname_any B b l 0 nm w1 hg1.1 hs (hT.below hb1);rw [←hy] at hnm HA HBo HFr HNu;obtain ⟨F,HF⟩:=exh_ (fun (r:Ending) (w':World)=>r=.returned (.tuple #[])∧WG B b R.1 R.2 w w');rw [←HF.out];have HW1:=Hd hw1;have HQ:=Hd hq;have HG1:=Hd hg1;have HNM:=Hd hnm;have HBW:=Hd hB;have HY0:=Hd hy0;have HL:=Hd hl;clear hw1 hq hb1 hs1 hg1 hnm hB hy0 hl hy h hs hT;cases bo
 · obtain ⟨fl,hfl⟩:=ex_ (farI lo);obtain ⟨fh,hfh⟩:=ex_ (farI hh);have hR1:=fun h=>HFr.out rfl h;have hR2:=fun h=>HNu.out rfl h;have HFL:=Hd (fun W=>mfar_any lo W);have HFH:=Hd (fun W=>mfar_any hh W);rw [←hfl] at HFL;rw [←hfh] at HFH;rw [←hfl,←hfh] at hR1 hR2;have HRL:=Hd (fun h:fl=false=>far_rng (hfl.symm.trans h));have HRH:=Hd (fun h:fh=false=>far_rng (hfh.symm.trans h));clear hfl hfh HA HBo HFr HNu;cases fl
   · cases fh
     · have HR:=Hd (hR2 rfl);rw [HR.out] at HF;have rl:=HRL.out rfl;have rh:=HRH.out rfl;obtain ⟨T1,hT1⟩:∃ T:ByteArray,T=⟨(numS lo).toArray⟩:=⟨_,rfl⟩;obtain ⟨T2,hT2⟩:∃ T:ByteArray,T=⟨(numS hh).toArray⟩:=⟨_,rfl⟩;have HN1:Hid (T1.size≤20):=by rw [hT1];exact numS_short lo rl.1 rl.2
       have HN2:Hid (T2.size≤20):=by rw [hT2];exact numS_short hh rh.1 rh.2
       have htl:=fun W=>numtext_any lo W (by omega) (by omega);have hth:=fun W=>numtext_any hh W (by omega) (by omega);rw [←hT1] at htl HF;rw [←hT2] at hth HF;have HTL:=Hd htl;have HTH:=Hd hth;clear hR1 hR2 HR HRL HRH rl rh htl hth hT1 hT2;go_enter Tryz.func24,Tryz.ntmps24;go_wp2_with fail;rw [←HW1.out,←HQ.out];refine (HNM.out).mono ?_;rintro e w2 ⟨rfl,hg⟩;have HG:=Hd (HG1.out.trans hg);replace HX:=kbX hg.2 HX hqb;have hq2:=lH HX.out;obtain ⟨c0,c1,c2,c3,-⟩:=q4 HX.out;clear hg;go_wp2_with fail;refine (HFL.out _).mono ?_;rintro e w0 ⟨rfl,hw⟩;rw [←hw];clear hw;go_wp2_with fail;refine (HFH.out _).mono ?_;rintro e w0 ⟨rfl,hw⟩;rw [←hw];clear hw;go_wp2_with fail;refine wp_region_held_drew (S:=fun W=>W.heap[q]?=some (.cells #[.string nm,.bool false,.int .i64 lo,.int .i64 hh] 45 (0,0))) (by kernel_rfl) HX.out (fun hHeld=>?_);clear c0 c1 c2 c3 hq2 HFL HFH;obtain ⟨Wc,hWc⟩:=ex_ w2.drew;replace HX:Hid (Wc.heap[q]?=some (.cells #[.string nm,.bool false,.int .i64 lo,.int .i64 hh] 45 (0,0))):=by show _=_;rw [hWc];exact HX.out
       replace HG:Hid (WG B b l y w Wc):=by show WG _ _ _ _ _ _;rw [hWc];exact HG.out.drewN 1
       rw [←hWc] at hHeld ⊢;clear hWc
       repeat
        (first | refine tkI 0 (v:=?_) rfl ?hy ?_ | refine tkI 1 (v:=?_) rfl ?hy ?_ | refine tkI 2 (v:=?_) rfl ?hy ?_ | refine tkI 3 (v:=?_) rfl ?hy ?_ | refine tkI 5 (v:=?_) rfl ?hy ?_ | refine tkI 6 (v:=?_) rfl ?hy ?_
         case hy=>
          intro w0 hS;have y2:=cel hS 2 rfl;have y3:=cel hS 3 rfl;have hl9:=lH hS;clear hS;go_simp
          (first | done | with_reducible rfl)
         try simp only [Act.put,sAr,sZe,sSu])
       iterate 4
        all_goals first
         | refine Rd (rs:=[4]) (by decide +kernel) (by simp) (Rc (tLMwC rfl) (fun K hK=>?_) Rn)
         | refine Rd (rs:=[7]) (by decide +kernel) (by simp) (Rc (tLMwC rfl) (fun K hK=>?_) Rn)
         | refine Rd (rs:=[8]) (by decide +kernel) (by simp) (Rc (tLMwC rfl) (fun K hK=>?_) Rn)
         | refine Rd (rs:=[9]) (by decide +kernel) (by simp) (Rc (tLMwC rfl) (fun K hK=>?_) Rn)
         | fail
        all_goals first
         | (go_simp
            clear hHeld;(with_reducible refine (HTL.out _).mono ?_);rintro e We ⟨rfl,hb5⟩;replace HX:=kX hb5 HX;replace HG:=Hd (HG.out.below hb5 HBW.out);refine hK.out _ _ HX.out (fun hHeld=>?_);clear hK K hb5;(try simp only [Act.put,sAr,sZe,sSu]);clear Wc
            rename World=>Wc)
         | (go_simp
            clear hHeld;(with_reducible refine (HTH.out _).mono ?_);rintro e We ⟨rfl,hb5⟩;replace HX:=kX hb5 HX;replace HG:=Hd (HG.out.below hb5 HBW.out);refine hK.out _ _ HX.out (fun hHeld=>?_);clear hK K hb5;(try simp only [Act.put,sAr,sZe,sSu]);clear Wc
            rename World=>Wc)
         | (refine isBs ?_
            go_simp;clear hHeld;obtain ⟨z,hz⟩:=ex_ Wc.heap.size;obtain ⟨We,hV⟩:=ex_ (Wc.alloc (.cells (strR [⟨#[118,97,114]⟩,nm,⟨#[58]⟩,T1,⟨#[46,46]⟩,T2]) 9));have hb5:=bAl hV;have HZ:=nAl hV hz;replace HX:=kX hb5 HX;replace HG:=Hd (HG.out.below hb5 HBW.out);refine hK.out _ (Wc.alloc (.cells (strR [⟨#[118,97,114]⟩,nm,⟨#[58]⟩,T1,⟨#[46,46]⟩,T2]) 9)) (by rw [←hV];exact HX.out) (fun hHeld=>?_);clear hK K;(try simp only [Act.put,sAr,sZe,sSu]);rw [←hV] at hHeld;rw [←hV,←hz];clear hV hz hb5 Wc
            rename World=>Wc)
         | (go_simp
            clear hHeld;have hln:Calls Tryz.prog 30 #[.pointer (some ⟨b,0,none⟩),.slice (some ⟨z,0,none⟩) 6 6] Wc _:=mwline_row B b z l y [⟨#[118,97,114]⟩,nm,⟨#[58]⟩,T1,⟨#[46,46]⟩,T2] Wc HG.out.1 HZ.out (by simp) (fun h=>by rw [joinP_len6];have:=HY0.out h;have:=HL.out;have:=HN1.out;have:=HN2.out;show _+(3+nm.size+1+T1.size+2+T2.size+8)≤_;omega) (Nat.le_trans HBW.out HG.out.2.below.size);(with_reducible refine (hln).mono ?_);rintro e We ⟨rfl,hg5⟩;clear hln;replace HX:=kbX hg5.2 HX hqb;replace HG:=Hd (HG.out.trans hg5);refine hK.out _ _ HX.out (fun hHeld=>?_);clear hK K hg5 HZ;(try simp only [Act.put,sAr,sZe,sSu]);clear Wc
            rename World=>Wc)
         | fail
        all_goals
         repeat
          (first | refine tkI 0 (v:=?_) rfl ?hy ?_ | refine tkI 1 (v:=?_) rfl ?hy ?_ | refine tkI 2 (v:=?_) rfl ?hy ?_ | refine tkI 3 (v:=?_) rfl ?hy ?_ | refine tkI 5 (v:=?_) rfl ?hy ?_ | refine tkI 6 (v:=?_) rfl ?hy ?_
           case hy=>
            intro w0 hS;have y2:=cel hS 2 rfl;have y3:=cel hS 3 rfl;have hl9:=lH hS;clear hS;go_simp
            (first | done | with_reducible rfl)
           try simp only [Act.put,sAr,sZe,sSu])
       all_goals refine wpAnyH_done (by decide +kernel) ?_ _
       all_goals
        clear hHeld;go_wp2_with fail;refine bR (v:=.tuple #[]) (results_none rfl _ _ _) rfl ?_;rw [HF.out];exact ⟨rfl,HG.out⟩
     · have HR:=Hd (hR1 rfl);rw [HR.out] at HF;clear hR1 hR2 HR HRL HRH;go_enter Tryz.func24,Tryz.ntmps24;go_wp2_with fail;rw [←HW1.out,←HQ.out];refine (HNM.out).mono ?_;rintro e w2 ⟨rfl,hg⟩;have HG:=Hd (HG1.out.trans hg);replace HX:=kbX hg.2 HX hqb;have hq2:=lH HX.out;obtain ⟨c0,c1,c2,c3,-⟩:=q4 HX.out;clear hg;have HFA:=Hd (mwfail_any B b l y 2 w2 HG.out.1);go_wp2_with fail;refine (HFL.out _).mono ?_;rintro e w0 ⟨rfl,hw⟩;rw [←hw];clear hw;go_wp2_with fail;refine (HFH.out _).mono ?_;rintro e w0 ⟨rfl,hw⟩;rw [←hw];clear hw;go_wp2_with fail;refine (HFA.out).mono ?_;rintro e w3 ⟨rfl,hg⟩;replace HG:=Hd (HG.out.trans hg);clear hg;go_wp2_with fail;refine bR (v:=.tuple #[]) (results_none rfl _ _ _) rfl ?_;rw [HF.out];exact ⟨rfl,HG.out⟩
   · have HR:=Hd (hR1 rfl);rw [HR.out] at HF;clear hR1 hR2 HR HRL HRH;go_enter Tryz.func24,Tryz.ntmps24;go_wp2_with fail;rw [←HW1.out,←HQ.out];refine (HNM.out).mono ?_;rintro e w2 ⟨rfl,hg⟩;have HG:=Hd (HG1.out.trans hg);replace HX:=kbX hg.2 HX hqb;have hq2:=lH HX.out;obtain ⟨c0,c1,c2,c3,-⟩:=q4 HX.out;clear hg;have HFA:=Hd (mwfail_any B b l y 2 w2 HG.out.1);go_wp2_with fail;refine (HFL.out _).mono ?_;rintro e w0 ⟨rfl,hw⟩;rw [←hw];clear hw;go_wp2_with fail;refine (HFA.out).mono ?_;rintro e w3 ⟨rfl,hg⟩;replace HG:=Hd (HG.out.trans hg);clear hg;go_wp2_with fail;refine bR (v:=.tuple #[]) (results_none rfl _ _ _) rfl ?_;rw [HF.out];exact ⟨rfl,HG.out⟩
 · by_cases h1:lo=0
   · by_cases h2:hh=0
     · subst h1 h2;have HR:=Hd (HBo.out rfl rfl rfl);rw [HR.out] at HF;clear HA HBo HFr HNu HR;go_enter Tryz.func24,Tryz.ntmps24;go_wp2_with fail;rw [←HW1.out,←HQ.out];refine (HNM.out).mono ?_;rintro e w2 ⟨rfl,hg⟩;have HG:=Hd (HG1.out.trans hg);replace HX:=kbX hg.2 HX hqb;have hq2:=lH HX.out;obtain ⟨c0,c1,c2,c3,-⟩:=q4 HX.out;clear hg;have HG0:=HG;go_wp2_with fail;obtain ⟨z,hz⟩:=ex_ w2.heap.size;obtain ⟨w3,hw3⟩:=ex_ (w2.alloc (.cells (strR [⟨#[118,97,114]⟩,nm,⟨#[58]⟩,⟨#[98,111,111,108]⟩]) 9));have hb3:=bAl hw3;have HZ:=nAl hw3 hz;have hg3:=HG.out.below hb3 HBW.out;have hln:=mwline_row B b z l y [⟨#[118,97,114]⟩,nm,⟨#[58]⟩,⟨#[98,111,111,108]⟩] w3 hg3.1 HZ.out (by simp) (fun h=>by rw [joinP_len4];have:=HY0.out h;have:=HL.out;show _+(3+nm.size+1+4+6)≤_;omega) (Nat.le_trans HBW.out hg3.2.below.size);have HLN:=Hd hln;have HW3:=Hd hw3;have HZQ:=Hd hz;replace HG:=Hd hg3;clear hz hw3 hb3 hg3 hln c0 c1 c2 c3;go_wp2_with fail;show Calls _ _ #[_,.slice (some ⟨w2.heap.size,0,none⟩) 4 4] (w2.alloc (.cells (strR [⟨#[118,97,114]⟩,nm,⟨#[58]⟩,⟨#[98,111,111,108]⟩]) 9)) _;rw [←HW3.out,←HZQ.out];refine (HLN.out).mono ?_;rintro e w4 ⟨rfl,hg⟩;replace HG:=Hd (HG.out.trans hg);clear hg;go_wp2_with fail;refine bR (v:=.tuple #[]) (results_none rfl _ _ _) rfl ?_;rw [HF.out];exact ⟨rfl,HG.out⟩
     · have HR:=Hd (HA.out rfl (.inr h2));rw [HR.out] at HF;subst h1;have t2:(hh != 0)=true:=by simpa using h2
       clear HA HBo HFr HNu HR h2;go_enter Tryz.func24,Tryz.ntmps24;go_wp2_with fail;rw [←HW1.out,←HQ.out];refine (HNM.out).mono ?_;rintro e w2 ⟨rfl,hg⟩;have HG:=Hd (HG1.out.trans hg);replace HX:=kbX hg.2 HX hqb;have hq2:=lH HX.out;obtain ⟨c0,c1,c2,c3,-⟩:=q4 HX.out;clear hg;have HFA:=Hd (mwfail_any B b l y 3 w2 HG.out.1);go_wp2_with fail;refine (HFA.out).mono ?_;rintro e w3 ⟨rfl,hg⟩;replace HG:=Hd (HG.out.trans hg);clear hg;go_wp2_with fail;refine bR (v:=.tuple #[]) (results_none rfl _ _ _) rfl ?_;rw [HF.out];exact ⟨rfl,HG.out⟩
   · have HR:=Hd (HA.out rfl (.inl h1));rw [HR.out] at HF;have t1:(lo != 0)=true:=by simpa using h1
     clear HA HBo HFr HNu HR h1;go_enter Tryz.func24,Tryz.ntmps24;go_wp2_with fail;rw [←HW1.out,←HQ.out];refine (HNM.out).mono ?_;rintro e w2 ⟨rfl,hg⟩;have HG:=Hd (HG1.out.trans hg);replace HX:=kbX hg.2 HX hqb;have hq2:=lH HX.out;obtain ⟨c0,c1,c2,c3,-⟩:=q4 HX.out;clear hg;have HFA:=Hd (mwfail_any B b l y 3 w2 HG.out.1);go_wp2_with fail;refine (HFA.out).mono ?_;rintro e w3 ⟨rfl,hg⟩;replace HG:=Hd (HG.out.trans hg);clear hg;go_wp2_with fail;refine bR (v:=.tuple #[]) (results_none rfl _ _ _) rfl ?_;rw [HF.out];exact ⟨rfl,HG.out⟩
end Go.Proofs.YtkhoeoilamddaaaGreatDoor
