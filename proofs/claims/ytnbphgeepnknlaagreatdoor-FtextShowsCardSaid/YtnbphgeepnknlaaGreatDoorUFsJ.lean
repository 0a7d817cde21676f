/- Walks and plain words: FsJ ManA. -/
import Derived.Test.YtnbphgeepnknlaaGreatDoorUFsI
namespace Go.Proofs.YtnbphgeepnknlaaGreatDoor
open Go.RowKit
set_option linter.unusedVariables false
set_option linter.unusedSimpArgs false
set_option maxRecDepth 100000
set_option maxHeartbeats 8000000
theorem tLFsJ {o:Array Oper} {i:Nat} {x:Oper} (h:o.toList[i]?=some x):o[i]?=some x:=by simpa using h
theorem fparse_results (tm:Array Value) (b2:Nat) (z1 z2:Value) (u0 u1 u2 u3 u4 u5:Value) (w:World) (h2:tm[2]?=some (.pointer (some ⟨b2,0,none⟩))) (h3:tm[3]?=some z1) (h4:tm[4]?=some z2) (h:w.heap[b2]?=some (.cells #[u0,u1,u2,u3,u4,u5] 35 (0,0))) :
 (results Tryz.f17 tm).run Tryz.prog w=.ok (.tuple #[.agg #[u0,u1,u2,u3,u4,u5],z1,z2]) w:=by
 obtain ⟨y0,y1,y2,y3,y4,y5,-⟩:=q6 h;unfold results;rw [Tryz.results17];simp only [Array.getD_eq_getD_getElem?];simp [h2,h3,h4,go_sem,y0,y1,y2,y3,y4,y5]
theorem takeF_zero {l:List Tok} {i:Nat} (h:(takeF l i).2.2≠0):(takeF l i).1=zeroFm:=by
 unfold takeF at h ⊢
 cases hr:(flvl l 256).form i with
 | bad j e=>rfl
 | ok f j=>
  rw [hr] at h
  by_cases hc:f.check=0
  · simp [hc] at h
  · simp [hc]
theorem fparse_any (s:ByteArray) (w:World) (hs:s.size≤maxLen) (hT:Tables w) :
 Calls Tryz.prog 17 #[.string s] w (FaQ w (parseF (bs s))):=by
 have hs':=hs;unfold maxLen at hs';obtain ⟨F,hF⟩:=ex_ (FaQ w (parseF (bs s)));rw [←hF];obtain ⟨b2,hb2⟩:=ex_ w.heap.size;obtain ⟨w1,hw1⟩:=ex_ (w.alloc (.cells #[.int .i64 0,.int .i64 0,.int .i64 0,.string ⟨#[]⟩,.slice none 0 0,.slice none 0 0] 35));have hb1:=bAl hw1;have hs1:w1.heap.size=b2+1:=by rw [hw1,hb2];simp
 have hx1:w1.heap[b2]?=some (.cells #[.int .i64 0,.int .i64 0,.int .i64 0,.string ⟨#[]⟩,.slice none 0 0,.slice none 0 0] 35 (0,0)):=by rw [hw1,hb2];exact hA_ w _
 have hall:=all_any s w1 hs (hT.below hb1);have hok:=all_ok (bs s);obtain ⟨l,hl⟩:=ex_ ((all (bs s)).1);obtain ⟨z1,hz1⟩:=ex_ ((all (bs s)).2.1);obtain ⟨z2,hz2⟩:=ex_ ((all (bs s)).2.2)
 have HRE:Hid (F=FaQ w (if z2≠0 then (zeroFm,z1,z2) else if (takeF l 0).2.2≠0 then (zeroFm,atOf l (bs s).length (takeF l 0).2.1,(takeF l 0).2.2) else if (takeF l 0).2.1<l.length then (zeroFm,atOf l (bs s).length (takeF l 0).2.1,16) else ((takeF l 0).1,(bs s).length,0))):=by
  show _=_;rw [hF,hl,hz1,hz2]
  rfl
 rw [←hl,←hz1,←hz2] at hall;rw [←hl] at hok;have HALL:=Hd hall;have HOK:=Hd hok;have HW1:=Hd hw1;have HB1:=Hd hb1;have HX1:=Hd hx1;have HBQ:=Hd hb2;have HSZ:Hid ((bs s).length=s.size):=bs_length s;clear hF hw1 hb1 hx1 hall hok hl hz1 hz2 hT hb2;go_enter Tryz.func17,Tryz.ntmps17;go_wp2_with fail;rw [←HW1.out,←HBQ.out];refine (HALL.out).mono ?_;rintro e w2 ⟨v,rfl,hown,hb2'⟩;have hx2:=(hb2'.block b2 (by omega)).trans HX1.out;have HBW:=Hd (HB1.out.trans (hb2'.mono (by have:=HBQ.out;omega)));have hsz2:=hb2'.size;have hge:∀ q,v.ownBlock=some q→w1.heap.size≤q:=fun q hq=>(hown.lt q hq).1;obtain ⟨A,c,hv,hTI⟩:=tokIn_of_own (.inr trivial) hown HOK.out.1 HOK.out.2.2;obtain ⟨n,HN⟩:=exh_ l.length;have TOKOLD:Hid (∀ a,A=some a→w1.heap.size≤a.block):=fun a ha=>hge a.block (by rw [hv,ha];rfl);rw [hv,←HN.out];clear hge;have HX2:=Hd hx2;have HTI:=Hd hTI;have hbl:b2<w2.heap.size:=by omega
 have hbw2:w.heap.size≤b2:=by rw [HBQ.out];exact lr _
 clear hx2 hTI hown hv hb2'
 by_cases hz:z2=0
 · have HRE2:Hid (F=FaQ w (if (takeF l 0).2.2≠0 then (zeroFm,atOf l (bs s).length (takeF l 0).2.1,(takeF l 0).2.2) else if (takeF l 0).2.1<l.length then (zeroFm,atOf l (bs s).length (takeF l 0).2.1,16) else ((takeF l 0).1,(bs s).length,0))):=by show _=_;rw [HRE.out,iN (by simpa using hz)]
   rw [hz];have htk:=ftake_any l A c 0 w2 (zl _) HTI.out;rw [←HN.out] at htk;obtain ⟨r,hr⟩:=ex_ (takeF l 0)
   have HRZ:Hid (r.2.2≠0→r.1=zeroFm):=by
    intro h;rw [hr] at h ⊢;exact takeF_zero h
   rw [←hr] at htk;obtain ⟨t,j,x0⟩:=r;have HRE3:Hid (F=FaQ w (if x0≠0 then (zeroFm,atOf l (bs s).length j,x0) else if j<l.length then (zeroFm,atOf l (bs s).length j,16) else (t,(bs s).length,0))):=by show _=_;rw [HRE2.out,←hr]
   have HTK:=Hd htk;obtain ⟨v0,v1,v2,v3,v4,v5,vzq⟩:=q6 HX2.out;clear hz HRE HRE2 hr htk;go_wp2_with fail;refine (HTK.out).mono ?_;rintro e w3 ⟨x,rfl,hx,hb3⟩;unfold FV.val;simp only at hx ⊢;clear v0 vzq v1 v2 v3 v4 v5;have HX3:=Hd ((hb3.block b2 hbl).trans HX2.out);have hsz3:=hb3.size;have HB3:=Hd (HBW.out.trans (hb3.mono (by have:=HBW.out.size;omega)));have HTI3:Hid (ToksAt w3 A l):=HTI.out.toks.belowB hb3 rfl;obtain ⟨w3s,hw3s⟩:=ex_ (((((((w3.setCell ⟨b2,0,none⟩ (.int .i64 x.o)).setCell ⟨b2,1,none⟩ (.int .i64 x.tn)).setCell ⟨b2,2,none⟩ (.int .i64 x.tm)).setCell ⟨b2,3,none⟩ (.string x.s)).setCell ⟨b2,4,none⟩ (.slice x.Ae x.ne x.ce)).setCell ⟨b2,5,none⟩ (.slice x.A x.n x.c)));have HX4:Hid (w3s.heap[b2]?=some (.cells #[.int .i64 x.o,.int .i64 x.tn,.int .i64 x.tm,.string x.s,.slice x.Ae x.ne x.ce,.slice x.A x.n x.c] 35 (0,0))):=by show _=_;rw [hw3s];exact s6_at HX3.out
   have HB4:Hid (Below w.heap.size w w3s):=by
    show Below _ _ _;rw [hw3s];exact (((((((Ob (F:=fun q=>w.heap.size≤q) HB3.out).setF hbw2 _).setF hbw2 _).setF hbw2 _).setF hbw2 _).setF hbw2 _).setF hbw2 _).below (fun q h=>h) (lr _)
   have HXI:Hid (x.Is (fun q=>w2.heap.size≤q) w3s t):=by
    show FV.Is _ _ _ _;rw [hw3s];exact hx.keep (s6_keep Kr (by omega)) (fun _ _ h=>h)
   have HW3S:=Hd hw3s;clear hw3s hx hb3 HTK;have hl3:b2<w3.heap.size:=lH HX3.out;have hs3s:w3s.heap.size=w3.heap.size:=by rw [HW3S.out];simp
   by_cases hx0:x0=0
   · subst hx0
     by_cases hj:j<n
     · have hj':(j:Int)<(n:Int):=by omega
       have HRE4:Hid (F=FaQ w (zeroFm,atOf l (bs s).length j,16)):=by show _=_;rw [HRE3.out,iN (by simp),iP (by rw [←HN.out];exact hj)]
       obtain ⟨tk,htk⟩:∃ tk,l[j]?=some tk:=⟨_,gG (by have:=HN.out;omega)⟩
       obtain ⟨bg,off,rfl,hbg3,hcl⟩:∃ b off,A=some ⟨b,off,none⟩∧b<w3.heap.size∧w3.cell? ⟨b,off+j*4+3,none⟩=some (.int .i64 tk.at_):=by
        rcases HTI3.out with h0 | ⟨b,off,h1,h2,h3⟩
        · rw [h0] at htk;simp at htk
        · exact ⟨b,off,h1,h2,h3 j tk htk 3 (by omega)⟩
       have hbg:b2≠bg:=by
        have h2:w1.heap.size≤bg:=TOKOLD.out _ rfl;omega
       have HAT:Hid (atOf l (bs s).length j=tk.at_):=by show _=_;unfold atOf;rw [htk]
       have hj0:(0:Int)≤(j:Int):=by omega
       have hcl4:w3s.cell? ⟨bg,off+j*4+3,none⟩=some (.int .i64 tk.at_):=by rw [HW3S.out,cF_ _ _ _ _ hbg,cF_ _ _ _ _ hbg,cF_ _ _ _ _ hbg,cF_ _ _ _ _ hbg,cF_ _ _ _ _ hbg,cF_ _ _ _ _ hbg];exact hcl
       have HCL:=Hd hcl4;clear htk hcl hcl4;obtain ⟨v0,v1,v2,v3,v4,v5,vzq⟩:=q6 HX3.out;go_wp2_with fail;rw [←HW3S.out];clear v0 vzq v1 v2 v3 v4 v5;obtain ⟨w4,hw4⟩:=ex_ (((((((w3s.setCell ⟨b2,0,none⟩ (.int .i64 0)).setCell ⟨b2,1,none⟩ (.int .i64 0)).setCell ⟨b2,2,none⟩ (.int .i64 0)).setCell ⟨b2,3,none⟩ (.string ⟨#[]⟩)).setCell ⟨b2,4,none⟩ (.slice none 0 0)).setCell ⟨b2,5,none⟩ (.slice none 0 0)));have HXV:Hid (w4.heap[b2]?=some (.cells #[.int .i64 0,.int .i64 0,.int .i64 0,.string ⟨#[]⟩,.slice none 0 0,.slice none 0 0] 35 (0,0))):=by show _=_;rw [hw4];exact s6_at HX4.out
       have HBV:Hid (Below w.heap.size w w4):=by
        show Below _ _ _;rw [hw4];exact (((((((Ob (F:=fun q=>w.heap.size≤q) HB4.out).setF hbw2 _).setF hbw2 _).setF hbw2 _).setF hbw2 _).setF hbw2 _).setF hbw2 _).below (fun q h=>h) (lr _)
       have HCV:Hid (w4.cell? ⟨bg,off+j*4+3,none⟩=some (.int .i64 tk.at_)):=by
        have h:=HCL.out;show _=_;rw [hw4,cF_ _ _ _ _ hbg,cF_ _ _ _ _ hbg,cF_ _ _ _ _ hbg,cF_ _ _ _ _ hbg,cF_ _ _ _ _ hbg,cF_ _ _ _ _ hbg];exact h
       rw [←hw4];clear hw4;(try go_wp2_with fail);obtain ⟨w5,hw5⟩:=ex_ w4.drew;have HB6:Hid (w5.heap[b2]?=some (.cells #[.int .i64 0,.int .i64 0,.int .i64 0,.string ⟨#[]⟩,.slice none 0 0,.slice none 0 0] 35 (0,0))):=by show _=_;rw [hw5];exact HXV.out
       have HB3d:Hid (Below w.heap.size w w5):=by show Below _ _ _;rw [hw5];exact HBV.out.drew
       refine wp_region_held_drew (S:=fun w'=>w'.cell? ⟨bg,off+j*4+3,none⟩=some (.int .i64 tk.at_)∧w'.heap[b2]?=some (.cells #[.int .i64 0,.int .i64 0,.int .i64 0,.string ⟨#[]⟩,.slice none 0 0,.slice none 0 0] 35 (0,0))) (by kernel_rfl) ⟨HCV.out,HXV.out⟩ (fun hHeld=>?_);rw [←hw5] at hHeld ⊢;clear hw5;refine tkH 0 (v:=?_) (tLFsJ rfl) (Or.inl ⟨by rfl,?hy⟩) (by assumption) ?_
       case hy=>
        intro w0 hSw;have e4:=hSw.1;obtain ⟨k0,k1,k2,k3,k4,k5,-⟩:=q6 hSw.2;clear hSw;go_simp
        (first | done | with_reducible rfl)
       (try simp only [Act.put,sAr,sZe,sSu]);refine tkH 1 (v:=?_) (tLFsJ rfl) (Or.inl ⟨by rfl,?hy⟩) (by assumption) ?_
       case hy=>
        intro w0 hSw;have e4:=hSw.1;obtain ⟨k0,k1,k2,k3,k4,k5,-⟩:=q6 hSw.2;clear hSw;go_simp
        (first | done | with_reducible rfl)
       (try simp only [Act.put,sAr,sZe,sSu]);refine tkH 2 (v:=?_) (tLFsJ rfl) (Or.inl ⟨by rfl,?hy⟩) (by assumption) ?_
       case hy=>
        intro w0 hSw;have e4:=hSw.1;obtain ⟨k0,k1,k2,k3,k4,k5,-⟩:=q6 hSw.2;clear hSw;go_simp
        (first | done | with_reducible rfl)
       (try simp only [Act.put,sAr,sZe,sSu]);refine tkH 3 (v:=?_) (tLFsJ rfl) (Or.inl ⟨by rfl,?hy⟩) (by assumption) ?_
       case hy=>
        intro w0 hSw;have e4:=hSw.1;obtain ⟨k0,k1,k2,k3,k4,k5,-⟩:=q6 hSw.2;clear hSw;go_simp
        (first | done | with_reducible rfl)
       (try simp only [Act.put,sAr,sZe,sSu]);refine tkH 4 (v:=?_) (tLFsJ rfl) (Or.inl ⟨by rfl,?hy⟩) (by assumption) ?_
       case hy=>
        intro w0 hSw;have e4:=hSw.1;obtain ⟨k0,k1,k2,k3,k4,k5,-⟩:=q6 hSw.2;clear hSw;go_simp
        (first | done | with_reducible rfl)
       (try simp only [Act.put,sAr,sZe,sSu]);refine tkH 5 (v:=?_) (tLFsJ rfl) (Or.inl ⟨by rfl,?hy⟩) (by assumption) ?_
       case hy=>
        intro w0 hSw;have e4:=hSw.1;obtain ⟨k0,k1,k2,k3,k4,k5,-⟩:=q6 hSw.2;clear hSw;go_simp
        (first | done | with_reducible rfl)
       (try simp only [Act.put,sAr,sZe,sSu]);refine tkH 6 (v:=?_) (tLFsJ rfl) (Or.inl ⟨by rfl,?hy⟩) (by assumption) ?_
       case hy=>
        intro w0 hSw;have e4:=hSw.1;obtain ⟨k0,k1,k2,k3,k4,k5,-⟩:=q6 hSw.2;clear hSw;go_simp
        (first | done | with_reducible rfl)
       (try simp only [Act.put,sAr,sZe,sSu]);refine Rd (rs:=[7]) (by kernel_rfl) (by simp) ?_;refine Rc (tLFsJ rfl) (fun K hK=>?_) Rn;obtain ⟨v0,v1,v2,v3,v4,v5,vzq⟩:=q6 HB6.out;go_simp;clear v0 vzq v1 v2 v3 v4 v5;refine hK.out _ _ ⟨by rw [cF_ _ _ _ _ hbg,cF_ _ _ _ _ hbg,cF_ _ _ _ _ hbg,cF_ _ _ _ _ hbg,cF_ _ _ _ _ hbg,cF_ _ _ _ _ hbg];exact hHeld.1,s6_at hHeld.2⟩ (fun hHeld=>?_);clear hK K;(try simp only [Act.put,sAr,sZe,sSu]);refine tkH 8 (v:=?_) (tLFsJ rfl) (Or.inl ⟨by rfl,?hy⟩) (by assumption) ?_
       case hy=>
        intro w0 hSw;have e4:=hSw.1;obtain ⟨k0,k1,k2,k3,k4,k5,-⟩:=q6 hSw.2;clear hSw;go_simp
        (first | done | with_reducible rfl)
       (try simp only [Act.put,sAr,sZe,sSu]);refine tkH 9 (v:=?_) (tLFsJ rfl) (Or.inl ⟨by rfl,?hy⟩) (by assumption) ?_
       case hy=>
        intro w0 hSw;have e4:=hSw.1;obtain ⟨k0,k1,k2,k3,k4,k5,-⟩:=q6 hSw.2;clear hSw;go_simp
        (first | done | with_reducible rfl)
       (try simp only [Act.put,sAr,sZe,sSu]);refine wpAnyH_done (by kernel_rfl) ?_ _;clear hHeld;go_wp2_with fail;obtain ⟨WW,hWW⟩:=ex_ (((((((w5.setCell ⟨b2,0,none⟩ (.int .i64 0)).setCell ⟨b2,1,none⟩ (.int .i64 0)).setCell ⟨b2,2,none⟩ (.int .i64 0)).setCell ⟨b2,3,none⟩ (.string ⟨#[]⟩)).setCell ⟨b2,4,none⟩ (.slice none 0 0)).setCell ⟨b2,5,none⟩ (.slice none 0 0)));have hrow:WW.heap[b2]?=some (.cells #[.int .i64 0,.int .i64 0,.int .i64 0,.string ⟨#[]⟩,.slice none 0 0,.slice none 0 0] 35 (0,0)):=by rw [hWW];exact s6_at HB6.out
       have HBF:Hid (Below w.heap.size w WW):=by
        show Below _ _ _;rw [hWW];have hb:w.heap.size≤b2:=by rw [HBQ.out];exact lr _
        exact (((((((Ob (F:=fun q=>w.heap.size≤q) HB3d.out).setF hb _).setF hb _).setF hb _).setF hb _).setF hb _).setF hb _).below (fun q h=>h) (lr _)
       rw [←hWW];clear hWW;refine bR (fparse_results _ b2 _ _ _ _ _ _ _ _ _ rfl rfl rfl hrow) rfl ?_;rw [HRE4.out,HAT.out];exact ⟨FV.zero,rfl,FV.zero_is,HBF.out⟩
     · have hj':¬(j:Int)<(n:Int):=by omega
       have HRE4:Hid (F=FaQ w (t,(s.size:Int),0)):=by show _=_;rw [HRE3.out,iN (by simp),iN (by rw [←HN.out];exact hj),HSZ.out]
       obtain ⟨v0,v1,v2,v3,v4,v5,vzq⟩:=q6 HX3.out;go_wp2_with fail;rw [←HW3S.out];clear v0 vzq v1 v2 v3 v4 v5;obtain ⟨v0,v1,v2,v3,v4,v5,vzq⟩:=q6 HX4.out;have hvl:=lH HX4.out;(try go_wp2_with fail);clear v0 vzq v1 v2 v3 v4 v5;obtain ⟨WW,hWW⟩:=ex_ (((((((w3s.setCell ⟨b2,0,none⟩ (.int .i64 x.o)).setCell ⟨b2,1,none⟩ (.int .i64 x.tn)).setCell ⟨b2,2,none⟩ (.int .i64 x.tm)).setCell ⟨b2,3,none⟩ (.string x.s)).setCell ⟨b2,4,none⟩ (.slice x.Ae x.ne x.ce)).setCell ⟨b2,5,none⟩ (.slice x.A x.n x.c)));have hrow:WW.heap[b2]?=some (.cells #[.int .i64 x.o,.int .i64 x.tn,.int .i64 x.tm,.string x.s,.slice x.Ae x.ne x.ce,.slice x.A x.n x.c] 35 (0,0)):=by rw [hWW];exact s6_at HX4.out
       have HBF:Hid (Below w.heap.size w WW):=by
        show Below _ _ _;rw [hWW];have hb:w.heap.size≤b2:=by rw [HBQ.out];exact lr _
        exact (((((((Ob (F:=fun q=>w.heap.size≤q) HB4.out).setF hb _).setF hb _).setF hb _).setF hb _).setF hb _).setF hb _).below (fun q h=>h) (lr _)
       have HVF:Hid (x.Is (fun q=>w.heap.size≤q) WW t):=by
        show FV.Is _ _ _ _;rw [hWW];exact HXI.out.keep (s6_keep Kr (by have:=HBQ.out;omega)) (fun q _ h=>by omega)
       rw [←hWW];clear hWW;refine bR (fparse_results _ b2 _ _ _ _ _ _ _ _ _ rfl rfl rfl hrow) rfl ?_;rw [HRE4.out];exact ⟨x,rfl,HVF.out,HBF.out⟩
   · have hxb:(x0 == 0)=false:=by simpa using hx0
     have hxc:(x0 != 0)=true:=by simpa using hx0
     have hzf:t=zeroFm:=HRZ.out hx0;subst hzf
     by_cases hj:j<n
     · have hj':(j:Int)<(n:Int):=by omega
       have HRE4:Hid (F=FaQ w (zeroFm,atOf l (bs s).length j,x0)):=by show _=_;rw [HRE3.out,iP hx0]
       obtain ⟨tk,htk⟩:∃ tk,l[j]?=some tk:=⟨_,gG (by have:=HN.out;omega)⟩
       obtain ⟨bg,off,rfl,hbg3,hcl⟩:∃ b off,A=some ⟨b,off,none⟩∧b<w3.heap.size∧w3.cell? ⟨b,off+j*4+3,none⟩=some (.int .i64 tk.at_):=by
        rcases HTI3.out with h0 | ⟨b,off,h1,h2,h3⟩
        · rw [h0] at htk;simp at htk
        · exact ⟨b,off,h1,h2,h3 j tk htk 3 (by omega)⟩
       have hbg:b2≠bg:=by
        have h2:w1.heap.size≤bg:=TOKOLD.out _ rfl;omega
       have HAT:Hid (atOf l (bs s).length j=tk.at_):=by show _=_;unfold atOf;rw [htk]
       have hj0:(0:Int)≤(j:Int):=by omega
       have hcl4:w3s.cell? ⟨bg,off+j*4+3,none⟩=some (.int .i64 tk.at_):=by rw [HW3S.out,cF_ _ _ _ _ hbg,cF_ _ _ _ _ hbg,cF_ _ _ _ _ hbg,cF_ _ _ _ _ hbg,cF_ _ _ _ _ hbg,cF_ _ _ _ _ hbg];exact hcl
       have HCL:=Hd hcl4;clear htk hcl hcl4;obtain ⟨v0,v1,v2,v3,v4,v5,vzq⟩:=q6 HX3.out;go_wp2_with fail;rw [←HW3S.out];clear v0 vzq v1 v2 v3 v4 v5;(try go_wp2_with fail);obtain ⟨w4,hw4⟩:=ex_ w3s;have HXV:=HX4;have HBV:=HB4;have HCV:=HCL;have HXI2:=HXI;rw [←hw4] at HXV HBV HCV HXI2 ⊢;clear hw4;obtain ⟨w5,hw5⟩:=ex_ w4.drew;have HB6:Hid (w5.heap[b2]?=some (.cells #[.int .i64 x.o,.int .i64 x.tn,.int .i64 x.tm,.string x.s,.slice x.Ae x.ne x.ce,.slice x.A x.n x.c] 35 (0,0))):=by show _=_;rw [hw5];exact HXV.out
       have HB3d:Hid (Below w.heap.size w w5):=by show Below _ _ _;rw [hw5];exact HBV.out.drew
       have HXI5:Hid (x.Is (fun q=>w2.heap.size≤q) w5 zeroFm):=by show FV.Is _ _ _ _;rw [hw5];exact HXI2.out.keep ⟨lr _,fun _ _ _=>rfl⟩ (fun _ _ h=>h)
       refine wp_region_held_drew (S:=fun w'=>w'.cell? ⟨bg,off+j*4+3,none⟩=some (.int .i64 tk.at_)∧w'.heap[b2]?=some (.cells #[.int .i64 x.o,.int .i64 x.tn,.int .i64 x.tm,.string x.s,.slice x.Ae x.ne x.ce,.slice x.A x.n x.c] 35 (0,0))) (by kernel_rfl) ⟨HCV.out,HXV.out⟩ (fun hHeld=>?_);rw [←hw5] at hHeld ⊢;clear hw5;refine tkH 0 (v:=?_) (tLFsJ rfl) (Or.inl ⟨by rfl,?hy⟩) (by assumption) ?_
       case hy=>
        intro w0 hSw;have e4:=hSw.1;obtain ⟨k0,k1,k2,k3,k4,k5,-⟩:=q6 hSw.2;clear hSw;go_simp
        (first | done | with_reducible rfl)
       (try simp only [Act.put,sAr,sZe,sSu]);refine tkH 1 (v:=?_) (tLFsJ rfl) (Or.inl ⟨by rfl,?hy⟩) (by assumption) ?_
       case hy=>
        intro w0 hSw;have e4:=hSw.1;obtain ⟨k0,k1,k2,k3,k4,k5,-⟩:=q6 hSw.2;clear hSw;go_simp
        (first | done | with_reducible rfl)
       (try simp only [Act.put,sAr,sZe,sSu]);refine tkH 2 (v:=?_) (tLFsJ rfl) (Or.inl ⟨by rfl,?hy⟩) (by assumption) ?_
       case hy=>
        intro w0 hSw;have e4:=hSw.1;obtain ⟨k0,k1,k2,k3,k4,k5,-⟩:=q6 hSw.2;clear hSw;go_simp
        (first | done | with_reducible rfl)
       (try simp only [Act.put,sAr,sZe,sSu]);refine tkH 3 (v:=?_) (tLFsJ rfl) (Or.inl ⟨by rfl,?hy⟩) (by assumption) ?_
       case hy=>
        intro w0 hSw;have e4:=hSw.1;obtain ⟨k0,k1,k2,k3,k4,k5,-⟩:=q6 hSw.2;clear hSw;go_simp
        (first | done | with_reducible rfl)
       (try simp only [Act.put,sAr,sZe,sSu]);refine tkH 4 (v:=?_) (tLFsJ rfl) (Or.inl ⟨by rfl,?hy⟩) (by assumption) ?_
       case hy=>
        intro w0 hSw;have e4:=hSw.1;obtain ⟨k0,k1,k2,k3,k4,k5,-⟩:=q6 hSw.2;clear hSw;go_simp
        (first | done | with_reducible rfl)
       (try simp only [Act.put,sAr,sZe,sSu]);refine tkH 5 (v:=?_) (tLFsJ rfl) (Or.inl ⟨by rfl,?hy⟩) (by assumption) ?_
       case hy=>
        intro w0 hSw;have e4:=hSw.1;obtain ⟨k0,k1,k2,k3,k4,k5,-⟩:=q6 hSw.2;clear hSw;go_simp
        (first | done | with_reducible rfl)
       (try simp only [Act.put,sAr,sZe,sSu]);refine tkH 6 (v:=?_) (tLFsJ rfl) (Or.inl ⟨by rfl,?hy⟩) (by assumption) ?_
       case hy=>
        intro w0 hSw;have e4:=hSw.1;obtain ⟨k0,k1,k2,k3,k4,k5,-⟩:=q6 hSw.2;clear hSw;go_simp
        (first | done | with_reducible rfl)
       (try simp only [Act.put,sAr,sZe,sSu]);refine Rd (rs:=[7]) (by kernel_rfl) (by simp) ?_;refine Rc (tLFsJ rfl) (fun K hK=>?_) Rn;obtain ⟨v0,v1,v2,v3,v4,v5,vzq⟩:=q6 HB6.out;go_simp;clear v0 vzq v1 v2 v3 v4 v5;refine hK.out _ _ ⟨by rw [cF_ _ _ _ _ hbg,cF_ _ _ _ _ hbg,cF_ _ _ _ _ hbg,cF_ _ _ _ _ hbg,cF_ _ _ _ _ hbg,cF_ _ _ _ _ hbg];exact hHeld.1,s6_at hHeld.2⟩ (fun hHeld=>?_);clear hK K;(try simp only [Act.put,sAr,sZe,sSu]);refine tkH 8 (v:=?_) (tLFsJ rfl) (Or.inl ⟨by rfl,?hy⟩) (by assumption) ?_
       case hy=>
        intro w0 hSw;have e4:=hSw.1;obtain ⟨k0,k1,k2,k3,k4,k5,-⟩:=q6 hSw.2;clear hSw;go_simp
        (first | done | with_reducible rfl)
       (try simp only [Act.put,sAr,sZe,sSu]);refine tkH 9 (v:=?_) (tLFsJ rfl) (Or.inl ⟨by rfl,?hy⟩) (by assumption) ?_
       case hy=>
        intro w0 hSw;have e4:=hSw.1;obtain ⟨k0,k1,k2,k3,k4,k5,-⟩:=q6 hSw.2;clear hSw;go_simp
        (first | done | with_reducible rfl)
       (try simp only [Act.put,sAr,sZe,sSu]);refine wpAnyH_done (by kernel_rfl) ?_ _;clear hHeld;go_wp2_with fail;obtain ⟨WW,hWW⟩:=ex_ (((((((w5.setCell ⟨b2,0,none⟩ (.int .i64 x.o)).setCell ⟨b2,1,none⟩ (.int .i64 x.tn)).setCell ⟨b2,2,none⟩ (.int .i64 x.tm)).setCell ⟨b2,3,none⟩ (.string x.s)).setCell ⟨b2,4,none⟩ (.slice x.Ae x.ne x.ce)).setCell ⟨b2,5,none⟩ (.slice x.A x.n x.c)));have hrow:WW.heap[b2]?=some (.cells #[.int .i64 x.o,.int .i64 x.tn,.int .i64 x.tm,.string x.s,.slice x.Ae x.ne x.ce,.slice x.A x.n x.c] 35 (0,0)):=by rw [hWW];exact s6_at HB6.out
       have HBF:Hid (Below w.heap.size w WW):=by
        show Below _ _ _;rw [hWW];have hb:w.heap.size≤b2:=by rw [HBQ.out];exact lr _
        exact (((((((Ob (F:=fun q=>w.heap.size≤q) HB3d.out).setF hb _).setF hb _).setF hb _).setF hb _).setF hb _).setF hb _).below (fun q h=>h) (lr _)
       have HVF:Hid (x.Is (fun q=>w.heap.size≤q) WW zeroFm):=by
        show FV.Is _ _ _ _;rw [hWW];exact HXI5.out.keep (s6_keep Kr (by have:=HBQ.out;omega)) (fun q _ h=>by omega)
       rw [←hWW];clear hWW;refine bR (fparse_results _ b2 _ _ _ _ _ _ _ _ _ rfl rfl rfl hrow) rfl ?_;rw [HRE4.out,HAT.out];exact ⟨x,rfl,HVF.out,HBF.out⟩
     · have hj':¬(j:Int)<(n:Int):=by omega
       have HRE4:Hid (F=FaQ w (zeroFm,(s.size:Int),x0)):=by
        show _=_;rw [HRE3.out,iP hx0];unfold atOf;rw [List.getElem?_eq_none (by rw [←HN.out];omega),HSZ.out]
       obtain ⟨v0,v1,v2,v3,v4,v5,vzq⟩:=q6 HX3.out;go_wp2_with fail;rw [←HW3S.out];clear v0 vzq v1 v2 v3 v4 v5;obtain ⟨v0,v1,v2,v3,v4,v5,vzq⟩:=q6 HX4.out;have hvl:=lH HX4.out;(try go_wp2_with fail);clear v0 vzq v1 v2 v3 v4 v5;obtain ⟨WW,hWW⟩:=ex_ (((((((w3s.setCell ⟨b2,0,none⟩ (.int .i64 x.o)).setCell ⟨b2,1,none⟩ (.int .i64 x.tn)).setCell ⟨b2,2,none⟩ (.int .i64 x.tm)).setCell ⟨b2,3,none⟩ (.string x.s)).setCell ⟨b2,4,none⟩ (.slice x.Ae x.ne x.ce)).setCell ⟨b2,5,none⟩ (.slice x.A x.n x.c)));have hrow:WW.heap[b2]?=some (.cells #[.int .i64 x.o,.int .i64 x.tn,.int .i64 x.tm,.string x.s,.slice x.Ae x.ne x.ce,.slice x.A x.n x.c] 35 (0,0)):=by rw [hWW];exact s6_at HX4.out
       have HBF:Hid (Below w.heap.size w WW):=by
        show Below _ _ _;rw [hWW];have hb:w.heap.size≤b2:=by rw [HBQ.out];exact lr _
        exact (((((((Ob (F:=fun q=>w.heap.size≤q) HB4.out).setF hb _).setF hb _).setF hb _).setF hb _).setF hb _).setF hb _).below (fun q h=>h) (lr _)
       have HVF:Hid (x.Is (fun q=>w.heap.size≤q) WW zeroFm):=by
        show FV.Is _ _ _ _;rw [hWW];exact HXI.out.keep (s6_keep Kr (by have:=HBQ.out;omega)) (fun q _ h=>by omega)
       rw [←hWW];clear hWW;refine bR (fparse_results _ b2 _ _ _ _ _ _ _ _ _ rfl rfl rfl hrow) rfl ?_;rw [HRE4.out];exact ⟨x,rfl,HVF.out,HBF.out⟩
 · have HRE2:Hid (F=FaQ w (zeroFm,z1,z2)):=by show _=_;rw [HRE.out,iP hz]
   have hzb:(z2 != 0)=true:=by simpa using hz
   clear hz HRE;obtain ⟨v0,v1,v2,v3,v4,v5,vzq⟩:=q6 HX2.out;go_wp2_with fail;clear v0 vzq v1 v2 v3 v4 v5;obtain ⟨WW,hWW⟩:=ex_ (((((((w2.setCell ⟨b2,0,none⟩ (.int .i64 0)).setCell ⟨b2,1,none⟩ (.int .i64 0)).setCell ⟨b2,2,none⟩ (.int .i64 0)).setCell ⟨b2,3,none⟩ (.string ⟨#[]⟩)).setCell ⟨b2,4,none⟩ (.slice none 0 0)).setCell ⟨b2,5,none⟩ (.slice none 0 0)));have hrow:WW.heap[b2]?=some (.cells #[.int .i64 0,.int .i64 0,.int .i64 0,.string ⟨#[]⟩,.slice none 0 0,.slice none 0 0] 35 (0,0)):=by rw [hWW];exact s6_at HX2.out
   have HBF:Hid (Below w.heap.size w WW):=by
    show Below _ _ _;rw [hWW];have hb:w.heap.size≤b2:=by rw [HBQ.out];exact lr _
    exact (((((((Ob (F:=fun q=>w.heap.size≤q) HBW.out).setF hb _).setF hb _).setF hb _).setF hb _).setF hb _).setF hb _).below (fun q h=>h) (lr _)
   rw [←hWW];clear hWW;refine bR (fparse_results _ b2 _ _ _ _ _ _ _ _ _ rfl rfl rfl hrow) rfl ?_;rw [HRE2.out];exact ⟨FV.zero,rfl,FV.zero_is,HBF.out⟩
theorem Tm.sizeL_take {l:List Tm} {k:Nat} {t:Tm} (h:l[k]?=some t):Tm.sizeL (l.take (k+1))=Tm.sizeL (l.take k)+t.size:=by
 obtain ⟨hj,hj2⟩:=gE.1 h;rw [List.take_succ_eq_append_getElem hj,hj2]
 generalize l.take k=a
 induction a with
 | nil=>simp [Tm.sizeL]
 | cons x r ih=>rw [List.cons_append,Tm.sizeL,Tm.sizeL,ih];omega
end Go.Proofs.YtnbphgeepnknlaaGreatDoor
