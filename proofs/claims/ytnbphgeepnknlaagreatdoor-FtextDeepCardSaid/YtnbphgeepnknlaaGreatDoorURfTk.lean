/- Walks and plain words: RfTk LexE. -/
import Derived.Test.YtnbphgeepnknlaaGreatDoorURfqF
import Derived.Test.YtnbphgeepnknlaaGreatDoorURefE
namespace Go.Proofs.YtnbphgeepnknlaaGreatDoor
open Go.RowKit
set_option linter.unusedVariables false
set_option linter.unusedSimpArgs false
set_option maxRecDepth 100000
set_option maxHeartbeats 8000000
theorem tLRfTk {o:Array Oper} {i:Nat} {x:Oper} (h:o.toList[i]?=some x):o[i]?=some x:=by simpa using h
theorem rftake_results (tm:Array Value) (b2:Nat) (z1 z2:Value) (u0 u1 u2 u3 u4 u5:Value) (w:World) (h2:tm[4]?=some (.pointer (some ⟨b2,0,none⟩))) (h3:tm[5]?=some z1) (h4:tm[6]?=some z2) (h:w.heap[b2]?=some (.cells #[u0,u1,u2,u3,u4,u5] 35 (0,0))) :
 (results Tryz.f36 tm).run Tryz.prog w=.ok (.tuple #[.agg #[u0,u1,u2,u3,u4,u5],z1,z2]) w:=by
 obtain ⟨y0,y1,y2,y3,y4,y5,-⟩:=q6 h;unfold results;rw [Tryz.results36];simp only [Array.getD_eq_getD_getElem?];simp [h2,h3,h4,go_sem,y0,y1,y2,y3,y4,y5]
theorem rftake_any (l:List Tok) (A:Option Addr) (c i:Nat) (w:World) (hi:i≤l.length) (hT:TokIn w A c l) :
 Calls Tryz.prog 36 #[.slice A l.length c,.int .i64 (i:Nat)] w (FkQ w (takeF l i)):=by
 have hlen:=hT.len;have hcap:=hT.cap;have hcapm:=hT.capm;unfold maxLen at hcapm;obtain ⟨n,hn⟩:=ex_ l.length;rw [←hn] at hi hlen hcap ⊢;obtain ⟨F,hF⟩:=ex_ (FkQ w (takeF l i));rw [←hF];obtain ⟨b4,hb4⟩:=ex_ w.heap.size;obtain ⟨w1,hw1⟩:=ex_ (w.alloc (.cells #[.int .i64 0,.int .i64 0,.int .i64 0,.string ⟨#[]⟩,.slice none 0 0,.slice none 0 0] 35));have hb1:=bAl hw1;have hx1:w1.heap[b4]?=some (.cells #[.int .i64 0,.int .i64 0,.int .i64 0,.string ⟨#[]⟩,.slice none 0 0,.slice none 0 0] 35 (0,0)):=by rw [hw1,hb4];exact hA_ w _
 have hs1:w1.heap.size=b4+1:=by rw [hw1,hb4];simp
 have hcall:=(glevels l 256 0 rfl).form A c i w1 (by rw [←hn];exact hi) (hT.below hb1);rw [←hn] at hcall;obtain ⟨r,hr⟩:=ex_ ((flvl l 256).form i);rw [←hr] at hcall;have HRE:Hid (F=FkQ w (fkOf i r)):=by show _=_;rw [hF,hr];rfl
 have HGD:Hid (∀ t j,r=.ok t j→FGd l i t j):=fun t j h=>(flvl_gd l 256).form i t j (by rw [←hr];exact h);have HNZ:Hid (∀ j x,r=.bad j x→x≠0):=fun j x h=>(flvl_nz l 256).form i j x (by rw [←hr];exact h);have HC:=Hd hcall;have HW1:=Hd hw1;have HBQ:=Hd hb4;have HB:=Hd hb1;have X4:=Hd hx1;have HN:=Hd hn;have hi0:¬(i:Int)<0:=by omega
 have hi1:¬(n:Int)<(i:Int):=by omega
 have hbw:w.heap.size≤b4:=by omega
 clear hF hb4 hw1 hb1 hx1 hcall hr hn hT;go_enter Tryz.func36,Tryz.ntmps36;go_wp2_with fail;rw [←HW1.out,←HBQ.out];refine (HC.out).mono ?_;rintro e w2 ⟨x,rfl,hx,hb2⟩;obtain ⟨j,hj⟩:=ex_ r.at_;obtain ⟨y,hy⟩:=ex_ r.err;rw [←hj,←hy];obtain ⟨b7,hb7⟩:=ex_ w2.heap.size;obtain ⟨w3,hw3⟩:=ex_ (w2.alloc (.cells #[.int .i64 x.o,.int .i64 x.tn,.int .i64 x.tm,.string x.s,.slice x.Ae x.ne x.ce,.slice x.A x.n x.c,.int .i64 (j:Nat),.int .i64 y] 150));have X7:=nAl hw3 hb7;have hal:=bAl hw3;have n74:b7≠b4:=by have:=hb2.size;omega
 replace X4:=Hd ((hal.block b4 (by have:=hb2.size;omega)).trans ((hb2.block b4 (by omega)).trans X4.out));replace HB:=Hd (HB.out.trans ((hb2.mono (by omega)).trans (hal.mono (by have:=hb2.size;omega))));have hs7:b7<w3.heap.size:=lH X7.out;have HX3:Hid (∀ t k,r=.ok t k→x.Is (fun q=>w1.heap.size≤q) w3 t):=fun t k h=>(hx t k h).keep (Kb hal) (fun _ _ h=>h);have HRB:Hid (y≠0→r=.bad j y):=fun h=>rs_bad hj hy h;have HRO:Hid (y=0→∃ f,r=.ok f j):=fun h=>rs_ok hj hy h HNZ.out;have Qw3:=Hd hw3;have Qb7:=Hd hb7;clear hx hb2 hal hw3 hb7 HC hj hy
 by_cases hy0:y=0
 · obtain ⟨f,hf⟩:=HRO.out hy0;subst hy0;have hgd:=HGD.out f j hf;have hxf:=HX3.out f j hf;have HRE2:Hid (F=FkQ w (if f.check=0 then (f,j,0) else (zeroFm,i,f.check))):=by show _=_;rw [HRE.out,hf];rfl
   have HXF:=Hd hxf;have hws:f.wsize≤9000000:=by have h1:=hgd.sz;have h2:=hgd.jl;have h3:=HN.out;omega
   have hck:=rfcheck_any f x.Ae x.ce x.A x.c w3 hxf.v.toV hws;have hval:=hxf.val;unfold FV.val at hval;rw [←hval] at hck;have HCK:=Hd hck;clear hgd hxf hws hck hval hf HGD HNZ HRB HRO HX3;go_wp2_with fail;rw [←Qw3.out,←Qb7.out];obtain ⟨u0,u1,u2,u3,u4,u5,u6,u7,uzq⟩:=q8 X7.out;(try go_wp2_with fail);refine (HCK.out).mono ?_;rintro e w4 ⟨rfl,hb4c⟩;have hs4:=hb4c.size;have Y7:=Hd ((hb4c.block b7 hs7).trans X7.out);have Y4:=kX hb4c X4;have YB:=kB HB hb4c;have HV4:Hid (x.Is (fun q=>w1.heap.size≤q) w4 f):=HXF.out.keep (Kb hb4c) (fun _ _ h=>h);clear u0 uzq u1 u2 u3 u4 u5 u6 u7 X7 X4 HB HCK hb4c HXF;have X7:=Y7;have X4:=Y4;have HB:=YB;clear Y7 Y4 YB
   by_cases hz:f.check=0
   · rw [hz];have HRE3:Hid (F=FkQ w (f,j,0)):=by show _=_;rw [HRE2.out,iP hz]
     clear hz;go_wp2_with fail;obtain ⟨wd,hwd⟩:=ex_ w4.drew;have hxd:wd.heap[b7]?=some (.cells #[.int .i64 x.o,.int .i64 x.tn,.int .i64 x.tm,.string x.s,.slice x.Ae x.ne x.ce,.slice x.A x.n x.c,.int .i64 (j:Nat),.int .i64 0] 150 (0,0)):=by rw [hwd];exact X7.out
     have Y4:Hid (wd.heap[b4]?=some (.cells #[.int .i64 0,.int .i64 0,.int .i64 0,.string ⟨#[]⟩,.slice none 0 0,.slice none 0 0] 35 (0,0))):=by show _=_;rw [hwd];exact X4.out
     have YB:Hid (Below w.heap.size w wd):=by show Below _ _ _;rw [hwd];exact HB.out.drew
     have HVd:Hid (x.Is (fun q=>w1.heap.size≤q) wd f):=by show FV.Is _ _ _ _;rw [hwd];exact HV4.out.keep ⟨lr _,fun _ _ _=>rfl⟩ (fun _ _ h=>h)
     refine wp_region_held_drew (S:=fun w'=>w'.heap[b7]?=some (.cells #[.int .i64 x.o,.int .i64 x.tn,.int .i64 x.tm,.string x.s,.slice x.Ae x.ne x.ce,.slice x.A x.n x.c,.int .i64 (j:Nat),.int .i64 0] 150 (0,0))) (by kernel_rfl) (by rw [←hwd];exact hxd) (fun hHeld=>?_);rw [←hwd] at hHeld ⊢;clear hwd hxd X4 HB;have X4:=Y4;have HB:=YB;clear Y4 YB;refine tkH 0 (v:=?_) (tLRfTk rfl) (Or.inl ⟨by rfl,?hy⟩) (by assumption) ?_
     case hy=>
      intro w0 hSw;obtain ⟨h0,h1,h2,h3,h4,h5,h6,h7,-⟩:=q8 hSw;clear hSw;go_simp
      (first | done | with_reducible rfl)
     (try simp only [Act.put,sAr,sZe,sSu]);refine tkH 1 (v:=?_) (tLRfTk rfl) (Or.inl ⟨by rfl,?hy⟩) (by assumption) ?_
     case hy=>
      intro w0 hSw;obtain ⟨h0,h1,h2,h3,h4,h5,h6,h7,-⟩:=q8 hSw;clear hSw;go_simp
      (first | done | with_reducible rfl)
     (try simp only [Act.put,sAr,sZe,sSu]);refine tkH 2 (v:=?_) (tLRfTk rfl) (Or.inl ⟨by rfl,?hy⟩) (by assumption) ?_
     case hy=>
      intro w0 hSw;obtain ⟨h0,h1,h2,h3,h4,h5,h6,h7,-⟩:=q8 hSw;clear hSw;go_simp
      (first | done | with_reducible rfl)
     (try simp only [Act.put,sAr,sZe,sSu]);refine tkH 3 (v:=?_) (tLRfTk rfl) (Or.inl ⟨by rfl,?hy⟩) (by assumption) ?_
     case hy=>
      intro w0 hSw;obtain ⟨h0,h1,h2,h3,h4,h5,h6,h7,-⟩:=q8 hSw;clear hSw;go_simp
      (first | done | with_reducible rfl)
     (try simp only [Act.put,sAr,sZe,sSu]);refine Rd (rs:=[4]) (by kernel_rfl) (by simp) ?_;refine Rc (tLRfTk rfl) (fun K hK=>?_) Rn;obtain ⟨v0,v1,v2,v3,v4,v5,vzq⟩:=q6 X4.out;go_simp;clear v0 vzq v1 v2 v3 v4 v5;refine hK.out _ _ ((s6_far n74).trans hHeld) (fun hHeld=>?_);clear hK K;(try simp only [Act.put,sAr,sZe,sSu]);refine tkH 5 (v:=?_) (tLRfTk rfl) (Or.inl ⟨by rfl,?hy⟩) (by assumption) ?_
     case hy=>
      intro w0 hSw;obtain ⟨h0,h1,h2,h3,h4,h5,h6,h7,-⟩:=q8 hSw;clear hSw;go_simp
      (first | done | with_reducible rfl)
     (try simp only [Act.put,sAr,sZe,sSu]);refine tkH 6 (v:=?_) (tLRfTk rfl) (Or.inl ⟨by rfl,?hy⟩) (by assumption) ?_
     case hy=>
      intro w0 hSw;obtain ⟨h0,h1,h2,h3,h4,h5,h6,h7,-⟩:=q8 hSw;clear hSw;go_simp
      (first | done | with_reducible rfl)
     (try simp only [Act.put,sAr,sZe,sSu]);refine wpAnyH_done (by kernel_rfl) ?_ _;clear hHeld;go_wp2_with fail;obtain ⟨WW,hWW⟩:=ex_ (((((((wd.setCell ⟨b4,0,none⟩ (.int .i64 x.o)).setCell ⟨b4,1,none⟩ (.int .i64 x.tn)).setCell ⟨b4,2,none⟩ (.int .i64 x.tm)).setCell ⟨b4,3,none⟩ (.string x.s)).setCell ⟨b4,4,none⟩ (.slice x.Ae x.ne x.ce)).setCell ⟨b4,5,none⟩ (.slice x.A x.n x.c)));have hrow:WW.heap[b4]?=some (.cells #[.int .i64 x.o,.int .i64 x.tn,.int .i64 x.tm,.string x.s,.slice x.Ae x.ne x.ce,.slice x.A x.n x.c] 35 (0,0)):=by rw [hWW];exact s6_at X4.out
     have HBF:Hid (Below w.heap.size w WW):=by
      show Below _ _ _;rw [hWW];have hb:w.heap.size≤b4:=by rw [HBQ.out];exact lr _
      exact (((((((Ob (F:=fun q=>w.heap.size≤q) HB.out).setF hb _).setF hb _).setF hb _).setF hb _).setF hb _).setF hb _).below (fun q h=>h) (lr _)
     have HVF:Hid (x.Is (fun q=>w.heap.size≤q) WW f):=by
      show FV.Is _ _ _ _;rw [hWW];exact HVd.out.keep (s6_keep Kr (by have:=HBQ.out;omega)) (fun q _ h=>by have:=HBQ.out;omega)
     rw [←hWW];clear hWW;refine bR (rftake_results _ b4 _ _ _ _ _ _ _ _ _ rfl rfl rfl hrow) rfl ?_;rw [HRE3.out];exact ⟨x,rfl,HVF.out,HBF.out⟩
   · have hzb:(f.check != 0)=true:=by simpa using hz
     have HRE3:Hid (F=FkQ w (zeroFm,i,f.check)):=by show _=_;rw [HRE2.out,iN hz]
     obtain ⟨ck,hck⟩:=ex_ f.check;rw [←hck] at hzb HRE3 ⊢;clear hz hck;obtain ⟨v0,v1,v2,v3,v4,v5,vzq⟩:=q6 X4.out;go_wp2_with fail;clear v0 vzq v1 v2 v3 v4 v5;obtain ⟨WW,hWW⟩:=ex_ (((((((w4.setCell ⟨b4,0,none⟩ (.int .i64 0)).setCell ⟨b4,1,none⟩ (.int .i64 0)).setCell ⟨b4,2,none⟩ (.int .i64 0)).setCell ⟨b4,3,none⟩ (.string ⟨#[]⟩)).setCell ⟨b4,4,none⟩ (.slice none 0 0)).setCell ⟨b4,5,none⟩ (.slice none 0 0)));have hrow:WW.heap[b4]?=some (.cells #[.int .i64 0,.int .i64 0,.int .i64 0,.string ⟨#[]⟩,.slice none 0 0,.slice none 0 0] 35 (0,0)):=by rw [hWW];exact s6_at X4.out
     have HBF:Hid (Below w.heap.size w WW):=by
      show Below _ _ _;rw [hWW];have hb:w.heap.size≤b4:=by rw [HBQ.out];exact lr _
      exact (((((((Ob (F:=fun q=>w.heap.size≤q) HB.out).setF hb _).setF hb _).setF hb _).setF hb _).setF hb _).setF hb _).below (fun q h=>h) (lr _)
     rw [←hWW];clear hWW;refine bR (rftake_results _ b4 _ _ _ _ _ _ _ _ _ rfl rfl rfl hrow) rfl ?_;rw [HRE3.out];exact ⟨FV.zero,rfl,FV.zero_is,HBF.out⟩
 · have hyb:(y != 0)=true:=by simpa using hy0
   have HRE2:Hid (F=FkQ w (zeroFm,j,y)):=by show _=_;rw [HRE.out,HRB.out hy0];rfl
   clear hy0;go_wp2_with fail;rw [←Qw3.out,←Qb7.out];obtain ⟨u0,u1,u2,u3,u4,u5,u6,u7,uzq⟩:=q8 X7.out;(try go_wp2_with fail);clear u0 uzq u1 u2 u3 u4 u5 u6 u7;obtain ⟨wd,hwd⟩:=ex_ w3.drew;have hxd:wd.heap[b7]?=some (.cells #[.int .i64 x.o,.int .i64 x.tn,.int .i64 x.tm,.string x.s,.slice x.Ae x.ne x.ce,.slice x.A x.n x.c,.int .i64 (j:Nat),.int .i64 y] 150 (0,0)):=by rw [hwd];exact X7.out
   have Y4:Hid (wd.heap[b4]?=some (.cells #[.int .i64 0,.int .i64 0,.int .i64 0,.string ⟨#[]⟩,.slice none 0 0,.slice none 0 0] 35 (0,0))):=by show _=_;rw [hwd];exact X4.out
   have YB:Hid (Below w.heap.size w wd):=by show Below _ _ _;rw [hwd];exact HB.out.drew
   refine wp_region_held_drew (S:=fun w'=>w'.heap[b7]?=some (.cells #[.int .i64 x.o,.int .i64 x.tn,.int .i64 x.tm,.string x.s,.slice x.Ae x.ne x.ce,.slice x.A x.n x.c,.int .i64 (j:Nat),.int .i64 y] 150 (0,0))) (by kernel_rfl) (by rw [←hwd];exact hxd) (fun hHeld=>?_);rw [←hwd] at hHeld ⊢;clear hwd hxd X4 HB;have X4:=Y4;have HB:=YB;clear Y4 YB;refine tkH 0 (v:=?_) (tLRfTk rfl) (Or.inl ⟨by rfl,?hy⟩) (by assumption) ?_
   case hy=>
    intro w0 hSw;obtain ⟨h0,h1,h2,h3,h4,h5,h6,h7,-⟩:=q8 hSw;clear hSw;go_simp
    (first | done | with_reducible rfl)
   (try simp only [Act.put,sAr,sZe,sSu]);refine tkH 1 (v:=?_) (tLRfTk rfl) (Or.inl ⟨by rfl,?hy⟩) (by assumption) ?_
   case hy=>
    intro w0 hSw;obtain ⟨h0,h1,h2,h3,h4,h5,h6,h7,-⟩:=q8 hSw;clear hSw;go_simp
    (first | done | with_reducible rfl)
   (try simp only [Act.put,sAr,sZe,sSu]);refine tkH 2 (v:=?_) (tLRfTk rfl) (Or.inl ⟨by rfl,?hy⟩) (by assumption) ?_
   case hy=>
    intro w0 hSw;obtain ⟨h0,h1,h2,h3,h4,h5,h6,h7,-⟩:=q8 hSw;clear hSw;go_simp
    (first | done | with_reducible rfl)
   (try simp only [Act.put,sAr,sZe,sSu]);refine tkH 3 (v:=?_) (tLRfTk rfl) (Or.inl ⟨by rfl,?hy⟩) (by assumption) ?_
   case hy=>
    intro w0 hSw;obtain ⟨h0,h1,h2,h3,h4,h5,h6,h7,-⟩:=q8 hSw;clear hSw;go_simp
    (first | done | with_reducible rfl)
   (try simp only [Act.put,sAr,sZe,sSu]);refine tkH 4 (v:=?_) (tLRfTk rfl) (Or.inl ⟨by rfl,?hy⟩) (by assumption) ?_
   case hy=>
    intro w0 hSw;obtain ⟨h0,h1,h2,h3,h4,h5,h6,h7,-⟩:=q8 hSw;clear hSw;go_simp
    (first | done | with_reducible rfl)
   (try simp only [Act.put,sAr,sZe,sSu]);refine Rd (rs:=[5]) (by kernel_rfl) (by simp) ?_;refine Rc (tLRfTk rfl) (fun K hK=>?_) Rn;obtain ⟨v0,v1,v2,v3,v4,v5,vzq⟩:=q6 X4.out;go_simp;clear v0 vzq v1 v2 v3 v4 v5;refine hK.out _ _ ((s6_far n74).trans hHeld) (fun hHeld=>?_);clear hK K;(try simp only [Act.put,sAr,sZe,sSu]);refine tkH 6 (v:=?_) (tLRfTk rfl) (Or.inl ⟨by rfl,?hy⟩) (by assumption) ?_
   case hy=>
    intro w0 hSw;obtain ⟨h0,h1,h2,h3,h4,h5,h6,h7,-⟩:=q8 hSw;clear hSw;go_simp
    (first | done | with_reducible rfl)
   (try simp only [Act.put,sAr,sZe,sSu]);refine tkH 7 (v:=?_) (tLRfTk rfl) (Or.inl ⟨by rfl,?hy⟩) (by assumption) ?_
   case hy=>
    intro w0 hSw;obtain ⟨h0,h1,h2,h3,h4,h5,h6,h7,-⟩:=q8 hSw;clear hSw;go_simp
    (first | done | with_reducible rfl)
   (try simp only [Act.put,sAr,sZe,sSu]);refine wpAnyH_done (by kernel_rfl) ?_ _;clear hHeld;go_wp2_with fail;obtain ⟨WW,hWW⟩:=ex_ (((((((wd.setCell ⟨b4,0,none⟩ (.int .i64 0)).setCell ⟨b4,1,none⟩ (.int .i64 0)).setCell ⟨b4,2,none⟩ (.int .i64 0)).setCell ⟨b4,3,none⟩ (.string ⟨#[]⟩)).setCell ⟨b4,4,none⟩ (.slice none 0 0)).setCell ⟨b4,5,none⟩ (.slice none 0 0)));have hrow:WW.heap[b4]?=some (.cells #[.int .i64 0,.int .i64 0,.int .i64 0,.string ⟨#[]⟩,.slice none 0 0,.slice none 0 0] 35 (0,0)):=by rw [hWW];exact s6_at X4.out
   have HBF:Hid (Below w.heap.size w WW):=by
    show Below _ _ _;rw [hWW];have hb:w.heap.size≤b4:=by rw [HBQ.out];exact lr _
    exact (((((((Ob (F:=fun q=>w.heap.size≤q) HB.out).setF hb _).setF hb _).setF hb _).setF hb _).setF hb _).setF hb _).below (fun q h=>h) (lr _)
   rw [←hWW];clear hWW;refine bR (rftake_results _ b4 _ _ _ _ _ _ _ _ _ rfl rfl rfl hrow) rfl ?_;rw [HRE2.out];exact ⟨FV.zero,rfl,FV.zero_is,HBF.out⟩
theorem rnext_results (tmps:Array Value) (W:World) (b:Nat) (v0 v1 v2 v3 v5 v6:Value) (h4:tmps.getD 4 undef=.pointer (some ⟨b,0,none⟩)) (h5:tmps.getD 5 undef=v5) (h6:tmps.getD 6 undef=v6)
 (h:∀ o,o<4→W.cell? ⟨b,o,none⟩=(#[v0,v1,v2,v3]:Array Value)[o]?) :
 (results Tryz.f68 tmps).run Tryz.prog W=.ok (.tuple #[.agg #[v0,v1,v2,v3],v5,v6]) W:=by
 have c0:=h 0 (by omega);have c1:=h 1 (by omega);have c2:=h 2 (by omega);have c3:=h 3 (by omega);simp at c0 c1 c2 c3 h4 h5 h6;simp [results,Tryz.results68,go_sem,h4,h5,h6,c0,c1,c2,c3]
theorem fin4 {B:Nat} {w W:World} (h:Below B w W) (v0 v1 v2 v3:Value) :
 Below B w ((((W.setCell ⟨B,0,none⟩ v0).setCell ⟨B,1,none⟩ v1).setCell ⟨B,2,none⟩ v2).setCell ⟨B,3,none⟩ v3):=
 (((h.setCell (p:=⟨B,0,none⟩) (lr _) _).setCell (p:=⟨B,1,none⟩) (lr _) _).setCell (p:=⟨B,2,none⟩) (lr _) _).setCell (p:=⟨B,3,none⟩) (lr _) _
theorem far4 (W:World) (b c o:Nat) (v0 v1 v2 v3:Value) (h:b≠c):((((W.setCell ⟨b,0,none⟩ v0).setCell ⟨b,1,none⟩ v1).setCell ⟨b,2,none⟩ v2).setCell ⟨b,3,none⟩ v3).cell? ⟨c,o,none⟩=W.cell? ⟨c,o,none⟩:=by
 have h':∀ j,(⟨b,j,none⟩:Addr).block≠(⟨c,o,none⟩:Addr).block:=fun _=>h;rw [cF_ _ _ _ _ (h' _),cF_ _ _ _ _ (h' _),cF_ _ _ _ _ (h' _),cF_ _ _ _ _ (h' _)]
theorem words_short {x:ByteArray} (h:isWord (bs x)=true):x.size≤24:=by
 unfold isWord at h;rw [Lib.containsS_iff] at h;have hall:∀ y∈wordL,y.size≤24:=by decide
 rw [show (⟨(bs x).toArray⟩:ByteArray)=x from bs_ext rfl] at h;exact hall x h
theorem signIdx_cons (l:Bs) (x:ByteArray) (r:List ByteArray) (k:Nat):signIdx l (x :: r) k=if (bs x).isPrefixOf l then some k else signIdx l r (k+1):=rfl
theorem signIdx_nil (l:Bs) (k:Nat):signIdx l [] k=none:=rfl
theorem rnext_in (s:ByteArray) (p:Nat) (w:World) (hs:s.size≤1000000) (hp:p≤s.size) :
 Calls Tryz.prog 68 #[.string s,.int .i64 p] w fun e w'=>e=.returned (nextVal (next (bs s) p))∧Below w.heap.size w w':=by
 have hd1:decide ((p:Int)<0)=false:=by simp
 have hd2:decide (s.size<p)=false:=by simp;omega
 go_enter Tryz.func68,Tryz.ntmps68;go_wp2_with fail;obtain ⟨W0,hW0⟩:=ex_ (w.alloc (.cells #[.int .i64 0,.int .i64 0,.string ⟨#[]⟩,.int .i64 0] 77));have B0:=Hd (show Below w.heap.size w W0 from by rw [hW0];exact (Br _ _).alloc (lr _) _);have hz0:w.heap.size<W0.heap.size:=by rw [hW0];simp
 have hc0:∀ o,W0.cell? ⟨w.heap.size,o,none⟩=(#[.int .i64 0,.int .i64 0,.string ⟨#[]⟩,.int .i64 0]:Array Value)[o]?:=fun o=>by rw [hW0,World.cell?_alloc_at];rfl
 have hf0:∀ o,W0.frozen? ⟨w.heap.size,o,none⟩=false:=fun o=>by rw [hW0,World.frozen?_alloc_at];rfl
 rw [←hW0];clear hW0;refine (rblank_any s p _ hs hp).mono ?_;rintro e w1 ⟨rfl,hw1⟩;rw [←hw1];clear hw1;obtain ⟨T,hT⟩:=ex_ (blank ((bs s).drop p));rw [←hT];have hsuf:T <:+ (bs s):=by rw [hT];exact (blank_suffix _).trans (List.drop_suffix _ _)
 have hq1:=suffix_drop hsuf;have hq2:=hsuf.length_le;rw [bs_length] at hq1 hq2;obtain ⟨q,hq⟩:=ex_ (s.size - T.length);rw [←hq] at hq1 ⊢;have HNX:=Hd (fun (k:Int) (n len:Nat) (e:Int) (h:scan T=(k,n,len,e))=>next_eq (p:=p) hT.symm hq1 (by rw [bs_length];omega) h);have hqs:q≤s.size:=by omega
 have hql:T.length=s.size - q:=by omega
 have HQ1:=Hd hq1;have HB0:=Hd (B0.out);clear hT hsuf hq1 hq hd1 hd2
 by_cases hlt:q<s.size
 · have hlt':¬(q:Int)=(s.size:Int):=by omega
   have hT0:=drop_cons (bs_get hlt);rw [HQ1.out] at hT0;have HT0:=Hd hT0;clear hT0;have HL:=Hd (rletter_any s[q]);have HG:=Hd (rdigit_any s[q]);have hqI:(q:Int)<(s.size:Int):=by omega
   cases hle:isLetter s[q]
   · rw [hle] at HL;cases hdg:isDigit s[q]
     · rw [hdg] at HG;have hsc:=scan_sign (r:=(bs s).drop (q+1)) hle hdg;rw [←HT0.out] at hsc;have HSC:=Hd hsc;clear hsc hle hdg;go_wp2_with fail;refine (HL.out _).mono ?_;rintro e w3 ⟨rfl,hw⟩;rw [←hw];clear hw;go_wp2_with fail;refine (HG.out _).mono ?_;rintro e w3 ⟨rfl,hw⟩;rw [←hw];clear hw;go_wp2_with fail;refine (rsigns_any _).mono ?_;rintro e w3 ⟨rfl,hw⟩;have hb3:Below w.heap.size w w3:=by rw [hw];exact HB0.out.alloc (Nat.le_of_lt hz0) _
       have hb03:=bAl hw;have hc3:∀ o,w3.cell? ⟨w.heap.size,o,none⟩=(#[.int .i64 0,.int .i64 0,.string ⟨#[]⟩,.int .i64 0]:Array Value)[o]?:=fun o=>by rw [hb03.cell (p:=⟨w.heap.size,o,none⟩) hz0];exact hc0 o
       have hf3:∀ o,w3.frozen? ⟨w.heap.size,o,none⟩=false:=fun o=>by rw [hb03.frozen (p:=⟨w.heap.size,o,none⟩) hz0];exact hf0 o
       have hz3:w.heap.size<w3.heap.size:=lL hz0 hb03.size
       have HCS:=Hd (show ∀ j,j<21→w3.cell? ⟨W0.heap.size,j,none⟩=some (.string (signL.getD j ByteArray.empty)) from fun j hj=>by
        rw [hw,World.cell?_alloc_at _ _ _ _ rfl];have hj':j<signL.length:=hj
        simp [List.getD,hj'])
       have HB3:=Hd hb3;clear hw hb3 hb03 hc0 hf0
       go_wp2
       go_loop [10] (fun i=>∃ k:Nat,k≤21∧i=.int .i64 k∧signIdx T signL 0=signIdx T (signL.drop k) k) (fun i=>21 - (intOf i).toNat)
       case atStart=>exact ⟨0,zl _,rfl,rfl⟩
       case round=>
        obtain ⟨k,hk,rfl,heq⟩:=hrel;have HE:=Hd heq;clear heq
        by_cases hk21:k<21
        · have hkI:(k:Int)<(21:Int):=by omega
          have hk0:(0:Int)≤(k:Int):=by omega
          have hdr:signL.drop k=signL.getD k ByteArray.empty :: signL.drop (k+1):=by
           have hj':k<signL.length:=hk21;rw [List.drop_eq_getElem_cons hj'];simp [List.getD,hj']
          have hck:=HCS.out k hk21
          have hsm:(signL.getD k ByteArray.empty).size≤3:=by
           have hall:∀ y∈signL,y.size≤3:=by decide
           have hj':k<signL.length:=hk21;have h1:signL.getD k ByteArray.empty=signL[k]:=by simp [List.getD,hj']
           rw [h1];exact hall _ (List.getElem_mem _)
          have hsc:=HSC.out;have heq:=HE.out;rw [hdr] at heq
          generalize hy:signL.getD k ByteArray.empty=y at *
          have hst:=starts_any s y q w3 hs (by omega) hqs;rw [HQ1.out] at hst;have HST:=Hd hst;have HY:=Hd hy;clear hst hdr hy;rw [signIdx_cons] at heq;cases hp:(bs y).isPrefixOf T
          · rw [hp,iN (by simp)] at heq;have HN:=Hd heq;rw [hp] at HST;clear hp heq hsc;go_wp2_with fail;refine (HST.out).mono ?_;rintro e w4 ⟨rfl,hw⟩;rw [←hw];clear hw
            go_wp2
            go_round
            case rel=>exact ⟨k+1,by omega,by go_num,HN.out⟩
            case measure=>simp [intOf];omega
          · rw [hp,iP rfl] at heq;rw [heq] at hsc
            change scan T=(4,0,(signL.getD k ByteArray.empty).size,0) at hsc
            rw [HY.out] at hsc;rw [hp] at HST;have hpre:=List.isPrefixOf_iff_prefix.1 hp
            have hxt:T.take y.size=bs y:=by
             rw [←bs_length];exact (List.prefix_iff_eq_take.1 hpre).symm
            have hyl:y.size≤T.length:=by rw [←bs_length];exact hpre.length_le
            have HX':=Hd (show (⟨(T.take y.size).toArray⟩:ByteArray)=y from bs_ext (by rw [bs_mk,hxt]));have HV:=Hd (HNX.out 4 0 y.size 0 hsc);have hwq:IntKind.i64.wrap ((q:Int)+(y.size:Int))=((q+y.size:Nat):Int):=by rw [IntWalk.i64_in _ (by omega)];omega
            have hne0:w.heap.size≠W0.heap.size:=by omega
            clear hp heq hsc hpre hxt hyl;go_wp2_with fail;refine (HST.out).mono ?_;rintro e w4 ⟨rfl,hw⟩;rw [←hw];clear hw;go_wp2_with fail
            go_region_held3 (fun w'=>w'.cell? ⟨W0.heap.size,k,none⟩=some (.string y)) (first | exact hck | (rw [World.cell?_drew,far4 _ _ _ _ _ _ _ hne0];exact hck) | go_keep) (fail)
            go_wp2_with fail
            refine bR (rnext_results _ _ w.heap.size _ _ _ _ _ _ rfl rfl rfl (fun o ho=>by
             rw [World.cell?_drew]
             exact set4 rfl hc3 _ _ _ _ o ho)) rfl ⟨?_,?_⟩
            · rw [nextVal_ok (z:=(noTok,q,0)) HV.out HX'.out];rfl
            · exact (fin4 HB3.out _ _ _ _).drew
        · have hkI:¬(k:Int)<(21:Int):=by omega
          have hdr:signL.drop k=[]:=List.drop_eq_nil_of_le (by show 21≤k;omega);have heq:=HE.out;rw [hdr,signIdx_nil] at heq;have hsc:=HSC.out;rw [heq] at hsc
          change scan T=(0,0,0,15) at hsc
          have HV:=Hd (HNX.out 0 0 0 15 hsc);clear hdr heq hsc
          go_wp2
          refine bR (rnext_results _ _ w.heap.size _ _ _ _ _ _ rfl rfl rfl (fun o ho=>by
           try simp only [World.cell?_drew]
           exact set4 rfl hc3 _ _ _ _ o ho)) rfl ⟨?_,?_⟩
          · rw [HV.out];rfl
          · exact fin4 HB3.out _ _ _ _
     · rw [hdg] at HG;have hsc:=scan_digit (r:=(bs s).drop (q+1)) hle hdg;rw [←HT0.out] at hsc;have hnm:=num_cases HT0.out hdg;have hall:=@rowLen_all isDigit T;have hrow:=rrow_any s q true;rw [HQ1.out] at hrow
       change ∀ (w:World),s.size≤1000000→q≤s.size→Calls Tryz.prog 129 #[.string s,.int .i64 q,.bool true] w fun e w'=>e=.returned (.int .i64 (q+rowLen isDigit T:Nat))∧w=w' at hrow
       have hnT:=rowLen_le isDigit T;have hn0:0<rowLen isDigit T:=by rw [HT0.out,rowLen_cons_true hdg];omega
       generalize rowLen isDigit T=n at *
       have HROW:=Hd (fun w=>hrow w hs hqs);obtain ⟨x,hx⟩:∃ x,s.extract q (q+n)=x:=⟨_,rfl⟩;have hbx:bs x=T.take n:=by rw [←hx,bs_extract,List.drop_take,HQ1.out,show q+n - q=n by omega]
       have hxz:x.size=n:=by rw [←bs_length,hbx,List.length_take];omega
       rw [←hbx] at hnm hall;have hx0:0<x.size:=by omega
       have hx0':x[0]=s[q]:=by
        have h1:=bs_get hx0;rw [hbx,HT0.out] at h1;obtain ⟨m,rfl⟩:∃ m,n=m+1:=⟨n - 1,by omega⟩;simp at h1;exact h1.symm
       have HVA:=Hd (fun w=>rvalue_any x w (by omega) hall);have hx':(⟨(T.take n).toArray⟩:ByteArray)=x:=bs_ext (by rw [bs_mk,hbx]);have HX':=Hd hx';have hqn:q+n≤s.size:=by omega
       have hqq:q≤q+n:=by omega
       generalize capVal 0 (bs x)=v at *
       have HSC:=Hd hsc;have HNM:=Hd hnm;clear hrow hsc hle hnT hbx hx' hall hnm hdg;have hwq:IntKind.i64.wrap ((q:Int)+(n:Int))=((q+n:Nat):Int):=by rw [IntWalk.i64_in _ (by omega)];omega
       have HWQ:=Hd hwq;clear hwq;have H0:=Hd hx0';clear hx0';have h00:(0:Int)<(x.size:Int):=by omega
       go_wp2_with fail;refine (HL.out _).mono ?_;rintro e w3 ⟨rfl,hw⟩;rw [←hw];clear hw;go_wp2_with fail;refine (HG.out _).mono ?_;rintro e w3 ⟨rfl,hw⟩;rw [←hw];clear hw;go_wp2_with fail;refine (HROW.out _).mono ?_;rintro e w3 ⟨rfl,hw⟩;rw [←hw];clear hw
       by_cases hbad:1<n∧s[q].toNat=48
       · have hsc:=HSC.out;rw [HNM.out,iP hbad] at hsc;have HV:=Hd (HNX.out 0 0 0 15 (by rw [hsc];rfl));have h1':(1:Int)<(n:Int):=by omega
         have hb:((x[0].toNat:Int) == 48)=true:=by rw [H0.out,hbad.2];rfl
         clear hsc hbad
         go_wp2
         refine bR (rnext_results _ _ w.heap.size _ _ _ _ _ _ rfl rfl rfl (fun o ho=>by
          try simp only [World.cell?_drew]
          exact set4 rfl hc0 _ _ _ _ o ho)) rfl ⟨?_,?_⟩
         · rw [HV.out];rfl
         · exact fin4 HB0.out _ _ _ _
       · have hsc:=HSC.out;rw [HNM.out,iN hbad] at hsc
         have hor:¬1<n∨(1<n∧((x[0].toNat:Int) == 48)=false):=by
          by_cases h1:1<n
          · refine .inr ⟨h1,?_⟩;rw [H0.out];simp;omega
          · exact .inl h1
         by_cases hbig:255<v
         · rw [iP hbig] at hsc;have HV:=Hd (HNX.out 0 0 0 2 (by rw [hsc];rfl));have hbig':(255:Int)<(v:Int):=by omega
           clear hsc hbad hbig
           rcases hor with h1 | ⟨h1,hb⟩
           · have h1':¬(1:Int)<(n:Int):=by omega
             go_wp2_with fail;refine (HVA.out _).mono ?_;rintro e w3 ⟨rfl,hw⟩;rw [←hw];clear hw
             go_wp2
             refine bR (rnext_results _ _ w.heap.size _ _ _ _ _ _ rfl rfl rfl (fun o ho=>by
              try simp only [World.cell?_drew]
              exact set4 rfl hc0 _ _ _ _ o ho)) rfl ⟨?_,?_⟩
             · rw [HV.out];rfl
             · exact fin4 HB0.out _ _ _ _
           · have h1':(1:Int)<(n:Int):=by omega
             go_wp2_with fail;refine (HVA.out _).mono ?_;rintro e w3 ⟨rfl,hw⟩;rw [←hw];clear hw
             go_wp2
             refine bR (rnext_results _ _ w.heap.size _ _ _ _ _ _ rfl rfl rfl (fun o ho=>by
              try simp only [World.cell?_drew]
              exact set4 rfl hc0 _ _ _ _ o ho)) rfl ⟨?_,?_⟩
             · rw [HV.out];rfl
             · exact fin4 HB0.out _ _ _ _
         · rw [iN hbig] at hsc;have HV:=Hd (HNX.out 1 v n 0 (by rw [hsc];rfl));have hbig':¬(255:Int)<(v:Int):=by omega
           have hwq:=HWQ.out;clear hsc hbad hbig
           rcases hor with h1 | ⟨h1,hb⟩
           · have h1':¬(1:Int)<(n:Int):=by omega
             go_wp2_with fail;refine (HVA.out _).mono ?_;rintro e w3 ⟨rfl,hw⟩;rw [←hw];clear hw;go_wp2_with fail;refine (HVA.out _).mono ?_;rintro e w3 ⟨rfl,hw⟩;rw [←hw];clear hw
             go_wp2
             refine bR (rnext_results _ _ w.heap.size _ _ _ _ _ _ rfl rfl rfl (fun o ho=>by
              try simp only [World.cell?_drew]
              exact set4 rfl hc0 _ _ _ _ o ho)) rfl ⟨?_,?_⟩
             · rw [nextVal_ok (z:=(noTok,q,0)) HV.out HX'.out];rfl
             · exact fin4 HB0.out _ _ _ _
           · have h1':(1:Int)<(n:Int):=by omega
             go_wp2_with fail;refine (HVA.out _).mono ?_;rintro e w3 ⟨rfl,hw⟩;rw [←hw];clear hw;go_wp2_with fail;refine (HVA.out _).mono ?_;rintro e w3 ⟨rfl,hw⟩;rw [←hw];clear hw
             go_wp2
             refine bR (rnext_results _ _ w.heap.size _ _ _ _ _ _ rfl rfl rfl (fun o ho=>by
              try simp only [World.cell?_drew]
              exact set4 rfl hc0 _ _ _ _ o ho)) rfl ⟨?_,?_⟩
             · rw [nextVal_ok (z:=(noTok,q,0)) HV.out HX'.out];rfl
             · exact fin4 HB0.out _ _ _ _
   · rw [hle] at HL;have hsc:=scan_letter (r:=(bs s).drop (q+1)) hle;rw [←HT0.out] at hsc;have hrow:=rrow_any s q false;rw [HQ1.out] at hrow
     change ∀ (w:World),s.size≤1000000→q≤s.size→Calls Tryz.prog 129 #[.string s,.int .i64 q,.bool false] w fun e w'=>e=.returned (.int .i64 (q+rowLen isInside T:Nat))∧w=w' at hrow
     have hnT:=rowLen_le isInside T
     generalize rowLen isInside T=n at *
     have HROW:=Hd (fun w=>hrow w hs hqs);obtain ⟨x,hx⟩:∃ x,s.extract q (q+n)=x:=⟨_,rfl⟩;have hbx:bs x=T.take n:=by rw [←hx,bs_extract,List.drop_take,HQ1.out,show q+n - q=n by omega]
     have hxz:x.size=n:=by rw [←bs_length,hbx,List.length_take];omega
     rw [←hbx] at hsc;have HSC:=Hd hsc;have hx':(⟨(T.take n).toArray⟩:ByteArray)=x:=bs_ext (by rw [bs_mk,hbx]);have HX':=Hd hx';have HBX:=Hd hbx;have hqn:q+n≤s.size:=by omega
     have hqq:q≤q+n:=by omega
     clear hrow hsc hle hnT hbx hx';have hwq:IntKind.i64.wrap ((q:Int)+(n:Int))=((q+n:Nat):Int):=by rw [IntWalk.i64_in _ (by omega)];omega
     have HWQ:=Hd hwq;clear hwq;go_wp2_with fail;refine (HL.out _).mono ?_;rintro e w3 ⟨rfl,hw⟩;rw [←hw];clear hw;go_wp2_with fail;refine (HROW.out _).mono ?_;rintro e w3 ⟨rfl,hw⟩;rw [←hw];clear hw;go_wp2_with fail;refine (rwords_any _).mono ?_;rintro e w3 ⟨rfl,hw⟩;have hb3:Below w.heap.size w w3:=by rw [hw];exact HB0.out.alloc (Nat.le_of_lt hz0) _
     have hb03:=bAl hw;have hc3:∀ o,w3.cell? ⟨w.heap.size,o,none⟩=(#[.int .i64 0,.int .i64 0,.string ⟨#[]⟩,.int .i64 0]:Array Value)[o]?:=fun o=>by rw [hb03.cell (p:=⟨w.heap.size,o,none⟩) hz0];exact hc0 o
     have hf3:∀ o,w3.frozen? ⟨w.heap.size,o,none⟩=false:=fun o=>by rw [hb03.frozen (p:=⟨w.heap.size,o,none⟩) hz0];exact hf0 o
     have hz3:w.heap.size<w3.heap.size:=lL hz0 hb03.size
     have hcw:∀ j,j<wordL.length→w3.cell? ⟨W0.heap.size,0+j,none⟩=some (.string (wordL.getD j ByteArray.empty)):=fun j hj=>by
      rw [hw,Nat.zero_add,World.cell?_alloc_at _ _ _ _ rfl];simp [List.getD,hj]
     clear hw;have HAM:=Hd (ramong_any W0.heap.size 0 24 wordL x w3 (by decide) hcw)
     have hwd:Lib.containsS wordL x=isWord (bs x):=by
      unfold isWord;rw [show (⟨(bs x).toArray⟩:ByteArray)=x from bs_ext rfl]
     rw [hwd] at HAM
     change Hid (Calls Tryz.prog 130 #[.slice (some ⟨W0.heap.size,0,none⟩) 24 24,.string x] w3 _) at HAM
     have HB3:=Hd hb3;clear hcw hwd hb3 hc0 hf0 hb03;cases hiw:isWord (bs x)
     all_goals rw [hiw] at HAM
     · have hsc:=HSC.out;rw [hiw] at hsc
       by_cases h24:24<n
       · have h24':(24:Int)<(n:Int):=by omega
         rw [iP h24] at hsc;have HV:=Hd (HNX.out _ _ _ _ hsc);clear hsc hiw;go_wp2_with fail;refine (HAM.out).mono ?_;rintro e w4 ⟨rfl,hw⟩;rw [←hw];clear hw
         go_wp2
         refine bR (rnext_results _ _ w.heap.size _ _ _ _ _ _ rfl rfl rfl (fun o ho=>by
          try simp only [World.cell?_drew]
          exact set4 rfl hc3 _ _ _ _ o ho)) rfl ⟨?_,?_⟩
         · rw [HV.out];rfl
         · exact fin4 HB3.out _ _ _ _
       · have h24':¬(24:Int)<(n:Int):=by omega
         rw [iN h24,iN (by simp)] at hsc;have HV:=Hd (HNX.out _ _ _ _ hsc);clear hsc hiw;have hwq:=HWQ.out;go_wp2_with fail;refine (HAM.out).mono ?_;rintro e w4 ⟨rfl,hw⟩;rw [←hw];clear hw
         go_wp2
         refine bR (rnext_results _ _ w.heap.size _ _ _ _ _ _ rfl rfl rfl (fun o ho=>by
          try simp only [World.cell?_drew]
          exact set4 rfl hc3 _ _ _ _ o ho)) rfl ⟨?_,?_⟩
         · rw [nextVal_ok (z:=(noTok,q,0)) HV.out HX'.out];rfl
         · exact fin4 HB3.out _ _ _ _
     · have hsc:=HSC.out;have h24:=words_short hiw;rw [hxz] at h24;rw [hiw,iN (by omega),iP rfl] at hsc;have HV:=Hd (HNX.out _ _ _ _ hsc);clear hsc hiw;have hwq:=HWQ.out;go_wp2_with fail;refine (HAM.out).mono ?_;rintro e w4 ⟨rfl,hw⟩;rw [←hw];clear hw
       go_wp2
       refine bR (rnext_results _ _ w.heap.size _ _ _ _ _ _ rfl rfl rfl (fun o ho=>by
        try simp only [World.cell?_drew]
        exact set4 rfl hc3 _ _ _ _ o ho)) rfl ⟨?_,?_⟩
       · rw [nextVal_ok (z:=(noTok,q,0)) HV.out HX'.out];rfl
       · exact fin4 HB3.out _ _ _ _
 · have hlt':q=s.size:=by omega
   have hTn:T=[]:=List.eq_nil_of_length_eq_zero (by omega);have HV:=Hd (HNX.out 5 0 0 0 (by rw [hTn];rfl));rw [hTn] at HV;clear hTn HNX HQ1 hlt;subst hlt'
   go_wp2
   refine bR (rnext_results _ _ w.heap.size _ _ _ _ _ _ rfl rfl rfl (fun o ho=>by
    try simp only [World.cell?_drew]
    exact set4 rfl hc0 _ _ _ _ o ho)) rfl ⟨?_,?_⟩
   · rw [HV.out];rfl
   · exact fin4 HB0.out _ _ _ _
end Go.Proofs.YtnbphgeepnknlaaGreatDoor
