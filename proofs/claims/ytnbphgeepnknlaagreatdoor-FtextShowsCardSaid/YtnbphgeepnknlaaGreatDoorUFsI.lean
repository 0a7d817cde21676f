/- Walks: ftext's Take, Parse. -/
import Derived.Test.YtnbphgeepnknlaaGreatDoorUFsH
import Derived.Test.YtnbphgeepnknlaaGreatDoorUFrmC
namespace Go.Proofs.YtnbphgeepnknlaaGreatDoor
open Go.RowKit
set_option linter.unusedVariables false
set_option linter.unusedSimpArgs false
set_option maxRecDepth 100000
set_option maxHeartbeats 8000000
theorem tLFsI {o:Array Oper} {i:Nat} {x:Oper} (h:o.toList[i]?=some x):o[i]?=some x:=by simpa using h
def FkQ (w:World) (r:Fm×Nat×Int) (e:Ending) (w':World):Prop:=∃ x:FV,e=.returned (.tuple #[x.val,.int .i64 (r.2.1:Nat),.int .i64 r.2.2])∧x.Is (fun q=>w.heap.size≤q) w' r.1∧Below w.heap.size w w'
def FaQ (w:World) (r:Fm×Int×Int) (e:Ending) (w':World):Prop:=∃ x:FV,e=.returned (.tuple #[x.val,.int .i64 r.2.1,.int .i64 r.2.2])∧x.Is (fun q=>w.heap.size≤q) w' r.1∧Below w.heap.size w w'
def fkOf (i:Nat) (r:Rs Fm):Fm×Nat×Int:=match r with
 | .bad j e=>(zeroFm,j,e)
 | .ok f j=>if f.check=0 then (f,j,0) else (zeroFm,i,f.check)
theorem ftake_results (tm:Array Value) (b2:Nat) (z1 z2:Value) (u0 u1 u2 u3 u4 u5:Value) (w:World) (h2:tm[4]?=some (.pointer (some ⟨b2,0,none⟩))) (h3:tm[5]?=some z1) (h4:tm[6]?=some z2) (h:w.heap[b2]?=some (.cells #[u0,u1,u2,u3,u4,u5] 35 (0,0))) :
 (results Tryz.f35 tm).run Tryz.prog w=.ok (.tuple #[.agg #[u0,u1,u2,u3,u4,u5],z1,z2]) w:=by
 obtain ⟨y0,y1,y2,y3,y4,y5,-⟩:=q6 h;unfold results;rw [Tryz.results35];simp only [Array.getD_eq_getD_getElem?];simp [h2,h3,h4,go_sem,y0,y1,y2,y3,y4,y5]
theorem ftake_any (l:List Tok) (A:Option Addr) (c i:Nat) (w:World) (hi:i≤l.length) (hT:TokIn w A c l) :
 Calls Tryz.prog 35 #[.slice A l.length c,.int .i64 (i:Nat)] w (FkQ w (takeF l i)):=by
 have hlen:=hT.len;have hcap:=hT.cap;have hcapm:=hT.capm;unfold maxLen at hcapm;obtain ⟨n,hn⟩:=ex_ l.length;obtain ⟨F,hF⟩:=ex_ (FkQ w (takeF l i));rw [←hF];obtain ⟨b4,hb4⟩:=ex_ w.heap.size;obtain ⟨R,hR⟩:=ex_ (w.heap.size+1);obtain ⟨w2,hw2⟩:=ex_ ((w.alloc (.cells #[.int .i64 0,.int .i64 0,.int .i64 0,.string ⟨#[]⟩,.slice none 0 0,.slice none 0 0] 35)).alloc (.cells #[.slice A n c,.int .i64 (i:Nat),.int .i64 0,.int .i64 0] 147));have hb2:Below w.heap.size w w2:=by rw [hw2];exact ((Br _ _).alloc (lr _) _).alloc (by simp) _
 have hx2:w2.heap[b4]?=some (.cells #[.int .i64 0,.int .i64 0,.int .i64 0,.string ⟨#[]⟩,.slice none 0 0,.slice none 0 0] 35 (0,0)):=by rw [hw2,hb4];exact aK (hA_ w _)
 have hrd:FRd w2 R A l.length c i 0 0:=by
  have h:=hA_ (w.alloc (.cells #[.int .i64 0,.int .i64 0,.int .i64 0,.string ⟨#[]⟩,.slice none 0 0,.slice none 0 0] 35)) (.cells #[.slice A n c,.int .i64 (i:Nat),.int .i64 0,.int .i64 0] 147);rw [hw2,hR,←hn];unfold FRd
  simpa using h
 have hcall:=(flevels R A c l 256 0 rfl).form i w2 hi hrd (hT.pt hb2 (by omega));obtain ⟨r,hr⟩:=ex_ ((flvl l 256).form i);rw [←hr] at hcall;have HRE:Hid (F=FkQ w (fkOf i r)):=by show _=_;rw [hF,hr];rfl
 have HGD:Hid (∀ t j,r=.ok t j→FGd l i t j):=fun t j h=>(flvl_gd l 256).form i t j (by rw [←hr];exact h);have HNZ:Hid (∀ j x,r=.bad j x→x≠0):=fun j x h=>(flvl_nz l 256).form i j x (by rw [←hr];exact h);have HC:=Hd hcall;have HW2:=Hd hw2;have HBQ:=Hd hb4;have HRQ:=Hd hR;have HB:=Hd hb2;have X4:=Hd hx2;have HN:=Hd hn;have hs2:w2.heap.size=R+1:=by rw [hw2,hR];simp
 rw [←hn] at hi hlen hcap ⊢;have hi0:¬(i:Int)<0:=by omega
 have hi1:¬(n:Int)<(i:Int):=by omega
 have h4R:b4≠R:=by omega
 have hbw:w.heap.size≤b4:=by omega
 have hbR:w.heap.size≤R:=by omega
 clear hF hb4 hR hw2 hb2 hx2 hrd hcall hr hn hT;go_enter Tryz.func35,Tryz.ntmps35;go_wp2_with fail;rw [←HW2.out,←HRQ.out,←HBQ.out];refine (HC.out).mono ?_;rintro e w3 ⟨x,rfl,hx,hR3,ho3⟩;unfold FV.val;have hl4:b4<w2.heap.size:=lH X4.out;have x43:=(ho3.block b4 hl4 h4R).trans X4.out;have hB3:Below w.heap.size w w3:=(Ob (F:=fun q=>w.heap.size≤q) HB.out).trans (ho3.mono (fun q h=>by show w.heap.size≤q;omega)) |>.below (fun q h=>h) (lr _);obtain ⟨j,hj⟩:=ex_ r.at_;obtain ⟨y,hy⟩:=ex_ r.err;rw [←hj,←hy] at hR3;obtain ⟨w4,hw4⟩:=ex_ (((((((w3.setCell ⟨b4,0,none⟩ (.int .i64 x.o)).setCell ⟨b4,1,none⟩ (.int .i64 x.tn)).setCell ⟨b4,2,none⟩ (.int .i64 x.tm)).setCell ⟨b4,3,none⟩ (.string x.s)).setCell ⟨b4,4,none⟩ (.slice x.Ae x.ne x.ce)).setCell ⟨b4,5,none⟩ (.slice x.A x.n x.c)));have X44:Hid (w4.heap[b4]?=some (.cells #[.int .i64 x.o,.int .i64 x.tn,.int .i64 x.tm,.string x.s,.slice x.Ae x.ne x.ce,.slice x.A x.n x.c] 35 (0,0))):=by show _=_;rw [hw4];exact s6_at x43
 have HRD:Hid (FRd w4 R A l.length c j 0 y):=by show FRd _ _ _ _ _ _ _ _;rw [hw4];exact (s6_far (Ne.symm h4R)).trans hR3
 have HB4:Hid (Below w.heap.size w w4):=by
  show Below _ _ _;rw [hw4];exact (((((((Ob (F:=fun q=>w.heap.size≤q) hB3).setF hbw _).setF hbw _).setF hbw _).setF hbw _).setF hbw _).setF hbw _).below (fun q h=>h) (lr _)
 have HX4:Hid (∀ t k,r=.ok t k→x.Is (fun q=>w2.heap.size≤q) w4 t):=fun t k h=>by rw [hw4];exact (hx t k h).keep (s6_keep Kr (by omega)) (fun _ _ h=>h)
 have Y43:=Hd x43;have HRD3:=Hd hR3;have Qw4:=Hd hw4;have hl3:=lH x43
 have HRB:Hid (y≠0→r=.bad j y):=by
  intro h
  cases hc:r with
  | bad a b=>rw [hc] at hj hy;rw [hj,hy];rfl
  | ok f k=>rw [hc] at hy;exact absurd hy h
 have HRO:Hid (y=0→∃ f,r=.ok f j):=by
  intro h
  cases hc:r with
  | bad a b=>rw [hc] at hy;exact absurd (show b=0 from hy.symm.trans h) (HNZ.out a b hc)
  | ok f k=>rw [hc] at hj;exact ⟨f,by rw [hj];rfl⟩
 clear hx hR3 ho3 x43 hB3 hw4 hj hy HC X4 HB
 by_cases hy0:y=0
 · obtain ⟨f,hf⟩:=HRO.out hy0;subst hy0;have hgd:=HGD.out f j hf;have hxf:=HX4.out f j hf;have HRE2:Hid (F=FkQ w (if f.check=0 then (f,j,0) else (zeroFm,i,f.check))):=by show _=_;rw [HRE.out,hf];rfl
   have HXF:=Hd hxf;have hws:f.wsize≤9000000:=by have h1:=hgd.sz;have h2:=hgd.jl;have h3:=HN.out;omega
   have hck:=fcheck_any f x.Ae x.ce x.A x.c w4 hxf.v.toV hws;have hval:=hxf.val;unfold FV.val at hval;rw [←hval] at hck;have HCK:=Hd hck;clear hgd hxf hws hck hval hf HGD HNZ HRB HRO HX4;obtain ⟨v0,v1,v2,v3,v4,v5,vzq⟩:=q6 Y43.out;obtain ⟨-,-,-,e3,-⟩:=q4 HRD3.out;have hrl3:=HRD3.out.lt;go_wp2_with fail;clear e3;rw [←Qw4.out];clear v0 vzq v1 v2 v3 v4 v5;obtain ⟨-,-,-,e3,-⟩:=q4 HRD.out;have hrl4:=HRD.out.lt;obtain ⟨v0,v1,v2,v3,v4,v5,vzq⟩:=q6 X44.out;have hl44:=lH X44.out;(try go_wp2_with fail);refine (HCK.out).mono ?_;rintro e w5 ⟨rfl,hb5⟩;clear e3 v0 vzq v1 v2 v3 v4 v5;have X45:=kX hb5 X44;have HRD5:=Hd (HRD.out.below hb5 HRD.out.lt);have HB5:=kB HB4 hb5;have HXF5:Hid (x.Is (fun q=>w2.heap.size≤q) w5 f):=HXF.out.keep (Kb hb5) (fun _ _ h=>h);clear hb5 HCK X44 HRD HB4 HXF
   by_cases hz:f.check=0
   · rw [hz];have HRE3:Hid (F=FkQ w (f,j,0)):=by show _=_;rw [HRE2.out,iP hz]
     clear hz;go_wp2_with fail;refine wp_region_held_drew (S:=fun w'=>FRd w' R A l.length c j 0 0∧w'.heap[b4]?=some (.cells #[.int .i64 x.o,.int .i64 x.tn,.int .i64 x.tm,.string x.s,.slice x.Ae x.ne x.ce,.slice x.A x.n x.c] 35 (0,0))) (by kernel_rfl) ⟨HRD5.out,X45.out⟩ (fun hHeld=>?_);obtain ⟨wd,hwd⟩:=ex_ w5.drew;have YD:Hid (wd.heap[b4]?=some (.cells #[.int .i64 x.o,.int .i64 x.tn,.int .i64 x.tm,.string x.s,.slice x.Ae x.ne x.ce,.slice x.A x.n x.c] 35 (0,0))):=by show _=_;rw [hwd];exact X45.out
     have HBD:Hid (Below w.heap.size w wd):=by show Below _ _ _;rw [hwd];exact HB5.out.drew
     have HXD:Hid (x.Is (fun q=>w2.heap.size≤q) wd f):=by show FV.Is _ _ _ _;rw [hwd];exact HXF5.out.keep ⟨lr _,fun _ _ _=>rfl⟩ (fun _ _ h=>h)
     rw [←hwd] at hHeld ⊢;clear hwd;refine tkH 0 (v:=?_) (tLFsI rfl) (Or.inl ⟨by rfl,?hy⟩) (by assumption) ?_
     case hy=>
      intro w0 hSw;obtain ⟨-,h1,-⟩:=q4 hSw.1;obtain ⟨k0,k1,k2,k3,k4,k5,-⟩:=q6 hSw.2;clear hSw;go_simp
      (first | done | with_reducible rfl)
     (try simp only [Act.put,sAr,sZe,sSu]);refine tkH 1 (v:=?_) (tLFsI rfl) (Or.inl ⟨by rfl,?hy⟩) (by assumption) ?_
     case hy=>
      intro w0 hSw;obtain ⟨-,h1,-⟩:=q4 hSw.1;obtain ⟨k0,k1,k2,k3,k4,k5,-⟩:=q6 hSw.2;clear hSw;go_simp
      (first | done | with_reducible rfl)
     (try simp only [Act.put,sAr,sZe,sSu]);refine tkH 2 (v:=?_) (tLFsI rfl) (Or.inl ⟨by rfl,?hy⟩) (by assumption) ?_
     case hy=>
      intro w0 hSw;obtain ⟨-,h1,-⟩:=q4 hSw.1;obtain ⟨k0,k1,k2,k3,k4,k5,-⟩:=q6 hSw.2;clear hSw;go_simp
      (first | done | with_reducible rfl)
     (try simp only [Act.put,sAr,sZe,sSu]);refine tkH 3 (v:=?_) (tLFsI rfl) (Or.inl ⟨by rfl,?hy⟩) (by assumption) ?_
     case hy=>
      intro w0 hSw;obtain ⟨-,h1,-⟩:=q4 hSw.1;obtain ⟨k0,k1,k2,k3,k4,k5,-⟩:=q6 hSw.2;clear hSw;go_simp
      (first | done | with_reducible rfl)
     (try simp only [Act.put,sAr,sZe,sSu]);refine tkH 4 (v:=?_) (tLFsI rfl) (Or.inl ⟨by rfl,?hy⟩) (by assumption) ?_
     case hy=>
      intro w0 hSw;obtain ⟨-,h1,-⟩:=q4 hSw.1;obtain ⟨k0,k1,k2,k3,k4,k5,-⟩:=q6 hSw.2;clear hSw;go_simp
      (first | done | with_reducible rfl)
     (try simp only [Act.put,sAr,sZe,sSu]);refine Rd (rs:=[5]) (by kernel_rfl) (by simp) ?_;refine Rc (tLFsI rfl) (fun K hK=>?_) Rn;obtain ⟨v0,v1,v2,v3,v4,v5,vzq⟩:=q6 YD.out;go_simp;clear v0 vzq v1 v2 v3 v4 v5;refine hK.out _ _ (⟨(s6_far (Ne.symm h4R)).trans hHeld.1,s6_at hHeld.2⟩) (fun hHeld=>?_);clear hK K;(try simp only [Act.put,sAr,sZe,sSu]);refine tkH 6 (v:=?_) (tLFsI rfl) (Or.inl ⟨by rfl,?hy⟩) (by assumption) ?_
     case hy=>
      intro w0 hSw;obtain ⟨-,h1,-⟩:=q4 hSw.1;obtain ⟨k0,k1,k2,k3,k4,k5,-⟩:=q6 hSw.2;clear hSw;go_simp
      (first | done | with_reducible rfl)
     (try simp only [Act.put,sAr,sZe,sSu]);refine tkH 7 (v:=?_) (tLFsI rfl) (Or.inl ⟨by rfl,?hy⟩) (by assumption) ?_
     case hy=>
      intro w0 hSw;obtain ⟨-,h1,-⟩:=q4 hSw.1;obtain ⟨k0,k1,k2,k3,k4,k5,-⟩:=q6 hSw.2;clear hSw;go_simp
      (first | done | with_reducible rfl)
     (try simp only [Act.put,sAr,sZe,sSu]);refine wpAnyH_done (by kernel_rfl) ?_ _;clear hHeld;go_wp2_with fail;obtain ⟨WW,hWW⟩:=ex_ (((((((wd.setCell ⟨b4,0,none⟩ (.int .i64 x.o)).setCell ⟨b4,1,none⟩ (.int .i64 x.tn)).setCell ⟨b4,2,none⟩ (.int .i64 x.tm)).setCell ⟨b4,3,none⟩ (.string x.s)).setCell ⟨b4,4,none⟩ (.slice x.Ae x.ne x.ce)).setCell ⟨b4,5,none⟩ (.slice x.A x.n x.c)));have hrow:WW.heap[b4]?=some (.cells #[.int .i64 x.o,.int .i64 x.tn,.int .i64 x.tm,.string x.s,.slice x.Ae x.ne x.ce,.slice x.A x.n x.c] 35 (0,0)):=by rw [hWW];exact s6_at YD.out
     have HBF:Hid (Below w.heap.size w WW):=by
      show Below _ _ _;rw [hWW];have hb:w.heap.size≤b4:=by rw [HBQ.out];exact lr _
      exact (((((((Ob (F:=fun q=>w.heap.size≤q) HBD.out).setF hb _).setF hb _).setF hb _).setF hb _).setF hb _).setF hb _).below (fun q h=>h) (lr _)
     have HVF:Hid (x.Is (fun q=>w.heap.size≤q) WW f):=by
      show FV.Is _ _ _ _;rw [hWW];exact HXD.out.keep (s6_keep Kr (by have:=HBQ.out;omega)) (fun q _ h=>by omega)
     rw [←hWW];clear hWW;refine bR (ftake_results _ b4 _ _ _ _ _ _ _ _ _ rfl rfl rfl hrow) rfl ?_;rw [HRE3.out];exact ⟨x,rfl,HVF.out,HBF.out⟩
   · have hzb:(f.check != 0)=true:=by simpa using hz
     have HRE3:Hid (F=FkQ w (zeroFm,i,f.check)):=by show _=_;rw [HRE2.out,iN hz]
     obtain ⟨ck,hck⟩:=ex_ f.check;rw [←hck] at hzb HRE3 ⊢;clear hz hck;obtain ⟨v0,v1,v2,v3,v4,v5,vzq⟩:=q6 X45.out;have hl45:=lH X45.out;go_wp2_with fail;clear v0 vzq v1 v2 v3 v4 v5;obtain ⟨WW,hWW⟩:=ex_ (((((((w5.setCell ⟨b4,0,none⟩ (.int .i64 0)).setCell ⟨b4,1,none⟩ (.int .i64 0)).setCell ⟨b4,2,none⟩ (.int .i64 0)).setCell ⟨b4,3,none⟩ (.string ⟨#[]⟩)).setCell ⟨b4,4,none⟩ (.slice none 0 0)).setCell ⟨b4,5,none⟩ (.slice none 0 0)));have hrow:WW.heap[b4]?=some (.cells #[.int .i64 0,.int .i64 0,.int .i64 0,.string ⟨#[]⟩,.slice none 0 0,.slice none 0 0] 35 (0,0)):=by rw [hWW];exact s6_at X45.out
     have HBF:Hid (Below w.heap.size w WW):=by
      show Below _ _ _;rw [hWW];have hb:w.heap.size≤b4:=by rw [HBQ.out];exact lr _
      exact (((((((Ob (F:=fun q=>w.heap.size≤q) HB5.out).setF hb _).setF hb _).setF hb _).setF hb _).setF hb _).setF hb _).below (fun q h=>h) (lr _)
     rw [←hWW];clear hWW;refine bR (ftake_results _ b4 _ _ _ _ _ _ _ _ _ rfl rfl rfl hrow) rfl ?_;rw [HRE3.out];exact ⟨FV.zero,rfl,FV.zero_is,HBF.out⟩
 · have hyb:(y != 0)=true:=by simpa using hy0
   have HRE2:Hid (F=FkQ w (zeroFm,j,y)):=by show _=_;rw [HRE.out,HRB.out hy0];rfl
   clear hy0;obtain ⟨v0,v1,v2,v3,v4,v5,vzq⟩:=q6 Y43.out;obtain ⟨-,-,-,e3,-⟩:=q4 HRD3.out;have hrl3:=HRD3.out.lt;go_wp2_with fail;clear e3;rw [←Qw4.out];clear v0 vzq v1 v2 v3 v4 v5;obtain ⟨-,-,-,e3,-⟩:=q4 HRD.out;have hrl4:=HRD.out.lt;(try go_wp2_with fail);clear e3;refine wp_region_held_drew (S:=fun w'=>FRd w' R A l.length c j 0 y) (by kernel_rfl) HRD.out (fun hHeld=>?_);obtain ⟨wd,hwd⟩:=ex_ w4.drew;have YD:Hid (wd.heap[b4]?=some (.cells #[.int .i64 x.o,.int .i64 x.tn,.int .i64 x.tm,.string x.s,.slice x.Ae x.ne x.ce,.slice x.A x.n x.c] 35 (0,0))):=by show _=_;rw [hwd];exact X44.out
   have HBD:Hid (Below w.heap.size w wd):=by show Below _ _ _;rw [hwd];exact HB4.out.drew
   rw [←hwd] at hHeld ⊢;clear hwd;refine tkH 0 (v:=?_) (tLFsI rfl) (Or.inl ⟨by rfl,?hy⟩) (by assumption) ?_
   case hy=>
    intro w0 hSw;obtain ⟨-,h1,-,h3,-⟩:=q4 hSw;clear hSw;go_simp
    (first | done | with_reducible rfl)
   (try simp only [Act.put,sAr,sZe,sSu]);refine tkH 1 (v:=?_) (tLFsI rfl) (Or.inl ⟨by rfl,?hy⟩) (by assumption) ?_
   case hy=>
    intro w0 hSw;obtain ⟨-,h1,-,h3,-⟩:=q4 hSw;clear hSw;go_simp
    (first | done | with_reducible rfl)
   (try simp only [Act.put,sAr,sZe,sSu]);refine tkH 2 (v:=?_) (tLFsI rfl) (Or.inl ⟨by rfl,?hy⟩) (by assumption) ?_
   case hy=>
    intro w0 hSw;obtain ⟨-,h1,-,h3,-⟩:=q4 hSw;clear hSw;go_simp
    (first | done | with_reducible rfl)
   (try simp only [Act.put,sAr,sZe,sSu]);refine tkH 3 (v:=?_) (tLFsI rfl) (Or.inl ⟨by rfl,?hy⟩) (by assumption) ?_
   case hy=>
    intro w0 hSw;obtain ⟨-,h1,-,h3,-⟩:=q4 hSw;clear hSw;go_simp
    (first | done | with_reducible rfl)
   (try simp only [Act.put,sAr,sZe,sSu]);refine tkH 4 (v:=?_) (tLFsI rfl) (Or.inl ⟨by rfl,?hy⟩) (by assumption) ?_
   case hy=>
    intro w0 hSw;obtain ⟨-,h1,-,h3,-⟩:=q4 hSw;clear hSw;go_simp
    (first | done | with_reducible rfl)
   (try simp only [Act.put,sAr,sZe,sSu]);refine tkH 5 (v:=?_) (tLFsI rfl) (Or.inl ⟨by rfl,?hy⟩) (by assumption) ?_
   case hy=>
    intro w0 hSw;obtain ⟨-,h1,-,h3,-⟩:=q4 hSw;clear hSw;go_simp
    (first | done | with_reducible rfl)
   (try simp only [Act.put,sAr,sZe,sSu]);refine tkH 6 (v:=?_) (tLFsI rfl) (Or.inl ⟨by rfl,?hy⟩) (by assumption) ?_
   case hy=>
    intro w0 hSw;obtain ⟨-,h1,-,h3,-⟩:=q4 hSw;clear hSw;go_simp
    (first | done | with_reducible rfl)
   (try simp only [Act.put,sAr,sZe,sSu]);refine tkH 7 (v:=?_) (tLFsI rfl) (Or.inl ⟨by rfl,?hy⟩) (by assumption) ?_
   case hy=>
    intro w0 hSw;obtain ⟨-,h1,-,h3,-⟩:=q4 hSw;clear hSw;go_simp
    (first | done | with_reducible rfl)
   (try simp only [Act.put,sAr,sZe,sSu]);refine tkH 8 (v:=?_) (tLFsI rfl) (Or.inl ⟨by rfl,?hy⟩) (by assumption) ?_
   case hy=>
    intro w0 hSw;obtain ⟨-,h1,-,h3,-⟩:=q4 hSw;clear hSw;go_simp
    (first | done | with_reducible rfl)
   (try simp only [Act.put,sAr,sZe,sSu]);refine Rd (rs:=[9]) (by kernel_rfl) (by simp) ?_;refine Rc (tLFsI rfl) (fun K hK=>?_) Rn;obtain ⟨v0,v1,v2,v3,v4,v5,vzq⟩:=q6 YD.out;go_simp;clear v0 vzq v1 v2 v3 v4 v5;refine hK.out _ _ ((s6_far (Ne.symm h4R)).trans hHeld) (fun hHeld=>?_);clear hK K;(try simp only [Act.put,sAr,sZe,sSu]);refine tkH 10 (v:=?_) (tLFsI rfl) (Or.inl ⟨by rfl,?hy⟩) (by assumption) ?_
   case hy=>
    intro w0 hSw;obtain ⟨-,h1,-,h3,-⟩:=q4 hSw;clear hSw;go_simp
    (first | done | with_reducible rfl)
   (try simp only [Act.put,sAr,sZe,sSu]);refine tkH 11 (v:=?_) (tLFsI rfl) (Or.inl ⟨by rfl,?hy⟩) (by assumption) ?_
   case hy=>
    intro w0 hSw;obtain ⟨-,h1,-,h3,-⟩:=q4 hSw;clear hSw;go_simp
    (first | done | with_reducible rfl)
   (try simp only [Act.put,sAr,sZe,sSu]);refine wpAnyH_done (by kernel_rfl) ?_ _;clear hHeld;go_wp2_with fail;obtain ⟨WW,hWW⟩:=ex_ (((((((wd.setCell ⟨b4,0,none⟩ (.int .i64 0)).setCell ⟨b4,1,none⟩ (.int .i64 0)).setCell ⟨b4,2,none⟩ (.int .i64 0)).setCell ⟨b4,3,none⟩ (.string ⟨#[]⟩)).setCell ⟨b4,4,none⟩ (.slice none 0 0)).setCell ⟨b4,5,none⟩ (.slice none 0 0)));have hrow:WW.heap[b4]?=some (.cells #[.int .i64 0,.int .i64 0,.int .i64 0,.string ⟨#[]⟩,.slice none 0 0,.slice none 0 0] 35 (0,0)):=by rw [hWW];exact s6_at YD.out
   have HBF:Hid (Below w.heap.size w WW):=by
    show Below _ _ _;rw [hWW];have hb:w.heap.size≤b4:=by rw [HBQ.out];exact lr _
    exact (((((((Ob (F:=fun q=>w.heap.size≤q) HBD.out).setF hb _).setF hb _).setF hb _).setF hb _).setF hb _).setF hb _).below (fun q h=>h) (lr _)
   rw [←hWW];clear hWW;refine bR (ftake_results _ b4 _ _ _ _ _ _ _ _ _ rfl rfl rfl hrow) rfl ?_;rw [HRE2.out];exact ⟨FV.zero,rfl,FV.zero_is,HBF.out⟩
end Go.Proofs.YtnbphgeepnknlaaGreatDoor
