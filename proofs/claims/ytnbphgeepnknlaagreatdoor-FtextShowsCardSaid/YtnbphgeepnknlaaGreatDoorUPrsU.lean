/- Walks and plain words: PrsU FrmP FParP. -/
import Derived.Test.YtnbphgeepnknlaaGreatDoorUPrsO
namespace Go.Proofs.YtnbphgeepnknlaaGreatDoor
open Go.RowKit
set_option linter.unusedVariables false
set_option linter.unusedSimpArgs false
set_option maxRecDepth 100000
set_option maxHeartbeats 4000000
abbrev qPrsU4:=@q4
theorem ptake1_idle (b4 b5 b6:Nat) (w:World) :
 CallsD Tryz.prog 66 #[.pointer (some ⟨b4,0,none⟩),.pointer (some ⟨b5,0,none⟩),.pointer (some ⟨b6,0,none⟩)] .returning w fun e u' w'=>e=.returned (.tuple #[])∧u'=.returning∧w'=w:=by
 refine callsD_of_wpS Tryz.func66 rfl fun c₀ cs hu=>?_
 apply wpS_seq
 apply wpS_region
 simp [wpOpsS,go_sem,recoverD,hu,Tryz.ntmps66,Exit.thenS];refine wpS_of_wp ?_;obtain ⟨Q,hQ⟩:∃ Q:Exit→Act→World→Prop,Q=fun e a' w'=>e=.normal∧a'.defers=[]∧w'=w:=⟨_,rfl⟩;refine Code.wp_mono (Q:=Q) ?hq ?hw
 case hq=>
  intro e a' w' h;rw [hQ] at h;obtain ⟨rfl,hd,rfl⟩:=h;refine ⟨hd,.returning,?_,.tuple #[],results_none rfl _ _ _,?_⟩
  · cases c₀;simp_all
  · simp
 case hw=>
  have HQ:=Hd hQ;clear hQ hu
  change Code.wp _ _ _ { tmps:=#[.pointer (some ⟨b4,0,none⟩),.pointer (some ⟨b5,0,none⟩),.pointer (some ⟨b6,0,none⟩),undef,undef,undef,.nilIface,undef,undef,undef,undef,undef,undef,undef,undef,undef,undef],defers:=[] } w
  go_wp2
  refine (show Q _ _ _ from ?_);rw [HQ.out];exact ⟨rfl,rfl,rfl⟩
structure TokIn (w:World) (A:Option Addr) (c:Nat) (l:List Tok):Prop where
 toks:ToksAt w A l
 cap:l.length≤c
 capm:c≤maxLen
 len:l.length≤100000
 txt:∀ t∈l,t.text.length≤100000
 rng:∀ t∈l,-1000000≤t.n∧t.n≤1000000
 old:∀ a,A=some a→a.block<w.heap.size
theorem TokIn.pt {w w':World} {A:Option Addr} {c R:Nat} {l:List Tok} (h:TokIn w A c l) (hb:Below w.heap.size w w') (hR:w.heap.size≤R):PTok w' R A c l:=by
 refine ⟨?_,h.cap,h.capm,h.len,?_,h.txt,h.rng⟩
 · rcases h.toks with h0 | ⟨b,off,rfl,hbl,hc⟩
   · exact .inl h0
   · exact .inr ⟨b,off,rfl,lL hbl hb.size,fun k z hz j hj=>by rw [hb.cell (p:=⟨b,_,none⟩) hbl];exact hc k z hz j hj⟩
 · intro a ha;have:=h.old a ha;omega
theorem leaves_tmps {P:Program} {fn:Func} {R:Ending→World→Prop} {tmps tmps':Array Value} (h:results fn tmps'=results fn tmps):∀ (ds:List Deferred) (u:FrameMode) (w:World),Leaves P fn tmps' R ds u w→Leaves P fn tmps R ds u w
 | [],.returning,w,⟨v,hv,hr⟩=>⟨v,by rw [←h];exact hv,hr⟩
 | [],.panicking c,w,hh=>hh
 | [],.run,w,hh=>hh
 | d :: ds,u,w,⟨hu,fv,cap,f,args,h1,h2,h3⟩=>⟨hu,fv,cap,f,args,h1,h2,h3.mono fun e u' w' hh=>by
  cases e with
  | returned v=>exact leaves_tmps h ds _ _ hh
  | panicked c=>exact leaves_tmps h ds _ _ hh
  | outgrown=>exact hh⟩
theorem take_results (tm:Array Value) (v:Value) {k:Nat} (hk:7≤k):results Tryz.f32 (tm.setIfInBounds k v)=results Tryz.f32 tm:=by
 have g:∀ m,m<7→(tm.setIfInBounds k v)[m]?=tm[m]?:=fun m hm=>by rw [Array.getElem?_setIfInBounds,iN (by omega)]
 have g4:=g 4 (by decide);have g5:=g 5 (by decide);have g6:=g 6 (by decide);unfold results;rw [Tryz.results32];simp only [Array.getD_eq_getD_getElem?];simp [g4,g5,g6]
theorem cells1 {w:World} {b:Nat} {u:Value} {T:TypeId} (h:w.heap[b]?=some (.cells #[u] T (0,0))):w.cell? ⟨b,0,none⟩=some u∧w.frozen? ⟨b,0,none⟩=false:=⟨by rw [cR w b 0 _ _ (0,0) h];rfl,by simp [World.frozen?,h]⟩
theorem set1 {W:World} {b:Nat} {u v:Value} {T:TypeId} (h:W.heap[b]?=some (.cells #[u] T (0,0))):(W.setCell ⟨b,0,none⟩ v).heap[b]?=some (.cells #[v] T (0,0)):=by simp [World.setCell,Array.getElem?_modify,h]
def tkOf (i:Nat) (r:Rs Tm):Tm×Nat×Int:=match r with
 | .bad j e=>(zeroTm,j,e)
 | .ok t j=>if t.check=0 then (t,j,0) else (zeroTm,i,t.check)
def TkQ (l:List Tok) (w:World) (r:Tm×Nat×Int) (e:Ending) (w':World):Prop:=∃ A' c',e=.returned (.tuple #[r.1.val A' c',.int .i64 (r.2.1:Nat),.int .i64 r.2.2])∧TmVS (fun q=>w.heap.size≤q) w' A' c' r.1∧Below w.heap.size w w'
theorem ptake_any (l:List Tok) (A:Option Addr) (c i:Nat) (w:World) (hi:i≤l.length) (hT:TokIn w A c l) :
 Calls Tryz.prog 32 #[.slice A l.length c,.int .i64 (i:Nat)] w (TkQ l w (takeT l i)):=by
 obtain ⟨n,HN⟩:=exh_ l.length;have hlen:=hT.len;have hcap:=hT.cap;have hcapm:=hT.capm;unfold maxLen at hcapm;rw [←HN.out] at hi hlen hcap ⊢;have hmf:∀ (fn:Fn) (first cap:Array Value) (w:World),(Instr.makeFunc fn first cap).run Tryz.prog w=.ok (.func fn first cap) w:=fun _ _ _ _=>rfl;obtain ⟨F,HF⟩:=exh_ (TkQ l w (takeT l i));rw [←HF.out];have HT:=Hd hT;have hi0:¬(i:Int)<0:=by omega
 have hi1:¬(n:Int)<(i:Int):=by omega
 clear hT
 go_enter_defers Tryz.func32,Tryz.ntmps32
 go_wp2_with fail;obtain ⟨b4,hb4⟩:=ex_ w.heap.size;obtain ⟨b5,hb5⟩:=ex_ (w.heap.size+1);obtain ⟨b6,hb6⟩:=ex_ (w.heap.size+1+1);obtain ⟨R,hR⟩:=ex_ (w.heap.size+1+1+1);obtain ⟨w3,hw3⟩:=ex_ ((((w.alloc (.cells #[.int .i64 0,.int .i64 0,.string ⟨#[]⟩,.slice none 0 0] 25)).alloc (.cells #[.int .i64 0] 3)).alloc (.cells #[.int .i64 0] 26)).alloc (.cells #[.slice A n c,.int .i64 (i:Nat),.int .i64 0] 135));rw [←hw3,←hR,←hb6,←hb5,←hb4];have HB4q:=Hd hb4;have n45:b4≠b5:=by omega
 have n46:b4≠b6:=by omega
 have n56:b5≠b6:=by omega
 have n54:b4≠b5:=n45;have n64:b4≠b6:=n46;have n4R:b4≠R:=by omega
 have n5R:b5≠R:=by omega
 have n6R:b6≠R:=by omega
 have r4:w3.heap[b4]?=some (.cells #[.int .i64 0,.int .i64 0,.string ⟨#[]⟩,.slice none 0 0] 25 (0,0)):=by
  rw [hw3,hb4];refine (((Br _ _).alloc (lr _) _).block _ (by simp;omega)).trans ((((Br _ _).alloc (lr _) _).block _ (by simp;omega)).trans ((((Br _ _).alloc (lr _) _).block _ (by simp)).trans (hA_ w _)))
 have r5:w3.heap[b5]?=some (.cells #[.int .i64 0] 3 (0,0)):=by
  rw [hw3,hb5];refine (((Br _ _).alloc (lr _) _).block _ (by simp)).trans ((((Br _ _).alloc (lr _) _).block _ (by simp)).trans ?_);have h:=hA_ (w.alloc (.cells #[.int .i64 0,.int .i64 0,.string ⟨#[]⟩,.slice none 0 0] 25)) (.cells #[.int .i64 0] 3)
  simpa using h
 have r6:w3.heap[b6]?=some (.cells #[.int .i64 0] 26 (0,0)):=by
  rw [hw3,hb6];refine (((Br _ _).alloc (lr _) _).block _ (by simp)).trans ?_;have h:=hA_ ((w.alloc (.cells #[.int .i64 0,.int .i64 0,.string ⟨#[]⟩,.slice none 0 0] 25)).alloc (.cells #[.int .i64 0] 3)) (.cells #[.int .i64 0] 26)
  simpa using h
 have hrd:Rdr w3 R A n c i 0:=by
  rw [hw3,hR];have h:=hA_ (((w.alloc (.cells #[.int .i64 0,.int .i64 0,.string ⟨#[]⟩,.slice none 0 0] 25)).alloc (.cells #[.int .i64 0] 3)).alloc (.cells #[.int .i64 0] 26)) (.cells #[.slice A n c,.int .i64 (i:Nat),.int .i64 0] 135);unfold Rdr
  simpa using h
 have hbel:Below w.heap.size w w3:=by
  rw [hw3];exact ((((Br _ _).alloc (lr _) _).alloc (by simp) _).alloc (by simp;omega) _).alloc (by simp;omega) _
 have hsz3:w3.heap.size=R+1:=by rw [hw3,hR];simp
 have hwR:w.heap.size≤b4∧w.heap.size≤b5∧w.heap.size≤b6∧w.heap.size≤R:=by omega
 have hb3:b4<w3.heap.size∧b5<w3.heap.size∧b6<w3.heap.size:=by omega
 obtain ⟨r,hr⟩:=ex_ ((lvl l 256).term i)
 have hcall:Calls Tryz.prog 67 #[.pointer (some ⟨R,0,none⟩)] w3 (PQ R A c 0 l i r w3):=by
  rw [hr];exact (plevels R A c l 256 0 (by omega)).term i w3 (by rw [←HN.out];exact hi) (by rw [←HN.out];exact hrd) (HT.out.pt hbel (by omega)) trivial
 have HRE:Hid (F=TkQ l w (tkOf i r)):=by show _=_;rw [HF.out,hr];rfl
 have HGD:Hid (∀ t j,r=.ok t j→Gd l i t j):=fun t j h=>(lvl_gd l 256).term i t j (by rw [←hr];exact h);have HC:=Hd hcall;have HR4:=Hd r4;have HR5:=Hd r5;have HR6:=Hd r6;have HBEL:=Hd hbel;clear hb4 hb5 hb6 hR hw3 r4 r5 r6 hrd hbel hcall hr HF;refine (HC.out).mono ?_;intro e w4 hq
 rcases r with ⟨j,x⟩ | ⟨t,j⟩
 · obtain ⟨rfl,ho4⟩:=hq;have HO4:=Hd ho4;have q4:=(ho4.block b4 hb3.1 n4R).trans HR4.out;have q5:=(ho4.block b5 hb3.2.1 n5R).trans HR5.out;have q6:=(ho4.block b6 hb3.2.2 n6R).trans HR6.out;have hs4:=ho4.size;obtain ⟨WW,hWW⟩:=ex_ ((((((((w4.alloc (.cells #[.int .i64 (j:Nat),.int .i64 x] 130)).drew.setCell ⟨b4,0,none⟩ (.int .i64 0)).setCell ⟨b4,1,none⟩ (.int .i64 0)).setCell ⟨b4,2,none⟩ (.string ⟨#[]⟩)).setCell ⟨b4,3,none⟩ (.slice none 0 0)).setCell ⟨b5,0,none⟩ (.int .i64 (j:Nat))).setCell ⟨b6,0,none⟩ (.int .i64 x)));have hpan:=ptake1_panic b4 b5 b6 j x w4 _ _ _ _ _ _ q4 q5 q6 n45 n46 n56;rw [←hWW] at hpan;have HPAN:=Hd hpan;have h4a:(w4.alloc (.cells #[.int .i64 (j:Nat),.int .i64 x] 130)).drew.heap[b4]?=some (.cells #[.int .i64 0,.int .i64 0,.string ⟨#[]⟩,.slice none 0 0] 25 (0,0)):=aK (W:=w4) q4
   have h4f:WW.heap[b4]?=some (.cells #[.int .i64 0,.int .i64 0,.string ⟨#[]⟩,.slice none 0 0] 25 (0,0)):=by
    rw [hWW,hO_ _ ⟨b6,0,none⟩ b4 _ n46,hO_ _ ⟨b5,0,none⟩ b4 _ n45];exact res4 h4a
   have h5a:(w4.alloc (.cells #[.int .i64 (j:Nat),.int .i64 x] 130)).drew.heap[b5]?=some (.cells #[.int .i64 0] 3 (0,0)):=aK (W:=w4) q5;have h6a:(w4.alloc (.cells #[.int .i64 (j:Nat),.int .i64 x] 130)).drew.heap[b6]?=some (.cells #[.int .i64 0] 26 (0,0)):=aK (W:=w4) q6
   have h5f:WW.heap[b5]?=some (.cells #[.int .i64 (j:Nat)] 3 (0,0)):=by
    rw [hWW,hO_ _ ⟨b6,0,none⟩ b5 _ n56];exact set1 ((sets4_far (fun e=>n45 e.symm)).trans h5a)
   have h6f:WW.heap[b6]?=some (.cells #[.int .i64 x] 26 (0,0)):=by
    rw [hWW];refine set1 (u:=.int .i64 0) ?_;rw [hO_ _ ⟨b5,0,none⟩ b6 _ (fun e=>n56 e.symm)];exact (sets4_far (fun e=>n46 e.symm)).trans h6a
   have HWWf:Hid (Below w.heap.size w WW):=by
    show Below _ _ _;have o4:Only (fun q=>w.heap.size≤q) w w4:=(Ob HBEL.out).trans (HO4.out.mono (fun q h=>by show w.heap.size≤q;omega));have o5:Only (fun q=>w.heap.size≤q) w (w4.alloc (.cells #[.int .i64 (j:Nat),.int .i64 x] 130)).drew:=(o4.trans (Ob ((Br _ _).alloc (lr _) _))).drewN 1;rw [hWW];exact ((((((o5.setF hwR.1 _).setF hwR.1 _).setF hwR.1 _).setF hwR.1 _).setF hwR.2.1 _).setF hwR.2.2.1 _).below (fun q h=>h) (lr _)
   clear hWW hpan q4 q5 q6 ho4 h4a h5a h6a;refine leaves_cons (f:=66) (args:=#[.pointer (some ⟨b4,0,none⟩),.pointer (some ⟨b5,0,none⟩),.pointer (some ⟨b6,0,none⟩)]) (by simp) (by simp [go_sem]) ?_;refine (HPAN.out).mono ?_;rintro e u' w'' ⟨rfl,rfl,rfl⟩;obtain ⟨y0,y1,y2,y3,-⟩:=qPrsU4 h4f;have y5:=(cells1 h5f).1;have y6:=(cells1 h6f).1;clear h4f h5f h6f HPAN;simp [Leaves,settle,caught,results,Tryz.results32,go_sem,y0,y1,y2,y3,y5,y6];rw [HRE.out];exact ⟨none,0,rfl,TmVS.leaf (zl _),HWWf.out⟩
 · obtain ⟨⟨A',c',rfl,hV⟩,hij,hjl,hR4,ho4⟩:=hq;have HGD2:=Hd (HGD.out t j rfl);have HO4:=Hd ho4;have q4:=(ho4.block b4 hb3.1 n4R).trans HR4.out;have q5:=(ho4.block b5 hb3.2.1 n5R).trans HR5.out;have q6:=(ho4.block b6 hb3.2.2 n6R).trans HR6.out;have hs4:=ho4.size;obtain ⟨n2,hn2⟩:=ex_ t.kids.length;have HN2:=Hd hn2;have hb44:b4<w4.heap.size:=by omega
   obtain ⟨w5,hw5⟩:=ex_ ((((w4.setCell ⟨b4,0,none⟩ (.int .i64 t.op)).setCell ⟨b4,1,none⟩ (.int .i64 t.num)).setCell ⟨b4,2,none⟩ (.string t.name)).setCell ⟨b4,3,none⟩ (.slice A' n2 c'));have HB5:Hid (w5.heap[b4]?=some (.cells #[.int .i64 t.op,.int .i64 t.num,.string t.name,.slice A' n2 c'] 25 (0,0))):=by show _=_;rw [hw5];exact res4 q4
   have HV5:Hid (TmVS (fun q=>w3.heap.size≤q) w5 A' c' t):=by
    show TmVS _ _ _ _ _;rw [hw5];exact hV.keep ((((KeepS.refl.set (by omega) _).set (by omega) _).set (by omega) _).set (by omega) _) (fun _ _ h=>h)
   have HR5a:Hid (w5.heap[b5]?=some (.cells #[.int .i64 0] 3 (0,0))):=by show _=_;rw [hw5];exact (sets4_far (fun e=>n45 e.symm)).trans q5
   have HR6a:Hid (w5.heap[b6]?=some (.cells #[.int .i64 0] 26 (0,0))):=by show _=_;rw [hw5];exact (sets4_far (fun e=>n46 e.symm)).trans q6
   have HRDa:Hid (w5.cell? ⟨R,1,none⟩=some (.int .i64 (j:Nat))):=by
    show _=_;rw [hw5,cF_ _ _ _ _ n4R,cF_ _ _ _ _ n4R,cF_ _ _ _ _ n4R,cF_ _ _ _ _ n4R];exact hR4.c1
   have HO5:Hid (Only (fun q=>w.heap.size≤q) w w5):=by
    show Only _ _ _;rw [hw5];exact (((((Ob HBEL.out).trans (ho4.mono (fun q h=>by show w.heap.size≤q;omega))).setF hwR.1 _).setF hwR.1 _).setF hwR.1 _).setF hwR.1 _
   have hs5:w5.heap.size=w4.heap.size:=by rw [hw5];simp
   have hlt5:R<w4.heap.size:=hR4.lt;obtain ⟨y0,y1,y2,y3,pq⟩:=qPrsU4 q4;have HW5:=Hd hw5;unfold Tm.val;rw [←hn2];have hck:=check_any t A' c' w5 HV5.out.toV (by have:=HGD2.out.sz;have:=HGD2.out.jl;have:=HGD2.out.ij;rw [←HN.out] at *;omega);unfold Tm.val at hck;rw [←hn2] at hck;have HCK:=Hd hck;clear hw5 q4 q5 q6 ho4 hV hR4 hn2 hck;go_wp2_with fail;rw [←HW5.out];clear y0 y1 y2 y3 pq;obtain ⟨y0,y1,y2,y3,pq⟩:=qPrsU4 HB5.out;(try go_wp2_with fail);refine (HCK.out).mono ?_;rintro e w6 ⟨rfl,hb6⟩;have hs6:=hb6.size;have hb45:b4<w5.heap.size:=by omega
   have HV6:Hid (TmVS (fun q=>w3.heap.size≤q) w6 A' c' t):=HV5.out.keep (Kb hb6) (fun _ _ h=>h);have HB6:=Hd ((hb6.block b4 hb45).trans HB5.out);have HR5b:=Hd ((hb6.block b5 (by omega)).trans HR5a.out);have HR6b:=Hd ((hb6.block b6 (by omega)).trans HR6a.out);have HRDb:=Hd ((hb6.cell (p:=⟨R,1,none⟩) (by show R<_;omega)).trans HRDa.out);have HO6:=Hd (HO5.out.trans (Ob hb6));clear hb6 HCK y0 y1 y2 y3 pq;obtain ⟨y0,y1,y2,y3,pq⟩:=qPrsU4 HB6.out;obtain ⟨y5,p5⟩:=cells1 HR5b.out;obtain ⟨y6,p6⟩:=cells1 HR6b.out
   by_cases hz:t.check=0
   · have HRE2:Hid (F=TkQ l w (t,j,0)):=by show _=_;rw [HRE.out];show TkQ l w (if t.check=0 then (t,j,0) else (zeroTm,i,t.check))=_;rw [iP hz]
     rw [hz];clear hz;go_wp2_with fail;obtain ⟨wd,hwd⟩:=ex_ w6.drew;have hB:wd.heap[b4]?=some (.cells #[.int .i64 t.op,.int .i64 t.num,.string t.name,.slice A' n2 c'] 25 (0,0)):=by rw [hwd];exact HB6.out
     have hRD:wd.cell? ⟨R,1,none⟩=some (.int .i64 (j:Nat)):=by rw [hwd];exact HRDb.out
     have h5r:wd.heap[b5]?=some (.cells #[.int .i64 0] 3 (0,0)):=by rw [hwd];exact HR5b.out
     have h6r:wd.heap[b6]?=some (.cells #[.int .i64 0] 26 (0,0)):=by rw [hwd];exact HR6b.out
     have HO7:Hid (Only (fun q=>w.heap.size≤q) w wd):=by show Only _ _ _;rw [hwd];exact HO6.out.drewN 1
     have HV7:Hid (TmVS (fun q=>w3.heap.size≤q) wd A' c' t):=by show TmVS _ _ _ _ _;rw [hwd];exact HV6.out.keep ⟨lr _,fun _ _ _=>rfl⟩ (fun _ _ h=>h)
     have HH5 := Lib.hid h5r;have HH6 := Lib.hid h6r;clear y0 y1 y2 y3 pq y5 p5 y6 p6;obtain ⟨y5, p5⟩ := cells1 h5r;obtain ⟨y6, p6⟩ := cells1 h6r;clear h5r h6r;have HQD := Lib.hid (fun (k : Nat) (hk : 7 ≤ k) (cc : List PanicEntry) (a : Act) (w : World) (v : Value) (h : bodyPostD Tryz.prog Tryz.f32 F (.panic cc) (a.put (some k) v) w) => (leaves_tmps (take_results a.tmps v hk) _ _ _ h : bodyPostD Tryz.prog Tryz.f32 F (.panic cc) a w));refine wp_region_held_drew (S := fun w' => w'.heap[b4]? = some (.cells #[.int .i64 t.op, .int .i64 t.num, .string t.name, .slice A' n2 c'] 25 (0, 0)) ∧ w'.cell? ⟨R, 1, none⟩ = some (.int .i64 (j : Nat))) (by kernel_rfl) (by rw [← hwd]; exact ⟨hB, hRD⟩) (fun hHeld => ?_);rw [← hwd] at hHeld ⊢;clear hwd hB hRD;refine wpAnyH_take (i := 0) (oi := { dst := some 33, op := Op.load 25 (Operand.tmp 4), type := 25, pos := "ttext.go:364", after := #[], guard := none }) (v := ?_) rfl (by kernel_rfl) (by kernel_rfl) (by kernel_rfl) (fun c a w h => HQD.out 33 (by decide) c a w _ h) (Or.inl ⟨by rfl, ?hy⟩) (by assumption) ?_
     case hy=>
      intro w0 hSw;obtain ⟨e0,e1,e2,e3,-⟩:=qPrsU4 hSw.1;have e4:=hSw.2;clear hSw;go_simp
      (first | done | with_reducible rfl)
     (try simp only [Act.put, sAr, sZe, sSu]);refine wpAnyH_take (i := 1) (oi := { dst := some 34, op := Op.move (Operand.tmp 7), type := 131, pos := "ttext.go:364", after := #[], guard := none }) (v := ?_) rfl (by kernel_rfl) (by kernel_rfl) (by kernel_rfl) (fun c a w h => HQD.out 34 (by decide) c a w _ h) (Or.inl ⟨by rfl, ?hy⟩) (by assumption) ?_
     case hy=>
      intro w0 hSw;obtain ⟨e0,e1,e2,e3,-⟩:=qPrsU4 hSw.1;have e4:=hSw.2;clear hSw;go_simp
      (first | done | with_reducible rfl)
     (try simp only [Act.put, sAr, sZe, sSu]);refine wpAnyH_take (i := 2) (oi := { dst := some 35, op := Op.nilCheck (Operand.tmp 34), type := 0, pos := "ttext.go:364", after := #[{ on := 1, ground := Ground.data }], guard := none }) (v := ?_) rfl (by kernel_rfl) (by kernel_rfl) (by kernel_rfl) (fun c a w h => HQD.out 35 (by decide) c a w _ h) (Or.inl ⟨by rfl, ?hy⟩) (by assumption) ?_
     case hy=>
      intro w0 hSw;obtain ⟨e0,e1,e2,e3,-⟩:=qPrsU4 hSw.1;have e4:=hSw.2;clear hSw;go_simp
      (first | done | with_reducible rfl)
     (try simp only [Act.put, sAr, sZe, sSu]);refine wpAnyH_take (i := 3) (oi := { dst := some 36, op := Op.fieldAddr 135 (Operand.tmp 35) 0, type := 0, pos := "ttext.go:364", after := #[{ on := 2, ground := Ground.data }], guard := none }) (v := ?_) rfl (by kernel_rfl) (by kernel_rfl) (by kernel_rfl) (fun c a w h => HQD.out 36 (by decide) c a w _ h) (Or.inl ⟨by rfl, ?hy⟩) (by assumption) ?_
     case hy=>
      intro w0 hSw;obtain ⟨e0,e1,e2,e3,-⟩:=qPrsU4 hSw.1;have e4:=hSw.2;clear hSw;go_simp
      (first | done | with_reducible rfl)
     (try simp only [Act.put, sAr, sZe, sSu]);refine wpAnyH_take (i := 4) (oi := { dst := some 37, op := Op.fieldAddr 133 (Operand.tmp 36) 1, type := 0, pos := "ttext.go:364", after := #[{ on := 3, ground := Ground.data }], guard := none }) (v := ?_) rfl (by kernel_rfl) (by kernel_rfl) (by kernel_rfl) (fun c a w h => HQD.out 37 (by decide) c a w _ h) (Or.inl ⟨by rfl, ?hy⟩) (by assumption) ?_
     case hy=>
      intro w0 hSw;obtain ⟨e0,e1,e2,e3,-⟩:=qPrsU4 hSw.1;have e4:=hSw.2;clear hSw;go_simp
      (first | done | with_reducible rfl)
     (try simp only [Act.put, sAr, sZe, sSu]);refine wpAnyH_take (i := 5) (oi := { dst := some 38, op := Op.load 3 (Operand.tmp 37), type := 3, pos := "ttext.go:364", after := #[{ on := 4, ground := Ground.data }], guard := none }) (v := ?_) rfl (by kernel_rfl) (by kernel_rfl) (by kernel_rfl) (fun c a w h => HQD.out 38 (by decide) c a w _ h) (Or.inl ⟨by rfl, ?hy⟩) (by assumption) ?_
     case hy=>
      intro w0 hSw;obtain ⟨e0,e1,e2,e3,-⟩:=qPrsU4 hSw.1;have e4:=hSw.2;clear hSw;go_simp
      (first | done | with_reducible rfl)
     (try simp only [Act.put,sAr,sZe,sSu]);refine Rd (rs:=[6]) (by kernel_rfl) (by simp) ?_;refine Rc rfl (fun K hK=>?_) Rn;obtain ⟨y0,y1,y2,y3,pq⟩:=qPrsU4 hHeld.1;go_simp;clear y0 y1 y2 y3 pq;refine hK.out _ _ ⟨res4 hHeld.1,by rw [cF_ _ _ _ _ n4R,cF_ _ _ _ _ n4R,cF_ _ _ _ _ n4R,cF_ _ _ _ _ n4R];exact hHeld.2⟩ (fun hHeld=>?_);clear hK K;(try simp only [Act.put,sAr,sZe,sSu]);obtain ⟨WA,HWA⟩:=exh_ (((((wd.setCell ⟨b4,0,none⟩ (.int .i64 t.op)).setCell ⟨b4,1,none⟩ (.int .i64 t.num)).setCell ⟨b4,2,none⟩ (.string t.name)).setCell ⟨b4,3,none⟩ (.slice A' n2 c')));rw [←HWA.out] at hHeld ⊢;have y5A:WA.cell? ⟨b5,0,none⟩=some (.int .i64 0):=by rw [HWA.out,cF_ _ _ _ _ n45,cF_ _ _ _ _ n45,cF_ _ _ _ _ n45,cF_ _ _ _ _ n45];exact y5
     have p5A:WA.frozen? ⟨b5,0,none⟩=false:=by rw [HWA.out];simpa [World.frozen?_setCell] using p5
     have y6A:WA.cell? ⟨b6,0,none⟩=some (.int .i64 0):=by rw [HWA.out,cF_ _ _ _ _ n46,cF_ _ _ _ _ n46,cF_ _ _ _ _ n46,cF_ _ _ _ _ n46];exact y6
     have p6A:WA.frozen? ⟨b6,0,none⟩=false:=by rw [HWA.out];simpa [World.frozen?_setCell] using p6
     have HB7:=Hd hHeld.1;clear y5 p5 y6 p6;refine Rd (rs:=[7]) (by kernel_rfl) (by simp) ?_;refine Rc rfl (fun K hK=>?_) Rn;go_simp;refine hK.out _ _ ⟨(hO_ _ ⟨b5,0,none⟩ b4 _ n54).trans hHeld.1,by rw [cF_ _ _ _ _ n5R];exact hHeld.2⟩ (fun hHeld=>?_);clear hK K;(try simp only [Act.put,sAr,sZe,sSu]);refine Rd (rs:=[8]) (by kernel_rfl) (by simp) ?_;refine Rc rfl (fun K hK=>?_) Rn;go_simp;refine hK.out _ _ ⟨(hO_ _ ⟨b6,0,none⟩ b4 _ n64).trans hHeld.1,by rw [cF_ _ _ _ _ n6R];exact hHeld.2⟩ (fun hHeld=>?_);clear hK K;(try simp only [Act.put,sAr,sZe,sSu]);refine wpAnyH_done (by kernel_rfl) ?_ _;clear hHeld y5A p5A y6A p6A;(try clear y0 y1 y2 y3 pq);go_wp2_with fail;obtain ⟨WW,hWW⟩:=ex_ ((WA.setCell ⟨b5,0,none⟩ (.int .i64 (j:Nat))).setCell ⟨b6,0,none⟩ (.int .i64 0))
     have h4f:WW.heap[b4]?=some (.cells #[.int .i64 t.op,.int .i64 t.num,.string t.name,.slice A' n2 c'] 25 (0,0)):=by
      rw [hWW,hO_ _ ⟨b6,0,none⟩ b4 _ n46,hO_ _ ⟨b5,0,none⟩ b4 _ n45];exact HB7.out
     have h5f:WW.heap[b5]?=some (.cells #[.int .i64 (j:Nat)] 3 (0,0)):=by
      rw [hWW,hO_ _ ⟨b6,0,none⟩ b5 _ n56];refine set1 (u:=.int .i64 0) ?_;rw [HWA.out];exact (sets4_far (fun e=>n45 e.symm)).trans HH5.out
     have h6f:WW.heap[b6]?=some (.cells #[.int .i64 0] 26 (0,0)):=by
      rw [hWW];refine set1 (u:=.int .i64 0) ?_;rw [hO_ _ ⟨b5,0,none⟩ b6 _ (fun e=>n56 e.symm),HWA.out];exact (sets4_far (fun e=>n46 e.symm)).trans HH6.out
     have HWWf:Hid (Below w.heap.size w WW):=by
      show Below _ _ _;rw [hWW,HWA.out];exact ((((((HO7.out.setF hwR.1 _).setF hwR.1 _).setF hwR.1 _).setF hwR.1 _).setF hwR.2.1 _).setF hwR.2.2.1 _).below (fun q h=>h) (lr _)
     have HVF:Hid (TmVS (fun q=>w3.heap.size≤q) WW A' c' t):=by
      show TmVS _ _ _ _ _;rw [hWW,HWA.out];exact HV7.out.keep ((((((KeepS.refl.set (by omega) _).set (by omega) _).set (by omega) _).set (by omega) _).set (by omega) _).set (by omega) _) (fun _ _ h=>h)
     rw [←hWW];clear hWW;refine leaves_cons (f:=66) (args:=#[.pointer (some ⟨b4,0,none⟩),.pointer (some ⟨b5,0,none⟩),.pointer (some ⟨b6,0,none⟩)]) (by simp) (by simp [go_sem]) ?_;refine (ptake1_idle b4 b5 b6 WW).mono ?_;rintro e u' w'' ⟨rfl,rfl,hww⟩;rw [hww];clear hww;obtain ⟨y0,y1,y2,y3,-⟩:=qPrsU4 h4f;have y5:=(cells1 h5f).1;have y6:=(cells1 h6f).1;clear h4f h5f h6f;simp [Leaves,settle,results,Tryz.results32,go_sem,y0,y1,y2,y3,y5,y6];rw [HRE2.out];exact ⟨A',c',by unfold Tm.val;rw [←HN2.out],HVF.out.keep Kr (fun q _ h=>by omega),HWWf.out⟩
   · have HRE2:Hid (F=TkQ l w (zeroTm,i,t.check)):=by show _=_;rw [HRE.out];show TkQ l w (if t.check=0 then (t,j,0) else (zeroTm,i,t.check))=_;rw [iN hz]
     obtain ⟨zz,HZZ⟩:=exh_ t.check;rw [←HZZ.out] at hz ⊢;have hzb:(zz != 0)=true:=by simpa using hz
     go_wp2_with fail;obtain ⟨WW,hWW⟩:=ex_ ((((((w6.setCell ⟨b4,0,none⟩ (.int .i64 0)).setCell ⟨b4,1,none⟩ (.int .i64 0)).setCell ⟨b4,2,none⟩ (.string ⟨#[]⟩)).setCell ⟨b4,3,none⟩ (.slice none 0 0)).setCell ⟨b5,0,none⟩ (.int .i64 (i:Nat))).setCell ⟨b6,0,none⟩ (.int .i64 zz));clear y0 y1 y2 y3 pq y5 p5 y6 p6
     have h4f:WW.heap[b4]?=some (.cells #[.int .i64 0,.int .i64 0,.string ⟨#[]⟩,.slice none 0 0] 25 (0,0)):=by
      rw [hWW,hO_ _ ⟨b6,0,none⟩ b4 _ n46,hO_ _ ⟨b5,0,none⟩ b4 _ n45];exact res4 HB6.out
     have h5f:WW.heap[b5]?=some (.cells #[.int .i64 (i:Nat)] 3 (0,0)):=by
      rw [hWW,hO_ _ ⟨b6,0,none⟩ b5 _ n56];exact set1 ((sets4_far (fun e=>n45 e.symm)).trans HR5b.out)
     have h6f:WW.heap[b6]?=some (.cells #[.int .i64 zz] 26 (0,0)):=by
      rw [hWW];refine set1 (u:=.int .i64 0) ?_;rw [hO_ _ ⟨b5,0,none⟩ b6 _ (fun e=>n56 e.symm)];exact (sets4_far (fun e=>n46 e.symm)).trans HR6b.out
     have HWWf:Hid (Below w.heap.size w WW):=by
      show Below _ _ _;rw [hWW];exact ((((((HO6.out.setF hwR.1 _).setF hwR.1 _).setF hwR.1 _).setF hwR.1 _).setF hwR.2.1 _).setF hwR.2.2.1 _).below (fun q h=>h) (lr _)
     rw [←hWW];clear hWW;refine leaves_cons (f:=66) (args:=#[.pointer (some ⟨b4,0,none⟩),.pointer (some ⟨b5,0,none⟩),.pointer (some ⟨b6,0,none⟩)]) (by simp) (by simp [go_sem]) ?_;refine (ptake1_idle b4 b5 b6 WW).mono ?_;rintro e u' w'' ⟨rfl,rfl,hww⟩;rw [hww];clear hww;obtain ⟨y0,y1,y2,y3,-⟩:=qPrsU4 h4f;have y5:=(cells1 h5f).1;have y6:=(cells1 h6f).1;clear h4f h5f h6f;simp [Leaves,settle,results,Tryz.results32,go_sem,y0,y1,y2,y3,y5,y6];rw [HRE2.out,←HZZ.out];exact ⟨none,0,rfl,TmVS.leaf (zl _),HWWf.out⟩
set_option linter.unusedSectionVars false
inductive Fm where
 | mk (op:Int) (e:Tm) (kids:List Fm):Fm
namespace Fm
def op:Fm→Int | mk o _ _=>o
def tm:Fm→Tm | mk _ t _=>t
def kids:Fm→List Fm | mk _ _ l=>l
end Fm
mutual
def Fm.size:Fm→Nat
 | .mk _ _ l=>1+Fm.sizeL l
def Fm.sizeL:List Fm→Nat
 | []=>0
 | t :: r=>t.size+Fm.sizeL r
end
theorem Fm.sizeL_mem:∀ {l:List Fm} {t:Fm},t∈l→t.size≤Fm.sizeL l
 | x :: r,t,h=>by
  rcases List.mem_cons.1 h with rfl | h
  · rw [Fm.sizeL];omega
  · have:=Fm.sizeL_mem h;rw [Fm.sizeL];omega
mutual
def hasNext:Tm→Bool
 | .mk o _ _ l=>decide (o=4) || hasNextL l
def hasNextL:List Tm→Bool
 | []=>false
 | t :: r=>hasNext t || hasNextL r
end
def fkids (op:Int):Int:=
 if op=1 then 0 else if op=2∨op=6∨op=7∨op=8∨op=10∨op=11∨op=12 then 1 else if op=3∨op=4∨op=5∨op=9∨op=13 then 2 else -1
def bareB (t:Tm):Bool:=decide (t.op=0) && decide (t.num=0) && decide (t.name.size=0) && decide (t.kids.length=0)
def ftermE (f:Fm):Int:=if f.op=1 then (if f.tm.check=0 then (if hasNext f.tm=true then 24 else 0) else f.tm.check) else 0
def fstepE (f:Fm) (d n:Nat):Int:=
 if 64<d then 17 else if fkids f.op<0 then 11 else if ftermE f≠0 then ftermE f
 else if (f.kids.length:Int)≠fkids f.op∨(f.op≠1∧bareB f.tm=false) then 3 else if 4096<n+1 then 4 else 0
section
variable {σ:Type} (step:σ→Fm→Nat→σ×Bool)
mutual
def eachF:Fm→Nat→σ→σ×Bool
 | .mk o e l,d,x=>match step x (.mk o e l) d with
  | (y,true)=>eachL l (d+1) y
  | (y,false)=>(y,false)
def eachL:List Fm→Nat→σ→σ×Bool
 | [],_,x=>(x,true)
 | t :: r,d,x=>match eachF t d x with
  | (y,true)=>eachL r d y
  | (y,false)=>(y,false)
end
end
theorem eachF_eq {σ:Type} (step:σ→Fm→Nat→σ×Bool) (t:Fm) (d:Nat) (x:σ):eachF step t d x=if (step x t d).2=true then eachL step t.kids (d+1) (step x t d).1 else ((step x t d).1,false):=by
 cases t with
 | mk o e l=>
  rw [eachF]
  cases h:step x (.mk o e l) d with
  | mk y b=>cases b <;> rfl
def fchkStep (x:Int×Nat) (f:Fm) (d:Nat):(Int×Nat)×Bool:=((fstepE f d x.2,x.2+1),decide (fstepE f d x.2=0))
def Fm.check (f:Fm):Int:=(eachF fchkStep f 1 (0,0)).1.1
mutual
def Fm.okT:Fm→Nat→Prop
 | .mk o e l,d=>d≤64∧(∃ n,fstepE (.mk o e l) d n=0)∧Fm.okL l (d+1)
def Fm.okL:List Fm→Nat→Prop
 | [],_=>True
 | t :: r,d=>t.okT d∧Fm.okL r d
end
mutual
theorem fchk_spec:∀ (t:Fm) (d:Nat) (x:Int×Nat),((eachF fchkStep t d x).2=true→t.okT d∧(eachF fchkStep t d x).1=(0,x.2+t.size)∧x.2+t.size≤4096)∧((eachF fchkStep t d x).2=false→(eachF fchkStep t d x).1.1≠0)
 | .mk o e l,d,x=>by
  rw [eachF_eq,Fm.okT,Fm.size]
  by_cases h0:fstepE (.mk o e l) d x.2=0
  · have hs:fchkStep x (.mk o e l) d=((0,x.2+1),true):=by unfold fchkStep;rw [h0];rfl
    have h1:d≤64∧x.2+1≤4096:=by
     unfold fstepE at h0
     by_cases a:64<d
     · rw [iP a] at h0;cases h0
     rw [iN a] at h0
     by_cases b:fkids (Fm.mk o e l).op<0
     · rw [iP b] at h0;cases h0
     rw [iN b] at h0
     by_cases c:ftermE (Fm.mk o e l)≠0
     · rw [iP c] at h0;exact absurd h0 c
     rw [iN c] at h0
     by_cases c2:((Fm.mk o e l).kids.length:Int)≠fkids (Fm.mk o e l).op∨((Fm.mk o e l).op≠1∧bareB (Fm.mk o e l).tm=false)
     · rw [iP c2] at h0;cases h0
     rw [iN c2] at h0
     by_cases c3:4096<x.2+1
     · rw [iP c3] at h0;cases h0
     omega
    have ih:=fchkL_spec l (d+1) (0,x.2+1) rfl (by simp only;omega);rw [hs];simp only [if_true,Fm.kids];refine ⟨fun h=>?_,fun h=>ih.2 h⟩;obtain ⟨i1,i2,i3⟩:=ih.1 h;simp only at i2 i3;exact ⟨⟨by omega,⟨_,h0⟩,i1⟩,by rw [i2,Nat.add_assoc],by omega⟩
  · have hs:fchkStep x (.mk o e l) d=((fstepE (.mk o e l) d x.2,x.2+1),false):=by unfold fchkStep;rw [dF h0]
    rw [hs];exact ⟨(fun h=>by cases h),fun _=>h0⟩
theorem fchkL_spec:∀ (l:List Fm) (d:Nat) (x:Int×Nat),x.1=0→x.2≤4096→((eachL fchkStep l d x).2=true→Fm.okL l d∧(eachL fchkStep l d x).1=(0,x.2+Fm.sizeL l)∧x.2+Fm.sizeL l≤4096)∧((eachL fchkStep l d x).2=false→(eachL fchkStep l d x).1.1≠0)
 | [],d,x,h0,h1=>by
  rw [eachL,Fm.okL,Fm.sizeL];refine ⟨fun _=>⟨trivial,by rw [←h0];rfl,h1⟩,fun h=>by cases h⟩
 | t :: r,d,x,h0,h1=>by
  have ih:=fchk_spec t d x;rw [eachL,Fm.okL,Fm.sizeL]
  cases hw:eachF fchkStep t d x with
  | mk y b=>
   rw [hw] at ih
   cases b with
   | false=>exact ⟨(fun h=>by cases h),fun _=>ih.2 rfl⟩
   | true=>
    obtain ⟨i1,i2,i3⟩:=ih.1 rfl;simp only at i2;subst i2;have ih2:=fchkL_spec r d (0,x.2+t.size) rfl i3;refine ⟨fun h=>?_,fun h=>ih2.2 h⟩;obtain ⟨j1,j2,j3⟩:=ih2.1 h;simp only at j2 j3;exact ⟨⟨i1,j1⟩,by simp only;rw [j2,Nat.add_assoc],by omega⟩
end
theorem fcheck_ok {t:Fm} (h:t.check=0):t.okT 1∧t.size≤4096:=by
 have hs:=fchk_spec t 1 (0,0);unfold Fm.check at h
 cases hb:(eachF fchkStep t 1 (0,0)).2 with
 | false=>exact absurd h (hs.2 hb)
 | true=>
  obtain ⟨h1,_,h3⟩:=hs.1 hb;exact ⟨h1,by simpa using h3⟩
theorem fokL_mem:∀ {l:List Fm} {d:Nat} {t:Fm},Fm.okL l d→t∈l→t.okT d
 | x :: r,d,t,h,hm=>by
  rw [Fm.okL] at h
  rcases List.mem_cons.1 hm with rfl | hm
  · exact h.1
  · exact fokL_mem h.2 hm
theorem fstep_ok {f:Fm} {d n:Nat} (h0:fstepE f d n=0):0≤fkids f.op∧(f.kids.length:Int)=fkids f.op∧(f.op=1→f.tm.check=0∧hasNext f.tm=false):=by
 unfold fstepE at h0
 by_cases a:64<d
 · rw [iP a] at h0;cases h0
 rw [iN a] at h0
 by_cases b:fkids f.op<0
 · rw [iP b] at h0;cases h0
 rw [iN b] at h0
 by_cases c:ftermE f≠0
 · rw [iP c] at h0;exact absurd h0 c
 rw [iN c] at h0
 by_cases c2:(f.kids.length:Int)≠fkids f.op∨(f.op≠1∧bareB f.tm=false)
 · rw [iP c2] at h0;cases h0
 refine ⟨by omega,by omega,fun h1=>?_⟩;have c':ftermE f=0:=by omega
 unfold ftermE at c';rw [iP h1] at c'
 by_cases hc:f.tm.check=0
 · rw [iP hc] at c';refine ⟨hc,?_⟩
   cases hn:hasNext f.tm with
   | false=>rfl
   | true=>rw [hn] at c';cases c'
 · rw [iN hc] at c';exact absurd c' hc
theorem fokT_open {t:Fm} {d:Nat} (h:t.okT d):d≤64∧(0≤fkids t.op∧(t.kids.length:Int)=fkids t.op∧(t.op=1→t.tm.check=0∧hasNext t.tm=false))∧∀ k∈t.kids,k.okT (d+1):=by
 cases t with
 | mk o e l=>
  rw [Fm.okT] at h;obtain ⟨h1,⟨n,h2⟩,h3⟩:=h;exact ⟨h1,fstep_ok h2,fun k hk=>fokL_mem h3 hk⟩
abbrev FPar:=Nat→Rs Fm
structure FLvl where
 form:FPar
 unit:FPar
def fmOf (op:Int) (ks:List Fm):Fm:=.mk op zeroTm ks
def zeroFm:Fm:=.mk 0 zeroTm []
section
variable (l:List Tok)
def oneOp (i:Nat):Int:=
 if isTk l i 4 [33] then 2 else if isTk l i 3 [69,88] then 6 else if isTk l i 3 [69,70] then 7 else if isTk l i 3 [69,71] then 8 else if isTk l i 3 [65,88] then 10 else if isTk l i 3 [65,70] then 11 else if isTk l i 3 [65,71] then 12 else 0
def fInner (s:Option FPar) (i:Nat):Rs Fm:=match s with
 | none=>.bad i 17
 | some p=>p (i+1)
def untilB (s:Option FPar) (op:Int) (i:Nat):Rs Fm:=match s with
 | none=>.bad i 17
 | some p=>if isTk l (i+1) 4 [91] then (p (i+2)).then fun f j=>
  if isTk l j 3 [85] then (p (j+1)).then fun g k=>if isTk l k 4 [93] then .ok (fmOf op [f,g]) (k+1) else .bad k 16
  else .bad j 16
  else .bad (i+1) 16
def fTerm (i:Nat):Rs Fm:=if (takeT l (i+1)).2.2≠0 then .bad (takeT l (i+1)).2.1 (takeT l (i+1)).2.2 else if isTk l (takeT l (i+1)).2.1 4 [93] then .ok (.mk 1 (takeT l (i+1)).1 []) ((takeT l (i+1)).2.1+1) else .bad (takeT l (i+1)).2.1 16
def fUnitB (s:Option FLvl):FPar:=fun i=>
 if oneOp l i≠0 then (fInner (s.map FLvl.unit) i).then fun f j=>.ok (fmOf (oneOp l i) [f]) j
 else if isTk l i 3 [69] then untilB l (s.map FLvl.form) 9 i
 else if isTk l i 3 [65] then untilB l (s.map FLvl.form) 13 i
 else if isTk l i 4 [40] then (fInner (s.map FLvl.form) i).then fun f j=>if isTk l j 4 [41] then .ok f (j+1) else .bad j 16
 else if isTk l i 4 [91] then fTerm l i
 else .bad i 16
def rowL (op:Int) (sign:Bs) (part:FPar):Nat→Fm→Nat→Rs Fm
 | 0,f,i=>.ok f i
 | k+1,f,i=>if isTk l i 4 sign then (part (i+1)).then fun g j=>rowL op sign part k (fmOf op [f,g]) j else .ok f i
def rowB (op:Int) (sign:Bs) (part:FPar):FPar:=fun i=>(part i).then fun f j=>rowL l op sign part l.length f j
def fAnds (s:Option FLvl):FPar:=rowB l 3 [38] (fUnitB l s)
def fOrs (s:Option FLvl):FPar:=rowB l 4 [124] (fAnds l s)
def fFormB (s:Option FLvl):FPar:=fun i=>(fOrs l s i).then fun f j=>if isTk l j 4 [45,62] then (fInner (s.map FLvl.form) j).then fun g k=>.ok (fmOf 5 [f,g]) k else .ok f j
def flvl:Nat→FLvl
 | 0=>⟨fFormB l none,fUnitB l none⟩
 | r+1=>⟨fFormB l (some (flvl r)),fUnitB l (some (flvl r))⟩
def fsub:Nat→Option FLvl
 | 0=>none
 | r+1=>some (flvl l r)
theorem flvl_eq (r:Nat):flvl l r=⟨fFormB l (fsub l r),fUnitB l (fsub l r)⟩:=by cases r <;> rfl
def takeF (i:Nat):Fm×Nat×Int:=match (flvl l 256).form i with
 | .bad j e=>(zeroFm,j,e)
 | .ok f j=>if f.check=0 then (f,j,0) else (zeroFm,i,f.check)
end
def parseF (s:Bs):Fm×Int×Int:=
 if (all s).2.2≠0 then (zeroFm,(all s).2.1,(all s).2.2) else
 let l:=(all s).1
 let x:=takeF l 0
 if x.2.2≠0 then (zeroFm,atOf l s.length x.2.1,x.2.2) else if x.2.1<l.length then (zeroFm,atOf l s.length x.2.1,16) else (x.1,s.length,0)
end Go.Proofs.YtnbphgeepnknlaaGreatDoor
