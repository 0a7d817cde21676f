/- Walks and plain words: MwF MwG. -/
import Derived.Test.YtkhoeoilamddaaaGreatDoorVMtL
import Derived.Test.YtkhoeoilamddaaaGreatDoorWMsB
namespace Go.Proofs.YtkhoeoilamddaaaGreatDoor
open Go.RowKit
set_option linter.unusedVariables false
set_option maxRecDepth 100000
def elLen:El→Nat
 | .var _=>4
 | .defs _=>5
 | .init _=>4
 | .invar _=>4
 | .next _=>5
 | .trans _=>4
 | .fair _=>4
 | .spec _=>7
theorem TmC.len {S:Nat→Prop} {w:World} {cs:List Value} {t:Tm} (h:TmC S w cs t):cs.length=4:=by
 obtain ⟨A,c,rfl,-⟩:=h
 rfl
theorem ElC.len {S:Nat→Prop} {w:World} {cs:List Value} {e:El} (h:ElC S w cs e):cs.length=elLen e:=by
 cases e with
 | var v=>rw [show cs=_ from h];rfl
 | defs d=>obtain ⟨r,rfl,h2⟩:=h;rw [List.length_cons,h2.len];rfl
 | next d=>obtain ⟨r,rfl,h2⟩:=h;rw [List.length_cons,h2.len];rfl
 | init t=>exact TmC.len h
 | invar t=>exact TmC.len h
 | trans t=>exact TmC.len h
 | fair t=>exact TmC.len h
 | spec d=>obtain ⟨x,rfl,-⟩:=h;rfl
theorem RowE.get {S:Nat→Prop} {w:World}:∀ {cs:List (List Value)} {es:List El} {j:Nat} {e:El},RowE S w cs es→es[j]?=some e→∃ c,cs[j]?=some c∧ElC S w c e
 | c :: cs,e' :: es,0,e,h,hj=>by
  simp at hj;subst hj;exact ⟨c,rfl,h.1⟩
 | c :: cs,e' :: es,j+1,e,h,hj=>RowE.get (cs:=cs) (es:=es) (j:=j) h.2 (by simpa using hj)
 | [],[],_,_,_,hj=>by simp at hj
 | [],_ :: _,_,_,h,_=>h.elim
 | _ :: _,[],_,_,h,_=>h.elim
theorem RowE.lens {S:Nat→Prop} {w:World} {s:Nat}:∀ {cs:List (List Value)} {es:List El},RowE S w cs es→(∀ e∈es,elLen e=s)→∀ c∈cs,c.length=s
 | c :: cs,e :: es,h,hl,c',hc=>by
  rcases List.mem_cons.1 hc with rfl | hc
  · rw [h.1.len];exact hl e (by simp)
  · exact RowE.lens h.2 (fun e he=>hl e (List.mem_cons_of_mem _ he)) c' hc
 | [],_,_,_,_,hc=>by simp at hc
 | _ :: _,[],h,_,_,_=>h.elim
theorem flat_at {s:Nat}:∀ {X:List (List Value)} {j i:Nat} {c:List Value},(∀ c∈X,c.length=s)→X[j]?=some c→i<s→X.flatten[j*s+i]?=c[i]?
 | x :: X,0,i,c,hl,hj,hi=>by
  simp at hj;subst hj;rw [List.flatten_cons,Nat.zero_mul,Nat.zero_add,List.getElem?_append_left (by rw [hl x (by simp)];exact hi)]
 | x :: X,j+1,i,c,hl,hj,hi=>by
  have hx:=hl x (by simp);rw [List.flatten_cons,List.getElem?_append_right (by rw [hx,Nat.succ_mul];omega),hx,show (j+1)*s+i - s=j*s+i by rw [Nat.succ_mul];omega];exact flat_at (fun c hc=>hl c (List.mem_cons_of_mem _ hc)) (by simpa using hj) hi
 | [],_,_,_,_,hj,_=>by simp at hj
theorem tmAt_cells {S:Nat→Prop} {w:World} {cs:List Value} {g o:Nat} {t:Tm} (h:TmC S w cs t) (hc:∀ i v,cs[i]?=some v→w.cell? ⟨g,o+i,none⟩=some v):TmAt w g o t:=by
 obtain ⟨A,c,rfl,hv⟩:=h;exact TmAt.mk (hc 0 _ rfl) (hc 1 _ rfl) (hc 2 _ rfl) (hc 3 _ rfl) hv.toV
theorem dfAt_cells {S:Nat→Prop} {w:World} {cs:List Value} {g o:Nat} {d:Df} (h:∃ r,cs=.string d.name :: r∧TmC S w r d.tm) (hc:∀ i v,cs[i]?=some v→w.cell? ⟨g,o+i,none⟩=some v):DfAt w g o d:=by
 obtain ⟨r,rfl,h2⟩:=h;exact ⟨hc 0 _ rfl,tmAt_cells h2 fun i v hi=>by rw [Nat.add_assoc,Nat.add_comm 1 i];exact hc (i+1) v (by simpa using hi)⟩
theorem vrAt_cells {S:Nat→Prop} {w:World} {cs:List Value} {g o:Nat} {x:Vr} (hx:ElC S w cs (.var x)) (hc:∀ i v,cs[i]?=some v→w.cell? ⟨g,o+i,none⟩=some v):VrAt w g o x:=by
 have hx:cs=[.string x.name,.bool x.bool,.int .i64 x.lo,.int .i64 x.hi]:=hx;subst hx;exact ⟨hc 0 _ rfl,hc 1 _ rfl,hc 2 _ rfl,hc 3 _ rfl⟩
theorem spAt_cells {S:Nat→Prop} {w:World} {cs:List Value} {g o:Nat} {x:Sp} (hx:ElC S w cs (.spec x)) (hc:∀ i v,cs[i]?=some v→w.cell? ⟨g,o+i,none⟩=some v):SpAt w g o x:=by
 obtain ⟨y,rfl,hy⟩:=hx;have h1:=hc 1 _ rfl;have h2:=hc 2 _ rfl;have h3:=hc 3 _ rfl;have h4:=hc 4 _ rfl;have h5:=hc 5 _ rfl;have h6:=hc 6 _ rfl;rw [hy.o] at h1;rw [hy.tn] at h2;rw [hy.tm] at h3;rw [hy.s] at h4;rw [hy.ne] at h5;rw [hy.n] at h6;exact ⟨hc 0 _ rfl,FmAt.mk h1 h2 h3 h4 h5 h6 hy.v.toV⟩
theorem rowV_of {α:Type} {At:World→Nat→Nat→α→Prop} {s k n B:Nat} {f:α→El} {l:List α} {w:World} {v:Value} {XX:List (List Value)} {S:Nat→Prop} (hown:w.ownsRow B (mT k) (mS k) v n XX.flatten) (hn:n=l.length) (hrow:RowE S w XX (l.map f)) (hs:mS k=s) (hL:∀ x,elLen (f x)=s)
 (hAt:∀ S cs g o x,ElC S w cs (f x)→(∀ i v,cs[i]?=some v→w.cell? ⟨g,o+i,none⟩=some v)→At w g o x):RowV At s w v l:=by
 rw [hs] at hown
 rcases hown.2 with ⟨h3,h4⟩ | ⟨g,cap,cur,h3,hB,hgg,h5,h6,-⟩
 · exact ⟨none,0,by rw [h3,←hn,h4],by omega,zl _,.inl (List.eq_nil_of_length_eq_zero (by omega))⟩
 · rw [h3] at hown;refine ⟨some ⟨g,0,none⟩,cap,by rw [h3,hn],by omega,h6,.inr ⟨g,0,rfl,lH hgg,fun j x hj=>?_⟩⟩;obtain ⟨c,hc,he⟩:=hrow.get (j:=j) (e:=f x) (by rw [List.getElem?_map,hj];rfl);refine hAt _ c g _ x he (fun i v hi=>?_);have hi':i<s:=by rw [←hL x,←he.len];exact (gE.1 hi).1
   have hj':j<l.length:=(gE.1 hj).1
   have hb:j*s+i<n*s:=by
    rw [hn];exact lL (Nat.add_lt_add_left hi' _) (by rw [←Nat.succ_mul];exact Nat.mul_le_mul_right s hj')
   rw [Nat.zero_add,hown.cellAt (j*s+i) hb,flat_at (fun c hc=>hrow.lens (fun e he=>by obtain ⟨y,-,rfl⟩:=List.mem_map.1 he;exact hL y) c hc) hc hi'];exact hi
theorem mdIn_rows {w:World} {B:Nat} {U:Nat→Value} {nn:Nat→Nat} {XX:Nat→List (List Value)} {G:Nat→List El} {S:Nat→Prop} {m:Md} (hown:∀ k,k<8→w.ownsRow B (mT k) (mS k) (U k) (nn k) (XX k).flatten) (hn:∀ k,k<8→nn k=(G k).length) (hrow:∀ k,k<8→RowE S w (XX k) (G k)) (hg:GMd G m):MdIn w U m:=by
 obtain ⟨g0,g1,g2,g3,g4,g5,g6,g7⟩:=hg
 have key:∀ {α:Type} (k:Nat) (hk:k<8) {f:α→El} {l:List α} (hG:G k=l.map f) {At:World→Nat→Nat→α→Prop} {s:Nat} (hs:mS k=s) (hL:∀ x,elLen (f x)=s) (hAt:∀ S cs g o x,ElC S w cs (f x)→(∀ i v,cs[i]?=some v→w.cell? ⟨g,o+i,none⟩=some v)→At w g o x),RowV At s w (U k) l:=by
  intro α k hk f l hG At s hs hL hAt;exact rowV_of (hown k hk) (by rw [hn k hk,hG,List.length_map]) (hG ▸ hrow k hk) hs hL hAt
 refine ⟨key 0 (by decide) g0 rfl (fun _=>rfl) fun S cs g o x hx hc=>?_,key 1 (by decide) g1 rfl (fun _=>rfl) fun S cs g o x hx hc=>dfAt_cells hx hc,
  key 2 (by decide) g2 rfl (fun _=>rfl) fun S cs g o x hx hc=>tmAt_cells hx hc,key 3 (by decide) g3 rfl (fun _=>rfl) fun S cs g o x hx hc=>tmAt_cells hx hc,
  key 4 (by decide) g4 rfl (fun _=>rfl) fun S cs g o x hx hc=>dfAt_cells hx hc,key 5 (by decide) g5 rfl (fun _=>rfl) fun S cs g o x hx hc=>tmAt_cells hx hc,
  key 6 (by decide) g6 rfl (fun _=>rfl) fun S cs g o x hx hc=>tmAt_cells hx hc,key 7 (by decide) g7 rfl (fun _=>rfl) fun S cs g o x hx hc=>spAt_cells hx hc⟩
 exact vrAt_cells hx hc
theorem mdIn_of {w:World} {B R:Nat} {V:Nat→Value} {X:Nat→List (List Value)} {G:Nat→List El} {m:Md} (h:MAll w B R V X G) (hg:GMd G m):MdIn w V m:=mdIn_rows (fun k hk=>h.own k hk trivial) (fun _ _=>rfl) h.vals hg
set_option maxHeartbeats 8000000
abbrev qMwG8:=@q8
def exM:Md:=⟨[⟨⟨#[110]⟩,false,-1,2⟩],[],[],[],[⟨⟨#[110]⟩,tmNum 0⟩],[],[],[⟨⟨#[115]⟩,fmOf 7 [.mk 1 (tmOf 10 [tmName 3 [110],tmNum 1]) []]⟩]⟩
theorem ex34_parse:parseM (bs ⟨#[118,97,114,32,110,32,58,32,45,49,32,46,46,32,50,59,32,110,101,120,116,32,110,32,58,61,32,48,59,32,115,112,101,99,32,115,32,58,32,69,70,32,91,110,32,61,32,49,93,59]⟩)=(exM,50,0):=by kernel_rfl
theorem ex34_bad:parseM (bs ⟨#[105,110,105,116,32,116,114,117,101]⟩)=(zeroMd,9,16):=by kernel_rfl
theorem ex34_show:showM exM=([118,97,114,32,110,32,58,32,45,49,32,46,46,32,50,32,59,10,110,101,120,116,32,110,32,58,61,32,48,32,59,10,115,112,101,99,32,115,32,58,32,69,70,32,91,110,32,61,32,49,93,32,59,10],0):=by kernel_rfl
theorem ex34_names:NmOk exM:=⟨fun d h=>by simp [exM] at h;subst h;decide,fun d h=>by simp [exM] at h,fun d h=>by simp [exM] at h;subst h;decide,fun d h=>by simp [exM] at h;subst h;decide⟩
theorem lives34_any (hS:ShAll exM) (w:World) (hT:Tables w):Calls Tryz.prog 7 #[] w (SmQ w):=by
 obtain ⟨F,HF⟩:=exh_ (SmQ w);rw [←HF.out];have HT:=Hd hT;have HS:=Hd hS
 have HP1:Hid (Calls Tryz.prog 8 #[.string ⟨#[118,97,114,32,110,32,58,32,45,49,32,46,46,32,50,59,32,110,101,120,116,32,110,32,58,61,32,48,59,32,115,112,101,99,32,115,32,58,32,69,70,32,91,110,32,61,32,49,93,59]⟩] w (MpQ w (exM,50,0))):=by
  have h:=mparse_any ⟨#[118,97,114,32,110,32,58,32,45,49,32,46,46,32,50,59,32,110,101,120,116,32,110,32,58,61,32,48,59,32,115,112,101,99,32,115,32,58,32,69,70,32,91,110,32,61,32,49,93,59]⟩ w (by unfold maxLen;show 50≤_;omega) hT;rw [ex34_parse] at h;exact h
 clear hT hS;go_enter Tryz.func7,Tryz.ntmps7;go_wp2_with fail;refine (HP1.out).mono ?_;rintro e w1 ⟨V,X,G,B,R,rfl,hma,hgm,hB,hBR,hb⟩;have hmd:=mdIn_of hma hgm;simp only at hmd;simp only [mdVal];obtain ⟨A0,c0,e0,p0,q0,r0⟩:=hmd.vars;obtain ⟨A1,c1,e1,p1,q1,r1⟩:=hmd.defs;obtain ⟨A2,c2,e2,p2,q2,r2⟩:=hmd.init;obtain ⟨A3,c3,e3,p3,q3,r3⟩:=hmd.invar;obtain ⟨A4,c4,e4,p4,q4,r4⟩:=hmd.next;obtain ⟨A5,c5,e5,p5,q5,r5⟩:=hmd.trans;obtain ⟨A6,c6,e6,p6,q6,r6⟩:=hmd.fair;obtain ⟨A7,c7,e7,p7,q7,r7⟩:=hmd.specs;rw [show exM.vars.length=1 from rfl] at e0 p0;rw [show exM.defs.length=0 from rfl] at e1 p1;rw [show exM.init.length=0 from rfl] at e2 p2;rw [show exM.invar.length=0 from rfl] at e3 p3;rw [show exM.next.length=1 from rfl] at e4 p4;rw [show exM.trans.length=0 from rfl] at e5 p5;rw [show exM.fair.length=0 from rfl] at e6 p6;rw [show exM.specs.length=1 from rfl] at e7 p7;unfold maxLen at q0 q1 q2 q3 q4 q5 q6 q7;rw [e0,e1,e2,e3,e4,e5,e6,e7];obtain ⟨g,o,he,hgl,hrow⟩:=r0.resolve_left (by simp [exM]);have hv:=hrow 0 _ rfl;rw [Nat.zero_mul,Nat.add_zero] at hv;obtain ⟨x0,x1,x2,x3⟩:=hv;simp only at x0 x1 x2 x3;obtain ⟨b1,HBQ⟩:=exh_ w1.heap.size;obtain ⟨w2,HW2⟩:=exh_ (w1.alloc (.cells #[.slice A0 1 c0,.slice A1 0 c1,.slice A2 0 c2,.slice A3 0 c3,.slice A4 1 c4,.slice A5 0 c5,.slice A6 0 c6,.slice A7 1 c7] 28));have hb2:=bAl HW2.out;have X1:=nAl HW2.out HBQ.out
 have hsh:=mshow_any V exM w2 (hmd.below hb2) HS.out ex34_names ((HT.out.below (hb.trans (hb2.mono hb.size))).wordsT);rw [e0,e1,e2,e3,e4,e5,e6,e7,ex34_show] at hsh;have HSH:=Hd hsh;have HB:=Hd (hb.trans (hb2.mono hb.size));have hnv:=neq_var ⟨#[110]⟩ false (-1) 2;subst he;have hgn:g≠w1.heap.size:=by omega
 clear hma hgm hmd e0 e1 r1 e2 r2 e3 r3 e4 r4 e5 r5 e6 r6 e7 r7 hrow hb2 hsh hB hBR hb HP1;obtain ⟨v0,v1,v2,v3,v4,v5,v6,v7,-⟩:=qMwG8 X1.out;have l1:=lH X1.out;go_wp2_with fail;rw [←HW2.out]
 try rw [←HBQ.out]
 (try go_wp2_with fail);refine (HSH.out).mono ?_;rintro e w3 ⟨rfl,hb3⟩;have HB3:=kB HB hb3
 have HP2:Hid (Calls Tryz.prog 8 #[.string ⟨#[105,110,105,116,32,116,114,117,101]⟩] w3 (MpQ w3 (zeroMd,9,16))):=by
  have h:=mparse_any ⟨#[105,110,105,116,32,116,114,117,101]⟩ w3 (by unfold maxLen;show 9≤_;omega) (HT.out.below HB3.out);rw [ex34_bad] at h;exact h
 clear hb3 HSH v0 v1 v2 v3 v4 v5 v6 v7 l1 x0 x1 x2 x3;go_wp2_with fail;refine (HP2.out).mono ?_;rintro e w4 ⟨V,X,G,B,R,rfl,hma,hgm,hB,hBR,hb⟩;have hmd:=mdIn_of hma hgm;simp only at hmd;simp only [mdVal];obtain ⟨D0,d0,e0,-,-,-⟩:=hmd.vars;obtain ⟨D1,d1,e1,-,-,-⟩:=hmd.defs;obtain ⟨D2,d2,e2,-,-,-⟩:=hmd.init;obtain ⟨D3,d3,e3,-,-,-⟩:=hmd.invar;obtain ⟨D4,d4,e4,-,-,-⟩:=hmd.next;obtain ⟨D5,d5,e5,-,-,-⟩:=hmd.trans;obtain ⟨D6,d6,e6,-,-,-⟩:=hmd.fair;obtain ⟨D7,d7,e7,-,-,-⟩:=hmd.specs;rw [e0,e1,e2,e3,e4,e5,e6,e7];have HB4:=kB HB3 hb;clear e0 e1 e2 e3 e4 e5 e6 e7 hmd hma hgm hB hBR hb HP2;go_wp2_with fail;rw [HF.out];exact ⟨rfl,(kB HB4 (bAl rfl)).out⟩
end Go.Proofs.YtkhoeoilamddaaaGreatDoor
