/- Walk: ftext's reader.term. -/
import Derived.Test.YtkhoeoilamddaaaGreatDoorYFsM
namespace Go.Proofs.YtkhoeoilamddaaaGreatDoor
open Go.RowKit
set_option linter.unusedVariables false
set_option linter.unusedSimpArgs false
set_option maxRecDepth 100000
set_option maxHeartbeats 8000000
def XO:Oper:={dst:=some 7,op:=Op.move (Operand.tmp 0),type:=188,pos := "ftext.go:125",after:=#[],guard:=none}
def XQ:Oper:={dst:=some 8,op:=Op.nilCheck (Operand.tmp 7),type:=0,pos := "ftext.go:125",after:=#[{on:=0,ground:=Ground.data}],guard:=none}
def XR:Oper:={dst:=some 9,op:=Op.fieldAddr 192 (Operand.tmp 8) 0,type:=0,pos := "ftext.go:125",after:=#[{on:=1,ground:=Ground.data}],guard:=none}
def XT:Oper:={dst:=some 10,op:=Op.fieldAddr 190 (Operand.tmp 9) 0,type:=0,pos := "ftext.go:125",after:=#[{on:=2,ground:=Ground.data}],guard:=none}
def XU:Oper:={dst:=some 11,op:=Op.load 46 (Operand.tmp 10),type:=46,pos := "ftext.go:125",after:=#[{on:=3,ground:=Ground.data}],guard:=none}
def XW:Oper:={dst:=some 12,op:=Op.move (Operand.tmp 0),type:=188,pos := "ftext.go:125",after:=#[],guard:=none}
def X9:Oper:={dst:=some 13,op:=Op.nilCheck (Operand.tmp 12),type:=0,pos := "ftext.go:125",after:=#[{on:=5,ground:=Ground.data}],guard:=none}
def Ya:Oper:={dst:=some 14,op:=Op.fieldAddr 192 (Operand.tmp 13) 1,type:=0,pos := "ftext.go:125",after:=#[{on:=6,ground:=Ground.data}],guard:=none}
def Yb:Oper:={dst:=some 15,op:=Op.load 3 (Operand.tmp 14),type:=3,pos := "ftext.go:125",after:=#[{on:=7,ground:=Ground.data}],guard:=none}
def Yd:Oper:={dst:=some 16,op:=Op.binOp BinOp.add 3 (Operand.tmp 15) (Operand.const (Value.int IntKind.i64 1)) 3,type:=3,pos := "ftext.go:125",after:=#[{on:=8,ground:=Ground.data}],guard:=none}
def Rk:Oper:={dst:=some 17,op:=Op.call {callee:=Callee.value (Operand.func 81),args:=#[Operand.tmp 11,Operand.tmp 16],argTypes:=#[46,3]},type:=140,pos := "ftext.go:125",after:=#[{on:=4,ground:=Ground.data},{on:=9,ground:=Ground.data}],guard:=none}
def Rl:Oper:={dst:=some 6,op:=Op.move (Operand.tmp 17),type:=140,pos := "ftext.go:125",after:=#[{on:=10,ground:=Ground.data}],guard:=none}
def Rm:Oper:={dst:=some 18,op:=Op.extract (Operand.tmp 6) 0,type:=64,pos := "ftext.go:125",after:=#[{on:=11,ground:=Ground.data}],guard:=none}
def Ro:Oper:={dst:=some 19,op:=Op.extract (Operand.tmp 6) 1,type:=3,pos := "ftext.go:125",after:=#[{on:=11,ground:=Ground.data},{on:=16,ground:=Ground.gcOnly Departure.lateStores}],guard:=none}
def Rp:Oper:={dst:=some 20,op:=Op.extract (Operand.tmp 6) 2,type:=29,pos := "ftext.go:125",after:=#[{on:=11,ground:=Ground.data},{on:=17,ground:=Ground.gcOnly Departure.lateStores}],guard:=none}
def Rq:Oper:={dst:=some 3,op:=Op.alloc 64,type:=0,pos := "ftext.go:125",after:=#[],guard:=none}
def aaV:Oper:={dst:=none,op:=Op.store 64 (Operand.tmp 3) (Operand.tmp 18),type:=0,pos := "ftext.go:125",after:=#[{on:=15,ground:=Ground.data},{on:=12,ground:=Ground.data},{on:=10,ground:=Ground.chain},{on:=0,ground:=Ground.phase},{on:=1,ground:=Ground.phase},{on:=2,ground:=Ground.phase},{on:=3,ground:=Ground.phase},{on:=4,ground:=Ground.phase},{on:=5,ground:=Ground.phase},{on:=6,ground:=Ground.phase},{on:=7,ground:=Ground.phase},{on:=8,ground:=Ground.phase},{on:=9,ground:=Ground.phase},{on:=10,ground:=Ground.phase},{on:=11,ground:=Ground.phase},{on:=12,ground:=Ground.phase},{on:=13,ground:=Ground.textOnly Departure.lateStores},{on:=14,ground:=Ground.textOnly Departure.lateStores},{on:=15,ground:=Ground.phase}],guard:=none}
def Rt:Oper:={dst:=some 4,op:=Op.assign (Operand.tmp 19),type:=3,pos := "ftext.go:125",after:=#[{on:=13,ground:=Ground.data},{on:=16,ground:=Ground.chain},{on:=0,ground:=Ground.phase},{on:=1,ground:=Ground.phase},{on:=2,ground:=Ground.phase},{on:=3,ground:=Ground.phase},{on:=4,ground:=Ground.phase},{on:=5,ground:=Ground.phase},{on:=6,ground:=Ground.phase},{on:=7,ground:=Ground.phase},{on:=8,ground:=Ground.phase},{on:=9,ground:=Ground.phase},{on:=10,ground:=Ground.phase},{on:=11,ground:=Ground.phase},{on:=12,ground:=Ground.phase},{on:=13,ground:=Ground.phase},{on:=14,ground:=Ground.textOnly Departure.lateStores},{on:=15,ground:=Ground.phase},{on:=16,ground:=Ground.phase}],guard:=none}
def Ru:Oper:={dst:=some 5,op:=Op.assign (Operand.tmp 20),type:=29,pos := "ftext.go:125",after:=#[{on:=14,ground:=Ground.data},{on:=17,ground:=Ground.chain},{on:=0,ground:=Ground.phase},{on:=1,ground:=Ground.phase},{on:=2,ground:=Ground.phase},{on:=3,ground:=Ground.phase},{on:=4,ground:=Ground.phase},{on:=5,ground:=Ground.phase},{on:=6,ground:=Ground.phase},{on:=7,ground:=Ground.phase},{on:=8,ground:=Ground.phase},{on:=9,ground:=Ground.phase},{on:=10,ground:=Ground.phase},{on:=11,ground:=Ground.phase},{on:=12,ground:=Ground.phase},{on:=13,ground:=Ground.phase},{on:=14,ground:=Ground.phase},{on:=15,ground:=Ground.phase},{on:=16,ground:=Ground.phase},{on:=17,ground:=Ground.phase}],guard:=none}
theorem Ye(R:Nat)(A:Option Addr)(c d:Nat)(l:List Tok)(i:Nat)(w:World)(hi:i<l.length)(hR:kK w R A l.length c i d 0)(hP:iI w R A c l) :
 Calls Tryz.prog 197 #[.pointer (some ⟨R,0,none⟩)] w (xY R A c d l (Bz l i) w):=by
 obtain⟨w1,hw1⟩:=aj (w.alloc (.cells #[.int .i64 0,.int .i64 0,.int .i64 0,.string ⟨#[]⟩,.slice none 0 0,.slice none 0 0] 67));have hb1:=dz hw1;have hs1:w1.heap.size=w.heap.size+1:=by rw[hw1];simp
 have x1:w1.heap[w.heap.size]?=some (.cells #[.int .i64 0,.int .i64 0,.int .i64 0,.string ⟨#[]⟩,.slice none 0 0,.slice none 0 0] 67 (0,0)):=by rw[hw1];exact eu w _
 have sQ:=hR.below hb1 hR.lt;have hRl:=hR.lt;have hlen:=hP.len;have hcap:=hP.cap;have aQ:=hP.bU;unfold maxLen at aQ;obtain⟨n,hn⟩:=aj l.length;obtain⟨q,hq⟩:=aj (iU l (i+1))
 have JZ:Hid (∀W,Only (fun q=>q=R) w W→Calls Tryz.prog 81 #[.slice A n c,.int .i64 ((i:Int)+1)] W (VX l W q)):=by
  intro W ho;have qx:=hP.only ho
  have h:=Py l A c (i+1) W (by omega) ⟨qx.toks,qx.cap,qx.bU,qx.len,qx.txt,qx.rng,fun a ha=>by
   rcases qx.toks with h0|⟨b,off,h1,h2,h3⟩
   ·rw[h0]at hi;simp at hi
   ·rw[h1]at ha;cases ha;exact h2⟩
  rw[←hq,←hn]at h;exact h
 obtain⟨t,j,x⟩:=q;obtain⟨F,vU⟩:=aj (xY R A c d l (Bz l i) w);rw[←vU];have bE:Hid (F=xY R A c d l (if x≠0 then .bad j x else if ah l j 4 [93]=true then .ok (.mk 1 t []) (j+1)else .bad j 16) w):=by show _=_;rw[vU];unfold Bz;rw[←hq]
 have HQ:=Hd hq;have HN:=Hd hn;have HW1:=Hd hw1;have HO:Hid (Only (fun q=>q=R) w w1):=Ob hb1;have dQ:Hid (kK w1 R A n c i d 0):=by show kK _ _ _ _ _ _ _ _;rw[hn];exact sQ
 have HP:=Hd hP;have XB:=Hd x1;clear vU hw1 hb1 hR sQ hP x1 hq hs1;rw[←hn]at hi hlen hcap;clear hn;have hwr:IntKind.i64.wrap ((i:Int)+1)=(i:Int)+1:=IntWalk.i64_in _ (by omega);go_in;go_wp2_with fail;rw[←HW1];refine wp_region_held_drew (S:=fun w'=>kK w' R A n c i d 0) (by kernel_rfl) dQ (fun hHeld=>?_);obtain⟨Wc,hWc⟩:=aj w1.drew;have YB:Hid (Wc.heap[w.heap.size]?=some (.cells #[.int .i64 0,.int .i64 0,.int .i64 0,.string ⟨#[]⟩,.slice none 0 0,.slice none 0 0] 67 (0,0))):=by show _=_;rw[hWc];exact XB
 have YO:Hid (Only (fun q=>q=R) w Wc):=by show Only _ _ _;rw[hWc];exact HO.drewN 1
 have BF:Hid (kK Wc R A n c i d 0):=by show kK _ _ _ _ _ _ _ _;rw[hWc];exact dQ
 rw[←hWc]at hHeld⊢;clear hWc XB HO dQ;have XB:=YB;have HO:=YO;have dQ:=BF;clear YB YO BF;refine wpAnyH_take (i:=0) (oi:=XO) (v:=?_) rfl (by kernel_rfl) (by kernel_rfl) (by kernel_rfl) (fun _ _ _ h=>h) (Or.inl ⟨by rfl,?hy⟩) (by assumption) ?_
 case hy=>
  unfold XO;intro w0 hSw;obtain⟨c0,c1,-⟩:=q4 hSw;clear hSw;go_simp
  (first|done|with_reducible rfl)
 (try simp only[XO,Act.put,aT,aU,aV]);refine wpAnyH_take (i:=1) (oi:=XQ) (v:=?_) rfl (by kernel_rfl) (by kernel_rfl) (by kernel_rfl) (fun _ _ _ h=>h) (Or.inl ⟨by rfl,?hy⟩) (by assumption) ?_
 case hy=>
  unfold XQ;intro w0 hSw;obtain⟨c0,c1,-⟩:=q4 hSw;clear hSw;go_simp
  (first|done|with_reducible rfl)
 (try simp only[XQ,Act.put,aT,aU,aV]);refine wpAnyH_take (i:=2) (oi:=XR) (v:=?_) rfl (by kernel_rfl) (by kernel_rfl) (by kernel_rfl) (fun _ _ _ h=>h) (Or.inl ⟨by rfl,?hy⟩) (by assumption) ?_
 case hy=>
  unfold XR;intro w0 hSw;obtain⟨c0,c1,-⟩:=q4 hSw;clear hSw;go_simp
  (first|done|with_reducible rfl)
 (try simp only[XR,Act.put,aT,aU,aV]);refine wpAnyH_take (i:=3) (oi:=XT) (v:=?_) rfl (by kernel_rfl) (by kernel_rfl) (by kernel_rfl) (fun _ _ _ h=>h) (Or.inl ⟨by rfl,?hy⟩) (by assumption) ?_
 case hy=>
  unfold XT;intro w0 hSw;obtain⟨c0,c1,-⟩:=q4 hSw;clear hSw;go_simp
  (first|done|with_reducible rfl)
 (try simp only[XT,Act.put,aT,aU,aV]);refine wpAnyH_take (i:=4) (oi:=XU) (v:=?_) rfl (by kernel_rfl) (by kernel_rfl) (by kernel_rfl) (fun _ _ _ h=>h) (Or.inl ⟨by rfl,?hy⟩) (by assumption) ?_
 case hy=>
  unfold XU;intro w0 hSw;obtain⟨c0,c1,-⟩:=q4 hSw;clear hSw;go_simp
  (first|done|with_reducible rfl)
 (try simp only[XU,Act.put,aT,aU,aV]);refine wpAnyH_take (i:=5) (oi:=XW) (v:=?_) rfl (by kernel_rfl) (by kernel_rfl) (by kernel_rfl) (fun _ _ _ h=>h) (Or.inl ⟨by rfl,?hy⟩) (by assumption) ?_
 case hy=>
  unfold XW;intro w0 hSw;obtain⟨c0,c1,-⟩:=q4 hSw;clear hSw;go_simp
  (first|done|with_reducible rfl)
 (try simp only[XW,Act.put,aT,aU,aV]);refine wpAnyH_take (i:=6) (oi:=X9) (v:=?_) rfl (by kernel_rfl) (by kernel_rfl) (by kernel_rfl) (fun _ _ _ h=>h) (Or.inl ⟨by rfl,?hy⟩) (by assumption) ?_
 case hy=>
  unfold X9;intro w0 hSw;obtain⟨c0,c1,-⟩:=q4 hSw;clear hSw;go_simp
  (first|done|with_reducible rfl)
 (try simp only[X9,Act.put,aT,aU,aV]);refine wpAnyH_take (i:=7) (oi:=Ya) (v:=?_) rfl (by kernel_rfl) (by kernel_rfl) (by kernel_rfl) (fun _ _ _ h=>h) (Or.inl ⟨by rfl,?hy⟩) (by assumption) ?_
 case hy=>
  unfold Ya;intro w0 hSw;obtain⟨c0,c1,-⟩:=q4 hSw;clear hSw;go_simp
  (first|done|with_reducible rfl)
 (try simp only[Ya,Act.put,aT,aU,aV]);refine wpAnyH_take (i:=8) (oi:=Yb) (v:=?_) rfl (by kernel_rfl) (by kernel_rfl) (by kernel_rfl) (fun _ _ _ h=>h) (Or.inl ⟨by rfl,?hy⟩) (by assumption) ?_
 case hy=>
  unfold Yb;intro w0 hSw;obtain⟨c0,c1,-⟩:=q4 hSw;clear hSw;go_simp
  (first|done|with_reducible rfl)
 (try simp only[Yb,Act.put,aT,aU,aV]);refine wpAnyH_take (i:=9) (oi:=Yd) (v:=?_) rfl (by kernel_rfl) (by kernel_rfl) (by kernel_rfl) (fun _ _ _ h=>h) (Or.inl ⟨by rfl,?hy⟩) (by assumption) ?_
 case hy=>
  unfold Yd;intro w0 hSw;obtain⟨c0,c1,-⟩:=q4 hSw;clear hSw;go_simp
  (first|done|with_reducible rfl)
 (try simp only[Yd,Act.put,aT,aU,aV]);refine Rd (rs:=[10,15]) (by kernel_rfl) (by simp) ?_;refine Rc (o:=Rk) rfl (fun K hK=>?_) (Rc (o:=Rq) rfl (fun K hK=>?_) Rn)
 iterate 3
  all_goals first
   |(unfold Rk
     go_simp;(with_reducible refine(JZ.out _ HO.out).mono ?_);rintro e Wc ⟨A5,c5,rfl,hv5,hb5⟩;simp only[Tm.val];obtain⟨n5,EP⟩:=ak t.kids.length;rw[←EP];refine hK.out _ _ (dQ.below hb5 dQ.lt) (fun hHeld=>?_);clear hK K;try simp only[Act.put,aT,aU,aV]
     first
      |(have hx3:=(hb5.block b3 (lH X3)).trans X3
        have HV:Hid (aD (fun q=>w.heap.size<q∧q≠b3) Wc A5 c5 t):=hv5.keep Kr (fun q _ h=>by have:=lH X3;omega);clear X3;have X3:=Hd hx3
        clear hx3)
      |(have vH:Hid (aD (fun q=>w.heap.size<q) Wc A5 c5 t):=hv5.keep Kr (fun q _ h=>by have:=lH XB;omega))
     replace XB:=kX hb5 XB;replace HO:=Hd (HO.trans (Ob hb5));replace dQ:=Hd (dQ.below hb5 dQ.lt);clear hv5 hb5
     obtain⟨G7,-⟩:∃n:Nat,n=n:=⟨0,rfl⟩)
   |(unfold Rq
     go_simp;have hb5:Below Wc.heap.size Wc (Wc.alloc (.cells #[.int .i64 0,.int .i64 0,.string ⟨#[]⟩,.slice none 0 0] 64)):=(Br _ _).alloc (lr _) _;refine hK.out _ _ (dQ.below hb5 dQ.lt) (fun hHeld=>?_);clear hK K;(try simp only[Act.put,aT,aU,aV]);obtain⟨b3,hb3⟩:=aj Wc.heap.size;have tF:b3≠R:=by have:=dQ.lt;omega
     have Ew:w.heap.size<b3:=by have:=lH XB;omega
     first
      |(have hv1:aD (fun q=>w.heap.size<q∧q≠b3) (Wc.alloc (.cells #[.int .i64 0,.int .i64 0,.string ⟨#[]⟩,.slice none 0 0] 64)) A5 c5 t:=(vH.keep (S':=fun q=>w.heap.size<q∧q≠b3) Kr (fun q hq h=>⟨h,by omega⟩)).keep (Kb hb5) (fun _ _ h=>h)
        have HV:=Hd hv1
        clear vH hv1)
      |skip
     have X3:Hid ((Wc.alloc (.cells #[.int .i64 0,.int .i64 0,.string ⟨#[]⟩,.slice none 0 0] 64)).heap[b3]?=some (.cells #[.int .i64 0,.int .i64 0,.string ⟨#[]⟩,.slice none 0 0] 64 (0,0))):=by show _=_;rw[hb3];exact eu _ _
     replace XB:=kX hb5 XB;replace HO:=Hd (HO.trans (Ob hb5));replace dQ:=Hd (dQ.below hb5 dQ.lt);obtain⟨Wc,hV⟩:=aj (Wc.alloc (.cells #[.int .i64 0,.int .i64 0,.string ⟨#[]⟩,.slice none 0 0] 64));rw[←hV]at XB HO dQ X3 hHeld
     try rw[←hV]at HV
     rw[←hV,←hb3];clear hV hb3 hb5
     obtain⟨D15,-⟩:∃n:Nat,n=n:=⟨0,rfl⟩)
   |(unfold aaV
     obtain⟨v0,v1,v2,v3,bW⟩:=q4 X3;go_simp;clear v0 v1 v2 v3 bW;refine hK.out _ _ ((fH (Ne.symm tF)).trans dQ) (fun hHeld=>?_);clear hK K;try simp only[Act.put,aT,aU,aV]
     obtain⟨D16,-⟩:∃n:Nat,n=n:=⟨0,rfl⟩)
   |fail
  all_goals first
   |have:=T11
   |(have:=G7
     refine wpAnyH_take (i:=11) (oi:=Rl) (v:=?_) rfl (by kernel_rfl) (by kernel_rfl) (by kernel_rfl) (fun _ _ _ h=>h) (Or.inl ⟨by rfl,?hy⟩) (by assumption) ?_
     case hy=>
      unfold Rl;intro w0 hSw;obtain⟨c0,c1,-⟩:=q4 hSw;clear hSw;go_simp
      (first|done|with_reducible rfl)
     try simp only[Rl,Act.put,aT,aU,aV]
     obtain⟨T11,-⟩:∃n:Nat,n=n:=⟨0,rfl⟩)
   |skip
  all_goals first
   |have:=T12
   |(have:=G7
     refine wpAnyH_take (i:=12) (oi:=Rm) (v:=?_) rfl (by kernel_rfl) (by kernel_rfl) (by kernel_rfl) (fun _ _ _ h=>h) (Or.inl ⟨by rfl,?hy⟩) (by assumption) ?_
     case hy=>
      unfold Rm;intro w0 hSw;obtain⟨c0,c1,-⟩:=q4 hSw;clear hSw;go_simp
      (first|done|with_reducible rfl)
     try simp only[Rm,Act.put,aT,aU,aV]
     obtain⟨T12,-⟩:∃n:Nat,n=n:=⟨0,rfl⟩)
   |skip
  all_goals first
   |have:=T13
   |(have:=G7
     refine wpAnyH_take (i:=13) (oi:=Ro) (v:=?_) rfl (by kernel_rfl) (by kernel_rfl) (by kernel_rfl) (fun _ _ _ h=>h) (Or.inl ⟨by rfl,?hy⟩) (by assumption) ?_
     case hy=>
      unfold Ro;intro w0 hSw;obtain⟨c0,c1,-⟩:=q4 hSw;clear hSw;go_simp
      (first|done|with_reducible rfl)
     try simp only[Ro,Act.put,aT,aU,aV]
     obtain⟨T13,-⟩:∃n:Nat,n=n:=⟨0,rfl⟩)
   |skip
  all_goals first
   |have:=T14
   |(have:=G7
     refine wpAnyH_take (i:=14) (oi:=Rp) (v:=?_) rfl (by kernel_rfl) (by kernel_rfl) (by kernel_rfl) (fun _ _ _ h=>h) (Or.inl ⟨by rfl,?hy⟩) (by assumption) ?_
     case hy=>
      unfold Rp;intro w0 hSw;obtain⟨c0,c1,-⟩:=q4 hSw;clear hSw;go_simp
      (first|done|with_reducible rfl)
     try simp only[Rp,Act.put,aT,aU,aV]
     obtain⟨T14,-⟩:∃n:Nat,n=n:=⟨0,rfl⟩)
   |skip
  all_goals first
   |have:=T17
   |(have:=G7
     have:=D15;have:=D16;refine wpAnyH_take (i:=17) (oi:=Rt) (v:=?_) rfl (by kernel_rfl) (by kernel_rfl) (by kernel_rfl) (fun _ _ _ h=>h) (Or.inl ⟨by rfl,?hy⟩) (by assumption) ?_
     case hy=>
      unfold Rt;intro w0 hSw;obtain⟨c0,c1,-⟩:=q4 hSw;clear hSw;go_simp
      (first|done|with_reducible rfl)
     try simp only[Rt,Act.put,aT,aU,aV]
     obtain⟨T17,-⟩:∃n:Nat,n=n:=⟨0,rfl⟩)
   |skip
  all_goals first
   |have:=T18
   |(have:=G7
     have:=D15;have:=D16;refine wpAnyH_take (i:=18) (oi:=Ru) (v:=?_) rfl (by kernel_rfl) (by kernel_rfl) (by kernel_rfl) (fun _ _ _ h=>h) (Or.inl ⟨by rfl,?hy⟩) (by assumption) ?_
     case hy=>
      unfold Ru;intro w0 hSw;obtain⟨c0,c1,-⟩:=q4 hSw;clear hSw;go_simp
      (first|done|with_reducible rfl)
     try simp only[Ru,Act.put,aT,aU,aV]
     obtain⟨T18,-⟩:∃n:Nat,n=n:=⟨0,rfl⟩)
   |skip
  all_goals first
   |(have:=G7
     have:=D15;have:=D16;refine wpAnyH_done (by kernel_rfl) ?_ _;clear hHeld;obtain⟨w6,mV⟩:=aj (((((Wc.setCell ⟨b3,0,none⟩ (.int .i64 t.op)).setCell ⟨b3,1,none⟩ (.int .i64 t.num)).setCell ⟨b3,2,none⟩ (.string t.name)).setCell ⟨b3,3,none⟩ (.slice A5 n5 c5)));have X36:Hid (w6.heap[b3]?=some (.cells #[.int .i64 t.op,.int .i64 t.num,.string t.name,.slice A5 n5 c5] 64 (0,0))):=by show _=_;rw[mV];exact ni X3
     have XB6:Hid (w6.heap[w.heap.size]?=some (.cells #[.int .i64 0,.int .i64 0,.int .i64 0,.string ⟨#[]⟩,.slice none 0 0,.slice none 0 0] 67 (0,0))):=by show _=_;rw[mV];exact(fH (by omega)).trans XB
     have HV6:Hid (aD (fun q=>w.heap.size<q∧q≠b3) w6 A5 c5 t):=by show aD _ _ _ _ _;rw[mV];exact HV.keep ((((aR.refl.set (by simp) _).set (by simp) _).set (by simp) _).set (by simp) _) (fun _ _ h=>h)
     have Fy:Hid (Only (fun q=>q=R) w w6):=by show Only _ _ _;rw[mV];exact dZ (dZ (dZ (dZ HO (Nat.le_of_lt Ew) _) (Nat.le_of_lt Ew) _) (Nat.le_of_lt Ew) _) (Nat.le_of_lt Ew) _
     have abV:Hid (kK w6 R A n c i d 0):=by show kK _ _ _ _ _ _ _ _;rw[mV];exact(fH (Ne.symm tF)).trans dQ
     rw[←mV];clear mV X3 XB HV HO dQ;have XB:=XB6;have HO:=Fy;have HV:=HV6;have X3:=X36;obtain⟨-,c1,-,-,fq⟩:=q4 abV;have aju:=abV.lt;clear XB6 Fy HV6 X36
     by_cases hx:x=0
     ·subst hx;have hgd:=(wM HQ.symm).2.jl;have dJ:Hid (F=xY R A c d l (if ah l j 4 [93]=true then .ok (.mk 1 t []) (j+1)else .bad j 16) w):=by show _=_;rw[bE,iN (by simp)]
      have hgd2:j≤n:=by rw[HN];exact hgd
      go_wp2_with fail;clear c1 fq;obtain⟨w7,hw7⟩:=aj (w6.setCell ⟨R,1,none⟩ (.int .i64 (j:Nat)));have BF:Hid (kK w7 R A n c j d 0):=by show kK _ _ _ _ _ _ _ _;rw[hw7];exact abV.at_ j
      have YB:Hid (w7.heap[w.heap.size]?=some (.cells #[.int .i64 0,.int .i64 0,.int .i64 0,.string ⟨#[]⟩,.slice none 0 0,.slice none 0 0] 67 (0,0))):=by show _=_;rw[hw7];exact(iw w6 ⟨R,1,none⟩ w.heap.size _ (by show w.heap.size≠R;omega)).trans XB
      have Y3:Hid (w7.heap[b3]?=some (.cells #[.int .i64 t.op,.int .i64 t.num,.string t.name,.slice A5 n5 c5] 64 (0,0))):=by show _=_;rw[hw7];exact(iw w6 ⟨R,1,none⟩ b3 _ tF).trans X3
      have YV:Hid (aD (fun q=>w.heap.size<q∧q≠b3) w7 A5 c5 t):=by show aD _ _ _ _ _;rw[hw7];exact HV.keep (aR.refl.set (by omega) _) (fun _ _ h=>h)
      have YO:Hid (Only (fun q=>q=R) w w7):=by show Only _ _ _;rw[hw7];exact HO.bq (show R=R from rfl) _
      rw[←hw7];clear hw7 XB X3 HV HO abV;have XB:=YB;have X3:=Y3;have HV:=YV;have HO:=YO;have dQ:=BF;clear YB Y3 YV YO BF;replace dQ:Hid (kK w7 R A l.length c j d 0):=by show kK _ _ _ _ _ _ _ _;rw[←HN];exact dQ
      have hwn:=zV R A c j d l 0 4 ⟨#[93]⟩ w7 dQ (HP.only HO) (by first|(intro _;omega)|(intro h;have:=zD h;omega));obtain⟨jw,VY⟩:=ak (jQ l (j) (0) 4 [93]);rw[show jQ l (j) (0) 4 (bs ⟨#[93]⟩)=jw from VY.symm]at hwn;have HC:=Hd hwn;clear hwn;go_wp2_with fail;refine HC.mono ?_;rintro e w8 ⟨rfl,hR2,ho2⟩;have YB:=Hd ((ho2.block w.heap.size (lH XB) (by omega)).trans XB);have YO:=Hd (HO.trans ho2);have BF:=Hd hR2;replace X3:=Hd ((ho2.block b3 (lH X3) tF).trans X3);replace HV:Hid (aD (fun q=>w.heap.size<q∧q≠b3) w8 A5 c5 t):=HV.keep (aR.cO ho2 (by omega)) (fun _ _ h=>h);clear HC hR2 ho2 XB HO dQ;have XB:=YB;have HO:=YO;have dQ:=BF;clear YB YO BF;have hvl:=lH XB;have alY:=lH X3;obtain⟨a0,a1,a2,a3,azq⟩:=q4 X3;obtain⟨v0,v1,v2,v3,v4,v5,bW⟩:=q6 XB;go_wp2_with fail;clear v0 bW v1 v2 v3 v4 v5 a0 a1 a2 a3 azq;obtain⟨W0,hW0⟩:=aj (((((((w8.setCell ⟨w.heap.size,0,none⟩ (.int .i64 1)).setCell ⟨w.heap.size,1,none⟩ (.int .i64 t.op)).setCell ⟨w.heap.size,2,none⟩ (.int .i64 t.num)).setCell ⟨w.heap.size,3,none⟩ (.string t.name)).setCell ⟨w.heap.size,4,none⟩ (.slice A5 n5 c5)).setCell ⟨w.heap.size,5,none⟩ (.slice none 0 0)))
      have xb0:W0.heap[w.heap.size]?=some (.cells #[.int .i64 1,.int .i64 t.op,.int .i64 t.num,.string t.name,.slice A5 n5 c5,.slice none 0 0] 67 (0,0)):=by rw[hW0];exact jD XB
      have hR0:kK W0 R A l.length c jw.1 d jw.2:=by rw[hW0];exact(jH (by omega)).trans dQ
      have hO0:Only (fun q=>q=R) w W0:=by rw[hW0];exact o9 HO (lr _)
      have hV0:aD (fun q=>w.heap.size≤q) W0 A5 c5 t:=by rw[hW0];exact HV.keep (mO Kr (by omega)) (fun q _ h=>by omega)
      rw[←hW0];clear hW0;refine bR (Ki xb0) rfl ?_;rw[dJ];have hw:jw=jQ l j 0 4 [93]:=VY;unfold jQ at hw;rw[iN (by simp)]at hw;refine⟨⟨1,t.op,t.num,t.name,A5,n5,c5,none,0,0⟩,rfl,fun f k h=>?_,?_,hO0⟩
      ·by_cases h4:ah l j 4 [93]=true
       ·rw[iP h4]at h;obtain⟨rfl,-⟩:=bH h;exact⟨rfl,rfl,rfl,rfl,EP,rfl,hV0,lr _,zl _,.inl rfl⟩
       ·rw[iN h4]at h;cases h
      ·by_cases h4:ah l j 4 [93]=true
       ·rw[iP h4]at hw⊢;rw[hw]at hR0;exact hR0
       ·rw[iN h4]at hw⊢;rw[hw]at hR0;exact hR0
     ·have dJ:Hid (F=xY R A c d l (.bad j x) w):=by show _=_;rw[bE,iP hx]
      have hxb:(x != 0)=true:=by simpa using hx
      clear hx;go_wp2_with fail;clear c1 fq;obtain⟨w7,hw7⟩:=aj (w6.setCell ⟨R,1,none⟩ (.int .i64 (j:Nat)));have BF:Hid (kK w7 R A n c j d 0):=by show kK _ _ _ _ _ _ _ _;rw[hw7];exact abV.at_ j
      have YB:Hid (w7.heap[w.heap.size]?=some (.cells #[.int .i64 0,.int .i64 0,.int .i64 0,.string ⟨#[]⟩,.slice none 0 0,.slice none 0 0] 67 (0,0))):=by show _=_;rw[hw7];exact(iw w6 ⟨R,1,none⟩ w.heap.size _ (by show w.heap.size≠R;omega)).trans XB
      have Y3:Hid (w7.heap[b3]?=some (.cells #[.int .i64 t.op,.int .i64 t.num,.string t.name,.slice A5 n5 c5] 64 (0,0))):=by show _=_;rw[hw7];exact(iw w6 ⟨R,1,none⟩ b3 _ tF).trans X3
      have YV:Hid (aD (fun q=>w.heap.size<q∧q≠b3) w7 A5 c5 t):=by show aD _ _ _ _ _;rw[hw7];exact HV.keep (aR.refl.set (by omega) _) (fun _ _ h=>h)
      have YO:Hid (Only (fun q=>q=R) w w7):=by show Only _ _ _;rw[hw7];exact HO.bq (show R=R from rfl) _
      rw[←hw7];clear hw7 XB X3 HV HO abV;have XB:=YB;have X3:=Y3;have HV:=YV;have HO:=YO;have dQ:=BF;clear YB Y3 YV YO BF;have HST:=Hd (DX R A n c j d x w7 dQ);refine HST.mono ?_;rintro e w8 ⟨rfl,hR8,FJ⟩;unfold FV.val FV.zero;simp only;have Y8:=Hd ((FJ.block w.heap.size (lH XB) (by omega)).trans XB);have HR8:=Hd hR8;have HO8:=Hd (HO.trans FJ);have hvl:=lH Y8;clear hR8 FJ XB;obtain⟨v0,v1,v2,v3,v4,v5,bW⟩:=q6 Y8;go_wp2_with fail;clear v0 bW v1 v2 v3 v4 v5;refine bR (Ki (jD Y8)) rfl ?_;rw[dJ];have hRf:=HR8.out;rw[HN]at hRf
      exact CJ (r:=.bad j x) (fun f j h=>nomatch h) hRl hRf HO8 _ _ _ _ _ _)
   |(have:=G7
     have:=D15;refine Rd (rs:=[16]) (by kernel_rfl) (by simp) ?_
     refine Rc (o:=aaV) rfl (fun K hK=>?_) Rn)
   |(have:=G7
     refine Rd (rs:=[15]) (by kernel_rfl) (by simp) ?_
     refine Rc (o:=Rq) rfl (fun K hK=>?_) Rn)
   |(have:=D15
     refine Rd (rs:=[10]) (by kernel_rfl) (by simp) ?_
     refine Rc (o:=Rk) rfl (fun K hK=>?_) Rn)
   |fail
end Go.Proofs.YtkhoeoilamddaaaGreatDoor
