/- Walks and plain words: FsD FsE. -/
import Derived.Test.YtkhoeoilamddaaaGreatDoorQFsM
namespace Go.Proofs.YtkhoeoilamddaaaGreatDoor
open Go.RowKit
set_option linter.unusedVariables false
set_option linter.unusedSimpArgs false
set_option maxRecDepth 100000
set_option maxHeartbeats 8000000
def XO:Oper:={dst:=some 7,op:=Op.move (Operand.tmp 0),type:=188,pos := "ftext.go:125",after:=#[],guard:=none}
def XQ:Oper:={dst:=some 8,op:=Op.nilCheck (Operand.tmp 7),type:=0,pos := "ftext.go:125",after:=#[{on:=0,ground:=Ground.data}],guard:=none}
def XR:Oper:={dst:=some 9,op:=Op.fieldAddr 192 (Operand.tmp 8) 0,type:=0,pos := "ftext.go:125",after:=#[{on:=1,ground:=Ground.data}],guard:=none}
def XT:Oper:={dst:=some 10,op:=Op.fieldAddr 190 (Operand.tmp 9) 0,type:=0,pos := "ftext.go:125",after:=#[{on:=2,ground:=Ground.data}],guard:=none}
def XU:Oper:={dst:=some 11,op:=Op.load 46 (Operand.tmp 10),type:=46,pos := "ftext.go:125",after:=#[{on:=3,ground:=Ground.data}],guard:=none}
def XW:Oper:={dst:=some 12,op:=Op.move (Operand.tmp 0),type:=188,pos := "ftext.go:125",after:=#[],guard:=none}
def X9:Oper:={dst:=some 13,op:=Op.nilCheck (Operand.tmp 12),type:=0,pos := "ftext.go:125",after:=#[{on:=5,ground:=Ground.data}],guard:=none}
def Ya:Oper:={dst:=some 14,op:=Op.fieldAddr 192 (Operand.tmp 13) 1,type:=0,pos := "ftext.go:125",after:=#[{on:=6,ground:=Ground.data}],guard:=none}
def Yb:Oper:={dst:=some 15,op:=Op.load 3 (Operand.tmp 14),type:=3,pos := "ftext.go:125",after:=#[{on:=7,ground:=Ground.data}],guard:=none}
def Yd:Oper:={dst:=some 16,op:=Op.binOp BinOp.add 3 (Operand.tmp 15) (Operand.const (Value.int IntKind.i64 1)) 3,type:=3,pos := "ftext.go:125",after:=#[{on:=8,ground:=Ground.data}],guard:=none}
def Rk:Oper:={dst:=some 17,op:=Op.call {callee:=Callee.value (Operand.func 81),args:=#[Operand.tmp 11,Operand.tmp 16],argTypes:=#[46,3]},type:=140,pos := "ftext.go:125",after:=#[{on:=4,ground:=Ground.data},{on:=9,ground:=Ground.data}],guard:=none}
def Rl:Oper:={dst:=some 6,op:=Op.move (Operand.tmp 17),type:=140,pos := "ftext.go:125",after:=#[{on:=10,ground:=Ground.data}],guard:=none}
def Rm:Oper:={dst:=some 18,op:=Op.extract (Operand.tmp 6) 0,type:=64,pos := "ftext.go:125",after:=#[{on:=11,ground:=Ground.data}],guard:=none}
def Ro:Oper:={dst:=some 19,op:=Op.extract (Operand.tmp 6) 1,type:=3,pos := "ftext.go:125",after:=#[{on:=11,ground:=Ground.data},{on:=16,ground:=Ground.gcOnly Departure.lateStores}],guard:=none}
def Rp:Oper:={dst:=some 20,op:=Op.extract (Operand.tmp 6) 2,type:=29,pos := "ftext.go:125",after:=#[{on:=11,ground:=Ground.data},{on:=17,ground:=Ground.gcOnly Departure.lateStores}],guard:=none}
def Rq:Oper:={dst:=some 3,op:=Op.alloc 64,type:=0,pos := "ftext.go:125",after:=#[],guard:=none}
def aaV:Oper:={dst:=none,op:=Op.store 64 (Operand.tmp 3) (Operand.tmp 18),type:=0,pos := "ftext.go:125",after:=#[{on:=15,ground:=Ground.data},{on:=12,ground:=Ground.data},{on:=10,ground:=Ground.chain},{on:=0,ground:=Ground.phase},{on:=1,ground:=Ground.phase},{on:=2,ground:=Ground.phase},{on:=3,ground:=Ground.phase},{on:=4,ground:=Ground.phase},{on:=5,ground:=Ground.phase},{on:=6,ground:=Ground.phase},{on:=7,ground:=Ground.phase},{on:=8,ground:=Ground.phase},{on:=9,ground:=Ground.phase},{on:=10,ground:=Ground.phase},{on:=11,ground:=Ground.phase},{on:=12,ground:=Ground.phase},{on:=13,ground:=Ground.textOnly Departure.lateStores},{on:=14,ground:=Ground.textOnly Departure.lateStores},{on:=15,ground:=Ground.phase}],guard:=none}
def Rt:Oper:={dst:=some 4,op:=Op.assign (Operand.tmp 19),type:=3,pos := "ftext.go:125",after:=#[{on:=13,ground:=Ground.data},{on:=16,ground:=Ground.chain},{on:=0,ground:=Ground.phase},{on:=1,ground:=Ground.phase},{on:=2,ground:=Ground.phase},{on:=3,ground:=Ground.phase},{on:=4,ground:=Ground.phase},{on:=5,ground:=Ground.phase},{on:=6,ground:=Ground.phase},{on:=7,ground:=Ground.phase},{on:=8,ground:=Ground.phase},{on:=9,ground:=Ground.phase},{on:=10,ground:=Ground.phase},{on:=11,ground:=Ground.phase},{on:=12,ground:=Ground.phase},{on:=13,ground:=Ground.phase},{on:=14,ground:=Ground.textOnly Departure.lateStores},{on:=15,ground:=Ground.phase},{on:=16,ground:=Ground.phase}],guard:=none}
def Ru:Oper:={dst:=some 5,op:=Op.assign (Operand.tmp 20),type:=29,pos := "ftext.go:125",after:=#[{on:=14,ground:=Ground.data},{on:=17,ground:=Ground.chain},{on:=0,ground:=Ground.phase},{on:=1,ground:=Ground.phase},{on:=2,ground:=Ground.phase},{on:=3,ground:=Ground.phase},{on:=4,ground:=Ground.phase},{on:=5,ground:=Ground.phase},{on:=6,ground:=Ground.phase},{on:=7,ground:=Ground.phase},{on:=8,ground:=Ground.phase},{on:=9,ground:=Ground.phase},{on:=10,ground:=Ground.phase},{on:=11,ground:=Ground.phase},{on:=12,ground:=Ground.phase},{on:=13,ground:=Ground.phase},{on:=14,ground:=Ground.phase},{on:=15,ground:=Ground.phase},{on:=16,ground:=Ground.phase},{on:=17,ground:=Ground.phase}],guard:=none}
theorem Ye(R:Nat)(A:Option Addr)(c d:Nat)(l:List Tok)(i:Nat)(w:World)(hi:i<l.length)(hR:kK w R A l.length c i d 0)(hP:iI w R A c l) :
 Calls Tryz.prog 197 #[.pointer (some ⟨R,0,none⟩)] w (xY R A c d l (Bz l i) w):=by
 obtain⟨w1,hw1⟩:=aj (w.alloc (.cells #[.int .i64 0,.int .i64 0,.int .i64 0,.string ⟨#[]⟩,.slice none 0 0,.slice none 0 0] 67));have hb1:=dz hw1;have bo:w1.heap.size=w.heap.size+1:=by rw[hw1];simp
 have x1:w1.heap[w.heap.size]?=some (.cells #[.int .i64 0,.int .i64 0,.int .i64 0,.string ⟨#[]⟩,.slice none 0 0,.slice none 0 0] 67 (0,0)):=by rw[hw1];exact eu w _
 have sQ:=hR.below hb1 hR.lt;have bk:=hR.lt;have hlen:=hP.len;have av:=hP.cap;have aQ:=hP.bU;unfold maxLen at aQ;obtain⟨n,hn⟩:=aj l.length;obtain⟨q,hq⟩:=aj (iU l (i+1))
 have JZ:Hid (∀W,Only (fun q=>q=R) w W→Calls Tryz.prog 81 #[.slice A n c,.int .i64 ((i:Int)+1)] W (VX l W q)):=by
  intro W ho;have qx:=hP.only ho
  have h:=Py l A c (i+1) W (by omega) ⟨qx.toks,qx.cap,qx.bU,qx.len,qx.txt,qx.rng,fun a ha=>by
   rcases qx.toks with h0|⟨b,off,h1,h2,h3⟩
   ·rw[h0]at hi;simp at hi
   ·rw[h1]at ha;cases ha;exact h2⟩
  rw[←hq,←hn]at h;exact h
 obtain⟨t,j,x⟩:=q;obtain⟨F,vU⟩:=aj (xY R A c d l (Bz l i) w);rw[←vU];have bE:Hid (F=xY R A c d l (if x≠0 then .bad j x else if ah l j 4 [93]=true then .ok (.mk 1 t []) (j+1)else .bad j 16) w):=by show _=_;rw[vU];unfold Bz;rw[←hq]
 have HQ:=Hd hq;have HN:=Hd hn;have a8:=Hd hw1;have HO:Hid (Only (fun q=>q=R) w w1):=Ob hb1;have J:Hid (kK w1 R A n c i d 0):=by show kK _ _ _ _ _ _ _ _;rw[hn];exact sQ
 have HP:=Hd hP;have I:=Hd x1;clear vU hw1 hb1 hR sQ hP x1 hq bo;rw[←hn]at hi hlen av;clear hn;have bw:IntKind.i64.wrap ((i:Int)+1)=(i:Int)+1:=IntWalk.i64_in _ (by omega);go_in;go_wp2_with fail;rw[←a8];refine wp_region_held_drew (S:=fun w'=>kK w' R A n c i d 0) (by kernel_rfl) J (fun O=>?_);obtain⟨Wc,af⟩:=aj w1.drew;have YB:Hid (Wc.heap[w.heap.size]?=some (.cells #[.int .i64 0,.int .i64 0,.int .i64 0,.string ⟨#[]⟩,.slice none 0 0,.slice none 0 0] 67 (0,0))):=by show _=_;rw[af];exact I
 have YO:Hid (Only (fun q=>q=R) w Wc):=by show Only _ _ _;rw[af];exact HO.drewN 1
 have BF:Hid (kK Wc R A n c i d 0):=by show kK _ _ _ _ _ _ _ _;rw[af];exact J
 rw[←af]at O⊢;clear af I HO J;have I:=YB;have HO:=YO;have J:=BF;clear YB YO BF;refine wpAnyH_take (i:=0) (oi:=XO) (v:=?_) rfl (by kernel_rfl) (by kernel_rfl) (by kernel_rfl) (fun _ _ _ h=>h) (Or.inl ⟨by rfl,?hy⟩) (by assumption) ?_
 case hy=>
  unfold XO;intro w0 D;obtain⟨c0,c1,-⟩:=q4 D;clear D;go_simp
  (first|done|with_reducible rfl)
 (try simp only[XO,Act.put,aT,aU,aV]);refine wpAnyH_take (i:=1) (oi:=XQ) (v:=?_) rfl (by kernel_rfl) (by kernel_rfl) (by kernel_rfl) (fun _ _ _ h=>h) (Or.inl ⟨by rfl,?hy⟩) (by assumption) ?_
 case hy=>
  unfold XQ;intro w0 D;obtain⟨c0,c1,-⟩:=q4 D;clear D;go_simp
  (first|done|with_reducible rfl)
 (try simp only[XQ,Act.put,aT,aU,aV]);refine wpAnyH_take (i:=2) (oi:=XR) (v:=?_) rfl (by kernel_rfl) (by kernel_rfl) (by kernel_rfl) (fun _ _ _ h=>h) (Or.inl ⟨by rfl,?hy⟩) (by assumption) ?_
 case hy=>
  unfold XR;intro w0 D;obtain⟨c0,c1,-⟩:=q4 D;clear D;go_simp
  (first|done|with_reducible rfl)
 (try simp only[XR,Act.put,aT,aU,aV]);refine wpAnyH_take (i:=3) (oi:=XT) (v:=?_) rfl (by kernel_rfl) (by kernel_rfl) (by kernel_rfl) (fun _ _ _ h=>h) (Or.inl ⟨by rfl,?hy⟩) (by assumption) ?_
 case hy=>
  unfold XT;intro w0 D;obtain⟨c0,c1,-⟩:=q4 D;clear D;go_simp
  (first|done|with_reducible rfl)
 (try simp only[XT,Act.put,aT,aU,aV]);refine wpAnyH_take (i:=4) (oi:=XU) (v:=?_) rfl (by kernel_rfl) (by kernel_rfl) (by kernel_rfl) (fun _ _ _ h=>h) (Or.inl ⟨by rfl,?hy⟩) (by assumption) ?_
 case hy=>
  unfold XU;intro w0 D;obtain⟨c0,c1,-⟩:=q4 D;clear D;go_simp
  (first|done|with_reducible rfl)
 (try simp only[XU,Act.put,aT,aU,aV]);refine wpAnyH_take (i:=5) (oi:=XW) (v:=?_) rfl (by kernel_rfl) (by kernel_rfl) (by kernel_rfl) (fun _ _ _ h=>h) (Or.inl ⟨by rfl,?hy⟩) (by assumption) ?_
 case hy=>
  unfold XW;intro w0 D;obtain⟨c0,c1,-⟩:=q4 D;clear D;go_simp
  (first|done|with_reducible rfl)
 (try simp only[XW,Act.put,aT,aU,aV]);refine wpAnyH_take (i:=6) (oi:=X9) (v:=?_) rfl (by kernel_rfl) (by kernel_rfl) (by kernel_rfl) (fun _ _ _ h=>h) (Or.inl ⟨by rfl,?hy⟩) (by assumption) ?_
 case hy=>
  unfold X9;intro w0 D;obtain⟨c0,c1,-⟩:=q4 D;clear D;go_simp
  (first|done|with_reducible rfl)
 (try simp only[X9,Act.put,aT,aU,aV]);refine wpAnyH_take (i:=7) (oi:=Ya) (v:=?_) rfl (by kernel_rfl) (by kernel_rfl) (by kernel_rfl) (fun _ _ _ h=>h) (Or.inl ⟨by rfl,?hy⟩) (by assumption) ?_
 case hy=>
  unfold Ya;intro w0 D;obtain⟨c0,c1,-⟩:=q4 D;clear D;go_simp
  (first|done|with_reducible rfl)
 (try simp only[Ya,Act.put,aT,aU,aV]);refine wpAnyH_take (i:=8) (oi:=Yb) (v:=?_) rfl (by kernel_rfl) (by kernel_rfl) (by kernel_rfl) (fun _ _ _ h=>h) (Or.inl ⟨by rfl,?hy⟩) (by assumption) ?_
 case hy=>
  unfold Yb;intro w0 D;obtain⟨c0,c1,-⟩:=q4 D;clear D;go_simp
  (first|done|with_reducible rfl)
 (try simp only[Yb,Act.put,aT,aU,aV]);refine wpAnyH_take (i:=9) (oi:=Yd) (v:=?_) rfl (by kernel_rfl) (by kernel_rfl) (by kernel_rfl) (fun _ _ _ h=>h) (Or.inl ⟨by rfl,?hy⟩) (by assumption) ?_
 case hy=>
  unfold Yd;intro w0 D;obtain⟨c0,c1,-⟩:=q4 D;clear D;go_simp
  (first|done|with_reducible rfl)
 (try simp only[Yd,Act.put,aT,aU,aV]);refine Rd (rs:=[10,15]) (by kernel_rfl) (by simp) ?_;refine Rc (o:=Rk) rfl (fun K hK=>?_) (Rc (o:=Rq) rfl (fun K hK=>?_) Rn)
 iterate 3
  all_goals first
   |(unfold Rk
     go_simp;(with_reducible refine(JZ.out _ HO.out).mono ?_);rintro e Wc ⟨A5,c5,rfl,aw,Y⟩;simp only[Tm.val];obtain⟨n5,EP⟩:=ak t.kids.length;rw[←EP];refine hK.out _ _ (J.below Y J.lt) (fun O=>?_);clear hK K;try simp only[Act.put,aT,aU,aV]
     first
      |(have aP:=(Y.block b3 (lH X3)).trans X3
        have HV:Hid (aD (fun q=>w.heap.size<q∧q≠b3) Wc A5 c5 t):=aw.keep Kr (fun q _ h=>by have:=lH X3;omega);clear X3;have X3:=Hd aP
        clear aP)
      |(have vH:Hid (aD (fun q=>w.heap.size<q) Wc A5 c5 t):=aw.keep Kr (fun q _ h=>by have:=lH I;omega))
     replace I:=kX Y I;replace HO:=Hd (HO.trans (Ob Y));replace J:=Hd (J.below Y J.lt);clear aw Y
     obtain⟨G7,-⟩:∃n:Nat,n=n:=⟨0,rfl⟩)
   |(unfold Rq
     go_simp;have Y:Below Wc.heap.size Wc (Wc.alloc (.cells #[.int .i64 0,.int .i64 0,.string ⟨#[]⟩,.slice none 0 0] 64)):=(Br _ _).alloc (lr _) _;refine hK.out _ _ (J.below Y J.lt) (fun O=>?_);clear hK K;(try simp only[Act.put,aT,aU,aV]);obtain⟨b3,ar⟩:=aj Wc.heap.size;have tF:b3≠R:=by have:=J.lt;omega
     have Ew:w.heap.size<b3:=by have:=lH I;omega
     first
      |(have hv1:aD (fun q=>w.heap.size<q∧q≠b3) (Wc.alloc (.cells #[.int .i64 0,.int .i64 0,.string ⟨#[]⟩,.slice none 0 0] 64)) A5 c5 t:=(vH.keep (S':=fun q=>w.heap.size<q∧q≠b3) Kr (fun q hq h=>⟨h,by omega⟩)).keep (Kb Y) (fun _ _ h=>h)
        have HV:=Hd hv1
        clear vH hv1)
      |skip
     have X3:Hid ((Wc.alloc (.cells #[.int .i64 0,.int .i64 0,.string ⟨#[]⟩,.slice none 0 0] 64)).heap[b3]?=some (.cells #[.int .i64 0,.int .i64 0,.string ⟨#[]⟩,.slice none 0 0] 64 (0,0))):=by show _=_;rw[ar];exact eu _ _
     replace I:=kX Y I;replace HO:=Hd (HO.trans (Ob Y));replace J:=Hd (J.below Y J.lt);obtain⟨Wc,hV⟩:=aj (Wc.alloc (.cells #[.int .i64 0,.int .i64 0,.string ⟨#[]⟩,.slice none 0 0] 64));rw[←hV]at I HO J X3 O
     try rw[←hV]at HV
     rw[←hV,←ar];clear hV ar Y
     obtain⟨ae,-⟩:∃n:Nat,n=n:=⟨0,rfl⟩)
   |(unfold aaV
     obtain⟨v0,v1,v2,v3,bW⟩:=q4 X3;go_simp;clear v0 v1 v2 v3 bW;refine hK.out _ _ ((fH (Ne.symm tF)).trans J) (fun O=>?_);clear hK K;try simp only[Act.put,aT,aU,aV]
     obtain⟨ao,-⟩:∃n:Nat,n=n:=⟨0,rfl⟩)
   |fail
  all_goals first
   |have:=ba
   |(have:=G7
     refine wpAnyH_take (i:=11) (oi:=Rl) (v:=?_) rfl (by kernel_rfl) (by kernel_rfl) (by kernel_rfl) (fun _ _ _ h=>h) (Or.inl ⟨by rfl,?hy⟩) (by assumption) ?_
     case hy=>
      unfold Rl;intro w0 D;obtain⟨c0,c1,-⟩:=q4 D;clear D;go_simp
      (first|done|with_reducible rfl)
     try simp only[Rl,Act.put,aT,aU,aV]
     obtain⟨ba,-⟩:∃n:Nat,n=n:=⟨0,rfl⟩)
   |skip
  all_goals first
   |have:=bb
   |(have:=G7
     refine wpAnyH_take (i:=12) (oi:=Rm) (v:=?_) rfl (by kernel_rfl) (by kernel_rfl) (by kernel_rfl) (fun _ _ _ h=>h) (Or.inl ⟨by rfl,?hy⟩) (by assumption) ?_
     case hy=>
      unfold Rm;intro w0 D;obtain⟨c0,c1,-⟩:=q4 D;clear D;go_simp
      (first|done|with_reducible rfl)
     try simp only[Rm,Act.put,aT,aU,aV]
     obtain⟨bb,-⟩:∃n:Nat,n=n:=⟨0,rfl⟩)
   |skip
  all_goals first
   |have:=bd
   |(have:=G7
     refine wpAnyH_take (i:=13) (oi:=Ro) (v:=?_) rfl (by kernel_rfl) (by kernel_rfl) (by kernel_rfl) (fun _ _ _ h=>h) (Or.inl ⟨by rfl,?hy⟩) (by assumption) ?_
     case hy=>
      unfold Ro;intro w0 D;obtain⟨c0,c1,-⟩:=q4 D;clear D;go_simp
      (first|done|with_reducible rfl)
     try simp only[Ro,Act.put,aT,aU,aV]
     obtain⟨bd,-⟩:∃n:Nat,n=n:=⟨0,rfl⟩)
   |skip
  all_goals first
   |have:=bf
   |(have:=G7
     refine wpAnyH_take (i:=14) (oi:=Rp) (v:=?_) rfl (by kernel_rfl) (by kernel_rfl) (by kernel_rfl) (fun _ _ _ h=>h) (Or.inl ⟨by rfl,?hy⟩) (by assumption) ?_
     case hy=>
      unfold Rp;intro w0 D;obtain⟨c0,c1,-⟩:=q4 D;clear D;go_simp
      (first|done|with_reducible rfl)
     try simp only[Rp,Act.put,aT,aU,aV]
     obtain⟨bf,-⟩:∃n:Nat,n=n:=⟨0,rfl⟩)
   |skip
  all_goals first
   |have:=bg
   |(have:=G7
     have:=ae;have:=ao;refine wpAnyH_take (i:=17) (oi:=Rt) (v:=?_) rfl (by kernel_rfl) (by kernel_rfl) (by kernel_rfl) (fun _ _ _ h=>h) (Or.inl ⟨by rfl,?hy⟩) (by assumption) ?_
     case hy=>
      unfold Rt;intro w0 D;obtain⟨c0,c1,-⟩:=q4 D;clear D;go_simp
      (first|done|with_reducible rfl)
     try simp only[Rt,Act.put,aT,aU,aV]
     obtain⟨bg,-⟩:∃n:Nat,n=n:=⟨0,rfl⟩)
   |skip
  all_goals first
   |have:=bh
   |(have:=G7
     have:=ae;have:=ao;refine wpAnyH_take (i:=18) (oi:=Ru) (v:=?_) rfl (by kernel_rfl) (by kernel_rfl) (by kernel_rfl) (fun _ _ _ h=>h) (Or.inl ⟨by rfl,?hy⟩) (by assumption) ?_
     case hy=>
      unfold Ru;intro w0 D;obtain⟨c0,c1,-⟩:=q4 D;clear D;go_simp
      (first|done|with_reducible rfl)
     try simp only[Ru,Act.put,aT,aU,aV]
     obtain⟨bh,-⟩:∃n:Nat,n=n:=⟨0,rfl⟩)
   |skip
  all_goals first
   |(have:=G7
     have:=ae;have:=ao;refine wpAnyH_done (by kernel_rfl) ?_ _;clear O;obtain⟨w6,mV⟩:=aj (((((Wc.setCell ⟨b3,0,none⟩ (.int .i64 t.op)).setCell ⟨b3,1,none⟩ (.int .i64 t.num)).setCell ⟨b3,2,none⟩ (.string t.name)).setCell ⟨b3,3,none⟩ (.slice A5 n5 c5)));have ay:Hid (w6.heap[b3]?=some (.cells #[.int .i64 t.op,.int .i64 t.num,.string t.name,.slice A5 n5 c5] 64 (0,0))):=by show _=_;rw[mV];exact ni X3
     have az:Hid (w6.heap[w.heap.size]?=some (.cells #[.int .i64 0,.int .i64 0,.int .i64 0,.string ⟨#[]⟩,.slice none 0 0,.slice none 0 0] 67 (0,0))):=by show _=_;rw[mV];exact(fH (by omega)).trans I
     have ax:Hid (aD (fun q=>w.heap.size<q∧q≠b3) w6 A5 c5 t):=by show aD _ _ _ _ _;rw[mV];exact HV.keep ((((aR.refl.set (by simp) _).set (by simp) _).set (by simp) _).set (by simp) _) (fun _ _ h=>h)
     have Fy:Hid (Only (fun q=>q=R) w w6):=by show Only _ _ _;rw[mV];exact dZ (dZ (dZ (dZ HO (Nat.le_of_lt Ew) _) (Nat.le_of_lt Ew) _) (Nat.le_of_lt Ew) _) (Nat.le_of_lt Ew) _
     have aa:Hid (kK w6 R A n c i d 0):=by show kK _ _ _ _ _ _ _ _;rw[mV];exact(fH (Ne.symm tF)).trans J
     rw[←mV];clear mV X3 I HV HO J;have I:=az;have HO:=Fy;have HV:=ax;have X3:=ay;obtain⟨-,c1,-,-,fq⟩:=q4 aa;have bu:=aa.lt;clear az Fy ax ay
     by_cases hx:x=0
     ·subst hx;have bm:=(wM HQ.symm).2.jl;have dJ:Hid (F=xY R A c d l (if ah l j 4 [93]=true then .ok (.mk 1 t []) (j+1)else .bad j 16) w):=by show _=_;rw[bE,iN (by simp)]
      have bn:j≤n:=by rw[HN];exact bm
      go_wp2_with fail;clear c1 fq;obtain⟨w7,G⟩:=aj (w6.setCell ⟨R,1,none⟩ (.int .i64 (j:Nat)));have BF:Hid (kK w7 R A n c j d 0):=by show kK _ _ _ _ _ _ _ _;rw[G];exact aa.at_ j
      have YB:Hid (w7.heap[w.heap.size]?=some (.cells #[.int .i64 0,.int .i64 0,.int .i64 0,.string ⟨#[]⟩,.slice none 0 0,.slice none 0 0] 67 (0,0))):=by show _=_;rw[G];exact(iw w6 ⟨R,1,none⟩ w.heap.size _ (by show w.heap.size≠R;omega)).trans I
      have Y3:Hid (w7.heap[b3]?=some (.cells #[.int .i64 t.op,.int .i64 t.num,.string t.name,.slice A5 n5 c5] 64 (0,0))):=by show _=_;rw[G];exact(iw w6 ⟨R,1,none⟩ b3 _ tF).trans X3
      have YV:Hid (aD (fun q=>w.heap.size<q∧q≠b3) w7 A5 c5 t):=by show aD _ _ _ _ _;rw[G];exact HV.keep (aR.refl.set (by omega) _) (fun _ _ h=>h)
      have YO:Hid (Only (fun q=>q=R) w w7):=by show Only _ _ _;rw[G];exact HO.bq (show R=R from rfl) _
      rw[←G];clear G I X3 HV HO aa;have I:=YB;have X3:=Y3;have HV:=YV;have HO:=YO;have J:=BF;clear YB Y3 YV YO BF;replace J:Hid (kK w7 R A l.length c j d 0):=by show kK _ _ _ _ _ _ _ _;rw[←HN];exact J
      have hwn:=zV R A c j d l 0 4 ⟨#[93]⟩ w7 J (HP.only HO) (by first|(intro _;omega)|(intro h;have:=zD h;omega));obtain⟨jw,VY⟩:=ak (jQ l (j) (0) 4 [93]);rw[show jQ l (j) (0) 4 (bs ⟨#[93]⟩)=jw from VY.symm]at hwn;have HC:=Hd hwn;clear hwn;go_wp2_with fail;refine HC.mono ?_;rintro e w8 ⟨rfl,aE,ag⟩;have YB:=Hd ((ag.block w.heap.size (lH I) (by omega)).trans I);have YO:=Hd (HO.trans ag);have BF:=Hd aE;replace X3:=Hd ((ag.block b3 (lH X3) tF).trans X3);replace HV:Hid (aD (fun q=>w.heap.size<q∧q≠b3) w8 A5 c5 t):=HV.keep (aR.cO ag (by omega)) (fun _ _ h=>h);clear HC aE ag I HO J;have I:=YB;have HO:=YO;have J:=BF;clear YB YO BF;have bp:=lH I;have bv:=lH X3;obtain⟨a0,a1,a2,a3,bi⟩:=q4 X3;obtain⟨v0,v1,v2,v3,v4,v5,bW⟩:=q6 I;go_wp2_with fail;clear v0 bW v1 v2 v3 v4 v5 a0 a1 a2 a3 bi;obtain⟨W0,ab⟩:=aj (((((((w8.setCell ⟨w.heap.size,0,none⟩ (.int .i64 1)).setCell ⟨w.heap.size,1,none⟩ (.int .i64 t.op)).setCell ⟨w.heap.size,2,none⟩ (.int .i64 t.num)).setCell ⟨w.heap.size,3,none⟩ (.string t.name)).setCell ⟨w.heap.size,4,none⟩ (.slice A5 n5 c5)).setCell ⟨w.heap.size,5,none⟩ (.slice none 0 0)))
      have br:W0.heap[w.heap.size]?=some (.cells #[.int .i64 1,.int .i64 t.op,.int .i64 t.num,.string t.name,.slice A5 n5 c5,.slice none 0 0] 67 (0,0)):=by rw[ab];exact jD I
      have ai:kK W0 R A l.length c jw.1 d jw.2:=by rw[ab];exact(jH (by omega)).trans J
      have bj:Only (fun q=>q=R) w W0:=by rw[ab];exact o9 HO (lr _)
      have bl:aD (fun q=>w.heap.size≤q) W0 A5 c5 t:=by rw[ab];exact HV.keep (mO Kr (by omega)) (fun q _ h=>by omega)
      rw[←ab];clear ab;refine bR (Ki br) rfl ?_;rw[dJ];have hw:jw=jQ l j 0 4 [93]:=VY;unfold jQ at hw;rw[iN (by simp)]at hw;refine⟨⟨1,t.op,t.num,t.name,A5,n5,c5,none,0,0⟩,rfl,fun f k h=>?_,?_,bj⟩
      ·by_cases h4:ah l j 4 [93]=true
       ·rw[iP h4]at h;obtain⟨rfl,-⟩:=bH h;exact⟨rfl,rfl,rfl,rfl,EP,rfl,bl,lr _,zl _,.inl rfl⟩
       ·rw[iN h4]at h;cases h
      ·by_cases h4:ah l j 4 [93]=true
       ·rw[iP h4]at hw⊢;rw[hw]at ai;exact ai
       ·rw[iN h4]at hw⊢;rw[hw]at ai;exact ai
     ·have dJ:Hid (F=xY R A c d l (.bad j x) w):=by show _=_;rw[bE,iP hx]
      have bz:(x != 0)=true:=by simpa using hx
      clear hx;go_wp2_with fail;clear c1 fq;obtain⟨w7,G⟩:=aj (w6.setCell ⟨R,1,none⟩ (.int .i64 (j:Nat)));have BF:Hid (kK w7 R A n c j d 0):=by show kK _ _ _ _ _ _ _ _;rw[G];exact aa.at_ j
      have YB:Hid (w7.heap[w.heap.size]?=some (.cells #[.int .i64 0,.int .i64 0,.int .i64 0,.string ⟨#[]⟩,.slice none 0 0,.slice none 0 0] 67 (0,0))):=by show _=_;rw[G];exact(iw w6 ⟨R,1,none⟩ w.heap.size _ (by show w.heap.size≠R;omega)).trans I
      have Y3:Hid (w7.heap[b3]?=some (.cells #[.int .i64 t.op,.int .i64 t.num,.string t.name,.slice A5 n5 c5] 64 (0,0))):=by show _=_;rw[G];exact(iw w6 ⟨R,1,none⟩ b3 _ tF).trans X3
      have YV:Hid (aD (fun q=>w.heap.size<q∧q≠b3) w7 A5 c5 t):=by show aD _ _ _ _ _;rw[G];exact HV.keep (aR.refl.set (by omega) _) (fun _ _ h=>h)
      have YO:Hid (Only (fun q=>q=R) w w7):=by show Only _ _ _;rw[G];exact HO.bq (show R=R from rfl) _
      rw[←G];clear G I X3 HV HO aa;have I:=YB;have X3:=Y3;have HV:=YV;have HO:=YO;have J:=BF;clear YB Y3 YV YO BF;have a7:=Hd (DX R A n c j d x w7 J);refine a7.mono ?_;rintro e w8 ⟨rfl,aF,FJ⟩;unfold FV.val FV.zero;simp only;have Y8:=Hd ((FJ.block w.heap.size (lH I) (by omega)).trans I);have a6:=Hd aF;have aS:=Hd (HO.trans FJ);have bp:=lH Y8;clear aF FJ I;obtain⟨v0,v1,v2,v3,v4,v5,bW⟩:=q6 Y8;go_wp2_with fail;clear v0 bW v1 v2 v3 v4 v5;refine bR (Ki (jD Y8)) rfl ?_;rw[dJ];have aJ:=a6.out;rw[HN]at aJ
      exact CJ (r:=.bad j x) (fun f j h=>nomatch h) bk aJ aS _ _ _ _ _ _)
   |(have:=G7
     have:=ae;refine Rd (rs:=[16]) (by kernel_rfl) (by simp) ?_
     refine Rc (o:=aaV) rfl (fun K hK=>?_) Rn)
   |(have:=G7
     refine Rd (rs:=[15]) (by kernel_rfl) (by simp) ?_
     refine Rc (o:=Rq) rfl (fun K hK=>?_) Rn)
   |(have:=ae
     refine Rd (rs:=[10]) (by kernel_rfl) (by simp) ?_
     refine Rc (o:=Rk) rfl (fun K hK=>?_) Rn)
   |fail
def wS(l:List Tok)(i k:Nat):Int:=if k≤0∧ah l i 3 [69,88]=true then 6 else if k≤1∧ah l i 3 [69,70]=true then 7 else if k≤2∧ah l i 3 [69,71]=true then 8 else if k≤3∧ah l i 3 [65,88]=true then 10 else if k≤4∧ah l i 3 [65,70]=true then 11 else if k≤5∧ah l i 3 [65,71]=true then 12 else 0
theorem agb(l:List Tok)(i:Nat)(h:ah l i 4 [33]=false):n_ l i=wS l i 0:=by
 unfold n_ wS;rw[iN (by rw[h];simp)];simp only[zl,true_and]
theorem adS(R:Nat)(A:Option Addr)(c i d:Nat)(l:List Tok)(w:World)(hR:kK w R A l.length c i d 0)(hP:iI w R A c l)(hi:i≤1000000) :
 Calls Tryz.prog 194 #[.pointer (some ⟨R,0,none⟩)] w fun e w'=>e=.returned (.int .i64 (n_ l i))∧Below w.heap.size w w':=by
 obtain⟨n,HN⟩:=ak l.length;obtain⟨r,hr⟩:=aj (n_ l i);have hlen:=hP.len;have aw:=hP.cap;have aQ:=hP.bU;unfold maxLen at aQ
 have ab:Hid (∀(W:World)(s:ByteArray),Below w.heap.size w W→Calls Tryz.prog 179 #[.agg #[.slice A n c],.int .i64 (i:Nat),.int .i64 3,.string s] W.drew fun e w'=>e=.returned (.bool (ah l i 3 (bs s)))∧Below W.drew.heap.size W.drew w'):=by
  intro W s hb;rw[HN];exact G_ A c i l 3 s W.drew (hP.toks.Aq hb rfl).ES hP.len hP.cap hP.bU hi
 have aa:=wB A c i l ⟨#[33]⟩ w.drew hP.toks.ES hP.len hP.cap hP.bU hi;rw[show ah l i 4 (bs ⟨#[33]⟩)=ah l i 4 [33]from rfl]at aa;rw[←HN]at aa hR hlen aw;obtain⟨c0,c1,-⟩:=q4 hR;have aP:=hR.lt;have HR:=Hd hR;obtain⟨F,hF⟩:∃F:Ending→World→Prop,F=fun e w'=>e=.returned (.int .i64 r)∧Below w.heap.size w w':=⟨_,rfl⟩;rw[←hr,←hF];have HF:=Hd hF;clear hF hR hP
 by_cases ae:ah l i 4 [33]=true
 ·rw[ae]at aa;have qj:=Hd aa;have G:Hid (r=2):=by show _=_;rw[hr];unfold n_;rw[iP ae]
  clear aa ae hr;go_in;go_wp2_with fail
  go_region_held3 (fun w'=>w'.cell? ⟨R,0,none⟩=some (.slice A n c)∧w'.cell? ⟨R,1,none⟩=some (.int .i64 (i:Nat)))
   (first
     |(go_keep;done)
     |(go_split_ands
       refine⟨?_,?_⟩
       ·(rw[D.cell (p:=⟨R,_,none⟩) (by simp;omega)];simpa using c0)
       ·(rw[D.cell (p:=⟨R,_,none⟩) (by simp;omega)];simpa using c1))
     |fail)
   ((go_at_call 151;refine qj.mono ?_;rintro e w5 ⟨rfl,D⟩))
  have Y:=Hd ((((Br _ _).drew).trans D:Below w.heap.size w w5));clear D c0 c1;go_wp2_with fail;rw[HF,G];exact⟨rfl,Y⟩
 ·have ao:ah l i 4 [33]=false:=by simpa using ae
  rw[ao]at aa;have qj:=Hd aa;have aJ:Hid (wS l i 0=r):=by show _=_;rw[hr,agb l i ao]
  clear aa ae ao hr;go_in;go_wp2_with fail
  go_region_held3 (fun w'=>w'.cell? ⟨R,0,none⟩=some (.slice A n c)∧w'.cell? ⟨R,1,none⟩=some (.int .i64 (i:Nat)))
   (first
     |(go_keep;done)
     |(go_split_ands
       refine⟨?_,?_⟩
       ·(rw[D.cell (p:=⟨R,_,none⟩) (by simp;omega)];simpa using c0)
       ·(rw[D.cell (p:=⟨R,_,none⟩) (by simp;omega)];simpa using c1))
     |fail)
   ((go_at_call 151;refine qj.mono ?_;rintro e w5 ⟨rfl,D⟩))
  have Y:=Hd ((((Br _ _).drew).trans D:Below w.heap.size w w5));clear D c0 c1;go_wp2_with fail;obtain⟨b4,av⟩:=aj (w5.heap.size+1);obtain⟨w2,ai⟩:=aj ((w5.alloc (.cells #[.string ⟨#[69,88]⟩,.string ⟨#[69,70]⟩,.string ⟨#[69,71]⟩,.string ⟨#[65,88]⟩,.string ⟨#[65,70]⟩,.string ⟨#[65,71]⟩] 246)).alloc (.cells #[.int .i64 6,.int .i64 7,.int .i64 8,.int .i64 10,.int .i64 11,.int .i64 12] 247));rw[←ai,←av];have ar:Below w.heap.size w w2:=by rw[ai];exact(Y.alloc Y.size _).alloc (by simp;have:=Y.size;omega) _
  have aF:w2.heap[b4]?=some (.cells #[.int .i64 6,.int .i64 7,.int .i64 8,.int .i64 10,.int .i64 11,.int .i64 12] 247 (0,0)):=by
   have h:=eu (w5.alloc (.cells #[.string ⟨#[69,88]⟩,.string ⟨#[69,70]⟩,.string ⟨#[69,71]⟩,.string ⟨#[65,88]⟩,.string ⟨#[65,70]⟩,.string ⟨#[65,71]⟩] 246)) (.cells #[.int .i64 6,.int .i64 7,.int .i64 8,.int .i64 10,.int .i64 11,.int .i64 12] 247);rw[ai,av]
   simpa using h
  have I:=Hd ar;have FK:=Hd aF;have az:=Hd (HR.below ar aP);clear ar aF ai av Y HR
  go_loopw [19] (fun si wr=>∃k:Nat,si=.int .i64 (k:Nat)∧k≤6∧Below w2.heap.size w2 wr∧wS l i k=r) (fun si _=>6-(intOf si).toNat)
  case atStart=>exact⟨0,rfl,by omega,Br _ _,aJ⟩
  case round=>
   obtain⟨k,rfl,a7,ag,aE⟩:=hrel;have O:=Hd ag;have HK:=Hd aE;have ax:=az.below ag az.lt;obtain⟨c0,c1,-⟩:=q4 ax;have a6:=ax.lt;have ay:=(ag.block b4 (lH FK)).trans FK;have a8:=lH ay;have x4:∀j v,(#[.int .i64 6,.int .i64 7,.int .i64 8,.int .i64 10,.int .i64 11,.int .i64 12]:Array Value)[j]?=some v→wr.cell? ⟨b4,j,none⟩=some v:=fun j v hv=>by rw[cR wr b4 j _ _ (0,0) ay];exact hv
   clear ag aE ax ay;have aS:k=0∨k=1∨k=2∨k=3∨k=4∨k=5∨k=6:=by omega
   rcases aS with rfl|rfl|rfl|rfl|rfl|rfl|rfl
   ·rw[show((0:Nat):Int)=0 from rfl];have af:∀W,(Instr.index 246 (.agg #[.string ⟨#[69,88]⟩,.string ⟨#[69,70]⟩,.string ⟨#[69,71]⟩,.string ⟨#[65,88]⟩,.string ⟨#[65,70]⟩,.string ⟨#[65,71]⟩]) (.int .i64 0)).run Tryz.prog W=.ok (.string ⟨#[69,88]⟩) W:=fun W=>by kernel_rfl
    have hI:=ab wr ⟨#[69,88]⟩ (I.trans (O.mono I.size));rw[show ah l i 3 (bs ⟨#[69,88]⟩)=ah l i 3 [69,88]from rfl]at hI
    by_cases J:ah l i 3 [69,88]=true
    ·have G:Hid (r=6):=by show _=_;rw[←HK];unfold wS;rw[iP ⟨by omega,J⟩]
     rw[J]at hI;have HI:=Hd hI;clear hI J;go_wp2_with fail
     go_region_held3 (fun w'=>w'.cell? ⟨R,0,none⟩=some (.slice A n c)∧w'.cell? ⟨R,1,none⟩=some (.int .i64 (i:Nat)))
      (first
        |(go_keep;done)
        |(go_split_ands
          refine⟨?_,?_⟩
          ·(rw[D.cell (p:=⟨R,_,none⟩) (by simp;omega)];simpa using c0)
          ·(rw[D.cell (p:=⟨R,_,none⟩) (by simp;omega)];simpa using c1))
        |fail)
      ((go_at_call 179;refine HI.mono ?_;rintro e w5 ⟨rfl,D⟩))
     have y4:=(D.cell (p:=⟨b4,0,none⟩) (by simp;omega)).trans (x4 0 _ rfl);have Y:=Hd (I.trans ((O.trans (((Br _ _).drew.trans D).mono O.size)).mono I.size));clear D c0 c1;go_wp2_with fail;rw[HF,G];exact⟨rfl,Y⟩
    ·have sF:ah l i 3 [69,88]=false:=by simpa using J
     have G:Hid (wS l i 1=r):=by show _=_;rw[←HK];unfold wS;simp[sF]
     rw[sF]at hI;have HI:=Hd hI;clear hI J sF;go_wp2_with fail
     go_region_held3 (fun w'=>w'.cell? ⟨R,0,none⟩=some (.slice A n c)∧w'.cell? ⟨R,1,none⟩=some (.int .i64 (i:Nat)))
      (first
        |(go_keep;done)
        |(go_split_ands
          refine⟨?_,?_⟩
          ·(rw[D.cell (p:=⟨R,_,none⟩) (by simp;omega)];simpa using c0)
          ·(rw[D.cell (p:=⟨R,_,none⟩) (by simp;omega)];simpa using c1))
        |fail)
      ((go_at_call 179;refine HI.mono ?_;rintro e w5 ⟨rfl,D⟩))
     have Y:=Hd (O.trans (((Br _ _).drew.trans D).mono O.size));clear D c0 c1;go_wp2_with fail
     go_roundw
     case rel=>exact⟨1,by go_num,by omega,Y,G⟩
     case measure=>simp[intOf]
   ·rw[show((1:Nat):Int)=1 from rfl];have af:∀W,(Instr.index 246 (.agg #[.string ⟨#[69,88]⟩,.string ⟨#[69,70]⟩,.string ⟨#[69,71]⟩,.string ⟨#[65,88]⟩,.string ⟨#[65,70]⟩,.string ⟨#[65,71]⟩]) (.int .i64 1)).run Tryz.prog W=.ok (.string ⟨#[69,70]⟩) W:=fun W=>by kernel_rfl
    have hI:=ab wr ⟨#[69,70]⟩ (I.trans (O.mono I.size));rw[show ah l i 3 (bs ⟨#[69,70]⟩)=ah l i 3 [69,70]from rfl]at hI
    by_cases J:ah l i 3 [69,70]=true
    ·have G:Hid (r=7):=by show _=_;rw[←HK];unfold wS;rw[iN (by omega)];rw[iP ⟨by omega,J⟩]
     rw[J]at hI;have HI:=Hd hI;clear hI J;go_wp2_with fail
     go_region_held3 (fun w'=>w'.cell? ⟨R,0,none⟩=some (.slice A n c)∧w'.cell? ⟨R,1,none⟩=some (.int .i64 (i:Nat)))
      (first
        |(go_keep;done)
        |(go_split_ands
          refine⟨?_,?_⟩
          ·(rw[D.cell (p:=⟨R,_,none⟩) (by simp;omega)];simpa using c0)
          ·(rw[D.cell (p:=⟨R,_,none⟩) (by simp;omega)];simpa using c1))
        |fail)
      ((go_at_call 179;refine HI.mono ?_;rintro e w5 ⟨rfl,D⟩))
     have y4:=(D.cell (p:=⟨b4,1,none⟩) (by simp;omega)).trans (x4 1 _ rfl);have Y:=Hd (I.trans ((O.trans (((Br _ _).drew.trans D).mono O.size)).mono I.size));clear D c0 c1;go_wp2_with fail;rw[HF,G];exact⟨rfl,Y⟩
    ·have sF:ah l i 3 [69,70]=false:=by simpa using J
     have G:Hid (wS l i 2=r):=by show _=_;rw[←HK];unfold wS;simp[sF]
     rw[sF]at hI;have HI:=Hd hI;clear hI J sF;go_wp2_with fail
     go_region_held3 (fun w'=>w'.cell? ⟨R,0,none⟩=some (.slice A n c)∧w'.cell? ⟨R,1,none⟩=some (.int .i64 (i:Nat)))
      (first
        |(go_keep;done)
        |(go_split_ands
          refine⟨?_,?_⟩
          ·(rw[D.cell (p:=⟨R,_,none⟩) (by simp;omega)];simpa using c0)
          ·(rw[D.cell (p:=⟨R,_,none⟩) (by simp;omega)];simpa using c1))
        |fail)
      ((go_at_call 179;refine HI.mono ?_;rintro e w5 ⟨rfl,D⟩))
     have Y:=Hd (O.trans (((Br _ _).drew.trans D).mono O.size));clear D c0 c1;go_wp2_with fail
     go_roundw
     case rel=>exact⟨2,by go_num,by omega,Y,G⟩
     case measure=>simp[intOf]
   ·rw[show((2:Nat):Int)=2 from rfl];have af:∀W,(Instr.index 246 (.agg #[.string ⟨#[69,88]⟩,.string ⟨#[69,70]⟩,.string ⟨#[69,71]⟩,.string ⟨#[65,88]⟩,.string ⟨#[65,70]⟩,.string ⟨#[65,71]⟩]) (.int .i64 2)).run Tryz.prog W=.ok (.string ⟨#[69,71]⟩) W:=fun W=>by kernel_rfl
    have hI:=ab wr ⟨#[69,71]⟩ (I.trans (O.mono I.size));rw[show ah l i 3 (bs ⟨#[69,71]⟩)=ah l i 3 [69,71]from rfl]at hI
    by_cases J:ah l i 3 [69,71]=true
    ·have G:Hid (r=8):=by show _=_;rw[←HK];unfold wS;rw[iN (by omega),iN (by omega)];rw[iP ⟨by omega,J⟩]
     rw[J]at hI;have HI:=Hd hI;clear hI J;go_wp2_with fail
     go_region_held3 (fun w'=>w'.cell? ⟨R,0,none⟩=some (.slice A n c)∧w'.cell? ⟨R,1,none⟩=some (.int .i64 (i:Nat)))
      (first
        |(go_keep;done)
        |(go_split_ands
          refine⟨?_,?_⟩
          ·(rw[D.cell (p:=⟨R,_,none⟩) (by simp;omega)];simpa using c0)
          ·(rw[D.cell (p:=⟨R,_,none⟩) (by simp;omega)];simpa using c1))
        |fail)
      ((go_at_call 179;refine HI.mono ?_;rintro e w5 ⟨rfl,D⟩))
     have y4:=(D.cell (p:=⟨b4,2,none⟩) (by simp;omega)).trans (x4 2 _ rfl);have Y:=Hd (I.trans ((O.trans (((Br _ _).drew.trans D).mono O.size)).mono I.size));clear D c0 c1;go_wp2_with fail;rw[HF,G];exact⟨rfl,Y⟩
    ·have sF:ah l i 3 [69,71]=false:=by simpa using J
     have G:Hid (wS l i 3=r):=by show _=_;rw[←HK];unfold wS;simp[sF]
     rw[sF]at hI;have HI:=Hd hI;clear hI J sF;go_wp2_with fail
     go_region_held3 (fun w'=>w'.cell? ⟨R,0,none⟩=some (.slice A n c)∧w'.cell? ⟨R,1,none⟩=some (.int .i64 (i:Nat)))
      (first
        |(go_keep;done)
        |(go_split_ands
          refine⟨?_,?_⟩
          ·(rw[D.cell (p:=⟨R,_,none⟩) (by simp;omega)];simpa using c0)
          ·(rw[D.cell (p:=⟨R,_,none⟩) (by simp;omega)];simpa using c1))
        |fail)
      ((go_at_call 179;refine HI.mono ?_;rintro e w5 ⟨rfl,D⟩))
     have Y:=Hd (O.trans (((Br _ _).drew.trans D).mono O.size));clear D c0 c1;go_wp2_with fail
     go_roundw
     case rel=>exact⟨3,by go_num,by omega,Y,G⟩
     case measure=>simp[intOf]
   ·rw[show((3:Nat):Int)=3 from rfl];have af:∀W,(Instr.index 246 (.agg #[.string ⟨#[69,88]⟩,.string ⟨#[69,70]⟩,.string ⟨#[69,71]⟩,.string ⟨#[65,88]⟩,.string ⟨#[65,70]⟩,.string ⟨#[65,71]⟩]) (.int .i64 3)).run Tryz.prog W=.ok (.string ⟨#[65,88]⟩) W:=fun W=>by kernel_rfl
    have hI:=ab wr ⟨#[65,88]⟩ (I.trans (O.mono I.size));rw[show ah l i 3 (bs ⟨#[65,88]⟩)=ah l i 3 [65,88]from rfl]at hI
    by_cases J:ah l i 3 [65,88]=true
    ·have G:Hid (r=10):=by show _=_;rw[←HK];unfold wS;rw[iN (by omega),iN (by omega),iN (by omega)];rw[iP ⟨by omega,J⟩]
     rw[J]at hI;have HI:=Hd hI;clear hI J;go_wp2_with fail
     go_region_held3 (fun w'=>w'.cell? ⟨R,0,none⟩=some (.slice A n c)∧w'.cell? ⟨R,1,none⟩=some (.int .i64 (i:Nat)))
      (first
        |(go_keep;done)
        |(go_split_ands
          refine⟨?_,?_⟩
          ·(rw[D.cell (p:=⟨R,_,none⟩) (by simp;omega)];simpa using c0)
          ·(rw[D.cell (p:=⟨R,_,none⟩) (by simp;omega)];simpa using c1))
        |fail)
      ((go_at_call 179;refine HI.mono ?_;rintro e w5 ⟨rfl,D⟩))
     have y4:=(D.cell (p:=⟨b4,3,none⟩) (by simp;omega)).trans (x4 3 _ rfl);have Y:=Hd (I.trans ((O.trans (((Br _ _).drew.trans D).mono O.size)).mono I.size));clear D c0 c1;go_wp2_with fail;rw[HF,G];exact⟨rfl,Y⟩
    ·have sF:ah l i 3 [65,88]=false:=by simpa using J
     have G:Hid (wS l i 4=r):=by show _=_;rw[←HK];unfold wS;simp[sF]
     rw[sF]at hI;have HI:=Hd hI;clear hI J sF;go_wp2_with fail
     go_region_held3 (fun w'=>w'.cell? ⟨R,0,none⟩=some (.slice A n c)∧w'.cell? ⟨R,1,none⟩=some (.int .i64 (i:Nat)))
      (first
        |(go_keep;done)
        |(go_split_ands
          refine⟨?_,?_⟩
          ·(rw[D.cell (p:=⟨R,_,none⟩) (by simp;omega)];simpa using c0)
          ·(rw[D.cell (p:=⟨R,_,none⟩) (by simp;omega)];simpa using c1))
        |fail)
      ((go_at_call 179;refine HI.mono ?_;rintro e w5 ⟨rfl,D⟩))
     have Y:=Hd (O.trans (((Br _ _).drew.trans D).mono O.size));clear D c0 c1;go_wp2_with fail
     go_roundw
     case rel=>exact⟨4,by go_num,by omega,Y,G⟩
     case measure=>simp[intOf]
   ·rw[show((4:Nat):Int)=4 from rfl];have af:∀W,(Instr.index 246 (.agg #[.string ⟨#[69,88]⟩,.string ⟨#[69,70]⟩,.string ⟨#[69,71]⟩,.string ⟨#[65,88]⟩,.string ⟨#[65,70]⟩,.string ⟨#[65,71]⟩]) (.int .i64 4)).run Tryz.prog W=.ok (.string ⟨#[65,70]⟩) W:=fun W=>by kernel_rfl
    have hI:=ab wr ⟨#[65,70]⟩ (I.trans (O.mono I.size));rw[show ah l i 3 (bs ⟨#[65,70]⟩)=ah l i 3 [65,70]from rfl]at hI
    by_cases J:ah l i 3 [65,70]=true
    ·have G:Hid (r=11):=by show _=_;rw[←HK];unfold wS;rw[iN (by omega),iN (by omega),iN (by omega),iN (by omega)];rw[iP ⟨by omega,J⟩]
     rw[J]at hI;have HI:=Hd hI;clear hI J;go_wp2_with fail
     go_region_held3 (fun w'=>w'.cell? ⟨R,0,none⟩=some (.slice A n c)∧w'.cell? ⟨R,1,none⟩=some (.int .i64 (i:Nat)))
      (first
        |(go_keep;done)
        |(go_split_ands
          refine⟨?_,?_⟩
          ·(rw[D.cell (p:=⟨R,_,none⟩) (by simp;omega)];simpa using c0)
          ·(rw[D.cell (p:=⟨R,_,none⟩) (by simp;omega)];simpa using c1))
        |fail)
      ((go_at_call 179;refine HI.mono ?_;rintro e w5 ⟨rfl,D⟩))
     have y4:=(D.cell (p:=⟨b4,4,none⟩) (by simp;omega)).trans (x4 4 _ rfl);have Y:=Hd (I.trans ((O.trans (((Br _ _).drew.trans D).mono O.size)).mono I.size));clear D c0 c1;go_wp2_with fail;rw[HF,G];exact⟨rfl,Y⟩
    ·have sF:ah l i 3 [65,70]=false:=by simpa using J
     have G:Hid (wS l i 5=r):=by show _=_;rw[←HK];unfold wS;simp[sF]
     rw[sF]at hI;have HI:=Hd hI;clear hI J sF;go_wp2_with fail
     go_region_held3 (fun w'=>w'.cell? ⟨R,0,none⟩=some (.slice A n c)∧w'.cell? ⟨R,1,none⟩=some (.int .i64 (i:Nat)))
      (first
        |(go_keep;done)
        |(go_split_ands
          refine⟨?_,?_⟩
          ·(rw[D.cell (p:=⟨R,_,none⟩) (by simp;omega)];simpa using c0)
          ·(rw[D.cell (p:=⟨R,_,none⟩) (by simp;omega)];simpa using c1))
        |fail)
      ((go_at_call 179;refine HI.mono ?_;rintro e w5 ⟨rfl,D⟩))
     have Y:=Hd (O.trans (((Br _ _).drew.trans D).mono O.size));clear D c0 c1;go_wp2_with fail
     go_roundw
     case rel=>exact⟨5,by go_num,by omega,Y,G⟩
     case measure=>simp[intOf]
   ·rw[show((5:Nat):Int)=5 from rfl];have af:∀W,(Instr.index 246 (.agg #[.string ⟨#[69,88]⟩,.string ⟨#[69,70]⟩,.string ⟨#[69,71]⟩,.string ⟨#[65,88]⟩,.string ⟨#[65,70]⟩,.string ⟨#[65,71]⟩]) (.int .i64 5)).run Tryz.prog W=.ok (.string ⟨#[65,71]⟩) W:=fun W=>by kernel_rfl
    have hI:=ab wr ⟨#[65,71]⟩ (I.trans (O.mono I.size));rw[show ah l i 3 (bs ⟨#[65,71]⟩)=ah l i 3 [65,71]from rfl]at hI
    by_cases J:ah l i 3 [65,71]=true
    ·have G:Hid (r=12):=by show _=_;rw[←HK];unfold wS;rw[iN (by omega),iN (by omega),iN (by omega),iN (by omega),iN (by omega)];rw[iP ⟨by omega,J⟩]
     rw[J]at hI;have HI:=Hd hI;clear hI J;go_wp2_with fail
     go_region_held3 (fun w'=>w'.cell? ⟨R,0,none⟩=some (.slice A n c)∧w'.cell? ⟨R,1,none⟩=some (.int .i64 (i:Nat)))
      (first
        |(go_keep;done)
        |(go_split_ands
          refine⟨?_,?_⟩
          ·(rw[D.cell (p:=⟨R,_,none⟩) (by simp;omega)];simpa using c0)
          ·(rw[D.cell (p:=⟨R,_,none⟩) (by simp;omega)];simpa using c1))
        |fail)
      ((go_at_call 179;refine HI.mono ?_;rintro e w5 ⟨rfl,D⟩))
     have y4:=(D.cell (p:=⟨b4,5,none⟩) (by simp;omega)).trans (x4 5 _ rfl);have Y:=Hd (I.trans ((O.trans (((Br _ _).drew.trans D).mono O.size)).mono I.size));clear D c0 c1;go_wp2_with fail;rw[HF,G];exact⟨rfl,Y⟩
    ·have sF:ah l i 3 [65,71]=false:=by simpa using J
     have G:Hid (wS l i 6=r):=by show _=_;rw[←HK];unfold wS;simp[sF]
     rw[sF]at hI;have HI:=Hd hI;clear hI J sF;go_wp2_with fail
     go_region_held3 (fun w'=>w'.cell? ⟨R,0,none⟩=some (.slice A n c)∧w'.cell? ⟨R,1,none⟩=some (.int .i64 (i:Nat)))
      (first
        |(go_keep;done)
        |(go_split_ands
          refine⟨?_,?_⟩
          ·(rw[D.cell (p:=⟨R,_,none⟩) (by simp;omega)];simpa using c0)
          ·(rw[D.cell (p:=⟨R,_,none⟩) (by simp;omega)];simpa using c1))
        |fail)
      ((go_at_call 179;refine HI.mono ?_;rintro e w5 ⟨rfl,D⟩))
     have Y:=Hd (O.trans (((Br _ _).drew.trans D).mono O.size));clear D c0 c1;go_wp2_with fail
     go_roundw
     case rel=>exact⟨6,by go_num,by omega,Y,G⟩
     case measure=>simp[intOf]
   ·rw[show((6:Nat):Int)=6 from rfl];have G:Hid (r=0):=by show _=_;rw[←HK];unfold wS;rw[iN (by omega),iN (by omega),iN (by omega),iN (by omega),iN (by omega),iN (by omega)]
    clear c0 c1 x4;go_wp2_with fail;rw[HF,G];exact⟨rfl,I.trans (O.mono I.size)⟩
end Go.Proofs.YtkhoeoilamddaaaGreatDoor
