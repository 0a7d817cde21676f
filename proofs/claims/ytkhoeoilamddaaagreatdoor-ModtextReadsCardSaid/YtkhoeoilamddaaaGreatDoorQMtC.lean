/- Walks and plain words: MtC MtD MtE MtF. -/
import Derived.Test.YtkhoeoilamddaaaGreatDoorQFrmC
namespace Go.Proofs.YtkhoeoilamddaaaGreatDoor
open Go.RowKit
set_option linter.unusedVariables false
set_option linter.unusedSimpArgs false
set_option maxRecDepth 100000
set_option maxHeartbeats 16000000
theorem EU{o:Array Oper}{i:Nat}{x:Oper}(h:o.toList[i]?=some x):o[i]?=some x:=by simpa using h
def dK(l:List Tok)(i:Nat)(x:Int):Tm×Nat×Int:=if x≠0 then(dG,i,x)else iU l i
def ow(l:List Tok)(i:Nat)(x:Int):Fm×Nat×Int:=if x≠0 then(vg,i,x)else nN l i
theorem iI.ag4{w:World}{R c:Nat}{A:Option Addr}{l:List Tok}(h:iI w R A c l)(h0:0<l.length):dP w A c l:=⟨h.toks,h.cap,h.bU,h.len,h.txt,h.rng,fun a ha=>by
 rcases h.toks with h1|⟨b,off,h1,h2,h3⟩
 ·rw[h1]at h0;simp at h0
 ·rw[h1]at ha;cases ha;exact h2⟩
theorem zW(R:Nat)(A:Option Addr)(c i:Nat)(l:List Tok)(x:Int)(V:Nat→Value)(w:World)(hR:kF w R A l.length c i x V)(hP:iI w R A c l)(hi:i≤l.length)(h0:0<l.length) :
 Calls Tryz.prog 42 #[.pointer (some ⟨R,0,none⟩)] w fun e w'=>(∃J c5,e=.returned ((dK l i x).1.val J c5)∧aD (fun q=>w.heap.size≤q) w' J c5 (dK l i x).1)∧Er R A l.length c V (dK l i x).2.1 (dK l i x).2.2 w w':=by
 obtain⟨F,HF⟩:=ak (fun(e:Ending)(w':World)=>(∃J c5,e=.returned ((dK l i x).1.val J c5)∧aD (fun q=>w.heap.size≤q) w' J c5 (dK l i x).1)∧Er R A l.length c V (dK l i x).2.1 (dK l i x).2.2 w w');rw[←HF];unfold dK at HF;obtain⟨w1,aa⟩:=ak (w.alloc (.cells #[.int .i64 0,.int .i64 0,.string ⟨#[]⟩,.slice none 0 0] 64));have hb1:=dz aa;have ar:=sAl aa;have x1:=jZ aa rfl;have fC:=hR.lt;have c2:=hR.c2;have Y:Hid (Od w R A l.length c i x V w.heap.size (.cells #[.int .i64 0,.int .i64 0,.string ⟨#[]⟩,.slice none 0 0] 64 (0,0)) w1):=⟨hR.below hb1 hR.lt,Ob hb1,x1.out⟩;clear x1 hR
 by_cases hx:x=0
 ·subst hx;rw[iN (fun h=>h rfl)]at HF;have HP:=Hd hP;have hlen:=hP.len;obtain⟨q,hq⟩:=aj (iU l i)
  have JZ:Hid (∀W,Only (fun q=>q=R) w W→Calls Tryz.prog 81 #[.slice A l.length c,.int .i64 (i:Nat)] W (VX l W q)):=fun W ho=>by
   rw[hq];exact Py l A c i W hi ((HP.only ho).ag4 h0)
  rw[←hq]at HF;clear hq hP h0;obtain⟨t,j,y⟩:=q;obtain⟨n,HN⟩:=ak l.length;rw[←HN]at HF Y JZ hi hlen;go_in;go_wp2_with fail;rw[←aa];refine wp_region_held_drew (S:=fun W=>kF W R A n c i 0 V) (by kernel_rfl) (Y.bN.drewN 1) (fun D=>?_);obtain⟨Wc,ae⟩:=aj w1.drew;have G:Hid (Od w R A n c i 0 V w.heap.size (.cells #[.int .i64 0,.int .i64 0,.string ⟨#[]⟩,.slice none 0 0] 64 (0,0)) Wc):=by show Od _ _ _ _ _ _ _ _ _ _ _;rw[ae];exact⟨Y.bN.drewN 1,Y.only.drewN 1,Y.box⟩
  rw[←ae]at D⊢;clear ae Y c2
  repeat
   (first|refine aI 0 (v:=?_) rfl ?hy ?_|refine aI 1 (v:=?_) rfl ?hy ?_|refine aI 2 (v:=?_) rfl ?hy ?_|refine aI 3 (v:=?_) rfl ?hy ?_|refine aI 4 (v:=?_) rfl ?hy ?_|refine aI 5 (v:=?_) rfl ?hy ?_|refine aI 6 (v:=?_) rfl ?hy ?_|refine aI 7 (v:=?_) rfl ?hy ?_|refine aI 8 (v:=?_) rfl ?hy ?_|refine aI 9 (v:=?_) rfl ?hy ?_|refine aI 11 (v:=?_) rfl ?hy ?_|refine aI 12 (v:=?_) rfl ?hy ?_|refine aI 13 (v:=?_) rfl ?hy ?_|refine aI 14 (v:=?_) rfl ?hy ?_|refine aI 17 (v:=?_) rfl ?hy ?_|refine aI 18 (v:=?_) rfl ?hy ?_
    case hy=>
     intro w0 hS;have c0:=hS.c0;have c1:=hS.c1;clear hS;go_simp
     (first|done|with_reducible rfl)
    try simp only[Act.put,aT,aU,aV])
  iterate 3
   all_goals first
    |refine Rd (rs:=[10,15]) (by decide +kernel) (by simp) (Rc (EU rfl) (fun K hK=>?_) (Rc (EU rfl) (fun K hK=>?_) Rn))
    |refine Rd (rs:=[15]) (by decide +kernel) (by simp) (Rc (EU rfl) (fun K hK=>?_) Rn)
    |refine Rd (rs:=[10]) (by decide +kernel) (by simp) (Rc (EU rfl) (fun K hK=>?_) Rn)
    |refine Rd (rs:=[16]) (by decide +kernel) (by simp) (Rc (EU rfl) (fun K hK=>?_) Rn)
    |fail
   all_goals first
    |(go_simp
      clear D;(with_reducible refine(JZ.out _ G.out.only).mono ?_);rintro e Wc ⟨J,c5,rfl,ag,I⟩;simp only[Tm.val];obtain⟨n5,EP⟩:=ak t.kids.length;rw[←EP];refine hK.out _ _ (G.below I).bN (fun D=>?_);clear hK K;try simp only[Act.put,aT,aU,aV]
      first
       |(have HV:Hid (aD (fun q=>w.heap.size<q∧q≠O) Wc J c5 t):=ag.keep Kr (fun q _ h=>by have:=lH X3;have:=lH G.box;omega)
         replace X3:=kX I X3)
       |(have vH:Hid (aD (fun q=>w.heap.size<q) Wc J c5 t):=ag.keep Kr (fun q _ h=>by have:=lH G.box;omega))
      replace G:=Hd (G.below I)
      clear ag I)
    |(go_simp
      clear D;refine hK.out _ _ (G.below ((Br _ _).alloc (lr _) (.cells #[.int .i64 0,.int .i64 0,.string ⟨#[]⟩,.slice none 0 0] 64))).bN (fun D=>?_);clear hK K;(try simp only[Act.put,aT,aU,aV]);obtain⟨O,af⟩:=aj Wc.heap.size;obtain⟨Wd,hV⟩:=aj (Wc.alloc (.cells #[.int .i64 0,.int .i64 0,.string ⟨#[]⟩,.slice none 0 0] 64));have tF:O≠R:=by have:=G.bN.lt;omega
      have Ew:w.heap.size<O:=by have:=lH G.box;omega
      have I:=dz hV;have X3:=jZ hV af;replace G:=Hd (G.below I)
      first
       |(have HV:Hid (aD (fun q=>w.heap.size<q∧q≠O) Wd J c5 t):=(vH.keep (S':=fun q=>w.heap.size<q∧q≠O) Kr (fun q hq h=>⟨h,by omega⟩)).keep (Kb I) (fun _ _ h=>h)
         clear vH)
       |skip
      rw[←hV]at D;rw[←hV,←af];clear hV af I Wc
      rename World=>Wc)
    |(obtain⟨v0,v1,v2,v3,vz⟩:=q4 X3
      go_simp;clear D v0 v1 v2 v3 vz;refine hK.out _ _ (G.aside (AU _ _ _ _) (Nat.le_of_lt Ew) (by omega) tF).bN (fun D=>?_);clear hK K
      try simp only[Act.put,aT,aU,aV])
    |fail
   all_goals
    repeat
     (first|refine aI 0 (v:=?_) rfl ?hy ?_|refine aI 1 (v:=?_) rfl ?hy ?_|refine aI 2 (v:=?_) rfl ?hy ?_|refine aI 3 (v:=?_) rfl ?hy ?_|refine aI 4 (v:=?_) rfl ?hy ?_|refine aI 5 (v:=?_) rfl ?hy ?_|refine aI 6 (v:=?_) rfl ?hy ?_|refine aI 7 (v:=?_) rfl ?hy ?_|refine aI 8 (v:=?_) rfl ?hy ?_|refine aI 9 (v:=?_) rfl ?hy ?_|refine aI 11 (v:=?_) rfl ?hy ?_|refine aI 12 (v:=?_) rfl ?hy ?_|refine aI 13 (v:=?_) rfl ?hy ?_|refine aI 14 (v:=?_) rfl ?hy ?_|refine aI 17 (v:=?_) rfl ?hy ?_|refine aI 18 (v:=?_) rfl ?hy ?_
      case hy=>
       intro w0 hS;have c0:=hS.c0;have c1:=hS.c1;clear hS;go_simp
       (first|done|with_reducible rfl)
      try simp only[Act.put,aT,aU,aV])
  all_goals refine wpAnyH_done (by decide +kernel) ?_ _
  all_goals
   clear D;obtain⟨w6,mV⟩:=aj ((((Wc.setCell ⟨O,0,none⟩ (.int .i64 t.op)).setCell ⟨O,1,none⟩ (.int .i64 t.num)).setCell ⟨O,2,none⟩ (.string t.name)).setCell ⟨O,3,none⟩ (.slice J n5 c5));have Y3:Hid (w6.heap[O]?=some (.cells #[.int .i64 t.op,.int .i64 t.num,.string t.name,.slice J n5 c5] 64 (0,0))):=by show _=_;rw[mV];exact ni X3
   have YB:Hid (Od w R A n c i 0 V w.heap.size (.cells #[.int .i64 0,.int .i64 0,.string ⟨#[]⟩,.slice none 0 0] 64 (0,0)) w6):=by show Od _ _ _ _ _ _ _ _ _ _ _;rw[mV];exact G.aside (AU _ _ _ _) (Nat.le_of_lt Ew) (by omega) tF
   have YV:Hid (aD (fun q=>w.heap.size<q∧q≠O) w6 J c5 t):=by show aD _ _ _ _ _;rw[mV];exact HV.keep (aR.cO (AU _ _ _ _) (by simp)) (fun _ _ h=>h)
   rw[←mV];clear mV X3 G HV;have c1:=YB.bN.c1;have f1:=YB.bN.frozen 1;have ao:=YB.bN.lt;go_wp2_with fail;clear c1 f1;have Ep:kF (w6.setCell ⟨R,1,none⟩ (.int .i64 (j:Nat))) R A n c j 0 V∧Only (fun q=>q=R) w6 (w6.setCell ⟨R,1,none⟩ (.int .i64 (j:Nat))):=⟨YB.bN.at_ j,setAt _⟩;obtain⟨w7,ai⟩:=aj (w6.setCell ⟨R,1,none⟩ (.int .i64 (j:Nat)));rw[←ai]at Ep⊢;clear ai;refine(qK R A n c j 0 y V w7 Ep.1).mono ?_;rintro e w8 ⟨rfl,ab⟩;rw[iP rfl]at ab;have FJ:=Ep.2.trans ab.2.1;have X3:=Hd ((FJ.block O (lH Y3) tF).trans Y3);have HV:Hid (aD (fun q=>w.heap.size<q∧q≠O) w8 J c5 t):=YV.keep (aR.cO FJ (by omega)) (fun _ _ h=>h);have G:=Hd (YB.go ⟨ab.1,FJ⟩ (by omega));clear Ep ab FJ Y3 YV YB;obtain⟨v0,v1,v2,v3,vz⟩:=q4 X3;obtain⟨u0,u1,u2,u3,uz⟩:=q4 G.box;have av:=lH X3;have sG:=lH G.box;go_wp2_with fail;clear v0 v1 v2 v3 vz u0 u1 u2 u3 uz;refine bR (Gg (ni G.box)) rfl ?_;rw[HF];exact⟨⟨J,c5,by unfold Tm.val;rw[←EP],HV.keep (aR.cO (AU _ _ _ _) (by omega)) (fun q _ h=>by omega)⟩,GV G (AU _ _ _ _) (lr _) (by omega)⟩
 ·have hb:(x != 0)=true:=by simpa using hx
  rw[iP hx]at HF;obtain⟨u0,u1,u2,u3,uz⟩:=q4 Y.box;have sG:=lH Y.box;clear hx hP;go_in;go_wp2_with fail;rw[←aa];refine bR (Gg Y.box) rfl ?_;rw[HF];exact⟨⟨none,0,rfl,aD.leaf (zl _)⟩,Y.bN,Y.only⟩
theorem ab2(R:Nat)(A:Option Addr)(c i:Nat)(l:List Tok)(x:Int)(V:Nat→Value)(w:World)(hR:kF w R A l.length c i x V)(hP:iI w R A c l)(hi:i≤l.length)(h0:0<l.length) :
 Calls Tryz.prog 44 #[.pointer (some ⟨R,0,none⟩)] w fun e w'=>(∃f:FV,e=.returned f.val∧f.Is (fun q=>w.heap.size≤q) w' (ow l i x).1)∧Er R A l.length c V (ow l i x).2.1 (ow l i x).2.2 w w':=by
 obtain⟨F,HF⟩:=ak (fun(e:Ending)(w':World)=>(∃f:FV,e=.returned f.val∧f.Is (fun q=>w.heap.size≤q) w' (ow l i x).1)∧Er R A l.length c V (ow l i x).2.1 (ow l i x).2.2 w w');rw[←HF];unfold ow at HF;obtain⟨w1,Y⟩:=ak (w.alloc (.cells #[.int .i64 0,.int .i64 0,.int .i64 0,.string ⟨#[]⟩,.slice none 0 0,.slice none 0 0] 67));have hb1:=dz Y;have ao:=sAl Y;have x1:=jZ Y rfl;have fC:=hR.lt;have c2:=hR.c2;have O:Hid (Od w R A l.length c i x V w.heap.size (.cells #[.int .i64 0,.int .i64 0,.int .i64 0,.string ⟨#[]⟩,.slice none 0 0,.slice none 0 0] 67 (0,0)) w1):=⟨hR.below hb1 hR.lt,Ob hb1,x1.out⟩;clear x1 hR
 by_cases hx:x=0
 ·subst hx;rw[iN (fun h=>h rfl)]at HF;have HP:=Hd hP;have hlen:=hP.len;obtain⟨q,hq⟩:=aj (nN l i)
  have JZ:Hid (∀W,Only (fun q=>q=R) w W→Calls Tryz.prog 82 #[.slice A l.length c,.int .i64 (i:Nat)] W (Yt W q)):=fun W ho=>by
   rw[hq];exact ab1 l A c i W hi ((HP.only ho).ag4 h0)
  rw[←hq]at HF;clear hq hP h0;obtain⟨t,j,y⟩:=q;obtain⟨n,HN⟩:=ak l.length;rw[←HN]at HF O JZ hi hlen;go_in;go_wp2_with fail;rw[←Y];refine wp_region_held_drew (S:=fun W=>kF W R A n c i 0 V) (by kernel_rfl) (O.bN.drewN 1) (fun D=>?_);obtain⟨Wc,ab⟩:=aj w1.drew;have G:Hid (Od w R A n c i 0 V w.heap.size (.cells #[.int .i64 0,.int .i64 0,.int .i64 0,.string ⟨#[]⟩,.slice none 0 0,.slice none 0 0] 67 (0,0)) Wc):=by show Od _ _ _ _ _ _ _ _ _ _ _;rw[ab];exact⟨O.bN.drewN 1,O.only.drewN 1,O.box⟩
  rw[←ab]at D⊢;clear ab O c2
  repeat
   (first|refine aI 0 (v:=?_) rfl ?hy ?_|refine aI 1 (v:=?_) rfl ?hy ?_|refine aI 2 (v:=?_) rfl ?hy ?_|refine aI 3 (v:=?_) rfl ?hy ?_|refine aI 4 (v:=?_) rfl ?hy ?_|refine aI 5 (v:=?_) rfl ?hy ?_|refine aI 6 (v:=?_) rfl ?hy ?_|refine aI 7 (v:=?_) rfl ?hy ?_|refine aI 8 (v:=?_) rfl ?hy ?_|refine aI 9 (v:=?_) rfl ?hy ?_|refine aI 11 (v:=?_) rfl ?hy ?_|refine aI 12 (v:=?_) rfl ?hy ?_|refine aI 13 (v:=?_) rfl ?hy ?_|refine aI 14 (v:=?_) rfl ?hy ?_|refine aI 17 (v:=?_) rfl ?hy ?_|refine aI 18 (v:=?_) rfl ?hy ?_
    case hy=>
     intro w0 hS;have c0:=hS.c0;have c1:=hS.c1;clear hS;go_simp
     (first|done|with_reducible rfl)
    try simp only[Act.put,aT,aU,aV])
  iterate 3
   all_goals first
    |refine Rd (rs:=[10,15]) (by decide +kernel) (by simp) (Rc (EU rfl) (fun K hK=>?_) (Rc (EU rfl) (fun K hK=>?_) Rn))
    |refine Rd (rs:=[15]) (by decide +kernel) (by simp) (Rc (EU rfl) (fun K hK=>?_) Rn)
    |refine Rd (rs:=[10]) (by decide +kernel) (by simp) (Rc (EU rfl) (fun K hK=>?_) Rn)
    |refine Rd (rs:=[16]) (by decide +kernel) (by simp) (Rc (EU rfl) (fun K hK=>?_) Rn)
    |fail
   all_goals first
    |(go_simp
      clear D;(with_reducible refine(JZ.out _ G.out.only).mono ?_);rintro e Wc ⟨f,rfl,af,I⟩;simp only[FV.val];refine hK.out _ _ (G.below I).bN (fun D=>?_);clear hK K;try simp only[Act.put,aT,aU,aV]
      first
       |(have HV:Hid (f.Is (fun q=>w.heap.size<q∧q≠J) Wc t):=af.keep Kr (fun q _ h=>by have:=lH X3;have:=lH G.box;omega)
         replace X3:=kX I X3)
       |(have vH:Hid (f.Is (fun q=>w.heap.size<q) Wc t):=af.keep Kr (fun q _ h=>by have:=lH G.box;omega))
      replace G:=Hd (G.below I)
      clear af I)
    |(go_simp
      clear D;refine hK.out _ _ (G.below ((Br _ _).alloc (lr _) (.cells #[.int .i64 0,.int .i64 0,.int .i64 0,.string ⟨#[]⟩,.slice none 0 0,.slice none 0 0] 67))).bN (fun D=>?_);clear hK K;(try simp only[Act.put,aT,aU,aV]);obtain⟨J,ae⟩:=aj Wc.heap.size;obtain⟨Wd,hV⟩:=aj (Wc.alloc (.cells #[.int .i64 0,.int .i64 0,.int .i64 0,.string ⟨#[]⟩,.slice none 0 0,.slice none 0 0] 67));have tF:J≠R:=by have:=G.bN.lt;omega
      have Ew:w.heap.size<J:=by have:=lH G.box;omega
      have I:=dz hV;have X3:=jZ hV ae;replace G:=Hd (G.below I)
      first
       |(have HV:Hid (f.Is (fun q=>w.heap.size<q∧q≠J) Wd t):=(vH.keep (S':=fun q=>w.heap.size<q∧q≠J) Kr (fun q hq h=>⟨h,by omega⟩)).keep (Kb I) (fun _ _ h=>h)
         clear vH)
       |skip
      rw[←hV]at D;rw[←hV,←ae];clear hV ae I Wc
      rename World=>Wc)
    |(obtain⟨v0,v1,v2,v3,v4,v5,vz⟩:=q6 X3
      go_simp;clear D v0 v1 v2 v3 v4 v5 vz;refine hK.out _ _ (G.aside (GU _ _ _ _ _ _) (Nat.le_of_lt Ew) (by omega) tF).bN (fun D=>?_);clear hK K
      try simp only[Act.put,aT,aU,aV])
    |fail
   all_goals
    repeat
     (first|refine aI 0 (v:=?_) rfl ?hy ?_|refine aI 1 (v:=?_) rfl ?hy ?_|refine aI 2 (v:=?_) rfl ?hy ?_|refine aI 3 (v:=?_) rfl ?hy ?_|refine aI 4 (v:=?_) rfl ?hy ?_|refine aI 5 (v:=?_) rfl ?hy ?_|refine aI 6 (v:=?_) rfl ?hy ?_|refine aI 7 (v:=?_) rfl ?hy ?_|refine aI 8 (v:=?_) rfl ?hy ?_|refine aI 9 (v:=?_) rfl ?hy ?_|refine aI 11 (v:=?_) rfl ?hy ?_|refine aI 12 (v:=?_) rfl ?hy ?_|refine aI 13 (v:=?_) rfl ?hy ?_|refine aI 14 (v:=?_) rfl ?hy ?_|refine aI 17 (v:=?_) rfl ?hy ?_|refine aI 18 (v:=?_) rfl ?hy ?_
      case hy=>
       intro w0 hS;have c0:=hS.c0;have c1:=hS.c1;clear hS;go_simp
       (first|done|with_reducible rfl)
      try simp only[Act.put,aT,aU,aV])
  all_goals refine wpAnyH_done (by decide +kernel) ?_ _
  all_goals
   clear D;obtain⟨w6,mV⟩:=aj ((((((Wc.setCell ⟨J,0,none⟩ (.int .i64 f.o)).setCell ⟨J,1,none⟩ (.int .i64 f.tn)).setCell ⟨J,2,none⟩ (.int .i64 f.tm)).setCell ⟨J,3,none⟩ (.string f.s)).setCell ⟨J,4,none⟩ (.slice f.Ae f.ne f.ce)).setCell ⟨J,5,none⟩ (.slice f.A f.n f.c));have Y3:Hid (w6.heap[J]?=some (.cells #[.int .i64 f.o,.int .i64 f.tn,.int .i64 f.tm,.string f.s,.slice f.Ae f.ne f.ce,.slice f.A f.n f.c] 67 (0,0))):=by show _=_;rw[mV];exact jD X3
   have YB:Hid (Od w R A n c i 0 V w.heap.size (.cells #[.int .i64 0,.int .i64 0,.int .i64 0,.string ⟨#[]⟩,.slice none 0 0,.slice none 0 0] 67 (0,0)) w6):=by show Od _ _ _ _ _ _ _ _ _ _ _;rw[mV];exact G.aside (GU _ _ _ _ _ _) (Nat.le_of_lt Ew) (by omega) tF
   have YV:Hid (f.Is (fun q=>w.heap.size<q∧q≠J) w6 t):=by show FV.Is _ _ _ _;rw[mV];exact HV.keep (aR.cO (GU _ _ _ _ _ _) (by simp)) (fun _ _ h=>h)
   rw[←mV];clear mV X3 G HV;have c1:=YB.bN.c1;have f1:=YB.bN.frozen 1;have ai:=YB.bN.lt;go_wp2_with fail;clear c1 f1;have Ep:kF (w6.setCell ⟨R,1,none⟩ (.int .i64 (j:Nat))) R A n c j 0 V∧Only (fun q=>q=R) w6 (w6.setCell ⟨R,1,none⟩ (.int .i64 (j:Nat))):=⟨YB.bN.at_ j,setAt _⟩;obtain⟨w7,ag⟩:=aj (w6.setCell ⟨R,1,none⟩ (.int .i64 (j:Nat)));rw[←ag]at Ep⊢;clear ag;refine(qK R A n c j 0 y V w7 Ep.1).mono ?_;rintro e w8 ⟨rfl,aa⟩;rw[iP rfl]at aa;have FJ:=Ep.2.trans aa.2.1;have X3:=Hd ((FJ.block J (lH Y3) tF).trans Y3);have HV:Hid (f.Is (fun q=>w.heap.size<q∧q≠J) w8 t):=YV.keep (aR.cO FJ (by omega)) (fun _ _ h=>h);have G:=Hd (YB.go ⟨aa.1,FJ⟩ (by omega));clear Ep aa FJ Y3 YV YB;obtain⟨v0,v1,v2,v3,v4,v5,vz⟩:=q6 X3;obtain⟨u0,u1,u2,u3,u4,u5,uz⟩:=q6 G.box;have ar:=lH X3;have sG:=lH G.box;go_wp2_with fail;clear v0 v1 v2 v3 v4 v5 vz u0 u1 u2 u3 u4 u5 uz;refine bR (Ki (jD G.box)) rfl ?_;rw[HF];exact⟨⟨f,rfl,HV.keep (aR.cO (GU _ _ _ _ _ _) (by omega)) (fun q _ h=>by omega)⟩,GV G (GU _ _ _ _ _ _) (lr _) (by omega)⟩
 ·have hb:(x != 0)=true:=by simpa using hx
  rw[iP hx]at HF;obtain⟨u0,u1,u2,u3,u4,u5,uz⟩:=q6 O.box;have sG:=lH O.box;clear hx hP;go_in;go_wp2_with fail;rw[←Y];refine bR (Ki O.box) rfl ?_;rw[HF];exact⟨⟨FV.zero,rfl,FV.G9⟩,O.bN,O.only⟩
theorem zX{l:List Tok}{k:Int}{s:Bs}{i:Nat}{x:Int}(h:i≤l.length):(bO l k s i x).1≤l.length:=by
 unfold bO
 split
 ·exact h
 split
 ·rename_i h2;have:=Ck h2;show i+1≤_;omega
 ·exact h
theorem aaY{l:List Tok}{i:Nat}{k:Int}(h:jd l i k=true):i<l.length:=by
 obtain⟨t,ht,-⟩:=wh h;exact(gE.1 ht).1
theorem Hf{l:List Tok}{i:Nat}{x:Int}(h:i≤l.length):(bX l i x).2.1≤l.length:=by
 unfold bX
 split
 ·exact h
 split
 ·rename_i h2;have:=aaY h2;show i+1≤_;omega
 ·exact h
theorem ad7{l:List Tok}{i:Nat}(h:i≤l.length):BD l i≤l.length:=by
 unfold BD
 split
 ·rename_i h2;have:=Ck h2;omega
 ·exact h
theorem Yu{l:List Tok}{i:Nat}{x:Int}(h:i≤l.length):(I8 l i x).2.1≤l.length:=by
 have hs:=ad7 h;unfold I8
 split
 ·exact h
 split
 ·rename_i h2;have:=aaY h2;show BD l i+1≤_;omega
 ·exact hs
def nJ(l:List Tok)(i:Nat)(x:Int):(ByteArray×Bool×Int×Int)×Nat×Int:=
 if (bO l 4 [58] (bX l i x).2.1 (bX l i x).2.2).2=0∧ah l (bO l 4 [58] (bX l i x).2.1 (bX l i x).2.2).1 3 [98,111,111,108]=true then(((bX l i x).1,true,0,0),(bO l 4 [58] (bX l i x).2.1 (bX l i x).2.2).1+1,0)
 else
  let c:=I8 l (bO l 4 [58] (bX l i x).2.1 (bX l i x).2.2).1 (bO l 4 [58] (bX l i x).2.1 (bX l i x).2.2).2
  let d:=bO l 4 [46,46] c.2.1 c.2.2
  let e:=I8 l d.1 d.2
  (((bX l i x).1,false,c.1,e.1),e.2.1,e.2.2)
theorem ad8(R:Nat)(A:Option Addr)(c i:Nat)(l:List Tok)(x:Int)(V:Nat→Value)(w:World)(hR:kF w R A l.length c i x V)(hP:iI w R A c l)(hi:i≤l.length) :
 Calls Tryz.prog 40 #[.pointer (some ⟨R,0,none⟩)] w fun e w'=>e=.returned (.agg #[.string (nJ l i x).1.1,.bool (nJ l i x).1.2.1,.int .i64 (nJ l i x).1.2.2.1,.int .i64 (nJ l i x).1.2.2.2])∧Er R A l.length c V (nJ l i x).2.1 (nJ l i x).2.2 w w':=by
 obtain⟨F,HF⟩:=ak (fun(e:Ending)(w':World)=>e=.returned (.agg #[.string (nJ l i x).1.1,.bool (nJ l i x).1.2.1,.int .i64 (nJ l i x).1.2.2.1,.int .i64 (nJ l i x).1.2.2.2])∧Er R A l.length c V (nJ l i x).2.1 (nJ l i x).2.2 w w');rw[←HF];unfold nJ at HF
 dsimp only at HF
 have hlen:=hP.len;have Iz:=Hd (fun W (hr:kF W R A l.length c i x V) (J:Only (fun q=>q=R) w W)=>I9 R A c i l x V W hr (hP.only J) hi);have ar:=Hf (x:=x) hi
 generalize bX l i x=a at *
 obtain⟨s,i1,x1⟩:=a;have Rw:=Hd (fun W (hr:kF W R A l.length c i1 x1 V) (J:Only (fun q=>q=R) w W)=>DU R A c i1 l x1 V 4 ⟨#[58]⟩ W hr (hP.only J) (fun _=>by simp only at ar;omega));rw[show bs ⟨#[58]⟩=[58]from rfl]at Rw;have af:=zX (l:=l) (k:=4) (s:=[58]) (x:=x1) ar
 generalize bO l 4 [58] i1 x1=b at *
 obtain⟨i2,Y⟩:=b;have VN:=Hd (fun W (hr:kF W R A l.length c i2 Y V) (J:Only (fun q=>q=R) w W)=>DT R A c i2 l Y V 3 ⟨#[98,111,111,108]⟩ W hr (hP.only J) (by simp only at af;omega));rw[show bs ⟨#[98,111,111,108]⟩=[98,111,111,108]from rfl]at VN;have kU:=Hd (fun W (hr:kF W R A l.length c i2 Y V) (J:Only (fun q=>q=R) w W)=>Uf R A c i2 l Y V W hr (hP.only J) af);have av:=Yu (x:=Y) af
 generalize I8 l i2 Y=b at *
 obtain⟨lo,i3,x3⟩:=b;have sH:=Hd (fun W (hr:kF W R A l.length c i3 x3 V) (J:Only (fun q=>q=R) w W)=>DU R A c i3 l x3 V 4 ⟨#[46,46]⟩ W hr (hP.only J) (fun _=>by simp only at av;omega));rw[show bs ⟨#[46,46]⟩=[46,46]from rfl]at sH;have ax:=zX (l:=l) (k:=4) (s:=[46,46]) (x:=x3) av
 generalize bO l 4 [46,46] i3 x3=b at *
 obtain⟨i4,x4⟩:=b;have AV:=Hd (fun W (hr:kF W R A l.length c i4 x4 V) (J:Only (fun q=>q=R) w W)=>Uf R A c i4 l x4 V W hr (hP.only J) ax)
 generalize I8 l i4 x4=b at *
 obtain⟨hh,i5,x5⟩:=b;simp only at HF Iz Rw VN kU sH AV;obtain⟨w1,ab⟩:=ak (w.alloc (.cells #[.string ⟨#[]⟩,.bool false,.int .i64 0,.int .i64 0] 45));have hb1:=dz ab;have fC:=hR.lt;have D:Hid (Od w R A l.length c i x V w.heap.size (.cells #[.string ⟨#[]⟩,.bool false,.int .i64 0,.int .i64 0] 45 (0,0)) w1):=⟨hR.below hb1 hR.lt,Ob hb1,(jZ ab rfl).out⟩;clear hb1 hR hP ar af av ax;go_in;go_wp2_with fail;rw[←ab];refine(Iz _ D.bN D.only).mono ?_;rintro e w2 ⟨rfl,I⟩;replace D:=Hd (D.go I.two (by omega));clear I Iz ab;go_wp2_with fail;obtain⟨O,ao⟩:=aj w2.heap.size;obtain⟨w3,ag⟩:=aj (w2.alloc (.cells #[.string s,.bool false,.int .i64 0,.int .i64 0] 45));have tF:O≠R:=by have:=D.bN.lt;omega
 have Ew:w.heap.size<O:=by have:=lH D.box;omega
 have G:=jZ ag ao;replace D:=Hd (D.below (dz ag));rw[←ag,←ao];clear ag ao;refine(Rw _ D.bN D.only).mono ?_;rintro e w4 ⟨rfl,I⟩;replace G:=Hd ((I.2.1.block O (lH G) tF).trans G);replace D:=Hd (D.go I.two (by omega));clear I Rw;have c2:=D.bN.c2
 have ae:(Y=0∧ah l i2 3 [98,111,111,108]=true)∨(Y=0∧ah l i2 3 [98,111,111,108]=false)∨((Y==0)=false∧Y≠0):=by
  by_cases h:Y=0
  ·cases hk:ah l i2 3 [98,111,111,108]
   ·exact .inr (.inl ⟨h,rfl⟩)
   ·exact .inl ⟨h,rfl⟩
  ·exact .inr (.inr ⟨by simpa using h,h⟩)
 rcases ae with⟨h,hk⟩|ae
 ·subst h;rw[iP ⟨rfl,hk⟩]at HF;rw[hk]at VN;clear hk;go_wp2_with fail;refine(VN _ D.bN D.only).mono ?_;rintro e w5 ⟨rfl,I⟩;replace G:=Hd ((I.2.1.block O (lH G) tF).trans G);replace D:=Hd (D.go I.two (by omega));clear I VN c2;obtain⟨v0,v1,v2,v3,vz⟩:=q4 G;obtain⟨u0,u1,u2,u3,uz⟩:=q4 D.box;have aw:=lH G;have sG:=lH D.box;go_wp2_with fail;clear v0 v1 v2 v3 vz u0 u1 u2 u3 uz;have aa:=Hd (D.aside (setAt (b:=O) (o:=1) (.bool true)) (Nat.le_of_lt Ew) (by omega) tF);refine bR (rcA Tryz.underlying45 (s4A aa.box)) rfl ?_;rw[HF];exact⟨rfl,GV aa (AU _ _ _ _) (lr _) (by omega)⟩
 ·have hn:¬(Y=0∧ah l i2 3 [98,111,111,108]=true):=by
   rcases ae with h|h
   ·rw[h.2];simp
   ·exact fun k=>h.2 k.1
  rw[iN hn]at HF;clear hn
  rcases ae with⟨h,hk⟩|⟨hb,hk⟩
  all_goals first
   |(subst h
     rw[hk]at VN;clear hk;go_wp2_with fail;refine(VN _ D.bN D.only).mono ?_;rintro e w5 ⟨rfl,I⟩;replace G:=Hd ((I.2.1.block O (lH G) tF).trans G);replace D:=Hd (D.go I.two (by omega));clear I VN c2
     go_wp2_with fail)
   |(clear hk VN
     go_wp2_with fail
     clear c2 hb)
   |fail
  all_goals
   refine(kU _ D.bN D.only).mono ?_;rintro e w6 ⟨rfl,I⟩;replace G:=Hd ((I.2.1.block O (lH G) tF).trans G);replace D:=Hd (D.go I.two (by omega));clear I kU;obtain⟨v0,v1,v2,v3,vz⟩:=q4 G;have aw:=lH G;go_wp2_with fail;clear v0 v1 v2 v3 vz aw;obtain⟨w7,ai⟩:=aj (w6.setCell ⟨O,2,none⟩ (.int .i64 lo));have J:Only (fun q=>q=O) w6 w7:=by rw[ai];exact setAt _
   replace G:Hid (w7.heap[O]?=some (.cells #[.string s,.bool false,.int .i64 lo,.int .i64 0] 45 (0,0))):=by show _=_;rw[ai];exact afW G 2 _
   replace D:=Hd (D.aside J (Nat.le_of_lt Ew) (by omega) tF);rw[←ai];clear ai J;refine(sH _ D.bN D.only).mono ?_;rintro e w8 ⟨rfl,I⟩;replace G:=Hd ((I.2.1.block O (lH G) tF).trans G);replace D:=Hd (D.go I.two (by omega));clear I sH;go_wp2_with fail;refine(AV _ D.bN D.only).mono ?_;rintro e w9 ⟨rfl,I⟩;replace G:=Hd ((I.2.1.block O (lH G) tF).trans G);replace D:=Hd (D.go I.two (by omega));clear I AV;obtain⟨v0,v1,v2,v3,vz⟩:=q4 G;obtain⟨u0,u1,u2,u3,uz⟩:=q4 D.box;have aw:=lH G;have sG:=lH D.box;go_wp2_with fail;clear v0 v1 v2 v3 vz u0 u1 u2 u3 uz;have aa:=Hd (D.aside (setAt (b:=O) (o:=3) (.int .i64 hh)) (Nat.le_of_lt Ew) (by omega) tF);refine bR (rcA Tryz.underlying45 (s4A aa.box)) rfl ?_;rw[HF];exact⟨rfl,GV aa (AU _ _ _ _) (lr _) (by omega)⟩
def lq(l:List Tok)(i:Nat)(x:Int):(ByteArray×Tm)×Nat×Int:=
 (((bX l i x).1,(dK l (bO l 4 [58,61] (bX l i x).2.1 (bX l i x).2.2).1 (bO l 4 [58,61] (bX l i x).2.1 (bX l i x).2.2).2).1),(dK l (bO l 4 [58,61] (bX l i x).2.1 (bX l i x).2.2).1 (bO l 4 [58,61] (bX l i x).2.1 (bX l i x).2.2).2).2)
def MR(s:ByteArray)(t:Tm)(A:Option Addr)(c:Nat):Value:=.agg #[.string s,.int .i64 t.op,.int .i64 t.num,.string t.name,.slice A t.kids.length c]
theorem Ut(R:Nat)(A:Option Addr)(c i:Nat)(l:List Tok)(x:Int)(V:Nat→Value)(w:World)(hR:kF w R A l.length c i x V)(hP:iI w R A c l)(hi:i≤l.length)(h0:0<l.length) :
 Calls Tryz.prog 41 #[.pointer (some ⟨R,0,none⟩)] w fun e w'=>(∃J c5,e=.returned (MR (lq l i x).1.1 (lq l i x).1.2 J c5)∧aD (fun q=>w.heap.size≤q) w' J c5 (lq l i x).1.2)∧Er R A l.length c V (lq l i x).2.1 (lq l i x).2.2 w w':=by
 obtain⟨F,HF⟩:=ak (fun(e:Ending)(w':World)=>(∃J c5,e=.returned (MR (lq l i x).1.1 (lq l i x).1.2 J c5)∧aD (fun q=>w.heap.size≤q) w' J c5 (lq l i x).1.2)∧Er R A l.length c V (lq l i x).2.1 (lq l i x).2.2 w w');rw[←HF];unfold lq MR at HF
 dsimp only at HF
 have hlen:=hP.len;have Iz:=Hd (fun W (hr:kF W R A l.length c i x V) (ho:Only (fun q=>q=R) w W)=>I9 R A c i l x V W hr (hP.only ho) hi);have ae:=Hf (x:=x) hi
 generalize bX l i x=a at *
 obtain⟨s,i1,x1⟩:=a;have Rw:=Hd (fun W (hr:kF W R A l.length c i1 x1 V) (ho:Only (fun q=>q=R) w W)=>DU R A c i1 l x1 V 4 ⟨#[58,61]⟩ W hr (hP.only ho) (fun _=>by simp only at ae;omega));rw[show bs ⟨#[58,61]⟩=[58,61]from rfl]at Rw;have ag:=zX (l:=l) (k:=4) (s:=[58,61]) (x:=x1) ae
 generalize bO l 4 [58,61] i1 x1=b at *
 obtain⟨i2,x2⟩:=b;have HT:=Hd (fun W (hr:kF W R A l.length c i2 x2 V) (ho:Only (fun q=>q=R) w W)=>zW R A c i2 l x2 V W hr (hP.only ho) ag h0)
 generalize dK l i2 x2=b at *
 obtain⟨t,i3,x3⟩:=b;simp only at HF Iz Rw HT;obtain⟨w1,O⟩:=ak (w.alloc (.cells #[.string ⟨#[]⟩,.int .i64 0,.int .i64 0,.string ⟨#[]⟩,.slice none 0 0] 74));have hb1:=dz O;have fC:=hR.lt;have D:Hid (Od w R A l.length c i x V w.heap.size (.cells #[.string ⟨#[]⟩,.int .i64 0,.int .i64 0,.string ⟨#[]⟩,.slice none 0 0] 74 (0,0)) w1):=⟨hR.below hb1 hR.lt,Ob hb1,(jZ O rfl).out⟩;clear hb1 hR hP ae ag;go_in;go_wp2_with fail;rw[←O];refine(Iz _ D.bN D.only).mono ?_;rintro e w2 ⟨rfl,I⟩;replace D:=Hd (D.go I.two (by omega));clear I Iz O;go_wp2_with fail;obtain⟨G,ab⟩:=aj w2.heap.size;obtain⟨w3,aa⟩:=aj (w2.alloc (.cells #[.string s,.int .i64 0,.int .i64 0,.string ⟨#[]⟩,.slice none 0 0] 74));have tF:G≠R:=by have:=D.bN.lt;omega
 have Ew:w.heap.size<G:=by have:=lH D.box;omega
 have Y:=jZ aa ab;replace D:=Hd (D.below (dz aa));rw[←aa,←ab];clear aa ab;refine(Rw _ D.bN D.only).mono ?_;rintro e w4 ⟨rfl,I⟩;replace Y:=Hd ((I.2.1.block G (lH Y) tF).trans Y);replace D:=Hd (D.go I.two (by omega));clear I Rw;go_wp2_with fail;refine(HT _ D.bN D.only).mono ?_;rintro e w5 ⟨⟨J,c5,rfl,hv⟩,I⟩;have HV:Hid (aD (fun q=>w.heap.size<q∧q≠G) w5 J c5 t):=hv.keep Kr (fun q _ h=>by have:=lH Y;omega);replace Y:=Hd ((I.2.block G (lH Y) tF).trans Y);replace D:=Hd (D.go I (by omega));clear I HT hv;simp only[Tm.val];obtain⟨n5,EP⟩:=ak t.kids.length;rw[←EP];obtain⟨v0,v1,v2,v3,v4,vz⟩:=q5 Y;obtain⟨u0,u1,u2,u3,u4,uz⟩:=q5 D.box;have ai:=lH Y;have sG:=lH D.box;go_wp2_with fail;clear v0 v1 v2 v3 v4 vz u0 u1 u2 u3 u4 uz;have ho:Only (fun q=>q=G) w5 ((((w5.setCell ⟨G,1,none⟩ (.int .i64 t.op)).setCell ⟨G,2,none⟩ (.int .i64 t.num)).setCell ⟨G,3,none⟩ (.string t.name)).setCell ⟨G,4,none⟩ (.slice J n5 c5)):=(((setAt _).trans (setAt _)).trans (setAt _)).trans (setAt _);have af:=Hd (D.aside ho (Nat.le_of_lt Ew) (by omega) tF);refine bR (rcA Tryz.underlying74 (s5A af.box)) rfl ?_;rw[HF]
 exact⟨⟨J,c5,by rw[←EP],(HV.keep (aR.cO ho (by simp)) (fun _ _ h=>h)).keep (aR.cO (aaQ _ _ _ _ _) (by omega)) (fun q _ h=>by omega)⟩,GV af (aaQ _ _ _ _ _) (lr _) (by omega)⟩
def MS(S:Nat→Prop)(w:World)(cs:List Value)(t:Tm):Prop:=∃A c,cs=[.int .i64 t.op,.int .i64 t.num,.string t.name,.slice A t.kids.length c]∧aD S w A c t
def VZ(S:Nat→Prop)(w:World)(cs:List Value):El→Prop
 |.var v=>cs=[.string v.name,.bool v.bool,.int .i64 v.lo,.int .i64 v.hi]
 |.defs d=>∃r,cs=.string d.name::r∧MS S w r d.tm
 |.next d=>∃r,cs=.string d.name::r∧MS S w r d.tm
 |.init t=>MS S w cs t
 |.bF t=>MS S w cs t
 |.trans t=>MS S w cs t
 |.fair t=>MS S w cs t
 |.spec d=>∃x:FV,cs=.string d.name::x.cells∧x.Is S w d.fm
theorem MS.keep{S S':Nat→Prop}{w w':World}{cs:List Value}{t:Tm}(h:MS S w cs t)(D:aR S w w')(hS:∀q,q<w.heap.size→S q→S' q):MS S' w' cs t:=by
 obtain⟨A,c,h1,h2⟩:=h;exact⟨A,c,h1,h2.keep D hS⟩
theorem VZ.keep{S S':Nat→Prop}{w w':World}{cs:List Value}{e:El}(h:VZ S w cs e)(D:aR S w w')(hS:∀q,q<w.heap.size→S q→S' q):VZ S' w' cs e:=by
 cases e with
 |var v=>exact h
 |defs d=>obtain⟨r,h1,h2⟩:=h;exact⟨r,h1,h2.keep D hS⟩
 |next d=>obtain⟨r,h1,h2⟩:=h;exact⟨r,h1,h2.keep D hS⟩
 |init t=>exact MS.keep h D hS
 |bF t=>exact MS.keep h D hS
 |trans t=>exact MS.keep h D hS
 |fair t=>exact MS.keep h D hS
 |spec d=>obtain⟨x,h1,h2⟩:=h;exact⟨x,h1,h2.keep D hS⟩
def tH(S:Nat→Prop)(w:World):List (List Value)→List El→Prop
 |[],[]=>True
 |c::cs,e::es=>VZ S w c e∧tH S w cs es
 |_,_=>False
theorem tH.keep{S S':Nat→Prop}{w w':World}(D:aR S w w')(hS:∀q,q<w.heap.size→S q→S' q):∀{cs:List (List Value)}{es:List El},tH S w cs es→tH S' w' cs es
 |[],[],_=>trivial
 |c::cs,e::es,h=>⟨VZ.keep h.1 D hS,tH.keep D hS h.2⟩
 |[],_::_,h=>h.elim
 |_::_,[],h=>h.elim
theorem tH.snoc{S:Nat→Prop}{w:World}{c:List Value}{e:El}(hc:VZ S w c e):∀{cs:List (List Value)}{es:List El},tH S w cs es→tH S w (cs++[c]) (es++[e])
 |[],[],_=>⟨hc,trivial⟩
 |c'::cs,e'::es,h=>⟨h.1,tH.snoc hc h.2⟩
 |[],_::_,h=>h.elim
 |_::_,[],h=>h.elim
def mT:Nat→TypeId
 |0=>45
 |1=>74
 |4=>74
 |7=>69
 |_=>64
def mS:Nat→Nat
 |1=>5
 |4=>5
 |7=>7
 |_=>4
def EW(B R:Nat)(V:Nat→Value)(q:Nat):Prop:=B≤q∧q≠R∧∀k,k<8→(V k).ownBlock≠some q
structure qZ(w:World)(B R:Nat)(V:Nat→Value)(X:Nat→List (List Value))(G:Nat→List El)(D S:Nat→Prop):Prop where
 own:∀k,k<8→D k→w.ownsRow B (mT k) (mS k) (V k) (G k).length (X k).flatten
 vals:∀k,k<8→tH S w (X k) (G k)
 sub:∀q,S q→EW B R V q
 lt:∀k,k<8→∀q,(V k).ownBlock=some q→B≤q∧q<w.heap.size∧q≠R
 ap:∀j k,j<8→k<8→j≠k→∀q,(V j).ownBlock=some q→(V k).ownBlock≠some q
theorem oC{w w':World}{B n s:Nat}{T:TypeId}{v:Value}{xs:List Value}(h:w.ownsRow B T s v n xs)(hq:∀q,v.ownBlock=some q→w'.heap[q]?=w.heap[q]?):w'.ownsRow B T s v n xs:=by
 refine⟨h.1,?_⟩
 rcases h.2 with hn|⟨g,cap,cur,rfl,hb,D,rest⟩
 ·exact .inl hn
 ·exact .inr ⟨g,cap,cur,rfl,hb,(hq g rfl).trans D,rest⟩
section
variable {w w':World} {B R:Nat} {V:Nat→Value} {X:Nat→List (List Value)} {G:Nat→List El} {D S:Nat→Prop}
theorem qZ.nil(w:World)(B R:Nat):qZ w B R (fun _=>.slice none 0 0) (fun _=>[]) (fun _=>[]) D (EW B R fun _=>.slice none 0 0):=
 ⟨fun k _ _=>World.ownsRow_nil _ _ _ _,fun _ _=>trivial,fun _ h=>h,(fun _ _ q h=>by simp[Value.ownBlock]at h),(fun _ _ _ _ _ q h=>by simp[Value.ownBlock]at h)⟩
theorem qZ.move(h:qZ w B R V X G D S)(J:∀q,B≤q→q<w.heap.size→q≠R→w'.heap[q]?=w.heap[q]?)(hs:w.heap.size≤w'.heap.size):qZ w' B R V X G D S:=
 ⟨fun k I O=>oC (h.own k I O) (fun q hq=>J q (h.lt k I q hq).1 (h.lt k I q hq).2.1 (h.lt k I q hq).2.2),
  fun k I=>(h.vals k I).keep ⟨hs,fun q hq Y=>J q (h.sub q hq).1 Y (h.sub q hq).2.1⟩ (fun _ _ h=>h),h.sub,
  fun k I q hq=>⟨(h.lt k I q hq).1,lL (h.lt k I q hq).2.1 hs,(h.lt k I q hq).2.2⟩,h.ap⟩
theorem qZ.only(h:qZ w B R V X G D S)(I:Only (fun q=>q=R) w w'):qZ w' B R V X G D S:=h.move (fun q _ J hR=>I.block q J hR) I.size
theorem qZ.grown{W:World}{k g:Nat}(h:qZ w B R V X G D S)(Y:k<8)(O:w.grownBy W (V k).ownBlock)(I:(V k).ownBlock=some g∨g=w.heap.size):qZ W B R V X G (fun j=>j≠k∧D j) (fun q=>S q∧q≠g):=
 ⟨fun j J hD=>oC (h.own j J hD.2) (fun q hq=>O.block q (h.lt j J q hq).2.1 (fun e=>h.ap j k J Y hD.1 q hq e.symm)),
  fun j J=>(h.vals j J).keep ⟨O.size,fun q hq hl=>O.block q hl (fun e=>(h.sub q hq).2.2 k Y e.symm)⟩ (fun q hl hq=>⟨hq,fun e=>by
   rcases I with I|I
   ·exact(h.sub q hq).2.2 k Y (e ▸ I)
   ·omega⟩),fun q hq=>h.sub q hq.1,
  fun j J q hq=>⟨(h.lt j J q hq).1,lL (h.lt j J q hq).2.1 O.size,(h.lt j J q hq).2.2⟩,h.ap⟩
theorem qZ.aside{b k:Nat}(h:qZ w B R V X G D S)(Y:¬D k)(O:Only (fun q=>q=b) w w')(hb:∀q,S q→q≠b)(hj:∀j,j<8→j≠k→(V j).ownBlock≠some b):qZ w' B R V X G D S:=
 ⟨fun j I J=>oC (h.own j I J) (fun q hq=>O.block q (h.lt j I q hq).2.1 (fun e=>hj j I (fun e2=>Y (e2 ▸ J)) (e ▸ hq))),
  fun j I=>(h.vals j I).keep ⟨O.size,fun q hq hl=>O.block q hl (hb q hq)⟩ (fun _ _ h=>h),h.sub,
  fun j I q hq=>⟨(h.lt j I q hq).1,lL (h.lt j I q hq).2.1 O.size,(h.lt j I q hq).2.2⟩,h.ap⟩
def upd{α:Type}(f:Nat→α)(k:Nat)(v:α):Nat→α:=fun j=>if j=k then v else f j
theorem qZ.put{k g n cap:Nat}{cs:List Value}{e:El}{S0:Nat→Prop}(h:qZ w B R V X G (fun j=>j≠k∧True) S)(hk:k<8)(Y:w.ownsRow B (mT k) (mS k) (.slice (some ⟨g,0,none⟩) n cap) n ((X k).flatten++cs))(hn:n=(G k).length+1)
 (hgR:g≠R) (hgj:∀j,j<8→j≠k→(V j).ownBlock≠some g) (hgS:∀q,S q→q≠g) (he:VZ S0 w cs e) (hS0:∀q,q<w.heap.size→S0 q→B≤q∧q≠R∧q≠g∧∀j,j<8→(V j).ownBlock≠some q) (ho:Only (fun q=>q=R) w w') :
 qZ w' B R (upd V k (.slice (some ⟨g,0,none⟩) n cap)) (upd X k (X k++[cs])) (upd G k (G k++[e])) (fun _=>True) (EW B R (upd V k (.slice (some ⟨g,0,none⟩) n cap))):=by
 have af:=Y.lt g rfl
 have aa:∀j,j<8→∀q,(upd V k (.slice (some ⟨g,0,none⟩) n cap) j).ownBlock=some q→B≤q∧q<w.heap.size∧q≠R:=fun j I q hq=>by
  unfold upd at hq
  by_cases D:j=k
  ·rw[iP D]at hq;have e2:g=q:=by simpa[Value.ownBlock]using hq
   subst e2;exact⟨af.1,af.2,hgR⟩
  ·rw[iN D]at hq;exact h.lt j I q hq
 have ae:∀q,EW B R V q→q≠g→EW B R (upd V k (.slice (some ⟨g,0,none⟩) n cap)) q:=fun q hh ag=>⟨hh.1,hh.2.1,fun j I=>by
  unfold upd
  by_cases D:j=k
  ·rw[iP D];intro e2;have e3:g=q:=by simpa[Value.ownBlock]using e2
   exact ag e3.symm
  ·rw[iN D]
   exact hh.2.2 j I⟩
 have hS:∀q,q<w.heap.size→S q→EW B R (upd V k (.slice (some ⟨g,0,none⟩) n cap)) q:=fun q _ hh=>ae q (h.sub q hh) (hgS q hh);have ai:aR (fun q=>B≤q∧q≠R) w w':=⟨ho.size,fun q hq O=>ho.block q O hq.2⟩;refine⟨fun j I _=>?_,fun j I=>?_,fun _ h=>h,fun j I q hq=>⟨(aa j I q hq).1,lL (aa j I q hq).2.1 ho.size,(aa j I q hq).2.2⟩,fun i j hi I ab q hq=>?_⟩
 ·by_cases D:j=k
  ·subst D;simp only[upd,iP];rw[List.length_append,List.length_singleton,←hn,List.flatten_append,List.flatten_singleton];refine oC Y (fun q hq=>?_);have e2:g=q:=by simpa[Value.ownBlock]using hq
   exact ho.block q (by omega) (by omega)
  ·simp only[upd,iN D];exact oC (h.own j I ⟨D,trivial⟩) (fun q hq=>ho.block q (h.lt j I q hq).2.1 (h.lt j I q hq).2.2)
 ·by_cases D:j=k
  ·subst D;simp only[upd,iP];refine tH.snoc (he.keep ⟨ho.size,fun q hq O=>ho.block q O (hS0 q O hq).2.1⟩ (fun q O hq=>?_)) ((h.vals j I).keep ⟨ho.size,fun q hq O=>ho.block q O (h.sub q hq).2.1⟩ hS);have h3:=hS0 q O hq;exact ae q ⟨h3.1,h3.2.1,h3.2.2.2⟩ h3.2.2.1
  ·simp only[upd,iN D];exact(h.vals j I).keep ⟨ho.size,fun q hq O=>ho.block q O (h.sub q hq).2.1⟩ hS
 ·unfold upd at hq⊢
  by_cases J:i=k
  ·rw[iP J]at hq;rw[iN (fun e=>ab (J.trans e.symm))];have e2:g=q:=by simpa[Value.ownBlock]using hq
   subst e2;exact hgj j I (fun e=>ab (J.trans e.symm))
  ·rw[iN J]at hq
   by_cases D:j=k
   ·rw[iP D];intro e2;have e3:g=q:=by simpa[Value.ownBlock]using e2
    subst e3;exact hgj i hi J hq
   ·rw[iN D];exact h.ap i j hi I ab q hq
end
abbrev BJ(w:World)(B R:Nat)(V:Nat→Value)(X:Nat→List (List Value))(G:Nat→List El):Prop:=qZ w B R V X G (fun _=>True) (EW B R V)
end Go.Proofs.YtkhoeoilamddaaaGreatDoor
