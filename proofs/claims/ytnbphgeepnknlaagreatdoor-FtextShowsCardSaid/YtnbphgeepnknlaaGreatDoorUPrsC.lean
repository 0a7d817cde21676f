/- Walks and plain words: PrsC PrsD. -/
import Derived.Test.YtnbphgeepnknlaaGreatDoorUPrsA
import Derived.Laws.OwnMore
namespace Go.Proofs.YtnbphgeepnknlaaGreatDoor
open Go.RowKit
set_option linter.unusedVariables false
set_option maxRecDepth 100000
set_option maxHeartbeats 8000000
structure KeepS (S:Nat→Prop) (w w':World):Prop where
 size:w.heap.size≤w'.heap.size
 block:∀ q,S q→q<w.heap.size→w'.heap[q]?=w.heap[q]?
theorem KeepS.cell {S:Nat→Prop} {w w':World} (h:KeepS S w w') {b o:Nat} (hs:S b) (hb:b<w.heap.size):w'.cell? ⟨b,o,none⟩=w.cell? ⟨b,o,none⟩:=World.cell?_of_block (a:=⟨b,o,none⟩) (h.block b hs hb)
theorem KeepS.refl {S:Nat→Prop} {w:World}:KeepS S w w:=⟨lr _,fun _ _ _=>rfl⟩
theorem KeepS.trans {S:Nat→Prop} {w w' w'':World} (h:KeepS S w w') (k:KeepS S w' w''):KeepS S w w'':=⟨Nat.le_trans h.size k.size,fun q hs hq=>(k.block q hs (lL hq h.size)).trans (h.block q hs hq)⟩
theorem KeepS.of_only {S:Nat→Prop} {R:Nat} {w w':World} (h:Only (fun q=>q=R) w w') (hR:¬S R):KeepS S w w':=⟨h.size,fun q hs hq=>h.block q hq (fun e=>hR (e ▸ hs))⟩
theorem KeepS.of_below {S:Nat→Prop} {w w':World} (h:Below w.heap.size w w'):KeepS S w w':=⟨h.size,fun q _ hq=>h.block q hq⟩
theorem KeepS.set {S:Nat→Prop} {w w':World} (h:KeepS S w w') {b o:Nat} (hb:¬S b) (v:Value):KeepS S w (w'.setCell ⟨b,o,none⟩ v):=⟨by simpa using h.size,fun q hs hq=>(hO_ w' ⟨b,o,none⟩ q v (fun e=>hb (by subst e;exact hs))).trans (h.block q hs hq)⟩
theorem KeepS.alloc {S:Nat→Prop} {w w':World} (h:KeepS S w w') (o:Obj):KeepS S w (w'.alloc o):=⟨by simp;exact Nat.le_succ_of_le h.size,fun q hs hq=>(((Br w'.heap.size w').alloc (lr _) o).block q (lL hq h.size)).trans (h.block q hs hq)⟩
mutual
def TmAtS (S:Nat→Prop) (w:World) (g o:Nat):Tm→Prop
 | .mk op n s l=>w.cell? ⟨g,o,none⟩=some (.int .i64 op)∧w.cell? ⟨g,o+1,none⟩=some (.int .i64 n)∧w.cell? ⟨g,o+2,none⟩=some (.string s)∧s.size≤maxLen ∧
  ∃ A c,w.cell? ⟨g,o+3,none⟩=some (.slice A l.length c)∧l.length≤c∧c≤maxLen∧(l=[]∨∃ g' o',A=some ⟨g',o',none⟩∧S g'∧g'<w.heap.size∧TmRowS S w g' o' l)
def TmRowS (S:Nat→Prop) (w:World) (g o:Nat):List Tm→Prop
 | []=>True
 | t :: r=>TmAtS S w g o t∧TmRowS S w g (o+4) r
end
def KidsS (S:Nat→Prop) (w:World) (A:Option Addr) (l:List Tm):Prop:=l=[]∨∃ g' o',A=some ⟨g',o',none⟩∧S g'∧g'<w.heap.size∧TmRowS S w g' o' l
mutual
theorem TmAtS.toAt {S:Nat→Prop} {w:World}:∀ {t:Tm} {g o:Nat},TmAtS S w g o t→TmAt w g o t
 | .mk op n s l,g,o,h=>by
  rw [TmAtS] at h;rw [TmAt];obtain ⟨h0,h1,h2,hs,A,c,h3,h4,h5,h6⟩:=h;refine ⟨h0,h1,h2,hs,A,c,h3,h4,h5,?_⟩
  rcases h6 with h6 | ⟨g',o',hA,_,hg,h6⟩
  · exact .inl h6
  · exact .inr ⟨g',o',hA,hg,TmRowS.toRow h6⟩
theorem TmRowS.toRow {S:Nat→Prop} {w:World}:∀ {l:List Tm} {g o:Nat},TmRowS S w g o l→TmRow w g o l
 | [],g,o,h=>by rw [TmRow];trivial
 | t :: r,g,o,h=>by
  rw [TmRowS] at h;rw [TmRow];exact ⟨TmAtS.toAt h.1,TmRowS.toRow h.2⟩
end
mutual
theorem TmAtS.keep {S S':Nat→Prop} {w w':World} (ho:KeepS S w w') (hS:∀ q,q<w.heap.size→S q→S' q):∀ {t:Tm} {g o:Nat},S g→g<w.heap.size→TmAtS S w g o t→TmAtS S' w' g o t
 | .mk op n s l,g,o,hg,hl,h=>by
  rw [TmAtS] at h ⊢;obtain ⟨h0,h1,h2,hs,A,c,h3,h4,h5,h6⟩:=h;refine ⟨by rw [ho.cell hg hl];exact h0,by rw [ho.cell hg hl];exact h1,by rw [ho.cell hg hl];exact h2,hs,A,c,by rw [ho.cell hg hl];exact h3,h4,h5,?_⟩
  rcases h6 with h6 | ⟨g',o',hA,hn,hg',h6⟩
  · exact .inl h6
  · exact .inr ⟨g',o',hA,hS g' hg' hn,lL hg' ho.size,TmRowS.keep ho hS hn hg' h6⟩
theorem TmRowS.keep {S S':Nat→Prop} {w w':World} (ho:KeepS S w w') (hS:∀ q,q<w.heap.size→S q→S' q):∀ {l:List Tm} {g o:Nat},S g→g<w.heap.size→TmRowS S w g o l→TmRowS S' w' g o l
 | [],g,o,_,_,h=>by rw [TmRowS];trivial
 | t :: r,g,o,hg,hl,h=>by
  rw [TmRowS] at h ⊢;exact ⟨TmAtS.keep ho hS hg hl h.1,TmRowS.keep ho hS hg hl h.2⟩
end
structure TmVS (S:Nat→Prop) (w:World) (A:Option Addr) (c:Nat) (t:Tm):Prop where
 cap:t.kids.length≤c
 capm:c≤maxLen
 name:t.name.size≤maxLen
 kids:KidsS S w A t.kids
theorem TmVS.toV {S:Nat→Prop} {c:Nat} {w:World} {A:Option Addr} {t:Tm} (h:TmVS S w A c t):TmV w A c t:=⟨h.cap,h.capm,h.name,by
 rcases h.kids with h | ⟨g',o',hA,_,hg,h⟩
 · exact .inl h
 · exact .inr ⟨g',o',hA,hg,TmRowS.toRow h⟩⟩
theorem TmVS.keep {S S':Nat→Prop} {c:Nat} {w w':World} {A:Option Addr} {t:Tm} (h:TmVS S w A c t) (ho:KeepS S w w') (hS:∀ q,q<w.heap.size→S q→S' q):TmVS S' w' A c t:=⟨h.cap,h.capm,h.name,by
 rcases h.kids with h | ⟨g',o',hA,hs,hg,h⟩
 · exact .inl h
 · exact .inr ⟨g',o',hA,hS g' hg hs,lL hg ho.size,TmRowS.keep ho hS hs hg h⟩⟩
theorem TmAtS.mk {S:Nat→Prop} {w:World} {g o:Nat} {t:Tm} {A:Option Addr} {c:Nat} (h0:w.cell? ⟨g,o,none⟩=some (.int .i64 t.op)) (h1:w.cell? ⟨g,o+1,none⟩=some (.int .i64 t.num)) (h2:w.cell? ⟨g,o+2,none⟩=some (.string t.name)) (h3:w.cell? ⟨g,o+3,none⟩=some (.slice A t.kids.length c)) (h:TmVS S w A c t):TmAtS S w g o t:=by
 cases t with
 | mk op n s l=>
  rw [TmAtS];exact ⟨h0,h1,h2,h.name,A,c,h3,h.cap,h.capm,h.kids⟩
theorem TmVS.leaf {S:Nat→Prop} {w:World} {op n:Int} {s:ByteArray} (hs:s.size≤maxLen):TmVS S w none 0 (.mk op n s []):=⟨lr _,by unfold maxLen;show 0≤_;omega,hs,.inl rfl⟩
def PQ (R:Nat) (A:Option Addr) (c d:Nat) (l:List Tok) (i:Nat) (r:Rs Tm) (w:World) (e:Ending) (w':World):Prop:=match r with
 | .ok t j=>(∃ A' c',e=.returned (t.val A' c')∧TmVS (fun q=>w.heap.size≤q) w' A' c' t)∧i<j∧j≤l.length∧Rdr w' R A l.length c j d∧Only (fun q=>q=R) w w'
 | .bad j x=>e=.panicked (thrown j x)∧Only (fun q=>q=R) w w'
def FnC (R:Nat) (A:Option Addr) (c d:Nat) (l:List Tok) (K:FuncId) (x:Value) (Inv:World→Prop) (P:Par):Prop:=
 ∀ (i:Nat) (w:World),i≤l.length→Rdr w R A l.length c i d→PTok w R A c l→Inv w→Calls Tryz.prog K #[x] w (PQ R A c d l i (P i) w)
def fvOf (m:Bool) (K:FuncId) (x:Value):Value:=if m then .func (.func K) #[x] #[] else .func (.func K) #[] #[x]
theorem Went.only {R n c d j:Nat} {A:Option Addr} {w w':World} (h:Went R A n c d j w w'):Only (fun q=>q=R) w w':=h.2.1
theorem cells4 {w:World} {b:Nat} {u0 u1 u2 u3:Value} {T:TypeId} (h:w.heap[b]?=some (.cells #[u0,u1,u2,u3] T (0,0))) :
 (w.cell? ⟨b,0,none⟩=some u0∧w.frozen? ⟨b,0,none⟩=false)∧(w.cell? ⟨b,1,none⟩=some u1∧w.frozen? ⟨b,1,none⟩=false)∧(w.cell? ⟨b,2,none⟩=some u2∧w.frozen? ⟨b,2,none⟩=false)∧w.cell? ⟨b,3,none⟩=some u3∧w.frozen? ⟨b,3,none⟩=false:=
 ⟨⟨by rw [cR w b 0 _ _ (0,0) h];rfl,by simp [World.frozen?,h]⟩,⟨by rw [cR w b 1 _ _ (0,0) h];rfl,by simp [World.frozen?,h]⟩,⟨by rw [cR w b 2 _ _ (0,0) h];rfl,by simp [World.frozen?,h]⟩,by rw [cR w b 3 _ _ (0,0) h];rfl,by simp [World.frozen?,h]⟩
theorem alloc_keep {W:World} {o:Obj} {b:Nat} {x:Obj} (h:W.heap[b]?=some x):(W.alloc o).heap[b]?=some x:=(((Br W.heap.size W).alloc (lr _) o).block b (lH h)).trans h
theorem only_new {R:Nat} {w W:World} {o:Obj} {v0 v1 v2 v3:Value} (h:Only (fun q=>q=R) w W):Only (fun q=>q=R) w (((((W.setCell ⟨w.heap.size,0,none⟩ v0).setCell ⟨w.heap.size,1,none⟩ v1).setCell ⟨w.heap.size,2,none⟩ v2).setCell ⟨w.heap.size,3,none⟩ v3).alloc o):=by
 refine ⟨h.os,h.tape,h.output,by simp;exact Nat.le_succ_of_le h.size,fun q hq hf=>?_⟩;have hne:q≠w.heap.size:=by omega
 rw [((Br _ _).alloc (lr _) o).block q (by simp;exact lL hq h.size),hO_ _ ⟨w.heap.size,3,none⟩ q _ hne,hO_ _ ⟨w.heap.size,2,none⟩ q _ hne,hO_ _ ⟨w.heap.size,1,none⟩ q _ hne,hO_ _ ⟨w.heap.size,0,none⟩ q _ hne];exact h.block q hq hf
theorem res4 {W:World} {b:Nat} {u0 u1 u2 u3 v0 v1 v2 v3:Value} {T:TypeId} (h:W.heap[b]?=some (.cells #[u0,u1,u2,u3] T (0,0))) :
 ((((W.setCell ⟨b,0,none⟩ v0).setCell ⟨b,1,none⟩ v1).setCell ⟨b,2,none⟩ v2).setCell ⟨b,3,none⟩ v3).heap[b]?=some (.cells #[v0,v1,v2,v3] T (0,0)):=by
 simp [World.setCell,Array.getElem?_modify,h]
theorem pinside_any (R:Nat) (A:Option Addr) (c d:Nat) (l:List Tok) (K:FuncId) (x:Value) (m:Bool) (Inv:World→Prop) (P:Par) (i:Nat) (w:World) (hrun:∀ args W,(callFunc K args).run Tryz.prog W=.ok (.enter K args) W)
 (hInv:∀ w w',Inv w→Only (fun q=>q=R) w w'→Inv w') (hF:d<256→FnC R A c (d+1) l K x Inv P) (hd:d≤256) (hi:i<l.length) (hR:Rdr w R A l.length c i d) (hP:PTok w R A c l) (hw:Inv w) :
 Calls Tryz.prog 173 #[.pointer (some ⟨R,0,none⟩),fvOf m K x] w (PQ R A c d l i (if d=256 then .bad i 17 else P (i+1)) w):=by
 have hlen:=hP.len;obtain ⟨w1,hw1⟩:=ex_ (w.alloc (.cells #[.int .i64 0,.int .i64 0,.string ⟨#[]⟩,.slice none 0 0] 25));have hb1:=bAl hw1;have hs1:w1.heap.size=w.heap.size+1:=by rw [hw1];simp
 have hR1:=hR.below hb1 hR.lt;have hRlt:=hR.lt;have d1:=hR.c1;have d2:=hR.c2;have c0:=hR1.c0;have c1:=hR1.c1;have c2:=hR1.c2;have f1:=hR1.frozen 1;have f2:=hR1.frozen 2;have e1:=hR.frozen 1;have e2:=hR.frozen 2;obtain ⟨F,HF⟩:=exh_ (PQ R A c d l i (if d=256 then .bad i 17 else P (i+1)) w);rw [←HF.out];have HW1:=Hd hw1;have HB1:=Hd hb1;have HR1:=Hd hR1;have HRW:=Hd hR;have HFN:=Hd hF;have HINV:=Hd hInv;have HP:=Hd hP;have HWI:=Hd hw;clear hw1 hb1 hR hR1 hF hInv hP hw
 by_cases h256:d=256
 · have HRE:Hid (F=PQ R A c d l i (.bad i 17) w):=by show _=_;rw [HF.out,iP h256]
   have hd1:(256:Int)≤(d:Int):=by omega
   have HFA:=Hd (pfail_any R A l.length c i d 17 w1 HR1.out);clear h256;go_enter Tryz.func173,Tryz.ntmps173;go_wp2_with fail;rw [←HW1.out];go_wp2_with fail;refine (HFA.out).mono ?_;rintro e w' ⟨rfl,hw'⟩;rw [←hw'];refine (show _∧_ from ⟨rfl,?_⟩);rw [HRE.out];exact ⟨rfl,Ob HB1.out⟩
 · have HRE:Hid (F=PQ R A c d l i (P (i+1)) w):=by show _=_;rw [HF.out,iN h256]
   have hd1:¬(256:Int)≤(d:Int):=by omega
   have hd2:d<256:=by omega
   obtain ⟨w3,hw3⟩:=ex_ (((w.setCell ⟨R,1,none⟩ (.int .i64 ((i:Int)+1))).setCell ⟨R,2,none⟩ (.int .i64 ((d:Int)+1))).alloc (.cells #[.int .i64 0,.int .i64 0,.string ⟨#[]⟩,.slice none 0 0] 25))
   have ho3:Only (fun q=>q=R) w w3:=by
    rw [hw3];exact (((Only.refl (F:=fun q=>q=R)).setF rfl _).setF rfl _).thenBelow ((Br _ _).alloc (lr _) _) (by simp)
   have hR3:Rdr w3 R A l.length c (i+1) (d+1):=by
    have h:=((HRW.out.at_ (i+1)).deep (d+1));rw [hw3];refine Rdr.below (B:=w.heap.size) (w:=(w.setCell ⟨R,1,none⟩ (.int .i64 ((i:Int)+1))).setCell ⟨R,2,none⟩ (.int .i64 ((d:Int)+1))) ?_ ((Br _ _).alloc (by simp) _) hRlt;rw [show ((i+1:Nat):Int)=(i:Int)+1 from by omega,show ((d+1:Nat):Int)=(d:Int)+1 from by omega] at h;exact h
   have hcall:=HFN.out hd2 (i+1) w3 (by omega) hR3 (HP.out.only ho3) (HINV.out w w3 HWI.out ho3);obtain ⟨r,hr⟩:=ex_ (P (i+1));rw [←hr] at hcall HRE
   have hb3:w3.heap[w.heap.size]?=some (.cells #[.int .i64 0,.int .i64 0,.string ⟨#[]⟩,.slice none 0 0] 25 (0,0)):=by
    rw [hw3];have h:=hA_ ((w.setCell ⟨R,1,none⟩ (.int .i64 ((i:Int)+1))).setCell ⟨R,2,none⟩ (.int .i64 ((d:Int)+1))) (.cells #[.int .i64 0,.int .i64 0,.string ⟨#[]⟩,.slice none 0 0] 25)
    simpa using h
   have hs3:w3.heap.size=w.heap.size+1:=by rw [hw3];simp
   have HC:=Hd hcall;have HO3:=Hd ho3;have HB3:=Hd hb3;have HW3:=Hd hw3;clear hcall hr ho3 hR3 hb3 hw3 h256;cases m
   all_goals
    unfold fvOf;simp only [if_true,Bool.false_eq_true,if_false];go_enter Tryz.func173,Tryz.ntmps173;go_wp2_with fail;rw [←HW3.out];refine (HC.out).mono ?_;intro e w4 hq
    cases r with
    | bad j x=>
     obtain ⟨rfl,ho4⟩:=hq;refine (show _∧_ from ⟨rfl,?_⟩);rw [HRE.out];exact ⟨rfl,HO3.out.trans ho4⟩
    | ok t j=>
     obtain ⟨⟨A',c',rfl,hV⟩,hij,hjl,hR4,ho4⟩:=hq;have HV:=Hd hV;have HR4:=Hd hR4;have HO4:=Hd (HO3.out.trans ho4);have hRw:w.heap.size≠R:=by omega
     have HB4:=Hd ((ho4.block w.heap.size (by omega) hRw).trans HB3.out);have hs4:=ho4.size;have g2:=hR4.c2;have k2:=hR4.frozen 2;have hlt4:=hR4.lt;have rc:w4.heap.size > w.heap.size:=by omega
     obtain ⟨n2,HN2⟩:=exh_ t.kids.length;unfold Tm.val;rw [←HN2.out];obtain ⟨v0,v1,v2,v3,zq⟩:=q4 HB4.out;clear hV hR4 ho4;go_wp2_with fail;obtain ⟨W5,hW5⟩:=ex_ (w4.setCell ⟨R,2,none⟩ (.int .i64 (d:Nat)))
     have hB5:W5.heap[w.heap.size]?=some (.cells #[.int .i64 0,.int .i64 0,.string ⟨#[]⟩,.slice none 0 0] 25 (0,0)):=by
      rw [hW5];exact (hO_ w4 ⟨R,2,none⟩ w.heap.size _ hRw).trans HB4.out
     have hz5:W5.heap.size=w4.heap.size:=by rw [hW5];simp
     have hR5:Rdr W5 R A l.length c j d:=by rw [hW5];exact HR4.out.deep d
     have hO5:Only (fun q=>q=R) w W5:=by rw [hW5];exact HO4.out.setF rfl _
     have hV5:TmVS (fun q=>w3.heap.size≤q) W5 A' c' t:=by
      rw [hW5];exact HV.out.keep (KeepS.refl.set (by omega) _) (fun _ _ h=>h)
     rw [←hW5];clear hW5;have hres:=alloc_keep (o:=.cells #[.int .i64 t.op,.int .i64 t.num,.string t.name,.slice A' n2 c'] 25) (res4 (v0:=.int .i64 t.op) (v1:=.int .i64 t.num) (v2:=.string t.name) (v3:=.slice A' n2 c') hB5);refine bR (rcT hres) rfl ?_;rw [HRE.out];refine ⟨⟨A',c',by unfold Tm.val;rw [←HN2.out],?_⟩,by omega,hjl,?_,?_⟩
     · exact hV5.keep (((((KeepS.refl.set (by omega) _).set (by omega) _).set (by omega) _).set (by omega) _).alloc _) (fun q _ h=>by omega)
     · have hRne:R≠w.heap.size:=fun h=>hRw h.symm;refine Rdr.below (B:=W5.heap.size) ?_ ((Br _ _).alloc (by simp) _) (by omega);unfold Rdr;rw [hO_ _ ⟨w.heap.size,3,none⟩ R _ hRne,hO_ _ ⟨w.heap.size,2,none⟩ R _ hRne,hO_ _ ⟨w.heap.size,1,none⟩ R _ hRne,hO_ _ ⟨w.heap.size,0,none⟩ R _ hRne];exact hR5
     · exact only_new hO5
abbrev Kb := @KeepS.of_below
abbrev Kr := @KeepS.refl
abbrev aK := @alloc_keep
structure TmE where
 t:Tm
 A:Option Addr
 c:Nat
def TmE.cells (e:TmE):List Value:=[.int .i64 e.t.op,.int .i64 e.t.num,.string e.t.name,.slice e.A e.t.kids.length e.c]
def flatE (l:List TmE):List Value:=l.flatMap TmE.cells
theorem flatE_snoc (l:List TmE) (e:TmE):flatE (l++[e])=flatE l++e.cells:=by simp [flatE]
theorem flatE_len:∀ l:List TmE,(flatE l).length=l.length*4
 | []=>rfl
 | e :: r=>by
  have:=flatE_len r;unfold flatE at this ⊢;rw [List.flatMap_cons,List.length_append,this,List.length_cons];simp [TmE.cells];omega
theorem flatE_cons (e:TmE) (r:List TmE):flatE (e :: r)=e.cells++flatE r:=by simp [flatE]
theorem row_of_cells {S:Nat→Prop} {w:World} {g:Nat}:∀ (acc:List TmE) (o:Nat),(∀ j v,(flatE acc)[j]?=some v→w.cell? ⟨g,o+j,none⟩=some v)→(∀ e∈acc,TmVS S w e.A e.c e.t)→TmRowS S w g o (acc.map TmE.t)
 | [],o,_,_=>by rw [List.map_nil,TmRowS];trivial
 | e :: r,o,h,hv=>by
  rw [List.map_cons,TmRowS];rw [flatE_cons] at h;have hc:∀ j,j<4→(e.cells++flatE r)[j]?=e.cells[j]?:=fun j hj=>List.getElem?_append_left (by show j<4;exact hj);refine ⟨TmAtS.mk (A:=e.A) (c:=e.c) (h 0 _ ((hc 0 (by omega)).trans rfl)) (h 1 _ ((hc 1 (by omega)).trans rfl)) (h 2 _ ((hc 2 (by omega)).trans rfl)) (h 3 _ ((hc 3 (by omega)).trans rfl)) (hv e (by simp)),row_of_cells r (o+4) (fun j v hj=>?_) (fun x hx=>hv x (by simp [hx]))⟩;have:=h (4+j) v (by rw [List.getElem?_append_right (by show 4≤4+j;omega)];show (flatE r)[4+j - 4]?=some v;rw [Nat.add_sub_cancel_left];exact hj);rw [show o+4+j=o+(4+j) by omega];exact this
theorem infoTm:(Tryz.prog.info? 25).map (fun i=>(i.zero,i.size,i.bytes))=some (some (.agg #[.int .i64 0,.int .i64 0,.string ⟨#[]⟩,.slice none 0 0]),4,56):=by kernel_rfl
theorem which_lt {l:List Tok} {i:Nat}:∀ {ops:List Int},whichOp l i ops≠0→i<l.length
 | [],h=>absurd rfl h
 | op :: r,h=>by
  rw [whichOp] at h
  by_cases hc:(if op=17 then isTk l i 3 [109,111,100] else isTk l i 4 (signB op))=true
  · rcases Nat.lt_or_ge i l.length with h1 | h1
    · exact h1
    · exfalso
      have hn:l[i]?=none:=List.getElem?_eq_none h1;unfold isTk at hc;rw [hn] at hc
      split at hc <;> cases hc
  · rw [iN hc] at h;exact which_lt h
structure ManyS (R:Nat) (A:Option Addr) (c d:Nat) (l:List Tok) (i B0:Nat) (w1 wr:World) (v:Value) (acc:List TmE) (j:Nat):Prop where
 pos:0<acc.length
 own:wr.ownsRow B0 25 4 v acc.length (flatE acc)
 vals:∀ e∈acc,TmVS (fun q=>B0≤q∧v.ownBlock≠some q) wr e.A e.c e.t
 rdr:Rdr wr R A l.length c j d
 only:Only (fun q=>q=R) w1 wr
 cnt:acc.length≤j
 ij:i<j
 jl:j≤l.length
theorem ManyS.first {R c d i j:Nat} {A A':Option Addr} {c':Nat} {l:List Tok} {w1 w4:World} {t:Tm} (hR:R<w1.heap.size) (hij:i<j) (hj:j≤l.length) (hV:TmVS (fun q=>w1.heap.size≤q) w4 A' c' t) (hr:Rdr w4 R A l.length c j d) (ho:Only (fun q=>q=R) w1 w4) :
 ManyS R A c d l i w1.heap.size w1 (w4.alloc (.cells #[.int .i64 t.op,.int .i64 t.num,.string t.name,.slice A' t.kids.length c'] 25)) (.slice (some ⟨w4.heap.size,0,none⟩) 1 1) [⟨t,A',c'⟩] j:=by
 have hs:=ho.size;have hb:Below w4.heap.size w4 (w4.alloc (.cells #[.int .i64 t.op,.int .i64 t.num,.string t.name,.slice A' t.kids.length c'] 25)):=(Br _ _).alloc (lr _) _;refine ⟨by simp,World.ownsRow_lit w4 #[.int .i64 t.op,.int .i64 t.num,.string t.name,.slice A' t.kids.length c'] 1 hs (by unfold maxLen;omega) rfl,fun e he=>?_,hr.below hb hr.lt,ho.thenBelow hb hs,by simp;omega,hij,hj⟩;rw [List.mem_singleton.1 he]
 exact hV.keep (Kb hb) (fun q hq h=>⟨h,fun e=>by
  have:w4.heap.size=q:=by simpa [Value.ownBlock] using e
  omega⟩)
theorem ManyS.next {R c d i j j' B0:Nat} {A A':Option Addr} {c':Nat} {l:List Tok} {w1 wr w4 w6:World} {o:Obj} {v v':Value} {acc:List TmE} {t:Tm} (h:ManyS R A c d l i B0 w1 wr v acc j) (hRB:R<B0) (hB1:B0=w1.heap.size)
 (ho:Only (fun q=>q=R) wr w4) (hj:j<j') (hjl:j'≤l.length) (hr:Rdr w4 R A l.length c j' d) (hV:TmVS (fun q=>wr.heap.size≤q) w4 A' c' t)
 (hown:w6.ownsRow B0 25 4 v' (acc.length+1) (flatE acc++(TmE.mk t A' c').cells)) (hg:(w4.alloc o).grownBy w6 v.ownBlock) (hat:v'.ownBlock=v.ownBlock∨∀ q,v'.ownBlock=some q→w4.heap.size≤q) :
 ManyS R A c d l i B0 w1 w6 v' (acc++[⟨t,A',c'⟩]) j':=by
 have hs4:=ho.size;have hs1:=h.only.size;have hlt:∀ q,v.ownBlock=some q→B0≤q∧q<wr.heap.size:=fun q hq=>h.own.lt q hq;have hal:Below w4.heap.size w4 (w4.alloc o):=(Br _ _).alloc (lr _) o;have hk:∀ q,v.ownBlock≠some q→q<w4.heap.size→w6.heap[q]?=w4.heap[q]?:=fun q hq hl=>(hg.block q (by simp;omega) (fun e=>hq e.symm)).trans (hal.block q hl);have hs6:w4.heap.size≤w6.heap.size:=by have:=hg.size;simp at this;omega
 have hRv:v.ownBlock≠some R:=fun e=>by have:=(hlt R e).1;omega
 refine ⟨by simp,by rw [List.length_append,flatE_snoc];exact hown,fun e he=>?_,(hk R hRv hr.lt).trans hr,?_,by rw [List.length_append];have:=h.cnt;simp;omega,by have:=h.ij;omega,hjl⟩
 · have hfin:∀ q,q<w4.heap.size→(B0≤q∧v.ownBlock≠some q)→(B0≤q∧v'.ownBlock≠some q):=fun q hq ⟨h1,h2⟩=>⟨h1,fun e=>by
    rcases hat with h3 | h3
    · exact h2 (h3 ▸ e)
    · have:=h3 q e;omega⟩
   rcases List.mem_append.1 he with he | he
   · have h1:=(h.vals e he).keep (S':=fun q=>(B0≤q∧v.ownBlock≠some q)) (KeepS.of_only ho (fun h=>by have:=h.1;omega)) (fun _ _ h=>h);exact h1.keep ⟨hs6,fun q hq hl=>hk q hq.2 hl⟩ hfin
   · rw [List.mem_singleton.1 he];have h1:=hV.keep (S':=fun q=>(B0≤q∧v.ownBlock≠some q)) Kr (fun q _ h=>⟨by omega,fun e=>by have:=(hlt q e).2;omega⟩);exact h1.keep ⟨hs6,fun q hq hl=>hk q hq.2 hl⟩ hfin
 · have h1:=h.only.trans ho;refine ⟨by rw [hg.os];exact h1.os,by rw [hg.tape];exact h1.tape,by rw [hg.output];exact h1.output,Nat.le_trans h1.size hs6,fun q hq hne=>?_⟩;rw [hk q (fun e=>by have:=(hlt q e).1;omega) (by omega)];exact h1.block q hq hne
def rdAt (R:Nat) (w:World):Nat:=match w.cell? ⟨R,1,none⟩ with
 | some (.int _ z)=>z.toNat
 | _=>0
theorem rdAt_of {R n c i d:Nat} {A:Option Addr} {w:World} (h:Rdr w R A n c i d):rdAt R w=i:=by unfold rdAt;rw [h.c1];simp
theorem many_stop {l:List Tok} {op:Int} {one:Par} {fuel j:Nat} {acc:List Tm} (h:whichOp l j [op]=0):manyF l op one fuel acc j=.ok (manyEnd op acc) j:=by
 cases fuel with
 | zero=>rfl
 | succ k=>rw [manyF,iP h]
theorem many_go {l:List Tok} {op:Int} {one:Par} {fuel j:Nat} {acc:List Tm} (h:whichOp l j [op]≠0):manyF l op one (fuel+1) acc j=(one (j+1)).then fun t j=>manyF l op one fuel (acc++[t]) j:=by rw [manyF,iN h]
theorem manyEnd_two {op:Int} {l:List Tm} (h:l.length≠1):manyEnd op l=tmOf op l:=by
 unfold manyEnd
 split
 · exact absurd rfl h
 · rfl
theorem only_sets {R:Nat} {w W:World} {v0 v1 v2 v3:Value} (h:Only (fun q=>q=R) w W):Only (fun q=>q=R) w ((((W.setCell ⟨w.heap.size,0,none⟩ v0).setCell ⟨w.heap.size,1,none⟩ v1).setCell ⟨w.heap.size,2,none⟩ v2).setCell ⟨w.heap.size,3,none⟩ v3):=by
 refine ⟨h.os,h.tape,h.output,by simpa using h.size,fun q hq hf=>?_⟩;have hne:q≠w.heap.size:=by omega
 rw [hO_ _ ⟨w.heap.size,3,none⟩ q _ hne,hO_ _ ⟨w.heap.size,2,none⟩ q _ hne,hO_ _ ⟨w.heap.size,1,none⟩ q _ hne,hO_ _ ⟨w.heap.size,0,none⟩ q _ hne];exact h.block q hq hf
theorem pq_end {R c d i j:Nat} {A A':Option Addr} {c':Nat} {l:List Tok} {w W:World} {t:Tm} (v0 v1 v2 v3:Value) (hij:i<j) (hjl:j≤l.length) (hRw:R<w.heap.size) (hR:Rdr W R A l.length c j d) (hO:Only (fun q=>q=R) w W) (hV:TmVS (fun q=>w.heap.size<q) W A' c' t) :
 PQ R A c d l i (.ok t j) w (.returned (t.val A' c')) ((((W.setCell ⟨w.heap.size,0,none⟩ v0).setCell ⟨w.heap.size,1,none⟩ v1).setCell ⟨w.heap.size,2,none⟩ v2).setCell ⟨w.heap.size,3,none⟩ v3):=by
 refine ⟨⟨A',c',rfl,hV.keep ((((KeepS.refl.set (by omega) _).set (by omega) _).set (by omega) _).set (by omega) _) (fun q _ h=>Nat.le_of_lt h)⟩,hij,hjl,?_,only_sets hO⟩;have hne:R≠w.heap.size:=by omega
 unfold Rdr;rw [hO_ _ ⟨w.heap.size,3,none⟩ R _ hne,hO_ _ ⟨w.heap.size,2,none⟩ R _ hne,hO_ _ ⟨w.heap.size,1,none⟩ R _ hne,hO_ _ ⟨w.heap.size,0,none⟩ R _ hne];exact hR
theorem own_only {R B n sz:Nat} {T:TypeId} {w w':World} {v:Value} {xs:List Value} (h:w.ownsRow B T sz v n xs) (ho:Only (fun q=>q=R) w w') (hR:R<B):w'.ownsRow B T sz v n xs:=
 h.kept (row:=some R) ⟨ho.os,ho.tape,ho.output,ho.size,fun k hk hne=>ho.block k hk (fun e=>hne (by rw [e]))⟩ (by
  cases hv:v.ownBlock with
  | none=>exact .inl rfl
  | some q=>exact .inr (fun e=>by have:=(h.lt q hv).1;injection e with e;omega))
theorem pmany_any (R:Nat) (A:Option Addr) (c d:Nat) (l:List Tok) (K:FuncId) (x:Value) (m:Bool) (Inv:World→Prop) (one:Par) (op:Int) (i:Nat) (w:World) (hrun:∀ args W,(callFunc K args).run Tryz.prog W=.ok (.enter K args) W)
 (hInv:∀ w w',Inv w→Only (fun q=>q=R) w w'→Inv w') (hF:FnC R A c d l K x Inv one) (hi:i≤l.length) (hR:Rdr w R A l.length c i d) (hP:PTok w R A c l) (hw:Inv w) :
 Calls Tryz.prog 170 #[.pointer (some ⟨R,0,none⟩),.int .i64 op,fvOf m K x] w (PQ R A c d l i (many l op one i) w):=by
 obtain ⟨i0,hi0,hz0,hz1,hz2⟩:=info_parts infoTm;have hlen:=hP.len;have hRlt:=hR.lt;obtain ⟨w1,hw1⟩:=ex_ (w.alloc (.cells #[.int .i64 0,.int .i64 0,.string ⟨#[]⟩,.slice none 0 0] 25));have hb1:=bAl hw1;have hs1:w1.heap.size=w.heap.size+1:=by rw [hw1];simp
 have hbx:w1.heap[w.heap.size]?=some (.cells #[.int .i64 0,.int .i64 0,.string ⟨#[]⟩,.slice none 0 0] 25 (0,0)):=by rw [hw1];exact hA_ w _
 have ho1:Only (fun q=>q=R) w w1:=Ob hb1;have hc1:=hF i w1 hi (hR.below hb1 hRlt) (hP.only ho1) (hInv w w1 hw ho1);obtain ⟨r1,hr1⟩:=ex_ (one i);obtain ⟨F,hF0⟩:=ex_ (PQ R A c d l i (many l op one i) w);have HRE:Hid (F=PQ R A c d l i (r1.then fun t j=>manyF l op one l.length [t] j) w):=by show _=_;rw [hF0,hr1];rfl
 rw [←hF0];rw [←hr1] at hc1;have HC1:=Hd hc1;have HW1:=Hd hw1;have HB1:=Hd hb1;have HO1:=Hd ho1;have HBX:=Hd hbx;have HFN:=Hd hF;have HINV:=Hd hInv;have HP:=Hd hP;have HWI:=Hd hw;clear hc1 hr1 hF0 hw1 hb1 ho1 hbx hF hInv hP hw hR;cases m
 all_goals
  unfold fvOf;simp only [if_true,Bool.false_eq_true,if_false];go_enter Tryz.func170,Tryz.ntmps170;go_wp2_with fail;rw [←HW1.out];refine (HC1.out).mono ?_;intro e w4 hq
  cases r1 with
  | bad j x=>
   obtain ⟨rfl,ho4⟩:=hq;refine (show _∧_ from ⟨rfl,?_⟩);rw [HRE.out];exact ⟨rfl,HO1.out.trans ho4⟩
  | ok t j=>
   obtain ⟨⟨A',c',rfl,hV⟩,hij,hjl,hR4,ho4⟩:=hq;have HM:=Hd (ManyS.first (i:=i) (by omega) hij hjl hV hR4 ho4);obtain ⟨n2,hn2⟩:=ex_ t.kids.length;unfold Tm.val;rw [←hn2];rw [←hn2] at HM;have HRE2:Hid (F=PQ R A c d l i (manyF l op one l.length [t] j) w):=HRE.out;obtain ⟨r,HR⟩:=exh_ (manyF l op one l.length [t] j);rw [←HR.out] at HRE2;clear hV hR4 ho4 hn2 hij;go_wp2_with fail
   go_loopw [7] (fun sv wr=>∃ (acc:List TmE) (j fuel:Nat),ManyS R A c d l i w1.heap.size w1 wr sv acc j∧l.length≤fuel+j∧manyF l op one fuel (acc.map TmE.t) j=r) (fun _ wr=>l.length - rdAt R wr)
   case atStart=>exact ⟨[⟨t,A',c'⟩],j,l.length,HM.out,by omega,HR.out.symm⟩
   case round=>
    obtain ⟨acc,j,fuel,hM,hfu,hre⟩:=hrel
    rcases hM.own.2 with ⟨-,h9⟩ | ⟨g,cap,cur,rfl,hBg,hg,hnc,hcm,hcs,htk⟩
    · have:=hM.pos;omega
    have HM2:=Hd hM;have HRE3:=Hd hre;have hgl:g<wr.heap.size:=lH hg;obtain ⟨n,hn⟩:=ex_ acc.length;have HN:=Hd hn;have hjl2:=hM.jl;have hsr:=hM.only.size;have hbW:Below wr.heap.size wr (wr.alloc (.cells #[.int .i64 op] 3)):=(Br _ _).alloc (lr _) _;have HSG:=Hd (psign_any R A c j d l wr.heap.size 1 [op] (wr.alloc (.cells #[.int .i64 op] 3)) (hM.rdr.below hbW hM.rdr.lt) ((HP.out.only (HO1.out.trans hM.only)).only (Ob hbW)) (by omega) (ops_new wr [op]) (by simp) (by simp));have hRr:=hM.rdr.lt;rw [←hn];rw [←hn] at hnc;clear hM hre hg hcs htk hn;have hbxr:=(HM2.out.only.block w.heap.size (by omega) (by omega)).trans HBX.out;obtain ⟨v0,v1,v2,v3,zq⟩:=q4 hbxr;have HBXR:=Hd hbxr;have hbwr:w.heap.size<wr.heap.size:=by omega
    clear hbxr
    by_cases hz:whichOp l j [op]=0
    · have HRR:Hid (r=.ok (manyEnd op (acc.map TmE.t)) j):=by show _=_;rw [←HRE3.out];exact many_stop hz
      rw [hz] at HSG;clear hz
      by_cases hn1:n=1
      · subst hn1
        obtain ⟨e1,he1⟩:∃ e1,acc=[e1]:=by
         match acc,HN.out with
         | [e1],_=>exact ⟨e1,rfl⟩
        subst he1
        have hcl:∀ jj vv,(flatE [e1])[jj]?=some vv→wr.cell? ⟨g,jj,none⟩=some vv:=fun jj vv hv=>by
         have h:=HM2.out.own.cells (g:=g) rfl jj vv hv;rw [addr_add,Nat.zero_add] at h;exact h
        have y0:=hcl 0 _ rfl;have y1:=hcl 1 _ rfl;have y2:=hcl 2 _ rfl;have y3:=hcl 3 _ rfl;obtain ⟨ne,HNE⟩:=exh_ e1.t.kids.length;rw [←HNE.out] at y3;clear hcl;go_wp2_with fail;refine (HSG.out).mono ?_;rintro e w5 ⟨rfl,q,hw5⟩;rw [hw5];clear hw5;go_wp2_with fail;have HWX:Hid (Only (fun q=>q=R) wr ((wr.alloc (.cells #[.int .i64 op] 3)).drewN q)):=(Ob ((Br _ _).alloc (lr _) _)).drewN q;obtain ⟨WX,hWX⟩:=ex_ ((wr.alloc (.cells #[.int .i64 op] 3)).drewN q)
        have HRDX:Hid (Rdr WX R A l.length c j d):=by
         show Rdr _ _ _ _ _ _ _;rw [hWX];exact (HM2.out.rdr.below ((Br wr.heap.size wr).alloc (lr _) (.cells #[.int .i64 op] 3)) hRr).drewN q
        rw [←hWX] at HWX ⊢;clear hWX;have hbW:=(HWX.out.block w.heap.size (by omega) (by omega)).trans HBXR.out;refine bR (rcT (res4 hbW)) rfl ?_;rw [HRE2.out,HRR.out];have hRX:Rdr WX R A l.length c j d:=HRDX.out;have hOX:=HO1.out.trans (HM2.out.only.trans HWX.out);have h:=pq_end (A':=e1.A) (c':=e1.c) (.int .i64 e1.t.op) (.int .i64 e1.t.num) (.string e1.t.name) (.slice e1.A ne e1.c) HM2.out.ij HM2.out.jl hRlt hRX hOX ((HM2.out.vals e1 (by simp)).keep (KeepS.of_only HWX.out (fun h=>by have:=h.1;omega)) (fun q _ h=>by have:=h.1;omega));unfold Tm.val at h;rw [←HNE.out] at h;exact h
      · have hn1b:((n:Int) == 1)=false:=by simp;omega
        have HN1:Hid (n≠1):=hn1;clear hn1;go_wp2_with fail;refine (HSG.out).mono ?_;rintro e w5 ⟨rfl,q,hw5⟩;rw [hw5];clear hw5;go_wp2_with fail;have HWX:Hid (Only (fun q=>q=R) wr ((wr.alloc (.cells #[.int .i64 op] 3)).drewN q)):=(Ob ((Br _ _).alloc (lr _) _)).drewN q;obtain ⟨WX,hWX⟩:=ex_ ((wr.alloc (.cells #[.int .i64 op] 3)).drewN q)
        have HRDX:Hid (Rdr WX R A l.length c j d):=by
         show Rdr _ _ _ _ _ _ _;rw [hWX];exact (HM2.out.rdr.below ((Br wr.heap.size wr).alloc (lr _) (.cells #[.int .i64 op] 3)) hRr).drewN q
        rw [←hWX] at HWX ⊢;clear hWX;have hbW:=(HWX.out.block w.heap.size (by omega) (by omega)).trans HBXR.out;refine bR (rcT (res4 hbW)) rfl ?_;rw [HRE2.out,HRR.out];have hRX:Rdr WX R A l.length c j d:=HRDX.out;have hOX:=HO1.out.trans (HM2.out.only.trans HWX.out);have hl1:(acc.map TmE.t).length=n:=by rw [List.length_map,←HN.out]
        rw [manyEnd_two (by rw [hl1];exact HN1.out)]
        have h:=pq_end (t:=tmOf op (acc.map TmE.t)) (A':=some ⟨g,0,none⟩) (c':=cap) (.int .i64 op) (.int .i64 0) (.string ⟨#[]⟩) (.slice (some ⟨g,0,none⟩) n cap) HM2.out.ij HM2.out.jl hRlt hRX hOX ⟨by show (acc.map TmE.t).length≤cap;rw [hl1];exact hnc,hcm,by show 0≤_;exact zl _,.inr ⟨g,0,rfl,by show w.heap.size<g;omega,lL hgl HWX.out.size,by
         refine row_of_cells acc 0 (fun jj vv hv=>?_) (fun e9 he9=>(HM2.out.vals e9 he9).keep (KeepS.of_only HWX.out (fun h=>by have:=h.1;omega)) (fun q _ h=>by have:=h.1;omega));have h:=HM2.out.own.cells (g:=g) rfl jj vv hv;rw [addr_add] at h;rw [HWX.out.cell hgl (by omega)]
         exact h⟩⟩
        unfold Tm.val at h;have hk:(tmOf op (acc.map TmE.t)).kids.length=n:=hl1;rw [hk] at h;exact h
    · have hzb:(whichOp l j [op] != 0)=true:=by simpa using hz
      have hjl3:=which_lt hz;have HZ:Hid (whichOp l j [op]≠0):=hz;obtain ⟨zz,hzz⟩:=ex_ (whichOp l j [op]);rw [←hzz] at HSG hzb;have c1:=HM2.out.rdr.c1;have f1:=HM2.out.rdr.frozen 1;clear hz hzz;go_wp2_with fail;refine (HSG.out).mono ?_;rintro e w5 ⟨rfl,q,hw5⟩;rw [hw5];clear hw5;go_wp2_with fail;obtain ⟨W3,hW3⟩:=ex_ (((wr.alloc (.cells #[.int .i64 op] 3)).drewN q).setCell ⟨R,1,none⟩ (.int .i64 ((j:Int)+1)));have hal:=HM2.out.rdr.below ((Br wr.heap.size wr).alloc (lr _) (.cells #[.int .i64 op] 3)) hRr;have hwn:=went_next (m:=q) hal;rw [←hW3] at hwn ⊢;have ho3:Only (fun q=>q=R) wr W3:=(Ob ((Br wr.heap.size wr).alloc (lr _) _)).trans hwn.2.1;have hs3:=ho3.size;have hP3:=HP.out.only (HO1.out.trans (HM2.out.only.trans ho3));have hI3:=HINV.out w W3 HWI.out (HO1.out.trans (HM2.out.only.trans ho3));have hcall:=HFN.out (j+1) W3 (by omega) hwn.1 hP3 hI3;obtain ⟨fu,rfl⟩:∃ fu,fuel=fu+1:=⟨fuel - 1,by omega⟩;have hgo:=HRE3.out;rw [many_go HZ.out] at hgo;obtain ⟨r2,hr2⟩:=ex_ (one (j+1));rw [←hr2] at hgo hcall;have HGO:=Hd hgo;have HC2:=Hd hcall;have HO3:=Hd ho3;clear hW3 hal hwn ho3 hP3 hI3 hcall hgo hr2 c1 f1 zq;refine (HC2.out).mono ?_;intro e w6 hq
      cases r2 with
      | bad jb xb=>
       obtain ⟨rfl,ho6⟩:=hq;refine (show _∧_ from ⟨rfl,?_⟩);rw [HRE2.out,←HGO.out];exact ⟨rfl,HO1.out.trans (HM2.out.only.trans (HO3.out.trans ho6))⟩
      | ok t2 j2=>
       obtain ⟨⟨A2,c2,rfl,hV2⟩,hij2,hjl2',hR6,ho6⟩:=hq;have HO36:=Hd (HO3.out.trans ho6);have HV2:Hid (TmVS (fun q=>wr.heap.size≤q) w6 A2 c2 t2):=hV2.keep Kr (fun q _ h=>by omega);have HR6:=Hd hR6;have hs6:=ho6.size;have HO6:=Hd (own_only HM2.out.own HO36.out (by omega));rw [←HN.out] at HO6;obtain ⟨n3,HN3⟩:=exh_ t2.kids.length;unfold Tm.val;rw [←HN3.out];have hcnt:=HM2.out.cnt;rw [←HN.out] at hcnt;clear hV2 hR6 ho6
       go_wp2_with (at_builtin;refine wpList_append_lies _ (by rfl) _ _ _ (by rfl) w1.heap.size 25 i0 (.agg #[.int .i64 0,.int .i64 0,.string ⟨#[]⟩,.slice none 0 0]) 4 56 Tryz.underlying23 hi0 hz0 hz1 hz2 rfl (by decide) _ n _ (by rfl) (HO6.out.alloc _) ⟨w6.heap.size,0,none⟩ 1 1 [.int .i64 t2.op,.int .i64 t2.num,.string t2.name,.slice A2 n3 c2] (by rfl) rfl (World.news_of_block (hA_ w6 _)) (fun u hu=>by simp at hu;rcases hu with rfl | rfl | rfl | rfl <;> rfl) (by decide) ?c3 ?c4 ?c5 (w6.heap.size+1) (by simp) ?_)
       case c3=>unfold maxLen;omega
       case c4=>omega
       case c5=>first | omega | (simp;omega)
       intro g' cap' w7 hown7 hgrow7 hat7 hlt7
       have HM7:=Hd (ManyS.next (acc:=acc) (t:=t2) (A':=A2) (c':=c2) HM2.out (by omega) rfl HO36.out (by omega) hjl2' HR6.out HV2.out (by rw [←HN.out,hs1];unfold TmE.cells;simp only;rw [←HN3.out];exact hown7) hgrow7 (by
        rcases hat7 with h | h
        · exact .inl h.symm
        · exact .inr (fun q hq=>by
           have:g'=q:=by simpa [Value.ownBlock] using hq
           omega)))
       have hrd7:=rdAt_of HM7.out.rdr;have hrdr:=rdAt_of HM2.out.rdr;clear hown7 hgrow7 hat7;go_wp2_with fail
       go_roundw
       case rel=>exact ⟨acc++[⟨t2,A2,c2⟩],j2,fu,by have h:=HM7.out;rw [←HN.out] at *;exact h,by omega,by rw [List.map_append];exact HGO.out⟩
       case measure=>rw [hrd7,hrdr];omega
end Go.Proofs.YtnbphgeepnknlaaGreatDoor
