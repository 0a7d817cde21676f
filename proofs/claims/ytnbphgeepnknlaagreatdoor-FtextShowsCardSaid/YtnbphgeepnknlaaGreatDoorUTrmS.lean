/- Walks and plain words: TrmS FrmQ FrmA FrmB AllP. -/
import Derived.Test.YtnbphgeepnknlaaGreatDoorUTrmI
namespace Go.Proofs.YtnbphgeepnknlaaGreatDoor
open Go.RowKit
set_option linter.unusedVariables false
def pB (t:Tm) (rule:Nat) (ends:Bool):Bool:=decide (ruleOf t.op<rule) || (decide (t.op=18) && !ends)
theorem shw_eq (t:Tm) (rule:Nat) (ends:Bool):shw numS t rule ends=wrapP (pB t rule ends) (bodyE numS t.op t.num t.name.data.toList (shwNot numS t.kids (pB t rule ends || ends)) (shwIf numS t.kids 0) (shwJoin numS t.op t.kids 0 (pB t rule ends || ends))):=by
 cases t;rw [shw];rfl
theorem numS_short:∀ n,-255≤n→n≤255→(numS n).length≤20:=by
 intro n h1 h2;have h3:n.natAbs<10 ^ 3:=by omega
 have h4:(decB n.natAbs).length≤3:=by
  unfold decB
  split
  · decide
  · have:=digs_len (b:=10) (by decide) 3 _ h3
    simpa using this
 unfold numS
 split <;> simp <;> omega
def showTm (t:Tm):Bs×Int:=if t.check≠0 then ([],t.check) else if toldT t=false then ([],3) else if 65536<(shw numS t 0 true).length then ([],4) else (shw numS t 0 true,0)
def strongF (op:Int):Nat:=if op=5 then 1 else if op=4 then 2 else if op=3 then 3 else 4
def leftF (op:Int):Nat:=if op=5 then 2 else if op=4 then 2 else if op=3 then 3 else 1
def rightF (op:Int):Nat:=if op=5 then 1 else if op=4 then 3 else if op=3 then 4 else 1
def inF (op:Int):Bs:=if op=5 then [32,45,62,32] else if op=4 then [32,124,32] else if op=3 then [32,38,32] else [32,85,32]
def preF (op:Int):Bs:=if op=2 then [33] else if op=6 then [69,88,32] else if op=7 then [69,70,32] else if op=8 then [69,71,32] else if op=10 then [65,88,32] else if op=11 then [65,70,32] else [65,71,32]
def openF (op:Int):Bs:=if op=9 then [69,91] else if op=13 then [65,91] else []
def closeF (op:Int):Bs:=if op=9∨op=13 then [93] else []
mutual
def frmT:Fm→Nat→Bs×Int
 | .mk o e l,least=>
  let r:=if o=1 then ([91]++(showTm e).1++[93],(showTm e).2) else frmK o l
  if r.2≠0 then ([],r.2) else if strongF o<least then ([40]++r.1++[41],0) else (r.1,0)
def frmK (o:Int):List Fm→Bs×Int
 | []=>([],0)
 | a :: r=>frmK2 o (frmT a (if fkids o=2 then leftF o else 4)) r
def frmK2 (o:Int) (x:Bs×Int):List Fm→Bs×Int
 | []=>(preF o++x.1,x.2)
 | b :: _=>if x.2≠0 then ([],x.2) else
  let y:=frmT b (rightF o)
  (openF o++x.1++inF o++y.1++closeF o,y.2)
end
def showFm (f:Fm):Bs×Int:=
 if f.check≠0 then ([],f.check) else
 if (frmT f 1).2≠0 then ([],(frmT f 1).2) else if 65536<(frmT f 1).1.length then ([],4) else ((frmT f 1).1,0)
theorem showTm_len (t:Tm):(showTm t).1.length≤65536:=by
 unfold showTm
 split
 · simp
 · split
   · simp
   · split
     · simp
     · show (shw numS t 0 true).length≤65536;omega
theorem preF_len (op:Int):(preF op).length≤3:=by
 unfold preF
 iterate 6 (split;· simp)
 simp
theorem inF_len (op:Int):(inF op).length≤4:=by
 unfold inF
 iterate 3 (split;· simp)
 simp
theorem openF_len (op:Int):(openF op).length≤2:=by
 unfold openF
 iterate 2 (split;· simp)
 simp
theorem closeF_len (op:Int):(closeF op).length≤1:=by
 unfold closeF
 split <;> simp
mutual
theorem frmT_len:∀ (f:Fm) (least:Nat),(frmT f least).1.length≤65600*f.size
 | .mk o e l,least=>by
  have h1:=frmK_len o l;have h2:=showTm_len e;rw [frmT,Fm.size]
  have h3:(if o=1 then ([91]++(showTm e).1++[93],(showTm e).2) else frmK o l).1.length≤65600*Fm.sizeL l+65540:=by
   split
   · simp only [List.length_append,List.length_cons,List.length_nil];omega
   · omega
  generalize (if o=1 then ([91]++(showTm e).1++[93],(showTm e).2) else frmK o l)=r at h3 ⊢
  split
  · simp
  · split
    · simp only [List.length_append,List.length_cons,List.length_nil];omega
    · show r.1.length≤_;omega
theorem frmK_len:∀ (o:Int) (l:List Fm),(frmK o l).1.length≤65600*Fm.sizeL l+10
 | o,[]=>by rw [frmK];simp
 | o,a :: r=>by
  rw [frmK,Fm.sizeL];have h1:=frmT_len a (if fkids o=2 then leftF o else 4);have h2:=frmK2_len o (frmT a (if fkids o=2 then leftF o else 4)) r;omega
theorem frmK2_len:∀ (o:Int) (x:Bs×Int) (l:List Fm),(frmK2 o x l).1.length≤x.1.length+65600*Fm.sizeL l+10
 | o,x,[]=>by
  have:=preF_len o;rw [frmK2,Fm.sizeL];simp only [List.length_append];omega
 | o,x,b :: r=>by
  have h1:=frmT_len b (rightF o);have h2:=inF_len o;have h3:=openF_len o;have h4:=closeF_len o;rw [frmK2,Fm.sizeL]
  split
  · simp
  · simp only [List.length_append]
    generalize 65600*Fm.sizeL r=z at *
    omega
end
mutual
def FmAt (w:World) (g o:Nat):Fm→Prop
 | .mk op e l=>w.cell? ⟨g,o,none⟩=some (.int .i64 op)∧TmAt w g (o+1) e ∧
  ∃ A c,w.cell? ⟨g,o+5,none⟩=some (.slice A l.length c)∧l.length≤c∧c≤maxLen∧(l=[]∨∃ g' o',A=some ⟨g',o',none⟩∧g'<w.heap.size∧FmRow w g' o' l)
def FmRow (w:World) (g o:Nat):List Fm→Prop
 | []=>True
 | t :: r=>FmAt w g o t∧FmRow w g (o+6) r
end
def FKidsAt (w:World) (A:Option Addr) (l:List Fm):Prop:=l=[]∨∃ g' o',A=some ⟨g',o',none⟩∧g'<w.heap.size∧FmRow w g' o' l
mutual
theorem FmAt.below {B:Nat} {w w':World} (hb:Below B w w') (hB:B=w.heap.size):∀ {t:Fm} {g o:Nat},g<B→FmAt w g o t→FmAt w' g o t
 | .mk op e l,g,o,hg,h=>by
  rw [FmAt] at h ⊢;obtain ⟨h0,h1,A,c,h3,h4,h5,h6⟩:=h;refine ⟨by rw [hb.cell (p:=⟨g,_,none⟩) hg];exact h0,TmAt.below hb hB hg h1,A,c,by rw [hb.cell (p:=⟨g,_,none⟩) hg];exact h3,h4,h5,?_⟩
  rcases h6 with h6 | ⟨g',o',rfl,hg',h6⟩
  · exact .inl h6
  · exact .inr ⟨g',o',rfl,lL hg' hb.size,FmRow.below hb hB (by omega) h6⟩
theorem FmRow.below {B:Nat} {w w':World} (hb:Below B w w') (hB:B=w.heap.size):∀ {l:List Fm} {g o:Nat},g<B→FmRow w g o l→FmRow w' g o l
 | [],g,o,hg,h=>by rw [FmRow];trivial
 | t :: r,g,o,hg,h=>by
  rw [FmRow] at h ⊢;exact ⟨FmAt.below hb hB hg h.1,FmRow.below hb hB hg h.2⟩
end
theorem FKidsAt.below {B:Nat} {w w':World} {A:Option Addr} {l:List Fm} (h:FKidsAt w A l) (hb:Below B w w') (hB:B=w.heap.size):FKidsAt w' A l:=by
 rcases h with h | ⟨g',o',rfl,hg',h⟩
 · exact .inl h
 · exact .inr ⟨g',o',rfl,lL hg' hb.size,FmRow.below hb hB (by omega) h⟩
theorem FmRow.get:∀ {w:World} {l:List Fm} {g o j:Nat} {t:Fm},FmRow w g o l→l[j]?=some t→FmAt w g (o+6*j) t
 | w,x :: r,g,o,0,t,h,hj=>by
  rw [FmRow] at h;simp at hj;subst hj;exact h.1
 | w,x :: r,g,o,j+1,t,h,hj=>by
  rw [FmRow] at h;have:=FmRow.get h.2 (j:=j) (by simpa using hj)
  rwa [show o+6+6*j=o+6*(j+1) from by omega] at this
structure FmV (w:World) (Ae:Option Addr) (ce:Nat) (A:Option Addr) (c:Nat) (t:Fm):Prop where
 tm:TmV w Ae ce t.tm
 cap:t.kids.length≤c
 capm:c≤maxLen
 kids:FKidsAt w A t.kids
theorem FmV.below {B:Nat} {w w':World} {Ae A:Option Addr} {ce c:Nat} {t:Fm} (h:FmV w Ae ce A c t) (hb:Below B w w') (hB:B=w.heap.size):FmV w' Ae ce A c t:=⟨h.tm.below hb hB,h.cap,h.capm,h.kids.below hb hB⟩
def Fm.val (Ae:Option Addr) (ce:Nat) (A:Option Addr) (c:Nat) (t:Fm):Value:=.agg #[.int .i64 t.op,.int .i64 t.tm.op,.int .i64 t.tm.num,.string t.tm.name,.slice Ae t.tm.kids.length ce,.slice A t.kids.length c]
theorem FmAt.open {w:World} {g o:Nat} {t:Fm} (h:FmAt w g o t):w.cell? ⟨g,o,none⟩=some (.int .i64 t.op)∧w.cell? ⟨g,o+1,none⟩=some (.int .i64 t.tm.op)∧w.cell? ⟨g,o+2,none⟩=some (.int .i64 t.tm.num)∧w.cell? ⟨g,o+3,none⟩=some (.string t.tm.name) ∧
 ∃ Ae ce A c,w.cell? ⟨g,o+4,none⟩=some (.slice Ae t.tm.kids.length ce)∧w.cell? ⟨g,o+5,none⟩=some (.slice A t.kids.length c)∧FmV w Ae ce A c t:=by
 cases t with
 | mk op e l=>
  rw [FmAt] at h;obtain ⟨h0,h1,A,c,h3,h4,h5,h6⟩:=h;obtain ⟨e0,e1,e2,Ae,ce,e3,hv⟩:=h1.open;exact ⟨h0,e0,e1,e2,Ae,ce,A,c,e3,h3,hv,h4,h5,h6⟩
theorem FmAt.mk {w:World} {g o:Nat} {t:Fm} {Ae A:Option Addr} {ce c:Nat} (h0:w.cell? ⟨g,o,none⟩=some (.int .i64 t.op)) (h1:w.cell? ⟨g,o+1,none⟩=some (.int .i64 t.tm.op)) (h2:w.cell? ⟨g,o+2,none⟩=some (.int .i64 t.tm.num)) (h3:w.cell? ⟨g,o+3,none⟩=some (.string t.tm.name))
 (h4:w.cell? ⟨g,o+4,none⟩=some (.slice Ae t.tm.kids.length ce)) (h5:w.cell? ⟨g,o+5,none⟩=some (.slice A t.kids.length c)) (h:FmV w Ae ce A c t):FmAt w g o t:=by
 cases t with
 | mk op e l=>
  rw [FmAt];exact ⟨h0,TmAt.mk h1 h2 h3 h4 h.tm,A,c,h5,h.cap,h.capm,h.kids⟩
def FBox (w:World) (bx:Nat) (Ae:Option Addr) (ne ce:Nat) (A:Option Addr) (n c:Nat) (t:Fm):Prop:=w.heap[bx]?=some (.cells #[.int .i64 t.op,.int .i64 t.tm.op,.int .i64 t.tm.num,.string t.tm.name,.slice Ae ne ce,.slice A n c] 35 (0,0))
section
variable {w w':World} {bx:Nat} {Ae A:Option Addr} {ne ce n c:Nat} {t:Fm}
theorem FBox.c0 (h:FBox w bx Ae ne ce A n c t):w.cell? ⟨bx,0,none⟩=some (.int .i64 t.op):=by rw [cR w bx 0 _ _ (0,0) h];rfl
theorem FBox.c1 (h:FBox w bx Ae ne ce A n c t):w.cell? ⟨bx,1,none⟩=some (.int .i64 t.tm.op):=by rw [cR w bx 1 _ _ (0,0) h];rfl
theorem FBox.c2 (h:FBox w bx Ae ne ce A n c t):w.cell? ⟨bx,2,none⟩=some (.int .i64 t.tm.num):=by rw [cR w bx 2 _ _ (0,0) h];rfl
theorem FBox.c3 (h:FBox w bx Ae ne ce A n c t):w.cell? ⟨bx,3,none⟩=some (.string t.tm.name):=by rw [cR w bx 3 _ _ (0,0) h];rfl
theorem FBox.c4 (h:FBox w bx Ae ne ce A n c t):w.cell? ⟨bx,4,none⟩=some (.slice Ae ne ce):=by rw [cR w bx 4 _ _ (0,0) h];rfl
theorem FBox.c5 (h:FBox w bx Ae ne ce A n c t):w.cell? ⟨bx,5,none⟩=some (.slice A n c):=by rw [cR w bx 5 _ _ (0,0) h];rfl
theorem FBox.lt (h:FBox w bx Ae ne ce A n c t):bx<w.heap.size:=lH h
theorem FBox.below {B:Nat} (h:FBox w bx Ae ne ce A n c t) (k:Below B w w') (hb:bx<B):FBox w' bx Ae ne ce A n c t:=(k.block bx hb).trans h
end
set_option maxRecDepth 100000
set_option maxHeartbeats 4000000
set_option linter.unusedSectionVars false
theorem Fm.len_le:∀ (l:List Fm),l.length≤Fm.sizeL l
 | []=>zl _
 | t :: r=>by
  have:=Fm.len_le r;cases t;rw [Fm.sizeL,Fm.size,List.length_cons];omega
mutual
def Fm.wsize:Fm→Nat
 | .mk _ e l=>1+e.size+Fm.wsizeL l
def Fm.wsizeL:List Fm→Nat
 | []=>0
 | t :: r=>t.wsize+Fm.wsizeL r
end
theorem Fm.wsizeL_mem:∀ {l:List Fm} {t:Fm},t∈l→t.wsize≤Fm.wsizeL l
 | x :: r,t,h=>by
  rcases List.mem_cons.1 h with rfl | h
  · rw [Fm.wsizeL];omega
  · have:=Fm.wsizeL_mem h;rw [Fm.wsizeL];omega
theorem Fm.wsize_open (t:Fm):t.tm.size≤t.wsize∧∀ k∈t.kids,k.wsize≤t.wsize:=by
 cases t with
 | mk o e l=>
  rw [Fm.wsize];refine ⟨by show e.size≤_;omega,fun k hk=>?_⟩;have:=Fm.wsizeL_mem (show k∈l from hk);omega
mutual
theorem Fm.size_le:∀ t:Fm,t.size≤t.wsize
 | .mk o e l=>by
  have:=Fm.sizeL_le l;rw [Fm.size,Fm.wsize];omega
theorem Fm.sizeL_le:∀ l:List Fm,Fm.sizeL l≤Fm.wsizeL l
 | []=>by rw [Fm.sizeL];omega
 | t :: r=>by
  have h1:=Fm.size_le t;have h2:=Fm.sizeL_le r;rw [Fm.sizeL,Fm.wsizeL];omega
end
structure FVisitor (K:Nat) (cap:Array Value) (B:Nat) (w0:World) {σ:Type} (Inv Fin:σ→World→Prop) (step:σ→Fm→Nat→σ×Bool) (room:σ→Nat):Prop where
 enter:∀ args w,(callFunc K args).run Tryz.prog w=.ok (.enter K args) w
 fin:∀ s w,Inv s w→Fin s w
 keep:∀ s w w',Inv s w→Below w.heap.size w w'→Inv s w'
 lose:∀ s t d,room s≤room (step s t d).1+1
 call:∀ s t (d:Nat) Ae ce A c w,Inv s w→Below B w0 w→FmV w0 Ae ce A c t→d≤10000000→0<room s→t.wsize≤9000000→Calls Tryz.prog K #[t.val Ae ce A c,.int .i64 d,cap.getD 0 undef,cap.getD 1 undef] w fun e w'=>e=.returned (.bool (step s t d).2)∧(Fin (step s t d).1 w'∧((step s t d).2=true→Inv (step s t d).1 w'))∧KT 35 B w w'
section
variable {σ:Type} {step:σ→Fm→Nat→σ×Bool} {room:σ→Nat} (hl:∀ s t d,room s≤room (step s t d).1+1)
include hl
mutual
theorem eachF_lose:∀ (t:Fm) (d:Nat) (s:σ),room s≤room (eachF step t d s).1+t.size
 | .mk o n l,d,s=>by
  rw [eachF_eq,Fm.size];have h1:=hl s (.mk o n l) d
  split
  · have h2:=eachL_lose l (d+1) (step s (.mk o n l) d).1;show _≤room (eachL step l (d+1) _).1+_;omega
  · show _≤room (step s (.mk o n l) d).1+_;omega
theorem eachL_lose:∀ (l:List Fm) (d:Nat) (s:σ),room s≤room (eachL step l d s).1+Fm.sizeL l
 | [],d,s=>by rw [eachL,Fm.sizeL];exact lr _
 | t :: r,d,s=>by
  have h1:=eachF_lose t d s;rw [eachL,Fm.sizeL]
  cases hw:eachF step t d s with
  | mk y b=>
   rw [hw] at h1;simp only at h1
   cases b with
   | false=>simp only;omega
   | true=>
    have h2:=eachL_lose r d y;simp only;omega
end
end
theorem Fm.sizeL_drop {l:List Fm} {k:Nat} {t:Fm} (h:l[k]?=some t):Fm.sizeL (l.drop k)=t.size+Fm.sizeL (l.drop (k+1)):=by
 obtain ⟨hj,hj2⟩:=gE.1 h;rw [List.drop_eq_getElem_cons hj,hj2,Fm.sizeL]
theorem each_any {K:Nat} {c0 c1:Value} {B:Nat} {w0:World} {σ:Type} {Inv Fin:σ→World→Prop} {step:σ→Fm→Nat→σ×Bool} {room:σ→Nat} (V:FVisitor K #[c0,c1] B w0 Inv Fin step room) (hB:B=w0.heap.size) :
 ∀ (N:Nat) (t:Fm) (d:Nat) (Ae:Option Addr) (ce:Nat) (A:Option Addr) (c:Nat) (s:σ) (w:World),t.size≤N→d+t.size≤10000000→t.wsize≤9000000→t.size≤room s→FmV w0 Ae ce A c t→Inv s w→Below B w0 w →
 Calls Tryz.prog 74 #[t.val Ae ce A c,.int .i64 d,.func (.func K) #[] #[c0,c1]] w fun e w'=>e=.returned (.bool (eachF step t d s).2)∧(Fin (eachF step t d s).1 w'∧((eachF step t d s).2=true→Inv (eachF step t d s).1 w'))∧KT 35 B w w':=by
 intro N
 induction N with
 | zero=>
  intro t d Ae ce A c s w hN;cases t;rw [Fm.size] at hN;omega
 | succ N ih=>
  intro t d Ae ce A c s w hN hd hws hroom hV hI hbel;have hrun:=V.enter;have HIHH:=Hd ih;have HV:=Hd hV;have HBEL:=Hd hbel;obtain ⟨wb,hwb⟩:=ex_ (w.alloc (.cells #[.int .i64 t.op,.int .i64 t.tm.op,.int .i64 t.tm.num,.string t.tm.name,.slice Ae t.tm.kids.length ce,.slice A t.kids.length c] 35));have hb1:=bAl hwb;have hI1:=V.keep s w wb hI hb1;have hbw:B≤w.heap.size:=by rw [hB];exact hbel.size
  have hbel1:Below B w0 wb:=hbel.trans (hb1.mono hbw);have htp:1≤t.size:=by cases t;rw [Fm.size];omega
  have hcall:Calls Tryz.prog K #[.agg #[.int .i64 t.op,.int .i64 t.tm.op,.int .i64 t.tm.num,.string t.tm.name,.slice Ae t.tm.kids.length ce,.slice A t.kids.length c],.int .i64 d,c0,c1] wb fun e w'=>e=.returned (.bool (step s t d).2)∧(Fin (step s t d).1 w'∧((step s t d).2=true→Inv (step s t d).1 w'))∧KT 35 B wb w':=V.call s t d Ae ce A c wb hI1 hbel1 hV (by omega) (by omega) hws;have hlos:t.size - 1≤room (step s t d).1:=by have:=V.lose s t d;omega
  have hszk:Fm.sizeL t.kids=t.size - 1:=by cases t;rw [Fm.size];simp only [Fm.kids];omega
  have hbx:wb.heap[w.heap.size]?=some (.cells #[.int .i64 t.op,.int .i64 t.tm.op,.int .i64 t.tm.num,.string t.tm.name,.slice Ae t.tm.kids.length ce,.slice A t.kids.length c] 35 (0,0)):=by rw [hwb];exact hA_ w _
  have hsb:wb.heap.size=w.heap.size+1:=by rw [hwb];simp
  have HBX:=Hd hbx;have HSB:=Hd hsb;have HB1:=Hd hb1;have HBL1:=Hd hbel1;have HFX:=Hd (eachF_eq step t d s);obtain ⟨s1,hs1⟩:=ex_ (step s t d);obtain ⟨r,hr⟩:=ex_ (eachF step t d s);rw [←hs1] at hcall HFX hlos;rw [←hszk] at hlos;rw [←hr] at HFX;rw [←hr];rw [hwb] at hcall;have HC:=Hd hcall;have HON:Hid (KT 35 B w wb):=KT.of_below hb1 hbw;obtain ⟨n,hn⟩:=ex_ t.kids.length;have HN:=Hd hn;have hcap:=hV.cap;have hcapm:=hV.capm;unfold maxLen at hcapm
  have hnl:n≤10000000:=by
   have:t.kids.length≤Fm.sizeL t.kids:=Fm.len_le t.kids;omega
  have HKID:=Hd hV.kids
  have HSZ:Hid (∀ k∈t.kids,k.size≤N∧d+1+k.size≤10000000∧k.wsize≤9000000):=fun k hk=>by
   have h1:=Fm.sizeL_mem hk;have h2:=(Fm.wsize_open t).2 k hk;omega
  have HLOS:=Hd hlos;unfold Fm.val;rw [←hn] at HBX HC hcap hwb ⊢;have HWB:=Hd hwb;have HBQ:=Hd hB;clear hB ih hV hbel hcall hI hI1 hb1 hbel1 hwb hbx hsb hs1 hr hn hN hlos hroom hszk htp;go_enter Tryz.func74,Tryz.ntmps74;go_wp2_with fail;refine (HC.out).mono ?_;rintro e w1 ⟨rfl,hI1,ho1⟩;rw [←HWB.out] at ho1;have HI1:=Hd hI1;have hsz1:=ho1.below.size
  have x3:w1.cell? ⟨w.heap.size,5,none⟩=some (.slice A n c):=by
   have h9:=(ho1.keep _ _ _ HBX.out).trans HBX.out;rw [cR w1 w.heap.size 5 _ _ (0,0) h9];rfl
  have HO1:Hid (KT 35 B w w1):=HON.out.trans ho1;have hlt1:w.heap.size<w1.heap.size:=by have:=HSB.out;omega
  clear hI1 ho1 hsz1;obtain ⟨y,b⟩:=s1
  cases b with
  | false=>
   simp only at HI1;simp only [Bool.false_eq_true,if_false] at HFX;go_wp2_with fail;go_ret;rw [HFX.out];exact ⟨rfl,⟨HI1.out.1,fun h=>by cases h⟩,HO1.out⟩
  | true=>
   simp only at HI1 HLOS;simp only [if_true] at HFX;go_wp2_with fail
   go_loopw [17] (fun si wr=>∃ (k:Nat) (x:σ),k≤n∧si=.int .i64 k∧Inv x wr∧KT 35 B w wr∧w.heap.size<wr.heap.size∧Fm.sizeL (t.kids.drop k)≤room x∧eachL step (t.kids.drop k) (d+1) x=r) (fun i _=>n - (intOf i).toNat)
   case atStart=>exact ⟨0,y,zl _,rfl,HI1.out.2 (by first | rfl | trivial),HO1.out,hlt1,HLOS.out,HFX.out.symm⟩
   case round=>
    obtain ⟨k,x,hk,rfl,hI,ho,hlr,hrm,hwl⟩:=hrel;have HI:=Hd hI;have HO:=Hd ho;have HWL:=Hd hwl;have HRM:=Hd hrm;have hszr:=ho.below.size;clear hI ho hwl hrm
    by_cases hlt:k<n
    · obtain ⟨kd,hkd⟩:∃ kd,t.kids[k]?=some kd:=⟨_,gG (by have:=HN.out;omega)⟩;have hmem:kd∈t.kids:=mG hkd
      rcases HKID.out with h9 | ⟨g,off,rfl,hg,hrow⟩
      · rw [h9] at hkd;simp at hkd
      obtain ⟨q0,q1,q2,q3,Ae2,ce2,A2,c2,q4,q5,hV2⟩:=(hrow.get hkd).open;have hbr:Below B w0 wr:=HBEL.out.trans HO.out.below;have hgB:g<B:=by rw [HBQ.out];exact hg
      rw [←hbr.cell (p:=⟨g,_,none⟩) hgB] at q0 q1 q2 q3 q4 q5;have hgw:g<wr.heap.size:=by omega
      obtain ⟨n2,HN2⟩:=exh_ kd.kids.length;rw [←HN2.out] at q5;have HBR:=Hd hbr;have HV2:=Hd hV2
      have HDR:Hid (t.kids.drop k=kd :: t.kids.drop (k+1)):=by
       obtain ⟨hj,hj2⟩:=gE.1 hkd;show _=_;rw [List.drop_eq_getElem_cons hj,hj2]
      have HSD:=Hd (Fm.sizeL_drop hkd);have HSK:=Hd (HSZ.out kd hmem);have hk0:(0:Int)≤(k:Int):=by omega
      have hk1:(k:Int)<(n:Int):=by omega
      have e1:off+6*k=off+k*6:=by omega
      rw [e1] at q0 q1 q2 q3 q4 q5;clear hkd hmem hrow hbr hV2 e1;obtain ⟨wk,hwk⟩:=ex_ (wr.alloc (.cells #[.int .i64 kd.op,.int .i64 kd.tm.op,.int .i64 kd.tm.num,.string kd.tm.name,.slice Ae2 kd.tm.kids.length ce2,.slice A2 n2 c2] 35));have hbk:=bAl hwk;have hBr:B≤wr.heap.size:=by omega
      have hzk:w.heap.size<wk.heap.size:=by have:=hbk.size;omega
      have hok:KT 35 B w wk:=HO.out.thenBelow hbk (by omega) hBr;have hih:=HIHH.out kd (d+1) Ae2 ce2 A2 c2 x wk HSK.out.1 HSK.out.2.1 HSK.out.2.2 (by have h1:=HRM.out;rw [HSD.out] at h1;omega) HV2.out (V.keep x wr wk HI.out hbk) (HBR.out.trans (hbk.mono hBr))
      have HLO:Hid (Fm.sizeL (t.kids.drop (k+1))≤room (eachF step kd (d+1) x).1):=by
       have h1:=HRM.out;rw [HSD.out] at h1;have h2:=eachF_lose V.lose kd (d+1) x;show _≤_;omega
      rw [show ((d+1:Nat):Int)=(d:Int)+1 from by omega] at hih;unfold Fm.val at hih;rw [←HN2.out] at hih;obtain ⟨z,HZ⟩:=exh_ (eachF step kd (d+1) x);rw [←HZ.out] at hih HLO;have HIH:=Hd hih;have HWK:=Hd hwk;have HOK:=Hd hok;rw [HWK.out] at HIH;clear hih hwk hbk hok;go_wp2_with fail;refine (HIH.out).mono ?_;rintro e w2 ⟨rfl,hI2,ho2⟩;rw [←HWK.out] at ho2;have hz2:=ho2.below.size;have HI2:=Hd hI2;have HO2:=Hd (HOK.out.trans ho2);clear hI2 ho2;obtain ⟨y2,b2⟩:=z
      have HW2:Hid (eachL step (t.kids.drop k) (d+1) x=if b2=true then eachL step (t.kids.drop (k+1)) (d+1) y2 else (y2,false)):=by
       show _=_;rw [HDR.out,eachL,←HZ.out];cases b2 <;> rfl
      cases b2 with
      | false=>
       have HR:Hid (r=(y2,false)):=by show _=_;rw [←HWL.out,HW2.out];rfl
       go_wp2_with fail;go_ret;rw [HR.out];exact ⟨rfl,⟨HI2.out.1,fun h=>by cases h⟩,HO2.out⟩
      | true=>
       go_wp2_with fail
       go_roundw
       case rel=>exact ⟨k+1,y2,by omega,by go_num,HI2.out.2 (by first | rfl | trivial),HO2.out,by omega,HLO.out,by rw [←HWL.out,HW2.out];rfl⟩
       case measure=>first | (simp [intOf];done) | (simp [intOf];omega)
    · have hkn:k=n:=by omega
      have HR:Hid (r=(x,true)):=by
       show _=_;rw [←HWL.out,List.drop_eq_nil_of_le (by have:=HN.out;omega)]
       rfl
      have hk1:¬(k:Int)<(n:Int):=by omega
      go_wp2_with fail;go_ret;rw [HR.out];exact ⟨rfl,⟨V.fin _ _ HI.out,fun _=>HI.out⟩,HO.out⟩
structure TokOk (t:Tok):Prop where
 pos:0<t.text.length
 n0:0≤t.n
 n1:t.n≤255
 name:t.kind=2→isName t.text=true
theorem numSpec_le (l:Bs):(numSpec l).1≤255:=by
 unfold numSpec
 split
 · exact zl _
 · split
   · exact zl _
   · split
     · exact zl _
     · show valOf _≤255;omega
theorem rowLen_take_full (p:UInt8→Bool):∀ r:Bs,rowLen p (r.take (rowLen p r))=rowLen p r∧(r.take (rowLen p r)).length=rowLen p r
 | []=>⟨rfl,rfl⟩
 | c :: r=>by
  cases h:p c with
  | true=>
   have ih:=rowLen_take_full p r;rw [rowLen_cons_true h,List.take_succ_cons,rowLen_cons_true h,ih.1,List.length_cons,ih.2];exact ⟨rfl,rfl⟩
  | false=>
   rw [rowLen_cons_false h];exact ⟨rfl,rfl⟩
theorem scan_tok {l:Bs} {k:Int} {n len:Nat} (h:scan l=(k,n,len,0)):n≤255∧(k=2→isName (l.take len)=true):=by
 cases l with
 | nil=>
  rw [scan_end] at h;simp only [Prod.mk.injEq] at h;obtain ⟨h1,h2,-,-⟩:=h;exact ⟨by omega,fun h3=>by omega⟩
 | cons c r=>
  cases hl:isLetter c
  · cases hd:isDigit c
    · rw [scan_sign hl hd] at h
      cases hs:signIdx (c :: r) signL 0 with
      | none=>rw [hs] at h;simp at h
      | some i=>
       rw [hs] at h;simp only [Prod.mk.injEq] at h;obtain ⟨h1,h2,_,_⟩:=h;exact ⟨by omega,fun h3=>by omega⟩
    · rw [scan_digit hl hd] at h
      split at h
      · simp only [Prod.mk.injEq] at h;obtain ⟨h1,h2,_,_⟩:=h;have:=numSpec_le (c :: r);exact ⟨by omega,fun h3=>by omega⟩
      · rename_i he
        simp only [Prod.mk.injEq] at h;obtain ⟨-,-,-,h4⟩:=h;omega
  · rw [scan_letter hl] at h;have hpos:0<rowLen isInside (c :: r):=by rw [rowLen_cons_true (inside_letter hl)];omega
    have hf:=rowLen_take_full isInside (c :: r)
    split at h
    · simp at h
    · rename_i h24
      split at h
      · simp only [Prod.mk.injEq] at h;obtain ⟨h1,h2,_,_⟩:=h;exact ⟨by omega,fun h3=>by omega⟩
      · rename_i hw
        simp only [Prod.mk.injEq] at h;obtain ⟨h1,h2,h3,_⟩:=h;refine ⟨by omega,fun _=>?_⟩;rw [←h3];unfold isName;have e0:(c :: r).take (rowLen isInside (c :: r))≠[]:=fun e=>by rw [e] at hf;have:=hf.2;simp at this;omega
        have e1:((c :: r).take (rowLen isInside (c :: r))).headD 0=c:=by
         cases hr:rowLen isInside (c :: r) with
         | zero=>omega
         | succ m=>rw [List.take_succ_cons];rfl
        rw [e1,hl,hf.1,hf.2];simp at hw;simp [e0,hw];omega
theorem next_tok {l:Bs} {p:Nat} (hp:p≤l.length) (h:(next l p).2.2=0) (hk:(next l p).1.kind≠5):TokOk (next l p).1∧p+(next l p).1.text.length≤(next l p).2.1∧(next l p).2.1≤l.length:=by
 have hb:=blank_len (l.drop p);rw [List.length_drop] at hb
 have hs:scan (blank (l.drop p))=((scan (blank (l.drop p))).1,(scan (blank (l.drop p))).2.1,(scan (blank (l.drop p))).2.2.1,0):=by
  unfold next at h;simp only at h
  split at h
  · rename_i he
    rw [←he]
  · rename_i he
    simp at h;exact absurd h he
 unfold next at hk ⊢;simp only at hk ⊢;rw [iP (by rw [hs])] at hk ⊢;simp only at hk ⊢;have ht:=scan_tok hs
 rcases scan_ok hs with ⟨h1,h2,h3,h4⟩ | ⟨h1,h2,h3⟩
 · exact absurd h1 hk
 · refine ⟨⟨by simp only [List.length_take];omega,by simp,by simp only;omega,ht.2⟩,?_,?_⟩
   · rw [List.length_take];omega
   · omega
def txts (l:List Tok):Nat:=(l.map fun t=>t.text.length).sum
theorem allF_ok:∀ (n:Nat) (l:Bs) (p:Nat) (acc:List Tok),p≤l.length→(∀ t∈acc,TokOk t)→txts acc≤p→(∀ t∈(allF n l p acc).1,TokOk t)∧txts (allF n l p acc).1≤l.length
 | 0,l,p,acc,hp,ha,hs=>by
  rw [allF];exact ⟨fun t ht=>by simp at ht,zl _⟩
 | n+1,l,p,acc,hp,ha,hs=>by
  rw [allF]
  by_cases h:(next l p).2.2=0
  · rw [iP h]
    by_cases hk:(next l p).1.kind=5
    · rw [iP hk];exact ⟨ha,by show txts acc≤_;omega⟩
    · rw [iN hk];obtain ⟨h1,h2,h3⟩:=next_tok hp h hk;refine allF_ok n l _ _ h3 (fun t ht=>?_) ?_
      · rcases List.mem_append.1 ht with ht | ht
        · exact ha t ht
        · rw [List.mem_singleton.1 ht];exact h1
      · unfold txts at hs ⊢;simp;omega
  · rw [iN h];exact ⟨fun t ht=>by simp at ht,zl _⟩
theorem all_ok (s:Bs):(∀ t∈(all s).1,TokOk t)∧txts (all s).1≤s.length∧txts (all s).1≤65536:=by
 unfold all
 by_cases h:65536<s.length
 · rw [iP h];exact ⟨fun t ht=>by simp at ht,zl _,zl _⟩
 · rw [iN h];have hx:=allF_ok (s.length+1) s 0 [] (zl _) (fun t ht=>by simp at ht) (zl _);exact ⟨hx.1,hx.2,by omega⟩
theorem txts_mem:∀ {l:List Tok} {t:Tok},t∈l→t.text.length≤txts l
 | x :: r,t,h=>by
  unfold txts;rw [List.map_cons,List.sum_cons]
  rcases List.mem_cons.1 h with rfl | h
  · omega
  · have:=txts_mem h;unfold txts at this;omega
theorem txts_len:∀ {l:List Tok},(∀ t∈l,TokOk t)→l.length≤txts l
 | [],_=>zl _
 | x :: r,h=>by
  have h1:=(h x (by simp)).pos;have h2:=txts_len (l:=r) (fun t ht=>h t (by simp [ht]));unfold txts at h2 ⊢;rw [List.map_cons,List.sum_cons,List.length_cons];omega
end Go.Proofs.YtnbphgeepnknlaaGreatDoor
