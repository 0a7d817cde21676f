/- Walks and plain words: RpTk RfqD. -/
import Derived.Test.YtkhoeoilamddaaaGreatDoorQRprS
import Derived.Test.YtkhoeoilamddaaaGreatDoorQRefA
namespace Go.Proofs.YtkhoeoilamddaaaGreatDoor
open Go.RowKit
set_option linter.unusedVariables false
set_option linter.unusedSimpArgs false
set_option maxRecDepth 100000
set_option maxHeartbeats 8000000
theorem qD{o:Array Oper}{i:Nat}{x:Oper}(h:o.toList[i]?=some x):o[i]?=some x:=by simpa using h
theorem zw(tm:Array Value)(D:Nat)(Y z2:Value)(G I J O:Value)(w:World)(h2:tm[4]?=some (.pointer (some ⟨D,0,none⟩)))(h3:tm[5]?=some Y)(h4:tm[6]?=some z2)(h:w.heap[D]?=some (.cells #[G,I,J,O] 64 (0,0))) :
 (results Tryz.f94 tm).run Tryz.prog w=.ok (.tuple #[.agg #[G,I,J,O],Y,z2]) w:=by
 obtain⟨y0,y1,y2,y3,-⟩:=q4 h;unfold results;rw[Tryz.results94];simp only[Array.getD_eq_getD_getElem?];simp[h2,h3,h4,go_sem,y0,y1,y2,y3]
theorem aay(l:List Tok)(A:Option Addr)(c i:Nat)(w:World)(hi:i≤l.length)(hT:dP w A c l) :
 Calls Tryz.prog 94 #[.slice A l.length c,.int .i64 (i:Nat)] w (VX l w (iU l i)):=by
 have hlen:=hT.len;have av:=hT.cap;have aQ:=hT.bU;unfold maxLen at aQ;obtain⟨n,hn⟩:=aj l.length;rw[←hn]at hi hlen av⊢;obtain⟨F,hF⟩:=aj (VX l w (iU l i));rw[←hF];obtain⟨I,ag⟩:=aj w.heap.size;obtain⟨w1,hw1⟩:=aj (w.alloc (.cells #[.int .i64 0,.int .i64 0,.string ⟨#[]⟩,.slice none 0 0] 64));have hb1:=dz hw1;have ax:w1.heap[I]?=some (.cells #[.int .i64 0,.int .i64 0,.string ⟨#[]⟩,.slice none 0 0] 64 (0,0)):=by rw[hw1,ag];exact eu w _
 have ba:w1.heap.size=I+1:=by rw[hw1,ag];simp
 have Y:=(abm l 256 0 rfl).term A c i w1 (by rw[←hn];exact hi) (hT.below hb1);rw[←hn]at Y;obtain⟨r,hr⟩:=aj ((lvl l 256).term i);rw[←hr]at Y;have bE:Hid (F=VX l w (ajq i r)):=by show _=_;rw[hF,hr];rfl
 have Tq:Hid (∀t j,r=.ok t j→Gd l i t j):=fun t j h=>(IV l 256).term i t j (by rw[←hr];exact h);have ay:Hid (∀j x,r=.bad j x→x≠0):=fun j x h=>(Mh l 256).1 i j x (by rw[←hr];exact h);have HC:=Hd Y;have aP:=Hd hw1;have qY:=Hd ag;have HB:=Hd hb1;have O:=Hd ax;have HN:=Hd hn;have a7:¬(i:Int)<0:=by omega
 have a8:¬(n:Int)<(i:Int):=by omega
 have a6:w.heap.size≤I:=by omega
 clear hF ag hw1 hb1 ax Y hr hn hT;go_in;go_wp2_with fail;rw[←aP,←qY];refine HC.mono ?_;intro e w2 hq
 rcases r with⟨jb,xb⟩|⟨t,j⟩
 ·obtain⟨A',c',rfl,hV,J⟩:=iq.1 hq;have hx:=ay _ _ rfl;have bd:(xb != 0)=true:=by simpa using hx
  have dJ:Hid (F=VX l w (dG,jb,xb)):=bE;obtain⟨b7,iY⟩:=aj w2.heap.size;obtain⟨w3,aa⟩:=aj (w2.alloc (.cells #[.int .i64 0,.int .i64 0,.string ⟨#[]⟩,.slice A' 0 c',.int .i64 (jb:Nat),.int .i64 xb] 194));have X7:=jZ aa iY;have ab:=dz aa;have n74:b7≠I:=by have:=J.size;omega
  replace O:=Hd ((ab.block I (by have:=J.size;omega)).trans ((J.block I (by omega)).trans O));replace HB:=Hd (HB.trans ((J.mono (by omega)).trans (ab.mono (by have:=J.size;omega))));have aw:b7<w3.heap.size:=lH X7;have Ao:=Hd aa;have qM:=Hd iY;clear hq hV J ab aa iY hx HC;go_wp2_with fail;rw[←Ao,←qM];obtain⟨u0,u1,u2,u3,u4,u5,eG⟩:=q6 X7;(try go_wp2_with fail);clear u0 eG u1 u2 u3 u4 u5;obtain⟨wd,hwd⟩:=aj w3.drew;have af:wd.heap[b7]?=some (.cells #[.int .i64 0,.int .i64 0,.string ⟨#[]⟩,.slice A' 0 c',.int .i64 (jb:Nat),.int .i64 xb] 194 (0,0)):=by rw[hwd];exact X7
  have Y4:Hid (wd.heap[I]?=some (.cells #[.int .i64 0,.int .i64 0,.string ⟨#[]⟩,.slice none 0 0] 64 (0,0))):=by show _=_;rw[hwd];exact O
  have YB:Hid (Below w.heap.size w wd):=by show Below _ _ _;rw[hwd];exact HB.drew
  refine wp_region_held_drew (S:=fun w'=>w'.heap[b7]?=some (.cells #[.int .i64 0,.int .i64 0,.string ⟨#[]⟩,.slice A' 0 c',.int .i64 (jb:Nat),.int .i64 xb] 194 (0,0))) (by kernel_rfl) (by rw[←hwd];exact af) (fun G=>?_);rw[←hwd]at G⊢;clear hwd af O HB;have O:=Y4;have HB:=YB;clear Y4 YB;refine gJ 0 (v:=?_) (qD rfl) (Or.inl ⟨by rfl,?hy⟩) (by assumption) ?_
  case hy=>
   intro w0 D;obtain⟨h0,h1,h2,h3,h4,h5,-⟩:=q6 D;clear D;go_simp
   (first|done|with_reducible rfl)
  (try simp only[Act.put,aT,aU,aV]);refine gJ 1 (v:=?_) (qD rfl) (Or.inl ⟨by rfl,?hy⟩) (by assumption) ?_
  case hy=>
   intro w0 D;obtain⟨h0,h1,h2,h3,h4,h5,-⟩:=q6 D;clear D;go_simp
   (first|done|with_reducible rfl)
  (try simp only[Act.put,aT,aU,aV]);refine gJ 2 (v:=?_) (qD rfl) (Or.inl ⟨by rfl,?hy⟩) (by assumption) ?_
  case hy=>
   intro w0 D;obtain⟨h0,h1,h2,h3,h4,h5,-⟩:=q6 D;clear D;go_simp
   (first|done|with_reducible rfl)
  (try simp only[Act.put,aT,aU,aV]);refine gJ 3 (v:=?_) (qD rfl) (Or.inl ⟨by rfl,?hy⟩) (by assumption) ?_
  case hy=>
   intro w0 D;obtain⟨h0,h1,h2,h3,h4,h5,-⟩:=q6 D;clear D;go_simp
   (first|done|with_reducible rfl)
  (try simp only[Act.put,aT,aU,aV]);refine gJ 4 (v:=?_) (qD rfl) (Or.inl ⟨by rfl,?hy⟩) (by assumption) ?_
  case hy=>
   intro w0 D;obtain⟨h0,h1,h2,h3,h4,h5,-⟩:=q6 D;clear D;go_simp
   (first|done|with_reducible rfl)
  (try simp only[Act.put,aT,aU,aV]);refine Rd (rs:=[5]) (by kernel_rfl) (by simp) ?_;refine Rc (qD rfl) (fun K hK=>?_) Rn;obtain⟨v0,v1,v2,v3,bW⟩:=q4 O;go_simp;clear v0 bW v1 v2 v3;refine hK.out _ _ ((fH n74).trans G) (fun G=>?_);clear hK K;(try simp only[Act.put,aT,aU,aV]);refine gJ 6 (v:=?_) (qD rfl) (Or.inl ⟨by rfl,?hy⟩) (by assumption) ?_
  case hy=>
   intro w0 D;obtain⟨h0,h1,h2,h3,h4,h5,-⟩:=q6 D;clear D;go_simp
   (first|done|with_reducible rfl)
  (try simp only[Act.put,aT,aU,aV]);refine gJ 7 (v:=?_) (qD rfl) (Or.inl ⟨by rfl,?hy⟩) (by assumption) ?_
  case hy=>
   intro w0 D;obtain⟨h0,h1,h2,h3,h4,h5,-⟩:=q6 D;clear D;go_simp
   (first|done|with_reducible rfl)
  (try simp only[Act.put,aT,aU,aV]);refine wpAnyH_done (by kernel_rfl) ?_ _;clear G;go_wp2_with fail;obtain⟨WW,nT⟩:=aj (((((wd.setCell ⟨I,0,none⟩ (.int .i64 0)).setCell ⟨I,1,none⟩ (.int .i64 0)).setCell ⟨I,2,none⟩ (.string ⟨#[]⟩)).setCell ⟨I,3,none⟩ (.slice none 0 0)));have hrow:WW.heap[I]?=some (.cells #[.int .i64 0,.int .i64 0,.string ⟨#[]⟩,.slice none 0 0] 64 (0,0)):=by rw[nT];exact ni O
  have J4:Hid (Below w.heap.size w WW):=by
   show Below _ _ _;rw[nT];have hb:w.heap.size≤I:=by rw[qY];exact lr _
   exact(((((Ob (F:=fun q=>w.heap.size≤q) HB).bq hb _).bq hb _).bq hb _).bq hb _).below (fun q h=>h) (lr _)
  rw[←nT];clear nT;refine bR (zw _ I _ _ _ _ _ _ _ rfl rfl rfl hrow) rfl ?_;rw[dJ];exact⟨none,0,rfl,aD.leaf (zl _),J4⟩
 ·obtain⟨A',c',rfl,hV,J⟩:=vS.1 hq;have ao:=Hd (Tq _ _ rfl);obtain⟨n2,ai⟩:=aj t.kids.length;rw[←ai];have dJ:Hid (F=VX l w (if t.check=0 then(t,j,0)else(dG,i,t.check))):=bE;obtain⟨b7,iY⟩:=aj w2.heap.size;obtain⟨w3,aa⟩:=aj (w2.alloc (.cells #[.int .i64 t.op,.int .i64 t.num,.string t.name,.slice A' n2 c',.int .i64 (j:Nat),.int .i64 0] 194));have X7:=jZ aa iY;have ab:=dz aa;have n74:b7≠I:=by have:=J.size;omega
  have Y4:=Hd ((ab.block I (by have:=J.size;omega)).trans ((J.block I (by omega)).trans O));have YB:=Hd (HB.trans ((J.mono (by omega)).trans (ab.mono (by have:=J.size;omega))));have aw:b7<w3.heap.size:=lH X7;have Ao:=Hd aa;have qM:=Hd iY;have ar:aD (fun q=>w1.heap.size≤q) w3 A' c' t:=hV.keep (Kb ab) (fun _ _ h=>h);have ae:=F9 t A' c' w3 ar.toV (by have h1:=ao.sz;have h2:=ao.ij;have h3:=ao.jl;rw[←HN]at h3;omega);unfold Tm.val at ae;rw[←ai]at ae;have IC:=Hd ae;have az:=Hd ar;have kU:=Hd ai;clear hq hV J ab aa iY O HB HC ar ae ai;have O:=Y4;have HB:=YB;clear Y4 YB;go_wp2_with fail;rw[←Ao,←qM];obtain⟨u0,u1,u2,u3,u4,u5,eG⟩:=q6 X7;(try go_wp2_with fail);refine IC.mono ?_;rintro e w4 ⟨rfl,JH⟩;have bb:=JH.size;have Y7:=Hd ((JH.block b7 aw).trans X7);have Y4:=kX JH O;have YB:=kB HB JH;have aE:Hid (aD (fun q=>w1.heap.size≤q) w4 A' c' t):=az.keep (Kb JH) (fun _ _ h=>h);clear u0 eG u1 u2 u3 u4 u5 X7 O HB IC JH;have X7:=Y7;have O:=Y4;have HB:=YB;clear Y7 Y4 YB
  by_cases hz:t.check=0
  ·rw[hz];have pR:Hid (F=VX l w (t,j,0)):=by show _=_;rw[dJ,iP hz]
   clear hz;go_wp2_with fail;obtain⟨wd,hwd⟩:=aj w4.drew;have af:wd.heap[b7]?=some (.cells #[.int .i64 t.op,.int .i64 t.num,.string t.name,.slice A' n2 c',.int .i64 (j:Nat),.int .i64 0] 194 (0,0)):=by rw[hwd];exact X7
   have Y4:Hid (wd.heap[I]?=some (.cells #[.int .i64 0,.int .i64 0,.string ⟨#[]⟩,.slice none 0 0] 64 (0,0))):=by show _=_;rw[hwd];exact O
   have YB:Hid (Below w.heap.size w wd):=by show Below _ _ _;rw[hwd];exact HB.drew
   have aJ:Hid (aD (fun q=>w1.heap.size≤q) wd A' c' t):=by show aD _ _ _ _ _;rw[hwd];exact aE.keep ⟨lr _,fun _ _ _=>rfl⟩ (fun _ _ h=>h)
   refine wp_region_held_drew (S:=fun w'=>w'.heap[b7]?=some (.cells #[.int .i64 t.op,.int .i64 t.num,.string t.name,.slice A' n2 c',.int .i64 (j:Nat),.int .i64 0] 194 (0,0))) (by kernel_rfl) (by rw[←hwd];exact af) (fun G=>?_);rw[←hwd]at G⊢;clear hwd af O HB;have O:=Y4;have HB:=YB;clear Y4 YB;refine gJ 0 (v:=?_) (qD rfl) (Or.inl ⟨by rfl,?hy⟩) (by assumption) ?_
   case hy=>
    intro w0 D;obtain⟨h0,h1,h2,h3,h4,h5,-⟩:=q6 D;clear D;go_simp
    (first|done|with_reducible rfl)
   (try simp only[Act.put,aT,aU,aV]);refine gJ 1 (v:=?_) (qD rfl) (Or.inl ⟨by rfl,?hy⟩) (by assumption) ?_
   case hy=>
    intro w0 D;obtain⟨h0,h1,h2,h3,h4,h5,-⟩:=q6 D;clear D;go_simp
    (first|done|with_reducible rfl)
   (try simp only[Act.put,aT,aU,aV]);refine gJ 2 (v:=?_) (qD rfl) (Or.inl ⟨by rfl,?hy⟩) (by assumption) ?_
   case hy=>
    intro w0 D;obtain⟨h0,h1,h2,h3,h4,h5,-⟩:=q6 D;clear D;go_simp
    (first|done|with_reducible rfl)
   (try simp only[Act.put,aT,aU,aV]);refine gJ 3 (v:=?_) (qD rfl) (Or.inl ⟨by rfl,?hy⟩) (by assumption) ?_
   case hy=>
    intro w0 D;obtain⟨h0,h1,h2,h3,h4,h5,-⟩:=q6 D;clear D;go_simp
    (first|done|with_reducible rfl)
   (try simp only[Act.put,aT,aU,aV]);refine Rd (rs:=[4]) (by kernel_rfl) (by simp) ?_;refine Rc (qD rfl) (fun K hK=>?_) Rn;obtain⟨v0,v1,v2,v3,bW⟩:=q4 O;go_simp;clear v0 bW v1 v2 v3;refine hK.out _ _ ((fH n74).trans G) (fun G=>?_);clear hK K;(try simp only[Act.put,aT,aU,aV]);refine gJ 5 (v:=?_) (qD rfl) (Or.inl ⟨by rfl,?hy⟩) (by assumption) ?_
   case hy=>
    intro w0 D;obtain⟨h0,h1,h2,h3,h4,h5,-⟩:=q6 D;clear D;go_simp
    (first|done|with_reducible rfl)
   (try simp only[Act.put,aT,aU,aV]);refine gJ 6 (v:=?_) (qD rfl) (Or.inl ⟨by rfl,?hy⟩) (by assumption) ?_
   case hy=>
    intro w0 D;obtain⟨h0,h1,h2,h3,h4,h5,-⟩:=q6 D;clear D;go_simp
    (first|done|with_reducible rfl)
   (try simp only[Act.put,aT,aU,aV]);refine wpAnyH_done (by kernel_rfl) ?_ _;clear G;go_wp2_with fail;obtain⟨WW,nT⟩:=aj (((((wd.setCell ⟨I,0,none⟩ (.int .i64 t.op)).setCell ⟨I,1,none⟩ (.int .i64 t.num)).setCell ⟨I,2,none⟩ (.string t.name)).setCell ⟨I,3,none⟩ (.slice A' n2 c')));have hrow:WW.heap[I]?=some (.cells #[.int .i64 t.op,.int .i64 t.num,.string t.name,.slice A' n2 c'] 64 (0,0)):=by rw[nT];exact ni O
   have J4:Hid (Below w.heap.size w WW):=by
    show Below _ _ _;rw[nT];have hb:w.heap.size≤I:=by rw[qY];exact lr _
    exact(((((Ob (F:=fun q=>w.heap.size≤q) HB).bq hb _).bq hb _).bq hb _).bq hb _).below (fun q h=>h) (lr _)
   have aF:Hid (aD (fun q=>w.heap.size≤q) WW A' c' t):=by
    show aD _ _ _ _ _;rw[nT];exact aJ.keep ((((aR.refl.set (by omega) _).set (by omega) _).set (by omega) _).set (by omega) _) (fun q _ h=>by have:=qY.out;omega)
   rw[←nT];clear nT;refine bR (zw _ I _ _ _ _ _ _ _ rfl rfl rfl hrow) rfl ?_;rw[pR];exact⟨A',c',by unfold Tm.val;rw[←kU];rfl,aF,J4⟩
  ·have aS:(t.check != 0)=true:=by simpa using hz
   have pR:Hid (F=VX l w (dG,i,t.check)):=by show _=_;rw[dJ,iN hz]
   obtain⟨ck,ae⟩:=aj t.check;rw[←ae]at aS pR⊢;clear hz ae;obtain⟨v0,v1,v2,v3,bW⟩:=q4 O;go_wp2_with fail;clear v0 bW v1 v2 v3;obtain⟨WW,nT⟩:=aj (((((w4.setCell ⟨I,0,none⟩ (.int .i64 0)).setCell ⟨I,1,none⟩ (.int .i64 0)).setCell ⟨I,2,none⟩ (.string ⟨#[]⟩)).setCell ⟨I,3,none⟩ (.slice none 0 0)));have hrow:WW.heap[I]?=some (.cells #[.int .i64 0,.int .i64 0,.string ⟨#[]⟩,.slice none 0 0] 64 (0,0)):=by rw[nT];exact ni O
   have J4:Hid (Below w.heap.size w WW):=by
    show Below _ _ _;rw[nT];have hb:w.heap.size≤I:=by rw[qY];exact lr _
    exact(((((Ob (F:=fun q=>w.heap.size≤q) HB).bq hb _).bq hb _).bq hb _).bq hb _).below (fun q h=>h) (lr _)
   rw[←nT];clear nT;refine bR (zw _ I _ _ _ _ _ _ _ rfl rfl rfl hrow) rfl ?_;rw[pR];exact⟨none,0,rfl,aD.leaf (zl _),J4⟩
set_option maxHeartbeats 16000000
theorem xK{o:Array Oper}{i:Nat}{x:Oper}(h:o.toList[i]?=some x):o[i]?=some x:=by simpa using h
def kE(s:Bs)(k:Nat):Int:=if k≤0∧s=[69,88]then 6 else if k≤1∧s=[69,70]then 7 else if k≤2∧s=[69,71]then 8 else if k≤3∧s=[65,88]then 10 else if k≤4∧s=[65,70]then 11 else if k≤5∧s=[65,71]then 12 else 0
theorem Bo(s:ByteArray)(w:World):Calls Tryz.prog 199 #[.string s] w fun e w'=>e=.returned (.int .i64 (kE (bs s) 0))∧Below w.heap.size w w':=by
 obtain⟨r,HR⟩:=ak (kE (bs s) 0);obtain⟨F,hF⟩:∃F:Ending→World→Prop,F=fun e w'=>e=.returned (.int .i64 r)∧Below w.heap.size w w':=⟨_,rfl⟩;rw[←HR,←hF];have Y:=Hd hF;obtain⟨w2,J⟩:=aj ((w.alloc (.cells #[.string ⟨#[69,88]⟩,.string ⟨#[69,70]⟩,.string ⟨#[69,71]⟩,.string ⟨#[65,88]⟩,.string ⟨#[65,70]⟩,.string ⟨#[65,71]⟩] 9)).alloc (.cells #[.int .i64 6,.int .i64 7,.int .i64 8,.int .i64 10,.int .i64 11,.int .i64 12] 3));have O:Hid (Below w.heap.size w w2):=by show Below _ _ _;rw[J];exact((Br _ _).alloc (lr _) _).alloc (by simp) _
 have af:w2.heap[w.heap.size]?=some (.cells #[.string ⟨#[69,88]⟩,.string ⟨#[69,70]⟩,.string ⟨#[69,71]⟩,.string ⟨#[65,88]⟩,.string ⟨#[65,70]⟩,.string ⟨#[65,71]⟩] 9 (0,0)):=by rw[J];exact aK (eu w _)
 have ae:w2.heap[w.heap.size+1]?=some (.cells #[.int .i64 6,.int .i64 7,.int .i64 8,.int .i64 10,.int .i64 11,.int .i64 12] 3 (0,0)):=by
  have h:=eu (w.alloc (.cells #[.string ⟨#[69,88]⟩,.string ⟨#[69,70]⟩,.string ⟨#[69,71]⟩,.string ⟨#[65,88]⟩,.string ⟨#[65,70]⟩,.string ⟨#[65,71]⟩] 9)) (.cells #[.int .i64 6,.int .i64 7,.int .i64 8,.int .i64 10,.int .i64 11,.int .i64 12] 3);rw[J]
  simpa using h
 have xw:∀j v,(#[.string ⟨#[69,88]⟩,.string ⟨#[69,70]⟩,.string ⟨#[69,71]⟩,.string ⟨#[65,88]⟩,.string ⟨#[65,70]⟩,.string ⟨#[65,71]⟩]:Array Value)[j]?=some v→w2.cell? ⟨w.heap.size,j,none⟩=some v:=fun j v hv=>by rw[cR w2 _ j _ _ (0,0) af];exact hv
 have xo:∀j v,(#[.int .i64 6,.int .i64 7,.int .i64 8,.int .i64 10,.int .i64 11,.int .i64 12]:Array Value)[j]?=some v→w2.cell? ⟨w.heap.size+1,j,none⟩=some v:=fun j v hv=>by rw[cR w2 _ j _ _ (0,0) ae];exact hv
 have ag:=Hd J;clear hF J af ae;go_in;go_wp2_with fail;rw[←ag]
 go_loopw [5] (fun si wr=>∃k:Nat,si=.int .i64 (k:Nat)∧k≤6∧wr=w2∧kE (bs s) k=r) (fun si _=>6-(intOf si).toNat)
 case atStart=>exact⟨0,rfl,by omega,rfl,HR.symm⟩
 case round=>
  obtain⟨k,rfl,ao,ab,aa⟩:=hrel;rw[ab];clear ab;have I:=Hd aa;clear aa;have ai:k=0∨k=1∨k=2∨k=3∨k=4∨k=5∨k=6:=by omega
  rcases ai with rfl|rfl|rfl|rfl|rfl|rfl|rfl
  ·rw[show((0:Nat):Int)=0 from rfl];have y0:=xw 0 _ rfl
   by_cases G:bs s=[69,88]
   ·have hc:(([69,88]:List UInt8)==s.toList)=true:=by rw[ByteArray.toList_eq,show s.data.toList=bs s from rfl,G];decide
    have D:Hid (r=6):=by show _=_;rw[←I];unfold kE;rw[iP ⟨by omega,G⟩]
    have y1:=xo 0 _ rfl;clear G;go_wp2_with fail;rw[Y,D];exact⟨rfl,O⟩
   ·have hc:(([69,88]:List UInt8)==s.toList)=false:=by rw[ByteArray.toList_eq,show s.data.toList=bs s from rfl];simp;exact fun h=>G h.symm
    have D:Hid (kE (bs s) 1=r):=by show _=_;rw[←I];unfold kE;simp[G]
    clear G;go_wp2_with fail
    go_roundw
    case rel=>exact⟨1,by go_num,by omega,trivial,D⟩
    case measure=>simp[intOf]
  ·rw[show((1:Nat):Int)=1 from rfl];have y0:=xw 1 _ rfl
   by_cases G:bs s=[69,70]
   ·have hc:(([69,70]:List UInt8)==s.toList)=true:=by rw[ByteArray.toList_eq,show s.data.toList=bs s from rfl,G];decide
    have D:Hid (r=7):=by show _=_;rw[←I];unfold kE;rw[iN (by omega)];rw[iP ⟨by omega,G⟩]
    have y1:=xo 1 _ rfl;clear G;go_wp2_with fail;rw[Y,D];exact⟨rfl,O⟩
   ·have hc:(([69,70]:List UInt8)==s.toList)=false:=by rw[ByteArray.toList_eq,show s.data.toList=bs s from rfl];simp;exact fun h=>G h.symm
    have D:Hid (kE (bs s) 2=r):=by show _=_;rw[←I];unfold kE;simp[G]
    clear G;go_wp2_with fail
    go_roundw
    case rel=>exact⟨2,by go_num,by omega,trivial,D⟩
    case measure=>simp[intOf]
  ·rw[show((2:Nat):Int)=2 from rfl];have y0:=xw 2 _ rfl
   by_cases G:bs s=[69,71]
   ·have hc:(([69,71]:List UInt8)==s.toList)=true:=by rw[ByteArray.toList_eq,show s.data.toList=bs s from rfl,G];decide
    have D:Hid (r=8):=by show _=_;rw[←I];unfold kE;rw[iN (by omega),iN (by omega)];rw[iP ⟨by omega,G⟩]
    have y1:=xo 2 _ rfl;clear G;go_wp2_with fail;rw[Y,D];exact⟨rfl,O⟩
   ·have hc:(([69,71]:List UInt8)==s.toList)=false:=by rw[ByteArray.toList_eq,show s.data.toList=bs s from rfl];simp;exact fun h=>G h.symm
    have D:Hid (kE (bs s) 3=r):=by show _=_;rw[←I];unfold kE;simp[G]
    clear G;go_wp2_with fail
    go_roundw
    case rel=>exact⟨3,by go_num,by omega,trivial,D⟩
    case measure=>simp[intOf]
  ·rw[show((3:Nat):Int)=3 from rfl];have y0:=xw 3 _ rfl
   by_cases G:bs s=[65,88]
   ·have hc:(([65,88]:List UInt8)==s.toList)=true:=by rw[ByteArray.toList_eq,show s.data.toList=bs s from rfl,G];decide
    have D:Hid (r=10):=by show _=_;rw[←I];unfold kE;rw[iN (by omega),iN (by omega),iN (by omega)];rw[iP ⟨by omega,G⟩]
    have y1:=xo 3 _ rfl;clear G;go_wp2_with fail;rw[Y,D];exact⟨rfl,O⟩
   ·have hc:(([65,88]:List UInt8)==s.toList)=false:=by rw[ByteArray.toList_eq,show s.data.toList=bs s from rfl];simp;exact fun h=>G h.symm
    have D:Hid (kE (bs s) 4=r):=by show _=_;rw[←I];unfold kE;simp[G]
    clear G;go_wp2_with fail
    go_roundw
    case rel=>exact⟨4,by go_num,by omega,trivial,D⟩
    case measure=>simp[intOf]
  ·rw[show((4:Nat):Int)=4 from rfl];have y0:=xw 4 _ rfl
   by_cases G:bs s=[65,70]
   ·have hc:(([65,70]:List UInt8)==s.toList)=true:=by rw[ByteArray.toList_eq,show s.data.toList=bs s from rfl,G];decide
    have D:Hid (r=11):=by show _=_;rw[←I];unfold kE;rw[iN (by omega),iN (by omega),iN (by omega),iN (by omega)];rw[iP ⟨by omega,G⟩]
    have y1:=xo 4 _ rfl;clear G;go_wp2_with fail;rw[Y,D];exact⟨rfl,O⟩
   ·have hc:(([65,70]:List UInt8)==s.toList)=false:=by rw[ByteArray.toList_eq,show s.data.toList=bs s from rfl];simp;exact fun h=>G h.symm
    have D:Hid (kE (bs s) 5=r):=by show _=_;rw[←I];unfold kE;simp[G]
    clear G;go_wp2_with fail
    go_roundw
    case rel=>exact⟨5,by go_num,by omega,trivial,D⟩
    case measure=>simp[intOf]
  ·rw[show((5:Nat):Int)=5 from rfl];have y0:=xw 5 _ rfl
   by_cases G:bs s=[65,71]
   ·have hc:(([65,71]:List UInt8)==s.toList)=true:=by rw[ByteArray.toList_eq,show s.data.toList=bs s from rfl,G];decide
    have D:Hid (r=12):=by show _=_;rw[←I];unfold kE;rw[iN (by omega),iN (by omega),iN (by omega),iN (by omega),iN (by omega)];rw[iP ⟨by omega,G⟩]
    have y1:=xo 5 _ rfl;clear G;go_wp2_with fail;rw[Y,D];exact⟨rfl,O⟩
   ·have hc:(([65,71]:List UInt8)==s.toList)=false:=by rw[ByteArray.toList_eq,show s.data.toList=bs s from rfl];simp;exact fun h=>G h.symm
    have D:Hid (kE (bs s) 6=r):=by show _=_;rw[←I];unfold kE;simp[G]
    clear G;go_wp2_with fail
    go_roundw
    case rel=>exact⟨6,by go_num,by omega,trivial,D⟩
    case measure=>simp[intOf]
  ·rw[show((6:Nat):Int)=6 from rfl];have D:Hid (r=0):=by show _=_;rw[←I];unfold kE;rw[iN (by omega),iN (by omega),iN (by omega),iN (by omega),iN (by omega),iN (by omega)]
   clear xw xo;go_wp2_with fail;rw[Y,D];exact⟨rfl,O⟩
def Du(l:List Tok)(PF:gK)(op:Int)(i:Nat):Rs Fm:=if ah l (i+1) 4 [91]=true then(PF (i+2)).then fun f j=>if ah l j 3 [85]=true then(PF (j+1)).then fun g k=>if ah l k 4 [93]=true then .ok (fT op [f,g]) (k+1)else .bad k 16 else .bad j 16 else .bad (i+1) 16
theorem Fe(l:List Tok)(d:Nat)(PF:gK)(op:Int)(i:Nat)(hd:d<256)(hF:Vp l (d+1) 126 PF)(hG:xV l PF)(hZ:vw PF)(t:Tok)(ht:l[i]?=some t)(a6:(op=9∧t.text=[69])∨(op=13∧t.text=[65]))(A:Option Addr)(c:Nat)(w:World)(hP:dP w A c l) :
 Calls Tryz.prog 200 #[.slice A l.length c,.int .i64 (i:Nat),.int .i64 (d:Nat)] w (uZ w (Du l PF op i)):=by
 have hi:i<l.length:=(gE.1 ht).1;obtain⟨w1,hw1⟩:=aj (w.alloc (.cells #[.int .i64 0,.int .i64 0,.int .i64 0,.string ⟨#[]⟩,.slice none 0 0,.slice none 0 0,.int .i64 0,.int .i64 0] 197));have hb1:=dz hw1;have bv:w1.heap.size=w.heap.size+1:=by rw[hw1];simp
 have I:=jZ hw1 rfl;have J:=Hd hb1;have a7:=Hd hw1;have HP:=Hd hP;have hlen:=hP.len;have aP:=hP.cap;have aQ:=hP.bU;unfold maxLen at aQ;obtain⟨n,hn⟩:=aj l.length;have HN:=Hd hn;rw[←hn]at hi hlen aP;obtain⟨F,HF⟩:=ak (uZ w (Du l PF op i));rw[←HF];have HG:=Hd hG;have HZ:=Hd hZ;have Am:=Hd (hF A c);rw[←hn];obtain⟨b,off,hA,bg,bo,bl,br,bu,ae,-⟩:=uS HP (Hd hb1) HN ht;have y2:=ae i t ht 2 (by omega);simp only[fZ]at y2;have HA:=Hd hA;obtain⟨T,hT⟩:∃T:ByteArray,T=⟨t.text.toArray⟩:=⟨_,rfl⟩;rw[←hT]at y2;have a8:T.toList=t.text:=by rw[hT,ByteArray.toList_eq]
 have bz:IntKind.i64.wrap ((i:Int)+1)=(i:Int)+1:=IntWalk.i64_in _ (by omega)
 have hc:([65]==T.toList)=decide (op=13)∧(T.toList==[65])=decide (op=13):=by
  rw[a8]
  rcases a6 with⟨h1,h2⟩|⟨h1,h2⟩<;>rw[h1,h2]<;>decide
 obtain⟨aw,ax⟩:=hc;have bf:op=9∨op=13:=a6.imp (fun h=>h.1) (fun h=>h.1);clear hF hG hZ hP hn ht a6 hT a8 ae hb1 hw1
 rcases bf with rfl|rfl
 all_goals
  first
   |rw[show decide ((9:Int)=13)=false from by decide]at aw ax
   |rw[show decide ((13:Int)=13)=true from by decide]at aw ax
  go_in;have hI:=aZ _ c (i+1) l 4 ⟨#[91]⟩ w1 (HP.below J) (by omega);rw[show ah l (i+1) 4 (bs ⟨#[91]⟩)=ah l (i+1) 4 [91]from rfl,←HN]at hI;rw[show((i+1:Nat):Int)=(i:Int)+1 from by omega]at hI
  by_cases hk:ah l (i+1) 4 [91]=true
  ·have af:Hid (ah l (i+1) 4 [91]=true):=hk;rw[hk]at hI;have HI:=Hd hI;have bn:=dL hk;clear hI hk;subst hA;go_wp2_with fail;rw[←a7];(try go_wp2_with fail);refine HI.mono ?_;rintro e w' ⟨rfl,aJ⟩;rw[aJ];clear aJ HI y2 aw ax;have ab:=Am (i+2) w1 (by omega) (HP.below J);rw[show((i+2:Nat):Int)=(i:Int)+2 from by omega]at ab;rw[show((d+1:Nat):Int)=(d:Int)+1 from by omega]at ab;obtain⟨r1,dx⟩:=ak (PF (i+2));rw[←dx,←HN]at ab;have HC:=Hd ab;clear ab;go_wp2_with fail;refine HC.mono ?_;rintro e w2 ⟨x,rfl,hx,G⟩;obtain⟨gT,oO⟩:=ak r1.at_;obtain⟨qW,oP⟩:=ak r1.err;rw[←oO,←oP];have FI:Hid (∀f j,r1=.ok f j→x.Is (fun q=>w.heap.size<q) w2 f):=fun f j h=>(hx f j h).keep Kr (fun q _ h=>by have:=lH I;omega);clear hx HC;replace I:=kX G I;replace J:=kB J G;clear G;have Z0:=I;have ba:=J;obtain⟨b7,iY⟩:=aj w2.heap.size;obtain⟨w3,az⟩:=aj (w2.alloc (.cells #[.int .i64 x.o,.int .i64 x.tn,.int .i64 x.tm,.string x.s,.slice x.Ae x.ne x.ce,.slice x.A x.n x.c,.int .i64 (gT:Nat),.int .i64 qW] 197));have bP:=jZ az iY;have aa:=dz az;have bd:w.heap.size<b7:=by have:=lH I;omega
   have qM:=Hd iY;have Ao:=Hd az;clear iY az;replace I:=kX aa I;replace J:=kB J aa;replace FI:Hid (∀f j,r1=.ok f j→x.Is (fun q=>w.heap.size<q) w3 f):=fun f j h=>(FI f j h).keep (Kb aa) (fun _ _ h=>h);clear aa
   by_cases hy:qW=0
   ·obtain⟨f,hf⟩:=BG oO oP hy (fun j e h=>HZ (i+2) j e (by rw[←dx];exact h));have uy:=Hd (dx.symm.trans hf);have bi:=(HG (i+2) f gT uy).jl;rw[←HN]at bi;have Y:Hid (x.Is (fun q=>w.heap.size<q) w3 f):=FI f gT hf;subst hy;clear hf FI;have hI:=aZ _ c (gT) l 3 ⟨#[85]⟩ w3 (HP.below J) (by omega);rw[show ah l (gT) 3 (bs ⟨#[85]⟩)=ah l (gT) 3 [85]from rfl,←HN]at hI
    by_cases hk:ah l (gT) 3 [85]=true
    ·have ao:Hid (ah l gT 3 [85]=true):=hk;rw[hk]at hI;have HI:=Hd hI;have bp:gT<n:=by rw[HN];exact dL hk
     clear hI hk;obtain⟨u0,u1,u2,u3,u4,u5,u6,u7,eG⟩:=q8 bP;have sG:=lH bP;go_wp2_with fail;rw[←Ao,←qM];(try go_wp2_with fail);refine HI.mono ?_;rintro e w' ⟨rfl,aJ⟩;rw[aJ];clear aJ HI;have ab:=Am (gT+1) w3 (by rw[←HN];omega) (HP.below J);rw[show((gT+1:Nat):Int)=(gT:Int)+1 from by omega]at ab;rw[show((d+1:Nat):Int)=(d:Int)+1 from by omega]at ab;obtain⟨r2,jR⟩:=ak (PF (gT+1));rw[←jR,←HN]at ab;have HC:=Hd ab;clear ab;go_wp2_with fail;refine HC.mono ?_;rintro e w4 ⟨y,rfl,hx,G⟩;obtain⟨JA,Z5⟩:=ak r2.at_;obtain⟨av,Z7⟩:=ak r2.err;rw[←Z5,←Z7];have Ko:Hid (∀f j,r2=.ok f j→y.Is (fun q=>w.heap.size<q) w4 f):=fun f j h=>(hx f j h).keep Kr (fun q _ h=>by have:=lH I;omega);clear hx HC;replace I:=kX G I;replace bP:=kX G bP;replace J:=kB J G;replace Y:Hid (x.Is (fun q=>w.heap.size<q) w4 f):=Y.keep (Kb G) (fun _ _ h=>h);clear G sG u0 eG u1 u2 u3 u4 u5 u6 u7;have Z9:=I;have bb:=J;obtain⟨b8,Gb⟩:=aj w4.heap.size;obtain⟨w5,gH⟩:=aj (w4.alloc (.cells #[.int .i64 y.o,.int .i64 y.tn,.int .i64 y.tm,.string y.s,.slice y.Ae y.ne y.ce,.slice y.A y.n y.c,.int .i64 (JA:Nat),.int .i64 av] 197));have lQ:=jZ gH Gb;have aa:=dz gH;have bk:w.heap.size<b8:=by have:=lH I;omega
     have NT:=Hd Gb;have O4:=Hd gH;clear Gb gH;replace I:=kX aa I;replace bP:=kX aa bP;replace J:=kB J aa;replace Y:Hid (x.Is (fun q=>w.heap.size<q) w5 f):=Y.keep (Kb aa) (fun _ _ h=>h);replace Ko:Hid (∀f j,r2=.ok f j→y.Is (fun q=>w.heap.size<q) w5 f):=fun f j h=>(Ko f j h).keep (Kb aa) (fun _ _ h=>h);clear aa
     by_cases hy:av=0
     ·obtain⟨g2,aS⟩:=BG Z5 Z7 hy (fun j e h=>HZ (gT+1) j e (by rw[←jR];exact h));have aE:=Hd (jR.symm.trans aS);have vE:=(HG (gT+1) g2 JA aE).jl;rw[←HN]at vE;have ai:Hid (y.Is (fun q=>w.heap.size<q) w5 g2):=Ko g2 JA aS;subst hy;clear aS Ko;have hI:=aZ _ c (JA) l 4 ⟨#[93]⟩ w5 (HP.below J) (by omega);rw[show ah l (JA) 4 (bs ⟨#[93]⟩)=ah l (JA) 4 [93]from rfl,←HN]at hI
      by_cases hk:ah l (JA) 4 [93]=true
      ·have aF:Hid (ah l JA 4 [93]=true):=hk;rw[hk]at hI;have HI:=Hd hI;clear hI hk;obtain⟨u0,u1,u2,u3,u4,u5,u6,u7,eG⟩:=q8 lQ;have sG:=lH lQ;go_wp2_with fail;rw[←O4,←NT];(try go_wp2_with fail);refine HI.mono ?_;rintro e w' ⟨rfl,aJ⟩;rw[aJ];clear aJ HI;go_wp2_with fail;clear sG u0 eG u1 u2 u3 u4 u5 u6 u7;have bw:IntKind.i64.wrap ((JA:Int)+1)=(JA:Int)+1:=IntWalk.i64_in _ (by omega);obtain⟨wd,hwd⟩:=aj w5.drew;have ag:Below w5.heap.size w5 wd:=by rw[hwd];exact(Br _ _).drew
       replace I:=kX ag I;replace bP:=kX ag bP;replace lQ:=kX ag lQ;replace J:=kB J ag;replace Y:Hid (x.Is (fun q=>w.heap.size<q) wd f):=Y.keep (Kb ag) (fun _ _ h=>h);replace ai:Hid (y.Is (fun q=>w.heap.size<q) wd g2):=ai.keep (Kb ag) (fun _ _ h=>h);have Pw:=fun o=>En o x y wd;unfold FV.val at Pw;have qb:=Hd Pw;refine wp_region_held_drew (S:=fun w'=>w'.heap[b7]?=some (.cells #[.int .i64 x.o,.int .i64 x.tn,.int .i64 x.tm,.string x.s,.slice x.Ae x.ne x.ce,.slice x.A x.n x.c,.int .i64 (gT:Nat),.int .i64 0] 197 (0,0))∧w'.heap[b8]?=some (.cells #[.int .i64 y.o,.int .i64 y.tn,.int .i64 y.tm,.string y.s,.slice y.Ae y.ne y.ce,.slice y.A y.n y.c,.int .i64 (JA:Nat),.int .i64 0] 197 (0,0))) (by kernel_rfl) (by rw[←hwd];exact⟨bP,lQ⟩) (fun O=>?_);rw[←hwd]at O⊢;clear hwd ag Pw;refine gJ 0 (v:=?_) (xK rfl) (Or.inl ⟨by rfl,?hy⟩) (by assumption) ?_
       case hy=>
        intro w0 D;obtain⟨h0,h1,h2,h3,h4,h5,h6,h7,-⟩:=q8 D.1;obtain⟨k0,k1,k2,k3,k4,k5,k6,k7,-⟩:=q8 D.2;clear D;go_simp
        (first|done|with_reducible rfl)
       (try simp only[Act.put,aT,aU,aV]);refine gJ 1 (v:=?_) (xK rfl) (Or.inl ⟨by rfl,?hy⟩) (by assumption) ?_
       case hy=>
        intro w0 D;obtain⟨h0,h1,h2,h3,h4,h5,h6,h7,-⟩:=q8 D.1;obtain⟨k0,k1,k2,k3,k4,k5,k6,k7,-⟩:=q8 D.2;clear D;go_simp
        (first|done|with_reducible rfl)
       (try simp only[Act.put,aT,aU,aV]);refine gJ 2 (v:=?_) (xK rfl) (Or.inl ⟨by rfl,?hy⟩) (by assumption) ?_
       case hy=>
        intro w0 D;obtain⟨h0,h1,h2,h3,h4,h5,h6,h7,-⟩:=q8 D.1;obtain⟨k0,k1,k2,k3,k4,k5,k6,k7,-⟩:=q8 D.2;clear D;go_simp
        (first|done|with_reducible rfl)
       (try simp only[Act.put,aT,aU,aV]);refine gJ 3 (v:=?_) (xK rfl) (Or.inl ⟨by rfl,?hy⟩) (by assumption) ?_
       case hy=>
        intro w0 D;obtain⟨h0,h1,h2,h3,h4,h5,h6,h7,-⟩:=q8 D.1;obtain⟨k0,k1,k2,k3,k4,k5,k6,k7,-⟩:=q8 D.2;clear D;go_simp
        (first|done|with_reducible rfl)
       (try simp only[Act.put,aT,aU,aV]);refine gJ 4 (v:=?_) (xK rfl) (Or.inl ⟨by rfl,?hy⟩) (by assumption) ?_
       case hy=>
        intro w0 D;obtain⟨h0,h1,h2,h3,h4,h5,h6,h7,-⟩:=q8 D.1;obtain⟨k0,k1,k2,k3,k4,k5,k6,k7,-⟩:=q8 D.2;clear D;go_simp
        (first|done|with_reducible rfl)
       (try simp only[Act.put,aT,aU,aV]);refine gJ 6 (v:=?_) (xK rfl) (Or.inl ⟨by rfl,?hy⟩) (by assumption) ?_
       case hy=>
        intro w0 D;obtain⟨h0,h1,h2,h3,h4,h5,h6,h7,-⟩:=q8 D.1;obtain⟨k0,k1,k2,k3,k4,k5,k6,k7,-⟩:=q8 D.2;clear D;go_simp
        (first|done|with_reducible rfl)
       (try simp only[Act.put,aT,aU,aV]);refine gJ 7 (v:=?_) (xK rfl) (Or.inl ⟨by rfl,?hy⟩) (by assumption) ?_
       case hy=>
        intro w0 D;obtain⟨h0,h1,h2,h3,h4,h5,h6,h7,-⟩:=q8 D.1;obtain⟨k0,k1,k2,k3,k4,k5,k6,k7,-⟩:=q8 D.2;clear D;go_simp
        (first|done|with_reducible rfl)
       (try simp only[Act.put,aT,aU,aV]);refine gJ 8 (v:=?_) (xK rfl) (Or.inl ⟨by rfl,?hy⟩) (by assumption) ?_
       case hy=>
        intro w0 D;obtain⟨h0,h1,h2,h3,h4,h5,h6,h7,-⟩:=q8 D.1;obtain⟨k0,k1,k2,k3,k4,k5,k6,k7,-⟩:=q8 D.2;clear D;go_simp
        (first|done|with_reducible rfl)
       (try simp only[Act.put,aT,aU,aV]);refine Rd (rs:=[5]) (by kernel_rfl) (by simp) ?_;refine Rc (xK rfl) (fun K hK=>?_) Rn;go_simp;(with_reducible refine(qb.out _).mono ?_);rintro e w8 ⟨g,rfl,hrow,bm,G⟩;refine hK.out _ _ ⟨(G.block b7 (lH bP)).trans bP,(G.block b8 (lH lQ)).trans lQ⟩ (fun O=>?_);clear hK K;(try simp only[Act.put,aT,aU,aV]);replace I:=kX G I;replace J:=kB J G;replace Y:Hid (x.Is (fun q=>w.heap.size<q) w8 f):=Y.keep (Kb G) (fun _ _ h=>h);replace ai:Hid (y.Is (fun q=>w.heap.size<q) w8 g2):=ai.keep (Kb G) (fun _ _ h=>h);have iF:=Hd hrow;have bh:w.heap.size<g:=by have:=bd;have:=G.size;have:=lH bP;omega
       clear G hrow;refine gJ 9 (v:=?_) (xK rfl) (Or.inl ⟨by rfl,?hy⟩) (by assumption) ?_
       case hy=>
        intro w0 D;obtain⟨h0,h1,h2,h3,h4,h5,h6,h7,-⟩:=q8 D.1;obtain⟨k0,k1,k2,k3,k4,k5,k6,k7,-⟩:=q8 D.2;clear D;go_simp
        (first|done|with_reducible rfl)
       (try simp only[Act.put,aT,aU,aV]);refine Rd (rs:=[10]) (by kernel_rfl) (by simp) ?_;refine Rc (xK rfl) (fun K hK=>?_) Rn;obtain⟨v0,v1,v2,v3,v4,v5,v6,v7,bW⟩:=q8 I;go_simp;clear v0 bW v1 v2 v3 v4 v5 v6 v7;refine hK.out _ _ ⟨(pX (by omega)).trans O.1,(pX (by omega)).trans O.2⟩ (fun O=>?_);clear hK K;(try simp only[Act.put,aT,aU,aV]);refine wpAnyH_done (by kernel_rfl) ?_ _;clear O;go_wp2_with fail;refine bR (Bt (gu I)) rfl ?_;rw[HF];unfold Du;rw[iP af.out,uy,Rs.then_ok,iP ao.out,aE,Rs.then_ok,iP aF.out]
       exact dw (x:=FV.mk _ 0 0 ⟨#[]⟩ none 0 0 (some ⟨g,0,none⟩) 2 2) (fun f' j' h=>by
        obtain⟨rfl,rfl⟩:=bH h
        exact FV.FH Y ai bh iF) J
      ·have aF:Hid (¬ah l JA 4 [93]=true):=hk;have sF:ah l (JA) 4 [93]=false:=by simpa using hk
       rw[sF]at hI;have HI:=Hd hI;clear hI hk sF Y ai;obtain⟨u0,u1,u2,u3,u4,u5,u6,u7,eG⟩:=q8 lQ;have sG:=lH lQ;go_wp2_with fail;rw[←O4,←NT];(try go_wp2_with fail);refine HI.mono ?_;rintro e w' ⟨rfl,aJ⟩;rw[aJ];clear aJ HI;have wz:=Hd (iQ (JA) 16 w5 (by decide));go_wp2_with fail;clear sG u0 eG u1 u2 u3 u4 u5 u6 u7;refine wz.mono ?_;rintro e w6 ⟨z,rfl,-,G⟩;replace I:=kX G I;replace J:=kB J G;clear G wz;simp only[Rs.at_,Rs.err];obtain⟨v0,v1,v2,v3,v4,v5,v6,v7,bW⟩:=q8 I;have ay:=lH I;go_wp2_with fail;clear v0 bW v1 v2 v3 v4 v5 v6 v7;refine bR (Bt (gu I)) rfl ?_;rw[HF];unfold Du;rw[iP af.out,uy,Rs.then_ok,iP ao.out,aE,Rs.then_ok,iN aF.out];exact dw (r:=.bad (JA) 16) (x:=z) (fun f j h=>nomatch h) J
     ·have bj:(av != 0)=true:=by simpa using hy
      have ar:r2=.bad JA av:=vL Z5 Z7 hy;have vJ:=Hd (jR.symm.trans ar);clear hy ar;obtain⟨v0,v1,v2,v3,v4,v5,v6,v7,bW⟩:=q8 Z9;have ay:=lH Z9;go_wp2_with fail;clear v0 bW v1 v2 v3 v4 v5 v6 v7;refine bR (Bt (aK (gu Z9))) rfl ?_;rw[HF];unfold Du;rw[iP af.out,uy,Rs.then_ok,iP ao.out,vJ,Rs.Cg];exact qV (dw (r:=.bad JA av) (x:=y) (fun f j h=>nomatch h) bb) _
    ·have ao:Hid (¬ah l gT 3 [85]=true):=hk;have sF:ah l (gT) 3 [85]=false:=by simpa using hk
     rw[sF]at hI;have HI:=Hd hI;clear hI hk sF Y;obtain⟨u0,u1,u2,u3,u4,u5,u6,u7,eG⟩:=q8 bP;have sG:=lH bP;go_wp2_with fail;rw[←Ao,←qM];(try go_wp2_with fail);refine HI.mono ?_;rintro e w' ⟨rfl,aJ⟩;rw[aJ];clear aJ HI;have wz:=Hd (iQ (gT) 16 w3 (by decide));go_wp2_with fail;clear sG u0 eG u1 u2 u3 u4 u5 u6 u7;refine wz.mono ?_;rintro e w4 ⟨z,rfl,-,G⟩;replace I:=kX G I;replace J:=kB J G;clear G wz;simp only[Rs.at_,Rs.err];obtain⟨v0,v1,v2,v3,v4,v5,v6,v7,bW⟩:=q8 I;have ay:=lH I;go_wp2_with fail;clear v0 bW v1 v2 v3 v4 v5 v6 v7;refine bR (Bt (gu I)) rfl ?_;rw[HF];unfold Du;rw[iP af.out,uy,Rs.then_ok,iN ao.out];exact dw (r:=.bad (gT) 16) (x:=z) (fun f j h=>nomatch h) J
   ·have bj:(qW != 0)=true:=by simpa using hy
    have ar:r1=.bad gT qW:=vL oO oP hy;have vJ:=Hd (dx.symm.trans ar);clear hy ar;obtain⟨v0,v1,v2,v3,v4,v5,v6,v7,bW⟩:=q8 Z0;have ay:=lH Z0;go_wp2_with fail;clear v0 bW v1 v2 v3 v4 v5 v6 v7;refine bR (Bt (aK (gu Z0))) rfl ?_;rw[HF];unfold Du;rw[iP af.out,vJ,Rs.Cg];exact qV (dw (r:=.bad gT qW) (x:=x) (fun f j h=>nomatch h) ba) _
  ·have af:Hid (¬ah l (i+1) 4 [91]=true):=hk;have sF:ah l (i+1) 4 [91]=false:=by simpa using hk
   rw[sF]at hI;have HI:=Hd hI;clear hI hk sF;subst hA;go_wp2_with fail;rw[←a7];(try go_wp2_with fail);refine HI.mono ?_;rintro e w' ⟨rfl,aJ⟩;rw[aJ];clear aJ HI y2 aw ax;have wz:=Hd (iQ (i+1) 16 w1 (by decide));rw[show((i+1:Nat):Int)=(i:Int)+1 from by omega]at wz;go_wp2_with fail;refine wz.mono ?_;rintro e w2 ⟨z,rfl,-,G⟩;replace I:=kX G I;replace J:=kB J G;clear G wz;simp only[Rs.at_,Rs.err];obtain⟨v0,v1,v2,v3,v4,v5,v6,v7,bW⟩:=q8 I;have ay:=lH I;go_wp2_with fail;clear v0 bW v1 v2 v3 v4 v5 v6 v7;refine bR (Bt (gu I)) rfl ?_;rw[HF];unfold Du;rw[iN af.out];exact dw (r:=.bad (i+1) 16) (x:=z) (fun f j h=>nomatch h) J
end Go.Proofs.YtkhoeoilamddaaaGreatDoor
