/- Walks and plain words: RfqG RfTk LexE LexF. -/
import Derived.Test.YtkhoeoilamddaaaGreatDoorQRfqE
import Derived.Test.YtkhoeoilamddaaaGreatDoorQRefB
namespace Go.Proofs.YtkhoeoilamddaaaGreatDoor
open Go.RowKit
set_option linter.unusedVariables false
theorem SA{d:Nat}{P:gK}{s:Option gK}(hs:s=if d=256 then none else some P)(i:Nat):rF s i=xI d P i:=by
 unfold rF xI;rw[hs]
 by_cases h:d=256
 ·rw[iP h,iP h]
 ·rw[iN h,iN h]
theorem abn{l:List Tok}{d:Nat}{P:gK}{s:Option gK}(hs:s=if d=256 then none else some P)(op:Int)(i:Nat):wK l s op i=if d=256 then .bad i 17 else Du l P op i:=by
 unfold wK Du;rw[hs]
 by_cases h:d=256
 ·rw[iP h,iP h]
 ·rw[iN h,iN h]
theorem agY{l:List Tok}{i:Nat}{t:Tok}(ht:l[i]?=some t):n_ l i=if t.kind=4 then(if t.text=[33]then 2 else 0)else if t.kind=3 then kE t.text 0 else 0:=by
 unfold n_ ah kE;rw[ht]
 by_cases D:t.kind=4
 ·simp[D]
 ·by_cases h3:t.kind=3
  ·simp[h3]
  ·simp[h3,D]
theorem afy{l:List Tok}{i:Nat}(ht:l[i]?=none):n_ l i=0:=by
 unfold n_ ah;rw[ht]
 rfl
theorem lF{l:List Tok}{i:Nat}{t:Tok}(ht:l[i]?=some t)(k:Int)(s:Bs):ah l i k s=(decide (t.kind=k)&&decide (t.text=s)):=by
 unfold ah;rw[ht]
theorem Qq{l:List Tok}{i:Nat}(ht:l[i]?=none)(k:Int)(s:Bs):ah l i k s=false:=by
 unfold ah;rw[ht]
theorem abo{s:Bs}(h:s=[69]∨s=[65]):kE s 0=0:=by rcases h with rfl|rfl<;>decide
theorem aaz(l:List Tok)(d:Nat)(v:jG)(s:Option jG)(hd:d≤256)(hs:s=if d=256 then none else some v)(hU:d<256→Vp l (d+1) 184 v.unit)(hF:d<256→Vp l (d+1) 126 v.form)(hG:xV l v.form)(hZ:vw v.form)(Y:vw v.unit):Vp l d 184 (jg l s):=by
 intro A c i w hi hP;have h1:s.map jG.form=if d=256 then none else some v.form:=by rw[hs];split<;>rfl
 have h2:s.map jG.unit=if d=256 then none else some v.unit:=by rw[hs];split<;>rfl
 show Calls _ _ _ _ (uZ w (jg l s i));unfold jg;rw[SA h1,SA h2,abn h1,abn h1]
 cases ht:l[i]? with
 |none=>
  simp only[afy ht,Qq ht];exact Bp l d i A c w hi hP (Qq ht _ _) (Qq ht _ _) (Qq ht _ _) (Qq ht _ _) (Qq ht _ _) (fun t h=>by rw[ht]at h;cases h)
 |some t=>
  simp only[agY ht,lF ht]
  by_cases G:t.kind=4
  ·by_cases I:t.text=[33]
   ·simp only[G,I,iP,ne_eq,decide_true]
    simpa using Qp l d i v.unit 2 hd hU Y (by decide) A c w hi hP t ht (by rw[lF ht];simp[G,I]) (by rw[lF ht];simp[G]) (by rw[lF ht];simp[G]) (.inl ⟨rfl,by rw[lF ht];simp[G,I],by omega⟩)
   ·by_cases J:t.text=[40]
    ·simpa[G,J]using VH l d i v.form hd hF hG hZ A c w hi hP t ht G J
    ·by_cases x3:t.text=[91]
     ·simpa[G,x3]using VI l d i A c w hi hP t ht G x3
     ·simpa[G,I,J,x3]using Bp l d i A c w hi hP (by rw[lF ht];simp[x3]) (by rw[lF ht];simp[G]) (by rw[lF ht];simp[G]) (by rw[lF ht];simp[I]) (by rw[lF ht];simp[J]) (fun t' h h3=>by rw[ht]at h;cases h;omega)
  ·by_cases D:t.kind=3
   ·by_cases I:t.text=[69]
    ·have O:=abo (.inl I);rw[I]at O;have:=Iw l d i v.form 9 hd hF hG hZ A c w hi hP t ht D (.inl ⟨rfl,I⟩) (by rw[lF ht];simp[D]) (by rw[lF ht];simp[D])
     simpa[D,O,I]using this
    ·by_cases J:t.text=[65]
     ·have O:=abo (.inr J);rw[J]at O;have:=Iw l d i v.form 13 hd hF hG hZ A c w hi hP t ht D (.inr ⟨rfl,J⟩) (by rw[lF ht];simp[D]) (by rw[lF ht];simp[D])
      simpa[D,O,J]using this
     ·by_cases O:kE t.text 0=0
      ·simpa[D,O,I,J]using Bp l d i A c w hi hP (by rw[lF ht];simp[D]) (by rw[lF ht];simp[I]) (by rw[lF ht];simp[J]) (by rw[lF ht];simp[D]) (by rw[lF ht];simp[D]) (fun t' h h3=>by rw[ht]at h;cases h;exact O)
      ·have:=Qp l d i v.unit (kE t.text 0) hd hU Y O A c w hi hP t ht (by rw[lF ht];simp[D]) (by rw[lF ht];simp[I]) (by rw[lF ht];simp[J]) (.inr ⟨D,by rw[lF ht];simp[D],rfl⟩)
       simpa[D,O]using this
   ·simpa[D,G]using Bp l d i A c w hi hP (by rw[lF ht];simp[G]) (by rw[lF ht];simp[D]) (by rw[lF ht];simp[D]) (by rw[lF ht];simp[G]) (by rw[lF ht];simp[G]) (fun t' h h3=>by rw[ht]at h;cases h;exact absurd h3 D)
structure afz(d:Nat)(l:List Tok)(v:jG):Prop where
 form:Vp l d 126 v.form
 unit:Vp l d 184 v.unit
theorem Qr(d:Nat)(l:List Tok)(s:Option jG)(v:jG)(hd:d≤256)(hs:s=if d=256 then none else some v)(hv:d<256→afz (d+1) l v)(hg:QN l v)(I:QO v):afz d l ⟨pK l s,jg l s⟩:=by
 have G:∀v',s=some v'→v'=v:=fun v' h=>by
  rw[hs]at h
  split at h
  ·cases h
  ·cases h;rfl
 obtain⟨g1,g2⟩:=KO (l:=l) (s:=s) (fun v' h=>by rw[G v' h];exact hg);obtain⟨z1,z2⟩:=KP (s:=s) (fun v' h=>by rw[G v' h];exact I);have Y:=Cq g1 g2;have zU:=Cr (l:=l) z1 z2;have hu:=aaz l d v s hd hs (fun h=>(hv h).unit) (fun h=>(hv h).form) hg.form I.form I.unit;have hand:acS l d 156 true (BA l s):=aoP l d true 3 [38] _ hd (.inl ⟨rfl,rfl,rfl,hu⟩) Y zU;have O:xV l (BA l s):=IX (by decide) (by decide) Y;have zA:vw (BA l s):=IZ zU;have J:acS l d 156 false (IU l s):=aoP l d false 4 [124] _ hd (.inr ⟨rfl,rfl,rfl,hand⟩) O zA;have D:=ZY l d (IU l s) v.form hd J (IX (by decide) (by decide) O) (IZ zA) (fun h=>(hv h).form) I.form;have h1:s.map jG.form=if d=256 then none else some v.form:=by rw[hs];split<;>rfl
 have he:pK l s=fun i=>(IU l s i).then fun f j=>if ah l j 4 [45,62]=true then(xI d v.form j).then fun g k=>.ok (fT 5 [f,g]) k else .ok f j:=by
  funext i
  unfold pK
  congr 1
  funext f j
  rw[SA h1]
 refine⟨?_,hu⟩;rw[he];exact D
theorem abp(l:List Tok):∀r d,d+r=256→afz d l (lJ l r)
 |0,d,h=>by
  rw[lJ];exact Qr d l none (lJ l 0) (by omega) (by rw[iP (by omega)]) (fun h=>by omega) (yx l 0) (yA l 0)
 |r+1,d,h=>by
  rw[lJ];exact Qr d l (some (lJ l r)) (lJ l r) (by omega) (by rw[iN (by omega)]) (fun _=>abp l r (d+1) (by omega)) (yx l r) (yA l r)
set_option linter.unusedSimpArgs false
set_option maxRecDepth 100000
set_option maxHeartbeats 8000000
theorem qE{o:Array Oper}{i:Nat}{x:Oper}(h:o.toList[i]?=some x):o[i]?=some x:=by simpa using h
theorem xL(tm:Array Value)(D:Nat)(z1 z2:Value)(G I J O Y u5:Value)(w:World)(h2:tm[4]?=some (.pointer (some ⟨D,0,none⟩)))(h3:tm[5]?=some z1)(h4:tm[6]?=some z2)(h:w.heap[D]?=some (.cells #[G,I,J,O,Y,u5] 67 (0,0))) :
 (results Tryz.f95 tm).run Tryz.prog w=.ok (.tuple #[.agg #[G,I,J,O,Y,u5],z1,z2]) w:=by
 obtain⟨y0,y1,y2,y3,y4,y5,-⟩:=q6 h;unfold results;rw[Tryz.results95];simp only[Array.getD_eq_getD_getElem?];simp[h2,h3,h4,go_sem,y0,y1,y2,y3,y4,y5]
theorem aiR(l:List Tok)(A:Option Addr)(c i:Nat)(w:World)(hi:i≤l.length)(hT:dP w A c l) :
 Calls Tryz.prog 95 #[.slice A l.length c,.int .i64 (i:Nat)] w (Yt w (nN l i)):=by
 have hlen:=hT.len;have av:=hT.cap;have aQ:=hT.bU;unfold maxLen at aQ;obtain⟨n,hn⟩:=aj l.length;rw[←hn]at hi hlen av⊢;obtain⟨F,hF⟩:=aj (Yt w (nN l i));rw[←hF];obtain⟨I,ai⟩:=aj w.heap.size;obtain⟨w1,hw1⟩:=aj (w.alloc (.cells #[.int .i64 0,.int .i64 0,.int .i64 0,.string ⟨#[]⟩,.slice none 0 0,.slice none 0 0] 67));have hb1:=dz hw1;have aF:w1.heap[I]?=some (.cells #[.int .i64 0,.int .i64 0,.int .i64 0,.string ⟨#[]⟩,.slice none 0 0,.slice none 0 0] 67 (0,0)):=by rw[hw1,ai];exact eu w _
 have bf:w1.heap.size=I+1:=by rw[hw1,ai];simp
 have J:=(abp l 256 0 rfl).form A c i w1 (by rw[←hn];exact hi) (hT.below hb1);rw[←hn]at J;obtain⟨r,hr⟩:=aj ((lJ l 256).form i);rw[←hr]at J;have bE:Hid (F=Yt w (ajw i r)):=by show _=_;rw[hF,hr];rfl
 have Tq:Hid (∀t j,r=.ok t j→VP l i t j):=fun t j h=>(yx l 256).form i t j (by rw[←hr];exact h);have ax:Hid (∀j x,r=.bad j x→x≠0):=fun j x h=>(yA l 256).form i j x (by rw[←hr];exact h);have HC:=Hd J;have a6:=Hd hw1;have qY:=Hd ai;have HB:=Hd hb1;have O:=Hd aF;have HN:=Hd hn;have bb:¬(i:Int)<0:=by omega
 have bd:¬(n:Int)<(i:Int):=by omega
 have ba:w.heap.size≤I:=by omega
 clear hF ai hw1 hb1 aF J hr hn hT;go_in;go_wp2_with fail;rw[←a6,←qY];refine HC.mono ?_;rintro e w2 ⟨x,rfl,hx,aa⟩;obtain⟨j,hj⟩:=aj r.at_;obtain⟨y,hy⟩:=aj r.err;rw[←hj,←hy];obtain⟨b7,iY⟩:=aj w2.heap.size;obtain⟨w3,ao⟩:=aj (w2.alloc (.cells #[.int .i64 x.o,.int .i64 x.tn,.int .i64 x.tm,.string x.s,.slice x.Ae x.ne x.ce,.slice x.A x.n x.c,.int .i64 (j:Nat),.int .i64 y] 197));have X7:=jZ ao iY;have ag:=dz ao;have n74:b7≠I:=by have:=aa.size;omega
 replace O:=Hd ((ag.block I (by have:=aa.size;omega)).trans ((aa.block I (by omega)).trans O));replace HB:=Hd (HB.trans ((aa.mono (by omega)).trans (ag.mono (by have:=aa.size;omega))));have a7:b7<w3.heap.size:=lH X7;have Oh:Hid (∀t k,r=.ok t k→x.Is (fun q=>w1.heap.size≤q) w3 t):=fun t k h=>(hx t k h).keep (Kb ag) (fun _ _ h=>h);have VW:Hid (y≠0→r=.bad j y):=fun h=>vL hj hy h;have ay:Hid (y=0→∃f,r=.ok f j):=fun h=>BG hj hy h ax;have Ao:=Hd ao;have qM:=Hd iY;clear hx aa ag ao iY HC hj hy
 by_cases af:y=0
 ·obtain⟨f,hf⟩:=ay af;subst af;have aw:=Tq f j hf;have ar:=Oh f j hf;have dJ:Hid (F=Yt w (if f.check=0 then(f,j,0)else(vg,i,f.check))):=by show _=_;rw[bE,hf];rfl
  have az:=Hd ar;have aE:f.bT≤9000000:=by have h1:=aw.sz;have h2:=aw.jl;have h3:=HN.out;omega
  have ab:=Ke f x.Ae x.ce x.A x.c w3 ar.v.toV aE;have hval:=ar.val;unfold FV.val at hval;rw[←hval]at ab;have IC:=Hd ab;clear aw ar aE ab hval hf Tq ax VW ay Oh;go_wp2_with fail;rw[←Ao,←qM];obtain⟨u0,u1,u2,u3,u4,u5,u6,u7,eG⟩:=q8 X7;(try go_wp2_with fail);refine IC.mono ?_;rintro e w4 ⟨rfl,JH⟩;have bg:=JH.size;have Y7:=Hd ((JH.block b7 a7).trans X7);have Y4:=kX JH O;have YB:=kB HB JH;have aJ:Hid (x.Is (fun q=>w1.heap.size≤q) w4 f):=az.keep (Kb JH) (fun _ _ h=>h);clear u0 eG u1 u2 u3 u4 u5 u6 u7 X7 O HB IC JH az;have X7:=Y7;have O:=Y4;have HB:=YB;clear Y7 Y4 YB
  by_cases hz:f.check=0
  ·rw[hz];have pR:Hid (F=Yt w (f,j,0)):=by show _=_;rw[dJ,iP hz]
   clear hz;go_wp2_with fail;obtain⟨wd,hwd⟩:=aj w4.drew;have ae:wd.heap[b7]?=some (.cells #[.int .i64 x.o,.int .i64 x.tn,.int .i64 x.tm,.string x.s,.slice x.Ae x.ne x.ce,.slice x.A x.n x.c,.int .i64 (j:Nat),.int .i64 0] 197 (0,0)):=by rw[hwd];exact X7
   have Y4:Hid (wd.heap[I]?=some (.cells #[.int .i64 0,.int .i64 0,.int .i64 0,.string ⟨#[]⟩,.slice none 0 0,.slice none 0 0] 67 (0,0))):=by show _=_;rw[hwd];exact O
   have YB:Hid (Below w.heap.size w wd):=by show Below _ _ _;rw[hwd];exact HB.drew
   have aS:Hid (x.Is (fun q=>w1.heap.size≤q) wd f):=by show FV.Is _ _ _ _;rw[hwd];exact aJ.keep ⟨lr _,fun _ _ _=>rfl⟩ (fun _ _ h=>h)
   refine wp_region_held_drew (S:=fun w'=>w'.heap[b7]?=some (.cells #[.int .i64 x.o,.int .i64 x.tn,.int .i64 x.tm,.string x.s,.slice x.Ae x.ne x.ce,.slice x.A x.n x.c,.int .i64 (j:Nat),.int .i64 0] 197 (0,0))) (by kernel_rfl) (by rw[←hwd];exact ae) (fun G=>?_);rw[←hwd]at G⊢;clear hwd ae O HB;have O:=Y4;have HB:=YB;clear Y4 YB;refine gJ 0 (v:=?_) (qE rfl) (Or.inl ⟨by rfl,?hy⟩) (by assumption) ?_
   case hy=>
    intro w0 D;obtain⟨h0,h1,h2,h3,h4,h5,h6,h7,-⟩:=q8 D;clear D;go_simp
    (first|done|with_reducible rfl)
   (try simp only[Act.put,aT,aU,aV]);refine gJ 1 (v:=?_) (qE rfl) (Or.inl ⟨by rfl,?hy⟩) (by assumption) ?_
   case hy=>
    intro w0 D;obtain⟨h0,h1,h2,h3,h4,h5,h6,h7,-⟩:=q8 D;clear D;go_simp
    (first|done|with_reducible rfl)
   (try simp only[Act.put,aT,aU,aV]);refine gJ 2 (v:=?_) (qE rfl) (Or.inl ⟨by rfl,?hy⟩) (by assumption) ?_
   case hy=>
    intro w0 D;obtain⟨h0,h1,h2,h3,h4,h5,h6,h7,-⟩:=q8 D;clear D;go_simp
    (first|done|with_reducible rfl)
   (try simp only[Act.put,aT,aU,aV]);refine gJ 3 (v:=?_) (qE rfl) (Or.inl ⟨by rfl,?hy⟩) (by assumption) ?_
   case hy=>
    intro w0 D;obtain⟨h0,h1,h2,h3,h4,h5,h6,h7,-⟩:=q8 D;clear D;go_simp
    (first|done|with_reducible rfl)
   (try simp only[Act.put,aT,aU,aV]);refine Rd (rs:=[4]) (by kernel_rfl) (by simp) ?_;refine Rc (qE rfl) (fun K hK=>?_) Rn;obtain⟨v0,v1,v2,v3,v4,v5,bW⟩:=q6 O;go_simp;clear v0 bW v1 v2 v3 v4 v5;refine hK.out _ _ ((jH n74).trans G) (fun G=>?_);clear hK K;(try simp only[Act.put,aT,aU,aV]);refine gJ 5 (v:=?_) (qE rfl) (Or.inl ⟨by rfl,?hy⟩) (by assumption) ?_
   case hy=>
    intro w0 D;obtain⟨h0,h1,h2,h3,h4,h5,h6,h7,-⟩:=q8 D;clear D;go_simp
    (first|done|with_reducible rfl)
   (try simp only[Act.put,aT,aU,aV]);refine gJ 6 (v:=?_) (qE rfl) (Or.inl ⟨by rfl,?hy⟩) (by assumption) ?_
   case hy=>
    intro w0 D;obtain⟨h0,h1,h2,h3,h4,h5,h6,h7,-⟩:=q8 D;clear D;go_simp
    (first|done|with_reducible rfl)
   (try simp only[Act.put,aT,aU,aV]);refine wpAnyH_done (by kernel_rfl) ?_ _;clear G;go_wp2_with fail;obtain⟨WW,Y⟩:=aj (((((((wd.setCell ⟨I,0,none⟩ (.int .i64 x.o)).setCell ⟨I,1,none⟩ (.int .i64 x.tn)).setCell ⟨I,2,none⟩ (.int .i64 x.tm)).setCell ⟨I,3,none⟩ (.string x.s)).setCell ⟨I,4,none⟩ (.slice x.Ae x.ne x.ce)).setCell ⟨I,5,none⟩ (.slice x.A x.n x.c)));have hrow:WW.heap[I]?=some (.cells #[.int .i64 x.o,.int .i64 x.tn,.int .i64 x.tm,.string x.s,.slice x.Ae x.ne x.ce,.slice x.A x.n x.c] 67 (0,0)):=by rw[Y];exact jD O
   have J4:Hid (Below w.heap.size w WW):=by
    show Below _ _ _;rw[Y];have hb:w.heap.size≤I:=by rw[qY];exact lr _
    exact(((((((Ob (F:=fun q=>w.heap.size≤q) HB).bq hb _).bq hb _).bq hb _).bq hb _).bq hb _).bq hb _).below (fun q h=>h) (lr _)
   have aP:Hid (x.Is (fun q=>w.heap.size≤q) WW f):=by
    show FV.Is _ _ _ _;rw[Y];exact aS.keep (mO Kr (by have:=qY.out;omega)) (fun q _ h=>by have:=qY.out;omega)
   rw[←Y];clear Y;refine bR (xL _ I _ _ _ _ _ _ _ _ _ rfl rfl rfl hrow) rfl ?_;rw[pR];exact⟨x,rfl,aP,J4⟩
  ·have a8:(f.check != 0)=true:=by simpa using hz
   have pR:Hid (F=Yt w (vg,i,f.check)):=by show _=_;rw[dJ,iN hz]
   obtain⟨ck,ab⟩:=aj f.check;rw[←ab]at a8 pR⊢;clear hz ab;obtain⟨v0,v1,v2,v3,v4,v5,bW⟩:=q6 O;go_wp2_with fail;clear v0 bW v1 v2 v3 v4 v5;obtain⟨WW,Y⟩:=aj (((((((w4.setCell ⟨I,0,none⟩ (.int .i64 0)).setCell ⟨I,1,none⟩ (.int .i64 0)).setCell ⟨I,2,none⟩ (.int .i64 0)).setCell ⟨I,3,none⟩ (.string ⟨#[]⟩)).setCell ⟨I,4,none⟩ (.slice none 0 0)).setCell ⟨I,5,none⟩ (.slice none 0 0)));have hrow:WW.heap[I]?=some (.cells #[.int .i64 0,.int .i64 0,.int .i64 0,.string ⟨#[]⟩,.slice none 0 0,.slice none 0 0] 67 (0,0)):=by rw[Y];exact jD O
   have J4:Hid (Below w.heap.size w WW):=by
    show Below _ _ _;rw[Y];have hb:w.heap.size≤I:=by rw[qY];exact lr _
    exact(((((((Ob (F:=fun q=>w.heap.size≤q) HB).bq hb _).bq hb _).bq hb _).bq hb _).bq hb _).bq hb _).below (fun q h=>h) (lr _)
   rw[←Y];clear Y;refine bR (xL _ I _ _ _ _ _ _ _ _ _ rfl rfl rfl hrow) rfl ?_;rw[pR];exact⟨FV.zero,rfl,FV.G9,J4⟩
 ·have bh:(y != 0)=true:=by simpa using af
  have dJ:Hid (F=Yt w (vg,j,y)):=by show _=_;rw[bE,VW af];rfl
  clear af;go_wp2_with fail;rw[←Ao,←qM];obtain⟨u0,u1,u2,u3,u4,u5,u6,u7,eG⟩:=q8 X7;(try go_wp2_with fail);clear u0 eG u1 u2 u3 u4 u5 u6 u7;obtain⟨wd,hwd⟩:=aj w3.drew;have ae:wd.heap[b7]?=some (.cells #[.int .i64 x.o,.int .i64 x.tn,.int .i64 x.tm,.string x.s,.slice x.Ae x.ne x.ce,.slice x.A x.n x.c,.int .i64 (j:Nat),.int .i64 y] 197 (0,0)):=by rw[hwd];exact X7
  have Y4:Hid (wd.heap[I]?=some (.cells #[.int .i64 0,.int .i64 0,.int .i64 0,.string ⟨#[]⟩,.slice none 0 0,.slice none 0 0] 67 (0,0))):=by show _=_;rw[hwd];exact O
  have YB:Hid (Below w.heap.size w wd):=by show Below _ _ _;rw[hwd];exact HB.drew
  refine wp_region_held_drew (S:=fun w'=>w'.heap[b7]?=some (.cells #[.int .i64 x.o,.int .i64 x.tn,.int .i64 x.tm,.string x.s,.slice x.Ae x.ne x.ce,.slice x.A x.n x.c,.int .i64 (j:Nat),.int .i64 y] 197 (0,0))) (by kernel_rfl) (by rw[←hwd];exact ae) (fun G=>?_);rw[←hwd]at G⊢;clear hwd ae O HB;have O:=Y4;have HB:=YB;clear Y4 YB;refine gJ 0 (v:=?_) (qE rfl) (Or.inl ⟨by rfl,?hy⟩) (by assumption) ?_
  case hy=>
   intro w0 D;obtain⟨h0,h1,h2,h3,h4,h5,h6,h7,-⟩:=q8 D;clear D;go_simp
   (first|done|with_reducible rfl)
  (try simp only[Act.put,aT,aU,aV]);refine gJ 1 (v:=?_) (qE rfl) (Or.inl ⟨by rfl,?hy⟩) (by assumption) ?_
  case hy=>
   intro w0 D;obtain⟨h0,h1,h2,h3,h4,h5,h6,h7,-⟩:=q8 D;clear D;go_simp
   (first|done|with_reducible rfl)
  (try simp only[Act.put,aT,aU,aV]);refine gJ 2 (v:=?_) (qE rfl) (Or.inl ⟨by rfl,?hy⟩) (by assumption) ?_
  case hy=>
   intro w0 D;obtain⟨h0,h1,h2,h3,h4,h5,h6,h7,-⟩:=q8 D;clear D;go_simp
   (first|done|with_reducible rfl)
  (try simp only[Act.put,aT,aU,aV]);refine gJ 3 (v:=?_) (qE rfl) (Or.inl ⟨by rfl,?hy⟩) (by assumption) ?_
  case hy=>
   intro w0 D;obtain⟨h0,h1,h2,h3,h4,h5,h6,h7,-⟩:=q8 D;clear D;go_simp
   (first|done|with_reducible rfl)
  (try simp only[Act.put,aT,aU,aV]);refine gJ 4 (v:=?_) (qE rfl) (Or.inl ⟨by rfl,?hy⟩) (by assumption) ?_
  case hy=>
   intro w0 D;obtain⟨h0,h1,h2,h3,h4,h5,h6,h7,-⟩:=q8 D;clear D;go_simp
   (first|done|with_reducible rfl)
  (try simp only[Act.put,aT,aU,aV]);refine Rd (rs:=[5]) (by kernel_rfl) (by simp) ?_;refine Rc (qE rfl) (fun K hK=>?_) Rn;obtain⟨v0,v1,v2,v3,v4,v5,bW⟩:=q6 O;go_simp;clear v0 bW v1 v2 v3 v4 v5;refine hK.out _ _ ((jH n74).trans G) (fun G=>?_);clear hK K;(try simp only[Act.put,aT,aU,aV]);refine gJ 6 (v:=?_) (qE rfl) (Or.inl ⟨by rfl,?hy⟩) (by assumption) ?_
  case hy=>
   intro w0 D;obtain⟨h0,h1,h2,h3,h4,h5,h6,h7,-⟩:=q8 D;clear D;go_simp
   (first|done|with_reducible rfl)
  (try simp only[Act.put,aT,aU,aV]);refine gJ 7 (v:=?_) (qE rfl) (Or.inl ⟨by rfl,?hy⟩) (by assumption) ?_
  case hy=>
   intro w0 D;obtain⟨h0,h1,h2,h3,h4,h5,h6,h7,-⟩:=q8 D;clear D;go_simp
   (first|done|with_reducible rfl)
  (try simp only[Act.put,aT,aU,aV]);refine wpAnyH_done (by kernel_rfl) ?_ _;clear G;go_wp2_with fail;obtain⟨WW,Y⟩:=aj (((((((wd.setCell ⟨I,0,none⟩ (.int .i64 0)).setCell ⟨I,1,none⟩ (.int .i64 0)).setCell ⟨I,2,none⟩ (.int .i64 0)).setCell ⟨I,3,none⟩ (.string ⟨#[]⟩)).setCell ⟨I,4,none⟩ (.slice none 0 0)).setCell ⟨I,5,none⟩ (.slice none 0 0)));have hrow:WW.heap[I]?=some (.cells #[.int .i64 0,.int .i64 0,.int .i64 0,.string ⟨#[]⟩,.slice none 0 0,.slice none 0 0] 67 (0,0)):=by rw[Y];exact jD O
  have J4:Hid (Below w.heap.size w WW):=by
   show Below _ _ _;rw[Y];have hb:w.heap.size≤I:=by rw[qY];exact lr _
   exact(((((((Ob (F:=fun q=>w.heap.size≤q) HB).bq hb _).bq hb _).bq hb _).bq hb _).bq hb _).bq hb _).below (fun q h=>h) (lr _)
  rw[←Y];clear Y;refine bR (xL _ I _ _ _ _ _ _ _ _ _ rfl rfl rfl hrow) rfl ?_;rw[dJ];exact⟨FV.zero,rfl,FV.G9,J4⟩
theorem fI(tmps:Array Value)(W:World)(b:Nat)(v0 v1 v2 v3 v5 v6:Value)(D:tmps.getD 4 undef=.pointer (some ⟨b,0,none⟩))(h5:tmps.getD 5 undef=v5)(G:tmps.getD 6 undef=v6)
 (h:∀o,o<4→W.cell? ⟨b,o,none⟩=(#[v0,v1,v2,v3]:Array Value)[o]?) :
 (results Tryz.f46 tmps).run Tryz.prog W=.ok (.tuple #[.agg #[v0,v1,v2,v3],v5,v6]) W:=by
 have c0:=h 0 (by omega);have c1:=h 1 (by omega);have c2:=h 2 (by omega);have c3:=h 3 (by omega);simp at c0 c1 c2 c3 D h5 G;simp[results,Tryz.results46,go_sem,D,h5,G,c0,c1,c2,c3]
theorem N8{B:Nat}{w W:World}(h:Below B w W)(v0 v1 v2 v3:Value) :
 Below B w ((((W.setCell ⟨B,0,none⟩ v0).setCell ⟨B,1,none⟩ v1).setCell ⟨B,2,none⟩ v2).setCell ⟨B,3,none⟩ v3):=
 (((h.setCell (p:=⟨B,0,none⟩) (lr _) _).setCell (p:=⟨B,1,none⟩) (lr _) _).setCell (p:=⟨B,2,none⟩) (lr _) _).setCell (p:=⟨B,3,none⟩) (lr _) _
theorem alk(W:World)(b c o:Nat)(v0 v1 v2 v3:Value)(h:b≠c):((((W.setCell ⟨b,0,none⟩ v0).setCell ⟨b,1,none⟩ v1).setCell ⟨b,2,none⟩ v2).setCell ⟨b,3,none⟩ v3).cell? ⟨c,o,none⟩=W.cell? ⟨c,o,none⟩:=by
 have D:∀j,(⟨b,j,none⟩:Addr).block≠(⟨c,o,none⟩:Addr).block:=fun _=>h;rw[Dv _ _ _ _ (D _),Dv _ _ _ _ (D _),Dv _ _ _ _ (D _),Dv _ _ _ _ (D _)]
theorem VJ{x:ByteArray}(h:isWord (bs x)=true):x.size≤24:=by
 unfold isWord at h;rw[Lib.containsS_iff]at h;have D:∀y∈lC,y.size≤24:=by decide
 rw[show(⟨(bs x).toArray⟩:ByteArray)=x from gV rfl]at h;exact D x h
theorem SC(l:Bs)(x:ByteArray)(r:List ByteArray)(k:Nat):jC l (x::r) k=if (bs x).isPrefixOf l then some k else jC l r (k+1):=rfl
theorem VK(l:Bs)(k:Nat):jC l [] k=none:=rfl
theorem afA(s:ByteArray)(p:Nat)(w:World)(hs:s.size≤1000000)(hp:p≤s.size) :
 Calls Tryz.prog 46 #[.string s,.int .i64 p] w fun e w'=>e=.returned (nextVal (next (bs s) p))∧Below w.heap.size w w':=by
 have bv:decide ((p:Int)<0)=false:=by simp
 have bw:decide (s.size<p)=false:=by simp;omega
 go_in;go_wp2_with fail;obtain⟨W0,ay⟩:=aj (w.alloc (.cells #[.int .i64 0,.int .i64 0,.string ⟨#[]⟩,.int .i64 0] 62));have B0:=Hd (show Below w.heap.size w W0 from by rw[ay];exact(Br _ _).alloc (lr _) _);have ag:w.heap.size<W0.heap.size:=by rw[ay];simp
 have I:∀o,W0.cell? ⟨w.heap.size,o,none⟩=(#[.int .i64 0,.int .i64 0,.string ⟨#[]⟩,.int .i64 0]:Array Value)[o]?:=fun o=>by rw[ay,World.cell?_alloc_at];rfl
 have bb:∀o,W0.frozen? ⟨w.heap.size,o,none⟩=false:=fun o=>by rw[ay,World.frozen?_alloc_at];rfl
 rw[←ay];clear ay;refine(Zt s p _ hs hp).mono ?_;rintro e w1 ⟨rfl,hw1⟩;rw[←hw1];clear hw1;obtain⟨T,hT⟩:=aj (blank ((bs s).drop p));rw[←hT];have bd:T <:+ (bs s):=by rw[hT];exact(Ar _).trans (List.drop_suffix _ _)
 have aQ:=Ca bd;have bE:=bd.length_le;rw[aC]at aQ bE;obtain⟨q,hq⟩:=aj (s.size-T.length);rw[←hq]at aQ⊢;have KG:=Hd (fun(k:Int)(n len:Nat)(e:Int)(h:scan T=(k,n,len,e))=>KF (p:=p) hT.symm aQ (by rw[aC];omega) h);have N_:q≤s.size:=by omega
 have b4:T.length=s.size-q:=by omega
 have ai:=Hd aQ;have af:=Hd (B0);clear hT bd aQ hq bv bw
 by_cases bn:q<s.size
 ·have aP:¬(q:Int)=(s.size:Int):=by omega
  have bf:=drop_cons (nW bn);rw[ai]at bf;have aw:=Hd bf;clear bf;have HL:=Hd (BZ s[q]);have HG:=Hd (Lm s[q]);have b3:(q:Int)<(s.size:Int):=by omega
  cases hle:dV s[q]
  ·rw[hle]at HL;cases hdg:isDigit s[q]
   ·rw[hdg]at HG;have hsc:=Dx (r:=(bs s).drop (q+1)) hle hdg;rw[←aw]at hsc;have N9:=Hd hsc;clear hsc hle hdg;go_wp2_with fail;refine(HL _).mono ?_;rintro e w3 ⟨rfl,hw⟩;rw[←hw];clear hw;go_wp2_with fail;refine(HG _).mono ?_;rintro e w3 ⟨rfl,hw⟩;rw[←hw];clear hw;go_wp2_with fail;refine(Zz _).mono ?_;rintro e w3 ⟨rfl,hw⟩;have aF:Below w.heap.size w w3:=by rw[hw];exact af.alloc (Nat.le_of_lt ag) _
    have SF:=dz hw;have az:∀o,w3.cell? ⟨w.heap.size,o,none⟩=(#[.int .i64 0,.int .i64 0,.string ⟨#[]⟩,.int .i64 0]:Array Value)[o]?:=fun o=>by rw[SF.cell (p:=⟨w.heap.size,o,none⟩) ag];exact I o
    have bz:∀o,w3.frozen? ⟨w.heap.size,o,none⟩=false:=fun o=>by rw[SF.frozen (p:=⟨w.heap.size,o,none⟩) ag];exact bb o
    have bZ:w.heap.size<w3.heap.size:=lL ag SF.size
    have bu:=Hd (show ∀j,j<21→w3.cell? ⟨W0.heap.size,j,none⟩=some (.string (gQ.getD j ByteArray.empty))from fun j hj=>by
     rw[hw,World.cell?_alloc_at _ _ _ _ rfl];have aE:j<gQ.length:=hj
     simp[List.getD,aE])
    have av:=Hd aF;clear hw aF SF I bb
    go_wp2
    go_loop [10] (fun i=>∃k:Nat,k≤21∧i=.int .i64 k∧jC T gQ 0=jC T (gQ.drop k) k) (fun i=>21-(intOf i).toNat)
    case atStart=>exact⟨0,zl _,rfl,rfl⟩
    case round=>
     obtain⟨k,hk,rfl,D⟩:=hrel;have HE:=Hd D;clear D
     by_cases Oq:k<21
     ·have bC:(k:Int)<(21:Int):=by omega
      have b1:(0:Int)≤(k:Int):=by omega
      have hdr:gQ.drop k=gQ.getD k ByteArray.empty::gQ.drop (k+1):=by
       have aE:k<gQ.length:=Oq;rw[List.drop_eq_getElem_cons aE];simp[List.getD,aE]
      have bl:=bu k Oq
      have b5:(gQ.getD k ByteArray.empty).size≤3:=by
       have aa:∀y∈gQ,y.size≤3:=by decide
       have aE:k<gQ.length:=Oq;have h1:gQ.getD k ByteArray.empty=gQ[k]:=by simp[List.getD,aE]
       rw[h1];exact aa _ (List.getElem_mem _)
      have hsc:=N9.out;have D:=HE.out;rw[hdr]at D
      generalize hy:gQ.getD k ByteArray.empty=y at *
      have bk:=Nw s y q w3 hs (by omega) N_;rw[ai]at bk;have a7:=Hd bk;have HY:=Hd hy;clear bk hdr hy;rw[SC]at D;cases hp:(bs y).isPrefixOf T
      ·rw[hp,iN (by simp)]at D;have HN:=Hd D;rw[hp]at a7;clear hp D hsc;go_wp2_with fail;refine a7.mono ?_;rintro e w4 ⟨rfl,hw⟩;rw[←hw];clear hw
       go_wp2
       go_round
       case rel=>exact⟨k+1,by omega,by go_num,HN⟩
       case measure=>simp[intOf];omega
      ·rw[hp,iP rfl]at D;rw[D]at hsc
       change scan T=(4,0,(gQ.getD k ByteArray.empty).size,0)at hsc
       rw[HY]at hsc;rw[hp]at a7;have ao:=List.isPrefixOf_iff_prefix.1 hp
       have bp:T.take y.size=bs y:=by
        rw[←aC];exact(List.prefix_iff_eq_take.1 ao).symm
       have bW:y.size≤T.length:=by rw[←aC];exact ao.length_le
       have Ws:=Hd (show(⟨(T.take y.size).toArray⟩:ByteArray)=y from gV (by rw[JI,bp]));have O:=Hd (KG 4 0 y.size 0 hsc);have ae:IntKind.i64.wrap ((q:Int)+(y.size:Int))=((q+y.size:Nat):Int):=by rw[IntWalk.i64_in _ (by omega)];omega
       have bi:w.heap.size≠W0.heap.size:=by omega
       clear hp D hsc ao bp bW;go_wp2_with fail;refine a7.mono ?_;rintro e w4 ⟨rfl,hw⟩;rw[←hw];clear hw;go_wp2_with fail
       go_region_held3 (fun w'=>w'.cell? ⟨W0.heap.size,k,none⟩=some (.string y)) (first|exact bl|(rw[World.cell?_drew,alk _ _ _ _ _ _ _ bi];exact bl)|go_keep) (fail)
       go_wp2_with fail
       refine bR (fI _ _ w.heap.size _ _ _ _ _ _ rfl rfl rfl (fun o J=>by
        rw[World.cell?_drew]
        exact Au rfl az _ _ _ _ o J)) rfl ⟨?_,?_⟩
       ·rw[sP (z:=(EJ,q,0)) O Ws];rfl
       ·exact(N8 av _ _ _ _).drew
     ·have bC:¬(k:Int)<(21:Int):=by omega
      have hdr:gQ.drop k=[]:=List.drop_eq_nil_of_le (by show 21≤k;omega);have D:=HE.out;rw[hdr,VK]at D;have hsc:=N9.out;rw[D]at hsc
      change scan T=(0,0,0,15)at hsc
      have O:=Hd (KG 0 0 0 15 hsc);clear hdr D hsc
      go_wp2
      refine bR (fI _ _ w.heap.size _ _ _ _ _ _ rfl rfl rfl (fun o J=>by
       try simp only[World.cell?_drew]
       exact Au rfl az _ _ _ _ o J)) rfl ⟨?_,?_⟩
      ·rw[O];rfl
      ·exact N8 av _ _ _ _
   ·rw[hdg]at HG;have hsc:=wC (r:=(bs s).drop (q+1)) hle hdg;rw[←aw]at hsc;have bj:=acH aw hdg;have aa:=@Fh isDigit T;have hrow:=Ny s q true;rw[ai]at hrow
    change ∀(w:World),s.size≤1000000→q≤s.size→Calls Tryz.prog 85 #[.string s,.int .i64 q,.bool true] w fun e w'=>e=.returned (.int .i64 (q+rowLen isDigit T:Nat))∧w=w' at hrow
    have bh:=qF isDigit T;have b2:0<rowLen isDigit T:=by rw[aw,fG hdg];omega
    generalize rowLen isDigit T=n at *
    have iF:=Hd (fun w=>hrow w hs N_);obtain⟨x,hx⟩:∃x,s.extract q (q+n)=x:=⟨_,rfl⟩;have G:bs x=T.take n:=by rw[←hx,gW,List.drop_take,ai,show q+n-q=n by omega]
    have br:x.size=n:=by rw[←aC,G,List.length_take];omega
    rw[←G]at bj aa;have bP:0<x.size:=by omega
    have a6:x[0]=s[q]:=by
     have h1:=nW bP;rw[G,aw]at h1;obtain⟨m,rfl⟩:∃m,n=m+1:=⟨n-1,by omega⟩;simp at h1;exact h1.symm
    have ax:=Hd (fun w=>Zw x w (by omega) aa);have aS:(⟨(T.take n).toArray⟩:ByteArray)=x:=gV (by rw[JI,G]);have Ws:=Hd aS;have bJ:q+n≤s.size:=by omega
    have bL:q≤q+n:=by omega
    generalize tT 0 (bs x)=v at *
    have N9:=Hd hsc;have xR:=Hd bj;clear hrow hsc hle bh G aS aa bj hdg;have ae:IntKind.i64.wrap ((q:Int)+(n:Int))=((q+n:Nat):Int):=by rw[IntWalk.i64_in _ (by omega)];omega
    have a8:=Hd ae;clear ae;have H0:=Hd a6;clear a6;have b0:(0:Int)<(x.size:Int):=by omega
    go_wp2_with fail;refine(HL _).mono ?_;rintro e w3 ⟨rfl,hw⟩;rw[←hw];clear hw;go_wp2_with fail;refine(HG _).mono ?_;rintro e w3 ⟨rfl,hw⟩;rw[←hw];clear hw;go_wp2_with fail;refine(iF _).mono ?_;rintro e w3 ⟨rfl,hw⟩;rw[←hw];clear hw
    by_cases Y:1<n∧s[q].toNat=48
    ·have hsc:=N9.out;rw[xR,iP Y]at hsc;have O:=Hd (KG 0 0 0 15 (by rw[hsc];rfl));have ba:(1:Int)<(n:Int):=by omega
     have hb:((x[0].toNat:Int)==48)=true:=by rw[H0,Y.2];rfl
     clear hsc Y
     go_wp2
     refine bR (fI _ _ w.heap.size _ _ _ _ _ _ rfl rfl rfl (fun o J=>by
      try simp only[World.cell?_drew]
      exact Au rfl I _ _ _ _ o J)) rfl ⟨?_,?_⟩
     ·rw[O];rfl
     ·exact N8 af _ _ _ _
    ·have hsc:=N9.out;rw[xR,iN Y]at hsc
     have bo:¬1<n∨(1<n∧((x[0].toNat:Int)==48)=false):=by
      by_cases h1:1<n
      ·refine .inr ⟨h1,?_⟩;rw[H0];simp;omega
      ·exact .inl h1
     by_cases ab:255<v
     ·rw[iP ab]at hsc;have O:=Hd (KG 0 0 0 2 (by rw[hsc];rfl));have aJ:(255:Int)<(v:Int):=by omega
      clear hsc Y ab
      rcases bo with h1|⟨h1,hb⟩
      ·have ba:¬(1:Int)<(n:Int):=by omega
       go_wp2_with fail;refine(ax _).mono ?_;rintro e w3 ⟨rfl,hw⟩;rw[←hw];clear hw
       go_wp2
       refine bR (fI _ _ w.heap.size _ _ _ _ _ _ rfl rfl rfl (fun o J=>by
        try simp only[World.cell?_drew]
        exact Au rfl I _ _ _ _ o J)) rfl ⟨?_,?_⟩
       ·rw[O];rfl
       ·exact N8 af _ _ _ _
      ·have ba:(1:Int)<(n:Int):=by omega
       go_wp2_with fail;refine(ax _).mono ?_;rintro e w3 ⟨rfl,hw⟩;rw[←hw];clear hw
       go_wp2
       refine bR (fI _ _ w.heap.size _ _ _ _ _ _ rfl rfl rfl (fun o J=>by
        try simp only[World.cell?_drew]
        exact Au rfl I _ _ _ _ o J)) rfl ⟨?_,?_⟩
       ·rw[O];rfl
       ·exact N8 af _ _ _ _
     ·rw[iN ab]at hsc;have O:=Hd (KG 1 v n 0 (by rw[hsc];rfl));have aJ:¬(255:Int)<(v:Int):=by omega
      have ae:=a8.out;clear hsc Y ab
      rcases bo with h1|⟨h1,hb⟩
      ·have ba:¬(1:Int)<(n:Int):=by omega
       go_wp2_with fail;refine(ax _).mono ?_;rintro e w3 ⟨rfl,hw⟩;rw[←hw];clear hw;go_wp2_with fail;refine(ax _).mono ?_;rintro e w3 ⟨rfl,hw⟩;rw[←hw];clear hw
       go_wp2
       refine bR (fI _ _ w.heap.size _ _ _ _ _ _ rfl rfl rfl (fun o J=>by
        try simp only[World.cell?_drew]
        exact Au rfl I _ _ _ _ o J)) rfl ⟨?_,?_⟩
       ·rw[sP (z:=(EJ,q,0)) O Ws];rfl
       ·exact N8 af _ _ _ _
      ·have ba:(1:Int)<(n:Int):=by omega
       go_wp2_with fail;refine(ax _).mono ?_;rintro e w3 ⟨rfl,hw⟩;rw[←hw];clear hw;go_wp2_with fail;refine(ax _).mono ?_;rintro e w3 ⟨rfl,hw⟩;rw[←hw];clear hw
       go_wp2
       refine bR (fI _ _ w.heap.size _ _ _ _ _ _ rfl rfl rfl (fun o J=>by
        try simp only[World.cell?_drew]
        exact Au rfl I _ _ _ _ o J)) rfl ⟨?_,?_⟩
       ·rw[sP (z:=(EJ,q,0)) O Ws];rfl
       ·exact N8 af _ _ _ _
  ·rw[hle]at HL;have hsc:=uh (r:=(bs s).drop (q+1)) hle;rw[←aw]at hsc;have hrow:=Ny s q false;rw[ai]at hrow
   change ∀(w:World),s.size≤1000000→q≤s.size→Calls Tryz.prog 85 #[.string s,.int .i64 q,.bool false] w fun e w'=>e=.returned (.int .i64 (q+rowLen bD T:Nat))∧w=w' at hrow
   have bh:=qF bD T
   generalize rowLen bD T=n at *
   have iF:=Hd (fun w=>hrow w hs N_);obtain⟨x,hx⟩:∃x,s.extract q (q+n)=x:=⟨_,rfl⟩;have G:bs x=T.take n:=by rw[←hx,gW,List.drop_take,ai,show q+n-q=n by omega]
   have br:x.size=n:=by rw[←aC,G,List.length_take];omega
   rw[←G]at hsc;have N9:=Hd hsc;have aS:(⟨(T.take n).toArray⟩:ByteArray)=x:=gV (by rw[JI,G]);have Ws:=Hd aS;have qH:=Hd G;have bJ:q+n≤s.size:=by omega
   have bL:q≤q+n:=by omega
   clear hrow hsc hle bh G aS;have ae:IntKind.i64.wrap ((q:Int)+(n:Int))=((q+n:Nat):Int):=by rw[IntWalk.i64_in _ (by omega)];omega
   have a8:=Hd ae;clear ae;go_wp2_with fail;refine(HL _).mono ?_;rintro e w3 ⟨rfl,hw⟩;rw[←hw];clear hw;go_wp2_with fail;refine(iF _).mono ?_;rintro e w3 ⟨rfl,hw⟩;rw[←hw];clear hw;go_wp2_with fail;refine(NC _).mono ?_;rintro e w3 ⟨rfl,hw⟩;have aF:Below w.heap.size w w3:=by rw[hw];exact af.alloc (Nat.le_of_lt ag) _
   have SF:=dz hw;have az:∀o,w3.cell? ⟨w.heap.size,o,none⟩=(#[.int .i64 0,.int .i64 0,.string ⟨#[]⟩,.int .i64 0]:Array Value)[o]?:=fun o=>by rw[SF.cell (p:=⟨w.heap.size,o,none⟩) ag];exact I o
   have bz:∀o,w3.frozen? ⟨w.heap.size,o,none⟩=false:=fun o=>by rw[SF.frozen (p:=⟨w.heap.size,o,none⟩) ag];exact bb o
   have bZ:w.heap.size<w3.heap.size:=lL ag SF.size
   have bm:∀j,j<lC.length→w3.cell? ⟨W0.heap.size,0+j,none⟩=some (.string (lC.getD j ByteArray.empty)):=fun j hj=>by
    rw[hw,Nat.zero_add,World.cell?_alloc_at _ _ _ _ rfl];simp[List.getD,hj]
   clear hw;have ar:=Hd (NA W0.heap.size 0 24 lC x w3 (by decide) bm)
   have hwd:Lib.containsS lC x=isWord (bs x):=by
    unfold isWord;rw[show(⟨(bs x).toArray⟩:ByteArray)=x from gV rfl]
   rw[hwd]at ar
   change Hid (Calls Tryz.prog 86 #[.slice (some ⟨W0.heap.size,0,none⟩) 24 24,.string x] w3 _)at ar
   have av:=Hd aF;clear bm hwd aF I bb SF;cases hiw:isWord (bs x)
   all_goals rw[hiw]at ar
   ·have hsc:=N9.out;rw[hiw]at hsc
    by_cases S_:24<n
    ·have Wt:(24:Int)<(n:Int):=by omega
     rw[iP S_]at hsc;have O:=Hd (KG _ _ _ _ hsc);clear hsc hiw;go_wp2_with fail;refine ar.mono ?_;rintro e w4 ⟨rfl,hw⟩;rw[←hw];clear hw
     go_wp2
     refine bR (fI _ _ w.heap.size _ _ _ _ _ _ rfl rfl rfl (fun o J=>by
      try simp only[World.cell?_drew]
      exact Au rfl az _ _ _ _ o J)) rfl ⟨?_,?_⟩
     ·rw[O];rfl
     ·exact N8 av _ _ _ _
    ·have Wt:¬(24:Int)<(n:Int):=by omega
     rw[iN S_,iN (by simp)]at hsc;have O:=Hd (KG _ _ _ _ hsc);clear hsc hiw;have ae:=a8.out;go_wp2_with fail;refine ar.mono ?_;rintro e w4 ⟨rfl,hw⟩;rw[←hw];clear hw
     go_wp2
     refine bR (fI _ _ w.heap.size _ _ _ _ _ _ rfl rfl rfl (fun o J=>by
      try simp only[World.cell?_drew]
      exact Au rfl az _ _ _ _ o J)) rfl ⟨?_,?_⟩
     ·rw[sP (z:=(EJ,q,0)) O Ws];rfl
     ·exact N8 av _ _ _ _
   ·have hsc:=N9.out;have S_:=VJ hiw;rw[br]at S_;rw[hiw,iN (by omega),iP rfl]at hsc;have O:=Hd (KG _ _ _ _ hsc);clear hsc hiw;have ae:=a8.out;go_wp2_with fail;refine ar.mono ?_;rintro e w4 ⟨rfl,hw⟩;rw[←hw];clear hw
    go_wp2
    refine bR (fI _ _ w.heap.size _ _ _ _ _ _ rfl rfl rfl (fun o J=>by
     try simp only[World.cell?_drew]
     exact Au rfl az _ _ _ _ o J)) rfl ⟨?_,?_⟩
    ·rw[sP (z:=(EJ,q,0)) O Ws];rfl
    ·exact N8 av _ _ _ _
 ·have aP:q=s.size:=by omega
  have bg:T=[]:=List.eq_nil_of_length_eq_zero (by omega);have O:=Hd (KG 5 0 0 0 (by rw[bg];rfl));rw[bg]at O;clear bg KG ai bn;subst aP
  go_wp2
  refine bR (fI _ _ w.heap.size _ _ _ _ _ _ rfl rfl rfl (fun o J=>by
   try simp only[World.cell?_drew]
   exact Au rfl I _ _ _ _ o J)) rfl ⟨?_,?_⟩
  ·rw[O];rfl
  ·exact N8 af _ _ _ _
theorem acX(s:ByteArray)(p:Int)(w:World)(hs:s.size≤1000000) :
 Calls Tryz.prog 46 #[.string s,.int .i64 p] w fun e w'=>e=.returned (aaA (Lv (bs s) p))∧Below w.heap.size w w':=by
 by_cases D:p<0∨((bs s).length:Int)<p
 ·rw[Lx D];rw[aC]at D
  by_cases h0:p<0
  ·clear D;go_in
   go_wp2
   refine bR (fI _ _ w.heap.size _ _ _ _ _ _ rfl rfl rfl (fun o D=>World.cell?_alloc_at _ _ _ _ rfl)) rfl ⟨?_,?_⟩
   ·rfl
   ·exact(Br _ _).alloc (lr _) _
  ·have h1:(s.size:Int)<p:=by omega
   clear D;go_in
   go_wp2
   refine bR (fI _ _ w.heap.size _ _ _ _ _ _ rfl rfl rfl (fun o D=>World.cell?_alloc_at _ _ _ _ rfl)) rfl ⟨?_,?_⟩
   ·rfl
   ·exact(Br _ _).alloc (lr _) _
 ·obtain⟨n,rfl⟩:∃n:Nat,p=n:=⟨p.toNat,by omega⟩;rw[Dz (by omega)];exact afA s n w hs (by rw[aC]at D;omega)
theorem Tryz.infoR:(Tryz.prog.info? 62).map (fun i=>(i.zero,i.size,i.bytes))=some (some (.agg #[.int .i64 0,.int .i64 0,.string ⟨#[]⟩,.int .i64 0]),4,40):=by kernel_rfl
theorem aj3(s:ByteArray)(w:World)(hs:s.size≤1000000) :
 Calls Tryz.prog 16 #[.string s] w fun e w'=>∃v,e=.returned (.tuple #[v,.int .i64 (all (bs s)).2.1,.int .i64 (all (bs s)).2.2])∧w'.ownsRow w.heap.size 62 4 v (all (bs s)).1.length (flat (all (bs s)).1)∧Below w.heap.size w w':=by
 by_cases h1:65536<s.size
 ·have ar:(65536:Int)<(s.size:Int):=by omega
  have HA:=Hd (show all (bs s)=([],0,4)from iP (by rw[aC];exact h1));clear h1;go_in
  go_wp2
  go_ret3
  rw[HA];exact⟨_,rfl,⟨rfl,.inl ⟨rfl,rfl⟩⟩,Br _ _⟩
 ·have ar:¬(65536:Int)<(s.size:Int):=by omega
  have HA:=Hd (show all (bs s)=oZ (bs s) 0 []from iN (by rw[aC];exact h1));have aP:s.size≤65536:=by omega
  clear h1;obtain⟨i0,hi,ay,az,aE⟩:=info_parts Tryz.infoR;go_in;go_wp2_with fail
  go_loopw [5,6] (fun sv si wr=>∃(p:Nat)(acc:List Tok),p≤s.size∧si=.int .i64 p∧wr.ownsRow w.heap.size 62 4 sv acc.length (flat acc)∧acc.length≤p∧oZ (bs s) 0 []=oZ (bs s) p acc∧Below w.heap.size w wr) (fun _ i _=>s.size-(intOf i).toNat)
  case atStart=>exact⟨0,[],zl _,rfl,World.ownsRow_made _ _ 0 (lr _) (zl _) rfl,zl _,rfl,(Br _ _).alloc (lr _) _⟩
  case round=>
   obtain⟨p,acc,hp,rfl,how,a6,aa,J⟩:=hrel;have HO:=Hd how;have HL:=Hd aa;have HB:=Hd J;have hsz:=J.size;have HN:=Hd (acX s p wr hs);clear how aa J;rw[Dz (by rw[aC];exact hp)]at HN;have hok:=Gh (l:=bs s) (p:=p) (by rw[aC];exact hp);have ab:=Cb (l:=bs s) (p:=p) (acc:=acc);have ae:=JL (l:=bs s) (p:=p) (acc:=acc);have O:=Aw (l:=bs s) (p:=p) (acc:=acc) (by rw[aC];exact hp);rw[aC]at hok;have BQ:=Hd hok;have Cn:=Hd ab;have af:=Hd ae;have Us:=Hd O;clear hok ab ae O
   generalize next (bs s) p=x at *
   obtain⟨⟨tk,tn,tt,ta⟩,q,e⟩:=x;unfold aaA Tok.val Tok.cells at HN
   dsimp only at HN BQ Cn af Us
   by_cases he:e=0
   ·subst he;have hok:=BQ rfl
    by_cases hk:tk=5
    ·have HE:=Hd (Cn rfl hk);subst hk;clear hok;go_wp2_with fail;refine HN.mono ?_;rintro e w2 ⟨rfl,D⟩;have G:=Hd D;clear D
     go_wp2
     go_ret3
     rw[HA,HL,HE];exact⟨_,rfl,ownsRow_below HO (G.alloc G.size _),HB.trans ((G.alloc G.size _).mono hsz)⟩
    ·have HE:=Hd (Us rfl hk);have aS:(tk==5)=false:=by simpa using hk
     have ao:p<q∧q≤s.size:=by
      rcases hok with⟨h,_⟩|⟨_,h1,h2⟩
      ·exact absurd h hk
      ·exact⟨h1,h2⟩
     obtain⟨ao,aw⟩:=ao;clear hok hk;go_wp2_with fail;refine HN.mono ?_;rintro e w2 ⟨rfl,D⟩;have G:=Hd D;have ax:=D.size;have ag:=Hd (D.alloc D.size (.cells #[.int .i64 tk,.int .i64 tn,.string ⟨tt.toArray⟩,.int .i64 ta] 62));have Ah:=Hd (ownsRow_below HO ag.out);have ai:=(ownsRow_below HO D).lt;have aF:=Hd ai;clear D ai
     go_wp2_with (at_builtin;refine wpList_append_own _ rfl _ _ 56 rfl w.heap.size 62 i0 _ 4 40 Tryz.underlying56 hi ay az aE rfl (by decide) _ _ _ rfl (Ah.alloc _) ⟨w2.heap.size+1,0,none⟩ 1 1 (Ow ⟨tk,tn,tt,ta⟩) rfl rfl ?c1 ?c2 ?c3 ?c4 ?c5 ?_)
     case c1=>exact World.news_of_block (cs:=#[.int .i64 tk,.int .i64 tn,.string ⟨tt.toArray⟩,.int .i64 ta]) (t:=62) (fr:=(0,0)) (by have:=eu (w2.alloc (.cells #[.int .i64 tk,.int .i64 tn,.string ⟨tt.toArray⟩,.int .i64 ta] 62)) (.cells #[.int .i64 tk,.int .i64 tn,.string ⟨tt.toArray⟩,.int .i64 ta] 62);simpa using this)
     case c2=>
      intro q hq;simp[Ow]at hq
      rcases hq with rfl|rfl|rfl|rfl<;>rfl
     case c3=>unfold maxLen;omega
     case c4=>omega
     case c5=>simp;omega
     intro v' w3 Y I _;have av:=Hd I;have Ai:=Hd Y;clear Y I
     go_wp2
     go_roundw
     case rel=>
      refine⟨q,acc++[⟨tk,tn,tt,ta⟩],aw,rfl,?_,?_,?_,?_⟩
      ·rw[O7,List.length_append];exact Ai
      ·rw[List.length_append];simp;omega
      ·rw[HL,HE]
      ·refine((HB.trans (ag.out.mono hsz)).alloc (by simp;omega) _).grown av.out (by simp;omega) (fun q hq=>?_);exact(Ah.lt q hq).1
     case measure=>simp[intOf];omega
   ·have aQ:(e==0)=false:=by simpa using he
    have aJ:(e != 0)=true:=by simpa using he
    have HE:=Hd (af he);clear he;go_wp2_with fail;refine HN.mono ?_;rintro e w2 ⟨rfl,D⟩;have G:=Hd D;clear D
    go_wp2
    go_ret3
    rw[HA,HL,HE];exact⟨_,rfl,⟨rfl,.inl ⟨rfl,rfl⟩⟩,HB.trans ((G.alloc G.size _).mono hsz)⟩
end Go.Proofs.YtkhoeoilamddaaaGreatDoor
