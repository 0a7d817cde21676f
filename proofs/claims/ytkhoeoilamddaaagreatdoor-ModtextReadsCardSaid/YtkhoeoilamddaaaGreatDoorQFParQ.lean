/- Walks and plain words: FParQ MdP MdQ MwA. -/
import Derived.Test.YtkhoeoilamddaaaGreatDoorQFrmB
import Derived.Lib.UnsafeStr
namespace Go.Proofs.YtkhoeoilamddaaaGreatDoor
set_option linter.unusedVariables false
set_option linter.unusedSectionVars false
mutual
def vO:Fm→Nat
 |.mk o e l=>if o=1 then 4+vo e else 8+Fu l
def Fu:List Fm→Nat
 |[]=>0
 |t::r=>vO t+Fu r
end
mutual
def wL:Fm→Bool
 |.mk o e l=>(if o=1 then iW e else true)&&Az l
def Az:List Fm→Bool
 |[]=>true
 |t::r=>wL t&&Az r
end
structure VP(l:List Tok)(i:Nat)(f:Fm)(j:Nat):Prop where
 ij:i<j
 jl:j≤l.length
 sz:f.bT≤2*(j-i)
 len:vO f+4*sD l i≤4*sD l j
 told:Gz l→wL f=true
def xV(l:List Tok)(P:gK):Prop:=∀i f j,P i=.ok f j→VP l i f j
theorem wM{l:List Tok}{i j:Nat}{t:Tm}(h:iU l i=(t,j,0)):t.check=0∧Gd l i t j:=by
 have D:=(IV l 256).term i;unfold iU at h
 cases hr:(lvl l 256).term i with
 |bad k e=>
  rw[hr]at h;simp only[Prod.mk.injEq]at h;exact absurd h.2.2 (adi hr)
 |ok x k=>
  rw[hr]at h
  by_cases hc:x.check=0
  ·simp only[hc,if_true,Prod.mk.injEq]at h;obtain⟨rfl,rfl,-⟩:=h;exact⟨hc,D x k hr⟩
  ·simp only[iN hc,Prod.mk.injEq]at h;exact absurd h.2.2 hc
where adi {l:List Tok} {i j:Nat} {e:Int} (h:(lvl l 256).term i=.bad j e):e≠0:=(Mh l 256).1 i j e h
section
variable {l:List Tok} {i j:Nat}
theorem WL{op:Int}(D:op≠1)(a b:Fm):(fT op [a,b]).bT=2+a.bT+b.bT∧vO (fT op [a,b])=8+vO a+vO b∧wL (fT op [a,b])=(wL a&&wL b):=by
 unfold fT;refine⟨?_,?_,?_⟩
 ·rw[Fm.bT,Fm.iK,Fm.iK,Fm.iK];simp[dG,Tm.size,Tm.aA];omega
 ·rw[vO,iN D,Fu,Fu,Fu];omega
 ·rw[wL,iN D,Az,Az,Az];simp
theorem adj{op:Int}(D:op≠1)(a:Fm):(fT op [a]).bT=2+a.bT∧vO (fT op [a])=8+vO a∧wL (fT op [a])=wL a:=by
 unfold fT;refine⟨?_,?_,?_⟩
 ·rw[Fm.bT,Fm.iK,Fm.iK];simp[dG,Tm.size,Tm.aA]
 ·rw[vO,iN D,Fu,Fu];omega
 ·rw[wL,iN D,Az,Az];simp
theorem aaN{op:Int}{t u:Fm}{k m:Nat}{s:Bs}(D:op≠1)(hs:1≤s.length)(h1:VP l i t k)(hw:sD l (k+1)=sD l k+(s.length+1))(h2:VP l (k+1) u m):VP l i (fT op [t,u]) m:=by
 have a1:=h1.ij;have a2:=h1.sz;have a3:=h1.len;have G:=h2.ij;have I:=h2.sz;have J:=h2.len;obtain⟨e1,e2,e3⟩:=WL D t u;exact⟨by omega,h2.jl,by omega,by omega,fun hn=>by rw[e3,h1.told hn,h2.told hn];rfl⟩
def TJ(l:List Tok)(s:Option gK):Prop:=∀p,s=some p→xV l p
theorem IW{s:Option gK}(h:TJ l s){t:Fm}(he:rF s i=.ok t j):VP l (i+1) t j:=by
 unfold rF at he
 cases s with
 |none=>cases he
 |some p=>exact h p rfl _ _ _ he
theorem IX{op:Int}{sign:Bs}{part:gK}(I:op≠1)(hs:1≤sign.length)(h:xV l part):xV l (Eo l op sign part):=by
 have key:∀fuel i t j u m,VP l i t j→mH l op sign part fuel t j=.ok u m→VP l i u m:=by
  intro fuel
  induction fuel with
  |zero=>intro i t j u m D he;rw[mH]at he;obtain⟨rfl,rfl⟩:=bH he;exact D
  |succ n J=>
   intro i t j u m D he;rw[mH]at he
   by_cases G:ah l j 4 sign=true
   ·rw[iP G]at he;obtain⟨x,k,h1,h2⟩:=then_ok he;exact J i _ k u m (aaN I hs D (dW G).2 (h _ _ _ h1)) h2
   ·rw[iN G]at he;obtain⟨rfl,rfl⟩:=bH he;exact D
 intro i t j he;obtain⟨x,k,h1,h2⟩:=then_ok he;exact key _ i x k t j (h _ _ _ h1) h2
theorem TK(h:n_ l i≠0):n_ l i≠1∧i<l.length∧sD l i+2≤sD l (i+1):=by
 unfold n_ at h⊢
 by_cases h1:ah l i 4 [33]=true
 ·rw[iP h1];obtain⟨a,b⟩:=dW h1;exact⟨by decide,a,by rw[b];simp⟩
 rw[iN h1]at h⊢
 by_cases h2:ah l i 3 [69,88]=true
 ·rw[iP h2];obtain⟨a,b⟩:=dW h2;exact⟨by decide,a,by rw[b];simp⟩
 rw[iN h2]at h⊢
 by_cases h3:ah l i 3 [69,70]=true
 ·rw[iP h3];obtain⟨a,b⟩:=dW h3;exact⟨by decide,a,by rw[b];simp⟩
 rw[iN h3]at h⊢
 by_cases D:ah l i 3 [69,71]=true
 ·rw[iP D];obtain⟨a,b⟩:=dW D;exact⟨by decide,a,by rw[b];simp⟩
 rw[iN D]at h⊢
 by_cases h5:ah l i 3 [65,88]=true
 ·rw[iP h5];obtain⟨a,b⟩:=dW h5;exact⟨by decide,a,by rw[b];simp⟩
 rw[iN h5]at h⊢
 by_cases G:ah l i 3 [65,70]=true
 ·rw[iP G];obtain⟨a,b⟩:=dW G;exact⟨by decide,a,by rw[b];simp⟩
 rw[iN G]at h⊢
 by_cases I:ah l i 3 [65,71]=true
 ·rw[iP I];obtain⟨a,b⟩:=dW I;exact⟨by decide,a,by rw[b];simp⟩
 rw[iN I]at h;exact absurd rfl h
theorem TN{s:Option gK}{op:Int}(I:op≠1)(h:TJ l s){kw:Bs}(G:ah l i 3 kw=true){t:Fm}(he:wK l s op i=.ok t j):VP l i t j:=by
 unfold wK at he
 cases s with
 |none=>cases he
 |some p=>
  simp only at he
  by_cases h1:ah l (i+1) 4 [91]=true
  ·rw[iP h1]at he;obtain⟨a,J,e1,he⟩:=then_ok he
   by_cases h2:ah l J 3 [85]=true
   ·rw[iP h2]at he;obtain⟨b,O,e2,he⟩:=then_ok he
    by_cases h3:ah l O 4 [93]=true
    ·rw[iP h3]at he;obtain⟨rfl,rfl⟩:=bH he;have ha:=h p rfl _ _ _ e1;have hb:=h p rfl _ _ _ e2;obtain⟨w1,w2⟩:=dW G;obtain⟨w3,D⟩:=dW h1;obtain⟨w5,Y⟩:=dW h2;obtain⟨w7,w8⟩:=dW h3;have a1:=ha.ij;have a2:=ha.sz;have a3:=ha.len;have b1:=hb.ij;have b2:=hb.sz;have b3:=hb.len;obtain⟨f1,f2,f3⟩:=WL I a b;rw[show i+1+1=i+2 from rfl]at D;exact⟨by omega,by omega,by omega,by simp at D Y w8;omega,fun hn=>by rw[f3,ha.told hn,hb.told hn];rfl⟩
    ·rw[iN h3]at he;cases he
   ·rw[iN h2]at he;cases he
  ·rw[iN h1]at he;cases he
theorem Cq{s:Option jG}(hf:TJ l (s.map jG.form))(Y:TJ l (s.map jG.unit)):xV l (jg l s):=by
 intro i t j he;unfold jg at he
 by_cases h1:n_ l i≠0
 ·rw[iP h1]at he;obtain⟨x,k,e1,he⟩:=then_ok he;obtain⟨rfl,rfl⟩:=bH he;have hx:=IW Y e1;obtain⟨o1,o2,o3⟩:=TK h1;obtain⟨f1,f2,f3⟩:=adj o1 x;have a1:=hx.ij;have a2:=hx.sz;have a3:=hx.len;exact⟨by omega,hx.jl,by omega,by omega,fun hn=>by rw[f3];exact hx.told hn⟩
 rw[iN h1]at he
 by_cases h2:ah l i 3 [69]=true
 ·rw[iP h2]at he;exact TN (by decide) hf h2 he
 rw[iN h2]at he
 by_cases h3:ah l i 3 [65]=true
 ·rw[iP h3]at he;exact TN (by decide) hf h3 he
 rw[iN h3]at he
 by_cases G:ah l i 4 [40]=true
 ·rw[iP G]at he;obtain⟨x,k,e1,he⟩:=then_ok he
  by_cases hc:ah l k 4 [41]=true
  ·rw[iP hc]at he;obtain⟨rfl,rfl⟩:=bH he;have hx:=IW hf e1;obtain⟨w1,w2⟩:=dW G;obtain⟨w3,O⟩:=dW hc;have a1:=hx.ij;have a2:=hx.sz;have a3:=hx.len;exact⟨by omega,by omega,by omega,by omega,hx.told⟩
  ·rw[iN hc]at he;cases he
 rw[iN G]at he
 by_cases h5:ah l i 4 [91]=true
 ·rw[iP h5]at he;unfold Bz at he;obtain⟨z,J⟩:=aj (iU l (i+1));rw[←J]at he
  by_cases D:z.2.2≠0
  ·rw[iP D]at he;cases he
  rw[iN D]at he
  by_cases hc:ah l z.2.1 4 [93]=true
  ·rw[iP hc]at he;obtain⟨rfl,rfl⟩:=bH he;have I:iU l (i+1)=(z.1,z.2.1,0):=by rw[←J];rw[show(0:Int)=z.2.2 by omega]
   obtain⟨g1,g2⟩:=wM I;obtain⟨w1,w2⟩:=dW h5;obtain⟨w3,O⟩:=dW hc;have a1:=g2.ij;have a2:=g2.sz;have a3:=g2.len;simp at w2 O;refine⟨by omega,by omega,?_,?_,fun hn=>?_⟩
   ·rw[Fm.bT,Fm.iK];omega
   ·rw[vO,iP rfl];omega
   ·rw[wL,iP rfl,g2.told hn,Az];rfl
  ·rw[iN hc]at he;cases he
 rw[iN h5]at he;cases he
end
structure QN(l:List Tok)(v:jG):Prop where
 form:xV l v.form
 unit:xV l v.unit
theorem TP{l:List Tok}{s:Option jG}(hf:TJ l (s.map jG.form))(I:TJ l (s.map jG.unit)):xV l (pK l s):=by
 intro i t j he;have D:xV l (IU l s):=IX (by decide) (by decide) (IX (by decide) (by decide) (Cq hf I));unfold pK at he;obtain⟨x,k,e1,he⟩:=then_ok he;have hx:=D _ _ _ e1
 by_cases G:ah l k 4 [45,62]=true
 ·rw[iP G]at he;obtain⟨u,m,e2,he⟩:=then_ok he;obtain⟨rfl,rfl⟩:=bH he;exact aaN (s:=[45,62]) (by decide) (by decide) hx (dW G).2 (IW hf e2)
 ·rw[iN G]at he;obtain⟨rfl,rfl⟩:=bH he;exact hx
theorem KO{l:List Tok}{s:Option jG}(h:∀v,s=some v→QN l v):TJ l (s.map jG.form)∧TJ l (s.map jG.unit):=by
 refine⟨fun p hp=>?_,fun p hp=>?_⟩
 ·cases s with
  |none=>cases hp
  |some v=>simp at hp;subst hp;exact(h v rfl).form
 ·cases s with
  |none=>cases hp
  |some v=>simp at hp;subst hp;exact(h v rfl).unit
theorem yx(l:List Tok):∀r,QN l (lJ l r)
 |0=>by
  obtain⟨h1,h2⟩:=KO (l:=l) (s:=none) (fun v h=>by cases h);rw[lJ];exact⟨TP h1 h2,Cq h1 h2⟩
 |r+1=>by
  obtain⟨h1,h2⟩:=KO (l:=l) (s:=some (lJ l r)) (fun v h=>by cases h;exact yx l r);rw[lJ];exact⟨TP h1 h2,Cq h1 h2⟩
def vw(P:gK):Prop:=∀i j e,P i=.bad j e→e≠0
def TQ(s:Option gK):Prop:=∀p,s=some p→vw p
theorem IY{s:Option gK}(h:TQ s){i j:Nat}{e:Int}(he:rF s i=.bad j e):e≠0:=by
 unfold rF at he
 cases s with
 |none=>have:=jO he;omega
 |some p=>exact h p rfl _ _ _ he
theorem IZ{l:List Tok}{op:Int}{sign:Bs}{part:gK}(h:vw part):vw (Eo l op sign part):=by
 have key:∀fuel t i j e,mH l op sign part fuel t i=.bad j e→e≠0:=by
  intro fuel
  induction fuel with
  |zero=>intro t i j e he;rw[mH]at he;cases he
  |succ n D=>
   intro t i j e he;rw[mH]at he
   split at he
   ·rcases dh he with h1|⟨x,k,-,h1⟩
    ·exact h _ _ _ h1
    ·exact D _ _ _ _ h1
   ·cases he
 intro i j e he
 rcases dh he with h1|⟨x,k,-,h1⟩
 ·exact h _ _ _ h1
 ·exact key _ _ _ _ _ h1
theorem TR{l:List Tok}{s:Option gK}{op:Int}{i j:Nat}{e:Int}(h:TQ s)(he:wK l s op i=.bad j e):e≠0:=by
 unfold wK at he
 cases s with
 |none=>have:=jO he;omega
 |some p=>
  simp only at he
  split at he
  ·rcases dh he with h1|⟨x,k,-,h1⟩
   ·exact h p rfl _ _ _ h1
   ·split at h1
    ·rcases dh h1 with h1|⟨x,k,-,h1⟩
     ·exact h p rfl _ _ _ h1
     ·split at h1
      ·cases h1
      ·have:=jO h1;omega
    ·have:=jO h1;omega
  ·have:=jO he;omega
theorem Cr{l:List Tok}{s:Option jG}(hf:TQ (s.map jG.form))(D:TQ (s.map jG.unit)):vw (jg l s):=by
 intro i j e he;unfold jg at he
 split at he
 ·rcases dh he with h1|⟨x,k,-,h1⟩
  ·exact IY D h1
  ·cases h1
 split at he
 ·exact TR hf he
 split at he
 ·exact TR hf he
 split at he
 ·rcases dh he with h1|⟨x,k,-,h1⟩
  ·exact IY hf h1
  ·split at h1
   ·cases h1
   ·have:=jO h1;omega
 split at he
 ·unfold Bz at he
  split at he
  ·rename_i h;have:=jO he;omega
  ·split at he
   ·cases he
   ·have:=jO he;omega
 ·have:=jO he;omega
structure QO(v:jG):Prop where
 form:vw v.form
 unit:vw v.unit
theorem TS{l:List Tok}{s:Option jG}(hf:TQ (s.map jG.form))(G:TQ (s.map jG.unit)):vw (pK l s):=by
 intro i j e he;have D:vw (IU l s):=IZ (IZ (Cr hf G));unfold pK at he
 rcases dh he with h1|⟨x,k,-,h1⟩
 ·exact D _ _ _ h1
 ·split at h1
  ·rcases dh h1 with h1|⟨x,k,-,h1⟩
   ·exact IY hf h1
   ·cases h1
  ·cases h1
theorem KP{s:Option jG}(h:∀v,s=some v→QO v):TQ (s.map jG.form)∧TQ (s.map jG.unit):=by
 refine⟨fun p hp=>?_,fun p hp=>?_⟩
 ·cases s with
  |none=>cases hp
  |some v=>simp at hp;subst hp;exact(h v rfl).form
 ·cases s with
  |none=>cases hp
  |some v=>simp at hp;subst hp;exact(h v rfl).unit
theorem yA(l:List Tok):∀r,QO (lJ l r)
 |0=>by
  obtain⟨h1,h2⟩:=KP (s:=none) (fun v h=>by cases h);rw[lJ];exact⟨TS h1 h2,Cr h1 h2⟩
 |r+1=>by
  obtain⟨h1,h2⟩:=KP (s:=some (lJ l r)) (fun v h=>by cases h;exact yA l r);rw[lJ];exact⟨TS h1 h2,Cr h1 h2⟩
theorem GJ{l:List Tok}{i j:Nat}{f:Fm}(h:nN l i=(f,j,0)):f.check=0∧VP l i f j:=by
 have D:=(yx l 256).form i;have G:=(yA l 256).form i;unfold nN at h
 cases hr:(lJ l 256).form i with
 |bad k e=>
  rw[hr]at h;simp only[Prod.mk.injEq]at h;exact absurd h.2.2 (G k e hr)
 |ok x k=>
  rw[hr]at h
  by_cases hc:x.check=0
  ·simp only[hc,if_true,Prod.mk.injEq]at h;obtain⟨rfl,rfl,-⟩:=h;exact⟨hc,D x k hr⟩
  ·simp only[iN hc,Prod.mk.injEq]at h;exact absurd h.2.2 hc
structure Vr where
 name:ByteArray
 bool:Bool
 lo:Int
 hi:Int
structure Df where
 name:ByteArray
 tm:Tm
structure Sp where
 name:ByteArray
 fm:Fm
structure Md where
 vars:List Vr
 defs:List Df
 init:List Tm
 bF:List Tm
 next:List Df
 trans:List Tm
 fair:List Tm
 specs:List Sp
def bG:Md:=⟨[],[],[],[],[],[],[],[]⟩
def vP:Bs:=[98,111,111,108]
def kV:Bs:=[118,97,114]
def kW:Bs:=[100,101,102]
def iA:Bs:=[105,110,105,116]
def eZ:Bs:=[105,110,118,97,114]
def fP:Bs:=[116,114,97,110,115]
def jL:Bs:=[102,97,105,114]
def pI:Bs:=[115,112,101,99]
section
variable (l:List Tok)
def nameP(i:Nat):Rs ByteArray:=if jd l i 2 then .ok ⟨(pJ l i).toArray⟩ (i+1)else .bad i 16
def qJ(i:Nat)(k:Int)(s:Bs):Rs Unit:=if ah l i k s then .ok () (i+1)else .bad i 16
def sV(sign:Bs)(i:Nat):Rs ByteArray:=(nameP l i).then fun s j=>(qJ l j 4 sign).then fun _ k=>.ok s k
def GK(i:Nat):Rs Int:=if ah l i 4 [45]then(if jd l (i+1) 1 then .ok (- rC l (i+1)) (i+2)else .bad (i+1) 16)else if jd l i 1 then .ok (rC l i) (i+1)else .bad i 16
def OD(i:Nat):Rs Vr:=(sV l [58] i).then fun s j=>
 if ah l j 3 vP then .ok ⟨s,true,0,0⟩ (j+1)
 else(GK l j).then fun a k=>(qJ l k 4 [46,46]).then fun _ m=>(GK l m).then fun b n=>.ok ⟨s,false,a,b⟩ n
def OE(i:Nat):Rs Tm:=if (iU l i).2.2≠0 then .bad (iU l i).2.1 (iU l i).2.2 else .ok (iU l i).1 (iU l i).2.1
def fmP(i:Nat):Rs Fm:=if (nN l i).2.2≠0 then .bad (nN l i).2.1 (nN l i).2.2 else .ok (nN l i).1 (nN l i).2.1
def Mi(i:Nat):Rs Df:=(sV l [58,61] i).then fun s j=>(OE l j).then fun t k=>.ok ⟨s,t⟩ k
def GL(i:Nat):Rs Sp:=(sV l [58] i).then fun s j=>(fmP l j).then fun f k=>.ok ⟨s,f⟩ k
def nP{α:Type}(n:Nat)(p:Nat→Rs α)(i:Nat):Rs α:=if 64≤n then .bad i 18 else p (i+1)
def rH(m:Md)(i:Nat):Rs Md:=
 if ah l i 3 kV then(nP m.vars.length (OD l) i).then fun x j=>.ok {m with vars:=m.vars++[x]} j
 else if ah l i 3 kW then(nP m.defs.length (Mi l) i).then fun x j=>.ok {m with defs:=m.defs++[x]} j
 else if ah l i 3 iA then(nP m.init.length (OE l) i).then fun x j=>.ok {m with init:=m.init++[x]} j
 else if ah l i 3 eZ then(nP m.bF.length (OE l) i).then fun x j=>.ok {m with bF:=m.bF++[x]} j
 else if ah l i 3 fE then(nP m.next.length (Mi l) i).then fun x j=>.ok {m with next:=m.next++[x]} j
 else if ah l i 3 fP then(nP m.trans.length (OE l) i).then fun x j=>.ok {m with trans:=m.trans++[x]} j
 else if ah l i 3 jL then(nP m.fair.length (OE l) i).then fun x j=>.ok {m with fair:=m.fair++[x]} j
 else if ah l i 3 pI then(nP m.specs.length (GL l) i).then fun x j=>.ok {m with specs:=m.specs++[x]} j
 else .bad i 16
def m_(m:Md)(i:Nat):Rs Md:=(rH l m i).then fun m j=>(qJ l j 4 [59]).then fun _ k=>.ok m k
def AB:Nat→Md→Nat→Rs Md
 |0,m,i=>.ok m i
 |k+1,m,i=>if l.length≤i then .ok m i else(m_ l m i).then fun m j=>AB k m j
end
def parseM(s:Bs):Md×Int×Int:=
 if (all s).2.2≠0 then(bG,(all s).2.1,(all s).2.2)else
 match AB (all s).1 (all s).1.length bG 0 with
 |.bad i e=>(bG,Wv (all s).1 s.length i,e)
 |.ok m _=>(m,s.length,0)
abbrev BE:=Bs×Int
def mK(st x:BE):BE:=if st.2≠0 then st else if x.2≠0 then(st.1,x.2)else(st.1++x.1,0)
def wN{α:Type}(f:α→BE)(l:List α)(st:BE):BE:=l.foldl (fun s x=>mK s (f x)) st
def rJ{α:Type}(f:α→BE)(l:List α)(st:BE):BE:=wN f l (if st.2=0∧64<l.length then(st.1,18)else st)
def vB(n:Int):Bool:=decide (n < -255)||decide (255<n)
def AJ:Bs:=[32,59,10]
def mM(v:Vr):BE:=
 if isName v.name.data.toList=false then([],12)
 else if v.bool then(if v.lo≠0∨v.hi≠0 then([],3)else(kV++[32]++v.name.data.toList++[32,58,32]++vP++AJ,0))
 else if vB v.lo||vB v.hi then([],2)
 else(kV++[32]++v.name.data.toList++[32,58,32]++aO v.lo++[32,46,46,32]++aO v.hi++AJ,0)
def pQ(w:Bs)(d:Df):BE:=
 if isName d.name.data.toList=false then([],12)
 else if (aH d.tm).2≠0 then([],(aH d.tm).2)
 else(w++[32]++d.name.data.toList++[32,58,61,32]++(aH d.tm).1++AJ,0)
def xM(w:Bs)(t:Tm):BE:=if (aH t).2≠0 then([],(aH t).2)else(w++[32]++(aH t).1++AJ,0)
def Kl(d:Sp):BE:=
 if isName d.name.data.toList=false then([],12)
 else if (dX d.fm).2≠0 then([],(dX d.fm).2)
 else(pI++[32]++d.name.data.toList++[32,58,32]++(dX d.fm).1++AJ,0)
def I4(m:Md):BE:=rJ Kl m.specs (rJ (xM jL) m.fair (rJ (xM fP) m.trans (rJ (pQ fE) m.next (rJ (xM eZ) m.bF (rJ (xM iA) m.init (rJ (pQ kW) m.defs (rJ mM m.vars ([],0))))))))
def kg(m:Md):BE:=if (I4 m).2≠0 then([],(I4 m).2)else if 65536<(I4 m).1.length then([],4)else((I4 m).1,0)
open Go.RowKit
set_option maxRecDepth 100000
set_option maxHeartbeats 8000000
def WrB(B b:Nat)(p v:Value)(l:Bs)(x:Int)(w:World):Prop:=
 B≤b∧w.heap[b]?=some (.cells #[p,v,.int .i64 x] 83 (0,0))∧w.ownsRow B 5 1 v (Lib.byteCells l).length (Lib.byteCells l)∧v.ownBlock≠some b∧(l=[]→v=.slice none 0 0)
def Wr(B b:Nat)(l:Bs)(x:Int)(w:World):Prop:=∃p v,(p=.pointer none∨p=.pointer (some ⟨b,0,none⟩))∧WrB B b p v l x w
def WG(B b:Nat)(l:Bs)(x:Int)(w w':World):Prop:=Wr B b l x w'∧KB B b w w'
section
variable {B b:Nat} {p v:Value} {l m:Bs} {x y:Int} {w w' w'':World}
theorem TW{n s:Nat}{T:TypeId}{xs:List Value}(h:w.ownsRow B T s v n xs)(hq:∀q,v.ownBlock=some q→w'.heap[q]?=w.heap[q]?):w'.ownsRow B T s v n xs:=by
 refine⟨h.1,?_⟩
 rcases h.2 with hn|⟨g,cap,cur,rfl,hb,D,rest⟩
 ·exact .inl hn
 ·exact .inr ⟨g,cap,cur,rfl,hb,(hq g rfl).trans D,rest⟩
theorem WrB.lt(h:WrB B b p v l x w):b<w.heap.size:=lH h.2.1
theorem WrB.keep(h:WrB B b p v l x w)(D:∀q,B≤q→q<w.heap.size→w'.heap[q]?=w.heap[q]?):WrB B b p v l x w':=
 ⟨h.1,(D b h.1 h.lt).trans h.2.1,TW h.2.2.1 (fun q hq=>D q (h.2.2.1.lt q hq).1 (h.2.2.1.lt q hq).2),h.2.2.2⟩
theorem Wr.lt(h:Wr B b l x w):b<w.heap.size:=by obtain⟨p,v,-,h⟩:=h;exact h.lt
theorem Wr.le(h:Wr B b l x w):B≤b:=by obtain⟨p,v,-,h⟩:=h;exact h.1
theorem Wr.below(h:Wr B b l x w)(hb:Below w.heap.size w w'):Wr B b l x w':=by
 obtain⟨p,v,hp,h⟩:=h;exact⟨p,v,hp,h.keep fun q _ hq=>hb.block q hq⟩
theorem Wr.drewN(h:Wr B b l x w)(n:Nat):Wr B b l x (w.drewN n):=h
theorem Wr.ai1(h:Wr B b l x w):w.cell? ⟨b,2,none⟩=some (.int .i64 x):=by obtain⟨p,v,-,h⟩:=h;exact pG h.2.1 2 rfl
theorem Wr.frozen(h:Wr B b l x w)(o:Nat):w.frozen? ⟨b,o,none⟩=false:=by obtain⟨p,v,-,h⟩:=h;exact frz h.2.1 o
theorem Wr.err(h:Wr B b l x w)(y:Int):Wr B b l y (w.setCell ⟨b,2,none⟩ (.int .i64 y)):=by
 obtain⟨p,v,hp,h⟩:=h;refine⟨p,v,hp,h.1,by simp[World.setCell,Array.getElem?_modify,h.2.1],TW h.2.2.1 (fun q hq=>iw _ ⟨b,2,none⟩ q _ (fun(e:q=b)=>h.2.2.2.1 (e ▸ hq))),h.2.2.2⟩
theorem ahm(hb:B≤b)(o:Nat)(u:Value):KB B b w (w.setCell ⟨b,o,none⟩ u):=⟨(Br _ _).setCell (p:=⟨b,o,none⟩) hb _,fun q _ hq _=>iw _ ⟨b,o,none⟩ q _ hq⟩
theorem KB.drewN(h:KB B b w w')(n:Nat):KB B b w (w'.drewN n):=⟨⟨h.below.os,h.below.tape,h.below.output,h.below.size,h.below.block⟩,h.keep⟩
theorem WG.refl(h:Wr B b l x w):WG B b l x w w:=⟨h,KB.refl⟩
theorem WG.drewN(h:WG B b l x w w')(n:Nat):WG B b l x w (w'.drewN n):=⟨h.1.drewN n,h.2.drewN n⟩
theorem WG.trans(h:WG B b l x w w')(k:WG B b m y w' w''):WG B b m y w w'':=⟨k.1,h.2.trans k.2⟩
theorem WG.below(h:WG B b l x w w')(hb:Below w'.heap.size w' w'')(D:B≤w.heap.size):WG B b l x w w'':=⟨h.1.below hb,h.2.trans (KB.of_below hb (Nat.le_trans D h.2.below.size))⟩
theorem WG.err(h:WG B b l x w w')(y:Int):WG B b l y w (w'.setCell ⟨b,2,none⟩ (.int .i64 y)):=⟨h.1.err y,h.2.trans (ahm h.1.le 2 _)⟩
theorem Wr.fresh(w:World)(D:B≤w.heap.size):Wr B w.heap.size [] 0 (w.alloc (.cells #[.pointer none,.slice none 0 0,.int .i64 0] 83)):=
 ⟨_,_,.inl rfl,D,eu w _,World.ownsRow_nil _ _ _ _,by simp[Value.ownBlock],fun _=>rfl⟩
end
theorem ahn:liesAt Tryz.prog Tryz.prog.depth 83 (3/Tryz.prog.cellsOf 83) 0 81 1=true:=by kernel_rfl
theorem T_(b:Nat)(w:World)(h0:w.cell? ⟨b,0,none⟩=some (.pointer none))(D:w.shape? b=some (83,3))(J:w.frozen? ⟨b,0,none⟩=false) :
 Calls Tryz.prog 104 #[.pointer (some ⟨b,0,none⟩)] w fun e w'=>e=.returned (.tuple #[])∧w'=w.setCell ⟨b,0,none⟩ (.pointer (some ⟨b,0,none⟩)):=by
 obtain⟨j,I,G⟩:=Option.map_eq_some_iff.1 QF;go_in
 go_wp2
 rw[Lib.run_to_unsafe w ⟨b,0,none⟩ Tryz.underlying78 Tryz.underlying204 I (by rw[G];decide) D (Nat.zero_lt_succ 2)];simp only[Result.andThen];rw[Oper.upon_value]
 go_wp2
 rw[run_callFunc_extern Tryz.func132 (by kernel_rfl) (by kernel_rfl) (by kernel_rfl) (e:=Extern.AbiNoEscape.same) (by kernel_rfl)];rw[Lib.run_noEscape];simp only[Result.andThen];rw[Oper.upon_value]
 go_wp2
 rw[Lib.run_from_unsafe w ⟨b,0,none⟩ Tryz.underlying204 Tryz.underlying78 I D ahn];simp only[Result.andThen];rw[Oper.upon_value]
 go_wp2
 go_end0
 exact⟨rfl,rfl⟩
theorem abA(B b:Nat)(l:Bs)(x:Int)(w:World)(h:Wr B b l x w) :
 Calls Tryz.prog 104 #[.pointer (some ⟨b,0,none⟩)] w fun e w'=>e=.returned (.tuple #[])∧∃v,WrB B b (.pointer (some ⟨b,0,none⟩)) v l x w'∧Only (fun q=>q=b) w w':=by
 obtain⟨p,v,hp,h⟩:=h;have hs:w.shape? b=some (83,3):=by simp[World.shape?,h.2.1]
 rcases hp with rfl|rfl
 ·refine(T_ b w (pG h.2.1 0 rfl) hs (frz h.2.1 0)).mono ?_;rintro e w' ⟨rfl,rfl⟩;exact⟨rfl,v,⟨h.1,by simp[World.setCell,Array.getElem?_modify,h.2.1],TW h.2.2.1 (fun q hq=>iw _ ⟨b,0,none⟩ q _ (fun(e:q=b)=>h.2.2.2.1 (e ▸ hq))),h.2.2.2⟩,setAt _⟩
 ·refine(Pe b w (pG h.2.1 0 rfl)).mono ?_;rintro e w' ⟨rfl,rfl⟩;exact⟨rfl,v,h,Only.refl⟩
theorem QT(B b:Nat)(l:Bs)(x:Int)(s:ByteArray)(w:World)(h:Wr B b l x w)(hlen:l.length+s.size≤140737488355328)(af:s.data.toList≠[])(ai:B≤w.heap.size) :
 Calls Tryz.prog 61 #[.pointer (some ⟨b,0,none⟩),.string s] w fun e w'=>e=.returned (.tuple #[.int .i64 s.size,.nilIface])∧WG B b (l++s.data.toList) x w w':=by
 obtain⟨i0,hi,aw,ax,ay⟩:=info_parts QG;go_in;go_wp2_with fail;refine(abA B b _ _ w h).mono ?_;rintro e w1 ⟨rfl,v,h1,ae⟩;obtain⟨hB,J,Y,hne,-⟩:=h1;have c0:w1.cell? ⟨b,0,none⟩=some (.pointer (some ⟨b,0,none⟩)):=pG J 0 rfl;have c1:w1.cell? ⟨b,1,none⟩=some v:=pG J 1 rfl;have av:=ae.size;have O:(Lib.byteCells l).length+s.size≤140737488355328:=by rw[Lib.byteCells_length];exact hlen
 have aa:=Hd O;have JO:=Hd af;clear O af
 go_wp2_with (at_builtin;refine Lib.wpList_append_own_string _ rfl _ _ 79 9 rfl B 5 i0 Tryz.underlying79 Tryz.underlying9 hi aw ax ay _ _ _ rfl Y s rfl ?c3 ?c4 ?c5 ?_)
 case c3=>have:=aa.out;unfold maxLen;omega
 case c4=>exact aa
 case c5=>omega
 intro v' w2 D G _;have ar:b<w1.heap.size:=lH J
 have I:w2.heap[b]?=some (.cells #[.pointer (some ⟨b,0,none⟩),v,.int .i64 x] 83 (0,0)):=by
  rw[G.block b ar (fun e=>hne e.symm)];exact J
 have uw:=Hd (Gt (v':=v') ae hB ai Y G);have d0:w2.cell? ⟨b,0,none⟩=some (.pointer (some ⟨b,0,none⟩)):=pG I 0 rfl;have d1:w2.cell? ⟨b,1,none⟩=some v:=pG I 1 rfl;have f1:w2.frozen? ⟨b,1,none⟩=false:=frz I 1;have vM:=Hd (Lib.ownBlock_ne D I (by decide))
 obtain⟨ao,n',cap,rfl⟩:∃ao n' cap,v'=.slice ao n' cap:=by
  rcases D.2 with⟨hv,_⟩|⟨g,cap,cur,hv,_⟩
  ·exact⟨_,_,_,hv⟩
  ·exact⟨_,_,_,hv⟩
 have ag:=Hd I;have ab:=Hd D;clear I D Y G J ae
 go_wp2
 go_ret2
 refine⟨rfl,⟨_,.slice ao n' cap,.inr rfl,hB,by simp[World.setCell,Array.getElem?_modify,ag.out],?_,vM,fun e=>absurd (List.append_eq_nil_iff.1 e).2 JO⟩,uw⟩;have e1:Lib.byteCells (l++s.data.toList)=Lib.byteCells l++Lib.strCells s:=by simp[Lib.byteCells,Lib.strCells]
 rw[e1];exact TW (by simpa[Lib.strCells_length]using ab.out) (fun q hq=>iw _ ⟨b,1,none⟩ q _ (fun(e:q=b)=>vM (e ▸ hq)))
theorem adk(B b:Nat)(l:Bs)(x:Int)(w:World)(h:Wr B b l x w) :
 Calls Tryz.prog 31 #[.pointer (some ⟨b,0,none⟩)] w fun e w'=>e=.returned (.int .i64 l.length)∧w'=w:=by
 obtain⟨p,v,-,J,G,D,-⟩:=h;rw[Lib.byteCells_length]at D
 obtain⟨I,cap,rfl⟩:∃I cap,v=.slice I l.length cap:=by
  rcases D.2 with⟨hv,h0⟩|⟨g,cap,cur,hv,_⟩
  ·exact⟨none,0,by rw[hv,h0]⟩
  ·exact⟨_,_,hv⟩
 have c1:w.cell? ⟨b,1,none⟩=some (.slice I l.length cap):=pG G 1 rfl;clear G D;go_in
 go_wp2
 go_ret;exact⟨rfl,rfl⟩
theorem adl(B b:Nat)(l:Bs)(x:Int)(w:World)(h:Wr B b l x w) :
 Calls Tryz.prog 32 #[.pointer (some ⟨b,0,none⟩)] w fun e w'=>e=.returned (.string ⟨l.toArray⟩)∧Below B w w':=by
 obtain⟨p,v,-,hB,I,D,-,G⟩:=h;rw[Lib.byteCells_length]at D
 by_cases h0:l=[]
 ·obtain rfl:=G h0;subst h0;have ab:∀W,(Builtin.unsafeString_ #[126,3] 9 #[.pointer none,.int .i64 0]).run Tryz.prog W=.ok (.string .empty) W:=fun W=>Lib.run_unsafeString_none W _ _ _ none;have c1:w.drew.cell? ⟨b,1,none⟩=some (.slice none 0 0):=pG (w:=w.drew) I 1 rfl;have aa:(Builtin.unsafeSliceData_ #[79] 126 #[.slice none 0 0]).run Tryz.prog w.drew=.ok (.pointer none) w.drew:=rfl;clear I D G;go_in
  go_wp2
  go_region
  all_goals (go_wp2;go_ret;exact⟨rfl,Below.drew (Br B w)⟩)
 have ai:l.length≠0:=by simpa using h0
 obtain⟨g,cap,cur,rfl,O,hg,ao,ae,af,J⟩:∃g cap cur,v=.slice (some ⟨g,0,none⟩) l.length cap∧B≤g∧w.heap[g]?=some (.cells cur 5 (0,0))∧l.length≤cap∧cap≤maxLen∧cur.size=cap*1∧cur.toList.take (l.length*1)=Lib.byteCells l:=by
  rcases D.2 with⟨_,hz⟩|⟨g,cap,cur,hv,r⟩
  ·exact absurd hz ai
  ·exact⟨g,cap,cur,hv,r⟩
 have c1:w.drew.cell? ⟨b,1,none⟩=some (.slice (some ⟨g,0,none⟩) l.length cap):=pG (w:=w.drew) I 1 rfl
 have aa:(Builtin.unsafeSliceData_ #[79] 126 #[.slice (some ⟨g,0,none⟩) l.length cap]).run Tryz.prog w.drew=.ok (.pointer (some ⟨g,0,none⟩)) w.drew:=
  Lib.run_unsafeSliceData_row _ _ _ _ _ _ (by omega)
 have ab:(Builtin.unsafeString_ #[126,3] 9 #[.pointer (some ⟨g,0,none⟩),.int .i64 l.length]).run Tryz.prog w.drew=.ok (.string ⟨l.toArray⟩) (w.drew.freeze ⟨g,0,none⟩ l.length):=by
  refine Lib.run_unsafeString_row w.drew _ _ _ 5 Tryz.underlying126 (by kernel_rfl) g cur.size (by have ag:w.drew.heap[g]?=some (.cells cur 5 (0,0)):=hg;simp[World.shape?,ag]) l h0 (by omega) (by unfold maxLen at ae;omega) ?_;intro j x hx;exact D.cells (g:=g) rfl j (.int .u8 x.toNat) (by simp[Lib.byteCells,hx])
 have Y:=Hd O;clear I D G hg J af O;go_in
 go_wp2
 go_region
 all_goals (go_wp2;go_ret;exact⟨rfl,Lib.below_freeze (Below.drew (Br B w)) (p:=⟨g,0,none⟩) Y _⟩)
end Go.Proofs.YtkhoeoilamddaaaGreatDoor
