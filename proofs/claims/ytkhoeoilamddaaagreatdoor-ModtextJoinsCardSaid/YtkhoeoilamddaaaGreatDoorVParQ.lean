/- Walks and plain words: ParQ AllP ParS FParQ. -/
import Derived.Test.YtkhoeoilamddaaaGreatDoorVBld
namespace Go.Proofs.YtkhoeoilamddaaaGreatDoor
set_option linter.unusedVariables false
def wgt (l:List Tok) (k:Nat):Nat:=((l.take k).map fun t=>t.text.length+1).sum
theorem wgt_succ {l:List Tok} {k:Nat} {t:Tok} (h:l[k]?=some t):wgt l (k+1)=wgt l k+(t.text.length+1):=by
 unfold wgt;obtain ⟨h1,h2⟩:=gE.1 h;rw [List.take_succ_eq_append_getElem h1,h2];simp
mutual
def lenB:Tm→Nat
 | .mk op n s l=>if op=1 then 4 else if op=2 then 5 else if op=3 then s.size else if op=4 then s.size+6 else if op=5 then 3+lenBL l else if op=18 then 20+lenBL l else 2+lenBL l+(l.length - 1)*((signB op).length+2)
def lenBL:List Tm→Nat
 | []=>0
 | t :: r=>lenB t+lenBL r
end
theorem lenBL_app:∀ (a b:List Tm),lenBL (a++b)=lenBL a+lenBL b
 | [],b=>by simp [lenBL]
 | t :: r,b=>by rw [List.cons_append,lenBL,lenBL,lenBL_app r b];omega
theorem sizeL_app:∀ (a b:List Tm),Tm.sizeL (a++b)=Tm.sizeL a+Tm.sizeL b
 | [],b=>by simp [Tm.sizeL]
 | t :: r,b=>by rw [List.cons_append,Tm.sizeL,Tm.sizeL,sizeL_app r b];omega
theorem toldL_app:∀ (a b:List Tm),toldL (a++b)=(toldL a && toldL b)
 | [],b=>by simp [toldL]
 | t :: r,b=>by rw [List.cons_append,toldL,toldL,toldL_app r b,Bool.and_assoc]
def NamesOk (l:List Tok):Prop:=∀ t∈l,t.kind=2→isName t.text=true
structure Gd (l:List Tok) (i:Nat) (t:Tm) (j:Nat):Prop where
 ij:i<j
 jl:j≤l.length
 sz:t.size≤j - i
 len:lenB t+4*wgt l i≤4*wgt l j
 told:NamesOk l→toldT t=true
def GdP (l:List Tok) (P:Par):Prop:=∀ i t j,P i=.ok t j→Gd l i t j
section
variable {l:List Tok} {i j:Nat}
theorem tk_some {k:Int} {s:Bs} (h:isTk l i k s=true):i<l.length∧wgt l (i+1)=wgt l i+(s.length+1):=by
 unfold isTk at h
 cases ht:l[i]? with
 | none=>rw [ht] at h;cases h
 | some t=>
  rw [ht] at h;simp at h;exact ⟨(gE.1 ht).1,by rw [wgt_succ ht,h.2]⟩
theorem kd_some {k:Int} (h:isKd l i k=true):∃ t,l[i]?=some t∧t.kind=k∧i<l.length∧wgt l (i+1)=wgt l i+(t.text.length+1):=by
 unfold isKd at h
 cases ht:l[i]? with
 | none=>rw [ht] at h;cases h
 | some t=>
  rw [ht] at h;exact ⟨t,rfl,by simpa using h,(gE.1 ht).1,wgt_succ ht⟩
theorem which_some:∀ {ops:List Int},whichOp l i ops≠0→whichOp l i ops∈ops∧i<l.length∧wgt l (i+1)=wgt l i+((signB (whichOp l i ops)).length+1)
 | [],h=>absurd rfl h
 | op :: r,h=>by
  rw [whichOp] at h ⊢
  by_cases hc:(if op=17 then isTk l i 3 [109,111,100] else isTk l i 4 (signB op))=true
  · rw [iP hc]
    by_cases h17:op=17
    · rw [iP h17] at hc;obtain ⟨h1,h2⟩:=tk_some hc;exact ⟨by simp,h1,by rw [h2,h17];rfl⟩
    · rw [iN h17] at hc;obtain ⟨h1,h2⟩:=tk_some hc;exact ⟨by simp,h1,h2⟩
  · rw [iN hc] at h ⊢;obtain ⟨h1,h2,h3⟩:=which_some h;exact ⟨by simp [h1],h2,h3⟩
theorem then_ok {α β:Type} {r:Rs α} {f:α→Nat→Rs β} {y:β} {j:Nat} (h:r.then f=.ok y j):∃ x k,r=.ok x k∧f x k=.ok y j:=by
 cases r with
 | bad a b=>cases h
 | ok x k=>exact ⟨x,k,rfl,h⟩
theorem ok_inj {α:Type} {x y:α} {i j:Nat} (h:(Rs.ok x i)=.ok y j):x=y∧i=j:=by cases h;exact ⟨rfl,rfl⟩
theorem signB_pos (op:Int):1≤(signB op).length:=by
 unfold signB
 iterate 11 (split;· simp)
 simp
theorem told_of {op:Int} {ks:List Tm} (h3:op≠3) (h4:op≠4) (h:(op=6∨op=7)→ks.length≠1) (hk:toldL ks=true):toldT (tmOf op ks)=true:=by
 unfold tmOf;rw [toldT,iN (fun e=>h e.1 e.2),iN (fun e=>e.elim h3 h4)];exact hk
theorem gd_two {op:Int} {t u:Tm} {k m:Nat} (ho:7<op∧op<18) (h1:Gd l i t k) (hw:wgt l (k+1)=wgt l k+((signB op).length+1)) (h2:Gd l (k+1) u m):Gd l i (tmOf op [t,u]) m:=by
 have a1:=h1.ij;have a2:=h1.sz;have a3:=h1.len;have b1:=h2.ij;have b2:=h2.sz;have b3:=h2.len;have hs:=signB_pos op;refine ⟨by omega,h2.jl,?_,?_,fun hn=>told_of (by omega) (by omega) (fun e=>by omega) (by simp [toldL,h1.told hn,h2.told hn])⟩
 · unfold tmOf;simp [Tm.size,Tm.sizeL];omega
 · unfold tmOf;rw [lenB,iN (by omega),iN (by omega),iN (by omega),iN (by omega),iN (by omega),iN (by omega)];simp [lenBL];omega
end
theorem left_gd {l:List Tok} {one:Par} {ops:List Int} (hops:∀ op∈ops,7<op∧op<18) (h:GdP l one):GdP l (left l one ops):=by
 have key:∀ fuel i t j u m,Gd l i t j→leftL l one ops fuel t j=.ok u m→Gd l i u m:=by
  intro fuel
  induction fuel with
  | zero=>intro i t j u m hg he;rw [leftL] at he;obtain ⟨rfl,rfl⟩:=ok_inj he;exact hg
  | succ n ih=>
   intro i t j u m hg he;rw [leftL] at he
   by_cases hz:whichOp l j ops=0
   · rw [iP hz] at he;obtain ⟨rfl,rfl⟩:=ok_inj he;exact hg
   · rw [iN hz] at he;obtain ⟨x,k,h1,h2⟩:=then_ok he;obtain ⟨w1,w2,w3⟩:=which_some hz;exact ih i _ k u m (gd_two (hops _ w1) hg w3 (h _ _ _ h1)) h2
 intro i t j he;obtain ⟨x,k,h1,h2⟩:=then_ok he;exact key _ i x k t j (h _ _ _ h1) h2
structure GdL (l:List Tok) (op:Int) (i:Nat) (acc:List Tm) (j:Nat):Prop where
 ij:i<j
 jl:j≤l.length
 pos:0<acc.length
 sz:Tm.sizeL acc+(acc.length - 1)≤j - i
 len:lenBL acc+6*(acc.length - 1)+4*wgt l i≤4*wgt l j
 told:NamesOk l→toldL acc=true
theorem many_gd {l:List Tok} {one:Par} {op:Int} (ho:op=6∨op=7) (h:GdP l one):GdP l (many l op one):=by
 have hsb:(signB op).length=1:=by rcases ho with rfl | rfl <;> rfl
 have hend:∀ i acc j,GdL l op i acc j→Gd l i (manyEnd op acc) j:=by
  intro i acc j hg;have a1:=hg.ij;have a2:=hg.pos;have a3:=hg.sz;have a4:=hg.len
  match acc,hg with
  | [t],hg=>exact ⟨hg.ij,hg.jl,by have:=hg.sz;simp [Tm.sizeL] at this;exact this,by have:=hg.len;simp [lenBL] at this;exact this,fun hn=>by have:=hg.told hn;simp [toldL] at this;exact this⟩
  | a :: b :: r,hg=>
   refine ⟨hg.ij,hg.jl,?_,?_,fun hn=>told_of (by omega) (by omega) (fun _=>by simp) (hg.told hn)⟩
   · have:=hg.sz;show (tmOf op (a :: b :: r)).size≤_;unfold tmOf;rw [Tm.size];simp at this ⊢;omega
   · have:=hg.len;show lenB (tmOf op (a :: b :: r))+_≤_;unfold tmOf;rw [lenB,iN (by omega),iN (by omega),iN (by omega),iN (by omega),iN (by omega),iN (by omega),hsb];simp at this ⊢;omega
 have key:∀ fuel i acc j u m,GdL l op i acc j→manyF l op one fuel acc j=.ok u m→Gd l i u m:=by
  intro fuel
  induction fuel with
  | zero=>intro i acc j u m hg he;rw [manyF] at he;obtain ⟨rfl,rfl⟩:=ok_inj he;exact hend _ _ _ hg
  | succ n ih=>
   intro i acc j u m hg he;rw [manyF] at he
   by_cases hz:whichOp l j [op]=0
   · rw [iP hz] at he;obtain ⟨rfl,rfl⟩:=ok_inj he;exact hend _ _ _ hg
   · rw [iN hz] at he;obtain ⟨x,k,h1,h2⟩:=then_ok he;obtain ⟨w1,w2,w3⟩:=which_some hz;have w4:whichOp l j [op]=op:=by simpa using w1
     rw [w4,hsb] at w3;have hx:=h _ _ _ h1;have b1:=hx.ij;have b2:=hx.sz;have b3:=hx.len;have a1:=hg.ij;have a2:=hg.pos;have a3:=hg.sz;have a4:=hg.len;refine ih i _ k u m ⟨by omega,hx.jl,by simp,?_,?_,fun hn=>by rw [toldL_app,hg.told hn];simp [toldL,hx.told hn]⟩ h2
     · rw [sizeL_app,List.length_append];simp [Tm.sizeL];omega
     · rw [lenBL_app,List.length_append];simp [lenBL];omega
 intro i t j he;obtain ⟨x,k,h1,h2⟩:=then_ok he;have hx:=h _ _ _ h1;have b1:=hx.ij;have b2:=hx.sz;have b3:=hx.len;exact key _ i [x] k t j ⟨hx.ij,hx.jl,by simp,by simp [Tm.sizeL];exact b2,by simp [lenBL];exact b3,fun hn=>by simp [toldL,hx.told hn]⟩ h2
def GdS (l:List Tok) (s:Option Par):Prop:=∀ p,s=some p→GdP l p
theorem inner_gd {l:List Tok} {s:Option Par} (h:GdS l s) {i:Nat} {t:Tm} {j:Nat} (he:inner s i=.ok t j):Gd l (i+1) t j:=by
 unfold inner at he
 cases s with
 | none=>cases he
 | some p=>exact h p rfl _ _ _ he
theorem unit_gd {l:List Tok} {s:Option Par} (h:GdS l s):GdP l (unitF l s):=by
 intro i t j he;unfold unitF at he
 by_cases h1:isTk l i 4 [45]=true
 · rw [iP h1] at he;obtain ⟨a1,a2⟩:=tk_some h1
   by_cases hk:isKd l (i+1) 1=true
   · rw [iP hk] at he;obtain ⟨rfl,rfl⟩:=ok_inj he;obtain ⟨z,-,-,b1,b2⟩:=kd_some hk;simp at a2;refine ⟨by omega,by omega,by simp [tmNum,Tm.size,Tm.sizeL],?_,fun _=>by simp [tmNum,toldT,toldL]⟩;have hl:lenB (tmNum (-numAt l (i+1)))≤4:=by unfold tmNum;rw [lenB,iP rfl];omega
     show _+4*wgt l i≤4*wgt l (i+1+1);omega
   · rw [iN hk] at he;cases he
 rw [iN h1] at he
 by_cases h2:isTk l i 3 wTrue=true
 · rw [iP h2] at he;obtain ⟨a1,a2⟩:=tk_some h2;obtain ⟨rfl,rfl⟩:=ok_inj he;have hw:wTrue.length=4:=rfl;exact ⟨by omega,by omega,by simp [tmBool,Tm.size,Tm.sizeL],by simp [tmBool,lenB];omega,fun _=>by simp [tmBool,toldT,toldL]⟩
 rw [iN h2] at he
 by_cases h3:isTk l i 3 wFalse=true
 · rw [iP h3] at he;obtain ⟨a1,a2⟩:=tk_some h3;obtain ⟨rfl,rfl⟩:=ok_inj he;have hw:wFalse.length=5:=rfl;exact ⟨by omega,by omega,by simp [tmBool,Tm.size,Tm.sizeL],by simp [tmBool,lenB];omega,fun _=>by simp [tmBool,toldT,toldL]⟩
 rw [iN h3] at he
 by_cases h4:isTk l i 3 wNext=true
 · rw [iP h4] at he
   by_cases ho:isTk l (i+1) 4 [40]=true
   · rw [iP ho] at he
     by_cases hk:isKd l (i+2) 2=true
     · rw [iP hk] at he
       by_cases hc:isTk l (i+3) 4 [41]=true
       · rw [iP hc] at he;obtain ⟨rfl,rfl⟩:=ok_inj he;obtain ⟨a1,a2⟩:=tk_some h4;obtain ⟨b1,b2⟩:=tk_some ho;obtain ⟨z,hz,hzk,c1,c2⟩:=kd_some hk;obtain ⟨d1,d2⟩:=tk_some hc;have hw:wNext.length=4:=rfl;simp at b2 d2;have e1:i+1+1=i+2:=rfl;have e2:i+2+1=i+3:=rfl;have e3:i+3+1=i+4:=rfl;rw [e1] at b2;rw [e2] at c2;rw [e3] at d2;have ht:textAt l (i+2)=z.text:=by unfold textAt;rw [hz]
         rw [ht];refine ⟨by omega,by omega,by simp [tmName,Tm.size,Tm.sizeL];try omega,?_,fun hn=>?_⟩
         · have hl:lenB (tmName 4 z.text)=z.text.length+6:=by unfold tmName;rw [lenB,iN (by decide),iN (by decide),iN (by decide),iP rfl];show z.text.toArray.size+6=_;simp
           omega
         · unfold tmName;rw [toldT,iN (by omega),iP (.inr rfl)];exact hn z (mG hz) hzk
       · rw [iN hc] at he;cases he
     · rw [iN hk] at he;cases he
   · rw [iN ho] at he;cases he
 rw [iN h4] at he
 by_cases h5:isTk l i 4 [40]=true
 · rw [iP h5] at he;obtain ⟨x,k,e1,e2⟩:=then_ok he
   by_cases hc:isTk l k 4 [41]=true
   · rw [iP hc] at e2;obtain ⟨rfl,rfl⟩:=ok_inj e2;have hx:=inner_gd h e1;obtain ⟨a1,a2⟩:=tk_some h5;obtain ⟨d1,d2⟩:=tk_some hc;have b1:=hx.ij;have b2:=hx.sz;have b3:=hx.len;exact ⟨by omega,by omega,by omega,by omega,hx.told⟩
   · rw [iN hc] at e2;cases e2
 rw [iN h5] at he
 by_cases h6:isTk l i 3 wIf=true
 · rw [iP h6] at he;unfold choiceB at he;obtain ⟨a,k1,e1,he⟩:=then_ok he
   by_cases hc1:isTk l k1 3 wThen=true
   · rw [iP hc1] at he;obtain ⟨b,k2,e2,he⟩:=then_ok he
     by_cases hc2:isTk l k2 3 wElse=true
     · rw [iP hc2] at he;obtain ⟨c,k3,e3,he⟩:=then_ok he;obtain ⟨rfl,rfl⟩:=ok_inj he;have ha:=inner_gd h e1;have hb:=inner_gd h e2;have hc:=inner_gd h e3;obtain ⟨w1,w2⟩:=tk_some h6;obtain ⟨w3,w4⟩:=tk_some hc1;obtain ⟨w5,w6⟩:=tk_some hc2;have q1:wIf.length=2:=rfl;have q2:wThen.length=4:=rfl;have q3:wElse.length=4:=rfl;have a1:=ha.ij;have a2:=ha.sz;have a3:=ha.len;have b1:=hb.ij;have b2:=hb.sz;have b3:=hb.len;have c1:=hc.ij;have c2:=hc.sz;have c3:=hc.len;refine ⟨by omega,hc.jl,by unfold tmOf;simp [Tm.size,Tm.sizeL];omega,by unfold tmOf;simp [lenB,lenBL];omega,fun hn=>told_of (by decide) (by decide) (fun _=>by simp) (by simp [toldL,ha.told hn,hb.told hn,hc.told hn])⟩
     · rw [iN hc2] at he;cases he
   · rw [iN hc1] at he;cases he
 rw [iN h6] at he
 by_cases h7:isKd l i 2=true
 · rw [iP h7] at he;obtain ⟨z,hz,hzk,c1,c2⟩:=kd_some h7;obtain ⟨rfl,rfl⟩:=ok_inj he;have ht:textAt l i=z.text:=by unfold textAt;rw [hz]
   rw [ht];refine ⟨by omega,by omega,by simp [tmName,Tm.size,Tm.sizeL],?_,fun hn=>?_⟩
   · have hl:lenB (tmName 3 z.text)=z.text.length:=by unfold tmName;rw [lenB,iN (by decide),iN (by decide),iP rfl];show z.text.toArray.size=_;simp
     omega
   · unfold tmName;rw [toldT,iN (by omega),iP (.inl rfl)];exact hn z (mG hz) hzk
 rw [iN h7] at he
 by_cases h8:isKd l i 1=true
 · rw [iP h8] at he;obtain ⟨z,hz,hzk,c1,c2⟩:=kd_some h8;obtain ⟨rfl,rfl⟩:=ok_inj he;refine ⟨by omega,by omega,by simp [tmNum,Tm.size,Tm.sizeL],?_,fun _=>by simp [tmNum,toldT,toldL]⟩;have hl:lenB (tmNum (numAt l i))≤4:=by unfold tmNum;rw [lenB,iP rfl];omega
   omega
 rw [iN h8] at he;cases he
theorem imp_gd {l:List Tok} {s:Option Par} {or:Par} (h:GdS l s) (ho:GdP l or):GdP l (impB l s or):=by
 intro i t j he;unfold impB at he;obtain ⟨x,k,e1,he⟩:=then_ok he;have hx:=ho _ _ _ e1
 by_cases hz:whichOp l k [8]=0
 · rw [iP hz] at he;obtain ⟨rfl,rfl⟩:=ok_inj he;exact hx
 · rw [iN hz] at he;obtain ⟨u,m,e2,he⟩:=then_ok he;obtain ⟨rfl,rfl⟩:=ok_inj he;obtain ⟨w1,w2,w3⟩:=which_some hz;have w4:whichOp l k [8]=8:=by simpa using w1
   rw [w4] at w3;exact gd_two (by omega) hx w3 (inner_gd h e2)
theorem term_gd {l:List Tok} {imp:Par} (h:GdP l imp):GdP l (termB l imp):=by
 intro i t j he;unfold termB at he;obtain ⟨x,k,e1,he⟩:=then_ok he;have hx:=h _ _ _ e1
 by_cases hz:whichOp l k [9]=0
 · rw [iP hz] at he;obtain ⟨rfl,rfl⟩:=ok_inj he;exact hx
 · rw [iN hz] at he;obtain ⟨u,m,e2,he⟩:=then_ok he;obtain ⟨rfl,rfl⟩:=ok_inj he;obtain ⟨w1,w2,w3⟩:=which_some hz;have w4:whichOp l k [9]=9:=by simpa using w1
   rw [w4] at w3;exact gd_two (by omega) hx w3 (h _ _ _ e2)
theorem not_gd {l:List Tok} {s:Option Par} {sum:Par} (h:GdS l s) (ho:GdP l sum):GdP l (notB l s sum):=by
 intro i t j he;unfold notB at he
 by_cases h1:isTk l i 4 [33]=true
 · rw [iP h1] at he;obtain ⟨x,k,e1,he⟩:=then_ok he;obtain ⟨rfl,rfl⟩:=ok_inj he;have hx:=inner_gd h e1;obtain ⟨a1,a2⟩:=tk_some h1;have b1:=hx.ij;have b2:=hx.sz;have b3:=hx.len;simp at a2;refine ⟨by omega,hx.jl,by unfold tmOf;simp [Tm.size,Tm.sizeL];omega,by unfold tmOf;simp [lenB,lenBL];omega,fun hn=>told_of (by decide) (by decide) (fun e=>by omega) (by simp [toldL,hx.told hn])⟩
 rw [iN h1] at he;obtain ⟨x,k,e1,he⟩:=then_ok he;have hx:=ho _ _ _ e1
 by_cases hz:whichOp l k [10,11,12,13]=0
 · rw [iP hz] at he;obtain ⟨rfl,rfl⟩:=ok_inj he;exact hx
 · rw [iN hz] at he;obtain ⟨u,m,e2,he⟩:=then_ok he;obtain ⟨rfl,rfl⟩:=ok_inj he;obtain ⟨w1,w2,w3⟩:=which_some hz;exact gd_two (by simp at w1;omega) hx w3 (ho _ _ _ e2)
structure GdLvl (l:List Tok) (v:Lvl):Prop where
 term:GdP l v.term
 imp:GdP l v.imp
 not:GdP l v.not
theorem lvlB_gd {l:List Tok} {s:Option Lvl} (h:∀ v,s=some v→GdLvl l v):GdLvl l (lvlB l s):=by
 have ht:GdS l (s.map Lvl.term):=fun p hp=>by
  cases s with
  | none=>cases hp
  | some v=>simp at hp;subst hp;exact (h v rfl).term
 have hi:GdS l (s.map Lvl.imp):=fun p hp=>by
  cases s with
  | none=>cases hp
  | some v=>simp at hp;subst hp;exact (h v rfl).imp
 have hn:GdS l (s.map Lvl.not):=fun p hp=>by
  cases s with
  | none=>cases hp
  | some v=>simp at hp;subst hp;exact (h v rfl).not
 have hsum:GdP l (sumB l (s.map Lvl.term)):=left_gd (fun op ho=>by simp at ho;omega) (left_gd (fun op ho=>by simp at ho;omega) (unit_gd ht));have hnot:GdP l (notOf l s):=not_gd hn hsum;have himp:GdP l (impOf l s):=imp_gd hi (many_gd (.inr rfl) (many_gd (.inl rfl) hnot));exact ⟨term_gd himp,himp,hnot⟩
theorem lvl_gd (l:List Tok):∀ r,GdLvl l (lvl l r)
 | 0=>by rw [lvl];exact lvlB_gd (fun v h=>by cases h)
 | r+1=>by rw [lvl];exact lvlB_gd (fun v h=>by cases h;exact lvl_gd l r)
structure TokOk (t:Tok):Prop where
 pos:0<t.text.length
 n0:0≤t.n
 n1:t.n≤255
 name:t.kind=2→isName t.text=true
theorem numSpec_le (l:Bs):(numSpec l).1≤255:=by
 unfold numSpec
 split
 · exact zl _
 · split
   · exact zl _
   · split
     · exact zl _
     · show valOf _≤255;omega
theorem rowLen_take_full (p:UInt8→Bool):∀ r:Bs,rowLen p (r.take (rowLen p r))=rowLen p r∧(r.take (rowLen p r)).length=rowLen p r
 | []=>⟨rfl,rfl⟩
 | c :: r=>by
  cases h:p c with
  | true=>
   have ih:=rowLen_take_full p r;rw [rowLen_cons_true h,List.take_succ_cons,rowLen_cons_true h,ih.1,List.length_cons,ih.2];exact ⟨rfl,rfl⟩
  | false=>
   rw [rowLen_cons_false h];exact ⟨rfl,rfl⟩
theorem scan_tok {l:Bs} {k:Int} {n len:Nat} (h:scan l=(k,n,len,0)):n≤255∧(k=2→isName (l.take len)=true):=by
 cases l with
 | nil=>
  rw [scan_end] at h;simp only [Prod.mk.injEq] at h;obtain ⟨h1,h2,-,-⟩:=h;exact ⟨by omega,fun h3=>by omega⟩
 | cons c r=>
  cases hl:isLetter c
  · cases hd:isDigit c
    · rw [scan_sign hl hd] at h
      cases hs:signIdx (c :: r) signL 0 with
      | none=>rw [hs] at h;simp at h
      | some i=>
       rw [hs] at h;simp only [Prod.mk.injEq] at h;obtain ⟨h1,h2,_,_⟩:=h;exact ⟨by omega,fun h3=>by omega⟩
    · rw [scan_digit hl hd] at h
      split at h
      · simp only [Prod.mk.injEq] at h;obtain ⟨h1,h2,_,_⟩:=h;have:=numSpec_le (c :: r);exact ⟨by omega,fun h3=>by omega⟩
      · rename_i he
        simp only [Prod.mk.injEq] at h;obtain ⟨-,-,-,h4⟩:=h;omega
  · rw [scan_letter hl] at h;have hpos:0<rowLen isInside (c :: r):=by rw [rowLen_cons_true (inside_letter hl)];omega
    have hf:=rowLen_take_full isInside (c :: r)
    split at h
    · simp at h
    · rename_i h24
      split at h
      · simp only [Prod.mk.injEq] at h;obtain ⟨h1,h2,_,_⟩:=h;exact ⟨by omega,fun h3=>by omega⟩
      · rename_i hw
        simp only [Prod.mk.injEq] at h;obtain ⟨h1,h2,h3,_⟩:=h;refine ⟨by omega,fun _=>?_⟩;rw [←h3];unfold isName;have e0:(c :: r).take (rowLen isInside (c :: r))≠[]:=fun e=>by rw [e] at hf;have:=hf.2;simp at this;omega
        have e1:((c :: r).take (rowLen isInside (c :: r))).headD 0=c:=by
         cases hr:rowLen isInside (c :: r) with
         | zero=>omega
         | succ m=>rw [List.take_succ_cons];rfl
        rw [e1,hl,hf.1,hf.2];simp at hw;simp [e0,hw];omega
theorem next_tok {l:Bs} {p:Nat} (hp:p≤l.length) (h:(next l p).2.2=0) (hk:(next l p).1.kind≠5):TokOk (next l p).1∧p+(next l p).1.text.length≤(next l p).2.1∧(next l p).2.1≤l.length:=by
 have hb:=blank_len (l.drop p);rw [List.length_drop] at hb
 have hs:scan (blank (l.drop p))=((scan (blank (l.drop p))).1,(scan (blank (l.drop p))).2.1,(scan (blank (l.drop p))).2.2.1,0):=by
  unfold next at h;simp only at h
  split at h
  · rename_i he
    rw [←he]
  · rename_i he
    simp at h;exact absurd h he
 unfold next at hk ⊢;simp only at hk ⊢;rw [iP (by rw [hs])] at hk ⊢;simp only at hk ⊢;have ht:=scan_tok hs
 rcases scan_ok hs with ⟨h1,h2,h3,h4⟩ | ⟨h1,h2,h3⟩
 · exact absurd h1 hk
 · refine ⟨⟨by simp only [List.length_take];omega,by simp,by simp only;omega,ht.2⟩,?_,?_⟩
   · rw [List.length_take];omega
   · omega
def txts (l:List Tok):Nat:=(l.map fun t=>t.text.length).sum
theorem allF_ok:∀ (n:Nat) (l:Bs) (p:Nat) (acc:List Tok),p≤l.length→(∀ t∈acc,TokOk t)→txts acc≤p→(∀ t∈(allF n l p acc).1,TokOk t)∧txts (allF n l p acc).1≤l.length
 | 0,l,p,acc,hp,ha,hs=>by
  rw [allF];exact ⟨fun t ht=>by simp at ht,zl _⟩
 | n+1,l,p,acc,hp,ha,hs=>by
  rw [allF]
  by_cases h:(next l p).2.2=0
  · rw [iP h]
    by_cases hk:(next l p).1.kind=5
    · rw [iP hk];exact ⟨ha,by show txts acc≤_;omega⟩
    · rw [iN hk];obtain ⟨h1,h2,h3⟩:=next_tok hp h hk;refine allF_ok n l _ _ h3 (fun t ht=>?_) ?_
      · rcases List.mem_append.1 ht with ht | ht
        · exact ha t ht
        · rw [List.mem_singleton.1 ht];exact h1
      · unfold txts at hs ⊢;simp;omega
  · rw [iN h];exact ⟨fun t ht=>by simp at ht,zl _⟩
theorem all_ok (s:Bs):(∀ t∈(all s).1,TokOk t)∧txts (all s).1≤s.length∧txts (all s).1≤65536:=by
 unfold all
 by_cases h:65536<s.length
 · rw [iP h];exact ⟨fun t ht=>by simp at ht,zl _,zl _⟩
 · rw [iN h];have hx:=allF_ok (s.length+1) s 0 [] (zl _) (fun t ht=>by simp at ht) (zl _);exact ⟨hx.1,hx.2,by omega⟩
theorem txts_mem:∀ {l:List Tok} {t:Tok},t∈l→t.text.length≤txts l
 | x :: r,t,h=>by
  unfold txts;rw [List.map_cons,List.sum_cons]
  rcases List.mem_cons.1 h with rfl | h
  · omega
  · have:=txts_mem h;unfold txts at this;omega
theorem txts_len:∀ {l:List Tok},(∀ t∈l,TokOk t)→l.length≤txts l
 | [],_=>zl _
 | x :: r,h=>by
  have h1:=(h x (by simp)).pos;have h2:=txts_len (l:=r) (fun t ht=>h t (by simp [ht]));unfold txts at h2 ⊢;rw [List.map_cons,List.sum_cons,List.length_cons];omega
theorem decB_len3:∀ n,n<256→(decB n).length≤3:=by decide +kernel
theorem numS_len4 (n:Int) (h1:-255≤n) (h2:n≤255):(numS n).length≤4:=by
 have h:=decB_len3 n.natAbs (by omega);unfold numS
 split
 · simp;omega
 · omega
theorem asks_le (op:Int) {k j:Nat} (hk:(k:Int)≤(kidsOf op).2) (hj:j<k):asksN op j≤8:=by
 unfold asksN
 by_cases h9:op=9
 · rw [iP h9];omega
 rw [iN h9]
 by_cases h8:op=8
 · rw [iP h8];omega
 rw [iN h8]
 by_cases h7:op=7
 · rw [iP h7];omega
 rw [iN h7]
 by_cases h6:op=6∨op=5
 · rw [iP h6];omega
 rw [iN h6]
 by_cases h10:op=10∨op=11∨op=12∨op=13
 · rw [iP h10];omega
 rw [iN h10]
 by_cases h14:op=14∨op=15
 · have h2:(kidsOf op).2=2:=by rcases h14 with rfl | rfl <;> rfl
   rw [iP h14];omega
 rw [iN h14]
 by_cases h16:op=16∨op=17
 · have h2:(kidsOf op).2=2:=by rcases h16 with rfl | rfl <;> rfl
   rw [iP h16];omega
 rw [iN h16];omega
theorem ruleOf_lone {op:Int} (h:op=1∨op=2∨op=3∨op=4):ruleOf op=8:=by rcases h with rfl | rfl | rfl | rfl <;> rfl
mutual
theorem shw_lenB:∀ (t:Tm) (rule:Nat) (ends:Bool) (d:Nat),t.okT d→rule≤8→(shw numS t rule ends).length≤lenB t
 | .mk op n s l,rule,ends,d,h,hr=>by
  rw [Tm.okT] at h;obtain ⟨w0,w1,-,w3,w4,-⟩:=wrong_ok h.2.1;have hsl:s.data.toList.length=s.size:=by simp
  have hw:=wrapP_len (decide (ruleOf op<rule) || (decide (op=18) && !ends)) (bodyE numS op n s.data.toList (shwNot numS l (decide (ruleOf op<rule) || (decide (op=18) && !ends) || ends)) (shwIf numS l 0) (shwJoin numS op l 0 (decide (ruleOf op<rule) || (decide (op=18) && !ends) || ends)));have h5:=shwNot_lenB l (decide (ruleOf op<rule) || (decide (op=18) && !ends) || ends) _ h.2.2;have h18:=shwIf_lenB l 0 _ h.2.2;have hj:=shwJoin_lenB op l 0 (decide (ruleOf op<rule) || (decide (op=18) && !ends) || ends) _ h.2.2 (fun j hj=>asks_le op w4 (by omega));rw [shw];show (wrapP _ _).length≤_
  by_cases c:op=1∨op=2∨op=3∨op=4
  · have hp:(decide (ruleOf op<rule) || (decide (op=18) && !ends))=false:=by
     rw [ruleOf_lone c];have a:¬8<rule:=by omega
     have b:op≠18:=by omega
     simp [a,b]
    rw [hp];show (bodyE _ _ _ _ _ _ _).length≤_;unfold bodyE;rw [iP c,lenB];unfold loneT
    by_cases c1:op=1
    · rw [iP c1,iP c1];exact numS_len4 n (w1 c1).1 (w1 c1).2
    rw [iN c1,iN c1]
    by_cases c2:op=2
    · rw [iP c2,iP c2];split <;> simp
    rw [iN c2,iN c2]
    by_cases c3:op=3
    · rw [iP c3,iP c3];omega
    rw [iN c3,iN c3,iP (by omega)];simp
  · have e:lenB (.mk op n s l)=if op=5 then 3+lenBL l else if op=18 then 20+lenBL l else 2+lenBL l+(l.length - 1)*((signB op).length+2):=by
     rw [lenB,iN (by omega),iN (by omega),iN (by omega),iN (by omega)]
    rw [e];refine Nat.le_trans hw ?_;unfold bodyE;rw [iN c]
    by_cases c5:op=5
    · rw [iP c5,iP c5];simp;omega
    rw [iN c5,iN c5]
    by_cases c18:op=18
    · rw [iP c18,iP c18];have hl:l.length≤3:=by subst c18;have:(kidsOf 18).2=3:=rfl;omega
      omega
    rw [iN c18,iN c18];rw [iP rfl] at hj;omega
theorem shwNot_lenB:∀ (l:List Tm) (ends:Bool) (d:Nat),Tm.okL l d→(shwNot numS l ends).length≤lenBL l
 | [],_,_,_=>by simp [shwNot]
 | k :: r,ends,d,h=>by
  rw [Tm.okL] at h;have:=shw_lenB k 4 ends d h.1 (by omega);rw [shwNot,lenBL];omega
theorem shwIf_lenB:∀ (l:List Tm) (i d:Nat),Tm.okL l d→(shwIf numS l i).length≤lenBL l+6*l.length
 | [],_,_,_=>by simp [shwIf]
 | k :: r,i,d,h=>by
  rw [Tm.okL] at h;have h1:=shw_lenB k 0 true d h.1 (by omega);have h2:=shwIf_lenB r (i+1) d h.2;have h3:=ifW_len i;rw [shwIf,lenBL,List.length_append,List.length_append,List.length_cons];omega
theorem shwJoin_lenB (op:Int):∀ (l:List Tm) (i:Nat) (ends:Bool) (d:Nat),Tm.okL l d→(∀ j,j<i+l.length→asksN op j≤8)→(shwJoin numS op l i ends).length≤lenBL l+(if i=0 then l.length - 1 else l.length)*((signB op).length+2)
 | [],i,_,_,_,_=>by simp [shwJoin]
 | k :: r,i,ends,d,h,ha=>by
  rw [Tm.okL] at h;have h1:=shw_lenB k (asksN op i) (ends && r.isEmpty) d h.1 (ha i (by simp));have h2:=shwJoin_lenB op r (i+1) ends d h.2 (fun j hj=>ha j (by simp;omega));rw [iN (by omega)] at h2;rw [shwJoin,lenBL,List.length_append,List.length_append,List.length_cons]
  by_cases hi:i=0
  · rw [iP hi,iP hi];simp;omega
  · rw [iN hi,iN hi];have h4:(betw op).length=(signB op).length+2:=by simp [betw]
    rw [h4,Nat.add_mul,Nat.one_mul];omega
end
theorem wgt_le:∀ (l:List Tok) (k:Nat),wgt l k≤txts l+l.length
 | [],k=>by unfold wgt;simp
 | t :: r,0=>by unfold wgt;simp
 | t :: r,k+1=>by
  have:=wgt_le r k;unfold wgt txts at this ⊢;rw [List.take_succ_cons,List.map_cons,List.sum_cons,List.map_cons,List.sum_cons,List.length_cons];omega
def NzP (P:Par):Prop:=∀ i j e,P i=.bad j e→e≠0
theorem then_bad2 {α β:Type} {r:Rs α} {f:α→Nat→Rs β} {j:Nat} {e:Int} (h:r.then f=.bad j e):r=.bad j e∨∃ x k,r=.ok x k∧f x k=.bad j e:=by
 cases r with
 | bad a b=>exact .inl (by simpa using h)
 | ok x k=>exact .inr ⟨x,k,rfl,h⟩
theorem bad_inj {α:Type} {i j:Nat} {e f:Int} (h:(Rs.bad i e:Rs α)=.bad j f):e=f:=by cases h;rfl
def NzS (s:Option Par):Prop:=∀ p,s=some p→NzP p
theorem inner_nz {s:Option Par} (h:NzS s):NzP (inner s):=by
 intro i j e he;unfold inner at he
 cases s with
 | none=>have:=bad_inj he;omega
 | some p=>exact h p rfl _ _ _ he
theorem left_nz {l:List Tok} {one:Par} {ops:List Int} (h:NzP one):NzP (left l one ops):=by
 have key:∀ fuel t i j e,leftL l one ops fuel t i=.bad j e→e≠0:=by
  intro fuel
  induction fuel with
  | zero=>intro t i j e he;rw [leftL] at he;cases he
  | succ n ih=>
   intro t i j e he;rw [leftL] at he
   by_cases hz:whichOp l i ops=0
   · rw [iP hz] at he;cases he
   · rw [iN hz] at he
     rcases then_bad2 he with h1 | ⟨x,k,-,h1⟩
     · exact h _ _ _ h1
     · exact ih _ _ _ _ h1
 intro i j e he
 rcases then_bad2 he with h1 | ⟨x,k,-,h1⟩
 · exact h _ _ _ h1
 · exact key _ _ _ _ _ h1
theorem many_nz {l:List Tok} {one:Par} {op:Int} (h:NzP one):NzP (many l op one):=by
 have key:∀ fuel acc i j e,manyF l op one fuel acc i=.bad j e→e≠0:=by
  intro fuel
  induction fuel with
  | zero=>intro acc i j e he;rw [manyF] at he;cases he
  | succ n ih=>
   intro acc i j e he;rw [manyF] at he
   by_cases hz:whichOp l i [op]=0
   · rw [iP hz] at he;cases he
   · rw [iN hz] at he
     rcases then_bad2 he with h1 | ⟨x,k,-,h1⟩
     · exact h _ _ _ h1
     · exact ih _ _ _ _ h1
 intro i j e he
 rcases then_bad2 he with h1 | ⟨x,k,-,h1⟩
 · exact h _ _ _ h1
 · exact key _ _ _ _ _ h1
theorem unit_nz {l:List Tok} {s:Option Par} (h:NzS s):NzP (unitF l s):=by
 have hi:=inner_nz h;intro i j e he;unfold unitF at he
 by_cases h1:isTk l i 4 [45]=true
 · rw [iP h1] at he
   split at he
   · cases he
   · have:=bad_inj he;omega
 rw [iN h1] at he
 by_cases h2:isTk l i 3 wTrue=true
 · rw [iP h2] at he;cases he
 rw [iN h2] at he
 by_cases h3:isTk l i 3 wFalse=true
 · rw [iP h3] at he;cases he
 rw [iN h3] at he
 by_cases h4:isTk l i 3 wNext=true
 · rw [iP h4] at he
   split at he
   · split at he
     · split at he
       · cases he
       · have:=bad_inj he;omega
     · have:=bad_inj he;omega
   · have:=bad_inj he;omega
 rw [iN h4] at he
 by_cases h5:isTk l i 4 [40]=true
 · rw [iP h5] at he
   rcases then_bad2 he with h1 | ⟨x,k,-,h1⟩
   · exact hi _ _ _ h1
   · split at h1
     · cases h1
     · have:=bad_inj h1;omega
 rw [iN h5] at he
 by_cases h6:isTk l i 3 wIf=true
 · rw [iP h6] at he;unfold choiceB at he
   rcases then_bad2 he with h1 | ⟨x,k,-,h1⟩
   · exact hi _ _ _ h1
   · split at h1
     · rcases then_bad2 h1 with h1 | ⟨x,k,-,h1⟩
       · exact hi _ _ _ h1
       · split at h1
         · rcases then_bad2 h1 with h1 | ⟨x,k,-,h1⟩
           · exact hi _ _ _ h1
           · cases h1
         · have:=bad_inj h1;omega
     · have:=bad_inj h1;omega
 rw [iN h6] at he
 by_cases h7:isKd l i 2=true
 · rw [iP h7] at he;cases he
 rw [iN h7] at he
 by_cases h8:isKd l i 1=true
 · rw [iP h8] at he;cases he
 rw [iN h8] at he;have:=bad_inj he;omega
theorem lvlB_nz {l:List Tok} {s:Option Lvl} (h:∀ v,s=some v→NzP v.term∧NzP v.imp∧NzP v.not):NzP (lvlB l s).term∧NzP (lvlB l s).imp∧NzP (lvlB l s).not:=by
 have ht:NzS (s.map Lvl.term):=fun p hp=>by
  cases s with
  | none=>cases hp
  | some v=>simp at hp;subst hp;exact (h v rfl).1
 have hi:NzS (s.map Lvl.imp):=fun p hp=>by
  cases s with
  | none=>cases hp
  | some v=>simp at hp;subst hp;exact (h v rfl).2.1
 have hn:NzS (s.map Lvl.not):=fun p hp=>by
  cases s with
  | none=>cases hp
  | some v=>simp at hp;subst hp;exact (h v rfl).2.2
 have hsum:NzP (sumB l (s.map Lvl.term)):=left_nz (left_nz (unit_nz ht))
 have hnot:NzP (notOf l s):=by
  intro i j e he;unfold notOf notB at he
  split at he
  · rcases then_bad2 he with h1 | ⟨x,k,-,h1⟩
    · exact inner_nz hn _ _ _ h1
    · cases h1
  · rcases then_bad2 he with h1 | ⟨x,k,-,h1⟩
    · exact hsum _ _ _ h1
    · split at h1
      · cases h1
      · rcases then_bad2 h1 with h1 | ⟨x,k,-,h1⟩
        · exact hsum _ _ _ h1
        · cases h1
 have himp:NzP (impOf l s):=by
  intro i j e he;unfold impOf impB at he
  rcases then_bad2 he with h1 | ⟨x,k,-,h1⟩
  · exact many_nz (many_nz hnot) _ _ _ h1
  · split at h1
    · cases h1
    · rcases then_bad2 h1 with h1 | ⟨x,k,-,h1⟩
      · exact inner_nz hi _ _ _ h1
      · cases h1
 refine ⟨?_,himp,hnot⟩;intro i j e he;have he':termB l (impOf l s) i=.bad j e:=he;unfold termB at he'
 rcases then_bad2 he' with h1 | ⟨x,k,-,h1⟩
 · exact himp _ _ _ h1
 · split at h1
   · cases h1
   · rcases then_bad2 h1 with h1 | ⟨x,k,-,h1⟩
     · exact himp _ _ _ h1
     · cases h1
theorem lvl_nz (l:List Tok):∀ r,NzP (lvl l r).term∧NzP (lvl l r).imp∧NzP (lvl l r).not
 | 0=>by rw [lvl];exact lvlB_nz (fun v h=>by cases h)
 | r+1=>by rw [lvl];exact lvlB_nz (fun v h=>by cases h;exact lvl_nz l r)
set_option linter.unusedSectionVars false
mutual
def flenB:Fm→Nat
 | .mk o e l=>if o=1 then 4+lenB e else 8+flenBL l
def flenBL:List Fm→Nat
 | []=>0
 | t :: r=>flenB t+flenBL r
end
mutual
def ftold:Fm→Bool
 | .mk o e l=>(if o=1 then toldT e else true) && ftoldL l
def ftoldL:List Fm→Bool
 | []=>true
 | t :: r=>ftold t && ftoldL r
end
structure FGd (l:List Tok) (i:Nat) (f:Fm) (j:Nat):Prop where
 ij:i<j
 jl:j≤l.length
 sz:f.wsize≤2*(j - i)
 len:flenB f+4*wgt l i≤4*wgt l j
 told:NamesOk l→ftold f=true
def FGdP (l:List Tok) (P:FPar):Prop:=∀ i f j,P i=.ok f j→FGd l i f j
theorem takeT_ok {l:List Tok} {i j:Nat} {t:Tm} (h:takeT l i=(t,j,0)):t.check=0∧Gd l i t j:=by
 have hg:=(lvl_gd l 256).term i;unfold takeT at h
 cases hr:(lvl l 256).term i with
 | bad k e=>
  rw [hr] at h;simp only [Prod.mk.injEq] at h;exact absurd h.2.2 (lvl_bad' hr)
 | ok x k=>
  rw [hr] at h
  by_cases hc:x.check=0
  · simp only [hc,if_true,Prod.mk.injEq] at h;obtain ⟨rfl,rfl,-⟩:=h;exact ⟨hc,hg x k hr⟩
  · simp only [iN hc,Prod.mk.injEq] at h;exact absurd h.2.2 hc
where lvl_bad' {l:List Tok} {i j:Nat} {e:Int} (h:(lvl l 256).term i=.bad j e):e≠0:=(lvl_nz l 256).1 i j e h
section
variable {l:List Tok} {i j:Nat}
theorem fm_two {op:Int} (ho:op≠1) (a b:Fm):(fmOf op [a,b]).wsize=2+a.wsize+b.wsize∧flenB (fmOf op [a,b])=8+flenB a+flenB b∧ftold (fmOf op [a,b])=(ftold a && ftold b):=by
 unfold fmOf;refine ⟨?_,?_,?_⟩
 · rw [Fm.wsize,Fm.wsizeL,Fm.wsizeL,Fm.wsizeL];simp [zeroTm,Tm.size,Tm.sizeL];omega
 · rw [flenB,iN ho,flenBL,flenBL,flenBL];omega
 · rw [ftold,iN ho,ftoldL,ftoldL,ftoldL];simp
theorem fm_one {op:Int} (ho:op≠1) (a:Fm):(fmOf op [a]).wsize=2+a.wsize∧flenB (fmOf op [a])=8+flenB a∧ftold (fmOf op [a])=ftold a:=by
 unfold fmOf;refine ⟨?_,?_,?_⟩
 · rw [Fm.wsize,Fm.wsizeL,Fm.wsizeL];simp [zeroTm,Tm.size,Tm.sizeL]
 · rw [flenB,iN ho,flenBL,flenBL];omega
 · rw [ftold,iN ho,ftoldL,ftoldL];simp
theorem fgd_two {op:Int} {t u:Fm} {k m:Nat} {s:Bs} (ho:op≠1) (hs:1≤s.length) (h1:FGd l i t k) (hw:wgt l (k+1)=wgt l k+(s.length+1)) (h2:FGd l (k+1) u m):FGd l i (fmOf op [t,u]) m:=by
 have a1:=h1.ij;have a2:=h1.sz;have a3:=h1.len;have b1:=h2.ij;have b2:=h2.sz;have b3:=h2.len;obtain ⟨e1,e2,e3⟩:=fm_two ho t u;exact ⟨by omega,h2.jl,by omega,by omega,fun hn=>by rw [e3,h1.told hn,h2.told hn];rfl⟩
def FGdS (l:List Tok) (s:Option FPar):Prop:=∀ p,s=some p→FGdP l p
theorem finner_gd {s:Option FPar} (h:FGdS l s) {t:Fm} (he:fInner s i=.ok t j):FGd l (i+1) t j:=by
 unfold fInner at he
 cases s with
 | none=>cases he
 | some p=>exact h p rfl _ _ _ he
theorem row_gd {op:Int} {sign:Bs} {part:FPar} (ho:op≠1) (hs:1≤sign.length) (h:FGdP l part):FGdP l (rowB l op sign part):=by
 have key:∀ fuel i t j u m,FGd l i t j→rowL l op sign part fuel t j=.ok u m→FGd l i u m:=by
  intro fuel
  induction fuel with
  | zero=>intro i t j u m hg he;rw [rowL] at he;obtain ⟨rfl,rfl⟩:=ok_inj he;exact hg
  | succ n ih=>
   intro i t j u m hg he;rw [rowL] at he
   by_cases hz:isTk l j 4 sign=true
   · rw [iP hz] at he;obtain ⟨x,k,h1,h2⟩:=then_ok he;exact ih i _ k u m (fgd_two ho hs hg (tk_some hz).2 (h _ _ _ h1)) h2
   · rw [iN hz] at he;obtain ⟨rfl,rfl⟩:=ok_inj he;exact hg
 intro i t j he;obtain ⟨x,k,h1,h2⟩:=then_ok he;exact key _ i x k t j (h _ _ _ h1) h2
theorem one_some (h:oneOp l i≠0):oneOp l i≠1∧i<l.length∧wgt l i+2≤wgt l (i+1):=by
 unfold oneOp at h ⊢
 by_cases h1:isTk l i 4 [33]=true
 · rw [iP h1];obtain ⟨a,b⟩:=tk_some h1;exact ⟨by decide,a,by rw [b];simp⟩
 rw [iN h1] at h ⊢
 by_cases h2:isTk l i 3 [69,88]=true
 · rw [iP h2];obtain ⟨a,b⟩:=tk_some h2;exact ⟨by decide,a,by rw [b];simp⟩
 rw [iN h2] at h ⊢
 by_cases h3:isTk l i 3 [69,70]=true
 · rw [iP h3];obtain ⟨a,b⟩:=tk_some h3;exact ⟨by decide,a,by rw [b];simp⟩
 rw [iN h3] at h ⊢
 by_cases h4:isTk l i 3 [69,71]=true
 · rw [iP h4];obtain ⟨a,b⟩:=tk_some h4;exact ⟨by decide,a,by rw [b];simp⟩
 rw [iN h4] at h ⊢
 by_cases h5:isTk l i 3 [65,88]=true
 · rw [iP h5];obtain ⟨a,b⟩:=tk_some h5;exact ⟨by decide,a,by rw [b];simp⟩
 rw [iN h5] at h ⊢
 by_cases h6:isTk l i 3 [65,70]=true
 · rw [iP h6];obtain ⟨a,b⟩:=tk_some h6;exact ⟨by decide,a,by rw [b];simp⟩
 rw [iN h6] at h ⊢
 by_cases h7:isTk l i 3 [65,71]=true
 · rw [iP h7];obtain ⟨a,b⟩:=tk_some h7;exact ⟨by decide,a,by rw [b];simp⟩
 rw [iN h7] at h;exact absurd rfl h
theorem until_gd {s:Option FPar} {op:Int} (ho:op≠1) (h:FGdS l s) {kw:Bs} (hk:isTk l i 3 kw=true) {t:Fm} (he:untilB l s op i=.ok t j):FGd l i t j:=by
 unfold untilB at he
 cases s with
 | none=>cases he
 | some p=>
  simp only at he
  by_cases h1:isTk l (i+1) 4 [91]=true
  · rw [iP h1] at he;obtain ⟨a,k1,e1,he⟩:=then_ok he
    by_cases h2:isTk l k1 3 [85]=true
    · rw [iP h2] at he;obtain ⟨b,k2,e2,he⟩:=then_ok he
      by_cases h3:isTk l k2 4 [93]=true
      · rw [iP h3] at he;obtain ⟨rfl,rfl⟩:=ok_inj he;have ha:=h p rfl _ _ _ e1;have hb:=h p rfl _ _ _ e2;obtain ⟨w1,w2⟩:=tk_some hk;obtain ⟨w3,w4⟩:=tk_some h1;obtain ⟨w5,w6⟩:=tk_some h2;obtain ⟨w7,w8⟩:=tk_some h3;have a1:=ha.ij;have a2:=ha.sz;have a3:=ha.len;have b1:=hb.ij;have b2:=hb.sz;have b3:=hb.len;obtain ⟨f1,f2,f3⟩:=fm_two ho a b;rw [show i+1+1=i+2 from rfl] at w4;exact ⟨by omega,by omega,by omega,by simp at w4 w6 w8;omega,fun hn=>by rw [f3,ha.told hn,hb.told hn];rfl⟩
      · rw [iN h3] at he;cases he
    · rw [iN h2] at he;cases he
  · rw [iN h1] at he;cases he
theorem funit_gd {s:Option FLvl} (hf:FGdS l (s.map FLvl.form)) (hu:FGdS l (s.map FLvl.unit)):FGdP l (fUnitB l s):=by
 intro i t j he;unfold fUnitB at he
 by_cases h1:oneOp l i≠0
 · rw [iP h1] at he;obtain ⟨x,k,e1,he⟩:=then_ok he;obtain ⟨rfl,rfl⟩:=ok_inj he;have hx:=finner_gd hu e1;obtain ⟨o1,o2,o3⟩:=one_some h1;obtain ⟨f1,f2,f3⟩:=fm_one o1 x;have a1:=hx.ij;have a2:=hx.sz;have a3:=hx.len;exact ⟨by omega,hx.jl,by omega,by omega,fun hn=>by rw [f3];exact hx.told hn⟩
 rw [iN h1] at he
 by_cases h2:isTk l i 3 [69]=true
 · rw [iP h2] at he;exact until_gd (by decide) hf h2 he
 rw [iN h2] at he
 by_cases h3:isTk l i 3 [65]=true
 · rw [iP h3] at he;exact until_gd (by decide) hf h3 he
 rw [iN h3] at he
 by_cases h4:isTk l i 4 [40]=true
 · rw [iP h4] at he;obtain ⟨x,k,e1,he⟩:=then_ok he
   by_cases hc:isTk l k 4 [41]=true
   · rw [iP hc] at he;obtain ⟨rfl,rfl⟩:=ok_inj he;have hx:=finner_gd hf e1;obtain ⟨w1,w2⟩:=tk_some h4;obtain ⟨w3,w4⟩:=tk_some hc;have a1:=hx.ij;have a2:=hx.sz;have a3:=hx.len;exact ⟨by omega,by omega,by omega,by omega,hx.told⟩
   · rw [iN hc] at he;cases he
 rw [iN h4] at he
 by_cases h5:isTk l i 4 [91]=true
 · rw [iP h5] at he;unfold fTerm at he;obtain ⟨z,hz⟩:=ex_ (takeT l (i+1));rw [←hz] at he
   by_cases hz2:z.2.2≠0
   · rw [iP hz2] at he;cases he
   rw [iN hz2] at he
   by_cases hc:isTk l z.2.1 4 [93]=true
   · rw [iP hc] at he;obtain ⟨rfl,rfl⟩:=ok_inj he;have hzz:takeT l (i+1)=(z.1,z.2.1,0):=by rw [←hz];rw [show (0:Int)=z.2.2 by omega]
     obtain ⟨g1,g2⟩:=takeT_ok hzz;obtain ⟨w1,w2⟩:=tk_some h5;obtain ⟨w3,w4⟩:=tk_some hc;have a1:=g2.ij;have a2:=g2.sz;have a3:=g2.len;simp at w2 w4;refine ⟨by omega,by omega,?_,?_,fun hn=>?_⟩
     · rw [Fm.wsize,Fm.wsizeL];omega
     · rw [flenB,iP rfl];omega
     · rw [ftold,iP rfl,g2.told hn,ftoldL];rfl
   · rw [iN hc] at he;cases he
 rw [iN h5] at he;cases he
end
structure FGdLvl (l:List Tok) (v:FLvl):Prop where
 form:FGdP l v.form
 unit:FGdP l v.unit
theorem fform_gd {l:List Tok} {s:Option FLvl} (hf:FGdS l (s.map FLvl.form)) (hu:FGdS l (s.map FLvl.unit)):FGdP l (fFormB l s):=by
 intro i t j he;have hor:FGdP l (fOrs l s):=row_gd (by decide) (by decide) (row_gd (by decide) (by decide) (funit_gd hf hu));unfold fFormB at he;obtain ⟨x,k,e1,he⟩:=then_ok he;have hx:=hor _ _ _ e1
 by_cases hz:isTk l k 4 [45,62]=true
 · rw [iP hz] at he;obtain ⟨u,m,e2,he⟩:=then_ok he;obtain ⟨rfl,rfl⟩:=ok_inj he;exact fgd_two (s:=[45,62]) (by decide) (by decide) hx (tk_some hz).2 (finner_gd hf e2)
 · rw [iN hz] at he;obtain ⟨rfl,rfl⟩:=ok_inj he;exact hx
theorem fsub_gd {l:List Tok} {s:Option FLvl} (h:∀ v,s=some v→FGdLvl l v):FGdS l (s.map FLvl.form)∧FGdS l (s.map FLvl.unit):=by
 refine ⟨fun p hp=>?_,fun p hp=>?_⟩
 · cases s with
   | none=>cases hp
   | some v=>simp at hp;subst hp;exact (h v rfl).form
 · cases s with
   | none=>cases hp
   | some v=>simp at hp;subst hp;exact (h v rfl).unit
theorem flvl_gd (l:List Tok):∀ r,FGdLvl l (flvl l r)
 | 0=>by
  obtain ⟨h1,h2⟩:=fsub_gd (l:=l) (s:=none) (fun v h=>by cases h);rw [flvl];exact ⟨fform_gd h1 h2,funit_gd h1 h2⟩
 | r+1=>by
  obtain ⟨h1,h2⟩:=fsub_gd (l:=l) (s:=some (flvl l r)) (fun v h=>by cases h;exact flvl_gd l r);rw [flvl];exact ⟨fform_gd h1 h2,funit_gd h1 h2⟩
def FNzP (P:FPar):Prop:=∀ i j e,P i=.bad j e→e≠0
def FNzS (s:Option FPar):Prop:=∀ p,s=some p→FNzP p
theorem finner_nz {s:Option FPar} (h:FNzS s) {i j:Nat} {e:Int} (he:fInner s i=.bad j e):e≠0:=by
 unfold fInner at he
 cases s with
 | none=>have:=bad_inj he;omega
 | some p=>exact h p rfl _ _ _ he
theorem row_nz {l:List Tok} {op:Int} {sign:Bs} {part:FPar} (h:FNzP part):FNzP (rowB l op sign part):=by
 have key:∀ fuel t i j e,rowL l op sign part fuel t i=.bad j e→e≠0:=by
  intro fuel
  induction fuel with
  | zero=>intro t i j e he;rw [rowL] at he;cases he
  | succ n ih=>
   intro t i j e he;rw [rowL] at he
   split at he
   · rcases then_bad2 he with h1 | ⟨x,k,-,h1⟩
     · exact h _ _ _ h1
     · exact ih _ _ _ _ h1
   · cases he
 intro i j e he
 rcases then_bad2 he with h1 | ⟨x,k,-,h1⟩
 · exact h _ _ _ h1
 · exact key _ _ _ _ _ h1
theorem until_nz {l:List Tok} {s:Option FPar} {op:Int} {i j:Nat} {e:Int} (h:FNzS s) (he:untilB l s op i=.bad j e):e≠0:=by
 unfold untilB at he
 cases s with
 | none=>have:=bad_inj he;omega
 | some p=>
  simp only at he
  split at he
  · rcases then_bad2 he with h1 | ⟨x,k,-,h1⟩
    · exact h p rfl _ _ _ h1
    · split at h1
      · rcases then_bad2 h1 with h1 | ⟨x,k,-,h1⟩
        · exact h p rfl _ _ _ h1
        · split at h1
          · cases h1
          · have:=bad_inj h1;omega
      · have:=bad_inj h1;omega
  · have:=bad_inj he;omega
theorem funit_nz {l:List Tok} {s:Option FLvl} (hf:FNzS (s.map FLvl.form)) (hu:FNzS (s.map FLvl.unit)):FNzP (fUnitB l s):=by
 intro i j e he;unfold fUnitB at he
 split at he
 · rcases then_bad2 he with h1 | ⟨x,k,-,h1⟩
   · exact finner_nz hu h1
   · cases h1
 split at he
 · exact until_nz hf he
 split at he
 · exact until_nz hf he
 split at he
 · rcases then_bad2 he with h1 | ⟨x,k,-,h1⟩
   · exact finner_nz hf h1
   · split at h1
     · cases h1
     · have:=bad_inj h1;omega
 split at he
 · unfold fTerm at he
   split at he
   · rename_i h;have:=bad_inj he;omega
   · split at he
     · cases he
     · have:=bad_inj he;omega
 · have:=bad_inj he;omega
structure FNzLvl (v:FLvl):Prop where
 form:FNzP v.form
 unit:FNzP v.unit
theorem fform_nz {l:List Tok} {s:Option FLvl} (hf:FNzS (s.map FLvl.form)) (hu:FNzS (s.map FLvl.unit)):FNzP (fFormB l s):=by
 intro i j e he;have hor:FNzP (fOrs l s):=row_nz (row_nz (funit_nz hf hu));unfold fFormB at he
 rcases then_bad2 he with h1 | ⟨x,k,-,h1⟩
 · exact hor _ _ _ h1
 · split at h1
   · rcases then_bad2 h1 with h1 | ⟨x,k,-,h1⟩
     · exact finner_nz hf h1
     · cases h1
   · cases h1
theorem fsub_nz {s:Option FLvl} (h:∀ v,s=some v→FNzLvl v):FNzS (s.map FLvl.form)∧FNzS (s.map FLvl.unit):=by
 refine ⟨fun p hp=>?_,fun p hp=>?_⟩
 · cases s with
   | none=>cases hp
   | some v=>simp at hp;subst hp;exact (h v rfl).form
 · cases s with
   | none=>cases hp
   | some v=>simp at hp;subst hp;exact (h v rfl).unit
theorem flvl_nz (l:List Tok):∀ r,FNzLvl (flvl l r)
 | 0=>by
  obtain ⟨h1,h2⟩:=fsub_nz (s:=none) (fun v h=>by cases h);rw [flvl];exact ⟨fform_nz h1 h2,funit_nz h1 h2⟩
 | r+1=>by
  obtain ⟨h1,h2⟩:=fsub_nz (s:=some (flvl l r)) (fun v h=>by cases h;exact flvl_nz l r);rw [flvl];exact ⟨fform_nz h1 h2,funit_nz h1 h2⟩
theorem takeF_ok {l:List Tok} {i j:Nat} {f:Fm} (h:takeF l i=(f,j,0)):f.check=0∧FGd l i f j:=by
 have hg:=(flvl_gd l 256).form i;have hz:=(flvl_nz l 256).form i;unfold takeF at h
 cases hr:(flvl l 256).form i with
 | bad k e=>
  rw [hr] at h;simp only [Prod.mk.injEq] at h;exact absurd h.2.2 (hz k e hr)
 | ok x k=>
  rw [hr] at h
  by_cases hc:x.check=0
  · simp only [hc,if_true,Prod.mk.injEq] at h;obtain ⟨rfl,rfl,-⟩:=h;exact ⟨hc,hg x k hr⟩
  · simp only [iN hc,Prod.mk.injEq] at h;exact absurd h.2.2 hc
end Go.Proofs.YtkhoeoilamddaaaGreatDoor
