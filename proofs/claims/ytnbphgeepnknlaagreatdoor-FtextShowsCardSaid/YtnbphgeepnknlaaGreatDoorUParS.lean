/- Walks and plain words: ParS FParQ. -/
import Derived.Test.YtnbphgeepnknlaaGreatDoorUTrmS
namespace Go.Proofs.YtnbphgeepnknlaaGreatDoor
set_option linter.unusedVariables false
theorem decB_len3:∀ n,n<256→(decB n).length≤3:=by decide +kernel
theorem numS_len4 (n:Int) (h1:-255≤n) (h2:n≤255):(numS n).length≤4:=by
 have h:=decB_len3 n.natAbs (by omega);unfold numS
 split
 · simp;omega
 · omega
theorem asks_le (op:Int) {k j:Nat} (hk:(k:Int)≤(kidsOf op).2) (hj:j<k):asksN op j≤8:=by
 unfold asksN
 by_cases h9:op=9
 · rw [iP h9];omega
 rw [iN h9]
 by_cases h8:op=8
 · rw [iP h8];omega
 rw [iN h8]
 by_cases h7:op=7
 · rw [iP h7];omega
 rw [iN h7]
 by_cases h6:op=6∨op=5
 · rw [iP h6];omega
 rw [iN h6]
 by_cases h10:op=10∨op=11∨op=12∨op=13
 · rw [iP h10];omega
 rw [iN h10]
 by_cases h14:op=14∨op=15
 · have h2:(kidsOf op).2=2:=by rcases h14 with rfl | rfl <;> rfl
   rw [iP h14];omega
 rw [iN h14]
 by_cases h16:op=16∨op=17
 · have h2:(kidsOf op).2=2:=by rcases h16 with rfl | rfl <;> rfl
   rw [iP h16];omega
 rw [iN h16];omega
theorem ruleOf_lone {op:Int} (h:op=1∨op=2∨op=3∨op=4):ruleOf op=8:=by rcases h with rfl | rfl | rfl | rfl <;> rfl
mutual
theorem shw_lenB:∀ (t:Tm) (rule:Nat) (ends:Bool) (d:Nat),t.okT d→rule≤8→(shw numS t rule ends).length≤lenB t
 | .mk op n s l,rule,ends,d,h,hr=>by
  rw [Tm.okT] at h;obtain ⟨w0,w1,-,w3,w4,-⟩:=wrong_ok h.2.1;have hsl:s.data.toList.length=s.size:=by simp
  have hw:=wrapP_len (decide (ruleOf op<rule) || (decide (op=18) && !ends)) (bodyE numS op n s.data.toList (shwNot numS l (decide (ruleOf op<rule) || (decide (op=18) && !ends) || ends)) (shwIf numS l 0) (shwJoin numS op l 0 (decide (ruleOf op<rule) || (decide (op=18) && !ends) || ends)));have h5:=shwNot_lenB l (decide (ruleOf op<rule) || (decide (op=18) && !ends) || ends) _ h.2.2;have h18:=shwIf_lenB l 0 _ h.2.2;have hj:=shwJoin_lenB op l 0 (decide (ruleOf op<rule) || (decide (op=18) && !ends) || ends) _ h.2.2 (fun j hj=>asks_le op w4 (by omega));rw [shw];show (wrapP _ _).length≤_
  by_cases c:op=1∨op=2∨op=3∨op=4
  · have hp:(decide (ruleOf op<rule) || (decide (op=18) && !ends))=false:=by
     rw [ruleOf_lone c];have a:¬8<rule:=by omega
     have b:op≠18:=by omega
     simp [a,b]
    rw [hp];show (bodyE _ _ _ _ _ _ _).length≤_;unfold bodyE;rw [iP c,lenB];unfold loneT
    by_cases c1:op=1
    · rw [iP c1,iP c1];exact numS_len4 n (w1 c1).1 (w1 c1).2
    rw [iN c1,iN c1]
    by_cases c2:op=2
    · rw [iP c2,iP c2];split <;> simp
    rw [iN c2,iN c2]
    by_cases c3:op=3
    · rw [iP c3,iP c3];omega
    rw [iN c3,iN c3,iP (by omega)];simp
  · have e:lenB (.mk op n s l)=if op=5 then 3+lenBL l else if op=18 then 20+lenBL l else 2+lenBL l+(l.length - 1)*((signB op).length+2):=by
     rw [lenB,iN (by omega),iN (by omega),iN (by omega),iN (by omega)]
    rw [e];refine Nat.le_trans hw ?_;unfold bodyE;rw [iN c]
    by_cases c5:op=5
    · rw [iP c5,iP c5];simp;omega
    rw [iN c5,iN c5]
    by_cases c18:op=18
    · rw [iP c18,iP c18];have hl:l.length≤3:=by subst c18;have:(kidsOf 18).2=3:=rfl;omega
      omega
    rw [iN c18,iN c18];rw [iP rfl] at hj;omega
theorem shwNot_lenB:∀ (l:List Tm) (ends:Bool) (d:Nat),Tm.okL l d→(shwNot numS l ends).length≤lenBL l
 | [],_,_,_=>by simp [shwNot]
 | k :: r,ends,d,h=>by
  rw [Tm.okL] at h;have:=shw_lenB k 4 ends d h.1 (by omega);rw [shwNot,lenBL];omega
theorem shwIf_lenB:∀ (l:List Tm) (i d:Nat),Tm.okL l d→(shwIf numS l i).length≤lenBL l+6*l.length
 | [],_,_,_=>by simp [shwIf]
 | k :: r,i,d,h=>by
  rw [Tm.okL] at h;have h1:=shw_lenB k 0 true d h.1 (by omega);have h2:=shwIf_lenB r (i+1) d h.2;have h3:=ifW_len i;rw [shwIf,lenBL,List.length_append,List.length_append,List.length_cons];omega
theorem shwJoin_lenB (op:Int):∀ (l:List Tm) (i:Nat) (ends:Bool) (d:Nat),Tm.okL l d→(∀ j,j<i+l.length→asksN op j≤8)→(shwJoin numS op l i ends).length≤lenBL l+(if i=0 then l.length - 1 else l.length)*((signB op).length+2)
 | [],i,_,_,_,_=>by simp [shwJoin]
 | k :: r,i,ends,d,h,ha=>by
  rw [Tm.okL] at h;have h1:=shw_lenB k (asksN op i) (ends && r.isEmpty) d h.1 (ha i (by simp));have h2:=shwJoin_lenB op r (i+1) ends d h.2 (fun j hj=>ha j (by simp;omega));rw [iN (by omega)] at h2;rw [shwJoin,lenBL,List.length_append,List.length_append,List.length_cons]
  by_cases hi:i=0
  · rw [iP hi,iP hi];simp;omega
  · rw [iN hi,iN hi];have h4:(betw op).length=(signB op).length+2:=by simp [betw]
    rw [h4,Nat.add_mul,Nat.one_mul];omega
end
theorem wgt_le:∀ (l:List Tok) (k:Nat),wgt l k≤txts l+l.length
 | [],k=>by unfold wgt;simp
 | t :: r,0=>by unfold wgt;simp
 | t :: r,k+1=>by
  have:=wgt_le r k;unfold wgt txts at this ⊢;rw [List.take_succ_cons,List.map_cons,List.sum_cons,List.map_cons,List.sum_cons,List.length_cons];omega
def NzP (P:Par):Prop:=∀ i j e,P i=.bad j e→e≠0
theorem then_bad2 {α β:Type} {r:Rs α} {f:α→Nat→Rs β} {j:Nat} {e:Int} (h:r.then f=.bad j e):r=.bad j e∨∃ x k,r=.ok x k∧f x k=.bad j e:=by
 cases r with
 | bad a b=>exact .inl (by simpa using h)
 | ok x k=>exact .inr ⟨x,k,rfl,h⟩
theorem bad_inj {α:Type} {i j:Nat} {e f:Int} (h:(Rs.bad i e:Rs α)=.bad j f):e=f:=by cases h;rfl
def NzS (s:Option Par):Prop:=∀ p,s=some p→NzP p
theorem inner_nz {s:Option Par} (h:NzS s):NzP (inner s):=by
 intro i j e he;unfold inner at he
 cases s with
 | none=>have:=bad_inj he;omega
 | some p=>exact h p rfl _ _ _ he
theorem left_nz {l:List Tok} {one:Par} {ops:List Int} (h:NzP one):NzP (left l one ops):=by
 have key:∀ fuel t i j e,leftL l one ops fuel t i=.bad j e→e≠0:=by
  intro fuel
  induction fuel with
  | zero=>intro t i j e he;rw [leftL] at he;cases he
  | succ n ih=>
   intro t i j e he;rw [leftL] at he
   by_cases hz:whichOp l i ops=0
   · rw [iP hz] at he;cases he
   · rw [iN hz] at he
     rcases then_bad2 he with h1 | ⟨x,k,-,h1⟩
     · exact h _ _ _ h1
     · exact ih _ _ _ _ h1
 intro i j e he
 rcases then_bad2 he with h1 | ⟨x,k,-,h1⟩
 · exact h _ _ _ h1
 · exact key _ _ _ _ _ h1
theorem many_nz {l:List Tok} {one:Par} {op:Int} (h:NzP one):NzP (many l op one):=by
 have key:∀ fuel acc i j e,manyF l op one fuel acc i=.bad j e→e≠0:=by
  intro fuel
  induction fuel with
  | zero=>intro acc i j e he;rw [manyF] at he;cases he
  | succ n ih=>
   intro acc i j e he;rw [manyF] at he
   by_cases hz:whichOp l i [op]=0
   · rw [iP hz] at he;cases he
   · rw [iN hz] at he
     rcases then_bad2 he with h1 | ⟨x,k,-,h1⟩
     · exact h _ _ _ h1
     · exact ih _ _ _ _ h1
 intro i j e he
 rcases then_bad2 he with h1 | ⟨x,k,-,h1⟩
 · exact h _ _ _ h1
 · exact key _ _ _ _ _ h1
theorem unit_nz {l:List Tok} {s:Option Par} (h:NzS s):NzP (unitF l s):=by
 have hi:=inner_nz h;intro i j e he;unfold unitF at he
 by_cases h1:isTk l i 4 [45]=true
 · rw [iP h1] at he
   split at he
   · cases he
   · have:=bad_inj he;omega
 rw [iN h1] at he
 by_cases h2:isTk l i 3 wTrue=true
 · rw [iP h2] at he;cases he
 rw [iN h2] at he
 by_cases h3:isTk l i 3 wFalse=true
 · rw [iP h3] at he;cases he
 rw [iN h3] at he
 by_cases h4:isTk l i 3 wNext=true
 · rw [iP h4] at he
   split at he
   · split at he
     · split at he
       · cases he
       · have:=bad_inj he;omega
     · have:=bad_inj he;omega
   · have:=bad_inj he;omega
 rw [iN h4] at he
 by_cases h5:isTk l i 4 [40]=true
 · rw [iP h5] at he
   rcases then_bad2 he with h1 | ⟨x,k,-,h1⟩
   · exact hi _ _ _ h1
   · split at h1
     · cases h1
     · have:=bad_inj h1;omega
 rw [iN h5] at he
 by_cases h6:isTk l i 3 wIf=true
 · rw [iP h6] at he;unfold choiceB at he
   rcases then_bad2 he with h1 | ⟨x,k,-,h1⟩
   · exact hi _ _ _ h1
   · split at h1
     · rcases then_bad2 h1 with h1 | ⟨x,k,-,h1⟩
       · exact hi _ _ _ h1
       · split at h1
         · rcases then_bad2 h1 with h1 | ⟨x,k,-,h1⟩
           · exact hi _ _ _ h1
           · cases h1
         · have:=bad_inj h1;omega
     · have:=bad_inj h1;omega
 rw [iN h6] at he
 by_cases h7:isKd l i 2=true
 · rw [iP h7] at he;cases he
 rw [iN h7] at he
 by_cases h8:isKd l i 1=true
 · rw [iP h8] at he;cases he
 rw [iN h8] at he;have:=bad_inj he;omega
theorem lvlB_nz {l:List Tok} {s:Option Lvl} (h:∀ v,s=some v→NzP v.term∧NzP v.imp∧NzP v.not):NzP (lvlB l s).term∧NzP (lvlB l s).imp∧NzP (lvlB l s).not:=by
 have ht:NzS (s.map Lvl.term):=fun p hp=>by
  cases s with
  | none=>cases hp
  | some v=>simp at hp;subst hp;exact (h v rfl).1
 have hi:NzS (s.map Lvl.imp):=fun p hp=>by
  cases s with
  | none=>cases hp
  | some v=>simp at hp;subst hp;exact (h v rfl).2.1
 have hn:NzS (s.map Lvl.not):=fun p hp=>by
  cases s with
  | none=>cases hp
  | some v=>simp at hp;subst hp;exact (h v rfl).2.2
 have hsum:NzP (sumB l (s.map Lvl.term)):=left_nz (left_nz (unit_nz ht))
 have hnot:NzP (notOf l s):=by
  intro i j e he;unfold notOf notB at he
  split at he
  · rcases then_bad2 he with h1 | ⟨x,k,-,h1⟩
    · exact inner_nz hn _ _ _ h1
    · cases h1
  · rcases then_bad2 he with h1 | ⟨x,k,-,h1⟩
    · exact hsum _ _ _ h1
    · split at h1
      · cases h1
      · rcases then_bad2 h1 with h1 | ⟨x,k,-,h1⟩
        · exact hsum _ _ _ h1
        · cases h1
 have himp:NzP (impOf l s):=by
  intro i j e he;unfold impOf impB at he
  rcases then_bad2 he with h1 | ⟨x,k,-,h1⟩
  · exact many_nz (many_nz hnot) _ _ _ h1
  · split at h1
    · cases h1
    · rcases then_bad2 h1 with h1 | ⟨x,k,-,h1⟩
      · exact inner_nz hi _ _ _ h1
      · cases h1
 refine ⟨?_,himp,hnot⟩;intro i j e he;have he':termB l (impOf l s) i=.bad j e:=he;unfold termB at he'
 rcases then_bad2 he' with h1 | ⟨x,k,-,h1⟩
 · exact himp _ _ _ h1
 · split at h1
   · cases h1
   · rcases then_bad2 h1 with h1 | ⟨x,k,-,h1⟩
     · exact himp _ _ _ h1
     · cases h1
theorem lvl_nz (l:List Tok):∀ r,NzP (lvl l r).term∧NzP (lvl l r).imp∧NzP (lvl l r).not
 | 0=>by rw [lvl];exact lvlB_nz (fun v h=>by cases h)
 | r+1=>by rw [lvl];exact lvlB_nz (fun v h=>by cases h;exact lvl_nz l r)
set_option linter.unusedSectionVars false
mutual
def flenB:Fm→Nat
 | .mk o e l=>if o=1 then 4+lenB e else 8+flenBL l
def flenBL:List Fm→Nat
 | []=>0
 | t :: r=>flenB t+flenBL r
end
mutual
def ftold:Fm→Bool
 | .mk o e l=>(if o=1 then toldT e else true) && ftoldL l
def ftoldL:List Fm→Bool
 | []=>true
 | t :: r=>ftold t && ftoldL r
end
structure FGd (l:List Tok) (i:Nat) (f:Fm) (j:Nat):Prop where
 ij:i<j
 jl:j≤l.length
 sz:f.wsize≤2*(j - i)
 len:flenB f+4*wgt l i≤4*wgt l j
 told:NamesOk l→ftold f=true
def FGdP (l:List Tok) (P:FPar):Prop:=∀ i f j,P i=.ok f j→FGd l i f j
theorem takeT_ok {l:List Tok} {i j:Nat} {t:Tm} (h:takeT l i=(t,j,0)):t.check=0∧Gd l i t j:=by
 have hg:=(lvl_gd l 256).term i;unfold takeT at h
 cases hr:(lvl l 256).term i with
 | bad k e=>
  rw [hr] at h;simp only [Prod.mk.injEq] at h;exact absurd h.2.2 (lvl_bad' hr)
 | ok x k=>
  rw [hr] at h
  by_cases hc:x.check=0
  · simp only [hc,if_true,Prod.mk.injEq] at h;obtain ⟨rfl,rfl,-⟩:=h;exact ⟨hc,hg x k hr⟩
  · simp only [iN hc,Prod.mk.injEq] at h;exact absurd h.2.2 hc
where lvl_bad' {l:List Tok} {i j:Nat} {e:Int} (h:(lvl l 256).term i=.bad j e):e≠0:=(lvl_nz l 256).1 i j e h
section
variable {l:List Tok} {i j:Nat}
theorem fm_two {op:Int} (ho:op≠1) (a b:Fm):(fmOf op [a,b]).wsize=2+a.wsize+b.wsize∧flenB (fmOf op [a,b])=8+flenB a+flenB b∧ftold (fmOf op [a,b])=(ftold a && ftold b):=by
 unfold fmOf;refine ⟨?_,?_,?_⟩
 · rw [Fm.wsize,Fm.wsizeL,Fm.wsizeL,Fm.wsizeL];simp [zeroTm,Tm.size,Tm.sizeL];omega
 · rw [flenB,iN ho,flenBL,flenBL,flenBL];omega
 · rw [ftold,iN ho,ftoldL,ftoldL,ftoldL];simp
theorem fm_one {op:Int} (ho:op≠1) (a:Fm):(fmOf op [a]).wsize=2+a.wsize∧flenB (fmOf op [a])=8+flenB a∧ftold (fmOf op [a])=ftold a:=by
 unfold fmOf;refine ⟨?_,?_,?_⟩
 · rw [Fm.wsize,Fm.wsizeL,Fm.wsizeL];simp [zeroTm,Tm.size,Tm.sizeL]
 · rw [flenB,iN ho,flenBL,flenBL];omega
 · rw [ftold,iN ho,ftoldL,ftoldL];simp
theorem fgd_two {op:Int} {t u:Fm} {k m:Nat} {s:Bs} (ho:op≠1) (hs:1≤s.length) (h1:FGd l i t k) (hw:wgt l (k+1)=wgt l k+(s.length+1)) (h2:FGd l (k+1) u m):FGd l i (fmOf op [t,u]) m:=by
 have a1:=h1.ij;have a2:=h1.sz;have a3:=h1.len;have b1:=h2.ij;have b2:=h2.sz;have b3:=h2.len;obtain ⟨e1,e2,e3⟩:=fm_two ho t u;exact ⟨by omega,h2.jl,by omega,by omega,fun hn=>by rw [e3,h1.told hn,h2.told hn];rfl⟩
def FGdS (l:List Tok) (s:Option FPar):Prop:=∀ p,s=some p→FGdP l p
theorem finner_gd {s:Option FPar} (h:FGdS l s) {t:Fm} (he:fInner s i=.ok t j):FGd l (i+1) t j:=by
 unfold fInner at he
 cases s with
 | none=>cases he
 | some p=>exact h p rfl _ _ _ he
theorem row_gd {op:Int} {sign:Bs} {part:FPar} (ho:op≠1) (hs:1≤sign.length) (h:FGdP l part):FGdP l (rowB l op sign part):=by
 have key:∀ fuel i t j u m,FGd l i t j→rowL l op sign part fuel t j=.ok u m→FGd l i u m:=by
  intro fuel
  induction fuel with
  | zero=>intro i t j u m hg he;rw [rowL] at he;obtain ⟨rfl,rfl⟩:=ok_inj he;exact hg
  | succ n ih=>
   intro i t j u m hg he;rw [rowL] at he
   by_cases hz:isTk l j 4 sign=true
   · rw [iP hz] at he;obtain ⟨x,k,h1,h2⟩:=then_ok he;exact ih i _ k u m (fgd_two ho hs hg (tk_some hz).2 (h _ _ _ h1)) h2
   · rw [iN hz] at he;obtain ⟨rfl,rfl⟩:=ok_inj he;exact hg
 intro i t j he;obtain ⟨x,k,h1,h2⟩:=then_ok he;exact key _ i x k t j (h _ _ _ h1) h2
theorem one_some (h:oneOp l i≠0):oneOp l i≠1∧i<l.length∧wgt l i+2≤wgt l (i+1):=by
 unfold oneOp at h ⊢
 by_cases h1:isTk l i 4 [33]=true
 · rw [iP h1];obtain ⟨a,b⟩:=tk_some h1;exact ⟨by decide,a,by rw [b];simp⟩
 rw [iN h1] at h ⊢
 by_cases h2:isTk l i 3 [69,88]=true
 · rw [iP h2];obtain ⟨a,b⟩:=tk_some h2;exact ⟨by decide,a,by rw [b];simp⟩
 rw [iN h2] at h ⊢
 by_cases h3:isTk l i 3 [69,70]=true
 · rw [iP h3];obtain ⟨a,b⟩:=tk_some h3;exact ⟨by decide,a,by rw [b];simp⟩
 rw [iN h3] at h ⊢
 by_cases h4:isTk l i 3 [69,71]=true
 · rw [iP h4];obtain ⟨a,b⟩:=tk_some h4;exact ⟨by decide,a,by rw [b];simp⟩
 rw [iN h4] at h ⊢
 by_cases h5:isTk l i 3 [65,88]=true
 · rw [iP h5];obtain ⟨a,b⟩:=tk_some h5;exact ⟨by decide,a,by rw [b];simp⟩
 rw [iN h5] at h ⊢
 by_cases h6:isTk l i 3 [65,70]=true
 · rw [iP h6];obtain ⟨a,b⟩:=tk_some h6;exact ⟨by decide,a,by rw [b];simp⟩
 rw [iN h6] at h ⊢
 by_cases h7:isTk l i 3 [65,71]=true
 · rw [iP h7];obtain ⟨a,b⟩:=tk_some h7;exact ⟨by decide,a,by rw [b];simp⟩
 rw [iN h7] at h;exact absurd rfl h
theorem until_gd {s:Option FPar} {op:Int} (ho:op≠1) (h:FGdS l s) {kw:Bs} (hk:isTk l i 3 kw=true) {t:Fm} (he:untilB l s op i=.ok t j):FGd l i t j:=by
 unfold untilB at he
 cases s with
 | none=>cases he
 | some p=>
  simp only at he
  by_cases h1:isTk l (i+1) 4 [91]=true
  · rw [iP h1] at he;obtain ⟨a,k1,e1,he⟩:=then_ok he
    by_cases h2:isTk l k1 3 [85]=true
    · rw [iP h2] at he;obtain ⟨b,k2,e2,he⟩:=then_ok he
      by_cases h3:isTk l k2 4 [93]=true
      · rw [iP h3] at he;obtain ⟨rfl,rfl⟩:=ok_inj he;have ha:=h p rfl _ _ _ e1;have hb:=h p rfl _ _ _ e2;obtain ⟨w1,w2⟩:=tk_some hk;obtain ⟨w3,w4⟩:=tk_some h1;obtain ⟨w5,w6⟩:=tk_some h2;obtain ⟨w7,w8⟩:=tk_some h3;have a1:=ha.ij;have a2:=ha.sz;have a3:=ha.len;have b1:=hb.ij;have b2:=hb.sz;have b3:=hb.len;obtain ⟨f1,f2,f3⟩:=fm_two ho a b;rw [show i+1+1=i+2 from rfl] at w4;exact ⟨by omega,by omega,by omega,by simp at w4 w6 w8;omega,fun hn=>by rw [f3,ha.told hn,hb.told hn];rfl⟩
      · rw [iN h3] at he;cases he
    · rw [iN h2] at he;cases he
  · rw [iN h1] at he;cases he
theorem funit_gd {s:Option FLvl} (hf:FGdS l (s.map FLvl.form)) (hu:FGdS l (s.map FLvl.unit)):FGdP l (fUnitB l s):=by
 intro i t j he;unfold fUnitB at he
 by_cases h1:oneOp l i≠0
 · rw [iP h1] at he;obtain ⟨x,k,e1,he⟩:=then_ok he;obtain ⟨rfl,rfl⟩:=ok_inj he;have hx:=finner_gd hu e1;obtain ⟨o1,o2,o3⟩:=one_some h1;obtain ⟨f1,f2,f3⟩:=fm_one o1 x;have a1:=hx.ij;have a2:=hx.sz;have a3:=hx.len;exact ⟨by omega,hx.jl,by omega,by omega,fun hn=>by rw [f3];exact hx.told hn⟩
 rw [iN h1] at he
 by_cases h2:isTk l i 3 [69]=true
 · rw [iP h2] at he;exact until_gd (by decide) hf h2 he
 rw [iN h2] at he
 by_cases h3:isTk l i 3 [65]=true
 · rw [iP h3] at he;exact until_gd (by decide) hf h3 he
 rw [iN h3] at he
 by_cases h4:isTk l i 4 [40]=true
 · rw [iP h4] at he;obtain ⟨x,k,e1,he⟩:=then_ok he
   by_cases hc:isTk l k 4 [41]=true
   · rw [iP hc] at he;obtain ⟨rfl,rfl⟩:=ok_inj he;have hx:=finner_gd hf e1;obtain ⟨w1,w2⟩:=tk_some h4;obtain ⟨w3,w4⟩:=tk_some hc;have a1:=hx.ij;have a2:=hx.sz;have a3:=hx.len;exact ⟨by omega,by omega,by omega,by omega,hx.told⟩
   · rw [iN hc] at he;cases he
 rw [iN h4] at he
 by_cases h5:isTk l i 4 [91]=true
 · rw [iP h5] at he;unfold fTerm at he;obtain ⟨z,hz⟩:=ex_ (takeT l (i+1));rw [←hz] at he
   by_cases hz2:z.2.2≠0
   · rw [iP hz2] at he;cases he
   rw [iN hz2] at he
   by_cases hc:isTk l z.2.1 4 [93]=true
   · rw [iP hc] at he;obtain ⟨rfl,rfl⟩:=ok_inj he;have hzz:takeT l (i+1)=(z.1,z.2.1,0):=by rw [←hz];rw [show (0:Int)=z.2.2 by omega]
     obtain ⟨g1,g2⟩:=takeT_ok hzz;obtain ⟨w1,w2⟩:=tk_some h5;obtain ⟨w3,w4⟩:=tk_some hc;have a1:=g2.ij;have a2:=g2.sz;have a3:=g2.len;simp at w2 w4;refine ⟨by omega,by omega,?_,?_,fun hn=>?_⟩
     · rw [Fm.wsize,Fm.wsizeL];omega
     · rw [flenB,iP rfl];omega
     · rw [ftold,iP rfl,g2.told hn,ftoldL];rfl
   · rw [iN hc] at he;cases he
 rw [iN h5] at he;cases he
end
structure FGdLvl (l:List Tok) (v:FLvl):Prop where
 form:FGdP l v.form
 unit:FGdP l v.unit
theorem fform_gd {l:List Tok} {s:Option FLvl} (hf:FGdS l (s.map FLvl.form)) (hu:FGdS l (s.map FLvl.unit)):FGdP l (fFormB l s):=by
 intro i t j he;have hor:FGdP l (fOrs l s):=row_gd (by decide) (by decide) (row_gd (by decide) (by decide) (funit_gd hf hu));unfold fFormB at he;obtain ⟨x,k,e1,he⟩:=then_ok he;have hx:=hor _ _ _ e1
 by_cases hz:isTk l k 4 [45,62]=true
 · rw [iP hz] at he;obtain ⟨u,m,e2,he⟩:=then_ok he;obtain ⟨rfl,rfl⟩:=ok_inj he;exact fgd_two (s:=[45,62]) (by decide) (by decide) hx (tk_some hz).2 (finner_gd hf e2)
 · rw [iN hz] at he;obtain ⟨rfl,rfl⟩:=ok_inj he;exact hx
theorem fsub_gd {l:List Tok} {s:Option FLvl} (h:∀ v,s=some v→FGdLvl l v):FGdS l (s.map FLvl.form)∧FGdS l (s.map FLvl.unit):=by
 refine ⟨fun p hp=>?_,fun p hp=>?_⟩
 · cases s with
   | none=>cases hp
   | some v=>simp at hp;subst hp;exact (h v rfl).form
 · cases s with
   | none=>cases hp
   | some v=>simp at hp;subst hp;exact (h v rfl).unit
theorem flvl_gd (l:List Tok):∀ r,FGdLvl l (flvl l r)
 | 0=>by
  obtain ⟨h1,h2⟩:=fsub_gd (l:=l) (s:=none) (fun v h=>by cases h);rw [flvl];exact ⟨fform_gd h1 h2,funit_gd h1 h2⟩
 | r+1=>by
  obtain ⟨h1,h2⟩:=fsub_gd (l:=l) (s:=some (flvl l r)) (fun v h=>by cases h;exact flvl_gd l r);rw [flvl];exact ⟨fform_gd h1 h2,funit_gd h1 h2⟩
def FNzP (P:FPar):Prop:=∀ i j e,P i=.bad j e→e≠0
def FNzS (s:Option FPar):Prop:=∀ p,s=some p→FNzP p
theorem finner_nz {s:Option FPar} (h:FNzS s) {i j:Nat} {e:Int} (he:fInner s i=.bad j e):e≠0:=by
 unfold fInner at he
 cases s with
 | none=>have:=bad_inj he;omega
 | some p=>exact h p rfl _ _ _ he
theorem row_nz {l:List Tok} {op:Int} {sign:Bs} {part:FPar} (h:FNzP part):FNzP (rowB l op sign part):=by
 have key:∀ fuel t i j e,rowL l op sign part fuel t i=.bad j e→e≠0:=by
  intro fuel
  induction fuel with
  | zero=>intro t i j e he;rw [rowL] at he;cases he
  | succ n ih=>
   intro t i j e he;rw [rowL] at he
   split at he
   · rcases then_bad2 he with h1 | ⟨x,k,-,h1⟩
     · exact h _ _ _ h1
     · exact ih _ _ _ _ h1
   · cases he
 intro i j e he
 rcases then_bad2 he with h1 | ⟨x,k,-,h1⟩
 · exact h _ _ _ h1
 · exact key _ _ _ _ _ h1
theorem until_nz {l:List Tok} {s:Option FPar} {op:Int} {i j:Nat} {e:Int} (h:FNzS s) (he:untilB l s op i=.bad j e):e≠0:=by
 unfold untilB at he
 cases s with
 | none=>have:=bad_inj he;omega
 | some p=>
  simp only at he
  split at he
  · rcases then_bad2 he with h1 | ⟨x,k,-,h1⟩
    · exact h p rfl _ _ _ h1
    · split at h1
      · rcases then_bad2 h1 with h1 | ⟨x,k,-,h1⟩
        · exact h p rfl _ _ _ h1
        · split at h1
          · cases h1
          · have:=bad_inj h1;omega
      · have:=bad_inj h1;omega
  · have:=bad_inj he;omega
theorem funit_nz {l:List Tok} {s:Option FLvl} (hf:FNzS (s.map FLvl.form)) (hu:FNzS (s.map FLvl.unit)):FNzP (fUnitB l s):=by
 intro i j e he;unfold fUnitB at he
 split at he
 · rcases then_bad2 he with h1 | ⟨x,k,-,h1⟩
   · exact finner_nz hu h1
   · cases h1
 split at he
 · exact until_nz hf he
 split at he
 · exact until_nz hf he
 split at he
 · rcases then_bad2 he with h1 | ⟨x,k,-,h1⟩
   · exact finner_nz hf h1
   · split at h1
     · cases h1
     · have:=bad_inj h1;omega
 split at he
 · unfold fTerm at he
   split at he
   · rename_i h;have:=bad_inj he;omega
   · split at he
     · cases he
     · have:=bad_inj he;omega
 · have:=bad_inj he;omega
structure FNzLvl (v:FLvl):Prop where
 form:FNzP v.form
 unit:FNzP v.unit
theorem fform_nz {l:List Tok} {s:Option FLvl} (hf:FNzS (s.map FLvl.form)) (hu:FNzS (s.map FLvl.unit)):FNzP (fFormB l s):=by
 intro i j e he;have hor:FNzP (fOrs l s):=row_nz (row_nz (funit_nz hf hu));unfold fFormB at he
 rcases then_bad2 he with h1 | ⟨x,k,-,h1⟩
 · exact hor _ _ _ h1
 · split at h1
   · rcases then_bad2 h1 with h1 | ⟨x,k,-,h1⟩
     · exact finner_nz hf h1
     · cases h1
   · cases h1
theorem fsub_nz {s:Option FLvl} (h:∀ v,s=some v→FNzLvl v):FNzS (s.map FLvl.form)∧FNzS (s.map FLvl.unit):=by
 refine ⟨fun p hp=>?_,fun p hp=>?_⟩
 · cases s with
   | none=>cases hp
   | some v=>simp at hp;subst hp;exact (h v rfl).form
 · cases s with
   | none=>cases hp
   | some v=>simp at hp;subst hp;exact (h v rfl).unit
theorem flvl_nz (l:List Tok):∀ r,FNzLvl (flvl l r)
 | 0=>by
  obtain ⟨h1,h2⟩:=fsub_nz (s:=none) (fun v h=>by cases h);rw [flvl];exact ⟨fform_nz h1 h2,funit_nz h1 h2⟩
 | r+1=>by
  obtain ⟨h1,h2⟩:=fsub_nz (s:=some (flvl l r)) (fun v h=>by cases h;exact flvl_nz l r);rw [flvl];exact ⟨fform_nz h1 h2,funit_nz h1 h2⟩
theorem takeF_ok {l:List Tok} {i j:Nat} {f:Fm} (h:takeF l i=(f,j,0)):f.check=0∧FGd l i f j:=by
 have hg:=(flvl_gd l 256).form i;have hz:=(flvl_nz l 256).form i;unfold takeF at h
 cases hr:(flvl l 256).form i with
 | bad k e=>
  rw [hr] at h;simp only [Prod.mk.injEq] at h;exact absurd h.2.2 (hz k e hr)
 | ok x k=>
  rw [hr] at h
  by_cases hc:x.check=0
  · simp only [hc,if_true,Prod.mk.injEq] at h;obtain ⟨rfl,rfl,-⟩:=h;exact ⟨hc,hg x k hr⟩
  · simp only [iN hc,Prod.mk.injEq] at h;exact absurd h.2.2 hc
end Go.Proofs.YtnbphgeepnknlaaGreatDoor
