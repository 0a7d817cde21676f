/- Plain words: the module of two texts, one behind the other. -/
import Derived.Test.YtkhoeoilamddaaaGreatDoorWRndP
import Derived.Test.YtkhoeoilamddaaaGreatDoorWMdV
namespace Go.Proofs.YtkhoeoilamddaaaGreatDoor
set_option linter.unusedVariables false
set_option linter.unusedSectionVars false
section
variable {l m:List Tok} {a b:Nat}
theorem map_loc {α β:Type} {P Q:Nat→Rs α} (h:Loc l m a b P Q) (f:α→β):Loc l m a b (fun i=>(P (i+1)).map f) (fun i=>(Q (i+1)).map f):=by
 intro i y j he;obtain ⟨x,h1,rfl⟩:=map_ok he;obtain ⟨q,rfl,hq,hA⟩:=step_loc h i h1;refine ⟨q,rfl,by omega,fun hag=>?_⟩;show (Q (i+b+1)).map f=_;rw [hA (hag.sub (by omega) (lr _))]
 rfl
theorem must_loc {i j:Nat} {k:Int} {s:Bs} {u:Unit} (he:mustP l (i+a) k s=.ok u j):j=i+1+a∧(TkEq l[i+a]? m[i+b]?→mustP m (i+b) k s=.ok u (i+1+b)):=by
 unfold mustP at he
 by_cases c:isTk l (i+a) k s=true
 · rw [iP c] at he;obtain ⟨-,rfl⟩:=ok_inj3 he;refine ⟨by omega,fun hag=>?_⟩;rw [isTk_eq hag] at c;unfold mustP;rw [iP c,Nat.add_right_comm]
 · rw [iN c] at he;cases he
theorem named_loc (sign:Bs):Loc l m a b (namedP l sign) (namedP m sign):=by
 intro i s j he;unfold namedP nameP at he
 by_cases c:isKd l (i+a) 2=true
 · rw [iP c,Rs.then_ok] at he;obtain ⟨u,k,h1,h2⟩:=then_ok3 he;rw [Nat.add_right_comm] at h1;obtain ⟨rfl,hA⟩:=must_loc (m:=m) (b:=b) h1;obtain ⟨rfl,rfl⟩:=ok_inj3 h2;refine ⟨i+1+1,rfl,by omega,fun hag=>?_⟩;have e:=hag i (lr _) (by omega);have g:=hA (hag (i+1) (by omega) (by omega));rw [isKd_eq e] at c;unfold namedP nameP;rw [iP c,Rs.then_ok,Nat.add_right_comm,g,Rs.then_ok,textAt_eq e]
 · rw [iN c] at he;cases he
theorem num_loc:Loc l m a b (numP l) (numP m):=by
 intro i n j he;unfold numP at he
 by_cases c1:isTk l (i+a) 4 [45]=true
 · rw [iP c1] at he
   by_cases c2:isKd l (i+a+1) 1=true
   · rw [iP c2] at he;obtain ⟨rfl,rfl⟩:=ok_inj3 he;refine ⟨i+2,by omega,by omega,fun hag=>?_⟩;have e1:=hag i (lr _) (by omega);have e2:=hag (i+1) (by omega) (by omega);rw [Nat.add_right_comm i 1 a,Nat.add_right_comm i 1 b] at e2;rw [isTk_eq e1] at c1;rw [isKd_eq e2] at c2;unfold numP;rw [iP c1,iP c2,numAt_eq e2]
     congr 1
     omega
   · rw [iN c2] at he;cases he
 · rw [iN c1] at he
   by_cases c2:isKd l (i+a) 1=true
   · rw [iP c2] at he;obtain ⟨rfl,rfl⟩:=ok_inj3 he;refine ⟨i+1,by omega,by omega,fun hag=>?_⟩;have e1:=hag i (lr _) (by omega);rw [isTk_eq e1] at c1;rw [isKd_eq e1] at c2;unfold numP;rw [iN c1,iP c2,numAt_eq e1]
     congr 1
     omega
   · rw [iN c2] at he;cases he
theorem var_loc:Loc l m a b (varP l) (varP m):=by
 intro i v j he;unfold varP at he;obtain ⟨s,k,h1,h2⟩:=then_ok3 he;obtain ⟨q1,rfl,hq1,hA1⟩:=named_loc (m:=m) (b:=b) _ _ _ _ h1
 by_cases c1:isTk l (q1+a) 3 wBool=true
 · rw [iP c1] at h2;obtain ⟨rfl,rfl⟩:=ok_inj3 h2;refine ⟨q1+1,by omega,by omega,fun hag=>?_⟩;rw [isTk_eq (hag q1 (by omega) (by omega))] at c1;unfold varP;rw [hA1 (hag.sub (by omega) (by omega)),Rs.then_ok,iP c1]
   congr 1
   omega
 · rw [iN c1] at h2;obtain ⟨lo,k2,h3,h4⟩:=then_ok3 h2;obtain ⟨q2,rfl,hq2,hA2⟩:=num_loc (m:=m) (b:=b) _ _ _ h3;obtain ⟨u,k3,h5,h6⟩:=then_ok3 h4;obtain ⟨rfl,hA3⟩:=must_loc (m:=m) (b:=b) h5;obtain ⟨hi,k4,h7,h8⟩:=then_ok3 h6;obtain ⟨q4,rfl,hq4,hA4⟩:=num_loc (m:=m) (b:=b) _ _ _ h7;obtain ⟨rfl,rfl⟩:=ok_inj3 h8;refine ⟨q4,rfl,by omega,fun hag=>?_⟩;rw [isTk_eq (hag q1 (by omega) (by omega))] at c1;unfold varP;rw [hA1 (hag.sub (by omega) (by omega)),Rs.then_ok,iN c1,hA2 (hag.sub (by omega) (by omega)),Rs.then_ok,hA3 (hag q2 (by omega) (by omega)),Rs.then_ok,hA4 (hag.sub (by omega) (by omega)),Rs.then_ok]
theorem def_loc:Loc l m a b (defP l) (defP m):=by
 intro i v j he;unfold defP at he;obtain ⟨s,k,h1,h2⟩:=then_ok3 he;obtain ⟨q1,rfl,hq1,hA1⟩:=named_loc (m:=m) (b:=b) _ _ _ _ h1;obtain ⟨t,k2,h3,h4⟩:=then_ok3 h2;obtain ⟨q2,rfl,hq2,hA2⟩:=tmP_loc (m:=m) (b:=b) _ _ _ h3;obtain ⟨rfl,rfl⟩:=ok_inj3 h4;refine ⟨q2,rfl,by omega,fun hag=>?_⟩;unfold defP;rw [hA1 (hag.sub (by omega) (by omega)),Rs.then_ok,hA2 (hag.sub (by omega) (by omega)),Rs.then_ok]
theorem spec_loc:Loc l m a b (specP l) (specP m):=by
 intro i v j he;unfold specP at he;obtain ⟨s,k,h1,h2⟩:=then_ok3 he;obtain ⟨q1,rfl,hq1,hA1⟩:=named_loc (m:=m) (b:=b) _ _ _ _ h1;obtain ⟨t,k2,h3,h4⟩:=then_ok3 h2;obtain ⟨q2,rfl,hq2,hA2⟩:=fmP_loc (m:=m) (b:=b) _ _ _ h3;obtain ⟨rfl,rfl⟩:=ok_inj3 h4;refine ⟨q2,rfl,by omega,fun hag=>?_⟩;unfold specP;rw [hA1 (hag.sub (by omega) (by omega)),Rs.then_ok,hA2 (hag.sub (by omega) (by omega)),Rs.then_ok]
theorem ite_loc {α:Type} {w:Bs} {P Q P' Q':Nat→Rs α} (h:Loc l m a b P Q) (h':Loc l m a b P' Q'):Loc l m a b (fun i=>if isTk l i 3 w=true then P i else P' i) (fun i=>if isTk m i 3 w=true then Q i else Q' i):=by
 intro i f j he;simp only at he
 by_cases c:isTk l (i+a) 3 w=true
 · rw [iP c] at he;obtain ⟨q,rfl,hq,hA⟩:=h _ _ _ he;refine ⟨q,rfl,hq,fun hag=>?_⟩;rw [isTk_eq (hag i (lr _) (by omega))] at c;simp only;rw [iP c];exact hA hag
 · rw [iN c] at he;obtain ⟨q,rfl,hq,hA⟩:=h' _ _ _ he;refine ⟨q,rfl,hq,fun hag=>?_⟩;rw [isTk_eq (hag i (lr _) (by omega))] at c;simp only;rw [iN c];exact hA hag
theorem bad_loc {α:Type} (e:Int):Loc l m a b (fun i=>(.bad i e:Rs α)) (fun i=>.bad i e):=fun i f j he=>by cases he
theorem el_loc:Loc l m a b (elP l) (elP m):=
 ite_loc (map_loc var_loc _) (ite_loc (map_loc def_loc _) (ite_loc (map_loc tmP_loc _) (ite_loc (map_loc tmP_loc _) (ite_loc (map_loc def_loc _) (ite_loc (map_loc tmP_loc _) (ite_loc (map_loc tmP_loc _) (ite_loc (map_loc spec_loc _) (bad_loc 16))))))))
end
def Els (l:List Tok):Nat→List El→Prop
 | i,[]=>l.length≤i
 | i,e :: r=>∃ q,elP l i=.ok e q∧isTk l q 4 [59]=true∧Els l (q+1) r
def Fits:Md→List El→Prop
 | _,[]=>True
 | m,e :: r=>e.cnt m<64∧Fits (e.put m) r
theorem modF_els {l:List Tok}:∀ (k:Nat) (m m':Md) (i j:Nat),modF l k m i=.ok m' j→l.length≤i+k→∃ es,Els l i es∧Fits m es∧m'=es.foldl El.put m
 | 0,m,m',i,j,h,hl=>by
  rw [modF] at h;obtain ⟨rfl,rfl⟩:=ok_inj3 h;exact ⟨[],by show l.length≤i;omega,trivial,rfl⟩
 | k+1,m,m',i,j,h,hl=>by
  rw [modF] at h
  by_cases hi:l.length≤i
  · rw [iP hi] at h;obtain ⟨rfl,rfl⟩:=ok_inj3 h;exact ⟨[],hi,trivial,rfl⟩
  · rw [iN hi] at h;obtain ⟨x,p,h1,h2⟩:=then_ok3 h;obtain ⟨e,q,h3,h4,rfl,h5,rfl⟩:=decl_el h1;have:=el_up h3;obtain ⟨es,g1,g2,g3⟩:=modF_els k _ _ _ _ h2 (by omega);exact ⟨e :: es,⟨q,h3,h4,g1⟩,⟨h5,g2⟩,g3⟩
theorem els_modF {l:List Tok}:∀ (es:List El) (k:Nat) (m:Md) (i:Nat),Els l i es→l.length≤i+k→(Fits m es→∃ j,modF l k m i=.ok (es.foldl El.put m) j)∧(¬Fits m es→∃ j,modF l k m i=.bad j 18)
 | [],k,m,i,h,hl=>by
  have hi:l.length≤i:=h;refine ⟨fun _=>⟨i,?_⟩,fun hn=>absurd trivial hn⟩
  cases k with
  | zero=>rfl
  | succ k=>rw [modF,iP hi];rfl
 | e :: r,k,m,i,h,hl=>by
  obtain ⟨q,h1,h2,h3⟩:=h;have hin:=el_in h1;have hup:=el_up h1;obtain ⟨K,rfl⟩:∃ K,k=K+1:=⟨k - 1,by omega⟩;have hd:=declB_el (m:=m) h1
  by_cases hc:64≤e.cnt m
  · rw [iP hc] at hd;refine ⟨fun hf=>by have:=hf.1;omega,fun _=>⟨i,?_⟩⟩;rw [modF,iN (by omega)];unfold declP;rw [hd]
    rfl
  · rw [iN hc] at hd
    have hdp:declP l m i=.ok (e.put m) (q+1):=by
     unfold declP mustP;rw [hd,Rs.then_ok,iP h2]
     rfl
    obtain ⟨g1,g2⟩:=els_modF r K (e.put m) (q+1) h3 (by omega);refine ⟨fun hf=>?_,fun hf=>?_⟩
    · obtain ⟨j,hj⟩:=g1 hf.2;exact ⟨j,by rw [modF,iN (by omega),hdp,Rs.then_ok];exact hj⟩
    · obtain ⟨j,hj⟩:=g2 fun h4=>hf ⟨by omega,h4⟩;exact ⟨j,by rw [modF,iN (by omega),hdp,Rs.then_ok];exact hj⟩
def Md.app (x y:Md):Md:=⟨x.vars++y.vars,x.defs++y.defs,x.init++y.init,x.invar++y.invar,x.next++y.next,x.trans++y.trans,x.fair++y.fair,x.specs++y.specs⟩
theorem put_app (x y:Md) (e:El):e.put (x.app y)=x.app (e.put y):=by cases e <;> simp [El.put,Md.app]
theorem fold_put (x:Md):∀ (es:List El) (y:Md),es.foldl El.put (x.app y)=x.app (es.foldl El.put y)
 | [],y=>rfl
 | e :: r,y=>by rw [List.foldl_cons,List.foldl_cons,put_app,fold_put x r]
theorem app_zero (x:Md):x.app zeroMd=x:=by cases x;simp [Md.app,zeroMd]
theorem cnt_app (x y:Md) (e:El):e.cnt y≤e.cnt (x.app y):=by cases e <;> simp [El.cnt,Md.app]
theorem fits_app (x:Md):∀ (es:List El) (y:Md),Fits (x.app y) es→Fits y es
 | [],y,_=>trivial
 | e :: r,y,h=>by
  have h1:=cnt_app x y e;refine ⟨by have:=h.1;omega,fits_app x r _ ?_⟩;rw [←put_app];exact h.2
theorem fits_right:∀ (ea eb:List El) (m:Md),Fits m (ea++eb)→Fits (ea.foldl El.put m) eb
 | [],eb,m,h=>h
 | e :: r,eb,m,h=>fits_right r eb (e.put m) h.2
section
variable {l la lb:List Tok} (hat:At l 0 (la++lb)) (hl:l.length=la.length+lb.length)
include hat hl
theorem agA {i q:Nat} (h:q<la.length):Ag la l 0 0 i q:=fun k k1 k2=>by
 obtain ⟨t,ht⟩:∃ t,la[k]?=some t:=⟨_,gG (by omega)⟩;obtain ⟨u,hu,h1,h2,h3⟩:=hat k t (by rw [List.getElem?_append_left (by omega)];exact ht);rw [Nat.zero_add] at hu;rw [Nat.add_zero,ht,hu];exact ⟨h1.symm,h2.symm,h3.symm⟩
theorem agB {i q:Nat} (h:q<lb.length):Ag lb l 0 la.length i q:=fun k k1 k2=>by
 obtain ⟨t,ht⟩:∃ t,lb[k]?=some t:=⟨_,gG (by omega)⟩;obtain ⟨u,hu,h1,h2,h3⟩:=hat (k+la.length) t (by rw [List.getElem?_append_right (by omega),Nat.add_sub_cancel];exact ht);rw [Nat.zero_add] at hu;rw [Nat.add_zero,ht,hu];exact ⟨h1.symm,h2.symm,h3.symm⟩
theorem agC {i q:Nat} (h:q<lb.length):Ag l lb la.length 0 i q:=fun k k1 k2=>by
 obtain ⟨t,ht⟩:∃ t,lb[k]?=some t:=⟨_,gG (by omega)⟩;obtain ⟨u,hu,h1,h2,h3⟩:=hat (k+la.length) t (by rw [List.getElem?_append_right (by omega),Nat.add_sub_cancel];exact ht);rw [Nat.zero_add] at hu;rw [Nat.add_zero,ht,hu];exact ⟨h1,h2,h3⟩
theorem els_A:∀ (ea:List El) (i:Nat) (r:List El),Els la i ea→i≤la.length→Els l la.length r→Els l i (ea++r)
 | [],i,r,h,hi,hr=>by
  have h0:la.length≤i:=h;rw [show i=la.length by omega];exact hr
 | e :: ea,i,r,h,hi,hr=>by
  obtain ⟨q,h1,h2,h3⟩:=h;have hq:=isTk_in h2;obtain ⟨q',hq',hlt,hA⟩:=el_loc (l:=la) (m:=l) (a:=0) (b:=0) i e q h1;have hqq:q'=q:=by omega
  subst hqq;exact ⟨q',hA (agA hat hl hq),(isTk_eq (agA hat hl hq q' (lr _) (lr _)) 4 [59]).symm.trans h2,els_A ea (q'+1) r h3 (by omega) hr⟩
theorem els_B:∀ (eb:List El) (i:Nat),Els lb i eb→Els l (i+la.length) eb
 | [],i,h=>by
  have h0:lb.length≤i:=h;show l.length≤i+la.length;omega
 | e :: eb,i,h=>by
  obtain ⟨q,h1,h2,h3⟩:=h;have hq:=isTk_in h2;obtain ⟨q',hq',hlt,hA⟩:=el_loc (l:=lb) (m:=l) (a:=0) (b:=la.length) i e q h1;have hqq:q'=q:=by omega
  subst hqq;refine ⟨q'+la.length,hA (agB hat hl hq),?_,?_⟩
  · rw [←isTk_eq (agB hat hl hq q' (lr _) (lr _))];exact h2
  · rw [Nat.add_right_comm];exact els_B eb (q'+1) h3
theorem els_C:∀ (eb:List El) (i:Nat),Els l (i+la.length) eb→Els lb i eb
 | [],i,h=>by
  have h0:l.length≤i+la.length:=h;show lb.length≤i;omega
 | e :: eb,i,h=>by
  obtain ⟨q,h1,h2,h3⟩:=h;have hq:=isTk_in h2;obtain ⟨q',rfl,hlt,hA⟩:=el_loc (l:=l) (m:=lb) (a:=la.length) (b:=0) i e q h1;have hqb:q'<lb.length:=by omega
  refine ⟨q',hA (agC hat hl hqb),?_,?_⟩
  · rw [isTk_eq (agC hat hl hqb q' (lr _) (lr _))] at h2;exact h2
  · rw [Nat.add_right_comm] at h3;exact els_C eb (q'+1) h3
theorem els_cut:∀ (ea:List El) (i:Nat) (es:List El),Els la i ea→i≤la.length→Els l i es→∃ eb,es=ea++eb∧Els l la.length eb
 | [],i,es,h,hi,hs=>by
  have h0:la.length≤i:=h;rw [show i=la.length by omega] at hs;exact ⟨es,rfl,hs⟩
 | e :: ea,i,es,h,hi,hs=>by
  obtain ⟨q,h1,h2,h3⟩:=h;have hq:=isTk_in h2;obtain ⟨q',hq',hlt,hA⟩:=el_loc (l:=la) (m:=l) (a:=0) (b:=0) i e q h1;have hqq:q'=q:=by omega
  subst hqq;have h4:elP l i=.ok e q':=hA (agA hat hl hq)
  cases es with
  | nil=>
   have h5:l.length≤i:=hs;have:=el_in h4;omega
  | cons f es=>
   obtain ⟨p,g1,g2,g3⟩:=hs;rw [h4] at g1;obtain ⟨rfl,rfl⟩:=ok_inj3 g1;obtain ⟨eb,rfl,h6⟩:=els_cut ea (q'+1) es h3 (by omega) g3;exact ⟨eb,rfl,h6⟩
end
theorem bad_then {α β:Type} {r:Rs α} {f:α→Nat→Rs β} {j:Nat} {e:Int} (h:r.then f=.bad j e):r=.bad j e∨∃ x k,r=.ok x k∧f x k=.bad j e:=by
 cases r with
 | bad i e'=>cases h;exact .inl rfl
 | ok x k=>exact .inr ⟨x,k,rfl,h⟩
def NzR {α:Type} (r:Rs α):Prop:=∀ j e,r=.bad j e→e≠0
theorem NzR.then {α β:Type} {r:Rs α} {f:α→Nat→Rs β} (h:NzR r) (hf:∀ x k,NzR (f x k)):NzR (r.then f):=fun j e he=>by
 rcases bad_then he with h1 | ⟨x,k,-,h1⟩
 · exact h j e h1
 · exact hf x k j e h1
theorem nz_ok {α:Type} (x:α) (k:Nat):NzR (.ok x k:Rs α):=fun j e h=>by cases h
theorem nz_bad {α:Type} {e:Int} (he:e≠0) (k:Nat):NzR (.bad k e:Rs α):=fun j e' h=>by cases h;exact he
theorem nz_ite {α:Type} {c:Prop} [Decidable c] {x y:Rs α} (hx:NzR x) (hy:NzR y):NzR (if c then x else y):=by
 split
 · exact hx
 · exact hy
theorem nz_must (l:List Tok) (i:Nat) (k:Int) (s:Bs):NzR (mustP l i k s):=nz_ite (nz_ok _ _) (nz_bad (by decide) _)
theorem nz_named (l:List Tok) (s:Bs) (i:Nat):NzR (namedP l s i):=(nz_ite (nz_ok _ _) (nz_bad (by decide) _)).then fun x k=>(nz_must _ _ _ _).then fun _ _=>nz_ok _ _
theorem nz_num (l:List Tok) (i:Nat):NzR (numP l i):=nz_ite (nz_ite (nz_ok _ _) (nz_bad (by decide) _)) (nz_ite (nz_ok _ _) (nz_bad (by decide) _))
theorem nz_var (l:List Tok) (i:Nat):NzR (varP l i):=(nz_named _ _ _).then fun _ _=>nz_ite (nz_ok _ _) ((nz_num _ _).then fun _ _=>(nz_must _ _ _ _).then fun _ _=>(nz_num _ _).then fun _ _=>nz_ok _ _)
theorem nz_tm (l:List Tok) (i:Nat):NzR (tmP l i):=fun j e h=>by
 unfold tmP at h
 by_cases hz:(takeT l i).2.2≠0
 · rw [iP hz] at h;cases h;exact hz
 · rw [iN hz] at h;cases h
theorem nz_fm (l:List Tok) (i:Nat):NzR (fmP l i):=fun j e h=>by
 unfold fmP at h
 by_cases hz:(takeF l i).2.2≠0
 · rw [iP hz] at h;cases h;exact hz
 · rw [iN hz] at h;cases h
theorem nz_def (l:List Tok) (i:Nat):NzR (defP l i):=(nz_named _ _ _).then fun _ _=>(nz_tm _ _).then fun _ _=>nz_ok _ _
theorem nz_spec (l:List Tok) (i:Nat):NzR (specP l i):=(nz_named _ _ _).then fun _ _=>(nz_fm _ _).then fun _ _=>nz_ok _ _
theorem nz_more {α:Type} {n:Nat} {p:Nat→Rs α} (i:Nat) (h:NzR (p (i+1))) (f:α→Md):NzR ((moreP n p i).then fun x j=>(.ok (f x) j:Rs Md)):=(nz_ite (nz_bad (by decide) _) h).then fun _ _=>nz_ok _ _
theorem nz_decl (l:List Tok) (m:Md) (i:Nat):NzR (declP l m i):=by
 have:NzR (declB l m i):=by
  unfold declB;exact nz_ite (nz_more i (nz_var _ _) _) (nz_ite (nz_more i (nz_def _ _) _) (nz_ite (nz_more i (nz_tm _ _) _) (nz_ite (nz_more i (nz_tm _ _) _) (nz_ite (nz_more i (nz_def _ _) _) (nz_ite (nz_more i (nz_tm _ _) _) (nz_ite (nz_more i (nz_tm _ _) _) (nz_ite (nz_more i (nz_spec _ _) _) (nz_bad (by decide) _))))))))
 exact this.then fun _ _=>(nz_must _ _ _ _).then fun _ _=>nz_ok _ _
theorem modF_nz {l:List Tok}:∀ (k:Nat) (m:Md) (i j:Nat) (e:Int),modF l k m i=.bad j e→e≠0
 | 0,m,i,j,e,h=>by cases h
 | k+1,m,i,j,e,h=>by
  rw [modF] at h
  by_cases hi:l.length≤i
  · rw [iP hi] at h;cases h
  · rw [iN hi] at h
    rcases bad_then h with h1 | ⟨x,p,-,h1⟩
    · exact nz_decl _ _ _ _ _ h1
    · exact modF_nz k x p j e h1
theorem parseM_els {s:Bs} {m:Md} {a:Int} (h:parseM s=(m,a,0)):∃ l es,all s=(l,0,0)∧Els l 0 es∧Fits zeroMd es∧m=es.foldl El.put zeroMd:=by
 unfold parseM at h
 by_cases h1:(all s).2.2≠0
 · rw [iP h1] at h;simp only [Prod.mk.injEq] at h;exact absurd h.2.2 h1
 rw [iN h1] at h;have h2:all s=((all s).1,(all s).2.1,0):=Prod.ext rfl (Prod.ext rfl (by simpa using h1));obtain ⟨-,h3,-⟩:=all_toks h2;rw [h3] at h2
 cases hr:modF (all s).1 (all s).1.length zeroMd 0 with
 | bad j e=>
  rw [hr] at h;simp only [Prod.mk.injEq] at h;exact absurd h.2.2 (modF_nz _ _ _ _ _ hr)
 | ok x j=>
  rw [hr] at h;simp only [Prod.mk.injEq] at h;obtain ⟨rfl,-,-⟩:=h;obtain ⟨es,g1,g2,g3⟩:=modF_els _ _ _ _ _ hr (by omega);exact ⟨_,es,h2,g1,g2,g3⟩
theorem els_parseM {s:Bs} {l:List Tok} {es:List El} (h:all s=(l,0,0)) (he:Els l 0 es):(Fits zeroMd es→parseM s=(es.foldl El.put zeroMd,(s.length:Int),0))∧(¬Fits zeroMd es→(parseM s).2.2=18):=by
 obtain ⟨g1,g2⟩:=els_modF es l.length zeroMd 0 he (by omega);unfold parseM;rw [h];simp only [ne_eq,not_true_eq_false,if_false];refine ⟨fun hf=>?_,fun hf=>?_⟩
 · obtain ⟨j,hj⟩:=g1 hf;rw [hj]
 · obtain ⟨j,hj⟩:=g2 hf;rw [hj]
theorem join_ok {x b:Bs} {mx my:Md} {ax ab:Int} (hx:parseM (x++[10])=(mx,ax,0)) (hb:parseM b=(my,ab,0)) (hl:(x++10 :: b).length≤65536):(parseM (x++10 :: b)).2.2=18∨parseM (x++10 :: b)=(mx.app my,((x++10 :: b).length:Int),0):=by
 obtain ⟨la,ea,h1,h2,h3,rfl⟩:=parseM_els hx;obtain ⟨lb,eb,g1,g2,g3,rfl⟩:=parseM_els hb;obtain ⟨l,k1,k2,k3⟩:=all_join h1 g1 hl;have hB:=els_B k3 k2 eb 0 g2;rw [Nat.zero_add] at hB;have hA:=els_A k3 k2 ea 0 eb h2 (zl _) hB;obtain ⟨c1,c2⟩:=els_parseM k1 hA
 by_cases hf:Fits zeroMd (ea++eb)
 · refine .inr ?_;rw [c1 hf,List.foldl_append];have:=fold_put (ea.foldl El.put zeroMd) eb zeroMd;rw [app_zero] at this;rw [this]
 · exact .inl (c2 hf)
theorem join_bad {x b:Bs} {mx:Md} {ax:Int} (hx:parseM (x++[10])=(mx,ax,0)) (hb:(parseM b).2.2≠0) (hl:(x++10 :: b).length≤65536):(parseM (x++10 :: b)).2.2≠0:=by
 intro h0;obtain ⟨la,ea,h1,h2,h3,rfl⟩:=parseM_els hx;obtain ⟨l,es,k1,k2,k3,-⟩:=parseM_els (s:=x++10 :: b) (Prod.ext rfl (Prod.ext rfl h0))
 by_cases hab:(all b).2.2=0
 · have g0:all b=((all b).1,(all b).2.1,0):=Prod.ext rfl (Prod.ext rfl hab);obtain ⟨-,g1,-⟩:=all_toks g0;rw [g1] at g0;obtain ⟨l',j1,j2,j3⟩:=all_join h1 g0 hl;rw [k1] at j1;simp only [Prod.mk.injEq] at j1;obtain ⟨rfl,-,-⟩:=j1;obtain ⟨eb,rfl,e1⟩:=els_cut j3 j2 ea 0 es h2 (zl _) k2;have e2:=els_C j3 j2 eb 0 (by rw [Nat.zero_add];exact e1);have e3:=fits_right ea eb zeroMd k3;have e4:Fits zeroMd eb:=fits_app (ea.foldl El.put zeroMd) eb zeroMd (by rw [app_zero];exact e3);rw [(els_parseM g0 e2).1 e4] at hb;exact hb rfl
 · have:=all_join_bad h1 hl hab;rw [k1] at this;exact this rfl
end Go.Proofs.YtkhoeoilamddaaaGreatDoor
