/- Walks and plain words: RndP RndQ RndR LexP RndS MdU. -/
import Derived.Test.YtkhoeoilamddaaaGreatDoorVParP
import Derived.Test.YtkhoeoilamddaaaGreatDoorVBld
import Derived.Test.YtkhoeoilamddaaaGreatDoorVTrmI
import Derived.Test.YtkhoeoilamddaaaGreatDoorVSml
import Derived.Test.YtkhoeoilamddaaaGreatDoorVLex6
namespace Go.Proofs.YtkhoeoilamddaaaGreatDoor
set_option linter.unusedVariables false
set_option linter.unusedSectionVars false
def At (l:List Tok) (i:Nat) (ts:List Tok):Prop:=∀ j t,ts[j]?=some t→∃ u,l[i+j]?=some u∧u.kind=t.kind∧u.n=t.n∧u.text=t.text
theorem At.left {l a b:List Tok} {i:Nat} (h:At l i (a++b)):At l i a:=fun j t hj=>h j t (by rw [List.getElem?_append_left (gE.1 hj).1];exact hj)
theorem At.le {l ts:List Tok} {i:Nat} (h:At l i ts) (h0:ts≠[]):i+ts.length≤l.length:=by
 have hl:0<ts.length:=List.length_pos_iff.2 h0;obtain ⟨u,hu,_⟩:=h (ts.length - 1) _ (gG (by omega));have:=(gE.1 hu).1;omega
section
variable {l:List Tok} {i:Nat} {u:Tok} (hu:l[i]?=some u)
include hu
end
def Follow (l:List Tok) (j k:Nat):Prop:=∀ op:Int,6≤op→op≤17→k≤ruleOf op→whichOp l j [op]=0
theorem Follow.mono {l:List Tok} {j k m:Nat} (h:Follow l j k) (hk:k≤m):Follow l j m:=fun op h1 h2 h3=>h op h1 h2 (by omega)
section
variable {l:List Tok}
end
section
variable {l:List Tok}
end
section
variable {l:List Tok}
end
open Go.RowKit
def Toks (l:Bs):Nat→List Tok→Prop
 | p,[]=>(next l p).2.2=0∧(next l p).1.kind=5
 | p,t :: r=>(next l p).2.2=0∧(next l p).1=t∧t.kind≠5∧Toks l (next l p).2.1 r
theorem allFrom_toks:∀ (n:Nat) (l:Bs) (p:Nat) (acc:List Tok),p≤l.length→l.length+1 - p≤n→∀ (ts:List Tok) (a:Int),allFrom l p acc=(ts,a,0)→∃ r,ts=acc++r∧Toks l p r
 | 0,l,p,acc,hp,hn,ts,a,h=>by omega
 | n+1,l,p,acc,hp,hn,ts,a,h=>by
  by_cases he:(next l p).2.2=0
  · by_cases hk:(next l p).1.kind=5
    · rw [allFrom_end he hk] at h;simp only [Prod.mk.injEq] at h;exact ⟨[],by simp [h.1],he,hk⟩
    · rw [allFrom_more hp he hk] at h
      rcases next_ok hp he with ⟨h3,_⟩ | ⟨_,h4,h5⟩
      · exact absurd h3 hk
      · obtain ⟨r,hr,ht⟩:=allFrom_toks n l _ _ h5 (by omega) ts a h;exact ⟨(next l p).1 :: r,by rw [hr];simp,he,rfl,hk,ht⟩
  · rw [allFrom_err he] at h;simp only [Prod.mk.injEq] at h;exact absurd h.2.2 he
theorem toks_allFrom:∀ (r:List Tok) (l:Bs) (p:Nat) (acc:List Tok),p≤l.length→Toks l p r→allFrom l p acc=(acc++r,0,0)
 | [],l,p,acc,hp,h=>by rw [allFrom_end h.1 h.2,List.append_nil]
 | t :: r,l,p,acc,hp,h=>by
  obtain ⟨he,ht,hk,hr⟩:=h;rw [allFrom_more hp he (by rw [ht];exact hk)]
  rcases next_ok hp he with ⟨h3,_⟩ | ⟨_,h4,h5⟩
  · rw [ht] at h3;exact absurd h3 hk
  · rw [toks_allFrom r l _ _ h5 hr,ht];simp
theorem all_toks {l:Bs} {ts:List Tok} {a:Int} (h:all l=(ts,a,0)):Toks l 0 ts∧a=0∧l.length≤65536:=by
 unfold all at h
 by_cases h1:65536<l.length
 · rw [iP h1] at h;simp at h
 · rw [iN h1] at h;obtain ⟨r,hr,ht⟩:=allFrom_toks (l.length+1) l 0 [] (zl _) (by omega) ts a h;rw [List.nil_append] at hr;subst hr;have:=toks_allFrom ts l 0 [] (zl _) ht
   change allF (l.length+1) l 0 []=_ at this
   rw [h] at this;simp only [Prod.mk.injEq] at this;exact ⟨ht,this.2.1,by omega⟩
theorem toks_all {l:Bs} {ts:List Tok} (hl:l.length≤65536) (h:Toks l 0 ts):all l=(ts,0,0):=by
 unfold all;rw [iN (by omega)];exact toks_allFrom ts l 0 [] (zl _) h
def Solid (l:Bs):Prop:=l=[]∨∃ c r,l=c :: r∧isWs c=false∧dashes l=false
theorem solid_blank {l:Bs} (h:Solid l):blank l=l:=by
 rcases h with rfl | ⟨c,r,rfl,h1,h2⟩
 · rfl
 · exact blank_stop h1 h2
theorem next_form {l:Bs} {p:Nat} (hp:p≤l.length) (h:(next l p).2.2=0):∃ (k:Int) (n len q:Nat) (r:Bs),blank (l.drop p)=r∧l.drop q=r∧q=l.length - r.length∧p≤q∧q≤l.length∧scan r=(k,n,len,0)∧len≤r.length∧next l p=(⟨k,n,r.take len,q⟩,q+len,0):=by
 have hb:=blank_len (l.drop p);rw [List.length_drop] at hb;have hsuf:blank (l.drop p) <:+ l:=(blank_suffix _).trans (List.drop_suffix _ _);have hd:=suffix_drop hsuf
 generalize hr:blank (l.drop p)=r at *
 have hs:scan r=((scan r).1,(scan r).2.1,(scan r).2.2.1,0):=by
  unfold next at h;rw [hr] at h;simp only at h
  split at h
  · rename_i he
    rw [←he]
  · rename_i he
    simp at h;exact absurd h he
 refine ⟨(scan r).1,(scan r).2.1,(scan r).2.2.1,l.length - r.length,r,rfl,hd,rfl,by omega,by omega,hs,?_,?_⟩
 · rcases scan_ok hs with ⟨_,_,h3,_⟩ | ⟨_,_,h3⟩ <;> omega
 · have:=next_eq (p:=p) hr hd (by omega) hs;rw [iP rfl] at this;exact this
def LexTo:List Tok→Bs→Prop
 | [],s=>blank s=[]
 | t :: r,s=>∃ n len:Nat,scan (blank s)=(t.kind,n,len,0)∧t.n=n∧t.text=(blank s).take len∧t.kind≠5∧LexTo r ((blank s).drop len)
theorem lexTo_toks:∀ (ts:List Tok) (l:Bs) (p:Nat),p≤l.length→LexTo ts (l.drop p)→∃ us,Toks l p us∧us.length=ts.length∧At us 0 ts
 | [],l,p,hp,h=>by
  have hb:blank (l.drop p)=[]:=h;have hq:l.drop l.length=[]:=by simp
  have hn:=next_eq hb hq (lr _) scan_end;rw [iP rfl] at hn;exact ⟨[],⟨by rw [hn],by rw [hn]⟩,rfl,fun j t hj=>by simp at hj⟩
 | t :: r,l,p,hp,h=>by
  obtain ⟨n,len,h1,h2,h3,h4,h5⟩:=h;have hsuf:blank (l.drop p) <:+ l:=(blank_suffix _).trans (List.drop_suffix _ _);have hd:=suffix_drop hsuf;have hlen:len≤(blank (l.drop p)).length:=by rcases scan_ok h1 with ⟨_,_,h6,_⟩ | ⟨_,_,h6⟩ <;> omega
  have hbl:=hsuf.length_le;have hn:=next_eq rfl hd (by omega) h1;rw [iP rfl] at hn;have hdr:(blank (l.drop p)).drop len=l.drop (l.length - (blank (l.drop p)).length+len):=by rw [←List.drop_drop,hd]
  rw [hdr] at h5;obtain ⟨us,u1,u2,u3⟩:=lexTo_toks r l _ (by omega) h5;refine ⟨(next l p).1 :: us,⟨by rw [hn],rfl,by rw [hn];exact h4,by rw [hn];exact u1⟩,by simp [u2],fun j x hj=>?_⟩
  cases j with
  | zero=>
   simp at hj;subst hj;exact ⟨(next l p).1,rfl,by rw [hn],by rw [hn,h2],by rw [hn,h3]⟩
  | succ j=>
   obtain ⟨u,hu,hx⟩:=u3 j x (by simpa using hj);exact ⟨u,by simpa [Nat.add_comm] using hu,hx⟩
theorem takeWhile_nl {p:UInt8→Bool} (h:p 10=false) (b:Bs):∀ x:Bs,(x++10 :: b).takeWhile p=x.takeWhile p
 | []=>by simp [List.takeWhile,h]
 | c :: x=>by
  rw [List.cons_append,List.takeWhile_cons,List.takeWhile_cons,takeWhile_nl h b x]
theorem dropWhile_nl {p:UInt8→Bool} (h:p 10=false) (b:Bs):∀ x:Bs,(x++10 :: b).dropWhile p=x.dropWhile p++10 :: b
 | []=>by simp [List.dropWhile,h]
 | c :: x=>by
  rw [List.cons_append,List.dropWhile_cons,List.dropWhile_cons]
  split
  · exact dropWhile_nl h b x
  · rfl
theorem rowLen_nl {p:UInt8→Bool} (h:p 10=false) (x b:Bs):rowLen p (x++10 :: b)=rowLen p x:=by
 unfold rowLen;rw [takeWhile_nl h]
theorem prefix_nl:∀ (s y b:Bs),(∀ c∈s,c≠10)→s.isPrefixOf (y++10 :: b)=s.isPrefixOf y
 | [],y,b,_=>by cases y <;> simp [List.isPrefixOf]
 | c :: s,[],b,h=>by
  have:=h c (by simp);simp [List.isPrefixOf,this]
 | c :: s,d :: y,b,h=>by
  rw [List.cons_append,List.isPrefixOf,List.isPrefixOf,prefix_nl s y b fun e he=>h e (by simp [he])]
theorem signIdx_nl (y b:Bs):∀ (L:List ByteArray) (k:Nat),(∀ x∈L,∀ c∈bs x,c≠10)→signIdx (y++10 :: b) L k=signIdx y L k
 | [],k,_=>rfl
 | x :: r,k,h=>by
  rw [signIdx,signIdx,prefix_nl _ _ _ (h x (by simp)),signIdx_nl y b r (k+1) fun z hz=>h z (by simp [hz])]
theorem sign_nl:∀ y∈signL,∀ c∈bs y,c≠10:=by decide
theorem take_nl (y b:Bs) {n:Nat} (h:n≤y.length):(y++10 :: b).take n=y.take n:=List.take_append_of_le_length h
theorem numSpec_nl {c:UInt8} {y:Bs} (b:Bs):numSpec (c :: y++10 :: b)=numSpec (c :: y):=by
 unfold numSpec;rw [rowLen_nl (by decide),take_nl _ _ (rowLen_le _ _)]
 rfl
theorem scan_nl {c:UInt8} {y:Bs} (b:Bs):scan (c :: y++10 :: b)=scan (c :: y):=by
 have e1:rowLen isInside (c :: y++10 :: b)=rowLen isInside (c :: y):=rowLen_nl (by decide) _ _;have e2:(c :: y++10 :: b).take (rowLen isInside (c :: y))=(c :: y).take (rowLen isInside (c :: y)):=take_nl _ _ (rowLen_le _ _);have e3:=numSpec_nl (c:=c) (y:=y) b;have e4:signIdx (c :: y++10 :: b) signL 0=signIdx (c :: y) signL 0:=signIdx_nl _ _ _ _ sign_nl;rw [List.cons_append] at e1 e2 e3 e4 ⊢;unfold scan;rw [e1,e2,e3,e4]
theorem blank_nl (b:Bs):∀ (n:Nat) (x:Bs),x.length≤n→(blank (x++[10])=[]∧blank (x++10 :: b)=blank b)∨∃ c y,blank (x++[10])=c :: y++[10]∧blank (x++10 :: b)=c :: y++10 :: b
 | n,[],_=>.inl ⟨by rw [List.nil_append,blank_ws (by decide)];rfl,by rw [List.nil_append,blank_ws (by decide)]⟩
 | 0,c :: x,h=>by simp at h
 | n+1,c :: x,h=>by
  simp only [List.length_cons] at h
  by_cases hw:isWs c=true
  · rw [List.cons_append,List.cons_append,blank_ws hw,blank_ws hw];exact blank_nl b n x (by omega)
  · have hd:∀ b',dashes (c :: x++10 :: b')=dashes (c :: x):=fun b'=>by
     unfold dashes Lib.hasPrefix;exact prefix_nl _ _ _ (by decide)
    by_cases hc:dashes (c :: x)=true
    · rw [blank_comment (l:=c :: x++[10]) (by rw [hd];exact hc),blank_comment (l:=c :: x++10 :: b) (by rw [hd];exact hc),dropWhile_nl (by decide),dropWhile_nl (by decide)];obtain ⟨r,hr⟩:=dashes_form hc;refine blank_nl b n _ ?_;rw [hr]
      have e:(45 :: 45 :: r:Bs).dropWhile notNl=r.dropWhile notNl:=by
       rw [List.dropWhile_cons,iP (by decide),List.dropWhile_cons,iP (by decide)]
      rw [e];have:=(List.dropWhile_suffix notNl (l:=r)).length_le
      injection hr with h1 h2
      rw [h2] at h;simp only [List.length_cons] at h;omega
    · have hcf:dashes (c :: x)=false:=by simpa using hc
      refine .inr ⟨c,x,?_,?_⟩
      · exact solid_blank (.inr ⟨c,_,rfl,by simpa using hw,by rw [hd [],hcf]⟩)
      · exact solid_blank (.inr ⟨c,_,rfl,by simpa using hw,by rw [hd b,hcf]⟩)
theorem scan_inside {c:UInt8} {y:Bs} {k:Int} {n len:Nat} (h:scan (c :: y)=(k,n,len,0)):len≤(c :: y).length:=by
 rcases scan_ok h with ⟨_,h1,_⟩ | ⟨_,_,h1⟩
 · cases h1
 · exact h1
theorem lexTo_of_blank {s s':Bs} (h:blank s=blank s'):∀ {ts:List Tok},LexTo ts s→LexTo ts s'
 | [],hl=>by show blank s'=[];rw [←h];exact hl
 | t :: r,hl=>by
  obtain ⟨n,len,h1,h2,h3,h4,h5⟩:=hl;exact ⟨n,len,by rw [←h];exact h1,h2,by rw [←h];exact h3,h4,by rw [←h];exact h5⟩
theorem lexTo_join {tb:List Tok} {b:Bs} (hb:LexTo tb b):∀ (ta:List Tok) (x:Bs),LexTo ta (x++[10])→LexTo (ta++tb) (x++10 :: b)
 | [],x,h=>by
  have h0:blank (x++[10])=[]:=h
  rcases blank_nl b x.length x (lr _) with ⟨-,h2⟩ | ⟨c,y,h1,-⟩
  · exact lexTo_of_blank h2.symm hb
  · rw [h0] at h1;cases h1
 | t :: r,x,h=>by
  obtain ⟨n,len,h1,h2,h3,h4,h5⟩:=h
  rcases blank_nl b x.length x (lr _) with ⟨e1,-⟩ | ⟨c,y,e1,e2⟩
  · rw [e1] at h1;simp only [scan,Prod.mk.injEq] at h1;exact absurd h1.1.symm h4
  · rw [e1,scan_nl] at h1;have hle:=scan_inside h1;rw [e1,take_nl _ _ hle] at h3;rw [e1,List.drop_append_of_le_length hle] at h5;refine ⟨n,len,by rw [e2,scan_nl];exact h1,h2,by rw [e2,take_nl _ _ hle];exact h3,h4,?_⟩;rw [e2,List.drop_append_of_le_length hle];exact lexTo_join hb r _ h5
theorem lexTo_split:∀ (ta:List Tok) (x b:Bs) (ts:List Tok),LexTo ta (x++[10])→LexTo ts (x++10 :: b)→∃ tb,LexTo tb b
 | [],x,b,ts,h,hs=>by
  have h0:blank (x++[10])=[]:=h
  rcases blank_nl b x.length x (lr _) with ⟨-,h2⟩ | ⟨c,y,h1,-⟩
  · exact ⟨ts,lexTo_of_blank h2 hs⟩
  · rw [h0] at h1;cases h1
 | t :: r,x,b,ts,h,hs=>by
  obtain ⟨n,len,h1,h2,h3,h4,h5⟩:=h
  rcases blank_nl b x.length x (lr _) with ⟨e1,-⟩ | ⟨c,y,e1,e2⟩
  · rw [e1] at h1;simp only [scan,Prod.mk.injEq] at h1;exact absurd h1.1.symm h4
  · rw [e1,scan_nl] at h1;have hle:=scan_inside h1;rw [e1,List.drop_append_of_le_length hle] at h5
    cases ts with
    | nil=>
     have hs0:blank (x++10 :: b)=[]:=hs;rw [hs0] at e2;cases e2
    | cons u us=>
     obtain ⟨n',len',g1,g2,g3,g4,g5⟩:=hs;rw [e2,scan_nl,h1] at g1;simp only [Prod.mk.injEq] at g1;obtain ⟨-,-,rfl,-⟩:=g1;rw [e2,List.drop_append_of_le_length hle] at g5;exact lexTo_split r _ b us h5 g5
theorem toks_lexTo:∀ (ts:List Tok) (l:Bs) (p:Nat),p≤l.length→Toks l p ts→LexTo ts (l.drop p)
 | [],l,p,hp,h=>by
  obtain ⟨h1,h2⟩:=h
  rcases next_ok hp h1 with ⟨-,h3,-⟩ | ⟨h3,-⟩
  · exact h3
  · exact absurd h2 h3
 | t :: r,l,p,hp,h=>by
  obtain ⟨h1,rfl,h3,h4⟩:=h;obtain ⟨k,n,len,q,s,e1,e2,e3,e4,e5,e6,e7⟩:=next_form hp h1
  rcases next_ok hp h1 with ⟨h5,-⟩ | ⟨-,h6,h7⟩
  · exact absurd h5 h3
  have ih:=toks_lexTo r l _ h7 h4;obtain ⟨e7,e8⟩:=e7;rw [e8] at h3 ih ⊢;subst e1;refine ⟨n,len,e6,rfl,rfl,h3,?_⟩;have e:(blank (l.drop p)).drop len=l.drop (q+len):=by rw [←List.drop_drop,e2]
  rw [e];exact ih
theorem all_join {x b:Bs} {la lb:List Tok} {a a':Int} (ha:all (x++[10])=(la,a,0)) (hb:all b=(lb,a',0)) (hl:(x++10 :: b).length≤65536):∃ us,all (x++10 :: b)=(us,0,0)∧us.length=la.length+lb.length∧At us 0 (la++lb):=by
 obtain ⟨t1,-,-⟩:=all_toks ha;obtain ⟨t2,-,-⟩:=all_toks hb;have h1:=toks_lexTo la _ 0 (zl _) t1;have h2:=toks_lexTo lb _ 0 (zl _) t2;rw [List.drop_zero] at h1 h2;obtain ⟨us,u1,u2,u3⟩:=lexTo_toks _ (x++10 :: b) 0 (zl _) (by rw [List.drop_zero];exact lexTo_join h2 la x h1);exact ⟨us,toks_all hl u1,by rw [u2,List.length_append],u3⟩
theorem all_join_bad {x b:Bs} {la:List Tok} {a:Int} (ha:all (x++[10])=(la,a,0)) (hl:(x++10 :: b).length≤65536) (hb:(all b).2.2≠0):(all (x++10 :: b)).2.2≠0:=by
 intro h0;obtain ⟨t1,-,-⟩:=all_toks ha;have h1:=toks_lexTo la _ 0 (zl _) t1;obtain ⟨t2,-,-⟩:=all_toks (l:=x++10 :: b) (ts:=(all (x++10 :: b)).1) (a:=(all (x++10 :: b)).2.1) (Prod.ext rfl (Prod.ext rfl h0));have h2:=toks_lexTo _ _ 0 (zl _) t2;rw [List.drop_zero] at h1 h2;obtain ⟨tb,h3⟩:=lexTo_split la x b _ h1 h2;obtain ⟨us,u1,-,-⟩:=lexTo_toks tb b 0 (zl _) (by rw [List.drop_zero];exact h3);have:=toks_all (by simp at hl;omega) u1;rw [this] at hb;exact hb rfl
end Go.Proofs.YtkhoeoilamddaaaGreatDoor
