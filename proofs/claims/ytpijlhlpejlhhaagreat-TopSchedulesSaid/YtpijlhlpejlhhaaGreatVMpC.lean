/- A range over a map that reads as a function. -/
import Derived.Test.YtpijlhlpejlhhaaGreatVMpA
namespace Go.Proofs.YtpijlhlpejlhhaaGreat
open Go.RowKit Go.Maps
set_option linter.unusedVariables false
section
variable {P:Program} {α β:Type} {t:MT P α β} {w w':World} {b r c cnt:Nat} {f:α→Option β} {done:List α}
/-- A range over the map in block b,iterator in block r: the keys in done have come. -/
structure xC(t:MT P α β)(w:World)(b r c:Nat)(f:α→Option β)(done:List α)(cnt:Nat):Prop where
 ex:∃(D:DataW Unit)(lf:Lit→Bool),w.ranges P t.k (plainElem P t.e) b r c D lf cnt∧size D=c∧(∀x,t.good x→match f x with|some y=>has D (t.kl x)=true∧∀z,D.atKey (t.kl x) z=.lit (t.lit y)|none=>has D (t.kl x)=false)∧(∀l,has D l=true→∃x,t.good x∧l=t.kl x)∧(∀l,lf l=true→has D l=true)∧∀x,t.good x→(lf (t.kl x)=true↔f x≠none∧x∉done)
 good:∀x,f x≠none→t.good x
 fine:∀x y,f x=some y→t.fine y
 nod:done.Nodup
 sub:∀x,x∈done→f x≠none
 le:cnt+done.length≤c
theorem xC.map(h:xC t w b r c f done cnt):bV t w b c f:=by
 obtain⟨⟨D,lf,h1,h2,h3,h4,-⟩,hg,hf,-⟩:=h;exact⟨⟨D,h1.owns,h2,h3,h4⟩,hg,hf⟩
theorem xC.ne(h:xC t w b r c f done cnt):r≠b:=by
 obtain⟨⟨D,lf,h1,-⟩,-⟩:=h;exact h1.ne
theorem xC.lt(h:xC t w b r c f done cnt):r<w.heap.size:=by
 obtain⟨⟨D,lf,h1,-⟩,-⟩:=h;exact h1.lt
theorem xC.left_eq(h:xC t w b r c f done cnt):w.rangeLeft b r=cnt:=by
 obtain⟨⟨D,lf,h1,-⟩,-⟩:=h;exact h1.left_eq
theorem xC.kept{row:Option Nat}(h:xC t w b r c f done cnt)(hg:w.grownBy w' row)(hb:some b≠row)(hr:some r≠row):xC t w' b r c f done cnt:=by
 obtain⟨⟨D,lf,h1,h2⟩,h3,h4,h5,h6,h7⟩:=h;exact⟨⟨D,lf,h1.kept hg hb hr,h2⟩,h3,h4,h5,h6,h7⟩
theorem bV.range(h:bV t w b c f):∃w',(Instr.range t.t (.map (some b))).run P w=.ok (.pointer (some ⟨w.heap.size,0,none⟩)) w'∧xC t w' b w.heap.size c f [] c∧w.grownBy w' none∧w'.heap.size=w.heap.size+1:=by
 obtain⟨⟨D,h1,h2,h3,h4⟩,hg,hf⟩:=h;obtain⟨w',e1,e2,e3,e4⟩:=h1.range t.law t.ut;rw[h2]at e2;refine⟨w',e1,⟨⟨D,_,e2,h2,h3,h4,fun l hl=>hl,fun x hx=>?_⟩,hg,hf,List.nodup_nil,fun x hx=>by simp at hx,by simp⟩,e3,e4⟩;have:=h3 x hx
 cases hfx:f x with
 |none=>rw[hfx]at this;simp only at this;simp[this]
 |some y=>rw[hfx]at this;simp[this.1]
theorem xC.next(h:xC t w b r c f done cnt)(ty:TypeId) :
 (cnt=0∧(∀x,f x≠none→x∈done)∧(Instr.next (.pointer (some ⟨r,0,none⟩)) false ty).run P w=.ok (.tuple #[.bool false]) w) ∨
 ∃x y w' cnt',f x=some y∧x∉done∧(Instr.next (.pointer (some ⟨r,0,none⟩)) false ty).run P w=.ok (.tuple #[.bool true,t.key x,t.val y]) w'∧xC t w' b r c f (done++[x]) cnt'∧cnt'<cnt∧w.grownBy w' (some r)∧w'.heap.size=w.heap.size ∧
  (Instr.entry (.pointer (some ⟨r,0,none⟩))).run P w'=.ok (.tuple #[t.key x,t.val y]) w':=by
 obtain⟨⟨D,lf,h1,h2,h3,h4,h5,h6⟩,hg,hf,hn,hs,hl⟩:=h
 rcases h1.next t.law ty with⟨e1,e2,e3⟩|⟨key,v,kl,z,w',cnt',e1,e2,e3,e4,e5,e6,e7,e8,e9,e10⟩
 ·refine .inl ⟨e1,fun x hx=>?_,e3⟩
  by_cases hd:x∈done
  ·exact hd
  ·have:=(h6 x (hg x hx)).2 ⟨hx,hd⟩;rw[e2]at this;cases this
 ·obtain⟨x,gx,rfl⟩:=h4 _ (h5 _ e2);obtain⟨fx,dx⟩:=(h6 x gx).1 e2;obtain⟨y,hy⟩:=Option.ne_none_iff_exists'.1 fx;have hk:key=t.key x:=t.law.inj e1 (t.qH gx);have h7:=h3 x gx;rw[hy]at h7;obtain⟨y',-,rfl,hz⟩:=t.MQ _ _ e3;have h8:=e4 (.lit (.bool false));rw[h7.2,hz]at h8;obtain rfl:y=y':=t.MR _ _ (by simpa using h8);subst hk;refine .inr ⟨x,y,w',cnt',hy,dx,e5,⟨⟨D,_,e6,h2,h3,h4,fun l hl'=>h5 l (by simp at hl';exact hl'.1),fun x' gx'=>?_⟩,hg,hf,?_,?_,by simp;omega⟩,e7,e8,e9,e10⟩
  ·have hsk:(t.kl x').sameKey (t.kl x)=true↔x'=x:=by
    constructor
    ·intro h9;exact t.zZ gx' gx (WideAt.sameKey_eq h9)
    ·rintro rfl;exact WideAt.sameKey_self (t.law.key (t.qH gx'))
   rw[Bool.and_eq_true,h6 x' gx'];simp only[Bool.not_eq_true',List.mem_append,List.mem_singleton,not_or];rw[←Bool.not_eq_true,hsk];exact and_assoc
  ·rw[List.nodup_append];exact⟨hn,by simp,fun a ha b' hb'=>by simp at hb';subst hb';exact fun e=>dx (e ▸ ha)⟩
  ·intro a ha
   rcases List.mem_append.1 ha with h9|h9
   ·exact hs a h9
   ·simp at h9;subst h9;rw[hy];simp
end
end Go.Proofs.YtpijlhlpejlhhaaGreat
