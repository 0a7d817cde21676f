/- Walks and plain words: MdS MdT MwN MwNd. -/
import Derived.Test.YtkhoeoilamddaaaGreatDoorXFRdA
import Derived.Test.YtkhoeoilamddaaaGreatDoorXOpnM
namespace Go.Proofs.YtkhoeoilamddaaaGreatDoor
set_option linter.unusedVariables false
set_option linter.unusedSectionVars false
section
variable {l:List Tok}
theorem Nl {b:List Tok} {j:Nat} {t:Tok} (h:At l j (t :: b)) (k:Int):jd l j k=decide (t.kind=k):=by
 obtain ⟨u,hu,hk,-,hx⟩:=h.head;rw [D9 hu,hk]
theorem Qb {b:List Tok} {j:Nat} {t:Tok} (h:At l j (t :: b)):rC l j=t.n:=by
 obtain ⟨u,hu,hk,hn,hx⟩:=h.head;rw [M_ hu,hn]
theorem Zh {b:List Tok} {j:Nat} {t:Tok} (h:At l j (t :: b)):pJ l j=t.text:=by
 obtain ⟨u,hu,hk,hn,hx⟩:=h.head;rw [Jj hu,hx]
theorem Ee {s:ByteArray} {sign:Bs} {b:List Tok} {i:Nat} (h:At l i (wU s.data.toList :: sg sign :: b)):sV l sign i=.ok s (i+2):=by
 have h2:=h.tail;unfold sV nameP qJ;rw [Nl h,Zh h];simp only [wU,decide_true,if_true,Rs.then_ok];rw [dR h2];simp [sg]
theorem abe {n:Int} {b:List Tok} {i:Nat} (h:At l i (wW n++b)):GK l i=.ok n (i+(wW n).length):=by
 unfold wW at h ⊢
 by_cases hn:n<0
 · rw [iP hn] at h ⊢;have h1:At l i (sg [45] :: (FX (-n) :: b)):=h;have h2:=h1.tail;unfold GK;rw [dR h1];simp only [sg,decide_true,Bool.and_self,if_true];rw [Nl h2,Qb h2];simp [FX]
 · rw [iN hn] at h ⊢;have h1:At l i (FX n :: b):=h;unfold GK;rw [dR h1,Nl h1,Qb h1];simp [FX]
theorem aeO {t:Tm} (he:(aH t).2=0) {b:List Tok} {i:Nat} (h:At l i (jW t 0 true++sg [59] :: b)):OE l i=.ok t (i+(jW t 0 true).length):=by
 obtain ⟨s1,s2,-,-⟩:=Eb he;have hf:Follow l (i+(jW t 0 true).length) 0:=tJ h.right (by unfold closes;decide);unfold OE;rw [take_at s1 s2 h.left hf];simp
theorem ah8 {f:Fm} (he:(dX f).2=0) {b:List Tok} {i:Nat} (h:At l i (qA f 1++sg [59] :: b)):fmP l i=.ok f (i+(qA f 1).length):=by
 obtain ⟨hc,hb,-,-⟩:=Jm he;have hf:EB l (i+(qA f 1).length) 1:=K5 h.right (.inr ⟨by decide,by decide,by decide⟩);unfold fmP;rw [U4 hc hb h.left hf];simp
theorem aeP {v:Vr} (he:(mM v).2=0) {b:List Tok} {i:Nat} (h:At l i (vQ v++b)):OD l (i+1)=.ok v (i+(vQ v).length - 1):=by
 unfold mM at he
 by_cases h1:isName v.name.data.toList=false
 · rw [iP h1] at he;exact absurd he (by simp)
 rw [iN h1] at he;unfold vQ at h ⊢
 cases hb:v.bool with
 | true=>
  simp only [hb,if_true] at he h ⊢
  by_cases h2:v.lo≠0∨v.hi≠0
  · rw [iP h2] at he;exact absurd he (by simp)
  have h3:At l i (wd kV :: (wU v.name.data.toList :: sg [58] :: (wd vP :: sg [59] :: b))):=by simpa using h
  have h4:=h3.tail;have h5:=h4.tail.tail;unfold OD;rw [Ee h4,Rs.then_ok,dR h5];obtain ⟨nm,bl,lo,hi⟩:=v;simp only at hb h2 ⊢;have hlo:lo=0:=by omega
  have hhi:hi=0:=by omega
  subst hb hlo hhi;simp [wd]
 | false=>
  simp only [hb,Bool.false_eq_true,if_false] at he h ⊢;have h3:At l i (wd kV :: (wU v.name.data.toList :: sg [58] :: (wW v.lo++(sg [46,46] :: (wW v.hi++sg [59] :: b))))):=by simpa using h
  have h4:=h3.tail;have h5:At l (i+1+2) (wW v.lo++(sg [46,46] :: (wW v.hi++sg [59] :: b))):=h4.tail.tail;have h6:=h5.right;have h7:=h6.tail
  have hk:ah l (i+1+2) 3 vP=false:=by
   have:∃ t r,wW v.lo=t :: r∧t.kind≠3:=by
    unfold wW
    split
    · exact ⟨_,_,rfl,(by decide:(4:Int)≠3)⟩
    · exact ⟨_,_,rfl,(by decide:(1:Int)≠3)⟩
   obtain ⟨t,r,h8,h9⟩:=this;rw [h8] at h5;rw [dR (b:=r++_) h5];simp [h9]
  unfold OD;rw [Ee h4,Rs.then_ok,hk];simp only [Bool.false_eq_true,if_false];rw [abe h5,Rs.then_ok];unfold qJ;rw [dR h6];simp only [sg,decide_true,Bool.and_self,if_true,Rs.then_ok];rw [abe h7,Rs.then_ok];obtain ⟨nm,bl,lo,hi⟩:=v;simp only at hb ⊢;subst hb;simp;omega
theorem U8 {w:Bs} {d:Df} (he:(pQ w d).2=0) {b:List Tok} {i:Nat} (h:At l i (lX w d++b)):Mi l (i+1)=.ok d (i+(lX w d).length - 1):=by
 obtain ⟨h1,h2,-⟩:=Ed he;unfold lX at h ⊢;have h3:At l i (wd w :: (wU d.name.data.toList :: sg [58,61] :: (jW d.tm 0 true++sg [59] :: b))):=by simpa using h
 have h4:=h3.tail;have h5:=h4.tail.tail;unfold Mi;rw [Ee h4,Rs.then_ok,aeO h2 (i:=i+1+2) h5,Rs.then_ok];obtain ⟨nm,t⟩:=d;simp;omega
theorem K_ {w:Bs} {t:Tm} (he:(xM w t).2=0) {b:List Tok} {i:Nat} (h:At l i (jS w t++b)):OE l (i+1)=.ok t (i+(jS w t).length - 1):=by
 obtain ⟨h2,-⟩:=Jp he;unfold jS at h ⊢;have h3:At l i (wd w :: (jW t 0 true++sg [59] :: b)):=by simpa using h
 have h4:=h3.tail;rw [aeO h2 h4];simp;omega
theorem agI {d:Sp} (he:(Kl d).2=0) {b:List Tok} {i:Nat} (h:At l i (EC d++b)):GL l (i+1)=.ok d (i+(EC d).length - 1):=by
 obtain ⟨h1,h2,-⟩:=RO he;unfold EC at h ⊢;have h3:At l i (wd pI :: (wU d.name.data.toList :: sg [58] :: (qA d.fm 1++sg [59] :: b))):=by simpa using h
 have h4:=h3.tail;have h5:=h4.tail.tail;unfold GL;rw [Ee h4,Rs.then_ok,ah8 h2 (i:=i+1+2) h5,Rs.then_ok];obtain ⟨nm,t⟩:=d;simp;omega
theorem aeQ {a:List Tok} {b:List Tok} {i:Nat} {m:Md} (h:At l i ((a++[sg [59]])++b)):(qJ l (i+(a++[sg [59]]).length - 1) 4 [59]).then (fun _ k=>(.ok m k:Rs Md))=.ok m (i+(a++[sg [59]]).length):=by
 have h1:At l i (a++sg [59] :: b):=by simpa using h
 have h2:=h1.right;unfold qJ;rw [show i+(a++[sg [59]]).length - 1=i+a.length by simp,dR h2];simp [sg]
 try omega
theorem yN {m m':Md} {a b:List Tok} {i:Nat} (h:At l i ((a++[sg [59]])++b)) (hd:rH l m i=.ok m' (i+(a++[sg [59]]).length - 1)):m_ l m i=.ok m' (i+(a++[sg [59]]).length):=by
 unfold m_;rw [hd,Rs.then_ok];exact aeQ h
theorem uO {w w':Bs} {b:List Tok} {i:Nat} (h:At l i (wd w :: b)):ah l i 3 w'=decide (w=w'):=by
 rw [dR h]
 by_cases e:w=w' <;> simp [wd,e]
theorem aeR {m:Md} {v:Vr} {b:List Tok} {i:Nat} (he:(mM v).2=0) (hm:m.vars.length<64) (h:At l i (vQ v++b)):m_ l m i=.ok { m with vars:=m.vars++[v] } (i+(vQ v).length):=by
 have e:vQ v=(wd kV :: wU v.name.data.toList :: sg [58] :: (if v.bool then [wd vP] else wW v.lo++sg [46,46] :: wW v.hi))++[sg [59]]:=by unfold vQ;simp
 have hp:=aeP he h;rw [e] at h hp ⊢;refine yN h ?_;have hw:∀ w',ah l i 3 w'=decide (kV=w'):=fun w'=>uO (b:=_) (by simpa using h);unfold rH;rw [hw];simp only [decide_true,if_true];unfold nP;rw [iN (by omega),hp,Rs.then_ok]
theorem acu {m:Md} {d:Df} {b:List Tok} {i:Nat} (he:(pQ kW d).2=0) (hm:m.defs.length<64) (h:At l i (lX kW d++b)):m_ l m i=.ok { m with defs:=m.defs++[d] } (i+(lX kW d).length):=by
 have e:lX kW d=(wd kW :: wU d.name.data.toList :: sg [58,61] :: jW d.tm 0 true)++[sg [59]]:=by unfold lX;simp
 have hp:=U8 he h;rw [e] at h hp ⊢;refine yN h ?_;have hw:∀ w',ah l i 3 w'=decide (kW=w'):=fun w'=>uO (b:=_) (by simpa using h);unfold rH;simp only [hw];rw [iN (by decide),iP (by decide)];unfold nP;rw [iN (by omega),hp,Rs.then_ok]
theorem acv {m:Md} {d:Df} {b:List Tok} {i:Nat} (he:(pQ fE d).2=0) (hm:m.next.length<64) (h:At l i (lX fE d++b)):m_ l m i=.ok { m with next:=m.next++[d] } (i+(lX fE d).length):=by
 have e:lX fE d=(wd fE :: wU d.name.data.toList :: sg [58,61] :: jW d.tm 0 true)++[sg [59]]:=by unfold lX;simp
 have hp:=U8 he h;rw [e] at h hp ⊢;refine yN h ?_;have hw:∀ w',ah l i 3 w'=decide (fE=w'):=fun w'=>uO (b:=_) (by simpa using h);unfold rH;simp only [hw];rw [iN (by decide),iN (by decide),iN (by decide),iN (by decide),iP (by decide)];unfold nP;rw [iN (by omega),hp,Rs.then_ok]
theorem acw {m:Md} {t:Tm} {b:List Tok} {i:Nat} (he:(xM iA t).2=0) (hm:m.init.length<64) (h:At l i (jS iA t++b)):m_ l m i=.ok { m with init:=m.init++[t] } (i+(jS iA t).length):=by
 have e:jS iA t=(wd iA :: jW t 0 true)++[sg [59]]:=by unfold jS;simp
 have hp:=K_ he h;rw [e] at h hp ⊢;refine yN h ?_;have hw:∀ w',ah l i 3 w'=decide (iA=w'):=fun w'=>uO (b:=_) (by simpa using h);unfold rH;simp only [hw];rw [iN (by decide),iN (by decide),iP (by decide)];unfold nP;rw [iN (by omega),hp,Rs.then_ok]
theorem Zi {m:Md} {t:Tm} {b:List Tok} {i:Nat} (he:(xM eZ t).2=0) (hm:m.bF.length<64) (h:At l i (jS eZ t++b)):m_ l m i=.ok { m with bF:=m.bF++[t] } (i+(jS eZ t).length):=by
 have e:jS eZ t=(wd eZ :: jW t 0 true)++[sg [59]]:=by unfold jS;simp
 have hp:=K_ he h;rw [e] at h hp ⊢;refine yN h ?_;have hw:∀ w',ah l i 3 w'=decide (eZ=w'):=fun w'=>uO (b:=_) (by simpa using h);unfold rH;simp only [hw];rw [iN (by decide),iN (by decide),iN (by decide),iP (by decide)];unfold nP;rw [iN (by omega),hp,Rs.then_ok]
theorem Zj {m:Md} {t:Tm} {b:List Tok} {i:Nat} (he:(xM fP t).2=0) (hm:m.trans.length<64) (h:At l i (jS fP t++b)):m_ l m i=.ok { m with trans:=m.trans++[t] } (i+(jS fP t).length):=by
 have e:jS fP t=(wd fP :: jW t 0 true)++[sg [59]]:=by unfold jS;simp
 have hp:=K_ he h;rw [e] at h hp ⊢;refine yN h ?_;have hw:∀ w',ah l i 3 w'=decide (fP=w'):=fun w'=>uO (b:=_) (by simpa using h);unfold rH;simp only [hw];rw [iN (by decide),iN (by decide),iN (by decide),iN (by decide),iN (by decide),iP (by decide)];unfold nP;rw [iN (by omega),hp,Rs.then_ok]
theorem acy {m:Md} {t:Tm} {b:List Tok} {i:Nat} (he:(xM jL t).2=0) (hm:m.fair.length<64) (h:At l i (jS jL t++b)):m_ l m i=.ok { m with fair:=m.fair++[t] } (i+(jS jL t).length):=by
 have e:jS jL t=(wd jL :: jW t 0 true)++[sg [59]]:=by unfold jS;simp
 have hp:=K_ he h;rw [e] at h hp ⊢;refine yN h ?_;have hw:∀ w',ah l i 3 w'=decide (jL=w'):=fun w'=>uO (b:=_) (by simpa using h);unfold rH;simp only [hw];rw [iN (by decide),iN (by decide),iN (by decide),iN (by decide),iN (by decide),iN (by decide),iP (by decide)];unfold nP;rw [iN (by omega),hp,Rs.then_ok]
theorem acz {m:Md} {d:Sp} {b:List Tok} {i:Nat} (he:(Kl d).2=0) (hm:m.specs.length<64) (h:At l i (EC d++b)):m_ l m i=.ok { m with specs:=m.specs++[d] } (i+(EC d).length):=by
 have e:EC d=(wd pI :: wU d.name.data.toList :: sg [58] :: qA d.fm 1)++[sg [59]]:=by unfold EC;simp
 have hp:=agI he h;rw [e] at h hp ⊢;refine yN h ?_;have hw:∀ w',ah l i 3 w'=decide (pI=w'):=fun w'=>uO (b:=_) (by simpa using h);unfold rH;simp only [hw];rw [iN (by decide),iN (by decide),iN (by decide),iN (by decide),iN (by decide),iN (by decide),iN (by decide),iP (by decide)];unfold nP;rw [iN (by omega),hp,Rs.then_ok]
theorem rU {α:Type} {g:α→List Tok} {put:Md→α→Md} {len:Md→Nat} {ok:α→Prop} (hlen:∀ m x,len (put m x)=len m+1) (hne:∀ x,g x≠[]) (hd:∀ m x b i,ok x→len m<64→At l i (g x++b)→m_ l m i=.ok (put m x) (i+(g x).length)) :
 ∀ (r:List α) (m:Md) (i k:Nat) (b:List Tok),(∀ x∈r,ok x)→len m+r.length≤64→At l i (r.flatMap g++b)→r.length≤k→AB l k m i=AB l (k - r.length) (r.foldl put m) (i+(r.flatMap g).length)
 | [],m,i,k,b,_,_,_,_=>by simp
 | x :: r,m,i,k,b,hx,hl,hat,hk=>by
  have h1:At l i (g x++(r.flatMap g++b)):=by simpa using hat
  obtain ⟨q,rfl⟩:∃ q,k=q+1:=⟨k - 1,by simp at hk;omega⟩;have hle:=h1.left.le (hne x);have hp:0<(g x).length:=List.length_pos_iff.2 (hne x);simp only [List.length_cons] at hl hk;rw [AB,iN (by omega),hd m x _ i (hx x (by simp)) (by omega) h1,Rs.then_ok,rU hlen hne hd r (put m x) _ q b (fun y hy=>hx y (by simp [hy])) (by rw [hlen];omega) h1.right (by omega)];simp only [List.length_cons,List.foldl_cons,List.flatMap_cons,List.length_append];rw [show q+1 - (r.length+1)=q - r.length by omega,Nat.add_assoc]
end
theorem rV {α:Type} {β:Type} (get:β→List α) (set:β→List α→β) (h1:∀ m a b,set (set m a) b=set m b) (h2:∀ m a,get (set m a)=a) (h3:∀ m,set m (get m)=m):∀ (r:List α) (m:β),r.foldl (fun m x=>set m (get m++[x])) m=set m (get m++r)
 | [],m=>by simp [h3]
 | x :: r,m=>by
  rw [List.foldl_cons,rV get set h1 h2 h3 r,h1,h2];simp
theorem U9 {m:Md} (h:(kg m).2=0):parseM (kg m).1=(m,((kg m).1.length:Int),0):=by
 obtain ⟨hok,hs,hlen⟩:=Mj h;rw [hs];have hl:=aeN hok;obtain ⟨us,u1,u2,u3⟩:=F5 _ (vC m) 0 (zl _) (by rw [List.drop_zero];exact hl);have ha:=UD (by omega) u1
 have hat:At us 0 ((m.vars.flatMap vQ)++((m.defs.flatMap (lX kW))++((m.init.flatMap (jS iA))++((m.bF.flatMap (jS eZ))++((m.next.flatMap (lX fE))++((m.trans.flatMap (jS fP))++((m.fair.flatMap (jS jL))++((m.specs.flatMap EC)++[])))))))):=by
  have:=u3;unfold tkM at this
  simpa using this
 have hcnt:m.vars.length+m.defs.length+m.init.length+m.bF.length+m.next.length+m.trans.length+m.fair.length+m.specs.length≤us.length:=by
  have key:∀ {α:Type} (g:α→List Tok) (hg:∀ x,g x≠[]) (r:List α),r.length≤(r.flatMap g).length:=by
   intro α g hg r
   induction r with
   | nil=>simp
   | cons x r ih=>have:=List.length_pos_iff.2 (hg x);simp only [List.length_cons,List.flatMap_cons,List.length_append];omega
  have k1:=key vQ (fun x=>by simp [vQ]) m.vars;have k2:=key (lX kW) (fun x=>by simp [lX]) m.defs;have k3:=key (jS iA) (fun x=>by simp [jS]) m.init;have k4:=key (jS eZ) (fun x=>by simp [jS]) m.bF;have k5:=key (lX fE) (fun x=>by simp [lX]) m.next;have k6:=key (jS fP) (fun x=>by simp [jS]) m.trans;have k7:=key (jS jL) (fun x=>by simp [jS]) m.fair;have k8:=key EC (fun x=>by simp [EC]) m.specs;rw [u2];unfold tkM;simp only [List.length_append];omega
 obtain ⟨vs,ds,ins,ivs,ns,trs,fs,sps⟩:=m;obtain ⟨⟨l1,e1⟩,⟨l2,e2⟩,⟨l3,e3⟩,⟨l4,e4⟩,⟨l5,e5⟩,⟨l6,e6⟩,⟨l7,e7⟩,l8,e8⟩:=hok;simp only at l1 e1 l2 e2 l3 e3 l4 e4 l5 e5 l6 e6 l7 e7 l8 e8 hat hcnt;have s1:=rU (g:=vQ) (put:=fun m x=>{ m with vars:=m.vars++[x] }) (len:=fun m=>m.vars.length) (ok:=fun v=>(mM v).2=0) (fun m x=>by simp) (fun x=>by simp [vQ]) (fun m x b i he hm hat=>aeR he hm hat) vs bG 0 us.length _ e1 (by simpa [bG] using l1) hat (by omega);have t1:=hat.right;rw [rV (fun m:Md=>m.vars) (fun m a=>{ m with vars:=a }) (fun _ _ _=>rfl) (fun _ _=>rfl) (fun _=>rfl)] at s1;have s2:=rU (g:=lX kW) (put:=fun m x=>{ m with defs:=m.defs++[x] }) (len:=fun m=>m.defs.length) (ok:=fun v=>(pQ kW v).2=0) (fun m x=>by simp) (fun x=>by simp [lX]) (fun m x b i he hm hat=>acu he hm hat) ds { bG with vars:=bG.vars++vs } _ (us.length - vs.length) _ e2 (by simpa [bG] using l2) t1 (by omega);have t2:=t1.right;rw [rV (fun m:Md=>m.defs) (fun m a=>{ m with defs:=a }) (fun _ _ _=>rfl) (fun _ _=>rfl) (fun _=>rfl)] at s2
 have s3:=rU (g:=jS iA) (put:=fun m x=>{ m with init:=m.init++[x] }) (len:=fun m=>m.init.length) (ok:=fun v=>(xM iA v).2=0) (fun m x=>by simp) (fun x=>by simp [jS]) (fun m x b i he hm hat=>acw he hm hat) ins { bG with vars:=bG.vars++vs,defs:=bG.defs++ds } _ (us.length - vs.length - ds.length) _ e3 (by simpa [bG] using l3) t2 (by omega);have t3:=t2.right;rw [rV (fun m:Md=>m.init) (fun m a=>{ m with init:=a }) (fun _ _ _=>rfl) (fun _ _=>rfl) (fun _=>rfl)] at s3;have s4:=rU (g:=jS eZ) (put:=fun m x=>{ m with bF:=m.bF++[x] }) (len:=fun m=>m.bF.length) (ok:=fun v=>(xM eZ v).2=0) (fun m x=>by simp) (fun x=>by simp [jS]) (fun m x b i he hm hat=>Zi he hm hat) ivs { bG with vars:=bG.vars++vs,defs:=bG.defs++ds,init:=bG.init++ins } _ (us.length - vs.length - ds.length - ins.length) _ e4 (by simpa [bG] using l4) t3 (by omega);have t4:=t3.right;rw [rV (fun m:Md=>m.bF) (fun m a=>{ m with bF:=a }) (fun _ _ _=>rfl) (fun _ _=>rfl) (fun _=>rfl)] at s4
 have s5:=rU (g:=lX fE) (put:=fun m x=>{ m with next:=m.next++[x] }) (len:=fun m=>m.next.length) (ok:=fun v=>(pQ fE v).2=0) (fun m x=>by simp) (fun x=>by simp [lX]) (fun m x b i he hm hat=>acv he hm hat) ns { bG with vars:=bG.vars++vs,defs:=bG.defs++ds,init:=bG.init++ins,bF:=bG.bF++ivs } _ (us.length - vs.length - ds.length - ins.length - ivs.length) _ e5 (by simpa [bG] using l5) t4 (by omega);have t5:=t4.right;rw [rV (fun m:Md=>m.next) (fun m a=>{ m with next:=a }) (fun _ _ _=>rfl) (fun _ _=>rfl) (fun _=>rfl)] at s5;have s6:=rU (g:=jS fP) (put:=fun m x=>{ m with trans:=m.trans++[x] }) (len:=fun m=>m.trans.length) (ok:=fun v=>(xM fP v).2=0) (fun m x=>by simp) (fun x=>by simp [jS]) (fun m x b i he hm hat=>Zj he hm hat) trs { bG with vars:=bG.vars++vs,defs:=bG.defs++ds,init:=bG.init++ins,bF:=bG.bF++ivs,next:=bG.next++ns } _ (us.length - vs.length - ds.length - ins.length - ivs.length - ns.length) _ e6 (by simpa [bG] using l6) t5 (by omega);have t6:=t5.right;rw [rV (fun m:Md=>m.trans) (fun m a=>{ m with trans:=a }) (fun _ _ _=>rfl) (fun _ _=>rfl) (fun _=>rfl)] at s6
 have s7:=rU (g:=jS jL) (put:=fun m x=>{ m with fair:=m.fair++[x] }) (len:=fun m=>m.fair.length) (ok:=fun v=>(xM jL v).2=0) (fun m x=>by simp) (fun x=>by simp [jS]) (fun m x b i he hm hat=>acy he hm hat) fs { bG with vars:=bG.vars++vs,defs:=bG.defs++ds,init:=bG.init++ins,bF:=bG.bF++ivs,next:=bG.next++ns,trans:=bG.trans++trs } _ (us.length - vs.length - ds.length - ins.length - ivs.length - ns.length - trs.length) _ e7 (by simpa [bG] using l7) t6 (by omega);have t7:=t6.right;rw [rV (fun m:Md=>m.fair) (fun m a=>{ m with fair:=a }) (fun _ _ _=>rfl) (fun _ _=>rfl) (fun _=>rfl)] at s7;have s8:=rU (g:=EC) (put:=fun m x=>{ m with specs:=m.specs++[x] }) (len:=fun m=>m.specs.length) (ok:=fun v=>(Kl v).2=0) (fun m x=>by simp) (fun x=>by simp [EC]) (fun m x b i he hm hat=>acz he hm hat) sps { bG with vars:=bG.vars++vs,defs:=bG.defs++ds,init:=bG.init++ins,bF:=bG.bF++ivs,next:=bG.next++ns,trans:=bG.trans++trs,fair:=bG.fair++fs } _ (us.length - vs.length - ds.length - ins.length - ivs.length - ns.length - trs.length - fs.length) _ e8 (by simpa [bG] using l8) t7 (by omega);rw [rV (fun m:Md=>m.specs) (fun m a=>{ m with specs:=a }) (fun _ _ _=>rfl) (fun _ _=>rfl) (fun _=>rfl)] at s8
 have hend:∀ k (m:Md) i,us.length≤i→AB us k m i=.ok m i:=fun k m i hi=>by cases k <;> simp [AB,hi]
 have hall:AB us us.length bG 0=.ok ⟨vs,ds,ins,ivs,ns,trs,fs,sps⟩ us.length:=by
  rw [s1];(try simp only);rw [s2];(try simp only);rw [s3];(try simp only);rw [s4];(try simp only);rw [s5];(try simp only);rw [s6];(try simp only);rw [s7];(try simp only);rw [s8,hend _ _ _ (by rw [u2];unfold tkM;simp only [List.length_append];omega)];simp only [bG,List.nil_append]
  congr 1
  rw [u2];unfold tkM;simp only [List.length_append];omega
 unfold parseM;rw [ha];simp only [ne_eq,not_true_eq_false,if_false];rw [hall]
theorem U_ {t:Tm} (hc:t.check=0) (htl:iW t=true) (hl:vo t≤65536):(aH t).2=0∧(aH t).1.length≤vo t:=by
 have hlen:=GD t 0 true 1 (nY hc).1 (by omega);unfold aH;rw [iN (by omega),iN (by rw [htl];simp),iN (by omega)];exact ⟨rfl,hlen⟩
theorem Jq {op:Int} (h:op≠3∧op≠4∧op≠5):aN op=4:=by
 unfold aN;rw [iN h.2.2,iN h.2.1,iN h.1]
theorem Zk (p:Bool) (b:Bs):(uj p b).length≤b.length+2:=by
 cases p with
 | false=>show b.length≤_;omega
 | true=>show ([40]++b++[41]).length≤_;simp
theorem H9:∀ (N:Nat) (f:Fm) (d:Nat),f.size≤N→f.lI d→wL f=true→vO f≤65536→(lW f).2=0∧∀ least,least≤4→(aG f least).1.length≤vO f
 | 0,f,d,hN,_,_,_=>by cases f;rw [Fm.size] at hN;omega
 | N+1,f,d,hN,hok,htl,hl=>by
  rcases tN hok with ⟨ho,hne⟩ | ⟨ho,Gf,a,hk,hne⟩ | ⟨ho,Gf,a,b,hk,hne⟩
  · have hch:=((dY hok).2.1.2.2 ho).1;have hfl:vO f=4+vo f.tm:=by rw [hne,vO,iP rfl];rfl
    have htt:iW f.tm=true:=by
     rw [hne,wL] at htl
     simpa [Az] using htl
    obtain ⟨h1,h2⟩:=U_ hch htt (by omega);have hb:lW f=([91]++(aH f.tm).1++[93],(aH f.tm).2):=by unfold lW;rw [iP ho]
    have he:(lW f).2=0:=by rw [hb];exact h1
    refine ⟨he,fun least hle=>?_⟩;rw [C8 he,hb,dF (by rw [Jq ⟨by omega,by omega,by omega⟩];omega)];show ([91]++(aH f.tm).1++[93]).length≤_;simp;omega
  · have hs:f.size=1+Fm.aA f.kids:=by cases f;rw [Fm.size];rfl
    have hka:=Fm.aM (l:=f.kids) (t:=a) (by rw [hk];simp);have h1:=adj (op:=f.op) (by omega) a;rw [←hne] at h1;obtain ⟨ia,ib⟩:=H9 N a (d+1) (by omega) ((dY hok).2.2 a (by rw [hk];simp)) (by rw [←h1.2.2];exact htl) (by omega);have hb:=aeD (by omega) hk Gf;have he:(lW f).2=0:=by rw [hb];exact ia
    refine ⟨he,fun least hle=>?_⟩;rw [C8 he,hb,dF (by rw [Jq ⟨by omega,by omega,by omega⟩];omega)];show (jA f.op++(aG a 4).1).length≤_;have:=Tx f.op;have:=ib 4 (lr _);rw [List.length_append];omega
  · have hs:f.size=1+Fm.aA f.kids:=by cases f;rw [Fm.size];rfl
    have hka:=Fm.aM (l:=f.kids) (t:=a) (by rw [hk];simp);have hkb:=Fm.aM (l:=f.kids) (t:=b) (by rw [hk];simp);have h1:=WL (op:=f.op) (by omega) a b;rw [←hne] at h1;have ajO:wL a=true∧wL b=true:=by rw [h1.2.2] at htl;simpa using htl
    obtain ⟨ia,ib⟩:=H9 N a (d+1) (by omega) ((dY hok).2.2 a (by rw [hk];simp)) ajO.1 (by omega);obtain ⟨ja,jb⟩:=H9 N b (d+1) (by omega) ((dY hok).2.2 b (by rw [hk];simp)) ajO.2 (by omega);have hb:=aeE (by omega) hk Gf;rw [iN (by omega)] at hb;have he:(lW f).2=0:=by rw [hb];exact ja
    refine ⟨he,fun least hle=>?_⟩;rw [C8 he,hb];have hl1:fO f.op≤4:=by unfold fO;split <;> (try split) <;> (try split) <;> omega
    have hl2:gX f.op≤4:=by unfold gX;split <;> (try split) <;> (try split) <;> omega
    have e1:=ib _ hl1;have e2:=jb _ hl2;have e3:=aaH f.op
    by_cases h9:f.op=9∨f.op=13
    · rw [dF (by rw [Jq ⟨by omega,by omega,by omega⟩];omega)];have e4:=Pg f.op;have e5:=L_ f.op;show (eP f.op++(aG a (fO f.op)).1++uW f.op++(aG b (gX f.op)).1++cZ f.op).length≤_;simp only [List.length_append];omega
    · have e4:eP f.op=[]:=by unfold eP;rw [iN (by omega),iN (by omega)]
      have e5:cZ f.op=[]:=by unfold cZ;rw [iN h9]
      have e6:=Zk (decide (aN f.op<least)) (eP f.op++(aG a (fO f.op)).1++uW f.op++(aG b (gX f.op)).1++cZ f.op);rw [e4,e5] at e6;rw [e4,e5];refine Nat.le_trans e6 ?_;simp only [List.length_append,List.length_nil];omega
theorem acA {f:Fm} (hc:f.check=0) (htl:wL f=true) (hl:vO f≤65536):(dX f).2=0∧(dX f).1.length≤vO f:=by
 obtain ⟨h1,h2⟩:=H9 f.size f 1 (lr _) (qI hc).1 htl hl;have h3:=h2 1 (by omega);have h4:=CZ f 1;unfold dX;rw [iN (by omega),iN (by omega),iN (by omega)];exact ⟨rfl,h3⟩
section
variable {l:List Tok} (ht:∀ t∈l,Mf t)
include ht
theorem RP {i j:Nat} {k:Int} {s:Bs} {u:Unit} (h:qJ l i k s=.ok u j):j=i+1∧j≤l.length∧sD l j=sD l i+(s.length+1):=by
 unfold qJ at h
 by_cases hk:ah l i k s=true
 · rw [iP hk] at h;obtain ⟨-,rfl⟩:=bH h;obtain ⟨a,b⟩:=dW hk;exact ⟨rfl,a,b⟩
 · rw [iN hk] at h;cases h
theorem agJ {i j:Nat} {s:ByteArray} (h:nameP l i=.ok s j):j=i+1∧j≤l.length∧isName s.data.toList=true∧sD l j=sD l i+(s.data.toList.length+1):=by
 unfold nameP jd pJ at h
 cases hl:l[i]? with
 | none=>rw [hl] at h;simp at h
 | some t=>
  rw [hl] at h
  by_cases hk:t.kind=2
  · simp only [hk,decide_true,if_true] at h;obtain ⟨rfl,rfl⟩:=bH h;obtain ⟨h1,h2⟩:=gE.1 hl;refine ⟨rfl,h1,?_,?_⟩
    · exact (ht t (mG hl)).name hk
    · exact Gy hl
  · simp [hk] at h
theorem aeS {i j:Nat} {n:Int} (h:GK l i=.ok n j):i<j∧j≤l.length∧-255≤n∧n≤255∧sD l i+2≤sD l j:=by
 have key:∀ i,jd l i 1=true→i<l.length∧0≤rC l i∧rC l i≤255∧sD l i+2≤sD l (i+1):=by
  intro i hi;unfold jd at hi
  cases hl:l[i]? with
  | none=>rw [hl] at hi;simp at hi
  | some t=>
   have h1:=ht t (mG hl);refine ⟨(gE.1 hl).1,?_,?_,?_⟩
   · unfold rC;rw [hl];exact h1.n0
   · unfold rC;rw [hl];exact h1.n1
   · rw [Gy hl];have:=h1.pos;omega
 unfold GK at h
 by_cases hm:ah l i 4 [45]=true
 · rw [iP hm] at h;obtain ⟨a,b⟩:=dW hm
   by_cases hk:jd l (i+1) 1=true
   · rw [iP hk] at h;obtain ⟨rfl,rfl⟩:=bH h;obtain ⟨k1,k2,k3,k4⟩:=key _ hk;exact ⟨by omega,k1,by omega,by omega,by rw [b] at k4;simp at k4;show _≤sD l (i+1+1);omega⟩
   · rw [iN hk] at h;cases h
 · rw [iN hm] at h
   by_cases hk:jd l i 1=true
   · rw [iP hk] at h;obtain ⟨rfl,rfl⟩:=bH h;obtain ⟨k1,k2,k3,k4⟩:=key _ hk;exact ⟨by omega,k1,by omega,by omega,k4⟩
   · rw [iN hk] at h;cases h
theorem Nn {sign:Bs} {i j:Nat} {s:ByteArray} (h:sV l sign i=.ok s j):i<j∧j≤l.length∧isName s.data.toList=true∧sD l j=sD l i+(s.data.toList.length+1)+(sign.length+1):=by
 unfold sV at h;obtain ⟨x,k,h1,h2⟩:=then_ok h;obtain ⟨u,m,h3,h4⟩:=then_ok h2;obtain ⟨rfl,rfl⟩:=bH h4;obtain ⟨a1,a2,a3,a4⟩:=agJ ht h1;obtain ⟨b1,b2,b3⟩:=RP ht h3;exact ⟨by omega,b2,a3,by omega⟩
omit ht in
theorem aeT {n:Int} (h1:-255≤n) (h2:n≤255):(aO n).length≤4:=by
 unfold aO;have h3:=Pm n.natAbs (by omega)
 split
 · simp;omega
 · omega
theorem agK {i j:Nat} {v:Vr} (h:OD l i=.ok v j):i<j∧j≤l.length∧(mM v).2=0∧(mM v).1.length+4*sD l i≤4*sD l j+20:=by
 unfold OD at h;obtain ⟨s,k,h1,h2⟩:=then_ok h;obtain ⟨a1,a2,a3,a4⟩:=Nn ht h1;simp at a4
 by_cases hb:ah l k 3 vP=true
 · rw [iP hb] at h2;obtain ⟨rfl,rfl⟩:=bH h2;obtain ⟨b1,b2⟩:=dW hb
   have hv:mM ⟨s,true,0,0⟩=(kV++[32]++s.data.toList++[32,58,32]++vP++AJ,0):=by
    unfold mM;simp [a3]
   rw [hv];simp [kV,vP,AJ] at b2 ⊢;omega
 · rw [iN hb] at h2;obtain ⟨lo,m,h3,h4⟩:=then_ok h2;obtain ⟨u,p,h5,h6⟩:=then_ok h4;obtain ⟨hi,q,h7,h8⟩:=then_ok h6;obtain ⟨rfl,rfl⟩:=bH h8;obtain ⟨c1,c2,c3,c4,c5⟩:=aeS ht h3;obtain ⟨d1,d2,d3⟩:=RP ht h5;obtain ⟨e1,e2,e3,e4,e5⟩:=aeS ht h7;have f1:=aeT c3 c4;have f2:=aeT e3 e4;have akU:(vB lo || vB hi)=false:=by simp [vB];omega
   have hv:mM ⟨s,false,lo,hi⟩=(kV++[32]++s.data.toList++[32,58,32]++aO lo++[32,46,46,32]++aO hi++AJ,0):=by
    unfold mM;simp [a3,akU]
   rw [hv];simp [kV,AJ] at d3 ⊢;omega
theorem aeU {i j:Nat} {t:Tm} (hs:xU l≤4000) (h:OE l i=.ok t j):i<j∧j≤l.length∧(aH t).2=0∧(aH t).1.length+4*sD l i≤4*sD l j:=by
 unfold OE at h
 by_cases hz:(iU l i).2.2≠0
 · rw [iP hz] at h;cases h
 rw [iN hz] at h;obtain ⟨rfl,rfl⟩:=bH h;obtain ⟨g1,g2⟩:=wM (l:=l) (i:=i) (j:=(iU l i).2.1) (t:=(iU l i).1) (Prod.ext rfl (Prod.ext rfl (show (iU l i).2.2=0 by omega)));have hn:Gz l:=fun t h=>(ht t h).name;have hw:=QM l (iU l i).2.1;have hlen:=zL ht;have hg:=g2.len;obtain ⟨s1,s2⟩:=U_ g1 (g2.told hn) (by omega);exact ⟨g2.ij,g2.jl,s1,by omega⟩
theorem ah9 {i j:Nat} {f:Fm} (hs:xU l≤4000) (h:fmP l i=.ok f j):i<j∧j≤l.length∧(dX f).2=0∧(dX f).1.length+4*sD l i≤4*sD l j:=by
 unfold fmP at h
 by_cases hz:(nN l i).2.2≠0
 · rw [iP hz] at h;cases h
 rw [iN hz] at h;obtain ⟨rfl,rfl⟩:=bH h;obtain ⟨g1,g2⟩:=GJ (l:=l) (i:=i) (j:=(nN l i).2.1) (f:=(nN l i).1) (Prod.ext rfl (Prod.ext rfl (show (nN l i).2.2=0 by omega)));have hn:Gz l:=fun t h=>(ht t h).name;have hw:=QM l (nN l i).2.1;have hlen:=zL ht;have hg:=g2.len;obtain ⟨s1,s2⟩:=acA g1 (g2.told hn) (by omega);exact ⟨g2.ij,g2.jl,s1,by omega⟩
theorem abf {w:Bs} {i j:Nat} {d:Df} (hs:xU l≤4000) (hw:w.length≤5) (h:Mi l i=.ok d j):i<j∧j≤l.length∧(pQ w d).2=0∧(pQ w d).1.length+4*sD l i≤4*sD l j+20:=by
 unfold Mi at h;obtain ⟨s,k,h1,h2⟩:=then_ok h;obtain ⟨t,m,h3,h4⟩:=then_ok h2;obtain ⟨rfl,rfl⟩:=bH h4;obtain ⟨a1,a2,a3,a4⟩:=Nn ht h1;obtain ⟨b1,b2,b3,b4⟩:=aeU ht hs h3
 have hv:pQ w ⟨s,t⟩=(w++[32]++s.data.toList++[32,58,61,32]++(aH t).1++AJ,0):=by
  unfold pQ;simp [a3,b3]
 rw [hv];simp [AJ] at a4 ⊢;omega
theorem RQ {w:Bs} {i j:Nat} {t:Tm} (hs:xU l≤4000) (hw:w.length≤5) (h:OE l i=.ok t j):i<j∧j≤l.length∧(xM w t).2=0∧(xM w t).1.length+4*sD l i≤4*sD l j+20:=by
 obtain ⟨b1,b2,b3,b4⟩:=aeU ht hs h
 have hv:xM w t=(w++[32]++(aH t).1++AJ,0):=by
  unfold xM;simp [b3]
 rw [hv];simp [AJ];omega
theorem aeV {i j:Nat} {d:Sp} (hs:xU l≤4000) (h:GL l i=.ok d j):i<j∧j≤l.length∧(Kl d).2=0∧(Kl d).1.length+4*sD l i≤4*sD l j+20:=by
 unfold GL at h;obtain ⟨s,k,h1,h2⟩:=then_ok h;obtain ⟨t,m,h3,h4⟩:=then_ok h2;obtain ⟨rfl,rfl⟩:=bH h4;obtain ⟨a1,a2,a3,a4⟩:=Nn ht h1;obtain ⟨b1,b2,b3,b4⟩:=ah9 ht hs h3
 have hv:Kl ⟨s,t⟩=(pI++[32]++s.data.toList++[32,58,32]++(dX t).1++AJ,0):=by
  unfold Kl;simp [a3,b3]
 rw [hv];simp [AJ,pI] at a4 ⊢;omega
omit ht in
theorem yO {α:Type} {n i j:Nat} {p:Nat→Rs α} {x:α} (h:nP n p i=.ok x j):n<64∧p (i+1)=.ok x j:=by
 unfold nP at h
 by_cases hn:64≤n
 · rw [iP hn] at h;cases h
 · rw [iN hn] at h;exact ⟨by omega,h⟩
omit ht in
theorem C_ {α:Type} {f:α→BE} {r:List α} {x:α} (h:r.length≤64∧∀ y∈r,(f y).2=0) (hn:r.length<64) (hx:(f x).2=0):(r++[x]).length≤64∧∀ y∈r++[x],(f y).2=0:=by
 refine ⟨by simp;omega,fun y hy=>?_⟩
 rcases List.mem_append.1 hy with hy | hy
 · exact h.2 y hy
 · simp at hy;subst hy;exact hx
theorem aeW (hs:xU l≤4000) {m m':Md} {i j:Nat} (hm:I5 m) (h:rH l m i=.ok m' j):i<j∧j≤l.length∧I5 m'∧(vC m').length+4*sD l i≤(vC m).length+4*sD l j+8:=by
 have hw:∀ (w:Bs),ah l i 3 w=true→3≤w.length→sD l (i+1) ≥ sD l i+4:=fun w hw hl=>by
  obtain ⟨a,b⟩:=dW hw;omega
 unfold rH at h
 by_cases c1:ah l i 3 kV=true
 · rw [iP c1] at h;obtain ⟨x,k,h1,h2⟩:=then_ok h;obtain ⟨rfl,rfl⟩:=bH h2;obtain ⟨n1,n2⟩:=yO h1;obtain ⟨p1,p2,p3,p4⟩:=agK ht n2;have:=hw _ c1 (by decide);refine ⟨by omega,p2,{ hm with vars:=C_ hm.vars n1 p3 },?_⟩;simp only [vC,List.flatMap_append,List.flatMap_cons,List.flatMap_nil,List.append_nil,List.length_append] at p4 ⊢;omega
 rw [iN c1] at h
 by_cases c2:ah l i 3 kW=true
 · rw [iP c2] at h;obtain ⟨x,k,h1,h2⟩:=then_ok h;obtain ⟨rfl,rfl⟩:=bH h2;obtain ⟨n1,n2⟩:=yO h1;obtain ⟨p1,p2,p3,p4⟩:=abf ht (w:=kW) hs (by decide) n2;have:=hw _ c2 (by decide);refine ⟨by omega,p2,{ hm with defs:=C_ hm.defs n1 p3 },?_⟩;simp only [vC,List.flatMap_append,List.flatMap_cons,List.flatMap_nil,List.append_nil,List.length_append] at p4 ⊢;omega
 rw [iN c2] at h
 by_cases c3:ah l i 3 iA=true
 · rw [iP c3] at h;obtain ⟨x,k,h1,h2⟩:=then_ok h;obtain ⟨rfl,rfl⟩:=bH h2;obtain ⟨n1,n2⟩:=yO h1;obtain ⟨p1,p2,p3,p4⟩:=RQ ht (w:=iA) hs (by decide) n2;have:=hw _ c3 (by decide);refine ⟨by omega,p2,{ hm with init:=C_ hm.init n1 p3 },?_⟩;simp only [vC,List.flatMap_append,List.flatMap_cons,List.flatMap_nil,List.append_nil,List.length_append] at p4 ⊢;omega
 rw [iN c3] at h
 by_cases c4:ah l i 3 eZ=true
 · rw [iP c4] at h;obtain ⟨x,k,h1,h2⟩:=then_ok h;obtain ⟨rfl,rfl⟩:=bH h2;obtain ⟨n1,n2⟩:=yO h1;obtain ⟨p1,p2,p3,p4⟩:=RQ ht (w:=eZ) hs (by decide) n2;have:=hw _ c4 (by decide);refine ⟨by omega,p2,{ hm with bF:=C_ hm.bF n1 p3 },?_⟩;simp only [vC,List.flatMap_append,List.flatMap_cons,List.flatMap_nil,List.append_nil,List.length_append] at p4 ⊢;omega
 rw [iN c4] at h
 by_cases c5:ah l i 3 fE=true
 · rw [iP c5] at h;obtain ⟨x,k,h1,h2⟩:=then_ok h;obtain ⟨rfl,rfl⟩:=bH h2;obtain ⟨n1,n2⟩:=yO h1;obtain ⟨p1,p2,p3,p4⟩:=abf ht (w:=fE) hs (by decide) n2;have:=hw _ c5 (by decide);refine ⟨by omega,p2,{ hm with next:=C_ hm.next n1 p3 },?_⟩;simp only [vC,List.flatMap_append,List.flatMap_cons,List.flatMap_nil,List.append_nil,List.length_append] at p4 ⊢;omega
 rw [iN c5] at h
 by_cases c6:ah l i 3 fP=true
 · rw [iP c6] at h;obtain ⟨x,k,h1,h2⟩:=then_ok h;obtain ⟨rfl,rfl⟩:=bH h2;obtain ⟨n1,n2⟩:=yO h1;obtain ⟨p1,p2,p3,p4⟩:=RQ ht (w:=fP) hs (by decide) n2;have:=hw _ c6 (by decide);refine ⟨by omega,p2,{ hm with trans:=C_ hm.trans n1 p3 },?_⟩;simp only [vC,List.flatMap_append,List.flatMap_cons,List.flatMap_nil,List.append_nil,List.length_append] at p4 ⊢;omega
 rw [iN c6] at h
 by_cases c7:ah l i 3 jL=true
 · rw [iP c7] at h;obtain ⟨x,k,h1,h2⟩:=then_ok h;obtain ⟨rfl,rfl⟩:=bH h2;obtain ⟨n1,n2⟩:=yO h1;obtain ⟨p1,p2,p3,p4⟩:=RQ ht (w:=jL) hs (by decide) n2;have:=hw _ c7 (by decide);refine ⟨by omega,p2,{ hm with fair:=C_ hm.fair n1 p3 },?_⟩;simp only [vC,List.flatMap_append,List.flatMap_cons,List.flatMap_nil,List.append_nil,List.length_append] at p4 ⊢;omega
 rw [iN c7] at h
 by_cases c8:ah l i 3 pI=true
 · rw [iP c8] at h;obtain ⟨x,k,h1,h2⟩:=then_ok h;obtain ⟨rfl,rfl⟩:=bH h2;obtain ⟨n1,n2⟩:=yO h1;obtain ⟨p1,p2,p3,p4⟩:=aeV ht hs n2;have:=hw _ c8 (by decide);refine ⟨by omega,p2,{ hm with specs:=C_ hm.specs n1 p3 },?_⟩;simp only [vC,List.flatMap_append,List.flatMap_cons,List.flatMap_nil,List.append_nil,List.length_append] at p4 ⊢;omega
 rw [iN c8] at h;cases h
theorem aeX (hs:xU l≤4000) {m m':Md} {i j:Nat} (hm:I5 m) (h:m_ l m i=.ok m' j):i<j∧j≤l.length∧I5 m'∧(vC m').length+4*sD l i≤(vC m).length+4*sD l j:=by
 unfold m_ at h;obtain ⟨x,k,h1,h2⟩:=then_ok h;obtain ⟨u,p,h3,h4⟩:=then_ok h2;obtain ⟨rfl,rfl⟩:=bH h4;obtain ⟨a1,a2,a3,a4⟩:=aeW ht hs hm h1;obtain ⟨b1,b2,b3⟩:=RP ht h3;simp at b3;exact ⟨by omega,b2,a3,by omega⟩
theorem abg (hs:xU l≤4000):∀ (k:Nat) (m m':Md) (i j:Nat),I5 m→AB l k m i=.ok m' j→I5 m'∧(vC m').length+4*sD l i≤(vC m).length+4*sD l j
 | 0,m,m',i,j,hm,h=>by
  rw [AB] at h;obtain ⟨rfl,rfl⟩:=bH h;exact ⟨hm,lr _⟩
 | k+1,m,m',i,j,hm,h=>by
  rw [AB] at h
  by_cases hl:l.length≤i
  · rw [iP hl] at h;obtain ⟨rfl,rfl⟩:=bH h;exact ⟨hm,lr _⟩
  · rw [iN hl] at h;obtain ⟨x,p,h1,h2⟩:=then_ok h;obtain ⟨a1,a2,a3,a4⟩:=aeX ht hs hm h1;obtain ⟨b1,b2⟩:=abg hs k x m' p j a3 h2;exact ⟨b1,by omega⟩
end
theorem Qc:I5 bG:=by
 refine ⟨⟨by simp [bG],fun x hx=>?_⟩,⟨by simp [bG],fun x hx=>?_⟩,⟨by simp [bG],fun x hx=>?_⟩,⟨by simp [bG],fun x hx=>?_⟩,⟨by simp [bG],fun x hx=>?_⟩,⟨by simp [bG],fun x hx=>?_⟩,⟨by simp [bG],fun x hx=>?_⟩,⟨by simp [bG],fun x hx=>?_⟩⟩ <;> cases hx
theorem RU {s:Bs} {m:Md} {a:Int} (hs:s.length≤4000) (h:parseM s=(m,a,0)):(kg m).2=0:=by
 unfold parseM at h
 by_cases h1:(all s).2.2≠0
 · rw [iP h1] at h;simp only [Prod.mk.injEq] at h;exact absurd h.2.2 h1
 rw [iN h1] at h;obtain ⟨hok1,hok2,al8⟩:=WJ s;obtain ⟨l,hl⟩:=aj ((all s).1);rw [←hl] at h hok1 hok2;have hw:=fun k=>QM l k;have hlen:=zL hok1
 cases hr:AB l l.length bG 0 with
 | bad j e=>
  rw [hr] at h;simp only [Prod.mk.injEq] at h;obtain ⟨hm,-,-⟩:=h;rw [←hm,TU Qc (by decide)]
 | ok x j=>
  rw [hr] at h;simp only [Prod.mk.injEq] at h;obtain ⟨rfl,-,-⟩:=h;obtain ⟨k1,k2⟩:=abg hok1 (by omega) _ _ _ _ _ Qc hr;have h0:(vC bG).length=0:=rfl;have:=hw j;rw [TU k1 (by omega)]
open Go.RowKit
theorem Vb {f:Fm} (h:(dX f).2=0):f.bT≤9000000:=by
 obtain ⟨hc,he,hs,hlen⟩:=Jm h;have hl:=(RL f.size f 1 (lr _) (qI hc).1 he).2 1 [] [] (fun c h=>by cases h) rfl;rw [List.append_nil,List.append_nil] at hl;obtain ⟨us,u1,u2,u3⟩:=F5 _ (aG f 1).1 0 (zl _) (by rw [List.drop_zero];exact hl);have ha:=UD (by omega) u1
 have ht:=U4 hc he (i:=0) u3 (show EB us _ _ from by
  have hn:us[(qA f 1).length]?=none:=List.getElem?_eq_none (by rw [u2];exact lr _)
  refine ⟨fun _=>?_,fun _=>?_,fun _=>?_⟩ <;> simp [ah,hn])
 have hg:=GJ ht;have hok:=WJ (aG f 1).1;rw [ha] at hok;simp only at hok;have h4:=hg.2.sz;have h5:=hg.2.jl;have h6:=zL hok.1;omega
theorem shT {t:Tm} (h:t.size≤9000000):ShX t:=fun A c W hV hT=>Ej t A c W hV h hT
theorem shF {f:Fm} (h:f.bT≤9000000):aho f:=fun Ae ce A c W hV hT=>Qe f Ae ce A c W h hV hT
theorem acB {m:Md} (h:PX m):JQ m:=⟨fun d hd=>shT (Nat.le_trans (h.defs d hd) (by decide)),fun d hd=>shT (Nat.le_trans (h.init d hd) (by decide)),fun d hd=>shT (Nat.le_trans (h.bF d hd) (by decide)),fun d hd=>shT (Nat.le_trans (h.next d hd) (by decide)),fun d hd=>shT (Nat.le_trans (h.trans d hd) (by decide)),fun d hd=>shT (Nat.le_trans (h.fair d hd) (by decide)),fun d hd=>shF (Nat.le_trans (h.specs d hd) (by decide))⟩
theorem Jz {t:Tm} (h:(aH t).2=0):ShX t:=shT (by
 unfold aH at h
 by_cases hc:t.check≠0
 · rw [iP hc] at h;exact absurd h hc
 · have:=(nY (t:=t) (by omega)).2;omega)
theorem aij {f:Fm} (h:(dX f).2=0):aho f:=shF (Vb h)
theorem Li {s:ByteArray} (h:isName s.data.toList=true):s.size≤maxLen:=by
 have h1:s.size≤24:=AP h;unfold maxLen;omega
theorem acC {v:Vr} (h:(mM v).2=0):isName v.name.data.toList=true:=by
 unfold mM at h
 by_cases hn:isName v.name.data.toList=false
 · rw [iP hn] at h;cases h
 · exact K8 hn
theorem ae0 {m:Md} (h:I5 m):JQ m∧WZ m:=
 ⟨⟨fun d hd=>Jz (Ed (h.defs.2 d hd)).2.1,fun d hd=>Jz (Jp (h.init.2 d hd)).1,fun d hd=>Jz (Jp (h.bF.2 d hd)).1,fun d hd=>Jz (Ed (h.next.2 d hd)).2.1,fun d hd=>Jz (Jp (h.trans.2 d hd)).1,fun d hd=>Jz (Jp (h.fair.2 d hd)).1,fun d hd=>aij (RO (h.specs.2 d hd)).2.1⟩,
   ⟨fun d hd=>Li (acC (h.vars.2 d hd)),fun d hd=>Li (Ed (h.defs.2 d hd)).1,fun d hd=>Li (Ed (h.next.2 d hd)).1,fun d hd=>Li (RO (h.specs.2 d hd)).1⟩⟩
theorem acD:JQ IG:=⟨(fun d h=>by simp [IG] at h),(fun d h=>by simp [IG] at h),(fun d h=>by simp [IG] at h),
 (fun d h=>by
   have h:d=⟨⟨#[110]⟩,j6 0⟩:=by simpa [IG] using h
   subst h
   exact shT (of_decide_eq_true (by kernel_rfl))),
 (fun d h=>by simp [IG] at h),(fun d h=>by simp [IG] at h),
 (fun d h=>by
   have h:d=⟨⟨#[115]⟩,fT 7 [.mk 1 (dD 10 [iH 3 [110],j6 1]) []]⟩:=by simpa [IG] using h
   subst h
   exact shF (of_decide_eq_true (by kernel_rfl)))⟩
theorem Zp (V:Nat→Value) (m:Md) (s:ByteArray) (w:World) (hM:Km w V m) (hNm:WZ m) (hL:aa5 m) (hs:s.size≤maxLen) (hT:Tables w) :
 Calls Tryz.prog 5 #[.agg #[V 0,V 1,V 2,V 3,V 4,V 5,V 6,V 7],.string s] w (EA w):=
 Kt acD (fun m h=>acB h) (fun s m a h1 h2=>by
  have h3:=RU h1 h2;obtain ⟨h4,h5⟩:=ae0 (Mj h3).1
  exact ⟨h4,h5,h3⟩)
  (fun m h=>⟨U9 h,by obtain ⟨-,h1,h2⟩:=Mj h;rw [h1];unfold maxLen;omega⟩) V m s w hM hNm hL hs hT
open Go.ChangeShapes Go.WideShapes Go.ChangeAt Go.RowKit
open Go.ChangeMaps (open_string shut_string)
set_option maxRecDepth 100000
namespace lawModtextBack
theorem lifted (os:Os) (started:os.Started) (H:Type) (enc:TypeId×Value→H) :
 ReturnsInHanded {} Tryz.checked os 5 .any (fun w args=>(Rows.modtextBackSpec.pre enc Tryz.prog Tryz.f5 Rows.modtextBackRow.domain false w args∧laidMetH Tryz.prog Rows.modtextBackRow.laid w)∧sizedMet enc Tryz.prog Tryz.f5 (OpenSpec.ofChange Rows.modtextBackSpec) false w args)
  (Rows.modtextBackSpec.post enc Tryz.prog Tryz.f5 false true false false):=by
 refine returnsInHanded_of_change_and (C:=Tryz.checked) (X:=fun w _=>laidMetH Tryz.prog Rows.modtextBackRow.laid w) (fun _ _ _ hh h=>h.of_heap hh) own started (by kernel_rfl) Tryz.func5
  (ChangeSpec.witness_shaped (enc:=enc) (C:=Tryz.checked) (os:=os) (X:=fun w _=>laidMetH Tryz.prog Rows.modtextBackRow.laid w) false (World.laidAll Tryz.prog os Rows.modtextBackRow.laid) #[.agg #[.slice none 0 0,.slice none 0 0,.slice none 0 0,.slice none 0 0,.slice none 0 0,.slice none 0 0,.slice none 0 0,.slice none 0 0],.string ⟨#[]⟩] 8 (World.laidAll_os _ _ _)
    (World.shaped_of_ZipB (by kernel_rfl) (by kernel_rfl)) (by kernel_rfl) (by kernel_rfl) (by kernel_rfl)
    (by rw [MakeChecks.laidMetH_plain _ _ _ (by kernel_rfl)];exact laidMet_laidAll _ (by kernel_rfl) (by kernel_rfl))) ?_
 intro W base args ds gs before hval0 hW hcnd hsz hL _;have hval:∀ (j:Nat) t v,Tryz.f5.params[j]?=some t→args[j]?=some v→Value.okWide Tryz.prog W .any base t v:=hval0;have hW':=hW;obtain ⟨p,q,hA0,hV,rfl,hfz,hnd⟩:=hW;have hA:DataW.TrodAll enc Tryz.prog W 0 (fun _=>true) true Tryz.f5.params.toList args.toList ds p:=hA0;rw [Tryz.params5] at hA hval;obtain ⟨v0,vs0,d0,ds0,p0,q0,hargs,rfl,rfl,h0,r0⟩:=trodAll_cons hA;obtain ⟨v1,vs1,d1,ds1,p1,q1,rfl,rfl,rfl,h1,r1⟩:=trodAll_cons r0;obtain ⟨rfl,rfl,rfl⟩:=trodAll_nil r1;obtain rfl:args=#[v0,v1]:=by cases args;simp_all
 obtain ⟨rfl,rfl⟩:=trodVars_none hV;rw [MakeChecks.laidMetH_plain _ _ _ (by kernel_rfl)] at hL;have hT:Tables W:=Kv (Lib.laidMet.reads hL (by simp [Rows.modtextBackRow])) (Lib.laidMet.reads hL (by simp [Rows.modtextBackRow]));have k0:=h0;have lt0:∀ x∈p0,x.block<W.heap.size:=by obtain ⟨m,hm⟩:=k0;exact DataW.trod_lt m _ _ _ hm
 have k1:=h1;have lt1:∀ x∈p1,x.block<W.heap.size:=by obtain ⟨m,hm⟩:=k1;exact DataW.trod_lt m _ _ _ hm
 obtain ⟨m,V,rfl,hM,hNm,hLn⟩:=Zq (hval 0 28 v0 rfl rfl) h0 (fun n hn=>of_decide_eq_true (List.all_eq_true.1 hsz n (DataW.weights_mem_each (j:=0) (t:=28) (d:=d0) rfl rfl n hn)));obtain ⟨s,rfl,rfl,rfl,ws⟩:=open_string Tryz.underlying9 (hval 1 9 v1 rfl rfl) h1;clear hA0 hval0;refine (Zp V m s W hM hNm hLn ws hT).mono fun e W' ⟨he,mW⟩=>?_;subst he;exact ⟨_,rfl,_,_,_,[],_,[],hW',trodAll_mk1 (shut_bool Tryz.underlying4 _),(trodAll_cons_mk (Below.trod laidOut (by kernel_rfl) (of_decide_eq_true (by kernel_rfl)) k0 mW lt0) (trodAll_cons_mk (Below.trod laidOut (by kernel_rfl) (of_decide_eq_true (by kernel_rfl)) k1 mW lt1) trodAll_mk0)),rfl,mW.frame _,fun h=>by cases h⟩
theorem said:Rows.ModtextBackSaid:=
 OpenClaim.holds_of_wide 5 Tryz.f5 rfl rfl rfl rfl rfl rfl rfl ⟨rfl,rfl,rfl,rfl,rfl⟩ rfl rfl rfl rfl rfl (by kernel_rfl) Tryz.func5 (by kernel_rfl)
  (of_decide_eq_true (by kernel_rfl)) (by unfold Func.isWrapper;first | (rw [iP (by decide +kernel)];kernel_rfl) | (rw [iN (by decide +kernel)];exact ⟨rfl,rfl⟩))
  (fun os started H enc _=>lifted os started H enc)
theorem card:Rows.ModtextBackCardSaid:=
 Claim7.holds_tied_plain_at .later [] _ _ _ _ said (fun _ h=>by cases h) (by kernel_rfl) (fun _ h=>by cases h) modtextBack_row_tie rfl ⟨rfl,rfl⟩ (by kernel_rfl) rfl
  (fun f fn hf hfn=>by
    obtain rfl:f=5:=Option.some.inj ((show Tryz.prog.funcNamed Rows.modtextBackRow.func=some 5 by kernel_rfl).symm.trans hf) |>.symm;obtain rfl:fn=Tryz.f5:=(Option.some.inj (Tryz.func5.symm.trans hfn)).symm
    exact ⟨by kernel_rfl,fun j t ht=>by
     rw [Tryz.params5] at ht;have hm:t∈[28,9]:=by simpa using Array.mem_of_getElem? ht
     have hall:([28,9].all fun u=>!Tryz.prog.wantsStandIn u)=true:=by kernel_rfl
     exact (show Tryz.prog.wantsStandIn t=false by simpa using List.all_eq_true.1 hall t hm)⟩)
  (by kernel_rfl)
#print axioms card
end lawModtextBack
end Go.Proofs.YtkhoeoilamddaaaGreatDoor
