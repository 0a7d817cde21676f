/- Plain words: the parser gives back the term whose tokens it reads. -/
import Derived.Test.YtkhoeoilamddaaaGreatDoorXMwM
namespace Go.Proofs.YtkhoeoilamddaaaGreatDoor
set_option linter.unusedVariables false
set_option linter.unusedSectionVars false
theorem akP {o:Array Oper} {i:Nat} {x:Oper} (h:o.toList[i]?=some x):o[i]?=some x:=by simpa using h
def OQ (l:List Tok) (r k:Nat):jN:=match k with
 | 0=>(lvl l r).term
 | 1=>(lvl l r).imp
 | 2=>Oz l (sub l r)
 | 3=>Pd l (sub l r)
 | 4=>(lvl l r).not
 | 5=>(lvl l r).not
 | 6=>Gp l ((sub l r).map p8.term)
 | 7=>EL l ((sub l r).map p8.term)
 | _=>bM l ((sub l r).map p8.term)
section
variable {l:List Tok}
theorem ajJ (r:Nat):OQ l r 0=Bu l (Ch l (sub l r)):=by show (lvl l r).term=_;rw [Wu];rfl
theorem aev (r:Nat):OQ l r 1=Gn l ((sub l r).map p8.imp) (Oz l (sub l r)):=by show (lvl l r).imp=_;rw [Wu];rfl
theorem aew (r:Nat):OQ l r 4=Kk l ((sub l r).map p8.not) (Gp l ((sub l r).map p8.term)):=by show (lvl l r).not=_;rw [Wu];rfl
theorem F3 {one:jN} {ops:List Int} {t:Tm} {j:Nat} (h:au l j ops=0) (K:Nat):jK l one ops K t j=.ok t j:=by cases K <;> simp [jK,h]
theorem F4 {one:jN} {op:Int} {acc:List Tm} {j:Nat} (h:au l j [op]=0) (K:Nat):lD l op one K acc j=.ok (ql op acc) j:=by cases K <;> simp [lD,h]
theorem kS {j k:Nat} (hf:Follow l j k) {ops:List Int} (h:∀ op∈ops,6≤op∧op≤17∧k≤bQ op):au l j ops=0:=
 Hu fun op ho=>⟨hf op (h op ho).1 (h op ho).2.1 (h op ho).2.2,by have:=(h op ho).1;omega⟩
theorem ach {i:Nat} {s:Option jN} (h:ah l i 4 [33]=true):bM l s i=.bad i 16:=by
 cases hu:l[i]? with
 | none=>simp [ah,hu] at h
 | some u=>
  rw [gL hu] at h;simp at h;simp [bM,gL hu,D9 hu,h.1,h.2]
theorem Uy {i j:Nat} {s:Option jN} {t:Tm} (h:Gp l s i=.ok t j):ah l i 4 [33]=false:=by
 cases hb:ah l i 4 [33] with
 | false=>rfl
 | true=>
  have h1:=ach (s:=s) hb;unfold Gp left EL left at h;rw [h1] at h;cases h
theorem aci {r i j k:Nat} {t:Tm} (hk:k<8) (h:OQ l r (k+1) i=.ok t j) (hf:Follow l j k):OQ l r k i=.ok t j:=by
 have hk':k=0∨k=1∨k=2∨k=3∨k=4∨k=5∨k=6∨k=7:=by omega
 rcases hk' with rfl | rfl | rfl | rfl | rfl | rfl | rfl | rfl
 · rw [aev] at h;rw [ajJ];unfold Bu Ch;rw [h,Rs.then_ok,kS hf (ops:=[9]) (by decide),iP rfl]
 · rw [aev];have h':Oz l (sub l r) i=.ok t j:=h;unfold Gn;rw [h',Rs.then_ok,kS hf (ops:=[8]) (by decide),iP rfl]
 · have h':Pd l (sub l r) i=.ok t j:=h;show Oz l (sub l r) i=_;unfold Oz many;rw [h',Rs.then_ok,F4 (kS hf (ops:=[7]) (by decide))]
   rfl
 · rw [aew] at h;show Pd l (sub l r) i=_;unfold Pd EM many;rw [h,Rs.then_ok,F4 (kS hf (ops:=[6]) (by decide))]
   rfl
 · exact h
 · have h':Gp l ((sub l r).map p8.term) i=.ok t j:=h;show OQ l r 4 i=_;rw [aew];unfold Kk;rw [Uy h',iN (by decide),h',Rs.then_ok,kS hf (ops:=[10,11,12,13]) (by decide),iP rfl]
 · have h':EL l ((sub l r).map p8.term) i=.ok t j:=h;show Gp l ((sub l r).map p8.term) i=_;unfold Gp left;rw [h',Rs.then_ok,F3 (kS hf (ops:=[14,15]) (by decide))]
 · have h':bM l ((sub l r).map p8.term) i=.ok t j:=h;show EL l ((sub l r).map p8.term) i=_;unfold EL left;rw [h',Rs.then_ok,F3 (kS hf (ops:=[16,17]) (by decide))]
theorem lift {r i j a:Nat} {t:Tm}:∀ (m:Nat),a+m≤8→OQ l r (a+m) i=.ok t j→Follow l j a→OQ l r a i=.ok t j
 | 0,_,h,_=>h
 | m+1,hm,h,hf=>lift m (by omega) (aci (k:=a+m) (by omega) h (hf.mono (by omega))) hf
theorem Uz {r i j a b:Nat} {t:Tm} (hab:a≤b) (hb:b≤8) (h:OQ l r b i=.ok t j) (hf:Follow l j a):OQ l r a i=.ok t j:=by
 obtain ⟨m,rfl⟩:∃ m,b=a+m:=⟨b - a,by omega⟩;exact lift m hb h hf
def Lft (l:List Tok) (one:jN) (ops:List Int) (i:Nat) (t:Tm) (j:Nat):Prop:=∃ n,n≤j - i∧∀ K,n≤K→(one i).then (fun u m=>jK l one ops K u m)=jK l one ops (K - n) t j
theorem Hy {one:jN} {ops:List Int} {i j:Nat} {t:Tm} (h:one i=.ok t j):Lft l one ops i t j:=⟨0,zl _,fun K _=>by rw [h];rfl⟩
theorem aa8 {one:jN} {ops:List Int} {i:Nat} {t:Tm} {ts:List Tok} (h:Lft l one ops i t (i+ts.length)) (hat:At l i ts) (hf:au l (i+ts.length) ops=0):left l one ops i=.ok t (i+ts.length):=by
 obtain ⟨n,hn,hK⟩:=h
 have hl:n≤l.length:=by
  by_cases h0:ts=[]
  · subst h0;simp at hn;omega
  · have:=hat.le h0;omega
 have:=hK l.length hl;unfold left;rw [this,F3 hf]
theorem UA {one:jN} {ops:List Int} {i:Nat} {a b:Tm} {A B:List Tok} {op:Int} (hat:At l i (A++([qy op]++B))) (hop:op∈qz) (hops:∀ o∈ops,o∈qz) (hin:op∈ops)
 (ha:Lft l one ops i a (i+A.length)) (hb:one (i+A.length+1)=.ok b (i+A.length+1+B.length)):Lft l one ops i (dD op [a,b]) (i+(A++([qy op]++B)).length):=by
 obtain ⟨n,hn,hK⟩:=ha;have h1:=hat.right;have hw:au l (i+A.length) ops=op:=FY h1 hop hops hin;have h0:op≠0:=fun e=>by rw [e] at hop;exact absurd hop (by decide)
 refine ⟨n+1,by simp;omega,fun K hk=>?_⟩;rw [hK K (by omega)];obtain ⟨m,hm⟩:∃ m,K - n=m+1:=⟨K - n - 1,by omega⟩;rw [hm,jK,hw,iN h0,hb,Rs.then_ok,show K - (n+1)=m from by omega]
 congr 1
 simp;omega
end
structure PT (l:List Tok) (t:Tm) (d:Nat):Prop where
 a:∀ rule ends r i,rule≤8→130≤r+2*d→At l i (jW t rule ends)→Follow l (i+(jW t rule ends).length) rule→(ends=true→Follow l (i+(jW t rule ends).length) 0)→OQ l r rule i=.ok t (i+(jW t rule ends).length)
 b6:∀ ends r i,130≤r+2*d→At l i (jW t 6 ends)→Follow l (i+(jW t 6 ends).length) 7→(ends=true→Follow l (i+(jW t 6 ends).length) 0)→Lft l (EL l ((sub l r).map p8.term)) [14,15] i t (i+(jW t 6 ends).length)
 b7:∀ ends r i,130≤r+2*d→At l i (jW t 7 ends)→(ends=true→Follow l (i+(jW t 7 ends).length) 0)→Lft l (bM l ((sub l r).map p8.term)) [16,17] i t (i+(jW t 7 ends).length)
theorem PY {t:Tm} (h:iW t=true) (h3:t.op≠3) (h4:t.op≠4):∀ k∈t.kids,iW k=true:=by
 rw [Gu] at h
 split at h
 · cases h
 · rw [iN (by omega)] at h
   have key:∀ l:List Tm,j_ l=true→∀ k∈l,iW k=true:=by
    intro l
    induction l with
    | nil=>intro _ k hk;cases hk
    | cons x r ih=>
     intro hl k hk;rw [j_] at hl;simp at hl
     rcases List.mem_cons.1 hk with rfl | hk
     · exact hl.1
     · exact ih hl.2 k hk
   exact key _ h
theorem Hz {s:ByteArray} (h:s.size=0):s=ac1:=by
 have:s.data.toList.length=0:=by simpa using h
 have:=List.eq_nil_of_length_eq_zero this;exact gV this
theorem Rz (op:Int) (a b:Tm) (ends:Bool):gD op [a,b] 0 ends=jW a (aX op 0) false++([qy op]++jW b (aX op 1) ends):=by
 simp [gD]
section
variable {l:List Tok}
theorem agu {op n:Int} {s:ByteArray} {d:Nat} (hok:(Tm.mk op n s []).lI d) (ho:op=1∨op=2∨op=3∨op=4) (sb:Option jN) (i:Nat) (hat:At l i (rR op n s.data.toList)):bM l sb i=.ok (.mk op n s []) (i+(rR op n s.data.toList).length):=by
 have hw:=jJ (jI hok).2.1;simp only [Tm.op,Tm.num,Tm.name,Tm.kids] at hw;obtain ⟨-,w1,-,-,-,w2,w3,-,w4⟩:=hw;have hs:(⟨s.data.toList.toArray⟩:ByteArray)=s:=gV rfl
 rcases ho with rfl | rfl | rfl | rfl
 · have hnm:=Hz (w4 (by decide));subst hnm
   by_cases hn:n<0
   · simp only [rR,if_true,iP hn] at hat ⊢;obtain ⟨u,hu,a1,a2,a3⟩:=hat.head;obtain ⟨v,hv,b1,b2,b3⟩:=hat.tail.head;simp only [sg,FX] at a1 a2 a3 b1 b2 b3;have e1:=gL hu 4 [45];rw [a1,a3] at e1;have e2:=D9 hv 1;rw [b1] at e2;unfold bM;rw [e1,e2,M_ hv,b2];simp [j6]
   · simp only [rR,if_true,iN hn] at hat ⊢;obtain ⟨u,hu,a1,a2,a3⟩:=hat.head;simp only [FX] at a1 a2 a3;simp [bM,gL hu,D9 hu,M_ hu,a1,a2,j6]
 · have hnm:=Hz (w4 (by decide));subst hnm;have hn:=w2 rfl
   by_cases h1:n=1
   · subst h1;simp only [rR,if_true] at hat ⊢;obtain ⟨u,hu,a1,a2,a3⟩:=hat.head;simp only [wd] at a1 a2 a3;simp [bM,gL hu,a1,a3,jv]
   · have h0:n=0:=by omega
     subst h0;simp only [rR,if_true] at hat ⊢;obtain ⟨u,hu,a1,a2,a3⟩:=hat.head;simp only [wd] at a1 a2 a3;simp [bM,gL hu,a1,a3,jv,yh,rD]
 · have h0:n=0:=w3 (by decide) (by decide);subst h0;simp only [rR] at hat ⊢;obtain ⟨u,hu,a1,a2,a3⟩:=At.head (t:=wU s.data.toList) (b:=[]) hat;simp only [wU] at a1 a2 a3;simp [bM,gL hu,D9 hu,Jj hu,a1,a3,iH]
 · have h0:n=0:=w3 (by decide) (by decide);subst h0;have hat':At l i [wd fE,sg [40],wU s.data.toList,sg [41]]:=hat;obtain ⟨u,hu,a1,a2,a3⟩:=hat'.head;obtain ⟨v,hv,b1,b2,b3⟩:=hat'.tail.head;obtain ⟨x,hx,c1,c2,c3⟩:=hat'.tail.tail.head;obtain ⟨y,hy,d1,d2,d3⟩:=hat'.tail.tail.tail.head;simp only [wd,sg,wU] at a1 a2 a3 b1 b2 b3 c1 c2 c3 d1 d2 d3;rw [show i+1+1=i+2 from rfl] at hx hy;rw [show i+2+1=i+3 from rfl] at hy;simp [bM,gL hu,gL hv,D9 hx,gL hy,Jj hx,a1,a3,b1,b3,c1,c3,d1,d3,iH,rR,fE,yh,rD]
theorem aa9 {op:Int} (hop:op=6∨op=7) {d r:Nat} {ends:Bool} {one:jN} (hone:one=OQ l r (aX op 0)) (hr:130≤r+2*(d+1)):∀ (ks:List Tm) (acc:List Tm) (j n K:Nat),acc≠[]→0<n→(∀ k∈ks,PT l k (d+1))→At l j (gD op ks n ends) →
 Follow l (j+(gD op ks n ends).length) (bQ op)→(ends=true→Follow l (j+(gD op ks n ends).length) 0)→ks.length≤K→lD l op one K acc j=.ok (ql op (acc++ks)) (j+(gD op ks n ends).length)
 | [],acc,j,n,K,_,_,_,_,hf,_,_=>by
  rw [gD] at hf ⊢;have h1:au l j [op]=0:=hf op (by omega) (by omega) (lr _);rw [F4 h1,List.append_nil];rfl
 | k :: ks,acc,j,n,0,_,_,_,_,_,_,hK=>by simp at hK
 | k :: ks,acc,j,n,K+1,hacc,hn,hks,hat,hf,he,hK=>by
  have akQ:∀ m,aX op m=aX op 0:=fun m=>by rcases hop with rfl | rfl <;> rfl
  have UC:aX op 0≤8:=by rcases hop with rfl | rfl <;> decide
  have hlt:bQ op<aX op 0:=by rcases hop with rfl | rfl <;> decide
  have htk:gD op (k :: ks) n ends=qy op :: (jW k (aX op 0) (ends && ks.isEmpty)++gD op ks (n+1) ends):=by
   rw [gD,iN (by omega),akQ n];simp
  rw [htk] at hat hf he ⊢;obtain ⟨T,hT⟩:=aj (jW k (aX op 0) (ends && ks.isEmpty));obtain ⟨R,hR⟩:=aj (gD op ks (n+1) ends);rw [←hT,←hR] at hat hf he ⊢;have hlen:j+(qy op :: (T++R)).length=j+1+T.length+R.length:=by simp;omega
  rw [hlen] at hf he ⊢;have hw:au l j [op]=op:=yK hat;have h0:op≠0:=by omega
  have akR:At l (j+1) T:=hat.tail.left;have ajK:At l (j+1+T.length) R:=hat.tail.right
  have hfT:Follow l (j+1+T.length) (aX op 0):=by
   cases ks with
   | nil=>rw [gD] at hR;subst hR;exact hf.mono (by omega)
   | cons k' ks'=>
    rw [gD,iN (by omega)] at hR;subst hR;exact D_ (b:=jW k' (aX op (n+1)) (ends && ks'.isEmpty)++gD op ks' (n+1+1) ends) (by simpa using ajK) (by omega) (by omega) hlt
  have heT:(ends && ks.isEmpty)=true→Follow l (j+1+T.length) 0:=fun h=>by
   simp at h;obtain ⟨h1,h2⟩:=h;subst h2;rw [gD] at hR;subst hR;exact he h1
  have hk:=(hks k (by simp)).a (aX op 0) (ends && ks.isEmpty) r (j+1) UC hr (by rw [←hT];exact akR) (by rw [←hT];exact hfT) (by rw [←hT];exact heT);rw [←hT] at hk;have ih:=aa9 hop hone hr ks (acc++[k]) (j+1+T.length) (n+1) K (by simp) (by omega) (fun x hx=>hks x (by simp [hx])) (by rw [←hR];exact ajK) (by rw [←hR];exact hf) (by rw [←hR];exact he) (by simpa using hK);rw [←hR] at ih;rw [lD,hw,iN h0,hone,hk,Rs.then_ok,←hone,ih];simp
end
end Go.Proofs.YtkhoeoilamddaaaGreatDoor
