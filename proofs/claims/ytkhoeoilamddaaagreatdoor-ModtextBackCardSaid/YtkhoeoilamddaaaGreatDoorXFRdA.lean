/- Walks and plain words: FRdA FRdB MdR. -/
import Derived.Test.YtkhoeoilamddaaaGreatDoorXRndR
namespace Go.Proofs.YtkhoeoilamddaaaGreatDoor
set_option linter.unusedVariables false
set_option linter.unusedSectionVars false
def UR (op:Int):Tok:=if op=2 then sg [33] else if op=6 then wd [69,88] else if op=7 then wd [69,70] else if op=8 then wd [69,71] else if op=10 then wd [65,88] else if op=11 then wd [65,70] else wd [65,71]
def CY (op:Int):List Tok:=if op=9 then [wd [69],sg [91]] else if op=13 then [wd [65],sg [91]] else []
def UW (op:Int):Tok:=if op=5 then qy 8 else if op=4 then qy 7 else if op=3 then qy 6 else wd [85]
def yM (op:Int):List Tok:=if op=9∨op=13 then [sg [93]] else []
mutual
def qA:Fm→Nat→List Tok
 | .mk o e l,least=>Bd (decide (aN o<least)) (if o=1 then [sg [91]]++(jW e 0 true++[sg [93]]) else agD o l)
def agD (o:Int):List Fm→List Tok
 | []=>[]
 | a :: r=>aeB o (qA a (if bV o=2 then fO o else 4)) r
def aeB (o:Int) (x:List Tok):List Fm→List Tok
 | []=>UR o :: x
 | b :: _=>CY o++(x++([UW o]++(qA b (gX o)++yM o)))
end
def nQ (f:Fm):List Tok:=if f.op=1 then [sg [91]]++(jW f.tm 0 true++[sg [93]]) else agD f.op f.kids
theorem Zb (f:Fm) (least:Nat):qA f least=Bd (decide (aN f.op<least)) (nQ f):=by
 cases f;rw [qA];rfl
def OW (l:List Tok) (r k:Nat):gK:=match k with
 | 0=>(lJ l r).form
 | 1=>(lJ l r).form
 | 2=>IU l (zH l r)
 | 3=>BA l (zH l r)
 | _=>jg l (zH l r)
def EB (l:List Tok) (j k:Nat):Prop:=(k≤1→ah l j 4 [45,62]=false)∧(k≤2→ah l j 4 [124]=false)∧(k≤3→ah l j 4 [38]=false)
theorem EB.mono {l:List Tok} {j k m:Nat} (h:EB l j k) (hk:k≤m):EB l j m:=⟨fun h1=>h.1 (by omega),fun h1=>h.2.1 (by omega),fun h1=>h.2.2 (by omega)⟩
theorem aeC {l:List Tok} {j k:Nat} (h:4≤k):EB l j k:=⟨fun h1=>by omega,fun h1=>by omega,fun h1=>by omega⟩
theorem K5 {l b:List Tok} {j k:Nat} {t:Tok} (h:At l j (t :: b)) (hc:t.kind≠4∨(t.text≠[45,62]∧t.text≠[124]∧t.text≠[38])):EB l j k:=by
 obtain ⟨u,hu,hk,-,hx⟩:=h.head
 have key:∀ s:Bs,(t.kind≠4∨t.text≠s)→ah l j 4 s=false:=fun s hs=>by
  rw [gL hu,hk,hx]
  rcases hs with h | h <;> simp [h]
 refine ⟨fun _=>key _ ?_,fun _=>key _ ?_,fun _=>key _ ?_⟩
 · exact hc.imp id fun h=>h.1
 · exact hc.imp id fun h=>h.2.1
 · exact hc.imp id fun h=>h.2.2
theorem dR {l b:List Tok} {j:Nat} {t:Tok} (h:At l j (t :: b)) (k:Int) (s:Bs):ah l j k s=(decide (t.kind=k) && decide (t.text=s)):=by
 obtain ⟨u,hu,hk,-,hx⟩:=h.head;rw [gL hu,hk,hx]
section
variable {l:List Tok}
theorem ag9 (r:Nat):OW l r 1=pK l (zH l r):=by show (lJ l r).form=_;rw [aaD]
theorem Jk {op:Int} {sign:Bs} {part:gK} {f:Fm} {j:Nat} (h:ah l j 4 sign=false) (K:Nat):mH l op sign part K f j=.ok f j:=by cases K <;> simp [mH,h]
theorem Zc {r i j k:Nat} {f:Fm} (h1:1≤k) (hk:k<4) (h:OW l r (k+1) i=.ok f j) (hf:EB l j k):OW l r k i=.ok f j:=by
 have hk':k=1∨k=2∨k=3:=by omega
 rcases hk' with rfl | rfl | rfl
 · rw [ag9];have h':IU l (zH l r) i=.ok f j:=h;unfold pK;rw [h',Rs.then_ok,hf.1 (lr _),iN (by decide)]
 · have h':BA l (zH l r) i=.ok f j:=h;show IU l (zH l r) i=_;unfold IU Eo;rw [h',Rs.then_ok,Jk (hf.2.1 (lr _))]
 · have h':jg l (zH l r) i=.ok f j:=h;show BA l (zH l r) i=_;unfold BA Eo;rw [h',Rs.then_ok,Jk (hf.2.2 (lr _))]
theorem flift {r i j a:Nat} {f:Fm} (h1:1≤a):∀ (m:Nat),a+m≤4→OW l r (a+m) i=.ok f j→EB l j a→OW l r a i=.ok f j
 | 0,_,h,_=>h
 | m+1,hm,h,hf=>flift h1 m (by omega) (Zc (k:=a+m) (by omega) (by omega) h (hf.mono (by omega))) hf
theorem Ni {r i j a b:Nat} {f:Fm} (h1:1≤a) (hab:a≤b) (hb:b≤4) (h:OW l r b i=.ok f j) (hf:EB l j a):OW l r a i=.ok f j:=by
 obtain ⟨m,rfl⟩:∃ m,b=a+m:=⟨b - a,by omega⟩;exact flift h1 m hb h hf
def UY (l:List Tok) (op:Int) (sign:Bs) (part:gK) (i:Nat) (f:Fm) (j:Nat):Prop:=∃ n,n≤j - i∧∀ K,n≤K→(part i).then (fun u m=>mH l op sign part K u m)=mH l op sign part (K - n) f j
theorem Ea {op:Int} {sign:Bs} {part:gK} {i j:Nat} {f:Fm} (h:part i=.ok f j):UY l op sign part i f j:=⟨0,zl _,fun K _=>by rw [h];rfl⟩
theorem UZ {op:Int} {sign:Bs} {part:gK} {i:Nat} {f:Fm} {ts:List Tok} (h:UY l op sign part i f (i+ts.length)) (hat:At l i ts) (hf:ah l (i+ts.length) 4 sign=false):Eo l op sign part i=.ok f (i+ts.length):=by
 obtain ⟨n,hn,hK⟩:=h
 have hl:n≤l.length:=by
  by_cases h0:ts=[]
  · subst h0;simp at hn;omega
  · have:=hat.le h0;omega
 have:=hK l.length hl;unfold Eo;rw [this,Jk hf]
theorem P9 {op:Int} {sign:Bs} {part:gK} {i:Nat} {a b:Fm} {A B:List Tok} (hat:At l i (A++([sg sign]++B))) (ha:UY l op sign part i a (i+A.length)) (hb:part (i+A.length+1)=.ok b (i+A.length+1+B.length)) :
 UY l op sign part i (fT op [a,b]) (i+(A++([sg sign]++B)).length):=by
 obtain ⟨n,hn,hK⟩:=ha;have h1:At l (i+A.length) (sg sign :: B):=by simpa using hat.right
 have hw:ah l (i+A.length) 4 sign=true:=by rw [dR h1];simp [sg]
 refine ⟨n+1,by simp;omega,fun K hk=>?_⟩;rw [hK K (by omega)];obtain ⟨m,hm⟩:∃ m,K - n=m+1:=⟨K - n - 1,by omega⟩;rw [hm,mH,hw,iP rfl,hb,Rs.then_ok,show K - (n+1)=m from by omega]
 congr 1
 simp;omega
theorem take_at {t:Tm} (hc:t.check=0) (htl:iW t=true) {i:Nat} (hat:At l i (jW t 0 true)) (hf:Follow l (i+(jW t 0 true).length) 0):iU l i=(t,i+(jW t 0 true).length,0):=by
 have hok:=(nY hc).1;have hp:=(ag8 (l:=l) t.size t 1 (lr _) hok htl).a 0 true 256 i (by omega) (by omega) hat hf (fun _=>hf);have hp':(lvl l 256).term i=.ok t (i+(jW t 0 true).length):=hp;unfold iU;rw [hp'];simp [hc]
end
theorem Eb {t:Tm} (h:(aH t).2=0):t.check=0∧iW t=true∧(aH t).1=nU aO t 0 true∧(nU aO t 0 true).length≤65536:=by
 unfold aH at h
 by_cases h1:t.check≠0
 · rw [iP h1] at h;exact absurd h h1
 rw [iN h1] at h
 by_cases h2:iW t=false
 · rw [iP h2] at h;exact absurd h (by simp)
 rw [iN h2] at h
 by_cases h3:65536<(nU aO t 0 true).length
 · rw [iP h3] at h;exact absurd h (by simp)
 refine ⟨by omega,by cases hh:iW t with | false=>exact absurd hh h2 | true=>rfl,?_,by omega⟩;unfold aH;rw [iN h1,iN h2,iN h3]
def lW (f:Fm):Bs×Int:=if f.op=1 then ([91]++(aH f.tm).1++[93],(aH f.tm).2) else mJ f.op f.kids
theorem Qa (f:Fm) (least:Nat):aG f least=if (lW f).2≠0 then ([],(lW f).2) else if aN f.op<least then ([40]++(lW f).1++[41],0) else ((lW f).1,0):=by
 cases f;rw [aG];rfl
theorem CZ (f:Fm) (least:Nat):(aG f least).2=(lW f).2:=by
 rw [Qa]
 by_cases h:(lW f).2≠0
 · rw [iP h]
 · rw [iN h];have h0:(lW f).2=0:=by omega
   split <;> simp [h0]
theorem C8 {f:Fm} (h:(lW f).2=0) (least:Nat):(aG f least).1=uj (decide (aN f.op<least)) (lW f).1:=by
 rw [Qa,iN (by omega)]
 by_cases hs:aN f.op<least
 · rw [iP hs,decide_eq_true hs];rfl
 · rw [iN hs,dF hs];rfl
theorem aeD {f a:Fm} (ho:f.op≠1) (hk:f.kids=[a]) (hf:bV f.op=1):lW f=(jA f.op++(aG a 4).1,(lW a).2):=by
 have e:lW f=mJ f.op f.kids:=by unfold lW;rw [iN ho]
 rw [e,hk,mJ,EO,hf,iN (by decide),CZ]
theorem aeE {f a b:Fm} (ho:f.op≠1) (hk:f.kids=[a,b]) (hf:bV f.op=2):lW f=if (lW a).2≠0 then ([],(lW a).2) else (eP f.op++(aG a (fO f.op)).1++uW f.op++(aG b (gX f.op)).1++cZ f.op,(lW b).2):=by
 have e:lW f=mJ f.op f.kids:=by unfold lW;rw [iN ho]
 rw [e,hk,mJ,EO,hf,iP rfl,CZ]
 by_cases h:(lW a).2≠0
 · rw [iP h,iP h]
 · rw [iN h,iN h];show (_,(aG b (gX f.op)).2)=_;rw [CZ]
theorem aeF {f a:Fm} (ho:f.op≠1) (hk:f.kids=[a]) (hf:bV f.op=1):nQ f=UR f.op :: qA a 4:=by
 unfold nQ;rw [iN ho,hk,agD,aeB,hf,iN (by decide)]
theorem Nj {f a b:Fm} (ho:f.op≠1) (hk:f.kids=[a,b]) (hf:bV f.op=2):nQ f=CY f.op++(qA a (fO f.op)++([UW f.op]++(qA b (gX f.op)++yM f.op))):=by
 unfold nQ;rw [iN ho,hk,agD,aeB,hf,iP rfl]
theorem tN {f:Fm} {d:Nat} (h:f.lI d):(f.op=1∧f=.mk 1 f.tm [])∨((f.op=2∨f.op=6∨f.op=7∨f.op=8∨f.op=10∨f.op=11∨f.op=12)∧bV f.op=1∧∃ a,f.kids=[a]∧f=fT f.op [a]) ∨
 ((f.op=3∨f.op=4∨f.op=5∨f.op=9∨f.op=13)∧bV f.op=2∧∃ a b,f.kids=[a,b]∧f=fT f.op [a,b]):=by
 cases f with
 | mk op e ks=>
  rw [Fm.lI] at h;obtain ⟨h1,⟨n,h2⟩,h3⟩:=h;obtain ⟨k0,kl,-⟩:=Tn h2;simp only [Fm.op,Fm.kids,Fm.tm] at k0 kl ⊢
  have hbare:op≠1→e=dG:=fun ho=>by
   have h9:¬64<d:=by omega
   have h8:¬bV (Fm.mk op e ks).op<0:=fun h=>by
    have h':bV op<0:=h;omega
   unfold nZ at h2;rw [iN h9,iN h8] at h2
   by_cases c:mF (Fm.mk op e ks)≠0
   · rw [iP c] at h2;exact absurd h2 c
   rw [iN c] at h2
   by_cases c2:((Fm.mk op e ks).kids.length:Int)≠bV (Fm.mk op e ks).op∨((Fm.mk op e ks).op≠1∧yw (Fm.mk op e ks).tm=false)
   · rw [iP c2] at h2;cases h2
   have hb:yw e=true:=by
    cases hb:yw e with
    | true=>rfl
    | false=>exact absurd (Or.inr ⟨ho,hb⟩) c2
   unfold yw at hb;simp at hb;obtain ⟨⟨⟨b1,b2⟩,b3⟩,b4⟩:=hb
   cases e with
   | mk o n s l=>
    simp only [Tm.op,Tm.num,Tm.name,Tm.kids] at b1 b2 b3 b4;subst b1 b2;have:=Hz (s:=s) (by simpa using b3);subst this;have:l=[]:=by simpa using b4
    subst this
    rfl
  unfold bV at k0 kl ⊢
  by_cases c1:op=1
  · rw [iP c1] at kl;have:ks=[]:=List.eq_nil_of_length_eq_zero (by omega);subst this c1;exact .inl ⟨rfl,rfl⟩
  rw [iN c1] at k0 kl ⊢
  by_cases c2:op=2∨op=6∨op=7∨op=8∨op=10∨op=11∨op=12
  · rw [iP c2] at kl ⊢;obtain ⟨a,rfl⟩:=len1 (l:=ks) (by omega);exact .inr (.inl ⟨c2,rfl,a,rfl,by rw [hbare c1];rfl⟩)
  rw [iN c2] at k0 kl ⊢
  by_cases c3:op=3∨op=4∨op=5∨op=9∨op=13
  · rw [iP c3] at kl ⊢;obtain ⟨a,b,rfl⟩:=len2 (l:=ks) (by omega);exact .inr (.inr ⟨c3,rfl,a,b,rfl,by rw [hbare c1];rfl⟩)
  rw [iN c3] at k0;exact absurd k0 (by decide)
structure PF (l:List Tok) (f:Fm) (d:Nat):Prop where
 a:∀ least r i,1≤least→least≤4→130≤r+2*d→At l i (qA f least)→EB l (i+(qA f least).length) least→OW l r least i=.ok f (i+(qA f least).length)
 b2:∀ r i,130≤r+2*d→At l i (qA f 2)→EB l (i+(qA f 2).length) 3→UY l 4 [124] (BA l (zH l r)) i f (i+(qA f 2).length)
 b3:∀ r i,130≤r+2*d→At l i (qA f 3)→UY l 3 [38] (jg l (zH l r)) i f (i+(qA f 3).length)
section
variable {l:List Tok}
theorem Nk {r d:Nat} (h:129≤r+2*d) (hd:d≤64):∃ r',r=r'+1∧zH l r=some (lJ l r'):=by
 cases r with
 | zero=>omega
 | succ r'=>exact ⟨r',rfl,rfl⟩
theorem K6 {i:Nat} {b:List Tok} {t:Tok} (h:At l i (t :: b)) (ht:¬(t.kind=4∧t.text=[33])∧∀ s:Bs,s∈[[69,88],[69,70],[69,71],[65,88],[65,70],[65,71]]→¬(t.kind=3∧t.text=s)):n_ l i=0:=by
 have key:∀ (k:Int) (s:Bs),¬(t.kind=k∧t.text=s)→ah l i k s=false:=fun k s hs=>by
  rw [dR h]
  cases hd:(decide (t.kind=k) && decide (t.text=s)) with
  | false=>rfl
  | true=>exact absurd (by simpa using hd) hs
 unfold n_;rw [key 4 _ ht.1,key 3 _ (ht.2 [69,88] (by simp)),key 3 _ (ht.2 [69,70] (by simp)),key 3 _ (ht.2 [69,71] (by simp)),key 3 _ (ht.2 [65,88] (by simp)),key 3 _ (ht.2 [65,70] (by simp)),key 3 _ (ht.2 [65,71] (by simp))]
 rfl
theorem U0 {f a b:Fm} {d:Nat} (ho:f.op=4) (hk:f.kids=[a,b]) (Gf:bV f.op=2) (hne:f=fT f.op [a,b]) (iha:PF l a (d+1)) (ihb:PF l b (d+1)) (r i:Nat) (hr:129≤r+2*d) (hat:At l i (nQ f))
 (hf:EB l (i+(nQ f).length) 3):UY l 4 [124] (BA l (zH l r)) i f (i+(nQ f).length):=by
 have e:nQ f=qA a 2++([sg [124]]++qA b 3):=by rw [Nj (by omega) hk Gf,ho];simp [CY,yM,UW,fO,gX];rfl
 rw [e] at hat hf ⊢;have hlen:i+(qA a 2++([sg [124]]++qA b 3)).length=i+(qA a 2).length+1+(qA b 3).length:=by simp;omega
 rw [hlen] at hf;have h1:At l (i+(qA a 2).length) (sg [124] :: qA b 3):=by simpa using hat.right
 have ha:=iha.b2 r i (by omega) hat.left ⟨fun h=>by omega,fun h=>by omega,fun _=>by rw [dR h1];decide⟩;have hb:=ihb.a 3 r _ (by omega) (by omega) (by omega) h1.tail hf;rw [hne,ho];exact P9 hat ha hb
theorem U3 {f a b:Fm} {d:Nat} (ho:f.op=3) (hk:f.kids=[a,b]) (Gf:bV f.op=2) (hne:f=fT f.op [a,b]) (iha:PF l a (d+1)) (ihb:PF l b (d+1)) (r i:Nat) (hr:129≤r+2*d) (hat:At l i (nQ f)) :
 UY l 3 [38] (jg l (zH l r)) i f (i+(nQ f).length):=by
 have e:nQ f=qA a 3++([sg [38]]++qA b 4):=by rw [Nj (by omega) hk Gf,ho];simp [CY,yM,UW,fO,gX];rfl
 rw [e] at hat ⊢;have h1:At l (i+(qA a 3).length) (sg [38] :: qA b 4):=by simpa using hat.right
 have ha:=iha.b3 r i (by omega) hat.left;have hb:=ihb.a 4 r _ (by omega) (by omega) (by omega) h1.tail (aeC (by omega));rw [hne,ho];exact P9 hat ha hb
theorem agE {op:Int} (ho:op=2∨op=6∨op=7∨op=8∨op=10∨op=11∨op=12) {i:Nat} {b:List Tok} (h:At l i (UR op :: b)):n_ l i=op:=by
 have key:=fun k s=>dR h k s;unfold n_;simp only [key]
 rcases ho with rfl | rfl | rfl | rfl | rfl | rfl | rfl <;> decide
theorem aeG {f:Fm} {d:Nat} (hok:f.lI d) (he:(lW f).2=0) (ih:∀ k∈f.kids,PF l k (d+1)) (r i:Nat) (hr:129≤r+2*d) (hat:At l i (nQ f)) (hf:EB l (i+(nQ f).length) (aN f.op)) :
 OW l r (aN f.op) i=.ok f (i+(nQ f).length):=by
 have hd:=(dY hok).1
 rcases tN hok with ⟨ho,hne⟩ | ⟨ho,Gf,a,hk,hne⟩ | ⟨ho,Gf,a,b,hk,hne⟩
 · have e:nQ f=sg [91] :: (jW f.tm 0 true++[sg [93]]):=by unfold nQ;rw [iP ho];rfl
   have es:aN f.op=4:=by rw [ho];rfl
   rw [e] at hat hf ⊢;rw [es];have hb2:(aH f.tm).2=0:=by unfold lW at he;rw [iP ho] at he;exact he
   obtain ⟨s1,s2,s3,-⟩:=Eb hb2;have h1:=hat.tail.left;have h2:At l (i+1+(jW f.tm 0 true).length) [sg [93]]:=hat.tail.right;have ht:=take_at s1 s2 h1 (tJ h2 (by unfold closes;decide));show jg l (zH l r) i=_;unfold jg;rw [K6 hat (by decide),iN (by decide),dR hat,dR hat,dR hat,dR hat,iN (by decide),iN (by decide),iN (by decide),iP (by decide)];unfold Bz;rw [ht];simp only;rw [iN (by decide),dR h2,iP (by decide)];have hl:i+(sg [91] :: (jW f.tm 0 true++[sg [93]])).length=i+1+(jW f.tm 0 true).length+1:=by simp;omega
   rw [hl,←hne]
 · have ho1:f.op≠1:=by omega
   have e:=aeF ho1 hk Gf;have es:aN f.op=4:=by rcases ho with h | h | h | h | h | h | h <;> rw [h] <;> rfl
   rw [e] at hat hf ⊢;rw [es];obtain ⟨r',rfl,hsub⟩:=Nk (l:=l) hr hd;have hka:=(ih a (by rw [hk];simp)).a 4 r' (i+1) (by omega) (by omega) (by omega) hat.tail (aeC (by omega));have akT:(lJ l r').unit (i+1)=.ok a (i+1+(qA a 4).length):=by rw [aaD];exact hka
   have hone:=agE ho hat;show jg l (zH l (r'+1)) i=_;rw [hsub];unfold jg;rw [hone,iP (by omega)];have hin:rF ((some (lJ l r')).map jG.unit) i=.ok a (i+1+(qA a 4).length):=akT;have hl:i+(UR f.op :: qA a 4).length=i+1+(qA a 4).length:=by simp;omega
   rw [hin,Rs.then_ok,hl,←hne]
 · have ho1:f.op≠1:=by omega
   have hma:a∈f.kids:=by rw [hk];simp
   have hmb:b∈f.kids:=by rw [hk];simp
   by_cases c4:f.op=4
   · have es:aN f.op=2:=by rw [c4];rfl
     rw [es] at hf ⊢;exact UZ (U0 c4 hk Gf hne (ih a hma) (ih b hmb) r i hr hat (hf.mono (by omega))) hat (hf.2.1 (lr _))
   by_cases c3:f.op=3
   · have es:aN f.op=3:=by rw [c3];rfl
     rw [es] at hf ⊢;exact UZ (U3 c3 hk Gf hne (ih a hma) (ih b hmb) r i hr hat) hat (hf.2.2 (lr _))
   obtain ⟨r',rfl,hsub⟩:=Nk (l:=l) hr hd
   by_cases c5:f.op=5
   · have es:aN f.op=1:=by rw [c5];rfl
     have e:nQ f=qA a 2++([sg [45,62]]++qA b 1):=by rw [Nj (by omega) hk Gf,c5];simp [CY,yM,UW,fO,gX];rfl
     rw [es] at hf ⊢;rw [e] at hat hf ⊢;have hlen:i+(qA a 2++([sg [45,62]]++qA b 1)).length=i+(qA a 2).length+1+(qA b 1).length:=by simp;omega
     rw [hlen] at hf ⊢;have h1:At l (i+(qA a 2).length) (sg [45,62] :: qA b 1):=by simpa using hat.right
     have pa:=(ih a hma).a 2 (r'+1) i (by omega) (by omega) (by omega) hat.left ⟨fun h=>by omega,fun _=>by rw [dR h1];decide,fun _=>by rw [dR h1];decide⟩;have pb:=(ih b hmb).a 1 r' _ (by omega) (by omega) (by omega) h1.tail hf;rw [ag9,hsub];have pa':IU l (some (lJ l r')) i=.ok a (i+(qA a 2).length):=by rw [←hsub];exact pa
     have pb':rF ((some (lJ l r')).map jG.form) (i+(qA a 2).length)=.ok b (i+(qA a 2).length+1+(qA b 1).length):=pb;unfold pK;rw [pa',Rs.then_ok,dR h1,iP (by decide),pb',Rs.then_ok]
     conv=>rhs;rw [hne,c5]
   have c9:f.op=9∨f.op=13:=by omega
   have es:aN f.op=4:=by rcases c9 with h | h <;> rw [h] <;> rfl
   obtain ⟨kw,hkw⟩:∃ kw:Bs,kw=if f.op=9 then [69] else [65]:=⟨_,rfl⟩
   have e:nQ f=wd kw :: (sg [91] :: (qA a 1++(wd [85] :: (qA b 1++[sg [93]])))):=by
    rw [Nj (by omega) hk Gf,hkw]
    rcases c9 with h | h <;> rw [h] <;> simp [CY,yM,UW,fO,gX]
   rw [es];rw [e] at hat ⊢;obtain ⟨TA,Y0⟩:=aj (qA a 1);obtain ⟨TB,V_⟩:=aj (qA b 1);rw [←Y0,←V_] at hat ⊢;have hlen:i+(wd kw :: (sg [91] :: (TA++(wd [85] :: (TB++[sg [93]]))))).length=i+2+TA.length+1+TB.length+1:=by simp;omega
   rw [hlen];have h1:=hat.tail;have h2:At l (i+2) (TA++(wd [85] :: (TB++[sg [93]]))):=h1.tail;have h3:=h2.right;have h4:At l (i+2+TA.length+1) (TB++[sg [93]]):=h3.tail;have h5:=h4.right;have pa:=(ih a hma).a 1 r' (i+2) (by omega) (by omega) (by omega) (by rw [←Y0];exact h2.left) (by rw [←Y0];exact K5 h3 (.inl (by decide)));have pb:=(ih b hmb).a 1 r' (i+2+TA.length+1) (by omega) (by omega) (by omega) (by rw [←V_];exact h4.left) (by rw [←V_];exact K5 h5 (.inr (by decide)));rw [←Y0] at pa;rw [←V_] at pb;have pa':(lJ l r').form (i+2)=.ok a (i+2+TA.length):=pa;have pb':(lJ l r').form (i+2+TA.length+1)=.ok b (i+2+TA.length+1+TB.length):=pb
   have hu:wK l ((some (lJ l r')).map jG.form) f.op i=.ok (fT f.op [a,b]) (i+2+TA.length+1+TB.length+1):=by
    show (if ah l (i+1) 4 [91] then ((lJ l r').form (i+2)).then _ else _)=_;rw [dR h1,iP (by decide),pa',Rs.then_ok,dR h3,iP (by decide),pb',Rs.then_ok,dR h5,iP (by decide)]
   show jg l (zH l (r'+1)) i=_;rw [hsub];unfold jg
   rcases c9 with h | h
   · rw [h] at hu hkw hne;rw [iP rfl] at hkw;subst hkw;rw [K6 hat (by decide),iN (by decide),dR hat,iP (by decide),hu,←hne]
   · rw [h] at hu hkw hne;rw [iN (by decide)] at hkw;subst hkw;rw [K6 hat (by decide),iN (by decide),dR hat,iN (by decide),dR hat,iP (by decide),hu,←hne]
theorem Jl {f:Fm} {d:Nat} (hok:f.lI d) (he:(lW f).2=0):∀ k∈f.kids,(lW k).2=0:=by
 rcases tN hok with ⟨ho,hne⟩ | ⟨ho,Gf,a,hk,hne⟩ | ⟨ho,Gf,a,b,hk,hne⟩
 · intro k hk;rw [hne] at hk;cases hk
 · rw [aeD (by omega) hk Gf] at he;intro k h;rw [hk] at h;simp at h;subst h;exact he
 · rw [aeE (by omega) hk Gf] at he;intro k h;rw [hk] at h
   by_cases h0:(lW a).2≠0
   · rw [iP h0] at he;exact absurd he h0
   · rw [iN h0] at he;simp at h
     rcases h with rfl | rfl
     · omega
     · exact he
theorem ag_:∀ (N:Nat) (f:Fm) (d:Nat),f.size≤N→f.lI d→(lW f).2=0→PF l f d
 | 0,f,d,hN,_,_=>by cases f;rw [Fm.size] at hN;omega
 | N+1,f,d,hN,hok,he=>by
  have ih:∀ k∈f.kids,PF l k (d+1):=fun k hk=>by
   have h1:=Fm.aM hk;refine ag_ N k (d+1) ?_ ((dY hok).2.2 k hk) (Jl hok he k hk)
   cases f with
   | mk o e l=>rw [Fm.size] at hN;simp only [Fm.kids] at h1;omega
  have hd:=(dY hok).1;have hB:=aeG hok he ih
  have hs:1≤aN f.op∧aN f.op≤4:=by
   unfold aN
   iterate 3 (split;· omega)
   omega
  have h8:∀ least r i,aN f.op<least→130≤r+2*d→At l i (qA f least)→OW l r 4 i=.ok f (i+(qA f least).length):=by
   intro least r i hp hr hat;rw [Zb,decide_eq_true hp] at hat ⊢;simp only [Bd,if_true] at hat ⊢;obtain ⟨r',rfl,hsub⟩:=Nk (l:=l) (r:=r) (d:=d) (by omega) hd;obtain ⟨T,hT⟩:=aj (nQ f);rw [←hT] at hat ⊢;have OU:At l i (sg [40] :: (T++[sg [41]])):=by simpa using hat
   have aex:=OU.tail.left;have Nb:At l (i+1+T.length) [sg [41]]:=OU.tail.right;have hcl:∀ k,EB l (i+1+T.length) k:=fun k=>K5 Nb (.inr (by decide));have hb:=hB r' (i+1) (by omega) (by rw [←hT];exact aex) (by rw [←hT];exact hcl _);rw [←hT] at hb;have h0:=Ni (lr 1) hs.1 hs.2 hb (hcl 1);have h0':rF ((some (lJ l r')).map jG.form) i=.ok f (i+1+T.length):=h0;have hlen:i+([sg [40]]++T++[sg [41]]).length=i+1+T.length+1:=by simp;omega
   show jg l (zH l (r'+1)) i=_;rw [hsub,hlen];unfold jg;rw [K6 OU (by decide),iN (by decide),dR OU,dR OU,dR OU,iN (by decide),iN (by decide),iP (by decide),h0',Rs.then_ok,dR Nb,iP (by decide)]
  have hbody:∀ least,¬aN f.op<least→qA f least=nQ f:=fun least hp=>by rw [Zb,dF hp];rfl
  refine ⟨?_,?_,?_⟩
  · intro least r i h1 h4 hr hat hf
    by_cases hp:aN f.op<least
    · exact Ni h1 h4 (lr _) (h8 least r i hp hr hat) hf
    · rw [hbody least hp] at hat hf ⊢;exact Ni h1 (by omega) hs.2 (hB r i (by omega) hat (hf.mono (by omega))) hf
  · intro r i hr hat hf
    by_cases hp:aN f.op<2
    · exact Ea (Ni (a:=3) (by omega) (by omega) (lr _) (h8 2 r i hp hr hat) hf)
    · rw [hbody 2 hp] at hat hf ⊢
      by_cases h2:f.op=4
      · rcases tN hok with ⟨ho,hne⟩ | ⟨ho,Gf,a,hk,hne⟩ | ⟨ho,Gf,a,b,hk,hne⟩
        · omega
        · omega
        · exact U0 h2 hk Gf hne (ih a (by rw [hk];simp)) (ih b (by rw [hk];simp)) r i (by omega) hat hf
      · have h3:3≤aN f.op:=by
         unfold aN at hp ⊢
         by_cases c5:f.op=5
         · rw [iP c5] at hp;omega
         · rw [iN c5,iN h2];split <;> omega
        exact Ea (Ni (a:=3) (by omega) h3 hs.2 (hB r i (by omega) hat (hf.mono h3)) hf)
  · intro r i hr hat
    by_cases hp:aN f.op<3
    · exact Ea (h8 3 r i hp hr hat)
    · rw [hbody 3 hp] at hat ⊢
      by_cases h2:f.op=3
      · rcases tN hok with ⟨ho,hne⟩ | ⟨ho,Gf,a,hk,hne⟩ | ⟨ho,Gf,a,b,hk,hne⟩
        · omega
        · omega
        · exact U3 h2 hk Gf hne (ih a (by rw [hk];simp)) (ih b (by rw [hk];simp)) r i (by omega) hat
      · have h4:aN f.op=4:=by
         unfold aN at hp ⊢
         by_cases c5:f.op=5
         · rw [iP c5] at hp;omega
         · rw [iN c5] at hp ⊢
           by_cases c4:f.op=4
           · rw [iP c4] at hp;omega
           · rw [iN c4,iN h2]
        have:=hB r i (by omega) hat (by rw [h4];exact aeC (lr _));rw [h4] at this;exact Ea this
end
theorem U4 {f:Fm} (hc:f.check=0) (he:(lW f).2=0) {l:List Tok} {i:Nat} (hat:At l i (qA f 1)) (hf:EB l (i+(qA f 1).length) 1):nN l i=(f,i+(qA f 1).length,0):=by
 have hok:=(qI hc).1;have hp:=(ag_ (l:=l) f.size f 1 (lr _) hok he).a 1 256 i (by omega) (by omega) (by omega) hat hf;have hp':(lJ l 256).form i=.ok f (i+(qA f 1).length):=hp;unfold nN;rw [hp'];simp [hc]
theorem tO {c:UInt8} {s:Bs} {ts:List Tok} (h1:qX c=false) (h2:c.toNat≠45) (hs:scan (c :: s)=(4,0,1,0)) (h:bJ ts s):bJ (sg [c] :: ts) ([c]++s):=
 iL (n:=0) hs rfl rfl (show (4:Int)≠5 by decide) (lu h1 h2) h
def ah5 (f:Fm):Prop:=(∀ least,yL (aG f least).1)∧∀ least s ts,sM s→bJ ts s→bJ (qA f least++ts) ((aG f least).1++s)
theorem RI {c:UInt8} (hc:c=69∨c=65∨c=85) {s:Bs} {ts:List Tok} (hs:∀ d,s.head?=some d→bD d=false) (h:bJ ts s):bJ (wd [c] :: ts) ([c]++s):=by
 rcases hc with rfl | rfl | rfl
 · exact lV (c:=69) (x:=[]) (by decide) (by decide) (by decide) (by decide) hs h
 · exact lV (c:=65) (x:=[]) (by decide) (by decide) (by decide) (by decide) hs h
 · exact lV (c:=85) (x:=[]) (by decide) (by decide) (by decide) (by decide) hs h
theorem Ec {a b:UInt8} (hc:(a=69∨a=65)∧(b=88∨b=70∨b=71)) {s:Bs} {ts:List Tok} (hs:∀ d,s.head?=some d→bD d=false) (h:bJ ts s):bJ (wd [a,b] :: ts) ([a,b]++s):=by
 obtain ⟨h1,h2⟩:=hc
 rcases h1 with rfl | rfl <;> rcases h2 with rfl | rfl | rfl
 all_goals exact lV (by decide) (by decide) (by decide) (by decide) hs h
theorem agF (op:Int) (s:Bs):sM (uW op++s):=by
 unfold uW
 split
 · exact nE (.inl rfl)
 split
 · exact nE (.inl rfl)
 split
 · exact nE (.inl rfl)
 · exact nE (.inl rfl)
theorem ah6 (op:Int) {s:Bs} {ts:List Tok} (h:bJ ts s):bJ (UW op :: ts) (uW op++s):=by
 unfold uW UW
 by_cases h5:op=5
 · rw [iP h5,iP h5];exact RF (op:=8) (by decide) (by decide) h
 rw [iN h5,iN h5]
 by_cases h4:op=4
 · rw [iP h4,iP h4];exact RF (op:=7) (by decide) (by decide) h
 rw [iN h4,iN h4]
 by_cases h3:op=3
 · rw [iP h3,iP h3];exact RF (op:=6) (by decide) (by decide) h
 rw [iN h3,iN h3];have hs:=qh (c:=32) (by decide) h;have h1:=RI (c:=85) (.inr (.inr rfl)) (s:=32 :: s) (fun d hd=>by simp at hd;subst hd;decide) hs;exact qh (c:=32) (by decide) h1
theorem Zd {op:Int} {s:Bs} (h:sM s):sM (cZ op++s):=by
 unfold cZ
 split
 · exact nE (.inr (.inr rfl))
 · exact h
theorem Ze {op:Int} {s:Bs} {ts:List Tok} (h:bJ ts s):bJ (yM op++ts) (cZ op++s):=by
 unfold cZ yM
 split
 · exact tO (c:=93) (by decide) (by decide) (aez s) h
 · exact h
theorem acp {op:Int} {s:Bs} {ts:List Tok} (h:bJ ts s):bJ (CY op++ts) (eP op++s):=by
 have hb:bJ (sg [91] :: ts) ([91]++s):=tO (c:=91) (by decide) (by decide) (aey s) h;unfold eP CY
 split
 · exact RI (.inl rfl) (fun d hd=>by simp at hd;subst hd;decide) hb
 split
 · exact RI (.inr (.inl rfl)) (fun d hd=>by simp at hd;subst hd;decide) hb
 · exact h
theorem Zf (op:Int) {x:Bs} (h:yL x):yL (eP op++x):=by
 unfold eP
 split
 · exact ⟨69,_,rfl,by decide⟩
 split
 · exact ⟨65,_,rfl,by decide⟩
 · exact h
theorem agG {op:Int} (ho:op=2∨op=6∨op=7∨op=8∨op=10∨op=11∨op=12) {x s:Bs} {ts:List Tok} (hx:yL x) (h:bJ ts (x++s)):bJ (UR op :: ts) (jA op++(x++s)):=by
 have hs:=qh (c:=32) (by decide) h;have EY:∀ d,(32 :: (x++s):Bs).head?=some d→bD d=false:=fun d hd=>by simp at hd;subst hd;decide
 rcases ho with rfl | rfl | rfl | rfl | rfl | rfl | rfl
 · obtain ⟨c,r,rfl,hc⟩:=hx;exact tO (c:=33) (by decide) (by decide) (UJ hc) h
 · exact Ec ⟨.inl rfl,.inl rfl⟩ EY hs
 · exact Ec ⟨.inl rfl,.inr (.inl rfl)⟩ EY hs
 · exact Ec ⟨.inl rfl,.inr (.inr rfl)⟩ EY hs
 · exact Ec ⟨.inr rfl,.inl rfl⟩ EY hs
 · exact Ec ⟨.inr rfl,.inr (.inl rfl)⟩ EY hs
 · exact Ec ⟨.inr rfl,.inr (.inr rfl)⟩ EY hs
theorem aeH (op:Int) (x:Bs):yL (jA op++x):=by
 unfold jA
 split
 · exact ⟨33,_,rfl,by decide⟩
 split
 · exact ⟨69,_,rfl,by decide⟩
 split
 · exact ⟨69,_,rfl,by decide⟩
 split
 · exact ⟨69,_,rfl,by decide⟩
 split
 · exact ⟨65,_,rfl,by decide⟩
 split
 · exact ⟨65,_,rfl,by decide⟩
 · exact ⟨65,_,rfl,by decide⟩
theorem aeI {f:Fm} {d:Nat} (hok:f.lI d) (he:(lW f).2=0) (ih:∀ k∈f.kids,ah5 k):yL (lW f).1∧∀ s ts,sM s→bJ ts s→bJ (nQ f++ts) ((lW f).1++s):=by
 have dS:=Jl hok he
 rcases tN hok with ⟨ho,hne⟩ | ⟨ho,Gf,a,hk,hne⟩ | ⟨ho,Gf,a,b,hk,hne⟩
 · have hb2:(aH f.tm).2=0:=by unfold lW at he;rw [iP ho] at he;exact he
   obtain ⟨s1,s2,s3,-⟩:=Eb hb2;have e:nQ f=sg [91] :: (jW f.tm 0 true++[sg [93]]):=by unfold nQ;rw [iP ho];rfl
   have e2:(lW f).1=[91]++nU aO f.tm 0 true++[93]:=by unfold lW;rw [iP ho];show [91]++(aH f.tm).1++[93]=_;rw [s3]
   rw [e,e2];refine ⟨⟨91,_,rfl,by decide⟩,fun s ts hs h=>?_⟩;have h1:bJ (sg [93] :: ts) ([93]++s):=tO (by decide) (by decide) (aez s) h;have h2:=(RH f.tm.size f.tm 1 (lr _) (nY s1).1 s2).2 0 true ([93]++s) _ (nE (.inr (.inr rfl))) h1;have h3:bJ (sg [91] :: (jW f.tm 0 true++sg [93] :: ts)) ([91]++(nU aO f.tm 0 true++([93]++s))):=tO (by decide) (by decide) (aey _) h2
   simpa using h3
 · have ho1:f.op≠1:=by omega
   have hl:=ih a (by rw [hk];simp);rw [aeF ho1 hk Gf,aeD ho1 hk Gf];refine ⟨aeH _ _,fun s ts hs h=>?_⟩;have h1:=hl.2 4 s ts hs h;have h2:=agG ho (hl.1 4) h1
   simpa using h2
 · have ho1:f.op≠1:=by omega
   have hla:=ih a (by rw [hk];simp);have hlb:=ih b (by rw [hk];simp);have hea:=dS a (by rw [hk];simp);rw [Nj ho1 hk Gf,aeE ho1 hk Gf,iN (by omega)];refine ⟨?_,fun s ts hs h=>?_⟩
   · simp only [List.append_assoc];exact Zf _ ((hla.1 _).app _)
   · have h1:=Ze (op:=f.op) h;have h2:=hlb.2 (gX f.op) _ _ (Zd hs) h1;have h3:=ah6 f.op h2;have h4:=hla.2 (fO f.op) _ _ (agF f.op _) h3;have h5:=acp (op:=f.op) h4
     simpa using h5
theorem RL:∀ (N:Nat) (f:Fm) (d:Nat),f.size≤N→f.lI d→(lW f).2=0→ah5 f
 | 0,f,d,hN,_,_=>by cases f;rw [Fm.size] at hN;omega
 | N+1,f,d,hN,hok,he=>by
  have ih:∀ k∈f.kids,ah5 k:=fun k hk=>by
   have h1:=Fm.aM hk;refine RL N k (d+1) ?_ ((dY hok).2.2 k hk) (Jl hok he k hk)
   cases f with
   | mk o e l=>rw [Fm.size] at hN;simp only [Fm.kids] at h1;omega
  obtain ⟨b1,b2⟩:=aeI hok he ih;refine ⟨fun least=>?_,fun least s ts hs h=>?_⟩
  · rw [C8 he];exact P7 b1
  · rw [C8 he,Zb];exact UM b1 b2 hs h
theorem Jm {f:Fm} (h:(dX f).2=0):f.check=0∧(lW f).2=0∧(dX f).1=(aG f 1).1∧(aG f 1).1.length≤65536:=by
 unfold dX at h
 by_cases h1:f.check≠0
 · rw [iP h1] at h;exact absurd h h1
 rw [iN h1] at h
 by_cases h2:(aG f 1).2≠0
 · rw [iP h2] at h;exact absurd h h2
 rw [iN h2] at h
 by_cases h3:65536<(aG f 1).1.length
 · rw [iP h3] at h;exact absurd h (by simp)
 refine ⟨by omega,by rw [←CZ f 1];omega,?_,by omega⟩;unfold dX;rw [iN h1,iN h2,iN h3]
def wW (n:Int):List Tok:=if n<0 then [sg [45],FX (-n)] else [FX n]
def vQ (v:Vr):List Tok:=wd kV :: wU v.name.data.toList :: sg [58] :: ((if v.bool then [wd vP] else wW v.lo++sg [46,46] :: wW v.hi)++[sg [59]])
def lX (w:Bs) (d:Df):List Tok:=wd w :: wU d.name.data.toList :: sg [58,61] :: (jW d.tm 0 true++[sg [59]])
def jS (w:Bs) (t:Tm):List Tok:=wd w :: (jW t 0 true++[sg [59]])
def EC (d:Sp):List Tok:=wd pI :: wU d.name.data.toList :: sg [58] :: (qA d.fm 1++[sg [59]])
theorem aeJ (s:Bs):sM (32 :: s):=nE (.inl rfl)
theorem acr (s:Bs):∀ d,(32 :: s:Bs).head?=some d→bD d=false:=fun d hd=>by simp at hd;subst hd;decide
theorem ajN (s:Bs):∀ d,(32 :: s:Bs).head?=some d→isDigit d=false:=fun d hd=>by simp at hd;subst hd;decide
theorem C9 {s:Bs} {ts:List Tok} (h:bJ ts s):bJ ts (32 :: s):=qh (by decide) h
theorem K7 {s:Bs} {ts:List Tok} (h:bJ ts s):bJ (sg [59] :: ts) (AJ++s):=by
 have h1:bJ ts (10 :: s):=qh (by decide) h;have h2:bJ (sg [59] :: ts) ([59]++(10 :: s)):=tO (c:=59) (by decide) (by decide) rfl h1;exact C9 h2
theorem Jo {s:Bs} {ts:List Tok} (h:bJ ts s):bJ (sg [58] :: ts) ([32,58,32]++s):=by
 have h2:bJ (sg [58] :: ts) ([58]++(32 :: s)):=tO (c:=58) (by decide) (by decide) rfl (C9 h);exact C9 h2
theorem Zg {s:Bs} {ts:List Tok} (h:bJ ts s):bJ (sg [58,61] :: ts) ([32,58,61,32]++s):=by
 have h2:bJ (sg [58,61] :: ts) ([58,61]++(32 :: s)):=iL (n:=0) rfl rfl rfl (show (4:Int)≠5 by decide) (lu (by decide) (by decide)) (C9 h);exact C9 h2
theorem aeK {s:Bs} {ts:List Tok} (h:bJ ts s):bJ (sg [46,46] :: ts) ([32,46,46,32]++s):=by
 have h2:bJ (sg [46,46] :: ts) ([46,46]++(32 :: s)):=iL (n:=0) rfl rfl rfl (show (4:Int)≠5 by decide) (lu (by decide) (by decide)) (C9 h);exact C9 h2
theorem U5 {n:Int} (h1:-255≤n) (h2:n≤255) {s:Bs} (hs:∀ d,s.head?=some d→isDigit d=false) {ts:List Tok} (h:bJ ts s):bJ (wW n++ts) (aO n++s):=by
 unfold wW aO
 by_cases hn:n<0
 · rw [iP hn,iP hn];have hk:n.natAbs<256:=by omega
   have h3:=KZ hk hs h;rw [show ((n.natAbs:Nat):Int)=-n by omega] at h3;obtain ⟨c,r,hc,hd⟩:=P6 hk;rw [hc] at h3 ⊢
   have h4:bJ (sg [45] :: (FX (-n) :: ts)) ([45]++(c :: r++s)):=iL (n:=0) (P5 hd) rfl rfl (show (4:Int)≠5 by decide) (.inr ⟨45,_,rfl,by decide,by
    unfold dashes
    cases hq:Lib.hasPrefix ([45]++(c :: r++s)) [45,45] with
    | false=>rfl
    | true=>
     obtain ⟨q,hq'⟩:=ug (l:=[45]++(c :: r++s)) hq
     injection hq' with _ hq'
     injection hq' with hq' _
     subst hq'
     revert hd;decide⟩) h3
   simpa using h4
 · rw [iN hn,iN hn];have h3:=KZ (n:=n.natAbs) (by omega) hs h;rw [show ((n.natAbs:Nat):Int)=n by omega] at h3;exact h3
theorem U6 (w:Bs) (hw:w=kV∨w=kW∨w=iA∨w=eZ∨w=fE∨w=fP∨w=jL∨w=pI∨w=vP) {s:Bs} {ts:List Tok} (h:bJ ts s):bJ (wd w :: ts) (w++[32]++s):=by
 have h1:=C9 h;have e:w++[32]++s=w++32 :: s:=by simp
 rw [e]
 rcases hw with rfl | rfl | rfl | rfl | rfl | rfl | rfl | rfl | rfl
 all_goals exact lV (by decide) (by decide) (by decide) (by decide) (acr _) h1
theorem acs {s:Bs} {ts:List Tok} (h:bJ ts s):bJ (wd vP :: sg [59] :: ts) (vP++(AJ++s)):=lV (by decide) (by decide) (by decide) (by decide) (acr _) (K7 h)
theorem K8 {s:Bs} (h:¬isName s=false):isName s=true:=by cases hs:isName s <;> simp_all
theorem aeL {v:Vr} (he:(mM v).2=0) {s:Bs} {ts:List Tok} (h:bJ ts s):bJ (vQ v++ts) ((mM v).1++s):=by
 unfold mM at he ⊢
 by_cases h1:isName v.name.data.toList=false
 · rw [iP h1] at he;exact absurd he (by simp)
 rw [iN h1] at he ⊢;have hn:=K8 h1;unfold vQ
 cases hb:v.bool with
 | true=>
  simp only [hb,if_true] at he ⊢
  by_cases h2:v.lo≠0∨v.hi≠0
  · rw [iP h2] at he;exact absurd he (by simp)
  rw [iN h2];have h3:=zY hn (acr _) (Jo (acs h));have h4:=U6 kV (.inl rfl) h3
  simpa using h4
 | false=>
  simp only [hb,Bool.false_eq_true,if_false] at he ⊢
  by_cases h2:(vB v.lo || vB v.hi)=true
  · rw [iP h2] at he;exact absurd he (by simp)
  rw [iN h2];simp [vB] at h2;have h3:=U5 (n:=v.hi) (by omega) (by omega) (s:=AJ++s) (ajN _) (K7 h);have h4:=U5 (n:=v.lo) (by omega) (by omega) (ajN _) (aeK h3);have h5:=zY hn (acr _) (Jo h4);have h6:=U6 kV (.inl rfl) h5
  simpa using h6
theorem aeM {t:Tm} (he:(aH t).2=0) {s:Bs} {ts:List Tok} (h:bJ ts s):bJ (jW t 0 true++sg [59] :: ts) ((aH t).1++(AJ++s)):=by
 obtain ⟨s1,s2,s3,-⟩:=Eb he;rw [s3];exact (RH t.size t 1 (lr _) (nY s1).1 s2).2 0 true (AJ++s) _ (aeJ _) (K7 h)
theorem ah7 {f:Fm} (he:(dX f).2=0) {s:Bs} {ts:List Tok} (h:bJ ts s):bJ (qA f 1++sg [59] :: ts) ((dX f).1++(AJ++s)):=by
 obtain ⟨hc,hb,hs,-⟩:=Jm he;rw [hs];exact (RL f.size f 1 (lr _) (qI hc).1 hb).2 1 (AJ++s) _ (aeJ _) (K7 h)
theorem Ed {w:Bs} {d:Df} (he:(pQ w d).2=0):isName d.name.data.toList=true∧(aH d.tm).2=0∧(pQ w d).1=w++[32]++d.name.data.toList++[32,58,61,32]++(aH d.tm).1++AJ:=by
 unfold pQ at he ⊢
 by_cases h1:isName d.name.data.toList=false
 · rw [iP h1] at he;exact absurd he (by simp)
 rw [iN h1] at he ⊢
 by_cases h2:(aH d.tm).2≠0
 · rw [iP h2] at he;exact absurd he h2
 rw [iN h2];exact ⟨K8 h1,by omega,rfl⟩
theorem Jp {w:Bs} {t:Tm} (he:(xM w t).2=0):(aH t).2=0∧(xM w t).1=w++[32]++(aH t).1++AJ:=by
 unfold xM at he ⊢
 by_cases h2:(aH t).2≠0
 · rw [iP h2] at he;exact absurd he h2
 rw [iN h2];exact ⟨by omega,rfl⟩
theorem RO {d:Sp} (he:(Kl d).2=0):isName d.name.data.toList=true∧(dX d.fm).2=0∧(Kl d).1=pI++[32]++d.name.data.toList++[32,58,32]++(dX d.fm).1++AJ:=by
 unfold Kl at he ⊢
 by_cases h1:isName d.name.data.toList=false
 · rw [iP h1] at he;exact absurd he (by simp)
 rw [iN h1] at he ⊢
 by_cases h2:(dX d.fm).2≠0
 · rw [iP h2] at he;exact absurd he h2
 rw [iN h2];exact ⟨K8 h1,by omega,rfl⟩
theorem U7 {w:Bs} (hw:w=kW∨w=fE) {d:Df} (he:(pQ w d).2=0) {s:Bs} {ts:List Tok} (h:bJ ts s):bJ (lX w d++ts) ((pQ w d).1++s):=by
 obtain ⟨h1,h2,h3⟩:=Ed he;rw [h3];have h5:=zY h1 (acr _) (Zg (aeM h2 h));have h6:=U6 w (by rcases hw with h | h <;> simp [h]) h5;unfold lX
 simpa using h6
theorem K9 {w:Bs} (hw:w=iA∨w=eZ∨w=fP∨w=jL) {t:Tm} (he:(xM w t).2=0) {s:Bs} {ts:List Tok} (h:bJ ts s):bJ (jS w t++ts) ((xM w t).1++s):=by
 obtain ⟨h2,h3⟩:=Jp he;rw [h3];have h6:=U6 w (by rcases hw with h | h | h | h <;> simp [h]) (aeM h2 h);unfold jS
 simpa using h6
theorem agH {d:Sp} (he:(Kl d).2=0) {s:Bs} {ts:List Tok} (h:bJ ts s):bJ (EC d++ts) ((Kl d).1++s):=by
 obtain ⟨h1,h2,h3⟩:=RO he;rw [h3];have h5:=zY h1 (acr _) (Jo (ah7 h2 h));have h6:=U6 pI (by simp) h5;unfold EC
 simpa using h6
theorem rT {α:Type} {f:α→Bs} {g:α→List Tok}:∀ (l:List α) (s:Bs) (ts:List Tok),(∀ x∈l,∀ s ts,bJ ts s→bJ (g x++ts) (f x++s))→bJ ts s→bJ (l.flatMap g++ts) (l.flatMap f++s)
 | [],s,ts,_,h=>h
 | x :: r,s,ts,hx,h=>by
  have h1:=rT r s ts (fun y hy=>hx y (by simp [hy])) h;have h2:=hx x (by simp) _ _ h1
  simpa using h2
def tkM (m:Md):List Tok:=(m.vars.flatMap vQ)++(m.defs.flatMap (lX kW))++(m.init.flatMap (jS iA))++(m.bF.flatMap (jS eZ))++(m.next.flatMap (lX fE))++(m.trans.flatMap (jS fP))++(m.fair.flatMap (jS jL))++(m.specs.flatMap EC)
theorem aeN {m:Md} (h:I5 m):bJ (tkM m) (vC m):=by
 have h8:=rT (f:=fun x=>(Kl x).1) (g:=EC) m.specs [] [] (fun x hx s ts hl=>agH (h.specs.2 x hx) hl) rfl;have h7:=rT (f:=fun x=>(xM jL x).1) (g:=jS jL) m.fair _ _ (fun x hx s ts hl=>K9 (by simp) (h.fair.2 x hx) hl) h8;have h6:=rT (f:=fun x=>(xM fP x).1) (g:=jS fP) m.trans _ _ (fun x hx s ts hl=>K9 (by simp) (h.trans.2 x hx) hl) h7;have h5:=rT (f:=fun x=>(pQ fE x).1) (g:=lX fE) m.next _ _ (fun x hx s ts hl=>U7 (by simp) (h.next.2 x hx) hl) h6;have h4:=rT (f:=fun x=>(xM eZ x).1) (g:=jS eZ) m.bF _ _ (fun x hx s ts hl=>K9 (by simp) (h.bF.2 x hx) hl) h5;have h3:=rT (f:=fun x=>(xM iA x).1) (g:=jS iA) m.init _ _ (fun x hx s ts hl=>K9 (by simp) (h.init.2 x hx) hl) h4;have h2:=rT (f:=fun x=>(pQ kW x).1) (g:=lX kW) m.defs _ _ (fun x hx s ts hl=>U7 (by simp) (h.defs.2 x hx) hl) h3;have h1:=rT (f:=fun x=>(mM x).1) (g:=vQ) m.vars _ _ (fun x hx s ts hl=>aeL (h.vars.2 x hx) hl) h2;unfold tkM vC
 simpa using h1
end Go.Proofs.YtkhoeoilamddaaaGreatDoor
