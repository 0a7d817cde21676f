/- Walks of the reference of formula texts: ref33.strong, text at a term and at one part. -/
import Derived.Test.YtkhoeoilamddaaaGreatDoorYRefF
import Derived.Test.YtkhoeoilamddaaaGreatDoorYRefE
import Derived.Test.YtkhoeoilamddaaaGreatDoorYTrmH
namespace Go.Proofs.YtkhoeoilamddaaaGreatDoor
open Go.RowKit
set_option linter.unusedVariables false
set_option maxRecDepth 100000
set_option maxHeartbeats 16000000
set_option linter.unusedSimpArgs false
theorem gM(op:Int)(w:World) :
 Calls Tryz.prog 140 #[.int .i64 op] w fun e w'=>e=.returned (.int .i64 (aN op:Nat))∧w'=w:=by
 obtain⟨r,HR⟩:=ak (aN op);rw[←HR];go_in
 go_wp2
 all_goals
  go_ret;rw[HR];refine⟨?_,rfl⟩
  simp_all[aN]
def xQ(f:Fm)(least:Nat)(w:World)(e:Ending)(w':World):Prop:=∃s:ByteArray,e=.returned (.tuple #[.string s,.int .i64 (aG f least).2])∧((aG f least).2=0→bs s=(aG f least).1)∧Below w.heap.size w w'
def rX(N:Nat):Prop:=∀(f:Fm)(least d:Nat)(Ae:Option Addr)(ce:Nat)(A:Option Addr)(c:Nat)(w:World),f.size≤N→f.lI d→f.bT≤9000000→f.size≤5000→least≤4→pO w Ae ce A c f →
 Calls Tryz.prog 112 #[f.val Ae ce A c,.int .i64 (least:Nat)] w (xQ f least w)
theorem lY(f:Fm)(least:Nat):aG f least=if (if f.op=1 then([91]++(aH f.tm).1++[93],(aH f.tm).2)else mJ f.op f.kids).2≠0 then([],(if f.op=1 then([91]++(aH f.tm).1++[93],(aH f.tm).2)else mJ f.op f.kids).2)else if aN f.op<least then([40]++(if f.op=1 then([91]++(aH f.tm).1++[93],(aH f.tm).2)else mJ f.op f.kids).1++[41],0)else((if f.op=1 then([91]++(aH f.tm).1++[93],(aH f.tm).2)else mJ f.op f.kids).1,0):=by
 cases f;rw[aG];rfl
def agT(a b j:Nat):Nat:=if j=0 then a else b
structure vR(w1 wr:World)(bl l0 l1:Nat)(kids:List Fm)(k:Nat)(v:Value)(ys:List ByteArray):Prop where
 len:ys.length=k
 own:wr.ownsRow (bl+1) 9 1 v k (ys.map Value.string)
 low:wr.heap[bl]?=some (.cells #[.int .i64 (l0:Nat),.int .i64 (l1:Nat)] 3 (0,0))
 below:Below w1.heap.size w1 wr
 blt:bl<wr.heap.size
 bge:w1.heap.size≤bl
 txt:∀j x,kids[j]?=some x→j<k→(aG x (agT l0 l1 j)).2=0∧∃y,ys[j]?=some y∧bs y=(aG x (agT l0 l1 j)).1
section
variable {w1 wr wr2 wr3:World} {bl l0 l1 k:Nat} {kids:List Fm} {v v':Value} {ys:List ByteArray}
theorem vR.ck(h:vR w1 wr bl l0 l1 kids k v ys){j:Nat}(hj:j<2):wr.cell? ⟨bl,j,none⟩=some (.int .i64 (agT l0 l1 j:Nat)):=by
 rw[cR wr bl j _ _ (0,0) h.low];have:j=0∨j=1:=by omega
 rcases this with rfl|rfl<;>rfl
theorem iB{w w':World}{B n:Nat}{T:TypeId}{v:Value}{xs:List Value}(h:w.ownsRow B T 1 v n xs)(hb:Below w.heap.size w w'):w'.ownsRow B T 1 v n xs:=
 h.kept (row:=none) ⟨hb.os,hb.tape,hb.output,hb.size,fun k hk _=>hb.block k hk⟩ (by cases hv:v.ownBlock<;>simp)
theorem vR.next{o:Obj}{y:ByteArray}{x:Fm}(h:vR w1 wr bl l0 l1 kids k v ys)(hb:Below wr.heap.size wr wr2)(hg:(wr2.alloc o).grownBy wr3 v.ownBlock)(ho:wr3.ownsRow (bl+1) 9 1 v' (k+1) ((ys++[y]).map Value.string))
 (hx:kids[k]?=some x) (h0:(aG x (agT l0 l1 k)).2=0) (hy:bs y=(aG x (agT l0 l1 k)).1):vR w1 wr3 bl l0 l1 kids (k+1) v' (ys++[y]):=by
 have hlt:=h.blt;have hsz:=hb.size;have hown:∀q,v.ownBlock=some q→bl+1≤q:=fun q hq=>(h.own.lt q hq).1;have hal:Below wr.heap.size wr (wr2.alloc o):=hb.alloc hsz _;refine⟨by simp[h.len],ho,?_,?_,?_,h.bge,fun j z hz hj=>?_⟩
 ·rw[hg.block bl (by simp;omega) (fun e=>by have:=hown bl e.symm;omega),hal.block bl hlt];exact h.low
 ·refine Below.grown (h.below.trans (hal.mono h.below.size)) hg (by have:=h.below.size;simp;omega) fun q hq=>?_;have:=hown q hq;have:=h.bge;omega
 ·have:=hg.size;simp at this;omega
 ·rcases Nat.lt_or_ge j k with hjk|hjk
  ·obtain⟨h1,y',h2,h3⟩:=h.txt j z hz hjk;refine⟨h1,y',?_,h3⟩;rw[List.getElem?_append_left (by rw[h.len];exact hjk)];exact h2
  ·obtain rfl:j=k:=by omega
   rw[hx]at hz;obtain rfl:=Option.some.inj hz;exact⟨h0,y,by rw[List.getElem?_append_right (by rw[h.len];exact lr _),h.len];simp,hy⟩
theorem vR.first{w2:World}(hb:Below w1.heap.size w1 w2)(hlow:w2.heap[bl]?=some (.cells #[.int .i64 (l0:Nat),.int .i64 (l1:Nat)] 3 (0,0)))(hs:w2.heap.size=bl+1)(hbl:w1.heap.size≤bl) :
 vR w1 (w2.alloc (.cells #[] 9)) bl l0 l1 kids 0 (.slice (some ⟨bl+1,0,none⟩) 0 0) []:=by
 have ho:(w2.alloc (.cells #[] 9)).ownsRow (bl+1) 9 1 (.slice (some ⟨bl+1,0,none⟩) 0 0) 0 []:=by
  rw[←hs];exact World.ownsRow_made w2 #[] 0 (lr _) (zl _) rfl
 have hh:(w2.alloc (.cells #[] 9)).heap[bl]?=some (.cells #[.int .i64 (l0:Nat),.int .i64 (l1:Nat)] 3 (0,0)):=by
  rw[((Br w2.heap.size w2).alloc (lr _) _).block bl (by omega)];exact hlow
 exact⟨rfl,ho,hh,hb.alloc (by have:=hb.size;omega) _,by simp;omega,hbl,fun j x _ h=>by omega⟩
end
theorem ZQ(N:Nat)(H:rX N)(f:Fm)(least d:Nat)(Ae:Option Addr)(ce:Nat)(A:Option Addr)(c:Nat)(w:World)(hN:f.size≤N+1)(hok:f.lI d)(hws:f.bT≤9000000)(hsz:f.size≤5000)(hl4:least≤4)(hV:pO w Ae ce A c f)(ho:f.op=1) :
 Calls Tryz.prog 112 #[f.val Ae ce A c,.int .i64 (least:Nat)] w (xQ f least w):=by
 obtain⟨-,⟨hk0,hkl,hk1⟩,dS⟩:=dY hok;obtain⟨n,hn⟩:=aj f.kids.length;obtain⟨ne,hne⟩:=aj f.tm.kids.length;obtain⟨F,hF⟩:=aj (xQ f least w)
 have cB:∀k∈f.kids,k.size≤N∧k.size≤5000∧k.bT≤9000000:=fun k hk=>by
  have h1:=Fm.aM hk;have h2:=(Fm.bK f).2 k hk
  cases f with
  |mk op e l=>rw[Fm.size]at hN hsz;simp only[Fm.kids]at h1;omega
 have hts:=(Fm.bK f).1;have hcap:=hV.cap;have aQ:=hV.bU;unfold maxLen at aQ;obtain⟨w1,hw1⟩:=aj (w.alloc (.cells #[.int .i64 1,.int .i64 f.tm.op,.int .i64 f.tm.num,.string f.tm.name,.slice Ae ne ce,.slice A n c] 67));have hb1:=dz hw1;have hs1:w.heap.size<w1.heap.size:=by rw[hw1];simp
 have hbx:iJ w1 w.heap.size Ae ne ce A n c f:=by unfold iJ;rw[hw1,ho];exact eu w _
 have nV:Hid (∀W,Below w1.heap.size w1 W→W.cell? ⟨w.heap.size,0,none⟩=some (.int .i64 1)∧W.cell? ⟨w.heap.size,1,none⟩=some (.int .i64 f.tm.op)∧W.cell? ⟨w.heap.size,2,none⟩=some (.int .i64 f.tm.num)∧W.cell? ⟨w.heap.size,3,none⟩=some (.string f.tm.name)∧W.cell? ⟨w.heap.size,4,none⟩=some (.slice Ae ne ce)∧W.cell? ⟨w.heap.size,5,none⟩=some (.slice A n c)):=fun W hb=>by
  have hx:=hbx.below hb hs1;have h0:=hx.c0;rw[ho]at h0;exact⟨h0,hx.c1,hx.c2,hx.c3,hx.c4,hx.c5⟩
 obtain⟨x0,x1,x2,x3,x4,x5⟩:=nV w1 (Br _ _);have hV1:=hV.below hb1 rfl;have hsh:=ZK f.tm Ae ce w1 hV1.tm (by omega);unfold Tm.val at hsh;unfold Fm.val;rw[←hn,ho,←hF];rw[←hne]at hsh⊢;have hlen:=og f.tm
 have bE:Hid (aG f least=if (aH f.tm).2≠0 then([],(aH f.tm).2)else([91]++(aH f.tm).1++[93],0)):=by
  show _=_;have hs4:¬aN 1<least:=by show ¬(4<least);omega
  rw[lY,iP ho];simp only[ho,iN hs4]
 obtain⟨T,hT⟩:=aj (aH f.tm);rw[←hT]at hsh bE hlen;obtain⟨S,hS⟩:∃S:ByteArray,S=⟨T.1.toArray⟩:=⟨_,rfl⟩;have hz:S.size=T.1.length:=by rw[hS];exact Im _
 rw[←hS]at hsh;obtain⟨S1,hS1⟩:∃S1:ByteArray,S1=(⟨#[91]⟩:ByteArray)++S:=⟨_,rfl⟩;obtain⟨S2,hS2⟩:∃S2:ByteArray,S2=S1++(⟨#[93]⟩:ByteArray):=⟨_,rfl⟩;have z1:S1.size=1+S.size:=by rw[hS1,bA];rfl
 have Ib:=bC hS1 (by show 1+S.size≤_;omega);have uP:=bC hS2 (by show S1.size+1≤_;omega);have HB2:Hid (bs S2=[91]++T.1++[93]):=by show _=_;rw[hS2,hS1,hS];simp[bs]
 obtain⟨e1,he1⟩:=aj T.2;rw[←he1]at hsh bE;have HF:=Hd hF;have HB1:=Hd hb1;have HW1:=Hd hw1;have HC:=Hd hsh;clear hF hb1 hw1 hsh hV hV1 hbx hn hne hT hS hS1 hS2 z1 hz hlen he1 hok dS cB hk1 hkl hk0 H;go_in;go_wp2_with fail;rw[←HW1];go_wp2_with fail;refine HC.mono ?_;rintro e w2 ⟨rfl,hb2⟩;have HB3:=Hd (HB1.trans (hb2.mono (by omega)));clear hb2 x0 x1 x2 x3 x4 x5;go_wp2_with fail;rw[HF];have h2:(aG f least).2=e1:=by rw[bE];split;rfl;rename_i h;exact(Decidable.not_not.1 h).symm
 exact⟨S2,by rw[h2];rfl,fun h=>by rw[bE,iN (fun h9=>h9 (by rw[←h2];exact h))];exact HB2,HB3⟩
def flA(o:Int):Nat:=if o=5 then 2 else if o=9∨o=13 then 1 else aN o
def flB(o:Int):Nat:=if o=5 then 1 else if o=9∨o=13 then 1 else aN o+1
def amu(o:Int):List Bs→Bs
 |[a]=>jA o++a
 |[a,b]=>eP o++a++uW o++b++cZ o
 |_=>[]
theorem amx{f:Fm}(h:0≤bV f.op)(h1:f.op≠1):(bV f.op=1∧flA f.op=4∧aN f.op=4∧(f.op=2∨f.op=6∨f.op=7∨f.op=8∨f.op=10∨f.op=11∨f.op=12))∨(bV f.op=2∧flA f.op=fO f.op∧flB f.op=gX f.op∧(f.op=3∨f.op=4∨f.op=5∨f.op=9∨f.op=13)):=by
 rcases Jw h with ho|ho|ho|ho|ho|ho|ho|ho|ho|ho|ho|ho|ho
 ·exact absurd ho h1
 all_goals rw[ho]
 all_goals first|exact .inl ⟨rfl,rfl,rfl,by decide⟩|exact .inr ⟨rfl,rfl,rfl,by decide⟩
theorem amD{f:Fm}{d:Nat}(hok:f.lI d)(h1:f.op≠1)(least:Nat):(∃a,f.kids=[a]∧aG f least=if (aG a (flA f.op)).2≠0 then([],(aG a (flA f.op)).2)else if aN f.op<least then([40]++amu f.op [(aG a (flA f.op)).1]++[41],0)else(amu f.op [(aG a (flA f.op)).1],0)) ∨
 ∃a b,f.kids=[a,b]∧aG f least=if (aG a (flA f.op)).2≠0 then([],(aG a (flA f.op)).2)else if (aG b (flB f.op)).2≠0 then([],(aG b (flB f.op)).2)else if aN f.op<least then([40]++amu f.op [(aG a (flA f.op)).1,(aG b (flB f.op)).1]++[41],0)else(amu f.op [(aG a (flA f.op)).1,(aG b (flB f.op)).1],0):=by
 obtain⟨-,⟨hk0,hkl,-⟩,-⟩:=dY hok
 rcases amx hk0 h1 with⟨k1,ka,-,-⟩|⟨k1,ka,kb,-⟩
 ·obtain⟨a,hk⟩:=uQ (by omega:f.kids.length=1);refine .inl ⟨a,hk,?_⟩;rw[lY,iN h1,hk,Di k1,ka]
  rfl
 ·obtain⟨a,b,hk⟩:=z_ (by omega:f.kids.length=2);refine .inr ⟨a,b,hk,?_⟩;rw[lY,iN h1,hk,Jy k1,ka,kb]
  by_cases h9:(aG a (fO f.op)).2=0<;>simp[h9,amu]
theorem amZ{f q:Fm}{d k least:Nat}(hok:f.lI d)(h1:f.op≠1)(hq:f.kids[k]?=some q)(h0:∀j x,f.kids[j]?=some x→j<k→(aG x (agT (flA f.op) (flB f.op) j)).2=0)(he:(aG q (agT (flA f.op) (flB f.op) k)).2≠0):aG f least=([],(aG q (agT (flA f.op) (flB f.op) k)).2):=by
 rcases amD hok h1 least with⟨a,hk,h⟩|⟨a,b,hk,h⟩
 ·rw[hk]at hq
  obtain⟨rfl,rfl⟩:k=0∧a=q:=by
   cases k with
   |zero=>simpa using hq
   |succ k=>simp at hq
  have he:(aG a (flA f.op)).2≠0:=he;rw[h,iP he];rfl
 ·rw[hk]at hq
  match k,hq with
  |0,hq=>
   obtain rfl:a=q:=by simpa using hq
   have he:(aG a (flA f.op)).2≠0:=he;rw[h,iP he];rfl
  |1,hq=>
   obtain rfl:b=q:=by simpa using hq
   have h2:=h0 0 a (by rw[hk];rfl) (by omega);have he:(aG b (flB f.op)).2≠0:=he;rw[h,iN (fun h9=>h9 h2),iP he];rfl
  |k+2,hq=>simp at hq
theorem am3{f:Fm}{d least:Nat}{ys:List ByteArray}(hok:f.lI d)(h1:f.op≠1)(hl:ys.length=f.kids.length)(h0:∀j x,f.kids[j]?=some x→(aG x (agT (flA f.op) (flB f.op) j)).2=0∧∃y,ys[j]?=some y∧bs y=(aG x (agT (flA f.op) (flB f.op) j)).1) :
 aG f least=if aN f.op<least then([40]++amu f.op (ys.map bs)++[41],0)else(amu f.op (ys.map bs),0):=by
 rcases amD hok h1 least with⟨a,hk,h⟩|⟨a,b,hk,h⟩
 ·obtain⟨e0,y,hy,hy2⟩:=h0 0 a (by rw[hk];rfl)
  obtain rfl:ys=[y]:=by
   rw[hk]at hl
   match ys,hl,hy with
   |[z],_,hy=>simpa using hy
  rw[h,iN (fun h9=>h9 e0)];simp only[List.map_cons,List.map_nil,hy2];rfl
 ·obtain⟨e0,y,hy,hy2⟩:=h0 0 a (by rw[hk];rfl);obtain⟨e1,z,hz,hz2⟩:=h0 1 b (by rw[hk];rfl)
  obtain rfl:ys=[y,z]:=by
   rw[hk]at hl
   match ys,hl,hy,hz with
   |[p,q],_,hy,hz=>simp at hy hz;rw[hy,hz]
  rw[h,iN (fun h9=>h9 e0),iN (fun h9=>h9 e1)];simp only[List.map_cons,List.map_nil,hy2,hz2];rfl
theorem am4{f q:Fm}{d k:Nat}(hok:f.lI d)(h1:f.op≠1)(hq:f.kids[k]?=some q):agT (flA f.op) (flB f.op) k≤4:=by
 obtain⟨-,⟨hk0,hkl,-⟩,-⟩:=dY hok;have hk:=(gE.1 hq).1
 rcases amx hk0 h1 with⟨k1,ka,-,-⟩|⟨k1,ka,kb,-⟩
 ·obtain rfl:k=0:=by omega
  rw[ka];exact lr _
 ·rw[ka,kb];unfold agT fO gX
  repeat' split
  all_goals omega
theorem am0{f:Fm}{d:Nat}{ys:List ByteArray}(hok:f.lI d)(h1:f.op≠1)(hsz:f.size≤5000)(hl:ys.length=f.kids.length)(h0:∀j x,f.kids[j]?=some x→∃y,ys[j]?=some y∧bs y=(aG x (agT (flA f.op) (flB f.op) j)).1):(ys.map ByteArray.size).sum≤328000000:=by
 have key:∀(l:List Fm)(ys:List ByteArray)(p:Nat),ys.length=l.length→(∀j x,l[j]?=some x→∃y,ys[j]?=some y∧bs y=(aG x (agT (flA f.op) (flB f.op) (p+j))).1)→(ys.map ByteArray.size).sum≤65600*Fm.aA l:=by
  intro l
  induction l with
  |nil=>intro ys p hl _;obtain rfl:=List.eq_nil_of_length_eq_zero hl;simp[Fm.aA]
  |cons x r ih=>
   intro ys p hl h0
   match ys,hl with
   |y::t,hl=>
    have h2:=ih t (p+1) (by simpa using hl) (fun j z hz=>by rw[show p+1+j=p+(j+1) by omega];exact h0 (j+1) z (by simpa using hz));obtain⟨y',hy,hb⟩:=h0 0 x rfl;obtain rfl:y=y':=by simpa using hy
    have h3:=dM x (agT (flA f.op) (flB f.op) (p+0));rw[←hb,aC]at h3;simp only[List.map_cons,List.sum_cons,Fm.aA];omega
 have h2:=key f.kids ys 0 hl (fun j x hx=>by rw[Nat.zero_add];exact h0 j x hx)
 cases f with
 |mk op e l=>rw[Fm.size]at hsz;simp only[Fm.kids]at h2;omega
theorem amX{F:Ending→World→Prop}{f:Fm}{least:Nat}{w W:World}{e:Ending}{S:ByteArray}{X:Bs}(hF:F=xQ f least w)(hK:aG f least=(X,0))(he:e=.returned (.tuple #[.string S,.int .i64 0]))(hS:bs S=X)(hb:Below w.heap.size w W):F e W:=by
 rw[hF];exact⟨S,by rw[hK];exact he,fun _=>by rw[hK];exact hS,hb⟩
def amB(w1:World)(a b:Nat)(v:Value)(W:World):Prop:=∃bl,v=.slice (some ⟨bl,0,none⟩) 2 2∧Below w1.heap.size w1 W∧W.heap[bl]?=some (.cells #[.int .i64 (a:Nat),.int .i64 (b:Nat)] 3 (0,0))∧w1.heap.size≤bl∧W.heap.size=bl+1
theorem amB.new{w1 W:World}{a b:Nat}(h:Below w1.heap.size w1 W):amB w1 a b (.slice (some ⟨W.heap.size,0,none⟩) 2 2) (W.alloc (.cells #[.int .i64 (a:Nat),.int .i64 (b:Nat)] 3)):=
 ⟨_,rfl,h.alloc h.size _,eu W _,h.size,by simp⟩
theorem amB.drew{w1 W:World}{a b:Nat}{v:Value}(h:amB w1 a b v W):amB w1 a b v W.drew:=by
 obtain⟨bl,h1,h2,h3,h4,h5⟩:=h;exact⟨bl,h1,h2.drew,h3,h4,h5⟩
theorem amN(N:Nat)(H:rX N)(f:Fm)(least d:Nat)(Ae:Option Addr)(ce:Nat)(A:Option Addr)(c:Nat)(w:World)(hN:f.size≤N+1)(hok:f.lI d)(hws:f.bT≤9000000)(hsz:f.size≤5000)(hl4:least≤4)(hV:pO w Ae ce A c f)(ho:f.op≠1) :
 Calls Tryz.prog 112 #[f.val Ae ce A c,.int .i64 (least:Nat)] w (xQ f least w):=by
 obtain⟨-,⟨hk0,hkl,-⟩,dS⟩:=dY hok;have hlow:=amx hk0 ho;obtain⟨n,hn⟩:=aj f.kids.length;obtain⟨ne,hne⟩:=aj f.tm.kids.length;obtain⟨F,HF⟩:=ak (xQ f least w);have hn2:1≤n∧n≤2:=by omega
 have mg:Hid (∀(k:Nat)(q:Fm),f.kids[k]?=some q→q.size≤N∧q.size≤5000∧q.bT≤9000000∧q.lI (d+1)):=fun k q hq=>by
  have hm:=mG hq;have h1:=Fm.aM hm;have h2:=(Fm.bK f).2 q hm;have h3:=dS q hm
  cases f with
  |mk op e l=>rw[Fm.size]at hN hsz;simp only[Fm.kids]at h1;exact⟨by omega,by omega,by omega,h3⟩
 have hcap:=hV.cap;have aQ:=hV.bU;unfold maxLen at aQ;obtain⟨w1,hw1⟩:=aj (w.alloc (.cells #[.int .i64 f.op,.int .i64 f.tm.op,.int .i64 f.tm.num,.string f.tm.name,.slice Ae ne ce,.slice A n c] 67));have hb1:=dz hw1;have hs1:w.heap.size<w1.heap.size:=by rw[hw1];simp
 have hbx:iJ w1 w.heap.size Ae ne ce A n c f:=by unfold iJ;rw[hw1];exact eu w _
 have hV1:=hV.below hb1 rfl
 rcases hV1.kids with h9|⟨g,off,rfl,hg,hrow⟩
 ·rw[h9]at hn;exact absurd hn2.1 (by rw[hn];decide)
 unfold Fm.val;rw[←hn,←hne,←HF];obtain⟨s,hs⟩:=aj (aN f.op)
 have hs4:s≤4:=by
  rw[hs];unfold aN
  repeat' split
  all_goals omega
 have HST:Hid (∀W,Calls Tryz.prog 140 #[.int .i64 f.op] W fun e w'=>e=.returned (.int .i64 (s:Nat))∧w'=W):=fun W=>by rw[hs];exact gM f.op W
 have HBAD:Hid (∀(k:Nat)(q:Fm),f.kids[k]?=some q→(∀(j:Nat)(x:Fm),f.kids[j]?=some x→j<k→(aG x (agT (flA f.op) (flB f.op) j)).2=0)→(aG q (agT (flA f.op) (flB f.op) k)).2≠0→aG f least=([],(aG q (agT (flA f.op) (flB f.op) k)).2)):=fun k q h1 h2 h3=>amZ hok ho h1 h2 h3;have BQ:Hid (∀ys:List ByteArray,ys.length=f.kids.length→(∀(j:Nat)(x:Fm),f.kids[j]?=some x→(aG x (agT (flA f.op) (flB f.op) j)).2=0∧∃y,ys[j]?=some y∧bs y=(aG x (agT (flA f.op) (flB f.op) j)).1)→aG f least=if s<least then([40]++amu f.op (ys.map bs)++[41],0)else(amu f.op (ys.map bs),0)):=fun ys h1 h2=>by rw[hs];exact am3 hok ho h1 h2
 have QV:Hid (∀ys:List ByteArray,ys.length=f.kids.length→(∀(j:Nat)(x:Fm),f.kids[j]?=some x→∃y,ys[j]?=some y∧bs y=(aG x (agT (flA f.op) (flB f.op) j)).1)→(ys.map ByteArray.size).sum≤328000000):=fun ys h1 h2=>am0 hok ho hsz h1 h2
 have HCL:Hid (∀(k:Nat)(q:Fm) eD eF A2 c2 W,f.kids[k]?=some q→pO W eD eF A2 c2 q→Calls Tryz.prog 112 #[q.val eD eF A2 c2,.int .i64 (agT (flA f.op) (flB f.op) k:Nat)] W (xQ q (agT (flA f.op) (flB f.op) k) W)):=fun k q eD eF A2 c2 W hq hv=>by
  obtain⟨z1,z2,z3,z4⟩:=mg k q hq;exact H q _ (d+1) eD eF A2 c2 W z1 z4 z3 z2 (am4 hok ho hq) hv
 obtain⟨o,HOO⟩:=ak f.op;obtain⟨la,HLA⟩:=ak (flA f.op);obtain⟨lb,HLB⟩:=ak (flB f.op);rw[←hs,←HLA,←HLB,←HOO]at hlow;rw[←HLA,←HLB]at HBAD BQ QV HCL;rw[←HOO]at BQ HST hw1 ho⊢
 have nV:Hid (∀W,Below w1.heap.size w1 W→W.cell? ⟨w.heap.size,0,none⟩=some (.int .i64 o)∧W.cell? ⟨w.heap.size,5,none⟩=some (.slice (some ⟨g,off,none⟩) n c)):=fun W hb=>by
  have hx:=hbx.below hb hs1;exact⟨by rw[HOO];exact hx.c0,hx.c5⟩
 have am5:Hid (la=if o=5 then 2 else if o=9∨o=13 then 1 else s):=by show _=_;rw[HLA,HOO,hs];rfl
 have am6:Hid (lb=if o=5 then 1 else if o=9∨o=13 then 1 else s+1):=by show _=_;rw[HLB,HOO,hs];rfl
 obtain⟨x0,x5⟩:=nV w1 (Br _ _);have iF:=Hd hrow;have HB1:=Hd hb1;have HW1:=Hd hw1;have HN:=Hd hn;have aiX:=Hd hlow;have Qd:Hid ((n:Int)=bV o):=by show _=_;rw[HOO,←hkl,hn]
 have o1:(o==1)=false:=by simpa using ho
 have ang:IntKind.i64.wrap ((s:Int)+1)=((s+1:Nat):Int):=by rw[IntWalk.i64_in _ (by omega)];rfl
 clear hb1 hw1 hV hV1 hbx hn hne hok dS hkl hk0 H hrow hsz hws hN hs hlow ho mg HOO HLA HLB;go_in;go_wp2_with fail;rw[←HW1];go_wp2_with fail;refine aL 7 (by kernel_rfl) (by kernel_rfl) ?_;simp only[List.take_succ_cons,List.take_zero,List.drop_succ_cons,List.drop_zero]
 repeat still_step
 still_call (HST _)
 repeat still_step
 still_call (HST _)
 repeat still_step
 refine wpStill_nil ?_
 go_upto_if 37 with fail
 go_cut [8]from 14 (fun v W=>amB w1 (if o=5 then 2 else s) (if o=5 then 1 else s+1) v W)
 case first=>
  by_cases h5:o=5
  ·have o5:(o==5)=true:=by simpa using h5
   have H5:=Hd h5;clear h5;go_wp2_with fail
   go_meet
   case rel=>
    rw[iP H5.out,iP H5.out];have h:=amB.new (a:=2) (b:=1) (show Below w1.heap.size w1 (w1.alloc (.cells #[.int .i64 s,.int .i64 ((s:Int)+1)] 3))from(Br _ _).alloc (lr _) _);rw[show(w1.alloc (.cells #[.int .i64 s,.int .i64 ((s:Int)+1)] 3)).heap.size=w1.heap.size+1 by simp]at h;exact h.drew
  ·have o5:(o==5)=false:=by simpa using h5
   have H5:=Hd h5;clear h5;go_wp2_with fail
   go_meet
   case rel=>
    rw[iN H5.out,iN H5.out];exact(amB.new (a:=s) (b:=s+1) (Br _ _)).drew
 case rest=>
 obtain⟨bl,rfl,hb2,hlow,hbl,hbs⟩:=hcut;have Cx:Hid (amB w1 (if o=5 then 2 else s) (if o=5 then 1 else s+1) (.slice (some ⟨bl,0,none⟩) 2 2) wc):=⟨bl,rfl,hb2,hlow,hbl,hbs⟩;have HB2:=Hd hb2;obtain⟨x0,x5⟩:=nV wc hb2;clear hlow hb2
 go_upto_region 7 with fail
 go_cut [46]from 14 (fun v W=>v=.bool (decide (o=9∨o=13))∧W=wc)
 case first=>
  by_cases h9:o=9
  ·have k9:(o==9)=true:=by simpa using h9
   have H9:=Hd h9;clear h9;go_wp2_with fail
   go_meet
   case rel=>exact⟨by simp[H9.out],rfl⟩
  ·have k9:(o==9)=false:=by simpa using h9
   have H9:=Hd h9;clear h9;go_wp2_with fail
   go_meet
   case rel=>exact⟨by simp[H9.out];rfl,rfl⟩
 case rest=>
 obtain⟨rfl,rfl⟩:=hcut
 go_upto_if 46 with fail
 go_cut [8]from 14 (fun v W=>amB w1 la lb v W)
 case first=>
  by_cases h9:o=9∨o=13
  ·have o9:decide (o=9∨o=13)=true:=by simpa using h9
   have H9:=Hd h9;clear h9;go_wp2_with fail
   go_meet
   case rel=>
    have h5:¬o=5:=by have:=H9.out;omega
    rw[am5,am6,iN h5,iN h5,iP H9.out,iP H9.out];have h:=amB.new (a:=1) (b:=1) HB2;rw[hbs]at h;exact h
  ·have o9:decide (o=9∨o=13)=false:=by simpa using h9
   have H9:=Hd h9;clear h9;go_wp2_with fail
   go_meet
   case rel=>
    rw[am5,am6,iN H9.out,iN H9.out];exact Cx
 case rest=>
 obtain⟨b2,rfl,hb3,hlow,ajD,anb⟩:=hcut;rename World=>wd;have Kq:=Hd (vR.first (kids:=f.kids) hb3 hlow anb ajD);clear Cx HB2 x0 x5 hbs hbl hb3 hlow am5 am6;obtain⟨i0,hi,hz0,hz1,hz2⟩:=info_parts nO;go_wp2_with fail
 go_loopw [9,10,11,12] (fun sl si _ _ wr=>∃(k:Nat)(ys:List ByteArray),k≤n∧si=.int .i64 k∧vR w1 wr b2 la lb f.kids k sl ys) (fun _ i _ _ _=>n-(intOf i).toNat)
 case atStart=>exact⟨0,[],zl _,rfl,Kq⟩
 case round=>
  obtain⟨k,ys,hk,rfl,hR⟩:=hrel;obtain⟨sa,vX,hsv⟩:=jX hR.own;subst hsv;have HR:=Hd hR;have hbel:=hR.below;have nR:=hbel.size;have sI:=hR.blt;obtain⟨x0,x5⟩:=nV wr hbel;have pE:w.heap.size<wr.heap.size:=by omega
  have hgw:g<wr.heap.size:=by omega
  clear Kq
  by_cases hkn:k<n
  ·obtain⟨q,hq⟩:∃q,f.kids[k]?=some q:=⟨_,gG (by have:=HN.out;omega)⟩;have yk:=hR.ck (j:=k) (by omega);have hat:=(iF.get hq).below hbel rfl hg;obtain⟨q0,q1,q2,q3,eD,eF,A2,c2,q4,q5,hV2⟩:=hat.open;rw[Nat.mul_comm 6 k]at q0 q1 q2 q3 q4 q5;obtain⟨n2,am7⟩:=aj q.kids.length;obtain⟨zT,hne2⟩:=aj q.tm.kids.length;obtain⟨L,HL⟩:=ak (agT la lb k);obtain⟨rq,HRQ⟩:=ak (aG q (agT la lb k))
   have HC:Hid (∀W,Below wr.heap.size wr W→Calls Tryz.prog 112 #[.agg #[.int .i64 q.op,.int .i64 q.tm.op,.int .i64 q.tm.num,.string q.tm.name,.slice eD zT eF,.slice A2 n2 c2],.int .i64 (L:Nat)] W fun e w'=>∃s:ByteArray,e=.returned (.tuple #[.string s,.int .i64 rq.2])∧(rq.2=0→bs s=rq.1)∧Below W.heap.size W w'):=fun W hb=>by
    have hcall:=HCL k q eD eF A2 c2 W hq (hV2.below hb rfl);unfold Fm.val xQ at hcall;rw[←am7,←hne2,←HRQ,←HL]at hcall;exact hcall
   rw[←am7]at q5;rw[←hne2]at q4;rw[←HL]at yk;have HQ:=Hd hq;have hk0:(0:Int)≤(k:Int):=by omega
   have hk1:(k:Int)<(n:Int):=by omega
   have hk2:(k:Int)<2:=by omega
   clear am7 hne2 hV2 hat hbel hR hq;go_wp2_with fail;have hbd:Below wr.heap.size wr wr.drew:=(Br _ _).drew
   go_region_held3 (fun w'=>(∀o,w'.cell? ⟨w.heap.size,o,none⟩=wr.cell? ⟨w.heap.size,o,none⟩)∧(∀o,w'.cell? ⟨g,o,none⟩=wr.cell? ⟨g,o,none⟩)∧(∀o,w'.cell? ⟨b2,o,none⟩=wr.cell? ⟨b2,o,none⟩)∧Below wr.heap.size wr w')
    (first|(exact⟨aB (by assumption) pE,aB (by assumption) hgw,aB (by assumption) sI,by assumption⟩)|fail)
    (first|(go_at_call 112;with_reducible refine(HC.out _ (by assumption)).mono ?_;rintro e w4 ⟨s4,rfl,hs4,hb4⟩;have hb5:=aY (by assumption) hb4)|fail)
   have pU:=Hd hb5;have kH:=Hd (HB1.trans ((aY HR.below hb5).mono (by omega)));have hs5:=hb5.size;have uX:=Hd (iB HR.own hb5);have zQ:=Hd hs4;clear hbd hb4 hb5 hs4 q0 q1 q2 q3 q4 q5 x0 x5 yk
   by_cases hz:rq.2=0
   ·have ED:=Hd (zQ hz);have HZ:=Hd hz;have hzb:(rq.2 != 0)=false:=by simpa using hz
    clear hz
    go_wp2_with (at_builtin;refine wpList_append_lies _ (by rfl) _ _ _ (by rfl) (b2+1) 9 i0 (.string ⟨#[]⟩) 1 16 Tryz.underlying120 hi hz0 hz1 hz2 rfl (by decide) _ k _ (by rfl) (uX.alloc _) ⟨w4.heap.size,0,none⟩ 1 1 [.string s4] (by rfl) rfl (World.news_of_block (eu w4 _)) (fun u hu=>by rw[List.mem_singleton.1 hu];rfl) (by decide) ?c3 ?c4 ?c5 (w4.heap.size+1) (by simp) ?_)
    case c3=>unfold maxLen;omega
    case c4=>omega
    case c5=>first|omega|(simp;omega)
    intro g' cap' w6 hown6 dH pW EG
    have dI:w6.ownsRow (b2+1) 9 1 (.slice (some ⟨g',0,none⟩) (k+1) cap') (k+1) ((ys++[s4]).map Value.string):=by
     rw[List.map_append,List.map_singleton];exact hown6
    have o7:=Hd (vR.next HR pU dH dI HQ (by rw[←HRQ];exact HZ) (by rw[←HRQ];exact ED));clear hown6 dI dH pW;go_wp2_with fail
    go_roundw
    case rel=>exact⟨k+1,ys++[s4],by omega,by go_num,o7⟩
    case measure=>simp[intOf];omega
   ·have HZ:=Hd hz;have hzb:(rq.2 != 0)=true:=by simpa using hz
    clear hz;go_wp2_with fail;rw[HF];have h2:aG f least=([],rq.2):=by rw[HRQ];exact HBAD k q HQ (fun j x hx hj=>(HR.txt j x hx hj).1) (by rw[←HRQ];exact HZ)
    exact⟨⟨#[]⟩,by rw[h2];rfl,fun h=>by rw[h2]at h;exact absurd h HZ,kH⟩
  ·obtain rfl:k=n:=by omega
   have hk1:¬(k:Int)<(k:Int):=by omega
   obtain⟨A9,c9,xu,NM⟩:=gF (by rw[hR.len];exact hR.own);rw[hR.len]at xu;obtain⟨rfl,rfl⟩:sa=A9∧vX=c9:=by injection xu with h1 h2 h3;exact⟨h1,h3⟩
   have hyl:=hR.len
   rcases NM with h9|⟨gb,ob,rfl,hgb,hcb⟩
   ·rw[h9]at hyl;simp at hyl;omega
   have hall:∀(j:Nat)(x:Fm),f.kids[j]?=some x→(aG x (agT la lb j)).2=0∧∃y,ys[j]?=some y∧bs y=(aG x (agT la lb j)).1:=fun j x hx=>hR.txt j x hx (by have:=(gE.1 hx).1;have:=HN.out;omega);have hok:=BQ ys (hyl.trans HN) hall;have hln:=QV ys (hyl.trans HN) (fun j x hx=>(hall j x hx).2);have lK:Hid (∀m,Below w.heap.size w (wr.drewN m)):=fun m=>oK (HB1.trans (hbel.mono (by omega))) m;clear xu hall hR HBAD BQ QV HCL hi hz0 hz1 hz2
   rcases aiX.out with⟨f1,-,anc,hop⟩|⟨f2,-,-,hop⟩
   ·have ane:k=1:=by have:=Qd.out;omega
    obtain⟨va,rfl⟩:∃va,ys=[va]:=by
     match ys,hyl with
     |[v],_=>exact⟨v,rfl⟩
     |[],h=>simp at h;omega
     |_::_::_,h=>simp at h;omega
    have z0:=hcb 0 (by simp);simp only[Nat.add_zero,List.getD,List.getElem?_cons_zero,Option.getD_some]at z0;simp only[List.map_cons,List.map_nil,List.sum_cons,List.sum_nil,Nat.add_zero]at hok hln;subst anc;rw[iN (by omega)]at hok;have HK:=Hd hok;have hl5:¬(4:Int)<(least:Int):=by omega
    clear hok hcb hyl f1 Qd aiX;have hi0:(0:Int)<(k:Int):=by omega
    clear ane
    rcases hop with rfl|rfl|rfl|rfl|rfl|rfl|rfl
    all_goals
     go_wp2_with fail;refine(HST _).mono ?_;rintro e w8 ⟨rfl,hw8⟩;rw[hw8];clear hw8;go_wp2_with fail;refine amX HF HK rfl ?_ (lK 0);simp[bs,amu,jA]
   ·have anf:k=2:=by have:=Qd.out;omega
    obtain⟨va,vb,rfl⟩:∃va vb,ys=[va,vb]:=by
     match ys,hyl with
     |[v,u],_=>exact⟨v,u,rfl⟩
     |[],h=>simp at h;omega
     |[_],h=>simp at h;omega
     |_::_::_::_,h=>simp at h;omega
    have z0:=hcb 0 (by simp);have z1:=hcb 1 (by simp);simp only[Nat.add_zero,List.getD,List.getElem?_cons_zero,List.getElem?_cons_succ,Option.getD_some]at z0 z1;simp only[List.map_cons,List.map_nil,List.sum_cons,List.sum_nil,Nat.add_zero]at hok hln;clear hcb hyl f2 Qd aiX;have hi0:(0:Int)<(k:Int):=by omega
    have hi1:(1:Int)<(k:Int):=by omega
    clear anf;have HK:=Hd hok;clear hok
    rcases hop with rfl|rfl|rfl|rfl|rfl
    all_goals
     go_wp2_with fail
     try go_quiet (fail)
     (try go_wp2_with fail);refine(HST _).mono ?_;rintro e w8 ⟨rfl,hw8⟩;rw[hw8];clear hw8 z0 z1
     by_cases hsl:s<least
    all_goals
     have HS9:=Hd hsl
     first
      |have Ip:(s:Int)<(least:Int):=by omega
      |have Ip:¬(s:Int)<(least:Int):=by omega
     clear hsl;go_wp2_with fail;have hk:=HK.out
     first
      |rw[iP HS9.out]at hk
      |rw[iN HS9.out]at hk
     refine amX HF hk rfl ?_ (lK _);simp[bs,amu,eP,uW,cZ]
end Go.Proofs.YtkhoeoilamddaaaGreatDoor
