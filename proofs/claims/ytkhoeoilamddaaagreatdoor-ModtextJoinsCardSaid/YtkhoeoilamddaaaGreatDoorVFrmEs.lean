/- Walks and plain words: FrmEs FrmGs. -/
import Derived.Test.YtkhoeoilamddaaaGreatDoorVFrmC
import Derived.Test.YtkhoeoilamddaaaGreatDoorVTrmGs
namespace Go.Proofs.YtkhoeoilamddaaaGreatDoor
open Go.RowKit
set_option linter.unusedVariables false
set_option maxRecDepth 100000
set_option maxHeartbeats 4000000
theorem strong_any (op:Int) (w:World) :
 Calls Tryz.prog 103 #[.int .i64 op] w fun e w'=>e=.returned (.int .i64 (strongF op:Nat))∧w=w':=by
 obtain ⟨r,HR⟩:=exh_ (strongF op);rw [←HR.out];go_enter Tryz.func103,Tryz.ntmps103
 go_wp2
 all_goals
  go_ret;rw [HR.out];refine ⟨?_,rfl⟩
  simp_all [strongF]
def slimF:Nat→Fm→Bool
 | 0,_=>false
 | N+1,f=>((f.op == 1 && slimT f.tm.size f.tm 0) || f.op == 2 || f.op == 4 || f.op == 5 || f.op == 7) && f.kids.all (slimF N)
theorem slimF_open {N:Nat} {f:Fm} (h:slimF (N+1) f=true):(f.op=1∨f.op=2∨f.op=4∨f.op=5∨f.op=7)∧(f.op=1→slimT f.tm.size f.tm 0=true)∧∀ k∈f.kids,slimF N k=true:=by
 rw [slimF] at h;simp only [Bool.and_eq_true,Bool.or_eq_true,beq_iff_eq,List.all_eq_true] at h;obtain ⟨h1,h2⟩:=h;refine ⟨by omega,fun h3=>?_,h2⟩
 rcases h1 with (((h1 | h1) | h1) | h1) | h1
 · exact h1.2
 all_goals omega
def TextC (N:Nat):Prop:=∀ (f:Fm) (least d:Nat) (Ae:Option Addr) (ce:Nat) (A:Option Addr) (c:Nat) (w:World),f.size≤N→slimF N f=true→f.okT d→f.wsize≤9000000→f.size≤5000→least≤10→FmV w Ae ce A c f→WordsT w →
 Calls Tryz.prog 60 #[f.val Ae ce A c,.int .i64 (least:Nat)] w fun e w'=>e=.returned (.tuple #[.string ⟨(frmT f least).1.toArray⟩,.int .i64 (frmT f least).2])∧Below w.heap.size w w'
theorem FmV.kid {w:World} {Ae A:Option Addr} {ce c:Nat} {f k:Fm} {j:Nat} (h:FmV w Ae ce A c f) (hk:f.kids[j]?=some k):∃ g o,A=some ⟨g,o,none⟩∧g<w.heap.size∧∃ Ae2 ce2 A2 c2,w.cell? ⟨g,o+6*j,none⟩=some (.int .i64 k.op)∧w.cell? ⟨g,o+6*j+1,none⟩=some (.int .i64 k.tm.op)∧w.cell? ⟨g,o+6*j+2,none⟩=some (.int .i64 k.tm.num)∧w.cell? ⟨g,o+6*j+3,none⟩=some (.string k.tm.name) ∧
 w.cell? ⟨g,o+6*j+4,none⟩=some (.slice Ae2 k.tm.kids.length ce2)∧w.cell? ⟨g,o+6*j+5,none⟩=some (.slice A2 k.kids.length c2)∧FmV w Ae2 ce2 A2 c2 k:=by
 rcases h.kids with h0 | ⟨g,o,hA,hg,hrow⟩
 · rw [h0] at hk;simp at hk
 · obtain ⟨q0,q1,q2,q3,Ae2,ce2,A2,c2,q4,q5,hv⟩:=(hrow.get hk).open;exact ⟨g,o,hA,hg,Ae2,ce2,A2,c2,q0,q1,q2,q3,q4,q5,hv⟩
def aheadF (word:Bs) (a:Fm):Bs×Int:=(word++(frmT a 4).1,(frmT a 4).2)
def betwF (sign:Bs) (l r:Nat) (a b:Fm):Bs×Int:=if (frmT a l).2≠0 then ([],(frmT a l).2) else ((frmT a l).1++sign++(frmT b r).1,(frmT b r).2)
theorem bsz' (l:Bs):(⟨l.toArray⟩:ByteArray).size=l.length:=by simp [ByteArray.size]
theorem ahead_any (N:Nat) (H:TextC N) (f a:Fm) (d:Nat) (word:ByteArray) (Ae:Option Addr) (ce:Nat) (A:Option Addr) (c:Nat) (w:World) (hka:f.kids=[a]) (ha:a.size≤N) (hsm:slimF N a=true) (hok:a.okT d) (hws:a.wsize≤9000000) (hsz:a.size≤5000) (hwd:word.size≤10) (hV:FmV w Ae ce A c f) (hT:WordsT w) :
 Calls Tryz.prog 131 #[f.val Ae ce A c,.string word] w fun e w'=>e=.returned (.tuple #[.string ⟨(aheadF word.data.toList a).1.toArray⟩,.int .i64 (aheadF word.data.toList a).2])∧Below w.heap.size w w':=by
 have hk0:f.kids[0]?=some a:=by rw [hka];rfl
 have hkn:f.kids.length=1:=by rw [hka];rfl
 obtain ⟨ne,hne⟩:=ex_ f.tm.kids.length;obtain ⟨wb,hwb⟩:=ex_ (w.alloc (.cells #[.int .i64 f.op,.int .i64 f.tm.op,.int .i64 f.tm.num,.string f.tm.name,.slice Ae ne ce,.slice A 1 c] 67));have hb1:=bAl hwb;obtain ⟨g,o,rfl,hg,Ae2,ce2,A2,c2,q0,q1,q2,q3,q4,q5,hV2⟩:=hV.kid hk0;rw [Nat.mul_zero,Nat.add_zero] at q0 q1 q2 q3 q4 q5;obtain ⟨n2,hn2⟩:=ex_ a.kids.length;obtain ⟨ne2,hne2⟩:=ex_ a.tm.kids.length;have hcall:=H a 4 d Ae2 ce2 A2 c2 wb ha hsm hok hws hsz (by omega) (hV2.below hb1 rfl) (hT.below hb1);unfold Fm.val at hcall ⊢;rw [hkn,←hne];rw [←hn2] at hcall q5;rw [←hne2] at hcall q4;have hlen:=frmT_len a 4;obtain ⟨R,hR⟩:=ex_ (frmT a 4);rw [←hR] at hcall hlen;rw [hwb] at hcall;have HC:=Hd hcall;have HB1:=Hd hb1;have HR:=Hd hR;obtain ⟨S,hS⟩:∃ S:ByteArray,S=word++⟨R.1.toArray⟩:=⟨_,rfl⟩;have hcat:∀ W,(Op.stringOp .add word ⟨R.1.toArray⟩).run Tryz.prog W=.ok (.string S) W:=fun W=>by rw [hS];exact run_string_add_sum W _ _ (by show word.size+(⟨R.1.toArray⟩:ByteArray).size≤_;rw [bsz' R.1];omega)
 have HRES:Hid (aheadF word.data.toList a=(S.data.toList,R.2)):=by
  show _=_;unfold aheadF;rw [←hR,hS];simp [ByteArray.data_append]
 have hcc:=hV.cap;rw [hkn] at hcc;have HWB:=Hd hwb;clear hwb hb1 hcall hR hS hV hV2 hT hk0 hkn hn2 hne2 hne hka H hlen;go_enter Tryz.func131,Tryz.ntmps131;go_wp2_with fail;refine (HC.out).mono ?_;rintro e w1 ⟨rfl,hb2⟩;rw [←HWB.out] at hb2;have HB2:=kB HB1 hb2;clear hb2;go_wp2_with fail
 go_ret2
 rw [HRES.out];exact ⟨rfl,HB2.out⟩
theorem between_any (N:Nat) (H:TextC N) (f a b:Fm) (d:Nat) (sign:ByteArray) (l r:Nat) (Ae:Option Addr) (ce:Nat) (A:Option Addr) (c:Nat) (w:World) (hka:f.kids=[a,b]) (ha:a.size≤N) (hb:b.size≤N) (hsma:slimF N a=true) (hsmb:slimF N b=true) (hoka:a.okT d) (hokb:b.okT d) (hwa:a.wsize≤9000000) (hwb':b.wsize≤9000000) (hsa:a.size≤5000) (hsb:b.size≤5000) (hsg:sign.size≤10) (hl:l≤10) (hr:r≤10) (hV:FmV w Ae ce A c f) (hT:WordsT w) :
 Calls Tryz.prog 130 #[f.val Ae ce A c,.string sign,.int .i64 (l:Nat),.int .i64 (r:Nat)] w fun e w'=>e=.returned (.tuple #[.string ⟨(betwF sign.data.toList l r a b).1.toArray⟩,.int .i64 (betwF sign.data.toList l r a b).2])∧Below w.heap.size w w':=by
 have hk0:f.kids[0]?=some a:=by rw [hka];rfl
 have hk1:f.kids[1]?=some b:=by rw [hka];rfl
 have hkn:f.kids.length=2:=by rw [hka];rfl
 obtain ⟨ne,hne⟩:=ex_ f.tm.kids.length;obtain ⟨wb,hwb⟩:=ex_ (w.alloc (.cells #[.int .i64 f.op,.int .i64 f.tm.op,.int .i64 f.tm.num,.string f.tm.name,.slice Ae ne ce,.slice A 2 c] 67));have hb1:=bAl hwb;have hx:FBox wb w.heap.size Ae ne ce A 2 c f:=by rw [hwb];exact hA_ w _
 obtain ⟨g,o,rfl,hg,Ae2,ce2,A2,c2,q0,q1,q2,q3,q4,q5,hV2⟩:=hV.kid hk0;obtain ⟨g',o',hgo,hg',Ae3,ce3,A3,c3,p0,p1,p2,p3,p4,p5,hV3⟩:=hV.kid hk1
 injection hgo with hgo
 injection hgo with hg1 ho1 _
 subst hg1 ho1;rw [Nat.mul_zero,Nat.add_zero] at q0 q1 q2 q3 q4 q5;rw [Nat.mul_one] at p0 p1 p2 p3 p4 p5;obtain ⟨n2,hn2⟩:=ex_ a.kids.length;obtain ⟨ne2,hne2⟩:=ex_ a.tm.kids.length;obtain ⟨n3,hn3⟩:=ex_ b.kids.length;obtain ⟨ne3,hne3⟩:=ex_ b.tm.kids.length;have hcall:=H a l d Ae2 ce2 A2 c2 wb ha hsma hoka hwa hsa hl (hV2.below hb1 rfl) (hT.below hb1);have HC2:Hid (∀ w1,Below w.heap.size w w1→Calls Tryz.prog 60 #[b.val Ae3 ce3 A3 c3,.int .i64 (r:Nat)] w1 fun e w'=>e=.returned (.tuple #[.string ⟨(frmT b r).1.toArray⟩,.int .i64 (frmT b r).2])∧Below w1.heap.size w1 w'):=fun w1 hbw=>H b r d Ae3 ce3 A3 c3 w1 hb hsmb hokb hwb' hsb hr (hV3.below hbw rfl) (hT.below hbw);unfold Fm.val at hcall HC2 ⊢;rw [hkn,←hne];rw [←hn2] at hcall q5;rw [←hne2] at hcall q4;rw [←hn3] at HC2 p5;rw [←hne3] at HC2 p4;have hlen:=frmT_len a l;have hlen2:=frmT_len b r;obtain ⟨R,hR⟩:=ex_ (frmT a l);obtain ⟨R2,hR2⟩:=ex_ (frmT b r);rw [←hR] at hcall hlen;rw [←hR2] at HC2 hlen2;rw [hwb] at hcall;have HC:=Hd hcall;have HB1:=Hd hb1;obtain ⟨S,hS⟩:∃ S:ByteArray,S=(⟨R.1.toArray⟩:ByteArray)++sign:=⟨_,rfl⟩;obtain ⟨S2,hS2⟩:∃ S2:ByteArray,S2=S++⟨R2.1.toArray⟩:=⟨_,rfl⟩;have hSz:S.size=R.1.length+sign.size:=by rw [hS,bA,bsz' R.1]
 have hcat:∀ W,(Op.stringOp .add (⟨R.1.toArray⟩:ByteArray) sign).run Tryz.prog W=.ok (.string S) W:=fun W=>by rw [hS];exact run_string_add_sum W _ _ (by show (⟨R.1.toArray⟩:ByteArray).size+sign.size≤_;rw [bsz' R.1];omega)
 have hcat2:∀ W,(Op.stringOp .add S (⟨R2.1.toArray⟩:ByteArray)).run Tryz.prog W=.ok (.string S2) W:=fun W=>by rw [hS2];exact run_string_add_sum W _ _ (by show S.size+(⟨R2.1.toArray⟩:ByteArray).size≤_;rw [bsz' R2.1,hSz];omega)
 have HRES:Hid (betwF sign.data.toList l r a b=if R.2≠0 then ([],R.2) else (S2.data.toList,R2.2)):=by
  show _=_;unfold betwF;rw [←hR,←hR2,hS2,hS];simp [ByteArray.data_append]
 obtain ⟨X,hX⟩:=ex_ (betwF sign.data.toList l r a b);rw [←hX] at HRES ⊢;have hcc:=hV.cap;rw [hkn] at hcc;have HWB:=Hd hwb;have HX:=Hd hx;have hlt:w.heap.size<wb.heap.size:=by rw [hwb];simp
 clear hwb hb1 hcall hR hR2 hS hS2 hSz hV hV2 hV3 hT hk0 hk1 hkn hn2 hne2 hn3 hne3 hne hka H hlen hlen2 hx hX hg';go_enter Tryz.func130,Tryz.ntmps130;go_wp2_with fail;refine (HC.out).mono ?_;rintro e w1 ⟨rfl,hb2⟩;rw [←HWB.out] at hb2;have hx1:=HX.out.below hb2 HX.out.lt;have hbw:=HB1.out.trans (hb2.mono HB1.out.size);have hc2:=HC2.out w1 hbw;have HB2:=Hd hbw;have HCC:=Hd hc2;have x5:=hx1.c5;have hs1:=hb2.size;rw [←hbw.cell (p:=⟨g,_,none⟩) hg] at p0 p1 p2 p3 p4 p5;clear hb2 hx1 hbw hc2 q0 q1 q2 q3 q4 q5
 by_cases h0:R.2=0
 · have HRE:Hid (X=(S2.data.toList,R2.2)):=by show _=_;rw [HRES.out,iN (fun h=>h h0)]
   have h0':(R.2 != 0)=false:=by simpa using h0
   clear h0;go_wp2_with fail;refine (HCC.out).mono ?_;rintro e w2 ⟨rfl,hb3⟩;have HB3:=kB HB2 hb3;clear hb3 p0 p1 p2 p3 p4 p5;go_wp2_with fail
   go_ret2
   rw [HRE.out];exact ⟨rfl,HB3.out⟩
 · have HRE:Hid (X=([],R.2)):=by show _=_;rw [HRES.out,iP h0]
   have h0':(R.2 != 0)=true:=by simpa using h0
   clear h0;go_wp2_with fail
   go_ret2
   rw [HRE.out];exact ⟨rfl,HB2.out⟩
set_option maxHeartbeats 16000000
def barF (f:Fm):Bs×Int:=if f.op=1 then ([91]++(showTm f.tm).1++[93],(showTm f.tm).2) else frmK f.op f.kids
theorem frmT_eq (f:Fm) (least:Nat):frmT f least=if (barF f).2≠0 then ([],(barF f).2) else if strongF f.op<least then ([40]++(barF f).1++[41],0) else ((barF f).1,0):=by
 cases f;rw [frmT];rfl
theorem barF_len (f:Fm):(barF f).1.length≤65600*f.size+65600:=by
 have hs:f.size=1+Fm.sizeL f.kids:=by cases f;rw [Fm.size];rfl
 have h1:=frmK_len f.op f.kids;have h2:=showTm_len f.tm;unfold barF;rw [hs]
 split
 · simp only [List.length_append,List.length_cons,List.length_nil];omega
 · omega
def BareQ (r:Bs×Int) (w:World) (e:Ending) (w':World):Prop:=∃ s:ByteArray,e=.returned (.tuple #[.string s,.int .i64 r.2])∧(r.2=0→s.data.toList=r.1)∧Below w.heap.size w w'
theorem fop_range {f:Fm} (h:0≤fkids f.op):f.op=1∨f.op=2∨f.op=3∨f.op=4∨f.op=5∨f.op=6∨f.op=7∨f.op=8∨f.op=9∨f.op=10∨f.op=11∨f.op=12∨f.op=13:=by
 unfold fkids at h
 by_cases h1:f.op=1
 · omega
 rw [iN h1] at h
 by_cases h2:f.op=2∨f.op=6∨f.op=7∨f.op=8∨f.op=10∨f.op=11∨f.op=12
 · omega
 rw [iN h2] at h
 by_cases h3:f.op=3∨f.op=4∨f.op=5∨f.op=9∨f.op=13
 · omega
 rw [iN h3] at h;simp at h
theorem bar1 {op:Int} {a:Fm} (h:fkids op=1):frmK op [a]=aheadF (preF op) a:=by
 rw [frmK,frmK2,h];rfl
theorem bar2 {op:Int} {a b:Fm} (h:fkids op=2):frmK op [a,b]=if (frmT a (leftF op)).2≠0 then ([],(frmT a (leftF op)).2) else (openF op++(frmT a (leftF op)).1++inF op++(frmT b (rightF op)).1++closeF op,(frmT b (rightF op)).2):=by
 rw [frmK,frmK2,h];rfl
theorem flen1 {l:List Fm} (h:l.length=1):∃ a,l=[a]:=by
 match l,h with
 | [a],_=>exact ⟨a,rfl⟩
theorem flen2 {l:List Fm} (h:l.length=2):∃ a b,l=[a,b]:=by
 match l,h with
 | [a,b],_=>exact ⟨a,b,rfl⟩
theorem bare_any (N:Nat) (H:TextC N) (f:Fm) (d:Nat) (Ae:Option Addr) (ce:Nat) (A:Option Addr) (c:Nat) (w:World) (hN:f.size≤N+1) (hsm:slimF (N+1) f=true) (hok:f.okT d) (hws:f.wsize≤9000000) (hsz:f.size≤5000) (hV:FmV w Ae ce A c f) (hT:WordsT w) :
 Calls Tryz.prog 102 #[f.val Ae ce A c] w (BareQ (barF f) w):=by
 obtain ⟨-,⟨hk0,hkl,hk1⟩,hkids⟩:=fokT_open hok;obtain ⟨hrg,hst,hsk⟩:=slimF_open hsm;clear hsm
 have hszk:∀ k∈f.kids,k.size≤N∧k.size≤5000∧k.wsize≤9000000:=fun k hk=>by
  have h1:=Fm.sizeL_mem hk;have h2:=(Fm.wsize_open f).2 k hk
  cases f with
  | mk op e l=>rw [Fm.size] at hN hsz;simp only [Fm.kids] at h1;omega
 have hts:=(Fm.wsize_open f).1;obtain ⟨n,hn⟩:=ex_ f.kids.length;obtain ⟨ne,hne⟩:=ex_ f.tm.kids.length;obtain ⟨op,hop⟩:=ex_ f.op;obtain ⟨wb,hwb⟩:=ex_ (w.alloc (.cells #[.int .i64 op,.int .i64 f.tm.op,.int .i64 f.tm.num,.string f.tm.name,.slice Ae ne ce,.slice A n c] 67));have hb1:=bAl hwb;have hx:FBox wb w.heap.size Ae ne ce A n c f:=by unfold FBox;rw [hwb,←hop];exact hA_ w _
 have hVb:=hV.below hb1 rfl;have hTb:=hT.below hb1
 have HAH:Hid (∀ a,f.kids=[a]→∀ word:ByteArray,word.size≤10→Calls Tryz.prog 131 #[f.val Ae ce A c,.string word] wb fun e w'=>e=.returned (.tuple #[.string ⟨(aheadF word.data.toList a).1.toArray⟩,.int .i64 (aheadF word.data.toList a).2])∧Below wb.heap.size wb w'):=fun a ha word hwd=>by
  have hm:a∈f.kids:=by rw [ha];simp
  exact ahead_any N H f a (d+1) word Ae ce A c wb ha (hszk a hm).1 (hsk a hm) (hkids a hm) (hszk a hm).2.2 (hszk a hm).2.1 hwd hVb hTb
 have HBT:Hid (∀ a b,f.kids=[a,b]→∀ (sign:ByteArray) (l r:Nat),sign.size≤10→l≤10→r≤10→Calls Tryz.prog 130 #[f.val Ae ce A c,.string sign,.int .i64 (l:Nat),.int .i64 (r:Nat)] wb fun e w'=>e=.returned (.tuple #[.string ⟨(betwF sign.data.toList l r a b).1.toArray⟩,.int .i64 (betwF sign.data.toList l r a b).2])∧Below wb.heap.size wb w'):=fun a b hab sign l r h1 h2 h3=>by
  have hma:a∈f.kids:=by rw [hab];simp
  have hmb:b∈f.kids:=by rw [hab];simp
  exact between_any N H f a b (d+1) sign l r Ae ce A c wb hab (hszk a hma).1 (hszk b hmb).1 (hsk a hma) (hsk b hmb) (hkids a hma) (hkids b hmb) (hszk a hma).2.2 (hszk b hmb).2.2 (hszk a hma).2.1 (hszk b hmb).2.1 h1 h2 h3 hVb hTb
 have hsh:=fun h:f.op=1=>tshow_any f.tm Ae ce wb (hst h) hVb.tm (by omega) hTb;clear hst hsk
 have HLEN:Hid (∀ a b (l r:Nat),f.kids=[a,b]→(frmT a l).1.length+(frmT b r).1.length≤700000000):=fun a b l r hab=>by
  have h1:=frmT_len a l;have h2:=frmT_len b r;have h3:=(hszk a (by rw [hab];simp)).2.1;have h4:=(hszk b (by rw [hab];simp)).2.1;omega
 unfold Fm.val at HAH HBT ⊢;unfold Tm.val at hsh;rw [←hn,←hne,←hop] at HAH HBT;rw [←hne,←hop] at hsh;rw [←hn,←hne,←hop];have HBAR:Hid (barF f=if op=1 then ([91]++(showTm f.tm).1++[93],(showTm f.tm).2) else frmK op f.kids):=by show _=_;rw [hop];rfl
 have hsl:=showTm_len f.tm;obtain ⟨ST,hST⟩:=ex_ (showTm f.tm);rw [←hST] at HBAR hsh hsl;obtain ⟨BR,hBR⟩:=ex_ (barF f);rw [←hBR] at HBAR ⊢;obtain ⟨F,HF⟩:=exh_ (BareQ BR w);rw [←HF.out];have HWB:=Hd hwb;rw [HWB.out] at hsh;rw [HWB.out] at HAH HBT;have HSH:=Hd hsh;have HB1:=Hd hb1;have HX:=Hd hx;have HKL:Hid ((f.kids.length:Int)=fkids op):=by show _=_;rw [hkl,hop]
 have hcap:=hV.cap;have hcapm:=hV.capm;have hec:=hV.tm.cap;have hecm:=hV.tm.capm;rw [←hn] at hcap;rw [←hne] at hec;unfold maxLen at hcapm hecm;have hlt:w.heap.size<wb.heap.size:=by rw [hwb];simp
 rw [←hop] at hrg;have HOP:=Hd hop;clear hwb hb1 hx hVb hTb hsh hBR hST hk0 hkl hk1 hkids hszk hn hne hop hV hT hok H
 rcases hrg with rfl | rfl | rfl | rfl | rfl
 · have HBR:Hid (BR=([91]++ST.1++[93],ST.2)):=by show _=_;rw [HBAR.out,iP rfl]
   obtain ⟨S1,hS1⟩:∃ S1:ByteArray,S1=(⟨#[91]⟩:ByteArray)++⟨ST.1.toArray⟩:=⟨_,rfl⟩;obtain ⟨S2,hS2⟩:∃ S2:ByteArray,S2=S1++(⟨#[93]⟩:ByteArray):=⟨_,rfl⟩;have hz1:S1.size=1+ST.1.length:=by rw [hS1,bA,bsz' ST.1];rfl
   have hcat:∀ W,(Op.stringOp .add (⟨#[91]⟩:ByteArray) ⟨ST.1.toArray⟩).run Tryz.prog W=.ok (.string S1) W:=fun W=>by rw [hS1];exact run_string_add_sum W _ _ (by show 1+(⟨ST.1.toArray⟩:ByteArray).size≤_;rw [bsz' ST.1];omega)
   have hcat2:∀ W,(Op.stringOp .add S1 (⟨#[93]⟩:ByteArray)).run Tryz.prog W=.ok (.string S2) W:=fun W=>by rw [hS2];exact run_string_add_sum W _ _ (by show S1.size+1≤_;omega)
   have HS:Hid (S2.data.toList=BR.1):=by show _=_;rw [HBR.out,hS2,hS1];simp [ByteArray.data_append]
   clear hS1 hS2 hz1;go_enter Tryz.func102,Tryz.ntmps102;go_wp2_with fail;refine (HSH.out (by simp)).mono ?_;rintro e w1 ⟨rfl,hb2⟩;rw [←HWB.out] at hb2;have HB2:=kB HB1 hb2;clear hb2;go_wp2_with fail;rw [HF.out];exact ⟨S2,congrArg (fun z:Int=>Ending.returned (.tuple #[.string S2,.int .i64 z])) (congrArg Prod.snd HBR.out).symm,fun _=>HS.out,HB2.out⟩
 · obtain ⟨a,ha⟩:=flen1 (show f.kids.length=1 by have h1:=HKL.out;rw [show fkids 2=1 from rfl] at h1;omega);have HBR:Hid (BR=aheadF ((⟨#[33]⟩:ByteArray)).data.toList a):=by show _=_;rw [HBAR.out,iN (by decide),ha];exact bar1 rfl
   have hcc:=HAH.out a ha (⟨#[33]⟩:ByteArray) (by decide);have HCC:=Hd hcc;clear hcc ha;go_enter Tryz.func102,Tryz.ntmps102;go_wp2_with fail;refine (HCC.out).mono ?_;rintro e w1 ⟨rfl,hb2⟩;rw [←HWB.out] at hb2;have HB2:=kB HB1 hb2;clear hb2;go_wp2_with fail;rw [HF.out,HBR.out];exact ⟨_,rfl,fun _=>rfl,HB2.out⟩
 · obtain ⟨a,b,ha⟩:=flen2 (show f.kids.length=2 by have h1:=HKL.out;rw [show fkids 4=2 from rfl] at h1;omega)
   have HBR:Hid (BR=betwF ((⟨#[32,124,32]⟩:ByteArray)).data.toList 2 3 a b):=by
    show _=_;rw [HBAR.out,iN (by decide),ha,bar2 rfl];unfold betwF
    by_cases h:(frmT a 2).2≠0
    · rw [iP h,iP (show (frmT a (leftF 4)).2≠0 from h)];rfl
    · rw [iN h,iN (show ¬(frmT a (leftF 4)).2≠0 from h)];simp [openF,closeF,inF,leftF,rightF]
   have hcc:=HBT.out a b ha (⟨#[32,124,32]⟩:ByteArray) 2 3 (by decide) (by omega) (by omega);have HCC:=Hd hcc;clear hcc ha;go_enter Tryz.func102,Tryz.ntmps102;go_wp2_with fail;refine (HCC.out).mono ?_;rintro e w1 ⟨rfl,hb2⟩;rw [←HWB.out] at hb2;have HB2:=kB HB1 hb2;clear hb2;go_wp2_with fail;rw [HF.out,HBR.out];exact ⟨_,rfl,fun _=>rfl,HB2.out⟩
 · obtain ⟨a,b,ha⟩:=flen2 (show f.kids.length=2 by have h1:=HKL.out;rw [show fkids 5=2 from rfl] at h1;omega)
   have HBR:Hid (BR=betwF ((⟨#[32,45,62,32]⟩:ByteArray)).data.toList 2 1 a b):=by
    show _=_;rw [HBAR.out,iN (by decide),ha,bar2 rfl];unfold betwF
    by_cases h:(frmT a 2).2≠0
    · rw [iP h,iP (show (frmT a (leftF 5)).2≠0 from h)];rfl
    · rw [iN h,iN (show ¬(frmT a (leftF 5)).2≠0 from h)];simp [openF,closeF,inF,leftF,rightF]
   have hcc:=HBT.out a b ha (⟨#[32,45,62,32]⟩:ByteArray) 2 1 (by decide) (by omega) (by omega);have HCC:=Hd hcc;clear hcc ha;go_enter Tryz.func102,Tryz.ntmps102;go_wp2_with fail;refine (HCC.out).mono ?_;rintro e w1 ⟨rfl,hb2⟩;rw [←HWB.out] at hb2;have HB2:=kB HB1 hb2;clear hb2;go_wp2_with fail;rw [HF.out,HBR.out];exact ⟨_,rfl,fun _=>rfl,HB2.out⟩
 · obtain ⟨a,ha⟩:=flen1 (show f.kids.length=1 by have h1:=HKL.out;rw [show fkids 7=1 from rfl] at h1;omega);have HBR:Hid (BR=aheadF ((⟨#[69,70,32]⟩:ByteArray)).data.toList a):=by show _=_;rw [HBAR.out,iN (by decide),ha];exact bar1 rfl
   have hcc:=HAH.out a ha (⟨#[69,70,32]⟩:ByteArray) (by decide);have HCC:=Hd hcc;clear hcc ha;go_enter Tryz.func102,Tryz.ntmps102;go_wp2_with fail;refine (HCC.out).mono ?_;rintro e w1 ⟨rfl,hb2⟩;rw [←HWB.out] at hb2;have HB2:=kB HB1 hb2;clear hb2;go_wp2_with fail;rw [HF.out,HBR.out];exact ⟨_,rfl,fun _=>rfl,HB2.out⟩
theorem text_any:∀ N:Nat,TextC N:=by
 intro N
 induction N with
 | zero=>
  intro f least d Ae ce A c w hN;cases f;rw [Fm.size] at hN;omega
 | succ N ih=>
  intro f least d Ae ce A c w hN hsm hok hws hsz hle hV hT;obtain ⟨n,hn⟩:=ex_ f.kids.length;obtain ⟨ne,hne⟩:=ex_ f.tm.kids.length;obtain ⟨wb,hwb⟩:=ex_ (w.alloc (.cells #[.int .i64 f.op,.int .i64 f.tm.op,.int .i64 f.tm.num,.string f.tm.name,.slice Ae ne ce,.slice A n c] 67));have hb1:=bAl hwb;have hx:FBox wb w.heap.size Ae ne ce A n c f:=by rw [hwb];exact hA_ w _
  have hcall:=bare_any N ih f d Ae ce A c wb hN hsm hok hws hsz (hV.below hb1 rfl) (hT.below hb1);unfold Fm.val at hcall ⊢;rw [←hn,←hne] at hcall ⊢;have hlen:=barF_len f;have hft:=frmT_eq f least;obtain ⟨R,hR⟩:=ex_ (barF f);rw [←hR] at hcall hlen hft;rw [hwb] at hcall;obtain ⟨X,hX⟩:=ex_ (frmT f least);rw [←hX] at hft ⊢;have HC:=Hd hcall;have HB1:=Hd hb1;have HX:=Hd hx;have HWB:=Hd hwb;have HFT:=Hd hft;have HLE:=Hd hlen;have HSZ:=Hd hsz;have HSTR:=Hd (fun W=>strong_any f.op W);have hlt:w.heap.size<wb.heap.size:=by rw [hwb];simp
  have hst:strongF f.op≤4:=by
   unfold strongF
   iterate 3 (split;· omega)
   omega
  obtain ⟨sf,hsf⟩:=ex_ (strongF f.op);rw [←hsf] at HFT HSTR hst;clear hwb hb1 hcall hR hx hft hX hlen hsz hsm hok hws hV hT hn hne hN hsf;go_enter Tryz.func60,Tryz.ntmps60;go_wp2_with fail;refine (HC.out).mono ?_;rintro e w1 ⟨s,rfl,hs,hb2⟩;rw [←HWB.out] at hb2;have hx1:=HX.out.below hb2 HX.out.lt;have HB2:=kB HB1 hb2;have y0:=hx1.c0;have hs1:=hb2.size;have HS:=Hd hs;clear hb2 hx1 hs
  by_cases h0:R.2=0
  · have hsd:=HS.out h0;have hsl:s.size=R.1.length:=by rw [←hsd];simp
    have HRE:Hid (X=if sf<least then ([40]++s.data.toList++[41],0) else (s.data.toList,0)):=by show _=_;rw [HFT.out,iN (fun h=>h h0),hsd]
    have h0':(R.2 != 0)=false:=by simpa using h0
    have hsb:s.size≤700000000:=by have h1:=HLE.out;have h2:=HSZ.out;omega
    have hid:(⟨s.data.toList.toArray⟩:ByteArray)=s:=by apply ByteArray.ext;simp
    have HID:=Hd hid;clear h0 hsd hsl hid;go_wp2_with fail;refine (HSTR.out _).mono ?_;rintro e w' ⟨rfl,hw⟩;rw [←hw];clear hw
    by_cases h4:sf<least
    · have h4':(sf:Int)<(least:Int):=by omega
      obtain ⟨S1,hS1⟩:∃ S1:ByteArray,S1=(⟨#[40]⟩:ByteArray)++s:=⟨_,rfl⟩;obtain ⟨S2,hS2⟩:∃ S2:ByteArray,S2=S1++(⟨#[41]⟩:ByteArray):=⟨_,rfl⟩;have hz1:S1.size=1+s.size:=by rw [hS1,bA];rfl
      have hcat:∀ W,(Op.stringOp .add (⟨#[40]⟩:ByteArray) s).run Tryz.prog W=.ok (.string S1) W:=fun W=>by rw [hS1];exact run_string_add_sum W _ _ (by show 1+s.size≤_;omega)
      have hcat2:∀ W,(Op.stringOp .add S1 (⟨#[41]⟩:ByteArray)).run Tryz.prog W=.ok (.string S2) W:=fun W=>by rw [hS2];exact run_string_add_sum W _ _ (by show S1.size+1≤_;omega)
      have HRR:Hid (X=(S2.data.toList,0)):=by show _=_;rw [HRE.out,iP h4,hS2,hS1];simp [ByteArray.data_append]
      clear hS1 hS2 hz1 h4;go_wp2_with fail
      go_ret2
      rw [HRR.out];exact ⟨rfl,HB2.out⟩
    · have h4':¬(sf:Int)<(least:Int):=by omega
      have HRR:Hid (X=(s.data.toList,0)):=by show _=_;rw [HRE.out,iN h4]
      clear h4;go_wp2_with fail
      go_ret2
      rw [HRR.out];exact ⟨rfl,HB2.out⟩
  · have HRE:Hid (X=([],R.2)):=by show _=_;rw [HFT.out,iP h0]
    have h0':(R.2 != 0)=true:=by simpa using h0
    clear h0;go_wp2_with fail
    go_ret2
    rw [HRE.out];exact ⟨rfl,HB2.out⟩
theorem fshow_any (f:Fm) (Ae:Option Addr) (ce:Nat) (A:Option Addr) (c:Nat) (w:World) (hsm:slimF f.size f=true) (hws:f.wsize≤9000000) (hV:FmV w Ae ce A c f) (hT:WordsT w) :
 Calls Tryz.prog 28 #[f.val Ae ce A c] w fun e w'=>e=.returned (.tuple #[.string ⟨(showFm f).1.toArray⟩,.int .i64 (showFm f).2])∧Below w.heap.size w w':=by
 have HSM:=Hd hsm;clear hsm;obtain ⟨n,HN⟩:=exh_ f.kids.length;obtain ⟨ne,HNE⟩:=exh_ f.tm.kids.length;obtain ⟨wb,hwb⟩:=ex_ (w.alloc (.cells #[.int .i64 f.op,.int .i64 f.tm.op,.int .i64 f.tm.num,.string f.tm.name,.slice Ae ne ce,.slice A n c] 67));have hb1:=bAl hwb;have hx:FBox wb w.heap.size Ae ne ce A n c f:=by rw [hwb];exact hA_ w _
 have hck:=fcheck_any f Ae ce A c wb (hV.below hb1 rfl) hws;unfold Fm.val at hck ⊢;rw [←HN.out,←HNE.out] at hck ⊢;obtain ⟨ck,HCK0⟩:=exh_ f.check;rw [←HCK0.out] at hck;obtain ⟨X,hX⟩:=ex_ (showFm f);rw [←hX];unfold showFm at hX;rw [←HCK0.out] at hX;have HX0:=Hd hX;rw [hwb] at hck;have HCK:=Hd hck;have HB1:=Hd hb1;have HX:=Hd hx;have HWB:=Hd hwb;have HV:=Hd hV;have HT:=Hd hT;have hlt:w.heap.size<wb.heap.size:=by rw [hwb];simp
 clear hwb hb1 hck hx hX hV hT;go_enter Tryz.func28,Tryz.ntmps28;go_wp2_with fail;refine (HCK.out).mono ?_;rintro e w1 ⟨rfl,hb2⟩;rw [←HWB.out] at hb2;have hx1:=HX.out.below hb2 HX.out.lt;have hbw:=HB1.out.trans (hb2.mono HB1.out.size);have HB2:=Hd hbw;have hs1:=hb2.size;have y0:=hx1.c0;have y1:=hx1.c1;have y2:=hx1.c2;have y3:=hx1.c3;have y4:=hx1.c4;have y5:=hx1.c5
 by_cases h0:ck=0
 · have hch:f.check=0:=by rw [←HCK0.out];exact h0
   obtain ⟨hok,hsz⟩:=fcheck_ok hch;have htx:=text_any f.size f 1 1 Ae ce A c w1 (lr _) HSM.out hok hws (by omega) (by omega) (HV.out.below hbw rfl) (HT.out.below hbw);unfold Fm.val at htx;rw [←HN.out,←HNE.out] at htx;have hlen:=frmT_len f 1;have HR0:Hid (X=if (frmT f 1).2≠0 then ([],(frmT f 1).2) else if 65536<(frmT f 1).1.length then ([],4) else ((frmT f 1).1,0)):=by show _=_;rw [HX0.out,iN (fun h=>h h0)]
   obtain ⟨R,hR⟩:=ex_ (frmT f 1);rw [←hR] at htx hlen HR0;have HTX:=Hd htx;subst h0;have HLE:Hid (R.1.length≤700000000):=by show _≤_;omega
   clear hx1 hbw hb2 htx hR hok hsz hch hlen;go_wp2_with fail;refine (HTX.out).mono ?_;rintro e w2 ⟨rfl,hb3⟩;have HB3:=kB HB2 hb3;have hlr:(⟨R.1.toArray⟩:ByteArray).size=R.1.length:=bsz' R.1;have HLR:=Hd hlr;obtain ⟨s,hs⟩:∃ s:ByteArray,s=⟨R.1.toArray⟩:=⟨_,rfl⟩;rw [←hs] at HLR ⊢;have HS:=Hd hs;have hsm:s.size≤700000000:=by rw [HLR.out];exact HLE.out
   clear hb3 y0 y1 y2 y3 y4 y5 hlr hs
   by_cases h2:R.2=0
   · have h2':(R.2 != 0)=false:=by simpa using h2
     by_cases h6:65536<s.size
     · have HRR:Hid (X=([],4)):=by show _=_;rw [HR0.out,iN (fun h=>h h2),iP (by rw [←HLR.out];exact h6)]
       have h6':(65536:Int)<(s.size:Int):=by omega
       clear h2 h6;go_wp2_with fail
       go_ret2
       rw [HRR.out];exact ⟨rfl,HB3.out⟩
     · have HRR:Hid (X=(R.1,0)):=by show _=_;rw [HR0.out,iN (fun h=>h h2),iN (by rw [←HLR.out];exact h6)]
       have h6':¬(65536:Int)<(s.size:Int):=by omega
       clear h2 h6;go_wp2_with fail
       go_ret2
       rw [HRR.out,HS.out];exact ⟨rfl,HB3.out⟩
   · have HRR:Hid (X=([],R.2)):=by show _=_;rw [HR0.out,iP h2]
     have h2':(R.2 != 0)=true:=by simpa using h2
     clear h2;go_wp2_with fail
     go_ret2
     rw [HRR.out];exact ⟨rfl,HB3.out⟩
 · have HRR:Hid (X=([],ck)):=by show _=_;rw [HX0.out,iP h0]
   have h0':(ck != 0)=true:=by simpa using h0
   clear h0 hx1 hbw hb2;go_wp2_with fail
   go_ret2
   rw [HRR.out];exact ⟨rfl,HB2.out⟩
end Go.Proofs.YtkhoeoilamddaaaGreatDoor
