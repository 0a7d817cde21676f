/- Walks and plain words: FrmG FLv DecQ. -/
import Derived.Test.YtnbphgeepnknlaaGreatDoorUTrmH
import Derived.Test.YtnbphgeepnknlaaGreatDoorUFsJ
namespace Go.Proofs.YtnbphgeepnknlaaGreatDoor
open Go.RowKit
set_option linter.unusedVariables false
set_option maxRecDepth 100000
set_option maxHeartbeats 16000000
def barF (f:Fm):Bs×Int:=if f.op=1 then ([91]++(showTm f.tm).1++[93],(showTm f.tm).2) else frmK f.op f.kids
theorem frmT_eq (f:Fm) (least:Nat):frmT f least=if (barF f).2≠0 then ([],(barF f).2) else if strongF f.op<least then ([40]++(barF f).1++[41],0) else ((barF f).1,0):=by
 cases f;rw [frmT];rfl
theorem barF_len (f:Fm):(barF f).1.length≤65600*f.size+65600:=by
 have hs:f.size=1+Fm.sizeL f.kids:=by cases f;rw [Fm.size];rfl
 have h1:=frmK_len f.op f.kids;have h2:=showTm_len f.tm;unfold barF;rw [hs]
 split
 · simp only [List.length_append,List.length_cons,List.length_nil];omega
 · omega
def BareQ (r:Bs×Int) (w:World) (e:Ending) (w':World):Prop:=∃ s:ByteArray,e=.returned (.tuple #[.string s,.int .i64 r.2])∧(r.2=0→s.data.toList=r.1)∧Below w.heap.size w w'
theorem fop_range {f:Fm} (h:0≤fkids f.op):f.op=1∨f.op=2∨f.op=3∨f.op=4∨f.op=5∨f.op=6∨f.op=7∨f.op=8∨f.op=9∨f.op=10∨f.op=11∨f.op=12∨f.op=13:=by
 unfold fkids at h
 by_cases h1:f.op=1
 · omega
 rw [iN h1] at h
 by_cases h2:f.op=2∨f.op=6∨f.op=7∨f.op=8∨f.op=10∨f.op=11∨f.op=12
 · omega
 rw [iN h2] at h
 by_cases h3:f.op=3∨f.op=4∨f.op=5∨f.op=9∨f.op=13
 · omega
 rw [iN h3] at h;simp at h
theorem bar1 {op:Int} {a:Fm} (h:fkids op=1):frmK op [a]=aheadF (preF op) a:=by
 rw [frmK,frmK2,h];rfl
theorem bar2 {op:Int} {a b:Fm} (h:fkids op=2):frmK op [a,b]=if (frmT a (leftF op)).2≠0 then ([],(frmT a (leftF op)).2) else (openF op++(frmT a (leftF op)).1++inF op++(frmT b (rightF op)).1++closeF op,(frmT b (rightF op)).2):=by
 rw [frmK,frmK2,h];rfl
theorem flen1 {l:List Fm} (h:l.length=1):∃ a,l=[a]:=by
 match l,h with
 | [a],_=>exact ⟨a,rfl⟩
theorem flen2 {l:List Fm} (h:l.length=2):∃ a b,l=[a,b]:=by
 match l,h with
 | [a,b],_=>exact ⟨a,b,rfl⟩
theorem bare_any (N:Nat) (H:TextC N) (f:Fm) (d:Nat) (Ae:Option Addr) (ce:Nat) (A:Option Addr) (c:Nat) (w:World) (hN:f.size≤N+1) (hok:f.okT d) (hws:f.wsize≤9000000) (hsz:f.size≤5000) (hV:FmV w Ae ce A c f) (hT:WordsT w) :
 Calls Tryz.prog 78 #[f.val Ae ce A c] w (BareQ (barF f) w):=by
 obtain ⟨-,⟨hk0,hkl,hk1⟩,hkids⟩:=fokT_open hok;have hrg:=fop_range hk0
 have hszk:∀ k∈f.kids,k.size≤N∧k.size≤5000∧k.wsize≤9000000:=fun k hk=>by
  have h1:=Fm.sizeL_mem hk;have h2:=(Fm.wsize_open f).2 k hk
  cases f with
  | mk op e l=>rw [Fm.size] at hN hsz;simp only [Fm.kids] at h1;omega
 have hts:=(Fm.wsize_open f).1;obtain ⟨n,hn⟩:=ex_ f.kids.length;obtain ⟨ne,hne⟩:=ex_ f.tm.kids.length;obtain ⟨op,hop⟩:=ex_ f.op;obtain ⟨wb,hwb⟩:=ex_ (w.alloc (.cells #[.int .i64 op,.int .i64 f.tm.op,.int .i64 f.tm.num,.string f.tm.name,.slice Ae ne ce,.slice A n c] 35));have hb1:=bAl hwb;have hx:FBox wb w.heap.size Ae ne ce A n c f:=by unfold FBox;rw [hwb,←hop];exact hA_ w _
 have hVb:=hV.below hb1 rfl;have hTb:=hT.below hb1
 have HAH:Hid (∀ a,f.kids=[a]→∀ word:ByteArray,word.size≤10→Calls Tryz.prog 149 #[f.val Ae ce A c,.string word] wb fun e w'=>e=.returned (.tuple #[.string ⟨(aheadF word.data.toList a).1.toArray⟩,.int .i64 (aheadF word.data.toList a).2])∧Below wb.heap.size wb w'):=fun a ha word hwd=>by
  have hm:a∈f.kids:=by rw [ha];simp
  exact ahead_any N H f a (d+1) word Ae ce A c wb ha (hszk a hm).1 (hkids a hm) (hszk a hm).2.2 (hszk a hm).2.1 hwd hVb hTb
 have HBT:Hid (∀ a b,f.kids=[a,b]→∀ (sign:ByteArray) (l r:Nat),sign.size≤10→l≤10→r≤10→Calls Tryz.prog 148 #[f.val Ae ce A c,.string sign,.int .i64 (l:Nat),.int .i64 (r:Nat)] wb fun e w'=>e=.returned (.tuple #[.string ⟨(betwF sign.data.toList l r a b).1.toArray⟩,.int .i64 (betwF sign.data.toList l r a b).2])∧Below wb.heap.size wb w'):=fun a b hab sign l r h1 h2 h3=>by
  have hma:a∈f.kids:=by rw [hab];simp
  have hmb:b∈f.kids:=by rw [hab];simp
  exact between_any N H f a b (d+1) sign l r Ae ce A c wb hab (hszk a hma).1 (hszk b hmb).1 (hkids a hma) (hkids b hmb) (hszk a hma).2.2 (hszk b hmb).2.2 (hszk a hma).2.1 (hszk b hmb).2.1 h1 h2 h3 hVb hTb
 have hsh:=tshow_any f.tm Ae ce wb hVb.tm (by omega) hTb
 have HLEN:Hid (∀ a b (l r:Nat),f.kids=[a,b]→(frmT a l).1.length+(frmT b r).1.length≤700000000):=fun a b l r hab=>by
  have h1:=frmT_len a l;have h2:=frmT_len b r;have h3:=(hszk a (by rw [hab];simp)).2.1;have h4:=(hszk b (by rw [hab];simp)).2.1;omega
 unfold Fm.val at HAH HBT ⊢;unfold Tm.val at hsh;rw [←hn,←hne,←hop] at HAH HBT;rw [←hne] at hsh;rw [←hn,←hne,←hop];have HBAR:Hid (barF f=if op=1 then ([91]++(showTm f.tm).1++[93],(showTm f.tm).2) else frmK op f.kids):=by show _=_;rw [hop];rfl
 have hsl:=showTm_len f.tm;obtain ⟨ST,hST⟩:=ex_ (showTm f.tm);rw [←hST] at HBAR hsh hsl;obtain ⟨BR,hBR⟩:=ex_ (barF f);rw [←hBR] at HBAR ⊢;obtain ⟨F,HF⟩:=exh_ (BareQ BR w);rw [←HF.out];have HWB:=Hd hwb;rw [HWB.out] at hsh;rw [HWB.out] at HAH HBT;have HSH:=Hd hsh;have HB1:=Hd hb1;have HX:=Hd hx;have HKL:Hid ((f.kids.length:Int)=fkids op):=by show _=_;rw [hkl,hop]
 have hcap:=hV.cap;have hcapm:=hV.capm;have hec:=hV.tm.cap;have hecm:=hV.tm.capm;rw [←hn] at hcap;rw [←hne] at hec;unfold maxLen at hcapm hecm;have hlt:w.heap.size<wb.heap.size:=by rw [hwb];simp
 rw [←hop] at hrg;have HOP:=Hd hop;clear hwb hb1 hx hVb hTb hsh hBR hST hk0 hkl hk1 hkids hszk hn hne hop hV hT hok H
 rcases hrg with rfl | rfl | rfl | rfl | rfl | rfl | rfl | rfl | rfl | rfl | rfl | rfl | rfl
 · have HBR:Hid (BR=([91]++ST.1++[93],ST.2)):=by show _=_;rw [HBAR.out,iP rfl]
   obtain ⟨S1,hS1⟩:∃ S1:ByteArray,S1=(⟨#[91]⟩:ByteArray)++⟨ST.1.toArray⟩:=⟨_,rfl⟩;obtain ⟨S2,hS2⟩:∃ S2:ByteArray,S2=S1++(⟨#[93]⟩:ByteArray):=⟨_,rfl⟩;have hz1:S1.size=1+ST.1.length:=by rw [hS1,bA,bsz' ST.1];rfl
   have hcat:∀ W,(Op.stringOp .add (⟨#[91]⟩:ByteArray) ⟨ST.1.toArray⟩).run Tryz.prog W=.ok (.string S1) W:=fun W=>by rw [hS1];exact run_string_add_sum W _ _ (by show 1+(⟨ST.1.toArray⟩:ByteArray).size≤_;rw [bsz' ST.1];omega)
   have hcat2:∀ W,(Op.stringOp .add S1 (⟨#[93]⟩:ByteArray)).run Tryz.prog W=.ok (.string S2) W:=fun W=>by rw [hS2];exact run_string_add_sum W _ _ (by show S1.size+1≤_;omega)
   have HS:Hid (S2.data.toList=BR.1):=by show _=_;rw [HBR.out,hS2,hS1];simp [ByteArray.data_append]
   clear hS1 hS2 hz1;go_enter Tryz.func78,Tryz.ntmps78;go_wp2_with fail;refine (HSH.out).mono ?_;rintro e w1 ⟨rfl,hb2⟩;rw [←HWB.out] at hb2;have HB2:=kB HB1 hb2;clear hb2;go_wp2_with fail;rw [HF.out];exact ⟨S2,congrArg (fun z:Int=>Ending.returned (.tuple #[.string S2,.int .i64 z])) (congrArg Prod.snd HBR.out).symm,fun _=>HS.out,HB2.out⟩
 · obtain ⟨a,ha⟩:=flen1 (show f.kids.length=1 by have h1:=HKL.out;rw [show fkids 2=1 from rfl] at h1;omega);have HBR:Hid (BR=aheadF ((⟨#[33]⟩:ByteArray)).data.toList a):=by show _=_;rw [HBAR.out,iN (by decide),ha];exact bar1 rfl
   have hcc:=HAH.out a ha (⟨#[33]⟩:ByteArray) (by decide);have HCC:=Hd hcc;clear hcc ha;go_enter Tryz.func78,Tryz.ntmps78;go_wp2_with fail;refine (HCC.out).mono ?_;rintro e w1 ⟨rfl,hb2⟩;rw [←HWB.out] at hb2;have HB2:=kB HB1 hb2;clear hb2;go_wp2_with fail;rw [HF.out,HBR.out];exact ⟨_,rfl,fun _=>rfl,HB2.out⟩
 · obtain ⟨a,b,ha⟩:=flen2 (show f.kids.length=2 by have h1:=HKL.out;rw [show fkids 3=2 from rfl] at h1;omega)
   have HBR:Hid (BR=betwF ((⟨#[32,38,32]⟩:ByteArray)).data.toList 3 4 a b):=by
    show _=_;rw [HBAR.out,iN (by decide),ha,bar2 rfl];unfold betwF
    by_cases h:(frmT a 3).2≠0
    · rw [iP h,iP (show (frmT a (leftF 3)).2≠0 from h)];rfl
    · rw [iN h,iN (show ¬(frmT a (leftF 3)).2≠0 from h)];simp [openF,closeF,inF,leftF,rightF]
   have hcc:=HBT.out a b ha (⟨#[32,38,32]⟩:ByteArray) 3 4 (by decide) (by omega) (by omega);have HCC:=Hd hcc;clear hcc ha;go_enter Tryz.func78,Tryz.ntmps78;go_wp2_with fail;refine (HCC.out).mono ?_;rintro e w1 ⟨rfl,hb2⟩;rw [←HWB.out] at hb2;have HB2:=kB HB1 hb2;clear hb2;go_wp2_with fail;rw [HF.out,HBR.out];exact ⟨_,rfl,fun _=>rfl,HB2.out⟩
 · obtain ⟨a,b,ha⟩:=flen2 (show f.kids.length=2 by have h1:=HKL.out;rw [show fkids 4=2 from rfl] at h1;omega)
   have HBR:Hid (BR=betwF ((⟨#[32,124,32]⟩:ByteArray)).data.toList 2 3 a b):=by
    show _=_;rw [HBAR.out,iN (by decide),ha,bar2 rfl];unfold betwF
    by_cases h:(frmT a 2).2≠0
    · rw [iP h,iP (show (frmT a (leftF 4)).2≠0 from h)];rfl
    · rw [iN h,iN (show ¬(frmT a (leftF 4)).2≠0 from h)];simp [openF,closeF,inF,leftF,rightF]
   have hcc:=HBT.out a b ha (⟨#[32,124,32]⟩:ByteArray) 2 3 (by decide) (by omega) (by omega);have HCC:=Hd hcc;clear hcc ha;go_enter Tryz.func78,Tryz.ntmps78;go_wp2_with fail;refine (HCC.out).mono ?_;rintro e w1 ⟨rfl,hb2⟩;rw [←HWB.out] at hb2;have HB2:=kB HB1 hb2;clear hb2;go_wp2_with fail;rw [HF.out,HBR.out];exact ⟨_,rfl,fun _=>rfl,HB2.out⟩
 · obtain ⟨a,b,ha⟩:=flen2 (show f.kids.length=2 by have h1:=HKL.out;rw [show fkids 5=2 from rfl] at h1;omega)
   have HBR:Hid (BR=betwF ((⟨#[32,45,62,32]⟩:ByteArray)).data.toList 2 1 a b):=by
    show _=_;rw [HBAR.out,iN (by decide),ha,bar2 rfl];unfold betwF
    by_cases h:(frmT a 2).2≠0
    · rw [iP h,iP (show (frmT a (leftF 5)).2≠0 from h)];rfl
    · rw [iN h,iN (show ¬(frmT a (leftF 5)).2≠0 from h)];simp [openF,closeF,inF,leftF,rightF]
   have hcc:=HBT.out a b ha (⟨#[32,45,62,32]⟩:ByteArray) 2 1 (by decide) (by omega) (by omega);have HCC:=Hd hcc;clear hcc ha;go_enter Tryz.func78,Tryz.ntmps78;go_wp2_with fail;refine (HCC.out).mono ?_;rintro e w1 ⟨rfl,hb2⟩;rw [←HWB.out] at hb2;have HB2:=kB HB1 hb2;clear hb2;go_wp2_with fail;rw [HF.out,HBR.out];exact ⟨_,rfl,fun _=>rfl,HB2.out⟩
 · obtain ⟨a,ha⟩:=flen1 (show f.kids.length=1 by have h1:=HKL.out;rw [show fkids 6=1 from rfl] at h1;omega);have HBR:Hid (BR=aheadF ((⟨#[69,88,32]⟩:ByteArray)).data.toList a):=by show _=_;rw [HBAR.out,iN (by decide),ha];exact bar1 rfl
   have hcc:=HAH.out a ha (⟨#[69,88,32]⟩:ByteArray) (by decide);have HCC:=Hd hcc;clear hcc ha;go_enter Tryz.func78,Tryz.ntmps78;go_wp2_with fail;refine (HCC.out).mono ?_;rintro e w1 ⟨rfl,hb2⟩;rw [←HWB.out] at hb2;have HB2:=kB HB1 hb2;clear hb2;go_wp2_with fail;rw [HF.out,HBR.out];exact ⟨_,rfl,fun _=>rfl,HB2.out⟩
 · obtain ⟨a,ha⟩:=flen1 (show f.kids.length=1 by have h1:=HKL.out;rw [show fkids 7=1 from rfl] at h1;omega);have HBR:Hid (BR=aheadF ((⟨#[69,70,32]⟩:ByteArray)).data.toList a):=by show _=_;rw [HBAR.out,iN (by decide),ha];exact bar1 rfl
   have hcc:=HAH.out a ha (⟨#[69,70,32]⟩:ByteArray) (by decide);have HCC:=Hd hcc;clear hcc ha;go_enter Tryz.func78,Tryz.ntmps78;go_wp2_with fail;refine (HCC.out).mono ?_;rintro e w1 ⟨rfl,hb2⟩;rw [←HWB.out] at hb2;have HB2:=kB HB1 hb2;clear hb2;go_wp2_with fail;rw [HF.out,HBR.out];exact ⟨_,rfl,fun _=>rfl,HB2.out⟩
 · obtain ⟨a,ha⟩:=flen1 (show f.kids.length=1 by have h1:=HKL.out;rw [show fkids 8=1 from rfl] at h1;omega);have HBR:Hid (BR=aheadF ((⟨#[69,71,32]⟩:ByteArray)).data.toList a):=by show _=_;rw [HBAR.out,iN (by decide),ha];exact bar1 rfl
   have hcc:=HAH.out a ha (⟨#[69,71,32]⟩:ByteArray) (by decide);have HCC:=Hd hcc;clear hcc ha;go_enter Tryz.func78,Tryz.ntmps78;go_wp2_with fail;refine (HCC.out).mono ?_;rintro e w1 ⟨rfl,hb2⟩;rw [←HWB.out] at hb2;have HB2:=kB HB1 hb2;clear hb2;go_wp2_with fail;rw [HF.out,HBR.out];exact ⟨_,rfl,fun _=>rfl,HB2.out⟩
 · obtain ⟨a,b,ha⟩:=flen2 (show f.kids.length=2 by have h1:=HKL.out;rw [show fkids 9=2 from rfl] at h1;omega);have hlen:=HLEN.out a b 1 1 ha
   have HBR:Hid (BR.2=(betwF ((⟨#[32,85,32]⟩:ByteArray)).data.toList 1 1 a b).2∧(BR.2=0→BR.1=[69,91]++(betwF ((⟨#[32,85,32]⟩:ByteArray)).data.toList 1 1 a b).1++[93])):=by
    have e1:=HBAR.out;rw [iN (by decide),ha,bar2 rfl] at e1;unfold betwF
    by_cases h:(frmT a 1).2≠0
    · rw [iP (show (frmT a (leftF 9)).2≠0 from h)] at e1;rw [iP h,e1];exact ⟨rfl,fun h0=>absurd h0 h⟩
    · rw [iN (show ¬(frmT a (leftF 9)).2≠0 from h)] at e1;rw [iN h,e1];exact ⟨rfl,fun _=>by simp [openF,closeF,inF,leftF,rightF]⟩
   have hbl:(betwF ((⟨#[32,85,32]⟩:ByteArray)).data.toList 1 1 a b).1.length≤700000010:=by unfold betwF;split <;> simp <;> omega
   have hcc:=HBT.out a b ha (⟨#[32,85,32]⟩:ByteArray) 1 1 (by decide) (by omega) (by omega);obtain ⟨X,hX⟩:=ex_ (betwF ((⟨#[32,85,32]⟩:ByteArray)).data.toList 1 1 a b);rw [←hX] at hcc HBR hbl;have HCC:=Hd hcc;obtain ⟨S1,hS1⟩:∃ S1:ByteArray,S1=(⟨#[69,91]⟩:ByteArray)++⟨X.1.toArray⟩:=⟨_,rfl⟩;obtain ⟨S2,hS2⟩:∃ S2:ByteArray,S2=S1++(⟨#[93]⟩:ByteArray):=⟨_,rfl⟩;have hz1:S1.size=2+X.1.length:=by rw [hS1,bA,bsz' X.1];rfl
   have hcat:∀ W,(Op.stringOp .add (⟨#[69,91]⟩:ByteArray) ⟨X.1.toArray⟩).run Tryz.prog W=.ok (.string S1) W:=fun W=>by rw [hS1];exact run_string_add_sum W _ _ (by show 2+(⟨X.1.toArray⟩:ByteArray).size≤_;rw [bsz' X.1];omega)
   have hcat2:∀ W,(Op.stringOp .add S1 (⟨#[93]⟩:ByteArray)).run Tryz.prog W=.ok (.string S2) W:=fun W=>by rw [hS2];exact run_string_add_sum W _ _ (by show S1.size+1≤_;omega)
   have HS:Hid (BR.2=0→S2.data.toList=BR.1):=fun h=>by rw [HBR.out.2 h,hS2,hS1];simp [ByteArray.data_append]
   clear hS1 hS2 hz1 hcc hX hbl hlen ha;go_enter Tryz.func78,Tryz.ntmps78;go_wp2_with fail;refine (HCC.out).mono ?_;rintro e w1 ⟨rfl,hb2⟩;rw [←HWB.out] at hb2;have HB2:=kB HB1 hb2;have hx1:=HX.out.below hb2 HX.out.lt;have y0:=hx1.c0;rw [←HOP.out] at y0;have hs1:=hb2.size;clear hb2 hx1;go_wp2_with fail;rw [HF.out];exact ⟨S2,congrArg (fun z:Int=>Ending.returned (.tuple #[.string S2,.int .i64 z])) HBR.out.1.symm,HS.out,HB2.out⟩
 · obtain ⟨a,ha⟩:=flen1 (show f.kids.length=1 by have h1:=HKL.out;rw [show fkids 10=1 from rfl] at h1;omega);have HBR:Hid (BR=aheadF ((⟨#[65,88,32]⟩:ByteArray)).data.toList a):=by show _=_;rw [HBAR.out,iN (by decide),ha];exact bar1 rfl
   have hcc:=HAH.out a ha (⟨#[65,88,32]⟩:ByteArray) (by decide);have HCC:=Hd hcc;clear hcc ha;go_enter Tryz.func78,Tryz.ntmps78;go_wp2_with fail;refine (HCC.out).mono ?_;rintro e w1 ⟨rfl,hb2⟩;rw [←HWB.out] at hb2;have HB2:=kB HB1 hb2;clear hb2;go_wp2_with fail;rw [HF.out,HBR.out];exact ⟨_,rfl,fun _=>rfl,HB2.out⟩
 · obtain ⟨a,ha⟩:=flen1 (show f.kids.length=1 by have h1:=HKL.out;rw [show fkids 11=1 from rfl] at h1;omega);have HBR:Hid (BR=aheadF ((⟨#[65,70,32]⟩:ByteArray)).data.toList a):=by show _=_;rw [HBAR.out,iN (by decide),ha];exact bar1 rfl
   have hcc:=HAH.out a ha (⟨#[65,70,32]⟩:ByteArray) (by decide);have HCC:=Hd hcc;clear hcc ha;go_enter Tryz.func78,Tryz.ntmps78;go_wp2_with fail;refine (HCC.out).mono ?_;rintro e w1 ⟨rfl,hb2⟩;rw [←HWB.out] at hb2;have HB2:=kB HB1 hb2;clear hb2;go_wp2_with fail;rw [HF.out,HBR.out];exact ⟨_,rfl,fun _=>rfl,HB2.out⟩
 · obtain ⟨a,ha⟩:=flen1 (show f.kids.length=1 by have h1:=HKL.out;rw [show fkids 12=1 from rfl] at h1;omega);have HBR:Hid (BR=aheadF ((⟨#[65,71,32]⟩:ByteArray)).data.toList a):=by show _=_;rw [HBAR.out,iN (by decide),ha];exact bar1 rfl
   have hcc:=HAH.out a ha (⟨#[65,71,32]⟩:ByteArray) (by decide);have HCC:=Hd hcc;clear hcc ha;go_enter Tryz.func78,Tryz.ntmps78;go_wp2_with fail;refine (HCC.out).mono ?_;rintro e w1 ⟨rfl,hb2⟩;rw [←HWB.out] at hb2;have HB2:=kB HB1 hb2;clear hb2;go_wp2_with fail;rw [HF.out,HBR.out];exact ⟨_,rfl,fun _=>rfl,HB2.out⟩
 · obtain ⟨a,b,ha⟩:=flen2 (show f.kids.length=2 by have h1:=HKL.out;rw [show fkids 13=2 from rfl] at h1;omega);have hlen:=HLEN.out a b 1 1 ha
   have HBR:Hid (BR.2=(betwF ((⟨#[32,85,32]⟩:ByteArray)).data.toList 1 1 a b).2∧(BR.2=0→BR.1=[65,91]++(betwF ((⟨#[32,85,32]⟩:ByteArray)).data.toList 1 1 a b).1++[93])):=by
    have e1:=HBAR.out;rw [iN (by decide),ha,bar2 rfl] at e1;unfold betwF
    by_cases h:(frmT a 1).2≠0
    · rw [iP (show (frmT a (leftF 13)).2≠0 from h)] at e1;rw [iP h,e1];exact ⟨rfl,fun h0=>absurd h0 h⟩
    · rw [iN (show ¬(frmT a (leftF 13)).2≠0 from h)] at e1;rw [iN h,e1];exact ⟨rfl,fun _=>by simp [openF,closeF,inF,leftF,rightF]⟩
   have hbl:(betwF ((⟨#[32,85,32]⟩:ByteArray)).data.toList 1 1 a b).1.length≤700000010:=by unfold betwF;split <;> simp <;> omega
   have hcc:=HBT.out a b ha (⟨#[32,85,32]⟩:ByteArray) 1 1 (by decide) (by omega) (by omega);obtain ⟨X,hX⟩:=ex_ (betwF ((⟨#[32,85,32]⟩:ByteArray)).data.toList 1 1 a b);rw [←hX] at hcc HBR hbl;have HCC:=Hd hcc;obtain ⟨S1,hS1⟩:∃ S1:ByteArray,S1=(⟨#[65,91]⟩:ByteArray)++⟨X.1.toArray⟩:=⟨_,rfl⟩;obtain ⟨S2,hS2⟩:∃ S2:ByteArray,S2=S1++(⟨#[93]⟩:ByteArray):=⟨_,rfl⟩;have hz1:S1.size=2+X.1.length:=by rw [hS1,bA,bsz' X.1];rfl
   have hcat:∀ W,(Op.stringOp .add (⟨#[65,91]⟩:ByteArray) ⟨X.1.toArray⟩).run Tryz.prog W=.ok (.string S1) W:=fun W=>by rw [hS1];exact run_string_add_sum W _ _ (by show 2+(⟨X.1.toArray⟩:ByteArray).size≤_;rw [bsz' X.1];omega)
   have hcat2:∀ W,(Op.stringOp .add S1 (⟨#[93]⟩:ByteArray)).run Tryz.prog W=.ok (.string S2) W:=fun W=>by rw [hS2];exact run_string_add_sum W _ _ (by show S1.size+1≤_;omega)
   have HS:Hid (BR.2=0→S2.data.toList=BR.1):=fun h=>by rw [HBR.out.2 h,hS2,hS1];simp [ByteArray.data_append]
   clear hS1 hS2 hz1 hcc hX hbl hlen ha;go_enter Tryz.func78,Tryz.ntmps78;go_wp2_with fail;refine (HCC.out).mono ?_;rintro e w1 ⟨rfl,hb2⟩;rw [←HWB.out] at hb2;have HB2:=kB HB1 hb2;have hx1:=HX.out.below hb2 HX.out.lt;have y0:=hx1.c0;rw [←HOP.out] at y0;have hs1:=hb2.size;clear hb2 hx1;go_wp2_with fail;rw [HF.out];exact ⟨S2,congrArg (fun z:Int=>Ending.returned (.tuple #[.string S2,.int .i64 z])) HBR.out.1.symm,HS.out,HB2.out⟩
theorem text_any:∀ N:Nat,TextC N:=by
 intro N
 induction N with
 | zero=>
  intro f least d Ae ce A c w hN;cases f;rw [Fm.size] at hN;omega
 | succ N ih=>
  intro f least d Ae ce A c w hN hok hws hsz hle hV hT;obtain ⟨n,hn⟩:=ex_ f.kids.length;obtain ⟨ne,hne⟩:=ex_ f.tm.kids.length;obtain ⟨wb,hwb⟩:=ex_ (w.alloc (.cells #[.int .i64 f.op,.int .i64 f.tm.op,.int .i64 f.tm.num,.string f.tm.name,.slice Ae ne ce,.slice A n c] 35));have hb1:=bAl hwb;have hx:FBox wb w.heap.size Ae ne ce A n c f:=by rw [hwb];exact hA_ w _
  have hcall:=bare_any N ih f d Ae ce A c wb hN hok hws hsz (hV.below hb1 rfl) (hT.below hb1);unfold Fm.val at hcall ⊢;rw [←hn,←hne] at hcall ⊢;have hlen:=barF_len f;have hft:=frmT_eq f least;obtain ⟨R,hR⟩:=ex_ (barF f);rw [←hR] at hcall hlen hft;rw [hwb] at hcall;obtain ⟨X,hX⟩:=ex_ (frmT f least);rw [←hX] at hft ⊢;have HC:=Hd hcall;have HB1:=Hd hb1;have HX:=Hd hx;have HWB:=Hd hwb;have HFT:=Hd hft;have HLE:=Hd hlen;have HSZ:=Hd hsz;have HSTR:=Hd (fun W=>strong_any f.op W);have hlt:w.heap.size<wb.heap.size:=by rw [hwb];simp
  have hst:strongF f.op≤4:=by
   unfold strongF
   iterate 3 (split;· omega)
   omega
  obtain ⟨sf,hsf⟩:=ex_ (strongF f.op);rw [←hsf] at HFT HSTR hst;clear hwb hb1 hcall hR hx hft hX hlen hsz hok hws hV hT hn hne hN hsf;go_enter Tryz.func40,Tryz.ntmps40;go_wp2_with fail;refine (HC.out).mono ?_;rintro e w1 ⟨s,rfl,hs,hb2⟩;rw [←HWB.out] at hb2;have hx1:=HX.out.below hb2 HX.out.lt;have HB2:=kB HB1 hb2;have y0:=hx1.c0;have hs1:=hb2.size;have HS:=Hd hs;clear hb2 hx1 hs
  by_cases h0:R.2=0
  · have hsd:=HS.out h0;have hsl:s.size=R.1.length:=by rw [←hsd];simp
    have HRE:Hid (X=if sf<least then ([40]++s.data.toList++[41],0) else (s.data.toList,0)):=by show _=_;rw [HFT.out,iN (fun h=>h h0),hsd]
    have h0':(R.2 != 0)=false:=by simpa using h0
    have hsb:s.size≤700000000:=by have h1:=HLE.out;have h2:=HSZ.out;omega
    have hid:(⟨s.data.toList.toArray⟩:ByteArray)=s:=by apply ByteArray.ext;simp
    have HID:=Hd hid;clear h0 hsd hsl hid;go_wp2_with fail;refine (HSTR.out _).mono ?_;rintro e w' ⟨rfl,hw⟩;rw [←hw];clear hw
    by_cases h4:sf<least
    · have h4':(sf:Int)<(least:Int):=by omega
      obtain ⟨S1,hS1⟩:∃ S1:ByteArray,S1=(⟨#[40]⟩:ByteArray)++s:=⟨_,rfl⟩;obtain ⟨S2,hS2⟩:∃ S2:ByteArray,S2=S1++(⟨#[41]⟩:ByteArray):=⟨_,rfl⟩;have hz1:S1.size=1+s.size:=by rw [hS1,bA];rfl
      have hcat:∀ W,(Op.stringOp .add (⟨#[40]⟩:ByteArray) s).run Tryz.prog W=.ok (.string S1) W:=fun W=>by rw [hS1];exact run_string_add_sum W _ _ (by show 1+s.size≤_;omega)
      have hcat2:∀ W,(Op.stringOp .add S1 (⟨#[41]⟩:ByteArray)).run Tryz.prog W=.ok (.string S2) W:=fun W=>by rw [hS2];exact run_string_add_sum W _ _ (by show S1.size+1≤_;omega)
      have HRR:Hid (X=(S2.data.toList,0)):=by show _=_;rw [HRE.out,iP h4,hS2,hS1];simp [ByteArray.data_append]
      clear hS1 hS2 hz1 h4;go_wp2_with fail
      go_ret2
      rw [HRR.out];exact ⟨rfl,HB2.out⟩
    · have h4':¬(sf:Int)<(least:Int):=by omega
      have HRR:Hid (X=(s.data.toList,0)):=by show _=_;rw [HRE.out,iN h4]
      clear h4;go_wp2_with fail
      go_ret2
      rw [HRR.out];exact ⟨rfl,HB2.out⟩
  · have HRE:Hid (X=([],R.2)):=by show _=_;rw [HFT.out,iP h0]
    have h0':(R.2 != 0)=true:=by simpa using h0
    clear h0;go_wp2_with fail
    go_ret2
    rw [HRE.out];exact ⟨rfl,HB2.out⟩
theorem fshow_any (f:Fm) (Ae:Option Addr) (ce:Nat) (A:Option Addr) (c:Nat) (w:World) (hws:f.wsize≤9000000) (hV:FmV w Ae ce A c f) (hT:WordsT w) :
 Calls Tryz.prog 21 #[f.val Ae ce A c] w fun e w'=>e=.returned (.tuple #[.string ⟨(showFm f).1.toArray⟩,.int .i64 (showFm f).2])∧Below w.heap.size w w':=by
 obtain ⟨n,HN⟩:=exh_ f.kids.length;obtain ⟨ne,HNE⟩:=exh_ f.tm.kids.length;obtain ⟨wb,hwb⟩:=ex_ (w.alloc (.cells #[.int .i64 f.op,.int .i64 f.tm.op,.int .i64 f.tm.num,.string f.tm.name,.slice Ae ne ce,.slice A n c] 35));have hb1:=bAl hwb;have hx:FBox wb w.heap.size Ae ne ce A n c f:=by rw [hwb];exact hA_ w _
 have hck:=fcheck_any f Ae ce A c wb (hV.below hb1 rfl) hws;unfold Fm.val at hck ⊢;rw [←HN.out,←HNE.out] at hck ⊢;obtain ⟨ck,HCK0⟩:=exh_ f.check;rw [←HCK0.out] at hck;obtain ⟨X,hX⟩:=ex_ (showFm f);rw [←hX];unfold showFm at hX;rw [←HCK0.out] at hX;have HX0:=Hd hX;rw [hwb] at hck;have HCK:=Hd hck;have HB1:=Hd hb1;have HX:=Hd hx;have HWB:=Hd hwb;have HV:=Hd hV;have HT:=Hd hT;have hlt:w.heap.size<wb.heap.size:=by rw [hwb];simp
 clear hwb hb1 hck hx hX hV hT;go_enter Tryz.func21,Tryz.ntmps21;go_wp2_with fail;refine (HCK.out).mono ?_;rintro e w1 ⟨rfl,hb2⟩;rw [←HWB.out] at hb2;have hx1:=HX.out.below hb2 HX.out.lt;have hbw:=HB1.out.trans (hb2.mono HB1.out.size);have HB2:=Hd hbw;have hs1:=hb2.size;have y0:=hx1.c0;have y1:=hx1.c1;have y2:=hx1.c2;have y3:=hx1.c3;have y4:=hx1.c4;have y5:=hx1.c5
 by_cases h0:ck=0
 · have hch:f.check=0:=by rw [←HCK0.out];exact h0
   obtain ⟨hok,hsz⟩:=fcheck_ok hch;have htx:=text_any f.size f 1 1 Ae ce A c w1 (lr _) hok hws (by omega) (by omega) (HV.out.below hbw rfl) (HT.out.below hbw);unfold Fm.val at htx;rw [←HN.out,←HNE.out] at htx;have hlen:=frmT_len f 1;have HR0:Hid (X=if (frmT f 1).2≠0 then ([],(frmT f 1).2) else if 65536<(frmT f 1).1.length then ([],4) else ((frmT f 1).1,0)):=by show _=_;rw [HX0.out,iN (fun h=>h h0)]
   obtain ⟨R,hR⟩:=ex_ (frmT f 1);rw [←hR] at htx hlen HR0;have HTX:=Hd htx;subst h0;have HLE:Hid (R.1.length≤700000000):=by show _≤_;omega
   clear hx1 hbw hb2 htx hR hok hsz hch hlen;go_wp2_with fail;refine (HTX.out).mono ?_;rintro e w2 ⟨rfl,hb3⟩;have HB3:=kB HB2 hb3;have hlr:(⟨R.1.toArray⟩:ByteArray).size=R.1.length:=bsz' R.1;have HLR:=Hd hlr;obtain ⟨s,hs⟩:∃ s:ByteArray,s=⟨R.1.toArray⟩:=⟨_,rfl⟩;rw [←hs] at HLR ⊢;have HS:=Hd hs;have hsm:s.size≤700000000:=by rw [HLR.out];exact HLE.out
   clear hb3 y0 y1 y2 y3 y4 y5 hlr hs
   by_cases h2:R.2=0
   · have h2':(R.2 != 0)=false:=by simpa using h2
     by_cases h6:65536<s.size
     · have HRR:Hid (X=([],4)):=by show _=_;rw [HR0.out,iN (fun h=>h h2),iP (by rw [←HLR.out];exact h6)]
       have h6':(65536:Int)<(s.size:Int):=by omega
       clear h2 h6;go_wp2_with fail
       go_ret2
       rw [HRR.out];exact ⟨rfl,HB3.out⟩
     · have HRR:Hid (X=(R.1,0)):=by show _=_;rw [HR0.out,iN (fun h=>h h2),iN (by rw [←HLR.out];exact h6)]
       have h6':¬(65536:Int)<(s.size:Int):=by omega
       clear h2 h6;go_wp2_with fail
       go_ret2
       rw [HRR.out,HS.out];exact ⟨rfl,HB3.out⟩
   · have HRR:Hid (X=([],R.2)):=by show _=_;rw [HR0.out,iP h2]
     have h2':(R.2 != 0)=true:=by simpa using h2
     clear h2;go_wp2_with fail
     go_ret2
     rw [HRR.out];exact ⟨rfl,HB3.out⟩
 · have HRR:Hid (X=([],ck)):=by show _=_;rw [HX0.out,iP h0]
   have h0':(ck != 0)=true:=by simpa using h0
   clear h0 hx1 hbw hb2;go_wp2_with fail
   go_ret2
   rw [HRR.out];exact ⟨rfl,HB2.out⟩
def exFS:Bs:=[91,97,93,32,45,62,32,69,70,32,33,40,91,98,32,61,32,50,93,32,124,32,91,99,93,41]
def exN (c:UInt8):Fm:=.mk 1 (tmName 3 [c]) []
def exF:Fm:=fmOf 5 [exN 97,fmOf 7 [fmOf 2 [fmOf 4 [.mk 1 (tmOf 10 [tmName 3 [98],tmNum 2]) [],exN 99]]]]
def exG:Fm:=fmOf 9 [exN 97,exN 98]
theorem ex33_parse:parseF exFS=(exF,26,0):=by kernel_rfl
theorem ex33_until:parseF [69,91,91,97,93,32,85,32,91,98,93,93]=(exG,12,0):=by kernel_rfl
theorem ex33_or:parseF [91,97,93,32,124,32,59]=(zeroFm,6,16):=by kernel_rfl
theorem ex33_ex:parseF [69,88,32,69,88]=(zeroFm,5,16):=by kernel_rfl
theorem ex33_show:showFm exF=(exFS,0):=by kernel_rfl
theorem ex33_size:exF.wsize≤9000000:=of_decide_eq_true (by kernel_rfl)
theorem lives33_any (w:World) (hT:Tables w) :
 Calls Tryz.prog 16 #[] w fun e w'=>e=.returned (.bool true)∧Below w.heap.size w w':=by
 obtain ⟨F,hF⟩:∃ F:Ending→World→Prop,F=fun e w'=>e=.returned (.bool true)∧Below w.heap.size w w':=⟨_,rfl⟩;rw [←hF];have HF:=Hd hF;have HT:=Hd hT;clear hF hT;have HB:=Hd (Br w.heap.size w)
 have HP1:Hid (Calls Tryz.prog 17 #[.string ⟨#[91,97,93,32,45,62,32,69,70,32,33,40,91,98,32,61,32,50,93,32,124,32,91,99,93,41]⟩] w (FaQ w (exF,26,0))):=by
  have h:=fparse_any ⟨#[91,97,93,32,45,62,32,69,70,32,33,40,91,98,32,61,32,50,93,32,124,32,91,99,93,41]⟩ w (by unfold maxLen;show 26≤_;omega) (HT.out.below HB.out);rw [show parseF (bs ⟨#[91,97,93,32,45,62,32,69,70,32,33,40,91,98,32,61,32,50,93,32,124,32,91,99,93,41]⟩)=(exF,26,0) from ex33_parse] at h;exact h
 go_enter Tryz.func16,Tryz.ntmps16;go_wp2_with fail;refine (HP1.out).mono ?_;rintro e w1 ⟨x,rfl,hx,hb⟩;simp only at hx;simp only [FV.val];have Ex:Hid (x.val=(exF).val x.Ae x.ce x.A x.c):=hx.val;have Ox:=Hd hx.o;have Vx:=Hd hx.v.toV;clear hx HP1;replace HB:=kB HB hb;clear hb;obtain ⟨b1,Qb1⟩:=exh_ w1.heap.size;obtain ⟨w2,Qw2⟩:=exh_ (w1.alloc (.cells #[.int .i64 x.o,.int .i64 x.tn,.int .i64 x.tm,.string x.s,.slice x.Ae x.ne x.ce,.slice x.A x.n x.c] 35));have Xb1:=nAl Qw2.out Qb1.out;have hal:=bAl Qw2.out;replace HB:=kB HB hal;replace Vx:=Hd (FmV.below Vx.out hal rfl);clear hal;have hsh:=fshow_any exF x.Ae x.ce x.A x.c w2 ex33_size Vx.out (HT.out.below HB.out).wordsT;rw [ex33_show,←Ex.out] at hsh;unfold FV.val at hsh;have HSH:Hid (Calls Tryz.prog 21 #[.agg #[.int .i64 x.o,.int .i64 x.tn,.int .i64 x.tm,.string x.s,.slice x.Ae x.ne x.ce,.slice x.A x.n x.c]] w2 fun e w'=>e=.returned (.tuple #[.string ⟨#[91,97,93,32,45,62,32,69,70,32,33,40,91,98,32,61,32,50,93,32,124,32,91,99,93,41]⟩,.int .i64 0])∧Below w2.heap.size w2 w'):=hsh;clear hsh;go_wp2_with fail;rw [←Qw2.out,←Qb1.out];obtain ⟨cb10,cb11,cb12,cb13,cb14,cb15,zb1q⟩:=q6 Xb1.out;have lb1:=lH Xb1.out;(try go_wp2_with fail);refine (HSH.out).mono ?_;rintro e w3 ⟨rfl,hb⟩;clear HSH;replace HB:=kB HB hb;replace Xb1:=kX hb Xb1;replace Vx:=Hd (FmV.below Vx.out hb rfl);clear hb cb10 zb1q cb11 cb12 cb13 cb14 cb15 lb1
 have HP2:Hid (Calls Tryz.prog 17 #[.string ⟨#[69,91,91,97,93,32,85,32,91,98,93,93]⟩] w3 (FaQ w3 (exG,12,0))):=by
  have h:=fparse_any ⟨#[69,91,91,97,93,32,85,32,91,98,93,93]⟩ w3 (by unfold maxLen;show 12≤_;omega) (HT.out.below HB.out);rw [show parseF (bs ⟨#[69,91,91,97,93,32,85,32,91,98,93,93]⟩)=(exG,12,0) from ex33_until] at h;exact h
 go_wp2_with fail;refine (HP2.out).mono ?_;rintro e w4 ⟨y,rfl,hx,hb⟩;simp only at hx;simp only [FV.val];have Ey:Hid (y.val=(exG).val y.Ae y.ce y.A y.c):=hx.val;have Oy:=Hd hx.o;have Vy:=Hd hx.v.toV;clear hx HP2;replace HB:=kB HB hb;replace Xb1:=kX hb Xb1;replace Vx:=Hd (FmV.below Vx.out hb rfl);clear hb;obtain ⟨b2,Qb2⟩:=exh_ w4.heap.size;obtain ⟨w5,Qw5⟩:=exh_ (w4.alloc (.cells #[.int .i64 y.o,.int .i64 y.tn,.int .i64 y.tm,.string y.s,.slice y.Ae y.ne y.ce,.slice y.A y.n y.c] 35));have Xb2:=nAl Qw5.out Qb2.out;have hal:=bAl Qw5.out;replace HB:=kB HB hal;replace Xb1:=kX hal Xb1;replace Vx:=Hd (FmV.below Vx.out hal rfl);replace Vy:=Hd (FmV.below Vy.out hal rfl);clear hal
 have HP3:Hid (Calls Tryz.prog 17 #[.string ⟨#[91,97,93,32,124,32,59]⟩] w5 (FaQ w5 (zeroFm,6,16))):=by
  have h:=fparse_any ⟨#[91,97,93,32,124,32,59]⟩ w5 (by unfold maxLen;show 7≤_;omega) (HT.out.below HB.out);rw [show parseF (bs ⟨#[91,97,93,32,124,32,59]⟩)=(zeroFm,6,16) from ex33_or] at h;exact h
 go_wp2_with fail;rw [←Qw5.out,←Qb2.out];(try go_wp2_with fail);refine (HP3.out).mono ?_;rintro e w6 ⟨u,rfl,hx,hb⟩;simp only at hx;simp only [FV.val];have Eu:Hid (u.val=(zeroFm).val u.Ae u.ce u.A u.c):=hx.val;have Ou:=Hd hx.o;have Vu:=Hd hx.v.toV;clear hx HP3;replace HB:=kB HB hb;replace Xb1:=kX hb Xb1;replace Xb2:=kX hb Xb2;replace Vx:=Hd (FmV.below Vx.out hb rfl);replace Vy:=Hd (FmV.below Vy.out hb rfl);clear hb;obtain ⟨b3,Qb3⟩:=exh_ w6.heap.size;obtain ⟨w7,Qw7⟩:=exh_ (w6.alloc (.cells #[.int .i64 u.o,.int .i64 u.tn,.int .i64 u.tm,.string u.s,.slice u.Ae u.ne u.ce,.slice u.A u.n u.c] 35));have Xb3:=nAl Qw7.out Qb3.out;have hal:=bAl Qw7.out;replace HB:=kB HB hal;replace Xb1:=kX hal Xb1;replace Xb2:=kX hal Xb2;replace Vx:=Hd (FmV.below Vx.out hal rfl);replace Vy:=Hd (FmV.below Vy.out hal rfl);replace Vu:=Hd (FmV.below Vu.out hal rfl);clear hal
 have HP4:Hid (Calls Tryz.prog 17 #[.string ⟨#[69,88,32,69,88]⟩] w7 (FaQ w7 (zeroFm,5,16))):=by
  have h:=fparse_any ⟨#[69,88,32,69,88]⟩ w7 (by unfold maxLen;show 5≤_;omega) (HT.out.below HB.out);rw [show parseF (bs ⟨#[69,88,32,69,88]⟩)=(zeroFm,5,16) from ex33_ex] at h;exact h
 go_wp2_with fail;rw [←Qw7.out,←Qb3.out];(try go_wp2_with fail);refine (HP4.out).mono ?_;rintro e w8 ⟨v,rfl,hx,hb⟩;simp only at hx;simp only [FV.val];have Ev:Hid (v.val=(zeroFm).val v.Ae v.ce v.A v.c):=hx.val;have Ov:=Hd hx.o;have Vv:=Hd hx.v.toV;clear hx HP4;replace HB:=kB HB hb;replace Xb1:=kX hb Xb1;replace Xb2:=kX hb Xb2;replace Xb3:=kX hb Xb3;replace Vx:=Hd (FmV.below Vx.out hb rfl);replace Vy:=Hd (FmV.below Vy.out hb rfl);replace Vu:=Hd (FmV.below Vu.out hb rfl);clear hb;obtain ⟨cb10,cb11,cb12,cb13,cb14,cb15,zb1q⟩:=q6 Xb1.out;have lb1:=lH Xb1.out;obtain ⟨cb20,cb21,cb22,cb23,cb24,cb25,zb2q⟩:=q6 Xb2.out;have lb2:=lH Xb2.out;obtain ⟨b4,Qb4⟩:=exh_ w8.heap.size;obtain ⟨w9,Qw9⟩:=exh_ (w8.alloc (.cells #[.int .i64 v.o,.int .i64 v.tn,.int .i64 v.tm,.string v.s,.slice v.Ae v.ne v.ce,.slice v.A v.n v.c] 35));have Xb4:=nAl Qw9.out Qb4.out;have hal:=bAl Qw9.out;replace HB:=kB HB hal;replace Xb1:=kX hal Xb1;replace Xb2:=kX hal Xb2;replace Xb3:=kX hal Xb3;replace Vx:=Hd (FmV.below Vx.out hal rfl);replace Vy:=Hd (FmV.below Vy.out hal rfl);replace Vu:=Hd (FmV.below Vu.out hal rfl);replace Vv:=Hd (FmV.below Vv.out hal rfl);clear hal;have ox:x.o=5:=Ox.out;have oy:y.o=9:=Oy.out;rw [ox] at cb10;rw [oy] at cb20;clear ox oy;go_wp2_with fail;rw [←Qw9.out];rw [HF.out];exact ⟨rfl,HB.out⟩
theorem decB_step {x:Nat} (h:10≤x):decB x=decB (x / 10)++[UInt8.ofNat (48+x % 10)]:=by
 have hx:x≠0:=by omega
 have hx2:x / 10≠0:=by omega
 unfold decB;rw [iN hx,iN hx2,digs_pos (by decide) hx,List.reverse_cons,List.map_append]
 rfl
theorem decB_one {x:Nat} (h:x<10):decB x=[UInt8.ofNat (48+x)]:=by
 have:x=0∨x=1∨x=2∨x=3∨x=4∨x=5∨x=6∨x=7∨x=8∨x=9:=by omega
 rcases this with rfl | rfl | rfl | rfl | rfl | rfl | rfl | rfl | rfl | rfl <;> rfl
theorem dig_toNat (d:Nat) (h:d<10):(UInt8.ofNat (48+d)).toNat=48+d:=by
 rw [UInt8.toNat_ofNat'];exact Nat.mod_eq_of_lt (by omega)
end Go.Proofs.YtnbphgeepnknlaaGreatDoor
