/- Walks and plain words: FLvs RprA RfqA. -/
import Derived.Test.YtnbphgeepnknlaaGreatDoorUFsJ
import Derived.Test.YtnbphgeepnknlaaGreatDoorUTrmHs
namespace Go.Proofs.YtnbphgeepnknlaaGreatDoor
open Go.RowKit
set_option linter.unusedVariables false
set_option maxRecDepth 100000
set_option maxHeartbeats 8000000
def exFS:Bs:=[91,97,93,32,45,62,32,69,70,32,33,40,91,98,32,61,32,50,93,32,124,32,91,99,93,41]
def exN (c:UInt8):Fm:=.mk 1 (tmName 3 [c]) []
def exF:Fm:=fmOf 5 [exN 97,fmOf 7 [fmOf 2 [fmOf 4 [.mk 1 (tmOf 10 [tmName 3 [98],tmNum 2]) [],exN 99]]]]
def exG:Fm:=fmOf 9 [exN 97,exN 98]
theorem ex33_parse:parseF exFS=(exF,26,0):=by kernel_rfl
theorem ex33_until:parseF [69,91,91,97,93,32,85,32,91,98,93,93]=(exG,12,0):=by kernel_rfl
theorem ex33_or:parseF [91,97,93,32,124,32,59]=(zeroFm,6,16):=by kernel_rfl
theorem ex33_ex:parseF [69,88,32,69,88]=(zeroFm,5,16):=by kernel_rfl
theorem ex33_show:showFm exF=(exFS,0):=by kernel_rfl
theorem ex33_slim:slimF exF.size exF=true:=by kernel_rfl
theorem ex33_size:exF.wsize≤9000000:=of_decide_eq_true (by kernel_rfl)
theorem lives33_any (w:World) (hT:Tables w) :
 Calls Tryz.prog 16 #[] w fun e w'=>e=.returned (.bool true)∧Below w.heap.size w w':=by
 obtain ⟨F,hF⟩:∃ F:Ending→World→Prop,F=fun e w'=>e=.returned (.bool true)∧Below w.heap.size w w':=⟨_,rfl⟩;rw [←hF];have HF:=Hd hF;have HT:=Hd hT;clear hF hT;have HB:=Hd (Br w.heap.size w)
 have HP1:Hid (Calls Tryz.prog 17 #[.string ⟨#[91,97,93,32,45,62,32,69,70,32,33,40,91,98,32,61,32,50,93,32,124,32,91,99,93,41]⟩] w (FaQ w (exF,26,0))):=by
  have h:=fparse_any ⟨#[91,97,93,32,45,62,32,69,70,32,33,40,91,98,32,61,32,50,93,32,124,32,91,99,93,41]⟩ w (by unfold maxLen;show 26≤_;omega) (HT.out.below HB.out);rw [show parseF (bs ⟨#[91,97,93,32,45,62,32,69,70,32,33,40,91,98,32,61,32,50,93,32,124,32,91,99,93,41]⟩)=(exF,26,0) from ex33_parse] at h;exact h
 go_enter Tryz.func16,Tryz.ntmps16;go_wp2_with fail;refine (HP1.out).mono ?_;rintro e w1 ⟨x,rfl,hx,hb⟩;simp only at hx;simp only [FV.val];have Ex:Hid (x.val=(exF).val x.Ae x.ce x.A x.c):=hx.val;have Ox:=Hd hx.o;have Vx:=Hd hx.v.toV;clear hx HP1;replace HB:=kB HB hb;clear hb;obtain ⟨b1,Qb1⟩:=exh_ w1.heap.size;obtain ⟨w2,Qw2⟩:=exh_ (w1.alloc (.cells #[.int .i64 x.o,.int .i64 x.tn,.int .i64 x.tm,.string x.s,.slice x.Ae x.ne x.ce,.slice x.A x.n x.c] 35));have Xb1:=nAl Qw2.out Qb1.out;have hal:=bAl Qw2.out;replace HB:=kB HB hal;replace Vx:=Hd (FmV.below Vx.out hal rfl);clear hal;have hsh:=fshow_any exF x.Ae x.ce x.A x.c w2 ex33_slim ex33_size Vx.out (HT.out.below HB.out).wordsT;rw [ex33_show,←Ex.out] at hsh;unfold FV.val at hsh;have HSH:Hid (Calls Tryz.prog 21 #[.agg #[.int .i64 x.o,.int .i64 x.tn,.int .i64 x.tm,.string x.s,.slice x.Ae x.ne x.ce,.slice x.A x.n x.c]] w2 fun e w'=>e=.returned (.tuple #[.string ⟨#[91,97,93,32,45,62,32,69,70,32,33,40,91,98,32,61,32,50,93,32,124,32,91,99,93,41]⟩,.int .i64 0])∧Below w2.heap.size w2 w'):=hsh;clear hsh;go_wp2_with fail;rw [←Qw2.out,←Qb1.out];obtain ⟨cb10,cb11,cb12,cb13,cb14,cb15,zb1q⟩:=q6 Xb1.out;have lb1:=lH Xb1.out;(try go_wp2_with fail);refine (HSH.out).mono ?_;rintro e w3 ⟨rfl,hb⟩;clear HSH;replace HB:=kB HB hb;replace Xb1:=kX hb Xb1;replace Vx:=Hd (FmV.below Vx.out hb rfl);clear hb cb10 zb1q cb11 cb12 cb13 cb14 cb15 lb1
 have HP2:Hid (Calls Tryz.prog 17 #[.string ⟨#[69,91,91,97,93,32,85,32,91,98,93,93]⟩] w3 (FaQ w3 (exG,12,0))):=by
  have h:=fparse_any ⟨#[69,91,91,97,93,32,85,32,91,98,93,93]⟩ w3 (by unfold maxLen;show 12≤_;omega) (HT.out.below HB.out);rw [show parseF (bs ⟨#[69,91,91,97,93,32,85,32,91,98,93,93]⟩)=(exG,12,0) from ex33_until] at h;exact h
 go_wp2_with fail;refine (HP2.out).mono ?_;rintro e w4 ⟨y,rfl,hx,hb⟩;simp only at hx;simp only [FV.val];have Ey:Hid (y.val=(exG).val y.Ae y.ce y.A y.c):=hx.val;have Oy:=Hd hx.o;have Vy:=Hd hx.v.toV;clear hx HP2;replace HB:=kB HB hb;replace Xb1:=kX hb Xb1;replace Vx:=Hd (FmV.below Vx.out hb rfl);clear hb;obtain ⟨b2,Qb2⟩:=exh_ w4.heap.size;obtain ⟨w5,Qw5⟩:=exh_ (w4.alloc (.cells #[.int .i64 y.o,.int .i64 y.tn,.int .i64 y.tm,.string y.s,.slice y.Ae y.ne y.ce,.slice y.A y.n y.c] 35));have Xb2:=nAl Qw5.out Qb2.out;have hal:=bAl Qw5.out;replace HB:=kB HB hal;replace Xb1:=kX hal Xb1;replace Vx:=Hd (FmV.below Vx.out hal rfl);replace Vy:=Hd (FmV.below Vy.out hal rfl);clear hal
 have HP3:Hid (Calls Tryz.prog 17 #[.string ⟨#[91,97,93,32,124,32,59]⟩] w5 (FaQ w5 (zeroFm,6,16))):=by
  have h:=fparse_any ⟨#[91,97,93,32,124,32,59]⟩ w5 (by unfold maxLen;show 7≤_;omega) (HT.out.below HB.out);rw [show parseF (bs ⟨#[91,97,93,32,124,32,59]⟩)=(zeroFm,6,16) from ex33_or] at h;exact h
 go_wp2_with fail;rw [←Qw5.out,←Qb2.out];(try go_wp2_with fail);refine (HP3.out).mono ?_;rintro e w6 ⟨u,rfl,hx,hb⟩;simp only at hx;simp only [FV.val];have Eu:Hid (u.val=(zeroFm).val u.Ae u.ce u.A u.c):=hx.val;have Ou:=Hd hx.o;have Vu:=Hd hx.v.toV;clear hx HP3;replace HB:=kB HB hb;replace Xb1:=kX hb Xb1;replace Xb2:=kX hb Xb2;replace Vx:=Hd (FmV.below Vx.out hb rfl);replace Vy:=Hd (FmV.below Vy.out hb rfl);clear hb;obtain ⟨b3,Qb3⟩:=exh_ w6.heap.size;obtain ⟨w7,Qw7⟩:=exh_ (w6.alloc (.cells #[.int .i64 u.o,.int .i64 u.tn,.int .i64 u.tm,.string u.s,.slice u.Ae u.ne u.ce,.slice u.A u.n u.c] 35));have Xb3:=nAl Qw7.out Qb3.out;have hal:=bAl Qw7.out;replace HB:=kB HB hal;replace Xb1:=kX hal Xb1;replace Xb2:=kX hal Xb2;replace Vx:=Hd (FmV.below Vx.out hal rfl);replace Vy:=Hd (FmV.below Vy.out hal rfl);replace Vu:=Hd (FmV.below Vu.out hal rfl);clear hal
 have HP4:Hid (Calls Tryz.prog 17 #[.string ⟨#[69,88,32,69,88]⟩] w7 (FaQ w7 (zeroFm,5,16))):=by
  have h:=fparse_any ⟨#[69,88,32,69,88]⟩ w7 (by unfold maxLen;show 5≤_;omega) (HT.out.below HB.out);rw [show parseF (bs ⟨#[69,88,32,69,88]⟩)=(zeroFm,5,16) from ex33_ex] at h;exact h
 go_wp2_with fail;rw [←Qw7.out,←Qb3.out];(try go_wp2_with fail);refine (HP4.out).mono ?_;rintro e w8 ⟨v,rfl,hx,hb⟩;simp only at hx;simp only [FV.val];have Ev:Hid (v.val=(zeroFm).val v.Ae v.ce v.A v.c):=hx.val;have Ov:=Hd hx.o;have Vv:=Hd hx.v.toV;clear hx HP4;replace HB:=kB HB hb;replace Xb1:=kX hb Xb1;replace Xb2:=kX hb Xb2;replace Xb3:=kX hb Xb3;replace Vx:=Hd (FmV.below Vx.out hb rfl);replace Vy:=Hd (FmV.below Vy.out hb rfl);replace Vu:=Hd (FmV.below Vu.out hb rfl);clear hb;obtain ⟨cb10,cb11,cb12,cb13,cb14,cb15,zb1q⟩:=q6 Xb1.out;have lb1:=lH Xb1.out;obtain ⟨cb20,cb21,cb22,cb23,cb24,cb25,zb2q⟩:=q6 Xb2.out;have lb2:=lH Xb2.out;obtain ⟨b4,Qb4⟩:=exh_ w8.heap.size;obtain ⟨w9,Qw9⟩:=exh_ (w8.alloc (.cells #[.int .i64 v.o,.int .i64 v.tn,.int .i64 v.tm,.string v.s,.slice v.Ae v.ne v.ce,.slice v.A v.n v.c] 35));have Xb4:=nAl Qw9.out Qb4.out;have hal:=bAl Qw9.out;replace HB:=kB HB hal;replace Xb1:=kX hal Xb1;replace Xb2:=kX hal Xb2;replace Xb3:=kX hal Xb3;replace Vx:=Hd (FmV.below Vx.out hal rfl);replace Vy:=Hd (FmV.below Vy.out hal rfl);replace Vu:=Hd (FmV.below Vu.out hal rfl);replace Vv:=Hd (FmV.below Vv.out hal rfl);clear hal;have ox:x.o=5:=Ox.out;have oy:y.o=9:=Oy.out;rw [ox] at cb10;rw [oy] at cb20;clear ox oy;go_wp2_with fail;rw [←Qw9.out];rw [HF.out];exact ⟨rfl,HB.out⟩
def gotT:Rs Tm→Tm
 | .bad _ _=>zeroTm
 | .ok t _=>t
def gotI:Rs Tm→Nat
 | .bad j _=>j
 | .ok _ j=>j
def gotE:Rs Tm→Int
 | .bad _ e=>e
 | .ok _ _=>0
def GQ (w:World) (r:Rs Tm) (e:Ending) (w':World):Prop:=∃ A' c',e=.returned (.agg #[.int .i64 (gotT r).op,.int .i64 (gotT r).num,.string (gotT r).name,.slice A' (gotT r).kids.length c',.int .i64 (gotI r:Nat),.int .i64 (gotE r)])∧TmVS (fun q=>w.heap.size≤q) w' A' c' (gotT r)∧Below w.heap.size w w'
theorem TokIn.below {w w':World} {A:Option Addr} {c:Nat} {l:List Tok} (h:TokIn w A c l) (hb:Below w.heap.size w w'):TokIn w' A c l:=
 ⟨h.toks.belowB hb rfl,h.cap,h.capm,h.len,h.txt,h.rng,fun a ha=>lL (h.old a ha) hb.size⟩
def FnR (l:List Tok) (d:Nat) (K:FuncId) (P:Par):Prop:=∀ (A:Option Addr) (c i:Nat) (w:World),i≤l.length→TokIn w A c l→Calls Tryz.prog K #[.slice A l.length c,.int .i64 (i:Nat),.int .i64 (d:Nat)] w (GQ w (P i))
def FnRB (l:List Tok) (d:Nat) (K:FuncId) (b:Bool) (P:Par):Prop:=∀ (A:Option Addr) (c i:Nat) (w:World),i≤l.length→TokIn w A c l→Calls Tryz.prog K #[.slice A l.length c,.int .i64 (i:Nat),.int .i64 (d:Nat),.bool b] w (GQ w (P i))
theorem res6 {W:World} {b:Nat} {u0 u1 u2 u3 u4 u5 v0 v1 v2 v3 v4 v5:Value} {T:TypeId} (h:W.heap[b]?=some (.cells #[u0,u1,u2,u3,u4,u5] T (0,0))) :
 ((((((W.setCell ⟨b,0,none⟩ v0).setCell ⟨b,1,none⟩ v1).setCell ⟨b,2,none⟩ v2).setCell ⟨b,3,none⟩ v3).setCell ⟨b,4,none⟩ v4).setCell ⟨b,5,none⟩ v5).heap[b]?=some (.cells #[v0,v1,v2,v3,v4,v5] T (0,0)):=by
 simp [World.setCell,Array.getElem?_modify,h]
theorem sets6_far {W:World} {b q:Nat} {v0 v1 v2 v3 v4 v5:Value} (h:q≠b):((((((W.setCell ⟨b,0,none⟩ v0).setCell ⟨b,1,none⟩ v1).setCell ⟨b,2,none⟩ v2).setCell ⟨b,3,none⟩ v3).setCell ⟨b,4,none⟩ v4).setCell ⟨b,5,none⟩ v5).heap[q]?=W.heap[q]?:=by
 rw [hO_ _ ⟨b,5,none⟩ q _ h,hO_ _ ⟨b,4,none⟩ q _ h,hO_ _ ⟨b,3,none⟩ q _ h,hO_ _ ⟨b,2,none⟩ q _ h,hO_ _ ⟨b,1,none⟩ q _ h,hO_ _ ⟨b,0,none⟩ q _ h]
theorem gq_end {w W:World} {b6:Nat} {r:Rs Tm} {A':Option Addr} {c':Nat} (v0 v1 v2 v3 v4 v5:Value) (hb:b6=w.heap.size) (hV:TmVS (fun q=>w.heap.size<q) W A' c' (gotT r)) (hB:Below w.heap.size w W) :
 GQ w r (.returned (.agg #[.int .i64 (gotT r).op,.int .i64 (gotT r).num,.string (gotT r).name,.slice A' (gotT r).kids.length c',.int .i64 (gotI r:Nat),.int .i64 (gotE r)])) ((((((W.setCell ⟨b6,0,none⟩ v0).setCell ⟨b6,1,none⟩ v1).setCell ⟨b6,2,none⟩ v2).setCell ⟨b6,3,none⟩ v3).setCell ⟨b6,4,none⟩ v4).setCell ⟨b6,5,none⟩ v5):=by
 subst hb;have h0:w.heap.size≤w.heap.size:=lr _;refine ⟨A',c',rfl,hV.keep ((((((KeepS.refl.set (by omega) _).set (by omega) _).set (by omega) _).set (by omega) _).set (by omega) _).set (by omega) _) (fun q _ h=>Nat.le_of_lt h),?_⟩;exact ((((((Ob (F:=fun q=>w.heap.size≤q) hB).setF h0 _).setF h0 _).setF h0 _).setF h0 _).setF h0 _).setF h0 _ |>.below (fun q h=>h) (lr _)
theorem rpis_any (A:Option Addr) (c i:Nat) (l:List Tok) (k:Int) (s:ByteArray) (w:World) (hP:TokIn w A c l) (hi:i≤1000000) :
 Calls Tryz.prog 177 #[.slice A l.length c,.int .i64 (i:Nat),.int .i64 k,.string s] w fun e w'=>e=.returned (.bool (isTk l i k (bs s)))∧w'=w:=by
 obtain ⟨n,HN⟩:=exh_ l.length;rw [←HN.out];have hlen:=hP.len;have hcap:=hP.cap;have hcapm:=hP.capm;unfold maxLen at hcapm;rw [←HN.out] at hlen hcap;obtain ⟨r,hr⟩:=ex_ (isTk l i k (bs s));rw [←hr];unfold isTk at hr;have HR:=Hd hr;have HP:=Hd hP;clear hr hP
 by_cases hlt:i<n
 · obtain ⟨t,ht⟩:∃ t,l[i]?=some t:=⟨_,gG (by have:=HN.out;omega)⟩
   rcases HP.out.toks with h0 | ⟨b,off,rfl,hb,hc⟩
   · rw [h0] at ht;simp at ht
   have x0:=hc i t ht 0 (by omega);have x2:=hc i t ht 2 (by omega);simp only [tokV,Nat.add_zero] at x0 x2;have HR2:Hid (r=(decide (t.kind=k) && decide (t.text=bs s))):=by show _=_;rw [HR.out,ht]
   have hk0:(0:Int)≤(i:Int):=by omega
   have hk1:(i:Int)<(n:Int):=by omega
   clear ht hc hlt
   by_cases hk:t.kind=k
   · have hkb:(t.kind == k)=true:=by simpa using hk
     have HR3:Hid (r=decide (t.text=bs s)):=by show _=_;rw [HR2.out,decide_eq_true hk];rfl
     have hs:((⟨t.text.toArray⟩:ByteArray).toList == s.toList)=decide (t.text=bs s):=by rw [bs_eq_iff];rfl
     obtain ⟨T,hT⟩:∃ T:ByteArray,T=⟨t.text.toArray⟩:=⟨_,rfl⟩;rw [←hT] at x2 hs;rw [←HR3.out] at hs;clear hk hT;cases r
     all_goals
      go_enter Tryz.func177,Tryz.ntmps177;go_wp2_with fail;go_ret;exact ⟨rfl,rfl⟩
   · have hkb:(t.kind == k)=false:=by simpa using hk
     have HR3:Hid (r=false):=by show _=_;rw [HR2.out,dF hk];rfl
     clear hk;go_enter Tryz.func177,Tryz.ntmps177;go_wp2_with fail;go_ret;rw [HR3.out];exact ⟨rfl,rfl⟩
 · have HR3:Hid (r=false):=by show _=_;rw [HR.out,List.getElem?_eq_none (by have:=HN.out;omega)]
   have hk1:¬(i:Int)<(n:Int):=by omega
   have hd:decide ((i:Int)<(n:Int))=false:=dF hk1;have hd2:decide (i<n)=false:=dF hlt;clear hlt;go_enter Tryz.func177,Tryz.ntmps177;go_wp2_with fail;go_ret;rw [HR3.out];exact ⟨rfl,rfl⟩
theorem rpsign_any (A:Option Addr) (c i:Nat) (l:List Tok) (s:ByteArray) (w:World) (hP:TokIn w A c l) (hi:i≤1000000) :
 Calls Tryz.prog 137 #[.slice A l.length c,.int .i64 (i:Nat),.string s] w fun e w'=>e=.returned (.bool (isTk l i 4 (bs s)))∧w'=w:=by
 have HI:=Hd (rpis_any A c i l 4 s w hP hi);clear hP;go_enter Tryz.func137,Tryz.ntmps137;go_wp2_with fail;refine (HI.out).mono ?_;rintro e w' ⟨rfl,rfl⟩;go_wp2_with fail;go_ret;exact ⟨rfl,rfl⟩
theorem rpfail_any (i:Nat) (x:Int) (w:World):Calls Tryz.prog 176 #[.int .i64 (i:Nat),.int .i64 x] w (GQ w (.bad i x)):=by
 obtain ⟨F,HF⟩:=exh_ (GQ w (.bad i x));rw [←HF.out];go_enter Tryz.func176,Tryz.ntmps176;go_wp2_with fail;refine bR (rcG (hA_ w _)) rfl ?_;rw [HF.out];exact ⟨none,0,rfl,TmVS.leaf (zl _),(Br _ _).alloc (lr _) _⟩
theorem rptwo_any (op:Int) (t u:Tm) (A:Option Addr) (c:Nat) (A2:Option Addr) (c2 B:Nat) (w:World) (hB:B≤w.heap.size) (hV:TmVS (fun q=>B≤q) w A c t) (hV2:TmVS (fun q=>B≤q) w A2 c2 u) :
 Calls Tryz.prog 138 #[.int .i64 op,t.val A c,u.val A2 c2] w fun e w'=>∃ g,e=.returned (.agg #[.int .i64 op,.int .i64 0,.string ⟨#[]⟩,.slice (some ⟨g,0,none⟩) 2 2])∧TmVS (fun q=>B≤q) w' (some ⟨g,0,none⟩) 2 (tmOf op [t,u])∧Below w.heap.size w w':=by
 obtain ⟨n,HN⟩:=exh_ t.kids.length;obtain ⟨n2,HN2⟩:=exh_ u.kids.length;obtain ⟨F,hF⟩:∃ F:Ending→World→Prop,F=fun e w'=>∃ g,e=.returned (.agg #[.int .i64 op,.int .i64 0,.string ⟨#[]⟩,.slice (some ⟨g,0,none⟩) 2 2])∧TmVS (fun q=>B≤q) w' (some ⟨g,0,none⟩) 2 (tmOf op [t,u])∧Below w.heap.size w w':=⟨_,rfl⟩;rw [←hF];have hv:t.val A c=.agg #[.int .i64 t.op,.int .i64 t.num,.string t.name,.slice A n c]:=by unfold Tm.val;rw [HN.out]
 have hv2:u.val A2 c2=.agg #[.int .i64 u.op,.int .i64 u.num,.string u.name,.slice A2 n2 c2]:=by unfold Tm.val;rw [HN2.out]
 rw [hv,hv2];have HF:=Hd hF;have HV:=Hd hV;have HV2:=Hd hV2;clear hF hv hv2 hV hV2;go_enter Tryz.func138,Tryz.ntmps138;go_wp2_with fail;obtain ⟨w2,hw2⟩:=ex_ ((w.alloc (.cells #[.int .i64 t.op,.int .i64 t.num,.string t.name,.slice A n c] 25)).alloc (.cells #[.int .i64 u.op,.int .i64 u.num,.string u.name,.slice A2 n2 c2] 25));have hs2:w2.heap.size=w.heap.size+1+1:=by rw [hw2];simp
 have hb2:Below w.heap.size w w2:=by rw [hw2];exact ((Br _ _).alloc (lr _) _).alloc (by simp) _
 rw [←hw2,←hs2];obtain ⟨w3,hw3⟩:=ex_ (w2.alloc (.cells #[.int .i64 op,.int .i64 0,.string ⟨#[]⟩,.slice (some ⟨w2.heap.size+1,0,none⟩) 2 2] 25));have hs3:w3.heap.size=w2.heap.size+1:=by rw [hw3];simp
 have hb3:=bAl hw3;have hx3:w3.heap[w2.heap.size]?=some (.cells #[.int .i64 op,.int .i64 0,.string ⟨#[]⟩,.slice (some ⟨w2.heap.size+1,0,none⟩) 2 2] 25 (0,0)):=by rw [hw3];exact hA_ w2 _
 rw [←hw3];refine bR (rcT (aK hx3)) rfl ?_;rw [HF.out];obtain ⟨W,hW⟩:=ex_ (w3.alloc (.cells #[.int .i64 t.op,.int .i64 t.num,.string t.name,.slice A n c,.int .i64 u.op,.int .i64 u.num,.string u.name,.slice A2 n2 c2] 25));have hb4:=bAl hW
 have hrow:W.heap[w3.heap.size]?=some (.cells (flatE [⟨t,A,c⟩,⟨u,A2,c2⟩]).toArray 25 (0,0)):=by
  rw [hW,HN.out,HN2.out];exact hA_ w3 _
 rw [←hW];have hbW:Below w.heap.size w W:=(hb2.trans (hb3.mono (by omega))).trans (hb4.mono (by omega));have hgl:=lH hrow;rw [hs3] at hrow hgl;refine ⟨w2.heap.size+1,rfl,⟨lr _,by unfold maxLen;omega,zl _,.inr ⟨w2.heap.size+1,0,rfl,by omega,hgl,?_⟩⟩,hbW⟩;refine row_of_cells [⟨t,A,c⟩,⟨u,A2,c2⟩] 0 (fun k v hv=>?_) ?_
 · rw [Nat.zero_add,cR W _ k _ _ (0,0) hrow]
   simpa using hv
 · intro e he;simp only [List.mem_cons,List.not_mem_nil,or_false] at he
   rcases he with rfl | rfl
   · exact HV.out.keep (Kb hbW) (fun _ _ h=>h)
   · exact HV2.out.keep (Kb hbW) (fun _ _ h=>h)
def GFQ (w:World) (r:Rs Fm) (e:Ending) (w':World):Prop:=∃ x:FV,e=.returned (.agg #[.int .i64 x.o,.int .i64 x.tn,.int .i64 x.tm,.string x.s,.slice x.Ae x.ne x.ce,.slice x.A x.n x.c,.int .i64 (r.at_:Nat),.int .i64 r.err])∧(∀ f j,r=.ok f j→x.Is (fun q=>w.heap.size≤q) w' f)∧Below w.heap.size w w'
def FnG (l:List Tok) (d:Nat) (K:FuncId) (P:FPar):Prop:=∀ (A:Option Addr) (c i:Nat) (w:World),i≤l.length→TokIn w A c l→Calls Tryz.prog K #[.slice A l.length c,.int .i64 (i:Nat),.int .i64 (d:Nat)] w (GFQ w (P i))
def FnGB (l:List Tok) (d:Nat) (K:FuncId) (b:Bool) (P:FPar):Prop:=∀ (A:Option Addr) (c i:Nat) (w:World),i≤l.length→TokIn w A c l→Calls Tryz.prog K #[.slice A l.length c,.int .i64 (i:Nat),.int .i64 (d:Nat),.bool b] w (GFQ w (P i))
theorem cells8 {w:World} {b:Nat} {u0 u1 u2 u3 u4 u5 u6 u7:Value} {T:TypeId} (h:w.heap[b]?=some (.cells #[u0,u1,u2,u3,u4,u5,u6,u7] T (0,0))):(w.cell? ⟨b,0,none⟩=some u0∧w.frozen? ⟨b,0,none⟩=false)∧(w.cell? ⟨b,1,none⟩=some u1∧w.frozen? ⟨b,1,none⟩=false)∧(w.cell? ⟨b,2,none⟩=some u2∧w.frozen? ⟨b,2,none⟩=false)∧(w.cell? ⟨b,3,none⟩=some u3∧w.frozen? ⟨b,3,none⟩=false)∧(w.cell? ⟨b,4,none⟩=some u4∧w.frozen? ⟨b,4,none⟩=false)∧(w.cell? ⟨b,5,none⟩=some u5∧w.frozen? ⟨b,5,none⟩=false)∧(w.cell? ⟨b,6,none⟩=some u6∧w.frozen? ⟨b,6,none⟩=false)∧w.cell? ⟨b,7,none⟩=some u7∧w.frozen? ⟨b,7,none⟩=false:=
 ⟨⟨by rw [cR w b 0 _ _ (0,0) h];rfl,by simp [World.frozen?,h]⟩,⟨by rw [cR w b 1 _ _ (0,0) h];rfl,by simp [World.frozen?,h]⟩,⟨by rw [cR w b 2 _ _ (0,0) h];rfl,by simp [World.frozen?,h]⟩,⟨by rw [cR w b 3 _ _ (0,0) h];rfl,by simp [World.frozen?,h]⟩,⟨by rw [cR w b 4 _ _ (0,0) h];rfl,by simp [World.frozen?,h]⟩,⟨by rw [cR w b 5 _ _ (0,0) h];rfl,by simp [World.frozen?,h]⟩,⟨by rw [cR w b 6 _ _ (0,0) h];rfl,by simp [World.frozen?,h]⟩,by rw [cR w b 7 _ _ (0,0) h];rfl,by simp [World.frozen?,h]⟩
section
variable {W w:World} {b q:Nat} {u0 u1 u2 u3 u4 u5 u6 u7 v0 v1 v2 v3 v4 v5 v6 v7:Value} {T:TypeId}
theorem s8_at (h:W.heap[b]?=some (.cells #[u0,u1,u2,u3,u4,u5,u6,u7] T (0,0))):((((((((W.setCell ⟨b,0,none⟩ (v0)).setCell ⟨b,1,none⟩ (v1)).setCell ⟨b,2,none⟩ (v2)).setCell ⟨b,3,none⟩ (v3)).setCell ⟨b,4,none⟩ (v4)).setCell ⟨b,5,none⟩ (v5)).setCell ⟨b,6,none⟩ (v6)).setCell ⟨b,7,none⟩ (v7)).heap[b]?=some (.cells #[v0,v1,v2,v3,v4,v5,v6,v7] T (0,0)):=by
 simp [World.setCell,Array.getElem?_modify,h]
theorem s8_far (h:q≠b):((((((((W.setCell ⟨b,0,none⟩ (v0)).setCell ⟨b,1,none⟩ (v1)).setCell ⟨b,2,none⟩ (v2)).setCell ⟨b,3,none⟩ (v3)).setCell ⟨b,4,none⟩ (v4)).setCell ⟨b,5,none⟩ (v5)).setCell ⟨b,6,none⟩ (v6)).setCell ⟨b,7,none⟩ (v7)).heap[q]?=W.heap[q]?:=by
 rw [hO_ _ ⟨b,7,none⟩ q _ h,hO_ _ ⟨b,6,none⟩ q _ h,hO_ _ ⟨b,5,none⟩ q _ h,hO_ _ ⟨b,4,none⟩ q _ h,hO_ _ ⟨b,3,none⟩ q _ h,hO_ _ ⟨b,2,none⟩ q _ h,hO_ _ ⟨b,1,none⟩ q _ h,hO_ _ ⟨b,0,none⟩ q _ h]
theorem s8_keep {S:Nat→Prop} (h:KeepS S w W) (hb:¬S b):KeepS S w ((((((((W.setCell ⟨b,0,none⟩ (v0)).setCell ⟨b,1,none⟩ (v1)).setCell ⟨b,2,none⟩ (v2)).setCell ⟨b,3,none⟩ (v3)).setCell ⟨b,4,none⟩ (v4)).setCell ⟨b,5,none⟩ (v5)).setCell ⟨b,6,none⟩ (v6)).setCell ⟨b,7,none⟩ (v7)):=(((((((h.set hb _).set hb _).set hb _).set hb _).set hb _).set hb _).set hb _).set hb _
theorem s8_below (h:Below w.heap.size w W) (hb:w.heap.size≤b):Below w.heap.size w ((((((((W.setCell ⟨b,0,none⟩ (v0)).setCell ⟨b,1,none⟩ (v1)).setCell ⟨b,2,none⟩ (v2)).setCell ⟨b,3,none⟩ (v3)).setCell ⟨b,4,none⟩ (v4)).setCell ⟨b,5,none⟩ (v5)).setCell ⟨b,6,none⟩ (v6)).setCell ⟨b,7,none⟩ (v7)):=(s8_only' (Ob (F:=fun _=>False) h) hb).below (fun q h=>h.elim) (lr _)
where s8_only' {F:Nat→Prop} (h:Only F w W) (hb:w.heap.size≤b):Only F w ((((((((W.setCell ⟨b,0,none⟩ (v0)).setCell ⟨b,1,none⟩ (v1)).setCell ⟨b,2,none⟩ (v2)).setCell ⟨b,3,none⟩ (v3)).setCell ⟨b,4,none⟩ (v4)).setCell ⟨b,5,none⟩ (v5)).setCell ⟨b,6,none⟩ (v6)).setCell ⟨b,7,none⟩ (v7)):=only_setNew (only_setNew (only_setNew (only_setNew (only_setNew (only_setNew (only_setNew (only_setNew h hb _) hb _) hb _) hb _) hb _) hb _) hb _) hb _
end
theorem gfq_sets {r:Rs Fm} {w W:World} {x:FV} {v0 v1 v2 v3 v4 v5 v6 v7:Value} (hx:∀ f j,r=.ok f j→x.Is (fun q=>w.heap.size<q) W f) (hB:Below w.heap.size w W) :
 GFQ w r (.returned (.agg #[.int .i64 x.o,.int .i64 x.tn,.int .i64 x.tm,.string x.s,.slice x.Ae x.ne x.ce,.slice x.A x.n x.c,.int .i64 (r.at_:Nat),.int .i64 r.err])) ((((((((W.setCell ⟨w.heap.size,0,none⟩ (v0)).setCell ⟨w.heap.size,1,none⟩ (v1)).setCell ⟨w.heap.size,2,none⟩ (v2)).setCell ⟨w.heap.size,3,none⟩ (v3)).setCell ⟨w.heap.size,4,none⟩ (v4)).setCell ⟨w.heap.size,5,none⟩ (v5)).setCell ⟨w.heap.size,6,none⟩ (v6)).setCell ⟨w.heap.size,7,none⟩ (v7)):=
 ⟨x,rfl,fun f j h=>(hx f j h).keep (s8_keep Kr (by omega)) (fun q _ h=>Nat.le_of_lt h),s8_below hB (lr _)⟩
theorem gfq_alloc {r:Rs Fm} {w W:World} {e:Ending} (h:GFQ w r e W) (o:Obj):GFQ w r e (W.alloc o):=by
 obtain ⟨x,he,hx,hB⟩:=h;exact ⟨x,he,fun f j h=>(hx f j h).keep (KeepS.refl.alloc o) (fun _ _ h=>h),hB.alloc hB.size o⟩
theorem rfis_any (A:Option Addr) (c i:Nat) (l:List Tok) (k:Int) (s:ByteArray) (w:World) (hP:TokIn w A c l) (hi:i≤1000000) :
 Calls Tryz.prog 144 #[.slice A l.length c,.int .i64 (i:Nat),.int .i64 k,.string s] w fun e w'=>e=.returned (.bool (isTk l i k (bs s)))∧w'=w:=by
 obtain ⟨n,HN⟩:=exh_ l.length;rw [←HN.out];have hlen:=hP.len;have hcap:=hP.cap;have hcapm:=hP.capm;unfold maxLen at hcapm;rw [←HN.out] at hlen hcap;obtain ⟨r,hr⟩:=ex_ (isTk l i k (bs s));rw [←hr];unfold isTk at hr;have HR:=Hd hr;have HP:=Hd hP;clear hr hP
 by_cases hlt:i<n
 · obtain ⟨t,ht⟩:∃ t,l[i]?=some t:=⟨_,gG (by have:=HN.out;omega)⟩
   rcases HP.out.toks with h0 | ⟨b,off,rfl,hb,hc⟩
   · rw [h0] at ht;simp at ht
   have x0:=hc i t ht 0 (by omega);have x2:=hc i t ht 2 (by omega);simp only [tokV,Nat.add_zero] at x0 x2;have HR2:Hid (r=(decide (t.kind=k) && decide (t.text=bs s))):=by show _=_;rw [HR.out,ht]
   have hk0:(0:Int)≤(i:Int):=by omega
   have hk1:(i:Int)<(n:Int):=by omega
   clear ht hc hlt
   by_cases hk:t.kind=k
   · have hkb:(t.kind == k)=true:=by simpa using hk
     have HR3:Hid (r=decide (t.text=bs s)):=by show _=_;rw [HR2.out,decide_eq_true hk];rfl
     have hs:((⟨t.text.toArray⟩:ByteArray).toList == s.toList)=decide (t.text=bs s):=by rw [bs_eq_iff];rfl
     obtain ⟨T,hT⟩:∃ T:ByteArray,T=⟨t.text.toArray⟩:=⟨_,rfl⟩;rw [←hT] at x2 hs;rw [←HR3.out] at hs;clear hk hT;cases r
     all_goals
      go_enter Tryz.func144,Tryz.ntmps144;go_wp2_with fail;go_ret;exact ⟨rfl,rfl⟩
   · have hkb:(t.kind == k)=false:=by simpa using hk
     have HR3:Hid (r=false):=by show _=_;rw [HR2.out,dF hk];rfl
     clear hk;go_enter Tryz.func144,Tryz.ntmps144;go_wp2_with fail;go_ret;rw [HR3.out];exact ⟨rfl,rfl⟩
 · have HR3:Hid (r=false):=by show _=_;rw [HR.out,List.getElem?_eq_none (by have:=HN.out;omega)]
   have hk1:¬(i:Int)<(n:Int):=by omega
   have hd:decide ((i:Int)<(n:Int))=false:=dF hk1;have hd2:decide (i<n)=false:=dF hlt;clear hlt;go_enter Tryz.func144,Tryz.ntmps144;go_wp2_with fail;go_ret;rw [HR3.out];exact ⟨rfl,rfl⟩
theorem rffail_any (i:Nat) (x:Int) (w:World) (hx:-1000≤x∧x≤1000):Calls Tryz.prog 145 #[.int .i64 (i:Nat),.int .i64 x] w (GFQ w (.bad i x)):=by
 obtain ⟨F,HF⟩:=exh_ (GFQ w (.bad i x));rw [←HF.out];have hwx:IntKind.i64.wrap x=x:=IntWalk.i64_in _ (by omega);go_enter Tryz.func145,Tryz.ntmps145;go_wp2_with fail;refine bR (rcH (hA_ w _)) rfl ?_;rw [HF.out];exact ⟨FV.zero,rfl,(fun f j h=>nomatch h),(Br _ _).alloc (lr _) _⟩
theorem rftwo_any (op:Int) (x y:FV) (w:World) :
 Calls Tryz.prog 146 #[.int .i64 op,x.val,y.val] w fun e w'=>∃ g,e=.returned (.agg #[.int .i64 op,.int .i64 0,.int .i64 0,.string ⟨#[]⟩,.slice none 0 0,.slice (some ⟨g,0,none⟩) 2 2])∧w'.heap[g]?=some (.cells (x.cells++y.cells).toArray 35 (0,0))∧w.heap.size≤g∧Below w.heap.size w w':=by
 obtain ⟨F,hF⟩:∃ F:Ending→World→Prop,F=fun e w'=>∃ g,e=.returned (.agg #[.int .i64 op,.int .i64 0,.int .i64 0,.string ⟨#[]⟩,.slice none 0 0,.slice (some ⟨g,0,none⟩) 2 2])∧w'.heap[g]?=some (.cells (x.cells++y.cells).toArray 35 (0,0))∧w.heap.size≤g∧Below w.heap.size w w':=⟨_,rfl⟩;rw [←hF];have HF:=Hd hF;clear hF;unfold FV.val;go_enter Tryz.func146,Tryz.ntmps146;go_wp2_with fail;obtain ⟨w2,hw2⟩:=ex_ ((w.alloc (.cells #[.int .i64 x.o,.int .i64 x.tn,.int .i64 x.tm,.string x.s,.slice x.Ae x.ne x.ce,.slice x.A x.n x.c] 35)).alloc (.cells #[.int .i64 y.o,.int .i64 y.tn,.int .i64 y.tm,.string y.s,.slice y.Ae y.ne y.ce,.slice y.A y.n y.c] 35));have hs2:w2.heap.size=w.heap.size+1+1:=by rw [hw2];simp
 have hb2:Below w.heap.size w w2:=by rw [hw2];exact ((Br _ _).alloc (lr _) _).alloc (by simp) _
 rw [←hw2,←hs2];obtain ⟨w3,hw3⟩:=ex_ (w2.alloc (.cells #[.int .i64 op,.int .i64 0,.int .i64 0,.string ⟨#[]⟩,.slice none 0 0,.slice (some ⟨w2.heap.size+1,0,none⟩) 2 2] 35));have hs3:w3.heap.size=w2.heap.size+1:=by rw [hw3];simp
 have hb3:=bAl hw3;have hx3:w3.heap[w2.heap.size]?=some (.cells #[.int .i64 op,.int .i64 0,.int .i64 0,.string ⟨#[]⟩,.slice none 0 0,.slice (some ⟨w2.heap.size+1,0,none⟩) 2 2] 35 (0,0)):=by rw [hw3];exact hA_ w2 _
 rw [←hw3];refine bR (rcF (aK hx3)) rfl ?_;rw [HF.out];have hrow:=hA_ w3 (.cells (x.cells++y.cells).toArray 35);rw [hs3] at hrow;exact ⟨w2.heap.size+1,rfl,hrow,by omega,(hb2.trans (hb3.mono (by omega))).alloc (by omega) _⟩
end Go.Proofs.YtnbphgeepnknlaaGreatDoor
