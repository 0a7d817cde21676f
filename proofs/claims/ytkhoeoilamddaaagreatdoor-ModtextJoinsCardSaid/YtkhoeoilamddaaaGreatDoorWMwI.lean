/- The law ModtextJoins: the concatenation of two models has the declarations of the first followed by those of the second. -/
import Derived.Test.YtkhoeoilamddaaaGreatDoorWMwH
import Derived.Test.YtkhoeoilamddaaaGreatDoorWMwP
import Derived.Test.YtkhoeoilamddaaaGreatDoorWRgl
import Derived.Deep.Cut
namespace Go.Proofs.YtkhoeoilamddaaaGreatDoor
open Go.RowKit
set_option linter.unusedVariables false
set_option linter.unusedSimpArgs false
set_option maxRecDepth 100000
set_option maxHeartbeats 16000000
theorem JinfoVr:(Tryz.prog.info? 45).map (fun i=>(i.zero,i.size,i.bytes))=some (some (.agg #[.string ⟨#[]⟩,.bool false,.int .i64 0,.int .i64 0]),4,40):=by kernel_rfl
theorem JinfoDf:(Tryz.prog.info? 74).map (fun i=>(i.zero,i.size,i.bytes))=some (some (.agg #[.string ⟨#[]⟩,.int .i64 0,.int .i64 0,.string ⟨#[]⟩,.slice none 0 0]),5,72):=by kernel_rfl
theorem JinfoTmJ:(Tryz.prog.info? 64).map (fun i=>(i.zero,i.size,i.bytes))=some (some (.agg #[.int .i64 0,.int .i64 0,.string ⟨#[]⟩,.slice none 0 0]),4,56):=by kernel_rfl
theorem JinfoSpJ:(Tryz.prog.info? 69).map (fun i=>(i.zero,i.size,i.bytes))=some (some (.agg #[.string ⟨#[]⟩,.int .i64 0,.int .i64 0,.int .i64 0,.string ⟨#[]⟩,.slice none 0 0,.slice none 0 0]),7,104):=by kernel_rfl
theorem GMd.app {G H:Nat→List El} {x y:Md} (hx:GMd G x) (hy:GMd H y):GMd (fun k=>G k++H k) (x.app y):=by
 obtain ⟨x0,x1,x2,x3,x4,x5,x6,x7⟩:=hx;obtain ⟨y0,y1,y2,y3,y4,y5,y6,y7⟩:=hy;simp [GMd,Md.app, *]
theorem GMd.le {G:Nat→List El} {x:Md} (h:GMd G x) (hl:Md64 x):∀ k,k<8→(G k).length≤64:=by
 obtain ⟨x0,x1,x2,x3,x4,x5,x6,x7⟩:=h;obtain ⟨h0,h1,h2,h3,h4,h5,h6,h7⟩:=hl;intro k hk;have h8:k=0∨k=1∨k=2∨k=3∨k=4∨k=5∨k=6∨k=7:=by omega
 rcases h8 with rfl | rfl | rfl | rfl | rfl | rfl | rfl | rfl <;> simp [*]
def sA:Value→Option Addr
 | .slice a _ _=>a
 | _=>none
def sC:Value→Nat
 | .slice _ _ c=>c
 | _=>0
def NF (G H:Nat→List El) (m k:Nat):Nat:=if k<m then (G k).length+(H k).length else (G k).length
def YF (X Y:Nat→List (List Value)) (m k:Nat):List Value:=if k<m then (X k).flatten++(Y k).flatten else (X k).flatten
def JR (W0:World) (B b:Nat) (V:Nat→Value) (X Y:Nat→List (List Value)) (G H:Nat→List El) (m:Nat) (W:World):Prop:=
 ∃ (D:Nat→Option Addr) (d:Nat→Nat),JS W0 B b W0.heap.size V (fun k=>.slice (D k) (NF G H m k) (d k)) (YF X Y m) (NF G H m) W ∧
  W.heap[b]?=some (.cells #[.slice (D 0) (NF G H m 0) (d 0),.slice (D 1) (NF G H m 1) (d 1),.slice (D 2) (NF G H m 2) (d 2),.slice (D 3) (NF G H m 3) (d 3),.slice (D 4) (NF G H m 4) (d 4),.slice (D 5) (NF G H m 5) (d 5),.slice (D 6) (NF G H m 6) (d 6),.slice (D 7) (NF G H m 7) (d 7)] 28 (0,0))
theorem JR.mk {W0 W:World} {B b m:Nat} {V U:Nat→Value} {Yc:Nat→List Value} {nc:Nat→Nat} {X Y:Nat→List (List Value)} {G H:Nat→List El} (h:JS W0 B b W0.heap.size V U Yc nc W) (hU:∀ k,k<8→(∃ a c,U k=.slice a (NF G H m k) c)∧Yc k=YF X Y m k∧nc k=NF G H m k) (hb:W.heap[b]?=some (.cells #[U 0,U 1,U 2,U 3,U 4,U 5,U 6,U 7] 28 (0,0))):JR W0 B b V X Y G H m W:=by
 have hs:∀ k,k<8→U k=.slice (sA (U k)) (NF G H m k) (sC (U k)):=fun k hk=>by
  obtain ⟨⟨a,c,e⟩,-⟩:=hU k hk;rw [e];rfl
 refine ⟨fun k=>sA (U k),fun k=>sC (U k),h.congr (fun k hk=>⟨hs k hk,(hU k hk).2⟩),?_⟩;rw [←hs 0 (by decide),←hs 1 (by decide),←hs 2 (by decide),←hs 3 (by decide),←hs 4 (by decide),←hs 5 (by decide),←hs 6 (by decide),←hs 7 (by decide)];exact hb
theorem JR.start {W0:World} {B B' R b:Nat} {V:Nat→Value} {X Y:Nat→List (List Value)} {G H:Nat→List El} (h:MAll W0 B R V X G) (hB:B'≤B) (hb:W0.heap[b]?=some (.cells #[V 0,V 1,V 2,V 3,V 4,V 5,V 6,V 7] 28 (0,0))):JR W0 B' b V X Y G H 0 W0:=
 JR.mk (JS.init h hB) (fun k hk=>⟨by obtain ⟨a,c,e,-⟩:=h.shape hk;exact ⟨a,c,by rw [e];simp [NF]⟩,by simp [YF],by simp [NF]⟩) hb
theorem modtextJoins_any (hS:ShAll exM) (a b:ByteArray) (w:World) (ha:a.size≤maxLen) (hb:b.size≤maxLen) (hT:Tables w) :
 Calls Tryz.prog 6 #[.string a,.string b] w (SmQ w):=by
 obtain ⟨F,HF⟩:=exh_ (SmQ w);rw [←HF.out];have HT:=Hd hT;have HLV:Hid (∀ W,Below w.heap.size w W→Calls Tryz.prog 7 #[] W (SmQ W)):=fun W hb=>lives34_any hS W (hT.below hb);have HB:=Hd (Br w.heap.size w);unfold maxLen at ha hb
 by_cases h1:3000<a.size
 · have h1':(3000:Int)<(a.size:Int):=by omega
   clear hT h1;go_enter Tryz.func6,Tryz.ntmps6;go_wp2_with fail;refine (HLV.out _ HB.out).mono ?_;rintro e w9 ⟨rfl,hb9⟩;have HB9:=kB HB hb9;clear hb9;go_wp2_with fail;rw [HF.out];exact ⟨rfl,HB9.out⟩
 have h1':¬(3000:Int)<(a.size:Int):=by omega
 by_cases h2:3000<b.size
 · have h2':(3000:Int)<(b.size:Int):=by omega
   clear hT h1 h2;go_enter Tryz.func6,Tryz.ntmps6;go_wp2_with fail;refine (HLV.out _ HB.out).mono ?_;rintro e w9 ⟨rfl,hb9⟩;have HB9:=kB HB hb9;clear hb9;go_wp2_with fail;rw [HF.out];exact ⟨rfl,HB9.out⟩
 have h2':¬(3000:Int)<(b.size:Int):=by omega
 obtain ⟨s1,hs1⟩:=ex_ (a++⟨#[10]⟩);obtain ⟨s3,hs3⟩:=ex_ (s1++b);have hz1:s1.size=a.size+1:=by rw [hs1,bA];rfl
 have hz3:s3.size=a.size+1+b.size:=by rw [hs3,bA,hz1]
 have hadd1:∀ W,(Op.stringOp .add a ⟨#[10]⟩).run Tryz.prog W=.ok (.string s1) W:=fun W=>by rw [hs1];exact run_string_add_sum W _ _ (by show a.size+1≤_;omega)
 have hadd3:∀ W,(Op.stringOp .add s1 b).run Tryz.prog W=.ok (.string s3) W:=fun W=>by rw [hs3];exact run_string_add_sum W _ _ (by omega)
 have hbs1:bs s1=bs a++[10]:=by rw [hs1];simp [bs]
 have hbs3:bs s3=bs a++10 :: bs b:=by rw [hs3,hs1];simp [bs]
 obtain ⟨p1,hp1⟩:=ex_ (parseM (bs s1));obtain ⟨p2,hp2⟩:=ex_ (parseM (bs b));obtain ⟨p3,hp3⟩:=ex_ (parseM (bs s3));have hP1:=fun W (h:Below w.heap.size w W)=>mparse_any s1 W (by unfold maxLen;omega) (hT.below h);have hP2:=fun W (h:Below w.heap.size w W)=>mparse_any b W (by unfold maxLen;omega) (hT.below h);have hP3:=fun W (h:Below w.heap.size w W)=>mparse_any s3 W (by unfold maxLen;omega) (hT.below h);rw [←hp1] at hP1;rw [←hp2] at hP2;rw [←hp3] at hP3;obtain ⟨mx,ax,ex⟩:=p1;obtain ⟨my,ay,fy⟩:=p2;obtain ⟨mz,az,gz⟩:=p3;rw [hbs1] at hp1;rw [hbs3] at hp3;obtain ⟨j1,j2,j3⟩:=joins_of hp1.symm hp2.symm hp3.symm (by rw [←hbs3,bs_length];omega);have J1:=Hd j1;have J2:=Hd j2;have J3:=Hd j3;have HP1:=Hd (hP1 w (Br _ _));have HP2:=Hd hP2;have HP3:=Hd hP3;clear hT hS h1 h2 hs1 hs3 hz1 hz3 hbs1 hbs3 hp1 hp2 hp3 hP1 hP2 hP3 j1 j2 j3;go_enter Tryz.func6,Tryz.ntmps6;go_wp2_with fail;refine (HP1.out).mono ?_;rintro e w1 ⟨V1,X1,G1,B1,R1,rfl,hma,hgm,hB,hBR,hbl⟩;simp only at hgm;simp only [mdVal];have M1:=Hd hma;have Q1:=Hd hgm;have L1:=Hd hB;have Z1:=Hd hbl;obtain ⟨P10,c10,e0,hc10,hm10⟩:=hma.shape (k:=0) (by decide);obtain ⟨P11,c11,e1,hc11,hm11⟩:=hma.shape (k:=1) (by decide);obtain ⟨P12,c12,e2,hc12,hm12⟩:=hma.shape (k:=2) (by decide);obtain ⟨P13,c13,e3,hc13,hm13⟩:=hma.shape (k:=3) (by decide);obtain ⟨P14,c14,e4,hc14,hm14⟩:=hma.shape (k:=4) (by decide)
 obtain ⟨P15,c15,e5,hc15,hm15⟩:=hma.shape (k:=5) (by decide);obtain ⟨P16,c16,e6,hc16,hm16⟩:=hma.shape (k:=6) (by decide);obtain ⟨P17,c17,e7,hc17,hm17⟩:=hma.shape (k:=7) (by decide);obtain ⟨n10,N10⟩:=exh_ (G1 0).length;rw [←N10.out] at e0 hc10;have E10:=Hd e0;obtain ⟨n11,N11⟩:=exh_ (G1 1).length;rw [←N11.out] at e1 hc11;have E11:=Hd e1;obtain ⟨n12,N12⟩:=exh_ (G1 2).length;rw [←N12.out] at e2 hc12;have E12:=Hd e2;obtain ⟨n13,N13⟩:=exh_ (G1 3).length;rw [←N13.out] at e3 hc13;have E13:=Hd e3;obtain ⟨n14,N14⟩:=exh_ (G1 4).length;rw [←N14.out] at e4 hc14;have E14:=Hd e4;obtain ⟨n15,N15⟩:=exh_ (G1 5).length;rw [←N15.out] at e5 hc15;have E15:=Hd e5;obtain ⟨n16,N16⟩:=exh_ (G1 6).length;rw [←N16.out] at e6 hc16;have E16:=Hd e6;obtain ⟨n17,N17⟩:=exh_ (G1 7).length;rw [←N17.out] at e7 hc17;have E17:=Hd e7;unfold maxLen at hm10 hm11 hm12 hm13 hm14 hm15 hm16 hm17;rw [e0,e1,e2,e3,e4,e5,e6,e7];obtain ⟨b1,hbq⟩:=ex_ w1.heap.size;obtain ⟨w2,hwq⟩:=ex_ (w1.alloc (.cells #[.slice P10 n10 c10,.slice P11 n11 c11,.slice P12 n12 c12,.slice P13 n13 c13,.slice P14 n14 c14,.slice P15 n15 c15,.slice P16 n16 c16,.slice P17 n17 c17] 28));have S1:=Hd (bAl hwq);have T1:=nAl hwq hbq;replace HB:=kB (kB HB hbl) S1.out;have W1:=Hd hwq;have K1:=Hd hbq;clear hma hgm hB hBR hbl hbq hwq e0 e1 e2 e3 e4 e5 e6 e7;go_wp2_with fail;rw [←W1.out]
 try rw [←K1.out]
 (try go_wp2_with fail);refine (HP2.out _ HB.out).mono ?_;rintro e w3 ⟨V2,X2,G2,B2,R2,rfl,hma,hgm,hB,hBR,hbl⟩;simp only at hgm;simp only [mdVal];have M2:=Hd hma;have Q2:=Hd hgm;have L2:=Hd hB;have Z2:=Hd hbl;obtain ⟨P20,c20,e0,hc20,hm20⟩:=hma.shape (k:=0) (by decide);obtain ⟨P21,c21,e1,hc21,hm21⟩:=hma.shape (k:=1) (by decide);obtain ⟨P22,c22,e2,hc22,hm22⟩:=hma.shape (k:=2) (by decide);obtain ⟨P23,c23,e3,hc23,hm23⟩:=hma.shape (k:=3) (by decide);obtain ⟨P24,c24,e4,hc24,hm24⟩:=hma.shape (k:=4) (by decide);obtain ⟨P25,c25,e5,hc25,hm25⟩:=hma.shape (k:=5) (by decide);obtain ⟨P26,c26,e6,hc26,hm26⟩:=hma.shape (k:=6) (by decide);obtain ⟨P27,c27,e7,hc27,hm27⟩:=hma.shape (k:=7) (by decide);obtain ⟨n20,N20⟩:=exh_ (G2 0).length;rw [←N20.out] at e0 hc20;have E20:=Hd e0;obtain ⟨n21,N21⟩:=exh_ (G2 1).length;rw [←N21.out] at e1 hc21;have E21:=Hd e1;obtain ⟨n22,N22⟩:=exh_ (G2 2).length;rw [←N22.out] at e2 hc22;have E22:=Hd e2;obtain ⟨n23,N23⟩:=exh_ (G2 3).length;rw [←N23.out] at e3 hc23;have E23:=Hd e3;obtain ⟨n24,N24⟩:=exh_ (G2 4).length;rw [←N24.out] at e4 hc24;have E24:=Hd e4;obtain ⟨n25,N25⟩:=exh_ (G2 5).length;rw [←N25.out] at e5 hc25;have E25:=Hd e5;obtain ⟨n26,N26⟩:=exh_ (G2 6).length;rw [←N26.out] at e6 hc26;have E26:=Hd e6;obtain ⟨n27,N27⟩:=exh_ (G2 7).length;rw [←N27.out] at e7 hc27;have E27:=Hd e7
 unfold maxLen at hm20 hm21 hm22 hm23 hm24 hm25 hm26 hm27;rw [e0,e1,e2,e3,e4,e5,e6,e7];obtain ⟨b2,hbq⟩:=ex_ w3.heap.size;obtain ⟨w4,hwq⟩:=ex_ (w3.alloc (.cells #[.slice P20 n20 c20,.slice P21 n21 c21,.slice P22 n22 c22,.slice P23 n23 c23,.slice P24 n24 c24,.slice P25 n25 c25,.slice P26 n26 c26,.slice P27 n27 c27] 28));have S2:=Hd (bAl hwq);have T2:=nAl hwq hbq;replace HB:=kB (kB HB hbl) S2.out;have W2:=Hd hwq;have K2:=Hd hbq;clear hma hgm hB hBR hbl hbq hwq e0 e1 e2 e3 e4 e5 e6 e7;go_wp2_with fail;rw [←W2.out]
 try rw [←K2.out]
 (try go_wp2_with fail);refine (HP3.out _ HB.out).mono ?_;rintro e w5 ⟨V3,X3,G3,B3,R3,rfl,hma,hgm,hB,hBR,hbl⟩;simp only at hgm;simp only [mdVal];have M3:=Hd hma;have Q3:=Hd hgm;have L3:=Hd hB;have Z3:=Hd hbl;obtain ⟨P30,c30,e0,hc30,hm30⟩:=hma.shape (k:=0) (by decide);obtain ⟨P31,c31,e1,hc31,hm31⟩:=hma.shape (k:=1) (by decide);obtain ⟨P32,c32,e2,hc32,hm32⟩:=hma.shape (k:=2) (by decide);obtain ⟨P33,c33,e3,hc33,hm33⟩:=hma.shape (k:=3) (by decide);obtain ⟨P34,c34,e4,hc34,hm34⟩:=hma.shape (k:=4) (by decide);obtain ⟨P35,c35,e5,hc35,hm35⟩:=hma.shape (k:=5) (by decide);obtain ⟨P36,c36,e6,hc36,hm36⟩:=hma.shape (k:=6) (by decide);obtain ⟨P37,c37,e7,hc37,hm37⟩:=hma.shape (k:=7) (by decide);obtain ⟨n30,N30⟩:=exh_ (G3 0).length;rw [←N30.out] at e0 hc30;have E30:=Hd e0;obtain ⟨n31,N31⟩:=exh_ (G3 1).length;rw [←N31.out] at e1 hc31;have E31:=Hd e1;obtain ⟨n32,N32⟩:=exh_ (G3 2).length;rw [←N32.out] at e2 hc32;have E32:=Hd e2;obtain ⟨n33,N33⟩:=exh_ (G3 3).length;rw [←N33.out] at e3 hc33;have E33:=Hd e3;obtain ⟨n34,N34⟩:=exh_ (G3 4).length;rw [←N34.out] at e4 hc34;have E34:=Hd e4;obtain ⟨n35,N35⟩:=exh_ (G3 5).length;rw [←N35.out] at e5 hc35;have E35:=Hd e5;obtain ⟨n36,N36⟩:=exh_ (G3 6).length;rw [←N36.out] at e6 hc36;have E36:=Hd e6;obtain ⟨n37,N37⟩:=exh_ (G3 7).length;rw [←N37.out] at e7 hc37;have E37:=Hd e7
 unfold maxLen at hm30 hm31 hm32 hm33 hm34 hm35 hm36 hm37;rw [e0,e1,e2,e3,e4,e5,e6,e7];obtain ⟨b3,K3⟩:=exh_ w5.heap.size;obtain ⟨w6,W3⟩:=exh_ (w5.alloc (.cells #[.slice P30 n30 c30,.slice P31 n31 c31,.slice P32 n32 c32,.slice P33 n33 c33,.slice P34 n34 c34,.slice P35 n35 c35,.slice P36 n36 c36,.slice P37 n37 c37] 28));have S3:=Hd (bAl W3.out);have T3:=nAl W3.out K3.out;replace HB:=kB (kB HB hbl) S3.out;clear hma hgm hB hBR hbl e0 e1 e2 e3 e4 e5 e6 e7;have H2:Hid (Below w2.heap.size w2 w6):=(Z2.out.trans (S2.out.mono Z2.out.size)).trans ((Z3.out.trans (S3.out.mono Z3.out.size)).mono (Nat.le_trans Z2.out.size S2.out.size));have H4:Hid (Below w4.heap.size w4 w6):=Z3.out.trans (S3.out.mono Z3.out.size);have Y1:=kX H2.out T1;have Y2:=kX H4.out T2;have H25:Hid (Below w2.heap.size w2 w5):=(Z2.out.trans (S2.out.mono Z2.out.size)).trans (Z3.out.mono (Nat.le_trans Z2.out.size S2.out.size));have U1:=kX H25.out T1;have U2:=kX Z3.out T2;have lk1:=lH U1.out;have lk2:=lH U2.out;obtain ⟨u0,u1,u2,u3,u4,u5,u6,u7,-⟩:=q8 U1.out;obtain ⟨v0,v1,v2,v3,v4,v5,v6,v7,-⟩:=q8 U2.out
 by_cases hx:ex=0
 · subst hx
   by_cases hf:fy=0
   · subst hf
     by_cases hg:gz=0
     · subst hg;obtain ⟨hz,h641,h642⟩:=J3.out rfl rfl rfl;have HZ:=Hd hz;have LE1:=Hd (Q1.out.le h641);have LE2:=Hd (Q2.out.le h642)
       have hs0:IntKind.i64.wrap ((n10:Int)+(n20:Int))=(n30:Int):=by
        have h1:=Q1.out.1;have h2:=Q2.out.1;have h3:=Q3.out.1;rw [hz] at h3;have e:n30=n10+n20:=by rw [N30.out,N10.out,N20.out,h1,h2,h3];simp [Md.app]
        rw [IntWalk.i64_in _ (by omega),e];omega
       have hs7:IntKind.i64.wrap ((n17:Int)+(n27:Int))=(n37:Int):=by
        have h1:=Q1.out.2.2.2.2.2.2.2;have h2:=Q2.out.2.2.2.2.2.2.2;have h3:=Q3.out.2.2.2.2.2.2.2;rw [hz] at h3;have e:n37=n17+n27:=by rw [N37.out,N17.out,N27.out,h1,h2,h3];simp [Md.app]
        rw [IntWalk.i64_in _ (by omega),e];omega
       clear hz h641 h642 J1 J2 J3;go_wp2_with fail;rw [←W3.out]
       try rw [←K3.out]
       (try go_wp2_with fail);have HA1:Hid (Below w1.heap.size w1 w6):=S1.out.trans (H2.out.mono S1.out.size);have HA3:Hid (Below w3.heap.size w3 w6):=S2.out.trans (H4.out.mono S2.out.size);have hM1:MAll w6 B1 R1 V1 X1 G1:=M1.out.move (fun q _ hq _=>HA1.out.block q hq) HA1.out.size;have hB0:w.heap.size≤B1:=L1.out;have hy0:w6.heap[b1]?=some (.cells #[V1 0,V1 1,V1 2,V1 3,V1 4,V1 5,V1 6,V1 7] 28 (0,0)):=by rw [E10.out,E11.out,E12.out,E13.out,E14.out,E15.out,E16.out,E17.out];exact Y1.out
       have hjr:JR w6 w.heap.size b1 V1 X1 X2 G1 G2 0 w6:=JR.start hM1 hB0 hy0;have HJR:=Hd hjr;have HBV:Hid (∀ k,k<8→∀ q,b1≤q→(V1 k).ownBlock≠some q):=fun k hk q hq e=>by have:=(M1.out.lt k hk q e).2.1;have:=K1.out;omega
       have HBH:Hid (b1<w6.heap.size):=lH Y1.out;have h12:b1<w2.heap.size:=lH T1.out;have h23:w2.heap.size≤w3.heap.size:=Z2.out.size;have HB12:Hid (b1<b2):=by have:=K2.out;show _<_;omega
       have HWB:Hid (w.heap.size≤b1):=by have:=Z1.out.size;have:=K1.out;show _≤_;omega
       have HH:Hid (w.heap.size≤w6.heap.size):=HB.out.size;have HK2:Hid (∀ U Y nn W,JS w6 w.heap.size b1 w6.heap.size V1 U Y nn W→W.heap[b2]?=some (.cells #[.slice P20 n20 c20,.slice P21 n21 c21,.slice P22 n22 c22,.slice P23 n23 c23,.slice P24 n24 c24,.slice P25 n25 c25,.slice P26 n26 c26,.slice P27 n27 c27] 28 (0,0))):=fun U Y nn W h=>(h.keep b2 (lH Y2.out) (fun k hk=>HBV.out k hk b2 (Nat.le_of_lt HB12.out)) (by have:=HB12.out;omega)).trans Y2.out;have HKQ:Hid (∀ U Y nn W,JS w6 w.heap.size b1 w6.heap.size V1 U Y nn W→∀ q,b1<q→q<w6.heap.size→W.heap[q]?=w6.heap[q]?):=fun U Y nn W h q h1 h2=>h.keep q h2 (fun k hk=>HBV.out k hk q (Nat.le_of_lt h1)) (by omega);have HBB2:Hid (b1<B2):=by have:=L2.out;show _<_;omega
       have HS36:Hid (w3.heap.size≤w6.heap.size):=HA3.out.size
       have HNW:Hid (∀ k,k<8→∀ U Y nn W,JS w6 w.heap.size b1 w6.heap.size V1 U Y nn W→(∃ c,V2 k=.slice none 0 c∧(G2 k).length=0)∨∃ a c,V2 k=.slice (some a) (G2 k).length c∧∀ j u,(X2 k).flatten[j]?=some u→W.cell? (a.add j)=some u):=fun k hk U Y nn W h=>by
        have ho:=M2.out.own k hk trivial
        have ho2:W.ownsRow B2 (mT k) (mS k) (V2 k) (G2 k).length (X2 k).flatten:=own_at ho (fun q hq=>by
         have hq2:=M2.out.lt k hk q hq;rw [HKQ.out U Y nn W h q (by have:=HBB2.out;omega) (lL hq2.2.1 HS36.out)]
         exact HA3.out.block q hq2.2.1)
        rcases ho2.2 with ⟨h3,h4⟩ | ⟨g,cap,cur,h3,-⟩
        · exact .inl ⟨0,h3,h4⟩
        · rw [h3] at ho2;exact .inr ⟨⟨g,0,none⟩,cap,h3,ho2.cells (g:=g) rfl⟩
       have HO2:Hid (∀ k,k<8→(X2 k).flatten.length=(G2 k).length*mS k):=fun k hk=>(M2.out.own k hk trivial).1;have HON:Hid (∀ k,k<8→∀ u∈(X2 k).flatten,u.oneCell'=true):=fun k hk=>(M2.out.vals k hk).one;clear hM1 hB0 hy0 hjr h12 h23 u0 u1 u2 u3 u4 u5 u6 u7 v0 v1 v2 v3 v4 v5 v6 v7 lk1 lk2 hs0 hs7 U1 U2 H25
       go_cut [] from 14 (fun wc=>JR w6 w.heap.size b1 V1 X1 X2 G1 G2 3 wc)
       case first=>
        obtain ⟨D,d,hJ,hX⟩:=HJR.out;obtain ⟨nn,hnn⟩:=ex_ (NF G1 G2 0);obtain ⟨Y,hY⟩:=ex_ (YF X1 X2 0);rw [←hnn,←hY] at hJ;rw [←hnn] at hX
        have HU:Hid (∀ (a0 a1 a2:Option Addr) (cc0 cc1 cc2:Nat) (k:Nat),k<8→(∃ a c,(upd (upd (upd (fun k=>Value.slice (D k) (nn k) (d k)) 0 (.slice a0 (nn 0+n20) cc0)) 1 (.slice a1 (nn 1+n21) cc1)) 2 (.slice a2 (nn 2+n22) cc2)) k=.slice a (NF G1 G2 3 k) c)∧(upd (upd (upd Y 0 (Y 0++(X2 0).flatten)) 1 (Y 1++(X2 1).flatten)) 2 (Y 2++(X2 2).flatten)) k=YF X1 X2 3 k∧(upd (upd (upd nn 0 (nn 0+n20)) 1 (nn 1+n21)) 2 (nn 2+n22)) k=NF G1 G2 3 k):=fun a0 a1 a2 cc0 cc1 cc2 k hk=>by
         rw [hnn,hY,N20.out,N21.out,N22.out];have h8:k=0∨k=1∨k=2∨k=3∨k=4∨k=5∨k=6∨k=7:=by omega
         rcases h8 with rfl | rfl | rfl | rfl | rfl | rfl | rfl | rfl <;> simp [upd,NF,YF]
        have HLE:Hid (∀ k,0≤k→k<8→nn k≤64):=fun k h1 h2=>by rw [hnn];unfold NF;rw [iN (by omega)];exact LE1.out k h2
        clear hnn hY;have HJ0:=Hd hJ;have HX0:=Hd hX;clear hJ hX HJR;obtain ⟨iD,hiD,hzD0,hzD1,hzD2⟩:=info_parts JinfoDf;obtain ⟨iT,hiT,hzT0,hzT1,hzT2⟩:=info_parts JinfoTmJ;obtain ⟨iV,hiV,hzV0,hzV1,hzV2⟩:=info_parts JinfoVr;refine wp_region_G_drew (S0:=fun W=>W.heap[b2]?=some (.cells #[.slice P20 n20 c20,.slice P21 n21 c21,.slice P22 n22 c22,.slice P23 n23 c23,.slice P24 n24 c24,.slice P25 n25 c25,.slice P26 n26 c26,.slice P27 n27 c27] 28 (0,0))) (D:=fun W=>W.heap[b1]?=some (.cells #[.slice (D 0) (nn 0) (d 0),.slice (D 1) (nn 1) (d 1),.slice (D 2) (nn 2) (d 2),.slice (D 3) (nn 3) (d 3),.slice (D 4) (nn 4) (d 4),.slice (D 5) (nn 5) (d 5),.slice (D 6) (nn 6) (d 6),.slice (D 7) (nn 7) (d 7)] 28 (0,0))) (st:=16) (by kernel_rfl) ⟨HK2.out _ _ _ _ HJ0.out.drew,fun _=>HX0.out⟩ (fun hHeld=>?_);obtain ⟨Wc,hWc⟩:=ex_ w6.drew;have HJ:Hid (JS w6 w.heap.size b1 w6.heap.size V1 (fun k=>Value.slice (D k) (nn k) (d k)) Y nn Wc):=by show JS _ _ _ _ _ _ _ _ _;rw [hWc];exact HJ0.out.drew
        have HX:Hid (Wc.heap[b1]?=some (.cells #[.slice (D 0) (nn 0) (d 0),.slice (D 1) (nn 1) (d 1),.slice (D 2) (nn 2) (d 2),.slice (D 3) (nn 3) (d 3),.slice (D 4) (nn 4) (d 4),.slice (D 5) (nn 5) (d 5),.slice (D 6) (nn 6) (d 6),.slice (D 7) (nn 7) (d 7)] 28 (0,0))):=by show _=_;rw [hWc];exact HX0.out
        rw [←hWc] at hHeld ⊢;clear hWc HJ0 HX0
        repeat
         first
          | (first | refine tkG false 0 (v:=?_) rfl ?hy (fun hNew=>?_) | refine tkG false 2 (v:=?_) rfl ?hy (fun hNew=>?_) | refine tkG false 3 (v:=?_) rfl ?hy (fun hNew=>?_) | refine tkG false 5 (v:=?_) rfl ?hy (fun hNew=>?_) | refine tkG false 7 (v:=?_) rfl ?hy (fun hNew=>?_) | refine tkG false 8 (v:=?_) rfl ?hy (fun hNew=>?_) | refine tkG false 10 (v:=?_) rfl ?hy (fun hNew=>?_) | refine tkG false 12 (v:=?_) rfl ?hy (fun hNew=>?_) | refine tkG false 13 (v:=?_) rfl ?hy (fun hNew=>?_) | refine tkG false 15 (v:=?_) rfl ?hy (fun hNew=>?_) | refine tkG false 17 (v:=?_) rfl ?hy (fun hNew=>?_) | refine tkG false 19 (v:=?_) rfl ?hy (fun hNew=>?_)
             case hy=>
              intro w0 hS hD;clear hD;obtain ⟨v0,v1,v2,v3,v4,v5,v6,v7,-⟩:=q8 hS;have lk2:=lH hS;clear hS;go_simp
              (first | done | with_reducible rfl)
             clear hHeld;have hHeld:=hNew;clear hNew
             try simp only [Act.put,sAr,sZe,sSu])
          | (first | refine tkG true 1 (v:=?_) rfl ?hy (fun hNew=>?_) | refine tkG true 6 (v:=?_) rfl ?hy (fun hNew=>?_) | refine tkG true 11 (v:=?_) rfl ?hy (fun hNew=>?_)
             case hy=>
              intro w0 hS hD;have hD:=hD rfl;obtain ⟨v0,v1,v2,v3,v4,v5,v6,v7,-⟩:=q8 hD;have lk2:=lH hD;clear hS hD;go_simp
              (first | done | with_reducible rfl)
             clear hHeld;have hHeld:=hNew;clear hNew
             try simp only [Act.put,sAr,sZe,sSu])
        iterate 6
         all_goals first
          | refine wpAnyG_ready (rs:=[4]) (by decide +kernel) (by simp) (AllReadyG.cons rfl (fun K hK=>?_) AllReadyG.nil)
          | refine wpAnyG_ready (rs:=[9]) (by decide +kernel) (by simp) (AllReadyG.cons rfl (fun K hK=>?_) AllReadyG.nil)
          | refine wpAnyG_ready (rs:=[14]) (by decide +kernel) (by simp) (AllReadyG.cons rfl (fun K hK=>?_) AllReadyG.nil)
          | refine wpAnyG_ready (rs:=[16]) (by decide +kernel) (by simp) (AllReadyG.cons rfl (fun K hK=>?_) AllReadyG.nil)
          | refine wpAnyG_ready (rs:=[18]) (by decide +kernel) (by simp) (AllReadyG.cons rfl (fun K hK=>?_) AllReadyG.nil)
          | refine wpAnyG_ready (rs:=[20]) (by decide +kernel) (by simp) (AllReadyG.cons rfl (fun K hK=>?_) AllReadyG.nil)
          | fail
         all_goals first
          | (have hx0:=HNW.out 0 (by decide) _ _ _ _ HJ.out
             rw [E20.out,←N20.out] at hx0;refine step_append_two _ (by rfl) _ _ _ (by rfl) w.heap.size 45 iV (.agg #[.string ⟨#[]⟩,.bool false,.int .i64 0,.int .i64 0]) 4 40 Tryz.underlying23 hiV hzV0 hzV1 hzV2 rfl (by decide) (.slice (D 0) (nn 0) (d 0)) (nn 0) (Y 0) (by rfl) (HJ.out.own 0 (by decide)) (.slice P20 n20 c20) n20 (X2 0).flatten (by rfl) (by rw [HO2.out 0 (by decide),←N20.out];rfl) hx0 (HON.out 0 (by decide)) (by have h1:=HLE.out 0 (by decide) (by decide);have h2:=LE2.out 0 (by decide);rw [←N20.out] at h2;unfold maxLen;omega) (by have h1:=HLE.out 0 (by decide) (by decide);have h2:=LE2.out 0 (by decide);rw [←N20.out] at h2;omega) (Nat.le_trans HH.out HJ.out.size) ?_;intro a0 cc0 We hown7 hg7 hat7;have hxW:=(HJ.out.boxed (k:=0) (by decide) hg7 (fun k hk=>HBV.out k hk b1 (lr _)) HBH.out).trans HX.out;have hjW:=HJ.out.append (k:=0) (by decide) hown7 hg7 hat7 HH.out;clear hx0 hHeld HJ HX hown7 hg7 hat7;have HJ:=Hd hjW;have HX:=Hd hxW;refine hK.out _ We ⟨(HK2.out _ _ _ _ HJ.out),fun _=>HX.out⟩ (fun hHeld=>?_);clear hK K hjW hxW;(try simp only [Act.put,sAr,sZe,sSu]);clear Wc
             rename World=>Wc)
          | (have hx1:=HNW.out 1 (by decide) _ _ _ _ HJ.out
             rw [E21.out,←N21.out] at hx1;refine step_append_two _ (by rfl) _ _ _ (by rfl) w.heap.size 74 iD (.agg #[.string ⟨#[]⟩,.int .i64 0,.int .i64 0,.string ⟨#[]⟩,.slice none 0 0]) 5 72 Tryz.underlying24 hiD hzD0 hzD1 hzD2 rfl (by decide) (.slice (D 1) (nn 1) (d 1)) (nn 1) (Y 1) (by rfl) (HJ.out.own 1 (by decide)) (.slice P21 n21 c21) n21 (X2 1).flatten (by rfl) (by rw [HO2.out 1 (by decide),←N21.out];rfl) hx1 (HON.out 1 (by decide)) (by have h1:=HLE.out 1 (by decide) (by decide);have h2:=LE2.out 1 (by decide);rw [←N21.out] at h2;unfold maxLen;omega) (by have h1:=HLE.out 1 (by decide) (by decide);have h2:=LE2.out 1 (by decide);rw [←N21.out] at h2;omega) (Nat.le_trans HH.out HJ.out.size) ?_;intro a1 cc1 We hown7 hg7 hat7;have hxW:=(HJ.out.boxed (k:=1) (by decide) hg7 (fun k hk=>HBV.out k hk b1 (lr _)) HBH.out).trans HX.out;have hjW:=HJ.out.append (k:=1) (by decide) hown7 hg7 hat7 HH.out;clear hx1 hHeld HJ HX hown7 hg7 hat7;have HJ:=Hd hjW;have HX:=Hd hxW;refine hK.out _ We ⟨(HK2.out _ _ _ _ HJ.out),fun _=>HX.out⟩ (fun hHeld=>?_);clear hK K hjW hxW;(try simp only [Act.put,sAr,sZe,sSu]);clear Wc
             rename World=>Wc)
          | (have hx2:=HNW.out 2 (by decide) _ _ _ _ HJ.out
             rw [E22.out,←N22.out] at hx2;refine step_append_two _ (by rfl) _ _ _ (by rfl) w.heap.size 64 iT (.agg #[.int .i64 0,.int .i64 0,.string ⟨#[]⟩,.slice none 0 0]) 4 56 Tryz.underlying25 hiT hzT0 hzT1 hzT2 rfl (by decide) (.slice (D 2) (nn 2) (d 2)) (nn 2) (Y 2) (by rfl) (HJ.out.own 2 (by decide)) (.slice P22 n22 c22) n22 (X2 2).flatten (by rfl) (by rw [HO2.out 2 (by decide),←N22.out];rfl) hx2 (HON.out 2 (by decide)) (by have h1:=HLE.out 2 (by decide) (by decide);have h2:=LE2.out 2 (by decide);rw [←N22.out] at h2;unfold maxLen;omega) (by have h1:=HLE.out 2 (by decide) (by decide);have h2:=LE2.out 2 (by decide);rw [←N22.out] at h2;omega) (Nat.le_trans HH.out HJ.out.size) ?_;intro a2 cc2 We hown7 hg7 hat7;have hxW:=(HJ.out.boxed (k:=2) (by decide) hg7 (fun k hk=>HBV.out k hk b1 (lr _)) HBH.out).trans HX.out;have hjW:=HJ.out.append (k:=2) (by decide) hown7 hg7 hat7 HH.out;clear hx2 hHeld HJ HX hown7 hg7 hat7;have HJ:=Hd hjW;have HX:=Hd hxW;refine hK.out _ We ⟨(HK2.out _ _ _ _ HJ.out),fun _=>HX.out⟩ (fun hHeld=>?_);clear hK K hjW hxW;(try simp only [Act.put,sAr,sZe,sSu]);clear Wc
             rename World=>Wc)
          | (refine isSt ?_
             obtain ⟨u0,u1,u2,u3,u4,u5,u6,u7,uf⟩:=q8 HX.out;have lk1:=lH HX.out;go_simp;clear u0 u1 u2 u3 u4 u5 u6 u7 uf lk1 hHeld;have hjW:=HJ.out.box 0 (.slice a0 (nn 0+n20) cc0) HWB.out (fun k hk=>HBV.out k hk b1 (lr _)) HBH.out;have hxW:(Wc.setCell ⟨b1,0,none⟩ (.slice a0 (nn 0+n20) cc0)).heap[b1]?=some (.cells #[.slice a0 (nn 0+n20) cc0,.slice (D 1) (nn 1) (d 1),.slice (D 2) (nn 2) (d 2),.slice (D 3) (nn 3) (d 3),.slice (D 4) (nn 4) (d 4),.slice (D 5) (nn 5) (d 5),.slice (D 6) (nn 6) (d 6),.slice (D 7) (nn 7) (d 7)] 28 (0,0)):=by simp [World.setCell,Array.getElem?_modify,HX.out]
             refine hK.out _ (Wc.setCell ⟨b1,0,none⟩ (.slice a0 (nn 0+n20) cc0)) ⟨HK2.out _ _ _ _ hjW,fun h=>absurd h (by decide +kernel)⟩ (fun hHeld=>?_);clear hK K;(try simp only [Act.put,sAr,sZe,sSu]);obtain ⟨We,hWe⟩:=ex_ (Wc.setCell ⟨b1,0,none⟩ (.slice a0 (nn 0+n20) cc0));rw [←hWe] at hjW hxW hHeld ⊢;clear hWe HJ HX;have HJ:=Hd hjW;have HX:=Hd hxW;clear hjW hxW Wc
             rename World=>Wc)
          | (refine isSt ?_
             obtain ⟨u0,u1,u2,u3,u4,u5,u6,u7,uf⟩:=q8 HX.out;have lk1:=lH HX.out;go_simp;clear u0 u1 u2 u3 u4 u5 u6 u7 uf lk1 hHeld;have hjW:=HJ.out.box 1 (.slice a1 (nn 1+n21) cc1) HWB.out (fun k hk=>HBV.out k hk b1 (lr _)) HBH.out;have hxW:(Wc.setCell ⟨b1,1,none⟩ (.slice a1 (nn 1+n21) cc1)).heap[b1]?=some (.cells #[.slice a0 (nn 0+n20) cc0,.slice a1 (nn 1+n21) cc1,.slice (D 2) (nn 2) (d 2),.slice (D 3) (nn 3) (d 3),.slice (D 4) (nn 4) (d 4),.slice (D 5) (nn 5) (d 5),.slice (D 6) (nn 6) (d 6),.slice (D 7) (nn 7) (d 7)] 28 (0,0)):=by simp [World.setCell,Array.getElem?_modify,HX.out]
             refine hK.out _ (Wc.setCell ⟨b1,1,none⟩ (.slice a1 (nn 1+n21) cc1)) ⟨HK2.out _ _ _ _ hjW,fun h=>absurd h (by decide +kernel)⟩ (fun hHeld=>?_);clear hK K;(try simp only [Act.put,sAr,sZe,sSu]);obtain ⟨We,hWe⟩:=ex_ (Wc.setCell ⟨b1,1,none⟩ (.slice a1 (nn 1+n21) cc1));rw [←hWe] at hjW hxW hHeld ⊢;clear hWe HJ HX;have HJ:=Hd hjW;have HX:=Hd hxW;clear hjW hxW Wc
             rename World=>Wc)
          | (refine isSt ?_
             obtain ⟨u0,u1,u2,u3,u4,u5,u6,u7,uf⟩:=q8 HX.out;have lk1:=lH HX.out;go_simp;clear u0 u1 u2 u3 u4 u5 u6 u7 uf lk1 hHeld;have hjW:=HJ.out.box 2 (.slice a2 (nn 2+n22) cc2) HWB.out (fun k hk=>HBV.out k hk b1 (lr _)) HBH.out;have hxW:(Wc.setCell ⟨b1,2,none⟩ (.slice a2 (nn 2+n22) cc2)).heap[b1]?=some (.cells #[.slice a0 (nn 0+n20) cc0,.slice a1 (nn 1+n21) cc1,.slice a2 (nn 2+n22) cc2,.slice (D 3) (nn 3) (d 3),.slice (D 4) (nn 4) (d 4),.slice (D 5) (nn 5) (d 5),.slice (D 6) (nn 6) (d 6),.slice (D 7) (nn 7) (d 7)] 28 (0,0)):=by simp [World.setCell,Array.getElem?_modify,HX.out]
             refine hK.out _ (Wc.setCell ⟨b1,2,none⟩ (.slice a2 (nn 2+n22) cc2)) ⟨HK2.out _ _ _ _ hjW,fun h=>absurd h (by decide +kernel)⟩ (fun hHeld=>?_);clear hK K;(try simp only [Act.put,sAr,sZe,sSu]);obtain ⟨We,hWe⟩:=ex_ (Wc.setCell ⟨b1,2,none⟩ (.slice a2 (nn 2+n22) cc2));rw [←hWe] at hjW hxW hHeld ⊢;clear hWe HJ HX;have HJ:=Hd hjW;have HX:=Hd hxW;clear hjW hxW Wc
             rename World=>Wc)
          | fail
         all_goals
          repeat
           first
            | (first | refine tkG false 0 (v:=?_) rfl ?hy (fun hNew=>?_) | refine tkG false 2 (v:=?_) rfl ?hy (fun hNew=>?_) | refine tkG false 3 (v:=?_) rfl ?hy (fun hNew=>?_) | refine tkG false 5 (v:=?_) rfl ?hy (fun hNew=>?_) | refine tkG false 7 (v:=?_) rfl ?hy (fun hNew=>?_) | refine tkG false 8 (v:=?_) rfl ?hy (fun hNew=>?_) | refine tkG false 10 (v:=?_) rfl ?hy (fun hNew=>?_) | refine tkG false 12 (v:=?_) rfl ?hy (fun hNew=>?_) | refine tkG false 13 (v:=?_) rfl ?hy (fun hNew=>?_) | refine tkG false 15 (v:=?_) rfl ?hy (fun hNew=>?_) | refine tkG false 17 (v:=?_) rfl ?hy (fun hNew=>?_) | refine tkG false 19 (v:=?_) rfl ?hy (fun hNew=>?_)
               case hy=>
                intro w0 hS hD;clear hD;obtain ⟨v0,v1,v2,v3,v4,v5,v6,v7,-⟩:=q8 hS;have lk2:=lH hS;clear hS;go_simp
                (first | done | with_reducible rfl)
               clear hHeld;have hHeld:=hNew;clear hNew
               try simp only [Act.put,sAr,sZe,sSu])
            | (first | refine tkG true 1 (v:=?_) rfl ?hy (fun hNew=>?_) | refine tkG true 6 (v:=?_) rfl ?hy (fun hNew=>?_) | refine tkG true 11 (v:=?_) rfl ?hy (fun hNew=>?_)
               case hy=>
                intro w0 hS hD;have hD:=hD rfl;obtain ⟨v0,v1,v2,v3,v4,v5,v6,v7,-⟩:=q8 hD;have lk2:=lH hD;clear hS hD;go_simp
                (first | done | with_reducible rfl)
               clear hHeld;have hHeld:=hNew;clear hNew
               try simp only [Act.put,sAr,sZe,sSu])
        all_goals refine wpAnyG_done (by decide +kernel) ?_ _
        all_goals
         clear hHeld;go_wp2_with fail
         go_meet
         case rel=>exact JR.mk HJ.out (HU.out a0 a1 a2 cc0 cc1 cc2) HX.out
       case rest=>
        clear HJR;have HJR:=Hd hcut;rename World=>wk0;clear hcut;go_wp2_with fail
        go_cut [] from 14 (fun wc=>JR w6 w.heap.size b1 V1 X1 X2 G1 G2 6 wc)
        case first=>
         obtain ⟨D,d,hJ,hX⟩:=HJR.out;obtain ⟨nn,hnn⟩:=ex_ (NF G1 G2 3);obtain ⟨Y,hY⟩:=ex_ (YF X1 X2 3);rw [←hnn,←hY] at hJ;rw [←hnn] at hX
         have HU:Hid (∀ (a3 a4 a5:Option Addr) (cc3 cc4 cc5:Nat) (k:Nat),k<8→(∃ a c,(upd (upd (upd (fun k=>Value.slice (D k) (nn k) (d k)) 3 (.slice a3 (nn 3+n23) cc3)) 4 (.slice a4 (nn 4+n24) cc4)) 5 (.slice a5 (nn 5+n25) cc5)) k=.slice a (NF G1 G2 6 k) c)∧(upd (upd (upd Y 3 (Y 3++(X2 3).flatten)) 4 (Y 4++(X2 4).flatten)) 5 (Y 5++(X2 5).flatten)) k=YF X1 X2 6 k∧(upd (upd (upd nn 3 (nn 3+n23)) 4 (nn 4+n24)) 5 (nn 5+n25)) k=NF G1 G2 6 k):=fun a3 a4 a5 cc3 cc4 cc5 k hk=>by
          rw [hnn,hY,N23.out,N24.out,N25.out];have h8:k=0∨k=1∨k=2∨k=3∨k=4∨k=5∨k=6∨k=7:=by omega
          rcases h8 with rfl | rfl | rfl | rfl | rfl | rfl | rfl | rfl <;> simp [upd,NF,YF]
         have HLE:Hid (∀ k,3≤k→k<8→nn k≤64):=fun k h1 h2=>by rw [hnn];unfold NF;rw [iN (by omega)];exact LE1.out k h2
         clear hnn hY;have HJ0:=Hd hJ;have HX0:=Hd hX;clear hJ hX HJR;obtain ⟨iD,hiD,hzD0,hzD1,hzD2⟩:=info_parts JinfoDf;obtain ⟨iT,hiT,hzT0,hzT1,hzT2⟩:=info_parts JinfoTmJ;refine wp_region_G_drew (S0:=fun W=>W.heap[b2]?=some (.cells #[.slice P20 n20 c20,.slice P21 n21 c21,.slice P22 n22 c22,.slice P23 n23 c23,.slice P24 n24 c24,.slice P25 n25 c25,.slice P26 n26 c26,.slice P27 n27 c27] 28 (0,0))) (D:=fun W=>W.heap[b1]?=some (.cells #[.slice (D 0) (nn 0) (d 0),.slice (D 1) (nn 1) (d 1),.slice (D 2) (nn 2) (d 2),.slice (D 3) (nn 3) (d 3),.slice (D 4) (nn 4) (d 4),.slice (D 5) (nn 5) (d 5),.slice (D 6) (nn 6) (d 6),.slice (D 7) (nn 7) (d 7)] 28 (0,0))) (st:=16) (by kernel_rfl) ⟨HK2.out _ _ _ _ HJ0.out.drew,fun _=>HX0.out⟩ (fun hHeld=>?_);obtain ⟨Wc,hWc⟩:=ex_ wk0.drew;have HJ:Hid (JS w6 w.heap.size b1 w6.heap.size V1 (fun k=>Value.slice (D k) (nn k) (d k)) Y nn Wc):=by show JS _ _ _ _ _ _ _ _ _;rw [hWc];exact HJ0.out.drew
         have HX:Hid (Wc.heap[b1]?=some (.cells #[.slice (D 0) (nn 0) (d 0),.slice (D 1) (nn 1) (d 1),.slice (D 2) (nn 2) (d 2),.slice (D 3) (nn 3) (d 3),.slice (D 4) (nn 4) (d 4),.slice (D 5) (nn 5) (d 5),.slice (D 6) (nn 6) (d 6),.slice (D 7) (nn 7) (d 7)] 28 (0,0))):=by show _=_;rw [hWc];exact HX0.out
         rw [←hWc] at hHeld ⊢;clear hWc HJ0 HX0
         repeat
          first
           | (first | refine tkG false 0 (v:=?_) rfl ?hy (fun hNew=>?_) | refine tkG false 2 (v:=?_) rfl ?hy (fun hNew=>?_) | refine tkG false 3 (v:=?_) rfl ?hy (fun hNew=>?_) | refine tkG false 5 (v:=?_) rfl ?hy (fun hNew=>?_) | refine tkG false 7 (v:=?_) rfl ?hy (fun hNew=>?_) | refine tkG false 8 (v:=?_) rfl ?hy (fun hNew=>?_) | refine tkG false 10 (v:=?_) rfl ?hy (fun hNew=>?_) | refine tkG false 12 (v:=?_) rfl ?hy (fun hNew=>?_) | refine tkG false 13 (v:=?_) rfl ?hy (fun hNew=>?_) | refine tkG false 15 (v:=?_) rfl ?hy (fun hNew=>?_) | refine tkG false 17 (v:=?_) rfl ?hy (fun hNew=>?_) | refine tkG false 19 (v:=?_) rfl ?hy (fun hNew=>?_)
              case hy=>
               intro w0 hS hD;clear hD;obtain ⟨v0,v1,v2,v3,v4,v5,v6,v7,-⟩:=q8 hS;have lk2:=lH hS;clear hS;go_simp
               (first | done | with_reducible rfl)
              clear hHeld;have hHeld:=hNew;clear hNew
              try simp only [Act.put,sAr,sZe,sSu])
           | (first | refine tkG true 1 (v:=?_) rfl ?hy (fun hNew=>?_) | refine tkG true 6 (v:=?_) rfl ?hy (fun hNew=>?_) | refine tkG true 11 (v:=?_) rfl ?hy (fun hNew=>?_)
              case hy=>
               intro w0 hS hD;have hD:=hD rfl;obtain ⟨v0,v1,v2,v3,v4,v5,v6,v7,-⟩:=q8 hD;have lk2:=lH hD;clear hS hD;go_simp
               (first | done | with_reducible rfl)
              clear hHeld;have hHeld:=hNew;clear hNew
              try simp only [Act.put,sAr,sZe,sSu])
         iterate 6
          all_goals first
           | refine wpAnyG_ready (rs:=[4]) (by decide +kernel) (by simp) (AllReadyG.cons rfl (fun K hK=>?_) AllReadyG.nil)
           | refine wpAnyG_ready (rs:=[9]) (by decide +kernel) (by simp) (AllReadyG.cons rfl (fun K hK=>?_) AllReadyG.nil)
           | refine wpAnyG_ready (rs:=[14]) (by decide +kernel) (by simp) (AllReadyG.cons rfl (fun K hK=>?_) AllReadyG.nil)
           | refine wpAnyG_ready (rs:=[16]) (by decide +kernel) (by simp) (AllReadyG.cons rfl (fun K hK=>?_) AllReadyG.nil)
           | refine wpAnyG_ready (rs:=[18]) (by decide +kernel) (by simp) (AllReadyG.cons rfl (fun K hK=>?_) AllReadyG.nil)
           | refine wpAnyG_ready (rs:=[20]) (by decide +kernel) (by simp) (AllReadyG.cons rfl (fun K hK=>?_) AllReadyG.nil)
           | fail
          all_goals first
           | (have hx3:=HNW.out 3 (by decide) _ _ _ _ HJ.out
              rw [E23.out,←N23.out] at hx3;refine step_append_two _ (by rfl) _ _ _ (by rfl) w.heap.size 64 iT (.agg #[.int .i64 0,.int .i64 0,.string ⟨#[]⟩,.slice none 0 0]) 4 56 Tryz.underlying25 hiT hzT0 hzT1 hzT2 rfl (by decide) (.slice (D 3) (nn 3) (d 3)) (nn 3) (Y 3) (by rfl) (HJ.out.own 3 (by decide)) (.slice P23 n23 c23) n23 (X2 3).flatten (by rfl) (by rw [HO2.out 3 (by decide),←N23.out];rfl) hx3 (HON.out 3 (by decide)) (by have h1:=HLE.out 3 (by decide) (by decide);have h2:=LE2.out 3 (by decide);rw [←N23.out] at h2;unfold maxLen;omega) (by have h1:=HLE.out 3 (by decide) (by decide);have h2:=LE2.out 3 (by decide);rw [←N23.out] at h2;omega) (Nat.le_trans HH.out HJ.out.size) ?_;intro a3 cc3 We hown7 hg7 hat7;have hxW:=(HJ.out.boxed (k:=3) (by decide) hg7 (fun k hk=>HBV.out k hk b1 (lr _)) HBH.out).trans HX.out;have hjW:=HJ.out.append (k:=3) (by decide) hown7 hg7 hat7 HH.out;clear hx3 hHeld HJ HX hown7 hg7 hat7;have HJ:=Hd hjW;have HX:=Hd hxW;refine hK.out _ We ⟨(HK2.out _ _ _ _ HJ.out),fun _=>HX.out⟩ (fun hHeld=>?_);clear hK K hjW hxW;(try simp only [Act.put,sAr,sZe,sSu]);clear Wc
              rename World=>Wc)
           | (have hx4:=HNW.out 4 (by decide) _ _ _ _ HJ.out
              rw [E24.out,←N24.out] at hx4;refine step_append_two _ (by rfl) _ _ _ (by rfl) w.heap.size 74 iD (.agg #[.string ⟨#[]⟩,.int .i64 0,.int .i64 0,.string ⟨#[]⟩,.slice none 0 0]) 5 72 Tryz.underlying24 hiD hzD0 hzD1 hzD2 rfl (by decide) (.slice (D 4) (nn 4) (d 4)) (nn 4) (Y 4) (by rfl) (HJ.out.own 4 (by decide)) (.slice P24 n24 c24) n24 (X2 4).flatten (by rfl) (by rw [HO2.out 4 (by decide),←N24.out];rfl) hx4 (HON.out 4 (by decide)) (by have h1:=HLE.out 4 (by decide) (by decide);have h2:=LE2.out 4 (by decide);rw [←N24.out] at h2;unfold maxLen;omega) (by have h1:=HLE.out 4 (by decide) (by decide);have h2:=LE2.out 4 (by decide);rw [←N24.out] at h2;omega) (Nat.le_trans HH.out HJ.out.size) ?_;intro a4 cc4 We hown7 hg7 hat7;have hxW:=(HJ.out.boxed (k:=4) (by decide) hg7 (fun k hk=>HBV.out k hk b1 (lr _)) HBH.out).trans HX.out;have hjW:=HJ.out.append (k:=4) (by decide) hown7 hg7 hat7 HH.out;clear hx4 hHeld HJ HX hown7 hg7 hat7;have HJ:=Hd hjW;have HX:=Hd hxW;refine hK.out _ We ⟨(HK2.out _ _ _ _ HJ.out),fun _=>HX.out⟩ (fun hHeld=>?_);clear hK K hjW hxW;(try simp only [Act.put,sAr,sZe,sSu]);clear Wc
              rename World=>Wc)
           | (have hx5:=HNW.out 5 (by decide) _ _ _ _ HJ.out
              rw [E25.out,←N25.out] at hx5;refine step_append_two _ (by rfl) _ _ _ (by rfl) w.heap.size 64 iT (.agg #[.int .i64 0,.int .i64 0,.string ⟨#[]⟩,.slice none 0 0]) 4 56 Tryz.underlying25 hiT hzT0 hzT1 hzT2 rfl (by decide) (.slice (D 5) (nn 5) (d 5)) (nn 5) (Y 5) (by rfl) (HJ.out.own 5 (by decide)) (.slice P25 n25 c25) n25 (X2 5).flatten (by rfl) (by rw [HO2.out 5 (by decide),←N25.out];rfl) hx5 (HON.out 5 (by decide)) (by have h1:=HLE.out 5 (by decide) (by decide);have h2:=LE2.out 5 (by decide);rw [←N25.out] at h2;unfold maxLen;omega) (by have h1:=HLE.out 5 (by decide) (by decide);have h2:=LE2.out 5 (by decide);rw [←N25.out] at h2;omega) (Nat.le_trans HH.out HJ.out.size) ?_;intro a5 cc5 We hown7 hg7 hat7;have hxW:=(HJ.out.boxed (k:=5) (by decide) hg7 (fun k hk=>HBV.out k hk b1 (lr _)) HBH.out).trans HX.out;have hjW:=HJ.out.append (k:=5) (by decide) hown7 hg7 hat7 HH.out;clear hx5 hHeld HJ HX hown7 hg7 hat7;have HJ:=Hd hjW;have HX:=Hd hxW;refine hK.out _ We ⟨(HK2.out _ _ _ _ HJ.out),fun _=>HX.out⟩ (fun hHeld=>?_);clear hK K hjW hxW;(try simp only [Act.put,sAr,sZe,sSu]);clear Wc
              rename World=>Wc)
           | (refine isSt ?_
              obtain ⟨u0,u1,u2,u3,u4,u5,u6,u7,uf⟩:=q8 HX.out;have lk1:=lH HX.out;go_simp;clear u0 u1 u2 u3 u4 u5 u6 u7 uf lk1 hHeld;have hjW:=HJ.out.box 3 (.slice a3 (nn 3+n23) cc3) HWB.out (fun k hk=>HBV.out k hk b1 (lr _)) HBH.out;have hxW:(Wc.setCell ⟨b1,3,none⟩ (.slice a3 (nn 3+n23) cc3)).heap[b1]?=some (.cells #[.slice (D 0) (nn 0) (d 0),.slice (D 1) (nn 1) (d 1),.slice (D 2) (nn 2) (d 2),.slice a3 (nn 3+n23) cc3,.slice (D 4) (nn 4) (d 4),.slice (D 5) (nn 5) (d 5),.slice (D 6) (nn 6) (d 6),.slice (D 7) (nn 7) (d 7)] 28 (0,0)):=by simp [World.setCell,Array.getElem?_modify,HX.out]
              refine hK.out _ (Wc.setCell ⟨b1,3,none⟩ (.slice a3 (nn 3+n23) cc3)) ⟨HK2.out _ _ _ _ hjW,fun h=>absurd h (by decide +kernel)⟩ (fun hHeld=>?_);clear hK K;(try simp only [Act.put,sAr,sZe,sSu]);obtain ⟨We,hWe⟩:=ex_ (Wc.setCell ⟨b1,3,none⟩ (.slice a3 (nn 3+n23) cc3));rw [←hWe] at hjW hxW hHeld ⊢;clear hWe HJ HX;have HJ:=Hd hjW;have HX:=Hd hxW;clear hjW hxW Wc
              rename World=>Wc)
           | (refine isSt ?_
              obtain ⟨u0,u1,u2,u3,u4,u5,u6,u7,uf⟩:=q8 HX.out;have lk1:=lH HX.out;go_simp;clear u0 u1 u2 u3 u4 u5 u6 u7 uf lk1 hHeld;have hjW:=HJ.out.box 4 (.slice a4 (nn 4+n24) cc4) HWB.out (fun k hk=>HBV.out k hk b1 (lr _)) HBH.out;have hxW:(Wc.setCell ⟨b1,4,none⟩ (.slice a4 (nn 4+n24) cc4)).heap[b1]?=some (.cells #[.slice (D 0) (nn 0) (d 0),.slice (D 1) (nn 1) (d 1),.slice (D 2) (nn 2) (d 2),.slice a3 (nn 3+n23) cc3,.slice a4 (nn 4+n24) cc4,.slice (D 5) (nn 5) (d 5),.slice (D 6) (nn 6) (d 6),.slice (D 7) (nn 7) (d 7)] 28 (0,0)):=by simp [World.setCell,Array.getElem?_modify,HX.out]
              refine hK.out _ (Wc.setCell ⟨b1,4,none⟩ (.slice a4 (nn 4+n24) cc4)) ⟨HK2.out _ _ _ _ hjW,fun h=>absurd h (by decide +kernel)⟩ (fun hHeld=>?_);clear hK K;(try simp only [Act.put,sAr,sZe,sSu]);obtain ⟨We,hWe⟩:=ex_ (Wc.setCell ⟨b1,4,none⟩ (.slice a4 (nn 4+n24) cc4));rw [←hWe] at hjW hxW hHeld ⊢;clear hWe HJ HX;have HJ:=Hd hjW;have HX:=Hd hxW;clear hjW hxW Wc
              rename World=>Wc)
           | (refine isSt ?_
              obtain ⟨u0,u1,u2,u3,u4,u5,u6,u7,uf⟩:=q8 HX.out;have lk1:=lH HX.out;go_simp;clear u0 u1 u2 u3 u4 u5 u6 u7 uf lk1 hHeld;have hjW:=HJ.out.box 5 (.slice a5 (nn 5+n25) cc5) HWB.out (fun k hk=>HBV.out k hk b1 (lr _)) HBH.out;have hxW:(Wc.setCell ⟨b1,5,none⟩ (.slice a5 (nn 5+n25) cc5)).heap[b1]?=some (.cells #[.slice (D 0) (nn 0) (d 0),.slice (D 1) (nn 1) (d 1),.slice (D 2) (nn 2) (d 2),.slice a3 (nn 3+n23) cc3,.slice a4 (nn 4+n24) cc4,.slice a5 (nn 5+n25) cc5,.slice (D 6) (nn 6) (d 6),.slice (D 7) (nn 7) (d 7)] 28 (0,0)):=by simp [World.setCell,Array.getElem?_modify,HX.out]
              refine hK.out _ (Wc.setCell ⟨b1,5,none⟩ (.slice a5 (nn 5+n25) cc5)) ⟨HK2.out _ _ _ _ hjW,fun h=>absurd h (by decide +kernel)⟩ (fun hHeld=>?_);clear hK K;(try simp only [Act.put,sAr,sZe,sSu]);obtain ⟨We,hWe⟩:=ex_ (Wc.setCell ⟨b1,5,none⟩ (.slice a5 (nn 5+n25) cc5));rw [←hWe] at hjW hxW hHeld ⊢;clear hWe HJ HX;have HJ:=Hd hjW;have HX:=Hd hxW;clear hjW hxW Wc
              rename World=>Wc)
           | fail
          all_goals
           repeat
            first
             | (first | refine tkG false 0 (v:=?_) rfl ?hy (fun hNew=>?_) | refine tkG false 2 (v:=?_) rfl ?hy (fun hNew=>?_) | refine tkG false 3 (v:=?_) rfl ?hy (fun hNew=>?_) | refine tkG false 5 (v:=?_) rfl ?hy (fun hNew=>?_) | refine tkG false 7 (v:=?_) rfl ?hy (fun hNew=>?_) | refine tkG false 8 (v:=?_) rfl ?hy (fun hNew=>?_) | refine tkG false 10 (v:=?_) rfl ?hy (fun hNew=>?_) | refine tkG false 12 (v:=?_) rfl ?hy (fun hNew=>?_) | refine tkG false 13 (v:=?_) rfl ?hy (fun hNew=>?_) | refine tkG false 15 (v:=?_) rfl ?hy (fun hNew=>?_) | refine tkG false 17 (v:=?_) rfl ?hy (fun hNew=>?_) | refine tkG false 19 (v:=?_) rfl ?hy (fun hNew=>?_)
                case hy=>
                 intro w0 hS hD;clear hD;obtain ⟨v0,v1,v2,v3,v4,v5,v6,v7,-⟩:=q8 hS;have lk2:=lH hS;clear hS;go_simp
                 (first | done | with_reducible rfl)
                clear hHeld;have hHeld:=hNew;clear hNew
                try simp only [Act.put,sAr,sZe,sSu])
             | (first | refine tkG true 1 (v:=?_) rfl ?hy (fun hNew=>?_) | refine tkG true 6 (v:=?_) rfl ?hy (fun hNew=>?_) | refine tkG true 11 (v:=?_) rfl ?hy (fun hNew=>?_)
                case hy=>
                 intro w0 hS hD;have hD:=hD rfl;obtain ⟨v0,v1,v2,v3,v4,v5,v6,v7,-⟩:=q8 hD;have lk2:=lH hD;clear hS hD;go_simp
                 (first | done | with_reducible rfl)
                clear hHeld;have hHeld:=hNew;clear hNew
                try simp only [Act.put,sAr,sZe,sSu])
         all_goals refine wpAnyG_done (by decide +kernel) ?_ _
         all_goals
          clear hHeld;go_wp2_with fail
          go_meet
          case rel=>exact JR.mk HJ.out (HU.out a3 a4 a5 cc3 cc4 cc5) HX.out
        case rest=>
         clear HJR;have HJR:=Hd hcut;rename World=>wk1;clear hcut;go_wp2_with fail
         go_cut [] from 14 (fun wc=>JR w6 w.heap.size b1 V1 X1 X2 G1 G2 8 wc)
         case first=>
          obtain ⟨D,d,hJ,hX⟩:=HJR.out;obtain ⟨nn,hnn⟩:=ex_ (NF G1 G2 6);obtain ⟨Y,hY⟩:=ex_ (YF X1 X2 6);rw [←hnn,←hY] at hJ;rw [←hnn] at hX
          have HU:Hid (∀ (a6 a7:Option Addr) (cc6 cc7:Nat) (k:Nat),k<8→(∃ a c,(upd (upd (fun k=>Value.slice (D k) (nn k) (d k)) 6 (.slice a6 (nn 6+n26) cc6)) 7 (.slice a7 (nn 7+n27) cc7)) k=.slice a (NF G1 G2 8 k) c)∧(upd (upd Y 6 (Y 6++(X2 6).flatten)) 7 (Y 7++(X2 7).flatten)) k=YF X1 X2 8 k∧(upd (upd nn 6 (nn 6+n26)) 7 (nn 7+n27)) k=NF G1 G2 8 k):=fun a6 a7 cc6 cc7 k hk=>by
           rw [hnn,hY,N26.out,N27.out];have h8:k=0∨k=1∨k=2∨k=3∨k=4∨k=5∨k=6∨k=7:=by omega
           rcases h8 with rfl | rfl | rfl | rfl | rfl | rfl | rfl | rfl <;> simp [upd,NF,YF]
          have HLE:Hid (∀ k,6≤k→k<8→nn k≤64):=fun k h1 h2=>by rw [hnn];unfold NF;rw [iN (by omega)];exact LE1.out k h2
          clear hnn hY;have HJ0:=Hd hJ;have HX0:=Hd hX;clear hJ hX HJR;obtain ⟨iS,hiS,hzS0,hzS1,hzS2⟩:=info_parts JinfoSpJ;obtain ⟨iT,hiT,hzT0,hzT1,hzT2⟩:=info_parts JinfoTmJ;refine wp_region_G_drew (S0:=fun W=>W.heap[b2]?=some (.cells #[.slice P20 n20 c20,.slice P21 n21 c21,.slice P22 n22 c22,.slice P23 n23 c23,.slice P24 n24 c24,.slice P25 n25 c25,.slice P26 n26 c26,.slice P27 n27 c27] 28 (0,0))) (D:=fun W=>W.heap[b1]?=some (.cells #[.slice (D 0) (nn 0) (d 0),.slice (D 1) (nn 1) (d 1),.slice (D 2) (nn 2) (d 2),.slice (D 3) (nn 3) (d 3),.slice (D 4) (nn 4) (d 4),.slice (D 5) (nn 5) (d 5),.slice (D 6) (nn 6) (d 6),.slice (D 7) (nn 7) (d 7)] 28 (0,0))) (st:=11) (by kernel_rfl) ⟨HK2.out _ _ _ _ HJ0.out.drew,fun _=>HX0.out⟩ (fun hHeld=>?_);obtain ⟨Wc,hWc⟩:=ex_ wk1.drew;have HJ:Hid (JS w6 w.heap.size b1 w6.heap.size V1 (fun k=>Value.slice (D k) (nn k) (d k)) Y nn Wc):=by show JS _ _ _ _ _ _ _ _ _;rw [hWc];exact HJ0.out.drew
          have HX:Hid (Wc.heap[b1]?=some (.cells #[.slice (D 0) (nn 0) (d 0),.slice (D 1) (nn 1) (d 1),.slice (D 2) (nn 2) (d 2),.slice (D 3) (nn 3) (d 3),.slice (D 4) (nn 4) (d 4),.slice (D 5) (nn 5) (d 5),.slice (D 6) (nn 6) (d 6),.slice (D 7) (nn 7) (d 7)] 28 (0,0))):=by show _=_;rw [hWc];exact HX0.out
          rw [←hWc] at hHeld ⊢;clear hWc HJ0 HX0
          repeat
           first
            | (first | refine tkG false 0 (v:=?_) rfl ?hy (fun hNew=>?_) | refine tkG false 2 (v:=?_) rfl ?hy (fun hNew=>?_) | refine tkG false 3 (v:=?_) rfl ?hy (fun hNew=>?_) | refine tkG false 5 (v:=?_) rfl ?hy (fun hNew=>?_) | refine tkG false 7 (v:=?_) rfl ?hy (fun hNew=>?_) | refine tkG false 8 (v:=?_) rfl ?hy (fun hNew=>?_) | refine tkG false 10 (v:=?_) rfl ?hy (fun hNew=>?_) | refine tkG false 12 (v:=?_) rfl ?hy (fun hNew=>?_)
               case hy=>
                intro w0 hS hD;clear hD;obtain ⟨v0,v1,v2,v3,v4,v5,v6,v7,-⟩:=q8 hS;have lk2:=lH hS;clear hS;go_simp
                (first | done | with_reducible rfl)
               clear hHeld;have hHeld:=hNew;clear hNew
               try simp only [Act.put,sAr,sZe,sSu])
            | (first | refine tkG true 1 (v:=?_) rfl ?hy (fun hNew=>?_) | refine tkG true 6 (v:=?_) rfl ?hy (fun hNew=>?_)
               case hy=>
                intro w0 hS hD;have hD:=hD rfl;obtain ⟨v0,v1,v2,v3,v4,v5,v6,v7,-⟩:=q8 hD;have lk2:=lH hD;clear hS hD;go_simp
                (first | done | with_reducible rfl)
               clear hHeld;have hHeld:=hNew;clear hNew
               try simp only [Act.put,sAr,sZe,sSu])
          iterate 4
           all_goals first
            | refine wpAnyG_ready (rs:=[4]) (by decide +kernel) (by simp) (AllReadyG.cons rfl (fun K hK=>?_) AllReadyG.nil)
            | refine wpAnyG_ready (rs:=[9]) (by decide +kernel) (by simp) (AllReadyG.cons rfl (fun K hK=>?_) AllReadyG.nil)
            | refine wpAnyG_ready (rs:=[11]) (by decide +kernel) (by simp) (AllReadyG.cons rfl (fun K hK=>?_) AllReadyG.nil)
            | refine wpAnyG_ready (rs:=[13]) (by decide +kernel) (by simp) (AllReadyG.cons rfl (fun K hK=>?_) AllReadyG.nil)
            | fail
           all_goals first
            | (have hx6:=HNW.out 6 (by decide) _ _ _ _ HJ.out
               rw [E26.out,←N26.out] at hx6;refine step_append_two _ (by rfl) _ _ _ (by rfl) w.heap.size 64 iT (.agg #[.int .i64 0,.int .i64 0,.string ⟨#[]⟩,.slice none 0 0]) 4 56 Tryz.underlying25 hiT hzT0 hzT1 hzT2 rfl (by decide) (.slice (D 6) (nn 6) (d 6)) (nn 6) (Y 6) (by rfl) (HJ.out.own 6 (by decide)) (.slice P26 n26 c26) n26 (X2 6).flatten (by rfl) (by rw [HO2.out 6 (by decide),←N26.out];rfl) hx6 (HON.out 6 (by decide)) (by have h1:=HLE.out 6 (by decide) (by decide);have h2:=LE2.out 6 (by decide);rw [←N26.out] at h2;unfold maxLen;omega) (by have h1:=HLE.out 6 (by decide) (by decide);have h2:=LE2.out 6 (by decide);rw [←N26.out] at h2;omega) (Nat.le_trans HH.out HJ.out.size) ?_;intro a6 cc6 We hown7 hg7 hat7;have hxW:=(HJ.out.boxed (k:=6) (by decide) hg7 (fun k hk=>HBV.out k hk b1 (lr _)) HBH.out).trans HX.out;have hjW:=HJ.out.append (k:=6) (by decide) hown7 hg7 hat7 HH.out;clear hx6 hHeld HJ HX hown7 hg7 hat7;have HJ:=Hd hjW;have HX:=Hd hxW;refine hK.out _ We ⟨(HK2.out _ _ _ _ HJ.out),fun _=>HX.out⟩ (fun hHeld=>?_);clear hK K hjW hxW;(try simp only [Act.put,sAr,sZe,sSu]);clear Wc
               rename World=>Wc)
            | (have hx7:=HNW.out 7 (by decide) _ _ _ _ HJ.out
               rw [E27.out,←N27.out] at hx7;refine step_append_two _ (by rfl) _ _ _ (by rfl) w.heap.size 69 iS (.agg #[.string ⟨#[]⟩,.int .i64 0,.int .i64 0,.int .i64 0,.string ⟨#[]⟩,.slice none 0 0,.slice none 0 0]) 7 104 Tryz.underlying26 hiS hzS0 hzS1 hzS2 rfl (by decide) (.slice (D 7) (nn 7) (d 7)) (nn 7) (Y 7) (by rfl) (HJ.out.own 7 (by decide)) (.slice P27 n27 c27) n27 (X2 7).flatten (by rfl) (by rw [HO2.out 7 (by decide),←N27.out];rfl) hx7 (HON.out 7 (by decide)) (by have h1:=HLE.out 7 (by decide) (by decide);have h2:=LE2.out 7 (by decide);rw [←N27.out] at h2;unfold maxLen;omega) (by have h1:=HLE.out 7 (by decide) (by decide);have h2:=LE2.out 7 (by decide);rw [←N27.out] at h2;omega) (Nat.le_trans HH.out HJ.out.size) ?_;intro a7 cc7 We hown7 hg7 hat7;have hxW:=(HJ.out.boxed (k:=7) (by decide) hg7 (fun k hk=>HBV.out k hk b1 (lr _)) HBH.out).trans HX.out;have hjW:=HJ.out.append (k:=7) (by decide) hown7 hg7 hat7 HH.out;clear hx7 hHeld HJ HX hown7 hg7 hat7;have HJ:=Hd hjW;have HX:=Hd hxW;refine hK.out _ We ⟨(HK2.out _ _ _ _ HJ.out),fun _=>HX.out⟩ (fun hHeld=>?_);clear hK K hjW hxW;(try simp only [Act.put,sAr,sZe,sSu]);clear Wc
               rename World=>Wc)
            | (refine isSt ?_
               obtain ⟨u0,u1,u2,u3,u4,u5,u6,u7,uf⟩:=q8 HX.out;have lk1:=lH HX.out;go_simp;clear u0 u1 u2 u3 u4 u5 u6 u7 uf lk1 hHeld;have hjW:=HJ.out.box 6 (.slice a6 (nn 6+n26) cc6) HWB.out (fun k hk=>HBV.out k hk b1 (lr _)) HBH.out;have hxW:(Wc.setCell ⟨b1,6,none⟩ (.slice a6 (nn 6+n26) cc6)).heap[b1]?=some (.cells #[.slice (D 0) (nn 0) (d 0),.slice (D 1) (nn 1) (d 1),.slice (D 2) (nn 2) (d 2),.slice (D 3) (nn 3) (d 3),.slice (D 4) (nn 4) (d 4),.slice (D 5) (nn 5) (d 5),.slice a6 (nn 6+n26) cc6,.slice (D 7) (nn 7) (d 7)] 28 (0,0)):=by simp [World.setCell,Array.getElem?_modify,HX.out]
               refine hK.out _ (Wc.setCell ⟨b1,6,none⟩ (.slice a6 (nn 6+n26) cc6)) ⟨HK2.out _ _ _ _ hjW,fun h=>absurd h (by decide +kernel)⟩ (fun hHeld=>?_);clear hK K;(try simp only [Act.put,sAr,sZe,sSu]);obtain ⟨We,hWe⟩:=ex_ (Wc.setCell ⟨b1,6,none⟩ (.slice a6 (nn 6+n26) cc6));rw [←hWe] at hjW hxW hHeld ⊢;clear hWe HJ HX;have HJ:=Hd hjW;have HX:=Hd hxW;clear hjW hxW Wc
               rename World=>Wc)
            | (refine isSt ?_
               obtain ⟨u0,u1,u2,u3,u4,u5,u6,u7,uf⟩:=q8 HX.out;have lk1:=lH HX.out;go_simp;clear u0 u1 u2 u3 u4 u5 u6 u7 uf lk1 hHeld;have hjW:=HJ.out.box 7 (.slice a7 (nn 7+n27) cc7) HWB.out (fun k hk=>HBV.out k hk b1 (lr _)) HBH.out;have hxW:(Wc.setCell ⟨b1,7,none⟩ (.slice a7 (nn 7+n27) cc7)).heap[b1]?=some (.cells #[.slice (D 0) (nn 0) (d 0),.slice (D 1) (nn 1) (d 1),.slice (D 2) (nn 2) (d 2),.slice (D 3) (nn 3) (d 3),.slice (D 4) (nn 4) (d 4),.slice (D 5) (nn 5) (d 5),.slice a6 (nn 6+n26) cc6,.slice a7 (nn 7+n27) cc7] 28 (0,0)):=by simp [World.setCell,Array.getElem?_modify,HX.out]
               refine hK.out _ (Wc.setCell ⟨b1,7,none⟩ (.slice a7 (nn 7+n27) cc7)) ⟨HK2.out _ _ _ _ hjW,fun h=>absurd h (by decide +kernel)⟩ (fun hHeld=>?_);clear hK K;(try simp only [Act.put,sAr,sZe,sSu]);obtain ⟨We,hWe⟩:=ex_ (Wc.setCell ⟨b1,7,none⟩ (.slice a7 (nn 7+n27) cc7));rw [←hWe] at hjW hxW hHeld ⊢;clear hWe HJ HX;have HJ:=Hd hjW;have HX:=Hd hxW;clear hjW hxW Wc
               rename World=>Wc)
            | fail
           all_goals
            repeat
             first
              | (first | refine tkG false 0 (v:=?_) rfl ?hy (fun hNew=>?_) | refine tkG false 2 (v:=?_) rfl ?hy (fun hNew=>?_) | refine tkG false 3 (v:=?_) rfl ?hy (fun hNew=>?_) | refine tkG false 5 (v:=?_) rfl ?hy (fun hNew=>?_) | refine tkG false 7 (v:=?_) rfl ?hy (fun hNew=>?_) | refine tkG false 8 (v:=?_) rfl ?hy (fun hNew=>?_) | refine tkG false 10 (v:=?_) rfl ?hy (fun hNew=>?_) | refine tkG false 12 (v:=?_) rfl ?hy (fun hNew=>?_)
                 case hy=>
                  intro w0 hS hD;clear hD;obtain ⟨v0,v1,v2,v3,v4,v5,v6,v7,-⟩:=q8 hS;have lk2:=lH hS;clear hS;go_simp
                  (first | done | with_reducible rfl)
                 clear hHeld;have hHeld:=hNew;clear hNew
                 try simp only [Act.put,sAr,sZe,sSu])
              | (first | refine tkG true 1 (v:=?_) rfl ?hy (fun hNew=>?_) | refine tkG true 6 (v:=?_) rfl ?hy (fun hNew=>?_)
                 case hy=>
                  intro w0 hS hD;have hD:=hD rfl;obtain ⟨v0,v1,v2,v3,v4,v5,v6,v7,-⟩:=q8 hD;have lk2:=lH hD;clear hS hD;go_simp
                  (first | done | with_reducible rfl)
                 clear hHeld;have hHeld:=hNew;clear hNew
                 try simp only [Act.put,sAr,sZe,sSu])
          all_goals refine wpAnyG_done (by decide +kernel) ?_ _
          all_goals
           clear hHeld;go_wp2_with fail
           go_meet
           case rel=>exact JR.mk HJ.out (HU.out a6 a7 cc6 cc7) HX.out
         case rest=>
          clear HJR;have HJR:=Hd hcut;rename World=>wk2;clear hcut;obtain ⟨D,d,hJ,hX⟩:=HJR.out;have hkx:KeepS (SOf B1 R1 V1) w1 wk2:=⟨Nat.le_trans HA1.out.size hJ.size,fun q hq hl=>(hJ.keep q (lL hl HA1.out.size) (fun k hk=>hq.2.2 k hk) (by have:=K1.out;omega)).trans (HA1.out.block q hl)⟩;have hky:KeepS (SOf B2 R2 V2) w3 wk2:=⟨Nat.le_trans HS36.out hJ.size,fun q hq hl=>(HKQ.out _ _ _ _ hJ q (lL HBB2.out hq.1) (lL hl HS36.out)).trans (HA3.out.block q hl)⟩
          have hmx:MdIn wk2 (fun k=>.slice (D k) (NF G1 G2 8 k) (d k)) mz:=by
           rw [HZ.out];refine mdIn_rows (B:=w.heap.size) (nn:=NF G1 G2 8) (XX:=fun k=>X1 k++X2 k) (G:=fun k=>G1 k++G2 k) (S:=fun _=>True) (fun k hk=>?_) (fun k hk=>?_) (fun k hk=>RowE.app ((M1.out.vals k hk).keep hkx fun _ _ _=>trivial) ((M2.out.vals k hk).keep hky fun _ _ _=>trivial)) (Q1.out.app Q2.out)
           · have h:=hJ.own k hk;rw [show YF X1 X2 8 k=(X1 k++X2 k).flatten by unfold YF;rw [iP hk,List.flatten_append]] at h;exact h
           · unfold NF;rw [iP hk,List.length_append]
          have h35:w3.heap.size≤w4.heap.size:=S2.out.size;have hmz:MdIn wk2 V3 mz:=mdIn_of (M3.out.move (fun q h1 h2 _=>(HKQ.out _ _ _ _ hJ q (by have:=L3.out;have:=K2.out;have:=HB12.out;omega) (lL h2 S3.out.size)).trans (S3.out.block q h2)) (Nat.le_trans S3.out.size hJ.size)) Q3.out;have hx3:wk2.heap[b3]?=some (.cells #[.slice P30 n30 c30,.slice P31 n31 c31,.slice P32 n32 c32,.slice P33 n33 c33,.slice P34 n34 c34,.slice P35 n35 c35,.slice P36 n36 c36,.slice P37 n37 c37] 28 (0,0)):=(HKQ.out _ _ _ _ hJ b3 (by have:=K3.out;have:=K2.out;have:=HB12.out;have:=Z3.out.size;omega) (lH T3.out)).trans T3.out;have hsm:=rsame35_any (fun k=>.slice (D k) (NF G1 G2 8 k) (d k)) V3 mz wk2 hmx hmz;rw [E30.out,E31.out,E32.out,E33.out,E34.out,E35.out,E36.out,E37.out] at hsm;have HBk:=Hd (HB.out.trans hJ.bel);obtain ⟨nn,hnn⟩:=ex_ (NF G1 G2 8);have HSM:Hid (Calls Tryz.prog 10 #[.agg #[.slice (D 0) (nn 0) (d 0),.slice (D 1) (nn 1) (d 1),.slice (D 2) (nn 2) (d 2),.slice (D 3) (nn 3) (d 3),.slice (D 4) (nn 4) (d 4),.slice (D 5) (nn 5) (d 5),.slice (D 6) (nn 6) (d 6),.slice (D 7) (nn 7) (d 7)],.agg #[.slice P30 n30 c30,.slice P31 n31 c31,.slice P32 n32 c32,.slice P33 n33 c33,.slice P34 n34 c34,.slice P35 n35 c35,.slice P36 n36 c36,.slice P37 n37 c37]] wk2 (SmQ wk2)):=by rw [hnn];exact hsm
          rw [←hnn] at hX;have HXX:=Hd hX;have HX3:=Hd hx3;clear hkx hky hmx hmz hsm hnn hJ hX hx3 h35 HB HJR;have HB:=HBk;clear HBk;obtain ⟨u0,u1,u2,u3,u4,u5,u6,u7,-⟩:=q8 HXX.out;obtain ⟨v0,v1,v2,v3,v4,v5,v6,v7,-⟩:=q8 HX3.out;have lk1:=lH HXX.out;have lk3:=lH HX3.out;(try go_wp2_with fail);refine (HSM.out).mono ?_;rintro e wl ⟨rfl,hbl⟩;replace HB:=kB HB hbl;clear hbl HSM u0 u1 u2 u3 u4 u5 u6 u7 v0 v1 v2 v3 v4 v5 v6 v7 lk1 lk3;go_wp2_with fail;refine (HLV.out _ HB.out).mono ?_;rintro e w9 ⟨rfl,hb9⟩;have HB9:=kB HB hb9;clear hb9;go_wp2_with fail;rw [HF.out];exact ⟨rfl,HB9.out⟩
     · obtain rfl:=J2.out rfl rfl hg;clear J1 J2 J3 hg;go_wp2_with fail;rw [←W3.out]
       try rw [←K3.out]
       (try go_wp2_with fail);refine (HLV.out _ HB.out).mono ?_;rintro e w9 ⟨rfl,hb9⟩;have HB9:=kB HB hb9;clear hb9;go_wp2_with fail;rw [HF.out];exact ⟨rfl,HB9.out⟩
   · have hgz:=J1.out rfl hf;have hfb:(fy != 0)=true:=by simpa using hf
     have hgb:(gz != 0)=true:=by simpa using hgz
     clear J1 J2 J3 hf hgz;go_wp2_with fail;rw [←W3.out]
     try rw [←K3.out]
     (try go_wp2_with fail);refine (HLV.out _ HB.out).mono ?_;rintro e w9 ⟨rfl,hb9⟩;have HB9:=kB HB hb9;clear hb9;go_wp2_with fail;rw [HF.out];exact ⟨rfl,HB9.out⟩
 · have hxb:(ex != 0)=true:=by simpa using hx
   clear J1 J2 J3 hx;go_wp2_with fail;rw [←W3.out]
   try rw [←K3.out]
   (try go_wp2_with fail);refine (HLV.out _ HB.out).mono ?_;rintro e w9 ⟨rfl,hb9⟩;have HB9:=kB HB hb9;clear hb9;go_wp2_with fail;rw [HF.out];exact ⟨rfl,HB9.out⟩
end Go.Proofs.YtkhoeoilamddaaaGreatDoor
