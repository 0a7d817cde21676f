/- Walks and plain words: MwM RndP. -/
import Derived.Test.YtkhoeoilamddaaaGreatDoorXMwL
import Derived.Test.YtkhoeoilamddaaaGreatDoorXMsB
namespace Go.Proofs.YtkhoeoilamddaaaGreatDoor
open Go.RowKit
set_option linter.unusedVariables false
set_option maxRecDepth 100000
set_option maxHeartbeats 16000000
theorem Kt (hS:JQ IG) (hF:∀ m,PX m→JQ m) (hP:∀ (s:Bs) (m:Md) (a:Int),s.length≤4000→parseM s=(m,a,0)→JQ m∧WZ m∧(kg m).2=0)
 (hR:∀ m,(kg m).2=0→parseM (kg m).1=(m,((kg m).1.length:Int),0)∧(kg m).1.length≤maxLen)
 (V:Nat→Value) (m:Md) (s:ByteArray) (w:World) (hM:Km w V m) (hNm:WZ m) (hL:aa5 m) (hs:s.size≤maxLen) (hT:Tables w) :
 Calls Tryz.prog 5 #[.agg #[V 0,V 1,V 2,V 3,V 4,V 5,V 6,V 7],.string s] w (EA w):=by
 obtain ⟨F,HF⟩:=ak (EA w);rw [←HF.out];have HLV:Hid (∀ W,Below w.heap.size w W→Calls Tryz.prog 7 #[] W (EA W)):=fun W hb=>Ux hS W (hT.below hb);have HWT:Hid (∀ W,Below w.heap.size w W→je W):=fun W hb=>(hT.below hb).ac7;have HPA:Hid (∀ W (s:ByteArray),s.size≤maxLen→Below w.heap.size w W→Calls Tryz.prog 8 #[.string s] W (MpQ W (parseM (bs s)))):=fun W s h hb=>FW s W h (hT.below hb);have HB:=Hd (Br w.heap.size w);obtain ⟨P00,c00,e00,pc0,pm0,-⟩:=hM.vars;obtain ⟨P01,c01,e01,pc1,pm1,-⟩:=hM.defs;obtain ⟨P02,c02,e02,pc2,pm2,-⟩:=hM.init;obtain ⟨P03,c03,e03,pc3,pm3,-⟩:=hM.bF;obtain ⟨P04,c04,e04,pc4,pm4,-⟩:=hM.next;obtain ⟨P05,c05,e05,pc5,pm5,-⟩:=hM.trans;obtain ⟨P06,c06,e06,pc6,pm6,-⟩:=hM.fair;obtain ⟨P07,c07,e07,pc7,pm7,-⟩:=hM.specs;obtain ⟨n00,N00⟩:=ak m.vars.length;obtain ⟨n01,N01⟩:=ak m.defs.length;obtain ⟨n02,N02⟩:=ak m.init.length;obtain ⟨n03,N03⟩:=ak m.bF.length;obtain ⟨n04,N04⟩:=ak m.next.length;obtain ⟨n05,N05⟩:=ak m.trans.length;obtain ⟨n06,N06⟩:=ak m.fair.length;obtain ⟨n07,N07⟩:=ak m.specs.length;rw [←N00.out] at e00 pc0;rw [←N01.out] at e01 pc1;rw [←N02.out] at e02 pc2;rw [←N03.out] at e03 pc3;rw [←N04.out] at e04 pc4;rw [←N05.out] at e05 pc5;rw [←N06.out] at e06 pc6;rw [←N07.out] at e07 pc7;unfold maxLen at pm0 pm1 pm2 pm3 pm4 pm5 pm6 pm7;have E00:=Hd e00;have E01:=Hd e01;have E02:=Hd e02
 have E03:=Hd e03;have E04:=Hd e04;have E05:=Hd e05;have E06:=Hd e06;have E07:=Hd e07;rw [e00,e01,e02,e03,e04,e05,e06,e07];obtain ⟨b0,K0⟩:=ak w.heap.size;obtain ⟨w1,W0⟩:=ak (w.alloc (.cells #[.slice P00 n00 c00,.slice P01 n01 c01,.slice P02 n02 c02,.slice P03 n03 c03,.slice P04 n04 c04,.slice P05 n05 c05,.slice P06 n06 c06,.slice P07 n07 c07] 28));have S0:=Hd (dz W0.out);have T0:=jZ W0.out K0.out;have hcf:=ael V m w1 (hM.below S0.out) hL;rw [e00,e01,e02,e03,e04,e05,e06,e07] at hcf;have HCF:=Hd hcf;have HM:=Hd hM;have xR:=Hd hNm;have HFF:=Hd hF;have HPP:=Hd hP;have HRR:=Hd hR;have hsm:=hs;unfold maxLen at hsm;have HBn:=S0;clear HB;have HB:=HBn;clear HBn hT hS hcf hM hNm hL hF hP hR hs;clear e00 e01 e02 e03 e04 e05 e06 e07;go_enter Tryz.func5,Tryz.ntmps5;go_wp2_with fail;rw [←W0.out]
 try rw [←K0.out]
 (try go_wp2_with fail);refine (HCF.out).mono ?_;rintro e w2 ⟨⟨r,rfl,hr⟩,hb⟩;have X0:Hid (_=_):=(hb.block b0 (lH T0.out)).trans T0.out;have HFR:=Hd hr;replace HB:=kB HB hb;clear hr hb HCF
 cases r with
 | false=>
  go_wp2_with fail;refine (HLV.out _ HB.out).mono ?_;rintro e w9 ⟨rfl,Ub⟩;have VT:=kB HB Ub;clear Ub;go_wp2_with fail;rw [HF.out];exact ⟨rfl,VT.out⟩
 | true=>
  by_cases h4:4000<s.size
  · have h4':(4000:Int)<(s.size:Int):=by omega
    go_wp2_with fail;refine (HLV.out _ HB.out).mono ?_;rintro e w9 ⟨rfl,Ub⟩;have VT:=kB HB Ub;clear Ub;go_wp2_with fail;rw [HF.out];exact ⟨rfl,VT.out⟩
  have h4':¬(4000:Int)<(s.size:Int):=by omega
  have h4n:(bs s).length≤4000:=by rw [aC];omega
  have H4:=Hd h4n
  have HSH:Hid (Calls Tryz.prog 12 #[.agg #[.slice P00 n00 c00,.slice P01 n01 c01,.slice P02 n02 c02,.slice P03 n03 c03,.slice P04 n04 c04,.slice P05 n05 c05,.slice P06 n06 c06,.slice P07 n07 c07]] w2 fun r w'=>r=.returned (.tuple #[.string ⟨(kg m).1.toArray⟩,.int .i64 (kg m).2])∧Below w2.heap.size w2 w'):=by
   have h:=I7 V m w2 (HM.below HB.out) (HFF.out m (HFR.out rfl)) xR.out (HWT.out _ HB.out);rw [E00.out,E01.out,E02.out,E03.out,E04.out,E05.out,E06.out,E07.out] at h;exact h
  obtain ⟨t,Ht⟩:=ak (⟨(kg m).1.toArray⟩:ByteArray);obtain ⟨q,Hq⟩:=ak (kg m).2;rw [←Ht.out,←Hq.out] at HSH;obtain ⟨u0,u1,u2,u3,u4,u5,u6,u7,-⟩:=q8 X0.out;have lb0:=lH X0.out;clear h4 h4n;go_wp2_with fail;refine (HSH.out).mono ?_;rintro e w3 ⟨rfl,hb⟩;have X0n:Hid (_=_):=(hb.block b0 (lH X0.out)).trans X0.out;replace HB:=kB HB hb;clear hb HSH X0 u0 u1 u2 u3 u4 u5 u6 u7 lb0
  by_cases hq:q=0
  case' pos=>
   subst hq;obtain ⟨hr1,hr2⟩:=HRR.out m Hq.symm;have hts:bs t=(kg m).1:=by rw [Ht.out];rfl
   have htl:t.size=(kg m).1.length:=by rw [←hts,aC]
   have WR:t.size≤maxLen:=by rw [htl];exact hr2
   have hp:=HPA.out w3 t WR HB.out;rw [hts,hr1,←htl] at hp;have uy:=Hd hp;unfold maxLen at WR;clear hp hr1 hr2 hts htl;go_wp2_with fail;refine (uy.out).mono ?_;rintro e w4 ⟨V2,Y2,G2,B2,R2,rfl,hma,hgm,hB2,jU,hb⟩;have hM2:=Ho hma hgm;simp only at hM2;simp only [J5];obtain ⟨P20,c20,e20,pc0,pm0,-⟩:=hM2.vars;obtain ⟨P21,c21,e21,pc1,pm1,-⟩:=hM2.defs;obtain ⟨P22,c22,e22,pc2,pm2,-⟩:=hM2.init;obtain ⟨P23,c23,e23,pc3,pm3,-⟩:=hM2.bF;obtain ⟨P24,c24,e24,pc4,pm4,-⟩:=hM2.next;obtain ⟨P25,c25,e25,pc5,pm5,-⟩:=hM2.trans;obtain ⟨P26,c26,e26,pc6,pm6,-⟩:=hM2.fair;obtain ⟨P27,c27,e27,pc7,pm7,-⟩:=hM2.specs;rw [←N00.out] at e20 pc0;rw [←N01.out] at e21 pc1;rw [←N02.out] at e22 pc2;rw [←N03.out] at e23 pc3;rw [←N04.out] at e24 pc4;rw [←N05.out] at e25 pc5;rw [←N06.out] at e26 pc6;rw [←N07.out] at e27 pc7;unfold maxLen at pm0 pm1 pm2 pm3 pm4 pm5 pm6 pm7;have E20:=Hd e20;have E21:=Hd e21;have E22:=Hd e22;have E23:=Hd e23;have E24:=Hd e24;have E25:=Hd e25;have E26:=Hd e26;have E27:=Hd e27;rw [e20,e21,e22,e23,e24,e25,e26,e27];obtain ⟨b2,K2⟩:=ak w4.heap.size;obtain ⟨w5,W2⟩:=ak (w4.alloc (.cells #[.slice P20 n00 c20,.slice P21 n01 c21,.slice P22 n02 c22,.slice P23 n03 c23,.slice P24 n04 c24,.slice P25 n05 c25,.slice P26 n06 c26,.slice P27 n07 c27] 28));have S2:=Hd (dz W2.out);have T2:=jZ W2.out K2.out
   have X0p:Hid (_=_):=(hb.block b0 (lH X0n.out)).trans X0n.out
   have HSM:Hid (Calls Tryz.prog 10 #[.agg #[.slice P20 n00 c20,.slice P21 n01 c21,.slice P22 n02 c22,.slice P23 n03 c23,.slice P24 n04 c24,.slice P25 n05 c25,.slice P26 n06 c26,.slice P27 n07 c27],.agg #[.slice P00 n00 c00,.slice P01 n01 c01,.slice P02 n02 c02,.slice P03 n03 c03,.slice P04 n04 c04,.slice P05 n05 c05,.slice P06 n06 c06,.slice P07 n07 c07]] w5 (EA w5)):=by
    have h:=J_ V2 V m w5 (hM2.below S2.out) (HM.below (kB (kB HB hb) S2.out).out);rw [E20.out,E21.out,E22.out,E23.out,E24.out,E25.out,E26.out,E27.out,E00.out,E01.out,E02.out,E03.out,E04.out,E05.out,E06.out,E07.out] at h;exact h
   replace HB:=kB (kB HB hb) S2.out;clear hma hgm hB2 jU hb hM2 e20 e21 e22 e23 e24 e25 e26 e27;obtain ⟨u0,u1,u2,u3,u4,u5,u6,u7,-⟩:=q8 X0p.out;have lb0:=lH X0p.out;have lb2:b0≠w4.heap.size:=by omega
   have akN:w4.heap.size≠b0:=by omega
   go_wp2_with fail;rw [←W2.out]
   try rw [←K2.out]
   (try go_wp2_with fail);refine (HSM.out).mono ?_;rintro e w6 ⟨rfl,hb⟩;replace HB:=kB HB hb;clear hb HSM u0 u1 u2 u3 u4 u5 u6 u7 lb0 lb2 akN X0p W2 K2 T2 S2 uy;rename World=>wc
  case' neg=>
   have hqb:¬q=0:=hq;have al7:(q == 0)=false:=by simpa using hq
   rename World=>wc
  all_goals
   obtain ⟨p,hp⟩:=aj (parseM (bs s));have hp2:=HPA.out wc s (by unfold maxLen;omega) HB.out;rw [←hp] at hp2;have HP3:=Hd hp2;clear hp2;obtain ⟨mx,ax,ex⟩:=p;have HPQ:=Hd hp;clear hp;go_wp2_with fail;refine (HP3.out).mono ?_;rintro e w7 ⟨V3,Y3,G3,B3,R3,rfl,hma,hgm,hB3,jU,hb⟩;have hM3:=Ho hma hgm;simp only at hM3;simp only [J5];obtain ⟨P30,c30,e30,pc0,pm0,-⟩:=hM3.vars;obtain ⟨P31,c31,e31,pc1,pm1,-⟩:=hM3.defs;obtain ⟨P32,c32,e32,pc2,pm2,-⟩:=hM3.init;obtain ⟨P33,c33,e33,pc3,pm3,-⟩:=hM3.bF;obtain ⟨P34,c34,e34,pc4,pm4,-⟩:=hM3.next;obtain ⟨P35,c35,e35,pc5,pm5,-⟩:=hM3.trans;obtain ⟨P36,c36,e36,pc6,pm6,-⟩:=hM3.fair;obtain ⟨P37,c37,e37,pc7,pm7,-⟩:=hM3.specs;obtain ⟨n30,N30⟩:=ak mx.vars.length;obtain ⟨n31,N31⟩:=ak mx.defs.length;obtain ⟨n32,N32⟩:=ak mx.init.length;obtain ⟨n33,N33⟩:=ak mx.bF.length;obtain ⟨n34,N34⟩:=ak mx.next.length;obtain ⟨n35,N35⟩:=ak mx.trans.length;obtain ⟨n36,N36⟩:=ak mx.fair.length;obtain ⟨n37,N37⟩:=ak mx.specs.length;rw [←N30.out] at e30 pc0;rw [←N31.out] at e31 pc1;rw [←N32.out] at e32 pc2;rw [←N33.out] at e33 pc3;rw [←N34.out] at e34 pc4;rw [←N35.out] at e35 pc5;rw [←N36.out] at e36 pc6;rw [←N37.out] at e37 pc7;unfold maxLen at pm0 pm1 pm2 pm3 pm4 pm5 pm6 pm7;have E30:=Hd e30;have E31:=Hd e31;have E32:=Hd e32;have E33:=Hd e33;have E34:=Hd e34;have E35:=Hd e35;have E36:=Hd e36;have E37:=Hd e37
   rw [e30,e31,e32,e33,e34,e35,e36,e37];obtain ⟨b3,K3⟩:=ak w7.heap.size;obtain ⟨w8,W3⟩:=ak (w7.alloc (.cells #[.slice P30 n30 c30,.slice P31 n31 c31,.slice P32 n32 c32,.slice P33 n33 c33,.slice P34 n34 c34,.slice P35 n35 c35,.slice P36 n36 c36,.slice P37 n37 c37] 28));have S3:=Hd (dz W3.out);have T3:=jZ W3.out K3.out;have HM3:=Hd (hM3.below S3.out);replace HB:=kB (kB HB hb) S3.out;clear hma hgm hB3 jU hb hM3 e30 e31 e32 e33 e34 e35 e36 e37 HP3
   by_cases hex:ex=0
   · subst hex;obtain ⟨ha1,ha2,ha3⟩:=HPP.out _ _ _ H4.out HPQ.symm
     have HSX:Hid (Calls Tryz.prog 12 #[.agg #[.slice P30 n30 c30,.slice P31 n31 c31,.slice P32 n32 c32,.slice P33 n33 c33,.slice P34 n34 c34,.slice P35 n35 c35,.slice P36 n36 c36,.slice P37 n37 c37]] w8 fun r w'=>r=.returned (.tuple #[.string ⟨(kg mx).1.toArray⟩,.int .i64 0])∧Below w8.heap.size w8 w'):=by
      have h:=I7 V3 mx w8 HM3.out ha1 ha2 (HWT.out _ HB.out);rw [E30.out,E31.out,E32.out,E33.out,E34.out,E35.out,E36.out,E37.out,ha3] at h;exact h
     obtain ⟨t2,Ht2⟩:=ak (⟨(kg mx).1.toArray⟩:ByteArray);rw [←Ht2.out] at HSX;obtain ⟨hr1,hr2⟩:=HRR.out mx ha3;have hts:bs t2=(kg mx).1:=by rw [Ht2.out];rfl
     have htl:t2.size=(kg mx).1.length:=by rw [←hts,aC]
     have ajI:t2.size≤maxLen:=by rw [htl];exact hr2
     have HP4:Hid (∀ W,Below w.heap.size w W→Calls Tryz.prog 8 #[.string t2] W (MpQ W (mx,(t2.size:Int),0))):=fun W hb=>by
      have h:=HPA.out W t2 ajI hb;rw [hts,hr1,←htl] at h;exact h
     unfold maxLen at ajI;clear hr1 hr2 hts htl ha1 ha2 ha3;obtain ⟨u0,u1,u2,u3,u4,u5,u6,u7,-⟩:=q8 T3.out;have lb3:=lH T3.out;go_wp2_with fail;rw [←W3.out]
     try rw [←K3.out]
     (try go_wp2_with fail);refine (HSX.out).mono ?_;rintro e w10 ⟨rfl,hb⟩;have X3:Hid (_=_):=(hb.block b3 (lH T3.out)).trans T3.out;have HMX:=Hd (HM3.below hb);replace HB:=kB HB hb;clear hb HSX u0 u1 u2 u3 u4 u5 u6 u7 lb3 HM3;go_wp2_with fail;refine (HP4.out _ HB.out).mono ?_;rintro e w11 ⟨V4,Y4,G4,B4,R4,rfl,hma,hgm,hB4,jU,hb⟩;have hM4:=Ho hma hgm;simp only at hM4;simp only [J5];obtain ⟨P40,c40,e40,pc0,pm0,-⟩:=hM4.vars;obtain ⟨P41,c41,e41,pc1,pm1,-⟩:=hM4.defs;obtain ⟨P42,c42,e42,pc2,pm2,-⟩:=hM4.init;obtain ⟨P43,c43,e43,pc3,pm3,-⟩:=hM4.bF;obtain ⟨P44,c44,e44,pc4,pm4,-⟩:=hM4.next;obtain ⟨P45,c45,e45,pc5,pm5,-⟩:=hM4.trans;obtain ⟨P46,c46,e46,pc6,pm6,-⟩:=hM4.fair;obtain ⟨P47,c47,e47,pc7,pm7,-⟩:=hM4.specs;rw [←N30.out] at e40 pc0;rw [←N31.out] at e41 pc1;rw [←N32.out] at e42 pc2;rw [←N33.out] at e43 pc3;rw [←N34.out] at e44 pc4;rw [←N35.out] at e45 pc5;rw [←N36.out] at e46 pc6;rw [←N37.out] at e47 pc7;unfold maxLen at pm0 pm1 pm2 pm3 pm4 pm5 pm6 pm7;have E40:=Hd e40;have E41:=Hd e41;have E42:=Hd e42;have E43:=Hd e43;have E44:=Hd e44;have E45:=Hd e45;have E46:=Hd e46;have E47:=Hd e47;rw [e40,e41,e42,e43,e44,e45,e46,e47];obtain ⟨b4,K4⟩:=ak w11.heap.size
     obtain ⟨w12,W4⟩:=ak (w11.alloc (.cells #[.slice P40 n30 c40,.slice P41 n31 c41,.slice P42 n32 c42,.slice P43 n33 c43,.slice P44 n34 c44,.slice P45 n35 c45,.slice P46 n36 c46,.slice P47 n37 c47] 28));have S4:=Hd (dz W4.out);have T4:=jZ W4.out K4.out;have X3p:Hid (_=_):=(hb.block b3 (lH X3.out)).trans X3.out
     have HSM:Hid (Calls Tryz.prog 10 #[.agg #[.slice P40 n30 c40,.slice P41 n31 c41,.slice P42 n32 c42,.slice P43 n33 c43,.slice P44 n34 c44,.slice P45 n35 c45,.slice P46 n36 c46,.slice P47 n37 c47],.agg #[.slice P30 n30 c30,.slice P31 n31 c31,.slice P32 n32 c32,.slice P33 n33 c33,.slice P34 n34 c34,.slice P35 n35 c35,.slice P36 n36 c36,.slice P37 n37 c37]] w12 (EA w12)):=by
      have h:=J_ V4 V3 mx w12 (hM4.below S4.out) ((HMX.below hb).below S4.out);rw [E40.out,E41.out,E42.out,E43.out,E44.out,E45.out,E46.out,E47.out,E30.out,E31.out,E32.out,E33.out,E34.out,E35.out,E36.out,E37.out] at h;exact h
     replace HB:=kB (kB HB hb) S4.out;clear hma hgm hB4 jU hb hM4 e40 e41 e42 e43 e44 e45 e46 e47;obtain ⟨u0,u1,u2,u3,u4,u5,u6,u7,-⟩:=q8 X3p.out;have lb3:=lH X3p.out;have lb4:b3≠w11.heap.size:=by omega
     have akO:w11.heap.size≠b3:=by omega
     go_wp2_with fail;rw [←W4.out]
     try rw [←K4.out]
     (try go_wp2_with fail);refine (HSM.out).mono ?_;rintro e w13 ⟨rfl,hb⟩;replace HB:=kB HB hb;clear hb HSM u0 u1 u2 u3 u4 u5 u6 u7 lb3 lb4 akO;go_wp2_with fail;refine (HLV.out _ HB.out).mono ?_;rintro e w9 ⟨rfl,Ub⟩;have VT:=kB HB Ub;clear Ub;go_wp2_with fail;rw [HF.out];exact ⟨rfl,VT.out⟩
   · have hxb:(ex != 0)=true:=by simpa using hex
     go_wp2_with fail;rw [←W3.out]
     try rw [←K3.out]
     (try go_wp2_with fail);refine (HLV.out _ HB.out).mono ?_;rintro e w9 ⟨rfl,Ub⟩;have VT:=kB HB Ub;clear Ub;go_wp2_with fail;rw [HF.out];exact ⟨rfl,VT.out⟩
set_option linter.unusedSectionVars false
def sg (s:Bs):Tok:=⟨4,0,s,0⟩
def wd (s:Bs):Tok:=⟨3,0,s,0⟩
def wU (s:Bs):Tok:=⟨2,0,s,0⟩
def FX (n:Int):Tok:=⟨1,n,l9 n.natAbs,0⟩
def rR (op n:Int) (s:Bs):List Tok:=
 if op=1 then (if n<0 then [sg [45],FX (-n)] else [FX n]) else if op=2 then (if n=1 then [wd yh] else [wd rD]) else if op=3 then [wU s] else [wd fE,sg [40],wU s,sg [41]]
def qy (op:Int):Tok:=if op=17 then wd [109,111,100] else sg (iy op)
def ifTk (i:Nat):Tok:=wd (if i=0 then wIf else if i=1 then um else uo)
def Bd (p:Bool) (b:List Tok):List Tok:=if p then [sg [40]]++b++[sg [41]] else b
def vI (op n:Int) (s:Bs) (b5 b18 bj:List Tok):List Tok:=
 if op=1∨op=2∨op=3∨op=4 then rR op n s else if op=5 then [sg [33]]++b5 else if op=18 then b18 else bj
mutual
def jW:Tm→Nat→Bool→List Tok
 | .mk op n s l,rule,ends=>
  let p:=decide (bQ op<rule) || (decide (op=18) && !ends)
  Bd p (vI op n s.data.toList (aa7 l (p || ends)) (aes l 0) (gD op l 0 (p || ends)))
def aa7:List Tm→Bool→List Tok
 | [],_=>[]
 | k :: _,ends=>jW k 4 ends
def aes:List Tm→Nat→List Tok
 | [],_=>[]
 | k :: r,i=>[ifTk i]++jW k 0 true++aes r (i+1)
def gD (op:Int):List Tm→Nat→Bool→List Tok
 | [],_,_=>[]
 | k :: r,i,ends=>(if i=0 then [] else [qy op])++jW k (aX op i) (ends && r.isEmpty)++gD op r (i+1) ends
end
def fQ (t:Tm) (ends:Bool):List Tok:=vI t.op t.num t.name.data.toList (aa7 t.kids ends) (aes t.kids 0) (gD t.op t.kids 0 ends)
def parens (t:Tm) (rule:Nat) (ends:Bool):Bool:=decide (bQ t.op<rule) || (decide (t.op=18) && !ends)
theorem M9 (t:Tm) (rule:Nat) (ends:Bool):jW t rule ends=Bd (parens t rule ends) (fQ t (parens t rule ends || ends)):=by
 cases t;rw [jW];rfl
def At (l:List Tok) (i:Nat) (ts:List Tok):Prop:=∀ j t,ts[j]?=some t→∃ u,l[i+j]?=some u∧u.kind=t.kind∧u.n=t.n∧u.text=t.text
theorem At.left {l a b:List Tok} {i:Nat} (h:At l i (a++b)):At l i a:=fun j t hj=>h j t (by rw [List.getElem?_append_left (gE.1 hj).1];exact hj)
theorem At.right {l a b:List Tok} {i:Nat} (h:At l i (a++b)):At l (i+a.length) b:=fun j t hj=>by
 have:=h (a.length+j) t (by rw [List.getElem?_append_right (by omega),Nat.add_sub_cancel_left];exact hj)
 rwa [←Nat.add_assoc] at this
theorem At.head {l b:List Tok} {i:Nat} {t:Tok} (h:At l i (t :: b)):∃ u,l[i]?=some u∧u.kind=t.kind∧u.n=t.n∧u.text=t.text:=h 0 t rfl
theorem At.tail {l b:List Tok} {i:Nat} {t:Tok} (h:At l i (t :: b)):At l (i+1) b:=At.right (a:=[t]) h
theorem At.le {l ts:List Tok} {i:Nat} (h:At l i ts) (h0:ts≠[]):i+ts.length≤l.length:=by
 have hl:0<ts.length:=List.length_pos_iff.2 h0;obtain ⟨u,hu,_⟩:=h (ts.length - 1) _ (gG (by omega));have:=(gE.1 hu).1;omega
section
variable {l:List Tok} {i:Nat} {u:Tok} (hu:l[i]?=some u)
include hu
theorem gL (k:Int) (s:Bs):ah l i k s=(decide (u.kind=k) && decide (u.text=s)):=by unfold ah;rw [hu]
theorem D9 (k:Int):jd l i k=decide (u.kind=k):=by unfold jd;rw [hu]
theorem M_:rC l i=u.n:=by unfold rC;rw [hu]
theorem Jj:pJ l i=u.text:=by unfold pJ;rw [hu]
end
def Follow (l:List Tok) (j k:Nat):Prop:=∀ op:Int,6≤op→op≤17→k≤bQ op→au l j [op]=0
theorem Follow.mono {l:List Tok} {j k m:Nat} (h:Follow l j k) (hk:k≤m):Follow l j m:=fun op h1 h2 h3=>h op h1 h2 (by omega)
theorem Hu {l:List Tok} {j:Nat}:∀ {ops:List Int},(∀ op∈ops,au l j [op]=0∧op≠0)→au l j ops=0
 | [],_=>rfl
 | op :: r,h=>by
  obtain ⟨h1,h2⟩:=h op (by simp);rw [au] at h1 ⊢
  by_cases hc:(if op=17 then ah l j 3 [109,111,100] else ah l j 4 (iy op))=true
  · rw [iP hc] at h1;exact absurd h1 h2
  · rw [iN hc];exact Hu fun o ho=>h o (by simp [ho])
def qz:List Int:=[6,7,8,9,10,11,12,13,14,15,16,17]
theorem mQ {op:Int} (h1:6≤op) (h2:op≤17):op∈qz:=by
 have:op=6∨op=7∨op=8∨op=9∨op=10∨op=11∨op=12∨op=13∨op=14∨op=15∨op=16∨op=17:=by omega
 simpa [qz] using this
theorem aeu:∀ a∈qz,∀ b∈qz,(qy a).kind=(qy b).kind→(qy a).text=(qy b).text→a=b:=by decide
theorem agt:∀ op:Int,(if op=17 then (3:Int) else 4)=(qy op).kind∧(if op=17 then [109,111,100] else iy op)=(qy op).text:=fun op=>by
 unfold qy
 split <;> exact ⟨rfl,rfl⟩
theorem CV {l:List Tok} {j:Nat} {u:Tok} (hu:l[j]?=some u) (op:Int):au l j [op]=if u.kind=(qy op).kind∧u.text=(qy op).text then op else 0:=by
 have h:=agt op;rw [au,gL hu,gL hu,←h.1,←h.2,au]
 by_cases Aj:op=17
 · rw [iP Aj,iP Aj,iP Aj];simp
 · rw [iN Aj,iN Aj,iN Aj];simp
theorem yK {l:List Tok} {j:Nat} {op:Int} {b:List Tok} (h:At l j (qy op :: b)):au l j [op]=op:=by
 obtain ⟨u,hu,hk,-,hx⟩:=h.head;rw [CV hu,iP ⟨hk,hx⟩]
theorem Hw {l:List Tok} {j:Nat} {op op':Int} {b:List Tok} (h:At l j (qy op :: b)) (h1:op∈qz) (h2:op'∈qz) (hne:op'≠op):au l j [op']=0:=by
 obtain ⟨u,hu,hk,-,hx⟩:=h.head;rw [CV hu,iN];rintro ⟨h3,h4⟩;exact hne (aeu op' h2 op h1 (by rw [←h3,hk]) (by rw [←h4,hx]))
theorem FY {l:List Tok} {j:Nat} {op:Int} {b:List Tok} (h:At l j (qy op :: b)) (h1:op∈qz):∀ {ops:List Int},(∀ o∈ops,o∈qz)→op∈ops→au l j ops=op
 | x :: r,hs,hm=>by
  by_cases hx:x=op
  · subst hx;have h2:=yK h;rw [au] at h2 ⊢
    by_cases hc:(if x=17 then ah l j 3 [109,111,100] else ah l j 4 (iy x))=true
    · rw [iP hc]
    · rw [iN hc,au] at h2;subst h2;exact absurd h1 (by decide)
  · have h2:=Hw h h1 (hs x (by simp)) hx;have h3:x≠0:=fun h0=>by have:=hs x (by simp);rw [h0] at this;exact absurd this (by decide)
    rw [au] at h2 ⊢
    by_cases hc:(if x=17 then ah l j 3 [109,111,100] else ah l j 4 (iy x))=true
    · rw [iP hc] at h2;exact absurd h2 h3
    · rw [iN hc];exact FY h h1 (fun o ho=>hs o (by simp [ho])) ((List.mem_cons.1 hm).resolve_left fun e=>hx e.symm)
theorem D_ {l:List Tok} {j k:Nat} {op:Int} {b:List Tok} (h:At l j (qy op :: b)) (h1:6≤op) (h2:op≤17) (hr:bQ op<k):Follow l j k:=fun op' a1 a2 a3=>
 Hw h (mQ h1 h2) (mQ a1 a2) (fun e=>by subst e;omega)
def closes (t:Tok):Prop:=∀ op∈qz,¬(t.kind=(qy op).kind∧t.text=(qy op).text)
theorem Ry {l:List Tok} {j k:Nat} {u:Tok} (hu:l[j]?=some u) (h:closes u):Follow l j k:=fun op a1 a2 _=>by
 rw [CV hu,iN (h op (mQ a1 a2))]
theorem tJ {l b:List Tok} {j k:Nat} {t:Tok} (h:At l j (t :: b)) (hc:closes t):Follow l j k:=by
 obtain ⟨u,hu,hk,-,hx⟩:=h.head;exact Ry hu fun op ho=>by rw [hk,hx];exact hc op ho
end Go.Proofs.YtkhoeoilamddaaaGreatDoor
