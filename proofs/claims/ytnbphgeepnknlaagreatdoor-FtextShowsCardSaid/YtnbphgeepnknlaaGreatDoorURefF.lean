/- Walk of the reference of term texts: ref31.Show. -/
import Derived.Test.YtnbphgeepnknlaaGreatDoorURefD
namespace Go.Proofs.YtnbphgeepnknlaaGreatDoor
open Go.RowKit
set_option linter.unusedVariables false
set_option maxRecDepth 100000
set_option maxHeartbeats 8000000
theorem rtshow_any (t:Tm) (A:Option Addr) (c:Nat) (w:World) (hV:TmV w A c t) (hsz:t.size≤9000000) :
 Calls Tryz.prog 81 #[t.val A c] w fun e w'=>e=.returned (.tuple #[.string ⟨(showTm t).1.toArray⟩,.int .i64 (showTm t).2])∧Below w.heap.size w w':=by
 obtain ⟨n,hn⟩:=ex_ t.kids.length;obtain ⟨R,hR⟩:=ex_ (showTm t);obtain ⟨F,hF⟩:∃ F:Ending→World→Prop,F=fun e w'=>e=.returned (.tuple #[.string ⟨R.1.toArray⟩,.int .i64 R.2])∧Below w.heap.size w w':=⟨_,rfl⟩;rw [←hR,←hF];unfold showTm at hR;obtain ⟨w1,hw1⟩:=ex_ (w.alloc (.cells #[.int .i64 t.op,.int .i64 t.num,.string t.name,.slice A n c] 25));have hb1:=bAl hw1;have hs1:w.heap.size<w1.heap.size:=by rw [hw1];simp
 have hbx:TBox w1 w.heap.size A n c t:=by rw [hw1];exact hA_ w _
 have hV1:=hV.below hb1 rfl;have hck:=rcheck_any t A c w1 hV1 hsz
 have HXX:Hid (∀ W,Below w1.heap.size w1 W→W.cell? ⟨w.heap.size,0,none⟩=some (.int .i64 t.op)∧W.cell? ⟨w.heap.size,1,none⟩=some (.int .i64 t.num)∧W.cell? ⟨w.heap.size,2,none⟩=some (.string t.name)∧W.cell? ⟨w.heap.size,3,none⟩=some (.slice A n c)):=fun W hb=>by
  have hx:=hbx.below hb hs1;exact ⟨hx.c0,hx.c1,hx.c2,hx.c3⟩
 obtain ⟨x0,x1,x2,x3⟩:=HXX.out w1 (Br _ _)
 have HNO:Hid (t.check=0→∀ W,Below w1.heap.size w1 W→Calls Tryz.prog 151 #[.agg #[.int .i64 t.op,.int .i64 t.num,.string t.name,.slice A n c]] W fun e w'=>e=.returned (.bool (!toldT t))∧Below W.heap.size W w'):=fun h0 W hb=>by
  have h:=rnone_any t.size t A c W 1 (lr _) hsz (check_ok h0).1 (hV1.below hb rfl);rw [none_told t 1 (check_ok h0).1] at h;unfold Tm.val at h;rw [←hn] at h;exact h
 have HTX:Hid (t.check=0→∀ W,Below w1.heap.size w1 W→Calls Tryz.prog 152 #[.agg #[.int .i64 t.op,.int .i64 t.num,.string t.name,.slice A n c],.int .i64 1,.bool false] W fun e w'=>e=.returned (.string ⟨(shw numS t 0 true).toArray⟩)∧Below W.heap.size W w'):=fun h0 W hb=>by
  have h:=rtext_all t.size t 0 true 1 A c W (lr _) hsz (by omega) (check_ok h0).1 (hV1.below hb rfl);unfold Tm.val at h;rw [←hn] at h;exact h
 have HLN:Hid (t.check=0→(shw numS t 0 true).length≤80*t.size):=fun h0=>by
  have:=shw_len numS_short t 0 true 1 (check_ok h0).1;omega
 unfold Tm.val at hck ⊢;rw [←hn] at hck ⊢;obtain ⟨ck,hck0⟩:=ex_ t.check;rw [←hck0] at hck HNO HTX HLN hR;obtain ⟨tl,htl⟩:=ex_ (toldT t);rw [←htl] at HNO hR;obtain ⟨S,hS⟩:=ex_ (shw numS t 0 true);rw [←hS] at HTX hR HLN;have HR:=Hd hR;have HF:=Hd hF;have HB1:=Hd hb1;have HW1:=Hd hw1;have HCK:=Hd hck;clear hR hF hb1 hw1 hck hck0 htl hS hn hV hV1 hbx;go_enter Tryz.func81,Tryz.ntmps81;go_wp2_with fail;rw [←HW1.out];go_wp2_with fail;refine (HCK.out).mono ?_;rintro e w2 ⟨rfl,hb2⟩;clear x0 x1 x2 x3;obtain ⟨x0,x1,x2,x3⟩:=HXX.out w2 hb2;have hs2:w.heap.size<w2.heap.size:=by have:=hb2.size;omega
 have HB2:=Hd hb2;have HBF:=Hd (HB1.out.trans (hb2.mono (by omega)));clear hb2
 by_cases h0:ck=0
 · have HN2:=Hd (HNO.out h0 w2 HB2.out);have HT2:=Hd (HTX.out h0);have hl:=HLN.out h0;have HR2:Hid (R=if tl=false then ([],3) else if 65536<S.length then ([],4) else (S,0)):=by show _=_;rw [HR.out,iN (fun h=>h h0)]
   subst h0;go_wp2_with fail;refine (HN2.out).mono ?_;rintro e w3 ⟨rfl,hb3⟩;have hb13:=keep_step HB2.out hb3;clear x0 x1 x2 x3;obtain ⟨x0,x1,x2,x3⟩:=HXX.out w3 hb13;have hs3:w.heap.size<w3.heap.size:=by have:=hb13.size;omega
   have HB3:=Hd hb13;have HBF3:=Hd (HB1.out.trans (hb13.mono (by omega)));clear hb3 hb13
   cases tl with
   | false=>
    have HR3:Hid (R=([],3)):=by show _=_;rw [HR2.out,iP rfl]
    go_wp2_with fail;rw [HF.out,HR3.out];exact ⟨rfl,HBF3.out⟩
   | true=>
    have HR3:Hid (R=if 65536<S.length then ([],4) else (S,0)):=by show _=_;rw [HR2.out,iN (by decide)]
    have HT3:=Hd (HT2.out w3 HB3.out);obtain ⟨SB,hSB⟩:∃ SB:ByteArray,SB=⟨S.toArray⟩:=⟨_,rfl⟩;have hsb:SB.size=S.length:=by rw [hSB];exact bsz'' S
    rw [←hSB] at HT3;have HSB:=Hd hSB;have HSZ:=Hd hsb;have hsb2:SB.size≤720000000:=by omega
    clear hSB hsb hl;go_wp2_with fail;refine (HT3.out).mono ?_;rintro e w4 ⟨rfl,hb4⟩;have HBF4:=Hd (HB1.out.trans ((keep_step HB3.out hb4).mono (by omega)));clear hb4 x0 x1 x2 x3
    by_cases h6:65536<SB.size
    · have HR4:Hid (R=([],4)):=by show _=_;rw [HR3.out,iP (by rw [←HSZ.out];exact h6)]
      have h6':(65536:Int)<(SB.size:Int):=by omega
      clear h6;go_wp2_with fail;rw [HF.out,HR4.out];exact ⟨rfl,HBF4.out⟩
    · have HR4:Hid (R=(S,0)):=by show _=_;rw [HR3.out,iN (by rw [←HSZ.out];exact h6)]
      have h6':¬(65536:Int)<(SB.size:Int):=by omega
      clear h6;go_wp2_with fail;rw [HF.out,HR4.out,HSB.out];exact ⟨rfl,HBF4.out⟩
 · have HR2:Hid (R=([],ck)):=by show _=_;rw [HR.out,iP h0]
   have h0':(ck != 0)=true:=by simpa using h0
   clear h0;go_wp2_with fail;rw [HF.out,HR2.out];exact ⟨rfl,HBF.out⟩
end Go.Proofs.YtnbphgeepnknlaaGreatDoor
