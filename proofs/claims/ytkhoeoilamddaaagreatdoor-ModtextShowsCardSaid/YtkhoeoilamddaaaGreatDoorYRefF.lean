/- Walk of the reference of term texts: ref31.Show. -/
import Derived.Test.YtkhoeoilamddaaaGreatDoorYRefD
namespace Go.Proofs.YtkhoeoilamddaaaGreatDoor
open Go.RowKit
set_option linter.unusedVariables false
set_option maxRecDepth 100000
set_option maxHeartbeats 8000000
theorem ZK(t:Tm)(A:Option Addr)(c:Nat)(w:World)(hV:zx w A c t)(hsz:t.size≤9000000) :
 Calls Tryz.prog 66 #[t.val A c] w fun e w'=>e=.returned (.tuple #[.string ⟨(aH t).1.toArray⟩,.int .i64 (aH t).2])∧Below w.heap.size w w':=by
 obtain⟨n,hn⟩:=aj t.kids.length;obtain⟨R,hR⟩:=aj (aH t);obtain⟨F,hF⟩:∃F:Ending→World→Prop,F=fun e w'=>e=.returned (.tuple #[.string ⟨R.1.toArray⟩,.int .i64 R.2])∧Below w.heap.size w w':=⟨_,rfl⟩;rw[←hR,←hF];unfold aH at hR;obtain⟨w1,hw1⟩:=aj (w.alloc (.cells #[.int .i64 t.op,.int .i64 t.num,.string t.name,.slice A n c] 64));have hb1:=dz hw1;have hs1:w.heap.size<w1.heap.size:=by rw[hw1];simp
 have hbx:iM w1 w.heap.size A n c t:=by rw[hw1];exact eu w _
 have hV1:=hV.below hb1 rfl;have hck:=F9 t A c w1 hV1 hsz
 have nV:Hid (∀W,Below w1.heap.size w1 W→W.cell? ⟨w.heap.size,0,none⟩=some (.int .i64 t.op)∧W.cell? ⟨w.heap.size,1,none⟩=some (.int .i64 t.num)∧W.cell? ⟨w.heap.size,2,none⟩=some (.string t.name)∧W.cell? ⟨w.heap.size,3,none⟩=some (.slice A n c)):=fun W hb=>by
  have hx:=hbx.below hb hs1;exact⟨hx.c0,hx.c1,hx.c2,hx.c3⟩
 obtain⟨x0,x1,x2,x3⟩:=nV w1 (Br _ _)
 have HNO:Hid (t.check=0→∀W,Below w1.heap.size w1 W→Calls Tryz.prog 109 #[.agg #[.int .i64 t.op,.int .i64 t.num,.string t.name,.slice A n c]] W fun e w'=>e=.returned (.bool (!iW t))∧Below W.heap.size W w'):=fun h0 W hb=>by
  have h:=acK t.size t A c W 1 (lr _) hsz (nY h0).1 (hV1.below hb rfl);rw[Qj t 1 (nY h0).1]at h;unfold Tm.val at h;rw[←hn]at h;exact h
 have CF:Hid (t.check=0→∀W,Below w1.heap.size w1 W→Calls Tryz.prog 110 #[.agg #[.int .i64 t.op,.int .i64 t.num,.string t.name,.slice A n c],.int .i64 1,.bool false] W fun e w'=>e=.returned (.string ⟨(nU aO t 0 true).toArray⟩)∧Below W.heap.size W w'):=fun h0 W hb=>by
  have h:=acM t.size t 0 true 1 A c W (lr _) hsz (by omega) (nY h0).1 (hV1.below hb rfl);unfold Tm.val at h;rw[←hn]at h;exact h
 have QV:Hid (t.check=0→(nU aO t 0 true).length≤80*t.size):=fun h0=>by
  have:=eY bB t 0 true 1 (nY h0).1;omega
 unfold Tm.val at hck⊢;rw[←hn]at hck⊢;obtain⟨ck,Jg⟩:=aj t.check;rw[←Jg]at hck HNO CF QV hR;obtain⟨tl,htl⟩:=aj (iW t);rw[←htl]at HNO hR;obtain⟨S,hS⟩:=aj (nU aO t 0 true);rw[←hS]at CF hR QV;have HR:=Hd hR;have HF:=Hd hF;have HB1:=Hd hb1;have HW1:=Hd hw1;have IC:=Hd hck;clear hR hF hb1 hw1 hck Jg htl hS hn hV hV1 hbx;go_in;go_wp2_with fail;rw[←HW1];go_wp2_with fail;refine IC.mono ?_;rintro e w2 ⟨rfl,hb2⟩;clear x0 x1 x2 x3;obtain⟨x0,x1,x2,x3⟩:=nV w2 hb2;have hs2:w.heap.size<w2.heap.size:=by have:=hb2.size;omega
 have HB2:=Hd hb2;have J4:=Hd (HB1.trans (hb2.mono (by omega)));clear hb2
 by_cases h0:ck=0
 ·have kU:=Hd (HNO h0 w2 HB2);have HT2:=Hd (CF h0);have hl:=QV h0;have HR2:Hid (R=if tl=false then([],3)else if 65536<S.length then([],4)else(S,0)):=by show _=_;rw[HR,iN (fun h=>h h0)]
  subst h0;go_wp2_with fail;refine kU.mono ?_;rintro e w3 ⟨rfl,hb3⟩;have pV:=aY HB2 hb3;clear x0 x1 x2 x3;obtain⟨x0,x1,x2,x3⟩:=nV w3 pV;have hs3:w.heap.size<w3.heap.size:=by have:=pV.size;omega
  have HB3:=Hd pV;have ak1:=Hd (HB1.trans (pV.mono (by omega)));clear hb3 pV
  cases tl with
  |false=>
   have HR3:Hid (R=([],3)):=by show _=_;rw[HR2,iP rfl]
   go_wp2_with fail;rw[HF,HR3];exact⟨rfl,ak1⟩
  |true=>
   have HR3:Hid (R=if 65536<S.length then([],4)else(S,0)):=by show _=_;rw[HR2,iN (by decide)]
   have HT3:=Hd (HT2 w3 HB3);obtain⟨SB,hSB⟩:∃SB:ByteArray,SB=⟨S.toArray⟩:=⟨_,rfl⟩;have hsb:SB.size=S.length:=by rw[hSB];exact Im S
   rw[←hSB]at HT3;have p9:=Hd hSB;have mg:=Hd hsb;have amg:SB.size≤720000000:=by omega
   clear hSB hsb hl;go_wp2_with fail;refine HT3.mono ?_;rintro e w4 ⟨rfl,hb4⟩;have acN:=Hd (HB1.trans ((aY HB3 hb4).mono (by omega)));clear hb4 x0 x1 x2 x3
   by_cases h6:65536<SB.size
   ·have HR4:Hid (R=([],4)):=by show _=_;rw[HR3,iP (by rw[←mg];exact h6)]
    have h6':(65536:Int)<(SB.size:Int):=by omega
    clear h6;go_wp2_with fail;rw[HF,HR4];exact⟨rfl,acN⟩
   ·have HR4:Hid (R=(S,0)):=by show _=_;rw[HR3,iN (by rw[←mg];exact h6)]
    have h6':¬(65536:Int)<(SB.size:Int):=by omega
    clear h6;go_wp2_with fail;rw[HF,HR4,p9];exact⟨rfl,acN⟩
 ·have HR2:Hid (R=([],ck)):=by show _=_;rw[HR,iP h0]
  have h0':(ck != 0)=true:=by simpa using h0
  clear h0;go_wp2_with fail;rw[HF,HR2];exact⟨rfl,J4⟩
end Go.Proofs.YtkhoeoilamddaaaGreatDoor
