/- Walks of the reference of formula texts: ref33.text whole, Show. -/
import Derived.Test.YtkhoeoilamddaaaGreatDoorYRefGx
namespace Go.Proofs.YtkhoeoilamddaaaGreatDoor
open Go.RowKit
set_option linter.unusedVariables false
set_option maxRecDepth 100000
set_option maxHeartbeats 8000000
theorem ZU:∀N,rX N:=by
 intro N
 induction N with
 |zero=>
  intro f least d Ae ce A c w hN;cases f;rw[Fm.size]at hN;omega
 |succ N ih=>
  intro f least d Ae ce A c w hN hok hws hsz hl hV
  by_cases ho:f.op=1
  ·exact ZQ N ih f least d Ae ce A c w hN hok hws hsz hl hV ho
  ·exact amN N ih f least d Ae ce A c w hN hok hws hsz hl hV ho
theorem aiA(t:Fm)(Ae:Option Addr)(ce:Nat)(A:Option Addr)(c:Nat)(w:World)(hV:pO w Ae ce A c t)(hws:t.bT≤9000000) :
 Calls Tryz.prog 67 #[t.val Ae ce A c] w fun e w'=>e=.returned (.tuple #[.string ⟨(dX t).1.toArray⟩,.int .i64 (dX t).2])∧Below w.heap.size w w':=by
 obtain⟨n,hn⟩:=aj t.kids.length;obtain⟨ne,hne⟩:=aj t.tm.kids.length;obtain⟨R,hR⟩:=aj (dX t);obtain⟨F,hF⟩:∃F:Ending→World→Prop,F=fun e w'=>e=.returned (.tuple #[.string ⟨R.1.toArray⟩,.int .i64 R.2])∧Below w.heap.size w w':=⟨_,rfl⟩;rw[←hR,←hF];unfold dX at hR;obtain⟨w1,hw1⟩:=aj (w.alloc (.cells #[.int .i64 t.op,.int .i64 t.tm.op,.int .i64 t.tm.num,.string t.tm.name,.slice Ae ne ce,.slice A n c] 67));have hb1:=dz hw1;have hs1:w.heap.size<w1.heap.size:=by rw[hw1];simp
 have hbx:iJ w1 w.heap.size Ae ne ce A n c t:=by rw[hw1];exact eu w _
 have hV1:=hV.below hb1 rfl;have hck:=Ke t Ae ce A c w1 hV1 hws
 have nV:Hid (∀W,Below w1.heap.size w1 W→W.cell? ⟨w.heap.size,0,none⟩=some (.int .i64 t.op)∧W.cell? ⟨w.heap.size,1,none⟩=some (.int .i64 t.tm.op)∧W.cell? ⟨w.heap.size,2,none⟩=some (.int .i64 t.tm.num)∧W.cell? ⟨w.heap.size,3,none⟩=some (.string t.tm.name)∧W.cell? ⟨w.heap.size,4,none⟩=some (.slice Ae ne ce)∧W.cell? ⟨w.heap.size,5,none⟩=some (.slice A n c)):=fun W hb=>by
  have hx:=hbx.below hb hs1;exact⟨hx.c0,hx.c1,hx.c2,hx.c3,hx.c4,hx.c5⟩
 obtain⟨x0,x1,x2,x3,x4,x5⟩:=nV w1 (Br _ _)
 have CF:Hid (t.check=0→∀W,Below w1.heap.size w1 W→Calls Tryz.prog 112 #[.agg #[.int .i64 t.op,.int .i64 t.tm.op,.int .i64 t.tm.num,.string t.tm.name,.slice Ae ne ce,.slice A n c],.int .i64 1] W (xQ t 1 W)):=fun h0 W hb=>by
  obtain⟨h1,h2⟩:=qI h0;have h:=ZU t.size t 1 1 Ae ce A c W (lr _) h1 hws (by omega) (by omega) (hV1.below hb rfl);unfold Fm.val at h;rw[←hn,←hne]at h;exact h
 have QV:Hid (t.check=0→(aG t 1).1.length≤65600*4096):=fun h0=>by
  have:=dM t 1;have:=(qI h0).2;show _≤_;omega
 unfold Fm.val at hck⊢;rw[←hn,←hne]at hck⊢;obtain⟨ck,Jg⟩:=aj t.check;rw[←Jg]at hck CF QV hR;obtain⟨X,hX⟩:=aj (aG t 1);unfold xQ at CF;rw[←hX]at CF QV hR;have HR:=Hd hR;have HF:=Hd hF;have HB1:=Hd hb1;have HW1:=Hd hw1;have IC:=Hd hck;clear hR hF hb1 hw1 hck Jg hX hn hne hV hV1 hbx;go_in;go_wp2_with fail;rw[←HW1];go_wp2_with fail;refine IC.mono ?_;rintro e w2 ⟨rfl,hb2⟩;clear x0 x1 x2 x3 x4 x5;obtain⟨x0,x1,x2,x3,x4,x5⟩:=nV w2 hb2;have hs2:w.heap.size<w2.heap.size:=by have:=hb2.size;omega
 have HB2:=Hd hb2;have J4:=Hd (HB1.trans (hb2.mono (by omega)));clear hb2
 by_cases h0:ck=0
 ·have HT2:=Hd (CF h0 w2 HB2);have hl:=QV h0;have HR2:Hid (R=if X.2≠0 then([],X.2)else if 65536<X.1.length then([],4)else(X.1,0)):=by show _=_;rw[HR,iN (fun h=>h h0)]
  have HL:=Hd hl;subst h0;clear hl;go_wp2_with fail;refine HT2.mono ?_;rintro e w4 ⟨s,rfl,hs,hb4⟩;have acN:=Hd (HB1.trans ((aY HB2 hb4).mono (by omega)));have HS:=Hd hs;clear hb4 hs x0 x1 x2 x3 x4 x5
  by_cases hx:X.2=0
  ·have hxb:(X.2 != 0)=false:=by simpa using hx
   have hsx:=HS hx;have hsz:s.size=X.1.length:=by rw[←hsx];rfl
   have HSX:Hid ((⟨X.1.toArray⟩:ByteArray)=s):=by show _=_;rw[←hsx];rfl
   have HR3:Hid (R=if 65536<X.1.length then([],4)else(X.1,0)):=by show _=_;rw[HR2,iN (fun h=>h hx)]
   have hsl:s.size≤65600*4096:=by rw[hsz];exact HL
   have mg:=Hd hsz;clear hx hsx hsz
   by_cases h6:65536<s.size
   ·have HR4:Hid (R=([],4)):=by show _=_;rw[HR3,iP (by rw[←mg];exact h6)]
    have h6':(65536:Int)<(s.size:Int):=by omega
    clear h6;go_wp2_with fail;rw[HF,HR4];exact⟨rfl,acN⟩
   ·have HR4:Hid (R=(X.1,0)):=by show _=_;rw[HR3,iN (by rw[←mg];exact h6)]
    have h6':¬(65536:Int)<(s.size:Int):=by omega
    clear h6;go_wp2_with fail;rw[HF,HR4,HSX];exact⟨rfl,acN⟩
  ·have hxb:(X.2 != 0)=true:=by simpa using hx
   have HR3:Hid (R=([],X.2)):=by show _=_;rw[HR2,iP hx]
   clear hx;go_wp2_with fail;rw[HF,HR3];exact⟨rfl,acN⟩
 ·have HR2:Hid (R=([],ck)):=by show _=_;rw[HR,iP h0]
  have h0':(ck != 0)=true:=by simpa using h0
  clear h0;go_wp2_with fail;rw[HF,HR2];exact⟨rfl,J4⟩
end Go.Proofs.YtkhoeoilamddaaaGreatDoor
