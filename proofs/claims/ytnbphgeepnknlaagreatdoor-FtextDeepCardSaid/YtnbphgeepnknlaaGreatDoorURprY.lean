/- Walks and plain words: RprY RprZ RpTk. -/
import Derived.Test.YtnbphgeepnknlaaGreatDoorURprU
import Derived.Test.YtnbphgeepnknlaaGreatDoorURefA
namespace Go.Proofs.YtnbphgeepnknlaaGreatDoor
open Go.RowKit
set_option linter.unusedVariables false
set_option maxRecDepth 100000
set_option maxHeartbeats 1000000
theorem rprow_false (l:List Tok) (d:Nat) (P:Par) (hd:d≤256) (hF:FnRB l d 175 true P) (hG:GdP l P) (hZ:NzP P):FnRB l d 175 false (many l 7 P):=by
 intro A c i w hi hP;obtain ⟨n,b6,w1,F,hlen,hlc,hcm,hs1,X6,HB,HP,HP1,HS,HI,HF,HN,HB6,HW1⟩:=rset A c l w hP (GQ w (many l 7 P i));rw [←HF.out,←HN.out];rw [←HN.out] at hi;clear hP
 have HI1:Hid (∀ (i:Nat) (W:World),i≤l.length→TokIn W A c l→Calls Tryz.prog 175 #[.slice A n c,.int .i64 (i:Nat),.int .i64 ((d:Nat):Int),.bool true] W (GQ W (P i))):=by
  intro i W h1 h2;have:=hF A c i W h1 h2;rw [←HN.out] at this;exact this
 obtain ⟨HI1P,HQHI1⟩:=exh_ P;rw [←HQHI1.out] at HI1;have HI1G:Hid (GdP l HI1P):=by show GdP _ _;rw [HQHI1.out];exact hG
 have HI1Z:Hid (NzP HI1P):=by show NzP _;rw [HQHI1.out];exact hZ
 clear hF hG hZ;go_enter Tryz.func175,Tryz.ntmps175;obtain ⟨r,hr⟩:=ex_ (many l 7 P i);have HRE:Hid (F=GQ w r):=by show _=_;rw [HF.out,hr]
 have HR0:Hid (((HI1P i).then fun t j=>manyF l 7 HI1P l.length ([]++[t]) j)=r):=by show _=_;rw [hr,HQHI1.out];rfl
 clear hr;go_wp2_with fail;rw [←HW1.out]
 try rw [←HB6.out]
 go_loopw [1,11] (fun si sv wr=>∃ (acc:List TmE) (i fuel:Nat),si=.int .i64 (i:Nat)∧RowS w l b6 7 HI1P r wr sv acc i fuel) (fun si _ wr=>l.length+1 - (intOf si).toNat)
 case atStart=>exact ⟨[],i,l.length,rfl,⟨X6.out,World.ownsRow_nil _ _ _ _,fun _ h=>by simp at h,HB.out⟩,zl _,by rw [←HN.out];omega,by omega,HR0.out⟩
 case round=>
  obtain ⟨acc,i,fuel,rfl,hS⟩:=hrel;have HS:=Hd hS;have hi2:=hS.il;rw [←HN.out] at hi2;clear hS X6 HB HP1;have X6:=Hd HS.out.b.x6;have HB:=Hd HS.out.b.below;obtain ⟨b7,hb7⟩:=ex_ wr.heap.size;obtain ⟨w5,hw5⟩:=ex_ (wr.alloc (.cells #[.int .i64 0,.int .i64 0,.string ⟨#[]⟩,.slice none 0 0,.int .i64 0,.int .i64 0] 140));have Xb7:=nAl hw5 hb7;have NEb7:Hid (b7≠b6):=by show _≠_;have:=lH X6.out;omega
  have hal:=bAl hw5;have Qb7:=Hd hb7;have Qw5:=Hd hw5;clear hb7 hw5;replace X6:=kX hal X6;replace HB:=kB HB hal;have HBW:Hid (Below wr.heap.size wr w5):=hal;clear hal;have hcf:=HI1.out (i) w5 (by first | omega | (rw [←HN.out];omega)) (HP.out.below HB.out);obtain ⟨r1,HRr1⟩:=exh_ (HI1P (i));rw [←HRr1.out] at hcf;have HC:=Hd hcf;have HGr1:Hid (∀ x k,r1=.ok x k→Gd l (i) x k):=fun x k h=>HI1G.out (i) x k (by rw [←HRr1.out];exact h);have HZr1:Hid (∀ k x,r1=.bad k x→x≠0):=fun k x h=>HI1Z.out (i) k x (by rw [←HRr1.out];exact h);clear hcf;go_wp2_with fail;rw [←Qw5.out,←Qb7.out];refine (HC.out).mono ?_;intro e w6 hq
  rcases r1 with ⟨jb,xb⟩ | ⟨t1,j1⟩
  · obtain ⟨A2,c2,rfl,hV,hb2⟩:=gq_bad.1 hq;have HRR:Hid (F=GQ w (.bad jb xb)):=by show _=_;rw [HRE.out,←HS.out.re,←HRr1.out];rfl
    have hx:=HZr1.out _ _ rfl;have hxb:(xb != 0)=true:=by simpa using hx
    have HV:Hid (TmVS (fun q=>b7<q) w6 A2 c2 zeroTm):=hV.keep Kr (fun q _ h=>by have:=lH Xb7.out;omega);have NLT:Hid (b6<b7):=by show _<_;have:=Qb7.out;have:=lH HS.out.b.x6;omega
    replace X6:=kX hb2 X6;replace Xb7:=kX hb2 Xb7;replace HB:=kB HB hb2;clear hb2 hV hq HC hx;have nb7:b7≠b6:=NEb7.out;obtain ⟨u0,u1,u2,u3,u4,u5,uzq⟩:=q6 Xb7.out;have ul:b7<w6.heap.size:=lH Xb7.out;obtain ⟨v0,v1,v2,v3,v4,v5,vzq⟩:=q6 X6.out;have vl:b6<w6.heap.size:=lH X6.out;go_wp2_with fail;clear u0 uzq u1 u2 u3 u4 u5 ul v0 vzq v1 v2 v3 v4 v5 vl;refine bR (rcG (res6 ((sets6_far nb7.symm).trans X6.out))) rfl ?_;rw [HRR.out];exact gq_end2 (r:=.bad jb xb) (A':=A2) (c':=c2) _ _ _ _ _ _ _ _ _ _ _ _ HB6.out (by have:=HB6.out;have:=NLT.out;omega) HV.out HB.out
  · obtain ⟨A1,c1,rfl,hV,hb2⟩:=gq_ok.1 hq;have HGO:Hid (manyF l 7 HI1P fuel (acc.map TmE.t++[t1]) j1=r):=by show _=_;rw [←HS.out.re,←HRr1.out];rfl
    have HV1:Hid (TmVS (fun q=>b7<q) w6 A1 c1 t1):=hV.keep Kr (fun q _ h=>by have:=lH Xb7.out;omega);have hgd:=HGr1.out _ _ rfl;have hij_j1:=hgd.ij;have hjl_j1:=hgd.jl;rw [←HN.out] at hjl_j1;clear hgd;obtain ⟨n1,HQn1⟩:=exh_ t1.kids.length;rw [←HQn1.out];have HBW6:Hid (Below wr.heap.size wr w6):=HBW.out.trans (hb2.mono HBW.out.size);replace X6:=kX hb2 X6;replace Xb7:=kX hb2 Xb7;replace HB:=kB HB hb2;clear hb2 hV hq HC;obtain ⟨w7,hw7⟩:=ex_ (((((((w6.setCell ⟨b7,0,none⟩ (.int .i64 t1.op)).setCell ⟨b7,1,none⟩ (.int .i64 t1.num)).setCell ⟨b7,2,none⟩ (.string t1.name)).setCell ⟨b7,3,none⟩ (.slice A1 n1 c1)).setCell ⟨b7,4,none⟩ (.int .i64 (j1:Nat))).setCell ⟨b7,5,none⟩ (.int .i64 0)));have nb7:b7≠b6:=NEb7.out;have YX6:Hid (w7.heap[b6]?=some (.cells #[.int .i64 0,.int .i64 0,.string ⟨#[]⟩,.slice none 0 0,.int .i64 0,.int .i64 0] 140 (0,0))):=by show _=_;rw [hw7];exact (sets6_far nb7.symm).trans X6.out
    have YX7:Hid (w7.heap[b7]?=some (.cells #[.int .i64 t1.op,.int .i64 t1.num,.string t1.name,.slice A1 n1 c1,.int .i64 (j1:Nat),.int .i64 0] 140 (0,0))):=by show _=_;rw [hw7];exact res6 Xb7.out
    have YV1:Hid (TmVS (fun q=>b7<q) w7 A1 c1 t1):=by show TmVS _ _ _ _ _;rw [hw7];exact HV1.out.keep (keep6 (by simp)) (fun q _ h=>h)
    have Qw7:=Hd hw7;clear hw7;have HBS:Hid (Below wr.heap.size wr ((((((w6.setCell ⟨b7,0,none⟩ (.int .i64 t1.op)).setCell ⟨b7,1,none⟩ (.int .i64 t1.num)).setCell ⟨b7,2,none⟩ (.string t1.name)).setCell ⟨b7,3,none⟩ (.slice A1 n1 c1)).setCell ⟨b7,4,none⟩ (.int .i64 (j1:Nat))).setCell ⟨b7,5,none⟩ (.int .i64 0))):=below6 HBW6.out (by have:=Qb7.out;omega);obtain ⟨n,hnn⟩:=ex_ acc.length;have HNN:=Hd hnn;have HO7:Hid (((((((w6.setCell ⟨b7,0,none⟩ (.int .i64 t1.op)).setCell ⟨b7,1,none⟩ (.int .i64 t1.num)).setCell ⟨b7,2,none⟩ (.string t1.name)).setCell ⟨b7,3,none⟩ (.slice A1 n1 c1)).setCell ⟨b7,4,none⟩ (.int .i64 (j1:Nat))).setCell ⟨b7,5,none⟩ (.int .i64 0)).ownsRow (b6+1) 25 4 u11 n (flatE acc)):=by show World.ownsRow _ _ _ _ _ _ _;rw [hnn];exact own_below HS.out.b.own HBS.out
    have hcnt:=HS.out.cnt;rw [←hnn] at hcnt;have hsz7:((((((w6.setCell ⟨b7,0,none⟩ (.int .i64 t1.op)).setCell ⟨b7,1,none⟩ (.int .i64 t1.num)).setCell ⟨b7,2,none⟩ (.string t1.name)).setCell ⟨b7,3,none⟩ (.slice A1 n1 c1)).setCell ⟨b7,4,none⟩ (.int .i64 (j1:Nat))).setCell ⟨b7,5,none⟩ (.int .i64 0)).heap.size=w6.heap.size:=by simp
    clear hnn;obtain ⟨i0,hi0,hz0,hz1,hz2⟩:=info_parts infoTm;obtain ⟨u0,u1,u2,u3,u4,u5,uzq⟩:=q6 Xb7.out;have ul:b7<w6.heap.size:=lH Xb7.out
    go_wp2_with (at_builtin;refine wpList_append_lies _ (by rfl) _ _ _ (by rfl) (b6+1) 25 i0 (.agg #[.int .i64 0,.int .i64 0,.string ⟨#[]⟩,.slice none 0 0]) 4 56 Tryz.underlying23 hi0 hz0 hz1 hz2 rfl (by decide) _ n _ (by rfl) (HO7.out.alloc _) ⟨w6.heap.size,0,none⟩ 1 1 [.int .i64 t1.op,.int .i64 t1.num,.string t1.name,.slice A1 n1 c1] (by rfl) rfl (World.news_of_block (by rw [←hsz7];exact hA_ _ _)) (fun u hu=>by simp at hu;rcases hu with rfl | rfl | rfl | rfl <;> rfl) (by decide) ?c3 ?c4 ?c5 (w6.heap.size+1) (by simp) ?_)
    case c3=>unfold maxLen;omega
    case c4=>omega
    case c5=>simp;have:=lH X6.out;omega
    intro g cap w8 hown8 hgrow8 hat8 hlt8;clear u0 uzq u1 u2 u3 u4 u5 ul
    have hBb:=HS.out.b.next (acc:=acc) (t:=t1) (A':=A1) (c':=c1) HB6.out HBS.out ((HV1.out.keep (keep6 (by simp)) (fun q _ h=>by have:=Qb7.out;omega))) (by rw [←HNN.out];unfold TmE.cells;simp only;rw [←HQn1.out];exact hown8) hgrow8 (by
     rcases hat8 with h | h
     · exact .inl h.symm
     · refine .inr (fun q hq=>?_);have e:g=q:=by simpa [Value.ownBlock] using hq
       simp
       omega)
    have hown7:u11.ownBlock≠some b7:=fun e=>by have:=(HS.out.b.own.lt b7 e).2;have:=Qb7.out;omega
    have Yb7:Hid (w8.heap[b7]?=some (.cells #[.int .i64 t1.op,.int .i64 t1.num,.string t1.name,.slice A1 n1 c1,.int .i64 (j1:Nat),.int .i64 0] 140 (0,0))):=by
     show _=_;refine (hgrow8.block b7 (by simp;have:=lH Xb7.out;omega) (fun e=>hown7 e.symm)).trans ?_;exact aK (res6 Xb7.out)
    clear Xb7 X6 HB HV1 hown8 hgrow8 hat8 hown7 HO7 HBS YX6 YX7 YV1 Qw7 HBW6 HBW;have Xb7:=Yb7;have HBb:=Hd hBb;have X6:=Hd hBb.x6;have HB:=Hd hBb.below;clear Yb7 hBb;obtain ⟨m,HM⟩:=exh_ (n+1);rw [←HM.out];rw [←HM.out] at HBb;have hI:=rpsign_any A c j1 l ⟨#[124]⟩ w8 (HP.out.below HB.out) (by omega);rw [←HN.out] at hI;have hw9:whichOp l j1 [7]=if isTk l j1 4 [124] then 7 else 0:=rfl
    by_cases hcl:isTk l j1 4 [124]=true
    · rw [show isTk l j1 4 (bs ⟨#[124]⟩)=true from hcl] at hI;rw [iP hcl] at hw9;have HC:=Hd hI;have hjl2:=isTk_lt hcl;obtain ⟨fu,hfu⟩:∃ fu,fuel=fu+1:=⟨fuel - 1,by have:=HS.out.fu;omega⟩
      have HRN:Hid (((HI1P (j1+1)).then fun u j=>manyF l 7 HI1P fu ((acc++[TmE.mk t1 A1 c1]).map TmE.t++[u]) j)=r):=by
       show _=_;rw [←HGO.out,hfu,many_go (by rw [hw9];decide),List.map_append]
       rfl
      have HFU:Hid (l.length≤fu+(j1+1)):=by show _≤_;have:=HS.out.fu;omega
      clear hI hcl hw9 hfu;obtain ⟨u0,u1,u2,u3,u4,u5,uzq⟩:=q6 Xb7.out;have ul:b7<w8.heap.size:=lH Xb7.out;go_wp2_with fail;refine (HC.out).mono ?_;rintro e w' ⟨rfl,hww⟩;rw [hww];clear hww HC;go_wp2_with fail;clear u0 uzq u1 u2 u3 u4 u5 ul
      go_roundw
      case rel=>exact ⟨acc++[⟨t1,A1,c1⟩],j1+1,fu,by go_num,⟨HBb.out,by rw [List.length_append,←HNN.out];simp;omega,by have:=HN.out;omega,HFU.out,HRN.out⟩⟩
      case measure=>simp [intOf];have:=HN.out;omega
    · have hcf:isTk l j1 4 [124]=false:=by simpa using hcl
      rw [iN hcl] at hw9;rw [show isTk l j1 4 (bs ⟨#[124]⟩)=false from hcf] at hI;have HC:=Hd hI;have HRR:Hid (F=GQ w (.ok (manyEnd 7 ((acc++[TmE.mk t1 A1 c1]).map TmE.t)) j1)):=by show _=_;rw [HRE.out,←HGO.out,many_stop hw9,List.map_append];rfl
      clear hI hcl hcf hw9
      by_cases hm1:m=1
      · subst hm1;obtain rfl:acc=[]:=List.eq_nil_of_length_eq_zero (by have:=HM.out;have:=HNN.out;omega);obtain ⟨y0,y1,y2,y3⟩:=HBb.out.one;obtain ⟨u0,u1,u2,u3,u4,u5,uzq⟩:=q6 Xb7.out;have ul:b7<w8.heap.size:=lH Xb7.out;obtain ⟨v0,v1,v2,v3,v4,v5,vzq⟩:=q6 X6.out;have vl:b6<w8.heap.size:=lH X6.out;go_wp2_with fail;refine (HC.out).mono ?_;rintro e w' ⟨rfl,hww⟩;rw [hww];clear hww HC;go_wp2_with fail;clear u0 uzq u1 u2 u3 u4 u5 ul v0 vzq v1 v2 v3 v4 v5 vl;clear y0 y1 y2 y3;refine bR (rcG (res6 X6.out)) rfl ?_;rw [HRR.out];exact gq_end (r:=.ok t1 j1) (A':=A1) (c':=c1) _ _ _ _ _ _ HB6.out ((HBb.out.vals ⟨t1,A1,c1⟩ (by simp)).keep Kr (fun q _ h=>by have:=h.1;have:=HB6.out;omega)) HB.out
      · have hmb:((m:Int) == 1)=false:=by simp;omega
        have HM1:Hid (m≠1):=hm1;clear hm1;have hml:((acc++[TmE.mk t1 A1 c1]).map TmE.t).length=m:=by rw [List.length_map,List.length_append,←HNN.out,HM.out];rfl
        have HMV:=Hd (HBb.out.many (op:=7) HB6.out);have HML:=Hd hml;clear hml;obtain ⟨u0,u1,u2,u3,u4,u5,uzq⟩:=q6 Xb7.out;have ul:b7<w8.heap.size:=lH Xb7.out;obtain ⟨v0,v1,v2,v3,v4,v5,vzq⟩:=q6 X6.out;have vl:b6<w8.heap.size:=lH X6.out;go_wp2_with fail;refine (HC.out).mono ?_;rintro e w' ⟨rfl,hww⟩;rw [hww];clear hww HC;go_wp2_with fail;clear u0 uzq u1 u2 u3 u4 u5 ul v0 vzq v1 v2 v3 v4 v5 vl;refine bR (rcG (res6 X6.out)) rfl ?_;rw [HRR.out,manyEnd_two (by rw [HML.out];exact HM1.out)];have hend:=gq_end (r:=.ok (tmOf 7 ((acc++[TmE.mk t1 A1 c1]).map TmE.t)) j1) (A':=some ⟨g,0,none⟩) (c':=cap) (.int .i64 7) (.int .i64 0) (.string ⟨#[]⟩) (.slice (some ⟨g,0,none⟩) m cap) (.int .i64 (j1:Nat)) (.int .i64 0) HB6.out HMV.out HB.out;have hk:(gotT (.ok (tmOf 7 ((acc++[TmE.mk t1 A1 c1]).map TmE.t)) j1)).kids.length=m:=HML.out;rw [hk] at hend;exact hend
structure RLvlC (d:Nat) (l:List Tok) (v:Lvl):Prop where
 term:FnR l d 69 v.term
 imp:FnR l d 136 v.imp
 not:FnR l d 202 v.not
theorem gdS_map {l:List Tok} {s:Option Lvl} (h:∀ v,s=some v→GdLvl l v):GdS l (s.map Lvl.term)∧GdS l (s.map Lvl.imp)∧GdS l (s.map Lvl.not):=by
 refine ⟨fun p hp=>?_,fun p hp=>?_,fun p hp=>?_⟩
 · cases s with
   | none=>cases hp
   | some v=>simp at hp;subst hp;exact (h v rfl).term
 · cases s with
   | none=>cases hp
   | some v=>simp at hp;subst hp;exact (h v rfl).imp
 · cases s with
   | none=>cases hp
   | some v=>simp at hp;subst hp;exact (h v rfl).not
theorem nzS_map {s:Option Lvl} (h:∀ v,s=some v→NzP v.term∧NzP v.imp∧NzP v.not):NzS (s.map Lvl.term)∧NzS (s.map Lvl.imp)∧NzS (s.map Lvl.not):=by
 refine ⟨fun p hp=>?_,fun p hp=>?_,fun p hp=>?_⟩
 · cases s with
   | none=>cases hp
   | some v=>simp at hp;subst hp;exact (h v rfl).1
 · cases s with
   | none=>cases hp
   | some v=>simp at hp;subst hp;exact (h v rfl).2.1
 · cases s with
   | none=>cases hp
   | some v=>simp at hp;subst hp;exact (h v rfl).2.2
theorem not_nz {l:List Tok} {s:Option Par} {sum:Par} (hn:NzS s) (h:NzP sum):NzP (notB l s sum):=by
 intro i j e he;unfold notB at he
 split at he
 · rcases then_bad2 he with h1 | ⟨x,k,-,h1⟩
   · exact inner_nz hn _ _ _ h1
   · cases h1
 · rcases then_bad2 he with h1 | ⟨x,k,-,h1⟩
   · exact h _ _ _ h1
   · split at h1
     · cases h1
     · rcases then_bad2 h1 with h1 | ⟨x,k,-,h1⟩
       · exact h _ _ _ h1
       · cases h1
theorem imp_nz {l:List Tok} {s:Option Par} {or:Par} (hn:NzS s) (h:NzP or):NzP (impB l s or):=by
 intro i j e he;unfold impB at he
 rcases then_bad2 he with h1 | ⟨x,k,-,h1⟩
 · exact h _ _ _ h1
 · split at h1
   · cases h1
   · rcases then_bad2 h1 with h1 | ⟨x,k,-,h1⟩
     · exact inner_nz hn _ _ _ h1
     · cases h1
theorem rlvl_step (d:Nat) (l:List Tok) (s:Option Lvl) (v:Lvl) (hd:d≤256) (hs:s=if d=256 then none else some v) (hv:d<256→RLvlC (d+1) l v) (hg:GdLvl l v) (hz:NzP v.term∧NzP v.imp∧NzP v.not):RLvlC d l (lvlB l s):=by
 have ht:s.map Lvl.term=if d=256 then none else some v.term:=by rw [hs];split <;> rfl
 have hi:s.map Lvl.imp=if d=256 then none else some v.imp:=by rw [hs];split <;> rfl
 have hn:s.map Lvl.not=if d=256 then none else some v.not:=by rw [hs];split <;> rfl
 have hsv:∀ v',s=some v'→v'=v:=fun v' h=>by
  rw [hs] at h
  split at h
  · cases h
  · cases h;rfl
 obtain ⟨gt,gi,gn⟩:=gdS_map (l:=l) (s:=s) (fun v' h=>by rw [hsv v' h];exact hg);obtain ⟨zt,zi,zn⟩:=nzS_map (s:=s) (fun v' h=>by rw [hsv v' h];exact hz);have hunit:=rpunit_any l d v.term hd (fun h=>(hv h).term) hg.term hz.1;rw [←ht] at hunit;have gU:=unit_gd gt;have zU:=unit_nz (l:=l) zt;have hprod:=rpsum_true l d _ hd hunit gU zU;have gP:GdP l (prodB l (s.map Lvl.term)):=left_gd (fun op ho=>by simp at ho;omega) gU;have zP:NzP (prodB l (s.map Lvl.term)):=left_nz zU;have hsum:=rpsum_false l d _ hd hprod gP zP;have gS:GdP l (sumB l (s.map Lvl.term)):=left_gd (fun op ho=>by simp at ho;omega) gP;have zS:NzP (sumB l (s.map Lvl.term)):=left_nz zP;have hcmp:=rpcmp_any l d _ hd hsum gS zS;have hnot:=rpnot_any l d _ v.not hd hcmp (fun h=>(hv h).not) hg.not hz.2.2;rw [←hn] at hnot;have hnot':FnR l d 202 (notOf l s):=hnot;have gN:GdP l (notOf l s):=not_gd gn gS;have zN:NzP (notOf l s):=not_nz zn zS;have hand:FnRB l d 175 true (andOf l s):=rprow_true l d _ hd hnot' gN zN;have hor:FnRB l d 175 false (orOf l s):=rprow_false l d _ hd hand (many_gd (.inl rfl) gN) (many_nz zN);have gO:GdP l (orOf l s):=many_gd (.inr rfl) (many_gd (.inl rfl) gN);have zO:NzP (orOf l s):=many_nz (many_nz zN);have himp:=rpimp_any l d _ v.imp hd hor gO zO (fun h=>(hv h).imp) hg.imp hz.2.1;rw [←hi] at himp;have himp':FnR l d 136 (impOf l s):=himp;exact ⟨rpterm_any l d _ hd himp' (imp_gd gi gO) (imp_nz zi zO),himp',hnot'⟩
theorem rlevels (l:List Tok):∀ r d,d+r=256→RLvlC d l (lvl l r)
 | 0,d,h=>by
  rw [lvl];exact rlvl_step d l none (lvl l 0) (by omega) (by rw [iP (by omega)]) (fun h=>by omega) (lvl_gd l 0) (lvl_nz l 0)
 | r+1,d,h=>by
  rw [lvl];exact rlvl_step d l (some (lvl l r)) (lvl l r) (by omega) (by rw [iN (by omega)]) (fun _=>rlevels l r (d+1) (by omega)) (lvl_gd l r) (lvl_nz l r)
set_option linter.unusedSimpArgs false
set_option maxHeartbeats 8000000
theorem tLRpTk {o:Array Oper} {i:Nat} {x:Oper} (h:o.toList[i]?=some x):o[i]?=some x:=by simpa using h
theorem rtake_results (tm:Array Value) (b2:Nat) (z1 z2:Value) (u0 u1 u2 u3:Value) (w:World) (h2:tm[4]?=some (.pointer (some ⟨b2,0,none⟩))) (h3:tm[5]?=some z1) (h4:tm[6]?=some z2) (h:w.heap[b2]?=some (.cells #[u0,u1,u2,u3] 25 (0,0))) :
 (results Tryz.f34 tm).run Tryz.prog w=.ok (.tuple #[.agg #[u0,u1,u2,u3],z1,z2]) w:=by
 obtain ⟨y0,y1,y2,y3,-⟩:=q4 h;unfold results;rw [Tryz.results34];simp only [Array.getD_eq_getD_getElem?];simp [h2,h3,h4,go_sem,y0,y1,y2,y3]
theorem rptake_any (l:List Tok) (A:Option Addr) (c i:Nat) (w:World) (hi:i≤l.length) (hT:TokIn w A c l) :
 Calls Tryz.prog 34 #[.slice A l.length c,.int .i64 (i:Nat)] w (TkQ l w (takeT l i)):=by
 have hlen:=hT.len;have hcap:=hT.cap;have hcapm:=hT.capm;unfold maxLen at hcapm;obtain ⟨n,hn⟩:=ex_ l.length;rw [←hn] at hi hlen hcap ⊢;obtain ⟨F,hF⟩:=ex_ (TkQ l w (takeT l i));rw [←hF];obtain ⟨b4,hb4⟩:=ex_ w.heap.size;obtain ⟨w1,hw1⟩:=ex_ (w.alloc (.cells #[.int .i64 0,.int .i64 0,.string ⟨#[]⟩,.slice none 0 0] 25));have hb1:=bAl hw1;have hx1:w1.heap[b4]?=some (.cells #[.int .i64 0,.int .i64 0,.string ⟨#[]⟩,.slice none 0 0] 25 (0,0)):=by rw [hw1,hb4];exact hA_ w _
 have hs1:w1.heap.size=b4+1:=by rw [hw1,hb4];simp
 have hcall:=(rlevels l 256 0 rfl).term A c i w1 (by rw [←hn];exact hi) (hT.below hb1);rw [←hn] at hcall;obtain ⟨r,hr⟩:=ex_ ((lvl l 256).term i);rw [←hr] at hcall;have HRE:Hid (F=TkQ l w (tkOf i r)):=by show _=_;rw [hF,hr];rfl
 have HGD:Hid (∀ t j,r=.ok t j→Gd l i t j):=fun t j h=>(lvl_gd l 256).term i t j (by rw [←hr];exact h);have HNZ:Hid (∀ j x,r=.bad j x→x≠0):=fun j x h=>(lvl_nz l 256).1 i j x (by rw [←hr];exact h);have HC:=Hd hcall;have HW1:=Hd hw1;have HBQ:=Hd hb4;have HB:=Hd hb1;have X4:=Hd hx1;have HN:=Hd hn;have hi0:¬(i:Int)<0:=by omega
 have hi1:¬(n:Int)<(i:Int):=by omega
 have hbw:w.heap.size≤b4:=by omega
 clear hF hb4 hw1 hb1 hx1 hcall hr hn hT;go_enter Tryz.func34,Tryz.ntmps34;go_wp2_with fail;rw [←HW1.out,←HBQ.out];refine (HC.out).mono ?_;intro e w2 hq
 rcases r with ⟨jb,xb⟩ | ⟨t,j⟩
 · obtain ⟨A',c',rfl,hV,hb2⟩:=gq_bad.1 hq;have hx:=HNZ.out _ _ rfl;have hxb:(xb != 0)=true:=by simpa using hx
   have HRE2:Hid (F=TkQ l w (zeroTm,jb,xb)):=HRE.out;obtain ⟨b7,hb7⟩:=ex_ w2.heap.size;obtain ⟨w3,hw3⟩:=ex_ (w2.alloc (.cells #[.int .i64 0,.int .i64 0,.string ⟨#[]⟩,.slice A' 0 c',.int .i64 (jb:Nat),.int .i64 xb] 140));have X7:=nAl hw3 hb7;have hal:=bAl hw3;have n74:b7≠b4:=by have:=hb2.size;omega
   replace X4:=Hd ((hal.block b4 (by have:=hb2.size;omega)).trans ((hb2.block b4 (by omega)).trans X4.out));replace HB:=Hd (HB.out.trans ((hb2.mono (by omega)).trans (hal.mono (by have:=hb2.size;omega))));have hs7:b7<w3.heap.size:=lH X7.out;have Qw3:=Hd hw3;have Qb7:=Hd hb7;clear hq hV hb2 hal hw3 hb7 hx HC;go_wp2_with fail;rw [←Qw3.out,←Qb7.out];obtain ⟨u0,u1,u2,u3,u4,u5,uzq⟩:=q6 X7.out;(try go_wp2_with fail);clear u0 uzq u1 u2 u3 u4 u5;obtain ⟨wd,hwd⟩:=ex_ w3.drew;have hxd:wd.heap[b7]?=some (.cells #[.int .i64 0,.int .i64 0,.string ⟨#[]⟩,.slice A' 0 c',.int .i64 (jb:Nat),.int .i64 xb] 140 (0,0)):=by rw [hwd];exact X7.out
   have Y4:Hid (wd.heap[b4]?=some (.cells #[.int .i64 0,.int .i64 0,.string ⟨#[]⟩,.slice none 0 0] 25 (0,0))):=by show _=_;rw [hwd];exact X4.out
   have YB:Hid (Below w.heap.size w wd):=by show Below _ _ _;rw [hwd];exact HB.out.drew
   refine wp_region_held_drew (S:=fun w'=>w'.heap[b7]?=some (.cells #[.int .i64 0,.int .i64 0,.string ⟨#[]⟩,.slice A' 0 c',.int .i64 (jb:Nat),.int .i64 xb] 140 (0,0))) (by kernel_rfl) (by rw [←hwd];exact hxd) (fun hHeld=>?_);rw [←hwd] at hHeld ⊢;clear hwd hxd X4 HB;have X4:=Y4;have HB:=YB;clear Y4 YB;refine tkH 0 (v:=?_) (tLRpTk rfl) (Or.inl ⟨by rfl,?hy⟩) (by assumption) ?_
   case hy=>
    intro w0 hSw;obtain ⟨h0,h1,h2,h3,h4,h5,-⟩:=q6 hSw;clear hSw;go_simp
    (first | done | with_reducible rfl)
   (try simp only [Act.put,sAr,sZe,sSu]);refine tkH 1 (v:=?_) (tLRpTk rfl) (Or.inl ⟨by rfl,?hy⟩) (by assumption) ?_
   case hy=>
    intro w0 hSw;obtain ⟨h0,h1,h2,h3,h4,h5,-⟩:=q6 hSw;clear hSw;go_simp
    (first | done | with_reducible rfl)
   (try simp only [Act.put,sAr,sZe,sSu]);refine tkH 2 (v:=?_) (tLRpTk rfl) (Or.inl ⟨by rfl,?hy⟩) (by assumption) ?_
   case hy=>
    intro w0 hSw;obtain ⟨h0,h1,h2,h3,h4,h5,-⟩:=q6 hSw;clear hSw;go_simp
    (first | done | with_reducible rfl)
   (try simp only [Act.put,sAr,sZe,sSu]);refine tkH 3 (v:=?_) (tLRpTk rfl) (Or.inl ⟨by rfl,?hy⟩) (by assumption) ?_
   case hy=>
    intro w0 hSw;obtain ⟨h0,h1,h2,h3,h4,h5,-⟩:=q6 hSw;clear hSw;go_simp
    (first | done | with_reducible rfl)
   (try simp only [Act.put,sAr,sZe,sSu]);refine tkH 4 (v:=?_) (tLRpTk rfl) (Or.inl ⟨by rfl,?hy⟩) (by assumption) ?_
   case hy=>
    intro w0 hSw;obtain ⟨h0,h1,h2,h3,h4,h5,-⟩:=q6 hSw;clear hSw;go_simp
    (first | done | with_reducible rfl)
   (try simp only [Act.put,sAr,sZe,sSu]);refine Rd (rs:=[5]) (by kernel_rfl) (by simp) ?_;refine Rc (tLRpTk rfl) (fun K hK=>?_) Rn;obtain ⟨v0,v1,v2,v3,vzq⟩:=q4 X4.out;go_simp;clear v0 vzq v1 v2 v3;refine hK.out _ _ ((sets4_far n74).trans hHeld) (fun hHeld=>?_);clear hK K;(try simp only [Act.put,sAr,sZe,sSu]);refine tkH 6 (v:=?_) (tLRpTk rfl) (Or.inl ⟨by rfl,?hy⟩) (by assumption) ?_
   case hy=>
    intro w0 hSw;obtain ⟨h0,h1,h2,h3,h4,h5,-⟩:=q6 hSw;clear hSw;go_simp
    (first | done | with_reducible rfl)
   (try simp only [Act.put,sAr,sZe,sSu]);refine tkH 7 (v:=?_) (tLRpTk rfl) (Or.inl ⟨by rfl,?hy⟩) (by assumption) ?_
   case hy=>
    intro w0 hSw;obtain ⟨h0,h1,h2,h3,h4,h5,-⟩:=q6 hSw;clear hSw;go_simp
    (first | done | with_reducible rfl)
   (try simp only [Act.put,sAr,sZe,sSu]);refine wpAnyH_done (by kernel_rfl) ?_ _;clear hHeld;go_wp2_with fail;obtain ⟨WW,hWW⟩:=ex_ (((((wd.setCell ⟨b4,0,none⟩ (.int .i64 0)).setCell ⟨b4,1,none⟩ (.int .i64 0)).setCell ⟨b4,2,none⟩ (.string ⟨#[]⟩)).setCell ⟨b4,3,none⟩ (.slice none 0 0)));have hrow:WW.heap[b4]?=some (.cells #[.int .i64 0,.int .i64 0,.string ⟨#[]⟩,.slice none 0 0] 25 (0,0)):=by rw [hWW];exact res4 X4.out
   have HBF:Hid (Below w.heap.size w WW):=by
    show Below _ _ _;rw [hWW];have hb:w.heap.size≤b4:=by rw [HBQ.out];exact lr _
    exact (((((Ob (F:=fun q=>w.heap.size≤q) HB.out).setF hb _).setF hb _).setF hb _).setF hb _).below (fun q h=>h) (lr _)
   rw [←hWW];clear hWW;refine bR (rtake_results _ b4 _ _ _ _ _ _ _ rfl rfl rfl hrow) rfl ?_;rw [HRE2.out];exact ⟨none,0,rfl,TmVS.leaf (zl _),HBF.out⟩
 · obtain ⟨A',c',rfl,hV,hb2⟩:=gq_ok.1 hq;have HGT:=Hd (HGD.out _ _ rfl);obtain ⟨n2,hn2⟩:=ex_ t.kids.length;rw [←hn2];have HRE2:Hid (F=TkQ l w (if t.check=0 then (t,j,0) else (zeroTm,i,t.check))):=HRE.out;obtain ⟨b7,hb7⟩:=ex_ w2.heap.size;obtain ⟨w3,hw3⟩:=ex_ (w2.alloc (.cells #[.int .i64 t.op,.int .i64 t.num,.string t.name,.slice A' n2 c',.int .i64 (j:Nat),.int .i64 0] 140));have X7:=nAl hw3 hb7;have hal:=bAl hw3;have n74:b7≠b4:=by have:=hb2.size;omega
   have Y4:=Hd ((hal.block b4 (by have:=hb2.size;omega)).trans ((hb2.block b4 (by omega)).trans X4.out));have YB:=Hd (HB.out.trans ((hb2.mono (by omega)).trans (hal.mono (by have:=hb2.size;omega))));have hs7:b7<w3.heap.size:=lH X7.out;have Qw3:=Hd hw3;have Qb7:=Hd hb7;have hV3:TmVS (fun q=>w1.heap.size≤q) w3 A' c' t:=hV.keep (Kb hal) (fun _ _ h=>h);have hck:=rcheck_any t A' c' w3 hV3.toV (by have h1:=HGT.out.sz;have h2:=HGT.out.ij;have h3:=HGT.out.jl;rw [←HN.out] at h3;omega);unfold Tm.val at hck;rw [←hn2] at hck;have HCK:=Hd hck;have HV3:=Hd hV3;have HN2:=Hd hn2;clear hq hV hb2 hal hw3 hb7 X4 HB HC hV3 hck hn2;have X4:=Y4;have HB:=YB;clear Y4 YB;go_wp2_with fail;rw [←Qw3.out,←Qb7.out];obtain ⟨u0,u1,u2,u3,u4,u5,uzq⟩:=q6 X7.out;(try go_wp2_with fail);refine (HCK.out).mono ?_;rintro e w4 ⟨rfl,hb4c⟩;have hs4:=hb4c.size;have Y7:=Hd ((hb4c.block b7 hs7).trans X7.out);have Y4:=kX hb4c X4;have YB:=kB HB hb4c;have HV4:Hid (TmVS (fun q=>w1.heap.size≤q) w4 A' c' t):=HV3.out.keep (Kb hb4c) (fun _ _ h=>h);clear u0 uzq u1 u2 u3 u4 u5 X7 X4 HB HCK hb4c;have X7:=Y7;have X4:=Y4;have HB:=YB;clear Y7 Y4 YB
   by_cases hz:t.check=0
   · rw [hz];have HRE3:Hid (F=TkQ l w (t,j,0)):=by show _=_;rw [HRE2.out,iP hz]
     clear hz;go_wp2_with fail;obtain ⟨wd,hwd⟩:=ex_ w4.drew;have hxd:wd.heap[b7]?=some (.cells #[.int .i64 t.op,.int .i64 t.num,.string t.name,.slice A' n2 c',.int .i64 (j:Nat),.int .i64 0] 140 (0,0)):=by rw [hwd];exact X7.out
     have Y4:Hid (wd.heap[b4]?=some (.cells #[.int .i64 0,.int .i64 0,.string ⟨#[]⟩,.slice none 0 0] 25 (0,0))):=by show _=_;rw [hwd];exact X4.out
     have YB:Hid (Below w.heap.size w wd):=by show Below _ _ _;rw [hwd];exact HB.out.drew
     have HVd:Hid (TmVS (fun q=>w1.heap.size≤q) wd A' c' t):=by show TmVS _ _ _ _ _;rw [hwd];exact HV4.out.keep ⟨lr _,fun _ _ _=>rfl⟩ (fun _ _ h=>h)
     refine wp_region_held_drew (S:=fun w'=>w'.heap[b7]?=some (.cells #[.int .i64 t.op,.int .i64 t.num,.string t.name,.slice A' n2 c',.int .i64 (j:Nat),.int .i64 0] 140 (0,0))) (by kernel_rfl) (by rw [←hwd];exact hxd) (fun hHeld=>?_);rw [←hwd] at hHeld ⊢;clear hwd hxd X4 HB;have X4:=Y4;have HB:=YB;clear Y4 YB;refine tkH 0 (v:=?_) (tLRpTk rfl) (Or.inl ⟨by rfl,?hy⟩) (by assumption) ?_
     case hy=>
      intro w0 hSw;obtain ⟨h0,h1,h2,h3,h4,h5,-⟩:=q6 hSw;clear hSw;go_simp
      (first | done | with_reducible rfl)
     (try simp only [Act.put,sAr,sZe,sSu]);refine tkH 1 (v:=?_) (tLRpTk rfl) (Or.inl ⟨by rfl,?hy⟩) (by assumption) ?_
     case hy=>
      intro w0 hSw;obtain ⟨h0,h1,h2,h3,h4,h5,-⟩:=q6 hSw;clear hSw;go_simp
      (first | done | with_reducible rfl)
     (try simp only [Act.put,sAr,sZe,sSu]);refine tkH 2 (v:=?_) (tLRpTk rfl) (Or.inl ⟨by rfl,?hy⟩) (by assumption) ?_
     case hy=>
      intro w0 hSw;obtain ⟨h0,h1,h2,h3,h4,h5,-⟩:=q6 hSw;clear hSw;go_simp
      (first | done | with_reducible rfl)
     (try simp only [Act.put,sAr,sZe,sSu]);refine tkH 3 (v:=?_) (tLRpTk rfl) (Or.inl ⟨by rfl,?hy⟩) (by assumption) ?_
     case hy=>
      intro w0 hSw;obtain ⟨h0,h1,h2,h3,h4,h5,-⟩:=q6 hSw;clear hSw;go_simp
      (first | done | with_reducible rfl)
     (try simp only [Act.put,sAr,sZe,sSu]);refine Rd (rs:=[4]) (by kernel_rfl) (by simp) ?_;refine Rc (tLRpTk rfl) (fun K hK=>?_) Rn;obtain ⟨v0,v1,v2,v3,vzq⟩:=q4 X4.out;go_simp;clear v0 vzq v1 v2 v3;refine hK.out _ _ ((sets4_far n74).trans hHeld) (fun hHeld=>?_);clear hK K;(try simp only [Act.put,sAr,sZe,sSu]);refine tkH 5 (v:=?_) (tLRpTk rfl) (Or.inl ⟨by rfl,?hy⟩) (by assumption) ?_
     case hy=>
      intro w0 hSw;obtain ⟨h0,h1,h2,h3,h4,h5,-⟩:=q6 hSw;clear hSw;go_simp
      (first | done | with_reducible rfl)
     (try simp only [Act.put,sAr,sZe,sSu]);refine tkH 6 (v:=?_) (tLRpTk rfl) (Or.inl ⟨by rfl,?hy⟩) (by assumption) ?_
     case hy=>
      intro w0 hSw;obtain ⟨h0,h1,h2,h3,h4,h5,-⟩:=q6 hSw;clear hSw;go_simp
      (first | done | with_reducible rfl)
     (try simp only [Act.put,sAr,sZe,sSu]);refine wpAnyH_done (by kernel_rfl) ?_ _;clear hHeld;go_wp2_with fail;obtain ⟨WW,hWW⟩:=ex_ (((((wd.setCell ⟨b4,0,none⟩ (.int .i64 t.op)).setCell ⟨b4,1,none⟩ (.int .i64 t.num)).setCell ⟨b4,2,none⟩ (.string t.name)).setCell ⟨b4,3,none⟩ (.slice A' n2 c')));have hrow:WW.heap[b4]?=some (.cells #[.int .i64 t.op,.int .i64 t.num,.string t.name,.slice A' n2 c'] 25 (0,0)):=by rw [hWW];exact res4 X4.out
     have HBF:Hid (Below w.heap.size w WW):=by
      show Below _ _ _;rw [hWW];have hb:w.heap.size≤b4:=by rw [HBQ.out];exact lr _
      exact (((((Ob (F:=fun q=>w.heap.size≤q) HB.out).setF hb _).setF hb _).setF hb _).setF hb _).below (fun q h=>h) (lr _)
     have HVF:Hid (TmVS (fun q=>w.heap.size≤q) WW A' c' t):=by
      show TmVS _ _ _ _ _;rw [hWW];exact HVd.out.keep ((((KeepS.refl.set (by omega) _).set (by omega) _).set (by omega) _).set (by omega) _) (fun q _ h=>by have:=HBQ.out;omega)
     rw [←hWW];clear hWW;refine bR (rtake_results _ b4 _ _ _ _ _ _ _ rfl rfl rfl hrow) rfl ?_;rw [HRE3.out];exact ⟨A',c',by unfold Tm.val;rw [←HN2.out];rfl,HVF.out,HBF.out⟩
   · have hzb:(t.check != 0)=true:=by simpa using hz
     have HRE3:Hid (F=TkQ l w (zeroTm,i,t.check)):=by show _=_;rw [HRE2.out,iN hz]
     obtain ⟨ck,hck⟩:=ex_ t.check;rw [←hck] at hzb HRE3 ⊢;clear hz hck;obtain ⟨v0,v1,v2,v3,vzq⟩:=q4 X4.out;go_wp2_with fail;clear v0 vzq v1 v2 v3;obtain ⟨WW,hWW⟩:=ex_ (((((w4.setCell ⟨b4,0,none⟩ (.int .i64 0)).setCell ⟨b4,1,none⟩ (.int .i64 0)).setCell ⟨b4,2,none⟩ (.string ⟨#[]⟩)).setCell ⟨b4,3,none⟩ (.slice none 0 0)));have hrow:WW.heap[b4]?=some (.cells #[.int .i64 0,.int .i64 0,.string ⟨#[]⟩,.slice none 0 0] 25 (0,0)):=by rw [hWW];exact res4 X4.out
     have HBF:Hid (Below w.heap.size w WW):=by
      show Below _ _ _;rw [hWW];have hb:w.heap.size≤b4:=by rw [HBQ.out];exact lr _
      exact (((((Ob (F:=fun q=>w.heap.size≤q) HB.out).setF hb _).setF hb _).setF hb _).setF hb _).below (fun q h=>h) (lr _)
     rw [←hWW];clear hWW;refine bR (rtake_results _ b4 _ _ _ _ _ _ _ rfl rfl rfl hrow) rfl ?_;rw [HRE3.out];exact ⟨none,0,rfl,TmVS.leaf (zl _),HBF.out⟩
end Go.Proofs.YtnbphgeepnknlaaGreatDoor
