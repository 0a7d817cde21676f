/- Walks and plain words: LexF RpTp RfTp. -/
import Derived.Test.YtnbphgeepnknlaaGreatDoorURfTk
namespace Go.Proofs.YtnbphgeepnknlaaGreatDoor
open Go.RowKit
set_option linter.unusedVariables false
set_option maxRecDepth 100000
set_option maxHeartbeats 4000000
theorem rnext_any (s:ByteArray) (p:Int) (w:World) (hs:s.size≤1000000) :
 Calls Tryz.prog 68 #[.string s,.int .i64 p] w fun e w'=>e=.returned (nextV (nextAt (bs s) p))∧Below w.heap.size w w':=by
 by_cases ho:p<0∨((bs s).length:Int)<p
 · rw [nextAt_out ho];rw [bs_length] at ho
   by_cases h0:p<0
   · clear ho;go_enter Tryz.func68,Tryz.ntmps68
     go_wp2
     refine bR (rnext_results _ _ w.heap.size _ _ _ _ _ _ rfl rfl rfl (fun o ho=>World.cell?_alloc_at _ _ _ _ rfl)) rfl ⟨?_,?_⟩
     · rfl
     · exact (Br _ _).alloc (lr _) _
   · have h1:(s.size:Int)<p:=by omega
     clear ho;go_enter Tryz.func68,Tryz.ntmps68
     go_wp2
     refine bR (rnext_results _ _ w.heap.size _ _ _ _ _ _ rfl rfl rfl (fun o ho=>World.cell?_alloc_at _ _ _ _ rfl)) rfl ⟨?_,?_⟩
     · rfl
     · exact (Br _ _).alloc (lr _) _
 · obtain ⟨n,rfl⟩:∃ n:Nat,p=n:=⟨p.toNat,by omega⟩;rw [nextAt_in (by omega)];exact rnext_in s n w hs (by rw [bs_length] at ho;omega)
theorem Tryz.infoR:(Tryz.prog.info? 77).map (fun i=>(i.zero,i.size,i.bytes))=some (some (.agg #[.int .i64 0,.int .i64 0,.string ⟨#[]⟩,.int .i64 0]),4,40):=by kernel_rfl
theorem rall_any (s:ByteArray) (w:World) (hs:s.size≤1000000) :
 Calls Tryz.prog 33 #[.string s] w fun e w'=>∃ v,e=.returned (.tuple #[v,.int .i64 (all (bs s)).2.1,.int .i64 (all (bs s)).2.2])∧w'.ownsRow w.heap.size 77 4 v (all (bs s)).1.length (flat (all (bs s)).1)∧Below w.heap.size w w':=by
 by_cases h1:65536<s.size
 · have h1':(65536:Int)<(s.size:Int):=by omega
   have HA:=Hd (show all (bs s)=([],0,4) from iP (by rw [bs_length];exact h1));clear h1;go_enter Tryz.func33,Tryz.ntmps33
   go_wp2
   go_ret3
   rw [HA.out];exact ⟨_,rfl,⟨rfl,.inl ⟨rfl,rfl⟩⟩,Br _ _⟩
 · have h1':¬(65536:Int)<(s.size:Int):=by omega
   have HA:=Hd (show all (bs s)=allFrom (bs s) 0 [] from iN (by rw [bs_length];exact h1));have h65:s.size≤65536:=by omega
   clear h1;obtain ⟨i0,hi,hz0,hz1,hz2⟩:=info_parts Tryz.infoR;go_enter Tryz.func33,Tryz.ntmps33;go_wp2_with fail
   go_loopw [5,6] (fun sv si wr=>∃ (p:Nat) (acc:List Tok),p≤s.size∧si=.int .i64 p∧wr.ownsRow w.heap.size 77 4 sv acc.length (flat acc)∧acc.length≤p∧allFrom (bs s) 0 []=allFrom (bs s) p acc∧Below w.heap.size w wr) (fun _ i _=>s.size - (intOf i).toNat)
   case atStart=>exact ⟨0,[],zl _,rfl,World.ownsRow_made _ _ 0 (lr _) (zl _) rfl,zl _,rfl,(Br _ _).alloc (lr _) _⟩
   case round=>
    obtain ⟨p,acc,hp,rfl,how,hle,hall,hbel⟩:=hrel;have HO:=Hd how;have HL:=Hd hall;have HB:=Hd hbel;have hsz:=hbel.size;have HN:=Hd (rnext_any s p wr hs);clear how hall hbel;rw [nextAt_in (by rw [bs_length];exact hp)] at HN;have hok:=next_ok (l:=bs s) (p:=p) (by rw [bs_length];exact hp);have hend:=allFrom_end (l:=bs s) (p:=p) (acc:=acc);have herr:=allFrom_err (l:=bs s) (p:=p) (acc:=acc);have hmore:=allFrom_more (l:=bs s) (p:=p) (acc:=acc) (by rw [bs_length];exact hp);rw [bs_length] at hok;have HOK:=Hd hok;have HEND:=Hd hend;have HERR:=Hd herr;have HMORE:=Hd hmore;clear hok hend herr hmore
    generalize next (bs s) p=x at *
    obtain ⟨⟨tk,tn,tt,ta⟩,q,e⟩:=x;unfold nextV Tok.val Tok.cells at HN
    dsimp only at HN HOK HEND HERR HMORE
    by_cases he:e=0
    · subst he;have hok:=HOK.out rfl
      by_cases hk:tk=5
      · have HE:=Hd (HEND.out rfl hk);subst hk;clear hok;go_wp2_with fail;refine (HN.out).mono ?_;rintro e w2 ⟨rfl,hb2⟩;have HB2:=Hd hb2;clear hb2
        go_wp2
        go_ret3
        rw [HA.out,HL.out,HE.out];exact ⟨_,rfl,ownsRow_below HO.out (HB2.out.alloc HB2.out.size _),HB.out.trans ((HB2.out.alloc HB2.out.size _).mono hsz)⟩
      · have HE:=Hd (HMORE.out rfl hk);have hk':(tk == 5)=false:=by simpa using hk
        have hq1:p<q∧q≤s.size:=by
         rcases hok with ⟨h,_⟩ | ⟨_,h1,h2⟩
         · exact absurd h hk
         · exact ⟨h1,h2⟩
        obtain ⟨hq1,hq2⟩:=hq1;clear hok hk;go_wp2_with fail;refine (HN.out).mono ?_;rintro e w2 ⟨rfl,hb2⟩;have HB2:=Hd hb2;have hsz2:=hb2.size;have hB3:=Hd (hb2.alloc hb2.size (.cells #[.int .i64 tk,.int .i64 tn,.string ⟨tt.toArray⟩,.int .i64 ta] 77));have HO2:=Hd (ownsRow_below HO.out hB3.out);have hlt:=(ownsRow_below HO.out hb2).lt;have HLT:=Hd hlt;clear hb2 hlt
        go_wp2_with (at_builtin;refine wpList_append_own _ rfl _ _ 73 rfl w.heap.size 77 i0 _ 4 40 Tryz.underlying73 hi hz0 hz1 hz2 rfl (by decide) _ _ _ rfl (HO2.out.alloc _) ⟨w2.heap.size+1,0,none⟩ 1 1 (tokL ⟨tk,tn,tt,ta⟩) rfl rfl ?c1 ?c2 ?c3 ?c4 ?c5 ?_)
        case c1=>exact World.news_of_block (cs:=#[.int .i64 tk,.int .i64 tn,.string ⟨tt.toArray⟩,.int .i64 ta]) (t:=77) (fr:=(0,0)) (by have:=hA_ (w2.alloc (.cells #[.int .i64 tk,.int .i64 tn,.string ⟨tt.toArray⟩,.int .i64 ta] 77)) (.cells #[.int .i64 tk,.int .i64 tn,.string ⟨tt.toArray⟩,.int .i64 ta] 77);simpa using this)
        case c2=>
         intro q hq;simp [tokL] at hq
         rcases hq with rfl | rfl | rfl | rfl <;> rfl
        case c3=>unfold maxLen;omega
        case c4=>omega
        case c5=>simp;omega
        intro v' w3 hown3 hgrow3 _;have hgr:=Hd hgrow3;have HO3:=Hd hown3;clear hown3 hgrow3
        go_wp2
        go_roundw
        case rel=>
         refine ⟨q,acc++[⟨tk,tn,tt,ta⟩],hq2,rfl,?_,?_,?_,?_⟩
         · rw [flat_snoc,List.length_append];exact HO3.out
         · rw [List.length_append];simp;omega
         · rw [HL.out,HE.out]
         · refine ((HB.out.trans (hB3.out.mono hsz)).alloc (by simp;omega) _).grown hgr.out (by simp;omega) (fun q hq=>?_);exact (HO2.out.lt q hq).1
        case measure=>simp [intOf];omega
    · have he':(e == 0)=false:=by simpa using he
      have he'':(e != 0)=true:=by simpa using he
      have HE:=Hd (HERR.out he);clear he;go_wp2_with fail;refine (HN.out).mono ?_;rintro e w2 ⟨rfl,hb2⟩;have HB2:=Hd hb2;clear hb2
      go_wp2
      go_ret3
      rw [HA.out,HL.out,HE.out];exact ⟨_,rfl,⟨rfl,.inl ⟨rfl,rfl⟩⟩,HB.out.trans ((HB2.out.alloc HB2.out.size _).mono hsz)⟩
theorem rall_max (s:ByteArray) (w:World) (hs:s.size≤maxLen) :
 Calls Tryz.prog 33 #[.string s] w fun e w'=>∃ v,e=.returned (.tuple #[v,.int .i64 (all (bs s)).2.1,.int .i64 (all (bs s)).2.2])∧w'.ownsRow w.heap.size 77 4 v (all (bs s)).1.length (flat (all (bs s)).1)∧Below w.heap.size w w':=by
 unfold maxLen at hs
 by_cases h1:65536<s.size
 · have h1':(65536:Int)<(s.size:Int):=by omega
   have HA:=Hd (show all (bs s)=([],0,4) from iP (by rw [bs_length];exact h1));clear h1;go_enter Tryz.func33,Tryz.ntmps33
   go_wp2
   go_ret3
   rw [HA.out];exact ⟨_,rfl,⟨rfl,.inl ⟨rfl,rfl⟩⟩,Br _ _⟩
 · exact rall_any s w (by omega)
theorem tokIn_of_ownR {w:World} {B:Nat} {v:Value} {l:List Tok} (h:w.ownsRow B 77 4 v l.length (flat l)) (hok:∀ t∈l,TokOk t) (hs:txts l≤65536):∃ A c,v=.slice A l.length c∧TokIn w A c l:=by
 have hlen:=txts_len hok;have htx:∀ t∈l,t.text.length≤100000:=fun t ht=>by have:=txts_mem ht;omega
 have hrg:∀ t∈l,-1000000≤t.n∧t.n≤1000000:=fun t ht=>by have h1:=(hok t ht).n0;have h2:=(hok t ht).n1;omega
 rcases h.2 with ⟨h1,h2⟩ | ⟨g,cap,cur,hv,hb,hg,hnc,hcm,hcs,htk⟩
 · exact ⟨none,0,by rw [h1,h2],⟨.inl (List.length_eq_zero_iff.1 h2),by omega,by unfold maxLen;omega,by omega,htx,hrg,fun a ha=>by cases ha⟩⟩
 · refine ⟨some ⟨g,0,none⟩,cap,hv,⟨.inr ⟨g,0,rfl,lH hg,fun k z hz j hj=>?_⟩,hnc,hcm,by omega,htx,hrg,fun a ha=>by cases ha;exact lH hg⟩⟩;have hc:=h.cells (g:=g) (by rw [hv];rfl) (k*4+j) (tokV z j) (flat_get hz hj);rw [addr_add] at hc;rw [Nat.zero_add] at hc ⊢;exact hc
set_option linter.unusedSimpArgs false
set_option maxHeartbeats 8000000
theorem tLRfTp {o:Array Oper} {i:Nat} {x:Oper} (h:o.toList[i]?=some x):o[i]?=some x:=by simpa using h
theorem rfparse_results (tm:Array Value) (b2:Nat) (z1 z2:Value) (u0 u1 u2 u3 u4 u5:Value) (w:World) (h2:tm[2]?=some (.pointer (some ⟨b2,0,none⟩))) (h3:tm[3]?=some z1) (h4:tm[4]?=some z2) (h:w.heap[b2]?=some (.cells #[u0,u1,u2,u3,u4,u5] 35 (0,0))) :
 (results Tryz.f18 tm).run Tryz.prog w=.ok (.tuple #[.agg #[u0,u1,u2,u3,u4,u5],z1,z2]) w:=by
 obtain ⟨y0,y1,y2,y3,y4,y5,-⟩:=q6 h;unfold results;rw [Tryz.results18];simp only [Array.getD_eq_getD_getElem?];simp [h2,h3,h4,go_sem,y0,y1,y2,y3,y4,y5]
theorem rfparse_any (s:ByteArray) (w:World) (hs:s.size≤maxLen) :
 Calls Tryz.prog 18 #[.string s] w (FaQ w (parseF (bs s))):=by
 have hs':=hs;unfold maxLen at hs';obtain ⟨F,hF⟩:=ex_ (FaQ w (parseF (bs s)));rw [←hF];obtain ⟨b2,hb2⟩:=ex_ w.heap.size;obtain ⟨w1,hw1⟩:=ex_ (w.alloc (.cells #[.int .i64 0,.int .i64 0,.int .i64 0,.string ⟨#[]⟩,.slice none 0 0,.slice none 0 0] 35));have hb1:=bAl hw1;have hs1:w1.heap.size=b2+1:=by rw [hw1,hb2];simp
 have hx1:w1.heap[b2]?=some (.cells #[.int .i64 0,.int .i64 0,.int .i64 0,.string ⟨#[]⟩,.slice none 0 0,.slice none 0 0] 35 (0,0)):=by rw [hw1,hb2];exact hA_ w _
 have hall:=rall_max s w1 hs;have hok:=all_ok (bs s);obtain ⟨l,hl⟩:=ex_ ((all (bs s)).1);obtain ⟨z1,hz1⟩:=ex_ ((all (bs s)).2.1);obtain ⟨z2,hz2⟩:=ex_ ((all (bs s)).2.2)
 have HRE:Hid (F=FaQ w (if z2≠0 then (zeroFm,z1,z2) else if (takeF l 0).2.2≠0 then (zeroFm,atOf l (bs s).length (takeF l 0).2.1,(takeF l 0).2.2) else if (takeF l 0).2.1<l.length then (zeroFm,atOf l (bs s).length (takeF l 0).2.1,16) else ((takeF l 0).1,(bs s).length,0))):=by
  show _=_;rw [hF,hl,hz1,hz2]
  rfl
 rw [←hl,←hz1,←hz2] at hall;rw [←hl] at hok;have HALL:=Hd hall;have HOK:=Hd hok;have HW1:=Hd hw1;have HB1:=Hd hb1;have HX1:=Hd hx1;have HBQ:=Hd hb2;have HSZ:Hid ((bs s).length=s.size):=bs_length s;clear hF hw1 hb1 hx1 hall hok hl hz1 hz2 hb2;go_enter Tryz.func18,Tryz.ntmps18;go_wp2_with fail;rw [←HW1.out,←HBQ.out];refine (HALL.out).mono ?_;rintro e w2 ⟨v,rfl,hown,hb2'⟩;have hx2:=(hb2'.block b2 (by omega)).trans HX1.out;have HBW:=Hd (HB1.out.trans (hb2'.mono (by have:=HBQ.out;omega)));have hsz2:=hb2'.size;have hge:∀ q,v.ownBlock=some q→w1.heap.size≤q:=fun q hq=>(hown.lt q hq).1;obtain ⟨A,c,hv,hTI⟩:=tokIn_of_ownR hown HOK.out.1 HOK.out.2.2;obtain ⟨n,HN⟩:=exh_ l.length;have TOKOLD:Hid (∀ a,A=some a→w1.heap.size≤a.block):=fun a ha=>hge a.block (by rw [hv,ha];rfl);rw [hv,←HN.out];clear hge;have HX2:=Hd hx2;have HTI:=Hd hTI;have hbl:b2<w2.heap.size:=by omega
 clear hx2 hTI hown hv hb2'
 by_cases hz:z2=0
 · have HRE2:Hid (F=FaQ w (if (takeF l 0).2.2≠0 then (zeroFm,atOf l (bs s).length (takeF l 0).2.1,(takeF l 0).2.2) else if (takeF l 0).2.1<l.length then (zeroFm,atOf l (bs s).length (takeF l 0).2.1,16) else ((takeF l 0).1,(bs s).length,0))):=by show _=_;rw [HRE.out,iN (by simpa using hz)]
   rw [hz];have htk:=rftake_any l A c 0 w2 (zl _) HTI.out;rw [←HN.out] at htk;obtain ⟨r,hr⟩:=ex_ (takeF l 0);rw [←hr] at htk;obtain ⟨t,j,y⟩:=r;have HRE3:Hid (F=FaQ w (if y≠0 then (zeroFm,atOf l (bs s).length j,y) else if j<l.length then (zeroFm,atOf l (bs s).length j,16) else (t,(bs s).length,0))):=by show _=_;rw [HRE2.out,←hr]
   have HTK:=Hd htk;clear hz HRE HRE2 hr htk;go_wp2_with fail;refine (HTK.out).mono ?_;rintro e w3 ⟨x,rfl,hV,hb3⟩;unfold FV.val;obtain ⟨b8,hb8⟩:=ex_ w3.heap.size;obtain ⟨w3s,hw3s⟩:=ex_ (w3.alloc (.cells #[.int .i64 x.o,.int .i64 x.tn,.int .i64 x.tm,.string x.s,.slice x.Ae x.ne x.ce,.slice x.A x.n x.c] 35));have hal:=bAl hw3s;have hsz3:=hb3.size;have X8:=nAl hw3s hb8;have HX3:=Hd ((hb3.block b2 hbl).trans HX2.out);have hl3:b2<w3.heap.size:=by omega
   have HX4:=Hd ((hal.block b2 (by omega)).trans HX3.out);have HB3:=Hd (HBW.out.trans (hb3.mono (by have:=HBW.out.size;omega)));have HV3:Hid (x.Is (fun q=>w2.heap.size≤q) w3 t):=hV;have HB4:=Hd (HBW.out.trans ((hb3.mono (by have:=HBW.out.size;omega)).trans (hal.mono (by have:=HBW.out.size;omega))));have HV4:Hid (x.Is (fun q=>w2.heap.size≤q) w3s t):=hV.keep (Kb hal) (fun _ _ h=>h);have HTI3:Hid (ToksAt w3s A l):=(HTI.out.toks.belowB hb3 rfl).belowB hal rfl;have HOLD:=Hd HTI.out.old;have Qw3:=Hd hw3s;have Qb8:=Hd hb8;have hs3s:=hal.size;clear hV hb3 HTK hw3s hb8 hal
   by_cases hx:y=0
   · subst hx
     by_cases hj:j<n
     · have hj':(j:Int)<(n:Int):=by omega
       have HRE4:Hid (F=FaQ w (zeroFm,atOf l (bs s).length j,16)):=by show _=_;rw [HRE3.out,iN (by simp),iP (by rw [←HN.out];exact hj)]
       obtain ⟨tk,htk⟩:∃ tk,l[j]?=some tk:=⟨_,gG (by have:=HN.out;omega)⟩
       obtain ⟨bg,off,rfl,hbg3,hcl⟩:∃ b off,A=some ⟨b,off,none⟩∧b<w3s.heap.size∧w3s.cell? ⟨b,off+j*4+3,none⟩=some (.int .i64 tk.at_):=by
        rcases HTI3.out with h0 | ⟨b,off,h1,h2,h3⟩
        · rw [h0] at htk;simp at htk
        · exact ⟨b,off,h1,h2,h3 j tk htk 3 (by omega)⟩
       have hbg:b2≠bg:=by
        have h2:w1.heap.size≤bg:=TOKOLD.out _ rfl;omega
       have HAT:Hid (atOf l (bs s).length j=tk.at_):=by show _=_;unfold atOf;rw [htk]
       have hj0:(0:Int)≤(j:Int):=by omega
       clear htk;go_wp2_with fail;rw [←Qw3.out,←Qb8.out];(try go_wp2_with fail);obtain ⟨w4,hw4⟩:=ex_ w3s.drew;have HB6:Hid (w4.heap[b2]?=some (.cells #[.int .i64 0,.int .i64 0,.int .i64 0,.string ⟨#[]⟩,.slice none 0 0,.slice none 0 0] 35 (0,0))):=by show _=_;rw [hw4];exact HX4.out
       have HB3d:Hid (Below w.heap.size w w4):=by show Below _ _ _;rw [hw4];exact HB4.out.drew
       refine wp_region_held_drew (S:=fun w'=>w'.cell? ⟨bg,off+j*4+3,none⟩=some (.int .i64 tk.at_)) (by kernel_rfl) hcl (fun hHeld=>?_);rw [←hw4] at hHeld ⊢;clear hw4 hcl;refine tkH 0 (v:=?_) (tLRfTp rfl) (Or.inl ⟨by rfl,?hy⟩) (by assumption) ?_
       case hy=>
        intro w0 hSw;have e4:=hSw;clear hSw;go_simp
        (first | done | with_reducible rfl)
       (try simp only [Act.put,sAr,sZe,sSu]);refine tkH 1 (v:=?_) (tLRfTp rfl) (Or.inl ⟨by rfl,?hy⟩) (by assumption) ?_
       case hy=>
        intro w0 hSw;have e4:=hSw;clear hSw;go_simp
        (first | done | with_reducible rfl)
       (try simp only [Act.put,sAr,sZe,sSu]);refine tkH 2 (v:=?_) (tLRfTp rfl) (Or.inl ⟨by rfl,?hy⟩) (by assumption) ?_
       case hy=>
        intro w0 hSw;have e4:=hSw;clear hSw;go_simp
        (first | done | with_reducible rfl)
       (try simp only [Act.put,sAr,sZe,sSu]);refine tkH 3 (v:=?_) (tLRfTp rfl) (Or.inl ⟨by rfl,?hy⟩) (by assumption) ?_
       case hy=>
        intro w0 hSw;have e4:=hSw;clear hSw;go_simp
        (first | done | with_reducible rfl)
       (try simp only [Act.put,sAr,sZe,sSu]);refine tkH 4 (v:=?_) (tLRfTp rfl) (Or.inl ⟨by rfl,?hy⟩) (by assumption) ?_
       case hy=>
        intro w0 hSw;have e4:=hSw;clear hSw;go_simp
        (first | done | with_reducible rfl)
       (try simp only [Act.put,sAr,sZe,sSu]);refine tkH 5 (v:=?_) (tLRfTp rfl) (Or.inl ⟨by rfl,?hy⟩) (by assumption) ?_
       case hy=>
        intro w0 hSw;have e4:=hSw;clear hSw;go_simp
        (first | done | with_reducible rfl)
       (try simp only [Act.put,sAr,sZe,sSu]);refine tkH 6 (v:=?_) (tLRfTp rfl) (Or.inl ⟨by rfl,?hy⟩) (by assumption) ?_
       case hy=>
        intro w0 hSw;have e4:=hSw;clear hSw;go_simp
        (first | done | with_reducible rfl)
       (try simp only [Act.put,sAr,sZe,sSu]);refine Rd (rs:=[7]) (by kernel_rfl) (by simp) ?_;refine Rc (tLRfTp rfl) (fun K hK=>?_) Rn;obtain ⟨y0,y1,y2,y3,y4,y5,yzq⟩:=q6 HB6.out;go_simp;clear y0 yzq y1 y2 y3 y4 y5;refine hK.out _ _ (by rw [cF_ _ _ _ _ hbg,cF_ _ _ _ _ hbg,cF_ _ _ _ _ hbg,cF_ _ _ _ _ hbg,cF_ _ _ _ _ hbg,cF_ _ _ _ _ hbg];exact hHeld) (fun hHeld=>?_);clear hK K;(try simp only [Act.put,sAr,sZe,sSu]);refine tkH 8 (v:=?_) (tLRfTp rfl) (Or.inl ⟨by rfl,?hy⟩) (by assumption) ?_
       case hy=>
        intro w0 hSw;have e4:=hSw;clear hSw;go_simp
        (first | done | with_reducible rfl)
       (try simp only [Act.put,sAr,sZe,sSu]);refine tkH 9 (v:=?_) (tLRfTp rfl) (Or.inl ⟨by rfl,?hy⟩) (by assumption) ?_
       case hy=>
        intro w0 hSw;have e4:=hSw;clear hSw;go_simp
        (first | done | with_reducible rfl)
       (try simp only [Act.put,sAr,sZe,sSu]);refine wpAnyH_done (by kernel_rfl) ?_ _;clear hHeld;go_wp2_with fail;obtain ⟨WW,hWW⟩:=ex_ (((((((w4.setCell ⟨b2,0,none⟩ (.int .i64 0)).setCell ⟨b2,1,none⟩ (.int .i64 0)).setCell ⟨b2,2,none⟩ (.int .i64 0)).setCell ⟨b2,3,none⟩ (.string ⟨#[]⟩)).setCell ⟨b2,4,none⟩ (.slice none 0 0)).setCell ⟨b2,5,none⟩ (.slice none 0 0)));have hrow:WW.heap[b2]?=some (.cells #[.int .i64 0,.int .i64 0,.int .i64 0,.string ⟨#[]⟩,.slice none 0 0,.slice none 0 0] 35 (0,0)):=by rw [hWW];exact s6_at HB6.out
       have HBF:Hid (Below w.heap.size w WW):=by
        show Below _ _ _;rw [hWW];have hb:w.heap.size≤b2:=by rw [HBQ.out];exact lr _
        exact (((((((Ob (F:=fun q=>w.heap.size≤q) HB3d.out).setF hb _).setF hb _).setF hb _).setF hb _).setF hb _).setF hb _).below (fun q h=>h) (lr _)
       rw [←hWW];clear hWW;refine bR (rfparse_results _ b2 _ _ _ _ _ _ _ _ _ rfl rfl rfl hrow) rfl ?_;rw [HRE4.out,HAT.out];exact ⟨FV.zero,rfl,FV.zero_is,HBF.out⟩
     · have hj':¬(j:Int)<(n:Int):=by omega
       have HRE4:Hid (F=FaQ w (t,(s.size:Int),0)):=by show _=_;rw [HRE3.out,iN (by simp),iN (by rw [←HN.out];exact hj),HSZ.out]
       obtain ⟨y0,y1,y2,y3,y4,y5,yzq⟩:=q6 HX3.out;go_wp2_with fail;clear y0 yzq y1 y2 y3 y4 y5;obtain ⟨WW,hWW⟩:=ex_ ((((((((w3.setCell ⟨b2,0,none⟩ (.int .i64 x.o)).setCell ⟨b2,1,none⟩ (.int .i64 x.tn)).setCell ⟨b2,2,none⟩ (.int .i64 x.tm)).setCell ⟨b2,3,none⟩ (.string x.s)).setCell ⟨b2,4,none⟩ (.slice x.Ae x.ne x.ce)).setCell ⟨b2,5,none⟩ (.slice x.A x.n x.c))).alloc (.cells #[.int .i64 x.o,.int .i64 x.tn,.int .i64 x.tm,.string x.s,.slice x.Ae x.ne x.ce,.slice x.A x.n x.c] 35));have hrow:WW.heap[b2]?=some (.cells #[.int .i64 x.o,.int .i64 x.tn,.int .i64 x.tm,.string x.s,.slice x.Ae x.ne x.ce,.slice x.A x.n x.c] 35 (0,0)):=by rw [hWW];exact aK (s6_at HX3.out)
       have HBF:Hid (Below w.heap.size w WW):=by
        show Below _ _ _;rw [hWW];have hb:w.heap.size≤b2:=by rw [HBQ.out];exact lr _
        exact ((((((((Ob (F:=fun q=>w.heap.size≤q) HB3.out).setF hb _).setF hb _).setF hb _).setF hb _).setF hb _).setF hb _).below (fun q h=>h) (lr _)).alloc (by simpa using HB3.out.size) _
       have HVF:Hid (x.Is (fun q=>w.heap.size≤q) WW t):=by
        show FV.Is _ _ _ _;rw [hWW];refine FV.Is.keep ?_ (Kb ((Br _ _).alloc (lr _) _)) (fun _ _ h=>h);exact HV3.out.keep (s6_keep Kr (by have:=HBQ.out;omega)) (fun q _ h=>by have:=HBQ.out;omega)
       rw [←hWW];clear hWW;refine bR (rfparse_results _ b2 _ _ _ _ _ _ _ _ _ rfl rfl rfl hrow) rfl ?_;rw [HRE4.out];exact ⟨x,rfl,HVF.out,HBF.out⟩
   · have hxb:(y == 0)=false:=by simpa using hx
     by_cases hj:j<n
     · have hj':(j:Int)<(n:Int):=by omega
       have HRE4:Hid (F=FaQ w (zeroFm,atOf l (bs s).length j,y)):=by show _=_;rw [HRE3.out,iP hx]
       obtain ⟨tk,htk⟩:∃ tk,l[j]?=some tk:=⟨_,gG (by have:=HN.out;omega)⟩
       obtain ⟨bg,off,rfl,hbg3,hcl⟩:∃ b off,A=some ⟨b,off,none⟩∧b<w3s.heap.size∧w3s.cell? ⟨b,off+j*4+3,none⟩=some (.int .i64 tk.at_):=by
        rcases HTI3.out with h0 | ⟨b,off,h1,h2,h3⟩
        · rw [h0] at htk;simp at htk
        · exact ⟨b,off,h1,h2,h3 j tk htk 3 (by omega)⟩
       have hbg:b2≠bg:=by
        have h2:w1.heap.size≤bg:=TOKOLD.out _ rfl;omega
       have HAT:Hid (atOf l (bs s).length j=tk.at_):=by show _=_;unfold atOf;rw [htk]
       have hj0:(0:Int)≤(j:Int):=by omega
       clear htk;go_wp2_with fail;rw [←Qw3.out,←Qb8.out];(try go_wp2_with fail);obtain ⟨w4,hw4⟩:=ex_ w3s.drew;have HB6:Hid (w4.heap[b2]?=some (.cells #[.int .i64 0,.int .i64 0,.int .i64 0,.string ⟨#[]⟩,.slice none 0 0,.slice none 0 0] 35 (0,0))):=by show _=_;rw [hw4];exact HX4.out
       have HB3d:Hid (Below w.heap.size w w4):=by show Below _ _ _;rw [hw4];exact HB4.out.drew
       refine wp_region_held_drew (S:=fun w'=>w'.cell? ⟨bg,off+j*4+3,none⟩=some (.int .i64 tk.at_)) (by kernel_rfl) hcl (fun hHeld=>?_);rw [←hw4] at hHeld ⊢;clear hw4 hcl;refine tkH 0 (v:=?_) (tLRfTp rfl) (Or.inl ⟨by rfl,?hy⟩) (by assumption) ?_
       case hy=>
        intro w0 hSw;have e4:=hSw;clear hSw;go_simp
        (first | done | with_reducible rfl)
       (try simp only [Act.put,sAr,sZe,sSu]);refine tkH 1 (v:=?_) (tLRfTp rfl) (Or.inl ⟨by rfl,?hy⟩) (by assumption) ?_
       case hy=>
        intro w0 hSw;have e4:=hSw;clear hSw;go_simp
        (first | done | with_reducible rfl)
       (try simp only [Act.put,sAr,sZe,sSu]);refine tkH 2 (v:=?_) (tLRfTp rfl) (Or.inl ⟨by rfl,?hy⟩) (by assumption) ?_
       case hy=>
        intro w0 hSw;have e4:=hSw;clear hSw;go_simp
        (first | done | with_reducible rfl)
       (try simp only [Act.put,sAr,sZe,sSu]);refine tkH 3 (v:=?_) (tLRfTp rfl) (Or.inl ⟨by rfl,?hy⟩) (by assumption) ?_
       case hy=>
        intro w0 hSw;have e4:=hSw;clear hSw;go_simp
        (first | done | with_reducible rfl)
       (try simp only [Act.put,sAr,sZe,sSu]);refine tkH 4 (v:=?_) (tLRfTp rfl) (Or.inl ⟨by rfl,?hy⟩) (by assumption) ?_
       case hy=>
        intro w0 hSw;have e4:=hSw;clear hSw;go_simp
        (first | done | with_reducible rfl)
       (try simp only [Act.put,sAr,sZe,sSu]);refine tkH 5 (v:=?_) (tLRfTp rfl) (Or.inl ⟨by rfl,?hy⟩) (by assumption) ?_
       case hy=>
        intro w0 hSw;have e4:=hSw;clear hSw;go_simp
        (first | done | with_reducible rfl)
       (try simp only [Act.put,sAr,sZe,sSu]);refine tkH 6 (v:=?_) (tLRfTp rfl) (Or.inl ⟨by rfl,?hy⟩) (by assumption) ?_
       case hy=>
        intro w0 hSw;have e4:=hSw;clear hSw;go_simp
        (first | done | with_reducible rfl)
       (try simp only [Act.put,sAr,sZe,sSu]);refine Rd (rs:=[7]) (by kernel_rfl) (by simp) ?_;refine Rc (tLRfTp rfl) (fun K hK=>?_) Rn;obtain ⟨y0,y1,y2,y3,y4,y5,yzq⟩:=q6 HB6.out;go_simp;clear y0 yzq y1 y2 y3 y4 y5;refine hK.out _ _ (by rw [cF_ _ _ _ _ hbg,cF_ _ _ _ _ hbg,cF_ _ _ _ _ hbg,cF_ _ _ _ _ hbg,cF_ _ _ _ _ hbg,cF_ _ _ _ _ hbg];exact hHeld) (fun hHeld=>?_);clear hK K;(try simp only [Act.put,sAr,sZe,sSu]);refine tkH 8 (v:=?_) (tLRfTp rfl) (Or.inl ⟨by rfl,?hy⟩) (by assumption) ?_
       case hy=>
        intro w0 hSw;have e4:=hSw;clear hSw;go_simp
        (first | done | with_reducible rfl)
       (try simp only [Act.put,sAr,sZe,sSu]);refine tkH 9 (v:=?_) (tLRfTp rfl) (Or.inl ⟨by rfl,?hy⟩) (by assumption) ?_
       case hy=>
        intro w0 hSw;have e4:=hSw;clear hSw;go_simp
        (first | done | with_reducible rfl)
       (try simp only [Act.put,sAr,sZe,sSu]);refine wpAnyH_done (by kernel_rfl) ?_ _;clear hHeld;go_wp2_with fail;obtain ⟨WW,hWW⟩:=ex_ (((((((w4.setCell ⟨b2,0,none⟩ (.int .i64 0)).setCell ⟨b2,1,none⟩ (.int .i64 0)).setCell ⟨b2,2,none⟩ (.int .i64 0)).setCell ⟨b2,3,none⟩ (.string ⟨#[]⟩)).setCell ⟨b2,4,none⟩ (.slice none 0 0)).setCell ⟨b2,5,none⟩ (.slice none 0 0)));have hrow:WW.heap[b2]?=some (.cells #[.int .i64 0,.int .i64 0,.int .i64 0,.string ⟨#[]⟩,.slice none 0 0,.slice none 0 0] 35 (0,0)):=by rw [hWW];exact s6_at HB6.out
       have HBF:Hid (Below w.heap.size w WW):=by
        show Below _ _ _;rw [hWW];have hb:w.heap.size≤b2:=by rw [HBQ.out];exact lr _
        exact (((((((Ob (F:=fun q=>w.heap.size≤q) HB3d.out).setF hb _).setF hb _).setF hb _).setF hb _).setF hb _).setF hb _).below (fun q h=>h) (lr _)
       rw [←hWW];clear hWW;refine bR (rfparse_results _ b2 _ _ _ _ _ _ _ _ _ rfl rfl rfl hrow) rfl ?_;rw [HRE4.out,HAT.out];exact ⟨FV.zero,rfl,FV.zero_is,HBF.out⟩
     · have hj':¬(j:Int)<(n:Int):=by omega
       have HRE4:Hid (F=FaQ w (zeroFm,(s.size:Int),y)):=by
        show _=_;rw [HRE3.out,iP hx];unfold atOf;rw [List.getElem?_eq_none (by rw [←HN.out];omega),HSZ.out]
       obtain ⟨y0,y1,y2,y3,y4,y5,yzq⟩:=q6 HX3.out;go_wp2_with fail;clear y0 yzq y1 y2 y3 y4 y5;obtain ⟨WW,hWW⟩:=ex_ ((((((((w3.setCell ⟨b2,0,none⟩ (.int .i64 0)).setCell ⟨b2,1,none⟩ (.int .i64 0)).setCell ⟨b2,2,none⟩ (.int .i64 0)).setCell ⟨b2,3,none⟩ (.string ⟨#[]⟩)).setCell ⟨b2,4,none⟩ (.slice none 0 0)).setCell ⟨b2,5,none⟩ (.slice none 0 0))).alloc (.cells #[.int .i64 x.o,.int .i64 x.tn,.int .i64 x.tm,.string x.s,.slice x.Ae x.ne x.ce,.slice x.A x.n x.c] 35));have hrow:WW.heap[b2]?=some (.cells #[.int .i64 0,.int .i64 0,.int .i64 0,.string ⟨#[]⟩,.slice none 0 0,.slice none 0 0] 35 (0,0)):=by rw [hWW];exact aK (s6_at HX3.out)
       have HBF:Hid (Below w.heap.size w WW):=by
        show Below _ _ _;rw [hWW];have hb:w.heap.size≤b2:=by rw [HBQ.out];exact lr _
        exact ((((((((Ob (F:=fun q=>w.heap.size≤q) HB3.out).setF hb _).setF hb _).setF hb _).setF hb _).setF hb _).setF hb _).below (fun q h=>h) (lr _)).alloc (by simpa using HB3.out.size) _
       rw [←hWW];clear hWW;refine bR (rfparse_results _ b2 _ _ _ _ _ _ _ _ _ rfl rfl rfl hrow) rfl ?_;rw [HRE4.out];exact ⟨FV.zero,rfl,FV.zero_is,HBF.out⟩
 · have HRE2:Hid (F=FaQ w (zeroFm,z1,z2)):=by show _=_;rw [HRE.out,iP hz]
   have hzb:(z2 != 0)=true:=by simpa using hz
   clear hz HRE;obtain ⟨y0,y1,y2,y3,y4,y5,yzq⟩:=q6 HX2.out;go_wp2_with fail;clear y0 yzq y1 y2 y3 y4 y5;obtain ⟨WW,hWW⟩:=ex_ (((((((w2.setCell ⟨b2,0,none⟩ (.int .i64 0)).setCell ⟨b2,1,none⟩ (.int .i64 0)).setCell ⟨b2,2,none⟩ (.int .i64 0)).setCell ⟨b2,3,none⟩ (.string ⟨#[]⟩)).setCell ⟨b2,4,none⟩ (.slice none 0 0)).setCell ⟨b2,5,none⟩ (.slice none 0 0)));have hrow:WW.heap[b2]?=some (.cells #[.int .i64 0,.int .i64 0,.int .i64 0,.string ⟨#[]⟩,.slice none 0 0,.slice none 0 0] 35 (0,0)):=by rw [hWW];exact s6_at HX2.out
   have HBF:Hid (Below w.heap.size w WW):=by
    show Below _ _ _;rw [hWW];have hb:w.heap.size≤b2:=by rw [HBQ.out];exact lr _
    exact (((((((Ob (F:=fun q=>w.heap.size≤q) HBW.out).setF hb _).setF hb _).setF hb _).setF hb _).setF hb _).setF hb _).below (fun q h=>h) (lr _)
   rw [←hWW];clear hWW;refine bR (rfparse_results _ b2 _ _ _ _ _ _ _ _ _ rfl rfl rfl hrow) rfl ?_;rw [HRE2.out];exact ⟨FV.zero,rfl,FV.zero_is,HBF.out⟩
end Go.Proofs.YtnbphgeepnknlaaGreatDoor
