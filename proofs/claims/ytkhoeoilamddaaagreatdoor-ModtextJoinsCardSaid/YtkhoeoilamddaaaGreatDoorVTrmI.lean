/- Walks and plain words: TrmI TrmJ CntP NumA. -/
import Derived.Test.YtkhoeoilamddaaaGreatDoorVParP
import Derived.StillTailTactics
import Derived.Laws.BytesArg
namespace Go.Proofs.YtkhoeoilamddaaaGreatDoor
open Go.RowKit
set_option linter.unusedVariables false
set_option maxRecDepth 100000
set_option maxHeartbeats 4000000
theorem infoStr:(Tryz.prog.info? 9).map (fun i=>(i.zero,i.size,i.bytes))=some (some (.string ⟨#[]⟩),1,16):=by kernel_rfl
theorem wpList_copy_row {P:Program} {w:World} {ops:Array Oper} {rest:List Oper} {o:Oper} {a:Act} {Q:Exit→Act→World→Prop} (hgd:o.guard=none) (d s:Operand) (dT sT:TypeId)
 (ho:o.op=.call { callee:=.builtin .copy,args:=#[d,s],argTypes:=#[dT,sT] }) (elem:TypeId) (hu:P.underlying dT=some (.slice elem)) (hsz:(P.info? elem).map (·.size)=some 1)
 (dp sp:Option Addr) (dLen dCap sLen sCap:Nat) (hd:a.eval d=.slice dp dLen dCap) (hs:a.eval s=.slice sp sLen sCap)
 (g off:Nat) (cur:List Value) (t:TypeId) (hg:w.heap[g]?=some (.cells cur.toArray t (0,0))) (cs:List Value) (hn:cs.length=Nat.min sLen dLen)
 (hpos:0<cs.length→dp=some ⟨g,off,none⟩∧∃ ad,sp=some ad∧∀ j v,cs[j]?=some v→w.cell? (ad.add j)=some v)
 (hfit:off+cs.length≤cur.length) (h1:∀ v∈cs,v.oneCell'=true)
 (h:∀ w',Hid (w'.heap[g]?=some (.cells (splice cur off cs).toArray t (0,0)))→Only (fun q=>q=g) w w'→wpList P ops Q rest (a.put o.dst (goInt cs.length)) w') :
 wpList P ops Q (o :: rest) a w:=by
 by_cases h0:cs.length=0
 · obtain rfl:cs=[]:=List.eq_nil_of_length_eq_zero h0;refine wpList_copy_nothing hgd d s dT sT ho elem hu hsz dp sp dLen dCap sLen sCap hd hs (by simpa using hn.symm) ?_;exact h w (show _=_ by simpa [splice] using hg) Only.refl
 · obtain ⟨rfl,ad,rfl,hsrc⟩:=hpos (by omega);refine wpList_copy_own hgd d s dT sT ho elem hu hsz g off dLen dCap ad sLen sCap hd hs cur.toArray t hg cs hn hsrc (by simpa using hfit) h1 ?_;exact h _ (show _=_ by simpa [splice] using setRow_heap w g _ _ t _ hg) ⟨rfl,rfl,rfl,by simp [World.setRow],fun k hk hne=>setRow_other w g k _ hne⟩
theorem wp_region_still_dr {id:Nat} {Q:Exit→Act→World→Prop} {a:Act} {w:World} {l:List Oper} (n:Nat) (hm:Tryz.prog.follows .mixedOrders=true) (hB:Region.lexTailB .any l.toArray n=true)
 (h:wpStill Tryz.prog l.toArray w.drew (fun a'=>wpList Tryz.prog l.toArray Q (l.drop n) a' w.drew) (l.take n) a):(Code.region id l.toArray true).wp Tryz.prog Q a w:=wp_region_still_tail n hm hB h
def Strs (xs:List Value):Prop:=∀ v∈xs,∃ s:ByteArray,v=.string s
def PutQ (B:Nat) (v:Value) (n:Nat) (w:World) (e:Ending) (w':World):Prop:=∃ v' xs' m,e=.returned v'∧0<m∧m≤n+1∧Strs xs'∧w'.ownsRow B 9 1 v' m xs'∧w.grownBy w' v.ownBlock∧∀ q,v'.ownBlock=some q→some q=v.ownBlock∨w.heap.size≤q
theorem splice_strs {cur:List Value} {k n:Nat} (hk:k≤n) (hn:n+1≤cur.length) (h:Strs (cur.take (n+1))):Strs ((splice cur (k+1) ((cur.drop k).take (n - k))).take (n+1))∧(splice cur (k+1) ((cur.drop k).take (n - k))).length=cur.length:=by
 have hl:((cur.drop k).take (n - k)).length=n - k:=by simp;omega
 refine ⟨fun v hv=>?_,length_splice _ _ _ (by rw [hl];omega)⟩
 apply h
 unfold splice at hv;rw [hl,List.take_append] at hv;have hl1:(cur.take (k+1)).length=k+1:=by simp;omega
 rw [hl1] at hv
 rcases List.mem_append.1 hv with hv | hv
 · have h1:=List.mem_of_mem_take hv;exact (List.take_subset_take_left cur (by omega)) h1
 · rw [List.take_append,hl] at hv
   rcases List.mem_append.1 hv with hv | hv
   · have h1:=List.mem_of_mem_take hv;have h2:(cur.drop k).take (n - k)=(cur.take n).drop k:=by rw [List.drop_take]
     rw [h2] at h1;exact (List.take_subset_take_left cur (by omega)) (List.mem_of_mem_drop h1)
   · rw [show n+1 - (k+1) - (n - k)=0 from by omega,List.take_zero] at hv;cases hv
theorem own_set {w:World} {B g n cap k:Nat} {T:TypeId} {cur:List Value} (hg:w.heap[g]?=some (.cells cur.toArray T (0,0))) (hB:B≤g) (hn:n≤cap) (hc:cap≤maxLen) (hl:cur.length=cap) (hk:k<n) (hs:Strs (cur.take n)) (s:ByteArray) :
 ∃ xs,Strs xs∧(w.setCell ⟨g,k,none⟩ (.string s)).ownsRow B T 1 (.slice (some ⟨g,0,none⟩) n cap) n xs:=by
 refine ⟨(cur.set k (.string s)).take n,fun v hv=>?_,by simp;omega,.inr ⟨g,cap,(cur.set k (.string s)).toArray,rfl,hB,?_,hn,hc,by simp;omega,by simp⟩⟩
 · rw [List.take_set] at hv
   rcases List.mem_or_eq_of_mem_set hv with hv | hv
   · exact hs v hv
   · exact ⟨s,hv⟩
 · simp [World.setCell,Array.getElem?_modify,hg]
theorem put_end {B n k g' cap':Nat} {a:Option Addr} {cap:Nat} {xs:List Value} {w w1 wd w2:World} {L:List Value} {o:Obj} {s:ByteArray} (hown:w.ownsRow B 9 1 (.slice a n cap) n xs)
 (hgrow:(w.alloc o).grownBy w1 (Value.slice a n cap).ownBlock) (hat:(Value.slice a n cap).ownBlock=some g'∨g'=w.heap.size+1) (hwd:wd=w1.drew) (hk:k≤n) (hBg:B≤g') (hnc:n+1≤cap') (hcm:cap'≤maxLen) (hll:L.length=cap') (hls:Strs (L.take (n+1)))
 (ho2:Only (fun q=>q=g') wd w2) (HG2:w2.heap[g']?=some (.cells (splice L (k+1) ((L.drop k).take (n - k))).toArray 9 (0,0))) :
 PutQ B (.slice a n cap) n w (.returned (.slice (some ⟨g',0,none⟩) (n+1) cap')) (w2.setCell ⟨g',k,none⟩ (.string s)):=by
 obtain ⟨h1,h2⟩:=splice_strs (cur:=L) (k:=k) (n:=n) hk (by omega) hls;obtain ⟨ys,hy1,hy2⟩:=own_set (k:=k) HG2 hBg hnc hcm (by rw [h2,hll]) (by omega) h1 s
 refine ⟨_,ys,n+1,rfl,by omega,lr _,hy1,hy2,?_,fun q hq=>by
  have hq':g'=q:=by simpa [Value.ownBlock] using hq
  subst hq'
  rcases hat with h | h
  · exact .inl h.symm
  · right;omega⟩
 have hs1:=hgrow.size;simp at hs1;have hsd:wd.heap.size=w1.heap.size:=by rw [hwd];rfl
 refine ⟨?_,?_,?_,?_,fun q hq hne=>?_⟩
 · show (w2.setCell _ _).os=_;have:=ho2.os;rw [hwd] at this;exact this.trans (hgrow.os)
 · have:=ho2.tape;rw [hwd] at this;exact this.trans (hgrow.tape)
 · have:=ho2.output;rw [hwd] at this;exact this.trans (hgrow.output)
 · have:=ho2.size;simp;omega
 · have hqg:q≠g':=by
    rcases hat with h | h
    · intro e;subst e;exact hne h.symm
    · omega
   rw [hO_ w2 ⟨g',k,none⟩ q _ hqg,ho2.block q (by omega) hqg,hwd];show w1.heap[q]?=_;rw [hgrow.block q (by simp;omega) hne];exact heap_alloc_old w o hq
theorem tput_any (B n:Nat) (v:Value) (xs:List Value) (s:ByteArray) (w:World) (hown:w.ownsRow B 9 1 v n xs) (hs:Strs xs) (hn:n≤10000000) (hB:B≤w.heap.size) :
 Calls Tryz.prog 165 #[v,.string s] w (PutQ B v n w):=by
 obtain ⟨i0,hi,hz0,hz1,hz2⟩:=info_parts infoStr;have HOWN:=Hd hown;have HSS:=Hd hs;have HXL:=Hd hown.1
 obtain ⟨a,cap,hv,hcap⟩:∃ a cap,v=.slice a n cap∧n≤cap:=by
  rcases hown.2 with ⟨hv,h0⟩ | ⟨g,cap,cur,hv,_,_,h1,_⟩
  · exact ⟨none,0,by rw [h0];exact hv,by omega⟩
  · exact ⟨_,cap,hv,h1⟩
 have HROW:Hid (∀ k,k<n→∃ g x,a=some ⟨g,0,none⟩∧w.cell? ⟨g,k,none⟩=some (.string x)):=by
  intro k hk
  rcases hown.2 with ⟨_,h0⟩ | ⟨g,cap',cur,hv',_⟩
  · omega
  · rw [hv] at hv'
    injection hv' with ha
    subst ha;have hlen:=hown.1;have hx:xs[k]?=some (xs[k]'(by omega)):=gG (by omega);obtain ⟨x,hx2⟩:=hs _ (mG hx);have:=hown.cells (g:=g) (by rw [hv];rfl) k _ hx;rw [show (⟨g,0,none⟩:Addr).add k=⟨g,k,none⟩ from by unfold Addr.add;split <;> simp_all,hx2] at this;exact ⟨g,x,rfl,this⟩
 subst hv;obtain ⟨F,HF⟩:=exh_ (PutQ B (.slice a n cap) n w);rw [←HF.out];clear hown hs;go_enter Tryz.func165,Tryz.ntmps165;go_wp2_with fail
 go_loop [5] (fun si=>∃ k:Nat,k≤n∧si=.int .i64 k) (fun si=>(intOf si).toNat)
 case atStart=>exact ⟨n,lr _,rfl⟩
 case round=>
  obtain ⟨k,hk,rfl⟩:=hrel;have HN:=Hd hn
  by_cases hk0:k=0
  · have hkz:¬(0:Int)<(k:Int):=by omega
    clear hk0
    go_wp2_with (at_builtin;refine wpList_append_lies _ (by rfl) _ _ _ (by rfl) B 9 i0 (.string ⟨#[]⟩) 1 16 Tryz.underlying120 hi hz0 hz1 hz2 rfl (by decide) _ n xs (by rfl) (HOWN.out.alloc _) ⟨w.heap.size,0,none⟩ 1 1 [.string ⟨#[]⟩] (by rfl) rfl ?c1 ?c2 (by decide) ?c3 ?c4 ?c5 (w.heap.size+1) (by simp) ?_)
    case c2=>rfl
    case c3=>have:=HN.out;unfold maxLen;omega
    case c4=>have:=HN.out;omega
    case c5=>omega
    intro g' cap' w1 hown1 hgrow hat hlt
    obtain ⟨L,hBg,hgg,hnc,hcm,hll,hls⟩:∃ L:List Value,B≤g'∧w1.heap[g']?=some (.cells L.toArray 9 (0,0))∧n+1≤cap'∧cap'≤maxLen∧L.length=cap'∧Strs (L.take (n+1)):=by
     rcases hown1.2 with ⟨h,_⟩ | ⟨g2,cap2,cur,hv2,h1,h2,h3,h4,h5,h6⟩
     · cases h
     · injection hv2 with ha1 _ ha2
       injection ha1 with ha1
       injection ha1 with ha1 _ _
       subst ha1 ha2;refine ⟨cur.toList,h1,by rw [h2],h3,h4,by simpa using h5,?_⟩;rw [Nat.mul_one] at h6;rw [h6];intro y hy
       rcases List.mem_append.1 hy with hy | hy
       · exact HSS.out y hy
       · simp at hy;exact ⟨_,hy⟩
    obtain ⟨wd,hwd⟩:=ex_ w1.drew;have HWD:=Hd hwd;have HGD:Hid (wd.heap[g']?=some (.cells L.toArray 9 (0,0))):=by show _=_;rw [hwd];exact hgg
    have HEND:=Hd (fun w2 ho2 HG2=>put_end (w2:=w2) HOWN.out hgrow hat hwd hk hBg hnc hcm hll hls ho2 HG2 (s:=s));have HSP:=Hd (splice_strs (cur:=L) (k:=k) (n:=n) hk (by omega) hls);have hLk:((L.drop k).take (n - k)).length=n - k:=by simp;omega
    have HONE:Hid (∀ v∈(L.drop k).take (n - k),v.oneCell'=true):=fun v hv=>by
     have h2:(L.drop k).take (n - k)=(L.take n).drop k:=by rw [List.drop_take]
     rw [h2] at hv;obtain ⟨z,rfl⟩:=hls v ((List.take_subset_take_left L (by omega)) (List.mem_of_mem_drop hv))
     rfl
    have HCEL:Hid (∀ j v,((L.drop k).take (n - k))[j]?=some v→wd.cell? ((⟨g',k,none⟩:Addr).add j)=some v):=fun j v hj=>by
     rw [show (⟨g',k,none⟩:Addr).add j=⟨g',k+j,none⟩ from by unfold Addr.add;split <;> simp_all,cR wd g' (k+j) _ _ (0,0) HGD.out];rw [List.getElem?_take] at hj
     split at hj
     · rw [List.getElem?_drop] at hj
       simpa using hj
     · cases hj
    have HLK:=Hd hLk;have HLL:=Hd hll;have hsz1:(Tryz.prog.info? 9).map (·.size)=some 1:=by kernel_rfl
    have d0:(0:Int)≤(k:Int)+1:=by omega
    have hwr:IntKind.i64.wrap ((k:Int)+1)=(k:Int)+1:=by rw [IntWalk.i64_in _ (by omega)]
    have d1:(k:Int)+1≤(n:Int)+1:=by omega
    have d3:(0:Int)≤(k:Int):=by omega
    have d4:(k:Int)≤(n:Int)+1:=by omega
    have d5:(k:Int)<(n:Int)+1:=by omega
    have d6:(n:Int)+1≤(cap':Int):=by omega
    have d7:¬cap'=k:=by omega
    unfold maxLen at hcm;clear hLk hwd hown1 hgrow hgg hll hls hat
    by_cases hck:cap'=k+1
    · have HKN:=Hd (show k=n by omega);go_wp2_with fail;refine wp_region_still_dr 7 (by kernel_rfl) (by kernel_rfl) ?_;rw [←HWD.out];simp only [List.take_succ_cons,List.take_zero,List.drop_succ_cons,List.drop_zero]
      repeat still_step
      refine wpStill_nil ?_;refine wpList_copy_row rfl (.tmp 39) (.tmp 42) 120 120 rfl 9 Tryz.underlying120 hsz1 _ _ _ _ _ _ (by rfl) (by rfl) g' (k+1) L 9 HGD.out ((L.drop k).take (n - k)) (by rw [HLK.out];exact (Nat.min_eq_right (by omega)).symm) (fun h=>absurd h (by rw [HLK.out];have:=HKN.out;omega)) (by rw [HLK.out];have:=HLL.out;omega) HONE.out ?_;intro w2 HG2 ho2;have HO2:=Hd ho2
      have hcl:w2.cell? ⟨g',k,none⟩=some ((splice L (k+1) ((L.drop k).take (n - k)))[k]'(by rw [HSP.out.2];have:=HLL.out;omega)):=by
       rw [cR w2 g' k _ _ (0,0) HG2.out];simp
      have hfz:w2.frozen? ⟨g',k,none⟩=false:=Lib.frozen_of_heap HG2.out k;clear ho2;go_wp2_with fail;rw [HF.out];have h9:=HEND.out w2 HO2.out HG2.out;rw [hck] at h9;exact h9
    · go_wp2_with fail;refine wp_region_still_dr 7 (by kernel_rfl) (by kernel_rfl) ?_;rw [←HWD.out];simp only [List.take_succ_cons,List.take_zero,List.drop_succ_cons,List.drop_zero]
      repeat still_step
      refine wpStill_nil ?_;refine wpList_copy_row rfl (.tmp 39) (.tmp 42) 120 120 rfl 9 Tryz.underlying120 hsz1 _ _ _ _ _ _ (by rfl) (by rfl) g' (k+1) L 9 HGD.out ((L.drop k).take (n - k)) (by rw [HLK.out];exact (Nat.min_eq_right (by omega)).symm) (fun _=>⟨rfl,_,rfl,HCEL.out⟩) (by rw [HLK.out];have:=HLL.out;omega) HONE.out ?_;intro w2 HG2 ho2;have HO2:=Hd ho2
      have hcl:w2.cell? ⟨g',k,none⟩=some ((splice L (k+1) ((L.drop k).take (n - k)))[k]'(by rw [HSP.out.2];have:=HLL.out;omega)):=by
       rw [cR w2 g' k _ _ (0,0) HG2.out];simp
      have hfz:w2.frozen? ⟨g',k,none⟩=false:=Lib.frozen_of_heap HG2.out k;clear ho2;go_wp2_with fail;rw [HF.out];exact HEND.out w2 HO2.out HG2.out
  · obtain ⟨k',hk'⟩:∃ k',k=k'+1:=⟨k - 1,by omega⟩;have e1:(k:Int) - 1=(k':Int):=by omega
    obtain ⟨g,x,rfl,hx⟩:=HROW.out k' (by omega);have b0:(0:Int)<(k:Int):=by omega
    have b1:(0:Int)≤(k':Int):=by omega
    have b2:(k':Int)<(n:Int):=by omega
    have HK':=Hd hk';clear hk' hk0
    go_wp2_with (at_builtin;refine wpList_append_lies _ (by rfl) _ _ _ (by rfl) B 9 i0 (.string ⟨#[]⟩) 1 16 Tryz.underlying120 hi hz0 hz1 hz2 rfl (by decide) _ n xs (by rfl) (HOWN.out.alloc _) ⟨w.heap.size,0,none⟩ 1 1 [.string ⟨#[]⟩] (by rfl) rfl ?e1 ?e2 (by decide) ?e3 ?e4 ?e5 (w.heap.size+1) (by simp) ?_)
    · go_round
      case rel=>exact ⟨k',by have:=HK'.out;omega,rfl⟩
      case measure=>simp [intOf];omega
    · rw [HF.out];exact ⟨_,xs,n,rfl,by omega,by omega,HSS.out,HOWN.out,World.grownBy.refl _ _,fun q hq=>.inl hq.symm⟩
    case e2=>rfl
    case e3=>have:=HN.out;unfold maxLen;omega
    case e4=>have:=HN.out;omega
    case e5=>omega
    intro g' cap' w1 hown1 hgrow hat hlt
    obtain ⟨L,hBg,hgg,hnc,hcm,hll,hls⟩:∃ L:List Value,B≤g'∧w1.heap[g']?=some (.cells L.toArray 9 (0,0))∧n+1≤cap'∧cap'≤maxLen∧L.length=cap'∧Strs (L.take (n+1)):=by
     rcases hown1.2 with ⟨h,_⟩ | ⟨g2,cap2,cur,hv2,h1,h2,h3,h4,h5,h6⟩
     · cases h
     · injection hv2 with ha1 _ ha2
       injection ha1 with ha1
       injection ha1 with ha1 _ _
       subst ha1 ha2;refine ⟨cur.toList,h1,by rw [h2],h3,h4,by simpa using h5,?_⟩;rw [Nat.mul_one] at h6;rw [h6];intro y hy
       rcases List.mem_append.1 hy with hy | hy
       · exact HSS.out y hy
       · simp at hy;exact ⟨_,hy⟩
    obtain ⟨wd,hwd⟩:=ex_ w1.drew;have HWD:=Hd hwd;have HGD:Hid (wd.heap[g']?=some (.cells L.toArray 9 (0,0))):=by show _=_;rw [hwd];exact hgg
    have HEND:=Hd (fun w2 ho2 HG2=>put_end (w2:=w2) HOWN.out hgrow hat hwd hk hBg hnc hcm hll hls ho2 HG2 (s:=s));have HSP:=Hd (splice_strs (cur:=L) (k:=k) (n:=n) hk (by omega) hls);have hLk:((L.drop k).take (n - k)).length=n - k:=by simp;omega
    have HONE:Hid (∀ v∈(L.drop k).take (n - k),v.oneCell'=true):=fun v hv=>by
     have h2:(L.drop k).take (n - k)=(L.take n).drop k:=by rw [List.drop_take]
     rw [h2] at hv;obtain ⟨z,rfl⟩:=hls v ((List.take_subset_take_left L (by omega)) (List.mem_of_mem_drop hv))
     rfl
    have HCEL:Hid (∀ j v,((L.drop k).take (n - k))[j]?=some v→wd.cell? ((⟨g',k,none⟩:Addr).add j)=some v):=fun j v hj=>by
     rw [show (⟨g',k,none⟩:Addr).add j=⟨g',k+j,none⟩ from by unfold Addr.add;split <;> simp_all,cR wd g' (k+j) _ _ (0,0) HGD.out];rw [List.getElem?_take] at hj
     split at hj
     · rw [List.getElem?_drop] at hj
       simpa using hj
     · cases hj
    have HLK:=Hd hLk;have HLL:=Hd hll;have hsz1:(Tryz.prog.info? 9).map (·.size)=some 1:=by kernel_rfl
    have d0:(0:Int)≤(k:Int)+1:=by omega
    have hwr:IntKind.i64.wrap ((k:Int)+1)=(k:Int)+1:=by rw [IntWalk.i64_in _ (by omega)]
    have d1:(k:Int)+1≤(n:Int)+1:=by omega
    have d3:(0:Int)≤(k:Int):=by omega
    have d4:(k:Int)≤(n:Int)+1:=by omega
    have d5:(k:Int)<(n:Int)+1:=by omega
    have d6:(n:Int)+1≤(cap':Int):=by omega
    have d7:¬cap'=k:=by omega
    unfold maxLen at hcm;clear hLk hwd hown1 hgrow hgg hll hls hat
    by_cases hck:cap'=k+1
    · have HKN:=Hd (show k=n by omega);go_wp2_with fail;refine wp_region_still_dr 7 (by kernel_rfl) (by kernel_rfl) ?_;rw [←HWD.out];simp only [List.take_succ_cons,List.take_zero,List.drop_succ_cons,List.drop_zero]
      repeat still_step
      refine wpStill_nil ?_;refine wpList_copy_row rfl (.tmp 39) (.tmp 42) 120 120 rfl 9 Tryz.underlying120 hsz1 _ _ _ _ _ _ (by rfl) (by rfl) g' (k+1) L 9 HGD.out ((L.drop k).take (n - k)) (by rw [HLK.out];exact (Nat.min_eq_right (by omega)).symm) (fun h=>absurd h (by rw [HLK.out];have:=HKN.out;omega)) (by rw [HLK.out];have:=HLL.out;omega) HONE.out ?_;intro w2 HG2 ho2;have HO2:=Hd ho2
      have hcl:w2.cell? ⟨g',k,none⟩=some ((splice L (k+1) ((L.drop k).take (n - k)))[k]'(by rw [HSP.out.2];have:=HLL.out;omega)):=by
       rw [cR w2 g' k _ _ (0,0) HG2.out];simp
      have hfz:w2.frozen? ⟨g',k,none⟩=false:=Lib.frozen_of_heap HG2.out k;clear ho2;go_wp2_with fail;rw [HF.out];have h9:=HEND.out w2 HO2.out HG2.out;rw [hck] at h9;exact h9
    · go_wp2_with fail;refine wp_region_still_dr 7 (by kernel_rfl) (by kernel_rfl) ?_;rw [←HWD.out];simp only [List.take_succ_cons,List.take_zero,List.drop_succ_cons,List.drop_zero]
      repeat still_step
      refine wpStill_nil ?_;refine wpList_copy_row rfl (.tmp 39) (.tmp 42) 120 120 rfl 9 Tryz.underlying120 hsz1 _ _ _ _ _ _ (by rfl) (by rfl) g' (k+1) L 9 HGD.out ((L.drop k).take (n - k)) (by rw [HLK.out];exact (Nat.min_eq_right (by omega)).symm) (fun _=>⟨rfl,_,rfl,HCEL.out⟩) (by rw [HLK.out];have:=HLL.out;omega) HONE.out ?_;intro w2 HG2 ho2;have HO2:=Hd ho2
      have hcl:w2.cell? ⟨g',k,none⟩=some ((splice L (k+1) ((L.drop k).take (n - k)))[k]'(by rw [HSP.out.2];have:=HLL.out;omega)):=by
       rw [cR w2 g' k _ _ (0,0) HG2.out];simp
      have hfz:w2.frozen? ⟨g',k,none⟩=false:=Lib.frozen_of_heap HG2.out k;clear ho2;go_wp2_with fail;rw [HF.out];exact HEND.out w2 HO2.out HG2.out
set_option linter.unusedSectionVars false
structure Row1 (b B:Nat) (w:World) (v:Value) (n:Nat) (xs:List Value):Prop where
 box:w.heap[b]?=some (.cells #[v] 120 (0,0))
 own:w.ownsRow B 9 1 v n xs
 strs:Strs xs
section
variable {b b2 B n n2:Nat} {w w':World} {v v2:Value} {xs xs2:List Value}
theorem Row1.cell (h:Row1 b B w v n xs):w.cell? ⟨b,0,none⟩=some v:=by rw [cR w b 0 _ _ (0,0) h.box];rfl
theorem Row1.frozen (h:Row1 b B w v n xs):w.frozen? ⟨b,0,none⟩=false:=by
 have:=h.box;simp [World.frozen?,this]
theorem Row1.lt (h:Row1 b B w v n xs):b<w.heap.size:=lH h.box
theorem row_typed (h:w.ownsRow B 9 1 v n xs) {q:Nat} (hq:v.ownBlock=some q):∃ cs,w.heap[q]?=some (.cells cs 9 (0,0)):=by
 rcases h.2 with ⟨rfl,_⟩ | ⟨g,cap,cur,rfl,_,hg,_⟩
 · cases hq
 · have hq':g=q:=by simpa [Value.ownBlock] using hq
   subst hq';exact ⟨_,hg⟩
theorem Row1.below (h:Row1 b B w v n xs) (hb:Below w.heap.size w w'):Row1 b B w' v n xs:=by
 refine ⟨(hb.block b h.lt).trans h.box,h.own.kept (row:=none) ⟨hb.os,hb.tape,hb.output,hb.size,fun q hq _=>hb.block q hq⟩ ?_,h.strs⟩;cases hv:v.ownBlock <;> simp
theorem Row1.put (h:Row1 b B w v n xs) {e:Ending} (hp:PutQ B v n w e w') (hBb:B≤b) (hBw:B≤w.heap.size):∃ v' n' xs',e=.returned v'∧Row1 b B (w'.setCell ⟨b,0,none⟩ v') v' n' xs'∧0<n'∧n'≤n+1∧(∀ q,v'.ownBlock=some q→some q=v.ownBlock∨w.heap.size≤q)∧KT 64 B w (w'.setCell ⟨b,0,none⟩ v') ∧
 w'.cell? ⟨b,0,none⟩=some v∧w'.frozen? ⟨b,0,none⟩=false ∧
 ∀ b2 v2 n2 xs2,b2≠b→Row1 b2 B w v2 n2 xs2→(v2.ownBlock=none∨v2.ownBlock≠v.ownBlock)→Row1 b2 B (w'.setCell ⟨b,0,none⟩ v') v2 n2 xs2:=by
 obtain ⟨v',xs',m,rfl,h1,h2,h3,h4,h5,h6⟩:=hp
 have hbne:some b≠v.ownBlock:=fun e=>by
  obtain ⟨cs,hc⟩:=row_typed h.own e.symm;rw [h.box] at hc
  injection hc with hc
  injection hc with _ hc _
  exact absurd hc (by decide)
 have hbx:w'.heap[b]?=some (.cells #[v] 120 (0,0)):=(h5.block b h.lt hbne).trans h.box
 have hbne':v'.ownBlock≠some b:=fun e=>by
  obtain ⟨cs,hc⟩:=row_typed h4 e;rw [hbx] at hc
  injection hc with hc
  injection hc with _ hc _
  exact absurd hc (by decide)
 refine ⟨v',m,xs',rfl,⟨?_,ownsRow_setCell_other h4 hbne' _,h3⟩,h1,h2,h6,?_,by rw [cR w' b 0 _ _ (0,0) hbx];rfl,by simp [World.frozen?,hbx],?_⟩
 · simp [World.setCell,Array.getElem?_modify,hbx]
 · refine ⟨Below.setCell (p:=⟨b,0,none⟩) ⟨h5.os,h5.tape,h5.output,h5.size,fun q hq=>h5.block q (by omega) (fun e=>?_)⟩ hBb _,fun q cs fz hq=>?_⟩
   · have:=(h.own.lt q e.symm).1;omega
   · have hqb:q≠b:=fun e=>by
      subst e;rw [h.box] at hq
      injection hq with hq
      injection hq with _ hq _
      exact absurd hq (by decide)
     rw [hO_ w' ⟨b,0,none⟩ q _ hqb];refine h5.block q (lH hq) fun e=>?_;obtain ⟨cs',hc⟩:=row_typed h.own e.symm;rw [hq] at hc
     injection hc with hc
     injection hc with _ hc _
     exact absurd hc (by decide)
 · intro b2 v2 n2 xs2 hne k hrow
   have hb2:some b2≠v.ownBlock:=fun e=>by
    obtain ⟨cs,hc⟩:=row_typed h.own e.symm;rw [k.box] at hc
    injection hc with hc
    injection hc with _ hc _
    exact absurd hc (by decide)
   have hv2:v2.ownBlock≠some b:=fun e=>by
    obtain ⟨cs,hc⟩:=row_typed k.own e;rw [h.box] at hc
    injection hc with hc
    injection hc with _ hc _
    exact absurd hc (by decide)
   refine ⟨?_,ownsRow_setCell_other (k.own.kept h5 hrow) hv2 _,k.strs⟩;rw [hO_ w' ⟨b,0,none⟩ b2 _ hne];exact (h5.block b2 k.lt hb2).trans k.box
end
structure NmInv (b1 b2 B:Nat) (x:Nat×Bool) (w:World):Prop where
 B1:B≤b1
 B2:B≤b2
 rows:∃ v1 n1 xs1 v2 n2 xs2,Row1 b1 B w v1 n1 xs1∧Row1 b2 B w v2 n2 xs2∧n1≤x.1∧n2≤x.1∧(n2=0↔x.2=false)∧(v2.ownBlock=none∨v2.ownBlock≠v1.ownBlock)
def nmStep (x:Nat×Bool) (t:Tm) (d:Nat):(Nat×Bool)×Bool:=((x.1+1,x.2 || decide (t.op=4)),true)
mutual
theorem nm_walk:∀ (t:Tm) (d:Nat) (x:Nat×Bool),(walkF nmStep t d x).2=true∧(walkF nmStep t d x).1.2=(x.2 || hasNext t)
 | .mk o n s l,d,x=>by
  rw [walkF_eq,hasNext];have h:=nm_walkL l (d+1) (x.1+1,x.2 || decide (o=4))
  show (if true=true then walkL nmStep l (d+1) (x.1+1,x.2 || decide (o=4)) else _).2=true∧(if true=true then walkL nmStep l (d+1) (x.1+1,x.2 || decide (o=4)) else _).1.2=_
  rw [iP rfl];refine ⟨h.1,h.2.trans ?_⟩;simp [Bool.or_assoc]
theorem nm_walkL:∀ (l:List Tm) (d:Nat) (x:Nat×Bool),(walkL nmStep l d x).2=true∧(walkL nmStep l d x).1.2=(x.2 || hasNextL l)
 | [],d,x=>by rw [walkL,hasNextL];simp
 | t :: r,d,x=>by
  have h1:=nm_walk t d x;rw [walkL,hasNextL]
  cases hw:walkF nmStep t d x with
  | mk y b=>
   rw [hw] at h1;obtain ⟨h2,h3⟩:=h1;simp only at h2 h3;subst h2;have h4:=nm_walkL r d y;refine ⟨h4.1,h4.2.trans ?_⟩;rw [h3,Bool.or_assoc]
end
theorem names1_any (b1 b2 B:Nat) (hne:b1≠b2) (x:Nat×Bool) (t:Tm) (d:Nat) (A:Option Addr) (c:Nat) (w:World) (hI:NmInv b1 b2 B x w) (hB:B≤w.heap.size) (hx:x.1≤9000000) :
 Calls Tryz.prog 164 #[t.val A c,.int .i64 d,.pointer (some ⟨b1,0,none⟩),.pointer (some ⟨b2,0,none⟩)] w fun e w'=>e=.returned (.bool true)∧NmInv b1 b2 B (nmStep x t d).1 w'∧KT 64 B w w':=by
 obtain ⟨B1,B2,v1,n1,xs1,v2,n2,xs2,r1,r2,l1,l2,hz,hdis⟩:=hI;obtain ⟨wb,hwb⟩:=ex_ (w.alloc (.cells #[.int .i64 t.op,.int .i64 t.num,.string t.name,.slice A t.kids.length c] 64));have hb1:=bAl hwb;have lt1:=r1.lt;have lt2:=r2.lt;have k1:=r1.below hb1;have k2:=r2.below hb1;have hsb:B≤wb.heap.size:=by have:=hb1.size;omega
 have HK:Hid (KT 64 B w wb):=KT.of_below hb1 hB;have HP1:=Hd (tput_any B n1 v1 xs1 t.name wb k1.own k1.strs (by omega) hsb);have HP2:=Hd (tput_any B n2 v2 xs2 t.name wb k2.own k2.strs (by omega) hsb);have c1:=r1.cell;have c2:=r2.cell;have HWB:=Hd hwb;rw [HWB.out] at HP1 HP2;have K1:=Hd k1;have K2:=Hd k2;have HST:Hid ((nmStep x t d).1=(x.1+1,x.2 || decide (t.op=4))):=rfl;obtain ⟨st,hst⟩:=ex_ ((nmStep x t d).1);rw [←hst] at HST ⊢;have HZ:=Hd hz;have HD:=Hd hdis;obtain ⟨op,hop⟩:=ex_ t.op;unfold Tm.val;rw [←hop] at HST HP1 HP2 HWB ⊢;have HNE:=Hd hne;have HSBB:=Hd hsb;clear hwb hb1 hsb k1 k2 r1 r2 hst hz hdis hop hne
 by_cases h3:op=3
 · subst h3;go_enter Tryz.func164,Tryz.ntmps164;go_wp2_with fail;refine (HP1.out).mono ?_;rintro e w2 hp;rw [←HWB.out] at hp;obtain ⟨v',n',xs',rfl,q1,q2,q3,q4,q5,q6,q7,q8⟩:=K1.out.put hp B1 HSBB.out;obtain ⟨g',cap',rfl,-,-⟩:=q1.own.form q2;have Q1:=Hd q1;have Q5:=Hd (HK.out.trans q5);have Q8:=Hd (q8 b2 v2 n2 xs2 HNE.out.symm K2.out HD.out);have Q4:=Hd q4;clear q1 q5 q8 q4;go_wp2_with fail;go_ret;refine ⟨rfl,⟨B1,B2,_,n',xs',v2,n2,xs2,Q1.out,Q8.out,by rw [HST.out];show n'≤x.1+1;omega,by rw [HST.out];show n2≤x.1+1;omega,by rw [HST.out];simpa using HZ.out,?_⟩,Q5.out⟩
   cases hv2:v2.ownBlock with
   | none=>exact .inl rfl
   | some q=>
    right
    intro e
    rcases Q4.out q e.symm with h | h
    · rcases HD.out with hd | hd
      · rw [hv2] at hd;cases hd
      · exact hd (hv2.trans h)
    · have:=(K2.out.own.lt q hv2).2;omega
 · have b3:(op == 3)=false:=by simpa using h3
   clear h3
   by_cases h4:op=4
   · subst h4;go_enter Tryz.func164,Tryz.ntmps164;go_wp2_with fail;refine (HP2.out).mono ?_;rintro e w2 hp;rw [←HWB.out] at hp;obtain ⟨v',n',xs',rfl,q1,q2,q3,q4,q5,q6,q7,q8⟩:=K2.out.put hp B2 HSBB.out;obtain ⟨g',cap',rfl,-,-⟩:=q1.own.form q2;have Q1:=Hd q1;have Q5:=Hd (HK.out.trans q5)
     have Q8:=Hd (q8 b1 v1 n1 xs1 HNE.out K1.out (by
      rcases HD.out with h | h
      · cases hv1:v1.ownBlock with
        | none=>exact .inl rfl
        | some q=>right;rw [h];simp
      · exact .inr h.symm))
     have Q4:=Hd q4;clear q1 q5 q8 q4;go_wp2_with fail;go_ret;refine ⟨rfl,⟨B1,B2,v1,n1,xs1,_,n',xs',Q8.out,Q1.out,by rw [HST.out];show n1≤x.1+1;omega,by rw [HST.out];show n'≤x.1+1;omega,by rw [HST.out];simp;omega,?_⟩,Q5.out⟩
     cases hv':(Value.slice (some ⟨g',0,none⟩) n' cap').ownBlock with
     | none=>exact .inl rfl
     | some q=>
      right
      intro e
      rcases Q4.out q hv' with h | h
      · rcases HD.out with hd | hd
        · rw [hd] at h;cases h
        · exact hd (h.symm.trans e)
      · have:=(K1.out.own.lt q e.symm).2;omega
   · have b4:(op == 4)=false:=by simpa using h4
     have H4:=Hd h4;clear h4;go_enter Tryz.func164,Tryz.ntmps164;go_wp2_with fail;go_ret;rw [←HWB.out];exact ⟨rfl,⟨B1,B2,v1,n1,xs1,v2,n2,xs2,K1.out,K2.out,by rw [HST.out];show n1≤x.1+1;omega,by rw [HST.out];show n2≤x.1+1;omega,by rw [HST.out];simpa [H4.out] using HZ.out,HD.out⟩,HK.out⟩
def NamesQ (t:Tm) (w:World) (e:Ending) (w':World):Prop:=∃ v1 A n2 c2,e=.returned (.tuple #[v1,.slice A n2 c2])∧(n2=0↔hasNext t=false)∧Below w.heap.size w w'
theorem names_any (t:Tm) (A:Option Addr) (c:Nat) (w:World) (hV:TmV w A c t) (hsz:t.size≤9000000) :
 Calls Tryz.prog 129 #[t.val A c] w (NamesQ t w):=by
 obtain ⟨wb,hwb⟩:=ex_ (((w.alloc (.cells #[.int .i64 t.op,.int .i64 t.num,.string t.name,.slice A t.kids.length c] 64)).alloc (.cells #[.slice none 0 0] 120)).alloc (.cells #[.slice none 0 0] 120));have hb1:Below w.heap.size w wb:=by rw [hwb];exact (((Br _ _).alloc (lr _) _).alloc (by simp) _).alloc (by simp;omega) _
 have own0:∀ W:World,W.ownsRow w.heap.size 9 1 (.slice none 0 0) 0 []:=fun W=>⟨rfl,.inl ⟨rfl,rfl⟩⟩
 have hr1:Row1 (w.heap.size+1) w.heap.size wb (.slice none 0 0) 0 []:=by
  refine ⟨?_,own0 _,fun v hv=>by cases hv⟩;rw [hwb,heap_alloc_old _ _ (by simp)];have h:=hA_ (w.alloc (.cells #[.int .i64 t.op,.int .i64 t.num,.string t.name,.slice A t.kids.length c] 64)) (.cells #[.slice none 0 0] 120);rw [show (w.alloc (.cells #[.int .i64 t.op,.int .i64 t.num,.string t.name,.slice A t.kids.length c] 64)).heap.size=w.heap.size+1 from by simp] at h;exact h
 have hr2:Row1 (w.heap.size+2) w.heap.size wb (.slice none 0 0) 0 []:=by
  refine ⟨?_,own0 _,fun v hv=>by cases hv⟩;rw [hwb];have h:=hA_ ((w.alloc (.cells #[.int .i64 t.op,.int .i64 t.num,.string t.name,.slice A t.kids.length c] 64)).alloc (.cells #[.slice none 0 0] 120)) (.cells #[.slice none 0 0] 120);rw [show ((w.alloc (.cells #[.int .i64 t.op,.int .i64 t.num,.string t.name,.slice A t.kids.length c] 64)).alloc (.cells #[.slice none 0 0] 120)).heap.size=w.heap.size+2 from by simp] at h;exact h
 have hI:NmInv (w.heap.size+1) (w.heap.size+2) w.heap.size (0,false) wb:=⟨by omega,by omega,_,0,[],_,0,[],hr1,hr2,lr _,lr _,by simp,.inl rfl⟩
 have V:Visitor 164 #[.pointer (some ⟨w.heap.size+1,0,none⟩),.pointer (some ⟨w.heap.size+2,0,none⟩)] w.heap.size w (NmInv (w.heap.size+1) (w.heap.size+2) w.heap.size) (NmInv (w.heap.size+1) (w.heap.size+2) w.heap.size) nmStep (fun x=>9000001 - x.1):=
  { enter:=fun args w=>by kernel_rfl
    fin:=fun s w h=>h
    keep:=fun s W W' h hb=>by
     obtain ⟨B1,B2,v1,n1,xs1,v2,n2,xs2,r1,r2,h3⟩:=h;exact ⟨B1,B2,v1,n1,xs1,v2,n2,xs2,r1.below hb,r2.below hb,h3⟩
    lose:=fun s t d=>by show 9000001 - s.1≤9000001 - (s.1+1)+1;omega
    call:=fun s t d A c W hI hbl hV hd hr=>(names1_any _ _ _ (by omega) s t d A c W hI hbl.size (by omega)).mono fun e w2 ⟨h1,h2,h3⟩=>⟨h1,⟨h2,fun _=>h2⟩,h3⟩ }
 have hwalk:=walk_any V rfl t.size t 1 A c (0,false) wb (lr _) (by omega) (by show t.size≤9000001 - 0;omega) hV hI hb1;have hnw:=nm_walk t 1 (0,false);rw [hnw.1] at hwalk;have HNW:Hid ((walkF nmStep t 1 (0,false)).1.2=hasNext t):=by show _=_;rw [hnw.2];rfl
 rw [hwb] at hwalk;have HWK:=Hd hwalk;have HB1:=Hd hb1;have HWB:=Hd hwb;obtain ⟨F,HF⟩:=exh_ (NamesQ t w);rw [←HF.out];unfold Tm.val at HWK ⊢;clear hb1 hr1 hr2 hI V hwalk hwb hV hsz hnw own0;go_enter Tryz.func129,Tryz.ntmps129;go_wp2_with fail;refine (HWK.out).mono ?_;rintro e w1 ⟨rfl,hfin,ho⟩;rw [←HWB.out] at ho;obtain ⟨B1,B2,v1,n1,xs1,v2,n2,xs2,r1,r2,l1,l2,hz,hdis⟩:=hfin.1;rw [HNW.out] at hz;have hb2:=HB1.out.trans ho.below
 obtain ⟨a1,m1,c1,rfl⟩:∃ a m c,v1=.slice a m c:=by
  rcases r1.own.2 with ⟨h,_⟩ | ⟨g,cap,cur,h,_⟩
  · exact ⟨_,_,_,h⟩
  · exact ⟨_,_,_,h⟩
 obtain ⟨a2,c2,rfl⟩:∃ a c,v2=.slice a n2 c:=by
  rcases r2.own.2 with ⟨h,h0⟩ | ⟨g,cap,cur,h,_⟩
  · exact ⟨_,_,by rw [h,h0]⟩
  · exact ⟨_,_,h⟩
 have q1:=r1.cell;have q2:=r2.cell;have f1:=r1.frozen;have f2:=r2.frozen;have hlt1:=r1.lt;have hlt2:=r2.lt;have HB2:=Hd hb2;have HZ:=Hd hz;clear hfin ho r1 r2 l1 l2 hz hdis hb2;have q2':w1.cell? ⟨w.heap.size+1+1,0,none⟩=some (.slice a2 n2 c2):=q2;have f2':w1.frozen? ⟨w.heap.size+1+1,0,none⟩=false:=f2;clear q2 f2;go_wp2_with fail
 go_region
 obtain ⟨w3,hw3⟩:=ex_ (((w1.setCell ⟨w.heap.size+1,0,none⟩ (.slice a1 m1 c1)).setCell ⟨w.heap.size+1+1,0,none⟩ (.slice a2 n2 c2)).drew);rw [←hw3]
 have z1:w3.cell? ⟨w.heap.size+1,0,none⟩=some (.slice a1 m1 c1):=by
  rw [hw3];go_simp
 have z2:w3.cell? ⟨w.heap.size+1+1,0,none⟩=some (.slice a2 n2 c2):=by
  rw [hw3];go_simp
 have hb3:Below w.heap.size w w3:=by
  rw [hw3];exact ((HB2.out.setCell (p:=⟨w.heap.size+1,0,none⟩) (by simp) _).setCell (p:=⟨w.heap.size+1+1,0,none⟩) (by simp;omega) _).drew
 have HB3:=Hd hb3;clear hw3 hb3 q1 q2' f1 f2';go_wp2_with fail;rw [HF.out];exact bR (v:=.tuple #[.slice a1 m1 c1,.slice a2 n2 c2]) (by simp [results,Tryz.results129,go_sem,z1,z2]) rfl ⟨_,a2,n2,c2,rfl,HZ.out,HB3.out⟩
def val (b:Nat):List Nat→Nat
 | []=>0
 | d :: r=>d+b*val b r
def digsF:Nat→Nat→Nat→List Nat
 | 0,_,_=>[]
 | f+1,b,n=>if n=0 then [] else n % b :: digsF f b (n / b)
def digs (b n:Nat):List Nat:=digsF n b n
theorem digsF_enough {b:Nat} (hb:2≤b):∀ (f g n:Nat),n≤f→n≤g→digsF f b n=digsF g b n
 | 0,g,n,h1,h2=>by
  have:n=0:=by omega
  subst this;cases g <;> rfl
 | f+1,0,n,h1,h2=>by
  have:n=0:=by omega
  subst this
  rfl
 | f+1,g+1,n,h1,h2=>by
  unfold digsF
  split
  · rfl
  · rename_i hn
    have hlt:n / b<n:=Nat.div_lt_self (by omega) (by omega);rw [digsF_enough hb f g (n / b) (by omega) (by omega)]
theorem digs_pos {b n:Nat} (hb:2≤b) (hn:n≠0):digs b n=n % b :: digs b (n / b):=by
 obtain ⟨m,rfl⟩:∃ m,n=m+1:=⟨n - 1,by omega⟩;have hlt:(m+1) / b<m+1:=Nat.div_lt_self (by omega) (by omega);show digsF (m+1) b (m+1)=_;rw [digsF,iN (by omega),digsF_enough hb m ((m+1) / b) _ (by omega) (lr _)]
 rfl
theorem digs_len {b:Nat} (hb:2≤b):∀ (m n:Nat),n<b ^ m→(digs b n).length≤m
 | 0,n,h=>by
  have:n=0:=by simpa using h
  subst this;exact lr _
 | m+1,n,h=>by
  by_cases hn:n=0
  · subst hn;exact zl _
  · rw [digs_pos hb hn,List.length_cons];have:=digs_len hb m (n / b) (by rw [Nat.div_lt_iff_lt_mul (by omega)];rw [Nat.pow_succ] at h;exact h);omega
def decB (x:Nat):Bs:=if x=0 then [48] else (digs 10 x).reverse.map fun d=>UInt8.ofNat (48+d)
def numS (n:Int):Bs:=if n<0 then 45 :: decB n.natAbs else decB n.natAbs
def lowB:Nat→Nat→Bs
 | 0,_=>[]
 | k+1,x=>lowB k (x / 10)++[UInt8.ofNat (48+x % 10)]
theorem lowB_front:∀ (k x:Nat),lowB (k+1) x=UInt8.ofNat (48+x / 10 ^ k % 10) :: lowB k x
 | 0,x=>by rw [lowB,Nat.pow_zero,Nat.div_one];rfl
 | k+1,x=>by
  rw [lowB,lowB_front k (x / 10),Nat.div_div_eq_div_mul,lowB,List.cons_append,Nat.pow_succ,Nat.mul_comm 10]
theorem decB_low:∀ (k x:Nat),x / 10 ^ k=0→(k=1∨(1<k∧0<x / 10 ^ (k - 1)))→lowB k x=decB x
 | 0,x,_,h=>by omega
 | 1,x,h,_=>by
  rw [Nat.pow_one] at h;have hx:x<10:=by omega
  unfold decB
  by_cases h0:x=0
  · subst h0;rfl
  · rw [iN h0,digs_pos (by decide) h0,h]
    rfl
 | k+2,x,h,hk=>by
  have hk2:0<x / 10 ^ (k+1):=by rcases hk with hk | hk;omega;exact hk.2
  have hx:x≠0:=by intro h0;subst h0;simp at hk2
  have e1:x / 10 ^ (k+2)=x / 10 / 10 ^ (k+1):=by rw [Nat.div_div_eq_div_mul,Nat.pow_succ 10 (k+1),Nat.mul_comm]
  have e2:x / 10 ^ (k+1)=x / 10 / 10 ^ k:=by rw [Nat.div_div_eq_div_mul,Nat.pow_succ 10 k,Nat.mul_comm]
  have ih:=decB_low (k+1) (x / 10) (by rw [←e1];exact h) (by
   rcases Nat.eq_zero_or_pos k with h0 | h0
   · left;omega
   · right;exact ⟨by omega,by rw [Nat.add_sub_cancel,←e2];exact hk2⟩)
  have hx10:x / 10≠0:=by
   intro h0;rw [e2,h0] at hk2;simp at hk2
  rw [lowB,ih];unfold decB;rw [iN hx10,iN hx,digs_pos (by decide) hx,List.reverse_cons,List.map_append]
  rfl
theorem decB_len (x:Nat) (h:x<10 ^ 20):(decB x).length≤20:=by
 unfold decB
 split
 · decide
 · have:=digs_len (b:=10) (by decide) 20 x h
   simpa using this
def dvB (l:Bs):Array Value:=(l.map fun (c:UInt8)=>Value.int .u8 (c.toNat:Int)).toArray
def RowB (w:World) (g:Nat) (T:TypeId) (l:Bs):Prop:=w.heap[g]?=some (.cells (dvB l) T (0,0))
section
variable {w w':World} {g:Nat} {T:TypeId} {l:Bs}
theorem RowB.lt (h:RowB w g T l):g<w.heap.size:=by
 rcases Nat.lt_or_ge g w.heap.size with hlt | hge
 · exact hlt
 · unfold RowB at h;rw [Array.getElem?_eq_none hge] at h;cases h
theorem RowB.cell (h:RowB w g T l) {i:Nat} {c:UInt8} (hd:l[i]?=some c):w.cell? ⟨g,i,none⟩=some (.int .u8 (c.toNat:Int)):=by
 rw [cR w g i (dvB l) T (0,0) h];simp [dvB,hd]
theorem RowB.frozen (h:RowB w g T l) (i:Nat):w.frozen? ⟨g,i,none⟩=false:=by
 unfold RowB at h;simp [World.frozen?,h]
theorem RowB.set_ (h:RowB w g T l) (i:Nat) (c:UInt8):RowB (w.setCell ⟨g,i,none⟩ (.int .u8 (c.toNat:Int))) g T (l.set i c):=by
 unfold RowB at h ⊢;simp [World.setCell,Array.getElem?_modify,h,dvB,List.map_set]
theorem RowB.below {B:Nat} (h:RowB w g T l) (hb:Below B w w') (hg:g<B):RowB w' g T l:=(hb.block g hg).trans h
end
theorem size_any (n:Int) (w:World) (h1:-9223372036854775808≤n) (h2:n≤9223372036854775807) :
 Calls Tryz.prog 96 #[.int .i64 n] w fun e w'=>e=.returned (.int .u64 (n.natAbs:Nat))∧w=w':=by
 by_cases h:n<0
 · have e1:IntKind.u64.wrap (-IntKind.u64.wrap n)=(n.natAbs:Nat):=by
    show (-(n % 18446744073709551616)) % 18446744073709551616=_;omega
   have E1:=Hd e1;clear e1;go_enter Tryz.func96,Tryz.ntmps96
   go_wp2
   go_ret;rw [E1.out];exact ⟨rfl,rfl⟩
 · obtain ⟨m,rfl⟩:∃ m:Nat,n=m:=⟨n.toNat,by omega⟩;rw [Int.natAbs_natCast];go_enter Tryz.func96,Tryz.ntmps96
   go_wp2
   go_ret;exact ⟨rfl,rfl⟩
theorem numtext_any (n:Int) (w:World) (h1:-9223372036854775808≤n) (h2:n≤9223372036854775807) :
 Calls Tryz.prog 56 #[.int .i64 n] w fun e w'=>e=.returned (.string ⟨(numS n).toArray⟩)∧Below w.heap.size w w':=by
 have HSZ:=Hd (fun W=>size_any n W h1 h2);obtain ⟨x,hx⟩:=ex_ n.natAbs;have hxb:x<10 ^ 19:=by rw [hx];show n.natAbs<10000000000000000000;omega
 rw [←hx] at HSZ;have HX:=Hd hx;have HXB:=Hd hxb;clear hx hxb h1 h2;obtain ⟨W,HW⟩:=exh_ (w.alloc (.cells (dvB (List.replicate 20 0)) 158));have hR0:Hid (RowB W w.heap.size 158 (List.replicate 20 0)):=by rw [HW.out];exact hA_ w _
 have hB0:Hid (Below w.heap.size w W):=by rw [HW.out];exact (Br _ _).alloc (lr _) _
 go_enter Tryz.func56,Tryz.ntmps56;go_wp2_with fail;refine (HSZ.out _).mono ?_;rintro e w1 ⟨rfl,hw⟩;rw [←hw];clear hw;go_wp2_with fail;have hR1:Hid (RowB (w.alloc (.cells #[.int .u8 0,.int .u8 0,.int .u8 0,.int .u8 0,.int .u8 0,.int .u8 0,.int .u8 0,.int .u8 0,.int .u8 0,.int .u8 0,.int .u8 0,.int .u8 0,.int .u8 0,.int .u8 0,.int .u8 0,.int .u8 0,.int .u8 0,.int .u8 0,.int .u8 0,.int .u8 0] 158)) w.heap.size 158 (List.replicate 20 0)):=hA_ w _
 go_loopw [4,5] (fun sa su wr=>∃ (k a u:Nat) (L:Bs),a+k=20∧sa=.int .i64 a∧su=.int .u64 u∧u=x / 10 ^ k∧L.length=20∧L.drop a=lowB k x∧RowB wr w.heap.size 158 L∧(1<k→0<x / 10 ^ (k - 1))∧Below w.heap.size w wr) (fun a _ _=>(intOf a).toNat)
 case atStart=>exact ⟨0,20,x,_,rfl,rfl,rfl,by rw [Nat.pow_zero,Nat.div_one],by simp,rfl,hR1.out,(fun h=>by omega),(Br _ _).alloc (lr _) _⟩
 case round=>
  obtain ⟨k,a,u,L,hak,rfl,rfl,hu,hL,hdr,hrow,hpos,hbel⟩:=hrel;have HU:=Hd hu;have HL:=Hd hL;have HDR:=Hd hdr;have HROW:=Hd hrow;have HPOS:=Hd hpos;have HBL:=Hd hbel;have hgl:=hrow.lt;have hfz:=hrow.frozen (a - 1)
  have hxk:∀ j,0<x / 10 ^ j→j<19:=fun j hj=>by
   have h1:=(Nat.div_pos_iff.1 hj).2;exact (Nat.pow_lt_pow_iff_right (by decide)).1 (Nat.lt_of_le_of_lt h1 HXB.out)
  have HXK:=Hd hxk
  have hub:u≤10000000000000000000:=by
   have h1:=HXB.out;have h2:u≤x:=by rw [HU.out];exact Nat.div_le_self _ _
   have h3:(10:Nat) ^ 19=10000000000000000000:=rfl;omega
  clear hu hL hdr hrow hpos hbel hxk
  by_cases hgo:k=0∨0<u
  · have hk19:k≤18:=by
     rcases hgo with h | h
     · omega
     · have:=HXK.out k (by rw [←HU.out];exact h);omega
    obtain ⟨c,hc⟩:∃ c:UInt8,c=UInt8.ofNat (48+u % 10):=⟨_,rfl⟩;have hct:c.toNat=48+u % 10:=by rw [hc,UInt8.toNat_ofNat'];omega
    have E1:Hid (48+(u:Int) % 10=(c.toNat:Int)):=by show _=_;omega
    have HC:=Hd hc;obtain ⟨o0,ho0⟩:∃ o0,L[a - 1]?=some o0:=⟨_,gG (by have:=HL.out;omega)⟩;have y0:=HROW.out.cell ho0;have HO0:=Hd ho0;clear ho0;have ha1:(0:Int)≤(a:Int) - 1:=by omega
    have ha2:(a:Int) - 1<20:=by omega
    have ha3:((a:Int) - 1).toNat=a - 1:=by omega
    have ha4:(a:Int)≤20:=by omega
    clear hc hct
    have hcond:(((a:Int) == 20)=true)∨(((a:Int) == 20)=false∧(0:Int)<(u:Int)):=by
     rcases Nat.eq_zero_or_pos k with h | h
     · left;simp;omega
     · right;exact ⟨by simp;omega,by omega⟩
    have HG:=Hd hgo;clear hgo
    rcases hcond with b1 | ⟨b1,b2⟩
    all_goals
     go_wp2_with fail
     go_roundw
     case rel=>
      rw [E1.out];refine ⟨k+1,a - 1,u / 10,L.set (a - 1) c,by omega,congrArg (Value.int .i64) (by omega),congrArg (Value.int .u64) (by omega),by rw [HU.out,Nat.div_div_eq_div_mul,Nat.pow_succ],by rw [List.length_set];exact HL.out,?_,HROW.out.set_ _ _,fun h=>?_,HBL.out.setCell (p:=⟨w.heap.size,a - 1,none⟩) (lr _) _⟩
      · have hla:a - 1<L.length:=by have:=HL.out;omega
        rw [List.drop_eq_getElem_cons (by rw [List.length_set];exact hla),List.getElem_set_self,List.drop_set_of_lt (by omega),show a - 1+1=a from by omega,HDR.out,lowB_front,←HU.out,←HC.out]
      · have hk0:k≠0:=by omega
        rw [Nat.add_sub_cancel,←HU.out]
        rcases HG.out with h9 | h9
        · exact absurd h9 hk0
        · exact h9
     case measure=>first | (simp [intOf];done) | (simp [intOf];omega)
  · have hk0:k≠0:=fun h=>hgo (.inl h);have hu0:u=0:=by rcases Nat.eq_zero_or_pos u with h | h;exact h;exact absurd (.inr h) hgo
    have hk19:k≤19:=by
     rcases Nat.lt_or_ge k 2 with h | h
     · omega
     · have:=HXK.out (k - 1) (HPOS.out (by omega));omega
    have hlow:lowB k x=decB x:=decB_low k x (by rw [←HU.out];exact hu0) (by
     rcases Nat.lt_or_ge k 2 with h | h
     · left;omega
     · right;exact ⟨by omega,HPOS.out (by omega)⟩)
    have HLOW:=Hd hlow;subst hu0;have b1:((a:Int) == 20)=false:=by simp;omega
    clear hgo hlow
    have hcvt:∀ (wr':World) (b:Nat) (L':Bs),b≤20→L'.length=20→RowB wr' w.heap.size 158 L'→(convert 79 9 (.slice (some ⟨w.heap.size,b,none⟩) (20 - b) (20 - b))).run Tryz.prog wr'=.ok (.string ⟨(L'.drop b).toArray⟩) wr':=by
     intro wr' b L' hb hL' hr
     have h1:=run_convert_bytes_arg wr' 79 5 Tryz.underlying79 Tryz.underlying5 w.heap.size b (20 - b) (20 - b) ((L'.drop b).map fun (c:UInt8)=>(c.toNat:Int)) (by rw [List.length_map,List.length_drop];omega) (fun i hi=>by
      have hx:L'[b+i]?=some (L'[b+i]'(by omega)):=gG (by omega);rw [hr.cell hx]
      simp [List.getD,List.getElem?_map,List.getElem?_drop,hx]) 9 Tryz.underlying9
     rw [h1]
     congr 2
     apply ByteArray.ext
     apply Array.toList_inj.1
     rw [strOfNums_data,List.map_map]
     have hid:∀ c∈L'.drop b,((fun n:Int=>UInt8.ofNat n.toNat) ∘ fun c:UInt8=>(c.toNat:Int)) c=c:=fun c _=>by
      show UInt8.ofNat ((c.toNat:Int)).toNat=c;rw [Int.toNat_natCast,UInt8.ofNat_toNat]
     first
      | (rw [List.map_congr_left hid];simp)
      | simp
    have HCV:=Hd hcvt;clear hcvt
    by_cases hn:n<0
    · obtain ⟨b,hb⟩:=ex_ (a - 1);obtain ⟨o0,ho0⟩:∃ o0,L[b]?=some o0:=⟨_,gG (by have:=HL.out;omega)⟩;have y0:=HROW.out.cell ho0;rw [←hb] at hfz;have e1:(a:Int) - 1=(b:Int):=by omega
      have hb20:b≤19:=by omega
      have hbi:(b:Int)≤20:=by omega
      have hbi2:(b:Int)<20:=by omega
      have hcv2:=HCV.out (wr.setCell ⟨w.heap.size,b,none⟩ (.int .u8 45)) b (L.set b 45) (by omega) (by rw [List.length_set];exact HL.out) (HROW.out.set_ b 45)
      have hres:(L.set b 45).drop b=numS n:=by
       have hbl:b<(L.set b 45).length:=by rw [List.length_set];have:=HL.out;omega
       rw [List.drop_eq_getElem_cons hbl,List.getElem_set_self,List.drop_set_of_lt (by omega),show b+1=a from by omega,HDR.out,HLOW.out];unfold numS;rw [iP hn,HX.out]
      rw [hres] at hcv2;have HBL2:=Hd (HBL.out.setCell (p:=⟨w.heap.size,b,none⟩) (lr _) (.int .u8 45));clear ho0 hb hres HCV;go_wp2_with fail;go_ret;exact ⟨rfl,HBL2.out⟩
    · have ha4:(a:Int)≤20:=by omega
      have hcv2:=HCV.out wr a L (by omega) HL.out HROW.out
      have hres:L.drop a=numS n:=by
       rw [HDR.out,HLOW.out];unfold numS;rw [iN hn,HX.out]
      rw [hres] at hcv2;clear hres HCV;go_wp2_with fail;go_ret;exact ⟨rfl,HBL.out⟩
end Go.Proofs.YtkhoeoilamddaaaGreatDoor
