/- Walk: pool.New. -/
import Derived.Test.YtpijlhlpejlhhaaGreatVPlA
namespace Go.Proofs.YtpijlhlpejlhhaaGreat
open Go.RowKit
set_option linter.unusedVariables false
set_option maxRecDepth 100000
set_option maxHeartbeats 4000000
/-- The empty store. -/
def KL:Bd.St:=⟨fun _=>none,fun _=>0,1,[],fun _=>0,0,0,fun _ _ _=>none⟩
theorem mkN(w:World):(Instr.makeSlice 206 (.int .i64 1) (.int .i64 1)).run Tryz.prog w=.ok (.slice (some ⟨w.heap.size,0,none⟩) 1 1) (w.alloc (.cells #[.int .i64 0,.int .i64 0,.int .i64 0,.int .i64 0,.int .i64 0] 171)):=by kernel_rfl
theorem mkB(w:World):(Instr.makeSlice 33 (.int .i64 1) (.int .i64 1)).run Tryz.prog w=.ok (.slice (some ⟨w.heap.size,0,none⟩) 1 1) (w.alloc (.cells #[.bool false] 4)):=by kernel_rfl
theorem Td{K:Nat→Nat}{w W:World}{pb ga gt room:Nat}(hb:Below w.heap.size w W)(h1:W.heap[pb]?=some (.cells #[.int .i64 (room:Nat),.slice (some ⟨ga,0,none⟩) 1 1,.slice (some ⟨gt,0,none⟩) 1 1,.slice none 0 0,.int .i64 0] 208 (0,0)))
 (h2:W.heap[ga]?=some (.cells #[.int .i64 0,.int .i64 0,.int .i64 0,.int .i64 0,.int .i64 0] 171 (0,0))) (h3:W.heap[gt]?=some (.cells #[.bool false] 4 (0,0))) (n1:w.heap.size≤pb) (n2:w.heap.size≤ga) (n3:w.heap.size≤gt) (e1:pb≠ga) (e2:pb≠gt) (e3:ga≠gt) :
 ∃K',aY K' W pb ga 1 gt 1 (.slice none 0 0) room KL∧aj (fun _=>False) K w K' W:=by
 refine⟨bJ (bJ (bJ K pb 6) ga 7) gt 8,⟨h1,⟨⟨⟨_,h2,by simp,fun i hi j hj=>?_⟩,by simp[KL]⟩,⟨⟨_,h3,by simp,fun i hi j hj=>?_⟩,by simp[KL]⟩,.inl ⟨rfl,rfl⟩,by rw[bP e3,aW],aW _ _ _,j4.nil⟩,by simp[KL],fun i h=>absurd rfl h,by rw[bP e2,bP e1,aW]⟩,((((aj.of_below hb).new n1).new n2).new n3)⟩
 ·obtain rfl:i=0:=by simp only[KL]at hi;omega
  rcases j with _|_|_|_|_|j<;>first|rfl|omega
 ·obtain rfl:i=0:=by simp only[KL]at hi;omega
  obtain rfl:j=0:=by omega
  rfl
theorem Ow(room:Nat)(h1:1≤room)(h2:room≤1048576)(K:Nat→Nat)(w:World) :
 Calls Tryz.prog 143 #[.int .i64 (room:Nat)] w fun x w'=>∃K' pb ga ca gt ct fv,x=.returned (.tuple #[.pointer (some ⟨pb,0,none⟩),.int .i64 0])∧aY K' w' pb ga ca gt ct fv room KL∧aj (fun _=>False) K w K' w'∧Below w.heap.size w w'∧w.heap.size≤pb:=by
 obtain⟨F,HF⟩:=aJ (fun(x:Ending)(w':World)=>∃K' pb ga ca gt ct fv,x=.returned (.tuple #[.pointer (some ⟨pb,0,none⟩),.int .i64 0])∧aY K' w' pb ga ca gt ct fv room KL∧aj (fun _=>False) K w K' w'∧Below w.heap.size w w'∧w.heap.size≤pb);rw[←HF.out];have h1':¬(room:Int)<1:=by omega
 have h2':¬(1048576:Int)<(room:Int):=by omega
 have k1:=mkN;have k2:=mkB;go_in
 go_wp2
 go_region
 all_goals go_wp2
 all_goals
  rw[HF.out];have hb:∀(o1 o2 o3:Obj),Below w.heap.size w (((w.alloc o1).alloc o2).alloc o3).drew:=fun o1 o2 o3=>((((Below.refl _ w).alloc (Nat.le_refl _) o1).alloc (by simp) o2).alloc (by simp;omega) o3).drew
  have hh:∀(o1 o2 o3:Obj),(((w.alloc o1).alloc o2).alloc o3).drew.heap[w.heap.size]?=some o1∧(((w.alloc o1).alloc o2).alloc o3).drew.heap[w.heap.size+1]?=some o2∧(((w.alloc o1).alloc o2).alloc o3).drew.heap[w.heap.size+1+1]?=some o3:=fun o1 o2 o3=>
   ⟨(heap_alloc_old _ _ (by simp;omega)).trans ((heap_alloc_old _ _ (by simp)).trans (heap_alloc_new _ _)),(heap_alloc_old _ _ (by simp)).trans (aL (by simp)),aL (by simp)⟩
 ·have h9:=hh (.cells #[.int .i64 0,.int .i64 0,.int .i64 0,.int .i64 0,.int .i64 0] 171) (.cells #[.bool false] 4) (.cells #[.int .i64 (room:Nat),.slice (some ⟨w.heap.size,0,none⟩) 1 1,.slice (some ⟨w.heap.size+1,0,none⟩) 1 1,.slice none 0 0,.int .i64 0] 208);obtain⟨K',p1,p2⟩:=Td (K:=K) (room:=room) (hb _ _ _) h9.2.2 h9.1 h9.2.1 (by omega) (by omega) (by omega) (by omega) (by omega) (by omega);exact⟨K',w.heap.size+1+1,w.heap.size,1,w.heap.size+1,1,.slice none 0 0,rfl,p1,p2,hb _ _ _,by omega⟩
 ·have h9:=hh (.cells #[.bool false] 4) (.cells #[.int .i64 0,.int .i64 0,.int .i64 0,.int .i64 0,.int .i64 0] 171) (.cells #[.int .i64 (room:Nat),.slice (some ⟨w.heap.size+1,0,none⟩) 1 1,.slice (some ⟨w.heap.size,0,none⟩) 1 1,.slice none 0 0,.int .i64 0] 208);obtain⟨K',p1,p2⟩:=Td (K:=K) (room:=room) (hb _ _ _) h9.2.2 h9.2.1 h9.1 (by omega) (by omega) (by omega) (by omega) (by omega) (by omega);exact⟨K',w.heap.size+1+1,w.heap.size+1,1,w.heap.size,1,.slice none 0 0,rfl,p1,p2,hb _ _ _,by omega⟩
end Go.Proofs.YtpijlhlpejlhhaaGreat
