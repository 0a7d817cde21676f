/- Walks: sets of variables (vset): Has. -/
import Derived.Test.YtpijlhlpejlhhaaGreatVMnB
namespace Go.Proofs.YtpijlhlpejlhhaaGreat
open Go.RowKit
set_option linter.unusedVariables false
set_option maxRecDepth 100000
set_option maxHeartbeats 8000000
section
variable {w w':World} {v:Value} {l:List Nat}
theorem av.form(h:av w v l):∃p c,v=.slice p l.length c∧(0<l.length→∃g,p=some ⟨g,0,none⟩∧Rw w 3 1 l.length c g (fun i=>[.int .i64 (l.getD i 0:Nat)])):=by
 rcases h with⟨h1,h2⟩|⟨g,c,h1,h2⟩
 ·exact⟨none,0,by rw[h1,h2],fun h=>by omega⟩
 ·exact⟨_,c,h1,fun _=>⟨g,rfl,h2⟩⟩
theorem av.below(h:av w v l)(hb:Below w.heap.size w w'):av w' v l:=Sl.kept h (fun g n c e hg=>hb.block g hg)
/-- A list of numbers,wherever it lies in its block. -/
def nN(w:World)(v:Value)(l:List Nat):Prop:=∃p c,v=.slice p l.length c∧∀j,j<l.length→∃g off,p=some ⟨g,off,none⟩∧g<w.heap.size∧w.cell? ⟨g,off+j,none⟩=some (.int .i64 (l.getD j 0:Nat))
theorem nN.form(h:nN w v l):∃p c,v=.slice p l.length c∧∀j,j<l.length→∃g off,p=some ⟨g,off,none⟩∧g<w.heap.size∧w.cell? ⟨g,off+j,none⟩=some (.int .i64 (l.getD j 0:Nat)):=h
theorem nN.below(h:nN w v l)(hb:Below w.heap.size w w'):nN w' v l:=by
 obtain⟨p,c,h1,h2⟩:=h;refine⟨p,c,h1,fun j hj=>?_⟩;obtain⟨g,off,e1,e2,e3⟩:=h2 j hj;exact⟨g,off,e1,Nat.lt_of_lt_of_le e2 hb.size,by rw[hb.cell (p:=⟨g,_,none⟩) e2];exact e3⟩
theorem av.o(h:av w v l):nN w v l:=by
 obtain⟨p,c,h1,h2⟩:=h.form;refine⟨p,c,h1,fun j hj=>?_⟩;obtain⟨g,e1,e2⟩:=h2 (by omega);have:=e2.cell (i:=j) (j:=0) hj (by omega);simp only[Nat.mul_one,Nat.add_zero,List.getElem?_cons_zero]at this;exact⟨g,0,e1,e2.lt,by rw[Nat.zero_add];exact this⟩
theorem Oq(h:nN w v l)(hn:l.length≤1000000)(x:Nat) :
 Calls Tryz.prog 86 #[v,.int .i64 (x:Nat)] w fun r w'=>r=.returned (.bool (decide (x∈l)))∧w'=w:=by
 obtain⟨F,HF⟩:=aJ (fun(r:Ending)(w':World)=>r=.returned (.bool (decide (x∈l)))∧w'=w);rw[←HF.out];obtain⟨p,c,hv,hrw⟩:=h.form;obtain⟨m,hm⟩:∃m,m=l.length:=⟨_,rfl⟩;rw[←hm]at hv hrw hn;subst hv;have HR:=Lib.hid hrw;have HM:=Lib.hid hm;clear h hrw hm;go_in
 go_wp2
 go_loopg [6,9,10,11,12,13,14,15,16] m (fun q v6 v9 v10 v11 v12 v13 v14 v15 v16 wr=>∃j:Nat,q=m-j∧j≤m∧v9=.int .i64 (j:Nat)∧x∉l.take j∧wr=w)
 case atStart=>exact⟨0,rfl,Nat.zero_le _,rfl,by simp,rfl⟩
 case round=>
  obtain⟨j,rfl,hj,rfl,hx,rfl⟩:=hrel;have HX:=Lib.hid hx;clear hx
  by_cases hlt:j<m
  ·have hji:(j:Int)<(m:Int):=by omega
   obtain⟨g,off,hpp,hgl,hrw⟩:=HR.out j hlt;subst hpp;obtain⟨a,ha⟩:∃a,a=l.getD j 0:=⟨_,rfl⟩;have hjl:j<l.length:=by rw[←HM.out];exact hlt
   have haj:l[j]?=some a:=by rw[ha,List.getD_eq_getElem?_getD,List.getElem?_eq_getElem hjl];rfl
   have z0:wr.cell? ⟨g,off+j,none⟩=some (.int .i64 (a:Nat)):=by rw[hrw,ha]
   have HA:=Lib.hid haj;clear hrw ha haj hjl
   by_cases he:a=x
   ·have hin:decide (x∈l)=true:=by
     rw[decide_eq_true_iff,←he];exact List.mem_of_getElem? HA.out
    rw[hin]at HF;clear hin;subst he
    go_wp2
    rw[HF.out];exact⟨rfl,rfl⟩
   ·have hei:¬(a:Int)=(x:Int):=by omega
    go_wp2
    go_roundg (m-(j+1))
    case rel=>
     refine⟨j+1,rfl,by omega,by go_num,?_,rfl⟩;rw[List.take_add_one,HA.out];simp only[Option.toList_some,List.mem_append,List.mem_singleton];rintro(h|h)
     ·exact HX.out h
     ·exact he h.symm
    case measure=>omega
  ·obtain rfl:j=m:=by omega
   have hin:decide (x∈l)=false:=by
    rw[decide_eq_false_iff_not];have:=HX.out
    rwa [HM.out,List.take_length]at this
   rw[hin]at HF;clear hin
   go_wp2
   rw[HF.out];exact⟨rfl,rfl⟩
end
end Go.Proofs.YtpijlhlpejlhhaaGreat
