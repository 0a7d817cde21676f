/- Plain words: what Parse of two joined texts says, all that the law asks. -/
import Derived.Test.YtkhoeoilamddaaaGreatDoorWMdW
namespace Go.Proofs.YtkhoeoilamddaaaGreatDoor
set_option linter.unusedVariables false
def Md64 (m:Md):Prop:=m.vars.length≤64∧m.defs.length≤64∧m.init.length≤64∧m.invar.length≤64∧m.next.length≤64∧m.trans.length≤64∧m.fair.length≤64∧m.specs.length≤64
theorem put_64 {m:Md} {e:El} (h:Md64 m) (he:e.cnt m<64):Md64 (e.put m):=by
 obtain ⟨h0,h1,h2,h3,h4,h5,h6,h7⟩:=h;cases e <;> simp only [El.cnt] at he <;> simp only [El.put,Md64,List.length_append,List.length_singleton] <;> omega
theorem fold_64:∀ (es:List El) (m:Md),Md64 m→Fits m es→Md64 (es.foldl El.put m)
 | [],m,h,_=>h
 | e :: r,m,h,hf=>fold_64 r (e.put m) (put_64 h hf.1) hf.2
theorem parsed_64 {s:Bs} {m:Md} {a:Int} (h:parseM s=(m,a,0)):Md64 m:=by
 obtain ⟨l,es,-,-,hf,rfl⟩:=parseM_els h;exact fold_64 es zeroMd (by simp [Md64,zeroMd]) hf
theorem joins_of {x b:Bs} {mx my mz:Md} {ax ay az ex ey ez:Int} (hx:parseM (x++[10])=(mx,ax,ex)) (hy:parseM b=(my,ay,ey)) (hz:parseM (x++10 :: b)=(mz,az,ez)) (hl:(x++10 :: b).length≤65536) :
 (ex=0→ey≠0→ez≠0)∧(ex=0→ey=0→ez≠0→ez=18)∧(ex=0→ey=0→ez=0→mz=mx.app my∧Md64 mx∧Md64 my):=by
 refine ⟨fun h1 h2=>?_,fun h1 h2 h3=>?_,fun h1 h2 h3=>?_⟩
 · subst h1;have h:=join_bad hx (by rw [hy];exact h2) hl
   rwa [hz] at h
 · subst h1 h2
   rcases join_ok hx hy hl with h | h
   · rwa [hz] at h
   · rw [hz] at h;exact absurd (congrArg (fun p=>p.2.2) h) h3
 · subst h1 h2 h3;refine ⟨?_,parsed_64 hx,parsed_64 hy⟩
   rcases join_ok hx hy hl with h | h
   · rw [hz] at h;cases h
   · rw [hz] at h;exact congrArg Prod.fst h
end Go.Proofs.YtkhoeoilamddaaaGreatDoor
