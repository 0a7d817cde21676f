/- Walk: the reference's which. -/
import Derived.Test.YtnbphgeepnknlaaGreatDoorUFLvs
namespace Go.Proofs.YtnbphgeepnknlaaGreatDoor
open Go.RowKit
set_option linter.unusedVariables false
set_option maxRecDepth 100000
set_option maxHeartbeats 8000000
theorem whichOp_cons (l:List Tok) (i:Nat) (op:Int) (r:List Int):whichOp l i (op :: r)=if (if op=17 then isTk l i 3 [109,111,100] else isTk l i 4 (signB op)) then op else whichOp l i r:=rfl
theorem rpwhich_any (A:Option Addr) (c i:Nat) (l:List Tok) (ops:List Int) (gt go ct co:Nat) (w:World) (hP:TokIn w A c l) (hi:i≤1000000) (hol:ops.length≤20) (hT:∀ (k:Nat) (op:Int),ops[k]?=some op→w.cell? ⟨gt,k,none⟩=some (.string ⟨(signB op).toArray⟩)) (hO:OpsAt w go ops) (hm:∀ op∈ops,op≠17→signB op≠[109,111,100]) :
 Calls Tryz.prog 227 #[.slice A l.length c,.int .i64 (i:Nat),.slice (some ⟨gt,0,none⟩) ops.length ct,.slice (some ⟨go,0,none⟩) ops.length co] w fun e w'=>e=.returned (.int .i64 (whichOp l i ops))∧w'=w:=by
 obtain ⟨n,HN⟩:=exh_ ops.length;obtain ⟨nl,HNL⟩:=exh_ l.length;obtain ⟨r,HR⟩:=exh_ (whichOp l i ops);obtain ⟨F,hF⟩:∃ F:Ending→World→Prop,F=fun e w'=>e=.returned (.int .i64 r)∧w'=w:=⟨_,rfl⟩;rw [←HN.out,←HR.out,←hF,←HNL.out];rw [←HN.out] at hol;have HS:=Hd (fun (s:ByteArray)=>rpsign_any A c i l s w hP hi);have HI:=Hd (fun (s:ByteArray)=>rpis_any A c i l 3 s w hP hi);have HF:=Hd hF;have HT:=Hd hT;have HO:=Hd hO;have HM:=Hd hm;clear hF hP hT hO hm;go_enter Tryz.func227,Tryz.ntmps227;go_wp2_with fail
 go_loopw [9] (fun sk wr=>∃ k:Nat,k≤n∧sk=.int .i64 k∧wr=w∧Hid (whichOp l i (ops.drop k)=r)) (fun k _=>n - (intOf k).toNat)
 case atStart=>exact ⟨0,zl _,rfl,rfl,HR.out.symm⟩
 case round=>
  obtain ⟨k,hk,rfl,hwr,HD⟩:=hrel;rw [hwr];clear hwr
  by_cases hlt:k<n
  · obtain ⟨op,hop⟩:∃ op,ops[k]?=some op:=⟨_,gG (by have:=HN.out;omega)⟩;have t0:=HT.out k op hop;have o0:=HO.out k op hop
    have hdr:ops.drop k=op :: ops.drop (k+1):=by
     obtain ⟨h1,h2⟩:=gE.1 hop;rw [←List.getElem_cons_drop h1,h2]
    have hD:=HD.out;rw [hdr,whichOp_cons] at hD;have hmem:=mG hop;obtain ⟨T,hTt⟩:∃ T:ByteArray,T=⟨(signB op).toArray⟩:=⟨_,rfl⟩;rw [←hTt] at t0;have hk0:(0:Int)≤(k:Int):=by omega
    have hk1:(k:Int)<(n:Int):=by omega
    by_cases h17:op=17
    · have hTm:T=⟨#[109,111,100]⟩:=by rw [hTt,h17];rfl
      rw [iP h17] at hD;rw [hTm] at t0;have HIX:=HI.out ⟨#[109,111,100]⟩;obtain ⟨b,hb⟩:=ex_ (isTk l i 3 [109,111,100]);rw [show isTk l i 3 (bs ⟨#[109,111,100]⟩)=b from hb.symm,←HNL.out] at HIX;have HIY:=Hd HIX;rw [←hb] at hD;have HDD:=Hd hD;clear hTm hTt hdr hmem hop hD HIX hb HD
      cases b with
      | true=>
       have hE:r=op:=by have:=HDD.out;rw [iP rfl] at this;exact this.symm
       have HE:=Hd hE;clear hE h17;go_wp2_with fail;refine (HIY.out).mono ?_;rintro e w' ⟨rfl,rfl⟩;go_wp2_with fail;rw [HF.out,HE.out];exact ⟨rfl,rfl⟩
      | false=>
       have HE:Hid (whichOp l i (ops.drop (k+1))=r):=by have:=HDD.out;rw [iN (by simp)] at this;exact this
       clear h17;go_wp2_with fail;refine (HIY.out).mono ?_;rintro e w' ⟨rfl,rfl⟩;go_wp2_with fail
       go_roundw
       case rel=>exact ⟨k+1,by omega,by go_num,(by first | rfl | trivial),HE⟩
       case measure=>simp [intOf];omega
    · rw [iN h17] at hD
      have hne:(T.toList == (⟨#[109,111,100]⟩:ByteArray).toList)=false:=by
       rw [bs_eq_iff];refine dF (fun e=>HM.out op hmem h17 ?_);rw [hTt] at e;exact e
      have hq:¬T.toList=[109,111,100]:=fun e=>by
       have e2:(⟨#[109,111,100]⟩:ByteArray).toList=[109,111,100]:=by rw [ByteArray.toList_eq]
       rw [e2] at hne;simp [e] at hne
      have hq2:(T.toList == ([109,111,100]:List UInt8))=false:=by simpa using hq
      have hq3:¬T=⟨#[109,111,100]⟩:=fun e=>by rw [e] at hne;simp at hne
      have hne2:(T.toList != (⟨#[109,111,100]⟩:ByteArray).toList)=true:=by rw [bne,hne];rfl
      have HSX:=HS.out T;obtain ⟨b,hb⟩:=ex_ (isTk l i 4 (signB op));rw [show isTk l i 4 (bs T)=b from by rw [hb,hTt];rfl,←HNL.out] at HSX;have HSY:=Hd HSX;rw [←hb] at hD;have HDD:=Hd hD;clear hTt hdr hmem hop hD HSX hb HD h17
      cases b with
      | true=>
       have hE:r=op:=by have:=HDD.out;rw [iP rfl] at this;exact this.symm
       have HE:=Hd hE;clear hE;go_wp2_with fail;refine (HSY.out).mono ?_;rintro e w' ⟨rfl,rfl⟩;go_wp2_with fail;rw [HF.out,HE.out];exact ⟨rfl,rfl⟩
      | false=>
       have HE:Hid (whichOp l i (ops.drop (k+1))=r):=by have:=HDD.out;rw [iN (by simp)] at this;exact this
       go_wp2_with fail;refine (HSY.out).mono ?_;rintro e w' ⟨rfl,rfl⟩;go_wp2_with fail
       go_roundw
       case rel=>exact ⟨k+1,by omega,by go_num,(by first | rfl | trivial),HE⟩
       case measure=>simp [intOf];omega
  · have hk1:¬(k:Int)<(n:Int):=by omega
    have hE:r=0:=by
     have h:=HD.out;rw [List.drop_of_length_le (by rw [←HN.out];omega)] at h;exact h.symm
    have HE:=Hd hE;clear hE hlt;go_wp2_with fail;rw [HF.out,HE.out];exact ⟨rfl,rfl⟩
end Go.Proofs.YtnbphgeepnknlaaGreatDoor
