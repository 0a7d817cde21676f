/- Plain words: a term's text lexes to its tokens: the proof; a shown term parses back to itself. -/
import Derived.Test.YtnbphgeepnknlaaGreatDoorURndR
namespace Go.Proofs.YtnbphgeepnknlaaGreatDoor
set_option linter.unusedVariables false
set_option linter.unusedSectionVars false
theorem safe_nil:SafeB []:=fun c h=>by cases h
theorem safe_cons {c:UInt8} {s:Bs} (h:c=32∨c=41∨c=93):SafeB (c :: s):=fun d hd=>by simp at hd;subst hd;exact h
theorem safe_inside {s:Bs} (h:SafeB s):∀ c,s.head?=some c→isInside c=false:=safe_not h isInside (by decide)
theorem safe_digit {s:Bs} (h:SafeB s):∀ c,s.head?=some c→isDigit c=false:=safe_not h isDigit (by decide)
def HeadB (x:Bs):Prop:=∃ c r,x=c :: r∧c≠61
theorem HeadB.app {x:Bs} (h:HeadB x) (y:Bs):HeadB (x++y):=by
 obtain ⟨c,r,rfl,hc⟩:=h;exact ⟨c,r++y,rfl,hc⟩
theorem decB_cons {n:Nat} (h:n<256):∃ c r,decB n=c :: r∧isDigit c=true:=by
 obtain ⟨h1,h2,h3⟩:=decB_small n h
 cases hd:decB n with
 | nil=>exact absurd hd h1
 | cons c r=>exact ⟨c,r,rfl,h2 c (by rw [hd];simp)⟩
theorem digit_ne {c:UInt8} (h:isDigit c=true):c≠61:=fun e=>by subst e;revert h;decide
def LexT (t:Tm):Prop:=(∀ rule ends,HeadB (shw numS t rule ends))∧∀ rule ends s ts,SafeB s→LexTo ts s→LexTo (tkT t rule ends++ts) (shw numS t rule ends++s)
def bodyS (t:Tm) (ends:Bool):Bs:=bodyE numS t.op t.num t.name.data.toList (shwNot numS t.kids ends) (shwIf numS t.kids 0) (shwJoin numS t.op t.kids 0 ends)
theorem shw_eq2 (t:Tm) (rule:Nat) (ends:Bool):shw numS t rule ends=wrapP (parens t rule ends) (bodyS t (parens t rule ends || ends)):=shw_eq t rule ends
theorem bodyS_bin {t:Tm} {ends:Bool} (h1:6≤t.op) (h2:t.op≤17):bodyS t ends=shwJoin numS t.op t.kids 0 ends:=by
 unfold bodyS bodyE;rw [iN (by omega),iN (by omega),iN (by omega)]
theorem lex_op {op:Int} (h1:6≤op) (h2:op≤17) {s:Bs} {ts:List Tok} (h:LexTo ts s):LexTo (opTk op :: ts) (betw op++s):=by
 have e:betw op++s=32 :: (signB op++32 :: s):=by unfold betw;simp
 rw [e];refine lexTo_ws (by decide) ?_;have hs:=lexTo_ws (c:=32) (by decide) h
 by_cases h17:op=17
 · subst h17;exact lex_word (c:=109) (x:=[111,100]) (by decide) (by decide) (by decide) (by decide) (fun d hd=>by simp at hd;subst hd;decide) hs
 · obtain ⟨a,b⟩:=lex_bin h1 (by omega) s;have e2:opTk op=sg (signB op):=by unfold opTk;rw [iN h17]
   rw [e2];exact lexTo_cons a rfl rfl (show (4:Int)≠5 by decide) b hs
theorem betw_safe (op:Int) (s:Bs):SafeB (betw op++s):=by
 unfold betw;exact safe_cons (.inl rfl)
theorem lex_join (op:Int) (ho:6≤op∧op≤17) (ends:Bool):∀ (ks:List Tm) (n:Nat) (s:Bs) (ts:List Tok),0<n→(∀ k∈ks,LexT k)→SafeB s→LexTo ts s→LexTo (tkJoin op ks n ends++ts) (shwJoin numS op ks n ends++s)∧SafeB (shwJoin numS op ks n ends++s)
 | [],n,s,ts,_,_,hs,h=>⟨h,hs⟩
 | k :: ks,n,s,ts,hn,hk,hs,h=>by
  obtain ⟨i1,i2⟩:=lex_join op ho ends ks (n+1) s ts (by omega) (fun x hx=>hk x (by simp [hx])) hs h;have h1:=(hk k (by simp)).2 (asksN op n) (ends && ks.isEmpty) _ _ i2 i1;have h2:=lex_op ho.1 ho.2 h1;rw [tkJoin,shwJoin,iN (by omega),iN (by omega)];refine ⟨?_,?_⟩
  · simpa using h2
  · simp only [List.append_assoc];exact betw_safe op _
theorem lex_wrap {p:Bool} {b s:Bs} {bt ts:List Tok} (hb:HeadB b) (hbody:∀ s' ts',SafeB s'→LexTo ts' s'→LexTo (bt++ts') (b++s')) (hs:SafeB s) (h:LexTo ts s):LexTo (wrapTk p bt++ts) (wrapP p b++s):=by
 cases p with
 | false=>exact hbody s ts hs h
 | true=>
  have h1:LexTo (sg [41] :: ts) ([41]++s):=lexTo_cons (n:=0) (lex_close s) rfl rfl (by decide) (solid_head (by decide) (by decide)) h;have h2:=hbody ([41]++s) _ (safe_cons (.inr (.inl rfl))) h1;have h3:LexTo (sg [40] :: (bt++sg [41] :: ts)) ([40]++(b++([41]++s))):=lexTo_cons (n:=0) (lex_open _) rfl rfl (by decide) (solid_head (by decide) (by decide)) h2
  simpa [wrapTk,wrapP] using h3
theorem head_wrap {p:Bool} {b:Bs} (hb:HeadB b):HeadB (wrapP p b):=by
 cases p with
 | false=>exact hb
 | true=>exact ⟨40,b++[41],rfl,by decide⟩
theorem lex_if {s:Bs} {ts:List Tok} (h:LexTo ts s):LexTo (ifTk 0 :: ts) (ifW 0++s)∧LexTo (ifTk 1 :: ts) (ifW 1++s)∧LexTo (ifTk 2 :: ts) (ifW 2++s):=by
 have hs:=lexTo_ws (c:=32) (by decide) h;have hsafe:∀ d,(32 :: s:Bs).head?=some d→isInside d=false:=fun d hd=>by simp at hd;subst hd;decide
 refine ⟨?_,?_,?_⟩
 · exact lex_word (c:=105) (x:=[102]) (by decide) (by decide) (by decide) (by decide) hsafe hs
 · exact lexTo_ws (by decide) (lex_word (c:=116) (x:=[104,101,110]) (by decide) (by decide) (by decide) (by decide) hsafe hs)
 · exact lexTo_ws (by decide) (lex_word (c:=101) (x:=[108,115,101]) (by decide) (by decide) (by decide) (by decide) hsafe hs)
theorem ifW_safe (i:Nat) (hi:0<i) (s:Bs):SafeB (ifW i++s):=by
 unfold ifW;rw [iN (by omega)]
 split <;> exact safe_cons (.inl rfl)
theorem told_name {t:Tm} (h:toldT t=true) (ho:t.op=3∨t.op=4):isName t.name.data.toList=true:=by
 rw [toldT_eq,iN (by omega),iP ho] at h;exact h
theorem body_lex {t:Tm} {d:Nat} (hok:t.okT d) (htl:toldT t=true) (ih:∀ k∈t.kids,LexT k) (ends:Bool):HeadB (bodyS t ends)∧∀ s ts,SafeB s→LexTo ts s→LexTo (bodyOf t ends++ts) (bodyS t ends++s):=by
 have hrg:=op_range hok;have hkc:=kids_count hok;have hw:=wrong_ok (okT_open hok).2.1;obtain ⟨-,w1,-,-,-,w2,w3,-,w4⟩:=hw
 by_cases c1:t.op=1
 · have hb:bodyS t ends=numS t.num:=by unfold bodyS bodyE loneT;rw [iP (by omega),iP c1]
   have hb2:bodyOf t ends=if t.num<0 then [sg [45],nuTk (-t.num)] else [nuTk t.num]:=by unfold bodyOf bodyTk loneTk;rw [iP (by omega),iP c1]
   have hn:=w1 c1;have hsm:t.num.natAbs<256:=by omega
   obtain ⟨c,r,hcr,hc⟩:=decB_cons hsm;rw [hb,hb2];unfold numS
   by_cases hneg:t.num<0
   · rw [iP hneg,iP hneg];refine ⟨⟨45,_,rfl,by decide⟩,fun s ts hs h=>?_⟩;have h1:=lex_num hsm (safe_digit hs) h;have e1:((t.num.natAbs:Nat):Int)=- t.num:=by omega
     rw [e1,hcr] at h1;rw [hcr]
     have h2:LexTo (sg [45] :: (nuTk (-t.num) :: ts)) ([45]++(c :: r++s)):=lexTo_cons (n:=0) (lex_minus hc) rfl rfl (by decide) (.inr ⟨45,_,rfl,by decide,by
      unfold dashes
      cases hd:Lib.hasPrefix ([45]++(c :: r++s)) [45,45] with
      | false=>rfl
      | true=>
       obtain ⟨r',hr'⟩:=dashes_form (l:=[45]++(c :: r++s)) hd;simp at hr';rw [hr'.1] at hc
       exact absurd hc (by decide)⟩) h1
     simpa using h2
   · rw [iN hneg,iN hneg];refine ⟨⟨c,r,hcr,digit_ne hc⟩,fun s ts hs h=>?_⟩;have h1:=lex_num hsm (safe_digit hs) h;have e1:((t.num.natAbs:Nat):Int)=t.num:=by omega
     rw [e1] at h1;exact h1
 by_cases c2:t.op=2
 · have hb:bodyS t ends=if t.num=1 then wTrue else wFalse:=by unfold bodyS bodyE loneT;rw [iP (by omega),iN c1,iP c2];rfl
   have hb2:bodyOf t ends=if t.num=1 then [wd wTrue] else [wd wFalse]:=by unfold bodyOf bodyTk loneTk;rw [iP (by omega),iN c1,iP c2]
   rw [hb,hb2]
   split
   · exact ⟨⟨116,_,rfl,by decide⟩,fun s ts hs h=>lex_word (c:=116) (x:=[114,117,101]) (by decide) (by decide) (by decide) (by decide) (safe_inside hs) h⟩
   · exact ⟨⟨102,_,rfl,by decide⟩,fun s ts hs h=>lex_word (c:=102) (x:=[97,108,115,101]) (by decide) (by decide) (by decide) (by decide) (safe_inside hs) h⟩
 by_cases c3:t.op=3
 · have hb:bodyS t ends=t.name.data.toList:=by unfold bodyS bodyE loneT;rw [iP (by omega),iN c1,iN c2,iP c3]
   have hb2:bodyOf t ends=[nmTk t.name.data.toList]:=by unfold bodyOf bodyTk loneTk;rw [iP (by omega),iN c1,iN c2,iP c3]
   have hnm:=told_name htl (.inl c3);rw [hb,hb2];obtain ⟨c,r,h1,h2,-⟩:=name_facts hnm;exact ⟨⟨c,r,h1,(letter_facts h2).2.2⟩,fun s ts hs h=>lex_name hnm (safe_inside hs) h⟩
 by_cases c4:t.op=4
 · have hb:bodyS t ends=[110,101,120,116,40]++t.name.data.toList++[41]:=by unfold bodyS bodyE loneT;rw [iP (by omega),iN c1,iN c2,iN c3]
   have hb2:bodyOf t ends=[wd wNext,sg [40],nmTk t.name.data.toList,sg [41]]:=by unfold bodyOf bodyTk loneTk;rw [iP (by omega),iN c1,iN c2,iN c3]
   have hnm:=told_name htl (.inr c4);rw [hb,hb2];refine ⟨⟨110,_,rfl,by decide⟩,fun s ts hs h=>?_⟩;have h1:LexTo (sg [41] :: ts) ([41]++s):=lexTo_cons (n:=0) (lex_close s) rfl rfl (by decide) (solid_head (by decide) (by decide)) h;have h2:=lex_name hnm (s:=[41]++s) (fun d hd=>by simp at hd;subst hd;decide) h1;have h3:LexTo (sg [40] :: (nmTk t.name.data.toList :: sg [41] :: ts)) ([40]++(t.name.data.toList++([41]++s))):=lexTo_cons (n:=0) (lex_open _) rfl rfl (by decide) (solid_head (by decide) (by decide)) h2;have h4:=lex_word (c:=110) (x:=[101,120,116]) (by decide) (by decide) (by decide) (by decide) (fun d hd=>by simp at hd;subst hd;decide) h3
   simpa [wNext] using h4
 by_cases c5:t.op=5
 · obtain ⟨k,hk⟩:=len1 (hkc.2.1 c5);have hb:bodyS t ends=[33]++shw numS k 4 ends:=by unfold bodyS bodyE;rw [iN (by omega),iP c5,hk,shwNot]
   have hb2:bodyOf t ends=[sg [33]]++tkT k 4 ends:=by unfold bodyOf bodyTk;rw [iN (by omega),iP c5,hk,tkNot]
   rw [hb,hb2];have hl:=ih k (by rw [hk];simp);refine ⟨⟨33,_,rfl,by decide⟩,fun s ts hs h=>?_⟩;have h1:=hl.2 4 ends s ts hs h;obtain ⟨c,r,hcr,hc⟩:=hl.1 4 ends;have h2:LexTo (sg [33] :: (tkT k 4 ends++ts)) ([33]++(shw numS k 4 ends++s)):=lexTo_cons (n:=0) (by rw [hcr];exact lex_bang hc) rfl rfl (by decide) (solid_head (by decide) (by decide)) h1
   simpa using h2
 by_cases c18:t.op=18
 · obtain ⟨a,b,c,hk⟩:=len3 (hkc.2.2.2.1 c18);have hb:bodyS t ends=ifW 0++(shw numS a 0 true++(ifW 1++(shw numS b 0 true++(ifW 2++shw numS c 0 true)))):=by unfold bodyS bodyE;rw [iN (by omega),iN (by omega),iP c18,hk];simp [shwIf]
   have hb2:bodyOf t ends=ifTk 0 :: (tkT a 0 true++(ifTk 1 :: (tkT b 0 true++(ifTk 2 :: tkT c 0 true)))):=by
    unfold bodyOf bodyTk;rw [iN (by omega),iN (by omega),iP c18,hk];simp [tkIf]
   rw [hb,hb2];refine ⟨⟨105,_,rfl,by decide⟩,fun s ts hs h=>?_⟩;have h1:=(ih c (by rw [hk];simp)).2 0 true s ts hs h;have h2:=(lex_if h1).2.2;have h3:=(ih b (by rw [hk];simp)).2 0 true _ _ (ifW_safe 2 (by omega) _) h2;have h4:=(lex_if h3).2.1;have h5:=(ih a (by rw [hk];simp)).2 0 true _ _ (ifW_safe 1 (by omega) _) h4;have h6:=(lex_if h5).1
   simpa using h6
 rw [bodyS_bin (by omega) (by omega),bodyOf_bin (by omega) (by omega)]
 cases hks:t.kids with
 | nil=>
  exfalso
  have h1:=hkc.2.2.2.2;have h2:=hkc.2.2.1;rw [hks] at h1 h2
  by_cases h:t.op=6∨t.op=7
  · exact absurd (h1 h) (by simp)
  · exact absurd (h2 (by omega) (by omega)) (by simp)
 | cons k0 ks=>
  rw [hks] at ih;have hl:=ih k0 (by simp);rw [shwJoin,tkJoin,iP rfl,iP rfl];refine ⟨?_,fun s ts hs h=>?_⟩
  · rw [List.nil_append];exact (hl.1 _ _).app _
  · obtain ⟨i1,i2⟩:=lex_join t.op ⟨by omega,by omega⟩ ends ks 1 s ts (by omega) (fun x hx=>ih x (by simp [hx])) hs h;have h1:=hl.2 (asksN t.op 0) (ends && ks.isEmpty) _ _ i2 i1
    simpa using h1
theorem lex_shw:∀ (N:Nat) (t:Tm) (d:Nat),t.size≤N→t.okT d→toldT t=true→LexT t
 | 0,t,d,hN,_,_=>by cases t;rw [Tm.size] at hN;omega
 | N+1,t,d,hN,hok,htl=>by
  have ih:∀ k∈t.kids,LexT k:=fun k hk=>by
   have h1:=Tm.sizeL_mem hk;have hks:=(kids_count hok).1
   have h2:t.op≠3∧t.op≠4:=by
    refine ⟨fun h=>?_,fun h=>?_⟩
    · have:=List.eq_nil_of_length_eq_zero (hks (by omega));rw [this] at hk;cases hk
    · have:=List.eq_nil_of_length_eq_zero (hks (by omega));rw [this] at hk;cases hk
   refine lex_shw N k (d+1) ?_ ((okT_open hok).2.2 k hk) (told_kids htl h2.1 h2.2 k hk)
   cases t with
   | mk o nn ss l=>rw [Tm.size] at hN;simp only [Tm.kids] at h1;omega
  refine ⟨fun rule ends=>?_,fun rule ends s ts hs h=>?_⟩
  · rw [shw_eq2];exact head_wrap (body_lex hok htl ih _).1
  · rw [shw_eq2,tkT_eq];obtain ⟨b1,b2⟩:=body_lex hok htl ih (parens t rule ends || ends);exact lex_wrap b1 b2 hs h
end Go.Proofs.YtnbphgeepnknlaaGreatDoor
