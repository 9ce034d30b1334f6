/- Parts of a proof, laid one behind the other by our own merge.py: RkPStr RkNames RkTextOf PkIter6 RkNumber. -/
import Derived.Test.YtpifnlfmojfgpaaGreatDoorCr11
import Derived.Test.YtpifnlfmojfgpaaGreatDoorCr8
import Derived.Test.YtpifnlfmojfgpaaGreatDoorCr10
set_option linter.unusedVariables false
set_option linter.unusedSimpArgs false
section
set_option maxRecDepth 10000
set_option maxHeartbeats 4000000
namespace Go.Proofs.YtpifnlfmojfgpaaGreatDoor.Rk
open Fw Pw Ct Pk
noncomputable def a59:FAnn where
 loops:=fun | 3=>[.kv 1,.sl 3 (.pv (.str)),.sl 4 (.pv (.int .i64)),.mem 0 0 (.pv strT)] | 7=>[.kv 1,.sl 3 (.pv (.str)),.sl 5 (.pv (.int .i64)),.mem 0 0 (.pv strT)] | 11=>[.kv 1,.sl 3 (.pv (.str)),.sl 6 (.pv (.int .i64)),.mem 0 0 (.pv strT)] | 16=>[.kv 1,.sl 3 (.pv (.str)),.sl 8 (.pv (.int .i64)),.mem 0 0 (.pv strT)] | _=>[]
 sched:=fun | 14=>runS [(0,false),(1,false),(2,false),(3,false),(4,false),(5,false),(6,false),(7,false),(8,false),(11,false),(12,false),(9,false),(10,false),(13,false),(14,false),(15,false),(16,false)] .fin | 18=>runS [(0,false),(1,false),(2,false),(3,false),(4,false),(5,false),(6,false),(7,false),(8,false),(9,false),(10,false),(11,false),(12,false),(15,false),(16,false),(17,false),(18,false),(19,false),(20,false),(13,false),(14,false),(21,false),(22,false),(23,false),(24,false)] .fin | _=>.fin
def sg59:Sig:=⟨[.pv strT],[.any],[sA]⟩
theorem textL_app (A B:Lns):textL (A ++ B) = textL A ++ textL B:=by simp [textL]
theorem flat0 {α:Type} (g:α → Lns) (D:List α) (p:Str):p ++ textL ((D.take 0).flatMap g) = p:=by simp [textL]
theorem flat_next {α:Type} (g:α → Lns) {D:List α} {i:Nat} {d:α} (h:D[i]? = some d) (p:Str):p ++ textL ((D.take (i + 1)).flatMap g) = (p ++ textL ((D.take i).flatMap g)) ++ textL (g d):=by
 rw [List.take_add_one,h]
 show p ++ textL ((D.take i ++ [d]).flatMap g) = _
 rw [List.flatMap_append,textL_app,List.append_assoc]
 simp
theorem flat_bound {α:Type} (g:α → Lns) (B:Nat):∀ (D:List α),(∀ d ∈ D,(textL (g d)).length ≤ B) → (textL (D.flatMap g)).length ≤ B * D.length
 | [],_=>by simp [textL]
 | d :: D,h=>by
  have h1:=flat_bound g B D fun x hx=>h x (by simp [hx])
  have h2:=h d (by simp)
  rw [List.flatMap_cons,textL_app,List.length_append,List.length_cons,Nat.mul_succ]
  omega
theorem flat_take {α:Type} (g:α → Lns) (B:Nat) {D:List α} (hD:D.length ≤ 20001) (h:∀ d ∈ D,(textL (g d)).length ≤ B) (i:Nat):(textL ((D.take i).flatMap g)).length ≤ B * 20001:=by
 have h1:=flat_bound g B (D.take i) fun d hd=>h d (List.mem_of_mem_take hd)
 have h2:(D.take i).length ≤ 20001:=by rw [List.length_take]; omega
 exact Nat.le_trans h1 (Nat.mul_le_mul_left _ h2)
theorem line_text (h:Str) (l:List Int) (R:Lns):textL ((h :: itoas l) :: R) = (h ++ tailS l ++ [10]) ++ textL R:=rfl
theorem autL_len {h:Str} (hh:h.length ≤ 100) {a:Aut} (hl:Lim NN autT a) (hw:autW a = true):(textL (autL h a)).length ≤ 9000000000:=by
 obtain ⟨sy,st,acc,nx,u⟩:=a
 obtain ⟨l1,l2,l3,l4,_⟩:=hl
 have hlen:acc.length = nx.length:=by simpa [autW] using hw
 have hNN:acc.length ≤ 20001:=l3.1
 have hrow:∀ r ∈ nx,RowOk r:=fun r hr=>⟨(l4.2 r hr).1,(l4.2 r hr).2⟩
 have hz:(acc.zip nx).length = acc.length:=zip_len hlen
 have h1:=states_len (acc.zip nx) fun p hp=>hrow p.2 (List.of_mem_zip hp).2
 have h2:=tail_len [sy,st] fun n hn=>by
  simp only [List.mem_cons,List.not_mem_nil,or_false] at hn
  rcases hn with rfl | rfl <;> assumption
 have h3:textL (autL h (sy,st,acc,nx,u)) = (h ++ tailS [sy,st] ++ [10]) ++ textL ((acc.zip nx).map stateL):=rfl
 rw [h3]
 simp only [List.length_append,List.length_cons,List.length_nil] at h2 ⊢
 omega
theorem diff_text (w:Str):textL [[sDiff,wordS w]] = [100,105,102,102,32] ++ wordS w ++ [10]:=by simp [textL,lineS]
theorem cells_lim' {d:List Cell} (h:Lim NN tCs d):∀ c ∈ d,CellOk c:=fun c hc=>⟨(h.2 c hc).1,(h.2 c hc).2.1⟩
theorem cellsL_len {h:Str} (hh:h.length ≤ 100) {d:List Cell} (hl:Lim NN tCs d):(textL (cellsL h d)).length ≤ 20200 * 20001:=by
 have h1:=cells_len h hh d (cells_lim' hl)
 have h2:d.length ≤ 20001:=hl.1
 omega
theorem rstr_pc (s:Strc) (hl:Lim NN strT s) (hw:strW s = true):PC Tryz.prog 59 sg59 (s,()) (fun y _=>y.1 = textL (strL s)) (fun _=>False):=by
 obtain ⟨l1,l2,l3,l4,l5,l6,_⟩:=hl
 simp only [strW,Bool.and_eq_true,List.all_eq_true] at hw
 obtain ⟨⟨⟨⟨w1,w2⟩,w3⟩,w4⟩,w5⟩:=hw
 have n3:s.2.2.1.length ≤ 20001:=l3.1
 have n4:s.2.2.2.1.length ≤ 20001:=l4.1
 have n5:s.2.2.2.2.1.length ≤ 20001:=l5.1
 have n6:s.2.2.2.2.2.1.length ≤ 20001:=l6.1
 have mone:∀ d ∈ s.2.2.1,(textL (autL sMult d)).length ≤ 9000000000:=fun d hd=>autL_len (by decide) (l3.2 d hd) (w2 d hd)
 have dfone:∀ d ∈ s.2.2.2.1,(textL [[sDiff,wordS d]]).length ≤ 20100:=fun d hd=>by
  have h1:d.length ≤ 20001:=l4.2 d hd
  have h2:=wordS_len h1
  rw [diff_text]; simp only [List.length_append,List.length_cons,List.length_nil]; omega
 have tone:∀ d ∈ s.2.2.2.2.1,(textL (stepL d)).length ≤ 500000000:=fun d hd=>by
  obtain ⟨a1,a2,a3,a4,a5,_⟩:=l5.2 d hd
  have h1:=cellsL_len (h:=sProof) (by decide) a5
  have h2:=tail_len [d.1,d.2.1,d.2.2.1,d.2.2.2.1] fun n hn=>by
   simp only [List.mem_cons,List.not_mem_nil,or_false] at hn
   rcases hn with rfl | rfl | rfl | rfl <;> assumption
  show (textL ((sStep :: itoas [d.1,d.2.1,d.2.2.1,d.2.2.2.1]) :: cellsL sProof d.2.2.2.2.1)).length ≤ _
  rw [line_text]
  simp only [List.length_append,List.length_cons,List.length_nil] at h2 ⊢
  omega
 have eone:∀ d ∈ s.2.2.2.2.2.1,(textL (endL d)).length ≤ 500000000:=fun d hd=>by
  obtain ⟨a1,a2,a5,_⟩:=l6.2 d hd
  have h1:=cellsL_len (h:=sProof) (by decide) a5
  have h2:=tail_len [d.1,d.2.1] fun n hn=>by
   simp only [List.mem_cons,List.not_mem_nil,or_false] at hn
   rcases hn with rfl | rfl <;> assumption
  show (textL ((sEnd :: itoas [d.1,d.2.1]) :: cellsL sProof d.2.2.1)).length ≤ _
  rw [line_text]
  simp only [List.length_append,List.length_cons,List.length_nil] at h2 ⊢
  omega
 have mlen:=flat_take (autL sMult) _ n3 mone
 have dflen:=flat_take (fun d=>[[sDiff,wordS d]]) _ n4 dfone
 have tlen:=flat_take stepL _ n5 tone
 have elen:=flat_take endL _ n6 eone
 refine PC.of a59 [(56,sg56),(58,sg58),(104,sg104),(105,sg105)] (by kernel_rfl) ?_
 refine CallP.mk _ _ (raut_pc sAccept s.2.1 (by decide) l2 w1) ?_ (fun p h=>h.elim)
 rintro ⟨o,_⟩ z ho
 have ho:o = textL (autL sAccept s.2.1):=ho
 have hol:o.length ≤ 9000000000:=by rw [ho]; exact autL_len (by decide) l2 w1
 refine SameV.mk rfl ?_
 refine LoopP.mk (fun x=>∃ i:Nat,x = (o ++ textL ((s.2.2.1.take i).flatMap (autL sMult)),(i:Int),s,()) ∧ i ≤ s.2.2.1.length) (fun x=>s.2.2.1.length - x.2.1.toNat) (Exists.intro 0 (And.intro (by rw [flat0 (autL sMult) s.2.2.1 o]; rfl) (Nat.zero_le _))) ?_
 rintro x ⟨i,rfl,hi⟩
 have hbi:=mlen i
 refine LenL.mk fun _=>?_
 refine BrP.mk' (fun hc=>?_) (fun hc=>?_)
 ·have hc:(i:Int) < (s.2.2.1.length:Int):=of_decide_eq_true hc
  have hc:i < s.2.2.1.length:=by omega
  have hg:s.2.2.1[i]? = some s.2.2.1[i]:=List.getElem?_eq_getElem hc
  have hm:s.2.2.1[i] ∈ s.2.2.1:=List.getElem_mem hc
  have hE:∃ d,d = s.2.2.1[i]:=⟨_,rfl⟩
  obtain ⟨d,hd⟩:=hE
  rw [← hd] at hg hm
  have hw:IntKind.wrap .i64 ((i:Int) + 1) = ((i + 1:Nat):Int):=Fw.wrap64 (by omega) (by omega)
  have hpl:=mone d hm
  have hs:=flat_next (autL sMult) hg o
  refine GetL.is i (x:=d) rfl hg ?_
  refine CallP.mk _ _ (raut_pc sMult d (by decide) (l3.2 d hm) (w2 d hm)) ?_ (fun p h=>h.elim)
  rintro ⟨y,_⟩ z hy
  have hy:y = textL (autL sMult d):=hy
  rw [← hy] at hs hpl
  refine CatL.mk' (by show (o ++ textL ((s.2.2.1.take i).flatMap (autL sMult))).length + y.length ≤ _; rw [List.length_append]; omega) ?_
  refine SameV.mk rfl ?_
  refine And.intro (Exists.intro (i + 1) (And.intro ?_ hc)) ?_
  ·rw [← hw,hs]; rfl
  ·show s.2.2.1.length - (IntKind.wrap .i64 ((i:Int) + 1)).toNat < s.2.2.1.length - (i:Int).toNat
   rw [hw]; omega
 have hc:¬ (i:Int) < (s.2.2.1.length:Int):=of_decide_eq_false hc
 have hc:i = s.2.2.1.length:=by omega
 have hE:∃ o1,o1 = o ++ textL ((s.2.2.1.take i).flatMap (autL sMult)):=⟨_,rfl⟩
 obtain ⟨o1,ho1⟩:=hE
 have hol1:o1.length ≤ 400000000000000:=by rw [ho1,List.length_append]; omega
 have hf1:o1 = o ++ textL (s.2.2.1.flatMap (autL sMult)):=by rw [ho1,hc,List.take_length]
 refine SameV.mk rfl ?_
 refine LoopP.mk (fun x=>∃ i:Nat,x = (o1 ++ textL ((s.2.2.2.1.take i).flatMap (fun d=>[[sDiff,wordS d]])),(i:Int),s,()) ∧ i ≤ s.2.2.2.1.length) (fun x=>s.2.2.2.1.length - x.2.1.toNat) (Exists.intro 0 (And.intro (by rw [flat0 (fun d=>[[sDiff,wordS d]]) s.2.2.2.1 o1,ho1]; rfl) (Nat.zero_le _))) ?_
 clear hbi hi hc
 rintro x ⟨i,rfl,hi⟩
 have hbi:=dflen i
 refine LenL.mk fun _=>?_
 refine BrP.mk' (fun hc=>?_) (fun hc=>?_)
 ·have hc:(i:Int) < (s.2.2.2.1.length:Int):=of_decide_eq_true hc
  have hc:i < s.2.2.2.1.length:=by omega
  have hg:s.2.2.2.1[i]? = some s.2.2.2.1[i]:=List.getElem?_eq_getElem hc
  have hm:s.2.2.2.1[i] ∈ s.2.2.2.1:=List.getElem_mem hc
  have hE:∃ d,d = s.2.2.2.1[i]:=⟨_,rfl⟩
  obtain ⟨d,hd⟩:=hE
  rw [← hd] at hg hm
  have hw:IntKind.wrap .i64 ((i:Int) + 1) = ((i + 1:Nat):Int):=Fw.wrap64 (by omega) (by omega)
  have hpl:=dfone d hm
  have hs:=flat_next (fun d=>[[sDiff,wordS d]]) hg o1
  refine GetL.is i (x:=d) rfl hg ?_
  refine CallP.mk _ _ (rspelled_pc d) ?_ (fun p h=>h.elim)
  rintro ⟨y,_⟩ z hy
  have hy:y = wordS d:=hy
  rw [diff_text,← hy] at hs hpl
  simp only [List.length_append,List.length_cons,List.length_nil] at hpl
  refine CatL.mk' (by show 5 + y.length ≤ _; omega) ?_
  refine CatL.mk' (by show ([100,105,102,102,32] ++ y).length + 1 ≤ _; simp only [List.length_append,List.length_cons,List.length_nil]; omega) ?_
  refine CatL.mk' (by show (o1 ++ textL ((s.2.2.2.1.take i).flatMap (fun d=>[[sDiff,wordS d]]))).length + ([100,105,102,102,32] ++ y ++ [10]).length ≤ _; simp only [List.length_append,List.length_cons,List.length_nil]; omega) ?_
  refine SameV.mk rfl ?_
  refine And.intro (Exists.intro (i + 1) (And.intro ?_ hc)) ?_
  ·rw [← hw,hs]; rfl
  ·show s.2.2.2.1.length - (IntKind.wrap .i64 ((i:Int) + 1)).toNat < s.2.2.2.1.length - (i:Int).toNat
   rw [hw]; omega
 have hc:¬ (i:Int) < (s.2.2.2.1.length:Int):=of_decide_eq_false hc
 have hc:i = s.2.2.2.1.length:=by omega
 have hE:∃ o2,o2 = o1 ++ textL ((s.2.2.2.1.take i).flatMap (fun d=>[[sDiff,wordS d]])):=⟨_,rfl⟩
 obtain ⟨o2,ho2⟩:=hE
 have hol2:o2.length ≤ 500000000000000:=by rw [ho2,List.length_append]; omega
 have hf2:o2 = o1 ++ textL (s.2.2.2.1.flatMap (fun d=>[[sDiff,wordS d]])):=by rw [ho2,hc,List.take_length]
 refine SameV.mk rfl ?_
 refine LoopP.mk (fun x=>∃ i:Nat,x = (o2 ++ textL ((s.2.2.2.2.1.take i).flatMap stepL),(i:Int),s,()) ∧ i ≤ s.2.2.2.2.1.length) (fun x=>s.2.2.2.2.1.length - x.2.1.toNat) (Exists.intro 0 (And.intro (by rw [flat0 stepL s.2.2.2.2.1 o2,ho2]; rfl) (Nat.zero_le _))) ?_
 clear hbi hi hc
 rintro x ⟨i,rfl,hi⟩
 have hbi:=tlen i
 refine LenL.mk fun _=>?_
 refine BrP.mk' (fun hc=>?_) (fun hc=>?_)
 ·have hc:(i:Int) < (s.2.2.2.2.1.length:Int):=of_decide_eq_true hc
  have hc:i < s.2.2.2.2.1.length:=by omega
  have hg:s.2.2.2.2.1[i]? = some s.2.2.2.2.1[i]:=List.getElem?_eq_getElem hc
  have hm:s.2.2.2.2.1[i] ∈ s.2.2.2.2.1:=List.getElem_mem hc
  have hE:∃ d,d = s.2.2.2.2.1[i]:=⟨_,rfl⟩
  obtain ⟨d,hd⟩:=hE
  rw [← hd] at hg hm
  have hw:IntKind.wrap .i64 ((i:Int) + 1) = ((i + 1:Nat):Int):=Fw.wrap64 (by omega) (by omega)
  have hpl:=tone d hm
  have hs:=flat_next stepL hg o2
  have hlim:=l5.2 d hm
  obtain ⟨a1,a2,a3,a4,a5,_⟩:=hlim
  have hrow:RowOk [d.1,d.2.1,d.2.2.1,d.2.2.2.1]:=⟨by show 4 ≤ 20001; decide,fun n hn=>by
   simp only [List.mem_cons,List.not_mem_nil,or_false] at hn
   rcases hn with rfl | rfl | rfl | rfl <;> assumption⟩
  have hst:textL (stepL d) = (sStep ++ tailS [d.1,d.2.1,d.2.2.1,d.2.2.2.1] ++ [10]) ++ textL (cellsL sProof d.2.2.2.2.1):=rfl
  refine GetL.is i (x:=d) rfl hg ?_
  refine CallP.mk _ _ (rnumbers_pc sStep [d.1,d.2.1,d.2.2.1,d.2.2.2.1] (by decide) hrow) ?_ (fun p h=>h.elim)
  rintro ⟨y,_⟩ z hy
  have hy:y = sStep ++ tailS [d.1,d.2.1,d.2.2.1,d.2.2.2.1] ++ [10]:=hy
  refine CallP.mk _ _ (rcellsT_pc sProof d.2.2.2.2.1 (by decide) a5) ?_ (fun p h=>h.elim)
  rintro ⟨v,_⟩ z hv
  have hv:v = textL (cellsL sProof d.2.2.2.2.1):=hv
  rw [hst,← hy,← hv] at hs hpl
  rw [List.length_append] at hpl
  refine CatL.mk' (by show y.length + v.length ≤ _; omega) ?_
  refine CatL.mk' (by show (o2 ++ textL ((s.2.2.2.2.1.take i).flatMap stepL)).length + (y ++ v).length ≤ _; rw [List.length_append,List.length_append]; omega) ?_
  refine SameV.mk rfl ?_
  refine And.intro (Exists.intro (i + 1) (And.intro ?_ hc)) ?_
  ·rw [← hw,hs]; rfl
  ·show s.2.2.2.2.1.length - (IntKind.wrap .i64 ((i:Int) + 1)).toNat < s.2.2.2.2.1.length - (i:Int).toNat
   rw [hw]; omega
 have hc:¬ (i:Int) < (s.2.2.2.2.1.length:Int):=of_decide_eq_false hc
 have hc:i = s.2.2.2.2.1.length:=by omega
 have hE:∃ o3,o3 = o2 ++ textL ((s.2.2.2.2.1.take i).flatMap stepL):=⟨_,rfl⟩
 obtain ⟨o3,ho3⟩:=hE
 have hol3:o3.length ≤ 600000000000000:=by rw [ho3,List.length_append]; omega
 have hf3:o3 = o2 ++ textL (s.2.2.2.2.1.flatMap stepL):=by rw [ho3,hc,List.take_length]
 refine SameV.mk rfl ?_
 refine LoopP.mk (fun x=>∃ i:Nat,x = (o3 ++ textL ((s.2.2.2.2.2.1.take i).flatMap endL),(i:Int),s,()) ∧ i ≤ s.2.2.2.2.2.1.length) (fun x=>s.2.2.2.2.2.1.length - x.2.1.toNat) (Exists.intro 0 (And.intro (by rw [flat0 endL s.2.2.2.2.2.1 o3,ho3]; rfl) (Nat.zero_le _))) ?_
 clear hbi hi hc
 rintro x ⟨i,rfl,hi⟩
 have hbi:=elen i
 refine LenL.mk fun _=>?_
 refine BrP.mk' (fun hc=>?_) (fun hc=>?_)
 ·have hc:(i:Int) < (s.2.2.2.2.2.1.length:Int):=of_decide_eq_true hc
  have hc:i < s.2.2.2.2.2.1.length:=by omega
  have hg:s.2.2.2.2.2.1[i]? = some s.2.2.2.2.2.1[i]:=List.getElem?_eq_getElem hc
  have hm:s.2.2.2.2.2.1[i] ∈ s.2.2.2.2.2.1:=List.getElem_mem hc
  have hE:∃ d,d = s.2.2.2.2.2.1[i]:=⟨_,rfl⟩
  obtain ⟨d,hd⟩:=hE
  rw [← hd] at hg hm
  have hw:IntKind.wrap .i64 ((i:Int) + 1) = ((i + 1:Nat):Int):=Fw.wrap64 (by omega) (by omega)
  have hpl:=eone d hm
  have hs:=flat_next endL hg o3
  have hlim:=l6.2 d hm
  obtain ⟨a1,a2,a5,_⟩:=hlim
  have hrow:RowOk [d.1,d.2.1]:=⟨by show 2 ≤ 20001; decide,fun n hn=>by
   simp only [List.mem_cons,List.not_mem_nil,or_false] at hn
   rcases hn with rfl | rfl <;> assumption⟩
  have hst:textL (endL d) = (sEnd ++ tailS [d.1,d.2.1] ++ [10]) ++ textL (cellsL sProof d.2.2.1):=rfl
  refine GetL.is i (x:=d) rfl hg (GetL.is i (x:=d) rfl hg (GetL.is i (x:=d) rfl hg ?_))
  refine CallP.mk _ _ (rnumbers_pc sEnd [d.1,d.2.1] (by decide) hrow) ?_ (fun p h=>h.elim)
  rintro ⟨y,_⟩ z hy
  have hy:y = sEnd ++ tailS [d.1,d.2.1] ++ [10]:=hy
  refine CallP.mk _ _ (rcellsT_pc sProof d.2.2.1 (by decide) a5) ?_ (fun p h=>h.elim)
  rintro ⟨v,_⟩ z hv
  have hv:v = textL (cellsL sProof d.2.2.1):=hv
  rw [hst,← hy,← hv] at hs hpl
  rw [List.length_append] at hpl
  refine CatL.mk' (by show y.length + v.length ≤ _; omega) ?_
  refine CatL.mk' (by show (o3 ++ textL ((s.2.2.2.2.2.1.take i).flatMap endL)).length + (y ++ v).length ≤ _; rw [List.length_append,List.length_append]; omega) ?_
  refine SameV.mk rfl ?_
  refine And.intro (Exists.intro (i + 1) (And.intro ?_ hc)) ?_
  ·rw [← hw,hs]; rfl
  ·show s.2.2.2.2.2.1.length - (IntKind.wrap .i64 ((i:Int) + 1)).toNat < s.2.2.2.2.2.1.length - (i:Int).toNat
   rw [hw]; omega
 have hc:¬ (i:Int) < (s.2.2.2.2.2.1.length:Int):=of_decide_eq_false hc
 have hc:i = s.2.2.2.2.2.1.length:=by omega
 show o3 ++ textL ((s.2.2.2.2.2.1.take i).flatMap endL) = _
 rw [hc,List.take_length,hf3,hf2,hf1,ho,strL]
 simp only [textL_app,List.append_assoc]
 congr 2
 congr 1
 have hmap:s.2.2.2.1.map (fun d=>[sDiff,wordS d]) = s.2.2.2.1.flatMap (fun d=>[[sDiff,wordS d]]):=by
  induction s.2.2.2.1 with
  | nil=>rfl
  | cons a l ih=>rw [List.map_cons,List.flatMap_cons,ih]; rfl
 rw [hmap]
end Go.Proofs.YtpifnlfmojfgpaaGreatDoor.Rk
end
section
set_option maxRecDepth 10000
set_option maxHeartbeats 4000000
namespace Go.Proofs.YtpifnlfmojfgpaaGreatDoor.Rk
open Fw Pw Ct Pk
noncomputable def a57:FAnn:={}
def sg57:Sig:=⟨[],[],[.pv tW]⟩
theorem names_pc:PC Tryz.prog 57 sg57 () (fun y _=>y.1 = kindsL) (fun _=>False):=by
 refine PC.of a57 [] (by kernel_rfl) ?_
 exact (rfl:kindsL = kindsL)
theorem diffs_flat:∀ l:List Str,l.map (fun d=>[sDiff,wordS d]) = l.flatMap (fun d=>[[sDiff,wordS d]])
 | []=>rfl
 | a :: l=>by rw [List.map_cons,List.flatMap_cons,diffs_flat l]; rfl
theorem flat_all {α:Type} (g:α → Lns) (B:Nat) {D:List α} (hD:D.length ≤ 20001) (h:∀ d ∈ D,(textL (g d)).length ≤ B):(textL (D.flatMap g)).length ≤ B * 20001:=
 Nat.le_trans (flat_bound g B D h) (Nat.mul_le_mul_left _ hD)
theorem str_len {s:Strc} (hl:Lim NN strT s) (hw:strW s = true):(textL (strL s)).length ≤ 1000000000000000:=by
 obtain ⟨l1,l2,l3,l4,l5,l6,_⟩:=hl
 simp only [strW,Bool.and_eq_true,List.all_eq_true] at hw
 obtain ⟨⟨⟨⟨w1,w2⟩,w3⟩,w4⟩,w5⟩:=hw
 have n3:s.2.2.1.length ≤ 20001:=l3.1
 have n4:s.2.2.2.1.length ≤ 20001:=l4.1
 have n5:s.2.2.2.2.1.length ≤ 20001:=l5.1
 have n6:s.2.2.2.2.2.1.length ≤ 20001:=l6.1
 have m0:=autL_len (h:=sAccept) (by decide) l2 w1
 have mlen:=flat_all (autL sMult) _ n3 fun d hd=>autL_len (by decide) (l3.2 d hd) (w2 d hd)
 have dlen:=flat_all (fun d=>[[sDiff,wordS d]]) 20100 n4 fun d hd=>by
  have h1:d.length ≤ 20001:=l4.2 d hd
  have h2:=wordS_len h1
  rw [diff_text]; simp only [List.length_append,List.length_cons,List.length_nil]; omega
 have tlen:=flat_all stepL 500000000 n5 fun d hd=>by
  obtain ⟨a1,a2,a3,a4,a5,_⟩:=l5.2 d hd
  have h1:=cellsL_len (h:=sProof) (by decide) a5
  have h2:=tail_len [d.1,d.2.1,d.2.2.1,d.2.2.2.1] fun n hn=>by
   simp only [List.mem_cons,List.not_mem_nil,or_false] at hn
   rcases hn with rfl | rfl | rfl | rfl <;> assumption
  show (textL ((sStep :: itoas [d.1,d.2.1,d.2.2.1,d.2.2.2.1]) :: cellsL sProof d.2.2.2.2.1)).length ≤ _
  rw [line_text]
  simp only [List.length_append,List.length_cons,List.length_nil] at h2 ⊢
  omega
 have elen:=flat_all endL 500000000 n6 fun d hd=>by
  obtain ⟨a1,a2,a5,_⟩:=l6.2 d hd
  have h1:=cellsL_len (h:=sProof) (by decide) a5
  have h2:=tail_len [d.1,d.2.1] fun n hn=>by
   simp only [List.mem_cons,List.not_mem_nil,or_false] at hn
   rcases hn with rfl | rfl <;> assumption
  show (textL ((sEnd :: itoas [d.1,d.2.1]) :: cellsL sProof d.2.2.1)).length ≤ _
  rw [line_text]
  simp only [List.length_append,List.length_cons,List.length_nil] at h2 ⊢
  omega
 rw [strL,diffs_flat]
 simp only [textL_app,List.length_append]
 omega
end Go.Proofs.YtpifnlfmojfgpaaGreatDoor.Rk
end
section
set_option maxRecDepth 10000
set_option maxHeartbeats 40000000
namespace Go.Proofs.YtpifnlfmojfgpaaGreatDoor.Rk
open Fw Pw Ct Pk
noncomputable def a22:FAnn where
 loops:=fun | 6=>[.kv 1,.sl 4 (.pv (.str)),.sl 5 (.pv (.int .i64)),.km 0] | 24=>[.kv 1,.sl 4 (.pv (.str)),.sl 6 (.pv (.int .i64)),.km 0] | 32=>[.kv 1,.sl 4 (.pv (.str)),.sl 7 (.pv (.int .i64)),.km 0] | _=>[]
 joins:=fun | 3=>some [.kv 1,.kv 3,.sl 21 (.pv (.bool)),.km 0] | 4=>some [.kv 1,.sl 3 (.pv (.str)),.km 0] | 11=>some [.kv 1,.sl 4 (.pv (.str)),.km 0] | 13=>some [.kv 1,.sl 4 (.pv (.str)),.km 0] | 15=>some [.kv 1,.sl 4 (.pv (.str)),.km 0] | 18=>some [.kv 1,.sl 4 (.pv (.str)),.km 0] | 20=>some [.kv 1,.kv 4,.sl 112 (.pv (.bool)),.km 0] | 21=>some [.kv 1,.sl 4 (.pv (.str)),.km 0] | 23=>some [.kv 1,.sl 4 (.pv (.str)),.km 0] | 29=>some [.kv 1,.sl 4 (.pv (.str)),.km 0] | 35=>some [.kv 1,.sl 4 (.pv (.str)),.km 0] | _=>none
 sched:=fun | 2=>runS [(0,false),(1,false),(2,false),(3,false),(4,false),(5,false),(6,false),(7,false),(8,false),(9,false)] .fin | 3=>runS [(1,false),(2,false),(0,false),(3,false),(4,false),(5,false),(6,false)] .fin | _=>.fin
def sg22:Sig:=⟨[.pv claimT],[.any],[sA]⟩
def fRel (d:Str):Lns:=[[sRel,d]]
def fPerm (d:List Int):Lns:=[sPerm :: itoas d]
def fPoint (d:List Int):Lns:=[sPoint :: itoas d]
theorem relTxt (d:Str):textL (fRel d) = [114,101,108,32] ++ d ++ [10]:=by simp [textL,lineS,fRel]
theorem numTxt (h:Str) (d:List Int):textL [h :: itoas d] = h ++ tailS d ++ [10]:=by simp [textL,lineS,tailS]
theorem row_one {x:Int} (h:In64 x):RowOk [x]:=⟨by show 1 ≤ 20001; decide,fun n hn=>by simp only [List.mem_cons,List.not_mem_nil,or_false] at hn; rw [hn]; exact h⟩
theorem row_two {x y:Int} (h:In64 x) (k:In64 y):RowOk [x,y]:=⟨by show 2 ≤ 20001; decide,fun n hn=>by
 simp only [List.mem_cons,List.not_mem_nil,or_false] at hn
 rcases hn with rfl | rfl <;> assumption⟩
theorem row_txt {h:Str} (hh:h.length ≤ 100) {d:List Int} (hd:RowOk d):(textL [h :: itoas d]).length ≤ 450000:=by
 have h1:=tail_len d hd.2
 have h2:d.length ≤ 20001:=hd.1
 rw [numTxt]
 simp only [List.length_append,List.length_cons,List.length_nil]
 omega
theorem flat_map (f:List Int → List Str):∀ l:List (List Int),l.flatMap (fun d=>[f d]) = l.map f
 | []=>rfl
 | x :: l=>by rw [List.flatMap_cons,List.map_cons,flat_map f l]; rfl
theorem flat_rel:∀ l:List Str,l.flatMap fRel = l.map (fun r=>[sRel,r])
 | []=>rfl
 | x :: l=>by rw [List.flatMap_cons,List.map_cons,flat_rel l]; rfl
theorem kindW_len {k:Int} (h1:1 ≤ k) (h2:k ≤ 9):(kindW k).length ≤ 10:=by
 have:k = 1 ∨ k = 2 ∨ k = 3 ∨ k = 4 ∨ k = 5 ∨ k = 6 ∨ k = 7 ∨ k = 8 ∨ k = 9:=by omega
 rcases this with h | h | h | h | h | h | h | h | h <;> rw [h] <;> decide
theorem kindW_get {k:Int} (h1:1 ≤ k) (h2:k ≤ 9):kindsL[k.toNat]? = some (kindW k):=by
 have:k = 1 ∨ k = 2 ∨ k = 3 ∨ k = 4 ∨ k = 5 ∨ k = 6 ∨ k = 7 ∨ k = 8 ∨ k = 9:=by omega
 rcases this with h | h | h | h | h | h | h | h | h <;> rw [h] <;> rfl
theorem textof_pc' (k g:Int) (r:List Str) (u v:Str) (n:Int) (d:List Cell) (cj:Str) (ring:List Cell) (sk sm:Int) (si:List Int) (sp:List (List Int)) (im:List Int) (mp:Pres) (md:Int) (mi:List (List Int)) (st:Strc)
  (hl:Lim NN claimT (k,(g,r,()),u,v,n,d,(cj,ring,()),(sk,sm,si,sp,()),im,(mp,md,mi,()),st,())) (hw:writable (k,(g,r,()),u,v,n,d,(cj,ring,()),(sk,sm,si,sp,()),im,(mp,md,mi,()),st,()) = true):PC Tryz.prog 22 sg22 ((k,(g,r,()),u,v,n,d,(cj,ring,()),(sk,sm,si,sp,()),im,(mp,md,mi,()),st,()),()) (fun y _=>y.1 = textL (linesC (k,(g,r,()),u,v,n,d,(cj,ring,()),(sk,sm,si,sp,()),im,(mp,md,mi,()),st,()))) (fun _=>False):=by
 obtain ⟨lk,⟨lg,lr,_⟩,lu,lv,ln,ld,⟨lcj,lring,_⟩,⟨lsk,lsm,lsi,lsp,_⟩,lim,⟨lmp,lmd,lmi,_⟩,lst,_⟩:=hl
 simp only [writable,Bool.and_eq_true,decide_eq_true_eq] at hw
 obtain ⟨⟨⟨⟨⟨⟨⟨⟨⟨⟨w1,w2⟩,w3⟩,w4⟩,w5⟩,w6⟩,w7⟩,w8⟩,w9⟩,w10⟩,w11⟩:=hw
 have w1:(1:Int) ≤ k:=w1
 have w2:k ≤ (9:Int):=w2
 have hk0:(0:Int) ≤ k:=by omega
 have hkl:=kindW_len w1 w2
 have hkg:=kindW_get w1 w2
 have lu:u.length ≤ 20001:=lu
 have lv:v.length ≤ 20001:=lv
 have lcj:cj.length ≤ 20001:=lcj
 have nr:r.length ≤ 20001:=lr.1
 have nsp:sp.length ≤ 20001:=lsp.1
 have nmi:mi.length ≤ 20001:=lmi.1
 have rsi:RowOk si:=⟨lsi.1,lsi.2⟩
 have rim:RowOk im:=⟨lim.1,lim.2⟩
 have oner:∀ d ∈ r,(textL (fRel d)).length ≤ 20100:=fun d hd=>by
  have h1:d.length ≤ 20001:=lr.2 d hd
  rw [relTxt]; simp only [List.length_append,List.length_cons,List.length_nil]; omega
 have rowsp:∀ d ∈ sp,RowOk d:=fun d hd=>⟨(lsp.2 d hd).1,(lsp.2 d hd).2⟩
 have rowmi:∀ d ∈ mi,RowOk d:=fun d hd=>⟨(lmi.2 d hd).1,(lmi.2 d hd).2⟩
 have onesp:∀ d ∈ sp,(textL (fPerm d)).length ≤ 450000:=fun d hd=>row_txt (by decide) (rowsp d hd)
 have onemi:∀ d ∈ mi,(textL (fPoint d)).length ≤ 450000:=fun d hd=>row_txt (by decide) (rowmi d hd)
 have cellen:=cellsL_len (h:=sCell) (by decide) ld
 have ringlen:=cellsL_len (h:=sRing) (by decide) lring
 refine PC.of a22 [(54,sg54),(55,sg55),(56,sg56),(57,sg57),(58,sg58),(59,sg59)] (by kernel_rfl) ?_
 refine CallP.mk _ _ (rnumbers_pc [107,105,110,100] [k] (by decide) (row_one lk)) ?_ (fun p h=>h.elim)
 rintro ⟨y0,_⟩ z hy0
 refine JoinP.mk (fun x=>x = (kindW k ++ [10],())) ?_ ?_
 rotate_left
 ·refine JoinP.mk (fun x=>x = (true,())) ?_ ?_
  rotate_left
  ·refine BrP.mk' (fun hc=>?_) (fun hc=>?_)
   ·refine CallP.mk _ _ names_pc ?_ (fun p h=>h.elim)
    rintro ⟨y,_⟩ z rfl
    refine LenL.mk fun _=>?_
    refine SameV.mk rfl (SameV.mk rfl (SameV.mk rfl ?_))
    have h10:decide (k < ((kindsL.length:Nat):Int)) = true:=decide_eq_true (by show k < 10; omega)
    exact congrArg (fun b=>(b,())) h10
   ·have hc:¬ k ≥ 0:=of_decide_eq_false hc
    exact absurd hk0 hc
  rintro x rfl
  refine BrP.mk' (fun hc=>?_) (fun hc=>Bool.noConfusion hc)
  refine CallP.mk _ _ names_pc ?_ (fun p h=>h.elim)
  rintro ⟨y,_⟩ z rfl
  refine GetL.is k.toNat (x:=kindW k) (Int.toNat_of_nonneg hk0).symm hkg ?_
  refine CatL.mk' (by show (kindW k).length + 1 ≤ _; omega) ?_
  refine SameV.mk rfl (SameV.mk rfl ?_)
  rfl
 rintro x rfl
 refine CatL.mk' (by show 6 + (kindW k ++ [10]).length ≤ _; rw [List.length_append,List.length_cons,List.length_nil]; omega) ?_
 refine CallP.mk _ _ (rnumbers_pc sGens [g] (by decide) (row_one lg)) ?_ (fun p h=>h.elim)
 rintro ⟨y1,_⟩ z hy1
 have hy1:y1 = sGens ++ tailS [g] ++ [10]:=hy1
 have ly1:=tail_len [g] (row_one lg).2
 have ly:y1.length ≤ 100:=by rw [hy1]; simp only [List.length_append,List.length_cons,List.length_nil] at ly1 ⊢; omega
 refine CatL.mk' (by show ([99,108,97,105,109,32] ++ (kindW k ++ [10])).length + y1.length ≤ _; simp only [List.length_append,List.length_cons,List.length_nil]; omega) ?_
 have bo0:(([99,108,97,105,109,32] ++ (kindW k ++ [10])) ++ y1:Str).length ≤ 200:=by simp only [List.length_append,List.length_cons,List.length_nil]; omega
 have eo0:(([99,108,97,105,109,32] ++ (kindW k ++ [10])) ++ y1:Str) = textL [[sClaim,kindW k],[sGens,Go.Lib.itoa g]]:=by rw [hy1]; simp [textL,lineS,tailS,itoas]
 have bii1:=flat_take fRel _ nr oner
 refine SameV.mk rfl (SameV.mk rfl ?_)
 refine LoopP.mk (fun x=>∃ i:Nat,x = ((([99,108,97,105,109,32] ++ (kindW k ++ [10])) ++ y1) ++ textL ((r.take i).flatMap fRel),(i:Int),()) ∧ i ≤ r.length) (fun x=>r.length - x.2.1.toNat) (Exists.intro 0 (And.intro (by rw [flat0 fRel r (([99,108,97,105,109,32] ++ (kindW k ++ [10])) ++ y1)]; rfl) (Nat.zero_le _))) ?_
 rintro x ⟨i1,rfl,hii1⟩
 have hbi1:=bii1 i1
 refine LenL.mk fun _=>?_
 refine BrP.mk' (fun hc=>?_) (fun hc=>?_)
 ·have hc:(i1:Int) < (r.length:Int):=of_decide_eq_true hc
  have hc:i1 < r.length:=by omega
  have hg:r[i1]? = some r[i1]:=List.getElem?_eq_getElem hc
  have hm:r[i1] ∈ r:=List.getElem_mem hc
  have hE:∃ d,d = r[i1]:=⟨_,rfl⟩
  obtain ⟨q,hd⟩:=hE
  rw [← hd] at hg hm
  have hw:IntKind.wrap .i64 ((i1:Int) + 1) = ((i1 + 1:Nat):Int):=Fw.wrap64 (by omega) (by omega)
  have hpl:=oner q hm
  have hs:=flat_next fRel hg (([99,108,97,105,109,32] ++ (kindW k ++ [10])) ++ y1)
  refine GetL.is i1 (x:=q) rfl hg ?_
  rw [relTxt] at hs hpl
  simp only [List.length_append,List.length_cons,List.length_nil] at hpl
  refine CatL.mk' (by show 4 + q.length ≤ _; omega) ?_
  refine CatL.mk' (by show ([114,101,108,32] ++ q).length + 1 ≤ _; simp only [List.length_append,List.length_cons,List.length_nil]; omega) ?_
  refine CatL.mk' (by show ((([99,108,97,105,109,32] ++ (kindW k ++ [10])) ++ y1) ++ textL ((r.take i1).flatMap fRel)).length + ([114,101,108,32] ++ q ++ [10]).length ≤ _; rw [List.length_append]; simp only [List.length_append,List.length_cons,List.length_nil] at bo0 ⊢; omega) ?_
  refine SameV.mk rfl (SameV.mk rfl ?_)
  refine And.intro (Exists.intro (i1 + 1) (And.intro ?_ hc)) ?_
  ·rw [← hw,hs]; rfl
  ·show r.length - (IntKind.wrap .i64 ((i1:Int) + 1)).toNat < r.length - (i1:Int).toNat
   rw [hw]; omega
 have hci1:¬ (i1:Int) < (r.length:Int):=of_decide_eq_false hc
 have hci1:i1 = r.length:=by omega
 have ei1:((([99,108,97,105,109,32] ++ (kindW k ++ [10])) ++ y1) ++ textL ((r.take i1).flatMap fRel)) = (([99,108,97,105,109,32] ++ (kindW k ++ [10])) ++ y1) ++ textL (r.flatMap fRel):=by rw [hci1,List.take_length]
 have bi1:((([99,108,97,105,109,32] ++ (kindW k ++ [10])) ++ y1) ++ textL ((r.take i1).flatMap fRel)).length ≤ (([99,108,97,105,109,32] ++ (kindW k ++ [10])) ++ y1).length + 402020100:=by rw [List.length_append]; omega
 refine JoinP.mk (fun x=>∃ o:Str,x = (o,()) ∧ o = ((([99,108,97,105,109,32] ++ (kindW k ++ [10])) ++ y1) ++ textL ((r.take i1).flatMap fRel)) ++ textL (if u = [] then [] else [[sU,u]]) ∧ o.length ≤ ((([99,108,97,105,109,32] ++ (kindW k ++ [10])) ++ y1) ++ textL ((r.take i1).flatMap fRel)).length + 20100) ?_ ?_
 rotate_left
 ·refine BrP.mk' (fun hc=>?_) (fun hc=>?_)
  ·have hc:u ≠ []:=by simpa using hc
   have hp:textL (if u = [] then [] else [[sU,u]]) = sU ++ 32 :: u ++ [10]:=by rw [if_neg hc]; simp [textL,lineS]
   refine CatL.mk' (by show (sU ++ [32]).length + u.length ≤ _; simp only [List.length_append,List.length_cons,List.length_nil]; omega) ?_
   refine CatL.mk' (by show (sU ++ [32] ++ u).length + 1 ≤ _; simp only [List.length_append,List.length_cons,List.length_nil]; omega) ?_
   refine CatL.mk' (by show ((([99,108,97,105,109,32] ++ (kindW k ++ [10])) ++ y1) ++ textL ((r.take i1).flatMap fRel)).length + (sU ++ [32] ++ u ++ [10]).length ≤ _; simp only [List.length_append,List.length_cons,List.length_nil]; omega) ?_
   refine SameV.mk rfl (SameV.mk rfl ?_)
   refine Exists.intro (((([99,108,97,105,109,32] ++ (kindW k ++ [10])) ++ y1) ++ textL ((r.take i1).flatMap fRel)) ++ (sU ++ [32] ++ u ++ [10])) (And.intro rfl (And.intro (by rw [hp]; simp) (by simp only [List.length_append,List.length_cons,List.length_nil]; omega)))
  ·have hc:u = []:=by simpa using hc
   refine SameV.mk rfl (SameV.mk rfl ?_)
   refine Exists.intro ((([99,108,97,105,109,32] ++ (kindW k ++ [10])) ++ y1) ++ textL ((r.take i1).flatMap fRel)) (And.intro rfl (And.intro (by rw [if_pos hc]; simp [textL]) (by omega)))
 rintro x ⟨o2,rfl,eo2,bo2⟩
 refine JoinP.mk (fun x=>∃ o:Str,x = (o,()) ∧ o = o2 ++ textL (if v = [] then [] else [[sV,v]]) ∧ o.length ≤ o2.length + 20100) ?_ ?_
 rotate_left
 ·refine BrP.mk' (fun hc=>?_) (fun hc=>?_)
  ·have hc:v ≠ []:=by simpa using hc
   have hp:textL (if v = [] then [] else [[sV,v]]) = sV ++ 32 :: v ++ [10]:=by rw [if_neg hc]; simp [textL,lineS]
   refine CatL.mk' (by show (sV ++ [32]).length + v.length ≤ _; simp only [List.length_append,List.length_cons,List.length_nil]; omega) ?_
   refine CatL.mk' (by show (sV ++ [32] ++ v).length + 1 ≤ _; simp only [List.length_append,List.length_cons,List.length_nil]; omega) ?_
   refine CatL.mk' (by show o2.length + (sV ++ [32] ++ v ++ [10]).length ≤ _; simp only [List.length_append,List.length_cons,List.length_nil]; omega) ?_
   refine SameV.mk rfl (SameV.mk rfl ?_)
   refine Exists.intro (o2 ++ (sV ++ [32] ++ v ++ [10])) (And.intro rfl (And.intro (by rw [hp]; simp) (by simp only [List.length_append,List.length_cons,List.length_nil]; omega)))
  ·have hc:v = []:=by simpa using hc
   refine SameV.mk rfl (SameV.mk rfl ?_)
   refine Exists.intro o2 (And.intro rfl (And.intro (by rw [if_pos hc]; simp [textL]) (by omega)))
 rintro x ⟨o3,rfl,eo3,bo3⟩
 refine JoinP.mk (fun x=>∃ o:Str,x = (o,()) ∧ o = o3 ++ textL (if n = 0 then [] else [sN :: itoas [n]]) ∧ o.length ≤ o3.length + 1000) ?_ ?_
 rotate_left
 ·refine BrP.mk' (fun hc=>?_) (fun hc=>?_)
  ·have hc:¬ (n = 0):=by simpa using hc
   have hp:textL (if n = 0 then [] else [sN :: itoas [n]]) = sN ++ tailS [n] ++ [10]:=by rw [if_neg hc]; exact numTxt _ _
   have hlen:=tail_len [n] (row_one ln).2
   have hle:([n]:List Int).length ≤ 20001:=(row_one ln).1
   refine CallP.mk _ _ (rnumbers_pc sN [n] (by decide) (row_one ln)) ?_ (fun p h=>h.elim)
   rintro ⟨y,_⟩ z hy
   have hy:y = sN ++ tailS [n] ++ [10]:=hy
   have hyl:y.length ≤ 1000:=by rw [hy]; simp only [List.length_append,List.length_cons,List.length_nil] at hlen hle ⊢; omega
   rw [← hy] at hp
   refine CatL.mk' (by show o3.length + y.length ≤ _; omega) ?_
   refine SameV.mk rfl (SameV.mk rfl ?_)
   refine Exists.intro (o3 ++ y) (And.intro rfl (And.intro (by rw [hp]) (by rw [List.length_append]; omega)))
  ·have hc:n = 0:=by simpa using hc
   refine SameV.mk rfl (SameV.mk rfl ?_)
   refine Exists.intro o3 (And.intro rfl (And.intro (by rw [if_pos hc]; simp [textL]) (by omega)))
 rintro x ⟨o4,rfl,eo4,bo4⟩
 refine CallP.mk _ _ (rcellsT_pc sCell d (by decide) ld) ?_ (fun p h=>h.elim)
 rintro ⟨y5,_⟩ z hy5
 have hy5:y5 = textL (cellsL sCell d):=hy5
 rw [← hy5] at cellen
 refine CatL.mk' (by show o4.length + y5.length ≤ _; omega) ?_
 have by5:(o4 ++ y5).length ≤ o4.length + 500000000:=by rw [List.length_append]; omega
 refine JoinP.mk (fun x=>∃ o:Str,x = (o,()) ∧ o = (o4 ++ y5) ++ textL (if cj = [] then [] else [[sConj,cj]]) ∧ o.length ≤ (o4 ++ y5).length + 20100) ?_ ?_
 rotate_left
 ·refine BrP.mk' (fun hc=>?_) (fun hc=>?_)
  ·have hc:cj ≠ []:=by simpa using hc
   have hp:textL (if cj = [] then [] else [[sConj,cj]]) = sConj ++ 32 :: cj ++ [10]:=by rw [if_neg hc]; simp [textL,lineS]
   refine CatL.mk' (by show (sConj ++ [32]).length + cj.length ≤ _; simp only [List.length_append,List.length_cons,List.length_nil]; omega) ?_
   refine CatL.mk' (by show (sConj ++ [32] ++ cj).length + 1 ≤ _; simp only [List.length_append,List.length_cons,List.length_nil]; omega) ?_
   refine CatL.mk' (by show (o4 ++ y5).length + (sConj ++ [32] ++ cj ++ [10]).length ≤ _; simp only [List.length_append,List.length_cons,List.length_nil]; omega) ?_
   refine SameV.mk rfl (SameV.mk rfl ?_)
   refine Exists.intro ((o4 ++ y5) ++ (sConj ++ [32] ++ cj ++ [10])) (And.intro rfl (And.intro (by rw [hp]; simp) (by simp only [List.length_append,List.length_cons,List.length_nil]; omega)))
  ·have hc:cj = []:=by simpa using hc
   refine SameV.mk rfl (SameV.mk rfl ?_)
   refine Exists.intro (o4 ++ y5) (And.intro rfl (And.intro (by rw [if_pos hc]; simp [textL]) (by omega)))
 rintro x ⟨o6,rfl,eo6,bo6⟩
 refine CallP.mk _ _ (rcellsT_pc sRing ring (by decide) lring) ?_ (fun p h=>h.elim)
 rintro ⟨y7,_⟩ z hy7
 have hy7:y7 = textL (cellsL sRing ring):=hy7
 rw [← hy7] at ringlen
 refine CatL.mk' (by show o6.length + y7.length ≤ _; omega) ?_
 have by7:(o6 ++ y7).length ≤ o6.length + 500000000:=by rw [List.length_append]; omega
 refine JoinP.mk (fun x=>∃ o:Str,x = (o,()) ∧ o = (o6 ++ y7) ++ textL (if sk = 0 ∧ sm = 0 then [] else [sSep :: itoas [sk,sm]]) ∧ o.length ≤ (o6 ++ y7).length + 1000) ?_ ?_
 rotate_left
 ·refine JoinP.mk (fun x=>x = (!(decide (sk = 0 ∧ sm = 0)),())) ?_ ?_
  rotate_left
  ·refine BrP.mk' (fun hc=>?_) (fun hc=>?_)
   ·have hc:sk ≠ 0:=by simpa using hc
    refine SameV.mk rfl (SameV.mk rfl (SameV.mk rfl ?_))
    have hd:true = !(decide (sk = 0 ∧ sm = 0)):=by simp [hc]
    exact congrArg (fun b=>(b,())) hd
   ·have hc:sk = 0:=by simpa using hc
    refine SameV.mk rfl (SameV.mk rfl (SameV.mk rfl ?_))
    have hd:(sm != 0) = !(decide (sk = 0 ∧ sm = 0)):=by
     by_cases h:sm = 0 <;> simp [h,hc]
    exact congrArg (fun b=>(b,())) hd
  rintro x rfl
  refine BrP.mk' (fun hc=>?_) (fun hc=>?_)
  ·have hc:¬ (sk = 0 ∧ sm = 0):=fun he=>by have hc:(!(decide (sk = 0 ∧ sm = 0))) = true:=hc; rw [decide_eq_true he] at hc; cases hc
   have hp:textL (if sk = 0 ∧ sm = 0 then [] else [sSep :: itoas [sk,sm]]) = sSep ++ tailS [sk,sm] ++ [10]:=by rw [if_neg hc]; exact numTxt _ _
   have hlen:=tail_len [sk,sm] (row_two lsk lsm).2
   have hle:([sk,sm]:List Int).length ≤ 20001:=(row_two lsk lsm).1
   refine CallP.mk _ _ (rnumbers_pc sSep [sk,sm] (by decide) (row_two lsk lsm)) ?_ (fun p h=>h.elim)
   rintro ⟨y,_⟩ z hy
   have hy:y = sSep ++ tailS [sk,sm] ++ [10]:=hy
   have hyl:y.length ≤ 1000:=by rw [hy]; simp only [List.length_append,List.length_cons,List.length_nil] at hlen hle ⊢; omega
   rw [← hy] at hp
   refine CatL.mk' (by show (o6 ++ y7).length + y.length ≤ _; omega) ?_
   refine SameV.mk rfl (SameV.mk rfl ?_)
   refine Exists.intro ((o6 ++ y7) ++ y) (And.intro rfl (And.intro (by rw [hp]) (by rw [List.length_append]; omega)))
  ·have hc:sk = 0 ∧ sm = 0:=by simpa using hc
   refine SameV.mk rfl (SameV.mk rfl ?_)
   refine Exists.intro (o6 ++ y7) (And.intro rfl (And.intro (by rw [if_pos hc]; simp [textL]) (by omega)))
 rintro x ⟨o8,rfl,eo8,bo8⟩
 refine JoinP.mk (fun x=>∃ o:Str,x = (o,()) ∧ o = o8 ++ textL (if si = [] then [] else [sImage :: itoas si]) ∧ o.length ≤ o8.length + 450000) ?_ ?_
 rotate_left
 ·refine LenL.mk fun _=>?_
  refine BrP.mk' (fun hc=>?_) (fun hc=>?_)
  ·have hc:¬ (si = []):=fun he=>by have hc:((si.length:Nat):Int) > 0:=of_decide_eq_true hc; rw [he] at hc; exact absurd hc (by decide)
   have hp:textL (if si = [] then [] else [sImage :: itoas si]) = sImage ++ tailS si ++ [10]:=by rw [if_neg hc]; exact numTxt _ _
   have hlen:=tail_len si rsi.2
   have hle:(si:List Int).length ≤ 20001:=rsi.1
   refine CallP.mk _ _ (rnumbers_pc sImage si (by decide) rsi) ?_ (fun p h=>h.elim)
   rintro ⟨y,_⟩ z hy
   have hy:y = sImage ++ tailS si ++ [10]:=hy
   have hyl:y.length ≤ 450000:=by rw [hy]; simp only [List.length_append,List.length_cons,List.length_nil] at hlen hle ⊢; omega
   rw [← hy] at hp
   refine CatL.mk' (by show o8.length + y.length ≤ _; omega) ?_
   refine SameV.mk rfl (SameV.mk rfl ?_)
   refine Exists.intro (o8 ++ y) (And.intro rfl (And.intro (by rw [hp]) (by rw [List.length_append]; omega)))
  ·have hc:si = []:=by have hc:¬ ((si.length:Nat):Int) > 0:=of_decide_eq_false hc; exact List.eq_nil_of_length_eq_zero (by omega)
   refine SameV.mk rfl (SameV.mk rfl ?_)
   refine Exists.intro o8 (And.intro rfl (And.intro (by rw [if_pos hc]; simp [textL]) (by omega)))
 rintro x ⟨o9,rfl,eo9,bo9⟩
 have bii2:=flat_take fPerm _ nsp onesp
 refine SameV.mk rfl (SameV.mk rfl ?_)
 refine LoopP.mk (fun x=>∃ i:Nat,x = (o9 ++ textL ((sp.take i).flatMap fPerm),(i:Int),()) ∧ i ≤ sp.length) (fun x=>sp.length - x.2.1.toNat) (Exists.intro 0 (And.intro (by rw [flat0 fPerm sp o9]; rfl) (Nat.zero_le _))) ?_
 rintro x ⟨i2,rfl,hii2⟩
 have hbi2:=bii2 i2
 refine LenL.mk fun _=>?_
 refine BrP.mk' (fun hc=>?_) (fun hc=>?_)
 ·have hc:(i2:Int) < (sp.length:Int):=of_decide_eq_true hc
  have hc:i2 < sp.length:=by omega
  have hg:sp[i2]? = some sp[i2]:=List.getElem?_eq_getElem hc
  have hm:sp[i2] ∈ sp:=List.getElem_mem hc
  have hE:∃ d,d = sp[i2]:=⟨_,rfl⟩
  obtain ⟨q,hd⟩:=hE
  rw [← hd] at hg hm
  have hw:IntKind.wrap .i64 ((i2:Int) + 1) = ((i2 + 1:Nat):Int):=Fw.wrap64 (by omega) (by omega)
  have hpl:=onesp q hm
  have hs:=flat_next fPerm hg o9
  refine GetL.is i2 (x:=q) rfl hg ?_
  have ht:textL (fPerm q) = sPerm ++ tailS q ++ [10]:=numTxt _ _
  refine CallP.mk _ _ (rnumbers_pc sPerm q (by decide) (rowsp q hm)) ?_ (fun p h=>h.elim)
  rintro ⟨y,_⟩ z hy
  have hy:y = sPerm ++ tailS q ++ [10]:=hy
  rw [ht,← hy] at hs hpl
  refine CatL.mk' (by show (o9 ++ textL ((sp.take i2).flatMap fPerm)).length + y.length ≤ _; rw [List.length_append]; omega) ?_
  refine SameV.mk rfl (SameV.mk rfl ?_)
  refine And.intro (Exists.intro (i2 + 1) (And.intro ?_ hc)) ?_
  ·rw [← hw,hs]; rfl
  ·show sp.length - (IntKind.wrap .i64 ((i2:Int) + 1)).toNat < sp.length - (i2:Int).toNat
   rw [hw]; omega
 have hci2:¬ (i2:Int) < (sp.length:Int):=of_decide_eq_false hc
 have hci2:i2 = sp.length:=by omega
 have ei2:(o9 ++ textL ((sp.take i2).flatMap fPerm)) = o9 ++ textL (sp.flatMap fPerm):=by rw [hci2,List.take_length]
 have bi2:(o9 ++ textL ((sp.take i2).flatMap fPerm)).length ≤ o9.length + 9000450000:=by rw [List.length_append]; omega
 refine JoinP.mk (fun x=>∃ o:Str,x = (o,()) ∧ o = (o9 ++ textL ((sp.take i2).flatMap fPerm)) ++ textL (if im = [] then [] else [sValue :: itoas im]) ∧ o.length ≤ (o9 ++ textL ((sp.take i2).flatMap fPerm)).length + 450000) ?_ ?_
 rotate_left
 ·refine LenL.mk fun _=>?_
  refine BrP.mk' (fun hc=>?_) (fun hc=>?_)
  ·have hc:¬ (im = []):=fun he=>by have hc:((im.length:Nat):Int) > 0:=of_decide_eq_true hc; rw [he] at hc; exact absurd hc (by decide)
   have hp:textL (if im = [] then [] else [sValue :: itoas im]) = sValue ++ tailS im ++ [10]:=by rw [if_neg hc]; exact numTxt _ _
   have hlen:=tail_len im rim.2
   have hle:(im:List Int).length ≤ 20001:=rim.1
   refine CallP.mk _ _ (rnumbers_pc sValue im (by decide) rim) ?_ (fun p h=>h.elim)
   rintro ⟨y,_⟩ z hy
   have hy:y = sValue ++ tailS im ++ [10]:=hy
   have hyl:y.length ≤ 450000:=by rw [hy]; simp only [List.length_append,List.length_cons,List.length_nil] at hlen hle ⊢; omega
   rw [← hy] at hp
   refine CatL.mk' (by show (o9 ++ textL ((sp.take i2).flatMap fPerm)).length + y.length ≤ _; omega) ?_
   refine SameV.mk rfl (SameV.mk rfl ?_)
   refine Exists.intro ((o9 ++ textL ((sp.take i2).flatMap fPerm)) ++ y) (And.intro rfl (And.intro (by rw [hp]) (by rw [List.length_append]; omega)))
  ·have hc:im = []:=by have hc:¬ ((im.length:Nat):Int) > 0:=of_decide_eq_false hc; exact List.eq_nil_of_length_eq_zero (by omega)
   refine SameV.mk rfl (SameV.mk rfl ?_)
   refine Exists.intro (o9 ++ textL ((sp.take i2).flatMap fPerm)) (And.intro rfl (And.intro (by rw [if_pos hc]; simp [textL]) (by omega)))
 rintro x ⟨o10,rfl,eo10,bo10⟩
 refine JoinP.mk (fun x=>∃ o:Str,x = (o,()) ∧ o = o10 ++ textL (mapL (mp,md,mi,())) ∧ o.length ≤ o10.length + 9100000000) ?_ ?_
 rotate_left
 ·refine CallP.mk _ _ (rnomap_pc (mp,md,mi,())) ?_ (fun p h=>h.elim)
  rintro ⟨bm,_⟩ z hbm
  have hbm:bm = noMap (mp,md,mi,()):=hbm
  refine BrP.mk' (fun hc=>?_) (fun hc=>?_)
  ·have hc:noMap (mp,md,mi,()) = false:=by rw [← hbm]; simpa using hc
   have hp:mapL (mp,md,mi,()) = [sDegree :: itoas [md]] ++ mi.flatMap fPoint:=by
    have hf:mi.flatMap fPoint = mi.map (fun l=>sPoint :: itoas l):=flat_map (fun l=>sPoint :: itoas l) mi
    rw [hf]; unfold mapL; rw [hc]; rfl
   refine CallP.mk _ _ (rnumbers_pc sDegree [md] (by decide) (row_one lmd)) ?_ (fun p h=>h.elim)
   rintro ⟨y11,_⟩ z hy11
   have hy11:y11 = sDegree ++ tailS [md] ++ [10]:=hy11
   have ly11:=tail_len [md] (row_one lmd).2
   have ly11:y11.length ≤ 100:=by rw [hy11]; simp only [List.length_append,List.length_cons,List.length_nil] at ly11 ⊢; omega
   refine CatL.mk' (by show o10.length + y11.length ≤ _; omega) ?_
   have hl11:(o10 ++ y11).length ≤ o10.length + 100:=by rw [List.length_append]; omega
   have bii3:=flat_take fPoint _ nmi onemi
   refine SameV.mk rfl (SameV.mk rfl ?_)
   refine LoopP.mk (fun x=>∃ i:Nat,x = ((o10 ++ y11) ++ textL ((mi.take i).flatMap fPoint),(i:Int),()) ∧ i ≤ mi.length) (fun x=>mi.length - x.2.1.toNat) (Exists.intro 0 (And.intro (by rw [flat0 fPoint mi (o10 ++ y11)]; rfl) (Nat.zero_le _))) ?_
   rintro x ⟨i3,rfl,hii3⟩
   have hbi3:=bii3 i3
   refine LenL.mk fun _=>?_
   refine BrP.mk' (fun hc=>?_) (fun hc=>?_)
   ·have hc:(i3:Int) < (mi.length:Int):=of_decide_eq_true hc
    have hc:i3 < mi.length:=by omega
    have hg:mi[i3]? = some mi[i3]:=List.getElem?_eq_getElem hc
    have hm:mi[i3] ∈ mi:=List.getElem_mem hc
    have hE:∃ d,d = mi[i3]:=⟨_,rfl⟩
    obtain ⟨q,hd⟩:=hE
    rw [← hd] at hg hm
    have hw:IntKind.wrap .i64 ((i3:Int) + 1) = ((i3 + 1:Nat):Int):=Fw.wrap64 (by omega) (by omega)
    have hpl:=onemi q hm
    have hs:=flat_next fPoint hg (o10 ++ y11)
    refine GetL.is i3 (x:=q) rfl hg ?_
    have ht:textL (fPoint q) = sPoint ++ tailS q ++ [10]:=numTxt _ _
    refine CallP.mk _ _ (rnumbers_pc sPoint q (by decide) (rowmi q hm)) ?_ (fun p h=>h.elim)
    rintro ⟨y,_⟩ z hy
    have hy:y = sPoint ++ tailS q ++ [10]:=hy
    rw [ht,← hy] at hs hpl
    refine CatL.mk' (by show ((o10 ++ y11) ++ textL ((mi.take i3).flatMap fPoint)).length + y.length ≤ _; rw [List.length_append]; omega) ?_
    refine SameV.mk rfl (SameV.mk rfl ?_)
    refine And.intro (Exists.intro (i3 + 1) (And.intro ?_ hc)) ?_
    ·rw [← hw,hs]; rfl
    ·show mi.length - (IntKind.wrap .i64 ((i3:Int) + 1)).toNat < mi.length - (i3:Int).toNat
     rw [hw]; omega
   have hci3:¬ (i3:Int) < (mi.length:Int):=of_decide_eq_false hc
   have hci3:i3 = mi.length:=by omega
   have ei3:((o10 ++ y11) ++ textL ((mi.take i3).flatMap fPoint)) = (o10 ++ y11) ++ textL (mi.flatMap fPoint):=by rw [hci3,List.take_length]
   have bi3:((o10 ++ y11) ++ textL ((mi.take i3).flatMap fPoint)).length ≤ (o10 ++ y11).length + 9000450000:=by rw [List.length_append]; omega
   refine SameV.mk rfl (SameV.mk rfl ?_)
   refine Exists.intro ((o10 ++ y11) ++ textL ((mi.take i3).flatMap fPoint)) (And.intro rfl (And.intro ?_ (by omega)))
   rw [ei3,hp,textL_app,numTxt,← hy11,List.append_assoc]
  ·have hc:noMap (mp,md,mi,()) = true:=by rw [← hbm]; simpa using hc
   refine SameV.mk rfl (SameV.mk rfl ?_)
   refine Exists.intro o10 (And.intro rfl (And.intro (by unfold mapL; rw [if_pos hc]; simp [textL]) (by omega)))
 rintro x ⟨o12,rfl,eo12,bo12⟩
 have fin:∀ t:Str,t = textL (if noStr st then [] else strL st) → o12 ++ t ++ [100,111,110,101,10] = textL (linesC (k,(g,r,()),u,v,n,d,(cj,ring,()),(sk,sm,si,sp,()),im,(mp,md,mi,()),st,())):=fun t ht=>by
  have h1:linesC (k,(g,r,()),u,v,n,d,(cj,ring,()),(sk,sm,si,sp,()),im,(mp,md,mi,()),st,()) =
   frontL k (g,r,()) u v n ++ (cellsL sCell d ++ ((if cj = [] then [] else [[sConj,cj]]) ++ (cellsL sRing ring ++ (sepL (sk,sm,si,sp,()) ++ ((if im = [] then [] else [sValue :: itoas im]) ++ (mapL (mp,md,mi,()) ++ ((if noStr st then [] else strL st) ++ [[sDone]]))))))):=rfl
  have h2:frontL k (g,r,()) u v n = [[sClaim,kindW k],[sGens,Go.Lib.itoa g]] ++ (r.flatMap fRel ++ ((if u = [] then [] else [[sU,u]]) ++ ((if v = [] then [] else [[sV,v]]) ++ (if n = 0 then [] else [sN :: itoas [n]])))):=by rw [flat_rel]; rfl
  have h3:sepL (sk,sm,si,sp,()) = (if sk = 0 ∧ sm = 0 then [] else [sSep :: itoas [sk,sm]]) ++ ((if si = [] then [] else [sImage :: itoas si]) ++ sp.flatMap fPerm):=by
   have hf:sp.flatMap fPerm = sp.map (fun l=>sPerm :: itoas l):=flat_map (fun l=>sPerm :: itoas l) sp
   rw [hf]; rfl
  have h4:textL [[sDone]] = [100,111,110,101,10]:=rfl
  rw [h1,h2,h3]
  simp only [textL_app,h4]
  rw [← ht,eo12,eo10,ei2,eo9,eo8,hy7,eo6,hy5,eo4,eo3,eo2,ei1,eo0]
  simp only [List.append_assoc]
 have strl:noStr st = false → (textL (strL st)).length ≤ 1000000000000000:=fun _=>str_len lst w11
 refine CallP.mk _ _ (rnostr_pc st) ?_ (fun p h=>h.elim)
 rintro ⟨bs,_⟩ z hbs
 have hbs:bs = noStr st:=hbs
 refine BrP.mk' (fun hc=>?_) (fun hc=>?_)
 ·have hc:noStr st = false:=by rw [← hbs]; simpa using hc
  have sl:=strl hc
  refine CallP.mk _ _ (rstr_pc st lst w11) ?_ (fun p h=>h.elim)
  rintro ⟨y13,_⟩ z hy13
  have hy13:y13 = textL (strL st):=hy13
  rw [← hy13] at sl
  refine CatL.mk' (by show o12.length + y13.length ≤ _; omega) ?_
  refine CatL.mk' (by show (o12 ++ y13).length + 5 ≤ _; rw [List.length_append]; omega) ?_
  exact fin y13 (by rw [hc]; exact hy13)
 ·have hc:noStr st = true:=by rw [← hbs]; simpa using hc
  refine CatL.mk' (by show o12.length + 5 ≤ _; omega) ?_
  have hf:=fin [] (by rw [hc]; rfl)
  rw [List.append_nil] at hf
  exact hf
theorem textof_pc (c:Clm) (hl:Lim NN claimT c) (hw:writable c = true):PC Tryz.prog 22 sg22 (c,()) (fun y _=>y.1 = textL (linesC c)) (fun _=>False):=by
 obtain ⟨k,⟨g,r,_⟩,u,v,n,d,⟨cj,ring,_⟩,⟨sk,sm,si,sp,_⟩,im,⟨mp,md,mi,_⟩,st,_⟩:=c
 exact textof_pc' k g r u v n d cj ring sk sm si sp im mp md mi st hl hw
end Go.Proofs.YtpifnlfmojfgpaaGreatDoor.Rk
end
section
set_option maxRecDepth 10000
set_option maxHeartbeats 2000000
namespace Go.Proofs.YtpifnlfmojfgpaaGreatDoor.Pk
open Fw Pw Ct Rk
theorem rp_nil {A:Pos} {W:World} {e:PT}:Rp A W (.lst e) [] [.slice none 0 0]:=⟨none,0,0,rfl,rfl,Nat.le_refl _,Nat.zero_le _,fun i x hx=>by simp at hx⟩
theorem rp_pres {A:Pos} {W:World} {p:Pres} {s:Sl} (h:Rp A W tW p.2.1 [s.v]):Rp A W presT p [.int .i64 p.1,s.v]:=⟨[_],_,rfl,rfl,[_],_,rfl,h,rfl⟩
theorem rp_map {A:Pos} {W:World} {m:Map} {s t:Sl} (h:Rp A W tW m.1.2.1 [s.v]) (k:Rp A W tIss m.2.2.1 [t.v]):Rp A W mapT m [.int .i64 m.1.1,s.v,.int .i64 m.2.1,t.v]:=⟨[_,_],_,rfl,rp_pres h,[_],_,rfl,rfl,[_],_,rfl,k,rfl⟩
theorem rp_zmap (A:Pos) (W:World):Rp A W mapT zeroMap [.int .i64 0,.slice none 0 0,.int .i64 0,.slice none 0 0]:=⟨[_,_],_,rfl,⟨[_],_,rfl,rfl,[_],_,rfl,rp_nil,rfl⟩,[_],_,rfl,rfl,[_],_,rfl,rp_nil,rfl⟩
theorem rp_str' {A:Pos} {W:World} {s:Strc} {v:StrV} (h:v.R A W s):Rp A W strT s (v.cs s).toList:=
 ⟨[_,_],_,rfl,rp_pres h.r,[_,_,_,_],_,rfl,⟨[_],_,rfl,rfl,[_],_,rfl,rfl,[_],_,rfl,h.acc,[_],_,rfl,h.nx,rfl⟩,[_],_,rfl,h.mu,[_],_,rfl,h.df,[_],_,rfl,h.st,[_],_,rfl,h.en,rfl⟩
theorem rp_zstr (A:Pos) (W:World):Rp A W strT zeroStr [.int .i64 0,.slice none 0 0,.int .i64 0,.int .i64 0,.slice none 0 0,.slice none 0 0,.slice none 0 0,.slice none 0 0,.slice none 0 0,.slice none 0 0]:=
 ⟨[_,_],_,rfl,⟨[_],_,rfl,rfl,[_],_,rfl,rp_nil,rfl⟩,[_,_,_,_],_,rfl,⟨[_],_,rfl,rfl,[_],_,rfl,rfl,[_],_,rfl,rp_nil,[_],_,rfl,rp_nil,rfl⟩,[_],_,rfl,rp_nil,[_],_,rfl,rp_nil,[_],_,rfl,rp_nil,[_],_,rfl,rp_nil,rfl⟩
theorem map_call {W:World} (hg:GOk W) {m:Map} (hl:Lim NN mapT m) {vs:List Value} (h:Rp (allP W) W mapT m vs) {K:Bool → World → Prop} {Kp:List PanicEntry → World → Prop} (k:∀ W',Chg Nil W W' → K (noMap m) W') :
  CallT Tryz.prog 28 #[.agg vs.toArray,.agg #[.int .i64 0,.slice none 0 0,.int .i64 0,.slice none 0 0]] (.sc .bool) W K Kp:=by
 refine Calls.mono (pc_bool (ps:=[mapT,mapT]) (out:=[.any,.any]) (map28_pc m zeroMap hl) (fun a b hq=>hq) (vs:=[.agg vs.toArray,.agg #[.int .i64 0,.slice none 0 0,.int .i64 0,.slice none 0 0]]) ⟨vs,_,_,rfl,h,rfl,_,_,_,rfl,rp_zmap _ _,rfl,rfl⟩ hg) fun e W' he=>?_
 obtain ⟨rfl,hc,_⟩:=he
 exact ⟨_,rfl,by rw [← noMap_dec]; exact k W' hc⟩
theorem str_call {W:World} (hg:GOk W) {s:Strc} (hl:Lim NN strT s) {vs:List Value} (h:Rp (allP W) W strT s vs) {K:Bool → World → Prop} {Kp:List PanicEntry → World → Prop} (k:∀ W',Chg Nil W W' → K (noStr s) W') :
  CallT Tryz.prog 29 #[.agg vs.toArray,.agg #[.int .i64 0,.slice none 0 0,.int .i64 0,.int .i64 0,.slice none 0 0,.slice none 0 0,.slice none 0 0,.slice none 0 0,.slice none 0 0,.slice none 0 0]] (.sc .bool) W K Kp:=by
 refine Calls.mono (pc_bool (ps:=[strT,strT]) (out:=[.any,.any]) (str29_pc s zeroStr hl) (fun a b hq=>hq) (vs:=[.agg vs.toArray,.agg #[.int .i64 0,.slice none 0 0,.int .i64 0,.int .i64 0,.slice none 0 0,.slice none 0 0,.slice none 0 0,.slice none 0 0,.slice none 0 0,.slice none 0 0]]) ⟨vs,_,_,rfl,h,rfl,_,_,_,rfl,rp_zstr _ _,rfl,rfl⟩ hg) fun e W' he=>?_
 obtain ⟨rfl,hc,_⟩:=he
 exact ⟨_,rfl,by rw [← noStr_dec]; exact k W' hc⟩
structure CD (A:Pos) (W0:World) (q:Nat) (c:Clm) (x:ClmV) (W:World):Prop where
 same:∀ g o,A g o → W.cell? ⟨g,o,none⟩ = W0.cell? ⟨g,o,none⟩
 base:Base A W
 box:∃ t fr,W.heap[q]? = some (.cells (x.cs c) t fr)
theorem CD.at {A:Pos} {W0 W:World} {q:Nat} {c:Clm} {x:ClmV} (h:CD A W0 q c x W) {k:Nat} {v:Value} (hv:(x.cs c)[k]? = some v):W.cell? ((Addr.mk q 0 none).add k) = some v:=by
 obtain ⟨t,fr,h⟩:=h.box
 rw [cellOf h]; exact hv
theorem byte_of {b:ByteArray} {s:Str} (h:b.data.toList = s):b = ⟨s.toArray⟩:=by
 subst h
 cases b with | mk d=>simp
theorem kinds_ret (w:World):Calls Tryz.prog 46 #[] w fun e w'=>∃ b,e = .returned (Sl.v ⟨some ⟨b,0,none⟩,10,10⟩) ∧ b = w.heap.size ∧ Chg Nil w w' ∧ w'.heap.size = b + 1 ∧
  w'.heap[b]? = some (.cells (kindsL.map fun s=>Value.string ⟨s.toArray⟩).toArray 9 (0,0)):=by
 refine cert_kinds.calls ?_
 unfold cert_kinds.sh
 refine New.mk fun b W1 hb hn hs hc=>?_
 exact ⟨b,rfl,hb,hc,hs,hn⟩
theorem line_get {c:Clm} {i:Nat} {s:ByteArray} (h:((linesC c).map lineS)[i]? = some s.data.toList):((linesC c).map fun l=>((⟨(lineS l).toArray⟩:ByteArray),()))[i]? = some (s,()):=by
 rw [List.getElem?_map,Option.map_eq_some_iff] at h
 obtain ⟨l,h1,h2⟩:=h
 rw [List.getElem?_map,h1]
 exact congrArg (fun b=>some (b,())) (byte_of h2.symm).symm
theorem Seg.cast {xs:List Str} {i j:Nat} {L:Lns} (s:Seg xs i L) (h:i = j):Seg xs j L:=h ▸ s
theorem Ctx.P.cast {S:Ctx} {i j:Nat} {W:World} (s:S.P i W) (h:i = j):S.P j W:=h ▸ s
theorem row1 {a:Int} (h1:In64 a):RowOk [a]:=⟨by show 1 ≤ 20001; decide,fun n hn=>by
 simp only [List.mem_cons,List.not_mem_nil,or_false] at hn
 subst hn; exact h1⟩
theorem str_put (S:Ctx) {A:Pos} {W0:World} (M:Mem S A W0) {s:Strc} {v:StrV} (hv:v.R A W0 s) (hl:Lim NN strT s) (hw:strW s = true) {i:Nat} {W:World} (hp:S.P i W) (hseg:Seg S.xs i (strL s))
  {K:World → Prop} {Kp:List PanicEntry → World → Prop} (k:∀ W',S.P (i + (strL s).length) W' → K W') :
  CallN Tryz.prog 50 #[.func (.func 45) #[] #[ptr S.b3,ptr S.b1],.agg (v.cs s)] [] W (fun _ W'=>K W') Kp:=
 Calls.mono (putStr_ok S M hv hl hw hp hseg) fun e W' he=>by
  obtain ⟨rfl,h1,h2⟩:=he
  exact ⟨(),rfl,k W' h1⟩
theorem pairs_put (S:Ctx) {A:Pos} {W0:World} (M:Mem S A W0) {c:Clm} {x:ClmV} (hv:x.R A W0 c) (hl:Lim NN claimT c) {i:Nat} {W:World} (hp:S.P i W) (hseg:Seg S.xs i (pairsL c))
  {K:World → Prop} {Kp:List PanicEntry → World → Prop} (k:∀ W',S.P (i + (pairsL c).length) W' → K W') :
  CallN Tryz.prog 49 #[.func (.func 45) #[] #[ptr S.b3,ptr S.b1],.agg (x.cs c)] [] W (fun _ W'=>K W') Kp:=
 Calls.mono (putPairs_ok S M hv hl hp hseg) fun e W' he=>by
  obtain ⟨rfl,h1,h2⟩:=he
  exact ⟨(),rfl,k W' h1⟩
theorem lines_gives {A:Pos} {W0:World} {q:Nat} {c:Clm} {x:ClmV} (hv:x.R A W0 c) (hl:Lim NN claimT c) (hw:writable c = true) :
  Gives Tryz.prog 44 #[] #[.pointer (some ⟨q,0,none⟩)] [.sc .str] ((linesC c).map fun l=>((⟨(lineS l).toArray⟩:ByteArray),())) (CD A W0 q c x) DrB KpB (fun _=>True):=by
 intro l J Jx W hCJ hCx hDJ hDx hy h0 _
 have lr:=hl.2.1.2.1
 have nr:c.2.1.2.1.length ≤ 20001:=lr.1
 have lu:c.2.2.1.length ≤ 20001:=hl.2.2.1
 have lv:c.2.2.2.1.length ≤ 20001:=hl.2.2.2.1
 have lg:In64 c.2.1.1:=hl.2.1.1
 have ln:In64 c.2.2.2.2.1:=hl.2.2.2.2.1
 have ld':Lim NN tCs (cDisk c):=hl.2.2.2.2.2.1
 have lm:Lim NN mapT (cMap c):=hl.2.2.2.2.2.2.2.2.2.1
 have ls:Lim NN strT (cStr c):=hl.2.2.2.2.2.2.2.2.2.2.1
 have lmd:In64 (cMap c).2.1:=lm.2.1
 have lmi:=lm.2.2.1
 have nmi:(cMap c).2.2.1.length ≤ 20001:=lmi.1
 have hk1:(1:Int) ≤ c.1 ∧ c.1 ≤ (9:Int) ∧ strW (cStr c) = true:=by
  simp only [writable,Bool.and_eq_true,decide_eq_true_eq] at hw
  exact ⟨hw.1.1.1.1.1.1.1.1.1.1,hw.1.1.1.1.1.1.1.1.1.2,hw.2⟩
 obtain ⟨hk1,hk2,hws⟩:=hk1
 refine cert_lines_c1.calls l ⟨q,0,none⟩ ?_
 unfold cert_lines_c1.sh
 refine New.mk fun b1 W1 hb1 hn1 hs1 hc1=>?_
 refine New.mk fun b3 W2 hb3 hn3 hs3 hc3=>?_
 refine Store1.at (cs:=#[.bool false]) (t:=4) hn3 0 (by simp) (cs':=#[.bool true]) rfl fun W3 h3 hc4 hs4=>?_
 have hcN:Chg Nil W W3:=(hc1.then hc3).trans hc4 (fun _ _ h=>h) fun k hk hkb=>by
  have hkb:k = b3:=hkb
  omega
 have hy1:W3.heap[b1]? = some (.cells #[.func (.yield l) #[] #[]] 52 (0,0)):=hc4.heap (hc3.heap hn1 fun h=>h) fun h=>by
  have h:b1 = b3:=h
  omega
 obtain ⟨S,e1,e2,e3,e4,e5,e6,e7,e8⟩:∃ S:Ctx,S.l = l ∧ S.base = W.heap.size ∧ S.b1 = b1 ∧ S.b3 = b3 ∧ S.C = CD A W0 q c x ∧ S.xs = (linesC c).map lineS ∧ S.J = J ∧ S.Jx = Jx:=
  ⟨⟨l,W.heap.size,b1,b3,CD A W0 q c x,(linesC c).map lineS,J,Jx,⟨hCJ,hCx,hDJ,hDx,fun i s W' hs hj=>hy i (s,()) W' (line_get hs) hj⟩,by omega,by omega⟩,rfl,rfl,rfl,rfl,rfl,rfl,rfl,rfl⟩
 have hp3:S.P 0 W3:=⟨true,by rw [e4]; exact h3,by rw [e3,e1]; exact hy1,.inl ⟨rfl,by rw [e7]; exact hDJ _ _ _ h0 (DrB.new hcN)⟩⟩
 have hCD:∀ {W'},S.C W' → CD A W0 q c x W':=fun {W'} h=>by rw [e5] at h; exact h
 have M:Mem S A W0:=⟨fun W' h=>(hCD h).same,fun W' h=>(hCD h).base⟩
 have fin:∀ W',S.P (linesC c).length W' → (Ending.returned (.tuple #[]) = .returned (.tuple #[]) ∧ (J ((linesC c).map fun l=>((⟨(lineS l).toArray⟩:ByteArray),())).length W' ∨ Jx W')):=fun W' h=>by
  refine ⟨rfl,?_⟩
  rw [List.length_map]
  obtain ⟨on,_,_,h | h⟩:=h
  ·rw [e7] at h; exact .inl h.2
  ·rw [e8] at h; exact .inr h.2
 rw [← e4,← e3]
 clear hy1 h3 hn3 hn1 hs4
 -- the lines
 obtain ⟨LU,hLU⟩:∃ L:Lns,L = (if c.2.2.1 = [] then [] else [[sU,c.2.2.1]]):=⟨_,rfl⟩
 obtain ⟨LV,hLV⟩:∃ L:Lns,L = (if c.2.2.2.1 = [] then [] else [[sV,c.2.2.2.1]]):=⟨_,rfl⟩
 obtain ⟨LN,hLN⟩:∃ L:Lns,L = (if c.2.2.2.2.1 = 0 then [] else [[sN,Go.Lib.itoa c.2.2.2.2.1]]):=⟨_,rfl⟩
 obtain ⟨LS,hLS⟩:∃ L:Lns,L = (if noStr (cStr c) then [] else strL (cStr c)):=⟨_,rfl⟩
 have hL:linesC c = [[sClaim,kindW c.1],[sGens,Go.Lib.itoa c.2.1.1]] ++ (c.2.1.2.1.map (fun r=>[sRel,r]) ++ (LU ++ (LV ++ (LN ++ (cellsL sCell (cDisk c) ++ (pairsL c ++ (mapL (cMap c) ++ (LS ++ [[sDone]])))))))):=by
  unfold linesC frontL pairsL
  rw [hLU,hLV,hLN,hLS]
  simp only [List.append_assoc,List.cons_append,List.nil_append]
  rfl
 have hseg:Seg S.xs 0 (linesC c):=fun j s hs=>by rw [e6,Nat.zero_add]; exact hs
 rw [hL] at hseg
 obtain ⟨sg1,sg2⟩:=hseg.app
 obtain ⟨sg2,sg3⟩:=sg2.app
 obtain ⟨sg3,sg4⟩:=sg3.app
 obtain ⟨sg4,sg5⟩:=sg4.app
 obtain ⟨sg5,sg6⟩:=sg5.app
 obtain ⟨sg6,sg7⟩:=sg6.app
 obtain ⟨sg7,sg8⟩:=sg7.app
 obtain ⟨sg8,sg9⟩:=sg8.app
 obtain ⟨sg9,sg10⟩:=sg9.app
 have hlen:(linesC c).length = 0 + 2 + c.2.1.2.1.length + LU.length + LV.length + LN.length + (cDisk c).length + (pairsL c).length + (mapL (cMap c)).length + LS.length + 1:=by
  rw [hL]
  unfold cellsL
  simp only [List.length_append,List.length_map,List.length_cons,List.length_nil]; omega
 have hcl:(cellsL sCell (cDisk c)).length = (cDisk c).length:=by unfold cellsL; rw [List.length_map]
 rw [hcl] at sg7 sg8 sg9 sg10
 simp only [List.length_map,List.length_cons,List.length_nil] at sg2 sg3 sg4 sg5 sg6 sg7 sg8 sg9 sg10
 -- the kind
 have hd:Chg Nil W3 W3.drew:=Chg.drew W3
 have hpd:=hp3.nil hd
 have kd:∀ {W'},Chg Nil W3.drew W' → W'.cell? ((Addr.mk q 0 none).add 0) = some (.int .i64 c.1):=fun {W'} h=>(hCD (hpd.nil h).c).at (k:=0) rfl
 refine ⟨fun W'=>Chg Nil W3.drew W',Chg.refl _,?_⟩
 refine LoadS.sc (s:=.int .i64) (x:=c.1) (fun W' h=>kd h) ?_
 refine Calls.mono (kinds_ret W3.drew) fun e W4 he=>?_
 obtain ⟨b,rfl,hbs,hc5,hs5,hn5⟩:=he
 refine ⟨⟨some ⟨b,0,none⟩,10,10⟩,rfl,?_⟩
 refine ⟨fun W'=>Chg Nil W4 W',fun W' h=>hc5.then h,Chg.refl _,?_⟩
 have aux:∀ k:Int,1 ≤ k → k ≤ 9 → k.toNat < 10 ∧ k = ((k.toNat:Nat):Int):=fun k h1 h2=>by omega
 obtain ⟨hkN,hkE⟩:=aux _ hk1 hk2
 have hkg:=kindW_get hk1 hk2
 refine Idx.mk (Int.toNat c.1) hkE hkN ?_
 refine LoadS.sc (s:=.str) (x:=⟨(kindW c.1).toArray⟩) (fun W' h=>?_) ?_
 ·have h5:=h.heap hn5 fun h=>h
  rw [mk_add,Nat.zero_add,Nat.mul_one]
  have hget:((kindsL.map fun s=>Value.string ⟨s.toArray⟩).toArray)[c.1.toNat]? = some (.string ⟨(kindW c.1).toArray⟩):=by
   rw [List.getElem?_toArray,List.getElem?_map,hkg]; rfl
  have:=cellOf h5 (k:=c.1.toNat)
  rw [mk_add,Nat.zero_add] at this
  rw [this]; exact hget
 have hkl:=kindW_len hk1 hk2
 refine ⟨by show ((6 + (ByteArray.mk (kindW c.1).toArray).size:Nat):Int) ≤ _; rw [size_of (s:=kindW c.1) rfl]; omega,?_⟩
 have hp4:=hpd.nil hc5
 have x1:=sg1.at (j:=0) (l:=[sClaim,kindW c.1]) rfl
 refine S.put hp4 (by rw [x1,app_data,lineTwo]; simp) fun W5 hp5 _=>?_
 have ld:∀ {i W'},S.P i W' → ∀ {k:Nat} {v:Value},(x.cs c)[k]? = some v → W'.cell? ((Addr.mk q 0 none).add k) = some v:=fun h _ _ hv=>(hCD h.c).at hv
 have hB:∀ {i W'},S.P i W' → Base A W':=fun h=>(hCD h.c).base
 refine LoadT.sc (s:=.int .i64) (x:=c.2.1.1) (ld hp5 (k:=1) rfl) ?_
 refine New.mk fun b5 W6 hb5 hn6 hs6 hc6=>?_
 have hp6:=hp5.nil hc6
 refine S.num hp6 (hB hp6).g (h:=sGens) rfl (by decide) (rp_new (l:=[c.2.1.1]) hn6 rfl (by show 1 ≤ 20001; decide)) (row1 lg) (sg1.at (j:=1) rfl) fun W7 hp7 _=>?_
 have hp7:S.P 2 W7:=hp7
 have sg2:Seg S.xs 2 (c.2.1.2.1.map (fun r=>[sRel,r])):=sg2
 -- the relators
 refine LoadT.sc (s:=.sl) (x:=x.r) (ld hp7 (k:=2) rfl) ?_
 have hn:x.r.n = c.2.1.2.1.length:=rl_len hv.r
 refine LoopT.mk (fun y W'=>∃ j:Nat,y = ((Addr.mk q 0 none),((⟨S.b3,0,none⟩:Addr),(⟨S.b1,0,none⟩:Addr),()),x.r,((x.r.n:Nat):Int),(j:Int),()) ∧ j ≤ c.2.1.2.1.length ∧ S.P (2 + j) W') (fun y _=>c.2.1.2.1.length - y.2.2.2.2.1.toNat) ⟨0,rfl,Nat.zero_le _,hp7⟩ ?_
 rintro y g W8 ⟨j,rfl,hj,hp8⟩
 dsimp only
 refine Br.dec (fun hlt=>?_) (fun hge=>?_)
 ·have hlt:j < c.2.1.2.1.length:=by omega
  obtain ⟨w,hq⟩:∃ w,w = c.2.1.2.1[j]:=⟨_,rfl⟩
  have hg:c.2.1.2.1[j]? = some w:=by rw [hq]; exact List.getElem?_eq_getElem hlt
  have hm:w ∈ c.2.1.2.1:=by rw [hq]; exact List.getElem_mem hlt
  obtain ⟨g0,o,us,ha,⟨wb,rfl,hwb,_⟩,hcell⟩:=M.get hv.r hg
  have hwb:wb.data.toList = w:=hwb
  have hql:w.length ≤ 20001:=lr.2 w hm
  have hw':=wrap1 hlt (by omega)
  rw [ha]
  refine Idx.mk j rfl (by omega) ?_
  refine LoadT.sc (s:=.str) (x:=wb) (hcell W8 hp8.c 0 _ rfl) ?_
  refine ⟨by rw [size_of hwb]; show ((4 + w.length:Nat):Int) ≤ _; omega,?_⟩
  refine S.put hp8 (by rw [sg2.at (l:=[sRel,w]) (by rw [List.getElem?_map,hg]; rfl),app_data,hwb,lineTwo]; simp) fun W9 hp9 _=>?_
  refine ⟨⟨j + 1,by rw [hw'],hlt,by rw [← Nat.add_assoc]; exact hp9⟩,?_⟩
  show c.2.1.2.1.length - (IntKind.wrap .i64 ((j:Int) + 1)).toNat < c.2.1.2.1.length - (j:Int).toNat
  rw [hw']; omega
 have hjl:j = c.2.1.2.1.length:=by omega
 clear hge hj
 obtain ⟨i3,hi3⟩:∃ i3,i3 = 2 + c.2.1.2.1.length:=⟨_,rfl⟩
 have hp8:S.P i3 W8:=hp8.cast (by omega)
 have sg3:=sg3.cast (j:=i3) (by omega)
 -- u
 refine Join.by' (fun y W'=>y = ((Addr.mk q 0 none),((⟨S.b3,0,none⟩:Addr),(⟨S.b1,0,none⟩:Addr),()),()) ∧ S.P (i3 + LU.length) W') (fun y W9 g hy=>?_) (fun JJ hJ=>?_)
 rotate_left
 ·refine LoadT.sc (s:=.str) (x:=x.u) (ld hp8 (k:=3) rfl) ?_
  rw [bytes_nil hv.u]
  refine Br.mk (fun hc=>?_) (fun hc=>?_)
  ·have hc:¬ c.2.2.1 = []:=by simpa using hc
   rw [if_neg hc] at hLU
   refine LoadT.sc (s:=.str) (x:=x.u) (ld hp8 (k:=3) rfl) ?_
   refine ⟨by rw [size_of hv.u]; show ((2 + c.2.2.1.length:Nat):Int) ≤ _; omega,?_⟩
   have e1:=sg3.at (j:=0) (l:=[sU,c.2.2.1]) (by rw [hLU]; rfl)
   rw [Nat.add_zero] at e1
   refine S.put hp8 (by rw [e1,app_data,hv.u,lineTwo]; simp) fun W9 hp9 _=>?_
   exact hJ _ _ ⟨rfl,by rw [hLU]; exact hp9⟩
  ·have hc:c.2.2.1 = []:=by simpa using hc
   rw [if_pos hc] at hLU
   exact hJ _ _ ⟨rfl,by rw [hLU]; exact hp8⟩
 obtain ⟨rfl,hp9⟩:=hy
 dsimp only
 obtain ⟨i4,hi4⟩:∃ i4,i4 = i3 + LU.length:=⟨_,rfl⟩
 rw [← hi4] at hp9
 have sg4:=sg4.cast (j:=i4) (by omega)
 -- v
 refine Join.by' (fun y W'=>y = ((Addr.mk q 0 none),((⟨S.b3,0,none⟩:Addr),(⟨S.b1,0,none⟩:Addr),()),()) ∧ S.P (i4 + LV.length) W') (fun y W10 g hy=>?_) (fun JJ hJ=>?_)
 rotate_left
 ·refine LoadT.sc (s:=.str) (x:=x.v) (ld hp9 (k:=4) rfl) ?_
  rw [bytes_nil hv.v]
  refine Br.mk (fun hc=>?_) (fun hc=>?_)
  ·have hc:¬ c.2.2.2.1 = []:=by simpa using hc
   rw [if_neg hc] at hLV
   refine LoadT.sc (s:=.str) (x:=x.v) (ld hp9 (k:=4) rfl) ?_
   refine ⟨by rw [size_of hv.v]; show ((2 + c.2.2.2.1.length:Nat):Int) ≤ _; omega,?_⟩
   have e1:=sg4.at (j:=0) (l:=[sV,c.2.2.2.1]) (by rw [hLV]; rfl)
   rw [Nat.add_zero] at e1
   refine S.put hp9 (by rw [e1,app_data,hv.v,lineTwo]; simp) fun W10 hp10 _=>?_
   exact hJ _ _ ⟨rfl,by rw [hLV]; exact hp10⟩
  ·have hc:c.2.2.2.1 = []:=by simpa using hc
   rw [if_pos hc] at hLV
   exact hJ _ _ ⟨rfl,by rw [hLV]; exact hp9⟩
 obtain ⟨rfl,hp10⟩:=hy
 dsimp only
 obtain ⟨i5,hi5⟩:∃ i5,i5 = i4 + LV.length:=⟨_,rfl⟩
 rw [← hi5] at hp10
 have sg5:=sg5.cast (j:=i5) (by omega)
 -- n
 refine Join.by' (fun y W'=>y = ((Addr.mk q 0 none),((⟨S.b3,0,none⟩:Addr),(⟨S.b1,0,none⟩:Addr),()),()) ∧ S.P (i5 + LN.length) W') (fun y W11 g hy=>?_) (fun JJ hJ=>?_)
 rotate_left
 ·refine LoadT.sc (s:=.int .i64) (x:=c.2.2.2.2.1) (ld hp10 (k:=5) rfl) ?_
  refine Br.mk (fun hc=>?_) (fun hc=>?_)
  ·have hc:¬ c.2.2.2.2.1 = 0:=by simpa using hc
   rw [if_neg hc] at hLN
   refine LoadT.sc (s:=.int .i64) (x:=c.2.2.2.2.1) (ld hp10 (k:=5) rfl) ?_
   refine New.mk fun b7 W11 hb7 hn7 hs7 hc7=>?_
   have hp11:=hp10.nil hc7
   refine S.num hp11 (hB hp11).g (h:=sN) rfl (by decide) (rp_new (l:=[c.2.2.2.2.1]) hn7 rfl (by show 1 ≤ 20001; decide)) (row1 ln) (sg5.at (j:=0) (by rw [hLN]; rfl)) fun W12 hp12 _=>?_
   exact hJ _ _ ⟨rfl,by rw [hLN]; exact hp12⟩
  ·have hc:c.2.2.2.2.1 = 0:=by simpa using hc
   rw [if_pos hc] at hLN
   exact hJ _ _ ⟨rfl,by rw [hLN]; exact hp10⟩
 obtain ⟨rfl,hp11⟩:=hy
 dsimp only
 obtain ⟨i6,hi6⟩:∃ i6,i6 = i5 + LN.length:=⟨_,rfl⟩
 rw [← hi6] at hp11
 have sg6:=sg6.cast (j:=i6) (by omega)
 -- the disk
 refine LoadT.sc (s:=.sl) (x:=x.d) (ld hp11 (k:=6) rfl) ?_
 refine S.cells (A:=A) (d:=cDisk c) (sl:=x.d) (fun W hW=>⟨M.rp hv.d hW,M.base W hW⟩) (h:=sCell) rfl (by decide) (cellsOk ld') ld'.1 hp11 sg6 fun W12 hp12 _=>?_
 obtain ⟨i7,hi7⟩:∃ i7,i7 = i6 + (cDisk c).length:=⟨_,rfl⟩
 rw [← hi7] at hp12
 have sg7:=sg7.cast (j:=i7) (by omega)
 -- the pairs
 refine LoadT.mk (.agg [.int .i64,.int .i64,.sl,.str,.str,.int .i64,.sl,.str,.sl,.int .i64,.int .i64,.sl,.sl,.sl,.int .i64,.sl,.int .i64,.sl,.int .i64,.sl,.int .i64,.int .i64,.sl,.sl,.sl,.sl,.sl,.sl])
  (x:=(c.1,c.2.1.1,x.r,x.u,x.v,c.2.2.2.2.1,x.d,x.cj,x.ring,(cSep c).1,(cSep c).2.1,x.si,x.sp,x.im,(cMap c).1.1,x.mr,(cMap c).2.1,x.mi,(cStr c).1.1,x.s.r,(cStr c).2.1.1,(cStr c).2.1.2.1,x.s.acc,x.s.nx,x.s.mu,x.s.df,x.s.st,x.s.en,())) (fun k u hu=>ld hp12 (by rw [← Array.getElem?_toList]; exact hu)) ?_
 refine pairs_put S M hv hl hp12 sg7 fun W13 hp13=>?_
 obtain ⟨i8,hi8⟩:∃ i8,i8 = i7 + (pairsL c).length:=⟨_,rfl⟩
 rw [← hi8] at hp13
 have sg8:=sg8.cast (j:=i8) (by omega)
 obtain ⟨LM,hLM⟩:∃ L:Lns,L = mapL (cMap c):=⟨_,rfl⟩
 rw [← hLM] at sg8 sg9 sg10 hlen
 unfold mapL at hLM
 -- the map
 refine Join.by' (fun y W'=>y = ((Addr.mk q 0 none),((⟨S.b3,0,none⟩:Addr),(⟨S.b1,0,none⟩:Addr),()),()) ∧ S.P (i8 + LM.length) W') (fun y W14 g hy=>?_) (fun JJ hJ=>?_)
 rotate_left
 ·refine LoadT.mk (.agg [.int .i64,.sl,.int .i64,.sl]) (x:=((cMap c).1.1,x.mr,(cMap c).2.1,x.mi,())) (fun k u hu=>?_) ?_
  ·have:(x.cs c)[14 + k]? = some u:=by
    rcases k with _ | _ | _ | _ | k
    ·simpa [Ty.cells,vals,ClmV.cs] using hu
    ·simpa [Ty.cells,vals,ClmV.cs] using hu
    ·simpa [Ty.cells,vals,ClmV.cs] using hu
    ·simpa [Ty.cells,vals,ClmV.cs] using hu
    ·simp [Ty.cells,vals] at hu
   have h:=ld hp13 this
   rw [mk_add,← Nat.add_assoc] at h
   rw [mk_add,mk_add]
   exact h
  refine map_call (hB hp13).g lm (vs:=[.int .i64 (cMap c).1.1,x.mr.v,.int .i64 (cMap c).2.1,x.mi.v]) (rp_all (hB hp13).low (M.rp (rp_map hv.mr hv.mi) hp13.c)) fun W14 hc14=>?_
  have hp14:=hp13.nil hc14
  refine Br.mk (fun hc=>?_) (fun hc=>?_)
  ·have hc:noMap (cMap c) = false:=by simpa using hc
   rw [hc] at hLM
   have hLM:LM = [sDegree,Go.Lib.itoa (cMap c).2.1] :: (cMap c).2.2.1.map (fun l=>sPoint :: itoas l):=hLM
   refine LoadT.sc (s:=.int .i64) (x:=(cMap c).2.1) (ld hp14 (k:=16) rfl) ?_
   refine New.mk fun b8 W15 hb8 hn8 hs8 hc8=>?_
   have hp15:=hp14.nil hc8
   refine S.num hp15 (hB hp15).g (h:=sDegree) rfl (by decide) (rp_new (l:=[(cMap c).2.1]) hn8 rfl (by show 1 ≤ 20001; decide)) (row1 lmd) (sg8.at (j:=0) (by rw [hLM]; rfl)) fun W16 hp16 _=>?_
   refine LoadT.sc (s:=.sl) (x:=x.mi) (ld hp16 (k:=17) rfl) ?_
   have hn:x.mi.n = (cMap c).2.2.1.length:=rl_len hv.mi
   refine LoopT.mk (fun y W'=>∃ j:Nat,y = ((Addr.mk q 0 none),((⟨S.b3,0,none⟩:Addr),(⟨S.b1,0,none⟩:Addr),()),x.mi,((x.mi.n:Nat):Int),(j:Int),()) ∧ j ≤ (cMap c).2.2.1.length ∧ S.P (i8 + 1 + j) W') (fun y _=>(cMap c).2.2.1.length - y.2.2.2.2.1.toNat) ⟨0,rfl,Nat.zero_le _,hp16⟩ ?_
   rintro y g W17 ⟨j,rfl,hj,hp17⟩
   dsimp only
   refine Br.dec (fun hlt=>?_) (fun hge=>?_)
   ·have hlt:j < (cMap c).2.2.1.length:=by omega
    obtain ⟨w,hq⟩:∃ w,w = (cMap c).2.2.1[j]:=⟨_,rfl⟩
    have hg:(cMap c).2.2.1[j]? = some w:=by rw [hq]; exact List.getElem?_eq_getElem hlt
    have hm:w ∈ (cMap c).2.2.1:=by rw [hq]; exact List.getElem_mem hlt
    obtain ⟨g0,o,us,ha,hr,hcell⟩:=M.get hv.mi hg
    obtain ⟨s1,rfl,r1⟩:=rp_list hr
    have hw':=wrap1 hlt (by omega)
    rw [ha]
    refine Idx.mk j rfl (by omega) ?_
    refine LoadT.sc (s:=.sl) (x:=s1) (hcell W17 hp17.c 0 _ rfl) ?_
    refine S.num hp17 (hB hp17).g (h:=sPoint) rfl (by decide) (rp_all (hB hp17).low (M.rp r1 hp17.c)) ⟨(lmi.2 w hm).1,(lmi.2 w hm).2⟩ (by
     have:=sg8.at (j:=j + 1) (l:=sPoint :: itoas w) (by rw [hLM,List.getElem?_cons_succ,List.getElem?_map,hg]; rfl)
     rwa [show i8 + 1 + j = i8 + (j + 1) by omega]) fun W18 hp18 _=>?_
    refine ⟨⟨j + 1,by rw [hw'],hlt,by rw [← Nat.add_assoc]; exact hp18⟩,?_⟩
    show (cMap c).2.2.1.length - (IntKind.wrap .i64 ((j:Int) + 1)).toNat < (cMap c).2.2.1.length - (j:Int).toNat
    rw [hw']; omega
   have hjl:j = (cMap c).2.2.1.length:=by omega
   have hll:LM.length = 1 + (cMap c).2.2.1.length:=by rw [hLM,List.length_cons,List.length_map]; omega
   exact hJ _ _ ⟨rfl,hp17.cast (by omega)⟩
  ·have hc:noMap (cMap c) = true:=by simpa using hc
   rw [hc] at hLM
   have hLM:LM = []:=hLM
   exact hJ _ _ ⟨rfl,by rw [hLM]; exact hp14⟩
 obtain ⟨rfl,hp14⟩:=hy
 dsimp only
 obtain ⟨i9,hi9⟩:∃ i9,i9 = i8 + LM.length:=⟨_,rfl⟩
 rw [← hi9] at hp14
 have sg9:=sg9.cast (j:=i9) (by omega)
 -- the structure
 have hst:∀ {i W'},S.P i W' → ∀ (k:Nat) u,((Ty.agg [.int .i64,.sl,.int .i64,.int .i64,.sl,.sl,.sl,.sl,.sl,.sl]).cells ((cStr c).1.1,x.s.r,(cStr c).2.1.1,(cStr c).2.1.2.1,x.s.acc,x.s.nx,x.s.mu,x.s.df,x.s.st,x.s.en,()))[k]? = some u → W'.cell? (((Addr.mk q 0 none).add 18).add k) = some u:=fun {i W'} hp k u hu=>by
  have:(x.cs c)[18 + k]? = some u:=by
   rcases k with _ | _ | _ | _ | _ | _ | _ | _ | _ | _ | k
   all_goals first | (simp [Ty.cells,vals] at hu; done) | (simpa [Ty.cells,vals,ClmV.cs] using hu)
  have h:=ld hp this
  rw [mk_add,← Nat.add_assoc] at h
  rw [mk_add,mk_add]
  exact h
 refine LoadT.mk (.agg [.int .i64,.sl,.int .i64,.int .i64,.sl,.sl,.sl,.sl,.sl,.sl]) (x:=((cStr c).1.1,x.s.r,(cStr c).2.1.1,(cStr c).2.1.2.1,x.s.acc,x.s.nx,x.s.mu,x.s.df,x.s.st,x.s.en,())) (hst hp14) ?_
 refine str_call (hB hp14).g ls (vs:=(x.s.cs (cStr c)).toList) (rp_all (hB hp14).low (M.rp (rp_str' hv.s) hp14.c)) fun W15 hc15=>?_
 have hp15:=hp14.nil hc15
 refine Br.mk (fun hc=>?_) (fun hc=>?_)
 ·have hc:noStr (cStr c) = false:=by simpa using hc
  rw [hc] at hLS
  have hLS:LS = strL (cStr c):=hLS
  refine LoadT.mk (.agg [.int .i64,.sl,.int .i64,.int .i64,.sl,.sl,.sl,.sl,.sl,.sl]) (x:=((cStr c).1.1,x.s.r,(cStr c).2.1.1,(cStr c).2.1.2.1,x.s.acc,x.s.nx,x.s.mu,x.s.df,x.s.st,x.s.en,())) (hst hp15) ?_
  refine str_put S M hv.s ls hws hp15 (by rw [← hLS]; exact sg9) fun W16 hp16=>?_
  rw [← hLS] at hp16
  have sg10:=sg10.cast (j:=i9 + LS.length) (by omega)
  refine S.put hp16 (by have:=sg10.at (j:=0) (l:=[sDone]) rfl; rw [Nat.add_zero] at this; rw [this]; rfl) fun W17 hp17 _=>?_
  exact fin _ (hp17.cast (by omega))
 ·have hc:noStr (cStr c) = true:=by simpa using hc
  rw [hc] at hLS
  have hLS:LS = []:=hLS
  rw [hLS] at sg10
  have sg10:=sg10.cast (j:=i9) (by simp only [List.length_nil]; omega)
  refine S.put hp15 (by have:=sg10.at (j:=0) (l:=[sDone]) rfl; rw [Nat.add_zero] at this; rw [this]; rfl) fun W17 hp17 _=>?_
  exact fin _ (hp17.cast (by rw [hlen,hLS]; simp only [List.length_nil]; omega))
end Go.Proofs.YtpifnlfmojfgpaaGreatDoor.Pk
end
section
set_option maxRecDepth 10000
set_option maxHeartbeats 400000
namespace Go.Proofs.YtpifnlfmojfgpaaGreatDoor.Rk
open Fw Pw Ct Pk
noncomputable def a139:FAnn where
 loops:=fun | 8=>[.kv 0,.kv 1,.sl 5 (.pv (.int .i64)),.kv 6,.sl 8 (.pv (.int .i64)),.mem 0 0 rdA] | _=>[]
 joins:=fun | 3=>some [.kv 0,.kv 1,.kv 5,.sl 6 (.pv (.bool)),.mem 0 0 rdA] | 6=>some [.kv 0,.kv 1,.kv 5,.kv 6,.sl 7 (.pv (.int .i64)),.mem 0 0 rdA] | 7=>some [.kv 0,.kv 1,.kv 5,.kv 6,.kv 7,.mem 0 0 rdA] | 10=>some [.kv 0,.kv 1,.kv 5,.kv 6,.kv 8,.mem 0 0 rdA] | 11=>some [.kv 0,.kv 1,.kv 5,.kv 6,.kv 8,.mem 0 0 rdA] | 13=>some [.kv 0,.kv 1,.kv 5,.kv 6,.kv 8,.kv 9,.mem 0 0 rdA] | 14=>some [.kv 0,.kv 1,.sl 5 (.pv (.int .i64)),.kv 6,.mem 0 0 rdA] | 16=>some [.kv 0,.kv 1,.sl 5 (.pv (.int .i64)),.mem 0 0 rdA] | _=>none
def sg139:Sig:=⟨[.box rdA,sA],[.box rdA,.any],[iA]⟩
def spell (l:Str):Nat:=l.foldl (fun a c=>10 * a + (c.toNat - 48)) 0
theorem spell_snoc (l:Str) (c:UInt8):spell (l ++ [c]) = 10 * spell l + (c.toNat - 48):=by simp [spell]
theorem spell_le (l r:Str):spell l ≤ spell (l ++ r):=by
 have:∀ (r:Str) (a b:Nat),a ≤ b → a ≤ r.foldl (fun a c=>10 * a + (c.toNat - 48)) b:=by
  intro r
  induction r with
  | nil=>intro a b h; exact h
  | cons c r ih=>intro a b h; exact ih a (10 * b + (c.toNat - 48)) (Nat.le_trans h (by omega))
 unfold spell
 rw [List.foldl_append]
 exact this r _ _ (Nat.le_refl _)
theorem spell_dec (u:Nat):spell (Go.Lib.decDigits u) = u:=by
 induction u using Nat.strongRecOn with
 | _ u ih=>
  by_cases hu:u < 10
  ·rw [Go.Lib.decDigits,dif_pos hu]
   show 10 * 0 + ((UInt8.ofNat (48 + u)).toNat - 48) = u
   rw [digit_toNat u hu]; omega
  ·rw [Go.Lib.decDigits,dif_neg hu,spell_snoc,ih (u / 10) (by omega),digit_toNat _ (by omega)]
   omega
def minusF (s:Str):Bool:=s.head? == some 45
def fromF (s:Str):Nat:=if minusF s then 1 else 0
structure NumV (s:Str) (v:Int):Prop where
 mi:minusF s = decide (v < 0)
 ds:s.drop (fromF s) = Go.Lib.decDigits v.natAbs
 le:v.natAbs ≤ 9223372036854775808
 pos:minusF s = false → v.natAbs ≤ 9223372036854775807
 it:Go.Lib.itoa v = s
 in64:In64 v
theorem num_valid {s:Str} {v:Int} (h:numS s = some v):NumV s v:=by
 obtain ⟨_,h1,h2⟩:=numS_spec h
 have h3:=h2
 obtain ⟨h4,h5⟩:=h2
 unfold Go.Lib.itoa at h1
 by_cases hv:v < 0
 ·rw [if_pos hv] at h1
  have hm:minusF s = true:=by rw [← h1]; rfl
  exact ⟨by rw [hm]; simp [hv],by rw [fromF,hm,← h1]; rfl,by omega,fun h=>(by rw [hm] at h; cases h),by unfold Go.Lib.itoa; rw [if_pos hv]; exact h1,h3⟩
 ·rw [if_neg hv] at h1
  obtain ⟨hne,hd⟩:=dec_digs v.toNat
  have hm:minusF s = false:=by
   rw [← h1]
   cases hl:Go.Lib.decDigits v.toNat with
   | nil=>exact absurd hl hne
   | cons c r=>
    have hc:=hd c (by rw [hl]; simp)
    unfold isDig at hc
    have:c ≠ 45:=fun he=>by rw [he] at hc; exact absurd hc.1 (by decide)
    simp [minusF,this]
  have hn:v.toNat = v.natAbs:=by omega
  exact ⟨by rw [hm]; simp [hv],by rw [fromF,hm,← h1,hn]; rfl,by omega,fun _=>by omega,by unfold Go.Lib.itoa; rw [if_neg hv]; exact h1,h3⟩
structure StepV (s:Str) (i:Nat) (c:UInt8) (n:Int):Prop where
 dig:48 ≤ (c.toNat:Int) ∧ (c.toNat:Int) ≤ 57
 ok:n > -922337203685477580 ∨ (n = -922337203685477580 ∧ ((c.toNat:Int) - 48 ≤ 7 ∨ (minusF s = true ∧ (c.toNat:Int) - 48 = 8)))
 next:IntKind.wrap .i64 (IntKind.wrap .i64 (10 * n) - IntKind.wrap .i64 ((c.toNat:Int) - 48)) = -((spell ((s.drop (fromF s)).take (i + 1 - fromF s)):Nat):Int)
theorem step_valid {s:Str} {v:Int} (hv:NumV s v) {i:Nat} (hf:fromF s ≤ i) {c:UInt8} (hc:s[i]? = some c) {n:Int} (hn:n = -((spell ((s.drop (fromF s)).take (i - fromF s)):Nat):Int)):StepV s i c n:=by
 have hget:(s.drop (fromF s))[i - fromF s]? = some c:=by rw [List.getElem?_drop,show fromF s + (i - fromF s) = i by omega]; exact hc
 have hmem:c ∈ s.drop (fromF s):=List.mem_of_getElem? hget
 have hdig:isDig c:=by rw [hv.ds] at hmem; exact (dec_digs _).2 c hmem
 have hs:spell ((s.drop (fromF s)).take (i + 1 - fromF s)) = 10 * spell ((s.drop (fromF s)).take (i - fromF s)) + (c.toNat - 48):=by
  rw [show i + 1 - fromF s = (i - fromF s) + 1 by omega,List.take_add_one,hget]
  exact spell_snoc _ c
 have hle:spell ((s.drop (fromF s)).take (i + 1 - fromF s)) ≤ v.natAbs:=by
  have h1:=spell_le ((s.drop (fromF s)).take (i + 1 - fromF s)) ((s.drop (fromF s)).drop (i + 1 - fromF s))
  rw [List.take_append_drop] at h1
  have h2:spell (s.drop (fromF s)) = v.natAbs:=by rw [hv.ds,spell_dec]
  omega
 have hb:=hv.le
 have hp:=hv.pos
 unfold isDig at hdig
 refine ⟨by omega,?_,?_⟩
 ·cases hm:minusF s with
  | true=>simp only [true_and]; omega
  | false=>have:=hp hm; simp only [Bool.false_eq_true,false_and,or_false]; omega
 ·rw [Fw.wrap64 (x:=10 * n) (by omega) (by omega),Fw.wrap64 (x:=(c.toNat:Int) - 48) (by omega) (by omega),Fw.wrap64 (by omega) (by omega)]
  omega
theorem wrap_in (n:Int):In64 (IntKind.wrap .i64 n):=by
 unfold In64
 rw [IntKind.wrap_i64]
 omega
theorem fits {s:Str} {v:Int} (hv:NumV s v):fromF s < s.length ∧ s.length ≤ fromF s + 19:=by
 have h1:(s.drop (fromF s)).length = s.length - fromF s:=List.length_drop
 rw [hv.ds] at h1
 have h2:=dec_len20 hv.le
 have h3:0 < (Go.Lib.decDigits v.natAbs).length:=List.length_pos_iff.2 (dec_digs _).1
 omega
structure NumOk (s:Str) (ok:Bool) (y:Int) (ok':Bool):Prop where
 in64:In64 y
 is:ok = true → ∀ v,numS s = some v → ok' = true ∧ y = v
theorem byte_eq (c:UInt8):(some c == some 45) = ((c.toNat:Int) == 45):=by
 rw [Bool.eq_iff_iff]
 simp only [beq_iff_eq,Option.some.injEq]
 exact ⟨fun h=>by rw [h]; rfl,fun h=>UInt8.toNat_inj.1 (by show c.toNat = 45; omega)⟩
theorem dig_bool {s:Str} {i:Nat} {c:UInt8} {n:Int} (h:StepV s i c n):decide ((c.toNat:Int) ≥ 48) = true ∧ decide ((c.toNat:Int) ≤ 57) = true:=⟨decide_eq_true h.dig.1,decide_eq_true h.dig.2⟩
theorem number_pc (L:Lns) (a:Nat) (ok:Bool) (s:Str) (hs:s.length ≤ NN):PC Tryz.prog 139 sg139 (rd L a ok,s,()) (fun y z=>∃ ok',z.1 = rd L a ok' ∧ NumOk s ok y.1 ok') (fun _=>False):=by
 refine PC.of a139 [(89,sg89),(103,sg103)] (by kernel_rfl) ?_
 have hNN:s.length ≤ 20001:=hs
 -- minus
 refine JoinP.mk (fun x=>x = (minusF s,rd L a ok,())) ?_ ?_
 rotate_left
 ·refine LenL.mk fun _=>?_
  refine BrP.mk' (fun h=>?_) (fun h=>?_)
  ·have h:(s.length:Int) > 0:=of_decide_eq_true h
   have hex:∃ c r,s = c :: r:=by
    cases s with
    | nil=>exact absurd h (by simp)
    | cons c r=>exact ⟨c,r,rfl⟩
   obtain ⟨c,r,hcr⟩:=hex
   refine GetL.is 0 (x:=c) rfl (by rw [hcr]; rfl) ?_
   repeat refine SameV.mk rfl ?_
   have hm:minusF s = ((c.toNat:Int) == 45):=by
    rw [hcr]
    exact byte_eq c
   rw [hm]; rfl
  ·have h:¬ (s.length:Int) > 0:=of_decide_eq_false h
   have hnil:s = []:=by
    cases s with
    | nil=>rfl
    | cons c r=>exact absurd (show ((c :: r).length:Int) > 0 by rw [List.length_cons]; omega) h
   repeat refine SameV.mk rfl ?_
   have hm:minusF s = false:=by rw [hnil]; rfl
   rw [hm]; rfl
 rintro x rfl
 -- from
 refine JoinP.mk (fun x=>x = ((fromF s:Int),rd L a ok,())) ?_ ?_
 rotate_left
 ·refine BrP.mk' (fun h=>?_) (fun h=>?_)
  ·have h:minusF s = true:=h
   repeat refine SameV.mk rfl ?_
   have hm:((fromF s:Nat):Int) = 1:=by unfold fromF; rw [h]; rfl
   rw [hm]; rfl
  ·have h:minusF s = false:=h
   repeat refine SameV.mk rfl ?_
   have hm:((fromF s:Nat):Int) = 0:=by unfold fromF; rw [h]; rfl
   rw [hm]; rfl
 rintro x rfl
 have hfl:fromF s ≤ 1:=by unfold fromF; split <;> omega
 -- the length
 refine JoinP.mk (fun x=>∃ ok1,x = (rd L a ok1,()) ∧ (ok = true → ∀ v,numS s = some v → ok1 = true)) ?_ ?_
 rotate_left
 ·refine LenL.mk fun _=>?_
  refine BrP.mk' (fun h=>?_) (fun h=>?_)
  ·refine LenL.mk fun _=>?_
   refine CallP.mk _ _ (rmust_pc L a ok _) ?_ (fun p h=>h.elim)
   rintro y ⟨z,_⟩ hz
   have hz:z = _:=hz
   subst hz
   repeat refine SameV.mk rfl ?_
   refine ⟨_,rfl,fun hok v hv=>?_⟩
   have hf:=fits (num_valid hv)
   have hw:IntKind.wrap .i64 ((fromF s:Int) + 19) = ((fromF s + 19:Nat):Int):=Fw.wrap64 (by omega) (by omega)
   show (ok && decide ((s.length:Int) ≤ IntKind.wrap .i64 ((fromF s:Int) + 19))) = true
   rw [hok,hw,Bool.true_and]
   exact decide_eq_true (by omega)
  ·have h:¬ (s.length:Int) > (fromF s:Int):=of_decide_eq_false h
   refine CallP.mk _ _ (rmust_pc L a ok false) ?_ (fun p h=>h.elim)
   rintro y ⟨z,_⟩ hz
   have hz:z = _:=hz
   subst hz
   repeat refine SameV.mk rfl ?_
   refine ⟨_,rfl,fun hok v hv=>?_⟩
   have hf:=fits (num_valid hv)
   exact absurd (show (s.length:Int) > (fromF s:Int) by omega) h
 rintro x ⟨ok1,rfl,h1⟩
 refine JoinP.mk (fun x=>∃ (n:Int) (ok':Bool),x = (n,rd L a ok',()) ∧ In64 n ∧ (ok = true → ∀ v,numS s = some v → ok' = true ∧ n = -((v.natAbs:Nat):Int))) ?_ ?_
 ·rintro x ⟨n,ok',rfl,ln,hin⟩
  refine JoinP.mk (fun x=>∃ n:Int,x = (n,rd L a ok',()) ∧ In64 n ∧ (ok = true → ∀ v,numS s = some v → ok' = true ∧ n = v)) ?_ ?_
  rotate_left
  ·refine BrP.mk' (fun h=>?_) (fun h=>?_)
   ·have h:minusF s = false:=by have:(!minusF s) = true:=h
                                simpa using this
    repeat refine SameV.mk rfl ?_
    refine ⟨_,rfl,wrap_in _,fun hok v hv=>⟨(hin hok v hv).1,?_⟩⟩
    have h1:=num_valid hv
    have h2:=h1.mi
    rw [h] at h2
    have h3:¬ v < 0:=of_decide_eq_false h2.symm
    have h4:=h1.pos h
    have h5:n = -((v.natAbs:Nat):Int):=(hin hok v hv).2
    have h6:-n = v:=by omega
    show IntKind.wrap .i64 (-n) = v
    rw [h6]; exact Fw.wrap64 h1.in64.1 h1.in64.2
   ·have h:minusF s = true:=by have:(!minusF s) = false:=h
                               simpa using this
    repeat refine SameV.mk rfl ?_
    refine ⟨_,rfl,ln,fun hok v hv=>⟨(hin hok v hv).1,?_⟩⟩
    have h1:=num_valid hv
    have h2:=h1.mi
    rw [h] at h2
    have h3:v < 0:=of_decide_eq_true h2.symm
    have h5:n = -((v.natAbs:Nat):Int):=(hin hok v hv).2
    show n = v
    omega
  rintro x ⟨n,rfl,ln,hin⟩
  refine CallP.mk _ _ (decimal_pc n ln) ?_ (fun p h=>h.elim)
  rintro ⟨y,_⟩ z hy
  have hy:y = Go.Lib.itoa n:=hy
  refine CallP.mk _ _ (rmust_pc L a ok' _) ?_ (fun p h=>h.elim)
  rintro y2 ⟨z,_⟩ hz
  refine ⟨_,hz,ln,fun hok v hv=>⟨?_,(hin hok v hv).2⟩⟩
  show (ok' && (y == s)) = true
  rw [(hin hok v hv).1,hy,(hin hok v hv).2,(num_valid hv).it]
  simp
 repeat refine SameV.mk rfl ?_
 refine LoopP.mk (fun x=>∃ (n:Int) (i:Nat) (ok':Bool),x = (n,((i:Nat):Int),rd L a ok',()) ∧ In64 n ∧ fromF s ≤ i ∧ i ≤ s.length + 1 ∧ (ok = true → ∀ v,numS s = some v → ok' = true ∧ n = -((spell ((s.drop (fromF s)).take (i - fromF s)):Nat):Int))) (fun x=>s.length + 1 - x.2.1.toNat)
  ⟨0,fromF s,ok1,rfl,⟨by decide,by decide⟩,Nat.le_refl _,by omega,fun hok v hv=>⟨h1 hok v hv,by rw [Nat.sub_self]; rfl⟩⟩ ?_
 rintro x ⟨n,i,ok',rfl,ln,hfi,hi,hin⟩
 refine JoinP.mk (fun x=>x = (rd L a ok',()) ∧ i < s.length ∧ ok' = true) ?_ ?_
 rotate_left
 ·refine LenL.mk fun _=>?_
  refine BrP.mk' (fun h=>?_) (fun h=>?_)
  ·have h:(i:Int) < (s.length:Int):=of_decide_eq_true h
   refine BrP.mk' (fun h2=>?_) (fun h2=>?_)
   ·have h2:ok' = true:=h2
    repeat refine SameV.mk rfl ?_
    exact show _ ∧ _ from ⟨rfl,by omega,h2⟩
   ·have h2:ok' = false:=h2
    repeat refine SameV.mk rfl ?_
    refine ⟨n,ok',rfl,ln,fun hok v hv=>?_⟩
    have h3:=(hin hok v hv).1
    rw [h2] at h3; cases h3
  ·have h:¬ (i:Int) < (s.length:Int):=of_decide_eq_false h
   repeat refine SameV.mk rfl ?_
   refine ⟨n,ok',rfl,ln,fun hok v hv=>⟨(hin hok v hv).1,?_⟩⟩
   rw [(hin hok v hv).2,List.take_of_length_le (by rw [List.length_drop]; omega),(num_valid hv).ds,spell_dec]
 rintro x ⟨rfl,hlt,hok'⟩
 have hcx:∃ c,s[i]? = some c:=⟨s[i],List.getElem?_eq_getElem hlt⟩
 obtain ⟨c,hc⟩:=hcx
 have hstep:ok = true → ∀ v,numS s = some v → StepV s i c n:=fun hok v hv=>step_valid (num_valid hv) hfi hc (hin hok v hv).2
 refine JoinP.mk (fun x=>∃ ok2,x = (rd L a ok2,()) ∧ (ok = true → ∀ v,numS s = some v → ok2 = true)) ?_ ?_
 rotate_left
 ·refine GetL.is i (x:=c) rfl hc ?_
  refine BrP.mk' (fun h=>?_) (fun h=>?_)
  ·refine GetL.is i (x:=c) rfl hc ?_
   refine CallP.mk _ _ (rmust_pc L a ok' _) ?_ (fun p h=>h.elim)
   rintro y ⟨z,_⟩ hz
   have hz:z = _:=hz
   subst hz
   repeat refine SameV.mk rfl ?_
   refine ⟨_,rfl,fun hok v hv=>?_⟩
   show (ok' && decide ((c.toNat:Int) ≤ 57)) = true
   rw [hok',(dig_bool (hstep hok v hv)).2]; rfl
  ·refine CallP.mk _ _ (rmust_pc L a ok' false) ?_ (fun p h=>h.elim)
   rintro y ⟨z,_⟩ hz
   have hz:z = _:=hz
   subst hz
   repeat refine SameV.mk rfl ?_
   refine ⟨_,rfl,fun hok v hv=>?_⟩
   have h:decide ((c.toNat:Int) ≥ 48) = false:=h
   rw [(dig_bool (hstep hok v hv)).1] at h; cases h
 rintro x ⟨ok2,rfl,h2⟩
 refine GetL.is i (x:=c) rfl hc ?_
 refine JoinP.mk (fun x=>∃ ok3,x = (rd L a ok3,()) ∧ (ok = true → ∀ v,numS s = some v → ok3 = true)) ?_ ?_
 rotate_left
 ·have hwc:IntKind.wrap .i64 ((c.toNat:Nat):Int) = (c.toNat:Int):=Fw.wrap64 (by omega) (by have:=c.toNat_lt; omega)
  have hwd:ok = true → ∀ v,numS s = some v → IntKind.wrap .i64 (IntKind.wrap .i64 ((c.toNat:Nat):Int) - 48) = (c.toNat:Int) - 48:=fun hok v hv=>by
   have:=(hstep hok v hv).dig
   rw [hwc]; exact Fw.wrap64 (by omega) (by omega)
  have pass:∀ b,(ok = true → ∀ v,numS s = some v → b = true) → (ok = true → ∀ v,numS s = some v → (ok2 && b) = true):=fun b hb hok v hv=>by rw [h2 hok v hv,hb hok v hv]; rfl
  refine BrP.mk' (fun h=>?_) (fun h=>?_)
  ·refine CallP.mk _ _ (rmust_pc L a ok2 true) ?_ (fun p h=>h.elim)
   rintro y ⟨z,_⟩ hz
   have hz:z = _:=hz
   subst hz
   repeat refine SameV.mk rfl ?_
   exact ⟨_,rfl,pass true fun _ _ _=>rfl⟩
  ·have h:¬ n > -922337203685477580:=of_decide_eq_false h
   refine BrP.mk' (fun h3=>?_) (fun h3=>?_)
   ·refine BrP.mk' (fun h4=>?_) (fun h4=>?_)
    ·refine CallP.mk _ _ (rmust_pc L a ok2 true) ?_ (fun p h=>h.elim)
     rintro y ⟨z,_⟩ hz
     have hz:z = _:=hz
     subst hz
     repeat refine SameV.mk rfl ?_
     exact ⟨_,rfl,pass true fun _ _ _=>rfl⟩
    ·have h4:¬ IntKind.wrap .i64 (IntKind.wrap .i64 ((c.toNat:Nat):Int) - 48) ≤ 7:=of_decide_eq_false h4
     refine BrP.mk' (fun h5=>?_) (fun h5=>?_)
     ·refine CallP.mk _ _ (rmust_pc L a ok2 _) ?_ (fun p h=>h.elim)
      rintro y ⟨z,_⟩ hz
      have hz:z = _:=hz
      subst hz
      repeat refine SameV.mk rfl ?_
      refine ⟨_,rfl,pass _ fun hok v hv=>?_⟩
      show (IntKind.wrap .i64 (IntKind.wrap .i64 ((c.toNat:Nat):Int) - 48) == 8) = true
      have hs:=(hstep hok v hv).ok
      rw [hwd hok v hv] at h4 ⊢
      rcases hs with hs | ⟨_,hs | ⟨_,hs⟩⟩
      ·exact absurd hs h
      ·exact absurd hs h4
      ·rw [hs]; rfl
     ·have h5:minusF s = false:=h5
      refine CallP.mk _ _ (rmust_pc L a ok2 false) ?_ (fun p h=>h.elim)
      rintro y ⟨z,_⟩ hz
      have hz:z = _:=hz
      subst hz
      repeat refine SameV.mk rfl ?_
      refine ⟨_,rfl,pass _ fun hok v hv=>?_⟩
      have hs:=(hstep hok v hv).ok
      rw [hwd hok v hv] at h4
      rcases hs with hs | ⟨_,hs | ⟨hs,_⟩⟩
      ·exact absurd hs h
      ·exact absurd hs h4
      ·rw [h5] at hs; cases hs
   ·have h3:¬ n = -922337203685477580:=by simpa using h3
    refine CallP.mk _ _ (rmust_pc L a ok2 false) ?_ (fun p h=>h.elim)
    rintro y ⟨z,_⟩ hz
    have hz:z = _:=hz
    subst hz
    repeat refine SameV.mk rfl ?_
    refine ⟨_,rfl,pass _ fun hok v hv=>?_⟩
    have hs:=(hstep hok v hv).ok
    rcases hs with hs | ⟨hs,_⟩
    ·exact absurd hs h
    ·exact absurd hs h3
 rintro x ⟨ok3,rfl,h3⟩
 repeat refine SameV.mk rfl ?_
 have hwc:IntKind.wrap .i64 ((c.toNat:Nat):Int) = (c.toNat:Int):=Fw.wrap64 (by omega) (by have:=c.toNat_lt; omega)
 have hw:IntKind.wrap .i64 ((i:Int) + 1) = ((i + 1:Nat):Int):=Fw.wrap64 (by omega) (by omega)
 refine And.intro (Exists.intro (IntKind.wrap .i64 (IntKind.wrap .i64 (10 * n) - IntKind.wrap .i64 (IntKind.wrap .i64 ((c.toNat:Nat):Int) - 48))) (Exists.intro (i + 1) (Exists.intro ok3 (And.intro ?_ ⟨wrap_in _,by omega,by omega,fun hok v hv=>⟨h3 hok v hv,?_⟩⟩)))) ?_
 ·rw [← hw]; rfl
 ·rw [hwc]; exact (hstep hok v hv).next
 ·show s.length + 1 - (IntKind.wrap .i64 ((i:Int) + 1)).toNat < s.length + 1 - (i:Int).toNat
  rw [hw]; omega
end Go.Proofs.YtpifnlfmojfgpaaGreatDoor.Rk
end
