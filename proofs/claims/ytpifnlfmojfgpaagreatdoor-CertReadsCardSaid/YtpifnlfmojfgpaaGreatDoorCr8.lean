/- Parts of a proof, laid one behind the other by our own merge.py: CtRound PkAut PkMiddle PkStruct PkBox CtLines CtSpl. -/
import Derived.Test.YtpifnlfmojfgpaaGreatDoorCr6
import Derived.Test.YtpifnlfmojfgpaaGreatDoorCr7
set_option linter.unusedVariables false
set_option linter.unusedSimpArgs false
section
namespace Go.Proofs.YtpifnlfmojfgpaaGreatDoor.Ct
open Go.Lib Pw
def hd (L:Lns):Str:=(L.headD []).headD []
theorem hd_app {A B:Lns}:hd (A ++ B) = if A = [] then hd B else hd A:=by
 cases A <;> rfl
def Starts (h:Str) (X:Lns):Prop:=X = [] ∨ hd X = h
def Hs (S:List Str) (L:Lns):Prop:=hd L ∈ S
theorem Hs.app {S:List Str} {h:Str} {X R:Lns} (hx:Starts h X) (hr:Hs S R):Hs (h :: S) (X ++ R):=by
 unfold Hs
 rw [hd_app]
 rcases hx with rfl | hx
 ·exact List.mem_cons_of_mem _ hr
 ·split
  ·exact List.mem_cons_of_mem _ hr
  ·rw [hx]; exact List.mem_cons_self
theorem Hs.ne {S:List Str} {L:Lns} (hr:Hs S L) {h:Str} (hn:S.contains h = false):hd L ≠ h:=fun he=>by
 unfold Hs at hr
 rw [he] at hr
 have:S.contains h = true:=by simpa using hr
 rw [hn] at this; cases this
theorem starts_map {α:Type} {h:Str} {f:α → List Str} (hf:∀ x,(f x).headD [] = h) (D:List α):Starts h (D.map f):=by
 cases D with
 | nil=>exact .inl rfl
 | cons d D=>exact .inr (hf d)
theorem starts_flat {α:Type} {h:Str} {f:α → Lns} (hf:∀ x,f x ≠ [] ∧ hd (f x) = h) (D:List α):Starts h (D.flatMap f):=by
 cases D with
 | nil=>exact .inl rfl
 | cons d D=>
  refine .inr ?_
  rw [List.flatMap_cons,hd_app,if_neg (hf d).1]; exact (hf d).2
theorem starts_if {p:Prop} [Decidable p] {h:Str} {l:List Str} (hl:l.headD [] = h):Starts h (if p then [] else [l]):=by
 split
 ·exact .inl rfl
 ·exact .inr hl
theorem take_no {h:Str} {L:Lns} (hL:hd L ≠ h):takeF h L = ([],false,L):=by
 cases L with
 | nil=>rfl
 | cons l R=>
  have hL:l.headD [] ≠ h:=hL
  simp only [takeF]; rw [if_neg hL]
theorem take_yes {h:Str} {ps:List Str} {R:Lns}:takeF h ((h :: ps) :: R) = (ps,true,R):=by simp [takeF]
theorem many_round {α:Type} {f:List Str → Option α} {h:Str} {g:α → List Str} {R:Lns} (hR:hd R ≠ h):∀ {D:List α},(∀ d ∈ D,(g d).headD [] = h ∧ f ((g d).drop 1) = some d) → manyS f h (D.map g ++ R) = some (D,R)
 | [],_=>by
  cases R with
  | nil=>rfl
  | cons l R=>
   have hR:l.headD [] ≠ h:=hR
   simp only [List.map_nil,List.nil_append,manyS]
   rw [if_neg hR]
 | d :: D,hd'=>by
  obtain ⟨h1,h2⟩:=hd' d (by simp)
  simp only [List.map_cons,List.cons_append,manyS]
  rw [if_pos h1,h2,many_round hR fun x hx=>hd' x (by simp [hx])]
  rfl
theorem opt_no {α:Type} {f:List Str → Option α} {h:Str} {d:α} {L:Lns} (hL:hd L ≠ h):optS f h d L = some (d,L):=by simp [optS,take_no hL]
theorem opt_yes {α:Type} {f:List Str → Option α} {h:Str} {d x:α} {ps:List Str} {R:Lns} (hf:f ps = some x):optS f h d ((h :: ps) :: R) = some (x,R):=by simp [optS,take_yes,hf]
theorem must_yes {α:Type} {f:List Str → Option α} {h:Str} {x:α} {ps:List Str} {R:Lns} (hf:f ps = some x):mustS f h ((h :: ps) :: R) = some (x,R):=by simp [mustS,take_yes,hf]
theorem pieces_round {α:Type} {f:List Str → Lns → Option (α × Lns)} {h:Str} {g:α → Lns} {R:Lns} (hR:hd R ≠ h) (ok:Lns → Prop) (ho:∀ X,Starts h X → ok (X ++ R)) (hg:∀ x,g x ≠ [] ∧ hd (g x) = h):∀ {D:List α} {m:Nat},D.length < m →
  (∀ d ∈ D,∃ ps A,g d = (h :: ps) :: A ∧ ∀ T,ok T → f ps (A ++ T) = some (d,T)) → piecesS f h m (D.flatMap g ++ R) = some (D,R)
 | [],m,hm,_=>by
  cases m with
  | zero=>simp at hm
  | succ m=>simp [piecesS,take_no hR]
 | d :: D,m,hm,hd'=>by
  cases m with
  | zero=>simp at hm
  | succ m=>
   obtain ⟨ps,A,h1,h2⟩:=hd' d (by simp)
   have h3:=pieces_round hR ok ho hg (D:=D) (m:=m) (by simpa using hm) fun x hx=>hd' x (by simp [hx])
   have h4:=h2 _ (ho _ (starts_flat hg D))
   have hk:takeF h ((d :: D).flatMap g ++ R) = (ps,true,A ++ (D.flatMap g ++ R)):=by
    rw [List.flatMap_cons,h1,List.append_assoc,List.cons_append]; exact take_yes
   simp only [piecesS,hk,if_true,h4,Option.bind_some,h3,Option.map_some]
theorem isW_char {w:Str} (h:isW w = true):∀ c ∈ w,isLet c = true:=by
 simp only [isW,Bool.and_eq_true,List.all_eq_true] at h; exact h.2
theorem unS_wordS {w:Str} (h:isW w = true):unS (wordS w) = some w:=by
 unfold unS wordS
 by_cases hw:w = []
 ·subst hw; rfl
 ·rw [if_neg hw]
  have:w ≠ [49]:=fun he=>by
   subst he
   have:=isW_char h 49 (by simp)
   exact absurd this (by decide)
  rw [if_neg this,if_neg hw]
theorem cellS_cellL {c:Cell} (h:isW c.1 = true) (hn:In64 c.2.1) (hd:Str):cellS ((cellL hd c).drop 1) = some c:=by
 obtain ⟨w,n,b,u⟩:=c
 have h1:=unS_wordS h
 have h2:=numS_itoa hn
 dsimp only at h1 h2
 cases b <;> simp [cellL,cellS,h1,h2]
theorem lim_in {N:Nat} {l:List Int} (h:Lim N tIs l):∀ n ∈ l,In64 n:=fun n hn=>h.2 n hn
theorem cells_round {N:Nat} {h:Str} {D:List Cell} {R:Lns} (hR:hd R ≠ h) (hl:Lim N tCs D) (hw:cellsW D = true):manyS cellS h (cellsL h D ++ R) = some (D,R):=by
 refine many_round hR fun d hd=>⟨rfl,cellS_cellL ?_ (hl.2 d hd).2.1 h⟩
 simp only [cellsW,List.all_eq_true] at hw
 exact hw d hd
theorem stateS_stateL {p:Bool × List Int} (h:∀ n ∈ p.2,In64 n):stateS ((stateL p).drop 1) = some p:=by
 obtain ⟨b,l⟩:=p
 have:=listS_itoas h
 dsimp only at this
 cases b <;> simp [stateL,stateS,this]
theorem zip_fst {α β:Type}:∀ {a:List α} {b:List β},a.length = b.length → (a.zip b).map (·.1) = a
 | [],_,_=>rfl
 | x :: a,[],h=>by simp at h
 | x :: a,y :: b,h=>by simp [zip_fst (a:=a) (b:=b) (by simpa using h)]
theorem zip_snd {α β:Type}:∀ {a:List α} {b:List β},a.length = b.length → (a.zip b).map (·.2) = b
 | [],[],_=>rfl
 | [],_ :: _,h=>by simp at h
 | x :: a,[],h=>by simp at h
 | x :: a,y :: b,h=>by simp [zip_snd (a:=a) (b:=b) (by simpa using h)]
theorem autS_autL {N:Nat} {a:Aut} {R:Lns} (hR:hd R ≠ sState) (hl:Lim N autT a) (hw:autW a = true):autS (itoas [a.1,a.2.1]) ((a.2.2.1.zip a.2.2.2.1).map stateL ++ R) = some (a,R):=by
 obtain ⟨s,t,acc,nx,u⟩:=a
 obtain ⟨h1,h2,h3,h4,_⟩:=hl
 have hlen:acc.length = nx.length:=by simpa [autW] using hw
 have hm:=many_round (f:=stateS) (g:=stateL) (D:=acc.zip nx) hR fun p hp=>⟨rfl,stateS_stateL fun n hn=>(h4.2 p.2 (List.of_mem_zip hp).2).2 n hn⟩
 simp only [autS,itoas,List.map_cons,List.map_nil,num2S,numS_itoa h1,numS_itoa h2,Option.bind_some,Option.map_some,hm,zip_fst hlen,zip_snd hlen]
theorem stepS_stepL {N:Nat} {t:Step} {R:Lns} (hR:hd R ≠ sProof) (hl:Lim N stepT t) (hw:cellsW t.2.2.2.2.1 = true):stepS (itoas [t.1,t.2.1,t.2.2.1,t.2.2.2.1]) (cellsL sProof t.2.2.2.2.1 ++ R) = some (t,R):=by
 obtain ⟨a,b,c,d,p,u⟩:=t
 obtain ⟨h1,h2,h3,h4,h5,_⟩:=hl
 have hm:=cells_round hR h5 hw
 simp only [stepS,itoas,List.map_cons,List.map_nil,num4S,numS_itoa h1,numS_itoa h2,numS_itoa h3,numS_itoa h4,Option.bind_some,Option.map_some] at hm ⊢
 rw [hm]; rfl
theorem endS_endL {N:Nat} {t:End} {R:Lns} (hR:hd R ≠ sProof) (hl:Lim N endT t) (hw:cellsW t.2.2.1 = true):endS (itoas [t.1,t.2.1]) (cellsL sProof t.2.2.1 ++ R) = some (t,R):=by
 obtain ⟨a,b,p,u⟩:=t
 obtain ⟨h1,h2,h5,_⟩:=hl
 have hm:=cells_round hR h5 hw
 simp only [endS,itoas,List.map_cons,List.map_nil,num2S,numS_itoa h1,numS_itoa h2,Option.bind_some,Option.map_some] at hm ⊢
 rw [hm]; rfl
theorem flat_len {α:Type} {g:α → Lns} (hg:∀ x,g x ≠ []):∀ (D:List α) (R:Lns),D.length < (D.flatMap g ++ R).length + 1
 | [],R=>by simp
 | d :: D,R=>by
  have:=flat_len hg D R
  have h0:0 < (g d).length:=List.length_pos_iff.2 (hg d)
  simp only [List.flatMap_cons,List.length_append,List.length_cons] at this ⊢
  omega
theorem strS_strL {N:Nat} {s:Strc} {p:Pres} (hp:s.1 = p) (hl:Lim N strT s) (hw:strW s = true) {R:Lns} (hR:Hs [sDone] R):lastS p (strL s ++ R) = some (s,R):=by
 obtain ⟨q,a,m,d,t,e,u⟩:=s
 dsimp only at hp
 subst hp
 obtain ⟨l1,l2,l3,l4,l5,l6,_⟩:=hl
 simp only [strW,Bool.and_eq_true,List.all_eq_true] at hw
 obtain ⟨⟨⟨⟨w1,w2⟩,w3⟩,w4⟩,w5⟩:=hw
 have nE:∀ x:End,endL x ≠ [] ∧ hd (endL x) = sEnd:=fun x=>⟨by simp [endL],rfl⟩
 have nT:∀ x:Step,stepL x ≠ [] ∧ hd (stepL x) = sStep:=fun x=>⟨by simp [stepL],rfl⟩
 have nM:∀ x:Aut,autL sMult x ≠ [] ∧ hd (autL sMult x) = sMult:=fun x=>⟨by simp [autL],rfl⟩
 have hE:Hs [sEnd,sDone] (e.flatMap endL ++ R):=Hs.app (starts_flat nE e) hR
 have hT:Hs [sStep,sEnd,sDone] (t.flatMap stepL ++ (e.flatMap endL ++ R)):=Hs.app (starts_flat nT t) hE
 have hD:Hs [sDiff,sStep,sEnd,sDone] (d.map (fun d=>[sDiff,wordS d]) ++ (t.flatMap stepL ++ (e.flatMap endL ++ R))):=Hs.app (starts_map (h:=sDiff) (f:=fun d=>[sDiff,wordS d]) (fun _=>rfl) d) hT
 have hM:Hs [sMult,sDiff,sStep,sEnd,sDone] (m.flatMap (autL sMult) ++ (d.map (fun d=>[sDiff,wordS d]) ++ (t.flatMap stepL ++ (e.flatMap endL ++ R)))):=Hs.app (starts_flat nM m) hD
 have e1:=autS_autL (R:=m.flatMap (autL sMult) ++ (d.map (fun d=>[sDiff,wordS d]) ++ (t.flatMap stepL ++ (e.flatMap endL ++ R)))) (hM.ne (by decide)) l2 w1
 have e2:=pieces_round (f:=autS) (h:=sMult) (g:=autL sMult) (R:=d.map (fun d=>[sDiff,wordS d]) ++ (t.flatMap stepL ++ (e.flatMap endL ++ R))) (hD.ne (by decide)) (fun T=>hd T ≠ sState) (fun X hX=>(Hs.app hX hD).ne (by decide)) nM (D:=m) (flat_len (fun x=>(nM x).1) m (d.map (fun d=>[sDiff,wordS d]) ++ (t.flatMap stepL ++ (e.flatMap endL ++ R))))
  (fun x hx=>⟨_,_,rfl,fun T hT=>autS_autL hT (l3.2 x hx) (w2 x hx)⟩)
 have e3:=many_round (f:=diffS) (h:=sDiff) (g:=fun d=>[sDiff,wordS d]) (D:=d) (hT.ne (by decide)) fun x hx=>⟨rfl,by show (soleS [wordS x]).bind unS = _; simp only [soleS,Option.bind_some,unS_wordS (w3 x hx)]⟩
 have e4:=pieces_round (f:=stepS) (h:=sStep) (g:=stepL) (R:=e.flatMap endL ++ R) (hE.ne (by decide)) (fun T=>hd T ≠ sProof) (fun X hX=>(Hs.app hX hE).ne (by decide)) nT (D:=t) (flat_len (fun x=>(nT x).1) t (e.flatMap endL ++ R))
  (fun x hx=>⟨_,_,rfl,fun T hT=>stepS_stepL hT (l5.2 x hx) (w4 x hx)⟩)
 have e5:=pieces_round (f:=endS) (h:=sEnd) (g:=endL) (R:=R) (hR.ne (by decide)) (fun T=>hd T ≠ sProof) (fun X hX=>(Hs.app hX hR).ne (by decide)) nE (D:=e) (flat_len (fun x=>(nE x).1) e R)
  (fun x hx=>⟨_,_,rfl,fun T hT=>endS_endL hT (l6.2 x hx) (w5 x hx)⟩)
 have hk:takeF sAccept (strL (q,a,m,d,t,e,u) ++ R) = (itoas [a.1,a.2.1],true,(a.2.2.1.zip a.2.2.2.1).map stateL ++ (m.flatMap (autL sMult) ++ (d.map (fun d=>[sDiff,wordS d]) ++ (t.flatMap stepL ++ (e.flatMap endL ++ R))))):=by
  simp only [strL,autL,List.cons_append,List.append_assoc]; exact take_yes
 simp only [lastS,hk,if_true,structS,e1,Option.bind_some,e2,e3,e4,e5,Option.map_some]
theorem noPres_eq {p:Pres} (h:noPres p = true):p = zeroPres:=by
 obtain ⟨g,r,u⟩:=p
 simp only [noPres,Bool.and_eq_true,beq_iff_eq,List.isEmpty_iff] at h
 obtain ⟨rfl,rfl⟩:=h; rfl
theorem noMap_eq {m:Map} (h:noMap m = true):m = ((0,[],()),0,[],()):=by
 obtain ⟨p,d,i,u⟩:=m
 simp only [noMap,Bool.and_eq_true,beq_iff_eq,List.isEmpty_iff] at h
 obtain ⟨⟨hp,rfl⟩,rfl⟩:=h
 rw [noPres_eq hp]; rfl
theorem noStr_eq {s:Strc} (h:noStr s = true):s = zeroStr:=by
 obtain ⟨p,⟨a,b,c,d,_⟩,e,f,g,i,u⟩:=s
 simp only [noStr,Bool.and_eq_true,beq_iff_eq,List.isEmpty_iff] at h
 obtain ⟨⟨⟨⟨⟨⟨⟨⟨hp,rfl⟩,rfl⟩,rfl⟩,rfl⟩,rfl⟩,rfl⟩,rfl⟩,rfl⟩:=h
 rw [noPres_eq hp]; rfl
theorem kindS_kindW {k:Int} (h0:1 ≤ k) (h1:k ≤ 9):kindS [kindW k] = some k:=by
 have:k = 1 ∨ k = 2 ∨ k = 3 ∨ k = 4 ∨ k = 5 ∨ k = 6 ∨ k = 7 ∨ k = 8 ∨ k = 9:=by omega
 rcases this with rfl | rfl | rfl | rfl | rfl | rfl | rfl | rfl | rfl <;> rfl
theorem opt_round {α:Type} {f:List Str → Option α} {h:Str} {d x:α} {p:Prop} [Decidable p] {ps:List Str} {R:Lns} (hR:hd R ≠ h) (h1:p → x = d) (h2:¬ p → f ps = some x):optS f h d ((if p then [] else [h :: ps]) ++ R) = some (x,R):=by
 by_cases hp:p
 ·rw [if_pos hp,List.nil_append,opt_no hR,h1 hp]
 ·rw [if_neg hp]; exact opt_yes (h2 hp)
theorem num1S_itoa {n:Int} (h:In64 n):num1S [itoa n] = some n:=by simp [num1S,soleS,numS_itoa h]
theorem claim_round {N:Nat} {c:Clm} (hl:Lim N claimT c) (hw:writable c = true):claimS (linesC c) = some c:=by
 obtain ⟨k,⟨g,rels,_⟩,u,v,n,disk,⟨cj,ring,_⟩,⟨sk,sm,si,sp,_⟩,im,mp,st,_⟩:=c
 obtain ⟨l1,⟨l2,l3,_⟩,l4,l5,l6,l7,⟨l8,l9,_⟩,⟨l10,l11,l12,l13,_⟩,l14,l15,l16,_⟩:=hl
 simp only [writable,Bool.and_eq_true,decide_eq_true_eq] at hw
 obtain ⟨⟨⟨⟨⟨⟨⟨⟨⟨⟨w1,w2⟩,w3⟩,w4⟩,w5⟩,w6⟩,w7⟩,w8⟩,w9⟩,w10⟩,w11⟩:=hw
 -- from the end
 obtain ⟨R0,e0⟩:∃ R,R = [[sDone]]:=⟨_,rfl⟩
 have H0:Hs [sDone] R0:=by rw [e0]; exact List.mem_cons_self
 obtain ⟨R1,e1⟩:∃ R,R = (if noStr st then [] else strL st) ++ R0:=⟨_,rfl⟩
 have H1:Hs [sAccept,sDone] R1:=by
  rw [e1]; refine Hs.app ?_ H0
  split
  ·exact .inl rfl
  ·exact .inr rfl
 obtain ⟨R2,e2⟩:∃ R,R = mapL mp ++ R1:=⟨_,rfl⟩
 have H2:Hs [sDegree,sAccept,sDone] R2:=by
  rw [e2]; refine Hs.app ?_ H1
  unfold mapL
  split
  ·exact .inl rfl
  ·exact .inr rfl
 obtain ⟨R3,e3⟩:∃ R,R = (if im = [] then [] else [sValue :: itoas im]) ++ R2:=⟨_,rfl⟩
 have H3:Hs [sValue,sDegree,sAccept,sDone] R3:=by rw [e3]; exact Hs.app (starts_if rfl) H2
 obtain ⟨R4,e4⟩:∃ R,R = sp.map (fun l=>sPerm :: itoas l) ++ R3:=⟨_,rfl⟩
 have H4:Hs [sPerm,sValue,sDegree,sAccept,sDone] R4:=by rw [e4]; exact Hs.app (starts_map (f:=fun l=>sPerm :: itoas l) (fun _=>rfl) sp) H3
 obtain ⟨R5,e5⟩:∃ R,R = (if si = [] then [] else [sImage :: itoas si]) ++ R4:=⟨_,rfl⟩
 have H5:Hs [sImage,sPerm,sValue,sDegree,sAccept,sDone] R5:=by rw [e5]; exact Hs.app (starts_if rfl) H4
 obtain ⟨R6,e6⟩:∃ R,R = (if sk = 0 ∧ sm = 0 then [] else [sSep :: itoas [sk,sm]]) ++ R5:=⟨_,rfl⟩
 have H6:Hs [sSep,sImage,sPerm,sValue,sDegree,sAccept,sDone] R6:=by rw [e6]; exact Hs.app (starts_if rfl) H5
 obtain ⟨R7,e7⟩:∃ R,R = cellsL sRing ring ++ R6:=⟨_,rfl⟩
 have H7:Hs [sRing,sSep,sImage,sPerm,sValue,sDegree,sAccept,sDone] R7:=by rw [e7]; exact Hs.app (starts_map (f:=cellL sRing) (fun _=>rfl) ring) H6
 obtain ⟨R8,e8⟩:∃ R,R = (if cj = [] then [] else [[sConj,cj]]) ++ R7:=⟨_,rfl⟩
 have H8:Hs [sConj,sRing,sSep,sImage,sPerm,sValue,sDegree,sAccept,sDone] R8:=by rw [e8]; exact Hs.app (starts_if rfl) H7
 obtain ⟨R9,e9⟩:∃ R,R = cellsL sCell disk ++ R8:=⟨_,rfl⟩
 have H9:Hs [sCell,sConj,sRing,sSep,sImage,sPerm,sValue,sDegree,sAccept,sDone] R9:=by rw [e9]; exact Hs.app (starts_map (f:=cellL sCell) (fun _=>rfl) disk) H8
 obtain ⟨R10,e10⟩:∃ R,R = (if n = 0 then [] else [[sN,itoa n]]) ++ R9:=⟨_,rfl⟩
 have H10:Hs (sN :: [sCell,sConj,sRing,sSep,sImage,sPerm,sValue,sDegree,sAccept,sDone]) R10:=by rw [e10]; exact Hs.app (starts_if rfl) H9
 obtain ⟨R11,e11⟩:∃ R,R = (if v = [] then [] else [[sV,v]]) ++ R10:=⟨_,rfl⟩
 have H11:Hs (sV :: sN :: [sCell,sConj,sRing,sSep,sImage,sPerm,sValue,sDegree,sAccept,sDone]) R11:=by rw [e11]; exact Hs.app (starts_if rfl) H10
 obtain ⟨R12,e12⟩:∃ R,R = (if u = [] then [] else [[sU,u]]) ++ R11:=⟨_,rfl⟩
 have H12:Hs (sU :: sV :: sN :: [sCell,sConj,sRing,sSep,sImage,sPerm,sValue,sDegree,sAccept,sDone]) R12:=by rw [e12]; exact Hs.app (starts_if rfl) H11
 have hlines:linesC (k,(g,rels,()),u,v,n,disk,(cj,ring,()),(sk,sm,si,sp,()),im,mp,st,()) = [sClaim,kindW k] :: [sGens,itoa g] :: (rels.map (fun r=>[sRel,r]) ++ R12):=by
  simp only [linesC,frontL,sepL,e12,e11,e10,e9,e8,e7,e6,e5,e4,e3,e2,e1,e0,List.cons_append,List.append_assoc,List.nil_append]
 have f1:mustS kindS sClaim ([sClaim,kindW k] :: [sGens,itoa g] :: (rels.map (fun r=>[sRel,r]) ++ R12)) = some (k,[sGens,itoa g] :: (rels.map (fun r=>[sRel,r]) ++ R12)):=must_yes (kindS_kindW w1 w2)
 have f2:mustS num1S sGens ([sGens,itoa g] :: (rels.map (fun r=>[sRel,r]) ++ R12)) = some (g,rels.map (fun r=>[sRel,r]) ++ R12):=must_yes (num1S_itoa l2)
 have f3:manyS soleS sRel (rels.map (fun r=>[sRel,r]) ++ R12) = some (rels,R12):=many_round (H12.ne (by decide)) fun d _=>⟨rfl,rfl⟩
 have f4:optS soleS sU [] R12 = some (u,R11):=by rw [e12]; exact opt_round (H11.ne (by decide)) (fun h=>h) fun _=>rfl
 have f5:optS soleS sV [] R11 = some (v,R10):=by rw [e11]; exact opt_round (H10.ne (by decide)) (fun h=>h) fun _=>rfl
 have f6:optS num1S sN 0 R10 = some (n,R9):=by rw [e10]; exact opt_round (H9.ne (by decide)) (fun h=>h) fun _=>num1S_itoa l6
 have f7:manyS cellS sCell R9 = some (disk,R8):=by rw [e9]; exact cells_round (H8.ne (by decide)) l7 w7
 have f8:optS soleS sConj [] R8 = some (cj,R7):=by rw [e8]; exact opt_round (H7.ne (by decide)) (fun h=>h) fun _=>rfl
 have f9:manyS cellS sRing R7 = some (ring,R6):=by rw [e7]; exact cells_round (H6.ne (by decide)) l9 w8
 have f10:optS num2S sSep (0,0) R6 = some ((sk,sm),R5):=by rw [e6]; exact opt_round (H5.ne (by decide)) (fun h=>by rw [h.1,h.2]) fun _=>by simp [itoas,num2S,numS_itoa l10,numS_itoa l11]
 have f11:optS listS sImage [] R5 = some (si,R4):=by rw [e5]; exact opt_round (H4.ne (by decide)) (fun h=>h) fun _=>listS_itoas (lim_in l12)
 have f12:manyS listS sPerm R4 = some (sp,R3):=by rw [e4]; exact many_round (H3.ne (by decide)) fun d hd=>⟨rfl,listS_itoas (lim_in (l13.2 d hd))⟩
 have f13:optS listS sValue [] R3 = some (im,R2):=by rw [e3]; exact opt_round (H2.ne (by decide)) (fun h=>h) fun _=>listS_itoas (lim_in l14)
 have f14:lastS (g,rels,()) R1 = some (st,R0):=by
  rw [e1]
  by_cases hs:noStr st = true
  ·rw [if_pos hs,List.nil_append,noStr_eq hs]
   simp [lastS,take_no (H0.ne (h:=sAccept) (by decide))]
  ·rw [if_neg hs]
   have:st.1 = (g,rels,()):=by
    rcases Bool.or_eq_true_iff.1 w10 with h | h
    ·exact absurd h hs
    ·simpa using h
   exact strS_strL this l16 w11 H0
 rw [hlines]
 simp only [claimS,frontS,f1,f2,f3,f4,f5,f6,f7,Option.bind_some,Option.map_some,middleS,f8,f9,f10,f11,f12,f13]
 by_cases hm:noMap mp = true
 ·have h2:R2 = R1:=by rw [e2,mapL,if_pos hm,List.nil_append]
  have h3:takeF sDegree R1 = ([],false,R1):=take_no (H1.ne (by decide))
  simp only [h2,h3,Bool.false_eq_true,if_false,Option.bind_some,f14,e0,if_true,noMap_eq hm]
 ·obtain ⟨⟨mg,mr,_⟩,md,mi,_⟩:=mp
  have hp:(mg,mr,()) = (g,rels,()):=by
   rcases Bool.or_eq_true_iff.1 w9 with h | h
   ·exact absurd h hm
   ·simpa using h
  have h2:R2 = [sDegree,itoa md] :: (mi.map (fun l=>sPoint :: itoas l) ++ R1):=by rw [e2,mapL,if_neg hm]; rfl
  have h3:takeF sDegree R2 = ([itoa md],true,mi.map (fun l=>sPoint :: itoas l) ++ R1):=by rw [h2]; exact take_yes
  have h4:manyS listS sPoint (mi.map (fun l=>sPoint :: itoas l) ++ R1) = some (mi,R1):=many_round (H1.ne (by decide)) fun d hd=>⟨rfl,listS_itoas (lim_in (l15.2.2.1.2 d hd))⟩
  simp only [h3,if_true,num1S_itoa l15.2.1,Option.bind_some,h4,Option.map_some,f14,e0,if_true,hp]
end Go.Proofs.YtpifnlfmojfgpaaGreatDoor.Ct
end
section
set_option maxRecDepth 10000
namespace Go.Proofs.YtpifnlfmojfgpaaGreatDoor.Pk
open Fw Pw Ct
noncomputable def a164:FAnn:={}
noncomputable def a136:FAnn:={}
def sg164:Sig:=⟨[.pv tW],[.any],[.pv tW]⟩
def sg136:Sig:=⟨[.pv presT],[.any],[.pv presT]⟩
theorem clone_pc (l:List Str) (hl:l.length ≤ NN):PC Tryz.prog 164 sg164 (l,()) (fun y _=>y.1 = l) (fun _=>False):=by
 refine PC.of a164 [] (by kernel_rfl) ?_
 refine NilL.mk fun b hb=>?_
 refine BrP.mk' (fun h=>?_) (fun h=>?_)
 ·have h:l = []:=hb h
  exact h.symm
 ·refine AppL.mk' (by show 0 + l.length ≤ _; unfold NN at hl; omega) ?_
  exact (rfl:l = l)
theorem copied_pc (p:Pres) (hp:p.2.1.length ≤ NN):PC Tryz.prog 136 sg136 (p,()) (fun y _=>y.1 = p) (fun _=>False):=by
 refine PC.of a136 [(164,sg164)] (by kernel_rfl) ?_
 refine CallP.mk _ _ (clone_pc p.2.1 hp) ?_ (fun p h=>h.elim)
 rintro ⟨y,_⟩ z hy
 have hy:y = p.2.1:=hy
 show (p.1,y,()) = p
 rw [hy]
abbrev autA:AT:=.cons iA (.cons iA (.cons (.ls 4 .bool) (.cons (.ls 28 tIs) .nil)))
noncomputable def a137:FAnn where
 loops:=fun | 3=>[.kv 0,.kv 4,.kv 6,.mem 0 0 lnsA,.mem 1 0 (.pv autT),.mem 2 0 autA] | _=>[]
 joins:=fun | 7=>some [.kv 0,.kv 4,.kv 6,.kv 7,.mem 0 0 lnsA,.mem 1 0 (.pv autT),.mem 2 0 autA] | _=>none
 sched:=fun | 2=>runS [(0,false),(1,false),(2,false),(3,false),(4,false),(5,false),(6,false),(7,false),(8,true)] .fin | 7=>runS [(0,false),(1,false),(2,false),(3,false),(4,false),(5,false),(6,false),(7,true),(8,false),(9,true)] .fin | 8=>runS [(0,false),(1,false),(2,false),(3,false),(4,false),(5,false),(6,true),(7,false),(8,true)] .fin | _=>.fin
def sg137:Sig:=⟨[qA,.pv tW],[qA,.any],[.pv autT]⟩
structure PieceOk {α:Type} (f:List Str → Lns → Option (α × Lns)) (ps:List Str) (L:Lns) (ok:α → Prop) (y:α) (R:Lns):Prop where
 sfx:R <:+ L
 ok:ok y
 is:∀ o,f ps L = some o → o = (y,R)
def StOk (s:Bool × List Int):Prop:=RowOk s.2
theorem zip_len {α β:Type} {a:List α} {b:List β} (h:a.length = b.length):(a.zip b).length = a.length:=by simp [h]
theorem zip_snoc {α β:Type} {a:List α} {b:List β} {x:α} {y:β} (h:a.length = b.length):(a ++ [x]).zip (b ++ [y]) = a.zip b ++ [(x,y)]:=by rw [List.zip_append h]; rfl
theorem num2_get {ps:List Str} {l:List Int} (h:(ps.length:Int) = 2) (hy:ListOk ps l):∃ a b,l = [a,b] ∧ In64 a ∧ In64 b ∧ ∀ n,num2S ps = some n → n = (a,b):=by
 have hl:l.length = 2:=by rw [hy.len]; omega
 match l,hl,hy with
 | [a,b],_,hy=>
  refine ⟨a,b,rfl,hy.num a (by simp),hy.num b (by simp),fun n hn=>?_⟩
  unfold num2S at hn
  split at hn
  ·rename_i s t
   simp only [Option.bind_eq_some_iff,Option.map_eq_some_iff] at hn
   obtain ⟨x,h1,y,h2,rfl⟩:=hn
   have:=hy.is [x,y] (by simp [listS,h1,h2])
   simp only [List.cons.injEq,and_true] at this
   rw [this.1,this.2]
  ·cases hn
theorem num2_none {ps:List Str} (h:(ps.length:Int) = 2 → listS ps = none):num2S ps = none:=by
 cases hq:num2S ps with
 | none=>rfl
 | some n=>
  unfold num2S at hq
  split at hq
  ·rename_i s t
   simp only [Option.bind_eq_some_iff,Option.map_eq_some_iff] at hq
   obtain ⟨x,h1,y,h2,rfl⟩:=hq
   have:=h rfl
   simp [listS,h1,h2] at this
  ·cases hq
theorem get0 {α:Type} {l:List α} {a b:α} (h:l = [a,b]):l[0]? = some a:=by rw [h]; rfl
theorem get1 {α:Type} {l:List α} {a b:α} (h:l = [a,b]):l[1]? = some b:=by rw [h]; rfl
theorem aut_fin {ps:List Str} {L R:Lns} {n0 n1:Int} {acc:List Bool} {nx:List (List Int)} (h0:In64 n0) (h1:In64 n1) (hn:∀ n,num2S ps = some n → n = (n0,n1)) (hL:L.length ≤ NN) (hlen:acc.length = nx.length)
  (hd:Done stateS sState L StOk (acc.zip nx) R):PieceOk autS ps L (Lim NN autT) (n0,n1,acc,nx,()) R:=by
 have hz:=hd.1.len
 rw [zip_len hlen] at hz
 have ha:acc.length ≤ NN:=by omega
 have hb:nx.length ≤ NN:=by omega
 have hr:∀ r ∈ nx,RowOk r:=fun r hr=>by
  have hr:r ∈ (acc.zip nx).map (·.2):=by rw [zip_snd hlen]; exact hr
  obtain ⟨s,h2,rfl⟩:=List.mem_map.1 hr
  exact hd.1.ok s h2
 refine ⟨hd.1.sfx,⟨h0,h1,⟨ha,fun _ _=>trivial⟩,⟨hb,fun r h=>⟨(hr r h).1,(hr r h).2⟩⟩,trivial⟩,fun o ho=>?_⟩
 ·simp only [autS,Option.bind_eq_some_iff,Option.map_eq_some_iff] at ho
  obtain ⟨n,h2,r,h3,rfl⟩:=ho
  have h4:=hd.2 _ h3
  have h5:=hn n h2
  subst h4
  subst h5
  simp only [zip_fst hlen,zip_snd hlen]
theorem stateS_bad {ps:List Str} (h:∀ s l,ps = s :: l → ¬ (s = [97] ∨ s = [114])):stateS ps = none:=by
 cases ps with
 | nil=>rfl
 | cons s l=>simp only [stateS]; rw [if_neg (h s l rfl)]
theorem aut_pc (hnum:NumPC) (ps:List Str) (L:Lns) (hL:LimL L) (hl:ps.length ≤ NN) (hs:∀ p ∈ ps,p.length ≤ NN) :
  PC Tryz.prog 137 sg137 (L,ps,()) (fun y z=>PieceOk autS ps L (Lim NN autT) y.1 z.1) (fun p=>autS ps L = none ∧ p = mal):=by
 refine PC.of a137 [(86,sg86),(80,sg80),(130,sg130),(134,sg134)] (by kernel_rfl) ?_
 have noneN:num2S ps = none → autS ps L = none:=fun h=>by unfold autS; rw [h]; rfl
 refine CallP.mk _ _ (some_pc hnum ps 2 hl hs) ?_ ?_
 ·rintro ⟨y,_⟩ z ⟨h1,hy⟩
  have hy:ListOk ps y:=hy
  have h1:(ps.length:Int) = 2:=h1
  have hg:=num2_get h1 hy
  obtain ⟨n0,n1,hyn,i0,i1,hn⟩:=hg
  have noneM:manyS stateS sState L = none → autS ps L = none:=fun h=>by
   unfold autS
   cases num2S ps with
   | none=>rfl
   | some n=>simp only [Option.bind_some,h]; rfl
  refine GetL.is 0 (x:=n0) rfl (get0 hyn) ?_
  refine GetL.is 1 (x:=n1) rfl (get1 hyn) ?_
  repeat refine SameV.mk rfl ?_
  refine LoopP.mk (fun x=>∃ R w acc nx,x = (R,w,(n0,n1,acc,nx,()),()) ∧ acc.length = nx.length ∧ ManyOk stateS sState L StOk (acc.zip nx) R) (fun x=>x.1.length) ⟨L,_,[],[],rfl,rfl,ManyOk.start _ _ _ _⟩ ?_
  rintro x ⟨R,w,acc,nx,rfl,hlen,hm⟩
  have hR:=hL.sfx hm.sfx
  have hp:=take_parts (h:=sState) hR
  have hacc:acc.length ≤ NN:=by have h1:=hm.len; rw [zip_len hlen] at h1; have h2:=hL.len; omega
  refine CallP.mk _ _ (take_pc sState R hR.full (by simp)) ?_ (fun p h=>h.elim)
  rintro y ⟨z,_⟩ ⟨rfl,rfl⟩
  refine BrP.mk' (fun hb=>?_) (fun hb=>?_)
  ·have hb:(takeF sState R).2.1 = false:=by simpa using hb
   have hstop:=(many_stop (f:=stateS) hb).2
   show PieceOk autS ps L (Lim NN autT) (n0,n1,acc,nx,()) (takeF sState R).2.2
   rw [hstop]; exact aut_fin i0 i1 hn hL.len hlen (hm.done hb)
  ·have hb:(takeF sState R).2.1 = true:=by simpa using hb
   refine JoinP.mk (fun x=>∃ w,x = ((takeF sState R).2.2,w,(n0,n1,acc,nx,()),()) ∧ ∃ s l,(takeF sState R).1 = s :: l ∧ (s = [97] ∨ s = [114])) ?_ ?_
   ·rintro x ⟨w,rfl,s,l,hs,hsg⟩
    have g0:(takeF sState R).1[0]? = some s:=by rw [hs]; rfl
    refine GetL.is 0 (x:=s) rfl g0 ?_
    refine AppL.mk' (by show acc.length + 1 ≤ _; unfold NN at hacc; omega) ?_
    have hsub:1 ≤ (takeF sState R).1.length:=by rw [hs]; simp
    refine SubL.from 1 rfl rfl hsub ?_
    have hl1:((takeF sState R).1.drop 1).length ≤ NN:=by rw [List.length_drop]; have:=hp.1; omega
    refine CallP.mk _ _ (list_pc hnum ((takeF sState R).1.drop 1) hl1 (fun p h=>hp.2 p (List.mem_of_mem_drop h))) ?_ ?_
    ·rintro ⟨r,_⟩ z hr
     have hr:ListOk ((takeF sState R).1.drop 1) r:=hr
     refine AppL.mk' (by show nx.length + 1 ≤ _; unfold NN at hacc; omega) ?_
     repeat refine SameV.mk rfl ?_
     refine ⟨⟨_,_,_,_,rfl,?_,?_⟩,take_lt hb⟩
     ·show (acc ++ [s == [97]]).length = (nx ++ [r]).length
      simp [hlen]
     ·show ManyOk stateS sState L StOk ((acc ++ [s == [97]]).zip (nx ++ [r])) (takeF sState R).2.2
      rw [zip_snoc hlen]
      refine hm.next hb (hr.row hl1) fun x hx=>?_
      rw [hs] at hx hr
      simp only [stateS,if_pos hsg,Option.map_eq_some_iff] at hx
      obtain ⟨r',h2,rfl⟩:=hx
      rw [hr.is r' h2]
      cases hd:decide (s = [97]) <;> simp at hd <;> simp [hd]
    ·rintro p ⟨h2,rfl⟩
     refine show _ ∧ _ from ⟨noneM (hm.bad hb ?_),rfl⟩
     rw [hs] at h2 ⊢
     have h2:listS l = none:=h2
     simp only [stateS,if_pos hsg,h2]; rfl
   ·have bad:stateS (takeF sState R).1 = none → autS ps L = none:=fun h=>noneM (hm.bad hb h)
    refine LenL.mk fun _=>?_
    refine BrP.mk' (fun h3=>?_) (fun h3=>?_)
    ·have h3:0 < (takeF sState R).1.length:=by
      have:(0:Int) < ((takeF sState R).1.length:Int):=by simpa using h3
      omega
     have hex:∃ s l,(takeF sState R).1 = s :: l:=by
      match hq:(takeF sState R).1,h3 with
      | s :: l,_=>exact ⟨s,l,rfl⟩
     obtain ⟨s,l,hs⟩:=hex
     have g0:(takeF sState R).1[0]? = some s:=by rw [hs]; rfl
     refine GetL.is 0 (x:=s) rfl g0 ?_
     refine BrP.mk' (fun h4=>?_) (fun h4=>?_)
     ·have h4:s = [97]:=by simpa using h4
      refine CallP.mk _ _ (must_pc true) ?_ (fun p h=>by cases h.1)
      rintro y z _
      repeat refine SameV.mk rfl ?_
      exact ⟨_,rfl,s,l,hs,.inl h4⟩
     ·refine GetL.is 0 (x:=s) rfl g0 ?_
      refine CallP.mk _ _ (must_pc _) ?_ ?_
      ·rintro y z h5
       have h5:s = [114]:=by simpa using h5
       repeat refine SameV.mk rfl ?_
       exact ⟨_,rfl,s,l,hs,.inr h5⟩
      ·rintro p ⟨h5,rfl⟩
       have h4:s ≠ [97]:=by simpa using h4
       have h5:s ≠ [114]:=by simpa using h5
       refine show _ ∧ _ from ⟨bad (stateS_bad fun s' l' hs'=>?_),rfl⟩
       rw [hs] at hs'
       simp only [List.cons.injEq] at hs'
       rw [← hs'.1]; exact fun h=>h.elim h4 h5
    ·have h3:¬ 0 < (takeF sState R).1.length:=fun h6=>by
      have:¬ (0:Int) < ((takeF sState R).1.length:Int):=by simpa using h3
      omega
     refine CallP.mk _ _ (must_pc false) (fun y z h=>by cases h) ?_
     rintro p ⟨_,rfl⟩
     exact show _ ∧ _ from ⟨bad (stateS_bad fun s' l' hs'=>absurd (by rw [hs']; simp) h3),rfl⟩
 ·rintro p ⟨h1,rfl⟩
  exact show _ ∧ _ from ⟨noneN (num2_none h1),rfl⟩
end Go.Proofs.YtpifnlfmojfgpaaGreatDoor.Pk
end
section
set_option maxRecDepth 10000
set_option maxHeartbeats 400000
namespace Go.Proofs.YtpifnlfmojfgpaaGreatDoor.Pk
open Fw Pw Ct
abbrev middleT:AT:=.cons lnsA (.cons iA (.cons (.pv presT) (.cons sA (.cons sA (.cons iA (.cons (.pv tCs) (.cons (.pv annT) (.cons (.pv sepT) (.cons (.pv tIs) (.cons (.pv mapT) .nil))))))))))
noncomputable def a85:FAnn where
 joins:=fun | 2=>some [.kv 0,.kv 2,.mem 0 0 middleT] | 3=>some [.kv 0,.kv 2,.mem 0 0 middleT] | 7=>some [.kv 0,.kv 2,.mem 0 0 middleT] | 10=>some [.kv 0,.kv 2,.mem 0 0 middleT] | 11=>some [.kv 0,.kv 2,.mem 0 0 middleT] | 14=>some [.kv 0,.kv 2,.mem 0 0 middleT] | 17=>some [.kv 0,.kv 2,.mem 0 0 middleT] | _=>none
 sched:=fun | 6=>runS [(0,false),(1,false),(2,false),(3,false),(4,false),(5,false),(6,false),(7,false),(8,false),(9,false),(10,false),(11,false),(12,false),(13,false),(14,false),(15,true)] .fin | _=>.fin
 hot:=fun | 6=>[(2,9,2)] | _=>[]
def sg85:Sig:=⟨[.box middleT],[.box middleT],[]⟩
def mapP (p:Pres) (L:Lns):Option (Map × Lns):=
 if (takeF sDegree L).2.1 then (num1S (takeF sDegree L).1).bind fun g=>(manyS listS sPoint (takeF sDegree L).2.2).map fun m=>((p,g,m.1,()),m.2) else some (((0,[],()),0,[],()),L)
theorem middle_some {p:Pres} {L:Lns} {o} (h:middleS p L = some o):∃ a r s i q v m,optS soleS sConj [] L = some a ∧ manyS cellS sRing a.2 = some r ∧ optS num2S sSep (0,0) r.2 = some s ∧ optS listS sImage [] s.2 = some i ∧ manyS listS sPerm i.2 = some q ∧
  optS listS sValue [] q.2 = some v ∧ mapP p v.2 = some m ∧ o = (((a.1,r.1,()),(s.1.1,s.1.2,i.1,q.1,()),v.1,m.1),m.2):=by
 simp only [middleS,Option.bind_eq_some_iff] at h
 obtain ⟨a,h1,r,h2,s,h3,i,h4,q,h5,v,h6,h⟩:=h
 split at h
 ·rename_i hk
  simp only [Option.bind_eq_some_iff,Option.map_eq_some_iff] at h
  obtain ⟨g,h7,m,h8,rfl⟩:=h
  exact ⟨a,r,s,i,q,v,((p,g,m.1,()),m.2),h1,h2,h3,h4,h5,h6,by simp [mapP,hk,h7,h8],rfl⟩
 ·rename_i hk
  simp only [Option.some.injEq] at h
  subst h
  exact ⟨a,r,s,i,q,v,_,h1,h2,h3,h4,h5,h6,by simp only [mapP]; rw [if_neg hk],rfl⟩
theorem none_middle {p:Pres} {L:Lns} (h:∀ o,middleS p L ≠ some o):middleS p L = none:=by
 cases hq:middleS p L with
 | none=>rfl
 | some o=>exact absurd hq (h o)
structure MiddleOk (p:Pres) (L R:Lns) (a:annT.den) (s:sepT.den) (im:List Int) (m:Map):Prop where
 sfx:R <:+ L
 la:Lim NN annT a
 ls:Lim NN sepT s
 li:Lim NN tIs im
 lm:Lim NN mapT m
 is:∀ o,middleS p L = some o → o = ((a,s,im,m),R)
structure OptOk {α:Type} (f:List Str → Option α) (h:Str) (d:α) (L:Lns) (ok:α → Prop) (y:α) (R:Lns):Prop where
 sfx:R <:+ L
 ok:ok y
 is:∀ o,optS f h d L = some o → o = (y,R)
theorem OptOk.yes {α:Type} {f:List Str → Option α} {h:Str} {d:α} {L:Lns} {ok:α → Prop} {y:α} (hk:(takeF h L).2.1 = true) (ho:ok y) (hy:∀ x,f (takeF h L).1 = some x → x = y):OptOk f h d L ok y (takeF h L).2.2:=
 ⟨take_sfx h L,ho,fun o h1=>by
  unfold optS at h1
  rw [if_pos hk] at h1
  simp only [Option.map_eq_some_iff] at h1
  obtain ⟨x,h2,rfl⟩:=h1
  rw [hy x h2]⟩
theorem OptOk.no {α:Type} {f:List Str → Option α} {h:Str} {d:α} {L:Lns} {ok:α → Prop} (hk:(takeF h L).2.1 = false) (ho:ok d):OptOk f h d L ok d (takeF h L).2.2:=
 ⟨take_sfx h L,ho,fun o h1=>by
  unfold optS at h1
  rw [hk] at h1
  simp only [Bool.false_eq_true,if_false,Option.some.injEq] at h1
  rw [← h1,(many_stop (f:=listS) hk).2]⟩
theorem opt_bad {α:Type} {f:List Str → Option α} {h:Str} {d:α} {L:Lns} (hk:(takeF h L).2.1 = true) (hb:f (takeF h L).1 = none):optS f h d L = none:=by
 unfold optS; rw [if_pos hk,hb]; rfl
theorem row_nil:RowOk []:=⟨Nat.zero_le _,by simp⟩
theorem rows_lim {l:List (List Int)} (hl:l.length ≤ NN) (h:∀ r ∈ l,RowOk r):Lim NN tIss l:=⟨hl,fun r hr=>⟨(h r hr).1,(h r hr).2⟩⟩
theorem done_len {α:Type} {f:List Str → Option α} {h:Str} {L R:Lns} {ok:α → Prop} {ys:List α} (hd:Done f h L ok ys R) (hL:LimL L):ys.length ≤ NN:=
 Nat.le_trans (Nat.le_trans (Nat.le_add_right _ _) hd.1.len) hL.len
theorem map_zero:Lim NN mapT ((0,[],()),0,[],()):=⟨⟨⟨by decide,by decide⟩,⟨Nat.zero_le _,by simp⟩,trivial⟩,⟨by decide,by decide⟩,⟨Nat.zero_le _,by simp⟩,trivial⟩
theorem middle_pc (hnum:NumPC) (k:Int) (p:Pres) (u v:Str) (n:Int) (d:List Cell) (hp:Lim NN presT p) (L:Lns) (hL:LimL L) :
  PC Tryz.prog 85 sg85 ((L,k,p,u,v,n,d,([],[],()),(0,0,[],[],()),[],((0,[],()),0,[],()),()),())
   (fun _ z=>∃ R a s im m,z.1 = (R,k,p,u,v,n,d,a,s,im,m,()) ∧ MiddleOk p L R a s im m) (fun q=>middleS p L = none ∧ q = mal):=by
 refine PC.of a85 [(86,sg86),(130,sg130),(132,sg132),(133,sg133),(134,sg134),(135,sg135),(136,sg136)] (by kernel_rfl) ?_
 -- conj
 refine JoinP.mk (fun x=>∃ cj R1,x = ((R1,k,p,u,v,n,d,(cj,[],()),(0,0,[],[],()),[],((0,[],()),0,[],()),()),()) ∧ oneF sConj [] L = some (cj,R1)) ?_ ?_
 rotate_left
 ·refine CallP.mk _ _ (one_pc sConj [] L hL (by simp)) ?_ ?_
  ·rintro y ⟨R1,_,cj,_⟩ q1
   repeat refine SameV.mk rfl ?_
   exact ⟨cj,R1,rfl,q1⟩
  ·rintro q ⟨h1,rfl⟩
   refine show _ ∧ _ from ⟨none_middle fun o ho=>?_,rfl⟩
   obtain ⟨a,r,s,i,q,v,m,w1,w2,w3,w4,w5,w6,w7,rfl⟩:=middle_some ho
   rw [show optS soleS sConj [] L = none from h1] at w1; cases w1
 rintro x ⟨cj,R1,rfl,q1⟩
 have hR1:LimL R1:=hL.sfx (one_sfx q1)
 -- ring
 refine JoinP.mk (fun x=>∃ ring R2,x = ((R2,k,p,u,v,n,d,(cj,ring,()),(0,0,[],[],()),[],((0,[],()),0,[],()),()),()) ∧ Done cellS sRing R1 CellOk ring R2) ?_ ?_
 rotate_left
 ·refine CallP.mk _ _ (cells_pc hnum sRing R1 hR1 (by simp)) ?_ ?_
  ·rintro ⟨ring,_⟩ ⟨R2,_⟩ q2
   repeat refine SameV.mk rfl ?_
   exact ⟨ring,R2,rfl,q2⟩
  ·rintro q ⟨h1,rfl⟩
   refine show _ ∧ _ from ⟨none_middle fun o ho=>?_,rfl⟩
   obtain ⟨a,r,s,i,q,v,m,w1,w2,w3,w4,w5,w6,w7,rfl⟩:=middle_some ho
   rw [show optS soleS sConj [] L = some (cj,R1) from q1] at w1; cases w1
   rw [h1] at w2; cases w2
 rintro x ⟨ring,R2,rfl,q2⟩
 have hR2:LimL R2:=hR1.sfx q2.1.sfx
 -- sep
 refine JoinP.mk (fun x=>∃ sk sm R3,x = ((R3,k,p,u,v,n,d,(cj,ring,()),(sk,sm,[],[],()),[],((0,[],()),0,[],()),()),()) ∧ OptOk num2S sSep (0,0) R2 (fun y=>In64 y.1 ∧ In64 y.2) (sk,sm) R3) ?_ ?_
 rotate_left
 ·have hp3:=take_parts (h:=sSep) hR2
  refine CallP.mk _ _ (take_pc sSep R2 hR2.full (by simp)) ?_ (fun p h=>h.elim)
  rintro y ⟨z,_⟩ ⟨rfl,rfl⟩
  refine BrP.mk' (fun hk=>?_) (fun hk=>?_)
  ·have hk:(takeF sSep R2).2.1 = true:=hk
   refine CallP.mk _ _ (some_pc hnum _ 2 hp3.1 hp3.2) ?_ ?_
   ·rintro ⟨y,_⟩ z ⟨h1,hy⟩
    have hg:=num2_get (ps:=(takeF sSep R2).1) h1 hy
    obtain ⟨n0,n1,hyn,i0,i1,hn⟩:=hg
    refine GetL.is 0 (x:=n0) rfl (get0 hyn) ?_
    refine GetL.is 1 (x:=n1) rfl (get1 hyn) ?_
    repeat refine SameV.mk rfl ?_
    exact ⟨n0,n1,_,rfl,OptOk.yes hk ⟨i0,i1⟩ hn⟩
   ·rintro q ⟨h1,rfl⟩
    refine show _ ∧ _ from ⟨none_middle fun o ho=>?_,rfl⟩
    obtain ⟨a,r,s,i,q,v,m,w1,w2,w3,w4,w5,w6,w7,rfl⟩:=middle_some ho
    rw [show optS soleS sConj [] L = some (cj,R1) from q1] at w1; cases w1
    have:=q2.2 _ w2; subst this
    rw [opt_bad hk (num2_none (ps:=(takeF sSep R2).1) h1)] at w3; cases w3
  ·have hk:(takeF sSep R2).2.1 = false:=hk
   repeat refine SameV.mk rfl ?_
   exact ⟨0,0,_,rfl,OptOk.no hk ⟨⟨by decide,by decide⟩,⟨by decide,by decide⟩⟩⟩
 rintro x ⟨sk,sm,R3,rfl,q3⟩
 have hR3:LimL R3:=hR2.sfx q3.sfx
 -- image
 refine JoinP.mk (fun x=>∃ si R4,x = ((R4,k,p,u,v,n,d,(cj,ring,()),(sk,sm,si,[],()),[],((0,[],()),0,[],()),()),()) ∧ OptOk listS sImage [] R3 RowOk si R4) ?_ ?_
 rotate_left
 ·have hp4:=take_parts (h:=sImage) hR3
  refine CallP.mk _ _ (take_pc sImage R3 hR3.full (by simp)) ?_ (fun p h=>h.elim)
  rintro y ⟨z,_⟩ ⟨rfl,rfl⟩
  refine BrP.mk' (fun hk=>?_) (fun hk=>?_)
  ·have hk:(takeF sImage R3).2.1 = true:=hk
   refine CallP.mk _ _ (list_pc hnum _ hp4.1 hp4.2) ?_ ?_
   ·rintro ⟨y,_⟩ z hy
    have hy:ListOk (takeF sImage R3).1 y:=hy
    repeat refine SameV.mk rfl ?_
    exact ⟨y,_,rfl,OptOk.yes hk (hy.row hp4.1) fun x hx=>(hy.is x hx).symm⟩
   ·rintro q ⟨h1,rfl⟩
    refine show _ ∧ _ from ⟨none_middle fun o ho=>?_,rfl⟩
    obtain ⟨a,r,s,i,q,v,m,w1,w2,w3,w4,w5,w6,w7,rfl⟩:=middle_some ho
    rw [show optS soleS sConj [] L = some (cj,R1) from q1] at w1; cases w1
    have:=q2.2 _ w2; subst this
    have:=q3.is _ w3; subst this
    rw [opt_bad hk h1] at w4; cases w4
  ·have hk:(takeF sImage R3).2.1 = false:=hk
   repeat refine SameV.mk rfl ?_
   exact ⟨[],_,rfl,OptOk.no hk row_nil⟩
 rintro x ⟨si,R4,rfl,q4⟩
 have hR4:LimL R4:=hR3.sfx q4.sfx
 -- perm
 refine JoinP.mk (fun x=>∃ sp R5,x = ((R5,k,p,u,v,n,d,(cj,ring,()),(sk,sm,si,sp,()),[],((0,[],()),0,[],()),()),()) ∧ Done listS sPerm R4 RowOk sp R5) ?_ ?_
 rotate_left
 ·refine CallP.mk _ _ (rows_pc hnum sPerm R4 hR4 (by simp)) ?_ ?_
  ·rintro ⟨sp,_⟩ ⟨R5,_⟩ q5
   repeat refine SameV.mk rfl ?_
   exact ⟨sp,R5,rfl,q5⟩
  ·rintro q ⟨h1,rfl⟩
   refine show _ ∧ _ from ⟨none_middle fun o ho=>?_,rfl⟩
   obtain ⟨a,r,s,i,q,v,m,w1,w2,w3,w4,w5,w6,w7,rfl⟩:=middle_some ho
   rw [show optS soleS sConj [] L = some (cj,R1) from q1] at w1; cases w1
   have:=q2.2 _ w2; subst this
   have:=q3.is _ w3; subst this
   have:=q4.is _ w4; subst this
   rw [h1] at w5; cases w5
 rintro x ⟨sp,R5,rfl,q5⟩
 have hR5:LimL R5:=hR4.sfx q5.1.sfx
 -- value
 refine JoinP.mk (fun x=>∃ im R6,x = ((R6,k,p,u,v,n,d,(cj,ring,()),(sk,sm,si,sp,()),im,((0,[],()),0,[],()),()),()) ∧ OptOk listS sValue [] R5 RowOk im R6) ?_ ?_
 rotate_left
 ·have hp6:=take_parts (h:=sValue) hR5
  refine CallP.mk _ _ (take_pc sValue R5 hR5.full (by simp)) ?_ (fun p h=>h.elim)
  rintro y ⟨z,_⟩ ⟨rfl,rfl⟩
  refine BrP.mk' (fun hk=>?_) (fun hk=>?_)
  ·have hk:(takeF sValue R5).2.1 = true:=hk
   refine CallP.mk _ _ (list_pc hnum _ hp6.1 hp6.2) ?_ ?_
   ·rintro ⟨y,_⟩ z hy
    have hy:ListOk (takeF sValue R5).1 y:=hy
    repeat refine SameV.mk rfl ?_
    exact ⟨y,_,rfl,OptOk.yes hk (hy.row hp6.1) fun x hx=>(hy.is x hx).symm⟩
   ·rintro q ⟨h1,rfl⟩
    refine show _ ∧ _ from ⟨none_middle fun o ho=>?_,rfl⟩
    obtain ⟨a,r,s,i,q,v,m,w1,w2,w3,w4,w5,w6,w7,rfl⟩:=middle_some ho
    rw [show optS soleS sConj [] L = some (cj,R1) from q1] at w1; cases w1
    have:=q2.2 _ w2; subst this
    have:=q3.is _ w3; subst this
    have:=q4.is _ w4; subst this
    have:=q5.2 _ w5; subst this
    rw [opt_bad hk h1] at w6; cases w6
  ·have hk:(takeF sValue R5).2.1 = false:=hk
   repeat refine SameV.mk rfl ?_
   exact ⟨[],_,rfl,OptOk.no hk row_nil⟩
 rintro x ⟨im,R6,rfl,q6⟩
 have hR6:LimL R6:=hR5.sfx q6.sfx
 have hp7:=take_parts (h:=sDegree) hR6
 have fin:∀ m R,mapP p R6 = some (m,R) ∨ (∀ o,mapP p R6 = some o → o = (m,R)) → R <:+ R6 → Lim NN mapT m → MiddleOk p L R (cj,ring,()) (sk,sm,si,sp,()) im m:=fun m R hm hs lm=>by
  refine ⟨hs.trans (q6.sfx.trans (q5.1.sfx.trans (q4.sfx.trans (q3.sfx.trans (q2.1.sfx.trans (one_sfx q1)))))),⟨one_len q1 hL (Nat.zero_le _),cells_lim (done_len q2 hR1) q2.1.ok,trivial⟩,
   ⟨q3.ok.1,q3.ok.2,⟨q4.ok.1,q4.ok.2⟩,rows_lim (done_len q5 hR4) q5.1.ok,trivial⟩,⟨q6.ok.1,q6.ok.2⟩,lm,fun o ho=>?_⟩
  obtain ⟨a,r,s,i,q,v,m',w1,w2,w3,w4,w5,w6,w7,rfl⟩:=middle_some ho
  rw [show optS soleS sConj [] L = some (cj,R1) from q1] at w1; cases w1
  have:=q2.2 _ w2; subst this
  have:=q3.is _ w3; subst this
  have:=q4.is _ w4; subst this
  have:=q5.2 _ w5; subst this
  have:=q6.is _ w6; subst this
  have:m' = (m,R):=by
   rcases hm with hm | hm
   ·rw [hm] at w7; simpa using w7.symm
   ·exact hm _ w7
  subst this
  rfl
 have bad:mapP p R6 = none → middleS p L = none:=fun hb=>none_middle fun o ho=>by
  obtain ⟨a,r,s,i,q,v,m',w1,w2,w3,w4,w5,w6,w7,rfl⟩:=middle_some ho
  rw [show optS soleS sConj [] L = some (cj,R1) from q1] at w1; cases w1
  have:=q2.2 _ w2; subst this
  have:=q3.is _ w3; subst this
  have:=q4.is _ w4; subst this
  have:=q5.2 _ w5; subst this
  have:=q6.is _ w6; subst this
  rw [hb] at w7; cases w7
 refine CallP.mk _ _ (take_pc sDegree R6 hR6.full (by simp)) ?_ (fun p h=>h.elim)
 rintro y ⟨z,_⟩ ⟨rfl,rfl⟩
 refine BrP.mk' (fun hk=>?_) (fun hk=>?_)
 ·have hk:(takeF sDegree R6).2.1 = true:=hk
  have hR7:LimL (takeF sDegree R6).2.2:=hR6.sfx (take_sfx _ _)
  have hmap:mapP p R6 = (num1S (takeF sDegree R6).1).bind fun g=>(manyS listS sPoint (takeF sDegree R6).2.2).map fun m=>((p,g,m.1,()),m.2):=by unfold mapP; rw [if_pos hk]
  refine JoinP.mk (fun x=>∃ g,x = (((takeF sDegree R6).2.2,k,p,u,v,n,d,(cj,ring,()),(sk,sm,si,sp,()),im,(p,g,[],()),()),()) ∧ In64 g ∧ ∀ x,num1S (takeF sDegree R6).1 = some x → x = g) ?_ ?_
  rotate_left
  ·refine CallP.mk _ _ (copied_pc p hp.2.1.1) ?_ (fun p h=>h.elim)
   rintro ⟨p',_⟩ z hp'
   have hp':p' = p:=hp'
   refine CallP.mk _ _ (some_pc hnum _ 1 hp7.1 hp7.2) ?_ ?_
   ·rintro ⟨y,_⟩ z ⟨h1,hy⟩
    have hy:ListOk (takeF sDegree R6).1 y:=hy
    have hgg:=sole_of (ps:=(takeF sDegree R6).1) h1 hy
    obtain ⟨g,hg⟩:=hgg
    refine GetL.is 0 (x:=g) rfl (get_one hg) ?_
    repeat refine SameV.mk rfl ?_
    refine ⟨g,?_,hy.num g (by rw [hg]; simp),fun x hx=>num1_is (hg ▸ hy) hx⟩
    rw [← hp']; rfl
   ·rintro q ⟨h1,rfl⟩
    refine show _ ∧ _ from ⟨bad ?_,rfl⟩
    rw [hmap,num1_none (ps:=(takeF sDegree R6).1) h1]; rfl
  rintro x ⟨g,rfl,lg,hg⟩
  refine CallP.mk _ _ (rows_pc hnum sPoint _ hR7 (by simp)) ?_ ?_
  ·rintro ⟨mi,_⟩ ⟨R8,_⟩ q8
   have q8:Done listS sPoint (takeF sDegree R6).2.2 RowOk mi R8:=q8
   refine ⟨R8,(cj,ring,()),(sk,sm,si,sp,()),im,(p,g,mi,()),rfl,fin _ _ (.inr fun o ho=>?_) (q8.1.sfx.trans (take_sfx _ _)) ⟨hp,lg,rows_lim (done_len q8 hR7) q8.1.ok,trivial⟩⟩
   rw [hmap] at ho
   simp only [Option.bind_eq_some_iff,Option.map_eq_some_iff] at ho
   obtain ⟨x,h1,m,h2,rfl⟩:=ho
   have:=q8.2 _ h2; subst this
   rw [hg x h1]
  ·rintro q ⟨h1,rfl⟩
   refine show _ ∧ _ from ⟨bad ?_,rfl⟩
   have h1:manyS listS sPoint (takeF sDegree R6).2.2 = none:=h1
   rw [hmap,h1]
   cases num1S (takeF sDegree R6).1 <;> rfl
 ·have hk:(takeF sDegree R6).2.1 = false:=hk
  refine ⟨_,(cj,ring,()),(sk,sm,si,sp,()),im,((0,[],()),0,[],()),rfl,fin _ _ (.inl ?_) (take_sfx _ _) map_zero⟩
  unfold mapP
  rw [hk,(many_stop (f:=listS) hk).2]; rfl
end Go.Proofs.YtpifnlfmojfgpaaGreatDoor.Pk
end
section
set_option maxRecDepth 10000
set_option maxHeartbeats 4000000
namespace Go.Proofs.YtpifnlfmojfgpaaGreatDoor.Pk
open Fw Pw Ct
abbrev bigT:PT:=.cons tI (.cons presT (.cons .str (.cons .str (.cons tI (.cons tCs (.cons annT (.cons sepT (.cons tIs (.cons mapT .nil)))))))))
abbrev structT:AT:=.cons lnsA (.cons (.pv bigT) (.cons (.pv presT) (.cons (.pv autT) (.cons (.ls 36 autT) (.cons (.ls 9 .str) (.cons (.ls 56 Ct.stepT) (.cons (.ls 58 endT) .nil)))))))
abbrev structO:AT:=.cons lnsA (.cons (.pv bigT) (.cons (.pv strT) .nil))
noncomputable def a87:FAnn where
 loops:=fun | 3=>[.kv 0,.kv 4,.mem 4 0 structT] | 6=>[.kv 0,.kv 4,.mem 4 0 structT] | 10=>[.kv 0,.kv 4,.mem 4 0 structT] | 14=>[.kv 0,.kv 4,.mem 4 0 structT] | _=>[]
 joins:=fun | 2=>some [.kv 0,.kv 1,.kv 4,.mem 4 0 structT] | _=>none
 sched:=fun | 5=>runS [(0,false),(1,false),(2,false),(3,false),(4,false),(5,false),(6,false),(7,false),(8,false),(9,false),(10,false),(11,false),(12,true)] .fin | 9=>runS [(0,false),(1,false),(2,false),(3,false),(4,false),(5,false),(6,false),(7,false),(8,false),(9,false),(10,false),(11,true)] .fin | 13=>runS [(0,false),(1,false),(2,false),(3,false),(4,false),(5,false),(6,false),(7,false),(8,false),(9,false),(10,false),(11,false),(12,false),(13,false),(14,false),(15,false),(16,false),(17,false),(18,false),(19,false),(20,false),(21,false),(22,false),(23,false),(24,true)] .fin | 17=>runS [(0,false),(1,false),(2,false),(3,false),(4,false),(5,false),(6,false),(7,false),(8,false),(9,false),(10,false),(11,false),(12,false),(13,false),(14,false),(15,false),(16,false),(17,false),(18,true)] .fin | _=>.fin
 hot:=fun | 5=>[(0,0,1)] | 13=>[(0,0,1)] | 17=>[(0,0,1)] | _=>[]
def sg87:Sig:=⟨[.box structT,.pv tW],[.box structO,.any],[]⟩
structure PiecesOk {α:Type} (f:List Str → Lns → Option (α × Lns)) (h:Str) (L:Lns) (ok:α → Prop) (ys:List α) (R:Lns):Prop where
 len:ys.length + R.length ≤ L.length
 sfx:R <:+ L
 ok:∀ y ∈ ys,ok y
 is:∀ m o,piecesS f h m L = some o → ∃ d m',piecesS f h m' R = some (d,o.2) ∧ o.1 = ys ++ d
theorem PiecesOk.start {α:Type} (f:List Str → Lns → Option (α × Lns)) (h:Str) (L:Lns) (ok:α → Prop):PiecesOk f h L ok [] L:=
 ⟨by simp,List.suffix_rfl,by simp,fun m o ho=>⟨o.1,m,ho,rfl⟩⟩
theorem pieces_take {α:Type} {f:List Str → Lns → Option (α × Lns)} {h:Str} {L:Lns} {m:Nat} {o} (hk:(takeF h L).2.1 = true) (ho:piecesS f h m L = some o):∃ m' a r,f (takeF h L).1 (takeF h L).2.2 = some a ∧ piecesS f h m' a.2 = some r ∧ o = (a.1 :: r.1,r.2):=by
 cases m with
 | zero=>cases ho
 | succ m=>
  simp only [piecesS] at ho
  rw [if_pos hk] at ho
  simp only [Option.bind_eq_some_iff,Option.map_eq_some_iff] at ho
  obtain ⟨a,h1,r,h2,rfl⟩:=ho
  exact ⟨m,a,r,h1,h2,rfl⟩
theorem pieces_stop {α:Type} {f:List Str → Lns → Option (α × Lns)} {h:Str} {L:Lns} {m:Nat} {o} (hk:(takeF h L).2.1 = false) (ho:piecesS f h m L = some o):o = ([],L):=by
 cases m with
 | zero=>cases ho
 | succ m=>
  simp only [piecesS] at ho
  rw [hk] at ho
  simpa using ho.symm
theorem PiecesOk.next {α:Type} {f:List Str → Lns → Option (α × Lns)} {h:Str} {L:Lns} {ok:α → Prop} {ys:List α} {R R':Lns} (hm:PiecesOk f h L ok ys R) (hk:(takeF h R).2.1 = true) {y:α} (hy:PieceOk f (takeF h R).1 (takeF h R).2.2 ok y R'):PiecesOk f h L ok (ys ++ [y]) R':=by
 refine ⟨?_,(hy.sfx.trans (take_sfx h R)).trans hm.sfx,fun z hz=>?_,fun m o ho=>?_⟩
 ·have h1:=hm.len
  have h2:=take_lt hk
  have h3:=hy.sfx.length_le
  rw [List.length_append]
  simp only [List.length_cons,List.length_nil]
  omega
 ·rcases List.mem_append.1 hz with hz | hz
  ·exact hm.ok z hz
  ·simp at hz; subst hz; exact hy.ok
 ·obtain ⟨d,m',h1,h2⟩:=hm.is m o ho
  obtain ⟨m2,a,r,h3,h4,h5⟩:=pieces_take hk h1
  have:=hy.is _ h3; subst this
  simp only [Prod.mk.injEq] at h5
  refine ⟨r.1,m2,by rw [h4,h5.2],?_⟩
  rw [h2,h5.1]; simp
def DoneP {α:Type} (f:List Str → Lns → Option (α × Lns)) (h:Str) (L:Lns) (ok:α → Prop) (ys:List α) (R:Lns):Prop:=
 PiecesOk f h L ok ys R ∧ ∀ m o,piecesS f h m L = some o → o = (ys,R)
theorem PiecesOk.done {α:Type} {f:List Str → Lns → Option (α × Lns)} {h:Str} {L:Lns} {ok:α → Prop} {ys:List α} {R:Lns} (hm:PiecesOk f h L ok ys R) (hk:(takeF h R).2.1 = false):DoneP f h L ok ys R:=
 ⟨hm,fun m o ho=>by
  obtain ⟨d,m',h1,h2⟩:=hm.is m o ho
  have:=pieces_stop hk h1
  simp only [Prod.mk.injEq] at this
  obtain ⟨rfl,h3⟩:=this
  obtain ⟨a,b⟩:=o
  simp only [List.append_nil] at h2 h3
  rw [h2,h3]⟩
theorem PiecesOk.bad {α:Type} {f:List Str → Lns → Option (α × Lns)} {h:Str} {L:Lns} {ok:α → Prop} {ys:List α} {R:Lns} (hm:PiecesOk f h L ok ys R) (hk:(takeF h R).2.1 = true) (hb:f (takeF h R).1 (takeF h R).2.2 = none) (m:Nat):piecesS f h m L = none:=by
 cases ho:piecesS f h m L with
 | none=>rfl
 | some o=>
  obtain ⟨d,m',h1,h2⟩:=hm.is m o ho
  obtain ⟨m2,a,r,h3,_⟩:=pieces_take hk h1
  rw [hb] at h3; cases h3
theorem struct_some {p:Pres} {ps:List Str} {L:Lns} {o} (h:structS p ps L = some o):∃ a m d t e k1 k2 k3,autS ps L = some a ∧ piecesS autS sMult k1 a.2 = some m ∧ manyS diffS sDiff m.2 = some d ∧ piecesS stepS sStep k2 d.2 = some t ∧ piecesS endS sEnd k3 t.2 = some e ∧ o = ((p,a.1,m.1,d.1,t.1,e.1,()),e.2):=by
 simp only [structS,Option.bind_eq_some_iff,Option.map_eq_some_iff] at h
 obtain ⟨a,h1,m,h2,d,h3,t,h4,e,h5,rfl⟩:=h
 exact ⟨a,m,d,t,e,_,_,_,h1,h2,h3,h4,h5,rfl⟩
theorem none_struct {p:Pres} {ps:List Str} {L:Lns} (h:∀ o,structS p ps L ≠ some o):structS p ps L = none:=by
 cases hq:structS p ps L with
 | none=>rfl
 | some o=>exact absurd hq (h o)
theorem num4_get {ps:List Str} {l:List Int} (h:(ps.length:Int) = 4) (hy:ListOk ps l):∃ a b c d,l = [a,b,c,d] ∧ (In64 a ∧ In64 b ∧ In64 c ∧ In64 d) ∧ ∀ n,num4S ps = some n → n = (a,b,c,d):=by
 have hl:l.length = 4:=by rw [hy.len]; omega
 match l,hl,hy with
 | [a,b,c,d],_,hy=>
  refine ⟨a,b,c,d,rfl,⟨hy.num a (by simp),hy.num b (by simp),hy.num c (by simp),hy.num d (by simp)⟩,fun n hn=>?_⟩
  unfold num4S at hn
  split at hn
  ·simp only [Option.bind_eq_some_iff,Option.map_eq_some_iff] at hn
   obtain ⟨x,h1,y,h2,z,h3,t,h4,rfl⟩:=hn
   have:=hy.is [x,y,z,t] (by simp [listS,h1,h2,h3,h4])
   simp only [List.cons.injEq,and_true] at this
   rw [this.1,this.2.1,this.2.2.1,this.2.2.2]
  ·cases hn
theorem num4_none {ps:List Str} (h:(ps.length:Int) = 4 → listS ps = none):num4S ps = none:=by
 cases hq:num4S ps with
 | none=>rfl
 | some n=>
  unfold num4S at hq
  split at hq
  ·simp only [Option.bind_eq_some_iff,Option.map_eq_some_iff] at hq
   obtain ⟨x,h1,y,h2,z,h3,t,h4,rfl⟩:=hq
   have:=h rfl
   simp [listS,h1,h2,h3,h4] at this
  ·cases hq
theorem get4 {α:Type} {l:List α} {a b c d:α} (h:l = [a,b,c,d]):l[0]? = some a ∧ l[1]? = some b ∧ l[2]? = some c ∧ l[3]? = some d:=by rw [h]; exact ⟨rfl,rfl,rfl,rfl⟩
theorem step_piece {ps:List Str} {L R:Lns} {a b c d:Int} {y:List Cell} (hi:In64 a ∧ In64 b ∧ In64 c ∧ In64 d) (hn:∀ n,num4S ps = some n → n = (a,b,c,d)) (hL:LimL L) (hd:Done cellS sProof L CellOk y R):PieceOk stepS ps L (Lim NN Ct.stepT) (a,b,c,d,y,()) R:=
 ⟨hd.1.sfx,⟨hi.1,hi.2.1,hi.2.2.1,hi.2.2.2,cells_lim (done_len hd hL) hd.1.ok,trivial⟩,fun o ho=>by
  simp only [stepS,Option.bind_eq_some_iff,Option.map_eq_some_iff] at ho
  obtain ⟨n,h1,r,h2,rfl⟩:=ho
  have:=hn n h1; subst this
  have:=hd.2 _ h2; subst this
  rfl⟩
theorem end_piece {ps:List Str} {L R:Lns} {a b:Int} {y:List Cell} (h0:In64 a) (h1:In64 b) (hn:∀ n,num2S ps = some n → n = (a,b)) (hL:LimL L) (hd:Done cellS sProof L CellOk y R):PieceOk endS ps L (Lim NN endT) (a,b,y,()) R:=
 ⟨hd.1.sfx,⟨h0,h1,cells_lim (done_len hd hL) hd.1.ok,trivial⟩,fun o ho=>by
  simp only [endS,Option.bind_eq_some_iff,Option.map_eq_some_iff] at ho
  obtain ⟨n,h1,r,h2,rfl⟩:=ho
  have:=hn n h1; subst this
  have:=hd.2 _ h2; subst this
  rfl⟩
theorem doneP_len {α:Type} {f:List Str → Lns → Option (α × Lns)} {h:Str} {L R:Lns} {ok:α → Prop} {ys:List α} (hd:DoneP f h L ok ys R) (hL:LimL L):ys.length ≤ NN:=
 Nat.le_trans (Nat.le_trans (Nat.le_add_right _ _) hd.1.len) hL.len
theorem one_take {h to:Str} {L:Lns} {r:Str × Lns} (hk:(takeF h L).2.1 = true) (hr:oneF h to L = some r):soleS (takeF h L).1 = some r.1 ∧ r.2 = (takeF h L).2.2:=by
 unfold oneF optS at hr
 rw [if_pos hk] at hr
 simp only [Option.map_eq_some_iff] at hr
 obtain ⟨x,h1,rfl⟩:=hr
 exact ⟨h1,rfl⟩
theorem one_bad {h to:Str} {L:Lns} (hk:(takeF h L).2.1 = true) (hr:oneF h to L = none):soleS (takeF h L).1 = none:=by
 unfold oneF optS at hr
 rw [if_pos hk] at hr
 simpa using hr
def WordOk (w:Str):Prop:=w.length ≤ NN
theorem struct_fin {p p':Pres} {ps:List Str} {L R1 R2 R3 R5 R6:Lns} {a:Aut} {ms:List Aut} {ds:List Str} {ts:List Ct.Step} {es:List Ct.End} (hL:LimL L) (hp:Lim NN presT p) (qa:PieceOk autS ps L (Lim NN autT) a R1) (qm:DoneP autS sMult R1 (Lim NN autT) ms R2)
  (qd:Done diffS sDiff R2 WordOk ds R3) (qt:DoneP stepS sStep R3 (Lim NN Ct.stepT) ts R5) (qe:DoneP endS sEnd R5 (Lim NN endT) es R6) (hp':p' = p) (h1:LimL R1) (h2:LimL R2) (h3:LimL R3) (h5:LimL R5):PieceOk (structS p) ps L (Lim NN strT) (p',a,ms,ds,ts,es,()) R6:=by
 subst hp'
 refine ⟨qe.1.sfx.trans (qt.1.sfx.trans (qd.1.sfx.trans (qm.1.sfx.trans qa.sfx))),⟨hp,qa.ok,⟨doneP_len qm h1,qm.1.ok⟩,⟨done_len qd h2,qd.1.ok⟩,⟨doneP_len qt h3,qt.1.ok⟩,⟨doneP_len qe h5,qe.1.ok⟩,trivial⟩,fun o ho=>?_⟩
 obtain ⟨a',m,d,t,e,k1,k2,k3,w1,w2,w3,w4,w5,rfl⟩:=struct_some ho
 have:=qa.is _ w1; subst this
 have:=qm.2 _ _ w2; subst this
 have:=qd.2 _ w3; subst this
 have:=qt.2 _ _ w4; subst this
 have:=qe.2 _ _ w5; subst this
 rfl
theorem struct_pc (hnum:NumPC) (b:bigT.den) (hp:Lim NN presT b.2.1) (ps:List Str) (hl:ps.length ≤ NN) (hs:∀ p ∈ ps,p.length ≤ NN) (L:Lns) (hL:LimL L) (pr:Pres) (au:Aut) :
  PC Tryz.prog 87 sg87 ((L,b,pr,au,[],[],[],[],()),ps,()) (fun _ z=>∃ R s,z.1 = (R,b,s,()) ∧ PieceOk (structS b.2.1) ps L (Lim NN strT) s R) (fun q=>structS b.2.1 ps L = none ∧ q = mal):=by
 refine PC.of a87 [(86,sg86),(130,sg130),(131,sg131),(132,sg132),(133,sg133),(134,sg134),(135,sg135),(136,sg136),(137,sg137),(138,sg138)] (by kernel_rfl) ?_
 refine JoinP.mk (fun x=>∃ p',x = ((L,b,p',au,[],[],[],[],()),()) ∧ p' = b.2.1) ?_ ?_
 rotate_left
 ·refine CallP.mk _ _ (copied_pc b.2.1 hp.2.1.1) ?_ (fun p h=>h.elim)
  rintro ⟨p',_⟩ z hp'
  have hp':p' = b.2.1:=hp'
  repeat refine SameV.mk rfl ?_
  exact ⟨p',rfl,hp'⟩
 rintro x ⟨p',rfl,hp'⟩
 refine CallP.mk _ _ (aut_pc hnum ps L hL hl hs) ?_ ?_
 ·rintro ⟨a,_⟩ ⟨R1,_⟩ qa
  have qa:PieceOk autS ps L (Lim NN autT) a R1:=qa
  have hR1:=hL.sfx qa.sfx
  repeat refine SameV.mk rfl ?_
  -- mult
  refine LoopP.mk (fun x=>∃ ms R,x = ((R,b,p',a,ms,[],[],[],()),()) ∧ PiecesOk autS sMult R1 (Lim NN autT) ms R) (fun x=>x.1.1.length) ⟨[],R1,rfl,PiecesOk.start _ _ _ _⟩ ?_
  rintro x ⟨ms,R,rfl,hm⟩
  have hR:=hR1.sfx hm.sfx
  refine CallP.mk _ _ (take_pc sMult R hR.full (by simp)) ?_ (fun p h=>h.elim)
  rintro y ⟨z,_⟩ ⟨rfl,rfl⟩
  refine BrP.mk' (fun hk=>?_) (fun hk=>?_)
  rotate_left
  ·have hk:(takeF sMult R).2.1 = true:=by simpa using hk
   have hpt:=take_parts (h:=sMult) hR
   have hRt:=hR.sfx (take_sfx sMult R)
   refine CallP.mk _ _ (aut_pc hnum _ _ hRt hpt.1 hpt.2) ?_ ?_
   ·rintro ⟨m,_⟩ ⟨R',_⟩ qm
    have qm:PieceOk autS (takeF sMult R).1 (takeF sMult R).2.2 (Lim NN autT) m R':=qm
    refine AppL.mk' (by show ms.length + 1 ≤ _; have:=hm.len; have:=hR1.len; unfold NN at this; omega) ?_
    repeat refine SameV.mk rfl ?_
    refine And.intro (Exists.intro (ms ++ [m]) (Exists.intro R' (And.intro ?_ (hm.next hk qm)))) ?_
    ·rfl
    ·exact Nat.lt_of_le_of_lt qm.sfx.length_le (take_lt hk)
   ·rintro q ⟨h1,rfl⟩
    refine show _ ∧ _ from ⟨none_struct fun o ho=>?_,rfl⟩
    obtain ⟨a',m,d,t,e,k1,k2,k3,w1,w2,w3,w4,w5,rfl⟩:=struct_some ho
    have:=qa.is _ w1; subst this
    rw [hm.bad hk h1] at w2; cases w2
  have hk:(takeF sMult R).2.1 = false:=by simpa using hk
  have hst:=(many_stop (f:=diffS) hk).2
  have qm:DoneP autS sMult R1 (Lim NN autT) ms (takeF sMult R).2.2:=by rw [hst]; exact hm.done hk
  clear hm
  have E2:∃ R2,R2 = (takeF sMult R).2.2:=⟨_,rfl⟩
  obtain ⟨R2,e2⟩:=E2
  rw [← e2] at qm
  have hR2:=hR1.sfx qm.1.sfx
  repeat refine SameV.mk rfl ?_
  -- diff
  refine LoopP.mk (fun x=>∃ ds R,x = ((R,b,p',a,ms,ds,[],[],()),()) ∧ ManyOk diffS sDiff R2 WordOk ds R) (fun x=>x.1.1.length) (Exists.intro [] (Exists.intro (takeF sMult R).2.2 (And.intro rfl (e2 ▸ ManyOk.start _ _ _ _)))) ?_
  rintro x ⟨ds,R,rfl,hm⟩
  have hR:=hR2.sfx hm.sfx
  refine CallP.mk _ _ (head_pc R hR.full) ?_ (fun p h=>h.elim)
  rintro y z ⟨rfl,rfl⟩
  refine BrP.mk' (fun hk=>?_) (fun hk=>?_)
  ·have hk:headF R = sDiff:=by simpa using hk
   have hk:=head_take (by simp) hk
   refine CallP.mk _ _ (one_pc sDiff [] R hR (by simp)) ?_ ?_
   ·rintro y ⟨R',_,r,_⟩ hq
    have hq:oneF sDiff [] R = some (r,R'):=hq
    have hlr:=one_len hq hR (Nat.zero_le _)
    have hq1:=(one_take hk hq).1
    have hq2:R' = (takeF sDiff R).2.2:=(one_take hk hq).2
    refine CallP.mk _ _ (unspelt_pc r) ?_ (fun p h=>h.elim)
    rintro ⟨w,_⟩ z hw
    have hw:w = if r = [49] then [] else r:=hw
    refine AppL.mk' (by show ds.length + 1 ≤ _; have:=hm.len; have:=hR2.len; unfold NN at this; omega) ?_
    repeat refine SameV.mk rfl ?_
    have hnx:ManyOk diffS sDiff R2 WordOk (ds ++ [w]) R':=by
     rw [hq2]
     refine hm.next hk ?_ fun x hx=>?_
     ·show w.length ≤ NN
      rw [hw]; split
      ·exact Nat.zero_le _
      ·exact hlr
     ·unfold diffS at hx
      rw [hq1] at hx
      simp only [Option.bind_some] at hx
      rw [hw,unS_eq hx]
    have hlt:R'.length < R.length:=by rw [hq2]; exact take_lt hk
    refine And.intro (Exists.intro (ds ++ [w]) (Exists.intro R' (And.intro ?_ hnx))) ?_
    ·rfl
    ·exact hlt
   ·rintro q ⟨hq,rfl⟩
    refine show _ ∧ _ from ⟨none_struct fun o ho=>?_,rfl⟩
    obtain ⟨a',m,d,t,e,k1,k2,k3,w1,w2,w3,w4,w5,rfl⟩:=struct_some ho
    have:=qa.is _ w1; subst this
    have:=qm.2 _ _ w2; subst this
    have hb:diffS (takeF sDiff R).1 = none:=by unfold diffS; rw [one_bad hk hq]; rfl
    rw [hm.bad hk hb] at w3; cases w3
  have hk:headF R ≠ sDiff:=by simpa using hk
  have qd:=hm.done (head_not hk)
  clear hm
  repeat refine SameV.mk rfl ?_
  -- step
  have hR3:=hR
  refine LoopP.mk (fun x=>∃ ts R',x = ((R',b,p',a,ms,ds,ts,[],()),()) ∧ PiecesOk stepS sStep R (Lim NN Ct.stepT) ts R') (fun x=>x.1.1.length) (Exists.intro [] (Exists.intro R (And.intro rfl (PiecesOk.start _ _ _ _)))) ?_
  rintro x ⟨ts,R4,rfl,hm⟩
  have hR4:=hR3.sfx hm.sfx
  refine CallP.mk _ _ (take_pc sStep R4 hR4.full (by simp)) ?_ (fun p h=>h.elim)
  rintro y ⟨z,_⟩ ⟨rfl,rfl⟩
  refine BrP.mk' (fun hk=>?_) (fun hk=>?_)
  rotate_left
  ·have hk:(takeF sStep R4).2.1 = true:=by simpa using hk
   have hpt:=take_parts (h:=sStep) hR4
   have hRt:=hR4.sfx (take_sfx sStep R4)
   have bad:stepS (takeF sStep R4).1 (takeF sStep R4).2.2 = none → structS b.2.1 ps L = none:=fun hb=>none_struct fun o ho=>by
    obtain ⟨a',m,d,t,e,k1,k2,k3,w1,w2,w3,w4,w5,rfl⟩:=struct_some ho
    have:=qa.is _ w1; subst this
    have:=qm.2 _ _ w2; subst this
    have:=qd.2 _ w3; subst this
    rw [hm.bad hk hb] at w4; cases w4
   refine CallP.mk _ _ (some_pc hnum _ 4 hpt.1 hpt.2) ?_ ?_
   ·rintro ⟨y,_⟩ z ⟨h1,hy⟩
    have hg:=num4_get (ps:=(takeF sStep R4).1) h1 hy
    obtain ⟨n0,n1,n2,n3,hyn,hi,hn⟩:=hg
    have g4:=get4 hyn
    refine GetL.is 0 (x:=n0) rfl g4.1 (GetL.is 1 (x:=n1) rfl g4.2.1 (GetL.is 2 (x:=n2) rfl g4.2.2.1 (GetL.is 3 (x:=n3) rfl g4.2.2.2 ?_)))
    refine CallP.mk _ _ (cells_pc hnum sProof _ hRt (by simp)) ?_ ?_
    ·rintro ⟨c,_⟩ ⟨R',_⟩ qc
     have qc:Done cellS sProof (takeF sStep R4).2.2 CellOk c R':=qc
     have hnx:=hm.next hk (step_piece hi hn hRt qc)
     refine AppL.mk' (by show ts.length + 1 ≤ _; have:=hm.len; have:=hR3.len; unfold NN at this; omega) ?_
     repeat refine SameV.mk rfl ?_
     refine And.intro (Exists.intro (ts ++ [(n0,n1,n2,n3,c,())]) (Exists.intro R' (And.intro ?_ hnx))) ?_
     ·rfl
     ·exact Nat.lt_of_le_of_lt qc.1.sfx.length_le (take_lt hk)
    ·rintro q ⟨h2,rfl⟩
     refine show _ ∧ _ from ⟨bad ?_,rfl⟩
     have h2:manyS cellS sProof (takeF sStep R4).2.2 = none:=h2
     unfold stepS
     rw [h2]
     cases num4S (takeF sStep R4).1 <;> rfl
   ·rintro q ⟨h2,rfl⟩
    refine show _ ∧ _ from ⟨bad ?_,rfl⟩
    unfold stepS
    rw [num4_none (ps:=(takeF sStep R4).1) h2]; rfl
  have hk:(takeF sStep R4).2.1 = false:=by simpa using hk
  have hst:=(many_stop (f:=diffS) hk).2
  have qt:DoneP stepS sStep R (Lim NN Ct.stepT) ts (takeF sStep R4).2.2:=by rw [hst]; exact hm.done hk
  clear hm
  have E5:∃ R5,R5 = (takeF sStep R4).2.2:=⟨_,rfl⟩
  obtain ⟨R5,e5⟩:=E5
  rw [← e5] at qt
  have hR5:=hR3.sfx qt.1.sfx
  repeat refine SameV.mk rfl ?_
  -- end
  refine LoopP.mk (fun x=>∃ es R,x = ((R,b,p',a,ms,ds,ts,es,()),()) ∧ PiecesOk endS sEnd R5 (Lim NN endT) es R) (fun x=>x.1.1.length) (Exists.intro [] (Exists.intro (takeF sStep R4).2.2 (And.intro rfl (e5 ▸ PiecesOk.start _ _ _ _)))) ?_
  rintro x ⟨es,R6,rfl,hm⟩
  have hR6:=hR5.sfx hm.sfx
  refine CallP.mk _ _ (take_pc sEnd R6 hR6.full (by simp)) ?_ (fun p h=>h.elim)
  rintro y ⟨z,_⟩ ⟨rfl,rfl⟩
  refine BrP.mk' (fun hk=>?_) (fun hk=>?_)
  rotate_left
  ·have hk:(takeF sEnd R6).2.1 = true:=by simpa using hk
   have hpt:=take_parts (h:=sEnd) hR6
   have hRt:=hR6.sfx (take_sfx sEnd R6)
   have bad:endS (takeF sEnd R6).1 (takeF sEnd R6).2.2 = none → structS b.2.1 ps L = none:=fun hb=>none_struct fun o ho=>by
    obtain ⟨a',m,d,t,e,k1,k2,k3,w1,w2,w3,w4,w5,rfl⟩:=struct_some ho
    have:=qa.is _ w1; subst this
    have:=qm.2 _ _ w2; subst this
    have:=qd.2 _ w3; subst this
    have:=qt.2 _ _ w4; subst this
    rw [hm.bad hk hb] at w5; cases w5
   refine CallP.mk _ _ (some_pc hnum _ 2 hpt.1 hpt.2) ?_ ?_
   ·rintro ⟨y,_⟩ z ⟨h1,hy⟩
    have hg:=num2_get (ps:=(takeF sEnd R6).1) h1 hy
    obtain ⟨n0,n1,hyn,i0,i1,hn⟩:=hg
    refine GetL.is 0 (x:=n0) rfl (get0 hyn) (GetL.is 1 (x:=n1) rfl (get1 hyn) ?_)
    refine CallP.mk _ _ (cells_pc hnum sProof _ hRt (by simp)) ?_ ?_
    ·rintro ⟨c,_⟩ ⟨R',_⟩ qc
     have qc:Done cellS sProof (takeF sEnd R6).2.2 CellOk c R':=qc
     have hnx:=hm.next hk (end_piece i0 i1 hn hRt qc)
     refine AppL.mk' (by show es.length + 1 ≤ _; have:=hm.len; have:=hR5.len; unfold NN at this; omega) ?_
     repeat refine SameV.mk rfl ?_
     refine And.intro (Exists.intro (es ++ [(n0,n1,c,())]) (Exists.intro R' (And.intro ?_ hnx))) ?_
     ·rfl
     ·exact Nat.lt_of_le_of_lt qc.1.sfx.length_le (take_lt hk)
    ·rintro q ⟨h2,rfl⟩
     refine show _ ∧ _ from ⟨bad ?_,rfl⟩
     have h2:manyS cellS sProof (takeF sEnd R6).2.2 = none:=h2
     unfold endS
     rw [h2]
     cases num2S (takeF sEnd R6).1 <;> rfl
   ·rintro q ⟨h2,rfl⟩
    refine show _ ∧ _ from ⟨bad ?_,rfl⟩
    unfold endS
    rw [num2_none (ps:=(takeF sEnd R6).1) h2]; rfl
  have hk:(takeF sEnd R6).2.1 = false:=by simpa using hk
  have hst:=(many_stop (f:=diffS) hk).2
  have qe:DoneP endS sEnd R5 (Lim NN endT) es (takeF sEnd R6).2.2:=by rw [hst]; exact hm.done hk
  refine Exists.intro (takeF sEnd R6).2.2 (Exists.intro (p',a,ms,ds,ts,es,()) (And.intro ?_ ?_))
  ·rfl
  ·exact struct_fin hL hp qa qm qd qt qe hp' hR1 hR2 hR3 hR5
 ·rintro q ⟨h1,rfl⟩
  refine show _ ∧ _ from ⟨none_struct fun o ho=>?_,rfl⟩
  obtain ⟨a,m,d,t,e,k1,k2,k3,w1,w2,w3,w4,w5,rfl⟩:=struct_some ho
  rw [h1] at w1; cases w1
end Go.Proofs.YtpifnlfmojfgpaaGreatDoor.Pk
end
section
set_option maxRecDepth 10000
set_option maxHeartbeats 400000
namespace Go.Proofs.YtpifnlfmojfgpaaGreatDoor.Pk
open Fw Pw Ct
def nw (n:Nat) (w:World):Pos:=fun g _=>n ≤ g ∧ g < w.heap.size
theorem nw_ext {b n:Nat} {W W':World} (h:Chg (· = b) W W') (hb:b < n):∀ g o,nw n W g o → nw n W' g o ∧ W'.cell? ⟨g,o,none⟩ = W.cell? ⟨g,o,none⟩:=
 fun g o hg=>⟨⟨hg.1,Nat.lt_of_lt_of_le hg.2 h.size⟩,World.cell?_of_block (h.block g hg.2 (by have:=hg.1; omega))⟩
def Box (b:Nat) (W:World) (vs:List Value):Prop:=∀ (j:Nat) (v:Value),vs[j]? = some v → W.cell? ⟨b,j,none⟩ = some v ∧ W.frozen? ⟨b,j,none⟩ = false
structure KeepX (b n:Nat) (W W':World):Prop where
 chg:Chg (· = b) W W'
 cell:∀ j,n ≤ j → W'.cell? ⟨b,j,none⟩ = W.cell? ⟨b,j,none⟩ ∧ W'.frozen? ⟨b,j,none⟩ = W.frozen? ⟨b,j,none⟩
theorem Box.app {b:Nat} {W W':World} {us us' rest:List Value} (h:Box b W (us ++ rest)) (k:KeepX b us.length W W') (h':Box b W' us') (hl:us'.length = us.length):Box b W' (us' ++ rest):=fun j v hj=>by
 by_cases hlt:j < us'.length
 ·rw [List.getElem?_append_left hlt] at hj
  exact h' j v hj
 ·have hge:us.length ≤ j:=by omega
  rw [List.getElem?_append_right (by omega)] at hj
  obtain ⟨h1,h2⟩:=h j v (by rw [List.getElem?_append_right hge,← hl]; exact hj)
  obtain ⟨k1,k2⟩:=k.cell j hge
  exact ⟨k1.trans h1,k2.trans h2⟩
theorem Box.left {b:Nat} {W:World} {us rest:List Value} (h:Box b W (us ++ rest)):Box b W us:=fun j v hj=>by
 have hlt:j < us.length:=(List.getElem?_eq_some_iff.1 hj).1
 exact h j v (by rw [List.getElem?_append_left hlt]; exact hj)
theorem Box.of {b:Nat} {W:World} {vs:List Value} {t:TypeId} (h:W.heap[b]? = some (.cells vs.toArray t (0,0))):Box b W vs:=fun j v hj=>by
 have h1:=cellOf h j
 have h2:=frozenOf (k:=j) h
 rw [mk_add,Nat.zero_add] at h1 h2
 exact ⟨h1.trans (by simpa using hj),h2⟩
theorem box_call {f:FuncId} {T T':AT} {ps rs:List PT} {x:T.den} {y:aden (ps.map AT.pv)} {Q:aden (rs.map AT.pv) → T'.den × aden (anyL ps.length) → Prop} {Qp:AV → Prop}
  (h:PC Tryz.prog f ⟨.box T :: ps.map AT.pv,.box T' :: anyL ps.length,rs.map AT.pv⟩ (x,y) Q Qp) (hmal:∀ q,Qp q → q = mal) {W:World} {b n:Nat} {us vs:List Value} (hT:TR Tryz.prog (nw n W) W T x us .no) (hus:us.length = T.sz) (hbx:Box b W us) (hb:ngl ≤ b) (hbn:b < n) (hnW:n ≤ W.heap.size)
  (hp:PVs (nw n W) W ps y vs) (hg:GOk W) (hsz:T'.sz = T.sz) :
  Calls Tryz.prog f (.pointer (some ⟨b,0,none⟩) :: vs).toArray W fun e W'=>KeepX b T.sz W W' ∧ GOk W' ∧ match e with
   | .returned v=>∃ A' ya z ra us' ω',(∀ g o,A' g o → nw n W' g o) ∧ Q ya z ∧ v = retV ra ∧ PVs A' W' rs ya ra ∧ TR Tryz.prog A' W' T' z.1 us' ω' ∧ us'.length = T.sz ∧ Box b W' us'
   | .panicked ch=>ch = [{ v:=.iface 132 (.agg #[]),recovered:=false }] ∧ ∃ q,Qp q
   | .outgrown=>False:=by
 obtain ⟨ω,hω⟩:∃ ω:Ow,ω = ⟨fun g o=>g = b ∧ o < T.sz,fun _=>False⟩:=⟨_,rfl⟩
 have hbW:b < W.heap.size:=by omega
 have hno:∀ g o,g < W.heap.size → (g = b → T.sz ≤ o) → ¬ OP (OF (nw n W) W ω) (nw n W) g o:=fun g o hlt hgo hop=>by
  rcases hop with (hop | hop) | ⟨hop | hop,_⟩
  ·omega
  ·rw [hω] at hop
   obtain ⟨h1,h2⟩:=hop
   have:=hgo h1
   omega
  ·omega
  ·rw [hω] at hop; exact hop
 have keep:∀ {A':Pos} {W':World} {ω':Ow},After (nw n W) W ω A' W' ω' → KeepX b T.sz W W' ∧ GOk W':=fun {A' W' ω'} ha=>by
  have hc:Chg (· = b) W W':=⟨ha.fr.os,ha.fr.tape,ha.fr.output,ha.fr.size,fun k hk hn=>ha.fr.block k hk fun o=>hno k o hk fun e=>absurd e hn⟩
  exact ⟨⟨hc,fun j hj=>ha.fr.cell b j hbW (hno b j hbW fun _=>hj)⟩,hg.keep ha.fr.size fun g hlt=>hc.block g (Nat.lt_of_lt_of_le hlt hg.size) (by omega)⟩
 refine Calls.mono (h.2 (nw n W) W (.pointer (some ⟨b,0,none⟩) :: vs) ω ⟨.pointer (some ⟨b,0,none⟩),vs,ω,.no,rfl,⟨[_],⟨b,0,us,.no,ω,rfl,hus,hT,fun j v hj=>?_,⟨fun _ _ h=>h.elim,fun _ h=>h.elim,fun _ _ h=>h.elim,fun _ _ _ h=>h.elim⟩,Ow.no_le _,.refl _⟩,rfl,rfl⟩,hp.trs,?_,.refl _,Ow.no_le _⟩
  (fun g o h=>h.2) ⟨hg,fun g o hc=>?_,fun g ht=>?_⟩) fun e W' he=>?_
 ·have hlt:j < us.length:=(List.getElem?_eq_some_iff.1 hj).1
  obtain ⟨h1,h2⟩:=hbx j v hj
  rw [Nat.zero_add]
  exact ⟨h1,h2,fun h=>absurd h.1 (by omega),by rw [hω]; exact ⟨rfl,by omega⟩⟩
 ·rw [hω]
  exact ⟨fun _ _ _ h=>h.elim,fun _ h=>h.elim,fun _ _ h=>h.elim,fun _ _ h=>h.elim⟩
 ·rw [hω] at hc
  rw [hc.1]; exact hb
 ·rw [hω] at ht; exact ht.elim
 ·cases e with
  | returned v=>
   obtain ⟨A',ya,z,ra,ω1,ω2,hq,rfl,hrs,hout,_,ha⟩:=he
   obtain ⟨k1,k2⟩:=keep ha
   obtain ⟨ω3,ω4,⟨g,o,us',ω5,ω6,hgo,hul,htr,hcells,_⟩,_,_⟩:=hout
   have hgo:[Value.pointer (some ⟨b,0,none⟩)] = [.pointer (some ⟨g,o,none⟩)]:=hgo
   have hgo:g = b ∧ o = 0:=by
    injection hgo with h1 _
    injection h1 with h1
    injection h1 with h1
    injection h1 with h1 h2 _
    exact ⟨h1.symm,h2.symm⟩
   obtain ⟨rfl,rfl⟩:=hgo
   refine ⟨k1,k2,A',ya,z,ra,us',ω5,fun g' o' hA=>⟨?_,ha.low g' o' hA⟩,hq,rfl,hrs.pvs,htr,hul.trans hsz,fun j v hj=>?_⟩
   ·rcases ha.an _ _ hA with hA' | hop
    ·exact hA'.1
    ·by_cases hlt:g' < W.heap.size
     ·by_cases hgb:g' = g
      ·subst hgb
       by_cases hlo:o' < T.sz
       ·have hj:us'[o']? = some us'[o']:=List.getElem?_eq_getElem (by omega)
        have:=(hcells o' _ hj).2.2.1
        rw [Nat.zero_add] at this
        exact absurd hA this
       ·exact absurd hop (hno _ _ hlt fun _=>by omega)
      ·exact absurd hop (hno _ _ hlt fun e=>absurd e hgb)
     ·omega
   ·have:=hcells j v hj
    rw [Nat.zero_add] at this
    exact ⟨this.1,this.2.1⟩
  | panicked ch=>
   obtain ⟨A',t,p,u,hq,rfl,hu,_,ha⟩:=he
   obtain ⟨k1,k2⟩:=keep ha
   have hm:=hmal _ hq
   have hm:AV.ifc t p = .ifc 132 (.pv .nil ()):=hm
   injection hm with h1 h2
   subst h1; subst h2
   obtain ⟨vs',r1,r2⟩:=hu
   have r1:vs' = []:=r1
   have r2:u = .agg vs'.toArray:=r2
   subst r1; subst r2
   exact ⟨k1,k2,rfl,_,hq⟩
  | outgrown=>exact he.elim
end Go.Proofs.YtpifnlfmojfgpaaGreatDoor.Pk
end
section
namespace Go.Proofs.YtpifnlfmojfgpaaGreatDoor.Ct
open Go.Lib Pw
def clean (p:Str):Bool:=p.all fun c=>c != 10 && c != 32
def CleanL (L:Lns):Prop:=∀ l ∈ L,l ≠ [] ∧ ∀ p ∈ l,clean p = true
theorem CleanL.app {A B:Lns} (h:CleanL A) (k:CleanL B):CleanL (A ++ B):=fun l hl=>(List.mem_append.1 hl).elim (h l) (k l)
theorem CleanL.nil:CleanL []:=fun l hl=>by simp at hl
theorem CleanL.map {α:Type} {f:α → List Str} {D:List α} (h:∀ d ∈ D,f d ≠ [] ∧ ∀ p ∈ f d,clean p = true):CleanL (D.map f):=fun l hl=>by
 obtain ⟨d,hd,rfl⟩:=List.mem_map.1 hl
 exact h d hd
theorem CleanL.flat {α:Type} {f:α → Lns} {D:List α} (h:∀ d ∈ D,CleanL (f d)):CleanL (D.flatMap f):=fun l hl=>by
 obtain ⟨d,hd,hl⟩:=List.mem_flatMap.1 hl
 exact h d hd l hl
theorem CleanL.cons {l:List Str} {L:Lns} (h:l ≠ []) (h2:∀ p ∈ l,clean p = true) (k:CleanL L):CleanL (l :: L):=fun x hx=>by
 rcases List.mem_cons.1 hx with rfl | hx
 ·exact ⟨h,h2⟩
 ·exact k x hx
theorem CleanL.ite {p:Prop} [Decidable p] {l:List Str} (h:l ≠ []) (h2:¬ p → ∀ q ∈ l,clean q = true):CleanL (if p then [] else [l]):=by
 split
 ·exact .nil
 ·rename_i hp; exact .cons h (h2 hp) .nil
theorem clean_itoa (n:Int):clean (itoa n) = true:=by
 unfold clean
 rw [List.all_eq_true]
 intro c hc
 rcases (itoa_chars n).2 c hc with h | h
 ·unfold isDig at h
  have h1:c ≠ 10:=fun he=>by rw [he] at h; exact absurd h.1 (by decide)
  have h2:c ≠ 32:=fun he=>by rw [he] at h; exact absurd h.1 (by decide)
  simp [h1,h2]
 ·rw [h]; decide
theorem clean_word {w:Str} (h:isW w = true):clean w = true:=by
 unfold clean
 rw [List.all_eq_true]
 intro c hc
 have h:=isW_char h c hc
 have h1:c ≠ 10:=fun he=>by rw [he] at h; exact absurd h (by decide)
 have h2:c ≠ 32:=fun he=>by rw [he] at h; exact absurd h (by decide)
 simp [h1,h2]
theorem clean_wordS {w:Str} (h:isW w = true):clean (wordS w) = true:=by
 unfold wordS
 split
 ·rfl
 ·exact clean_word h
theorem clean_itoas {h:Str} (hh:clean h = true) (l:List Int):∀ p ∈ h :: itoas l,clean p = true:=fun p hp=>by
 rcases List.mem_cons.1 hp with rfl | hp
 ·exact hh
 ·obtain ⟨n,_,rfl⟩:=List.mem_map.1 hp
  exact clean_itoa n
theorem clean_cells {h:Str} (hh:clean h = true) {d:List Cell} (hw:cellsW d = true):CleanL (cellsL h d):=by
 refine CleanL.map fun c hc=>⟨by simp [cellL],fun p hp=>?_⟩
 simp only [cellsW,List.all_eq_true] at hw
 simp only [cellL,List.mem_cons,List.not_mem_nil,or_false] at hp
 rcases hp with rfl | rfl | rfl | rfl
 ·exact hh
 ·split <;> rfl
 ·exact clean_itoa _
 ·exact clean_wordS (hw c hc)
theorem clean_rows {h:Str} (hh:clean h = true) (l:List (List Int)):CleanL (l.map fun r=>h :: itoas r):=CleanL.map fun r _=>⟨by simp,clean_itoas hh r⟩
theorem clean_aut {h:Str} (hh:clean h = true) (a:Aut):CleanL (autL h a):=by
 refine CleanL.cons (by simp) (clean_itoas hh _) (CleanL.map fun p _=>⟨by simp [stateL],fun q hq=>?_⟩)
 unfold stateL at hq
 rcases List.mem_cons.1 hq with rfl | hq
 ·rfl
 ·refine clean_itoas ?_ p.2 q hq
  split <;> rfl
theorem clean_str {s:Strc} (hw:strW s = true):CleanL (strL s):=by
 simp only [strW,Bool.and_eq_true,List.all_eq_true] at hw
 obtain ⟨⟨⟨⟨w1,w2⟩,w3⟩,w4⟩,w5⟩:=hw
 refine (clean_aut rfl _).app ((CleanL.flat fun a _=>clean_aut rfl a).app ((CleanL.map fun d hd=>⟨by simp,fun p hp=>?_⟩).app ((CleanL.flat fun t ht=>?_).app (CleanL.flat fun t ht=>?_))))
 ·simp only [List.mem_cons,List.not_mem_nil,or_false] at hp
  rcases hp with rfl | rfl
  ·rfl
  ·exact clean_wordS (w3 d hd)
 ·exact CleanL.cons (by simp) (clean_itoas rfl _) (clean_cells rfl (w4 t ht))
 ·exact CleanL.cons (by simp) (clean_itoas rfl _) (clean_cells rfl (w5 t ht))
theorem clean_two {h w:Str} (hh:clean h = true) (hw:clean w = true):∀ p ∈ [h,w],clean p = true:=fun p hp=>by
 simp only [List.mem_cons,List.not_mem_nil,or_false] at hp
 rcases hp with rfl | rfl <;> assumption
theorem clean_kind {k:Int} (h1:1 ≤ k) (h2:k ≤ 9):clean (kindW k) = true:=by
 have:k = 1 ∨ k = 2 ∨ k = 3 ∨ k = 4 ∨ k = 5 ∨ k = 6 ∨ k = 7 ∨ k = 8 ∨ k = 9:=by omega
 rcases this with h | h | h | h | h | h | h | h | h <;> rw [h] <;> rfl
theorem clean_claim {c:Clm} (hw:writable c = true):CleanL (linesC c):=by
 simp only [writable,Bool.and_eq_true,decide_eq_true_eq] at hw
 obtain ⟨⟨⟨⟨⟨⟨⟨⟨⟨⟨w1,w2⟩,w3⟩,w4⟩,w5⟩,w6⟩,w7⟩,w8⟩,w9⟩,w10⟩,w11⟩:=hw
 have hk:clean (kindW c.1) = true:=clean_kind w1 w2
 unfold linesC
 refine CleanL.app ?_ ((clean_cells rfl w7).app ((CleanL.ite (by simp) fun _=>clean_two rfl (clean_word w5)).app ((clean_cells rfl w8).app (CleanL.app ?_ ((CleanL.ite (by simp) fun _=>clean_itoas rfl _).app (CleanL.app ?_ (CleanL.app ?_ (CleanL.cons (by simp) ?_ .nil))))))))
 ·refine CleanL.cons (by simp) (clean_two rfl hk) (CleanL.cons (by simp) (clean_two rfl (clean_itoa _)) ((CleanL.map fun r hr=>⟨by simp,clean_two rfl ?_⟩).app ((CleanL.ite (by simp) fun _=>clean_two rfl (clean_word w3)).app ((CleanL.ite (by simp) fun _=>clean_two rfl (clean_word w4)).app (CleanL.ite (by simp) fun _=>clean_two rfl (clean_itoa _))))))
  simp only [List.all_eq_true,Bool.and_eq_true] at w6
  exact clean_word (w6 r hr).1
 ·exact (CleanL.ite (by simp) fun _=>clean_itoas rfl _).app ((CleanL.ite (by simp) fun _=>clean_itoas rfl _).app (clean_rows rfl _))
 ·unfold mapL
  split
  ·exact .nil
  ·exact CleanL.cons (by simp) (clean_two rfl (clean_itoa _)) (clean_rows rfl _)
 ·split
  ·exact .nil
  ·exact clean_str w11
 ·intro p hp
  simp only [List.mem_cons,List.not_mem_nil,or_false] at hp
  subst hp; rfl
end Go.Proofs.YtpifnlfmojfgpaaGreatDoor.Ct
end
section
namespace Go.Proofs.YtpifnlfmojfgpaaGreatDoor.Ct
open Go.Lib Pw
def spl (b:UInt8):Str → List Str
 | []=>[[]]
 | c :: s=>if c = b then [] :: spl b s else (c :: (spl b s).headD []) :: (spl b s).tail
theorem spl_ne (b:UInt8):∀ s:Str,spl b s ≠ []
 | []=>by simp [spl]
 | c :: s=>by simp only [spl]; split <;> simp
theorem spl_at {b:UInt8} (s:Str):∀ p:Str,b ∉ p → spl b (p ++ b :: s) = p :: spl b s
 | [],_=>by simp [spl]
 | c :: p,h=>by
  have h1:c ≠ b:=fun he=>h (by rw [he]; exact List.mem_cons_self ..)
  have h2:=spl_at s p fun hm=>h (List.mem_cons_of_mem _ hm)
  simp only [List.cons_append,spl,if_neg h1,h2]
  rfl
theorem spl_none {b:UInt8}:∀ s:Str,b ∉ s → spl b s = [s]
 | [],_=>rfl
 | c :: p,h=>by
  have h1:c ≠ b:=fun he=>h (by rw [he]; exact List.mem_cons_self ..)
  have h2:=spl_none p fun hm=>h (List.mem_cons_of_mem _ hm)
  simp only [spl,if_neg h1,h2]
  rfl
theorem spl_len (b:UInt8):∀ s:Str,(spl b s).length ≤ s.length + 1
 | []=>by simp [spl]
 | c :: s=>by
  have h:=spl_len b s
  have h1:(spl b s).length = (spl b s).tail.length + 1:=by
   cases hs:spl b s with
   | nil=>exact absurd hs (spl_ne b s)
   | cons x l=>rfl
  simp only [spl]
  split <;> simp only [List.length_cons] <;> omega
theorem spl_part (b:UInt8):∀ s:Str,∀ p ∈ spl b s,p.length ≤ s.length
 | [],p,h=>by simp [spl] at h; subst h; simp
 | c :: s,p,h=>by
  have ih:=spl_part b s
  simp only [spl] at h
  have hd:((spl b s).headD []).length ≤ s.length:=by
   cases hs:spl b s with
   | nil=>simp
   | cons x l=>exact ih x (by rw [hs]; simp)
  split at h
  ·rcases List.mem_cons.1 h with rfl | h
   ·simp
   ·have:=ih p h; simp only [List.length_cons]; omega
  ·rcases List.mem_cons.1 h with rfl | h
   ·simp only [List.length_cons]; omega
   ·have:=ih p (List.mem_of_mem_tail h); simp only [List.length_cons]; omega
theorem clean_no10 {p:Str} (h:clean p = true):(10:UInt8) ∉ p:=fun hm=>by
 simp only [clean,List.all_eq_true,Bool.and_eq_true,bne_iff_ne,ne_eq] at h
 exact (h 10 hm).1 rfl
theorem clean_no32 {p:Str} (h:clean p = true):(32:UInt8) ∉ p:=fun hm=>by
 simp only [clean,List.all_eq_true,Bool.and_eq_true,bne_iff_ne,ne_eq] at h
 exact (h 32 hm).2 rfl
theorem spl_line:∀ (q:Str) (r:List Str),(∀ p ∈ q :: r,clean p = true) → spl 32 (q ++ r.flatMap (32 :: ·)) = q :: r
 | q,[],h=>by simpa using spl_none q (clean_no32 (h q (by simp)))
 | q,x :: r,h=>by
  have ih:=spl_line x r fun p hp=>h p (by simp at hp ⊢; exact .inr hp)
  rw [List.flatMap_cons,List.cons_append,spl_at _ q (clean_no32 (h q (by simp))),ih]
theorem line_no10 {l:List Str} (h:∀ p ∈ l,clean p = true):(10:UInt8) ∉ lineS l:=by
 cases l with
 | nil=>simp [lineS]
 | cons q r=>
  intro hm
  rcases List.mem_append.1 hm with hm | hm
  ·exact clean_no10 (h q (by simp)) hm
  ·obtain ⟨p,hp,hq⟩:=List.mem_flatMap.1 hm
   rcases List.mem_cons.1 hq with hq | hq
   ·cases hq
   ·exact clean_no10 (h p (by simp [hp])) hq
theorem spl_text:∀ (l:List Str) (L:Lns),(∀ p ∈ l,clean p = true) → CleanL L → ∃ t,textL (l :: L) = t ++ [10] ∧ spl 10 t = lineS l :: L.map lineS
 | l,[],h,_=>⟨lineS l,by simp [textL],spl_none _ (line_no10 h)⟩
 | l,m :: L,h,hL=>by
  obtain ⟨t,h1,h2⟩:=spl_text m L (hL m (by simp)).2 fun x hx=>hL x (by simp [hx])
  refine ⟨lineS l ++ 10 :: t,?_,?_⟩
  ·have h3:textL (l :: m :: L) = (lineS l ++ [10]) ++ textL (m :: L):=rfl
   rw [h3,h1]; simp
  ·rw [spl_at _ _ (line_no10 h),h2]; rfl
def cutL (t:Str):Lns:=(spl 10 t).map (spl 32)
theorem cut_lines:∀ {L:Lns},CleanL L → (L.map lineS).map (spl 32) = L
 | [],_=>rfl
 | l :: L,h=>by
  have h1:=h l (by simp)
  rw [List.map_cons,List.map_cons,cut_lines fun x hx=>h x (by simp [hx])]
  cases l with
  | nil=>exact absurd rfl h1.1
  | cons q r=>rw [lineS,spl_line q r h1.2]
theorem cut_text {L:Lns} (h:CleanL L) (hne:L ≠ []):∃ t,textL L = t ++ [10] ∧ cutL t = L:=by
 cases L with
 | nil=>exact absurd rfl hne
 | cons l L=>
  obtain ⟨t,h1,h2⟩:=spl_text l L (h l (by simp)).2 fun x hx=>h x (by simp [hx])
  refine ⟨t,h1,?_⟩
  unfold cutL
  rw [h2]
  exact cut_lines h
theorem cut_len (t:Str):(cutL t).length ≤ t.length + 1:=by unfold cutL; rw [List.length_map]; exact spl_len 10 t
theorem cut_full (t:Str):∀ l ∈ cutL t,l ≠ []:=fun l hl=>by
 obtain ⟨s,_,rfl⟩:=List.mem_map.1 hl
 exact spl_ne 32 s
theorem cut_parts (t:Str):∀ l ∈ cutL t,l.length ≤ t.length + 1 ∧ ∀ p ∈ l,p.length ≤ t.length:=fun l hl=>by
 obtain ⟨s,hs,rfl⟩:=List.mem_map.1 hl
 have h1:=spl_part 10 t s hs
 exact ⟨Nat.le_trans (spl_len 32 s) (by omega),fun p hp=>Nat.le_trans (spl_part 32 s p hp) h1⟩
end Go.Proofs.YtpifnlfmojfgpaaGreatDoor.Ct
end
