/- Parts of a proof, laid one behind the other by our own merge.py: RkCells RkStates RkStruct RkClm0 RkClm13 RkClm12 RkClm11 RkClm10 RkClm9 RkClm7 RkClm5 RkClm3 RkClaim. -/
import Derived.Test.YtpifnlfmojfgpaaGreatDoorCr12
import Derived.Test.YtpifnlfmojfgpaaGreatDoorCr8
set_option linter.unusedVariables false
set_option linter.unusedSimpArgs false
section
set_option maxRecDepth 10000
set_option maxHeartbeats 400000
namespace Go.Proofs.YtpifnlfmojfgpaaGreatDoor.Rk
open Fw Pw Ct Pk
noncomputable def a93:FAnn where
 loops:=fun | 3=>[.kv 0,.kv 1,.sl 5 (.ls 3 (.int .i64)),.sl 6 (.pv (.int .i64)),.mem 0 0 rdA] | _=>[]
noncomputable def a91:FAnn:={}
noncomputable def a140:FAnn:={}
noncomputable def a90:FAnn:={}
noncomputable def a92:FAnn where
 loops:=fun | 2=>[.kv 0,.kv 1,.sl 5 (.ls 96 (.cons (.str) (.cons (.int .i64) (.cons (.bool) (.nil))))),.mem 0 0 rdA] | _=>[]
 joins:=fun | 9=>some [.kv 0,.kv 1,.sl 5 (.ls 96 (.cons (.str) (.cons (.int .i64) (.cons (.bool) (.nil))))),.kv 6,.mem 0 0 rdA] | _=>none
 sched:=fun | 9=>runS [(0,false),(1,false),(2,false),(3,false),(4,false),(5,false),(6,false),(7,false),(8,false),(10,false),(11,false),(12,false),(13,false),(9,false),(14,false),(15,false),(16,false),(17,true),(18,false)] .fin | _=>.fin
 hot:=fun | 9=>[(0,0,3)] | _=>[]
def sg93:Sig:=⟨[.box rdA,.pv tW],[.box rdA,.any],[.pv tIs]⟩
def sg91:Sig:=⟨[.box rdA,.pv tW,iA],[.box rdA,.any,.any],[.pv tIs]⟩
def sg140:Sig:=⟨[.box rdA,sA],[.box rdA,.any],[sA]⟩
def sg90:Sig:=⟨[.box rdA,.pv tW],[.box rdA,.any],[sA]⟩
def sg92:Sig:=⟨[.box rdA,sA],[.box rdA,.any],[.pv tCs]⟩
theorem bnot_t {b:Bool} (h:(!b) = true):b = false:=by cases b <;> first | rfl | cases h
theorem bnot_f {b:Bool} (h:(!b) = false):b = true:=by cases b <;> first | rfl | cases h
structure RListOk (ps:List Str) (ok:Bool) (l:List Int) (ok':Bool):Prop where
 len:l.length = ps.length
 num:∀ n ∈ l,In64 n
 is:ok = true → ∀ r,listS ps = some r → ok' = true ∧ l = r
theorem rlist_pc (L:Lns) (a:Nat) (ok:Bool) (ps:List Str) (hl:ps.length ≤ NN) (hs:∀ p ∈ ps,p.length ≤ NN):PC Tryz.prog 93 sg93 (rd L a ok,ps,()) (fun y z=>∃ ok',z.1 = rd L a ok' ∧ RListOk ps ok y.1 ok') (fun _=>False):=by
 refine PC.of a93 [(139,sg139)] (by kernel_rfl) ?_
 have hNN:ps.length ≤ 20001:=hl
 repeat refine SameV.mk rfl ?_
 refine LoopP.mk (fun x=>∃ (out:List Int) (i:Nat) (ok':Bool),x = (out,(i:Int),rd L a ok',()) ∧ i ≤ ps.length ∧ out.length = i ∧ (∀ n ∈ out,In64 n) ∧ (ok = true → ∀ r,listS ps = some r → ok' = true ∧ out = r.take i)) (fun x=>ps.length - x.2.1.toNat) ⟨[],0,ok,rfl,Nat.zero_le _,rfl,by simp,fun h _ _=>⟨h,rfl⟩⟩ ?_
 rintro x ⟨out,i,ok',rfl,hi,ho,hn,hr⟩
 refine LenL.mk fun _=>?_
 refine BrP.mk' (fun h=>?_) (fun h=>?_)
 ·have h:(i:Int) < (ps.length:Int):=of_decide_eq_true h
  have h:i < ps.length:=by omega
  have hg:ps[i]? = some ps[i]:=List.getElem?_eq_getElem h
  refine GetL.is i (x:=ps[i]) rfl hg ?_
  refine CallP.mk _ _ (number_pc L a ok' ps[i] (hs _ (List.getElem_mem h))) ?_ (fun p h=>h.elim)
  rintro ⟨y,_⟩ ⟨z,_⟩ ⟨ok2,hz,hy⟩
  have hz:z = rd L a ok2:=hz
  subst hz
  have hy1:In64 y:=hy.in64
  have hy2:ok' = true → ∀ v,numS ps[i] = some v → ok2 = true ∧ y = v:=hy.is
  refine AppL.mk' (by show out.length + 1 ≤ _; omega) ?_
  repeat refine SameV.mk rfl ?_
  have hw:IntKind.wrap .i64 ((i:Int) + 1) = ((i + 1:Nat):Int):=Fw.wrap64 (by omega) (by omega)
  refine And.intro (Exists.intro (out ++ [y]) (Exists.intro (i + 1) (Exists.intro ok2 (And.intro ?_ ⟨h,by simp [ho],fun n hn'=>?_,fun hok r hr'=>?_⟩)))) ?_
  ·rw [← hw]; rfl
  ·rcases List.mem_append.1 hn' with h1 | h1
   ·exact hn n h1
   ·simp at h1; subst h1; exact hy1
  ·obtain ⟨n,h1,h2⟩:=listS_at hr' i ps[i] hg
   have h3:=hr hok r hr'
   have h4:=hy2 h3.1 n h1
   exact ⟨h4.1,by rw [List.take_add_one,h2,h3.2,h4.2]; rfl⟩
  ·show ps.length - (IntKind.wrap .i64 ((i:Int) + 1)).toNat < ps.length - (i:Int).toNat
   rw [hw]; omega
 ·have h:¬ (i:Int) < (ps.length:Int):=of_decide_eq_false h
  have h:i = ps.length:=by omega
  refine ⟨ok',rfl,⟨by show out.length = _; omega,hn,fun hok r hr'=>⟨(hr hok r hr').1,?_⟩⟩⟩
  show out = r
  rw [(hr hok r hr').2,h,← listS_len hr']; simp
structure FixOk (ps:List Str) (n:Nat) (ok:Bool) (l:List Int) (ok':Bool):Prop where
 len:l.length = n
 num:∀ x ∈ l,In64 x
 is:ok = true → ps.length = n → ∀ r,listS ps = some r → ok' = true ∧ l = r
theorem fixed_pc (L:Lns) (a:Nat) (ok:Bool) (ps:List Str) (n:Nat) (hn:n ≤ 100) (hl:ps.length ≤ NN) (hs:∀ p ∈ ps,p.length ≤ NN):PC Tryz.prog 91 sg91 (rd L a ok,ps,(n:Int),()) (fun y z=>∃ ok',z.1 = rd L a ok' ∧ FixOk ps n ok y.1 ok') (fun _=>False):=by
 refine PC.of a91 [(89,sg89),(93,sg93)] (by kernel_rfl) ?_
 refine LenL.mk fun _=>?_
 refine CallP.mk _ _ (rmust_pc L a ok _) ?_ (fun p h=>h.elim)
 rintro y ⟨z,_⟩ hz
 have hz:z = rd L a (ok && ((ps.length:Int) == (n:Int))):=hz
 subst hz
 refine BrP.mk' (fun h=>?_) (fun h=>?_)
 ·have h:(ok && ((ps.length:Int) == (n:Int))) = false:=bnot_t h
  refine show _ ∧ _ from ⟨rfl,?_⟩
  refine MakeL.mk (show (0:Int) ≤ (n:Int) by omega) (show (n:Int) ≤ 68719476736 by omega) ?_
  refine ⟨_,rfl,⟨by show (List.replicate (n:Int).toNat (0:Int)).length = n; simp,fun x hx=>?_,fun hok hp r hr=>?_⟩⟩
  ·have hx:x ∈ List.replicate (n:Int).toNat (0:Int):=hx
   rw [(List.mem_replicate.1 hx).2]; exact ⟨by decide,by decide⟩
  ·rw [hok,hp] at h
   simp at h
 ·have h:(ok && ((ps.length:Int) == (n:Int))) = true:=bnot_f h
  have hlen:ps.length = n:=by
   simp only [Bool.and_eq_true,beq_iff_eq] at h
   omega
  refine CallP.mk _ _ (rlist_pc L a _ ps hl hs) ?_ (fun p h=>h.elim)
  rintro ⟨y,_⟩ ⟨z,_⟩ ⟨ok2,hz,hy⟩
  exact ⟨ok2,hz,⟨by show y.length = n; rw [← hlen]; exact hy.len,hy.num,fun hok hp r hr=>hy.is h r hr⟩⟩
structure RWordOk {α:Type} (f:Option α) (ok:Bool) (y:α) (ok':Bool):Prop where
 is:ok = true → ∀ w,f = some w → ok' = true ∧ y = w
theorem rword_pc (L:Lns) (a:Nat) (ok:Bool) (s:Str) (hs:s.length ≤ NN):PC Tryz.prog 140 sg140 (rd L a ok,s,()) (fun y z=>∃ ok',z.1 = rd L a ok' ∧ y.1.length ≤ NN ∧ RWordOk (unS s) ok y.1 ok') (fun _=>False):=by
 refine PC.of a140 [(89,sg89)] (by kernel_rfl) ?_
 refine BrP.mk' (fun h=>?_) (fun h=>?_)
 ·have h:s = [49]:=by simpa using h
  refine ⟨ok,rfl,Nat.zero_le _,⟨fun hok w hw=>⟨hok,?_⟩⟩⟩
  rw [unS,if_pos h] at hw
  show ([]:Str) = w
  simpa using hw
 ·have h:s ≠ [49]:=by simpa using h
  refine CallP.mk _ _ (rmust_pc L a ok _) ?_ (fun p h=>h.elim)
  rintro y ⟨z,_⟩ hz
  refine ⟨_,hz,hs,⟨fun hok w hw=>?_⟩⟩
  rw [unS,if_neg h] at hw
  split at hw
  ·cases hw
  ·rename_i h2
   refine ⟨?_,by simpa using hw⟩
   show (ok && (s != [])) = true
   rw [hok]; simp [h2]
theorem rone_pc (L:Lns) (a:Nat) (ok:Bool) (ps:List Str) (hs:∀ p ∈ ps,p.length ≤ NN):PC Tryz.prog 90 sg90 (rd L a ok,ps,()) (fun y z=>∃ ok',z.1 = rd L a ok' ∧ y.1.length ≤ NN ∧ RWordOk (soleS ps) ok y.1 ok') (fun _=>False):=by
 refine PC.of a90 [(89,sg89)] (by kernel_rfl) ?_
 refine LenL.mk fun _=>?_
 refine CallP.mk _ _ (rmust_pc L a ok _) ?_ (fun p h=>h.elim)
 rintro y ⟨z,_⟩ hz
 have hz:z = rd L a (ok && ((ps.length:Int) == 1)):=hz
 subst hz
 refine BrP.mk' (fun h=>?_) (fun h=>?_)
 ·have h:(ok && ((ps.length:Int) == 1)) = false:=bnot_t h
  refine ⟨_,rfl,Nat.zero_le _,⟨fun hok w hw=>?_⟩⟩
  rw [hok,sole_eq hw] at h
  simp at h
 ·have h:(ok && ((ps.length:Int) == 1)) = true:=bnot_f h
  have h1:ps.length = 1:=by
   simp only [Bool.and_eq_true,beq_iff_eq] at h
   omega
  have hx:=List.length_eq_one_iff.1 h1
  obtain ⟨x,hx⟩:=hx
  refine GetL.is 0 (x:=x) rfl (by rw [hx]; rfl) ?_
  refine ⟨_,rfl,hs x (by rw [hx]; simp),⟨fun hok w hw=>⟨h,?_⟩⟩⟩
  rw [hx] at hw
  simpa [soleS] using hw
theorem next_ge {h:Str} {L:Lns} {a a':Nat} {ok b:Bool} {ps:List Str} (hn:NextOk h L a ok ps b a') (ha:a ≤ L.length):a ≤ a':=by
 cases hb:b with
 | true=>exact Nat.le_of_lt (hn.lt hb)
 | false=>
  cases ho:ok with
  | false=>rw [(hn.no ho).2]; exact Nat.le_refl _
  | true=>
   have h1:=hn.yes ho
   have h2:=many_stop (f:=listS) (h:=h) (L:=L.drop a) (by rw [h1,hb])
   rw [h1] at h2
   have h3:(L.drop a').length = (L.drop a).length:=congrArg List.length h2.2
   rw [List.length_drop,List.length_drop] at h3
   have:=hn.le
   omega
structure RMany {α:Type} (f:List Str → Option α) (h:Str) (L:Lns) (a:Nat) (ok:Bool) (okP:α → Prop) (ys:List α) (a':Nat) (ok':Bool):Prop where
 le:a' ≤ L.length
 ge:a ≤ a'
 len:ys.length + (L.length - a') ≤ L.length
 all:∀ y ∈ ys,okP y
 is:ok = true → ∀ o,manyS f h (L.drop a) = some o → ok' = true ∧ ∃ d,manyS f h (L.drop a') = some (d,o.2) ∧ o.1 = ys ++ d
structure RDone {α:Type} (f:List Str → Option α) (h:Str) (L:Lns) (a:Nat) (ok:Bool) (okP:α → Prop) (ys:List α) (a':Nat) (ok':Bool):Prop where
 le:a' ≤ L.length
 ge:a ≤ a'
 len:ys.length ≤ L.length
 all:∀ y ∈ ys,okP y
 is:ok = true → ∀ o,manyS f h (L.drop a) = some o → ok' = true ∧ o = (ys,L.drop a')
theorem RMany.start {α:Type} (f:List Str → Option α) (h:Str) {L:Lns} {a:Nat} (ha:a ≤ L.length) (ok:Bool) (okP:α → Prop):RMany f h L a ok okP [] a ok:=
 ⟨ha,Nat.le_refl _,by simp,by simp,fun hok o ho=>⟨hok,o.1,ho,rfl⟩⟩
theorem RMany.has {α:Type} {f:List Str → Option α} {h:Str} {L:Lns} {a:Nat} {ok:Bool} {okP:α → Prop} {ys:List α} {a1 a2:Nat} {ok1:Bool} {ps:List Str} (hm:RMany f h L a ok okP ys a1 ok1) (hn:NextOk h L a1 ok1 ps true a2) (hok:ok = true) {o} (ho:manyS f h (L.drop a) = some o) :
  ok1 = true ∧ ∃ x d,f ps = some x ∧ manyS f h (L.drop a2) = some (d,o.2) ∧ o.1 = ys ++ x :: d:=by
 obtain ⟨h1,d,h2,h3⟩:=hm.is hok o ho
 have h4:=hn.yes h1
 have hk:(takeF h (L.drop a1)).2.1 = true:=by rw [h4]
 rw [many_take hk,h4] at h2
 simp only [Option.bind_eq_some_iff,Option.map_eq_some_iff,Prod.mk.injEq] at h2
 obtain ⟨x,h5,r,h6,rfl,h7⟩:=h2
 exact ⟨h1,x,r.1,h5,by rw [h6,← h7],h3⟩
theorem RMany.next {α:Type} {f:List Str → Option α} {h:Str} {L:Lns} {a:Nat} {ok:Bool} {okP:α → Prop} {ys:List α} {a1 a2:Nat} {ok1 ok2:Bool} {ps:List Str} (hm:RMany f h L a ok okP ys a1 ok1) (hn:NextOk h L a1 ok1 ps true a2) {y:α} (hy:okP y)
  (hi:ok1 = true → ∀ x,f ps = some x → ok2 = true ∧ y = x):RMany f h L a ok okP (ys ++ [y]) a2 ok2:=by
 have h1:=hn.lt rfl
 have h2:=hn.le
 have h3:=hm.len
 refine ⟨h2,Nat.le_trans hm.ge (Nat.le_of_lt h1),by rw [List.length_append]; simp only [List.length_cons,List.length_nil]; omega,fun z hz=>?_,fun hok o ho=>?_⟩
 ·rcases List.mem_append.1 hz with hz | hz
  ·exact hm.all z hz
  ·simp at hz; subst hz; exact hy
 ·obtain ⟨k1,x,d,k2,k3,k4⟩:=hm.has hn hok ho
  obtain ⟨k5,rfl⟩:=hi k1 x k2
  exact ⟨k5,d,k3,by rw [k4]; simp⟩
theorem RMany.done {α:Type} {f:List Str → Option α} {h:Str} {L:Lns} {a:Nat} {ok:Bool} {okP:α → Prop} {ys:List α} {a1 a2:Nat} {ok1:Bool} {ps:List Str} (hm:RMany f h L a ok okP ys a1 ok1) (hn:NextOk h L a1 ok1 ps false a2):RDone f h L a ok okP ys a2 ok1:=
 ⟨hn.le,Nat.le_trans hm.ge (next_ge hn hm.le),by have:=hm.len; omega,hm.all,fun hok o ho=>by
  obtain ⟨h1,d,h2,h3⟩:=hm.is hok o ho
  have h4:=hn.yes h1
  have hk:(takeF h (L.drop a1)).2.1 = false:=by rw [h4]
  have h5:=many_stop (f:=f) hk
  rw [h5.1] at h2
  rw [h4] at h5
  simp only [Option.some.injEq,Prod.mk.injEq] at h2
  obtain ⟨rfl,h6⟩:=h2
  obtain ⟨p,q⟩:=o
  simp only [List.append_nil] at h3 h6
  exact ⟨h1,by rw [h3,← h6,← h5.2]⟩⟩
theorem rcells_pc (h:Str) (L:Lns) (hL:LimL L) (a:Nat) (ha:a ≤ L.length) (ok:Bool):PC Tryz.prog 92 sg92 (rd L a ok,h,()) (fun y z=>∃ a' ok',z.1 = rd L a' ok' ∧ RDone cellS h L a ok CellOk y.1 a' ok') (fun _=>False):=by
 refine PC.of a92 [(88,sg88),(89,sg89),(139,sg139),(140,sg140)] (by kernel_rfl) ?_
 repeat refine SameV.mk rfl ?_
 refine LoopP.mk (fun x=>∃ (out:List Cell) (a1:Nat) (ok1:Bool),x = (out,rd L a1 ok1,()) ∧ RMany cellS h L a ok CellOk out a1 ok1) (fun x=>L.length - x.2.1.2.1.toNat) ⟨[],a,ok,rfl,RMany.start _ _ ha _ _⟩ ?_
 rintro x ⟨out,a1,ok1,rfl,hm⟩
 refine CallP.mk _ _ (next_pc h L hL a1 hm.le ok1) ?_ (fun p h=>h.elim)
 rintro y ⟨z,_⟩ ⟨ps,b,a2,rfl,hz,hn⟩
 have hz:z = rd L a2 ok1:=hz
 subst hz
 refine BrP.mk' (fun hb=>?_) (fun hb=>?_)
 ·have hb:b = false:=bnot_t hb
  rw [hb] at hn
  exact ⟨a2,ok1,rfl,hm.done hn⟩
 ·have hb:b = true:=bnot_f hb
  rw [hb] at hn
  have hlt:=hn.lt rfl
  have hp:=hn.parts
  refine LenL.mk fun _=>?_
  refine CallP.mk _ _ (rmust_pc L a2 ok1 _) ?_ (fun p h=>h.elim)
  rintro y ⟨z,_⟩ hz
  have hz:z = rd L a2 (ok1 && ((ps.length:Int) == 3)):=hz
  subst hz
  refine BrP.mk' (fun h3=>?_) (fun h3=>?_)
  ·have h3:(ok1 && ((ps.length:Int) == 3)) = false:=bnot_t h3
   refine ⟨a2,_,rfl,⟨hn.le,Nat.le_trans hm.ge (Nat.le_of_lt hlt),by have:=hm.len; show out.length ≤ _; omega,hm.all,fun hok o ho=>?_⟩⟩
   obtain ⟨k1,x,d,k2,_⟩:=hm.has hn hok ho
   unfold cellS at k2
   split at k2
   ·rw [k1] at h3; simp at h3
   ·cases k2
  ·have h3:(ok1 && ((ps.length:Int) == 3)) = true:=bnot_f h3
   have h1:ok1 = true ∧ ps.length = 3:=by
    simp only [Bool.and_eq_true,beq_iff_eq] at h3
    exact ⟨h3.1,by omega⟩
   have hex:∃ s n c,ps = [s,n,c]:=by
    match ps,h1.2 with
    | [s,n,c],_=>exact ⟨s,n,c,rfl⟩
   obtain ⟨s,n,c,hs⟩:=hex
   have g0:ps[0]? = some s:=by rw [hs]; rfl
   have g1:ps[1]? = some n:=by rw [hs]; rfl
   have g2:ps[2]? = some c:=by rw [hs]; rfl
   have m1:n.length ≤ NN:=hp.2 n (by rw [hs]; simp)
   have m2:c.length ≤ NN:=hp.2 c (by rw [hs]; simp)
   have hcell:∀ x,cellS ps = some x → (s = [43] ∨ s = [45]) ∧ numS n = some x.2.1 ∧ unS c = some x.1 ∧ x.2.2.1 = decide (s = [45]):=fun x hx=>by
    rw [hs] at hx
    simp only [cellS] at hx
    split at hx
    ·rename_i hsg
     simp only [Option.bind_eq_some_iff,Option.map_eq_some_iff] at hx
     obtain ⟨v,h1,w,h2,rfl⟩:=hx
     exact ⟨hsg,h1,h2,rfl⟩
    ·cases hx
   refine JoinP.mk (fun x=>∃ ok3,x = (out,rd L a2 ok3,()) ∧ ((s = [43] ∨ s = [45]) → ok3 = true)) ?_ ?_
   rotate_left
   ·refine GetL.is 0 (x:=s) rfl g0 ?_
    refine BrP.mk' (fun h5=>?_) (fun h5=>?_)
    ·refine CallP.mk _ _ (rmust_pc L a2 _ true) ?_ (fun p h=>h.elim)
     rintro y ⟨z,_⟩ hz
     have hz:z = _:=hz
     subst hz
     repeat refine SameV.mk rfl ?_
     exact ⟨_,rfl,fun _=>by rw [h3]; rfl⟩
    ·have h5:s ≠ [43]:=by simpa using h5
     refine GetL.is 0 (x:=s) rfl g0 ?_
     refine CallP.mk _ _ (rmust_pc L a2 _ _) ?_ (fun p h=>h.elim)
     rintro y ⟨z,_⟩ hz
     have hz:z = _:=hz
     subst hz
     repeat refine SameV.mk rfl ?_
     refine ⟨_,rfl,fun h6=>?_⟩
     have h6:s = [45]:=h6.elim (fun h=>absurd h h5) id
     rw [h3]
     show (true && (s == [45])) = true
     rw [h6]; rfl
   rintro x ⟨ok3,rfl,h4⟩
   refine GetL.is 0 (x:=s) rfl g0 (GetL.is 1 (x:=n) rfl g1 (GetL.is 2 (x:=c) rfl g2 ?_))
   refine CallP.mk _ _ (number_pc L a2 ok3 n m1) ?_ (fun p h=>h.elim)
   rintro ⟨v,_⟩ ⟨z,_⟩ ⟨ok4,hz,hv⟩
   have hz:z = rd L a2 ok4:=hz
   subst hz
   refine CallP.mk _ _ (rword_pc L a2 ok4 c m2) ?_ (fun p h=>h.elim)
   rintro ⟨w,_⟩ ⟨z,_⟩ ⟨ok5,hz,hw,hw2⟩
   have hz:z = rd L a2 ok5:=hz
   subst hz
   have v1:In64 v:=hv.in64
   have v2:ok3 = true → ∀ x,numS n = some x → ok4 = true ∧ v = x:=hv.is
   have w2:ok4 = true → ∀ x,unS c = some x → ok5 = true ∧ w = x:=hw2.is
   refine AppL.mk' (by show out.length + 1 ≤ _; have:=hm.len; have:=hL.len; unfold NN at this; omega) ?_
   repeat refine SameV.mk rfl ?_
   refine And.intro (Exists.intro (out ++ [(w,v,s == [45],())]) (Exists.intro a2 (Exists.intro ok5 (And.intro ?_ (hm.next hn ⟨hw,v1⟩ fun _ x hx=>?_))))) ?_
   ·rfl
   ·obtain ⟨k1,k2,k3,k4⟩:=hcell x hx
    have q1:=v2 (h4 k1) _ k2
    have q2:=w2 q1.1 _ k3
    refine ⟨q2.1,?_⟩
    obtain ⟨xa,xb,xc,_⟩:=x
    dsimp only at q1 q2 k4
    rw [q1.2,q2.2,k4]
    cases hd:decide (s = [45]) <;> simp at hd <;> simp [hd]
   ·show L.length - (a2:Int).toNat < L.length - (a1:Int).toNat
    have:=hn.le
    omega
end Go.Proofs.YtpifnlfmojfgpaaGreatDoor.Rk
end
section
set_option maxRecDepth 10000
set_option maxHeartbeats 400000
namespace Go.Proofs.YtpifnlfmojfgpaaGreatDoor.Rk
open Fw Pw Ct Pk
noncomputable def a141:FAnn where
 loops:=fun | 3=>[.kv 0,.kv 4,.kv 6,.mem 0 0 rdA,.mem 1 0 (.pv autT),.mem 2 0 autA] | _=>[]
 joins:=fun | 10=>some [.kv 0,.kv 4,.kv 6,.kv 7,.mem 0 0 rdA,.mem 1 0 (.pv autT),.mem 2 0 autA] | _=>none
 sched:=fun | 2=>runS [(0,false),(1,false),(2,false),(3,false),(4,false),(5,false),(6,false),(7,false),(8,true)] .fin | 10=>runS [(0,false),(1,false),(2,false),(3,false),(4,false),(5,false),(6,false),(7,true),(8,false),(9,true)] .fin | 11=>runS [(0,false),(1,false),(2,false),(3,false),(4,false),(5,false),(6,false),(7,true),(8,false),(9,true)] .fin | _=>.fin
 hot:=fun | 11=>[(0,0,3)] | _=>[]
def sg141:Sig:=⟨[.box rdA,.pv tW],[.box rdA,.any],[.pv autT]⟩
structure RPiece {α:Type} (f:List Str → Lns → Option (α × Lns)) (ps:List Str) (L:Lns) (a:Nat) (ok:Bool) (okP:α → Prop) (y:α) (a':Nat) (ok':Bool):Prop where
 le:a' ≤ L.length
 ge:a ≤ a'
 all:okP y
 is:ok = true → ∀ o,f ps (L.drop a) = some o → ok' = true ∧ o = (y,L.drop a')
theorem num1_list {ps:List Str} {n:Int} (h:num1S ps = some n):ps.length = 1 ∧ listS ps = some [n]:=by
 unfold num1S at h
 simp only [Option.bind_eq_some_iff] at h
 obtain ⟨s,h1,h2⟩:=h
 rw [sole_eq h1]
 exact ⟨rfl,by simp [listS,h2]⟩
theorem num2_list {ps:List Str} {n:Int × Int} (h:num2S ps = some n):ps.length = 2 ∧ listS ps = some [n.1,n.2]:=by
 unfold num2S at h
 split at h
 ·simp only [Option.bind_eq_some_iff,Option.map_eq_some_iff] at h
  obtain ⟨x,h1,y,h2,rfl⟩:=h
  exact ⟨rfl,by simp [listS,h1,h2]⟩
 ·cases h
theorem num4_list {ps:List Str} {n:Int × Int × Int × Int} (h:num4S ps = some n):ps.length = 4 ∧ listS ps = some [n.1,n.2.1,n.2.2.1,n.2.2.2]:=by
 unfold num4S at h
 split at h
 ·simp only [Option.bind_eq_some_iff,Option.map_eq_some_iff] at h
  obtain ⟨x,h1,y,h2,z,h3,t,h4,rfl⟩:=h
  exact ⟨rfl,by simp [listS,h1,h2,h3,h4]⟩
 ·cases h
theorem fix1 {ps:List Str} {ok ok':Bool} {l:List Int} (h:FixOk ps 1 ok l ok'):∃ a,l = [a] ∧ In64 a ∧ (ok = true → ∀ n,num1S ps = some n → ok' = true ∧ n = a):=by
 match l,h with
 | [a],h=>
  refine ⟨a,rfl,h.num a (by simp),fun hok n hn=>?_⟩
  obtain ⟨h1,h2⟩:=num1_list hn
  obtain ⟨h3,h4⟩:=h.is hok h1 _ h2
  exact ⟨h3,by simpa using h4.symm⟩
 | [],h=>exact absurd h.len (by simp)
 | _ :: _ :: _,h=>exact absurd h.len (by simp)
theorem fix2 {ps:List Str} {ok ok':Bool} {l:List Int} (h:FixOk ps 2 ok l ok'):∃ a b,l = [a,b] ∧ In64 a ∧ In64 b ∧ (ok = true → ∀ n,num2S ps = some n → ok' = true ∧ n = (a,b)):=by
 match l,h with
 | [a,b],h=>
  refine ⟨a,b,rfl,h.num a (by simp),h.num b (by simp),fun hok n hn=>?_⟩
  obtain ⟨h1,h2⟩:=num2_list hn
  obtain ⟨h3,h4⟩:=h.is hok h1 _ h2
  simp only [List.cons.injEq,and_true] at h4
  exact ⟨h3,by rw [h4.1,h4.2]⟩
 | [],h=>exact absurd h.len (by simp)
 | [_],h=>exact absurd h.len (by simp)
 | _ :: _ :: _ :: _,h=>exact absurd h.len (by simp)
theorem fix4 {ps:List Str} {ok ok':Bool} {l:List Int} (h:FixOk ps 4 ok l ok'):∃ a b c d,l = [a,b,c,d] ∧ (In64 a ∧ In64 b ∧ In64 c ∧ In64 d) ∧ (ok = true → ∀ n,num4S ps = some n → ok' = true ∧ n = (a,b,c,d)):=by
 match l,h with
 | [a,b,c,d],h=>
  refine ⟨a,b,c,d,rfl,⟨h.num a (by simp),h.num b (by simp),h.num c (by simp),h.num d (by simp)⟩,fun hok n hn=>?_⟩
  obtain ⟨h1,h2⟩:=num4_list hn
  obtain ⟨h3,h4⟩:=h.is hok h1 _ h2
  simp only [List.cons.injEq,and_true] at h4
  exact ⟨h3,by rw [h4.1,h4.2.1,h4.2.2.1,h4.2.2.2]⟩
 | [],h=>exact absurd h.len (by simp)
 | [_],h=>exact absurd h.len (by simp)
 | [_,_],h=>exact absurd h.len (by simp)
 | [_,_,_],h=>exact absurd h.len (by simp)
 | _ :: _ :: _ :: _ :: _ :: _,h=>exact absurd h.len (by simp)
theorem raut_fin {ps:List Str} {L:Lns} {a a':Nat} {ok okf ok':Bool} {n0 n1:Int} {acc:List Bool} {nx:List (List Int)} (hL:L.length ≤ NN) (ge:a ≤ a') (h0:In64 n0) (h1:In64 n1) (hn:ok = true → ∀ n,num2S ps = some n → okf = true ∧ n = (n0,n1)) (hlen:acc.length = nx.length)
  (hd:RDone stateS sState L a okf StOk (acc.zip nx) a' ok'):RPiece autS ps L a ok (Lim NN autT) (n0,n1,acc,nx,()) a' ok':=by
 have hz:=hd.len
 rw [zip_len hlen] at hz
 have ha:acc.length ≤ NN:=by omega
 have hb:nx.length ≤ NN:=by omega
 have hr:∀ r ∈ nx,RowOk r:=fun r hr=>by
  have hr:r ∈ (acc.zip nx).map (·.2):=by rw [zip_snd hlen]; exact hr
  obtain ⟨s,h2,rfl⟩:=List.mem_map.1 hr
  exact hd.all s h2
 refine ⟨hd.le,ge,⟨h0,h1,⟨ha,fun _ _=>trivial⟩,⟨hb,fun r h=>⟨(hr r h).1,(hr r h).2⟩⟩,trivial⟩,fun hok o ho=>?_⟩
 simp only [autS,Option.bind_eq_some_iff,Option.map_eq_some_iff] at ho
 obtain ⟨n,h2,r,h3,rfl⟩:=ho
 obtain ⟨k1,k2⟩:=hn hok n h2
 obtain ⟨k3,k4⟩:=hd.is k1 _ h3
 subst k4
 subst k2
 refine ⟨k3,?_⟩
 simp only [zip_fst hlen,zip_snd hlen]
theorem states_pc (ps:List Str) (hl:ps.length ≤ NN) (hs:∀ p ∈ ps,p.length ≤ NN) (L:Lns) (hL:LimL L) (a:Nat) (ha:a ≤ L.length) (ok:Bool):PC Tryz.prog 141 sg141 (rd L a ok,ps,()) (fun y z=>∃ a' ok',z.1 = rd L a' ok' ∧ RPiece autS ps L a ok (Lim NN autT) y.1 a' ok') (fun _=>False):=by
 refine PC.of a141 [(88,sg88),(89,sg89),(91,sg91),(93,sg93)] (by kernel_rfl) ?_
 refine CallP.mk _ _ (fixed_pc L a ok ps 2 (by decide) hl hs) ?_ (fun p h=>h.elim)
 rintro ⟨l,_⟩ ⟨z,_⟩ ⟨okf,hz,hf⟩
 have hz:z = rd L a okf:=hz
 subst hz
 have hf2:=fix2 hf
 obtain ⟨n0,n1,hln,i0,i1,hn⟩:=hf2
 refine GetL.is 0 (x:=n0) rfl (get0 hln) ?_
 refine GetL.is 1 (x:=n1) rfl (get1 hln) ?_
 repeat refine SameV.mk rfl ?_
 refine LoopP.mk (fun x=>∃ (w:Aut) (acc:List Bool) (nx:List (List Int)) (a1:Nat) (ok1:Bool),x = (rd L a1 ok1,w,(n0,n1,acc,nx,()),()) ∧ a ≤ a1 ∧ acc.length = nx.length ∧ RMany stateS sState L a okf StOk (acc.zip nx) a1 ok1) (fun x=>L.length - x.1.2.1.toNat) (Exists.intro _ (Exists.intro [] (Exists.intro [] (Exists.intro a (Exists.intro okf (And.intro rfl ⟨Nat.le_refl _,rfl,RMany.start _ _ ha _ _⟩)))))) ?_
 rintro x ⟨w,acc,nx,a1,ok1,rfl,hge,hlen,hm⟩
 have hacc:acc.length ≤ NN:=by have h1:=hm.len; rw [zip_len hlen] at h1; have h2:=hL.len; omega
 refine CallP.mk _ _ (next_pc sState L hL a1 hm.le ok1) ?_ (fun p h=>h.elim)
 rintro y ⟨z,_⟩ ⟨qs,b,a2,rfl,hz,hnx⟩
 have hz:z = rd L a2 ok1:=hz
 subst hz
 have hge2:a ≤ a2:=Nat.le_trans hge (next_ge hnx hm.le)
 refine BrP.mk' (fun hb=>?_) (fun hb=>?_)
 ·have hb:b = false:=bnot_t hb
  rw [hb] at hnx
  exact ⟨a2,ok1,rfl,raut_fin hL.len hge2 i0 i1 hn hlen (hm.done hnx)⟩
 ·have hb:b = true:=bnot_f hb
  rw [hb] at hnx
  have hlt:=hnx.lt rfl
  have hp:=hnx.parts
  refine LenL.mk fun _=>?_
  refine CallP.mk _ _ (rmust_pc L a2 ok1 _) ?_ (fun p h=>h.elim)
  rintro y ⟨z,_⟩ hz
  have hz:z = rd L a2 (ok1 && decide ((qs.length:Int) ≥ 1)):=hz
  subst hz
  refine BrP.mk' (fun h3=>?_) (fun h3=>?_)
  ·have h3:(ok1 && decide ((qs.length:Int) ≥ 1)) = false:=bnot_t h3
   refine ⟨a2,_,rfl,raut_fin hL.len hge2 i0 i1 hn hlen ⟨hnx.le,hge2,Nat.le_trans (Nat.le_add_right _ _) hm.len,hm.all,fun hok o ho=>?_⟩⟩
   obtain ⟨k1,x,d,k2,_⟩:=hm.has hnx hok ho
   unfold stateS at k2
   split at k2
   ·rw [k1] at h3; simp at h3; omega
   ·cases k2
  ·have h3:(ok1 && decide ((qs.length:Int) ≥ 1)) = true:=bnot_f h3
   have h1:ok1 = true ∧ 1 ≤ qs.length:=by
    simp only [Bool.and_eq_true,decide_eq_true_eq] at h3
    exact ⟨h3.1,by omega⟩
   have hex:∃ s l,qs = s :: l:=by
    match qs,h1.2 with
    | s :: l,_=>exact ⟨s,l,rfl⟩
   obtain ⟨s,l',hs'⟩:=hex
   have g0:qs[0]? = some s:=by rw [hs']; rfl
   refine JoinP.mk (fun x=>∃ w ok3,x = (rd L a2 ok3,w,(n0,n1,acc,nx,()),()) ∧ ((s = [97] ∨ s = [114]) → ok3 = true)) ?_ ?_
   rotate_left
   ·refine GetL.is 0 (x:=s) rfl g0 ?_
    refine BrP.mk' (fun h5=>?_) (fun h5=>?_)
    ·refine CallP.mk _ _ (rmust_pc L a2 _ true) ?_ (fun p h=>h.elim)
     rintro y ⟨z,_⟩ hz
     have hz:z = _:=hz
     subst hz
     repeat refine SameV.mk rfl ?_
     exact ⟨_,_,rfl,fun _=>by rw [h3]; rfl⟩
    ·have h5:s ≠ [97]:=by simpa using h5
     refine GetL.is 0 (x:=s) rfl g0 ?_
     refine CallP.mk _ _ (rmust_pc L a2 _ _) ?_ (fun p h=>h.elim)
     rintro y ⟨z,_⟩ hz
     have hz:z = _:=hz
     subst hz
     repeat refine SameV.mk rfl ?_
     refine ⟨_,_,rfl,fun h6=>?_⟩
     have h6:s = [114]:=h6.elim (fun h=>absurd h h5) id
     rw [h3]
     show (true && (s == [114])) = true
     rw [h6]; rfl
   rintro x ⟨w,ok3,rfl,h4⟩
   refine GetL.is 0 (x:=s) rfl g0 ?_
   refine AppL.mk' (by show acc.length + 1 ≤ _; unfold NN at hacc; omega) ?_
   refine SubL.from 1 rfl rfl h1.2 ?_
   have hl1:(qs.drop 1).length ≤ NN:=by rw [List.length_drop]; have:=hp.1; omega
   refine CallP.mk _ _ (rlist_pc L a2 ok3 (qs.drop 1) hl1 (fun p h=>hp.2 p (List.mem_of_mem_drop h))) ?_ (fun p h=>h.elim)
   rintro ⟨r,_⟩ ⟨z,_⟩ ⟨ok4,hz,hr⟩
   have hz:z = rd L a2 ok4:=hz
   subst hz
   have hr1:RowOk r:=⟨by have:=hr.len; show r.length ≤ NN; exact Nat.le_trans (Nat.le_of_eq this) hl1,hr.num⟩
   have hr2:ok3 = true → ∀ x,listS (qs.drop 1) = some x → ok4 = true ∧ r = x:=hr.is
   refine AppL.mk' (by show nx.length + 1 ≤ _; unfold NN at hacc; omega) ?_
   repeat refine SameV.mk rfl ?_
   refine And.intro (Exists.intro w (Exists.intro (acc ++ [s == [97]]) (Exists.intro (nx ++ [r]) (Exists.intro a2 (Exists.intro ok4 (And.intro ?_ ⟨hge2,by simp [hlen],?_⟩)))))) ?_
   ·rfl
   ·rw [zip_snoc hlen]
    refine hm.next hnx hr1 fun _ x hx=>?_
    rw [hs'] at hx hr2
    simp only [stateS] at hx
    split at hx
    ·rename_i hsg
     simp only [Option.map_eq_some_iff] at hx
     obtain ⟨r',h7,rfl⟩:=hx
     obtain ⟨q1,q2⟩:=hr2 (h4 hsg) r' h7
     refine ⟨q1,?_⟩
     rw [q2]
     cases hd:decide (s = [97]) <;> simp at hd <;> simp [hd]
    ·cases hx
   ·show L.length - (a2:Int).toNat < L.length - (a1:Int).toNat
    have:=hnx.le
    omega
end Go.Proofs.YtpifnlfmojfgpaaGreatDoor.Rk
end
section
set_option maxRecDepth 10000
set_option maxHeartbeats 4000000
namespace Go.Proofs.YtpifnlfmojfgpaaGreatDoor.Rk
open Fw Pw Ct Pk
abbrev strA:AT:=.cons (.pv presT) (.cons (.pv autT) (.cons (.ls 36 autT) (.cons (.ls 9 .str) (.cons (.ls 56 Ct.stepT) (.cons (.ls 58 endT) .nil)))))
noncomputable def a94:FAnn where
 loops:=fun | 2=>[.kv 0,.kv 6,.kv 7,.mem 0 0 rdA,.mem 2 0 (.pv strT),.mem 3 0 strA] | 5=>[.kv 0,.kv 6,.kv 7,.mem 0 0 rdA,.mem 2 0 (.pv strT),.mem 3 0 strA] | 8=>[.kv 0,.kv 6,.kv 7,.mem 0 0 rdA,.mem 2 0 (.pv strT),.mem 3 0 strA] | 12=>[.kv 0,.kv 6,.kv 7,.mem 0 0 rdA,.mem 2 0 (.pv strT),.mem 3 0 strA] | _=>[]
 sched:=fun | 1=>runS [(0,false),(1,false),(2,false)] (.alt 3 5 (runS [(4,false),(5,false),(6,true)] .fin) (runS [(3,false),(4,false),(6,true)] .fin)) | 4=>runS [(0,false),(1,false),(2,false),(3,false),(4,false),(5,false),(6,true),(7,false),(8,true)] .fin | 7=>runS [(0,false),(1,false),(2,false),(3,false),(4,false),(5,false),(6,false),(7,false),(8,true),(9,false),(10,true)] .fin | 11=>runS [(0,false),(1,false),(2,false),(3,false),(4,false),(5,false),(6,false),(7,false),(8,false),(9,false),(10,false),(11,false),(12,false),(13,false),(14,false),(15,false),(16,false),(17,false),(18,true),(19,false),(20,true)] .fin | 15=>runS [(0,false),(1,false),(2,false),(3,false),(4,false),(5,false),(6,false),(7,false),(8,false),(9,false),(10,false),(11,false),(12,true),(13,false),(14,true)] .fin | _=>.fin
 hot:=fun | 1=>[(0,0,3)] | 4=>[(0,0,3)] | 7=>[(0,0,3)] | 11=>[(0,0,3)] | 15=>[(0,0,3)] | _=>[]
def sg94:Sig:=⟨[.box rdA,.pv tW,.pv presT],[.box rdA,.any,.any],[.pv strT]⟩
structure RPieces {α:Type} (f:List Str → Lns → Option (α × Lns)) (h:Str) (L:Lns) (a:Nat) (ok:Bool) (okP:α → Prop) (ys:List α) (a':Nat) (ok':Bool):Prop where
 le:a' ≤ L.length
 ge:a ≤ a'
 len:ys.length + (L.length - a') ≤ L.length
 all:∀ y ∈ ys,okP y
 is:ok = true → ∀ m o,piecesS f h m (L.drop a) = some o → ok' = true ∧ ∃ d m',piecesS f h m' (L.drop a') = some (d,o.2) ∧ o.1 = ys ++ d
structure RPDone {α:Type} (f:List Str → Lns → Option (α × Lns)) (h:Str) (L:Lns) (a:Nat) (ok:Bool) (okP:α → Prop) (ys:List α) (a':Nat) (ok':Bool):Prop where
 le:a' ≤ L.length
 ge:a ≤ a'
 len:ys.length ≤ L.length
 all:∀ y ∈ ys,okP y
 is:ok = true → ∀ m o,piecesS f h m (L.drop a) = some o → ok' = true ∧ o = (ys,L.drop a')
theorem RPieces.start {α:Type} (f:List Str → Lns → Option (α × Lns)) (h:Str) {L:Lns} {a:Nat} (ha:a ≤ L.length) (ok:Bool) (okP:α → Prop):RPieces f h L a ok okP [] a ok:=
 ⟨ha,Nat.le_refl _,by simp,by simp,fun hok m o ho=>⟨hok,o.1,m,ho,rfl⟩⟩
theorem RPieces.next {α:Type} {f:List Str → Lns → Option (α × Lns)} {h:Str} {L:Lns} {a:Nat} {ok:Bool} {okP:α → Prop} {ys:List α} {a1 a2 a3:Nat} {ok1 ok3:Bool} {qs:List Str} (hm:RPieces f h L a ok okP ys a1 ok1) (hn:NextOk h L a1 ok1 qs true a2) {y:α} (hy:RPiece f qs L a2 ok1 okP y a3 ok3) :
  RPieces f h L a ok okP (ys ++ [y]) a3 ok3:=by
 have h1:=hn.lt rfl
 have h2:=hy.ge
 have h3:=hm.len
 have h4:=hy.le
 refine ⟨h4,Nat.le_trans hm.ge (Nat.le_trans (Nat.le_of_lt h1) h2),by rw [List.length_append]; simp only [List.length_cons,List.length_nil]; omega,fun z hz=>?_,fun hok m o ho=>?_⟩
 ·rcases List.mem_append.1 hz with hz | hz
  ·exact hm.all z hz
  ·simp at hz; subst hz; exact hy.all
 ·obtain ⟨k1,d,m',k2,k3⟩:=hm.is hok m o ho
  have k4:=hn.yes k1
  have hk:(takeF h (L.drop a1)).2.1 = true:=by rw [k4]
  obtain ⟨m2,x,r,k5,k6,k7⟩:=pieces_take hk k2
  rw [k4] at k5
  obtain ⟨k8,k9⟩:=hy.is k1 _ k5
  subst k9
  simp only [Prod.mk.injEq] at k7
  exact ⟨k8,r.1,m2,by rw [k6,k7.2],by rw [k3,k7.1]; simp⟩
theorem RPieces.done {α:Type} {f:List Str → Lns → Option (α × Lns)} {h:Str} {L:Lns} {a:Nat} {ok:Bool} {okP:α → Prop} {ys:List α} {a1 a2:Nat} {ok1:Bool} {qs:List Str} (hm:RPieces f h L a ok okP ys a1 ok1) (hn:NextOk h L a1 ok1 qs false a2):RPDone f h L a ok okP ys a2 ok1:=
 ⟨hn.le,Nat.le_trans hm.ge (next_ge hn hm.le),by have:=hm.len; omega,hm.all,fun hok m o ho=>by
  obtain ⟨h1,d,m',h2,h3⟩:=hm.is hok m o ho
  have h4:=hn.yes h1
  have hk:(takeF h (L.drop a1)).2.1 = false:=by rw [h4]
  have h5:=pieces_stop hk h2
  have h6:=(many_stop (f:=diffS) hk).2
  rw [h4] at h6
  simp only [Prod.mk.injEq] at h5
  obtain ⟨rfl,h7⟩:=h5
  obtain ⟨p,q⟩:=o
  simp only [List.append_nil] at h3 h7
  exact ⟨h1,by rw [h3,h7,← h6]⟩⟩
theorem rstep_piece {ps:List Str} {L:Lns} {a a':Nat} {ok okf ok':Bool} {n0 n1 n2 n3:Int} {y:List Cell} (hL:LimL L) (hi:In64 n0 ∧ In64 n1 ∧ In64 n2 ∧ In64 n3) (hn:ok = true → ∀ n,num4S ps = some n → okf = true ∧ n = (n0,n1,n2,n3)) (hd:RDone cellS sProof L a okf CellOk y a' ok'):RPiece stepS ps L a ok (Lim NN Ct.stepT) (n0,n1,n2,n3,y,()) a' ok':=
 ⟨hd.le,hd.ge,⟨hi.1,hi.2.1,hi.2.2.1,hi.2.2.2,cells_lim (Nat.le_trans hd.len hL.len) hd.all,trivial⟩,fun hok o ho=>by
  simp only [stepS,Option.bind_eq_some_iff,Option.map_eq_some_iff] at ho
  obtain ⟨n,h1,r,h2,rfl⟩:=ho
  obtain ⟨h3,rfl⟩:=hn hok n h1
  obtain ⟨h4,rfl⟩:=hd.is h3 _ h2
  exact ⟨h4,rfl⟩⟩
theorem rend_piece {ps:List Str} {L:Lns} {a a':Nat} {ok okf ok':Bool} {n0 n1:Int} {y:List Cell} (hL:LimL L) (h0:In64 n0) (h1:In64 n1) (hn:ok = true → ∀ n,num2S ps = some n → okf = true ∧ n = (n0,n1)) (hd:RDone cellS sProof L a okf CellOk y a' ok'):RPiece endS ps L a ok (Lim NN endT) (n0,n1,y,()) a' ok':=
 ⟨hd.le,hd.ge,⟨h0,h1,cells_lim (Nat.le_trans hd.len hL.len) hd.all,trivial⟩,fun hok o ho=>by
  simp only [endS,Option.bind_eq_some_iff,Option.map_eq_some_iff] at ho
  obtain ⟨n,h1,r,h2,rfl⟩:=ho
  obtain ⟨h3,rfl⟩:=hn hok n h1
  obtain ⟨h4,rfl⟩:=hd.is h3 _ h2
  exact ⟨h4,rfl⟩⟩
theorem rstruct_fin {p:Pres} {ps:List Str} {L:Lns} {a a1 a2 a3 a4 a5:Nat} {ok ok1 ok2 ok3 ok4 ok5:Bool} {au:Aut} {ms:List Aut} {ds:List Str} {ts:List Ct.Step} {es:List Ct.End} (hL:LimL L) (hp:Lim NN presT p) (qa:RPiece autS ps L a ok (Lim NN autT) au a1 ok1) (qm:RPDone autS sMult L a1 ok1 (Lim NN autT) ms a2 ok2)
  (qd:RDone diffS sDiff L a2 ok2 WordOk ds a3 ok3) (qt:RPDone stepS sStep L a3 ok3 (Lim NN Ct.stepT) ts a4 ok4) (qe:RPDone endS sEnd L a4 ok4 (Lim NN endT) es a5 ok5):RPiece (structS p) ps L a ok (Lim NN strT) (p,au,ms,ds,ts,es,()) a5 ok5:=by
 have hl:=hL.len
 refine ⟨qe.le,Nat.le_trans qa.ge (Nat.le_trans qm.ge (Nat.le_trans qd.ge (Nat.le_trans qt.ge qe.ge))),⟨hp,qa.all,⟨Nat.le_trans qm.len hl,qm.all⟩,⟨Nat.le_trans qd.len hl,qd.all⟩,⟨Nat.le_trans qt.len hl,qt.all⟩,⟨Nat.le_trans qe.len hl,qe.all⟩,trivial⟩,fun hok o ho=>?_⟩
 obtain ⟨a',m,d,t,e,k1,k2,k3,w1,w2,w3,w4,w5,rfl⟩:=struct_some ho
 obtain ⟨h1,rfl⟩:=qa.is hok _ w1
 obtain ⟨h2,rfl⟩:=qm.is h1 _ _ w2
 obtain ⟨h3,rfl⟩:=qd.is h2 _ w3
 obtain ⟨h4,rfl⟩:=qt.is h3 _ _ w4
 obtain ⟨h5,rfl⟩:=qe.is h4 _ _ w5
 exact ⟨h5,rfl⟩
theorem rstruct_pc (ps:List Str) (hl:ps.length ≤ NN) (hs:∀ p ∈ ps,p.length ≤ NN) (L:Lns) (hL:LimL L) (a:Nat) (ha:a ≤ L.length) (ok:Bool) (p:Pres) (hp:Lim NN presT p) :
  PC Tryz.prog 94 sg94 (rd L a ok,ps,p,()) (fun y z=>∃ a' ok',z.1 = rd L a' ok' ∧ RPiece (structS p) ps L a ok (Lim NN strT) y.1 a' ok') (fun _=>False):=by
 refine PC.of a94 [(88,sg88),(90,sg90),(91,sg91),(92,sg92),(140,sg140),(141,sg141)] (by kernel_rfl) ?_
 refine And.intro ?_ ?_
 all_goals
  refine CallP.mk _ _ (states_pc ps hl hs L hL a ha ok) ?_ (fun p h=>h.elim)
  rintro ⟨au,_⟩ ⟨z,_⟩ ⟨a1,ok1,hz,qa⟩
  have hz:z = rd L a1 ok1:=hz
  subst hz
  repeat refine SameV.mk rfl ?_
  -- mult
  refine LoopP.mk (fun x=>∃ (w:Strc) (ms:List Aut) (b1:Nat) (c1:Bool),x = (rd L b1 c1,w,(p,au,ms,[],[],[],()),()) ∧ RPieces autS sMult L a1 ok1 (Lim NN autT) ms b1 c1) (fun x=>L.length - x.1.2.1.toNat) (Exists.intro _ (Exists.intro [] (Exists.intro a1 (Exists.intro ok1 (And.intro rfl (RPieces.start _ _ qa.le _ _)))))) ?_
  rintro x ⟨w,ms,b1,c1,rfl,hm⟩
  refine CallP.mk _ _ (next_pc sMult L hL b1 hm.le c1) ?_ (fun p h=>h.elim)
  rintro y ⟨z,_⟩ ⟨qs,b,b2,rfl,hz,hnx⟩
  have hz:z = rd L b2 c1:=hz
  subst hz
  refine BrP.mk' (fun hb=>?_) (fun hb=>?_)
  rotate_left
  ·have hb:b = true:=bnot_f hb
   rw [hb] at hnx
   refine CallP.mk _ _ (states_pc qs hnx.parts.1 hnx.parts.2 L hL b2 hnx.le c1) ?_ (fun p h=>h.elim)
   rintro ⟨m,_⟩ ⟨z,_⟩ ⟨b3,c3,hz,qm⟩
   have hz:z = rd L b3 c3:=hz
   subst hz
   have hnext:=hm.next hnx qm
   have hlt:=Nat.lt_of_lt_of_le (hnx.lt rfl) qm.ge
   refine AppL.mk' (by show ms.length + 1 ≤ _; have:=hm.len; have:=hL.len; unfold NN at this; omega) ?_
   repeat refine SameV.mk rfl ?_
   refine And.intro (Exists.intro w (Exists.intro (ms ++ [m]) (Exists.intro b3 (Exists.intro c3 (And.intro ?_ hnext))))) ?_
   ·rfl
   ·show L.length - (b3:Int).toNat < L.length - (b1:Int).toNat
    have:=qm.le
    omega
  have hb:b = false:=bnot_t hb
  rw [hb] at hnx
  have qm:=hm.done hnx
  clear hm
  repeat refine SameV.mk rfl ?_
  -- diff
  refine LoopP.mk (fun x=>∃ (w:Strc) (ds:List Str) (d1:Nat) (e1:Bool),x = (rd L d1 e1,w,(p,au,ms,ds,[],[],()),()) ∧ RMany diffS sDiff L b2 c1 WordOk ds d1 e1) (fun x=>L.length - x.1.2.1.toNat) (Exists.intro _ (Exists.intro [] (Exists.intro b2 (Exists.intro c1 (And.intro rfl (RMany.start _ _ qm.le _ _)))))) ?_
  rintro x ⟨w,ds,d1,e1,rfl,hm⟩
  refine CallP.mk _ _ (next_pc sDiff L hL d1 hm.le e1) ?_ (fun p h=>h.elim)
  rintro y ⟨z,_⟩ ⟨qs,b,d2,rfl,hz,hnx⟩
  have hz:z = rd L d2 e1:=hz
  subst hz
  refine BrP.mk' (fun hb=>?_) (fun hb=>?_)
  rotate_left
  ·have hb:b = true:=bnot_f hb
   rw [hb] at hnx
   refine CallP.mk _ _ (rone_pc L d2 e1 qs hnx.parts.2) ?_ (fun p h=>h.elim)
   rintro ⟨s,_⟩ ⟨z,_⟩ ⟨e2,hz,hs1,hs2⟩
   have hz:z = rd L d2 e2:=hz
   subst hz
   refine CallP.mk _ _ (rword_pc L d2 e2 s hs1) ?_ (fun p h=>h.elim)
   rintro ⟨v,_⟩ ⟨z,_⟩ ⟨e3,hz,hv1,hv2⟩
   have hz:z = rd L d2 e3:=hz
   subst hz
   have s2:e1 = true → ∀ x,soleS qs = some x → e2 = true ∧ s = x:=hs2.is
   have v2:e2 = true → ∀ x,unS s = some x → e3 = true ∧ v = x:=hv2.is
   have hnext:RMany diffS sDiff L b2 c1 WordOk (ds ++ [v]) d2 e3:=hm.next hnx hv1 fun he x hx=>by
    simp only [diffS,Option.bind_eq_some_iff] at hx
    obtain ⟨s',h7,h8⟩:=hx
    obtain ⟨q1,q2⟩:=s2 he s' h7
    subst q2
    exact v2 q1 x h8
   have hlt:=hnx.lt rfl
   refine AppL.mk' (by show ds.length + 1 ≤ _; have:=hm.len; have:=hL.len; unfold NN at this; omega) ?_
   repeat refine SameV.mk rfl ?_
   refine And.intro (Exists.intro w (Exists.intro (ds ++ [v]) (Exists.intro d2 (Exists.intro e3 (And.intro ?_ hnext))))) ?_
   ·rfl
   ·show L.length - (d2:Int).toNat < L.length - (d1:Int).toNat
    have:=hnx.le
    omega
  have hb:b = false:=bnot_t hb
  rw [hb] at hnx
  have qd:=hm.done hnx
  clear hm
  repeat refine SameV.mk rfl ?_
  -- step
  refine LoopP.mk (fun x=>∃ (w:Strc) (ts:List Ct.Step) (g1:Nat) (f1:Bool),x = (rd L g1 f1,w,(p,au,ms,ds,ts,[],()),()) ∧ RPieces stepS sStep L d2 e1 (Lim NN Ct.stepT) ts g1 f1) (fun x=>L.length - x.1.2.1.toNat) (Exists.intro _ (Exists.intro [] (Exists.intro d2 (Exists.intro e1 (And.intro rfl (RPieces.start _ _ qd.le _ _)))))) ?_
  rintro x ⟨w,ts,g1,f1,rfl,hm⟩
  refine CallP.mk _ _ (next_pc sStep L hL g1 hm.le f1) ?_ (fun p h=>h.elim)
  rintro y ⟨z,_⟩ ⟨qs,b,g2,rfl,hz,hnx⟩
  have hz:z = rd L g2 f1:=hz
  subst hz
  refine BrP.mk' (fun hb=>?_) (fun hb=>?_)
  rotate_left
  ·have hb:b = true:=bnot_f hb
   rw [hb] at hnx
   refine CallP.mk _ _ (fixed_pc L g2 f1 qs 4 (by decide) hnx.parts.1 hnx.parts.2) ?_ (fun p h=>h.elim)
   rintro ⟨l,_⟩ ⟨z,_⟩ ⟨f2,hz,hf⟩
   have hz:z = rd L g2 f2:=hz
   subst hz
   have hf4:=fix4 hf
   obtain ⟨n0,n1,n2,n3,hln,hi,hn⟩:=hf4
   have g4:=get4 hln
   refine GetL.is 0 (x:=n0) rfl g4.1 (GetL.is 1 (x:=n1) rfl g4.2.1 (GetL.is 2 (x:=n2) rfl g4.2.2.1 (GetL.is 3 (x:=n3) rfl g4.2.2.2 ?_)))
   refine CallP.mk _ _ (rcells_pc sProof L hL g2 hnx.le f2) ?_ (fun p h=>h.elim)
   rintro ⟨c,_⟩ ⟨z,_⟩ ⟨g3,f3,hz,qc⟩
   have hz:z = rd L g3 f3:=hz
   subst hz
   have hnext:=hm.next hnx (rstep_piece hL hi hn qc)
   have hlt:=Nat.lt_of_lt_of_le (hnx.lt rfl) qc.ge
   refine AppL.mk' (by show ts.length + 1 ≤ _; have:=hm.len; have:=hL.len; unfold NN at this; omega) ?_
   repeat refine SameV.mk rfl ?_
   refine And.intro (Exists.intro w (Exists.intro (ts ++ [(n0,n1,n2,n3,c,())]) (Exists.intro g3 (Exists.intro f3 (And.intro ?_ hnext))))) ?_
   ·rfl
   ·show L.length - (g3:Int).toNat < L.length - (g1:Int).toNat
    have:=qc.le
    omega
  have hb:b = false:=bnot_t hb
  rw [hb] at hnx
  have qt:=hm.done hnx
  clear hm
  repeat refine SameV.mk rfl ?_
  -- end
  refine LoopP.mk (fun x=>∃ (w:Strc) (es:List Ct.End) (k1:Nat) (h1:Bool),x = (rd L k1 h1,w,(p,au,ms,ds,ts,es,()),()) ∧ RPieces endS sEnd L g2 f1 (Lim NN endT) es k1 h1) (fun x=>L.length - x.1.2.1.toNat) (Exists.intro _ (Exists.intro [] (Exists.intro g2 (Exists.intro f1 (And.intro rfl (RPieces.start _ _ qt.le _ _)))))) ?_
  rintro x ⟨w,es,k1,h1,rfl,hm⟩
  refine CallP.mk _ _ (next_pc sEnd L hL k1 hm.le h1) ?_ (fun p h=>h.elim)
  rintro y ⟨z,_⟩ ⟨qs,b,k2,rfl,hz,hnx⟩
  have hz:z = rd L k2 h1:=hz
  subst hz
  refine BrP.mk' (fun hb=>?_) (fun hb=>?_)
  rotate_left
  ·have hb:b = true:=bnot_f hb
   rw [hb] at hnx
   refine CallP.mk _ _ (fixed_pc L k2 h1 qs 2 (by decide) hnx.parts.1 hnx.parts.2) ?_ (fun p h=>h.elim)
   rintro ⟨l,_⟩ ⟨z,_⟩ ⟨h2,hz,hf⟩
   have hz:z = rd L k2 h2:=hz
   subst hz
   have hf2:=fix2 hf
   obtain ⟨n0,n1,hln,i0,i1,hn⟩:=hf2
   refine GetL.is 0 (x:=n0) rfl (get0 hln) (GetL.is 1 (x:=n1) rfl (get1 hln) ?_)
   refine CallP.mk _ _ (rcells_pc sProof L hL k2 hnx.le h2) ?_ (fun p h=>h.elim)
   rintro ⟨c,_⟩ ⟨z,_⟩ ⟨k3,h3,hz,qc⟩
   have hz:z = rd L k3 h3:=hz
   subst hz
   have hnext:=hm.next hnx (rend_piece hL i0 i1 hn qc)
   have hlt:=Nat.lt_of_lt_of_le (hnx.lt rfl) qc.ge
   refine AppL.mk' (by show es.length + 1 ≤ _; have:=hm.len; have:=hL.len; unfold NN at this; omega) ?_
   repeat refine SameV.mk rfl ?_
   refine And.intro (Exists.intro w (Exists.intro (es ++ [(n0,n1,c,())]) (Exists.intro k3 (Exists.intro h3 (And.intro ?_ hnext))))) ?_
   ·rfl
   ·show L.length - (k3:Int).toNat < L.length - (k1:Int).toNat
    have:=qc.le
    omega
  have hb:b = false:=bnot_t hb
  rw [hb] at hnx
  have qe:=hm.done hnx
  refine Exists.intro k2 (Exists.intro h1 (And.intro ?_ ?_))
  ·rfl
  ·exact rstruct_fin hL hp qa qm qd qt qe
end Go.Proofs.YtpifnlfmojfgpaaGreatDoor.Rk
end
section
set_option maxRecDepth 10000
set_option maxHeartbeats 40000000
namespace Go.Proofs.YtpifnlfmojfgpaaGreatDoor.Rk
open Fw Pw Ct Pk
abbrev clmA:AT:=.cons iA (.cons iA (.cons (.ls 9 .str) (.cons sA (.cons sA (.cons iA (.cons (.pv tCs) (.cons (.pv annT) (.cons iA (.cons iA (.cons (.pv tIs) (.cons (.ls 28 tIs) (.cons (.pv tIs) (.cons (.pv presT) (.cons iA (.cons (.ls 28 tIs) (.cons (.pv strT) .nil))))))))))))))))
noncomputable def a40:FAnn where
 loops:=fun | 6=>[.kv 0,.kv 2,.kv 3,.kv 6,.sl 7 (.pv (.int .i64)),.km 1,.mem 0 0 rdA,.mem 2 0 clmA] | 14=>[.kv 0,.kv 2,.kv 3,.km 1,.mem 0 0 rdA,.mem 2 0 clmA] | 39=>[.kv 0,.kv 2,.kv 3,.km 1,.mem 0 0 rdA,.mem 2 0 clmA] | 48=>[.kv 0,.kv 2,.kv 3,.km 1,.mem 0 0 rdA,.mem 2 0 clmA] | _=>[]
 joins:=fun | 10=>some [.kv 0,.kv 2,.kv 3,.km 1,.mem 0 0 rdA,.mem 2 0 clmA] | 17=>some [.kv 0,.kv 2,.kv 3,.km 1,.mem 0 0 rdA,.mem 2 0 clmA] | 20=>some [.kv 0,.kv 2,.kv 3,.km 1,.mem 0 0 rdA,.mem 2 0 clmA] | 23=>some [.kv 0,.kv 2,.kv 3,.km 1,.mem 0 0 rdA,.mem 2 0 clmA] | 26=>some [.kv 0,.kv 2,.kv 3,.km 1,.mem 0 0 rdA,.mem 2 0 clmA] | 27=>some [.kv 0,.kv 2,.kv 3,.km 1,.mem 0 0 rdA,.mem 2 0 clmA] | 30=>some [.kv 0,.kv 2,.kv 3,.km 1,.mem 0 0 rdA,.mem 2 0 clmA] | 31=>some [.kv 0,.kv 2,.kv 3,.km 1,.mem 0 0 rdA,.mem 2 0 clmA] | 36=>some [.kv 0,.kv 2,.kv 3,.km 1,.mem 0 0 rdA,.mem 2 0 clmA] | 39=>some [.kv 0,.kv 2,.kv 3,.km 1,.mem 0 0 rdA,.mem 2 0 clmA] | 42=>some [.kv 0,.kv 2,.kv 3,.km 1,.mem 0 0 rdA,.mem 2 0 clmA] | 45=>some [.kv 0,.kv 2,.kv 3,.km 1,.mem 0 0 rdA,.mem 2 0 clmA] | 51=>some [.kv 0,.kv 2,.kv 3,.km 1,.mem 0 0 rdA,.mem 2 0 clmA] | 54=>some [.kv 0,.kv 2,.kv 3,.km 1,.mem 0 0 rdA,.mem 2 0 clmA] | _=>none
 sched:=fun | 16=>runS [(0,false),(1,false),(2,false),(3,false),(4,false),(5,false),(6,false),(7,true),(8,false),(9,false),(10,true)] .fin | 41=>runS [(0,false),(1,false),(2,false),(3,false),(4,false),(5,false),(6,false),(7,true),(8,false),(9,false),(10,true)] .fin | 47=>runS [(0,false),(1,false),(2,false),(3,false),(4,false),(5,false),(6,false),(7,false),(8,false),(9,true)] .fin | 50=>runS [(0,false),(1,false),(2,false),(3,false),(4,false),(5,false),(6,false),(7,true),(8,false),(9,false),(10,true)] .fin | 55=>runS [(0,false),(1,false),(2,false),(3,false),(4,false),(5,false),(6,false),(7,false),(8,false),(9,false),(10,false),(11,false),(12,false),(13,false),(14,false),(15,false),(16,false),(17,false),(18,false),(19,true)] .fin | _=>.fin
 hot:=fun | 16=>[(0,0,3)] | 41=>[(0,0,3)] | 47=>[(0,0,3)] | 50=>[(0,0,3)] | _=>[]
def sg40:Sig:=⟨[.box rdA],[.box rdA],[.pv claimT]⟩
structure RStg {α:Type} (g:Lns → Option (α × Lns)) (L:Lns) (a:Nat) (ok:Bool) (y:α) (a':Nat) (ok':Bool):Prop where
 le:a' ≤ L.length
 is:ok = true → ∀ o,g (L.drop a) = some o → ok' = true ∧ o = (y,L.drop a')
theorem RStg.must {α:Type} {f:List Str → Option α} {h:Str} {L:Lns} {a a':Nat} {ok ok' b:Bool} {ps:List Str} {y:α} (hn:NextOk h L a ok ps b a') (hy:b = true → ok = true → ∀ x,f ps = some x → ok' = true ∧ x = y):RStg (mustS f h) L a ok y a' ok':=
 ⟨hn.le,fun hok o ho=>by
  obtain ⟨h1,h2,h3⟩:=must_some ho
  have h4:=hn.yes hok
  rw [h4] at h1 h2 h3
  obtain ⟨p,q⟩:=o
  obtain ⟨k1,k2⟩:=hy h1 hok p h2
  exact ⟨k1,by rw [k2]; exact congrArg _ h3⟩⟩
theorem RStg.yes {α:Type} {f:List Str → Option α} {h:Str} {d:α} {L:Lns} {a a':Nat} {ok ok':Bool} {ps:List Str} {y:α} (hn:NextOk h L a ok ps true a') (hy:ok = true → ∀ x,f ps = some x → ok' = true ∧ x = y):RStg (optS f h d) L a ok y a' ok':=
 ⟨hn.le,fun hok o ho=>by
  have h4:=hn.yes hok
  unfold optS at ho
  rw [h4] at ho
  simp only [if_true,Option.map_eq_some_iff] at ho
  obtain ⟨x,h5,rfl⟩:=ho
  obtain ⟨k1,k2⟩:=hy hok x h5
  exact ⟨k1,by rw [k2]⟩⟩
theorem RStg.no {α:Type} {f:List Str → Option α} {h:Str} {d:α} {L:Lns} {a a':Nat} {ok:Bool} {ps:List Str} (hn:NextOk h L a ok ps false a'):RStg (optS f h d) L a ok d a' ok:=
 ⟨hn.le,fun hok o ho=>by
  have h4:=hn.yes hok
  have h5:=(many_stop (f:=diffS) (h:=h) (L:=L.drop a) (by rw [h4])).2
  unfold optS at ho
  rw [h4] at ho h5
  simp only [Bool.false_eq_true,if_false,Option.some.injEq] at ho
  have h5:L.drop a' = L.drop a:=h5
  exact ⟨hok,by rw [← ho,h5]⟩⟩
structure KindI (s:Str) (i:Nat) (k:Int):Prop where
 is:∀ j:Nat,1 ≤ j → j < i → kindsL[j]? = some s → k = (j:Int)
 lo:0 ≤ k
 hi:k ≤ 9
theorem kinds_inj {i j:Nat} {s:Str} (hi:kindsL[i]? = some s) (hj:kindsL[j]? = some s):i = j:=by
 have hn:kindsL.Nodup:=by decide
 have h1:i < kindsL.length:=(List.getElem?_eq_some_iff.1 hi).1
 exact (List.getElem?_inj h1 hn).1 (hi.trans hj.symm)
theorem idxS_get:∀ (l:List Str) (j i:Nat) (s:Str),idxS s j l = some i → j ≤ i ∧ l[i - j]? = some s
 | [],j,i,s,h=>by cases h
 | x :: l,j,i,s,h=>by
  simp only [idxS] at h
  split at h
  ·rename_i he
   simp only [Option.some.injEq] at h; subst h
   exact ⟨Nat.le_refl _,by simp [he]⟩
  ·obtain ⟨h1,h2⟩:=idxS_get l (j + 1) i s h
   refine ⟨by omega,?_⟩
   rw [show i - j = (i - (j + 1)) + 1 by omega]
   simpa using h2
theorem kindS_is {s:Str} {k:Int} {ps:List Str} (hk:KindI s 10 k) {x:Int} (hs:soleS ps = some s) (h:kindS ps = some x):x = k ∧ 0 < k:=by
 unfold kindS at h
 rw [hs] at h
 simp only [Option.bind_some,Option.bind_eq_some_iff] at h
 obtain ⟨i,h1,h2⟩:=h
 split at h2
 ·rename_i hi
  simp only [Option.some.injEq] at h2
  obtain ⟨_,h3⟩:=idxS_get _ _ _ _ h1
  have h4:i < kindsL.length:=(List.getElem?_eq_some_iff.1 h3).1
  have h5:kindsL.length = 10:=rfl
  have:=hk.is i hi (by omega) h3
  omega
 ·cases h2
@[reducible] def clm (k g:Int) (r:List Str) (u v:Str) (n:Int) (d:List Cell) (an:annT.den) (sk sm:Int) (si:List Int) (sp:List (List Int)) (im:List Int) (mp:Pres) (md:Int) (mi:List (List Int)) (st:Strc):clmA.den:=(k,g,r,u,v,n,d,an,sk,sm,si,sp,im,mp,md,mi,st,())
theorem in0:In64 0:=⟨by decide,by decide⟩
theorem rlist_row {ps:List Str} {ok ok':Bool} {l:List Int} (h:RListOk ps ok l ok') (hl:ps.length ≤ NN):RowOk l:=⟨by rw [h.len]; exact hl,h.num⟩
theorem str_zero:Lim NN strT zeroStr:=⟨⟨in0,⟨Nat.zero_le _,by simp [zeroStr,zeroPres]⟩,trivial⟩,⟨in0,in0,⟨Nat.zero_le _,by simp [zeroStr,zeroAut]⟩,⟨Nat.zero_le _,by simp [zeroStr,zeroAut]⟩,trivial⟩,⟨Nat.zero_le _,by simp [zeroStr]⟩,⟨Nat.zero_le _,by simp [zeroStr]⟩,⟨Nat.zero_le _,by simp [zeroStr]⟩,⟨Nat.zero_le _,by simp [zeroStr]⟩,trivial⟩
theorem next_same {h:Str} {L:Lns} {a a':Nat} {ok:Bool} {ps:List Str} (hn:NextOk h L a ok ps false a') (hok:ok = true):(takeF h (L.drop a)).2.1 = false ∧ L.drop a' = L.drop a:=by
 have h4:=hn.yes hok
 have h5:=(many_stop (f:=diffS) (h:=h) (L:=L.drop a) (by rw [h4])).2
 rw [h4] at h5
 exact ⟨by rw [h4],h5⟩
theorem map_none {p:Pres} {L:Lns} {a a':Nat} {ok:Bool} {ps:List Str} (hn:NextOk sDegree L a ok ps false a'):RStg (mapP p) L a ok (zeroPres,0,[],()) a' ok:=
 ⟨hn.le,fun hok o ho=>by
  obtain ⟨h1,h2⟩:=next_same hn hok
  unfold mapP at ho
  rw [h1] at ho
  simp only [Bool.false_eq_true,if_false,Option.some.injEq] at ho
  exact ⟨hok,by rw [← ho,h2]; rfl⟩⟩
theorem map_stage {p:Pres} {L:Lns} {a a1 a2:Nat} {ok ok1 ok2:Bool} {ps:List Str} {md:Int} {mi:List (List Int)} (hn:NextOk sDegree L a ok ps true a1) (hd:ok = true → ∀ n,num1S ps = some n → ok1 = true ∧ n = md) (hm:RDone listS sPoint L a1 ok1 RowOk mi a2 ok2):RStg (mapP p) L a ok (p,md,mi,()) a2 ok2:=
 ⟨hm.le,fun hok o ho=>by
  have h4:=hn.yes hok
  unfold mapP at ho
  rw [h4] at ho
  simp only [if_true,Option.bind_eq_some_iff,Option.map_eq_some_iff] at ho
  obtain ⟨x,h5,m,h6,rfl⟩:=ho
  obtain ⟨k1,rfl⟩:=hd hok x h5
  obtain ⟨k2,rfl⟩:=hm.is k1 _ h6
  exact ⟨k2,rfl⟩⟩
theorem last_none {p:Pres} {L:Lns} {a a':Nat} {ok:Bool} {ps:List Str} (hn:NextOk sAccept L a ok ps false a'):RStg (lastS p) L a ok zeroStr a' ok:=
 ⟨hn.le,fun hok o ho=>by
  obtain ⟨h1,h2⟩:=next_same hn hok
  unfold lastS at ho
  rw [h1] at ho
  simp only [Bool.false_eq_true,if_false,Option.some.injEq] at ho
  exact ⟨hok,by rw [← ho,h2]⟩⟩
theorem last_some {p:Pres} {L:Lns} {a a1 a2:Nat} {ok ok2:Bool} {ps:List Str} {st:Strc} (hn:NextOk sAccept L a ok ps true a1) (hs:RPiece (structS p) ps L a1 ok (Lim NN strT) st a2 ok2):RStg (lastS p) L a ok st a2 ok2:=
 ⟨hs.le,fun hok o ho=>by
  have h4:=hn.yes hok
  unfold lastS at ho
  rw [h4] at ho
  exact hs.is hok o ho⟩
def sufC:Nat → Code → Code
 | 0,c=>c
 | n + 1,.seq _ b=>sufC n b
 | _,c=>c
noncomputable def body40:Code:=match Tryz.f40.body with | some c=>c | none=>.skip
def sigs40:List (Nat × Sig):=[(57,sg57),(88,sg88),(89,sg89),(90,sg90),(91,sg91),(92,sg92),(93,sg93),(94,sg94)]
def Q40 (L:Lns) (ok:Bool):aden sg40.res → aden sg40.out → Prop:=fun y z=>∃ a' ok',z.1 = rd L a' ok' ∧ Lim NN claimT y.1 ∧ (ok = true → ∀ c,claimS L = some c → ok' = true ∧ c = y.1)
def E40:AEnv:=fun t=>match t with | 0=>.adr 0 0 | 2=>.adr 1 0 | 3=>.adr 2 0 | _=>.top
noncomputable def zero43:List AV:=match zeroA Tryz.prog 43 with | some v=>v.cells | none=>[]
noncomputable def H40:AHeap:=AHeap.none.setL 1 0 zero43
noncomputable def K40 (L:Lns) (ok:Bool):AKs:={ N:=finK Tryz.prog Tryz.f40 sg40 [.adr 0 0] (Q40 L ok),X:=fun _ _ _ _=>False,R:=finK Tryz.prog Tryz.f40 sg40 [.adr 0 0] (Q40 L ok),P:=fun p _=>panA (fun _=>False) p }
def ents40:List Ent:=[.kv 0,.kv 2,.kv 3,.km 1,.mem 0 0 rdA,.mem 2 0 clmA]
noncomputable def St40 (n m:Nat) (L:Lns) (ok:Bool) (r:rdA.den) (c:clmA.den):Prop:=
 layE E40 H40 ents40 (r,c,()) AHeap.none m fun e H q=>wppC Tryz.prog (callC Tryz.prog (sigOf sigs40)) a40 (sufC n body40) (K40 L ok) e H q
end Go.Proofs.YtpifnlfmojfgpaaGreatDoor.Rk
end
section
set_option maxRecDepth 10000
set_option maxHeartbeats 40000000
namespace Go.Proofs.YtpifnlfmojfgpaaGreatDoor.Rk
open Fw Pw Ct Pk
theorem claim13 (L:Lns) (hL:LimL L) (ok:Bool) (s:Str) (k:Int) (hk:KindI s 10 k) (g:Int) (lg:In64 g) (a1 a2:Nat) (okg ok2:Bool) (G1:RStg (mustS kindS sClaim) L 0 ok k a1 okg) (G2:RStg (mustS num1S sGens) L a1 okg g a2 ok2) (r:List Str) (a3:Nat) (ok3:Bool) (G3:RDone soleS sRel L a2 ok2 (fun r=>r.length ≤ NN) r a3 ok3) (lpres:Lim NN presT (g,r,())) (u:Str) (a4:Nat) (ok4:Bool) (lu:u.length ≤ NN) (G4:RStg (optS soleS sU []) L a3 ok3 u a4 ok4) (v:Str) (a5:Nat) (ok5:Bool) (lv:v.length ≤ NN) (G5:RStg (optS soleS sV []) L a4 ok4 v a5 ok5) (n:Int) (a6:Nat) (ok6:Bool) (ln:In64 n) (G6:RStg (optS num1S sN 0) L a5 ok5 n a6 ok6) (d:List Cell) (a7:Nat) (ok7:Bool) (G7:RDone cellS sCell L a6 ok6 CellOk d a7 ok7) (cj:Str) (a8:Nat) (ok8:Bool) (lcj:cj.length ≤ NN) (G8:RStg (optS soleS sConj []) L a7 ok7 cj a8 ok8) (ring:List Cell) (a9:Nat) (ok9:Bool) (G9:RDone cellS sRing L a8 ok8 CellOk ring a9 ok9) (sk sm:Int) (a10:Nat) (ok10:Bool) (lsep:In64 sk ∧ In64 sm) (G10:RStg (optS num2S sSep (0,0)) L a9 ok9 (sk,sm) a10 ok10) (si:List Int) (a11:Nat) (ok11:Bool) (lsi:RowOk si) (G11:RStg (optS listS sImage []) L a10 ok10 si a11 ok11) (sp:List (List Int)) (a12:Nat) (ok12:Bool) (G12:RDone listS sPerm L a11 ok11 RowOk sp a12 ok12) (im:List Int) (a13:Nat) (ok13:Bool) (lim0:RowOk im) (G13:RStg (optS listS sValue []) L a12 ok12 im a13 ok13) (mp:Pres) (md:Int) (mi:List (List Int)) (a14:Nat) (ok14:Bool) (lmap:Lim NN mapT (mp,md,mi,())) (G14:RStg (mapP (g,r,())) L a13 ok13 (mp,md,mi,()) a14 ok14) (st:Strc) (a15:Nat) (ok15:Bool) (lst:Lim NN strT st) (G15:RStg (lastS (g,r,())) L a14 ok14 st a15 ok15) :
  St40 23 42 L ok (rd L a15 ok15) (clm k g r u v n d (cj,ring,()) sk sm si sp im mp md mi st):=by
 have lk:In64 k:=⟨by have:=hk.lo; omega,by have:=hk.hi; omega⟩
 have lim:Lim NN claimT (k,(g,r,()),u,v,n,d,(cj,ring,()),(sk,sm,si,sp,()),im,(mp,md,mi,()),st,()):=
  ⟨⟨lk.1,lk.2⟩,lpres,lu,lv,ln,cells_lim (Nat.le_trans G7.len hL.len) G7.all,⟨lcj,cells_lim (Nat.le_trans G9.len hL.len) G9.all,trivial⟩,⟨lsep.1,lsep.2,lsi,rows_lim (Nat.le_trans G12.len hL.len) G12.all,trivial⟩,lim0,lmap,lst,trivial⟩
 have fin:∀ okz:Bool,(ok15 = true → L.drop a15 = [[sDone]] → okz = true) → ok = true → ∀ c,claimS L = some c → okz = true ∧ c = (k,(g,r,()),u,v,n,d,(cj,ring,()),(sk,sm,si,sp,()),im,(mp,md,mi,()),st,()):=fun okz hz hok c hc=>by
  simp only [claimS,Option.bind_eq_some_iff] at hc
  obtain ⟨f,w1,m,w2,s',w3,hc⟩:=hc
  split at hc
  ·rename_i hd
   obtain ⟨k',g',r',u',v',n',d',q1,q2,q3,q4,q5,q6,q7,rfl⟩:=front_some w1
   have e0:L.drop 0 = L:=rfl
   rw [← e0] at q1
   obtain ⟨o1,rfl⟩:=G1.is hok _ q1
   obtain ⟨o2,rfl⟩:=G2.is o1 _ q2
   obtain ⟨o3,rfl⟩:=G3.is o2 _ q3
   obtain ⟨o4,rfl⟩:=G4.is o3 _ q4
   obtain ⟨o5,rfl⟩:=G5.is o4 _ q5
   obtain ⟨o6,rfl⟩:=G6.is o5 _ q6
   obtain ⟨o7,rfl⟩:=G7.is o6 _ q7
   obtain ⟨x1,x2,x3,x4,x5,x6,x7,p1,p2,p3,p4,p5,p6,p7,rfl⟩:=middle_some w2
   obtain ⟨o8,rfl⟩:=G8.is o7 _ p1
   obtain ⟨o9,rfl⟩:=G9.is o8 _ p2
   obtain ⟨o10,rfl⟩:=G10.is o9 _ p3
   obtain ⟨o11,rfl⟩:=G11.is o10 _ p4
   obtain ⟨o12,rfl⟩:=G12.is o11 _ p5
   obtain ⟨o13,rfl⟩:=G13.is o12 _ p6
   obtain ⟨o14,rfl⟩:=G14.is o13 _ p7
   obtain ⟨o15,rfl⟩:=G15.is o14 _ w3
   simp only [Option.some.injEq] at hc
   exact ⟨hz o15 hd,hc.symm⟩
  ·cases hc
 refine CallP.mk _ _ (next_pc sDone L hL a15 G15.le ok15) ?_ (fun p h=>h.elim)
 rintro y ⟨z,_⟩ ⟨ps,b,a',rfl,hz,nx⟩
 have hz:z = rd L a' ok15:=hz
 subst hz
 have hlen:(wrapL L).length = L.length:=by simp [wrapL]
 have hdone:ok15 = true → L.drop a15 = [[sDone]] → b = true ∧ ps = [] ∧ a' = L.length:=fun h1 h2=>by
  have h3:=nx.yes h1
  rw [h2] at h3
  have h4:(([],true,[]):List Str × Bool × Lns) = (ps,b,L.drop a'):=by rw [← h3]; simp [takeF]
  simp only [Prod.mk.injEq] at h4
  refine ⟨h4.2.1.symm,h4.1.symm,?_⟩
  have h5:(L.drop a').length = 0:=by rw [← h4.2.2]; rfl
  rw [List.length_drop] at h5
  have:=nx.le
  omega
 refine BrP.mk' (fun hb=>?_) (fun hb=>?_)
 ·have hb:b = true:=hb
  refine LenL.mk fun _=>?_
  refine BrP.mk' (fun hc=>?_) (fun hc=>?_)
  ·refine LenL.mk fun _=>?_
   refine CallP.mk _ _ (rmust_pc L a' ok15 _) ?_ (fun p h=>h.elim)
   rintro y ⟨z,_⟩ hz
   refine Exists.intro a' (Exists.intro _ (And.intro hz (And.intro lim (fin _ fun h1 h2=>?_))))
   obtain ⟨_,_,k3⟩:=hdone h1 h2
   show (ok15 && ((a':Int) == ((wrapL L).length:Int))) = true
   rw [h1,k3,hlen]; simp
  ·refine CallP.mk _ _ (rmust_pc L a' ok15 _) ?_ (fun p h=>h.elim)
   rintro y ⟨z,_⟩ hz
   refine Exists.intro a' (Exists.intro _ (And.intro hz (And.intro lim (fin _ fun h1 h2=>?_))))
   obtain ⟨_,k2,_⟩:=hdone h1 h2
   have hc:((ps.length:Int) == 0) = false:=hc
   rw [k2] at hc; cases hc
 ·have hb:b = false:=hb
  refine CallP.mk _ _ (rmust_pc L a' ok15 _) ?_ (fun p h=>h.elim)
  rintro y ⟨z,_⟩ hz
  refine Exists.intro a' (Exists.intro _ (And.intro hz (And.intro lim (fin _ fun h1 h2=>?_))))
  obtain ⟨k1,_,_⟩:=hdone h1 h2
  rw [hb] at k1; cases k1
end Go.Proofs.YtpifnlfmojfgpaaGreatDoor.Rk
end
section
set_option maxRecDepth 10000
set_option maxHeartbeats 40000000
namespace Go.Proofs.YtpifnlfmojfgpaaGreatDoor.Rk
open Fw Pw Ct Pk
theorem claim12 (L:Lns) (hL:LimL L) (ok:Bool) (s:Str) (k:Int) (hk:KindI s 10 k) (g:Int) (lg:In64 g) (a1 a2:Nat) (okg ok2:Bool) (G1:RStg (mustS kindS sClaim) L 0 ok k a1 okg) (G2:RStg (mustS num1S sGens) L a1 okg g a2 ok2) (r:List Str) (a3:Nat) (ok3:Bool) (G3:RDone soleS sRel L a2 ok2 (fun r=>r.length ≤ NN) r a3 ok3) (lpres:Lim NN presT (g,r,())) (u:Str) (a4:Nat) (ok4:Bool) (lu:u.length ≤ NN) (G4:RStg (optS soleS sU []) L a3 ok3 u a4 ok4) (v:Str) (a5:Nat) (ok5:Bool) (lv:v.length ≤ NN) (G5:RStg (optS soleS sV []) L a4 ok4 v a5 ok5) (n:Int) (a6:Nat) (ok6:Bool) (ln:In64 n) (G6:RStg (optS num1S sN 0) L a5 ok5 n a6 ok6) (d:List Cell) (a7:Nat) (ok7:Bool) (G7:RDone cellS sCell L a6 ok6 CellOk d a7 ok7) (cj:Str) (a8:Nat) (ok8:Bool) (lcj:cj.length ≤ NN) (G8:RStg (optS soleS sConj []) L a7 ok7 cj a8 ok8) (ring:List Cell) (a9:Nat) (ok9:Bool) (G9:RDone cellS sRing L a8 ok8 CellOk ring a9 ok9) (sk sm:Int) (a10:Nat) (ok10:Bool) (lsep:In64 sk ∧ In64 sm) (G10:RStg (optS num2S sSep (0,0)) L a9 ok9 (sk,sm) a10 ok10) (si:List Int) (a11:Nat) (ok11:Bool) (lsi:RowOk si) (G11:RStg (optS listS sImage []) L a10 ok10 si a11 ok11) (sp:List (List Int)) (a12:Nat) (ok12:Bool) (G12:RDone listS sPerm L a11 ok11 RowOk sp a12 ok12) (im:List Int) (a13:Nat) (ok13:Bool) (lim0:RowOk im) (G13:RStg (optS listS sValue []) L a12 ok12 im a13 ok13) (mp:Pres) (md:Int) (mi:List (List Int)) (a14:Nat) (ok14:Bool) (lmap:Lim NN mapT (mp,md,mi,())) (G14:RStg (mapP (g,r,())) L a13 ok13 (mp,md,mi,()) a14 ok14) :
  St40 22 39 L ok (rd L a14 ok14) (clm k g r u v n d (cj,ring,()) sk sm si sp im mp md mi zeroStr):=by
 refine JoinP.mk (fun x=>∃ (st:Strc) (a15:Nat) (ok15:Bool),x = (rd L a15 ok15,clm k g r u v n d (cj,ring,()) sk sm si sp im mp md mi st,()) ∧ Lim NN strT st ∧ RStg (lastS (g,r,())) L a14 ok14 st a15 ok15) ?_ ?_
 rotate_left
 ·refine CallP.mk _ _ (next_pc sAccept L hL a14 G14.le ok14) ?_ (fun p h=>h.elim)
  rintro y ⟨z,_⟩ ⟨ps,b,a',rfl,hz,nx⟩
  have hz:z = rd L a' ok14:=hz
  subst hz
  refine BrP.mk' (fun hb=>?_) (fun hb=>?_)
  ·have hb:b = true:=hb
   rw [hb] at nx
   refine CallP.mk _ _ (rstruct_pc ps nx.parts.1 nx.parts.2 L hL a' nx.le ok14 (g,r,()) lpres) ?_ (fun p h=>h.elim)
   rintro ⟨st,_⟩ ⟨z,_⟩ ⟨a2',e2,hz,hst⟩
   have hz:z = rd L a2' e2:=hz
   subst hz
   refine SameV.mk (by kernel_rfl) (SameV.mk (by kernel_rfl) (SameV.mk (by kernel_rfl) (SameV.mk (by kernel_rfl) ?_)))
   exact ⟨st,a2',e2,(by kernel_rfl),hst.all,last_some nx hst⟩
  ·have hb:b = false:=hb
   rw [hb] at nx
   refine SameV.mk (by kernel_rfl) (SameV.mk (by kernel_rfl) (SameV.mk (by kernel_rfl) (SameV.mk (by kernel_rfl) ?_)))
   exact ⟨zeroStr,a',ok14,(by kernel_rfl),str_zero,last_none nx⟩
 rintro x ⟨st,a15,ok15,rfl,lst,G15⟩
 exact Eq.mp (by kernel_rfl) (claim13 L hL ok s k hk g lg a1 a2 okg ok2 G1 G2 r a3 ok3 G3 lpres u a4 ok4 lu G4 v a5 ok5 lv G5 n a6 ok6 ln G6 d a7 ok7 G7 cj a8 ok8 lcj G8 ring a9 ok9 G9 sk sm a10 ok10 lsep G10 si a11 ok11 lsi G11 sp a12 ok12 G12 im a13 ok13 lim0 G13 mp md mi a14 ok14 lmap G14 st a15 ok15 lst G15)
end Go.Proofs.YtpifnlfmojfgpaaGreatDoor.Rk
end
section
set_option maxRecDepth 10000
set_option maxHeartbeats 40000000
namespace Go.Proofs.YtpifnlfmojfgpaaGreatDoor.Rk
open Fw Pw Ct Pk
theorem claim11 (L:Lns) (hL:LimL L) (ok:Bool) (s:Str) (k:Int) (hk:KindI s 10 k) (g:Int) (lg:In64 g) (a1 a2:Nat) (okg ok2:Bool) (G1:RStg (mustS kindS sClaim) L 0 ok k a1 okg) (G2:RStg (mustS num1S sGens) L a1 okg g a2 ok2) (r:List Str) (a3:Nat) (ok3:Bool) (G3:RDone soleS sRel L a2 ok2 (fun r=>r.length ≤ NN) r a3 ok3) (lpres:Lim NN presT (g,r,())) (u:Str) (a4:Nat) (ok4:Bool) (lu:u.length ≤ NN) (G4:RStg (optS soleS sU []) L a3 ok3 u a4 ok4) (v:Str) (a5:Nat) (ok5:Bool) (lv:v.length ≤ NN) (G5:RStg (optS soleS sV []) L a4 ok4 v a5 ok5) (n:Int) (a6:Nat) (ok6:Bool) (ln:In64 n) (G6:RStg (optS num1S sN 0) L a5 ok5 n a6 ok6) (d:List Cell) (a7:Nat) (ok7:Bool) (G7:RDone cellS sCell L a6 ok6 CellOk d a7 ok7) (cj:Str) (a8:Nat) (ok8:Bool) (lcj:cj.length ≤ NN) (G8:RStg (optS soleS sConj []) L a7 ok7 cj a8 ok8) (ring:List Cell) (a9:Nat) (ok9:Bool) (G9:RDone cellS sRing L a8 ok8 CellOk ring a9 ok9) (sk sm:Int) (a10:Nat) (ok10:Bool) (lsep:In64 sk ∧ In64 sm) (G10:RStg (optS num2S sSep (0,0)) L a9 ok9 (sk,sm) a10 ok10) (si:List Int) (a11:Nat) (ok11:Bool) (lsi:RowOk si) (G11:RStg (optS listS sImage []) L a10 ok10 si a11 ok11) (sp:List (List Int)) (a12:Nat) (ok12:Bool) (G12:RDone listS sPerm L a11 ok11 RowOk sp a12 ok12) (im:List Int) (a13:Nat) (ok13:Bool) (lim0:RowOk im) (G13:RStg (optS listS sValue []) L a12 ok12 im a13 ok13) :
  St40 21 36 L ok (rd L a13 ok13) (clm k g r u v n d (cj,ring,()) sk sm si sp im zeroPres 0 [] zeroStr):=by
 refine JoinP.mk (fun x=>∃ (mp:Pres) (md:Int) (mi:List (List Int)) (a14:Nat) (ok14:Bool),x = (rd L a14 ok14,clm k g r u v n d (cj,ring,()) sk sm si sp im mp md mi zeroStr,()) ∧ Lim NN mapT (mp,md,mi,()) ∧ RStg (mapP (g,r,())) L a13 ok13 (mp,md,mi,()) a14 ok14) ?_ ?_
 rotate_left
 ·refine CallP.mk _ _ (next_pc sDegree L hL a13 G13.le ok13) ?_ (fun p h=>h.elim)
  rintro y ⟨z,_⟩ ⟨ps,b,a',rfl,hz,nx⟩
  have hz:z = rd L a' ok13:=hz
  subst hz
  refine BrP.mk' (fun hb=>?_) (fun hb=>?_)
  ·have hb:b = true:=hb
   rw [hb] at nx
   refine CallP.mk _ _ (fixed_pc L a' ok13 ps 1 (by decide) nx.parts.1 nx.parts.2) ?_ (fun p h=>h.elim)
   rintro ⟨l,_⟩ ⟨z,_⟩ ⟨e0,hz,hf⟩
   have hz:z = rd L a' e0:=hz
   subst hz
   have hf1:=fix1 hf
   obtain ⟨md,hld,ld,hdg⟩:=hf1
   refine GetL.is 0 (x:=md) rfl (get_one hld) ?_
   have nx0:=nx
   refine SameV.mk (by kernel_rfl) (SameV.mk (by kernel_rfl) (SameV.mk (by kernel_rfl) (SameV.mk (by kernel_rfl) ?_)))
   refine LoopP.mk (fun x=>∃ (q:List (List Int)) (c1:Nat) (e1:Bool),x = (rd L c1 e1,clm k g r u v n d (cj,ring,()) sk sm si sp im (g,r,()) md q zeroStr,()) ∧ RMany listS sPoint L a' e0 RowOk q c1 e1) (fun x=>L.length - x.1.2.1.toNat) (Exists.intro [] (Exists.intro a' (Exists.intro e0 (And.intro rfl (RMany.start _ _ nx.le _ _))))) ?_
   rintro x ⟨q,c1,e1,rfl,hm⟩
   refine CallP.mk _ _ (next_pc sPoint L hL c1 hm.le e1) ?_ (fun p h=>h.elim)
   rintro y ⟨z,_⟩ ⟨ps,b,c2,rfl,hz,nx⟩
   have hz:z = rd L c2 e1:=hz
   subst hz
   refine BrP.mk' (fun hb=>?_) (fun hb=>?_)
   ·have hb:b = false:=bnot_t hb
    rw [hb] at nx
    refine SameV.mk (by kernel_rfl) (SameV.mk (by kernel_rfl) (SameV.mk (by kernel_rfl) (SameV.mk (by kernel_rfl) ?_)))
    exact ⟨(g,r,()),md,q,c2,e1,(by kernel_rfl),⟨lpres,ld,rows_lim (Nat.le_trans (hm.done nx).len hL.len) (hm.done nx).all,trivial⟩,map_stage nx0 hdg (hm.done nx)⟩
   ·have hb:b = true:=bnot_f hb
    rw [hb] at nx
    refine CallP.mk _ _ (rlist_pc L c2 e1 ps nx.parts.1 nx.parts.2) ?_ (fun p h=>h.elim)
    rintro ⟨s,_⟩ ⟨z,_⟩ ⟨e2,hz,hs⟩
    have hz:z = rd L c2 e2:=hz
    subst hz
    have hr:=rlist_row hs nx.parts.1
    have q2:e1 = true → ∀ x,listS ps = some x → e2 = true ∧ s = x:=hs.is
    have hnext:RMany listS sPoint L a' e0 RowOk (q ++ [s]) c2 e2:=hm.next nx hr q2
    have hlt:=nx.lt rfl
    have hle:=nx.le
    refine AppL.mk' (by show q.length + 1 ≤ _; have:=hm.len; have:=hL.len; unfold NN at this; omega) ?_
    refine SameV.mk (by kernel_rfl) (SameV.mk (by kernel_rfl) (SameV.mk (by kernel_rfl) (SameV.mk (by kernel_rfl) ?_)))
    refine And.intro ((Exists.intro (q ++ [s]) (Exists.intro c2 (Exists.intro e2 (And.intro ?_ hnext))))) ?_
    ·rfl
    ·show L.length - (c2:Int).toNat < L.length - (c1:Int).toNat
     omega
  ·have hb:b = false:=hb
   rw [hb] at nx
   refine SameV.mk (by kernel_rfl) (SameV.mk (by kernel_rfl) (SameV.mk (by kernel_rfl) (SameV.mk (by kernel_rfl) ?_)))
   exact ⟨zeroPres,0,[],a',ok13,(by kernel_rfl),map_zero,map_none nx⟩
 rintro x ⟨mp,md,mi,a14,ok14,rfl,lmap,G14⟩
 exact Eq.mp (by kernel_rfl) (claim12 L hL ok s k hk g lg a1 a2 okg ok2 G1 G2 r a3 ok3 G3 lpres u a4 ok4 lu G4 v a5 ok5 lv G5 n a6 ok6 ln G6 d a7 ok7 G7 cj a8 ok8 lcj G8 ring a9 ok9 G9 sk sm a10 ok10 lsep G10 si a11 ok11 lsi G11 sp a12 ok12 G12 im a13 ok13 lim0 G13 mp md mi a14 ok14 lmap G14)
end Go.Proofs.YtpifnlfmojfgpaaGreatDoor.Rk
end
section
set_option maxRecDepth 10000
set_option maxHeartbeats 40000000
namespace Go.Proofs.YtpifnlfmojfgpaaGreatDoor.Rk
open Fw Pw Ct Pk
theorem claim10 (L:Lns) (hL:LimL L) (ok:Bool) (s:Str) (k:Int) (hk:KindI s 10 k) (g:Int) (lg:In64 g) (a1 a2:Nat) (okg ok2:Bool) (G1:RStg (mustS kindS sClaim) L 0 ok k a1 okg) (G2:RStg (mustS num1S sGens) L a1 okg g a2 ok2) (r:List Str) (a3:Nat) (ok3:Bool) (G3:RDone soleS sRel L a2 ok2 (fun r=>r.length ≤ NN) r a3 ok3) (lpres:Lim NN presT (g,r,())) (u:Str) (a4:Nat) (ok4:Bool) (lu:u.length ≤ NN) (G4:RStg (optS soleS sU []) L a3 ok3 u a4 ok4) (v:Str) (a5:Nat) (ok5:Bool) (lv:v.length ≤ NN) (G5:RStg (optS soleS sV []) L a4 ok4 v a5 ok5) (n:Int) (a6:Nat) (ok6:Bool) (ln:In64 n) (G6:RStg (optS num1S sN 0) L a5 ok5 n a6 ok6) (d:List Cell) (a7:Nat) (ok7:Bool) (G7:RDone cellS sCell L a6 ok6 CellOk d a7 ok7) (cj:Str) (a8:Nat) (ok8:Bool) (lcj:cj.length ≤ NN) (G8:RStg (optS soleS sConj []) L a7 ok7 cj a8 ok8) (ring:List Cell) (a9:Nat) (ok9:Bool) (G9:RDone cellS sRing L a8 ok8 CellOk ring a9 ok9) (sk sm:Int) (a10:Nat) (ok10:Bool) (lsep:In64 sk ∧ In64 sm) (G10:RStg (optS num2S sSep (0,0)) L a9 ok9 (sk,sm) a10 ok10) (si:List Int) (a11:Nat) (ok11:Bool) (lsi:RowOk si) (G11:RStg (optS listS sImage []) L a10 ok10 si a11 ok11) (sp:List (List Int)) (a12:Nat) (ok12:Bool) (G12:RDone listS sPerm L a11 ok11 RowOk sp a12 ok12) :
  St40 20 33 L ok (rd L a12 ok12) (clm k g r u v n d (cj,ring,()) sk sm si sp [] zeroPres 0 [] zeroStr):=by
 refine JoinP.mk (fun x=>∃ (im:List Int) (a13:Nat) (ok13:Bool),x = (rd L a13 ok13,clm k g r u v n d (cj,ring,()) sk sm si sp im zeroPres 0 [] zeroStr,()) ∧ RowOk im ∧ RStg (optS listS sValue []) L a12 ok12 im a13 ok13) ?_ ?_
 rotate_left
 ·refine CallP.mk _ _ (next_pc sValue L hL a12 G12.le ok12) ?_ (fun p h=>h.elim)
  rintro y ⟨z,_⟩ ⟨ps,b,a',rfl,hz,nx⟩
  have hz:z = rd L a' ok12:=hz
  subst hz
  refine BrP.mk' (fun hb=>?_) (fun hb=>?_)
  ·have hb:b = true:=hb
   rw [hb] at nx
   refine CallP.mk _ _ (rlist_pc L a' ok12 ps nx.parts.1 nx.parts.2) ?_ (fun p h=>h.elim)
   rintro ⟨l,_⟩ ⟨z,_⟩ ⟨e2,hz,hl⟩
   have hz:z = rd L a' e2:=hz
   subst hz
   have hr:=rlist_row hl nx.parts.1
   have q2:ok12 = true → ∀ x,listS ps = some x → e2 = true ∧ l = x:=hl.is
   refine SameV.mk (by kernel_rfl) (SameV.mk (by kernel_rfl) (SameV.mk (by kernel_rfl) (SameV.mk (by kernel_rfl) ?_)))
   exact ⟨l,a',e2,(by kernel_rfl),hr,RStg.yes nx fun h x hx=>⟨(q2 h x hx).1,(q2 h x hx).2.symm⟩⟩
  ·have hb:b = false:=hb
   rw [hb] at nx
   refine SameV.mk (by kernel_rfl) (SameV.mk (by kernel_rfl) (SameV.mk (by kernel_rfl) (SameV.mk (by kernel_rfl) ?_)))
   exact ⟨[],a',ok12,(by kernel_rfl),row_nil,RStg.no nx⟩
 rintro x ⟨im,a13,ok13,rfl,lim0,G13⟩
 exact Eq.mp (by kernel_rfl) (claim11 L hL ok s k hk g lg a1 a2 okg ok2 G1 G2 r a3 ok3 G3 lpres u a4 ok4 lu G4 v a5 ok5 lv G5 n a6 ok6 ln G6 d a7 ok7 G7 cj a8 ok8 lcj G8 ring a9 ok9 G9 sk sm a10 ok10 lsep G10 si a11 ok11 lsi G11 sp a12 ok12 G12 im a13 ok13 lim0 G13)
end Go.Proofs.YtpifnlfmojfgpaaGreatDoor.Rk
end
section
set_option maxRecDepth 10000
set_option maxHeartbeats 40000000
namespace Go.Proofs.YtpifnlfmojfgpaaGreatDoor.Rk
open Fw Pw Ct Pk
theorem claim9 (L:Lns) (hL:LimL L) (ok:Bool) (s:Str) (k:Int) (hk:KindI s 10 k) (g:Int) (lg:In64 g) (a1 a2:Nat) (okg ok2:Bool) (G1:RStg (mustS kindS sClaim) L 0 ok k a1 okg) (G2:RStg (mustS num1S sGens) L a1 okg g a2 ok2) (r:List Str) (a3:Nat) (ok3:Bool) (G3:RDone soleS sRel L a2 ok2 (fun r=>r.length ≤ NN) r a3 ok3) (lpres:Lim NN presT (g,r,())) (u:Str) (a4:Nat) (ok4:Bool) (lu:u.length ≤ NN) (G4:RStg (optS soleS sU []) L a3 ok3 u a4 ok4) (v:Str) (a5:Nat) (ok5:Bool) (lv:v.length ≤ NN) (G5:RStg (optS soleS sV []) L a4 ok4 v a5 ok5) (n:Int) (a6:Nat) (ok6:Bool) (ln:In64 n) (G6:RStg (optS num1S sN 0) L a5 ok5 n a6 ok6) (d:List Cell) (a7:Nat) (ok7:Bool) (G7:RDone cellS sCell L a6 ok6 CellOk d a7 ok7) (cj:Str) (a8:Nat) (ok8:Bool) (lcj:cj.length ≤ NN) (G8:RStg (optS soleS sConj []) L a7 ok7 cj a8 ok8) (ring:List Cell) (a9:Nat) (ok9:Bool) (G9:RDone cellS sRing L a8 ok8 CellOk ring a9 ok9) (sk sm:Int) (a10:Nat) (ok10:Bool) (lsep:In64 sk ∧ In64 sm) (G10:RStg (optS num2S sSep (0,0)) L a9 ok9 (sk,sm) a10 ok10) (si:List Int) (a11:Nat) (ok11:Bool) (lsi:RowOk si) (G11:RStg (optS listS sImage []) L a10 ok10 si a11 ok11) :
  St40 19 30 L ok (rd L a11 ok11) (clm k g r u v n d (cj,ring,()) sk sm si [] [] zeroPres 0 [] zeroStr):=by
 refine JoinP.mk (fun x=>∃ (sp:List (List Int)) (a12:Nat) (ok12:Bool),x = (rd L a12 ok12,clm k g r u v n d (cj,ring,()) sk sm si sp [] zeroPres 0 [] zeroStr,()) ∧ RDone listS sPerm L a11 ok11 RowOk sp a12 ok12) ?_ ?_
 rotate_left
 ·skip
  refine SameV.mk (by kernel_rfl) (SameV.mk (by kernel_rfl) (SameV.mk (by kernel_rfl) (SameV.mk (by kernel_rfl) ?_)))
  refine LoopP.mk (fun x=>∃ (q:List (List Int)) (c1:Nat) (e1:Bool),x = (rd L c1 e1,clm k g r u v n d (cj,ring,()) sk sm si q [] zeroPres 0 [] zeroStr,()) ∧ RMany listS sPerm L a11 ok11 RowOk q c1 e1) (fun x=>L.length - x.1.2.1.toNat) (Exists.intro [] (Exists.intro a11 (Exists.intro ok11 (And.intro rfl (RMany.start _ _ G11.le _ _))))) ?_
  rintro x ⟨q,c1,e1,rfl,hm⟩
  refine CallP.mk _ _ (next_pc sPerm L hL c1 hm.le e1) ?_ (fun p h=>h.elim)
  rintro y ⟨z,_⟩ ⟨ps,b,c2,rfl,hz,nx⟩
  have hz:z = rd L c2 e1:=hz
  subst hz
  refine BrP.mk' (fun hb=>?_) (fun hb=>?_)
  ·have hb:b = false:=bnot_t hb
   rw [hb] at nx
   refine SameV.mk (by kernel_rfl) (SameV.mk (by kernel_rfl) (SameV.mk (by kernel_rfl) (SameV.mk (by kernel_rfl) ?_)))
   exact ⟨q,c2,e1,(by kernel_rfl),hm.done nx⟩
  ·have hb:b = true:=bnot_f hb
   rw [hb] at nx
   refine CallP.mk _ _ (rlist_pc L c2 e1 ps nx.parts.1 nx.parts.2) ?_ (fun p h=>h.elim)
   rintro ⟨s,_⟩ ⟨z,_⟩ ⟨e2,hz,hs⟩
   have hz:z = rd L c2 e2:=hz
   subst hz
   have hr:=rlist_row hs nx.parts.1
   have q2:e1 = true → ∀ x,listS ps = some x → e2 = true ∧ s = x:=hs.is
   have hnext:RMany listS sPerm L a11 ok11 RowOk (q ++ [s]) c2 e2:=hm.next nx hr q2
   have hlt:=nx.lt rfl
   have hle:=nx.le
   refine AppL.mk' (by show q.length + 1 ≤ _; have:=hm.len; have:=hL.len; unfold NN at this; omega) ?_
   refine SameV.mk (by kernel_rfl) (SameV.mk (by kernel_rfl) (SameV.mk (by kernel_rfl) (SameV.mk (by kernel_rfl) ?_)))
   refine And.intro ((Exists.intro (q ++ [s]) (Exists.intro c2 (Exists.intro e2 (And.intro ?_ hnext))))) ?_
   ·rfl
   ·show L.length - (c2:Int).toNat < L.length - (c1:Int).toNat
    omega
 rintro x ⟨sp,a12,ok12,rfl,G12⟩
 exact Eq.mp (by kernel_rfl) (claim10 L hL ok s k hk g lg a1 a2 okg ok2 G1 G2 r a3 ok3 G3 lpres u a4 ok4 lu G4 v a5 ok5 lv G5 n a6 ok6 ln G6 d a7 ok7 G7 cj a8 ok8 lcj G8 ring a9 ok9 G9 sk sm a10 ok10 lsep G10 si a11 ok11 lsi G11 sp a12 ok12 G12)
end Go.Proofs.YtpifnlfmojfgpaaGreatDoor.Rk
end
section
set_option maxRecDepth 10000
set_option maxHeartbeats 40000000
namespace Go.Proofs.YtpifnlfmojfgpaaGreatDoor.Rk
open Fw Pw Ct Pk
theorem claim7 (L:Lns) (hL:LimL L) (ok:Bool) (s:Str) (k:Int) (hk:KindI s 10 k) (g:Int) (lg:In64 g) (a1 a2:Nat) (okg ok2:Bool) (G1:RStg (mustS kindS sClaim) L 0 ok k a1 okg) (G2:RStg (mustS num1S sGens) L a1 okg g a2 ok2) (r:List Str) (a3:Nat) (ok3:Bool) (G3:RDone soleS sRel L a2 ok2 (fun r=>r.length ≤ NN) r a3 ok3) (lpres:Lim NN presT (g,r,())) (u:Str) (a4:Nat) (ok4:Bool) (lu:u.length ≤ NN) (G4:RStg (optS soleS sU []) L a3 ok3 u a4 ok4) (v:Str) (a5:Nat) (ok5:Bool) (lv:v.length ≤ NN) (G5:RStg (optS soleS sV []) L a4 ok4 v a5 ok5) (n:Int) (a6:Nat) (ok6:Bool) (ln:In64 n) (G6:RStg (optS num1S sN 0) L a5 ok5 n a6 ok6) (d:List Cell) (a7:Nat) (ok7:Bool) (G7:RDone cellS sCell L a6 ok6 CellOk d a7 ok7) (cj:Str) (a8:Nat) (ok8:Bool) (lcj:cj.length ≤ NN) (G8:RStg (optS soleS sConj []) L a7 ok7 cj a8 ok8) (ring:List Cell) (a9:Nat) (ok9:Bool) (G9:RDone cellS sRing L a8 ok8 CellOk ring a9 ok9) :
  St40 17 24 L ok (rd L a9 ok9) (clm k g r u v n d (cj,ring,()) 0 0 [] [] [] zeroPres 0 [] zeroStr):=by
 refine JoinP.mk (fun x=>∃ (sk sm:Int) (a10:Nat) (ok10:Bool),x = (rd L a10 ok10,clm k g r u v n d (cj,ring,()) sk sm [] [] [] zeroPres 0 [] zeroStr,()) ∧ (In64 sk ∧ In64 sm) ∧ RStg (optS num2S sSep (0,0)) L a9 ok9 (sk,sm) a10 ok10) ?_ ?_
 rotate_left
 ·refine CallP.mk _ _ (next_pc sSep L hL a9 G9.le ok9) ?_ (fun p h=>h.elim)
  rintro y ⟨z,_⟩ ⟨ps,b,a',rfl,hz,nx⟩
  have hz:z = rd L a' ok9:=hz
  subst hz
  refine BrP.mk' (fun hb=>?_) (fun hb=>?_)
  ·have hb:b = true:=hb
   rw [hb] at nx
   refine CallP.mk _ _ (fixed_pc L a' ok9 ps 2 (by decide) nx.parts.1 nx.parts.2) ?_ (fun p h=>h.elim)
   rintro ⟨l,_⟩ ⟨z,_⟩ ⟨e2,hz,hf⟩
   have hz:z = rd L a' e2:=hz
   subst hz
   have hf2:=fix2 hf
   obtain ⟨n0,n1,hln,i0,i1,hn⟩:=hf2
   refine GetL.is 0 (x:=n0) rfl (get0 hln) (GetL.is 1 (x:=n1) rfl (get1 hln) ?_)
   refine SameV.mk (by kernel_rfl) (SameV.mk (by kernel_rfl) (SameV.mk (by kernel_rfl) (SameV.mk (by kernel_rfl) ?_)))
   exact ⟨n0,n1,a',e2,(by kernel_rfl),⟨i0,i1⟩,RStg.yes nx hn⟩
  ·have hb:b = false:=hb
   rw [hb] at nx
   refine SameV.mk (by kernel_rfl) (SameV.mk (by kernel_rfl) (SameV.mk (by kernel_rfl) (SameV.mk (by kernel_rfl) ?_)))
   exact ⟨0,0,a',ok9,(by kernel_rfl),⟨in0,in0⟩,RStg.no nx⟩
 rintro x ⟨sk,sm,a10,ok10,rfl,lsep,G10⟩
 refine JoinP.mk (fun x=>∃ (si:List Int) (a11:Nat) (ok11:Bool),x = (rd L a11 ok11,clm k g r u v n d (cj,ring,()) sk sm si [] [] zeroPres 0 [] zeroStr,()) ∧ RowOk si ∧ RStg (optS listS sImage []) L a10 ok10 si a11 ok11) ?_ ?_
 rotate_left
 ·refine CallP.mk _ _ (next_pc sImage L hL a10 G10.le ok10) ?_ (fun p h=>h.elim)
  rintro y ⟨z,_⟩ ⟨ps,b,a',rfl,hz,nx⟩
  have hz:z = rd L a' ok10:=hz
  subst hz
  refine BrP.mk' (fun hb=>?_) (fun hb=>?_)
  ·have hb:b = true:=hb
   rw [hb] at nx
   refine CallP.mk _ _ (rlist_pc L a' ok10 ps nx.parts.1 nx.parts.2) ?_ (fun p h=>h.elim)
   rintro ⟨l,_⟩ ⟨z,_⟩ ⟨e2,hz,hl⟩
   have hz:z = rd L a' e2:=hz
   subst hz
   have hr:=rlist_row hl nx.parts.1
   have q2:ok10 = true → ∀ x,listS ps = some x → e2 = true ∧ l = x:=hl.is
   refine SameV.mk (by kernel_rfl) (SameV.mk (by kernel_rfl) (SameV.mk (by kernel_rfl) (SameV.mk (by kernel_rfl) ?_)))
   exact ⟨l,a',e2,(by kernel_rfl),hr,RStg.yes nx fun h x hx=>⟨(q2 h x hx).1,(q2 h x hx).2.symm⟩⟩
  ·have hb:b = false:=hb
   rw [hb] at nx
   refine SameV.mk (by kernel_rfl) (SameV.mk (by kernel_rfl) (SameV.mk (by kernel_rfl) (SameV.mk (by kernel_rfl) ?_)))
   exact ⟨[],a',ok10,(by kernel_rfl),row_nil,RStg.no nx⟩
 rintro x ⟨si,a11,ok11,rfl,lsi,G11⟩
 exact Eq.mp (by kernel_rfl) (claim9 L hL ok s k hk g lg a1 a2 okg ok2 G1 G2 r a3 ok3 G3 lpres u a4 ok4 lu G4 v a5 ok5 lv G5 n a6 ok6 ln G6 d a7 ok7 G7 cj a8 ok8 lcj G8 ring a9 ok9 G9 sk sm a10 ok10 lsep G10 si a11 ok11 lsi G11)
end Go.Proofs.YtpifnlfmojfgpaaGreatDoor.Rk
end
section
set_option maxRecDepth 10000
set_option maxHeartbeats 40000000
namespace Go.Proofs.YtpifnlfmojfgpaaGreatDoor.Rk
open Fw Pw Ct Pk
theorem claim5 (L:Lns) (hL:LimL L) (ok:Bool) (s:Str) (k:Int) (hk:KindI s 10 k) (g:Int) (lg:In64 g) (a1 a2:Nat) (okg ok2:Bool) (G1:RStg (mustS kindS sClaim) L 0 ok k a1 okg) (G2:RStg (mustS num1S sGens) L a1 okg g a2 ok2) (r:List Str) (a3:Nat) (ok3:Bool) (G3:RDone soleS sRel L a2 ok2 (fun r=>r.length ≤ NN) r a3 ok3) (lpres:Lim NN presT (g,r,())) (u:Str) (a4:Nat) (ok4:Bool) (lu:u.length ≤ NN) (G4:RStg (optS soleS sU []) L a3 ok3 u a4 ok4) (v:Str) (a5:Nat) (ok5:Bool) (lv:v.length ≤ NN) (G5:RStg (optS soleS sV []) L a4 ok4 v a5 ok5) (n:Int) (a6:Nat) (ok6:Bool) (ln:In64 n) (G6:RStg (optS num1S sN 0) L a5 ok5 n a6 ok6) (d:List Cell) (a7:Nat) (ok7:Bool) (G7:RDone cellS sCell L a6 ok6 CellOk d a7 ok7) :
  St40 15 18 L ok (rd L a7 ok7) (clm k g r u v n d ([],[],()) 0 0 [] [] [] zeroPres 0 [] zeroStr):=by
 refine JoinP.mk (fun x=>∃ (cj:Str) (a8:Nat) (ok8:Bool),x = (rd L a8 ok8,clm k g r u v n d (cj,[],()) 0 0 [] [] [] zeroPres 0 [] zeroStr,()) ∧ cj.length ≤ NN ∧ RStg (optS soleS sConj []) L a7 ok7 cj a8 ok8) ?_ ?_
 rotate_left
 ·refine CallP.mk _ _ (next_pc sConj L hL a7 G7.le ok7) ?_ (fun p h=>h.elim)
  rintro y ⟨z,_⟩ ⟨ps,b,a',rfl,hz,nx⟩
  have hz:z = rd L a' ok7:=hz
  subst hz
  refine BrP.mk' (fun hb=>?_) (fun hb=>?_)
  ·have hb:b = true:=hb
   rw [hb] at nx
   refine CallP.mk _ _ (rone_pc L a' ok7 ps nx.parts.2) ?_ (fun p h=>h.elim)
   rintro ⟨s,_⟩ ⟨z,_⟩ ⟨e2,hz,hs1,hs2⟩
   have hz:z = rd L a' e2:=hz
   subst hz
   have q2:ok7 = true → ∀ x,soleS ps = some x → e2 = true ∧ s = x:=hs2.is
   refine SameV.mk (by kernel_rfl) (SameV.mk (by kernel_rfl) (SameV.mk (by kernel_rfl) (SameV.mk (by kernel_rfl) ?_)))
   exact ⟨s,a',e2,(by kernel_rfl),hs1,RStg.yes nx fun h x hx=>⟨(q2 h x hx).1,(q2 h x hx).2.symm⟩⟩
  ·have hb:b = false:=hb
   rw [hb] at nx
   refine SameV.mk (by kernel_rfl) (SameV.mk (by kernel_rfl) (SameV.mk (by kernel_rfl) (SameV.mk (by kernel_rfl) ?_)))
   exact ⟨[],a',ok7,(by kernel_rfl),Nat.zero_le _,RStg.no nx⟩
 rintro x ⟨cj,a8,ok8,rfl,lcj,G8⟩
 refine JoinP.mk (fun x=>∃ (ring:List Cell) (a9:Nat) (ok9:Bool),x = (rd L a9 ok9,clm k g r u v n d (cj,ring,()) 0 0 [] [] [] zeroPres 0 [] zeroStr,()) ∧ RDone cellS sRing L a8 ok8 CellOk ring a9 ok9) ?_ ?_
 rotate_left
 ·refine CallP.mk _ _ (rcells_pc sRing L hL a8 G8.le ok8) ?_ (fun p h=>h.elim)
  rintro ⟨d,_⟩ ⟨z,_⟩ ⟨a',e2,hz,hd⟩
  have hz:z = rd L a' e2:=hz
  subst hz
  refine SameV.mk (by kernel_rfl) (SameV.mk (by kernel_rfl) (SameV.mk (by kernel_rfl) (SameV.mk (by kernel_rfl) ?_)))
  exact ⟨d,a',e2,(by kernel_rfl),hd⟩
 rintro x ⟨ring,a9,ok9,rfl,G9⟩
 exact Eq.mp (by kernel_rfl) (claim7 L hL ok s k hk g lg a1 a2 okg ok2 G1 G2 r a3 ok3 G3 lpres u a4 ok4 lu G4 v a5 ok5 lv G5 n a6 ok6 ln G6 d a7 ok7 G7 cj a8 ok8 lcj G8 ring a9 ok9 G9)
end Go.Proofs.YtpifnlfmojfgpaaGreatDoor.Rk
end
section
set_option maxRecDepth 10000
set_option maxHeartbeats 40000000
namespace Go.Proofs.YtpifnlfmojfgpaaGreatDoor.Rk
open Fw Pw Ct Pk
theorem claim3 (L:Lns) (hL:LimL L) (ok:Bool) (s:Str) (k:Int) (hk:KindI s 10 k) (g:Int) (lg:In64 g) (a1 a2:Nat) (okg ok2:Bool) (G1:RStg (mustS kindS sClaim) L 0 ok k a1 okg) (G2:RStg (mustS num1S sGens) L a1 okg g a2 ok2) (r:List Str) (a3:Nat) (ok3:Bool) (G3:RDone soleS sRel L a2 ok2 (fun r=>r.length ≤ NN) r a3 ok3) (lpres:Lim NN presT (g,r,())) (u:Str) (a4:Nat) (ok4:Bool) (lu:u.length ≤ NN) (G4:RStg (optS soleS sU []) L a3 ok3 u a4 ok4) (v:Str) (a5:Nat) (ok5:Bool) (lv:v.length ≤ NN) (G5:RStg (optS soleS sV []) L a4 ok4 v a5 ok5) :
  St40 13 12 L ok (rd L a5 ok5) (clm k g r u v 0 [] ([],[],()) 0 0 [] [] [] zeroPres 0 [] zeroStr):=by
 refine JoinP.mk (fun x=>∃ (n:Int) (a6:Nat) (ok6:Bool),x = (rd L a6 ok6,clm k g r u v n [] ([],[],()) 0 0 [] [] [] zeroPres 0 [] zeroStr,()) ∧ In64 n ∧ RStg (optS num1S sN 0) L a5 ok5 n a6 ok6) ?_ ?_
 rotate_left
 ·refine CallP.mk _ _ (next_pc sN L hL a5 G5.le ok5) ?_ (fun p h=>h.elim)
  rintro y ⟨z,_⟩ ⟨ps,b,a',rfl,hz,nx⟩
  have hz:z = rd L a' ok5:=hz
  subst hz
  refine BrP.mk' (fun hb=>?_) (fun hb=>?_)
  ·have hb:b = true:=hb
   rw [hb] at nx
   refine CallP.mk _ _ (fixed_pc L a' ok5 ps 1 (by decide) nx.parts.1 nx.parts.2) ?_ (fun p h=>h.elim)
   rintro ⟨l,_⟩ ⟨z,_⟩ ⟨e2,hz,hf⟩
   have hz:z = rd L a' e2:=hz
   subst hz
   have hf1:=fix1 hf
   obtain ⟨n,hln,ln,hn⟩:=hf1
   refine GetL.is 0 (x:=n) rfl (get_one hln) ?_
   refine SameV.mk (by kernel_rfl) (SameV.mk (by kernel_rfl) (SameV.mk (by kernel_rfl) (SameV.mk (by kernel_rfl) ?_)))
   exact ⟨n,a',e2,(by kernel_rfl),ln,RStg.yes nx hn⟩
  ·have hb:b = false:=hb
   rw [hb] at nx
   refine SameV.mk (by kernel_rfl) (SameV.mk (by kernel_rfl) (SameV.mk (by kernel_rfl) (SameV.mk (by kernel_rfl) ?_)))
   exact ⟨0,a',ok5,(by kernel_rfl),in0,RStg.no nx⟩
 rintro x ⟨n,a6,ok6,rfl,ln,G6⟩
 refine JoinP.mk (fun x=>∃ (d:List Cell) (a7:Nat) (ok7:Bool),x = (rd L a7 ok7,clm k g r u v n d ([],[],()) 0 0 [] [] [] zeroPres 0 [] zeroStr,()) ∧ RDone cellS sCell L a6 ok6 CellOk d a7 ok7) ?_ ?_
 rotate_left
 ·refine CallP.mk _ _ (rcells_pc sCell L hL a6 G6.le ok6) ?_ (fun p h=>h.elim)
  rintro ⟨d,_⟩ ⟨z,_⟩ ⟨a',e2,hz,hd⟩
  have hz:z = rd L a' e2:=hz
  subst hz
  refine SameV.mk (by kernel_rfl) (SameV.mk (by kernel_rfl) (SameV.mk (by kernel_rfl) (SameV.mk (by kernel_rfl) ?_)))
  exact ⟨d,a',e2,(by kernel_rfl),hd⟩
 rintro x ⟨d,a7,ok7,rfl,G7⟩
 exact Eq.mp (by kernel_rfl) (claim5 L hL ok s k hk g lg a1 a2 okg ok2 G1 G2 r a3 ok3 G3 lpres u a4 ok4 lu G4 v a5 ok5 lv G5 n a6 ok6 ln G6 d a7 ok7 G7)
end Go.Proofs.YtpifnlfmojfgpaaGreatDoor.Rk
end
section
set_option maxRecDepth 10000
set_option maxHeartbeats 40000000
namespace Go.Proofs.YtpifnlfmojfgpaaGreatDoor.Rk
open Fw Pw Ct Pk
theorem rclaim_pc (L:Lns) (hL:LimL L) (ok:Bool):PC Tryz.prog 40 sg40 (rd L 0 ok,()) (fun y z=>∃ a' ok',z.1 = rd L a' ok' ∧ Lim NN claimT y.1 ∧ (ok = true → ∀ c,claimS L = some c → ok' = true ∧ c = y.1)) (fun _=>False):=by
 refine PC.of a40 sigs40 (by kernel_rfl) ?_
 refine CallP.mk _ _ (next_pc sClaim L hL 0 (Nat.zero_le _) ok) ?_ (fun p h=>h.elim)
 rintro y ⟨z,_⟩ ⟨ps1,b1,a1,rfl,hz,n1⟩
 have hz:z = rd L a1 ok:=hz
 subst hz
 refine CallP.mk _ _ (rmust_pc L a1 ok b1) ?_ (fun p h=>h.elim)
 rintro y ⟨z,_⟩ hz
 have hz:z = rd L a1 (ok && b1):=hz
 subst hz
 refine CallP.mk _ _ (rone_pc L a1 (ok && b1) ps1 n1.parts.2) ?_ (fun p h=>h.elim)
 rintro ⟨s,_⟩ ⟨z,_⟩ ⟨ok1,hz,hs1,hs2⟩
 have hz:z = rd L a1 ok1:=hz
 subst hz
 have s2:(ok && b1) = true → ∀ x,soleS ps1 = some x → ok1 = true ∧ s = x:=hs2.is
 -- the kind
 refine JoinP.mk (fun x=>∃ (k:Int),x = (rd L a1 ok1,clm k 0 [] [] [] 0 [] ([],[],()) 0 0 [] [] [] zeroPres 0 [] zeroStr,()) ∧ KindI s 10 k) ?_ ?_
 rotate_left
 ·refine SameV.mk (by kernel_rfl) (SameV.mk (by kernel_rfl) (SameV.mk (by kernel_rfl) (SameV.mk (by kernel_rfl) (SameV.mk (by kernel_rfl) ?_))))
  refine LoopP.mk (fun x=>∃ (i:Nat) (k:Int),x = ((i:Int),rd L a1 ok1,clm k 0 [] [] [] 0 [] ([],[],()) 0 0 [] [] [] zeroPres 0 [] zeroStr,()) ∧ 1 ≤ i ∧ i ≤ 10 ∧ KindI s i k) (fun x=>10 - x.1.toNat) (Exists.intro 1 (Exists.intro 0 (And.intro rfl ⟨Nat.le_refl _,by decide,⟨fun j h1 h2=>by omega,by decide,by decide⟩⟩))) ?_
  rintro x ⟨i,k,rfl,hi1,hi2,hk⟩
  refine BrP.mk' (fun hb=>?_) (fun hb=>?_)
  ·have hb:(i:Int) < 10:=of_decide_eq_true hb
   have hi:i < kindsL.length:=by show i < 10; omega
   have hg:kindsL[i]? = some kindsL[i]:=List.getElem?_eq_getElem hi
   have hw:IntKind.wrap .i64 ((i:Int) + 1) = ((i + 1:Nat):Int):=Fw.wrap64 (by omega) (by omega)
   have hmu:10 - (IntKind.wrap .i64 ((i:Int) + 1)).toNat < 10 - (i:Int).toNat:=by rw [hw]; omega
   refine CallP.mk _ _ names_pc ?_ (fun p h=>h.elim)
   rintro ⟨y,_⟩ z rfl
   refine GetL.is i (x:=kindsL[i]) rfl hg ?_
   refine BrP.mk' (fun hc=>?_) (fun hc=>?_)
   ·have hc:kindsL[i] = s:=by simpa using hc
    rw [hc] at hg
    refine SameV.mk (by kernel_rfl) (SameV.mk (by kernel_rfl) (SameV.mk (by kernel_rfl) (SameV.mk (by kernel_rfl) (SameV.mk (by kernel_rfl) ?_))))
    refine And.intro (Exists.intro (i + 1) ((Exists.intro (i:Int) (And.intro ?_ ⟨by omega,by omega,⟨fun j h1 h2 h3=>?_,by omega,by omega⟩⟩)))) hmu
    ·rw [← hw]; rfl
    ·rw [kinds_inj hg h3]
   ·have hc:kindsL[i] ≠ s:=by simpa using hc
    refine SameV.mk (by kernel_rfl) (SameV.mk (by kernel_rfl) (SameV.mk (by kernel_rfl) (SameV.mk (by kernel_rfl) (SameV.mk (by kernel_rfl) ?_))))
    refine And.intro (Exists.intro (i + 1) ((Exists.intro k (And.intro ?_ ⟨by omega,by omega,⟨fun j h1 h2 h3=>?_,hk.lo,hk.hi⟩⟩)))) hmu
    ·rw [← hw]; rfl
    ·by_cases hj:j = i
     ·subst hj; rw [hg] at h3; simp only [Option.some.injEq] at h3; exact absurd h3 hc
     ·exact hk.is j h1 (by omega) h3
  ·have hb:¬ (i:Int) < 10:=of_decide_eq_false hb
   have hi:i = 10:=by omega
   refine SameV.mk (by kernel_rfl) (SameV.mk (by kernel_rfl) (SameV.mk (by kernel_rfl) (SameV.mk (by kernel_rfl) ?_)))
   exact ⟨k,(by kernel_rfl),hi ▸ hk⟩
 rintro x ⟨k,rfl,hk⟩
 -- gens
 refine CallP.mk _ _ (rmust_pc L a1 ok1 _) ?_ (fun p h=>h.elim)
 rintro y ⟨z,_⟩ hz
 have hz:z = rd L a1 (ok1 && decide (k > 0)):=hz
 subst hz
 have G1:RStg (mustS kindS sClaim) L 0 ok k a1 (ok1 && decide (k > 0)):=RStg.must n1 fun hb hok x hx=>by
  have hs:∃ s',soleS ps1 = some s':=by
   cases hq:soleS ps1 with
   | some s'=>exact ⟨s',rfl⟩
   | none=>unfold kindS at hx; rw [hq] at hx; cases hx
  obtain ⟨s',hs⟩:=hs
  obtain ⟨q1,q2⟩:=s2 (by rw [hok,hb]; rfl) s' hs
  subst q2
  obtain ⟨q3,q4⟩:=kindS_is hk hs hx
  exact ⟨by rw [q1,decide_eq_true q4]; rfl,q3⟩
 have Eg:∃ b,b = (ok1 && decide (k > 0)):=⟨_,rfl⟩
 obtain ⟨okg,hokg⟩:=Eg
 rw [← hokg] at G1
 refine CallP.mk _ _ (next_pc sGens L hL a1 n1.le _) ?_ (fun p h=>h.elim)
 rintro y ⟨z,_⟩ ⟨ps2,b2,a2,rfl,hz,n2⟩
 have hz:z = rd L a2 (ok1 && decide (k > 0)):=hz
 subst hz
 refine CallP.mk _ _ (rmust_pc L a2 _ b2) ?_ (fun p h=>h.elim)
 rintro y ⟨z,_⟩ hz
 have hz:z = rd L a2 ((ok1 && decide (k > 0)) && b2):=hz
 subst hz
 refine CallP.mk _ _ (fixed_pc L a2 _ ps2 1 (by decide) n2.parts.1 n2.parts.2) ?_ (fun p h=>h.elim)
 rintro ⟨l,_⟩ ⟨z,_⟩ ⟨ok2,hz,hf⟩
 have hz:z = rd L a2 ok2:=hz
 subst hz
 have hf1:=fix1 hf
 obtain ⟨g,hlg,lg,hg⟩:=hf1
 refine GetL.is 0 (x:=g) rfl (get_one hlg) ?_
 have G2:RStg (mustS num1S sGens) L a1 okg g a2 ok2:=RStg.must (ok:=okg) (by rw [hokg]; exact n2) fun hb hok x hx=>hg (by rw [← hokg,hok,hb]; rfl) x hx
 refine JoinP.mk (fun x=>∃ (r:List Str) (a3:Nat) (ok3:Bool),x = (rd L a3 ok3,clm k g r [] [] 0 [] ([],[],()) 0 0 [] [] [] zeroPres 0 [] zeroStr,()) ∧ RDone soleS sRel L a2 ok2 (fun r=>r.length ≤ NN) r a3 ok3) ?_ ?_
 rotate_left
 ·refine SameV.mk (by kernel_rfl) (SameV.mk (by kernel_rfl) (SameV.mk (by kernel_rfl) (SameV.mk (by kernel_rfl) ?_)))
  refine LoopP.mk (fun x=>∃ (r:List Str) (c1:Nat) (e1:Bool),x = (rd L c1 e1,clm k g r [] [] 0 [] ([],[],()) 0 0 [] [] [] zeroPres 0 [] zeroStr,()) ∧ RMany soleS sRel L a2 ok2 (fun r=>r.length ≤ NN) r c1 e1) (fun x=>L.length - x.1.2.1.toNat) ((Exists.intro [] (Exists.intro a2 (Exists.intro ok2 (And.intro rfl (RMany.start _ _ G2.le _ _)))))) ?_
  rintro x ⟨r,c1,e1,rfl,hm⟩
  refine CallP.mk _ _ (next_pc sRel L hL c1 hm.le e1) ?_ (fun p h=>h.elim)
  rintro y ⟨z,_⟩ ⟨ps,b,c2,rfl,hz,nx⟩
  have hz:z = rd L c2 e1:=hz
  subst hz
  refine BrP.mk' (fun hb=>?_) (fun hb=>?_)
  ·have hb:b = false:=bnot_t hb
   rw [hb] at nx
   refine SameV.mk (by kernel_rfl) (SameV.mk (by kernel_rfl) (SameV.mk (by kernel_rfl) (SameV.mk (by kernel_rfl) ?_)))
   exact ⟨r,c2,e1,(by kernel_rfl),hm.done nx⟩
  ·have hb:b = true:=bnot_f hb
   rw [hb] at nx
   refine CallP.mk _ _ (rone_pc L c2 e1 ps nx.parts.2) ?_ (fun p h=>h.elim)
   rintro ⟨s,_⟩ ⟨z,_⟩ ⟨e2,hz,hs1,hs2⟩
   have hz:z = rd L c2 e2:=hz
   subst hz
   have q2:e1 = true → ∀ x,soleS ps = some x → e2 = true ∧ s = x:=hs2.is
   have hnext:RMany soleS sRel L a2 ok2 (fun r=>r.length ≤ NN) (r ++ [s]) c2 e2:=hm.next nx hs1 q2
   have hlt:=nx.lt rfl
   have hle:=nx.le
   refine AppL.mk' (by show r.length + 1 ≤ _; have:=hm.len; have:=hL.len; unfold NN at this; omega) ?_
   refine SameV.mk (by kernel_rfl) (SameV.mk (by kernel_rfl) (SameV.mk (by kernel_rfl) (SameV.mk (by kernel_rfl) ?_)))
   refine And.intro ((Exists.intro (r ++ [s]) (Exists.intro c2 (Exists.intro e2 (And.intro ?_ hnext))))) ?_
   ·rfl
   ·show L.length - (c2:Int).toNat < L.length - (c1:Int).toNat
    omega
 rintro x ⟨r,a3,ok3,rfl,G3⟩
 have lpres:Lim NN presT (g,r,()):=⟨lg,⟨Nat.le_trans G3.len hL.len,G3.all⟩,trivial⟩
 refine JoinP.mk (fun x=>∃ (u:Str) (a4:Nat) (ok4:Bool),x = (rd L a4 ok4,clm k g r u [] 0 [] ([],[],()) 0 0 [] [] [] zeroPres 0 [] zeroStr,()) ∧ u.length ≤ NN ∧ RStg (optS soleS sU []) L a3 ok3 u a4 ok4) ?_ ?_
 rotate_left
 ·refine CallP.mk _ _ (next_pc sU L hL a3 G3.le ok3) ?_ (fun p h=>h.elim)
  rintro y ⟨z,_⟩ ⟨ps,b,a',rfl,hz,nx⟩
  have hz:z = rd L a' ok3:=hz
  subst hz
  refine BrP.mk' (fun hb=>?_) (fun hb=>?_)
  ·have hb:b = true:=hb
   rw [hb] at nx
   refine CallP.mk _ _ (rone_pc L a' ok3 ps nx.parts.2) ?_ (fun p h=>h.elim)
   rintro ⟨s,_⟩ ⟨z,_⟩ ⟨e2,hz,hs1,hs2⟩
   have hz:z = rd L a' e2:=hz
   subst hz
   have q2:ok3 = true → ∀ x,soleS ps = some x → e2 = true ∧ s = x:=hs2.is
   refine SameV.mk (by kernel_rfl) (SameV.mk (by kernel_rfl) (SameV.mk (by kernel_rfl) (SameV.mk (by kernel_rfl) ?_)))
   exact ⟨s,a',e2,(by kernel_rfl),hs1,RStg.yes nx fun h x hx=>⟨(q2 h x hx).1,(q2 h x hx).2.symm⟩⟩
  ·have hb:b = false:=hb
   rw [hb] at nx
   refine SameV.mk (by kernel_rfl) (SameV.mk (by kernel_rfl) (SameV.mk (by kernel_rfl) (SameV.mk (by kernel_rfl) ?_)))
   exact ⟨[],a',ok3,(by kernel_rfl),Nat.zero_le _,RStg.no nx⟩
 rintro x ⟨u,a4,ok4,rfl,lu,G4⟩
 refine JoinP.mk (fun x=>∃ (v:Str) (a5:Nat) (ok5:Bool),x = (rd L a5 ok5,clm k g r u v 0 [] ([],[],()) 0 0 [] [] [] zeroPres 0 [] zeroStr,()) ∧ v.length ≤ NN ∧ RStg (optS soleS sV []) L a4 ok4 v a5 ok5) ?_ ?_
 rotate_left
 ·refine CallP.mk _ _ (next_pc sV L hL a4 G4.le ok4) ?_ (fun p h=>h.elim)
  rintro y ⟨z,_⟩ ⟨ps,b,a',rfl,hz,nx⟩
  have hz:z = rd L a' ok4:=hz
  subst hz
  refine BrP.mk' (fun hb=>?_) (fun hb=>?_)
  ·have hb:b = true:=hb
   rw [hb] at nx
   refine CallP.mk _ _ (rone_pc L a' ok4 ps nx.parts.2) ?_ (fun p h=>h.elim)
   rintro ⟨s,_⟩ ⟨z,_⟩ ⟨e2,hz,hs1,hs2⟩
   have hz:z = rd L a' e2:=hz
   subst hz
   have q2:ok4 = true → ∀ x,soleS ps = some x → e2 = true ∧ s = x:=hs2.is
   refine SameV.mk (by kernel_rfl) (SameV.mk (by kernel_rfl) (SameV.mk (by kernel_rfl) (SameV.mk (by kernel_rfl) ?_)))
   exact ⟨s,a',e2,(by kernel_rfl),hs1,RStg.yes nx fun h x hx=>⟨(q2 h x hx).1,(q2 h x hx).2.symm⟩⟩
  ·have hb:b = false:=hb
   rw [hb] at nx
   refine SameV.mk (by kernel_rfl) (SameV.mk (by kernel_rfl) (SameV.mk (by kernel_rfl) (SameV.mk (by kernel_rfl) ?_)))
   exact ⟨[],a',ok4,(by kernel_rfl),Nat.zero_le _,RStg.no nx⟩
 rintro x ⟨v,a5,ok5,rfl,lv,G5⟩
 exact Eq.mp (by kernel_rfl) (claim3 L hL ok s k hk g lg a1 a2 okg ok2 G1 G2 r a3 ok3 G3 lpres u a4 ok4 lu G4 v a5 ok5 lv G5)
end Go.Proofs.YtpifnlfmojfgpaaGreatDoor.Rk
end
