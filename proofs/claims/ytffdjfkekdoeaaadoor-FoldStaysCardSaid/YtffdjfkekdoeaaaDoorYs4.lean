/- Parts of a proof, laid one behind the other by our own merge.py: PlMade PlPrune RfIs PlAll PlTotal RfFold PlStall1 PlCheck PlTree PlBasis PlStall2 PlStall3 LwFinds PlWord PlLang PlUniq PlSame PlNum PlGood PlMove PlLead PlGen PlGen2 PlGen3 PlLg Sh5 FmGraft LwMade RfJoin LwCopied. -/
import Derived.Test.YtffdjfkekdoeaaaDoorYs3
import Derived.Test.YtffdjfkekdoeaaaDoorYs2
import Derived.Test.YtffdjfkekdoeaaaDoorYs1
import Derived.Test.YtffdjfkekdoeaaaDoorProg
import Derived.KernelRfl
import Derived.Laws.OwnMore
set_option linter.unusedVariables false
set_option linter.unusedSimpArgs false
section
set_option maxRecDepth 4000
set_option maxHeartbeats 2000000
namespace Go.Proofs.YtffdjfkekdoeaaaDoor.Pl
open Fo
theorem Inv.congr {E E':List Edg} {st:St} (h:Inv E st) (he:∀ e,e ∈ E ↔ e ∈ E'):Inv E' st:=by
 have m1:∀ e ∈ E,e ∈ E':=fun e h=>(he e).1 h
 exact ⟨h.ok,h.todo,⟨fun u v hh=>(h.snd.par u v hh).mono m1,fun u v hh=>(h.snd.todo u v hh).mono m1,fun i x t hh=>by
  obtain ⟨s,e1,e2⟩:=h.snd.ent i x t hh; exact ⟨s,m1 _ e1,e2.mono m1⟩⟩,fun s x t hh=>h.cm s x t ((he _).2 hh)⟩
theorem Root.lt_left {par:List Nat} {s r:Nat} (h:Root par s r):s < par.length:=by
 cases h with
 | base h=>exact (List.getElem?_eq_some_iff.1 h).1
 | step h _ _=>exact (List.getElem?_eq_some_iff.1 h).1
theorem root_app {par:List Nat} {d:Nat → Nat} (hf:Forest par d) {u v:Nat}:Root (par ++ [par.length]) u v ↔ Root par u v ∨ (u = par.length ∧ v = par.length):=by
 have hn:(par ++ [par.length])[par.length]? = some par.length:=by simp
 constructor
 ·intro h
  induction h with
  | base h=>
   rename_i s
   by_cases hs:s < par.length
   ·rw [List.getElem?_append_left hs] at h; exact .inl (.base h)
   ·have:=(List.getElem?_eq_some_iff.1 h).1
    simp at this
    exact .inr ⟨by omega,by omega⟩
  | step h1 h2 h3 ih=>
   rename_i s p r
   by_cases hs:s < par.length
   ·rw [List.getElem?_append_left hs] at h1
    rcases ih with ih | ⟨ih,ih'⟩
    ·exact .inl (.step h1 h2 ih)
    ·obtain ⟨q,q1,q2,_⟩:=hf.at' s hs
     rw [h1] at q1; cases q1
     omega
   ·have:=(List.getElem?_eq_some_iff.1 h1).1
    simp at this
    obtain rfl:s = par.length:=by omega
    rw [hn] at h1; cases h1; exact absurd rfl h2
 ·rintro (h | ⟨rfl,rfl⟩)
  ·induction h with
   | base h=>exact .base (by rw [List.getElem?_append_left (List.getElem?_eq_some_iff.1 h).1]; exact h)
   | step h1 h2 _ ih=>exact .step (by rw [List.getElem?_append_left (List.getElem?_eq_some_iff.1 h1).1]; exact h1) h2 ih
  ·exact .base hn
theorem state_ev {E:List Edg} {st:St} (h:Inv E st) (hb:st.par.length < big) :
  ∃ st',stateF st = some st' ∧ Inv E st' ∧ st'.m = st.m ∧ st'.par.length = st.par.length + 1:=by
 obtain ⟨d,hf⟩:=h.ok.forest
 have hroot:=fun u v=>root_app hf (u:=u) (v:=v)
 have hsm:∀ u v,Sm (st.par ++ [st.par.length]) u v → Sm st.par u v ∨ u = v:=fun u v ⟨r,h1,h2⟩=>by
  rcases (hroot _ _).1 h1 with h1 | ⟨h1,h1'⟩ <;> rcases (hroot _ _).1 h2 with h2 | ⟨h2,h2'⟩
  ·exact .inl ⟨r,h1,h2⟩
  ·have:=h1.lt; omega
  ·have:=h2.lt; omega
  ·exact .inr (by omega)
 have hent:∀ i x t,Ent { st with par:=st.par ++ [st.par.length],next:=st.next ++ [List.replicate st.m none] } i x t ↔ Ent st i x t:=fun i x t=>by
  constructor
  ·rintro ⟨row,h1,h2⟩
   have h1:(st.next ++ [List.replicate st.m none])[i]? = some row:=h1
   by_cases hi:i < st.next.length
   ·rw [List.getElem?_append_left hi] at h1; exact ⟨row,h1,h2⟩
   ·rw [List.getElem?_append_right (by omega)] at h1
    cases hk:i - st.next.length with
    | zero=>
     rw [hk] at h1
     simp only [List.getElem?_cons_zero,Option.some.injEq] at h1
     subst h1
     rw [List.getElem?_replicate] at h2
     split at h2 <;> cases h2
    | succ n=>rw [hk] at h1; simp at h1
  ·rintro ⟨row,h1,h2⟩
   exact ⟨row,by show (st.next ++ [_])[i]? = _; rw [List.getElem?_append_left (List.getElem?_eq_some_iff.1 h1).1]; exact h1,h2⟩
 refine ⟨{ st with par:=st.par ++ [st.par.length],next:=st.next ++ [List.replicate st.m none] },?_,⟨⟨?_,⟨d,⟨fun s hs=>?_⟩⟩,fun r hr=>?_,fun p hp=>?_⟩,h.todo,⟨fun u v hh=>?_,h.snd.todo,fun i x t hh=>h.snd.ent i x t ((hent i x t).1 hh)⟩,fun s x t he=>?_⟩,rfl,by simp⟩
 ·unfold stateF
  rw [if_pos ⟨hb,by rw [h.ok.len]; exact hb⟩]
 ·simp [h.ok.len]
 ·have hs:s < (st.par ++ [st.par.length]).length:=hs
  show ∃ p,(st.par ++ [st.par.length])[s]? = some p ∧ p < (st.par ++ [st.par.length]).length ∧ _
  simp only [List.length_append,List.length_singleton] at hs ⊢
  by_cases hl:s < st.par.length
  ·obtain ⟨p,h1,h2,h3⟩:=hf.at' s hl
   exact ⟨p,by rw [List.getElem?_append_left hl]; exact h1,by omega,h3⟩
  ·obtain rfl:s = st.par.length:=by omega
   exact ⟨st.par.length,by simp,by omega,fun hh=>absurd rfl hh⟩
 ·show r.length = st.m ∧ ∀ t,some t ∈ r → t < (st.par ++ [st.par.length]).length
  rcases List.mem_append.1 hr with hr | hr
  ·have:=h.ok.row r hr
   exact ⟨this.1,fun t ht=>by have:=this.2 t ht; simp; omega⟩
  ·simp only [List.mem_singleton] at hr
   subst hr
   exact ⟨by simp,fun t ht=>by have:=List.eq_of_mem_replicate ht; cases this⟩
 ·have hp:p ∈ st.todo:=hp
  rw [h.todo] at hp; simp at hp
 ·rcases hsm u v hh with hh | rfl
  ·exact h.snd.par u v hh
  ·exact .refl u
 ·obtain ⟨r,t',h1,h2,h3⟩:=h.cm s x t he
  exact ⟨r,t',(hroot _ _).2 (.inl h1),(hent _ _ _).2 h2,h3.mono (fun u v ⟨q,a,b⟩=>.same ⟨q,(hroot _ _).2 (.inl a),(hroot _ _).2 (.inl b)⟩) fun u v hp=>.pair hp⟩
def pathE:Nat → Nat → List Nat → Nat → List Edg
 | _,_,[],_=>[]
 | _,s,[x],t=>[(s,x,t),(t,x ^^^ 1,s)]
 | n,s,x :: y :: l,t=>(s,x,n) :: (n,x ^^^ 1,s) :: pathE (n + 1) n (y :: l) t
theorem path_ev:∀ (w:List Nat) (E:List Edg) (st:St) (s t:Nat),Inv E st → s < st.par.length → t < st.par.length → (∀ x ∈ w,x < st.m ∧ x ^^^ 1 < st.m) → (st.par.length + w.length) * (st.m + 1) + 2 + st.m < big →
  ∃ st',Ev (fun K=>pathF K st s w t) st' ∧ Inv (pathE st.par.length s w t ++ E) st' ∧ st'.m = st.m ∧ st'.par.length = st.par.length + (w.length - 1)
 | [],E,st,s,t,h,hs,ht,hw,hb=>⟨st,⟨0,fun _ _=>by simp [pathF]⟩,h,rfl,rfl⟩
 | [x],E,st,s,t,h,hs,ht,hw,hb=>by
  have hx:=hw x (by simp)
  have hle:st.par.length * (st.m + 1) ≤ (st.par.length + [x].length) * (st.m + 1):=Nat.mul_le_mul_right _ (by simp)
  obtain ⟨st',⟨K0,h1⟩,h2,h3,h4⟩:=link_ev h hs ht hx.1 hx.2 (by omega)
  exact ⟨st',⟨K0,fun K hK=>by show pathF K st s [x] t = _; simp only [pathF]; exact h1 K hK⟩,h2,h3,by rw [h4]; rfl⟩
 | x :: y :: l,E,st,s,t,h,hs,ht,hw,hb=>by
  have hx:=hw x (by simp)
  have hlen:(x :: y :: l).length = l.length + 2:=by simp
  have hle:(st.par.length + 1) * (st.m + 1) ≤ (st.par.length + (x :: y :: l).length) * (st.m + 1):=Nat.mul_le_mul_right _ (by omega)
  have hbig:st.par.length < big:=by
   have:st.par.length + 1 ≤ (st.par.length + 1) * (st.m + 1):=Nat.le_mul_of_pos_right _ (by omega)
   omega
  obtain ⟨st1,a1,a2,a3,a4⟩:=state_ev h hbig
  obtain ⟨st2,⟨K2,b1⟩,b2,b3,b4⟩:=link_ev a2 (s:=s) (x:=x) (t:=st.par.length) (by omega) (by omega) (by rw [a3]; exact hx.1) (by rw [a3]; exact hx.2) (by rw [a4,a3]; omega)
  have hn2:st2.par.length = st.par.length + 1:=by rw [b4,a4]
  have hm2:st2.m = st.m:=by rw [b3,a3]
  obtain ⟨st3,⟨K3,c1⟩,c2,c3,c4⟩:=path_ev (y :: l) _ st2 st.par.length t b2 (by omega) (by omega) (fun z hz=>by rw [hm2]; exact hw z (by simp [List.mem_cons.1 hz])) (by
   rw [hn2,hm2]
   have:(st.par.length + 1 + (y :: l).length) = st.par.length + (x :: y :: l).length:=by simp; omega
   rw [this]; exact hb)
  refine ⟨st3,⟨max K2 K3,fun K hK=>?_⟩,c2.congr fun e=>?_,c3.trans hm2,by rw [c4,hn2]; simp; omega⟩
  ·show pathF K st s (x :: y :: l) t = _
   simp only [pathF,a1]
   rw [show linkF K st1 s x st.par.length = some st2 from b1 K (by omega)]
   exact c1 K (by omega)
  ·rw [hn2]
   simp only [pathE,List.mem_append,List.mem_cons]
   constructor
   ·rintro (h | h | h | h)
    ·exact .inl (.inr (.inr h))
    ·exact .inl (.inl h)
    ·exact .inl (.inr (.inl h))
    ·exact .inr h
   ·rintro ((h | h | h) | h)
    ·exact .inr (.inl h)
    ·exact .inr (.inr (.inl h))
    ·exact .inl h
    ·exact .inr (.inr (.inr h))
def allE:Nat → List (List Nat) → List Edg
 | _,[]=>[]
 | n,w :: l=>pathE n 0 w 0 ++ allE (n + (w.length - 1)) l
def lens (ws:List (List Nat)):Nat:=(ws.map List.length).sum
theorem all_ev:∀ (ws:List (List Nat)) (E:List Edg) (st:St),Inv E st → 0 < st.par.length → (∀ w ∈ ws,∀ x ∈ w,x < st.m ∧ x ^^^ 1 < st.m) → (st.par.length + lens ws) * (st.m + 1) + 2 + st.m < big →
  ∃ st',Ev (fun K=>allF K st ws) st' ∧ Inv (E ++ allE st.par.length ws) st' ∧ st'.m = st.m ∧ 0 < st'.par.length ∧ st'.par.length ≤ st.par.length + lens ws
 | [],E,st,h,h0,hw,hb=>⟨st,⟨0,fun _ _=>by simp [allF]⟩,by simpa [allE] using h,rfl,h0,by simp [lens]⟩
 | w :: l,E,st,h,h0,hw,hb=>by
  have hl:lens (w :: l) = w.length + lens l:=by simp [lens]
  have hle:(st.par.length + w.length) * (st.m + 1) ≤ (st.par.length + lens (w :: l)) * (st.m + 1):=Nat.mul_le_mul_right _ (by omega)
  obtain ⟨st1,⟨K1,a1⟩,a2,a3,a4⟩:=path_ev w E st 0 0 h h0 h0 (hw w (by simp)) (by omega)
  have hle2:(st1.par.length + lens l) * (st.m + 1) ≤ (st.par.length + lens (w :: l)) * (st.m + 1):=Nat.mul_le_mul_right _ (by omega)
  obtain ⟨st2,⟨K2,b1⟩,b2,b3,b4,b5⟩:=all_ev l _ st1 a2 (by omega) (fun v hv x hx=>by rw [a3]; exact hw v (by simp [hv]) x hx) (by rw [a3]; omega)
  refine ⟨st2,⟨max K1 K2,fun K hK=>?_⟩,b2.congr fun e=>?_,b3.trans a3,b4,by omega⟩
  ·show allF K st (w :: l) = _
   simp only [allF]
   rw [show pathF K st 0 w 0 = some st1 from a1 K (by omega)]
   exact b1 K (by omega)
  ·rw [a4]
   simp only [allE,List.mem_append]
   constructor
   ·rintro ((h | h) | h)
    ·exact .inr (.inl h)
    ·exact .inl h
    ·exact .inr (.inr h)
   ·rintro (h | h | h)
    ·exact .inl (.inr h)
    ·exact .inl (.inl h)
    ·exact .inr h
theorem start_inv (m:Nat):Inv [] (start0 m) where
 ok:=⟨rfl,⟨fun _=>0,⟨fun s hs=>by
  have:s = 0:=by have hs:s < 1:=hs; omega
  subst this
  exact ⟨0,rfl,Nat.zero_lt_one,fun h=>absurd rfl h⟩⟩⟩,fun r hr=>by
   have hr:r = List.replicate m none:=by simpa [start0] using hr
   subst hr
   exact ⟨by simp [start0],fun t ht=>by have:=List.eq_of_mem_replicate ht; cases this⟩,fun p hp=>by simp [start0] at hp⟩
 todo:=rfl
 snd:=⟨fun u v ⟨r,h1,h2⟩=>by
  have e1:u = 0:=by have:=h1.lt_left; have:u < 1:=this; omega
  have e2:v = 0:=by have:=h2.lt_left; have:v < 1:=this; omega
  subst e1; subst e2; exact .refl 0,fun u v h=>by simp [start0] at h,fun i x t ⟨row,h1,h2⟩=>by
   have hm:=List.mem_of_getElem? h1
   have hr:row = List.replicate m none:=by simpa [start0] using hm
   subst hr
   have:=List.eq_of_mem_replicate (List.mem_of_getElem? h2)
   cases this⟩
 cm:=fun s x t h=>by simp at h
open Classical in
noncomputable def rt (par:List Nat) (u:Nat):Nat:=if h:∃ r,Root par u r then Classical.choose h else u
theorem rt_spec {par:List Nat} {u r:Nat} (h:Root par u r):rt par u = r:=by
 unfold rt
 have hx:∃ r,Root par u r:=⟨r,h⟩
 rw [dif_pos hx]
 exact (Classical.choose_spec hx).unique h
theorem rt_congr {par par':List Nat} (h:∀ u v,Root par' u v ↔ Root par u v) (u:Nat):rt par' u = rt par u:=by
 by_cases hx:∃ r,Root par u r
 ·obtain ⟨r,hr⟩:=hx
  rw [rt_spec hr,rt_spec ((h _ _).2 hr)]
 ·have hx':¬ ∃ r,Root par' u r:=fun ⟨r,hr⟩=>hx ⟨r,(h _ _).1 hr⟩
  unfold rt
  rw [dif_neg hx,dif_neg hx']
theorem reps_ev {d:Nat → Nat}:∀ (row:Row) (par:List Nat),Forest par d → (∀ t,some t ∈ row → t < par.length) →
  ∃ par',Ev (fun K=>repsF K par row) (par',row.map (Option.map (rt par))) ∧ Forest par' d ∧ par'.length = par.length ∧ ∀ u v,Root par' u v ↔ Root par u v
 | [],par,h,hr=>⟨par,⟨0,fun _ _=>rfl⟩,h,rfl,fun _ _=>Iff.rfl⟩
 | none :: l,par,h,hr=>by
  obtain ⟨par',⟨K0,h1⟩,h2,h3,h4⟩:=reps_ev l par h fun t ht=>hr t (by simp [ht])
  refine ⟨par',⟨K0,fun K hK=>?_⟩,h2,h3,h4⟩
  show repsF K par (none :: l) = _
  simp only [repsF]
  rw [show repsF K par l = _ from h1 K hK]
  rfl
 | some t :: l,par,h,hr=>by
  obtain ⟨par1,r,k1,k2,k3,k4,k5⟩:=find_ev (d t) t par (Nat.le_refl _) h (hr t (by simp))
  obtain ⟨par',⟨K0,h1⟩,h2,h3,h4⟩:=reps_ev l par1 k3 fun u hu=>by rw [k4]; exact hr u (by simp [hu])
  refine ⟨par',⟨K0 + d t + 1,fun K hK=>?_⟩,h2,h3.trans k4,fun u v=>(h4 u v).trans (k5 u v)⟩
  show repsF K par (some t :: l) = _
  simp only [repsF]
  rw [k1 K (by omega)]
  simp only
  rw [show repsF K par1 l = _ from h1 K (by omega)]
  have hc:(fun o=>Option.map (rt par1) o) = fun o=>Option.map (rt par) o:=by
   funext o; cases o with
   | none=>rfl
   | some u=>simp only [Option.map_some]; rw [rt_congr k5]
  simp only [List.map_cons,Option.map_some,rt_spec k2]
  congr 3
  exact congrArg (fun f=>l.map f) hc
noncomputable def rowsS (par:List Nat):Nat → List Row → List (Option Row)
 | _,[]=>[]
 | s,row :: l=>(if rt par s = s then some (row.map (Option.map (rt par))) else none) :: rowsS par (s + 1) l
theorem rowsS_congr {par par':List Nat} (h:∀ u v,Root par' u v ↔ Root par u v):∀ (l:List Row) (s:Nat),rowsS par' s l = rowsS par s l
 | [],_=>rfl
 | row :: l,s=>by
  have hc:(rt par') = rt par:=funext fun u=>rt_congr h u
  simp only [rowsS,rowsS_congr h l (s + 1),hc]
theorem rows_ev {d:Nat → Nat}:∀ (l:List Row) (par:List Nat) (s:Nat),Forest par d → s + l.length = par.length → (∀ row ∈ l,∀ t,some t ∈ row → t < par.length) →
  ∃ par',Ev (fun K=>rowsF K par l s) (par',rowsS par s l) ∧ Forest par' d ∧ par'.length = par.length ∧ ∀ u v,Root par' u v ↔ Root par u v
 | [],par,s,h,hl,hr=>⟨par,⟨0,fun _ _=>rfl⟩,h,rfl,fun _ _=>Iff.rfl⟩
 | row :: l,par,s,h,hl,hr=>by
  simp only [List.length_cons] at hl
  obtain ⟨par1,r,k1,k2,k3,k4,k5⟩:=find_ev (d s) s par (Nat.le_refl _) h (by omega)
  have hrt:=rt_spec k2
  by_cases hrs:r = s
  ·obtain ⟨par2,⟨K2,a1⟩,a2,a3,a4⟩:=reps_ev row par1 k3 fun t ht=>by rw [k4]; exact hr row (by simp) t ht
   have h2:∀ u v,Root par2 u v ↔ Root par u v:=fun u v=>(a4 u v).trans (k5 u v)
   obtain ⟨par',⟨K0,b1⟩,b2,b3,b4⟩:=rows_ev l par2 (s + 1) a2 (by rw [a3,k4]; omega) fun q hq t ht=>by rw [a3,k4]; exact hr q (by simp [hq]) t ht
   refine ⟨par',⟨K0 + K2 + d s + 1,fun K hK=>?_⟩,b2,b3.trans (a3.trans k4),fun u v=>(b4 u v).trans (h2 u v)⟩
   show rowsF K par (row :: l) s = _
   simp only [rowsF]
   rw [k1 K (by omega)]
   simp only [if_pos hrs]
   rw [show repsF K par1 row = _ from a1 K (by omega)]
   simp only
   rw [show rowsF K par2 l (s + 1) = _ from b1 K (by omega)]
   have hc:(rt par1) = rt par:=funext fun u=>rt_congr k5 u
   simp only [rowsS]
   rw [rowsS_congr h2,if_pos (hrt.trans hrs),hc]
  ·obtain ⟨par',⟨K0,b1⟩,b2,b3,b4⟩:=rows_ev l par1 (s + 1) k3 (by rw [k4]; omega) fun q hq t ht=>by rw [k4]; exact hr q (by simp [hq]) t ht
   refine ⟨par',⟨K0 + d s + 1,fun K hK=>?_⟩,b2,b3.trans k4,fun u v=>(b4 u v).trans (k5 u v)⟩
   show rowsF K par (row :: l) s = _
   simp only [rowsF]
   rw [k1 K (by omega)]
   simp only [if_neg hrs]
   rw [show rowsF K par1 l (s + 1) = _ from b1 K (by omega)]
   simp only [rowsS]
   rw [rowsS_congr k5,if_neg (by rw [hrt]; exact hrs)]
end Go.Proofs.YtffdjfkekdoeaaaDoor.Pl
end
section
set_option maxRecDepth 4000
set_option maxHeartbeats 2000000
namespace Go.Proofs.YtffdjfkekdoeaaaDoor.Pl
open Fo
def To (rows:List (Option Row)) (s x t:Nat):Prop:=∃ row,rows[s]? = some (some row) ∧ row[x]? = some (some t)
def Live (rows:List (Option Row)) (s:Nat):Prop:=∃ row,rows[s]? = some (some row)
structure Wf (m:Nat) (rows:List (Option Row)):Prop where
 len:∀ (s:Nat) (row:Row),rows[s]? = some (some row) → row.length = m
 tgt:∀ s x t,To rows s x t → Live rows t
 inv:∀ s x t,To rows s x t → To rows t (x ^^^ 1) s
def One (rows:List (Option Row)) (s:Nat):Prop:=∀ x x' t t',To rows s x t → To rows s x' t' → x = x'
theorem To.unique {rows:List (Option Row)} {s x t t':Nat} (h:To rows s x t) (h':To rows s x t'):t = t':=by
 obtain ⟨r,h1,h2⟩:=h; obtain ⟨r',h3,h4⟩:=h'
 rw [h1] at h3; cases h3; rw [h2] at h4; cases h4; rfl
theorem To.lt {m:Nat} {rows:List (Option Row)} (hw:Wf m rows) {s x t:Nat} (h:To rows s x t):x < m:=by
 obtain ⟨r,h1,h2⟩:=h
 rw [← hw.len s r h1]; exact (List.getElem?_eq_some_iff.1 h2).1
theorem degF_cons (o:Option Nat) (l:Row):degF (o :: l) = degF l + (if o.isSome = true then 1 else 0):=by
 unfold degF
 cases o <;> simp
theorem deg_zero:∀ (r:Row),degF r = 0 → ∀ (x t:Nat),r[x]? ≠ some (some t)
 | [],_,x,t,h=>by simp at h
 | o :: l,hd,x,t,h=>by
  rw [degF_cons] at hd
  cases x with
  | zero=>simp only [List.getElem?_cons_zero,Option.some.injEq] at h; subst h; simp at hd
  | succ x=>exact deg_zero l (by omega) x t (by simpa using h)
theorem deg_pos:∀ (r:Row),0 < degF r → ∃ x t:Nat,r[x]? = some (some t)
 | [],h=>by simp [degF] at h
 | none :: l,h=>by
  rw [degF_cons] at h
  obtain ⟨x,t,hx⟩:=deg_pos l (by simpa using h)
  exact ⟨x + 1,t,by simpa using hx⟩
 | some t :: l,_=>⟨0,t,rfl⟩
theorem deg_one:∀ (r:Row),degF r ≤ 1 → ∀ (x x' t t':Nat),r[x]? = some (some t) → r[x']? = some (some t') → x = x'
 | [],_,x,_,t,_,h,_=>by simp at h
 | o :: l,hd,x,x',t,t',h,h'=>by
  rw [degF_cons] at hd
  cases x with
  | zero=>
   simp only [List.getElem?_cons_zero,Option.some.injEq] at h
   subst h
   cases x' with
   | zero=>rfl
   | succ x'=>exact absurd (by simpa using h') (deg_zero l (by simpa using hd) x' t')
  | succ x=>
   cases x' with
   | zero=>
    simp only [List.getElem?_cons_zero,Option.some.injEq] at h'
    subst h'
    exact absurd (by simpa using h) (deg_zero l (by simpa using hd) x t)
   | succ x'=>rw [deg_one l (by omega) x x' t t' (by simpa using h) (by simpa using h')]
theorem deg_two:∀ (r:Row),2 ≤ degF r → ∀ x:Nat,∃ x' t':Nat,x' ≠ x ∧ r[x']? = some (some t')
 | [],h,_=>by simp [degF] at h
 | none :: l,h,x=>by
  rw [degF_cons] at h
  cases x with
  | zero=>
   obtain ⟨x',t',hx⟩:=deg_pos l (by simp at h; omega)
   exact ⟨x' + 1,t',by omega,by simpa using hx⟩
  | succ x=>
   obtain ⟨x',t',h1,h2⟩:=deg_two l (by simpa using h) x
   exact ⟨x' + 1,t',by omega,by simpa using h2⟩
 | some t :: l,h,x=>by
  rw [degF_cons] at h
  cases x with
  | zero=>
   obtain ⟨x',t',hx⟩:=deg_pos l (by simp at h; omega)
   exact ⟨x' + 1,t',by omega,by simpa using hx⟩
  | succ x=>exact ⟨0,t,by omega,rfl⟩
theorem deg_set:∀ (r:Row) (x t:Nat),r[x]? = some (some t) → degF (r.set x none) + 1 = degF r
 | [],x,t,h=>by simp at h
 | o :: l,0,t,h=>by
  simp only [List.getElem?_cons_zero,Option.some.injEq] at h
  subst h
  rw [List.set_cons_zero,degF_cons,degF_cons]; simp
 | o :: l,x + 1,t,h=>by
  rw [List.set_cons_succ,degF_cons,degF_cons]
  have:=deg_set l x t (by simpa using h)
  omega
def degO:Option Row → Nat
 | some r=>degF r
 | none=>0
def cnt (rows:List (Option Row)):Nat:=(rows.map degO).sum
theorem cnt_set:∀ (rows:List (Option Row)) (s:Nat) (o o':Option Row),rows[s]? = some o → cnt (rows.set s o') + degO o = cnt rows + degO o'
 | [],s,o,o',h=>by simp at h
 | p :: l,0,o,o',h=>by
  simp only [List.getElem?_cons_zero,Option.some.injEq] at h
  subst h
  simp [cnt]; omega
 | p :: l,s + 1,o,o',h=>by
  have:=cnt_set l s o o' (by simpa using h)
  simp [cnt] at this ⊢; omega
structure Part (start:Nat) (S:Nat → Nat → Nat → Prop):Prop where
 inv:∀ s x t,S s x t → S t (x ^^^ 1) s
 two:∀ s x t,S s x t → s ≠ start → ∃ x' t',x' ≠ x ∧ S s x' t'
structure Cut (start:Nat) (rows rows':List (Option Row)):Prop where
 len:rows'.length = rows.length
 live:∀ s,Live rows' s ↔ Live rows s
 sub:∀ s x t,To rows' s x t → To rows s x t
 max:∀ S,Part start S → (∀ s x t,S s x t → To rows s x t) → ∀ s x t,S s x t → To rows' s x t
theorem Cut.refl (start:Nat) (rows:List (Option Row)):Cut start rows rows:=⟨rfl,fun _=>Iff.rfl,fun _ _ _ h=>h,fun _ _ h=>h⟩
theorem Cut.trans {start:Nat} {a b c:List (Option Row)} (h:Cut start a b) (k:Cut start b c):Cut start a c:=
 ⟨k.len.trans h.len,fun s=>(k.live s).trans (h.live s),fun s x t e=>h.sub s x t (k.sub s x t e),fun S hS hs=>k.max S hS (h.max S hS hs)⟩
structure Lv (start:Nat) (rows:List (Option Row)) (leaves:List Nat) (ex:Nat → Prop):Prop where
 ok:∀ v ∈ leaves,Live rows v ∧ v ≠ start ∧ One rows v
 all:∀ v x t,To rows v x t → v ≠ start → One rows v → v ∈ leaves ∨ ex v
theorem xor_ne (x:Nat):x ^^^ 1 ≠ x:=fun h=>by
 have h1:=congrArg (· ^^^ x) h
 simp only [Nat.xor_self] at h1
 rw [Nat.xor_comm x 1,Nat.xor_assoc,Nat.xor_self] at h1
 simp at h1
theorem drop_edge {m start:Nat} (hxm:∀ x,x < m → x ^^^ 1 < m) {rows:List (Option Row)} (hw:Wf m rows) {s y t:Nat} {row rt:Row} (hs:rows[s]? = some (some row)) (hy:row[y]? = some (some t)) (hst:s ≠ start) (hone:One rows s) (ht:rows[t]? = some (some rt)) :
  t ≠ s ∧ Wf m ((rows.set s (some (row.set y none))).set t (some (rt.set (y ^^^ 1) none))) ∧ Cut start rows ((rows.set s (some (row.set y none))).set t (some (rt.set (y ^^^ 1) none))) ∧ cnt ((rows.set s (some (row.set y none))).set t (some (rt.set (y ^^^ 1) none))) + 2 = cnt rows ∧
   (∀ u x v,To ((rows.set s (some (row.set y none))).set t (some (rt.set (y ^^^ 1) none))) u x v ↔ To rows u x v ∧ ¬ (u = s ∧ x = y) ∧ ¬ (u = t ∧ x = y ^^^ 1)):=by
 have hE:To rows s y t:=⟨row,hs,hy⟩
 have hI:=hw.inv s y t hE
 have hts:t ≠ s:=fun he=>by
  subst he
  exact xor_ne y (hone _ _ _ _ hI hE)
 have hsl:s < rows.length:=(List.getElem?_eq_some_iff.1 hs).1
 have htl:t < rows.length:=(List.getElem?_eq_some_iff.1 ht).1
 obtain ⟨rt',q1,q2⟩:=hI
 rw [ht] at q1; cases q1
 have hyl:y < row.length:=(List.getElem?_eq_some_iff.1 hy).1
 have hy1:(y ^^^ 1) < rt.length:=(List.getElem?_eq_some_iff.1 q2).1
 generalize hR:(rows.set s (some (row.set y none))).set t (some (rt.set (y ^^^ 1) none)) = R
 have at_t:R[t]? = some (some (rt.set (y ^^^ 1) none)):=by rw [← hR,List.getElem?_set_self (by rw [List.length_set]; exact htl)]
 have at_s:R[s]? = some (some (row.set y none)):=by rw [← hR,List.getElem?_set_ne hts,List.getElem?_set_self hsl]
 have at_o:∀ u,u ≠ s → u ≠ t → R[u]? = rows[u]?:=fun u h1 h2=>by rw [← hR,List.getElem?_set_ne (fun e=>h2 e.symm),List.getElem?_set_ne (fun e=>h1 e.symm)]
 have hto:∀ u x v,To R u x v ↔ To rows u x v ∧ ¬ (u = s ∧ x = y) ∧ ¬ (u = t ∧ x = y ^^^ 1):=fun u x v=>by
  by_cases hus:u = s
  ·subst hus
   constructor
   ·rintro ⟨r,h1,h2⟩
    rw [at_s] at h1; cases h1
    by_cases hx:x = y
    ·subst hx; rw [List.getElem?_set_self hyl] at h2; cases h2
    ·rw [List.getElem?_set_ne (fun e=>hx e.symm)] at h2
     exact ⟨⟨row,hs,h2⟩,fun h=>hx h.2,fun h=>hts h.1.symm⟩
   ·rintro ⟨⟨r,h1,h2⟩,h3,_⟩
    rw [hs] at h1; cases h1
    exact ⟨_,at_s,by rw [List.getElem?_set_ne (fun e=>h3 ⟨rfl,e.symm⟩)]; exact h2⟩
  ·by_cases hut:u = t
   ·subst hut
    constructor
    ·rintro ⟨r,h1,h2⟩
     rw [at_t] at h1; cases h1
     by_cases hx:x = y ^^^ 1
     ·subst hx; rw [List.getElem?_set_self hy1] at h2; cases h2
     ·rw [List.getElem?_set_ne (fun e=>hx e.symm)] at h2
      exact ⟨⟨rt,ht,h2⟩,fun h=>hus h.1,fun h=>hx h.2⟩
    ·rintro ⟨⟨r,h1,h2⟩,_,h3⟩
     rw [ht] at h1; cases h1
     exact ⟨_,at_t,by rw [List.getElem?_set_ne (fun e=>h3 ⟨rfl,e.symm⟩)]; exact h2⟩
   ·unfold To
    rw [at_o u hus hut]
    exact ⟨fun h=>⟨h,fun hh=>hus hh.1,fun hh=>hut hh.1⟩,fun h=>h.1⟩
 have hlive:∀ u,Live R u ↔ Live rows u:=fun u=>by
  by_cases hus:u = s
  ·subst hus; exact ⟨fun _=>⟨_,hs⟩,fun _=>⟨_,at_s⟩⟩
  ·by_cases hut:u = t
   ·subst hut; exact ⟨fun _=>⟨_,ht⟩,fun _=>⟨_,at_t⟩⟩
   ·unfold Live; rw [at_o u hus hut]
 have xx:∀ z,(z ^^^ 1) ^^^ 1 = z:=fun z=>by rw [Nat.xor_assoc,Nat.xor_self,Nat.xor_zero]
 refine ⟨hts,⟨fun u r h=>?_,fun u x v h=>(hlive v).2 (hw.tgt u x v ((hto u x v).1 h).1),fun u x v h=>?_⟩,⟨by rw [← hR,List.length_set,List.length_set],hlive,fun u x v h=>((hto u x v).1 h).1,fun S hS hsub u x v h=>?_⟩,?_,hto⟩
 ·by_cases hus:u = s
  ·subst hus; rw [at_s] at h; cases h; rw [List.length_set]; exact hw.len u row hs
  ·by_cases hut:u = t
   ·subst hut; rw [at_t] at h; cases h; rw [List.length_set]; exact hw.len u rt ht
   ·rw [at_o u hus hut] at h; exact hw.len u r h
 ·obtain ⟨h1,h2,h3⟩:=(hto u x v).1 h
  refine (hto v (x ^^^ 1) u).2 ⟨hw.inv u x v h1,?_,?_⟩
  ·rintro ⟨rfl,he⟩
   have h4:=hw.inv u x v h1
   rw [he] at h4
   have:u = t:=h4.unique hE
   subst this
   exact h3 ⟨rfl,by rw [← he,xx]⟩
  ·rintro ⟨rfl,he⟩
   have h4:=hw.inv u x v h1
   rw [he] at h4
   have:u = s:=h4.unique ⟨rt,ht,q2⟩
   subst this
   exact h2 ⟨rfl,by have:=congrArg (· ^^^ 1) he; simpa [xx] using this⟩
 ·refine (hto u x v).2 ⟨hsub u x v h,?_,?_⟩
  ·rintro ⟨rfl,rfl⟩
   obtain ⟨x',t',h1,h2⟩:=hS.two u x v h hst
   exact h1 (hone _ _ _ _ (hsub _ _ _ h2) hE)
  ·rintro ⟨rfl,rfl⟩
   have hv:v = s:=(hsub _ _ _ h).unique ⟨rt,ht,q2⟩
   subst hv
   have h4:=hS.inv _ _ _ h
   rw [xx] at h4
   obtain ⟨x',t',h1,h2⟩:=hS.two v y u h4 hst
   exact h1 (hone _ _ _ _ (hsub _ _ _ h2) hE)
 ·have h1:=cnt_set rows s (some row) (some (row.set y none)) hs
  have ht1:(rows.set s (some (row.set y none)))[t]? = some (some rt):=by rw [List.getElem?_set_ne (fun e=>hts e.symm)]; exact ht
  have h2:=cnt_set (rows.set s (some (row.set y none))) t (some rt) (some (rt.set (y ^^^ 1) none)) ht1
  have h3:=deg_set row y t hy
  have h4:=deg_set rt (y ^^^ 1) s q2
  rw [hR] at h2
  simp only [degO] at h1 h2
  omega
theorem pruneRow_ev {m start:Nat} (hxm:∀ x,x < m → x ^^^ 1 < m):∀ (n:Nat) (rows:List (Option Row)) (leaves:List Nat) (s y:Nat),Wf m rows → Live rows s → s ≠ start → One rows s → y + n = m → leaves.length + cnt rows < big → (∀ x t,To rows s x t → y ≤ x) → Lv start rows leaves (· = s) →
  ∃ rows' leaves',pruneRow start s n rows leaves y = some (rows',leaves') ∧ Wf m rows' ∧ Cut start rows rows' ∧ leaves'.length + cnt rows' ≤ leaves.length + cnt rows ∧ Lv start rows' leaves' (fun _=>False)
 | 0,rows,leaves,s,y,hw,hl,hst,hone,hy,hb,hlow,hL=>by
  refine ⟨rows,leaves,rfl,hw,Cut.refl _ _,Nat.le_refl _,⟨hL.ok,fun v x t h1 h2 h3=>?_⟩⟩
  rcases hL.all v x t h1 h2 h3 with h | rfl
  ·exact .inl h
  ·have:=hlow x t h1
   have:=To.lt hw h1
   omega
 | n + 1,rows,leaves,s,y,hw,hl,hst,hone,hy,hb,hlow,hL=>by
  obtain ⟨row,hs⟩:=hl
  have hrl:=hw.len s row hs
  have hyl:y < row.length:=by omega
  have hye:row[y]? = some row[y]:=List.getElem?_eq_getElem hyl
  cases ho:row[y] with
  | none=>
   obtain ⟨rows',leaves',h1,h2⟩:=pruneRow_ev hxm n rows leaves s (y + 1) hw ⟨row,hs⟩ hst hone (by omega) hb (fun x t h=>by
    have:=hlow x t h
    by_cases he:x = y
    ·subst he
     obtain ⟨r,q1,q2⟩:=h
     rw [hs] at q1; cases q1
     rw [hye,ho] at q2; cases q2
    ·omega) hL
   refine ⟨rows',leaves',?_,h2⟩
   simp only [pruneRow,hs,hye,ho]
   exact h1
  | some t=>
   have hyt:row[y]? = some (some t):=by rw [hye,ho]
   obtain ⟨rt,ht⟩:=hw.tgt s y t ⟨row,hs,hyt⟩
   obtain ⟨hts,hw2,hcut,hcnt,hto⟩:=drop_edge (start:=start) hxm hw hs hyt hst hone ht
   have hsl:s < rows.length:=(List.getElem?_eq_some_iff.1 hs).1
   have htl:t < rows.length:=(List.getElem?_eq_some_iff.1 ht).1
   have ht1:(rows.set s (some (row.set y none)))[t]? = some (some rt):=by rw [List.getElem?_set_ne (fun e=>hts e.symm)]; exact ht
   have hy1:(y ^^^ 1) < rt.length:=by rw [hw.len t rt ht]; exact hxm y (by omega)
   generalize hR:(rows.set s (some (row.set y none))).set t (some (rt.set (y ^^^ 1) none)) = R at *
   have at_t:R[t]? = some (some (rt.set (y ^^^ 1) none)):=by rw [← hR,List.getElem?_set_self (by rw [List.length_set]; exact htl)]
   have hnoS:∀ x v,¬ To R s x v:=fun x v h=>by
    obtain ⟨h1,h2,_⟩:=(hto s x v).1 h
    exact h2 ⟨rfl,hone _ _ _ _ h1 ⟨row,hs,hyt⟩⟩
   have hone':∀ v,One rows v → One R v:=fun v h x x' a b h1 h2=>h x x' a b ((hto _ _ _).1 h1).1 ((hto _ _ _).1 h2).1
   have hll:leaves.length < big:=by omega
   have hdeg:degF (rt.set (y ^^^ 1) none) = 1 → One R t ∧ ∃ x v,To R t x v:=fun hd=>by
    refine ⟨fun x x' a b ⟨r,h1,h2⟩ ⟨r',h3,h4⟩=>?_,?_⟩
    ·rw [at_t] at h1 h3; cases h1; cases h3
     exact deg_one _ (by omega) x x' a b h2 h4
    ·obtain ⟨x,v,hv⟩:=deg_pos _ (by omega:0 < degF (rt.set (y ^^^ 1) none))
     exact ⟨x,v,_,at_t,hv⟩
   generalize hlv:(if t != start && degF (rt.set (y ^^^ 1) none) == 1 then leaves ++ [t] else leaves) = leaves2
   have hl2:leaves2.length ≤ leaves.length + 1:=by rw [← hlv]; split <;> simp
   have hL2:Lv start R leaves2 (· = s):=by
    refine ⟨fun v hv=>?_,fun v x u h1 h2 h3=>?_⟩
    ·have:v ∈ leaves ∨ (v = t ∧ t ≠ start ∧ degF (rt.set (y ^^^ 1) none) = 1):=by
      rw [← hlv] at hv
      split at hv
      ·rename_i hc
       simp only [Bool.and_eq_true,bne_iff_ne,ne_eq,beq_iff_eq] at hc
       rcases List.mem_append.1 hv with hv | hv
       ·exact .inl hv
       ·simp only [List.mem_singleton] at hv; exact .inr ⟨hv,hc⟩
      ·exact .inl hv
     rcases this with hv | ⟨rfl,h2,h3⟩
     ·obtain ⟨q1,q2,q3⟩:=hL.ok v hv
      exact ⟨(hcut.live v).2 q1,q2,hone' v q3⟩
     ·exact ⟨⟨_,at_t⟩,h2,(hdeg h3).1⟩
    ·by_cases hvt:v = t
     ·subst hvt
      have hd:degF (rt.set (y ^^^ 1) none) = 1:=by
       obtain ⟨r,q1,q2⟩:=h1
       rw [at_t] at q1; cases q1
       have hp:0 < degF (rt.set (y ^^^ 1) none):=by
        by_cases h0:degF (rt.set (y ^^^ 1) none) = 0
        ·exact absurd q2 (deg_zero _ h0 x u)
        ·omega
       by_cases h2':2 ≤ degF (rt.set (y ^^^ 1) none)
       ·obtain ⟨x',t',e1,e2⟩:=deg_two _ h2' x
        exact absurd (h3 x' x t' u ⟨_,at_t,e2⟩ ⟨_,at_t,q2⟩) e1
       ·omega
      refine .inl ?_
      rw [← hlv,if_pos (by simp [h2,hd])]
      simp
     ·by_cases hvs:v = s
      ·exact .inr hvs
      ·have hoR:∀ x u,To rows v x u → To R v x u:=fun x u h=>(hto v x u).2 ⟨h,fun hh=>hvs hh.1,fun hh=>hvt hh.1⟩
       rcases hL.all v x u ((hto _ _ _).1 h1).1 h2 (fun a b c d e1 e2=>h3 a b c d (hoR _ _ e1) (hoR _ _ e2)) with h | h
       ·refine .inl ?_
        rw [← hlv]; split
        ·exact List.mem_append_left _ h
        ·exact h
       ·exact .inr h
   obtain ⟨rows',leaves',h1,h2,h3,h4,h5⟩:=pruneRow_ev hxm n R leaves2 s (y + 1) hw2 ((hcut.live s).2 ⟨row,hs⟩) hst (hone' s hone) (by omega) (by omega) (fun x v h=>absurd h (hnoS x v)) hL2
   refine ⟨rows',leaves',?_,h2,hcut.trans h3,by omega,h5⟩
   simp only [pruneRow,hs,hye,ho,ht1]
   rw [if_pos ⟨hy1,hll⟩,hR,hlv]
   exact h1
theorem prune_ev {m start:Nat} (hxm:∀ x,x < m → x ^^^ 1 < m):∀ (N:Nat) (rows:List (Option Row)) (leaves:List Nat),leaves.length + cnt rows ≤ N → N < big → Wf m rows → Lv start rows leaves (fun _=>False) →
  ∃ rows',(∀ k,N < k → pruneF start k rows leaves = some rows') ∧ Wf m rows' ∧ Cut start rows rows' ∧ Lv start rows' [] (fun _=>False):=by
 intro N
 induction N with
 | zero=>
  intro rows leaves hN hb hw hL
  have:leaves = []:=List.eq_nil_of_length_eq_zero (by omega)
  subst this
  refine ⟨rows,fun k hk=>?_,hw,Cut.refl _ _,hL⟩
  obtain ⟨k,rfl⟩:∃ m,k = m + 1:=⟨k - 1,by omega⟩
  simp only [pruneF,List.getLast?_nil]
 | succ N ih=>
  intro rows leaves hN hb hw hL
  rcases List.eq_nil_or_concat leaves with rfl | ⟨ls,s,rfl⟩
  ·refine ⟨rows,fun k hk=>?_,hw,Cut.refl _ _,hL⟩
   obtain ⟨k,rfl⟩:∃ m,k = m + 1:=⟨k - 1,by omega⟩
   simp only [pruneF,List.getLast?_nil]
  ·rw [List.concat_eq_append] at *
   obtain ⟨⟨row,hs⟩,hst,hone⟩:=hL.ok s (by simp)
   simp only [List.length_append,List.length_singleton] at hN
   obtain ⟨rows1,leaves1,h1,h2,h3,h4,h5⟩:=pruneRow_ev (start:=start) hxm row.length rows ls s 0 hw ⟨row,hs⟩ hst hone (by rw [hw.len s row hs]; omega) (by omega) (fun _ _ _=>Nat.zero_le _)
    ⟨fun v hv=>hL.ok v (by simp [hv]),fun v x t a1 a2 a3=>by
     rcases hL.all v x t a1 a2 a3 with h | h
     ·rcases List.mem_append.1 h with h | h
      ·exact .inl h
      ·simp only [List.mem_singleton] at h; exact .inr h
     ·exact h.elim⟩
   obtain ⟨rows',r1,r2,r3,r4⟩:=ih rows1 leaves1 (by omega) (by omega) h2 h5
   refine ⟨rows',fun k hk=>?_,r2,h3.trans r3,r4⟩
   obtain ⟨k,rfl⟩:∃ m,k = m + 1:=⟨k - 1,by omega⟩
   simp only [pruneF,List.getLast?_append,List.getLast?_singleton,Option.some_or,hs,List.dropLast_concat,h1]
   exact r1 k (by omega)
theorem leaves_mem (start:Nat):∀ (l:List (Option Row)) (s v:Nat),v ∈ leavesF start s l ↔ ∃ i o,l[i]? = some o ∧ v = s + i ∧ leafAt start v o = true
 | [],s,v=>by simp [leavesF]
 | o :: l,s,v=>by
  have ih:=leaves_mem start l (s + 1) v
  simp only [leavesF]
  constructor
  ·intro h
   split at h
   ·rename_i hl
    rcases List.mem_cons.1 h with rfl | h
    ·exact ⟨0,o,rfl,rfl,hl⟩
    ·obtain ⟨i,o',h1,h2,h3⟩:=ih.1 h
     exact ⟨i + 1,o',by simpa using h1,by omega,h3⟩
   ·obtain ⟨i,o',h1,h2,h3⟩:=ih.1 h
    exact ⟨i + 1,o',by simpa using h1,by omega,h3⟩
  ·rintro ⟨i,o',h1,h2,h3⟩
   cases i with
   | zero=>
    simp only [List.getElem?_cons_zero,Option.some.injEq] at h1
    subst h1
    rw [Nat.add_zero] at h2
    subst h2
    rw [if_pos h3]; simp
   | succ i=>
    have:=ih.2 ⟨i,o',by simpa using h1,by omega,h3⟩
    split
    ·exact List.mem_cons_of_mem _ this
    ·exact this
theorem cnt_le {m:Nat}:∀ (rows:List (Option Row)),(∀ r,some r ∈ rows → r.length = m) → cnt rows ≤ rows.length * m
 | [],_=>by simp [cnt]
 | o :: l,h=>by
  have:=cnt_le l fun r hr=>h r (by simp [hr])
  have h1:degO o ≤ m:=by
   cases o with
   | none=>exact Nat.zero_le _
   | some r=>rw [← h r (by simp)]; exact List.length_filter_le _ _
  simp only [cnt,List.map_cons,List.sum_cons,List.length_cons,Nat.add_mul,Nat.one_mul] at this ⊢
  omega
theorem pruned {m start:Nat} (hxm:∀ x,x < m → x ^^^ 1 < m) {rows:List (Option Row)} (hw:Wf m rows) (hb:rows.length * (m + 1) < big) :
  ∃ rows',Fo.big = Fo.big ∧ (∀ k,rows.length * (m + 1) < k → pruneF start k rows (leavesF start 0 rows) = some rows') ∧ Wf m rows' ∧ Cut start rows rows' ∧ ∀ s x t,To rows' s x t → s ≠ start → ∃ x' t',x' ≠ x ∧ To rows' s x' t':=by
 have hl:(leavesF start 0 rows).length ≤ rows.length:=by
  have:∀ (l:List (Option Row)) (s:Nat),(leavesF start s l).length ≤ l.length:=by
   intro l
   induction l with
   | nil=>intro s; simp [leavesF]
   | cons r l ih=>
    intro s
    simp only [leavesF]
    have:=ih (s + 1)
    split <;> simp <;> omega
  exact this rows 0
 have hc:cnt rows ≤ rows.length * m:=cnt_le rows fun r hr=>by
  obtain ⟨s,hs⟩:=List.getElem?_of_mem hr
  exact hw.len s r hs
 have hle:(leavesF start 0 rows).length + cnt rows ≤ rows.length * (m + 1):=by rw [Nat.mul_add,Nat.mul_one]; omega
 obtain ⟨rows',h1,h2,h3,h4⟩:=prune_ev (start:=start) hxm (rows.length * (m + 1)) rows (leavesF start 0 rows) hle hb hw
  ⟨fun v hv=>by
   obtain ⟨i,o,q1,q2,q3⟩:=(leaves_mem start rows 0 v).1 hv
   rw [Nat.zero_add] at q2
   subst q2
   unfold leafAt at q3
   split at q3
   ·rename_i r
    simp only [Bool.and_eq_true,bne_iff_ne,ne_eq,beq_iff_eq] at q3
    refine ⟨⟨r,q1⟩,q3.1,fun x x' t t' ⟨r1,e1,e2⟩ ⟨r2,e3,e4⟩=>?_⟩
    rw [q1] at e1 e3; cases e1; cases e3
    exact deg_one r (by omega) x x' t t' e2 e4
   ·exact absurd q3 Bool.false_ne_true,fun v x t a1 a2 a3=>.inl ((leaves_mem start rows 0 v).2 (by
    obtain ⟨r,e1,e2⟩:=a1
    refine ⟨v,some r,e1,by omega,?_⟩
    unfold leafAt
    have hp:0 < degF r:=by
     by_cases h0:degF r = 0
     ·exact absurd e2 (deg_zero _ h0 x t)
     ·omega
    have hd:degF r = 1:=by
     by_cases h2':2 ≤ degF r
     ·obtain ⟨x',t',f1,f2⟩:=deg_two _ h2' x
      exact absurd (a3 x' x t' t ⟨_,e1,f2⟩ ⟨_,e1,e2⟩) f1
     ·omega
    simp [a2,hd]))⟩
 refine ⟨rows',rfl,h1,h2,h3,fun s x t hst hs=>?_⟩
 by_cases hex:∃ x' t',x' ≠ x ∧ To rows' s x' t'
 ·exact hex
 ·exfalso
  have hone:One rows' s:=fun a b c d e1 e2=>by
   have ea:a = x:=Classical.byContradiction fun h=>hex ⟨a,c,h,e1⟩
   have eb:b = x:=Classical.byContradiction fun h=>hex ⟨b,d,h,e2⟩
   rw [ea,eb]
  rcases h4.all s x t hst hs hone with h | h
  ·simp at h
  ·exact h
end Go.Proofs.YtffdjfkekdoeaaaDoor.Pl
end
section
set_option maxRecDepth 8000
set_option maxHeartbeats 4000000
namespace Go.Proofs.YtffdjfkekdoeaaaDoor.Rf
open Fw Wd Fo
theorem bfsRow_grow:∀ (row:Row) (q:List Nat),q.length ≤ (bfsRow row q).1.length
 | [],q=>Nat.le_refl _
 | none :: l,q=>bfsRow_grow l q
 | some t :: l,q=>by
  simp only [bfsRow]
  split
  ·exact bfsRow_grow l q
  ·have:=bfsRow_grow l (q ++ [t]); rw [List.length_append] at this; exact Nat.le_trans (Nat.le_add_right _ _) this
theorem numE_some {k:Nat} {es:List Ed} {B:Nat} (hes:∀ e ∈ es,e.1 < B ∧ e.2.2 < B):∀ (K i:Nat) (q:List Nat) (out:List Row),q.Nodup → (∀ v ∈ q,v < B) → i ≤ q.length → B - i < K → ∃ res,numE k es K i q out = some res
 | 0,i,q,out,_,_,_,h=>absurd h (Nat.not_lt_zero _)
 | K + 1,i,q,out,hn,hq,hi,hK=>by
  simp only [numE]
  split
  ·exact ⟨_,rfl⟩
  ·rename_i v hv
   have hlt:=(List.getElem?_eq_some_iff.1 hv).1
   have hl:=nodup_len B q hn hq
   obtain ⟨h1,h2⟩:=bfsRow_ok (B:=B) (rowE k es v) q (fun t ht=>by
    unfold rowE at ht
    obtain ⟨x,_,hx⟩:=List.mem_map.1 ht
    exact stepE_lt es v x t hes hx) hn hq
   have h3:=bfsRow_grow (rowE k es v) q
   exact numE_some hes K (i + 1) _ _ h1 h2 (by omega) (by omega)
theorem bfsRow_len:∀ (row:Row) (q:List Nat),(bfsRow row q).2.length = row.length
 | [],q=>rfl
 | none :: l,q=>by simp [bfsRow,bfsRow_len l q]
 | some t :: l,q=>by
  simp only [bfsRow]
  split <;> simp [bfsRow_len l]
theorem numE_rows {k:Nat} {es:List Ed}:∀ (K i:Nat) (q:List Nat) (out res:List Row),(∀ r ∈ out,r.length = 2 * k) → numE k es K i q out = some res → ∀ r ∈ res,r.length = 2 * k
 | 0,_,_,_,_,_,h=>by simp [numE] at h
 | K + 1,i,q,out,res,ho,h=>by
  simp only [numE] at h
  split at h
  ·cases h; exact ho
  ·refine numE_rows K _ _ _ _ (fun r hr=>?_) h
   rcases List.mem_append.1 hr with hr | hr
   ·exact ho r hr
   ·simp only [List.mem_singleton] at hr; subst hr; rw [bfsRow_len,rowE_len]
def autE (k:Nat) (res:List Row):Aut:=⟨((2 * k:Nat):Int),0,accF res.length,res.map (·.map ofO)⟩
def numR (k:Nat) (next:List (List Int)):List Row:=(numE k (graphL k 0 next) (next.length + 1) 0 [0] []).getD []
theorem graphR_mem {s:Nat} {row:List Int}:∀ (n i:Nat) (e:Ed),e ∈ graphR s row i n → e.1 = s ∧ ∃ j,i ≤ j ∧ j < i + n ∧ e.2.1 = 2 * j ∧ 0 ≤ row.getD (2 * j) 0 ∧ e.2.2 = (row.getD (2 * j) 0).toNat
 | 0,i,e,h=>by simp [graphR] at h
 | n + 1,i,e,h=>by
  simp only [graphR] at h
  rcases List.mem_append.1 h with h | h
  ·split at h
   ·rename_i hp
    simp only [List.mem_singleton] at h
    subst h
    exact ⟨rfl,i,Nat.le_refl _,by omega,rfl,hp,rfl⟩
   ·simp at h
  ·obtain ⟨h1,j,h2,h3,h4⟩:=graphR_mem n (i + 1) e h
   exact ⟨h1,j,by omega,by omega,h4⟩
theorem graphL_mem {k:Nat}:∀ (l:List (List Int)) (s:Nat) (e:Ed),e ∈ graphL k s l → ∃ (i:Nat) (row:List Int),l[i]? = some row ∧ e.1 = s + i ∧ ∃ j,j < k ∧ e.2.1 = 2 * j ∧ 0 ≤ row.getD (2 * j) 0 ∧ e.2.2 = (row.getD (2 * j) 0).toNat
 | [],s,e,h=>by simp [graphL] at h
 | row :: l,s,e,h=>by
  simp only [graphL] at h
  rcases List.mem_append.1 h with h | h
  ·obtain ⟨h1,j,_,h2,h3⟩:=graphR_mem k 0 e h
   exact ⟨0,row,rfl,by omega,j,by omega,h3⟩
  ·obtain ⟨i,r,h1,h2,h3⟩:=graphL_mem l (s + 1) e h
   exact ⟨i + 1,r,by simpa using h1,by omega,h3⟩
theorem graphL_lt {k:Nat} {next:List (List Int)} (hrow:∀ r ∈ next,∀ t ∈ r,t < (next.length:Int)) (hpos:0 < next.length):∀ e ∈ graphL k 0 next,e.1 < next.length ∧ e.2.2 < next.length:=fun e he=>by
 obtain ⟨i,row,h1,h2,j,h3,h4,h5,h6⟩:=graphL_mem next 0 e he
 have hi:=(List.getElem?_eq_some_iff.1 h1).1
 refine ⟨by omega,?_⟩
 rw [h6]
 by_cases hx:2 * j < row.length
 ·have:=hrow row (List.mem_of_getElem? h1) row[2 * j] (List.getElem_mem hx)
  rw [getD_get hx] at h5 ⊢
  omega
 ·rw [List.getD_eq_getElem?_getD,List.getElem?_eq_none (by omega)]; simpa using hpos
def rowLocal (next:List (List Int)) (s:Nat) (row:List Int):Bool:=(edgesFrom 0 row).all fun e=>getN next e.2.1.toNat (e.1.toNat ^^^ 1) == (s:Int)
def localS (acc:List Bool) (next:List (List Int)) (s:Nat) (row:List Int):Bool:=rowLocal next s row && (s == 0 || (decide (2 ≤ degF (row.map toO)) && !acc.getD s false))
def localAll (acc:List Bool) (next:List (List Int)):Nat → List (List Int) → Bool
 | _,[]=>true
 | s,row :: l=>localS acc next s row && localAll acc next (s + 1) l
def isM (k:Int) (a:Aut):Bool:=
 decide (fsaF a.sym a.start a.acc a.next = 0) && (decide (a.sym = 2 * k) && (decide (1 ≤ a.acc.length) && (decide (a.acc.length ≤ 2000) && (decide (a.start = 0) && (a.acc.getD 0 false && (localAll a.acc a.next 0 a.next && sameF a (autE k.toNat (numR k.toNat a.next))))))))
end Go.Proofs.YtffdjfkekdoeaaaDoor.Rf
end
section
set_option maxRecDepth 4000
set_option maxHeartbeats 2000000
namespace Go.Proofs.YtffdjfkekdoeaaaDoor.Pl
open Fo Rf
def rowOf (rows:List (Option Row)) (v:Nat):Row:=
 match rows[v]? with
 | some (some r)=>r
 | _=>[]
def numG (ρ:Nat → Row):Nat → Nat → List Nat → List Row → Option (List Row)
 | 0,_,_,_=>none
 | f + 1,i,q,out=>
  match q[i]? with
  | none=>some out
  | some v=>numG ρ f (i + 1) (bfsRow (ρ v) q).1 (out ++ [(bfsRow (ρ v) q).2])
theorem numG_len {ρ:Nat → Row}:∀ (K i:Nat) (q:List Nat) (out res:List Row),out.length = i → i ≤ q.length → numG ρ K i q out = some res → q.length ≤ res.length
 | 0,_,_,_,_,_,_,h=>by simp [numG] at h
 | K + 1,i,q,out,res,ho,hi,h=>by
  simp only [numG] at h
  split at h
  ·rename_i hn
   cases h
   have:q.length ≤ i:=by simpa using hn
   omega
  ·rename_i v hv
   have hlt:=(List.getElem?_eq_some_iff.1 hv).1
   have hg:=bfsRow_grow (ρ v) q
   have:=numG_len K (i + 1) _ _ res (by simp [ho]) (by omega) h
   omega
theorem numG_some {ρ:Nat → Row} {B:Nat} (hB:∀ v,v < B → ∀ t,some t ∈ ρ v → t < B):∀ (K i:Nat) (q:List Nat) (out:List Row),q.Nodup → (∀ v ∈ q,v < B) → i ≤ q.length → B - i < K → ∃ res,numG ρ K i q out = some res
 | 0,i,q,out,_,_,_,h=>absurd h (Nat.not_lt_zero _)
 | K + 1,i,q,out,hn,hq,hi,hK=>by
  simp only [numG]
  split
  ·exact ⟨_,rfl⟩
  ·rename_i v hv
   have hlt:=(List.getElem?_eq_some_iff.1 hv).1
   have hl:=nodup_len B q hn hq
   obtain ⟨h1,h2⟩:=bfsRow_ok (B:=B) (ρ v) q (hB v (hq v (List.mem_of_getElem? hv))) hn hq
   have h3:=bfsRow_grow (ρ v) q
   exact numG_some hB K (i + 1) _ _ h1 h2 (by omega) (by omega)
theorem numG_fuel {ρ:Nat → Row}:∀ (K K' i:Nat) (q:List Nat) (out res:List Row),K ≤ K' → numG ρ K i q out = some res → numG ρ K' i q out = some res
 | 0,_,_,_,_,_,_,h=>by simp [numG] at h
 | K + 1,0,_,_,_,_,h,_=>by omega
 | K + 1,K' + 1,i,q,out,res,hK,h=>by
  simp only [numG] at h ⊢
  split at h
  ·exact h
  ·exact numG_fuel K K' _ _ _ res (by omega) h
theorem row_live {m:Nat} {rows:List (Option Row)} (hw:Wf m rows) {v:Nat} (h:Live rows v):rows[v]? = some (some (rowOf rows v)) ∧ (rowOf rows v).length = m ∧ ∀ t,some t ∈ rowOf rows v → Live rows t:=by
 obtain ⟨r,hr⟩:=h
 have e:rowOf rows v = r:=by unfold rowOf; rw [hr]
 rw [e]
 refine ⟨hr,hw.len v r hr,fun t ht=>?_⟩
 obtain ⟨x,hx⟩:=List.getElem?_of_mem ht
 exact hw.tgt v x t ⟨r,hr,hx⟩
theorem bfsRow_live {rows:List (Option Row)}:∀ (row:Row) (q:List Nat),(∀ t,some t ∈ row → Live rows t) → (∀ v ∈ q,Live rows v) → ∀ v ∈ (bfsRow row q).1,Live rows v
 | [],q,_,hq=>hq
 | none :: l,q,hr,hq=>bfsRow_live l q (fun t ht=>hr t (by simp [ht])) hq
 | some t :: l,q,hr,hq=>by
  simp only [bfsRow]
  split
  ·exact bfsRow_live l q (fun t ht=>hr t (by simp [ht])) hq
  ·refine bfsRow_live l (q ++ [t]) (fun t ht=>hr t (by simp [ht])) fun v hv=>?_
   rcases List.mem_append.1 hv with hv | hv
   ·exact hq v hv
   ·simp only [List.mem_singleton] at hv; subst hv; exact hr v (by simp)
theorem live_lt {rows:List (Option Row)} {v:Nat} (h:Live rows v):v < rows.length:=by
 obtain ⟨r,hr⟩:=h; exact (List.getElem?_eq_some_iff.1 hr).1
theorem bfs_ev {m:Nat} {rows:List (Option Row)} (hw:Wf m rows):∀ (K i:Nat) (q:List Nat) (out:List Row),q.Nodup → (∀ v ∈ q,Live rows v) → i ≤ q.length → out.length = i → q.length ≤ 2000 → rows.length - i < K →
  ∃ o,bfsF m rows K i q out = some o ∧ (∀ res,o = some res → numG (rowOf rows) K i q out = some res ∧ res.length ≤ 2000) ∧ (o = none → ∃ res,numG (rowOf rows) K i q out = some res ∧ 2000 < res.length)
 | 0,i,q,out,_,_,_,_,_,h=>absurd h (Nat.not_lt_zero _)
 | K + 1,i,q,out,hn,hq,hi,ho,h2,hK=>by
  simp only [bfsF,numG]
  cases hv:q[i]? with
  | none=>
   have hqi:q.length ≤ i:=by simpa using hv
   exact ⟨some out,rfl,fun res h=>by cases h; exact ⟨rfl,by omega⟩,fun h=>by cases h⟩
  | some v=>
   have hlv:=hq v (List.mem_of_getElem? hv)
   obtain ⟨hr1,hr2,hr3⟩:=row_live hw hlv
   have hlt:=(List.getElem?_eq_some_iff.1 hv).1
   obtain ⟨a1,_⟩:=bfsRow_ok (B:=rows.length) (rowOf rows v) q (fun t ht=>live_lt (hr3 t ht)) hn fun u hu=>live_lt (hq u hu)
   have a2:=bfsRow_live (rowOf rows v) q hr3 hq
   have a3:=bfsRow_grow (rowOf rows v) q
   have hl:=nodup_len rows.length q hn fun u hu=>live_lt (hq u hu)
   simp only [hr1]
   rw [if_pos hr2]
   by_cases hbig:2000 < (bfsRow (rowOf rows v) q).1.length
   ·rw [if_pos hbig]
    refine ⟨none,rfl,fun res h=>(by cases h),fun _=>?_⟩
    obtain ⟨res,hres⟩:=numG_some (ρ:=rowOf rows) (B:=rows.length) (fun u hu t ht=>by
     by_cases hlu:Live rows u
     ·exact live_lt ((row_live hw hlu).2.2 t ht)
     ·have:rowOf rows u = []:=by
       unfold rowOf; split
       ·rename_i r hr; exact absurd ⟨r,hr⟩ hlu
       ·rfl
      rw [this] at ht; simp at ht) K (i + 1) _ (out ++ [(bfsRow (rowOf rows v) q).2]) a1 (fun u hu=>live_lt (a2 u hu)) (by omega) (by omega)
    have:=numG_len K (i + 1) _ _ res (by simp [ho]) (by omega) hres
    exact ⟨res,hres,by omega⟩
   ·rw [if_neg hbig]
    exact bfs_ev hw K (i + 1) _ _ a1 a2 (by omega) (by simp [ho]) (by omega) (by omega)
theorem rowsS_get {par:List Nat}:∀ (l:List Row) (s i:Nat),(rowsS par s l)[i]? = (l[i]?).map fun row=>if rt par (s + i) = s + i then some (row.map (Option.map (rt par))) else none
 | [],s,i=>by simp [rowsS]
 | row :: l,s,0=>by simp [rowsS]
 | row :: l,s,i + 1=>by
  have:=rowsS_get (par:=par) l (s + 1) i
  simp only [rowsS,List.getElem?_cons_succ,this]
  rw [show s + 1 + i = s + (i + 1) by omega]
theorem rowsS_len {par:List Nat}:∀ (l:List Row) (s:Nat),(rowsS par s l).length = l.length
 | [],_=>rfl
 | row :: l,s=>by simp [rowsS,rowsS_len l (s + 1)]
def Both (E:List Edg):Prop:=∀ s x t,(s,x,t) ∈ E → (t,x ^^^ 1,s) ∈ E
theorem Eqv.nil {par:List Nat} (hsm:∀ u v w,Sm par u v → Sm par v w → Sm par u w) {u v:Nat} (h:Eqv par [] u v):Sm par u v:=by
 induction h with
 | same h=>exact h
 | pair h=>simp at h
 | symm _ ih=>obtain ⟨r,a,b⟩:=ih; exact ⟨r,b,a⟩
 | trans _ _ ih1 ih2=>exact hsm _ _ _ ih1 ih2
theorem Sm.trans {par:List Nat} {u v w:Nat} (h:Sm par u v) (k:Sm par v w):Sm par u w:=by
 obtain ⟨r,a,b⟩:=h; obtain ⟨r',c,d⟩:=k
 have:=b.unique c; subst this
 exact ⟨r,a,d⟩
theorem Sm.symm {par:List Nat} {u v:Nat} (h:Sm par u v):Sm par v u:=by obtain ⟨r,a,b⟩:=h; exact ⟨r,b,a⟩
section
variable {E:List Edg} {st:St}
theorem Inv.same_iff (h:Inv E st) {u v:Nat} (hu:u < st.par.length):Cg E u v → Sm st.par u v:=by
 obtain ⟨d,hf⟩:=h.ok.forest
 have hE:∀ s x t,(s,x,t) ∈ E → s < st.par.length ∧ t < st.par.length:=fun s x t he=>by
  obtain ⟨r,t',h1,h2,h3⟩:=h.cm s x t he
  refine ⟨h1.lt_left,?_⟩
  rw [h.todo] at h3
  obtain ⟨r',_,hb⟩:=Eqv.nil (fun _ _ _=>Sm.trans) h3
  exact hb.lt_left
 have key:∀ {u v:Nat},Cg E u v → Sm st.par u v ∨ u = v:=by
  intro u v hc
  induction hc with
  | refl u=>exact .inr rfl
  | symm _ ih=>exact ih.imp Sm.symm Eq.symm
  | trans _ _ ih1 ih2=>
   rcases ih1 with h1 | rfl
   ·rcases ih2 with h2 | rfl
    ·exact .inl (h1.trans h2)
    ·exact .inl h1
   ·exact ih2
  | @fold s s' x t t' h1 h2 h0 ih=>
   obtain ⟨r,q,a1,a2,a3⟩:=h.cm s x t h1
   obtain ⟨r',q',b1,b2,b3⟩:=h.cm s' x t' h2
   rw [h.todo] at a3 b3
   have a3:=Eqv.nil (fun _ _ _=>Sm.trans) a3
   have b3:=Eqv.nil (fun _ _ _=>Sm.trans) b3
   have hrr:r = r':=by
    rcases ih with ⟨z,c1,c2⟩ | rfl
    ·have e1:=a1.unique c1; have e2:=b1.unique c2; rw [e1,e2]
    ·exact a1.unique b1
   subst hrr
   obtain ⟨row,e1,e2⟩:=a2
   obtain ⟨row',e3,e4⟩:=b2
   rw [e1] at e3; cases e3
   rw [e2] at e4; cases e4
   exact .inl (a3.symm.trans b3)
 intro hc
 rcases key hc with h1 | rfl
 ·exact h1
 ·obtain ⟨r,hr⟩:=hf.root _ u (Nat.le_refl _) hu
  exact ⟨r,hr,hr⟩
theorem to_rows (h:Inv E st) {s x t:Nat}:To (rowsS st.par 0 st.next) s x t ↔ ∃ u,Root st.par s s ∧ Ent st s x u ∧ Root st.par u t:=by
 obtain ⟨d,hf⟩:=h.ok.forest
 constructor
 ·rintro ⟨row,h1,h2⟩
  rw [rowsS_get,Nat.zero_add] at h1
  cases hr:st.next[s]? with
  | none=>rw [hr] at h1; cases h1
  | some r=>
   rw [hr] at h1
   simp only [Option.map_some,Option.some.injEq] at h1
   split at h1
   ·rename_i hrt
    cases h1
    rw [List.getElem?_map] at h2
    cases hx:r[x]? with
    | none=>rw [hx] at h2; cases h2
    | some o=>
     rw [hx] at h2
     cases o with
     | none=>cases h2
     | some u=>
      simp only [Option.map_some,Option.some.injEq] at h2
      have hs:s < st.par.length:=by rw [← h.ok.len]; exact (List.getElem?_eq_some_iff.1 hr).1
      have hu:u < st.par.length:=(h.ok.row r (List.mem_of_getElem? hr)).2 u (List.mem_of_getElem? hx)
      obtain ⟨q,hq⟩:=hf.root _ s (Nat.le_refl _) hs
      obtain ⟨q',hq'⟩:=hf.root _ u (Nat.le_refl _) hu
      have e1:=rt_spec hq
      rw [hrt] at e1
      subst e1
      have e2:=rt_spec hq'
      rw [h2] at e2
      subst e2
      exact ⟨u,hq,⟨r,hr,hx⟩,hq'⟩
   ·cases h1
 ·rintro ⟨u,h1,⟨r,h2,h3⟩,h4⟩
  refine ⟨r.map (Option.map (rt st.par)),?_,by rw [List.getElem?_map,h3]; simp [rt_spec h4]⟩
  rw [rowsS_get,Nat.zero_add,h2]
  simp [rt_spec h1]
theorem live_rows (h:Inv E st) {s:Nat}:Live (rowsS st.par 0 st.next) s ↔ Root st.par s s:=by
 obtain ⟨d,hf⟩:=h.ok.forest
 constructor
 ·rintro ⟨row,h1⟩
  rw [rowsS_get,Nat.zero_add] at h1
  cases hr:st.next[s]? with
  | none=>rw [hr] at h1; cases h1
  | some r=>
   rw [hr] at h1
   simp only [Option.map_some,Option.some.injEq] at h1
   split at h1
   ·rename_i hrt
    have hs:s < st.par.length:=by rw [← h.ok.len]; exact (List.getElem?_eq_some_iff.1 hr).1
    obtain ⟨q,hq⟩:=hf.root _ s (Nat.le_refl _) hs
    have e1:=rt_spec hq
    rw [hrt] at e1
    subst e1; exact hq
   ·cases h1
 ·intro h1
  have hs:s < st.next.length:=by rw [h.ok.len]; exact h1.lt
  exact ⟨_,by rw [rowsS_get,Nat.zero_add,List.getElem?_eq_getElem hs]; simp [rt_spec h1]; rfl⟩
theorem wf_rows (h:Inv E st) (hb:Both E):Wf st.m (rowsS st.par 0 st.next) where
 len:=fun s row h1=>by
  rw [rowsS_get,Nat.zero_add] at h1
  cases hr:st.next[s]? with
  | none=>rw [hr] at h1; cases h1
  | some r=>
   rw [hr] at h1
   simp only [Option.map_some,Option.some.injEq] at h1
   split at h1
   ·cases h1; rw [List.length_map]; exact (h.ok.row r (List.mem_of_getElem? hr)).1
   ·cases h1
 tgt:=fun s x t ht=>by
  obtain ⟨u,_,_,h3⟩:=(to_rows h).1 ht
  exact (live_rows h).2 h3.self
 inv:=fun s x t ht=>by
  obtain ⟨u,h1,h2,h3⟩:=(to_rows h).1 ht
  obtain ⟨s',e1,e2⟩:=h.snd.ent s x u h2
  obtain ⟨r,q,a1,a2,a3⟩:=h.cm u (x ^^^ 1) s' (hb _ _ _ e1)
  rw [h.todo] at a3
  have a3:=Eqv.nil (fun _ _ _=>Sm.trans) a3
  have hrt:=h3.unique a1
  subst hrt
  obtain ⟨z,c1,c2⟩:=a3.trans (h.same_iff h1.lt e2).symm
  have:z = s:=c2.unique h1
  subst this
  exact (to_rows h).2 ⟨q,h3.self,a2,c1⟩
end
structure MadeOf (m start:Nat) (rows:List (Option Row)) (rows':List (Option Row)) (o:Option (List Row)):Prop where
 wf:Wf m rows'
 cut:Cut start rows rows'
 two:∀ s x t,To rows' s x t → s ≠ start → ∃ x' t',x' ≠ x ∧ To rows' s x' t'
 yes:∀ res,o = some res → (∃ K,numG (rowOf rows') K 0 [start] [] = some res) ∧ res.length ≤ 2000
 no:o = none → ∃ res,(∃ K,numG (rowOf rows') K 0 [start] [] = some res) ∧ 2000 < res.length
theorem made_ev {E:List Edg} {st:St} (h:Inv E st) (hb:Both E) (hxm:∀ x,x < st.m → x ^^^ 1 < st.m) {s:Nat} (hs:s < st.par.length) (hbig:st.par.length * (st.m + 1) < big) :
  ∃ o rows',Ev (fun K=>madeF K st s) o ∧ MadeOf st.m (rt st.par s) (rowsS st.par 0 st.next) rows' o:=by
 obtain ⟨d,hf⟩:=h.ok.forest
 obtain ⟨par1,⟨K1,a1⟩,a2,a3,a4⟩:=rows_ev st.next st.par 0 hf (by rw [h.ok.len]; omega) fun row hr t ht=>(h.ok.row row hr).2 t ht
 obtain ⟨par2,r,k1,k2,k3,k4,k5⟩:=find_ev (d s) s par1 (Nat.le_refl _) a2 (by rw [a3]; exact hs)
 have hr:=(a4 _ _).1 k2
 have hrt:=rt_spec hr
 rw [hrt]
 have hw:=wf_rows h hb
 have hlen:(rowsS st.par 0 st.next).length = st.par.length:=by rw [rowsS_len,h.ok.len]
 obtain ⟨rows',_,p1,p2,p3,p4⟩:=pruned (start:=r) hxm hw (by rw [hlen]; exact hbig)
 rw [hlen] at p1
 have hlv:Live rows' r:=(p3.live r).2 ((live_rows h).2 hr.self)
 have hl':rows'.length = st.par.length:=p3.len.trans hlen
 have hq:∀ K,rows'.length < K → ∃ o,bfsF st.m rows' K 0 [r] [] = some o ∧ (∀ res,o = some res → numG (rowOf rows') K 0 [r] [] = some res ∧ res.length ≤ 2000) ∧ (o = none → ∃ res,numG (rowOf rows') K 0 [r] [] = some res ∧ 2000 < res.length):=fun K hK=>
  bfs_ev p2 K 0 [r] [] (by simp) (by simpa using hlv) (by simp) rfl (by simp) (by omega)
 obtain ⟨o,q1,q2,q3⟩:=hq (rows'.length + 1) (by omega)
 have huniq:∀ K,rows'.length < K → bfsF st.m rows' K 0 [r] [] = some o:=fun K hK=>by
  obtain ⟨o',r1,r2,r3⟩:=hq K hK
  rw [r1]
  congr 1
  cases o with
  | some res=>
   obtain ⟨e1,e2⟩:=q2 res rfl
   cases o' with
   | some res'=>
    obtain ⟨e3,_⟩:=r2 res' rfl
    have:=numG_fuel _ K _ _ _ _ (by omega) e1
    rw [this] at e3; cases e3; rfl
   | none=>
    obtain ⟨res',e3,e4⟩:=r3 rfl
    have:=numG_fuel _ K _ _ _ _ (by omega) e1
    rw [this] at e3; cases e3; omega
  | none=>
   obtain ⟨res,e1,e2⟩:=q3 rfl
   cases o' with
   | some res'=>
    obtain ⟨e3,e4⟩:=r2 res' rfl
    have:=numG_fuel _ K _ _ _ _ (by omega) e1
    rw [this] at e3; cases e3; omega
   | none=>rfl
 refine ⟨o,rows',⟨K1 + d s + st.par.length * (st.m + 1) + rows'.length + 1,fun K hK=>?_⟩,⟨p2,p3,p4,fun res hres=>⟨⟨_,(q2 res hres).1⟩,(q2 res hres).2⟩,fun hn=>?_⟩⟩
 ·show madeF K st s = _
  unfold madeF
  rw [show rowsF K st.par st.next 0 = _ from a1 K (by omega)]
  simp only
  rw [k1 K (by omega)]
  simp only
  unfold numberedF
  rw [p1 K (by omega)]
  exact huniq K (by omega)
 ·obtain ⟨res,e1,e2⟩:=q3 hn
  exact ⟨res,⟨_,e1⟩,e2⟩
end Go.Proofs.YtffdjfkekdoeaaaDoor.Pl
end
section
set_option maxRecDepth 4000
set_option maxHeartbeats 2000000
namespace Go.Proofs.YtffdjfkekdoeaaaDoor.Pl
open Fo Wd
theorem xor_rank:∀ k:Fin 9,∀ x:Fin 16,x.val < 2 * k.val → x.val ^^^ 1 < 2 * k.val:=by decide
theorem xor_lt {k x:Nat} (hk:k ≤ 8) (hx:x < 2 * k):x ^^^ 1 < 2 * k:=xor_rank ⟨k,by omega⟩ ⟨x,by omega⟩ hx
theorem xor_two (x:Nat):(x ^^^ 1) ^^^ 1 = x:=by rw [Nat.xor_assoc,Nat.xor_self,Nat.xor_zero]
theorem Both.app {E E':List Edg} (h:Both E) (h':Both E'):Both (E ++ E'):=fun s x t he=>by
 rcases List.mem_append.1 he with he | he
 ·exact List.mem_append.2 (.inl (h _ _ _ he))
 ·exact List.mem_append.2 (.inr (h' _ _ _ he))
theorem Both.nil:Both []:=fun s x t he=>by simp at he
theorem Both.pair (s x t:Nat):Both [(s,x,t),(t,x ^^^ 1,s)]:=fun a y b he=>by
 simp only [List.mem_cons,Prod.mk.injEq,List.not_mem_nil,or_false] at he ⊢
 rcases he with ⟨rfl,rfl,rfl⟩ | ⟨rfl,rfl,rfl⟩
 ·exact .inr ⟨rfl,rfl,rfl⟩
 ·exact .inl ⟨rfl,xor_two _,rfl⟩
theorem pathE_both:∀ (w:List Nat) (n s t:Nat),Both (pathE n s w t)
 | [],n,s,t=>Both.nil
 | [x],n,s,t=>Both.pair s x t
 | x :: y :: l,n,s,t=>(Both.pair s x n).app (pathE_both (y :: l) (n + 1) n t)
theorem allE_both:∀ (ws:List (List Nat)) (n:Nat),Both (allE n ws)
 | [],n=>Both.nil
 | w :: l,n=>(pathE_both w n 0 0).app (allE_both l _)
theorem wordF_lt {k:Int} {s:ByteArray} (h:checkF k s = 0):∀ x ∈ wordF s,x < 2 * k.toNat:=by
 obtain ⟨h1,h2,h3,h4⟩:=check_bad h
 unfold hasBad at h4
 rw [List.any_eq_false] at h4
 have hb:∀ b ∈ s.data.toList,badF k (ofB b) = false:=fun b hb=>by simpa [ofB] using h4 b hb
 intro x hx
 unfold wordF at hx
 obtain ⟨b,hb1,rfl⟩:=List.mem_map.1 hx
 have:=redFold_mem (P:=fun b=>badF k (ofB b) = false) s.data.toList [] (by simp) hb b hb1
 simp only [badF,Bool.or_eq_false_iff,decide_eq_false_iff_not] at this
 omega
theorem wordF_len (s:ByteArray):(wordF s).length ≤ s.size:=by
 unfold wordF
 rw [List.length_map]
 have:=redFold_len s.data.toList []
 simp [redF] at *
 exact this
theorem lens_sizes:∀ gens:List ByteArray,lens (gens.map wordF) ≤ sizes gens
 | []=>Nat.le_refl _
 | s :: l=>by
  have:=lens_sizes l
  have:=wordF_len s
  simp only [lens,sizes,List.map_cons,List.sum_cons,List.map_map] at *
  omega
def resOf (m:Nat):Option (List Row) → FoldR
 | none=>.err 2
 | some nexts=>.ok m nexts
structure Folded (k:Nat) (gens:List ByteArray) (res:FoldR):Prop where
 ok:∃ st rows' o,Inv (allE 1 (gens.map wordF)) st ∧ st.m = 2 * k ∧ 0 < st.par.length ∧ MadeOf (2 * k) (rt st.par 0) (rowsS st.par 0 st.next) rows' o ∧ res = resOf (2 * k) o
structure Fit (k:Int) (gens:List ByteArray):Prop where
 k1:1 ≤ k
 k8:k ≤ 8
 len:gens.length ≤ 200
 size:sizes gens ≤ 20000
 word:∀ s ∈ gens,checkF k s = 0
theorem fit_ev {k:Int} {gens:List ByteArray} (h:Fit k gens):∃ res,Ev (fun K=>FoldF K k gens) res ∧ Folded k.toNat gens res:=by
 have hk0:1 ≤ k.toNat:=by have:=h.k1; omega
 have hk8:k.toNat ≤ 8:=by have:=h.k8; omega
 have hlen:=Nat.le_trans (lens_sizes gens) h.size
 have hany:gens.any (fun s=>checkF k s != 0) = false:=by
  rw [List.any_eq_false]; exact fun s hs=>by simp [h.word s hs]
 have hm0:(start0 (2 * k.toNat)).m = 2 * k.toNat:=rfl
 have hp0:(start0 (2 * k.toNat)).par.length = 1:=rfl
 have hbound:(1 + lens (gens.map wordF)) * (2 * k.toNat + 1) ≤ 20001 * 17:=Nat.mul_le_mul (by omega) (by omega)
 obtain ⟨st,⟨K1,a1⟩,a2,a3,a4,a5⟩:=all_ev (gens.map wordF) [] (start0 (2 * k.toNat)) (start_inv _) (by rw [hp0]; omega) (fun w hw x hx=>by
  obtain ⟨s,hs,rfl⟩:=List.mem_map.1 hw
  have:=wordF_lt (h.word s hs) x hx
  rw [hm0]
  exact ⟨this,xor_lt hk8 this⟩) (by rw [hp0,hm0]; unfold big; omega)
 rw [hp0,List.nil_append] at a2
 rw [hm0] at a3
 rw [hp0] at a5
 have hmul:st.par.length * (st.m + 1) ≤ 20001 * 17:=by rw [a3]; exact Nat.mul_le_mul (by omega) (by omega)
 obtain ⟨o,rows',⟨K2,b1⟩,b2⟩:=made_ev (s:=0) a2 (allE_both _ _) (fun x hx=>by rw [a3] at hx ⊢; exact xor_lt hk8 hx) a4 (by unfold big; omega)
 rw [a3] at b2
 refine ⟨resOf (2 * k.toNat) o,⟨K1 + K2,fun K hK=>?_⟩,⟨st,rows',o,a2,a3,a4,b2,rfl⟩⟩
 show FoldF K k gens = _
 unfold FoldF
 rw [if_neg (by have:=h.k1; have:=h.k8; omega),if_neg (by have:=h.len; have:=h.size; omega),if_neg (by rw [hany]; simp)]
 rw [show allF K (start0 (2 * k.toNat)) (gens.map wordF) = some st from a1 K (by omega)]
 simp only
 rw [if_pos ⟨by rw [a2.ok.len]; unfold big; omega,by rw [a3]; omega⟩]
 rw [show madeF K st 0 = some o from b1 K (by omega),a3]
 cases o <;> rfl
inductive FoldIs (k:Int) (gens:List ByteArray):FoldR → Prop
 | arg:¬ (1 ≤ k ∧ k ≤ 8) → FoldIs k gens (.err 1)
 | limit:1 ≤ k ∧ k ≤ 8 → (200 < gens.length ∨ 20000 < sizes gens) → FoldIs k gens (.err 2)
 | form:1 ≤ k ∧ k ≤ 8 → ¬ (200 < gens.length ∨ 20000 < sizes gens) → (∃ s ∈ gens,checkF k s ≠ 0) → FoldIs k gens (.err 4)
 | fit {res:FoldR}:Fit k gens → Folded k.toNat gens res → FoldIs k gens res
theorem fold_total (k:Int) (gens:List ByteArray):∃ res,(∃ K,FoldF K k gens = some res) ∧ FoldIs k gens res:=by
 by_cases hk:1 ≤ k ∧ k ≤ 8
 ·by_cases hb:200 < gens.length ∨ 20000 < sizes gens
  ·exact ⟨.err 2,⟨0,by unfold FoldF; rw [if_neg (by simpa using hk),if_pos hb]⟩,.limit hk hb⟩
  ·by_cases hw:gens.any (fun s=>checkF k s != 0) = true
   ·refine ⟨.err 4,⟨0,by unfold FoldF; rw [if_neg (by simpa using hk),if_neg hb,if_pos hw]⟩,.form hk hb ?_⟩
    obtain ⟨s,hs,h⟩:=List.any_eq_true.1 hw
    exact ⟨s,hs,by simpa using h⟩
   ·have hf:Fit k gens:=⟨hk.1,hk.2,by omega,by omega,fun s hs=>by
     rw [Bool.not_eq_true,List.any_eq_false] at hw
     simpa using hw s hs⟩
    obtain ⟨res,⟨K,h1⟩,h2⟩:=fit_ev hf
    exact ⟨res,⟨K,h1 K (Nat.le_refl _)⟩,.fit hf h2⟩
 ·exact ⟨.err 1,⟨0,by unfold FoldF; rw [if_pos hk]⟩,.arg hk⟩
end Go.Proofs.YtffdjfkekdoeaaaDoor.Pl
end
section
set_option maxRecDepth 8000
set_option maxHeartbeats 4000000
namespace Go.Proofs.YtffdjfkekdoeaaaDoor.Rf
open Fw Wd Fo Pl
def edgeR (s x t:Nat):Ed:=if x % 2 = 0 then (s,x,t) else (t,x - 1,s)
def pathR:Nat → Nat → List Nat → List Ed
 | _,_,[]=>[]
 | at',n,[x]=>[edgeR at' x 0]
 | at',n,x :: y :: l=>edgeR at' x n :: pathR n (n + 1) (y :: l)
theorem path_ret {w:World} {g1:Int} {n:Nat} {s:Sl} {es:List Ed} {r:ByteArray} {l:List Nat} (h:OwnT w 100 tE s (es.map ofE)) (hidx:Idxs r l) (hsz:r.size ≤ 100000) (hxs:∀ x ∈ l,x < 16) (hb:es.length ≤ 1000000) (hn:n ≤ 1000000) :
  Ret Tryd.prog 50 #[.agg #[.int .i64 g1,.int .i64 (n:Int),s.v],.string r] tG w fun y w'=>y.1 = g1 ∧ y.2.1 = ((n + (l.length - 1):Nat):Int) ∧ OwnT w' 100 tE y.2.2.1 ((es ++ pathR 0 n l).map ofE) ∧ Chg s.own w w' ∧ ∀ k,y.2.2.1.own k → s.own k ∨ w.heap.size ≤ k:=by
 refine cayleyref21_path.calls g1 (n:Int) s r ?_
 unfold cayleyref21_path.sh
 have hlen:l.length = r.size:=by have:=congrArg List.length hidx; simpa using this.symm
 refine New.mk fun b1 w1 hb1 hn1 hs1 hc1=>?_
 refine New.mk fun b3 w2 hb3 hn3 hs3 hc3=>?_
 have h12:=hc3.heap hn1 fun h=>h
 have hc02:=hc1.then hc3
 have s1:=hc1.size
 have s3:=hc3.size
 have hml:maxLen = 9223372036854775807:=rfl
 let Inv:Nat → Sl → List Ed → World → Prop:=fun m so out W=>Chg s.own w W ∧ W.heap[b1]? = some (.cells #[.int .i64 g1,.int .i64 (m:Int),so.v] 54 (0,0)) ∧ W.heap[b3]? = some (.cells #[.int .i64 0,.int .i64 0,.slice none 0 0] 54 (0,0)) ∧ OwnT W 100 tE so (out.map ofE) ∧ (∀ k,so.own k → s.own k ∨ w.heap.size ≤ k)
 refine LoopT.mk (fun y W=>∃ (i at' m:Nat) (so:Sl) (out:List Ed),i ≤ l.length ∧ at' ≤ 2000000 ∧ m ≤ 1000000 + i ∧ out.length ≤ es.length + i ∧ y = (r,at0 b1,at0 b3,(at':Int),(i:Int),()) ∧ Inv m so out W ∧ out ++ pathR at' m (l.drop i) = es ++ pathR 0 n l ∧ m + ((l.drop i).length - 1) = n + (l.length - 1)) (fun y _=>l.length - y.2.2.2.2.1.toNat)
  ⟨0,0,n,s,es,Nat.zero_le _,by omega,by omega,by omega,rfl,⟨hc02.nil,h12,hn3,h.chg hc02 fun _ _ h=>h,fun k hk=>.inl hk⟩,rfl,rfl⟩ ?_
 rintro y g W ⟨i,at',m,so,out,hi,hat,hm,hol,rfl,⟨i1,i2,i3,i4,i5⟩,hpa,hsi⟩
 dsimp only
 have kd:∀ {V:World},Chg Nil W V → OwnT V 100 tE so (out.map ofE):=fun hV=>i4.chg hV fun _ _ h=>h
 refine Br.dec (fun hlt=>?_) (fun hge=>?_)
 rotate_left
 ·have hin:i = l.length:=by omega
  rw [hin,List.drop_eq_nil_of_le (Nat.le_refl _)] at hpa hsi
  simp only [pathR,List.append_nil,List.length_nil,Nat.zero_sub,Nat.add_zero] at hpa hsi
  refine LoadT.mk (.agg [.int .i64,.int .i64,.sl]) (x:=(g1,(m:Int),so,())) (fun j v hv=>by rw [cellOf i2]; simpa [Ty.cells] using hv) ?_
  refine StoreN.whole (vs:=[.int .i64 g1,.int .i64 (m:Int),so.v]) i3 rfl fun w5 h35 hc5 _=>?_
  refine LoadT.mk (.agg [.int .i64,.int .i64,.sl]) (x:=(g1,(m:Int),so,())) (fun j v hv=>by rw [cellOf h35]; simpa [Ty.cells] using hv) ?_
  refine ⟨(g1,(m:Int),so,()),rfl,rfl,by show (m:Int) = _; rw [hsi],?_,i1.trans hc5 (fun _ _ h=>h) fun k hk he=>(by have he:k = b3:=he; omega),i5⟩
  rw [← hpa]
  exact OwnT.chgT i4 hc5 (e:=54) (fun k hk=>by have hk:k = b3:=hk; subst hk; exact ⟨_,_,i3⟩) (by decide)
 have hlt':i < l.length:=by omega
 have hxl:=hxs _ (List.getElem_mem hlt')
 have hidxi:idxF (ofB (r[i]'(by omega))) = ((l[i]:Nat):Int):=by
  have h1:=congrArg (·[i]?) hidx
  simp only [List.getElem?_map,bytes_get r i (by omega),List.getElem?_eq_getElem hlt',Option.map_some,Option.some.injEq] at h1
  exact h1
 have hdrop:l.drop i = l[i] :: l.drop (i + 1):=List.drop_eq_getElem_cons hlt'
 have hdl:(l.drop (i + 1)).length = l.length - (i + 1):=List.length_drop ..
 generalize l[i] = x at hdrop hidxi hxl
 rw [hdrop] at hpa hsi
 have hw1:IntKind.wrap .i64 ((i:Int) + 1) = ((i + 1:Nat):Int):=wrap64 (by omega) (by omega)
 -- where it leads
 refine Join.by' (fun y V=>∃ to m':Nat,y = (r,at0 b1,at0 b3,(at':Int),(i:Int),(to:Int),()) ∧ to ≤ 2000000 ∧ m' ≤ 1000000 + (i + 1) ∧ Inv m' so out V ∧ out ++ (edgeR at' x to :: pathR to m' (l.drop (i + 1))) = es ++ pathR 0 n l ∧ m' + ((l.drop (i + 1)).length - 1) = n + (l.length - 1)) ?_ ?_
 rotate_left
 ·intro J hJ
  rw [wrap64 (by omega) (by omega)]
  refine Br.dec (fun hlt2=>?_) (fun hge2=>hJ _ _ ⟨0,m,rfl,by omega,by omega,⟨i1,i2,i3,i4,i5⟩,?_,?_⟩)
  ·have hlt2':i + 1 < l.length:=by omega
   refine LoadT.sc (s:=.int .i64) (x:=(m:Int)) (by rw [cellOf i2]; rfl) ?_
   refine LoadT.sc (s:=.int .i64) (x:=(m:Int)) (by rw [cellOf i2]; rfl) ?_
   refine Store1.at i2 1 (by show 1 < 3; decide) rfl fun W3 h3 hc3 _=>?_
   rw [wrap64 (by omega) (by omega)] at h3
   have i4':OwnT W3 100 tE so (out.map ofE):=OwnT.chgT i4 hc3 (e:=54) (fun k hk=>by have hk:k = b1:=hk; subst hk; exact ⟨_,_,i2⟩) (by decide)
   refine hJ _ _ ⟨m,m + 1,rfl,by omega,by omega,⟨i1.trans hc3 (fun _ _ h=>h) fun k hk he=>(by have he:k = b1:=he; omega),h3,hc3.heap i3 fun he=>(by have he:b3 = b1:=he; omega),i4',i5⟩,?_,?_⟩
   ·rw [← hpa]
    rw [List.drop_eq_getElem_cons hlt2']
    rfl
   ·rw [← hsi,List.length_cons,hdl]; omega
  ·have hin:i + 1 = l.length:=by omega
   rw [hin,List.drop_eq_nil_of_le (Nat.le_refl _)] at hpa
   rw [hin,List.drop_eq_nil_of_le (Nat.le_refl _)]
   exact hpa
  ·rw [← hsi,List.length_cons,hdl]; omega
 clear hpa hsi i1 i2 i3 i4 i5 kd
 rintro y V g3 ⟨to,m',rfl,hto,hm',⟨i1,i2,i3,i4,i5⟩,hpa,hsi⟩
 dsimp only
 refine StrIdx.mk i rfl (by omega) ?_
 have hbb:=UInt8.toNat_lt (r[i]'(by omega))
 refine Ret.call (Rf.Index_ret _ _ (by unfold ofB; omega) (by unfold ofB; omega)) ?_
 rintro _ V2 ⟨rfl,hV2⟩
 rw [hV2]; clear hV2
 rw [hidxi,hw1]
 have hmod:Int.tmod (x:Int) 2 = ((x % 2:Nat):Int):=rfl
 have hr3:Chg s.own w V:=i1
 -- an edge more
 have step:∀ (e:Ed),e = edgeR at' x to → LoadT (.sc .sl) V ((at0 b1).add 2) fun x20=>
   New V (.cells #[(.int .i64 (ofE e).1),(.int .i64 (ofE e).2.1),(.int .i64 (ofE e).2.2.1)] 100) fun b21 w22=>
   RunT Tryd.prog (.sc .sl) (Builtin.append_ #[52,52] 52 #[(.slice x20.a x20.n x20.c),(.slice (some (Addr.mk b21 0 none)) 1 1)]) w22 fun r23 w24=>
   Store1 w24 ((at0 b1).add 2) (.slice r23.a r23.n r23.c) fun w25=>
   (∃ (i_1 at'_1 m:Nat) (so:Sl) (out:List Ed),i_1 ≤ l.length ∧ at'_1 ≤ 2000000 ∧ m ≤ 1000000 + i_1 ∧ out.length ≤ es.length + i_1 ∧ (r,at0 b1,at0 b3,(to:Int),((i + 1:Nat):Int),()) = (r,at0 b1,at0 b3,(at'_1:Int),(i_1:Int),()) ∧ Inv m so out w25 ∧ out ++ pathR at'_1 m (l.drop i_1) = es ++ pathR 0 n l ∧ m + ((l.drop i_1).length - 1) = n + (l.length - 1)) ∧ l.length - ((i + 1:Nat):Int).toNat < l.length - ((i:Nat):Int).toNat:=fun e he=>by
  refine LoadT.sc (s:=.sl) (x:=so) (by rw [cellOf i2]; rfl) ?_
  refine New.mk fun b21 V1 hb21 hn21 hs21 hc21=>?_
  refine OwnT.append (t:=tE) (m:=1) ok52 rfl (by decide) (i4.chg hc21 fun _ _ h=>h) [ofE e] rfl (by decide) (fun j v hv=>by rw [cellOf hn21]; simpa [Ty.cells] using hv) ?_ ?_ fun so' V2 ho2 hcA hownA=>?_
  ·rw [List.length_map]; omega
  ·rw [List.length_map]; omega
  have hk:∀ k,so.own k → ∃ c fl,V1.heap[k]? = some (.cells c 100 fl):=OwnT.kind (i4.chg hc21 fun _ _ h=>h)
  have j2:=Chg.heapT hcA hk (hc21.heap i2 fun h=>h) (by decide)
  have j3:=Chg.heapT hcA hk (hc21.heap i3 fun h=>h) (by decide)
  have hsz1:=i1.size
  have hsz2:=hc21.size
  refine Store1.at j2 2 (by show 2 < 3; decide) rfl fun V3 h3 hc4 _=>?_
  have ho3:OwnT V3 100 tE so' (out.map ofE ++ [ofE e]):=OwnT.chgT ho2 hc4 (e:=54) (fun k hk=>by have hk:k = b1:=hk; subst hk; exact ⟨_,_,j2⟩) (by decide)
  refine ⟨⟨i + 1,to,m',so',out ++ [e],hlt',hto,hm',by simp; omega,rfl,⟨?_,h3,hc4.heap j3 fun he=>(by have he:b3 = b1:=he; omega),by rw [List.map_append]; exact ho3,fun k hk=>?_⟩,?_,hsi⟩,by omega⟩
  ·refine ((i1.then hc21.nil).trans hcA (fun _ _ h=>h) fun k hk ho=>?_).trans hc4 (fun _ _ h=>h) fun k hk he=>(by have he:k = b1:=he; omega)
   rcases i5 k ho with h1 | h1
   ·exact h1
   ·omega
  ·rcases hownA k hk with h1 | h1
   ·exact i5 k h1
   ·right; omega
  ·rw [← hpa,he]; simp
 refine ⟨by decide,?_⟩
 rw [hmod]
 refine Br.mk (fun he=>?_) (fun he=>?_)
 ·have he:x % 2 = 0:=by have:((x % 2:Nat):Int) = 0:=by simpa using he
                        omega
  exact step (at',x,to) (by rw [edgeR,if_pos he])
 ·have he:¬ x % 2 = 0:=fun h=>by rw [h] at he; simp at he
  have hw:IntKind.wrap .i64 ((x:Int) - 1) = ((x - 1:Nat):Int):=by rw [wrap64 (by omega) (by omega)]; omega
  rw [hw]
  exact step (to,x - 1,at') (by rw [edgeR,if_neg he])
end Go.Proofs.YtffdjfkekdoeaaaDoor.Rf
end
section
set_option maxRecDepth 4000
set_option maxHeartbeats 2000000
namespace Go.Proofs.YtffdjfkekdoeaaaDoor.Pl
open Fo Rf
theorem xor1 (x:Nat):x ^^^ 1 = if x % 2 = 0 then x + 1 else x - 1:=by
 have h1:(x ^^^ 1) / 2 = x / 2:=by rw [Nat.xor_div_two]; simp
 have h2:=@Nat.xor_mod_two_eq_one x 1
 split <;> omega
def Dir (es:List Ed) (s x t:Nat):Prop:=(x % 2 = 0 ∧ (s,x,t) ∈ es) ∨ (x % 2 = 1 ∧ (t,x - 1,s) ∈ es)
theorem dir_app {es es':List Ed} {s x t:Nat}:Dir (es ++ es') s x t ↔ Dir es s x t ∨ Dir es' s x t:=by
 unfold Dir
 simp only [List.mem_append]
 constructor
 ·rintro (⟨a,b | b⟩ | ⟨a,b | b⟩)
  ·exact .inl (.inl ⟨a,b⟩)
  ·exact .inr (.inl ⟨a,b⟩)
  ·exact .inl (.inr ⟨a,b⟩)
  ·exact .inr (.inr ⟨a,b⟩)
 ·rintro ((⟨a,b⟩ | ⟨a,b⟩) | ⟨a,b⟩ | ⟨a,b⟩)
  ·exact .inl ⟨a,.inl b⟩
  ·exact .inr ⟨a,.inl b⟩
  ·exact .inl ⟨a,.inr b⟩
  ·exact .inr ⟨a,.inr b⟩
structure Rep (E:List Edg) (es0 es:List Ed) (r:Nat → Nat):Prop where
 img:∀ e,e ∈ es ↔ ∃ e0 ∈ es0,e = (r e0.1,e0.2.1,r e0.2.2)
 snd:∀ v,Cg E (r v) v
 idem:∀ v,r (r v) = r v
 le:∀ v,r v ≤ v
end Go.Proofs.YtffdjfkekdoeaaaDoor.Pl
end
section
set_option maxRecDepth 4000
set_option maxHeartbeats 2000000
namespace Go.Proofs.YtffdjfkekdoeaaaDoor.Pl
open Fw Wd Fo Rf
def scanO:Row → Nat → Option Nat
 | [],seen=>some seen
 | none :: l,seen=>scanO l seen
 | some t :: l,seen=>if t > seen then none else scanO l (if t = seen then seen + 1 else seen)
theorem idxOf_range:∀ (n t:Nat),t < n → (List.range n).idxOf t = t:=fun n t h=>by
 have h1:(List.range n)[t]'(by simpa using h) = t:=by simp
 have:=(List.nodup_range (n:=n)).idxOf_getElem t (by simpa using h)
 rw [h1] at this; exact this
theorem bfs_scan:∀ (r:Row) (seen seen':Nat),scanO r seen = some seen' → bfsRow r (List.range seen) = (List.range seen',r)
 | [],seen,seen',h=>by simp only [scanO,Option.some.injEq] at h; subst h; rfl
 | none :: l,seen,seen',h=>by
  simp only [scanO] at h
  simp only [bfsRow,bfs_scan l seen seen' h]
 | some t :: l,seen,seen',h=>by
  simp only [scanO] at h
  split at h
  ·cases h
  rename_i hle
  simp only [bfsRow,List.mem_range]
  by_cases hlt:t < seen
  ·rw [if_neg (by omega)] at h
   rw [if_pos hlt,bfs_scan l seen seen' h,idxOf_range seen t hlt]
  ·have:t = seen:=by omega
   subst this
   rw [if_pos rfl] at h
   rw [if_neg hlt,← List.range_succ,bfs_scan l (t + 1) seen' h,List.length_range]
theorem bfs_scan_none:∀ (r:Row) (seen:Nat),scanO r seen = none → (bfsRow r (List.range seen)).2 ≠ r
 | [],seen,h=>by simp [scanO] at h
 | none :: l,seen,h=>by
  simp only [scanO] at h
  have:=bfs_scan_none l seen h
  simp only [bfsRow]
  intro he
  simp only [List.cons.injEq,true_and] at he
  exact this he
 | some t :: l,seen,h=>by
  simp only [scanO] at h
  simp only [bfsRow,List.mem_range]
  split at h
  ·rename_i hgt
   rw [if_neg (by omega)]
   intro he
   simp only [List.cons.injEq,Option.some.injEq,List.length_range] at he
   omega
  ·rename_i hle
   by_cases hlt:t < seen
   ·rw [if_neg (by omega)] at h
    have:=bfs_scan_none l seen h
    rw [if_pos hlt]
    intro he
    simp only [List.cons.injEq] at he
    exact this he.2
   ·have:t = seen:=by omega
    subst this
    rw [if_pos rfl] at h
    have:=bfs_scan_none l (t + 1) h
    rw [if_neg hlt,← List.range_succ]
    intro he
    simp only [List.cons.injEq] at he
    exact this he.2
theorem scanO_le:∀ (r:Row) (n seen seen':Nat),(∀ t,some t ∈ r → t < n) → seen ≤ n → scanO r seen = some seen' → seen ≤ seen' ∧ seen' ≤ n
 | [],n,seen,seen',_,hs,h=>by simp only [scanO,Option.some.injEq] at h; omega
 | none :: l,n,seen,seen',hr,hs,h=>scanO_le l n seen seen' (fun t ht=>hr t (by simp [ht])) hs h
 | some t :: l,n,seen,seen',hr,hs,h=>by
  simp only [scanO] at h
  split at h
  ·cases h
  have ht:=hr t (by simp)
  have:=scanO_le l n _ seen' (fun t ht=>hr t (by simp [ht])) (by split <;> omega) h
  split at this <;> omega
def scanQ:Nat → List Row → Nat → Option Nat
 | _,[],seen=>some seen
 | s,r :: l,seen=>if seen ≤ s then none else (scanO r seen).bind (scanQ (s + 1) l)
theorem numE_ext {k:Nat} {es:List Ed}:∀ (K i:Nat) (q:List Nat) (out res:List Row),numE k es K i q out = some res → ∃ tl,res = out ++ tl
 | 0,_,_,_,_,h=>by simp [numE] at h
 | K + 1,i,q,out,res,h=>by
  simp only [numE] at h
  split at h
  ·cases h; exact ⟨[],by simp⟩
  ·obtain ⟨tl,h⟩:=numE_ext K _ _ _ _ h
   exact ⟨_,by rw [h,List.append_assoc]⟩
theorem num_iff {k n:Nat} {es:List Ed} {R:List Row} (hn:R.length = n) (hrow:∀ v,v < n → rowE k es v = R.getD v []) (hlt:∀ r ∈ R,∀ t,some t ∈ r → t < n):∀ (K s seen:Nat) (res:List Row),s ≤ seen → seen ≤ n → numE k es K s (List.range seen) (R.take s) = some res → (res = R ↔ scanQ s (R.drop s) seen = some n)
 | 0,_,_,_,_,_,h=>by simp [numE] at h
 | K + 1,s,seen,res,hs,hsn,h=>by
  simp only [numE] at h
  by_cases hlt':s < seen
  ·have hsn':s < n:=by omega
   rw [show (List.range seen)[s]? = some s by rw [List.getElem?_range hlt']] at h
   simp only at h
   have hRs:R.getD s [] = R[s]:=getD_get (by omega)
   rw [hrow s hsn',hRs] at h
   have hdrop:R.drop s = R[s] :: R.drop (s + 1):=List.drop_eq_getElem_cons (by omega)
   rw [hdrop]
   simp only [scanQ,if_neg (show ¬ seen ≤ s by omega)]
   have hmem:R[s] ∈ R:=List.getElem_mem (by omega)
   cases hsc:scanO R[s] seen with
   | none=>
    have hne:=bfs_scan_none _ _ hsc
    obtain ⟨tl,hres⟩:=numE_ext _ _ _ _ _ h
    simp only [Option.bind_none,reduceCtorEq,iff_false]
    intro he
    rw [he] at hres
    have h1:=congrArg (fun l=>l[s]?) hres
    simp only [List.append_assoc] at h1
    rw [List.getElem?_append_right (by simp; omega),List.getElem?_eq_getElem (by omega)] at h1
    simp only [List.length_take,show s - min s R.length = 0 by omega,List.cons_append,List.getElem?_cons_zero,Option.some.injEq] at h1
    exact hne h1.symm
   | some seen'=>
    rw [bfs_scan _ _ _ hsc] at h
    have hle:=scanO_le _ n _ _ (hlt _ hmem) hsn hsc
    simp only [Option.bind_some]
    rw [← take_snoc (show s < R.length by omega)] at h
    exact num_iff hn hrow hlt K (s + 1) seen' res (by omega) hle.2 h
  ·have hse:s = seen:=by omega
   subst hse
   rw [show (List.range s)[s]? = none by simp] at h
   simp only [Option.some.injEq] at h
   subst h
   by_cases hsn':s = n
   ·subst hsn'
    rw [List.take_of_length_le (by omega),List.drop_eq_nil_of_le (by omega)]
    simp [scanQ]
   ·have hdrop:R.drop s = R[s]'(by omega) :: R.drop (s + 1):=List.drop_eq_getElem_cons (by omega)
    rw [hdrop]
    simp only [scanQ,Nat.le_refl,if_true,reduceCtorEq,iff_false]
    intro he
    have:=congrArg List.length he
    simp at this
    omega
def localP (acc:List Bool) (next:List (List Int)) (s:Nat) (row:List Int):Prop:=acc.getD s false = (s == 0) ∧ (0 < s → 2 ≤ degF (row.map toO)) ∧ rowLocal next s row = true
theorem scanE_iff {next:List (List Int)} {s:Nat}:∀ (row:List Int) (y seen r:Nat),scanE next s (edgesFrom y row) seen = some r ↔ ((edgesFrom y row).all fun e=>getN next e.2.1.toNat (e.1.toNat ^^^ 1) == (s:Int)) = true ∧ scanO (row.map toO) seen = some r
 | [],y,seen,r=>by simp [edgesFrom,scanE,scanO]
 | t :: l,y,seen,r=>by
  simp only [edgesFrom,List.map_cons]
  by_cases ht:0 ≤ t
  ·obtain ⟨n,rfl⟩:=Int.eq_ofNat_of_zero_le ht
   have ho:toO (n:Int) = some n:=by unfold toO; rw [if_neg (by omega)]; simp
   rw [if_pos ht,ho]
   simp only [scanE,scanO,List.all_cons,Bool.and_eq_true,beq_iff_eq]
   have ih:=fun s'=>scanE_iff (next:=next) (s:=s) l (y + 1) s' r
   by_cases hg:n > seen
   ·rw [if_pos hg,if_pos (.inr (by omega))]; simp
   ·rw [if_neg hg]
    by_cases hb:getN next ((n:Int)).toNat (((y:Int)).toNat ^^^ 1) = (s:Int)
    ·rw [if_neg (by unfold getN at hb; intro h; rcases h with h | h; exact h hb; omega)]
     have e1:(if (n:Int) = (seen:Int) then seen + 1 else seen) = (if n = seen then seen + 1 else seen):=by
      by_cases h:n = seen
      ·simp [h]
      ·rw [if_neg h,if_neg (by omega)]
     rw [e1,ih]
     constructor
     ·rintro ⟨h1,h2⟩; exact ⟨⟨hb,h1⟩,h2⟩
     ·rintro ⟨⟨_,h1⟩,h2⟩; exact ⟨h1,h2⟩
    ·rw [if_pos (.inl hb)]
     constructor
     ·intro h; cases h
     ·rintro ⟨⟨h1,_⟩,_⟩; exact absurd h1 hb
  ·have ho:toO t = none:=by unfold toO; rw [if_pos (by omega)]
   rw [if_neg ht,ho]
   simp only [scanO]
   exact scanE_iff l (y + 1) seen r
theorem scanR_iff {acc:List Bool} {next:List (List Int)}:∀ (l:List (List Int)) (s seen r:Nat),scanR acc next s l seen = some r ↔ (∀ (i:Nat) (row:List Int),l[i]? = some row → localP acc next (s + i) row) ∧ scanQ s (l.map (·.map toO)) seen = some r
 | [],s,seen,r=>by simp [scanR,scanQ]
 | row :: l,s,seen,r=>by
  simp only [scanR,List.map_cons,scanQ]
  have ih:=fun s'=>scanR_iff (acc:=acc) (next:=next) l (s + 1) s' r
  have hE:=fun s'=>scanE_iff (next:=next) (s:=s) row 0 seen s'
  constructor
  ·intro h
   split at h
   ·cases h
   rename_i hc
   split at h
   ·cases h
   rename_i seen' he
   obtain ⟨h1,h2⟩:=(hE seen').1 he
   obtain ⟨h3,h4⟩:=(ih seen').1 h
   have hacc:acc.getD s false = (s == 0):=by
    by_cases hh:acc.getD s false = (s == 0)
    ·exact hh
    ·exact absurd (.inl hh) hc
   refine ⟨fun i r' hi=>?_,?_⟩
   ·cases i with
    | zero=>
     simp only [List.getElem?_cons_zero,Option.some.injEq] at hi
     subst hi
     refine ⟨hacc,fun hs=>?_,h1⟩
     have hs:0 < s:=hs
     by_cases hd:degF (row.map toO) < 2
     ·exact absurd (.inr (.inl ⟨hs,hd⟩)) hc
     ·omega
    | succ i=>
     have:=h3 i r' (by simpa using hi)
     rw [show s + (i + 1) = s + 1 + i by omega]; exact this
   ·rw [if_neg (fun hle=>hc (.inr (.inr hle))),h2]
    exact h4
  ·rintro ⟨h1,h2⟩
   obtain ⟨p1,p2,p3⟩:=h1 0 row rfl
   rw [Nat.add_zero] at p1 p2 p3
   split at h2
   ·cases h2
   rename_i hle
   cases hsc:scanO (row.map toO) seen with
   | none=>rw [hsc] at h2; cases h2
   | some seen'=>
    rw [hsc] at h2
    have h2:scanQ (s + 1) (l.map (·.map toO)) seen' = some r:=h2
    rw [if_neg (by
     rintro (h | h | h)
     ·exact h p1
     ·have:=p2 h.1; omega
     ·exact hle h),(hE seen').2 ⟨p3,hsc⟩]
    exact (ih seen').2 ⟨fun i r' hi=>by
     have:=h1 (i + 1) r' (by simpa using hi)
     rw [show s + (i + 1) = s + 1 + i by omega] at this; exact this,h2⟩
theorem localAll_iff {acc:List Bool} {next:List (List Int)}:∀ (l:List (List Int)) (s:Nat),localAll acc next s l = true ↔ ∀ (i:Nat) (row:List Int),l[i]? = some row → localS acc next (s + i) row = true
 | [],s=>by simp [localAll]
 | r :: l,s=>by
  simp only [localAll,Bool.and_eq_true,localAll_iff l (s + 1)]
  constructor
  ·rintro ⟨h1,h2⟩ i row hi
   cases i with
   | zero=>simp only [List.getElem?_cons_zero,Option.some.injEq] at hi; subst hi; exact h1
   | succ i=>rw [show s + (i + 1) = s + 1 + i by omega]; exact h2 i row (by simpa using hi)
  ·intro h
   exact ⟨h 0 r rfl,fun i row hi=>by rw [show s + 1 + i = s + (i + 1) by omega]; exact h (i + 1) row (by simpa using hi)⟩
theorem localS_iff {acc:List Bool} {next:List (List Int)} {s:Nat} {row:List Int} (h0:acc.getD 0 false = true):localS acc next s row = true ↔ localP acc next s row:=by
 unfold localS localP
 rw [Bool.and_eq_true]
 by_cases hs:s = 0
 ·subst hs
  rw [h0]
  simp
 ·have e:(s == 0) = false:=by simp [hs]
  rw [e]
  simp only [Bool.false_or,Bool.and_eq_true,decide_eq_true_eq,Bool.not_eq_true']
  constructor
  ·rintro ⟨h1,h2,h3⟩; exact ⟨h3,fun _=>h2,h1⟩
  ·rintro ⟨h1,h2,h3⟩; exact ⟨h3,h2 (by omega),h1⟩
theorem edges_of:∀ (row:List Int) (y x:Nat),x < row.length → 0 ≤ row.getD x 0 → (((y + x:Nat):Int),row.getD x 0,()) ∈ edgesFrom y row
 | [],y,x,h,_=>by simp at h
 | t :: l,y,0,h,hp=>by
  have hp:0 ≤ t:=by simpa using hp
  simp only [edgesFrom]; rw [if_pos hp]; simp
 | t :: l,y,x + 1,h,hp=>by
  have:=edges_of l (y + 1) x (by simpa using h) (by simpa using hp)
  simp only [edgesFrom]
  rw [show y + (x + 1) = y + 1 + x by omega]
  split
  ·exact List.mem_cons_of_mem _ (by simpa using this)
  ·simpa using this
theorem mem_graphR {s:Nat} {row:List Int} {j:Nat} (hp:0 ≤ row.getD (2 * j) 0):∀ (n i:Nat),i ≤ j → j < i + n → (s,2 * j,(row.getD (2 * j) 0).toNat) ∈ graphR s row i n
 | 0,i,h1,h2=>by omega
 | n + 1,i,h1,h2=>by
  simp only [graphR]
  by_cases he:i = j
  ·subst he; rw [if_pos hp]; simp
  ·exact List.mem_append_right _ (mem_graphR hp n (i + 1) (by omega) (by omega))
theorem mem_graphL {k j:Nat} (hj:j < k):∀ (l:List (List Int)) (s i:Nat) (row:List Int),l[i]? = some row → 0 ≤ row.getD (2 * j) 0 → (s + i,2 * j,(row.getD (2 * j) 0).toNat) ∈ graphL k s l
 | [],s,i,row,h,_=>by simp at h
 | r :: l,s,0,row,h,hp=>by
  simp only [List.getElem?_cons_zero,Option.some.injEq] at h
  subst h
  exact List.mem_append_left _ (mem_graphR hp k 0 (Nat.zero_le _) (by omega))
 | r :: l,s,i + 1,row,h,hp=>by
  have:=mem_graphL hj l (s + 1) i row (by simpa using h) hp
  rw [show s + (i + 1) = s + 1 + i by omega]
  exact List.mem_append_right _ this
theorem stepE_some:∀ (es:List Ed) (v x t:Nat),Rf.stepE es v x = some t → (x % 2 = 0 ∧ (v,x,t) ∈ es) ∨ (x % 2 = 1 ∧ ∃ y,y + 1 = x ∧ (t,y,v) ∈ es)
 | [],v,x,t,h=>by simp [Rf.stepE] at h
 | (f,y,u) :: l,v,x,t,h=>by
  simp only [Rf.stepE] at h
  split at h
  ·rename_i hc
   obtain ⟨h1,rfl,rfl⟩:=hc
   cases h
   exact .inl ⟨h1,by simp⟩
  ·split at h
   ·rename_i hc
    obtain ⟨h1,h2,rfl⟩:=hc
    cases h
    exact .inr ⟨h1,y,h2,by simp⟩
   ·rcases stepE_some l v x t h with ⟨h1,h2⟩ | ⟨h1,y',h2,h3⟩
    ·exact .inl ⟨h1,by simp [h2]⟩
    ·exact .inr ⟨h1,y',h2,by simp [h3]⟩
theorem stepE_none:∀ (es:List Ed) (v x:Nat),Rf.stepE es v x = none → ∀ e ∈ es,¬ (x % 2 = 0 ∧ e.2.1 = x ∧ e.1 = v) ∧ ¬ (x % 2 = 1 ∧ e.2.1 + 1 = x ∧ e.2.2 = v)
 | [],v,x,_,e,he=>by simp at he
 | (f,y,u) :: l,v,x,h,e,he=>by
  simp only [Rf.stepE] at h
  split at h
  ·cases h
  ·split at h
   ·cases h
   ·rename_i h1 h2
    rcases List.mem_cons.1 he with rfl | he
    ·exact ⟨h1,h2⟩
    ·exact stepE_none l v x h e he
theorem xor_evens:∀ y:Fin 16,y.val % 2 = 0 → y.val ^^^ 1 = y.val + 1:=by decide
theorem xor_odds:∀ y:Fin 16,y.val % 2 = 1 → y.val ^^^ 1 = y.val - 1:=by decide
theorem step_graph {k:Nat} (hk:k ≤ 8) {next:List (List Int)} (hlen:∀ r ∈ next,r.length = 2 * k ∧ ∀ t ∈ r,-1 ≤ t ∧ t < (next.length:Int)) (hloc:∀ (i:Nat) (row:List Int),next[i]? = some row → rowLocal next i row = true) {v x:Nat} (hv:v < next.length) (hx:x < 2 * k) :
  Rf.stepE (graphL k 0 next) v x = toO (getN next v x):=by
 have back:∀ {s y:Nat},s < next.length → y < 2 * k → 0 ≤ getN next s y → getN next (getN next s y).toNat (y ^^^ 1) = (s:Int):=fun {s y} hs hy hp=>by
  have hr:=hloc s next[s] (List.getElem?_eq_getElem hs)
  have hl:=(hlen _ (List.getElem_mem hs)).1
  have hg:getN next s y = next[s].getD y 0:=by unfold getN; rw [getD_get hs]
  rw [hg] at hp ⊢
  have:=edges_of next[s] 0 y (by omega) hp
  have:=List.all_eq_true.1 hr _ this
  simpa using this
 have tgt:∀ {s y:Nat},s < next.length → y < 2 * k → getN next s y < (next.length:Int) ∧ -1 ≤ getN next s y:=fun {s y} hs hy=>by
  have hl:=hlen _ (List.getElem_mem hs)
  have hg:getN next s y = next[s][y]'(by omega):=by unfold getN; rw [getD_get hs,getD_get (by omega)]
  rw [hg]; have:=hl.2 _ (List.getElem_mem (show y < next[s].length by omega)); omega
 have ed:∀ {s j:Nat},s < next.length → j < k → 0 ≤ getN next s (2 * j) → (s,2 * j,(getN next s (2 * j)).toNat) ∈ graphL k 0 next:=fun {s j} hs hj hp=>by
  have hg:getN next s (2 * j) = next[s].getD (2 * j) 0:=by unfold getN; rw [getD_get hs]
  rw [hg] at hp ⊢
  have:=mem_graphL hj next 0 s next[s] (List.getElem?_eq_getElem hs) hp
  rw [Nat.zero_add] at this; exact this
 have edm:∀ {f y t:Nat},(f,y,t) ∈ graphL k 0 next → f < next.length ∧ y < 2 * k ∧ getN next f y = (t:Int) ∧ y % 2 = 0:=fun {f y t} he=>by
  obtain ⟨i,row,h1,h2,j,h3,h4,h5,h6⟩:=graphL_mem next 0 _ he
  dsimp only at h2 h4 h6
  obtain ⟨hi,hri⟩:=List.getElem?_eq_some_iff.1 h1
  rw [Nat.zero_add] at h2
  subst h2
  refine ⟨hi,by omega,?_,by omega⟩
  unfold getN; rw [getD_get hi,hri,h4]; omega
 cases hst:Rf.stepE (graphL k 0 next) v x with
 | some t=>
  rcases stepE_some _ _ _ _ hst with ⟨h1,h2⟩ | ⟨h1,y,h2,h3⟩
  ·have:=(edm h2).2.2.1
   rw [this]; unfold toO; rw [if_neg (by omega)]; simp
  ·obtain ⟨q1,q2,q3,q4⟩:=edm h3
   have hb:=back q1 q2 (by omega)
   rw [q3] at hb
   have hxy:y ^^^ 1 = x:=by rw [xor_evens ⟨y,by omega⟩ (by dsimp only; omega)]; exact h2
   rw [hxy] at hb
   have hb:getN next v x = (t:Int):=hb
   rw [hb]; unfold toO; rw [if_neg (by omega)]; simp
 | none=>
  have hn:=stepE_none _ _ _ hst
  by_cases hp:0 ≤ getN next v x
  ·exfalso
   by_cases hx2:x % 2 = 0
   ·have:=ed (s:=v) (j:=x / 2) hv (by omega) (by rw [show 2 * (x / 2) = x by omega]; exact hp)
    rw [show 2 * (x / 2) = x by omega] at this
    exact (hn _ this).1 ⟨hx2,rfl,rfl⟩
   ·have hb:=back hv hx hp
    have ht:=(tgt hv hx).1
    have hxy:x ^^^ 1 = 2 * (x / 2):=by rw [xor_odds ⟨x,by omega⟩ (by dsimp only; omega)]; dsimp only; omega
    rw [hxy] at hb
    have:=ed (s:=(getN next v x).toNat) (j:=x / 2) (by omega) (by omega) (by rw [hb]; omega)
    rw [hb] at this
    exact (hn _ this).2 ⟨by omega,by dsimp only; omega,by simp⟩
  ·unfold toO; rw [if_pos (by omega)]
theorem toO_ofO (o:Option Nat):toO (ofO o) = o:=by
 cases o with
 | none=>rfl
 | some n=>show toO (n:Int) = _; unfold toO; rw [if_neg (by omega)]; simp
theorem isM_check {k:Int} (hk:1 ≤ k ∧ k ≤ 8) (a:Aut):isM k a = decide (a.check k = 0):=by
 obtain ⟨nk,rfl⟩:=Int.eq_ofNat_of_zero_le (show 0 ≤ k by omega)
 have hA:a.check (nk:Int) = if fsaF a.sym a.start a.acc a.next ≠ 0 ∨ a.sym ≠ 2 * (nk:Int) ∨ a.next.length < 1 ∨ 2000 < a.next.length ∨ a.start ≠ 0 then 210
   else match scanR a.acc a.next 0 a.next 1 with | some seen=>if seen = a.next.length then 0 else 210 | none=>210:=by
  unfold Aut.check checkG; rw [if_neg (by simpa using hk)]; (try rfl)
 by_cases g1:fsaF a.sym a.start a.acc a.next = 0
 case neg=>
  rw [hA,if_pos (.inl g1)]; unfold isM; rw [decide_eq_false g1]; rfl
 obtain ⟨hla,hrows⟩:=fsa_spec g1
 by_cases g2:a.sym = 2 * (nk:Int)
 case neg=>
  rw [hA,if_pos (.inr (.inl g2))]; unfold isM; rw [decide_eq_false g2]; simp
 by_cases g3:1 ≤ a.acc.length
 case neg=>
  rw [hA,if_pos (.inr (.inr (.inl (by omega))))]; unfold isM; rw [decide_eq_false g3]; simp
 by_cases g4:a.acc.length ≤ 2000
 case neg=>
  rw [hA,if_pos (.inr (.inr (.inr (.inl (by omega)))))]; unfold isM; rw [decide_eq_false g4]; simp
 by_cases g5:a.start = 0
 case neg=>
  rw [hA,if_pos (.inr (.inr (.inr (.inr g5))))]; unfold isM; rw [decide_eq_false g5]; simp
 have hI:isM (nk:Int) a = (a.acc.getD 0 false && (localAll a.acc a.next 0 a.next && sameF a (autE nk (numR nk a.next)))):=by
  unfold isM
  rw [decide_eq_true g1,decide_eq_true g2,decide_eq_true g3,decide_eq_true g4,decide_eq_true g5]
  simp
 rw [hI,hA,if_neg (by
  rintro (h | h | h | h | h)
  ·exact h g1
  ·exact h g2
  ·omega
  ·omega
  ·exact h g5)]
 clear hI hA
 have hrow2:∀ r ∈ a.next,r.length = 2 * nk ∧ ∀ t ∈ r,-1 ≤ t ∧ t < (a.next.length:Int):=fun r hr=>⟨by have:=(hrows r hr).1; omega,(hrows r hr).2⟩
 have hback:(a.next.map (·.map toO)).map (·.map ofO) = a.next:=by
  rw [List.map_map]
  conv=>rhs; rw [← List.map_id a.next]
  exact List.map_congr_left fun r hr=>row_toO fun t ht=>((hrow2 r hr).2 t ht).1
 have hlt:=graphL_lt (k:=nk) (fun r hr t ht=>((hrow2 r hr).2 t ht).2) (by omega)
 obtain ⟨res,hres⟩:=numE_some (k:=nk) hlt (a.next.length + 1) 0 [0] [] (by simp) (by simp; omega) (by simp) (by omega)
 have hnR:numR nk a.next = res:=by unfold numR; rw [hres]; rfl
 rw [hnR]
 -- the states' marks and letters
 by_cases hloc:∀ (i:Nat) (row:List Int),a.next[i]? = some row → localP a.acc a.next (0 + i) row
 case neg=>
  have h1:¬ ∃ r,scanR a.acc a.next 0 a.next 1 = some r:=fun ⟨r,hr⟩=>hloc ((scanR_iff a.next 0 1 r).1 hr).1
  have h2:scanR a.acc a.next 0 a.next 1 = none:=by
   cases h:scanR a.acc a.next 0 a.next 1 with
   | none=>rfl
   | some r=>exact absurd ⟨r,h⟩ h1
  rw [h2]
  rw [show (decide ((210:Int) = 0)) = false from rfl]
  by_cases g6:a.acc.getD 0 false = true
  ·have h3:localAll a.acc a.next 0 a.next = false:=by
    cases h:localAll a.acc a.next 0 a.next with
    | false=>rfl
    | true=>exact absurd (fun i row hi=>(localS_iff g6).1 ((localAll_iff a.next 0).1 h i row hi)) hloc
   rw [h3,Bool.false_and,Bool.and_false]
  ·rw [Bool.not_eq_true] at g6
   rw [g6,Bool.false_and]
 have g6:a.acc.getD 0 false = true:=(hloc 0 _ (List.getElem?_eq_getElem (by omega))).1
 have h3:localAll a.acc a.next 0 a.next = true:=(localAll_iff a.next 0).2 fun i row hi=>(localS_iff g6).2 (hloc i row hi)
 rw [g6,h3,Bool.true_and,Bool.true_and]
 have hstep:∀ v,v < a.next.length → rowE nk (graphL nk 0 a.next) v = (a.next.map (·.map toO)).getD v []:=fun v hv=>by
  have hrv:(a.next.map (·.map toO)).getD v [] = a.next[v].map toO:=by rw [getD_get (by simpa using hv)]; simp
  rw [hrv]
  have hlv:=(hrow2 _ (List.getElem_mem hv)).1
  apply List.ext_getElem (by rw [rowE_len]; simp [hlv])
  intro x h1 h2
  rw [rowE_len] at h1
  have:=rowE_get (k:=nk) (es:=graphL nk 0 a.next) (v:=v) h1
  rw [step_graph (by omega) hrow2 (fun i row hi=>by have:=(hloc i row hi).2.2; rw [Nat.zero_add] at this; exact this) hv h1] at this
  obtain ⟨h4,h5⟩:=List.getElem?_eq_some_iff.1 this
  rw [h5,List.getElem_map]
  unfold getN
  rw [getD_get hv,getD_get (by omega)]
 have hN:=num_iff (k:=nk) (n:=a.next.length) (es:=graphL nk 0 a.next) (R:=a.next.map (·.map toO)) (by simp) hstep (fun r hr t ht=>by
  obtain ⟨r',hr',rfl⟩:=List.mem_map.1 hr
  obtain ⟨u,hu,hut⟩:=List.mem_map.1 ht
  have:=(hrow2 r' hr').2 u hu
  unfold toO at hut
  split at hut
  ·cases hut
  ·cases hut; omega) (a.next.length + 1) 0 1 res (by omega) (by omega) (by simpa using hres)
 rw [List.drop_zero] at hN
 have hS:sameF a (autE nk res) = true ↔ res = a.next.map (·.map toO):=by
  unfold sameF autE
  rw [decide_eq_true_eq]
  constructor
  ·rintro ⟨_,_,_,h⟩
   have h:a.next = res.map (·.map ofO):=h
   rw [h,List.map_map]
   conv=>lhs; rw [← List.map_id res]
   refine List.map_congr_left fun r _=>?_
   simp only [Function.comp,List.map_map]
   conv=>lhs; rw [id,← List.map_id r]
   exact List.map_congr_left fun o _=>(toO_ofO o).symm
  ·intro h
   refine ⟨by rw [g2]; push_cast; rfl,g5,?_,?_⟩
   ·rw [h,List.length_map]
    apply List.ext_getElem (by simp [accF]; omega)
    intro i h1 h2
    have:=(hloc i _ (List.getElem?_eq_getElem (show i < a.next.length by omega))).1
    rw [Nat.zero_add,getD_get h1] at this
    rw [this]
    simp [accF]
   ·rw [h]; exact hback.symm
 cases hs:sameF a (autE nk res) with
 | true=>
  have h4:=hN.1 (hS.1 hs)
  have h5:=(scanR_iff (acc:=a.acc) (next:=a.next) a.next 0 1 a.next.length).2 ⟨hloc,h4⟩
  rw [h5]; simp
 | false=>
  cases h6:scanR a.acc a.next 0 a.next 1 with
  | none=>rfl
  | some r=>
   by_cases hr:r = a.next.length
   ·subst hr
    have:=hS.2 (hN.2 ((scanR_iff a.next 0 1 _).1 h6).2)
    rw [hs] at this; cases this
   ·simp [hr]
end Go.Proofs.YtffdjfkekdoeaaaDoor.Pl
end
section
set_option maxRecDepth 4000
set_option maxHeartbeats 2000000
namespace Go.Proofs.YtffdjfkekdoeaaaDoor.Pl
open Fw Wd Fo Rf
def L (x:Nat):UInt8:=UInt8.ofNat (letF (x:Int)).toNat
theorem L_other:∀ x:Fin 16,otherB (L x.val) = L (x.val ^^^ 1):=by decide
theorem L_inj:∀ x y:Fin 16,L x.val = L y.val → x = y:=by decide
theorem L_idx:∀ x:Fin 16,idxF (ofB (L x.val)) = (x.val:Int):=by decide
theorem letS_list (x:Nat):(letS (x:Int)).data.toList = [L x]:=rfl
theorem app_list (a b:ByteArray):(a ++ b).data.toList = a.data.toList ++ b.data.toList:=by
 rw [ByteArray.data_append,Array.toList_append]
theorem xor_xor:∀ x:Fin 16,(x.val ^^^ 1) ^^^ 1 = x.val ∧ x.val ^^^ 1 < 16:=by decide
def RedL (l:List UInt8):Prop:=redF l = l
theorem redF_snoc (l:List UInt8) (c:UInt8):redF (l ++ [c]) = redStep (redF l) c:=by simp [redF]
theorem RedL.snoc {l:List UInt8} {c:UInt8} (h:RedL l) (hc:l.getLast? ≠ some (otherB c)):RedL (l ++ [c]):=by
 unfold RedL at *
 rw [redF_snoc,h,redStep,if_neg hc]
theorem redF_len (l:List UInt8):(redF l).length ≤ l.length:=by have:=redFold_len l []; simpa [redF] using this
theorem RedL.inv {l:List UInt8} {c:UInt8} (h:RedL (l ++ [c])):RedL l ∧ l.getLast? ≠ some (otherB c):=by
 unfold RedL at *
 rw [redF_snoc,redStep] at h
 split at h
 ·exfalso
  have h1:=congrArg List.length h
  have h2:=redF_len l
  simp at h1
  omega
 ·rename_i hn
  have:=List.append_cancel_right h
  rw [this] at hn
  exact ⟨this,hn⟩
theorem RedL.nil:RedL []:=rfl
theorem otherB_otherB (c:UInt8):otherB (otherB c) = c:=by
 unfold otherB
 rw [UInt8.xor_assoc]; simp
def isEven (k:Int × Int):Bool:=k.2.toNat % 2 == 0
structure TreeW (m:Nat) (next:List (List Int)) (T:Tree):Prop where
 good:∀ p ∈ T.paths,∀ b ∈ p.data.toList,∃ x,x < 16 ∧ b = L x
 red:∀ p ∈ T.paths,RedL p.data.toList
 zero:T.paths.getD 0 ⟨#[]⟩ = ⟨#[]⟩
 last:∀ v,0 < v → v < T.seen → ∃ s x,x < 16 ∧ (T.paths.getD v ⟨#[]⟩).data.toList = (T.paths.getD s ⟨#[]⟩).data.toList ++ [L x] ∧ ((v:Int),((x ^^^ 1:Nat):Int)) ∈ T.keys
 keyw:∀ u y,(u,y) ∈ T.keys → ∃ (u' y' t':Nat),u = (u':Int) ∧ y = (y':Int) ∧ y' < m ∧ getN next u' y' = (t':Int) ∧ u' < T.seen ∧ t' < T.seen ∧ ((t':Int),((y' ^^^ 1:Nat):Int)) ∈ T.keys ∧ getN next t' (y' ^^^ 1) = (u':Int) ∧
  ((T.paths.getD t' ⟨#[]⟩).data.toList = (T.paths.getD u' ⟨#[]⟩).data.toList ++ [L y'] ∨ (T.paths.getD u' ⟨#[]⟩).data.toList = (T.paths.getD t' ⟨#[]⟩).data.toList ++ [L (y' ^^^ 1)])
 nodup:T.keys.Nodup
 evens:(T.keys.filter isEven).length + 1 = T.seen
theorem TreeW.start {m:Nat} {next:List (List Int)} (h:1 ≤ next.length):TreeW m next ⟨1,List.replicate next.length ⟨#[]⟩,[]⟩ where
 good:=fun p hp b hb=>by rw [List.eq_of_mem_replicate hp] at hb; simp at hb
 red:=fun p hp=>by rw [List.eq_of_mem_replicate hp]; exact RedL.nil
 zero:=by rw [getD_get (by rw [List.length_replicate]; exact h)]; simp
 last:=fun v h1 h2=>absurd h2 (by show ¬ v < 1; omega)
 keyw:=fun u y h=>by simp at h
 nodup:=List.nodup_nil
 evens:=rfl
theorem getD_set_ne {α:Type} {l:List α} {i j:Nat} {x d:α} (h:i ≠ j):(l.set i x).getD j d = l.getD j d:=by
 rw [List.getD_eq_getElem?_getD,List.getElem?_set_ne h,← List.getD_eq_getElem?_getD]
theorem getD_set_eq {α:Type} {l:List α} {i:Nat} {x d:α} (h:i < l.length):(l.set i x).getD i d = x:=by
 rw [List.getD_eq_getElem?_getD,List.getElem?_set_self h]; rfl
theorem even_xor:∀ x:Fin 16,((x.val % 2 == 0) = true ∧ ((x.val ^^^ 1) % 2 == 0) = false) ∨ ((x.val % 2 == 0) = false ∧ ((x.val ^^^ 1) % 2 == 0) = true):=by decide
theorem TreeW.step {m:Nat} (hm16:m ≤ 16) (hcl:∀ x,x < m → x ^^^ 1 < m) {next:List (List Int)} {T:Tree} (hW:TreeW m next T) (h:TreeOk next T) {s x:Nat} (hxm:x < m) (hs:s < T.seen) (ht:T.seen < next.length) (hx:getN next s x = (T.seen:Int)) (hb:getN next T.seen (x ^^^ 1) = (s:Int)) :
  TreeW m next ⟨T.seen + 1,T.paths.set T.seen (T.paths.getD s ⟨#[]⟩ ++ letS (x:Int)),T.keys ++ [((s:Int),(x:Int)),((T.seen:Int),((x ^^^ 1:Nat):Int))]⟩:=by
 have hx16:x < 16:=by omega
 have hpl:T.seen < T.paths.length:=by rw [h.len]; exact ht
 have hsl:s < T.paths.length:=by omega
 have hps:T.paths.getD s ⟨#[]⟩ ∈ T.paths:=by rw [getD_get hsl]; exact List.getElem_mem hsl
 have hnew:(T.paths.getD s ⟨#[]⟩ ++ letS (x:Int)).data.toList = (T.paths.getD s ⟨#[]⟩).data.toList ++ [L x]:=by rw [app_list,letS_list]
 obtain ⟨hxx,hx1⟩:=xor_xor ⟨x,hx16⟩
 dsimp only at hxx hx1
 have old:∀ v,v < T.seen → (T.paths.set T.seen (T.paths.getD s ⟨#[]⟩ ++ letS (x:Int))).getD v ⟨#[]⟩ = T.paths.getD v ⟨#[]⟩:=fun v hv=>getD_set_ne (by omega)
 have neu:(T.paths.set T.seen (T.paths.getD s ⟨#[]⟩ ++ letS (x:Int))).getD T.seen ⟨#[]⟩ = T.paths.getD s ⟨#[]⟩ ++ letS (x:Int):=getD_set_eq hpl
 have hredS:RedL ((T.paths.getD s ⟨#[]⟩).data.toList ++ [L x]):=by
  refine (hW.red _ hps).snoc fun hl=>?_
  by_cases hs0:s = 0
  ·subst hs0; rw [hW.zero] at hl; simp at hl
  ·obtain ⟨s',x',h1,h2,h3⟩:=hW.last s (by omega) hs
   rw [h2,List.getLast?_append,List.getLast?_singleton] at hl
   simp only [Option.some_or,Option.some.injEq] at hl
   rw [L_other ⟨x,hx16⟩] at hl
   have:=L_inj ⟨x',h1⟩ ⟨x ^^^ 1,hx1⟩ hl
   simp only [Fin.mk.injEq] at this
   subst this
   rw [hxx] at h3
   exact h.new1 hx h3
 refine ⟨fun p hp b hb=>?_,fun p hp=>?_,?_,fun v h1 h2=>?_,fun u y hm=>?_,?_,?_⟩
 ·rcases List.mem_or_eq_of_mem_set hp with hp | rfl
  ·exact hW.good p hp b hb
  ·rw [hnew] at hb
   rcases List.mem_append.1 hb with hb | hb
   ·exact hW.good _ hps b hb
   ·simp only [List.mem_singleton] at hb; exact ⟨x,hx16,hb⟩
 ·rcases List.mem_or_eq_of_mem_set hp with hp | rfl
  ·exact hW.red p hp
  ·rw [hnew]; exact hredS
 ·show (T.paths.set _ _).getD 0 _ = _
  rw [old 0 (by omega)]; exact hW.zero
 ·have h2:v < T.seen + 1:=h2
  by_cases hv:v < T.seen
  ·obtain ⟨s',x',q1,q2,q3⟩:=hW.last v h1 hv
   by_cases hs':s' < T.seen
   ·refine ⟨s',x',q1,?_,List.mem_append_left _ q3⟩
    show ((T.paths.set _ _).getD v _).data.toList = ((T.paths.set _ _).getD s' _).data.toList ++ _
    rw [old v hv,old s' hs']; exact q2
   · -- its parent is met already
    obtain ⟨u',y',t',p1,p2,p3,p4,p5,p6,p7,p8,p9⟩:=hW.keyw _ _ q3
    obtain rfl:v = u':=by omega
    obtain ⟨hyx,hy1⟩:=xor_xor ⟨y',Nat.lt_of_lt_of_le p3 hm16⟩
    dsimp only at hyx hy1
    rcases p9 with p9 | p9
    ·rw [q2] at p9
     have e1:(x' ^^^ 1) = y':=by omega
     refine ⟨s',x',q1,?_,List.mem_append_left _ q3⟩
     exfalso
     have h5:T.paths.getD s' ⟨#[]⟩ = ⟨#[]⟩ ∨ s' < T.paths.length:=by
      by_cases hl:s' < T.paths.length
      ·exact .inr hl
      ·exact .inl (by rw [List.getD_eq_getElem?_getD,List.getElem?_eq_none (by omega)]; rfl)
     have hmem:((T.paths.getD t' ⟨#[]⟩)) ∈ T.paths:=by rw [getD_get (show t' < T.paths.length by rw [h.len]; omega)]; exact List.getElem_mem _
     have hr:=hW.red _ hmem
     rw [p9] at hr
     have h6:=hr.inv.2
     rw [List.getLast?_append,List.getLast?_singleton] at h6
     apply h6
     rw [← e1,← L_other ⟨x',q1⟩,otherB_otherB]; rfl
    ·refine ⟨t',x',q1,?_,List.mem_append_left _ q3⟩
     show ((T.paths.set _ _).getD v _).data.toList = ((T.paths.set _ _).getD t' _).data.toList ++ _
     rw [old v hv,old t' p6,p9]
     have e1:(x' ^^^ 1) = y':=by omega
     obtain ⟨hxx',_⟩:=xor_xor ⟨x',q1⟩
     dsimp only at hxx'
     rw [← e1,hxx']
  ·obtain rfl:v = T.seen:=by omega
   refine ⟨s,x,hx16,?_,List.mem_append_right _ (by simp)⟩
   show ((T.paths.set _ _).getD T.seen _).data.toList = ((T.paths.set _ _).getD s _).data.toList ++ _
   rw [neu,old s hs,hnew]
 ·rcases List.mem_append.1 hm with hm | hm
  ·obtain ⟨u',y',t',p1,p2,p3,p4,p5,p6,p7,p8,p9⟩:=hW.keyw u y hm
   refine ⟨u',y',t',p1,p2,p3,p4,by show u' < T.seen + 1; omega,by show t' < T.seen + 1; omega,List.mem_append_left _ p7,p8,?_⟩
   show ((T.paths.set _ _).getD t' _).data.toList = ((T.paths.set _ _).getD u' _).data.toList ++ _ ∨ ((T.paths.set _ _).getD u' _).data.toList = ((T.paths.set _ _).getD t' _).data.toList ++ _
   rw [old u' p5,old t' p6]; exact p9
  ·simp only [List.mem_cons,Prod.mk.injEq,List.not_mem_nil,or_false] at hm
   rcases hm with ⟨rfl,rfl⟩ | ⟨rfl,rfl⟩
   ·refine ⟨s,x,T.seen,rfl,rfl,hxm,hx,by show s < T.seen + 1; omega,by show T.seen < T.seen + 1; omega,List.mem_append_right _ (by simp),hb,.inl ?_⟩
    show ((T.paths.set _ _).getD T.seen _).data.toList = ((T.paths.set _ _).getD s _).data.toList ++ _
    rw [neu,old s hs,hnew]
   ·refine ⟨T.seen,x ^^^ 1,s,rfl,rfl,hcl x hxm,hb,by show T.seen < T.seen + 1; omega,by show s < T.seen + 1; omega,List.mem_append_right _ (by rw [hxx]; simp),by rw [hxx]; exact hx,.inr ?_⟩
    show ((T.paths.set _ _).getD T.seen _).data.toList = ((T.paths.set _ _).getD s _).data.toList ++ _
    rw [neu,old s hs,hnew,hxx]
 ·rw [List.nodup_append]
  refine ⟨hW.nodup,?_,fun a ha b hb'=>?_⟩
  ·simp; omega
  ·simp only [List.mem_cons,List.not_mem_nil,or_false] at hb'
   rcases hb' with rfl | rfl
   ·exact fun he=>h.new1 hx (he ▸ ha)
   ·intro he
    subst he
    have:=(h.keys _ _ ha).2.1; omega
 ·show ((T.keys ++ [_,_]).filter isEven).length + 1 = T.seen + 1
  rw [List.filter_append,List.length_append]
  have:=hW.evens
  rcases even_xor ⟨x,hx16⟩ with ⟨q1,q2⟩ | ⟨q1,q2⟩ <;> simp [List.filter_cons,isEven,q1,q2] <;> omega
theorem treeE_ok {m:Nat} (hm16:m ≤ 16) (hcl:∀ x,x < m → x ^^^ 1 < m) {next:List (List Int)} {s:Nat}:∀ (l:List (Int × Int × Unit)) (T:Tree) (r:Nat),(∀ x t u,(x,t,u) ∈ l → 0 ≤ x ∧ x < (m:Int) ∧ 0 ≤ t ∧ t < (next.length:Int) ∧ getN next s x.toNat = t) → TreeOk next T → TreeW m next T → s < T.seen → scanE next s l T.seen = some r →
  TreeOk next (treeE s l T) ∧ TreeW m next (treeE s l T) ∧ (treeE s l T).seen = r ∧ T.seen ≤ r
 | [],T,r,_,h1,h2,_,hs=>by simp only [scanE,Option.some.injEq] at hs; subst hs; exact ⟨h1,h2,rfl,Nat.le_refl _⟩
 | (x,t,u) :: l,T,r,hl,h1,h2,hsT,hs=>by
  obtain ⟨a1,a2,a3,a4,a5⟩:=hl x t u (by simp)
  obtain ⟨nx,rfl⟩:=Int.eq_ofNat_of_zero_le a1
  obtain ⟨nt,rfl⟩:=Int.eq_ofNat_of_zero_le a3
  simp only [scanE] at hs
  split at hs
  ·cases hs
  rename_i hc
  have hb:getN next nt (nx ^^^ 1) = (s:Int):=by
   by_cases hh:(next.getD ((nt:Int)).toNat []).getD (((nx:Int)).toNat ^^^ 1) 0 = (s:Int)
   ·exact hh
   ·exact absurd (.inl hh) hc
  have hl':∀ x t u,(x,t,u) ∈ l → 0 ≤ x ∧ x < (m:Int) ∧ 0 ≤ t ∧ t < (next.length:Int) ∧ getN next s x.toNat = t:=fun x t u hm=>hl x t u (by simp [hm])
  simp only [treeE]
  by_cases he:(nt:Int) = (T.seen:Int)
  ·obtain rfl:nt = T.seen:=by omega
   rw [if_pos rfl] at hs ⊢
   have h5:getN next s nx = (T.seen:Int):=a5
   have:=treeE_ok hm16 hcl l _ r hl' (h1.step hsT (by omega) h5 hb) (h2.step hm16 hcl h1 (by omega) hsT (by omega) h5 hb) (by show s < T.seen + 1; omega) hs
   refine ⟨this.1,this.2.1,this.2.2.1,?_⟩
   have:=this.2.2.2
   have:T.seen + 1 ≤ r:=this
   omega
  ·rw [if_neg he] at hs ⊢
   exact treeE_ok hm16 hcl l T r hl' h1 h2 hsT hs
theorem treeR_ok {m:Nat} (hm16:m ≤ 16) (hcl:∀ x,x < m → x ^^^ 1 < m) {acc:List Bool} {next:List (List Int)} (hrow:∀ r ∈ next,r.length = m ∧ ∀ t ∈ r,-1 ≤ t ∧ t < (next.length:Int)):∀ (l:List (List Int)) (s:Nat) (T:Tree) (r:Nat),l = next.drop s → TreeOk next T → TreeW m next T → scanR acc next s l T.seen = some r →
  TreeOk next (treeR s l T) ∧ TreeW m next (treeR s l T) ∧ (treeR s l T).seen = r
 | [],s,T,r,_,h1,h2,hs=>by simp only [scanR,Option.some.injEq] at hs; subst hs; exact ⟨h1,h2,rfl⟩
 | row :: l,s,T,r,hl,h1,h2,hs=>by
  have hsn:s < next.length:=by
   by_cases hh:s < next.length
   ·exact hh
   ·rw [List.drop_eq_nil_of_le (by omega)] at hl; cases hl
  have hd:next.drop s = next[s] :: next.drop (s + 1):=List.drop_eq_getElem_cons hsn
  rw [hd] at hl
  simp only [List.cons.injEq] at hl
  obtain ⟨hr,hl⟩:=hl
  have hm:=hrow row (by rw [hr]; exact List.getElem_mem hsn)
  simp only [scanR] at hs
  split at hs
  ·cases hs
  rename_i hc
  split at hs
  ·cases hs
  rename_i seen' hE
  have hsT:s < T.seen:=by
   by_cases hh:T.seen ≤ s
   ·exact absurd (.inr (.inr hh)) hc
   ·omega
  obtain ⟨p1,p2,p3,p4⟩:=treeE_ok hm16 hcl (edgesFrom 0 row) T seen' (fun x t u hx=>by
   obtain ⟨e1,e2,e3,e4⟩:=edges_mem row 0 x t u hx
   obtain ⟨e5,_⟩:=edges_val row 0 x t u hx
   have:=hm.2 t e2
   have hml:=hm.1
   refine ⟨e3,by omega,e1,this.2,?_⟩
   unfold getN; rw [getD_get hsn,← hr]; simpa using e5) h1 h2 hsT hE
  simp only [treeR]
  exact treeR_ok hm16 hcl hrow l (s + 1) _ r hl p1 p2 (by rw [p3]; exact hs)
theorem tree_ok {k:Int} (hk:k ≤ 8) {a:Aut} (hc:a.check k = 0):TreeOk a.next (treeF a.next) ∧ TreeW (2 * k.toNat) a.next (treeF a.next) ∧ (treeF a.next).seen = a.next.length:=by
 obtain ⟨_,_,h1,_,_,hs,hr⟩:=check_spec hc
 exact treeR_ok (m:=2 * k.toNat) (by omega) (fun x hx=>xor_even (by omega) hx) (acc:=a.acc) (fun r hm=>⟨by have:=(hr r hm).1; omega,(hr r hm).2⟩) a.next 0 _ _ rfl (TreeOk.start h1) (TreeW.start h1) hs
end Go.Proofs.YtffdjfkekdoeaaaDoor.Pl
end
section
set_option maxRecDepth 4000
set_option maxHeartbeats 2000000
namespace Go.Proofs.YtffdjfkekdoeaaaDoor.Pl
open Fw Wd Fo Rf
theorem L_bad:∀ x:Fin 16,badF 8 ((L x.val).toNat:Int) = false:=by decide
def Good (l:List UInt8):Prop:=∀ b ∈ l,∃ x,x < 16 ∧ b = L x
theorem Good.inv {l:List UInt8} (h:Good l):Good (invF l):=fun b hb=>by
 unfold invF at hb
 rw [List.mem_reverse] at hb
 obtain ⟨c,hc,rfl⟩:=List.mem_map.1 hb
 obtain ⟨x,hx,rfl⟩:=h c hc
 exact ⟨x ^^^ 1,(xor_xor ⟨x,hx⟩).2,L_other ⟨x,hx⟩⟩
theorem Good.app {a b:List UInt8} (h:Good a) (h':Good b):Good (a ++ b):=fun c hc=>(List.mem_append.1 hc).elim (h c) (h' c)
theorem check_good {s:ByteArray} (h:Good s.data.toList) (hs:s.size ≤ 100000):checkF 8 s = 0:=by
 unfold checkF
 rw [if_neg (by omega),if_neg (by omega),if_neg]
 unfold hasBad
 rw [Bool.not_eq_true,List.any_eq_false]
 intro b hb
 obtain ⟨x,hx,rfl⟩:=h b hb
 rw [L_bad ⟨x,hx⟩]; simp
theorem size_list (s:ByteArray):s.size = s.data.toList.length:=by
 show s.data.size = _
 rw [Array.length_toList]
theorem back_of {k:Int} {a:Aut} (hc:a.check k = 0) {s x:Nat} (hs:s < a.next.length) (hx:x < 2 * k.toNat) (hp:0 ≤ getN a.next s x):getN a.next (getN a.next s x).toNat (x ^^^ 1) = (s:Int):=by
 obtain ⟨_,_,_,_,_,hsc,hrows⟩:=check_spec hc
 have hl:=((scanR_iff a.next 0 1 _).1 hsc).1 s a.next[s] (List.getElem?_eq_getElem hs)
 rw [Nat.zero_add] at hl
 have hr:=hl.2.2
 have hlen:=(hrows _ (List.getElem_mem hs)).1
 have hg:getN a.next s x = a.next[s].getD x 0:=by unfold getN; rw [getD_get hs]
 rw [hg] at hp ⊢
 have:=edges_of a.next[s] 0 x (by omega) hp
 have:=List.all_eq_true.1 hr _ this
 simpa using this
theorem path_mem {T:Tree} {s:Nat} (h:s < T.paths.length):T.paths.getD s ⟨#[]⟩ ∈ T.paths:=by rw [getD_get h]; exact List.getElem_mem h
end Go.Proofs.YtffdjfkekdoeaaaDoor.Pl
end
section
set_option maxRecDepth 4000
set_option maxHeartbeats 2000000
namespace Go.Proofs.YtffdjfkekdoeaaaDoor.Pl
open Fo Rf Wd
def Rd:List Nat → Prop
 | x :: y :: l=>y ≠ x ^^^ 1 ∧ Rd (y :: l)
 | _=>True
theorem Rd_snoc:∀ (l:List Nat) (x:Nat),Rd l → (∀ y,l.getLast? = some y → x ≠ y ^^^ 1) → Rd (l ++ [x])
 | [],x,_,_=>trivial
 | [a],x,_,h=>⟨h a rfl,trivial⟩
 | a :: b :: l,x,h,hx=>⟨h.1,Rd_snoc (b :: l) x h.2 fun y hy=>hx y (by rw [List.getLast?_cons_cons]; exact hy)⟩
theorem red_snoc {l:List UInt8} (h:RedL l) (c:UInt8):RedL (redStep l c):=by
 unfold redStep
 split
 ·rename_i hl
  rcases List.eq_nil_or_concat l with rfl | ⟨q,d,rfl⟩
  ·exact RedL.nil
  ·rw [List.concat_eq_append] at h ⊢
   rw [List.dropLast_concat]
   exact (RedL.inv h).1
 ·rename_i hl
  exact RedL.snoc h hl
theorem red_fold:∀ (l out:List UInt8),RedL out → RedL (l.foldl redStep out)
 | [],out,h=>h
 | c :: l,out,h=>red_fold l _ (red_snoc h c)
theorem redF_red (l:List UInt8):RedL (redF l):=red_fold l [] RedL.nil
end Go.Proofs.YtffdjfkekdoeaaaDoor.Pl
end
section
set_option maxRecDepth 4000
set_option maxHeartbeats 2000000
namespace Go.Proofs.YtffdjfkekdoeaaaDoor.Pl
open Fo Rf Wd
theorem idxOf_map {φ:Nat → Nat} {P:Nat → Prop} (inj:∀ u v,P u → P v → φ u = φ v → u = v):∀ (q:List Nat) (t:Nat),(∀ v ∈ q,P v) → P t → (q.map φ).idxOf (φ t) = q.idxOf t
 | [],t,_,_=>rfl
 | v :: l,t,hq,ht=>by
  rw [List.map_cons,List.idxOf_cons,List.idxOf_cons,idxOf_map inj l t (fun u hu=>hq u (by simp [hu])) ht]
  by_cases h:v = t
  ·subst h; simp
  ·have:φ v ≠ φ t:=fun he=>h (inj _ _ (hq v (by simp)) ht he)
   rw [show (φ v == φ t) = false by simpa using this,show (v == t) = false by simpa using h]
theorem bfsRow_map {φ:Nat → Nat} {P:Nat → Prop} (inj:∀ u v,P u → P v → φ u = φ v → u = v):∀ (row:Row) (q:List Nat),(∀ t,some t ∈ row → P t) → (∀ v ∈ q,P v) →
  bfsRow (row.map (Option.map φ)) (q.map φ) = ((bfsRow row q).1.map φ,(bfsRow row q).2) ∧ ∀ v ∈ (bfsRow row q).1,P v
 | [],q,_,hq=>⟨rfl,hq⟩
 | none :: l,q,hr,hq=>by
  obtain ⟨h1,h2⟩:=bfsRow_map inj l q (fun t ht=>hr t (by simp [ht])) hq
  simp only [List.map_cons,Option.map_none,bfsRow]
  rw [h1]
  exact ⟨rfl,h2⟩
 | some t :: l,q,hr,hq=>by
  have ht:=hr t (by simp)
  have hmem:φ t ∈ q.map φ ↔ t ∈ q:=by
   constructor
   ·intro h
    obtain ⟨v,hv,he⟩:=List.mem_map.1 h
    rw [← inj v t (hq v hv) ht he]; exact hv
   ·exact List.mem_map_of_mem
  simp only [List.map_cons,Option.map_some,bfsRow]
  by_cases h:t ∈ q
  ·obtain ⟨h1,h2⟩:=bfsRow_map inj l q (fun t ht=>hr t (by simp [ht])) hq
   rw [if_pos h,if_pos (hmem.2 h),h1,idxOf_map inj q t hq ht]
   exact ⟨rfl,h2⟩
  ·have hq':∀ v ∈ q ++ [t],P v:=fun v hv=>by
    rcases List.mem_append.1 hv with hv | hv
    ·exact hq v hv
    ·simp only [List.mem_singleton] at hv; subst hv; exact ht
   obtain ⟨h1,h2⟩:=bfsRow_map inj l (q ++ [t]) (fun t ht=>hr t (by simp [ht])) hq'
   rw [if_neg h,if_neg (fun hh=>h (hmem.1 hh)),List.length_map]
   rw [List.map_append] at h1
   simp only [List.map_cons,List.map_nil] at h1
   rw [h1]
   exact ⟨rfl,h2⟩
theorem num_map {φ:Nat → Nat} {P:Nat → Prop} (inj:∀ u v,P u → P v → φ u = φ v → u = v) {k:Nat} {es:List Ed} {ρ:Nat → Row} (hρ:∀ v,P v → rowE k es (φ v) = (ρ v).map (Option.map φ)) (hP:∀ v,P v → ∀ t,some t ∈ ρ v → P t) :
  ∀ (K i:Nat) (q:List Nat) (out:List Row),(∀ v ∈ q,P v) → numE k es K i (q.map φ) out = numG ρ K i q out
 | 0,_,_,_,_=>rfl
 | K + 1,i,q,out,hq=>by
  simp only [numE,numG,List.getElem?_map]
  cases hv:q[i]? with
  | none=>rfl
  | some v=>
   have hpv:=hq v (List.mem_of_getElem? hv)
   obtain ⟨h1,h2⟩:=bfsRow_map inj (ρ v) q (hP v hpv) hq
   simp only [Option.map_some]
   rw [hρ v hpv,h1]
   exact num_map inj hρ hP K (i + 1) _ _ h2
section
variable {E:List Edg} {st:St} {es0 es1 es2:List Ed} {r:Nat → Nat} {rows':List (Option Row)} {k:Nat} {o:Option (List Row)}
end
end Go.Proofs.YtffdjfkekdoeaaaDoor.Pl
end
section
set_option maxRecDepth 8000
set_option maxHeartbeats 4000000
namespace Go.Proofs.YtffdjfkekdoeaaaDoor.Fo
open Fw Wd Rf Pl
def autR (res:FoldR):Aut × Int:=match res with
 | .ok m nexts=>(autOf m nexts,0)
 | .err c=>(⟨0,0,[],[]⟩,c)
theorem bfsRow_length:∀ (row:Row) (q:List Nat),(bfsRow row q).2.length = row.length
 | [],q=>rfl
 | none :: l,q=>by simp only [bfsRow,List.length_cons,bfsRow_length l q]
 | some t :: l,q=>by
  simp only [bfsRow]
  split
  ·simp only [List.length_cons,bfsRow_length l q]
  ·simp only [List.length_cons,bfsRow_length l (q ++ [t])]
theorem numG_rows {ρ:Nat → Row} {m:Nat} (hρ:∀ v,(ρ v).length ≤ m):∀ (K i:Nat) (q:List Nat) (out res:List Row),(∀ r ∈ out,r.length ≤ m) → numG ρ K i q out = some res → ∀ r ∈ res,r.length ≤ m
 | 0,_,_,_,_,_,h=>by simp [numG] at h
 | K + 1,i,q,out,res,ho,h=>by
  simp only [numG] at h
  split at h
  ·cases h; exact ho
  ·rename_i v hv
   refine numG_rows hρ K _ _ _ res (fun r hr=>?_) h
   rcases List.mem_append.1 hr with hr | hr
   ·exact ho r hr
   ·simp only [List.mem_singleton] at hr
    subst hr
    rw [bfsRow_length]; exact hρ v
theorem folded_len {k:Int} {gens:List ByteArray} {res:FoldR} (h:FoldIs k gens res):∀ m nexts,res = .ok m nexts → nexts.length ≤ 2000 ∧ ∀ r ∈ nexts,r.length ≤ 16:=by
 intro m nexts he
 cases h with
 | arg _=>cases he
 | limit _ _=>cases he
 | form _ _ _=>cases he
 | fit hf hh=>
  obtain ⟨st,rows',o,i1,i2,i3,i4,ho⟩:=hh.ok
  rw [he] at ho
  cases hoo:o with
  | none=>rw [hoo] at ho; cases ho
  | some nx=>
   rw [hoo] at ho
   cases ho
   obtain ⟨⟨K,h1⟩,h2⟩:=i4.yes _ hoo
   have:=hf.k8
   refine ⟨h2,fun r hr=>?_⟩
   have:=numG_rows (m:=2 * k.toNat) (fun v=>?_) K 0 _ [] _ (by simp) h1 r hr
   ·omega
   ·unfold rowOf
    split
    ·rename_i row hrow
     exact Nat.le_of_eq (i4.wf.len _ _ hrow)
    ·simp
theorem autIn_zero (w:World):AutIn w ((0:Int),(0:Int),(⟨none,0,0⟩:Sl),(⟨none,0,0⟩:Sl),()) ⟨0,0,[],[]⟩:=
 ⟨rfl,rfl,⟨RdT.nil _ _ _ _,fun _ _=>Nat.zero_le _,fun _ _=>Nat.zero_le _,[],RdT.nil _ _ _ _,rfl,fun i s r hi=>by simp at hi,fun _ _ _ _=>Nat.zero_le _⟩,Nat.zero_le _,Nat.zero_le _,fun r hr=>by simp at hr⟩
theorem autIn_of {w:World} {sa sn:Sl} {m:Nat} {nexts:List Row} {B:Nat} (h:AutR B w sa sn (accF nexts.length) (nexts.map (·.map ofO))) (h1:nexts.length ≤ 2000) (h2:∀ r ∈ nexts,r.length ≤ 16):AutIn w ((m:Int),(0:Int),sa,sn,()) (autOf m nexts):=
 ⟨rfl,rfl,h.mono (Nat.zero_le _),by
  show (accF nexts.length).length ≤ maxLen
  rw [accF,List.length_map,List.length_range]; have:maxLen = 9223372036854775807:=rfl; omega,by
  show (nexts.map (·.map ofO)).length ≤ maxLen
  rw [List.length_map]; have:maxLen = 9223372036854775807:=rfl; omega,fun r hr=>by
  obtain ⟨r',hr',rfl⟩:=List.mem_map.1 hr
  rw [List.length_map]; have:=h2 r' hr'; have:maxLen = 9223372036854775807:=rfl; omega⟩
theorem Fold_any {w:World} (hl:Laid w) {sl:Sl} {gens:List ByteArray} (hg:StrsIn w sl gens) {k:Int} {res:FoldR} (hi:FoldIs k gens res) (hf:∃ K,FoldF K k gens = some res) :
  RetN Tryd.prog 12 #[.int .i64 k,sl.v] [tA,tI] w fun y w'=>Chg Nil w w' ∧ AutIn w' y.1 (autR res).1 ∧ y.2.1 = (autR res).2:=by
 obtain ⟨K,hf⟩:=hf
 refine Calls.mono (Fold_ret hl hg.rd hg.sum hg.len hf) fun e w' he=>?_
 obtain ⟨hc,he⟩:=he
 cases res with
 | ok m nexts=>
  obtain ⟨sa,sn,rfl,hA⟩:=he
  obtain ⟨h1,h2⟩:=folded_len hi m nexts rfl
  exact ⟨(((m:Int),0,sa,sn,()),0,()),rfl,hc,autIn_of hA h1 h2,rfl⟩
 | err c=>
  subst he
  exact ⟨((0,0,⟨none,0,0⟩,⟨none,0,0⟩,()),c,()),rfl,hc,autIn_zero w',rfl⟩
end Go.Proofs.YtffdjfkekdoeaaaDoor.Fo
end
section
set_option maxRecDepth 4000
set_option maxHeartbeats 2000000
namespace Go.Proofs.YtffdjfkekdoeaaaDoor.Pl
open Fo Rf Wd
def rdS (out:List Nat) (x:Nat):List Nat:=if out.getLast? = some (x ^^^ 1) then out.dropLast else out ++ [x]
def act (X l:List Nat):List Nat:=l.foldl rdS X
def rd (l:List Nat):List Nat:=act [] l
def inv (l:List Nat):List Nat:=(l.map (· ^^^ 1)).reverse
theorem act_app (X a b:List Nat):act X (a ++ b) = act (act X a) b:=List.foldl_append ..
theorem Rd.unsnoc:∀ {l:List Nat} {x:Nat},Rd (l ++ [x]) → Rd l ∧ l.getLast? ≠ some (x ^^^ 1)
 | [],x,_=>⟨trivial,by simp⟩
 | [a],x,h=>⟨trivial,fun he=>by
  have h:x ≠ a ^^^ 1 ∧ True:=h
  simp only [List.getLast?_singleton,Option.some.injEq] at he
  exact h.1 (by rw [he,xor_two])⟩
 | a :: b :: l,x,h=>by
  have h:b ≠ a ^^^ 1 ∧ Rd (b :: l ++ [x]):=h
  obtain ⟨h1,h2⟩:=Rd.unsnoc h.2
  exact ⟨⟨h.1,h1⟩,by rw [List.getLast?_cons_cons]; exact h2⟩
theorem Rd.snoc {l:List Nat} {x:Nat} (h:Rd l) (hx:l.getLast? ≠ some (x ^^^ 1)):Rd (l ++ [x]):=
 Rd_snoc l x h fun y hy he=>hx (by rw [hy,he,xor_two])
theorem rdS_rd {X:List Nat} (h:Rd X) (x:Nat):Rd (rdS X x):=by
 unfold rdS
 split
 ·rcases List.eq_nil_or_concat X with rfl | ⟨q,d,rfl⟩
  ·exact h
  ·rw [List.concat_eq_append] at h ⊢
   rw [List.dropLast_concat]
   exact (Rd.unsnoc h).1
 ·rename_i hx
  exact h.snoc hx
theorem act_rd {X:List Nat} (h:Rd X):∀ l:List Nat,Rd (act X l):=by
 intro l
 induction l generalizing X with
 | nil=>exact h
 | cons x l ih=>exact ih (rdS_rd h x)
theorem rdS_two {X:List Nat} (h:Rd X) (x:Nat):rdS (rdS X x) (x ^^^ 1) = X:=by
 unfold rdS
 by_cases hx:X.getLast? = some (x ^^^ 1)
 ·rw [if_pos hx]
  rcases List.eq_nil_or_concat X with rfl | ⟨q,d,rfl⟩
  ·simp at hx
  ·rw [List.concat_eq_append] at h hx ⊢
   rw [List.dropLast_concat]
   simp only [List.getLast?_append,List.getLast?_singleton,Option.some_or,Option.some.injEq] at hx
   subst hx
   have:=(Rd.unsnoc h).2
   rw [if_neg this]
 ·rw [if_neg hx,if_pos (by rw [List.getLast?_append,xor_two]; rfl),List.dropLast_concat]
theorem rd_self:∀ (n:Nat) (l:List Nat),l.length = n → Rd l → rd l = l:=by
 intro n
 induction n with
 | zero=>intro l hl _; rw [List.length_eq_zero_iff.1 hl]; rfl
 | succ n ih=>
  intro l hl h
  rcases List.eq_nil_or_concat l with rfl | ⟨q,c,rfl⟩
  ·rfl
  ·rw [List.concat_eq_append] at *
   obtain ⟨h1,h2⟩:=Rd.unsnoc h
   show act [] (q ++ [c]) = _
   rw [act_app]
   have:act [] q = q:=ih q (by simpa using hl) h1
   rw [this]
   show rdS q c = _
   unfold rdS
   rw [if_neg h2]
theorem Rd.self {l:List Nat} (h:Rd l):rd l = l:=rd_self _ l rfl h
def Same (a b:List Nat):Prop:=∀ X,Rd X → act X a = act X b
theorem Same.refl (a:List Nat):Same a a:=fun _ _=>rfl
theorem Same.symm {a b:List Nat} (h:Same a b):Same b a:=fun X hX=>(h X hX).symm
theorem Same.trans {a b c:List Nat} (h:Same a b) (k:Same b c):Same a c:=fun X hX=>(h X hX).trans (k X hX)
theorem Same.app {a b c d:List Nat} (h:Same a b) (k:Same c d):Same (a ++ c) (b ++ d):=fun X hX=>by
 rw [act_app,act_app,h X hX,k _ (act_rd hX b)]
theorem same_pair (x:Nat):Same [x,x ^^^ 1] []:=fun X hX=>rdS_two hX x
theorem same_pair' (x:Nat):Same [x ^^^ 1,x] []:=by
 have:=same_pair (x ^^^ 1)
 rwa [xor_two] at this
theorem same_rdS (X:List Nat) (x:Nat):Same (rdS X x) (X ++ [x]):=by
 unfold rdS
 split
 ·rename_i hx
  rcases List.eq_nil_or_concat X with rfl | ⟨q,d,rfl⟩
  ·simp at hx
  ·rw [List.concat_eq_append] at hx ⊢
   rw [List.dropLast_concat]
   simp only [List.getLast?_append,List.getLast?_singleton,Option.some_or,Option.some.injEq] at hx
   subst hx
   rw [List.append_assoc]
   have:=(Same.refl q).app (same_pair' x)
   rw [List.append_nil] at this
   exact this.symm
 ·exact Same.refl _
theorem same_act:∀ (l X:List Nat),Same (act X l) (X ++ l)
 | [],X=>by rw [List.append_nil]; exact Same.refl _
 | x :: l,X=>by
  have h1:=same_act l (rdS X x)
  have h2:=(same_rdS X x).app (Same.refl l)
  rw [List.append_assoc] at h2
  exact h1.trans h2
theorem same_rd (l:List Nat):Same (rd l) l:=same_act l []
theorem Same.rd_eq {a b:List Nat} (h:Same a b):rd a = rd b:=h [] trivial
theorem inv_app (a b:List Nat):inv (a ++ b) = inv b ++ inv a:=by simp [inv]
theorem inv_cons (x:Nat) (a:List Nat):inv (x :: a) = inv a ++ [x ^^^ 1]:=by simp [inv]
theorem inv_inv (a:List Nat):inv (inv a) = a:=by
 unfold inv
 rw [List.map_reverse,List.reverse_reverse,List.map_map]
 conv=>rhs; rw [← List.map_id a]
 exact List.map_congr_left fun x _=>xor_two x
theorem same_inv:∀ a:List Nat,Same (a ++ inv a) []
 | []=>Same.refl _
 | x :: a=>by
  rw [inv_cons]
  have h1:x :: a ++ (inv a ++ [x ^^^ 1]) = [x] ++ (a ++ inv a) ++ [x ^^^ 1]:=by simp
  rw [h1]
  have h2:=((Same.refl [x]).app (same_inv a)).app (Same.refl [x ^^^ 1])
  exact h2.trans (same_pair x)
theorem same_inv' (a:List Nat):Same (inv a ++ a) []:=by
 have:=same_inv (inv a)
 rwa [inv_inv] at this
theorem Same.inv {a b:List Nat} (h:Same a b):Same (Pl.inv a) (Pl.inv b):=by
 have h1:Same (Pl.inv a ++ (b ++ Pl.inv b)) (Pl.inv a ++ []):=(Same.refl _).app (same_inv b)
 have h2:Same (Pl.inv a ++ a ++ Pl.inv b) (Pl.inv a ++ b ++ Pl.inv b):=((Same.refl _).app h).app (Same.refl _)
 have h3:Same (Pl.inv a ++ a ++ Pl.inv b) ([] ++ Pl.inv b):=(same_inv' a).app (Same.refl _)
 rw [List.append_nil,← List.append_assoc] at h1
 rw [List.nil_append] at h3
 exact (h1.symm.trans h2.symm).trans h3
inductive Mem (gs:List (List Nat)):List Nat → Prop
 | one:Mem gs []
 | gen {g:List Nat}:g ∈ gs → Mem gs g
 | mul {a b:List Nat}:Mem gs a → Mem gs b → Mem gs (a ++ b)
 | neg {a:List Nat}:Mem gs a → Mem gs (inv a)
 | same {a b:List Nat}:Mem gs a → Same a b → Mem gs b
inductive Run (δ:Nat → Nat → Nat → Prop):Nat → List Nat → Nat → Prop
 | nil (s:Nat):Run δ s [] s
 | cons {s x u t:Nat} {l:List Nat}:δ s x u → Run δ u l t → Run δ s (x :: l) t
structure Aut' (δ:Nat → Nat → Nat → Prop):Prop where
 det:∀ s x t t',δ s x t → δ s x t' → t = t'
 inv:∀ s x t,δ s x t → δ t (x ^^^ 1) s
section
variable {δ:Nat → Nat → Nat → Prop}
theorem Run.app {s u t:Nat} {a b:List Nat} (h:Run δ s a u) (k:Run δ u b t):Run δ s (a ++ b) t:=by
 induction h with
 | nil _=>exact k
 | cons h _ ih=>exact .cons h (ih k)
theorem Run.split:∀ {a:List Nat} {s t:Nat} {b:List Nat},Run δ s (a ++ b) t → ∃ u,Run δ s a u ∧ Run δ u b t
 | [],s,t,b,h=>⟨s,.nil s,h⟩
 | x :: a,s,t,b,h=>by
  cases h with
  | cons h1 h2=>
   obtain ⟨u,h3,h4⟩:=Run.split h2
   exact ⟨u,.cons h1 h3,h4⟩
theorem Run.one {s x t:Nat} (h:δ s x t):Run δ s [x] t:=.cons h (.nil t)
theorem Run.of_one {s x t:Nat} (h:Run δ s [x] t):δ s x t:=by
 cases h with
 | cons h1 h2=>cases h2; exact h1
theorem Run.back (hA:Aut' δ) {s t:Nat} {a:List Nat} (h:Run δ s a t):Run δ t (inv a) s:=by
 induction h with
 | nil s=>exact .nil s
 | cons h1 _ ih=>
  rw [inv_cons]
  exact ih.app (.one (hA.inv _ _ _ h1))
theorem Run.rdS (hA:Aut' δ) {s u t x:Nat} {X:List Nat} (h:Run δ s X u) (k:δ u x t):Run δ s (rdS X x) t:=by
 unfold Pl.rdS
 split
 ·rename_i hx
  rcases List.eq_nil_or_concat X with rfl | ⟨q,d,rfl⟩
  ·simp at hx
  ·rw [List.concat_eq_append] at hx h ⊢
   rw [List.dropLast_concat]
   simp only [List.getLast?_append,List.getLast?_singleton,Option.some_or,Option.some.injEq] at hx
   subst hx
   obtain ⟨v,h1,h2⟩:=h.split
   have h3:=hA.inv _ _ _ h2.of_one
   rw [xor_two] at h3
   have:=hA.det _ _ _ _ h3 k
   subst this
   exact h1
 ·exact h.app (.one k)
theorem Run.act (hA:Aut' δ):∀ (l:List Nat) {s u t:Nat} {X:List Nat},Run δ s X u → Run δ u l t → Run δ s (act X l) t
 | [],s,u,t,X,h,k=>by cases k; exact h
 | x :: l,s,u,t,X,h,k=>by
  cases k with
  | cons k1 k2=>exact Run.act hA l (h.rdS hA k1) k2
theorem Run.rd (hA:Aut' δ) {s t:Nat} {l:List Nat} (h:Run δ s l t):Run δ s (rd l) t:=Run.act hA l (.nil s) h
end
end Go.Proofs.YtffdjfkekdoeaaaDoor.Pl
end
section
set_option maxRecDepth 4000
set_option maxHeartbeats 2000000
namespace Go.Proofs.YtffdjfkekdoeaaaDoor.Pl
open Fo Rf Wd
def Pot (gs:List (List Nat)) (g:Nat → List Nat) (E:List Edg):Prop:=∀ s x t,(s,x,t) ∈ E → Mem gs (g s ++ [x] ++ inv (g t))
theorem mem_back {gs:List (List Nat)} {a b:List Nat} {x:Nat} (h:Mem gs (a ++ [x] ++ inv b)):Mem gs (b ++ [x ^^^ 1] ++ inv a):=by
 have:=h.neg
 rw [inv_app,inv_app,inv_inv] at this
 have e:b ++ (inv [x] ++ inv a) = b ++ [x ^^^ 1] ++ inv a:=by rw [List.append_assoc]; rfl
 rwa [e] at this
theorem pot_path {gs:List (List Nat)}:∀ (w:List Nat) (n s:Nat) (g0:Nat → List Nat),s < n → 0 < n → g0 0 = [] → Mem gs (g0 s ++ w) → ∃ g,(∀ v,v < n → g v = g0 v) ∧ (∀ v,n + (w.length - 1) ≤ v → g v = g0 v) ∧ Pot gs g (pathE n s w 0)
 | [],n,s,g0,_,_,_,_=>⟨g0,fun _ _=>rfl,fun _ _=>rfl,fun a y b h=>by simp [pathE] at h⟩
 | [x],n,s,g0,hs,h0,hg,hm=>by
  have h1:Mem gs (g0 s ++ [x] ++ inv (g0 0)):=by
   rw [hg]
   have:inv ([]:List Nat) = []:=rfl
   rw [this,List.append_nil]; exact hm
  refine ⟨g0,fun _ _=>rfl,fun _ _=>rfl,fun a y b h=>?_⟩
  simp only [pathE,List.mem_cons,List.not_mem_nil,or_false,Prod.mk.injEq] at h
  rcases h with ⟨rfl,rfl,rfl⟩ | ⟨rfl,rfl,rfl⟩
  ·exact h1
  ·exact mem_back h1
 | x :: y :: l,n,s,g0,hs,h0,hg,hm=>by
  obtain ⟨g,a1,a2,a3⟩:=pot_path (gs:=gs) (y :: l) (n + 1) n (fun v=>if v = n then g0 s ++ [x] else g0 v) (by omega) (by omega) (by rw [if_neg (by omega)]; exact hg) (by
   rw [if_pos rfl,List.append_assoc]; exact hm)
  have gn:g n = g0 s ++ [x]:=by rw [a1 n (by omega),if_pos rfl]
  have gs':g s = g0 s:=by rw [a1 s (by omega),if_neg (by omega)]
  have h1:Mem gs (g s ++ [x] ++ inv (g n)):=by
   rw [gn,gs']
   exact .same .one (same_inv _).symm
  refine ⟨g,fun v hv=>by rw [a1 v (by omega),if_neg (by omega)],fun v hv=>?_,fun a z b h=>?_⟩
  ·simp only [List.length_cons] at hv a2
   rw [a2 v (by omega),if_neg (by omega)]
  ·have hp:pathE n s (x :: y :: l) 0 = (s,x,n) :: (n,x ^^^ 1,s) :: pathE (n + 1) n (y :: l) 0:=rfl
   rw [hp] at h
   simp only [List.mem_cons,Prod.mk.injEq] at h
   rcases h with ⟨rfl,rfl,rfl⟩ | ⟨rfl,rfl,rfl⟩ | h
   ·exact h1
   ·exact mem_back h1
   ·exact a3 _ _ _ h
theorem pathE_lt:∀ (w:List Nat) (n s:Nat),s < n → 0 < n → ∀ a y b,(a,y,b) ∈ pathE n s w 0 → a < n + (w.length - 1) ∧ b < n + (w.length - 1)
 | [],n,s,_,_,a,y,b,h=>by simp [pathE] at h
 | [x],n,s,hs,h0,a,y,b,h=>by
  simp only [pathE,List.mem_cons,List.not_mem_nil,or_false,Prod.mk.injEq] at h
  simp only [List.length_singleton]
  omega
 | x :: z :: l,n,s,hs,h0,a,y,b,h=>by
  have hp:pathE n s (x :: z :: l) 0 = (s,x,n) :: (n,x ^^^ 1,s) :: pathE (n + 1) n (z :: l) 0:=rfl
  rw [hp] at h
  simp only [List.mem_cons,Prod.mk.injEq] at h
  simp only [List.length_cons]
  rcases h with ⟨rfl,rfl,rfl⟩ | ⟨rfl,rfl,rfl⟩ | h
  ·omega
  ·omega
  ·have:=pathE_lt (z :: l) (n + 1) n (by omega) (by omega) a y b h
   simp only [List.length_cons] at this
   omega
theorem pot_all {gs:List (List Nat)}:∀ (ws:List (List Nat)) (n:Nat) (g0:Nat → List Nat),0 < n → g0 0 = [] → (∀ w ∈ ws,Mem gs w) → ∃ g,(∀ v,v < n → g v = g0 v) ∧ Pot gs g (allE n ws)
 | [],n,g0,_,_,_=>⟨g0,fun _ _=>rfl,fun a y b h=>by simp [allE] at h⟩
 | w :: l,n,g0,hn,hg,hw=>by
  obtain ⟨g1,a1,a2,a3⟩:=pot_path (gs:=gs) w n 0 g0 hn hn hg (by rw [hg]; exact hw w (by simp))
  obtain ⟨g,b1,b2⟩:=pot_all (gs:=gs) l (n + (w.length - 1)) g1 (by omega) (by rw [a1 0 hn]; exact hg) fun v hv=>hw v (by simp [hv])
  refine ⟨g,fun v hv=>by rw [b1 v (by omega),a1 v hv],fun a y b h=>?_⟩
  simp only [allE,List.mem_append] at h
  rcases h with h | h
  ·obtain ⟨h1,h2⟩:=pathE_lt w n 0 hn hn a y b h
   rw [b1 a h1,b1 b h2]
   exact a3 _ _ _ h
  ·exact b2 _ _ _ h
theorem mem_mid {gs:List (List Nat)} {a b c:List Nat} (h:Mem gs (a ++ inv b)) (k:Mem gs (b ++ c)):Mem gs (a ++ c):=by
 refine .same (h.mul k) ?_
 have h1:a ++ inv b ++ (b ++ c) = a ++ (inv b ++ b) ++ c:=by simp
 rw [h1]
 have:=((Same.refl a).app (same_inv' b)).app (Same.refl c)
 rw [List.append_nil] at this
 exact this
theorem mem_flip {gs:List (List Nat)} {a b:List Nat} (h:Mem gs (a ++ inv b)):Mem gs (b ++ inv a):=by
 have:=h.neg
 rwa [inv_app,inv_inv] at this
theorem pot_cg {gs:List (List Nat)} {g:Nat → List Nat} {E:List Edg} (h:Pot gs g E) {u v:Nat} (hc:Cg E u v):Mem gs (g u ++ inv (g v)):=by
 induction hc with
 | refl u=>exact .same .one (same_inv _).symm
 | symm _ ih=>exact mem_flip ih
 | trans _ _ ih1 ih2=>exact mem_mid ih1 ih2
 | @fold s s' x t t' h1 h2 h0 ih=>
  have k1:=mem_back (h _ _ _ h1)
  have k2:=h _ _ _ h2
  -- g t (x^1) inv(g s) · g s inv(g s') · g s' x inv(g t')
  have k3:Mem gs (g t ++ [x ^^^ 1] ++ inv (g s')):=mem_mid k1 ih
  have k4:Mem gs (g t ++ [x ^^^ 1] ++ ([x] ++ inv (g t'))):=mem_mid k3 (by rw [← List.append_assoc]; exact k2)
  refine .same k4 ?_
  have e:g t ++ [x ^^^ 1] ++ ([x] ++ inv (g t')) = g t ++ [x ^^^ 1,x] ++ inv (g t'):=by simp
  rw [e]
  have:=((Same.refl (g t)).app (same_pair' x)).app (Same.refl (inv (g t')))
  rw [List.append_nil] at this
  exact this
section
variable {E:List Edg} {st:St}
noncomputable abbrev RowsOf (st:St):List (Option Row):=rowsS st.par 0 st.next
theorem rows_aut (h:Inv E st) (hb:Both E):Aut' (To (RowsOf st)):=⟨fun _ _ _ _ a b=>a.unique b,(wf_rows h hb).inv⟩
theorem pot_to {gs:List (List Nat)} {g:Nat → List Nat} (h:Inv E st) (hg:Pot gs g E) {s x t:Nat} (ht:To (RowsOf st) s x t):Mem gs (g s ++ [x] ++ inv (g t)):=by
 obtain ⟨u,h1,h2,h3⟩:=(to_rows h).1 ht
 obtain ⟨s',e1,e2⟩:=h.snd.ent s x u h2
 have k1:=pot_cg hg e2
 have k2:=hg _ _ _ e1
 have k3:=pot_cg hg (h.snd.par u t ⟨t,h3,h3.self⟩)
 rw [List.append_assoc] at k2
 have k4:=mem_mid k1 k2
 rw [← List.append_assoc] at k4
 exact mem_mid k4 k3
theorem pot_run {gs:List (List Nat)} {g:Nat → List Nat} (h:Inv E st) (hg:Pot gs g E) {s t:Nat} {l:List Nat} (hr:Run (To (RowsOf st)) s l t):Mem gs (g s ++ l ++ inv (g t)):=by
 induction hr with
 | nil s=>rw [List.append_nil]; exact .same .one (same_inv _).symm
 | @cons s x u t l h1 _ ih=>
  have k1:=pot_to h hg h1
  rw [List.append_assoc] at ih
  have:=mem_mid k1 ih
  have e:g s ++ [x] ++ (l ++ inv (g t)) = g s ++ x :: l ++ inv (g t):=by simp
  rwa [e] at this
theorem edge_to (h:Inv E st) {s x t:Nat} (he:(s,x,t) ∈ E):To (RowsOf st) (rt st.par s) x (rt st.par t):=by
 obtain ⟨p,t1,a1,a2,a3⟩:=h.cm s x t he
 rw [h.todo] at a3
 obtain ⟨q,b1,b2⟩:=Eqv.nil (fun _ _ _=>Sm.trans) a3
 rw [rt_spec a1,rt_spec b2]
 exact (to_rows h).2 ⟨t1,a1.self,a2,b1⟩
theorem run_rows (h:Inv E st) {s t:Nat} {l:List Nat} (hr:Run (fun s x t=>(s,x,t) ∈ E) s l t):Run (To (RowsOf st)) (rt st.par s) l (rt st.par t):=by
 induction hr with
 | nil s=>exact .nil _
 | cons h1 _ ih=>exact .cons (edge_to h h1) ih
end
theorem path_run {E:List Edg}:∀ (w:List Nat) (n s:Nat),(∀ e ∈ pathE n s w 0,e ∈ E) → (w ≠ [] ∨ s = 0) → Run (fun s x t=>(s,x,t) ∈ E) s w 0
 | [],n,s,_,h=>by
  rcases h with h | rfl
  ·exact absurd rfl h
  ·exact .nil 0
 | [x],n,s,hE,_=>.one (hE _ (by simp [pathE]))
 | x :: y :: l,n,s,hE,_=>by
  have hp:pathE n s (x :: y :: l) 0 = (s,x,n) :: (n,x ^^^ 1,s) :: pathE (n + 1) n (y :: l) 0:=rfl
  rw [hp] at hE
  exact .cons (hE _ (by simp)) (path_run (y :: l) (n + 1) n (fun e he=>hE e (by simp [he])) (.inl (by simp)))
theorem all_run:∀ (ws:List (List Nat)) (n:Nat) (E:List Edg),(∀ e ∈ allE n ws,e ∈ E) → ∀ w ∈ ws,Run (fun s x t=>(s,x,t) ∈ E) 0 w 0
 | [],n,E,_,w,hw=>by simp at hw
 | v :: l,n,E,hE,w,hw=>by
  simp only [allE] at hE
  rcases List.mem_cons.1 hw with rfl | hw
  ·exact path_run w n 0 (fun e he=>hE e (List.mem_append.2 (.inl he))) (.inr rfl)
  ·exact all_run l _ E (fun e he=>hE e (List.mem_append.2 (.inr he))) w hw
theorem lang {ws:List (List Nat)} {st:St} (h:Inv (allE 1 ws) st) {l:List Nat} (hl:Rd l):Run (To (RowsOf st)) (rt st.par 0) l (rt st.par 0) ↔ Mem ws l:=by
 have hA:=rows_aut h (allE_both ws 1)
 constructor
 ·intro hr
  obtain ⟨g,h1,h2⟩:=pot_all (gs:=ws) ws 1 (fun _=>[]) (by omega) rfl fun w hw=>.gen hw
  have k:=pot_run h h2 hr
  obtain ⟨d,hf⟩:=h.ok.forest
  have g0:g 0 = []:=h1 0 (by omega)
  have k0:Mem ws (g 0 ++ inv (g (rt st.par 0))):=by
   by_cases hp:0 < st.par.length
   ·obtain ⟨p,hp⟩:=hf.root _ 0 (Nat.le_refl _) hp
    rw [rt_spec hp]
    exact pot_cg h2 (h.snd.par _ _ ⟨p,hp,hp.self⟩)
   ·have:rt st.par 0 = 0:=by
     unfold rt
     rw [dif_neg]
     rintro ⟨r,hr⟩
     exact hp hr.lt_left
    rw [this]
    exact .same .one (same_inv _).symm
  rw [List.append_assoc] at k
  have k1:=mem_mid k0 k
  rw [← List.append_assoc,g0,List.nil_append] at k1
  have k2:=mem_mid k1 (b:=g (rt st.par 0)) (c:=[]) (by
   rw [List.append_nil]
   have:=mem_flip k0
   rw [g0] at this
   have e:inv ([]:List Nat) = []:=rfl
   rwa [e,List.append_nil] at this)
  rwa [List.append_nil] at k2
 ·intro hm
  have key:∀ {a:List Nat},Mem ws a → Run (To (RowsOf st)) (rt st.par 0) (rd a) (rt st.par 0):=by
   intro a ha
   induction ha with
   | one=>exact .nil _
   | gen hg=>exact (run_rows h (all_run ws 1 _ (fun _ he=>he) _ hg)).rd hA
   | @mul a b _ _ h1 h2=>
    have:rd (a ++ b) = rd (rd a ++ rd b):=(((same_rd a).app (same_rd b)).symm).rd_eq
    rw [this]
    exact (h1.app h2).rd hA
   | @neg a _ h1=>
    have:rd (inv a) = rd (inv (rd a)):=((same_rd a).inv.symm).rd_eq
    rw [this]
    exact (h1.back hA).rd hA
   | same _ hs h1=>rw [← hs.rd_eq]; exact h1
  rw [← hl.self]
  exact key hm
theorem lang_cut {ws:List (List Nat)} {st:St} (h:Inv (allE 1 ws) st) {m:Nat} {rows':List (Option Row)} {o:Option (List Row)} (hm:MadeOf m (rt st.par 0) (RowsOf st) rows' o) {l:List Nat} (hl:Rd l) :
  Run (To rows') (rt st.par 0) l (rt st.par 0) ↔ Mem ws l:=by
 rw [← lang h hl]
 generalize rt st.par 0 = r0 at hm
 have hA:=rows_aut h (allE_both ws 1)
 have mono:∀ {s t:Nat} {l:List Nat},Run (To rows') s l t → Run (To (RowsOf st)) s l t:=fun hr=>by
  induction hr with
  | nil s=>exact .nil s
  | cons h1 _ ih=>exact .cons (hm.cut.sub _ _ _ h1) ih
 refine ⟨mono,fun hr=>?_⟩
 let Oc:Nat → Nat → Nat → Prop:=fun s x t=>∃ a b,l = a ++ x :: b ∧ Run (To (RowsOf st)) r0 a s ∧ To (RowsOf st) s x t ∧ Run (To (RowsOf st)) t b r0
 have chain:∀ {a b:List Nat} {y x:Nat},l = a ++ y :: x :: b → x ≠ y ^^^ 1:=fun {a b y x} he=>by
  have:∀ (a l:List Nat),l = a ++ y :: x :: b → Rd l → x ≠ y ^^^ 1:=by
   intro a
   induction a with
   | nil=>intro l he hl; subst he; exact hl.1
   | cons z a ih=>
    intro l he hl
    subst he
    cases a with
    | nil=>exact ih _ rfl hl.2
    | cons z' a=>exact ih _ rfl hl.2
  exact this a l he hl
 have hS:∀ s x t,(Oc s x t ∨ Oc t (x ^^^ 1) s) → To rows' s x t:=hm.cut.max (fun s x t=>Oc s x t ∨ Oc t (x ^^^ 1) s) ⟨fun s x t hh=>by rw [xor_two]; exact hh.symm,fun s x t hh hne=>by
  rcases hh with ⟨a,b,e1,e2,e3,e4⟩ | ⟨a,b,e1,e2,e3,e4⟩
  ·rcases List.eq_nil_or_concat a with rfl | ⟨a',y,rfl⟩
   ·cases e2; exact absurd rfl hne
   ·rw [List.concat_eq_append] at e1 e2
    obtain ⟨u,f1,f2⟩:=e2.split
    have e5:l = a' ++ y :: x :: b:=by rw [e1]; simp
    refine ⟨y ^^^ 1,u,fun he=>chain e5 he.symm,.inr ?_⟩
    rw [xor_two]
    exact ⟨a',x :: b,e5,f1,f2.of_one,.cons e3 e4⟩
  ·cases e4 with
   | nil=>exact absurd rfl hne
   | @cons _ y u _ b' f1 f2=>
    refine ⟨y,u,fun he=>?_,.inl ⟨a ++ [x ^^^ 1],b',by rw [e1]; simp,e2.app (.one e3),f1,f2⟩⟩
    have:=chain e1
    rw [xor_two] at this
    exact this he⟩ fun s x t hh=>by
  rcases hh with ⟨_,_,_,_,e3,_⟩ | ⟨_,_,_,_,e3,_⟩
  ·exact e3
  ·have:=hA.inv _ _ _ e3
   rwa [xor_two] at this
 have walk:∀ (b a:List Nat) (s:Nat),l = a ++ b → Run (To (RowsOf st)) r0 a s → Run (To (RowsOf st)) s b r0 → Run (To rows') s b r0:=by
  intro b
  induction b with
  | nil=>intro a s _ _ h2; cases h2; exact .nil _
  | cons x b ih=>
   intro a s he h1 h2
   cases h2 with
   | @cons _ _ u _ _ f1 f2=>
    exact .cons (hS _ _ _ (.inl ⟨a,b,he,h1,f1,f2⟩)) (ih (a ++ [x]) u (by rw [he]; simp) (h1.app (.one f1)) f2)
 exact walk l [] r0 rfl (.nil _) hr
end Go.Proofs.YtffdjfkekdoeaaaDoor.Pl
end
section
set_option maxRecDepth 4000
set_option maxHeartbeats 2000000
namespace Go.Proofs.YtffdjfkekdoeaaaDoor.Pl
open Fo Rf Wd
def word (l:List (Nat × Nat)):List Nat:=(l.map (·.1)).reverse
section
variable {δ:Nat → Nat → Nat → Prop} {r N:Nat}
end
section
variable {δ ε:Nat → Nat → Nat → Prop} {a b N M:Nat}
open Classical in
noncomputable def to (δ ε:Nat → Nat → Nat → Prop) (a b v:Nat):Nat:=if h:∃ v' p,Rd p ∧ Run δ a p v ∧ Run ε b p v' then Classical.choose h else 0
end
end Go.Proofs.YtffdjfkekdoeaaaDoor.Pl
end
section
set_option maxRecDepth 4000
set_option maxHeartbeats 2000000
namespace Go.Proofs.YtffdjfkekdoeaaaDoor.Pl
open Fo Rf Wd
theorem num_mapG {φ:Nat → Nat} {P:Nat → Prop} (inj:∀ u v,P u → P v → φ u = φ v → u = v) {ρ ρ':Nat → Row} (hρ:∀ v,P v → ρ' (φ v) = (ρ v).map (Option.map φ)) (hP:∀ v,P v → ∀ t,some t ∈ ρ v → P t) :
  ∀ (K i:Nat) (q:List Nat) (out:List Row),(∀ v ∈ q,P v) → numG ρ' K i (q.map φ) out = numG ρ K i q out
 | 0,_,_,_,_=>rfl
 | K + 1,i,q,out,hq=>by
  simp only [numG,List.getElem?_map]
  cases hv:q[i]? with
  | none=>rfl
  | some v=>
   have hpv:=hq v (List.mem_of_getElem? hv)
   obtain ⟨h1,h2⟩:=bfsRow_map inj (ρ v) q (hP v hpv) hq
   simp only [Option.map_some]
   rw [hρ v hpv,h1]
   exact num_mapG inj hρ hP K (i + 1) _ _ h2
end Go.Proofs.YtffdjfkekdoeaaaDoor.Pl
end
section
set_option maxRecDepth 4000
set_option maxHeartbeats 2000000
namespace Go.Proofs.YtffdjfkekdoeaaaDoor.Pl
open Fo Rf Wd
theorem idxOf_pre {q q':List Nat} (h:q <+: q') {t:Nat} (ht:t ∈ q):q'.idxOf t = q.idxOf t:=by
 obtain ⟨r,rfl⟩:=h
 rw [List.idxOf_append,if_pos ht]
theorem bfsRow_spec:∀ (row:Row) (q:List Nat),q.Nodup → q <+: (bfsRow row q).1 ∧ (bfsRow row q).1.Nodup ∧ (bfsRow row q).2 = row.map (Option.map (bfsRow row q).1.idxOf) ∧ ∀ t,some t ∈ row → t ∈ (bfsRow row q).1
 | [],q,hq=>⟨List.prefix_refl _,hq,rfl,fun t ht=>by simp at ht⟩
 | none :: l,q,hq=>by
  obtain ⟨h1,h2,h3,h4⟩:=bfsRow_spec l q hq
  refine ⟨h1,h2,?_,fun t ht=>h4 t (by simpa using ht)⟩
  simp only [bfsRow,List.map_cons,Option.map_none]
  rw [← h3]
 | some t :: l,q,hq=>by
  by_cases ht:t ∈ q
  ·obtain ⟨h1,h2,h3,h4⟩:=bfsRow_spec l q hq
   have e:bfsRow (some t :: l) q = ((bfsRow l q).1,some (q.idxOf t) :: (bfsRow l q).2):=by simp only [bfsRow]; rw [if_pos ht]
   rw [e]
   refine ⟨h1,h2,?_,fun u hu=>?_⟩
   ·show some (q.idxOf t) :: (bfsRow l q).2 = some ((bfsRow l q).1.idxOf t) :: l.map (Option.map (bfsRow l q).1.idxOf)
    rw [idxOf_pre h1 ht,← h3]
   ·rcases List.mem_cons.1 hu with hu | hu
    ·cases hu; exact h1.subset ht
    ·exact h4 u hu
  ·have hq':(q ++ [t]).Nodup:=by
    rw [List.nodup_append]
    exact ⟨hq,by simp,fun a ha b hb=>by simp only [List.mem_singleton] at hb; subst hb; exact fun he=>ht (he ▸ ha)⟩
   obtain ⟨h1,h2,h3,h4⟩:=bfsRow_spec l (q ++ [t]) hq'
   have e:bfsRow (some t :: l) q = ((bfsRow l (q ++ [t])).1,some q.length :: (bfsRow l (q ++ [t])).2):=by simp only [bfsRow]; rw [if_neg ht]
   rw [e]
   have hm:t ∈ q ++ [t]:=by simp
   refine ⟨List.IsPrefix.trans (List.prefix_append _ _) h1,h2,?_,fun u hu=>?_⟩
   ·show some q.length :: (bfsRow l (q ++ [t])).2 = some ((bfsRow l (q ++ [t])).1.idxOf t) :: l.map (Option.map (bfsRow l (q ++ [t])).1.idxOf)
    rw [idxOf_pre h1 hm,← h3,List.idxOf_append,if_neg ht]
    simp
   ·rcases List.mem_cons.1 hu with hu | hu
    ·cases hu; exact h1.subset hm
    ·exact h4 u hu
structure NumOf (ρ:Nat → Row) (q0 q:List Nat) (res:List Row):Prop where
 pre:q0 <+: q
 nd:q.Nodup
 len:res.length = q.length
 row:∀ (j v:Nat),q[j]? = some v → res[j]? = some ((ρ v).map (Option.map q.idxOf)) ∧ ∀ t,some t ∈ ρ v → t ∈ q
 all:∀ P:Nat → Prop,(∀ v ∈ q0,P v) → (∀ v,P v → ∀ t,some t ∈ ρ v → P t) → ∀ v ∈ q,P v
theorem numG_spec {ρ:Nat → Row}:∀ (K i:Nat) (q:List Nat) (out res:List Row),q.Nodup → out.length = i → i ≤ q.length → (∀ (j v:Nat),j < i → q[j]? = some v → out[j]? = some ((ρ v).map (Option.map q.idxOf)) ∧ ∀ t,some t ∈ ρ v → t ∈ q) → numG ρ K i q out = some res →
  ∃ q',NumOf ρ q q' res
 | 0,_,_,_,_,_,_,_,_,h=>by simp [numG] at h
 | K + 1,i,q,out,res,hn,ho,hi,hr,h=>by
  simp only [numG] at h
  split at h
  ·rename_i hv
   cases h
   have hl:q.length ≤ i:=by simpa using hv
   refine ⟨q,List.prefix_refl _,hn,by omega,fun j v hj=>hr j v ?_ hj,fun P h1 _=>h1⟩
   have:=(List.getElem?_eq_some_iff.1 hj).1
   omega
  ·rename_i v hv
   have hlt:=(List.getElem?_eq_some_iff.1 hv).1
   obtain ⟨h1,h2,h3,h4⟩:=bfsRow_spec (ρ v) q hn
   have hll:=h1.length_le
   have hstep:∀ (j u:Nat),j < i + 1 → (bfsRow (ρ v) q).1[j]? = some u → (out ++ [(bfsRow (ρ v) q).2])[j]? = some ((ρ u).map (Option.map (bfsRow (ρ v) q).1.idxOf)) ∧ ∀ t,some t ∈ ρ u → t ∈ (bfsRow (ρ v) q).1:=fun j u hj hu=>by
    have hqj:q[j]? = some u:=by
     obtain ⟨tl,htl⟩:=h1
     rw [← htl,List.getElem?_append_left (by omega)] at hu
     exact hu
    by_cases hji:j < i
    ·obtain ⟨k1,k2⟩:=hr j u hji hqj
     refine ⟨?_,fun t ht=>h1.subset (k2 t ht)⟩
     rw [List.getElem?_append_left (by omega),k1]
     congr 1
     refine List.map_congr_left fun o ho'=>?_
     cases o with
     | none=>rfl
     | some t=>simp only [Option.map_some]; rw [idxOf_pre h1 (k2 t ho')]
    ·have hj':j = i:=by omega
     subst hj'
     rw [hv] at hqj; cases hqj
     rw [List.getElem?_append_right (by omega),ho,Nat.sub_self]
     exact ⟨by rw [← h3]; rfl,h4⟩
   obtain ⟨q',hq'⟩:=numG_spec K (i + 1) _ _ res h2 (by simp [ho]) (by omega) hstep h
   exact ⟨q',h1.trans hq'.pre,hq'.nd,hq'.len,hq'.row,fun P p1 p2=>hq'.all P (bfsRow_map (φ:=fun v=>v) (P:=P) (fun u v _ _ h=>h) (ρ v) q (fun t ht=>p2 v (p1 v (List.mem_of_getElem? hv)) t ht) p1).2 p2⟩
theorem num_self {ρ:Nat → Row} {r K:Nat} {res:List Row} (h:numG ρ K 0 [r] [] = some res):∃ q,NumOf ρ [r] q res ∧ numG (fun i=>res.getD i []) K 0 [0] [] = some res:=by
 obtain ⟨q,hq⟩:=numG_spec K 0 [r] [] res (by simp) rfl (by simp) (fun j v hj=>by omega) h
 refine ⟨q,hq,?_⟩
 have hr:r ∈ q:=hq.pre.subset (by simp)
 have h0:q.idxOf r = 0:=by rw [idxOf_pre hq.pre (by simp)]; simp
 have:=num_mapG (φ:=q.idxOf) (P:=fun v=>v ∈ q) (fun u v hu hv he=>?_) (ρ:=ρ) (ρ':=fun i=>res.getD i []) (fun v hv=>?_) (fun v hv t ht=>?_) K 0 [r] [] (fun v hv=>by simp only [List.mem_singleton] at hv; subst hv; exact hr)
 ·rw [List.map_cons,List.map_nil,h0,h] at this
  exact this
 ·have h1:=List.getElem_idxOf (List.idxOf_lt_length_iff.2 hu)
  have h2:=List.getElem_idxOf (List.idxOf_lt_length_iff.2 hv)
  rw [← h1,← h2]
  simp only [he]
 ·have hlt:=List.idxOf_lt_length_iff.2 hv
  have hg:q[q.idxOf v]? = some v:=by rw [List.getElem?_eq_getElem hlt,List.getElem_idxOf hlt]
  obtain ⟨k1,_⟩:=hq.row _ _ hg
  show res.getD (q.idxOf v) [] = _
  rw [List.getD_eq_getElem?_getD,k1]; rfl
 ·have hlt:=List.idxOf_lt_length_iff.2 hv
  have hg:q[q.idxOf v]? = some v:=by rw [List.getElem?_eq_getElem hlt,List.getElem_idxOf hlt]
  exact (hq.row _ _ hg).2 t ht
end Go.Proofs.YtffdjfkekdoeaaaDoor.Pl
end
section
set_option maxRecDepth 4000
set_option maxHeartbeats 2000000
namespace Go.Proofs.YtffdjfkekdoeaaaDoor.Pl
open Fo Rf Wd
theorem edges_mem:∀ (row:List Int) (y:Nat) (e:Int × Int × Unit),e ∈ edgesFrom y row → ∃ i,row[i]? = some e.2.1 ∧ e.1 = ((y + i:Nat):Int) ∧ 0 ≤ e.2.1
 | [],y,e,h=>by simp [edgesFrom] at h
 | t :: l,y,e,h=>by
  simp only [edgesFrom] at h
  split at h
  ·rename_i ht
   rcases List.mem_cons.1 h with rfl | h
   ·exact ⟨0,rfl,rfl,ht⟩
   ·obtain ⟨i,h1,h2,h3⟩:=edges_mem l (y + 1) e h
    exact ⟨i + 1,h1,by rw [h2]; congr 1; omega,h3⟩
  ·obtain ⟨i,h1,h2,h3⟩:=edges_mem l (y + 1) e h
   exact ⟨i + 1,h1,by rw [h2]; congr 1; omega,h3⟩
structure Auto (m r:Nat) (rows':List (Option Row)) (q:List Nat) (R:List Row):Prop where
 num:NumOf (rowOf rows') [r] q R
 live:∀ v ∈ q,Live rows' v
 inn:∀ v ∈ q,v = r ∨ ∃ u x,To rows' u x v
 first:q[0]? = some r
 len:∀ row ∈ R,row.length = m
 to:∀ (j v x:Nat),q[j]? = some v → ∀ i,(∃ row,R[j]? = some row ∧ row[x]? = some (some i)) ↔ ∃ t,To rows' v x t ∧ q[i]? = some t
theorem accF_get {n s:Nat} (h:s < n):(accF n).getD s false = (s == 0):=by
 unfold accF
 rw [List.getD_eq_getElem?_getD,List.getElem?_map,List.getElem?_range h]; rfl
theorem next_get {R:List Row} {j x i:Nat} {row:Row} (h1:R[j]? = some row) (h2:row[x]? = some (some i)):getN (R.map (·.map ofO)) j x = (i:Int):=by
 have e:(R.map (·.map ofO)).getD j [] = row.map ofO:=by rw [List.getD_eq_getElem?_getD,List.getElem?_map,h1]; rfl
 unfold getN
 rw [e,List.getD_eq_getElem?_getD,List.getElem?_map,h2]; rfl
theorem Auto.next {m r:Nat} {rows':List (Option Row)} {q:List Nat} {R:List Row} (h:Auto m r rows' q R) {v x t:Nat} {j:Nat} (hj:q[j]? = some v) (ht:To rows' v x t):∃ i:Nat,q[i]? = some t:=by
 obtain ⟨row,h1,h2⟩:=ht
 have:rowOf rows' v = row:=by unfold rowOf; rw [h1]
 have hm:=(h.num.row j v hj).2 t (by rw [this]; exact List.mem_of_getElem? h2)
 exact List.getElem?_of_mem hm
theorem good {k r K:Nat} (hk:1 ≤ k ∧ k ≤ 8) {rows rows':List (Option Row)} {o:Option (List Row)} {q:List Nat} {R:List Row} (hm:MadeOf (2 * k) r rows rows' o) (hA:Auto (2 * k) r rows' q R) (h2:R.length ≤ 2000) (h:numG (rowOf rows') K 0 [r] [] = some R) :
  (autE k R).check (k:Int) = 0:=by
 have hql:=hA.num.len
 have h1:1 ≤ R.length:=by
  rw [hql]
  have:=(List.getElem?_eq_some_iff.1 hA.first).1
  omega
 have tgt:∀ row ∈ R,∀ t,some t ∈ row → t < R.length:=fun row hrow t ht=>by
  obtain ⟨j,hj⟩:=List.getElem?_of_mem hrow
  obtain ⟨x,hx⟩:=List.getElem?_of_mem ht
  have hlt:j < q.length:=by rw [← hql]; exact (List.getElem?_eq_some_iff.1 hj).1
  obtain ⟨u,_,hu⟩:=(hA.to j _ x (List.getElem?_eq_getElem hlt) t).1 ⟨row,hj,hx⟩
  rw [hql]; exact (List.getElem?_eq_some_iff.1 hu).1
 have hrows:∀ rr ∈ (R.map (·.map ofO)),rr.length = 2 * k ∧ ∀ t ∈ rr,-1 ≤ t ∧ t < ((R.map (·.map ofO)).length:Int):=fun rr hrr=>by
  obtain ⟨row,hrow,rfl⟩:=List.mem_map.1 hrr
  refine ⟨by rw [List.length_map]; exact hA.len row hrow,fun t ht=>?_⟩
  obtain ⟨o,ho,rfl⟩:=List.mem_map.1 ht
  rw [List.length_map]
  cases o with
  | none=>simp only [ofO]; omega
  | some i=>have:=tgt row hrow i ho; simp only [ofO]; omega
 have hloc:∀ (s:Nat) (rr:List Int),(R.map (·.map ofO))[s]? = some rr → rowLocal (R.map (·.map ofO)) s rr = true:=fun s rr hs=>by
  rw [List.getElem?_map] at hs
  cases hR:R[s]? with
  | none=>rw [hR] at hs; cases hs
  | some row=>
   rw [hR] at hs
   simp only [Option.map_some,Option.some.injEq] at hs
   subst hs
   unfold rowLocal
   rw [List.all_eq_true]
   intro e he
   obtain ⟨i,e1,e2,e3⟩:=edges_mem _ 0 e he
   rw [List.getElem?_map] at e1
   cases hi:row[i]? with
   | none=>rw [hi] at e1; cases e1
   | some o=>
    rw [hi] at e1
    cases o with
    | none=>simp only [Option.map_some,ofO,Option.some.injEq] at e1; omega
    | some t=>
     simp only [Option.map_some,ofO,Option.some.injEq] at e1
     have hlt:s < q.length:=by rw [← hql]; exact (List.getElem?_eq_some_iff.1 hR).1
     have hg:q[s]? = some q[s]:=List.getElem?_eq_getElem hlt
     obtain ⟨u,k1,k2⟩:=(hA.to s _ i hg t).1 ⟨row,hR,hi⟩
     obtain ⟨row',f1,f2⟩:=(hA.to t u (i ^^^ 1) k2 s).2 ⟨_,hm.wf.inv _ _ _ k1,hg⟩
     rw [← e1,e2,Nat.zero_add,Int.toNat_natCast,Int.toNat_natCast,next_get f1 f2]
     simp
 have hdeg:∀ (s:Nat) (row:Row),R[s]? = some row → 0 < s → 2 ≤ degF row:=fun s row hR hs=>by
  have hlt:s < q.length:=by rw [← hql]; exact (List.getElem?_eq_some_iff.1 hR).1
  have hg:q[s]? = some q[s]:=List.getElem?_eq_getElem hlt
  have hne:q[s] ≠ r:=fun he=>by
   have h0:=(List.getElem?_eq_some_iff.1 hA.first)
   obtain ⟨h00,h01⟩:=h0
   have:=(List.getElem_inj (h₀:=hlt) (h₁:=h00) hA.num.nd).1 (by rw [he,h01])
   omega
  rcases hA.inn _ (List.getElem_mem hlt) with he | ⟨u,x,hu⟩
  ·exact absurd he hne
  ·have hb:=hm.wf.inv _ _ _ hu
   obtain ⟨x',t',hx,hb'⟩:=hm.two _ _ _ hb hne
   obtain ⟨i,hi⟩:=hA.next hg hb
   obtain ⟨i',hi'⟩:=hA.next hg hb'
   obtain ⟨r1,a1,a2⟩:=(hA.to s _ _ hg i).2 ⟨_,hb,hi⟩
   obtain ⟨r2,b1,b2⟩:=(hA.to s _ _ hg i').2 ⟨_,hb',hi'⟩
   rw [hR] at a1 b1
   cases a1; cases b1
   by_cases hd:degF row ≤ 1
   ·exact absurd (deg_one row hd _ _ _ _ b2 a2) hx
   ·omega
 have hlen:(accF R.length).length = R.length:=by unfold accF; simp
 have hfsa:fsaF ((2 * k:Nat):Int) 0 (accF R.length) (R.map (·.map ofO)) = 0:=by
  unfold fsaF
  rw [if_neg (by rw [hlen,List.length_map]; omega),if_neg]
  rw [Bool.not_eq_true,List.any_eq_false]
  intro rr hrr
  obtain ⟨g1,g2⟩:=hrows rr hrr
  unfold badRow
  rw [Bool.not_eq_true,Bool.or_eq_false_iff]
  refine ⟨by simp [g1],?_⟩
  rw [List.any_eq_false]
  intro t ht
  have:=g2 t ht
  rw [List.length_map] at this
  rw [hlen]
  simp; omega
 have hI:isM (k:Int) (autE k R) = true:=by
  have hacc0:(accF R.length).getD 0 false = true:=by rw [accF_get (by omega)]; rfl
  unfold isM
  show (decide (fsaF ((2 * k:Nat):Int) 0 (accF R.length) (R.map (·.map ofO)) = 0) && (decide (((2 * k:Nat):Int) = 2 * (k:Int)) && (decide (1 ≤ (accF R.length).length) && (decide ((accF R.length).length ≤ 2000) && (decide ((0:Int) = 0) && ((accF R.length).getD 0 false && (localAll (accF R.length) (R.map (·.map ofO)) 0 (R.map (·.map ofO)) && sameF (autE k R) (autE k (numR k (R.map (·.map ofO)))))))))) ) = true
  have hla:localAll (accF R.length) (R.map (·.map ofO)) 0 (R.map (·.map ofO)) = true:=by
   rw [localAll_iff]
   intro s rr hs
   rw [Nat.zero_add]
   refine (localS_iff hacc0).2 ⟨accF_get (by have:=(List.getElem?_eq_some_iff.1 hs).1; simpa using this),fun h0=>?_,hloc s rr hs⟩
   rw [List.getElem?_map] at hs
   cases hR:R[s]? with
   | none=>rw [hR] at hs; cases hs
   | some row=>
    rw [hR] at hs
    simp only [Option.map_some,Option.some.injEq] at hs
    subst hs
    have e:(row.map ofO).map toO = row:=by
     rw [List.map_map]
     conv=>rhs; rw [← List.map_id row]
     exact List.map_congr_left fun o _=>toO_ofO o
    rw [e]
    exact hdeg s row hR h0
  have hnum:numR k (R.map (·.map ofO)) = R:=by
   obtain ⟨q',hq',hself⟩:=num_self h
   have hlt:=graphL_lt (k:=k) (next:=R.map (·.map ofO)) (fun rr hrr t ht=>((hrows rr hrr).2 t ht).2) (by rw [List.length_map]; omega)
   obtain ⟨res,hres⟩:=numE_some (k:=k) hlt ((R.map (·.map ofO)).length + 1) 0 [0] [] (by simp) (by simp; omega) (by simp) (by omega)
   have hmap:=num_map (φ:=fun v=>v) (P:=fun v=>v < R.length) (fun u v _ _ h=>h) (k:=k) (es:=graphL k 0 (R.map (·.map ofO))) (ρ:=fun i=>R.getD i []) (fun v hv=>?_) (fun v hv t ht=>?_) ((R.map (·.map ofO)).length + 1) 0 [0] [] (by simp; omega)
   ·rw [show List.map (fun v:Nat=>v) [0] = [0] from rfl] at hmap
    rw [hmap] at hres
    have a1:=numG_fuel _ (K + (R.map (·.map ofO)).length + 1) _ _ _ _ (by omega) hres
    have a2:=numG_fuel _ (K + (R.map (·.map ofO)).length + 1) _ _ _ _ (by omega) hself
    rw [a2] at a1
    unfold numR
    rw [hmap,hres]
    exact (Option.some.inj a1).symm
   ·have hRv:R[v]? = some R[v]:=List.getElem?_eq_getElem hv
    have e1:R.getD v [] = R[v]:=by rw [List.getD_eq_getElem?_getD,hRv]; rfl
    show rowE k _ v = (R.getD v []).map (Option.map fun v=>v)
    rw [e1]
    apply List.ext_getElem?
    intro x
    have hl:=hA.len _ (List.getElem_mem hv)
    by_cases hx:x < 2 * k
    ·rw [rowE_get hx,step_graph hk.2 hrows hloc (by rw [List.length_map]; exact hv) hx]
     have hxl:x < R[v].length:=by omega
     rw [List.getElem?_map,List.getElem?_eq_getElem hxl]
     have e:(R.map (·.map ofO)).getD v [] = R[v].map ofO:=by rw [List.getD_eq_getElem?_getD,List.getElem?_map,hRv]; rfl
     unfold getN
     rw [e,List.getD_eq_getElem?_getD,List.getElem?_map,List.getElem?_eq_getElem hxl]
     simp only [Option.map_some,Option.getD_some,toO_ofO]
     cases R[v][x] <;> rfl
    ·rw [List.getElem?_eq_none (by rw [rowE_len]; omega),List.getElem?_eq_none (by rw [List.length_map]; omega)]
   ·have hRv:R[v]? = some R[v]:=List.getElem?_eq_getElem hv
    have e1:R.getD v [] = R[v]:=by rw [List.getD_eq_getElem?_getD,hRv]; rfl
    have ht:some t ∈ R.getD v []:=ht
    rw [e1] at ht
    exact tgt _ (List.getElem_mem hv) t ht
  rw [hfsa,hacc0,hla,hnum]
  have e2:decide (((2 * k:Nat):Int) = 2 * (k:Int)) = true:=by simp
  rw [e2,hlen,decide_eq_true h1,decide_eq_true h2]
  simp [sameF]
 have:=isM_check (k:=(k:Int)) (by omega) (autE k R)
 rw [hI] at this
 exact of_decide_eq_true this.symm
end Go.Proofs.YtffdjfkekdoeaaaDoor.Pl
end
section
set_option maxRecDepth 4000
set_option maxHeartbeats 2000000
namespace Go.Proofs.YtffdjfkekdoeaaaDoor.Pl
open Fo Rf Wd
def ix (b:UInt8):Nat:=(idxF (ofB b)).toNat
theorem ix_L {x:Nat} (h:x < 16):ix (L x) = x:=by
 have:=L_idx ⟨x,h⟩
 dsimp only at this
 unfold ix; rw [this]; rfl
theorem other_L {x:Nat} (h:x < 16):otherB (L x) = L (x ^^^ 1):=L_other ⟨x,h⟩
theorem xor16 {x:Nat} (h:x < 16):x ^^^ 1 < 16:=(xor_xor ⟨x,h⟩).2
def rawF (s:ByteArray):List Nat:=s.data.toList.map ix
theorem red_step {out:List UInt8} {c:UInt8} (ho:Good out) (hc:∃ x,x < 16 ∧ c = L x):(redStep out c).map ix = rdS (out.map ix) (ix c) ∧ Good (redStep out c):=by
 obtain ⟨x,hx,rfl⟩:=hc
 unfold redStep rdS
 rw [List.getLast?_map]
 cases hl:out.getLast? with
 | none=>
  rw [if_neg (by simp),if_neg (by simp)]
  refine ⟨by simp,ho.app fun b hb=>?_⟩
  simp only [List.mem_singleton] at hb
  exact ⟨x,hx,hb⟩
 | some d=>
  obtain ⟨z,hz,rfl⟩:=ho d (List.mem_of_getLast? hl)
  have hiff:L z = otherB (L x) ↔ ix (L z) = ix (L x) ^^^ 1:=by
   rw [other_L hx,ix_L hz,ix_L hx]
   constructor
   ·intro h
    have:=congrArg ix h
    rwa [ix_L hz,ix_L (xor16 hx)] at this
   ·intro h; rw [h]
  simp only [Option.map_some,Option.some.injEq]
  by_cases h:L z = otherB (L x)
  ·rw [if_pos h,if_pos (hiff.1 h)]
   exact ⟨List.map_dropLast ..,fun b hb=>ho b ((List.dropLast_sublist out).mem hb)⟩
  ·rw [if_neg h,if_neg (fun k=>h (hiff.2 k))]
   refine ⟨by simp,ho.app fun b hb=>?_⟩
   simp only [List.mem_singleton] at hb
   exact ⟨x,hx,hb⟩
theorem red_raw:∀ (l out:List UInt8),Good out → Good l → (l.foldl redStep out).map ix = act (out.map ix) (l.map ix)
 | [],out,_,_=>rfl
 | c :: l,out,ho,hl=>by
  obtain ⟨h1,h2⟩:=red_step ho (hl c (by simp))
  have:=red_raw l (redStep out c) h2 fun b hb=>hl b (by simp [hb])
  rw [List.foldl_cons,this,h1]; rfl
theorem word_raw {s:ByteArray} (h:Good s.data.toList):wordF s = rd (rawF s):=red_raw s.data.toList [] (fun b hb=>by simp at hb) h
theorem same_raw {s:ByteArray} (h:Good s.data.toList):Same (wordF s) (rawF s):=by rw [word_raw h]; exact same_rd _
theorem raw_app (a b:ByteArray):rawF (a ++ b) = rawF a ++ rawF b:=by unfold rawF; rw [app_list,List.map_append]
theorem raw_inv {s:ByteArray} (h:Good s.data.toList) (h8:checkF 8 s = 0):rawF (InverseF s) = inv (rawF s):=by
 unfold InverseF
 rw [if_pos h8]
 unfold rawF inv invF
 show ((s.data.toList.map otherB).reverse.toArray).toList.map ix = _
 rw [List.toList_toArray,List.map_reverse,List.map_map,List.map_map]
 congr 1
 refine List.map_congr_left fun b hb=>?_
 obtain ⟨x,hx,rfl⟩:=h b hb
 show ix (otherB (L x)) = ix (L x) ^^^ 1
 rw [other_L hx,ix_L hx,ix_L (xor16 hx)]
theorem word_inv {s:ByteArray} (h:Good s.data.toList) (h8:checkF 8 s = 0):Good (InverseF s).data.toList ∧ Same (wordF (InverseF s)) (inv (wordF s)):=by
 have hg:Good (InverseF s).data.toList:=by
  unfold InverseF
  rw [if_pos h8]
  exact h.inv
 refine ⟨hg,(same_raw hg).trans ?_⟩
 rw [raw_inv h h8]
 exact (same_raw h).symm.inv
end Go.Proofs.YtffdjfkekdoeaaaDoor.Pl
end
section
set_option maxRecDepth 4000
set_option maxHeartbeats 2000000
namespace Go.Proofs.YtffdjfkekdoeaaaDoor.Pl
open Fo Rf Wd
section
variable {m r:Nat} {rows':List (Option Row)} {q:List Nat} {R:List Row}
theorem Auto.getN (h:Auto m r rows' q R) {j v x:Nat} (hj:q[j]? = some v) (hx:x < m):(∃ t i:Nat,To rows' v x t ∧ q[i]? = some t ∧ Fo.getN (R.map (·.map ofO)) j x = (i:Int)) ∨ ((∀ t,¬ To rows' v x t) ∧ Fo.getN (R.map (·.map ofO)) j x = -1):=by
 obtain ⟨k1,k2⟩:=h.num.row j v hj
 have hl:=h.len _ (List.mem_of_getElem? k1)
 have hxl:x < ((rowOf rows' v).map (Option.map q.idxOf)).length:=by rw [hl]; exact hx
 cases ho:((rowOf rows' v).map (Option.map q.idxOf))[x] with
 | some i=>
  have hx':((rowOf rows' v).map (Option.map q.idxOf))[x]? = some (some i):=by rw [List.getElem?_eq_getElem hxl,ho]
  obtain ⟨t,h1,h2⟩:=(h.to j v x hj i).1 ⟨_,k1,hx'⟩
  exact .inl ⟨t,i,h1,h2,next_get k1 hx'⟩
 | none=>
  refine .inr ⟨fun t ht=>?_,?_⟩
  ·obtain ⟨i,hi⟩:=h.next hj ht
   obtain ⟨row,e1,e2⟩:=(h.to j v x hj i).2 ⟨t,ht,hi⟩
   rw [k1] at e1; cases e1
   rw [List.getElem?_eq_getElem hxl,ho] at e2; cases e2
  ·have e:(R.map (·.map ofO)).getD j [] = ((rowOf rows' v).map (Option.map q.idxOf)).map ofO:=by rw [List.getD_eq_getElem?_getD,List.getElem?_map,k1]; rfl
   unfold Fo.getN
   rw [e,List.getD_eq_getElem?_getD,List.getElem?_map,List.getElem?_eq_getElem hxl,ho]; rfl
theorem Auto.leads (h:Auto m r rows' q R):∀ (l:List Nat) (j v:Nat),q[j]? = some v → (∀ x ∈ l,x < m) → ∀ (i t:Nat),q[i]? = some t → (leadsF (R.map (·.map ofO)) l j = (i:Int) ↔ Run (To rows') v l t)
 | [],j,v,hj,_,i,t,hi=>by
  simp only [leadsF]
  constructor
  ·intro he
   have:j = i:=by omega
   subst this
   rw [hj] at hi; cases hi
   exact .nil v
  ·intro hr
   cases hr
   obtain ⟨h1,h2⟩:=List.getElem?_eq_some_iff.1 hj
   obtain ⟨h3,h4⟩:=List.getElem?_eq_some_iff.1 hi
   have:=(List.getElem_inj (h₀:=h1) (h₁:=h3) h.num.nd).1 (by rw [h2,h4])
   omega
 | x :: l,j,v,hj,hl,i,t,hi=>by
  have hx:=hl x (by simp)
  have hrest:∀ y ∈ l,y < m:=fun y hy=>hl y (by simp [hy])
  have hs:leadsF (R.map (·.map ofO)) (x :: l) j = if Fo.getN (R.map (·.map ofO)) j x < 0 then Fo.getN (R.map (·.map ofO)) j x else leadsF (R.map (·.map ofO)) l (Fo.getN (R.map (·.map ofO)) j x).toNat:=rfl
  rw [hs]
  rcases h.getN hj hx with ⟨u,a,h1,h2,h3⟩ | ⟨h1,h3⟩
  ·rw [h3,if_neg (by omega),Int.toNat_natCast,Auto.leads h l a u h2 hrest i t hi]
   constructor
   ·exact fun hr=>.cons h1 hr
   ·intro hr
    cases hr with
    | cons k1 k2=>
     have:=h1.unique k1
     subst this
     exact k2
  ·rw [h3,if_pos (by omega)]
   constructor
   ·intro he; omega
   ·intro hr
    cases hr with
    | cons k1 k2=>exact absurd k1 (h1 _)
end
theorem reads {k:Nat} {gens:List ByteArray} {st:St} (hi:Inv (allE 1 (gens.map wordF)) st) (h0:0 < st.par.length) {rows':List (Option Row)} {o:Option (List Row)} (hm:MadeOf (2 * k) (rt st.par 0) (RowsOf st) rows' o) {q:List Nat} {R:List Row}
  (hA:Auto (2 * k) (rt st.par 0) rows' q R) {l:List Nat} (hl:Rd l) (hx:∀ x ∈ l,x < 2 * k):leadsF (R.map (·.map ofO)) l 0 = 0 ↔ Mem (gens.map wordF) l:=by
 rw [← lang_cut hi hm hl]
 exact hA.leads l 0 _ hA.first hx 0 _ hA.first
end Go.Proofs.YtffdjfkekdoeaaaDoor.Pl
end
section
set_option maxRecDepth 4000
set_option maxHeartbeats 2000000
namespace Go.Proofs.YtffdjfkekdoeaaaDoor.Pl
open Fo Rf Wd
def wordB (T:Tree) (s:Nat) (x t:Int):ByteArray:=ReduceF (T.paths.getD s ⟨#[]⟩ ++ letS x ++ InverseF (T.paths.getD t.toNat ⟨#[]⟩))
theorem basE_iff {T:Tree} {s:Nat} {b:ByteArray}:∀ (l:List (Int × Int × Unit)) (B:Bas),b ∈ (basE T s l B).basis ↔ b ∈ B.basis ∨ ∃ x t u,(x,t,u) ∈ l ∧ x.toNat % 2 = 0 ∧ ((s:Int),x) ∉ T.keys ∧ b = wordB T s x t
 | [],B=>by simp [basE]
 | (x,t,u) :: l,B=>by
  simp only [basE]
  split
  ·rename_i hc
   rw [basE_iff l]
   simp only [List.mem_append,List.mem_cons,List.not_mem_nil,or_false]
   constructor
   ·rintro ((h | h) | ⟨x',t',u',h1,h2⟩)
    ·exact .inl h
    ·exact .inr ⟨x,t,u,.inl rfl,hc.1,hc.2,h⟩
    ·exact .inr ⟨x',t',u',.inr h1,h2⟩
   ·rintro (h | ⟨x',t',u',h1 | h1,h2,h3,h4⟩)
    ·exact .inl (.inl h)
    ·simp only [Prod.mk.injEq] at h1
     obtain ⟨rfl,rfl,_⟩:=h1
     exact .inl (.inr h4)
    ·exact .inr ⟨x',t',u',h1,h2,h3,h4⟩
  ·rename_i hc
   rw [basE_iff l]
   simp only [List.mem_cons]
   constructor
   ·rintro (h | ⟨x',t',u',h1,h2⟩)
    ·exact .inl h
    ·exact .inr ⟨x',t',u',.inr h1,h2⟩
   ·rintro (h | ⟨x',t',u',h1 | h1,h2,h3,h4⟩)
    ·exact .inl h
    ·simp only [Prod.mk.injEq] at h1
     obtain ⟨rfl,rfl,_⟩:=h1
     exact absurd ⟨h2,h3⟩ hc
    ·exact .inr ⟨x',t',u',h1,h2,h3,h4⟩
theorem basR_iff {T:Tree} {b:ByteArray}:∀ (l:List (List Int)) (s:Nat) (B:Bas),b ∈ (basR T s l B).basis ↔ b ∈ B.basis ∨ ∃ i row,l[i]? = some row ∧ ∃ x t u,(x,t,u) ∈ edgesFrom 0 row ∧ x.toNat % 2 = 0 ∧ (((s + i:Nat):Int),x) ∉ T.keys ∧ b = wordB T (s + i) x t
 | [],s,B=>by simp [basR]
 | r :: l,s,B=>by
  simp only [basR]
  rw [basR_iff l (s + 1),basE_iff]
  constructor
  ·rintro ((h | h) | ⟨i,row,h1,h2⟩)
   ·exact .inl h
   ·exact .inr ⟨0,r,rfl,h⟩
   ·refine .inr ⟨i + 1,row,h1,?_⟩
    rw [show s + (i + 1) = s + 1 + i by omega]; exact h2
  ·rintro (h | ⟨i,row,h1,h2⟩)
   ·exact .inl (.inl h)
   ·cases i with
    | zero=>
     simp only [List.getElem?_cons_zero,Option.some.injEq] at h1
     subst h1
     exact .inl (.inr h2)
    | succ i=>
     refine .inr ⟨i,row,h1,?_⟩
     rw [show s + 1 + i = s + (i + 1) by omega]; exact h2
def pathR' (T:Tree) (s:Nat):List Nat:=rawF (T.paths.getD s ⟨#[]⟩)
section
variable {k:Int} {a:Aut}
theorem path_good (hk:k ≤ 8) (hc:a.check k = 0) {s:Nat} (hs:s < a.next.length):Good ((treeF a.next).paths.getD s ⟨#[]⟩).data.toList ∧ checkF 8 ((treeF a.next).paths.getD s ⟨#[]⟩) = 0 ∧ ((treeF a.next).paths.getD s ⟨#[]⟩).size ≤ 2000:=by
 obtain ⟨h1,h2,h3⟩:=tree_ok hk hc
 obtain ⟨_,_,n1,n2,_⟩:=check_spec hc
 have hm:=path_mem (T:=treeF a.next) (s:=s) (by rw [h1.len]; exact hs)
 have hg:Good ((treeF a.next).paths.getD s ⟨#[]⟩).data.toList:=h2.good _ hm
 have hz:=h1.small _ hm
 have:((treeF a.next).paths.getD s ⟨#[]⟩).size ≤ 2000:=by omega
 exact ⟨hg,check_good hg (by omega),this⟩
theorem letS_good {x:Nat} (h:x < 16):Good (letS (x:Int)).data.toList:=fun b hb=>by
 rw [letS_list] at hb
 simp only [List.mem_singleton] at hb
 exact ⟨x,h,hb⟩
theorem letS_raw {x:Nat} (h:x < 16):rawF (letS (x:Int)) = [x]:=by
 unfold rawF
 rw [letS_list,List.map_cons,ix_L h]; rfl
theorem wordB_same (hk:k ≤ 8) (hc:a.check k = 0) {s x t:Nat} (hs:s < a.next.length) (ht:t < a.next.length) (hx:x < 16) :
  Same (wordF (wordB (treeF a.next) s (x:Int) (t:Int))) (pathR' (treeF a.next) s ++ [x] ++ inv (pathR' (treeF a.next) t)):=by
 obtain ⟨g1,c1,z1⟩:=path_good hk hc hs
 obtain ⟨g2,c2,z2⟩:=path_good hk hc ht
 obtain ⟨g3,_⟩:=word_inv g2 c2
 unfold wordB pathR'
 rw [Int.toNat_natCast]
 generalize hA:(treeF a.next).paths.getD s ⟨#[]⟩ = A at *
 generalize hB:(treeF a.next).paths.getD t ⟨#[]⟩ = B at *
 have hg:Good (A ++ letS (x:Int) ++ InverseF B).data.toList:=by
  rw [app_list,app_list]
  exact (g1.app (letS_good hx)).app g3
 have hinv:(InverseF B).size ≤ 2000:=by
  unfold InverseF
  rw [if_pos c2,size_list]
  unfold invF
  simp
  rw [size_list] at z2
  simpa using z2
 have hsz:(A ++ letS (x:Int) ++ InverseF B).size ≤ 100000:=by
  have e1:(letS (x:Int)).size = 1:=by rw [size_list,letS_list]; rfl
  have e2:=size_list (InverseF B)
  have e3:=size_list A
  have e4:=size_list (letS (x:Int))
  rw [size_list,app_list,app_list,List.length_append,List.length_append]
  omega
 have hck:=check_good hg hsz
 have e:wordF (ReduceF (A ++ letS (x:Int) ++ InverseF B)) = wordF (A ++ letS (x:Int) ++ InverseF B):=by
  unfold wordF
  have:(ReduceF (A ++ letS (x:Int) ++ InverseF B)).data.toList = redF (A ++ letS (x:Int) ++ InverseF B).data.toList:=by
   unfold ReduceF; rw [if_pos hck]
  rw [this]
  have h2:redF (redF (A ++ letS (x:Int) ++ InverseF B).data.toList) = redF (A ++ letS (x:Int) ++ InverseF B).data.toList:=redF_red _
  rw [h2]
 rw [e]
 refine (same_raw hg).trans ?_
 rw [raw_app,raw_app,letS_raw hx,raw_inv g2 c2]
 exact Same.refl _
theorem tree_same (hk:k ≤ 8) (hc:a.check k = 0) {s x t:Nat} (ht:getN a.next s x = (t:Int)) (hkey:((s:Int),(x:Int)) ∈ (treeF a.next).keys):Same (pathR' (treeF a.next) s ++ [x] ++ inv (pathR' (treeF a.next) t)) []:=by
 obtain ⟨h1,h2,h3⟩:=tree_ok hk hc
 obtain ⟨u',y',t',e1,e2,e3,e4,e5,e6,e7,e8,e9⟩:=h2.keyw _ _ hkey
 have e1:s = u':=by omega
 have e2:x = y':=by omega
 subst e1 e2
 rw [ht] at e4
 have e4:t = t':=by omega
 subst e4
 obtain ⟨_,_,n1,n2,_⟩:=check_spec hc
 have hx:x < 16:=by omega
 unfold pathR' rawF
 rcases e9 with e9 | e9
 ·rw [e9,List.map_append,List.map_cons,ix_L hx]
  exact same_inv _
 ·rw [e9,List.map_append,List.map_cons,ix_L (xor16 hx)]
  generalize ((treeF a.next).paths.getD t ⟨#[]⟩).data.toList.map ix = Q
  have e:Q ++ [x ^^^ 1] ++ [x] ++ inv Q = Q ++ [x ^^^ 1,x] ++ inv Q:=by simp
  show Same (Q ++ [x ^^^ 1] ++ [x] ++ inv Q) []
  rw [e]
  have:=((Same.refl Q).app (same_pair' x)).app (Same.refl (inv Q))
  rw [List.append_nil] at this
  exact this.trans (same_inv Q)
end
end Go.Proofs.YtffdjfkekdoeaaaDoor.Pl
end
section
set_option maxRecDepth 4000
set_option maxHeartbeats 2000000
namespace Go.Proofs.YtffdjfkekdoeaaaDoor.Pl
open Fo Rf Wd
section
variable {k:Int} {a:Aut}
theorem getN_row (hc:a.check k = 0) {s x:Nat} (hs:s < a.next.length) (hx:x < 2 * k.toNat):∃ row,a.next[s]? = some row ∧ x < row.length ∧ getN a.next s x = row.getD x 0 ∧ -1 ≤ row.getD x 0 ∧ row.getD x 0 < (a.next.length:Int):=by
 obtain ⟨_,_,n1,n2,_,_,hrows⟩:=check_spec hc
 have hg:a.next[s]? = some a.next[s]:=List.getElem?_eq_getElem hs
 obtain ⟨h1,h2⟩:=hrows _ (List.getElem_mem hs)
 have hxl:x < a.next[s].length:=by omega
 refine ⟨_,hg,hxl,?_,?_⟩
 ·unfold getN; rw [List.getD_eq_getElem?_getD (l:=a.next),hg]; rfl
 ·rw [getD_get hxl]; exact h2 _ (List.getElem_mem hxl)
theorem edge_bas (hk:k ≤ 8) (hc:a.check k = 0) {s x t:Nat} (hs:s < a.next.length) (hx:x < 2 * k.toNat) (ht:getN a.next s x = (t:Int)) :
  t < a.next.length ∧ Mem ((basF a.next).basis.map wordF) (pathR' (treeF a.next) s ++ [x] ++ inv (pathR' (treeF a.next) t)):=by
 have even:∀ {s x t:Nat},s < a.next.length → x < 2 * k.toNat → getN a.next s x = (t:Int) → x % 2 = 0 → ((s:Int),(x:Int)) ∉ (treeF a.next).keys → Mem ((basF a.next).basis.map wordF) (pathR' (treeF a.next) s ++ [x] ++ inv (pathR' (treeF a.next) t)):=fun {s x t} hs hx ht h2 hno=>by
  obtain ⟨row,g1,g2,g3,g4,g5⟩:=getN_row hc hs hx
  rw [ht] at g3
  have ht':t < a.next.length:=by omega
  have he:=edges_of row 0 x g2 (by omega)
  rw [Nat.zero_add,← g3] at he
  have hb:wordB (treeF a.next) s (x:Int) (t:Int) ∈ (basF a.next).basis:=by
   unfold basF
   rw [basR_iff]
   refine .inr ⟨s,row,g1,(x:Int),(t:Int),(),he,by simpa using h2,?_,?_⟩
   ·rw [Nat.zero_add]; exact hno
   ·rw [Nat.zero_add]
  exact .same (.gen (List.mem_map_of_mem hb)) (wordB_same hk hc hs ht' (by omega))
 obtain ⟨row,g1,g2,g3,g4,g5⟩:=getN_row hc hs hx
 rw [ht] at g3
 have ht':t < a.next.length:=by omega
 refine ⟨ht',?_⟩
 by_cases hkey:((s:Int),(x:Int)) ∈ (treeF a.next).keys
 ·exact .same .one (tree_same hk hc ht hkey).symm
 ·by_cases h2:x % 2 = 0
  ·exact even hs hx ht h2 hkey
  ·have hb:=back_of hc hs hx (by rw [ht]; omega)
   rw [ht,Int.toNat_natCast] at hb
   have hx1:x ^^^ 1 < 2 * k.toNat:=xor_lt (by omega) hx
   have hno:((t:Int),((x ^^^ 1:Nat):Int)) ∉ (treeF a.next).keys:=fun hk'=>by
    obtain ⟨_,hW,_⟩:=tree_ok hk hc
    obtain ⟨u',y',t',e1,e2,e3,e4,e5,e6,e7,e8,e9⟩:=hW.keyw _ _ hk'
    have e1:t = u':=by omega
    have e2:x ^^^ 1 = y':=by omega
    subst e1 e2
    rw [hb] at e4
    have e4:s = t':=by omega
    subst e4
    rw [xor_two] at e7
    exact hkey e7
   have:=even ht' hx1 hb (by rw [xor1,if_neg h2]; omega) hno
   have:=mem_back this
   rwa [xor_two] at this
end
end Go.Proofs.YtffdjfkekdoeaaaDoor.Pl
end
section
set_option maxRecDepth 4000
set_option maxHeartbeats 2000000
namespace Go.Proofs.YtffdjfkekdoeaaaDoor.Pl
open Fo Rf Wd
section
variable {k:Int} {a:Aut}
def Dl (k:Int) (a:Aut) (s x t:Nat):Prop:=s < a.next.length ∧ x < 2 * k.toNat ∧ getN a.next s x = (t:Int)
theorem dl_aut (hk:k ≤ 8) (hc:a.check k = 0):Aut' (Dl k a) where
 det:=fun s x t t' h h'=>by have h1:=h.2.2; have h2:=h'.2.2; rw [h1] at h2; omega
 inv:=fun s x t ⟨h1,h2,h3⟩=>by
  have hb:=back_of hc h1 h2 (by rw [h3]; omega)
  rw [h3,Int.toNat_natCast] at hb
  exact ⟨(edge_bas hk hc h1 h2 h3).1,xor_lt (by omega) h2,hb⟩
end
end Go.Proofs.YtffdjfkekdoeaaaDoor.Pl
end
section
set_option maxRecDepth 4000
set_option maxHeartbeats 2000000
namespace Go.Proofs.YtffdjfkekdoeaaaDoor.Pl
open Fo Rf Wd
def Lg (δ:Nat → Nat → Nat → Prop) (v:Nat) (l:List Nat):Prop:=∃ p,Run δ v p v ∧ Same p l
def Er (E:List Edg) (s x t:Nat):Prop:=(s,x,t) ∈ E
theorem Run.mono {δ ε:Nat → Nat → Nat → Prop} {f:Nat → Nat} (hf:∀ s x t,δ s x t → ε (f s) x (f t)) {s t:Nat} {l:List Nat} (h:Run δ s l t):Run ε (f s) l (f t):=by
 induction h with
 | nil s=>exact .nil _
 | cons h1 _ ih=>exact .cons (hf _ _ _ h1) ih
theorem Run.rev {δ:Nat → Nat → Nat → Prop} (hb:∀ s x t,δ s x t → δ t (x ^^^ 1) s) {s t:Nat} {l:List Nat} (h:Run δ s l t):Run δ t (inv l) s:=by
 induction h with
 | nil s=>exact .nil s
 | cons h1 _ ih=>
  rw [inv_cons]
  exact ih.app (.one (hb _ _ _ h1))
theorem lg_hom {δ ε:Nat → Nat → Nat → Prop} {f g:Nat → Nat} {v u:Nat} (hf:∀ s x t,δ s x t → ε (f s) x (f t)) (hg:∀ s x t,ε s x t → δ (g s) x (g t)) (hfv:f v = u) (hgu:g u = v) (l:List Nat):Lg δ v l ↔ Lg ε u l:=by
 constructor
 ·rintro ⟨p,h1,h2⟩
  have:=h1.mono hf
  rw [hfv] at this
  exact ⟨p,this,h2⟩
 ·rintro ⟨p,h1,h2⟩
  have:=h1.mono hg
  rw [hgu] at this
  exact ⟨p,this,h2⟩
theorem same_mid {a b:List Nat} (h:Same b []) (c:List Nat):Same (a ++ b ++ c) (a ++ c):=by
 have:=((Same.refl a).app h).app (Same.refl c)
 rwa [List.append_nil] at this
structure FoldedD (k:Nat) (δ:Nat → Nat → Nat → Prop) (v:Nat) (o:Option (List Row)):Prop where
 ok:∃ E st rows',(∀ s x t,(s,x,t) ∈ E ↔ δ s x t) ∧ Inv E st ∧ Both E ∧ st.m = 2 * k ∧ v < st.par.length ∧ MadeOf (2 * k) (rt st.par v) (RowsOf st) rows' o
end Go.Proofs.YtffdjfkekdoeaaaDoor.Pl
end
section
set_option maxRecDepth 10000
namespace Go.Proofs.YtffdjfkekdoeaaaDoor
open Fw
noncomputable def cayleylaw21_copied.ann:Ann where
 loops:=fun | 3=>[(1,.sc .adr),(2,.sc .adr),(3,.sc .adr),(4,.sc (.int .i64))] | _=>[]
 joins:=fun | _=>none
noncomputable def cayleylaw21_copied.body:Code:=match Tryd.f42.body with | some c=>c | none=>.skip
def cayleylaw21_copied.sh (p0_0:Int) (p0_1:Int) (p0_2:Sl) (p0_3:Sl) (R:Ending → World → Prop) (w:World):Prop:=
 New w (.cells #[(.int .i64 p0_0),(.int .i64 p0_1),(.slice p0_2.a p0_2.n p0_2.c),(.slice p0_3.a p0_3.n p0_3.c)] 27) fun b1 w2=>
 New w2 (.cells #[(.int .i64 0),(.int .i64 0),(.slice none 0 0),(.slice none 0 0)] 27) fun b3 w4=>
 ∃ S5:World → Prop,S5 w4.drew ∧
 (LoadS S5 (.sc (.int .i64)) ((Addr.mk b1 0 none).add 0) fun x6=>
 LoadS S5 (.sc (.int .i64)) ((Addr.mk b1 0 none).add 1) fun x7=>
 LoadS S5 (.sc .sl) ((Addr.mk b1 0 none).add 2) fun x8=>
 (New w4.drew (.cells #[] 4) fun b9 w10=>
  S5 w10 ∧
  ((RunT Tryd.prog (.sc .sl) (Builtin.append_ #[24,24] 24 #[(.slice (some (Addr.mk b9 0 none)) 0 0),(.slice x8.a x8.n x8.c)]) w10 fun r11 w12=>
   S5 w12 ∧
   (New w12 (.cells #[(.int .i64 0),(.int .i64 0),(.slice none 0 0),(.slice none 0 0)] 27) fun b13 w14=>
    S5 w14 ∧
    (StoreN w14 (Addr.mk b13 0 none) [(.int .i64 x6),(.int .i64 x7),(.slice r11.a r11.n r11.c),(.slice none 0 0)] fun w15=>
     LoopT (σ:=Addr × Addr × Addr × Int × Unit) ((Addr.mk b1 0 none),(Addr.mk b3 0 none),(Addr.mk b13 0 none),0,()) w15 fun l16 g17 w18 I19=>
      LoadT (.sc .sl) w18 (l16.1.add 3) fun x20=>
      Br (decide ((l16.2.2.2.1:Int) < ((x20.n:Nat):Int)))
       (∃ S21:World → Prop,S21 w18.drew ∧
       (LoadS S21 (.sc .sl) (l16.2.2.1.add 3) fun x22=>
       LoadS S21 (.sc .sl) (l16.1.add 3) fun x23=>
       Idx x23.a x23.n 1 l16.2.2.2.1 fun a24=>
       LoadS S21 (.sc .sl) a24 fun x25=>
       New w18.drew (.cells #[] 3) fun b26 w27=>
        S21 w27 ∧
        (RunT Tryd.prog (.sc .sl) (Builtin.append_ #[85,85] 85 #[(.slice (some (Addr.mk b26 0 none)) 0 0),(.slice x25.a x25.n x25.c)]) w27 fun r28 w29=>
         S21 w29 ∧
         (New w29 (.cells #[(.slice r28.a r28.n r28.c)] 85) fun b30 w31=>
          S21 w31 ∧
          (RunT Tryd.prog (.sc .sl) (Builtin.append_ #[25,25] 25 #[(.slice x22.a x22.n x22.c),(.slice (some (Addr.mk b30 0 none)) 1 1)]) w31 fun r32 w33=>
           S21 w33 ∧
           (Store1 w33 (l16.2.2.1.add 3) (.slice r32.a r32.n r32.c) fun w34=>
            I19 (l16.1,l16.2.1,l16.2.2.1,(IntKind.wrap .i64 (l16.2.2.2.1 + 1)),()) w34))))))
       (LoadT (.agg [.int .i64,.int .i64,.sl,.sl]) w18 l16.2.2.1 fun x35=>
       StoreN w18 l16.2.1 [(.int .i64 x35.1),(.int .i64 x35.2.1),(.slice x35.2.2.1.a x35.2.2.1.n x35.2.2.1.c),(.slice x35.2.2.2.1.a x35.2.2.2.1.n x35.2.2.2.1.c)] fun w36=>
       LoadT (.agg [.int .i64,.int .i64,.sl,.sl]) w36 l16.2.1 fun x37=>
       R (.returned (.agg #[(.int .i64 x37.1),(.int .i64 x37.2.1),(.slice x37.2.2.1.a x37.2.2.1.n x37.2.2.1.c),(.slice x37.2.2.2.1.a x37.2.2.2.1.n x37.2.2.2.1.c)])) w36)))) ∧
  (New w10 (.cells #[(.int .i64 0),(.int .i64 0),(.slice none 0 0),(.slice none 0 0)] 27) fun b38 w39=>
   S5 w39 ∧
   (RunT Tryd.prog (.sc .sl) (Builtin.append_ #[24,24] 24 #[(.slice (some (Addr.mk b9 0 none)) 0 0),(.slice x8.a x8.n x8.c)]) w39 fun r40 w41=>
    S5 w41 ∧
    (StoreN w41 (Addr.mk b38 0 none) [(.int .i64 x6),(.int .i64 x7),(.slice r40.a r40.n r40.c),(.slice none 0 0)] fun w42=>
     LoopT (σ:=Addr × Addr × Addr × Int × Unit) ((Addr.mk b1 0 none),(Addr.mk b3 0 none),(Addr.mk b38 0 none),0,()) w42 fun l43 g44 w45 I46=>
      LoadT (.sc .sl) w45 (l43.1.add 3) fun x47=>
      Br (decide ((l43.2.2.2.1:Int) < ((x47.n:Nat):Int)))
       (∃ S48:World → Prop,S48 w45.drew ∧
       (LoadS S48 (.sc .sl) (l43.2.2.1.add 3) fun x49=>
       LoadS S48 (.sc .sl) (l43.1.add 3) fun x50=>
       Idx x50.a x50.n 1 l43.2.2.2.1 fun a51=>
       LoadS S48 (.sc .sl) a51 fun x52=>
       New w45.drew (.cells #[] 3) fun b53 w54=>
        S48 w54 ∧
        (RunT Tryd.prog (.sc .sl) (Builtin.append_ #[85,85] 85 #[(.slice (some (Addr.mk b53 0 none)) 0 0),(.slice x52.a x52.n x52.c)]) w54 fun r55 w56=>
         S48 w56 ∧
         (New w56 (.cells #[(.slice r55.a r55.n r55.c)] 85) fun b57 w58=>
          S48 w58 ∧
          (RunT Tryd.prog (.sc .sl) (Builtin.append_ #[25,25] 25 #[(.slice x49.a x49.n x49.c),(.slice (some (Addr.mk b57 0 none)) 1 1)]) w58 fun r59 w60=>
           S48 w60 ∧
           (Store1 w60 (l43.2.2.1.add 3) (.slice r59.a r59.n r59.c) fun w61=>
            I46 (l43.1,l43.2.1,l43.2.2.1,(IntKind.wrap .i64 (l43.2.2.2.1 + 1)),()) w61))))))
       (LoadT (.agg [.int .i64,.int .i64,.sl,.sl]) w45 l43.2.2.1 fun x62=>
       StoreN w45 l43.2.1 [(.int .i64 x62.1),(.int .i64 x62.2.1),(.slice x62.2.2.1.a x62.2.2.1.n x62.2.2.1.c),(.slice x62.2.2.2.1.a x62.2.2.2.1.n x62.2.2.2.1.c)] fun w63=>
       LoadT (.agg [.int .i64,.int .i64,.sl,.sl]) w63 l43.2.1 fun x64=>
       R (.returned (.agg #[(.int .i64 x64.1),(.int .i64 x64.2.1),(.slice x64.2.2.1.a x64.2.2.1.n x64.2.2.1.c),(.slice x64.2.2.2.1.a x64.2.2.2.1.n x64.2.2.2.1.c)])) w63)))))) ∧
 (New w4.drew (.cells #[(.int .i64 0),(.int .i64 0),(.slice none 0 0),(.slice none 0 0)] 27) fun b65 w66=>
  S5 w66 ∧
  (New w66 (.cells #[] 4) fun b67 w68=>
   S5 w68 ∧
   (RunT Tryd.prog (.sc .sl) (Builtin.append_ #[24,24] 24 #[(.slice (some (Addr.mk b67 0 none)) 0 0),(.slice x8.a x8.n x8.c)]) w68 fun r69 w70=>
    S5 w70 ∧
    (StoreN w70 (Addr.mk b65 0 none) [(.int .i64 x6),(.int .i64 x7),(.slice r69.a r69.n r69.c),(.slice none 0 0)] fun w71=>
     LoopT (σ:=Addr × Addr × Addr × Int × Unit) ((Addr.mk b1 0 none),(Addr.mk b3 0 none),(Addr.mk b65 0 none),0,()) w71 fun l72 g73 w74 I75=>
      LoadT (.sc .sl) w74 (l72.1.add 3) fun x76=>
      Br (decide ((l72.2.2.2.1:Int) < ((x76.n:Nat):Int)))
       (∃ S77:World → Prop,S77 w74.drew ∧
       (LoadS S77 (.sc .sl) (l72.2.2.1.add 3) fun x78=>
       LoadS S77 (.sc .sl) (l72.1.add 3) fun x79=>
       Idx x79.a x79.n 1 l72.2.2.2.1 fun a80=>
       LoadS S77 (.sc .sl) a80 fun x81=>
       New w74.drew (.cells #[] 3) fun b82 w83=>
        S77 w83 ∧
        (RunT Tryd.prog (.sc .sl) (Builtin.append_ #[85,85] 85 #[(.slice (some (Addr.mk b82 0 none)) 0 0),(.slice x81.a x81.n x81.c)]) w83 fun r84 w85=>
         S77 w85 ∧
         (New w85 (.cells #[(.slice r84.a r84.n r84.c)] 85) fun b86 w87=>
          S77 w87 ∧
          (RunT Tryd.prog (.sc .sl) (Builtin.append_ #[25,25] 25 #[(.slice x78.a x78.n x78.c),(.slice (some (Addr.mk b86 0 none)) 1 1)]) w87 fun r88 w89=>
           S77 w89 ∧
           (Store1 w89 (l72.2.2.1.add 3) (.slice r88.a r88.n r88.c) fun w90=>
            I75 (l72.1,l72.2.1,l72.2.2.1,(IntKind.wrap .i64 (l72.2.2.2.1 + 1)),()) w90))))))
       (LoadT (.agg [.int .i64,.int .i64,.sl,.sl]) w74 l72.2.2.1 fun x91=>
       StoreN w74 l72.2.1 [(.int .i64 x91.1),(.int .i64 x91.2.1),(.slice x91.2.2.1.a x91.2.2.1.n x91.2.2.1.c),(.slice x91.2.2.2.1.a x91.2.2.2.1.n x91.2.2.2.1.c)] fun w92=>
       LoadT (.agg [.int .i64,.int .i64,.sl,.sl]) w92 l72.2.1 fun x93=>
       R (.returned (.agg #[(.int .i64 x93.1),(.int .i64 x93.2.1),(.slice x93.2.2.1.a x93.2.2.1.n x93.2.2.1.c),(.slice x93.2.2.2.1.a x93.2.2.2.1.n x93.2.2.2.1.c)])) w92))))))
theorem cayleylaw21_copied.calls (p0_0:Int) (p0_1:Int) (p0_2:Sl) (p0_3:Sl) {R:Ending → World → Prop} {w:World} (h:cayleylaw21_copied.sh p0_0 p0_1 p0_2 p0_3 R w):Calls Tryd.prog 42 #[(.agg #[(.int .i64 p0_0),(.int .i64 p0_1),(.slice p0_2.a p0_2.n p0_2.c),(.slice p0_3.a p0_3.n p0_3.c)])] w R:=calls_of_wpc mixed Tryd.func42 (by kernel_rfl) (by kernel_rfl) ((show _ = wpc Tryd.prog cayleylaw21_copied.ann cayleylaw21_copied.body (fnKs Tryd.prog Tryd.f42 R) [] (env0 #[(.agg #[(.int .i64 p0_0),(.int .i64 p0_1),(.slice p0_2.a p0_2.n p0_2.c),(.slice p0_3.a p0_3.n p0_3.c)])]) w by kernel_rfl).mp h)
noncomputable def cayleylaw21_equal.ann:Ann where
 loops:=fun | 4=>[(2,.sc .adr),(3,.sc .adr),(5,.sc (.int .i64))] | 9=>[(2,.sc .adr),(3,.sc .adr),(6,.sc (.int .i64))] | 14=>[(2,.sc .adr),(3,.sc .adr),(6,.sc (.int .i64)),(7,.sc (.int .i64))] | _=>[]
 joins:=fun | 3=>some [(2,.sc .adr),(3,.sc .adr)] | _=>none
noncomputable def cayleylaw21_equal.body:Code:=match Tryd.f43.body with | some c=>c | none=>.skip
def cayleylaw21_equal.sh (p0_0:Int) (p0_1:Int) (p0_2:Sl) (p0_3:Sl) (p1_0:Int) (p1_1:Int) (p1_2:Sl) (p1_3:Sl) (R:Ending → World → Prop) (w:World):Prop:=
 New w (.cells #[(.int .i64 p0_0),(.int .i64 p0_1),(.slice p0_2.a p0_2.n p0_2.c),(.slice p0_3.a p0_3.n p0_3.c)] 27) fun b1 w2=>
 New w2 (.cells #[(.int .i64 p1_0),(.int .i64 p1_1),(.slice p1_2.a p1_2.n p1_2.c),(.slice p1_3.a p1_3.n p1_3.c)] 27) fun b3 w4=>
 Join (σ:=Addr × Addr × Unit) (fun j7 g6 w16=>
  LoopT (σ:=Addr × Addr × Int × Unit) (j7.1,j7.2.1,0,()) w16 fun l17 g18 w19 I20=>
   LoadT (.sc .sl) w19 (l17.1.add 2) fun x21=>
   Br (decide ((l17.2.2.1:Int) < ((x21.n:Nat):Int)))
    (LoadT (.sc .sl) w19.drew (l17.1.add 2) fun x22=>
    Idx x22.a x22.n 1 l17.2.2.1 fun a23=>
    LoadT (.sc .bool) w19.drew a23 fun x24=>
    LoadT (.sc .sl) w19.drew (l17.2.1.add 2) fun x25=>
    Idx x25.a x25.n 1 l17.2.2.1 fun a26=>
    LoadT (.sc .bool) w19.drew a26 fun x27=>
    Br (!(x24 == x27))
     (R (.returned (.bool false)) w19.drew)
     (I20 (l17.1,l17.2.1,(IntKind.wrap .i64 (l17.2.2.1 + 1)),()) w19.drew))
    (LoopT (σ:=Addr × Addr × Int × Unit) (l17.1,l17.2.1,0,()) w19 fun l28 g29 w30 I31=>
     LoadT (.sc .sl) w30 (l28.1.add 3) fun x32=>
     Br (decide ((l28.2.2.1:Int) < ((x32.n:Nat):Int)))
      (LoadT (.sc .sl) w30.drew (l28.1.add 3) fun x33=>
      Idx x33.a x33.n 1 l28.2.2.1 fun a34=>
      LoadT (.sc .sl) w30.drew a34 fun x35=>
      LoadT (.sc .sl) w30.drew (l28.2.1.add 3) fun x36=>
      Idx x36.a x36.n 1 l28.2.2.1 fun a37=>
      LoadT (.sc .sl) w30.drew a37 fun x38=>
      Br ((((x35.n:Nat):Int):Int) != ((x38.n:Nat):Int))
       (R (.returned (.bool false)) w30.drew)
       (LoopT (σ:=Addr × Addr × Int × Int × Unit) (l28.1,l28.2.1,l28.2.2.1,0,()) w30.drew fun l39 g40 w41 I42=>
        LoadT (.sc .sl) w41 (l39.1.add 3) fun x43=>
        Idx x43.a x43.n 1 l39.2.2.1 fun a44=>
        LoadT (.sc .sl) w41 a44 fun x45=>
        Br (decide ((l39.2.2.2.1:Int) < ((x45.n:Nat):Int)))
         (LoadT (.sc .sl) w41.drew (l39.1.add 3) fun x46=>
         Idx x46.a x46.n 1 l39.2.2.1 fun a47=>
         LoadT (.sc .sl) w41.drew a47 fun x48=>
         Idx x48.a x48.n 1 l39.2.2.2.1 fun a49=>
         LoadT (.sc (.int .i64)) w41.drew a49 fun x50=>
         LoadT (.sc .sl) w41.drew (l39.2.1.add 3) fun x51=>
         Idx x51.a x51.n 1 l39.2.2.1 fun a52=>
         LoadT (.sc .sl) w41.drew a52 fun x53=>
         Idx x53.a x53.n 1 l39.2.2.2.1 fun a54=>
         LoadT (.sc (.int .i64)) w41.drew a54 fun x55=>
         Br ((x50:Int) != x55)
          (R (.returned (.bool false)) w41.drew)
          (I42 (l39.1,l39.2.1,l39.2.2.1,(IntKind.wrap .i64 (l39.2.2.2.1 + 1)),()) w41.drew))
         (I31 (l39.1,l39.2.1,(IntKind.wrap .i64 (l39.2.2.1 + 1)),()) w41)))
      (R (.returned (.bool true)) w30))) fun J5=>
  LoadT (.sc (.int .i64)) w4 ((Addr.mk b1 0 none).add 0) fun x8=>
  LoadT (.sc (.int .i64)) w4 ((Addr.mk b3 0 none).add 0) fun x9=>
  Br ((x8:Int) != x9)
   (Br true
    (R (.returned (.bool false)) w4)
    (J5 ((Addr.mk b1 0 none),(Addr.mk b3 0 none),()) w4))
   (LoadT (.sc (.int .i64)) w4 ((Addr.mk b1 0 none).add 1) fun x10=>
   LoadT (.sc (.int .i64)) w4 ((Addr.mk b3 0 none).add 1) fun x11=>
   Br ((x10:Int) != x11)
    (Br true
     (R (.returned (.bool false)) w4)
     (J5 ((Addr.mk b1 0 none),(Addr.mk b3 0 none),()) w4))
    (LoadT (.sc .sl) w4 ((Addr.mk b1 0 none).add 2) fun x12=>
    LoadT (.sc .sl) w4 ((Addr.mk b3 0 none).add 2) fun x13=>
    Br ((((x12.n:Nat):Int):Int) != ((x13.n:Nat):Int))
     (Br true
      (R (.returned (.bool false)) w4)
      (J5 ((Addr.mk b1 0 none),(Addr.mk b3 0 none),()) w4))
     (LoadT (.sc .sl) w4 ((Addr.mk b1 0 none).add 3) fun x14=>
     LoadT (.sc .sl) w4 ((Addr.mk b3 0 none).add 3) fun x15=>
     Br ((((x14.n:Nat):Int):Int) != ((x15.n:Nat):Int))
      (R (.returned (.bool false)) w4)
      (J5 ((Addr.mk b1 0 none),(Addr.mk b3 0 none),()) w4))))
theorem cayleylaw21_equal.calls (p0_0:Int) (p0_1:Int) (p0_2:Sl) (p0_3:Sl) (p1_0:Int) (p1_1:Int) (p1_2:Sl) (p1_3:Sl) {R:Ending → World → Prop} {w:World} (h:cayleylaw21_equal.sh p0_0 p0_1 p0_2 p0_3 p1_0 p1_1 p1_2 p1_3 R w):Calls Tryd.prog 43 #[(.agg #[(.int .i64 p0_0),(.int .i64 p0_1),(.slice p0_2.a p0_2.n p0_2.c),(.slice p0_3.a p0_3.n p0_3.c)]),(.agg #[(.int .i64 p1_0),(.int .i64 p1_1),(.slice p1_2.a p1_2.n p1_2.c),(.slice p1_3.a p1_3.n p1_3.c)])] w R:=calls_of_wpc mixed Tryd.func43 (by kernel_rfl) (by kernel_rfl) ((show _ = wpc Tryd.prog cayleylaw21_equal.ann cayleylaw21_equal.body (fnKs Tryd.prog Tryd.f43 R) [] (env0 #[(.agg #[(.int .i64 p0_0),(.int .i64 p0_1),(.slice p0_2.a p0_2.n p0_2.c),(.slice p0_3.a p0_3.n p0_3.c)]),(.agg #[(.int .i64 p1_0),(.int .i64 p1_1),(.slice p1_2.a p1_2.n p1_2.c),(.slice p1_3.a p1_3.n p1_3.c)])]) w by kernel_rfl).mp h)
noncomputable def fold_folding_graft.ann:Ann where
 loops:=fun | 3=>[(3,.sc .adr),(4,.sc .adr),(6,.sc .adr),(15,.sc (.int .i64)),(16,.sc (.int .i64))] | 7=>[(3,.sc .adr),(4,.sc .adr),(6,.sc .adr),(26,.sc (.int .i64)),(27,.sc (.int .i64))] | _=>[]
 joins:=fun | _=>none
noncomputable def fold_folding_graft.body:Code:=match Tryd.f68.body with | some c=>c | none=>.skip
def fold_folding_graft.sh (p0:Option Addr) (p1_0:Int) (p1_1:Int) (p1_2:Sl) (p1_3:Sl) (p2:Int) (R:Ending → World → Prop) (w:World):Prop:=
 New w (.cells #[(.pointer p0)] 76) fun b1 w2=>
 New w2 (.cells #[(.int .i64 p1_0),(.int .i64 p1_1),(.slice p1_2.a p1_2.n p1_2.c),(.slice p1_3.a p1_3.n p1_3.c)] 27) fun b3 w4=>
 New w4 (.cells #[(.int .i64 p2)] 3) fun b5 w6=>
 New w6 (.cells #[(.slice none 0 0)] 85) fun b7 w8=>
 Store1 w8 (Addr.mk b7 0 none) (.slice (some (Addr.mk b5 0 none)) 1 1) fun w9=>
 LoadT (.sc .sl) w9 ((Addr.mk b3 0 none).add 3) fun x10=>
 LoopT (σ:=Addr × Addr × Addr × Int × Int × Unit) ((Addr.mk b1 0 none),(Addr.mk b3 0 none),(Addr.mk b7 0 none),(IntKind.wrap .i64 (((x10.n:Nat):Int) - 1)),0,()) w9 fun l11 g12 w13 I14=>
  Br (decide ((l11.2.2.2.2.1:Int) < l11.2.2.2.1))
   (∃ S15:World → Prop,S15 w13.drew ∧
   (LoadS S15 (.sc .sl) l11.2.2.1 fun x16=>
   LoadS S15 (.sc .ptr) l11.1 fun x17=>
   CallT Tryd.prog 66 #[(.pointer x17)] (.sc (.int .i64)) w13.drew (fun r18 w19=>
     S15 w19 ∧
     (New w19 (.cells #[(.int .i64 r18)] 3) fun b21 w22=>
      S15 w22 ∧
      (RunT Tryd.prog (.sc .sl) (Builtin.append_ #[85,85] 85 #[(.slice x16.a x16.n x16.c),(.slice (some (Addr.mk b21 0 none)) 1 1)]) w22 fun r23 w24=>
       S15 w24 ∧
       (Store1 w24 l11.2.2.1 (.slice r23.a r23.n r23.c) fun w25=>
        I14 (l11.1,l11.2.1,l11.2.2.1,l11.2.2.2.1,(IntKind.wrap .i64 (l11.2.2.2.2.1 + 1)),()) w25)))) (fun h20 w19=>R (.panicked h20) w19)))
   (LoadT (.sc .sl) w13 (l11.2.1.add 3) fun x26=>
   LoopD (σ:=Addr × Addr × Addr × Int × Int × Unit) (l11.1,l11.2.1,l11.2.2.1,((x26.n:Nat):Int),0,()) ([]) w13 fun l27 d31 g28 w29 I30=>
    Br (decide ((l27.2.2.2.2.1:Int) < l27.2.2.2.1))
     (New w29 (.cells #[(.int .i64 0)] 3) fun b32 w33=>
     Store1 w33 (Addr.mk b32 0 none) (.int .i64 l27.2.2.2.2.1) fun w34=>
     LoadT (.agg [.int .i64,.int .i64,.sl,.sl]) w34 l27.2.1 fun x35=>
     LoadT (.sc (.int .i64)) w34 (Addr.mk b32 0 none) fun x36=>
     CallT Tryd.prog 64 #[(.agg #[(.int .i64 x35.1),(.int .i64 x35.2.1),(.slice x35.2.2.1.a x35.2.2.1.n x35.2.2.1.c),(.slice x35.2.2.2.1.a x35.2.2.2.1.n x35.2.2.2.1.c)]),(.int .i64 x36)] (.sc (.clo 88 2)) w34 (fun r37 w38=>
      RangeF Tryd.prog 88 #[] #[(.pointer (some r37.1)),(.pointer (some r37.2.1))] [.sc (.int .i64),.sc (.int .i64)] w38 (fun x41 w42 Kc43 Kx44=>
       (2:Int) ≠ 0 ∧
        Br (((Int.tmod x41.1 2):Int) == 0)
         (LoadT (.sc .ptr) w42.drew l27.1 fun x48=>
         LoadT (.sc .sl) w42.drew l27.2.2.1 fun x49=>
         LoadT (.sc (.int .i64)) w42.drew (Addr.mk b32 0 none) fun x50=>
         Idx x49.a x49.n 1 x50 fun a51=>
         LoadT (.sc (.int .i64)) w42.drew a51 fun x52=>
         LoadT (.sc .sl) w42.drew l27.2.2.1 fun x53=>
         Idx x53.a x53.n 1 x41.2.1 fun a54=>
         LoadT (.sc (.int .i64)) w42.drew a54 fun x55=>
         CallN Tryd.prog 67 #[(.pointer x48),(.int .i64 x52),(.int .i64 x41.1),(.int .i64 x55)] [] w42.drew (fun r56 w57=>
          Kc43 w57) (fun h58 w57=>False))
         (Kc43 w42))
       (fun j45 d46 w47=>match j45 with
       | none=>
         I30 (l27.1,l27.2.1,l27.2.2.1,l27.2.2.2.1,(IntKind.wrap .i64 (l27.2.2.2.2.1 + 1)),()) (Fw.mark d46 :: d31) w47
       | some (.exit i)=>
        False
       | some .ret=>
         RetM (Fw.mark d46 :: d31) w47 fun z59=>
         R (.returned (.tuple #[])) z59
       | some _=>False)) (fun h39 w38=>RetM (d31) w38 fun z40=>R (.panicked h39) z40))
     (RetM (d31) w29 fun z60=>
     R (.returned (.tuple #[])) z60))
theorem fold_folding_graft.calls (p0:Option Addr) (p1_0:Int) (p1_1:Int) (p1_2:Sl) (p1_3:Sl) (p2:Int) {R:Ending → World → Prop} {w:World} (h:fold_folding_graft.sh p0 p1_0 p1_1 p1_2 p1_3 p2 R w):Calls Tryd.prog 68 #[(.pointer p0),(.agg #[(.int .i64 p1_0),(.int .i64 p1_1),(.slice p1_2.a p1_2.n p1_2.c),(.slice p1_3.a p1_3.n p1_3.c)]),(.int .i64 p2)] w R:=calls_of_wpc mixed Tryd.func68 (by kernel_rfl) (by kernel_rfl) ((show _ = wpc Tryd.prog fold_folding_graft.ann fold_folding_graft.body (fnKs Tryd.prog Tryd.f68 R) [] (env0 #[(.pointer p0),(.agg #[(.int .i64 p1_0),(.int .i64 p1_1),(.slice p1_2.a p1_2.n p1_2.c),(.slice p1_3.a p1_3.n p1_3.c)]),(.int .i64 p2)]) w by kernel_rfl).mp h)
noncomputable def fold_Join.ann:Ann where
 loops:=fun | _=>[]
 joins:=fun | _=>none
noncomputable def fold_Join.body:Code:=match Tryd.f34.body with | some c=>c | none=>.skip
def fold_Join.sh (p0:Int) (p1_0:Int) (p1_1:Int) (p1_2:Sl) (p1_3:Sl) (p2_0:Int) (p2_1:Int) (p2_2:Sl) (p2_3:Sl) (R:Ending → World → Prop) (w:World):Prop:=
 New w (.cells #[(.int .i64 p1_0),(.int .i64 p1_1),(.slice p1_2.a p1_2.n p1_2.c),(.slice p1_3.a p1_3.n p1_3.c)] 27) fun b1 w2=>
 New w2 (.cells #[(.int .i64 p2_0),(.int .i64 p2_1),(.slice p2_2.a p2_2.n p2_2.c),(.slice p2_3.a p2_3.n p2_3.c)] 27) fun b3 w4=>
 New w4 (.cells #[(.int .i64 0),(.int .i64 0),(.slice none 0 0),(.slice none 0 0)] 27) fun b5 w6=>
 LoadT (.agg [.int .i64,.int .i64,.sl,.sl]) w6 (Addr.mk b1 0 none) fun x7=>
 LoadT (.agg [.int .i64,.int .i64,.sl,.sl]) w6 (Addr.mk b3 0 none) fun x8=>
 New w6 (.cells #[(.int .i64 x7.1),(.int .i64 x7.2.1),(.slice x7.2.2.1.a x7.2.2.1.n x7.2.2.1.c),(.slice x7.2.2.2.1.a x7.2.2.2.1.n x7.2.2.2.1.c),(.int .i64 x8.1),(.int .i64 x8.2.1),(.slice x8.2.2.1.a x8.2.2.1.n x8.2.2.1.c),(.slice x8.2.2.2.1.a x8.2.2.2.1.n x8.2.2.2.1.c)] 27) fun b9 w10=>
 CallT Tryd.prog 55 #[(.int .i64 p0),(.slice (some (Addr.mk b9 0 none)) 2 2),(.slice none 0 0)] (.sc (.int .i64)) w10 (fun r11 w12=>
  Br ((r11:Int) != 0)
   (StoreN w12 (Addr.mk b5 0 none) [(.int .i64 0),(.int .i64 0),(.slice none 0 0),(.slice none 0 0)] fun w14=>
   LoadT (.agg [.int .i64,.int .i64,.sl,.sl]) w14 (Addr.mk b5 0 none) fun x15=>
   R (.returned (.tuple #[(.agg #[(.int .i64 x15.1),(.int .i64 x15.2.1),(.slice x15.2.2.1.a x15.2.2.1.n x15.2.2.1.c),(.slice x15.2.2.2.1.a x15.2.2.2.1.n x15.2.2.2.1.c)]),(.int .i64 r11)])) w14)
   (CallT Tryd.prog 46 #[(.int .i64 p0)] (.sc .ptr) w12 (fun r16 w17=>
    LoadT (.agg [.int .i64,.int .i64,.sl,.sl]) w17 (Addr.mk b1 0 none) fun x19=>
    CallN Tryd.prog 68 #[(.pointer r16),(.agg #[(.int .i64 x19.1),(.int .i64 x19.2.1),(.slice x19.2.2.1.a x19.2.2.1.n x19.2.2.1.c),(.slice x19.2.2.2.1.a x19.2.2.2.1.n x19.2.2.2.1.c)]),(.int .i64 0)] [] w17 (fun r20 w21=>
     LoadT (.agg [.int .i64,.int .i64,.sl,.sl]) w21 (Addr.mk b3 0 none) fun x23=>
     CallN Tryd.prog 68 #[(.pointer r16),(.agg #[(.int .i64 x23.1),(.int .i64 x23.2.1),(.slice x23.2.2.1.a x23.2.2.1.n x23.2.2.1.c),(.slice x23.2.2.2.1.a x23.2.2.2.1.n x23.2.2.2.1.c)]),(.int .i64 0)] [] w21 (fun r24 w25=>
      CallN Tryd.prog 49 #[(.pointer r16),(.int .i64 0)] [.agg [.int .i64,.int .i64,.sl,.sl],.sc (.int .i64)] w25 (fun r27 w28=>
       StoreN w28 (Addr.mk b5 0 none) [(.int .i64 r27.1.1),(.int .i64 r27.1.2.1),(.slice r27.1.2.2.1.a r27.1.2.2.1.n r27.1.2.2.1.c),(.slice r27.1.2.2.2.1.a r27.1.2.2.2.1.n r27.1.2.2.2.1.c)] fun w30=>
       LoadT (.agg [.int .i64,.int .i64,.sl,.sl]) w30 (Addr.mk b5 0 none) fun x31=>
       R (.returned (.tuple #[(.agg #[(.int .i64 x31.1),(.int .i64 x31.2.1),(.slice x31.2.2.1.a x31.2.2.1.n x31.2.2.1.c),(.slice x31.2.2.2.1.a x31.2.2.2.1.n x31.2.2.2.1.c)]),(.int .i64 r27.2.1)])) w30) (fun h29 w28=>R (.panicked h29) w28)) (fun h26 w25=>R (.panicked h26) w25)) (fun h22 w21=>R (.panicked h22) w21)) (fun h18 w17=>R (.panicked h18) w17))) (fun h13 w12=>R (.panicked h13) w12)
theorem fold_Join.calls (p0:Int) (p1_0:Int) (p1_1:Int) (p1_2:Sl) (p1_3:Sl) (p2_0:Int) (p2_1:Int) (p2_2:Sl) (p2_3:Sl) {R:Ending → World → Prop} {w:World} (h:fold_Join.sh p0 p1_0 p1_1 p1_2 p1_3 p2_0 p2_1 p2_2 p2_3 R w):Calls Tryd.prog 34 #[(.int .i64 p0),(.agg #[(.int .i64 p1_0),(.int .i64 p1_1),(.slice p1_2.a p1_2.n p1_2.c),(.slice p1_3.a p1_3.n p1_3.c)]),(.agg #[(.int .i64 p2_0),(.int .i64 p2_1),(.slice p2_2.a p2_2.n p2_2.c),(.slice p2_3.a p2_3.n p2_3.c)])] w R:=calls_of_wpc mixed Tryd.func34 (by kernel_rfl) (by kernel_rfl) ((show _ = wpc Tryd.prog fold_Join.ann fold_Join.body (fnKs Tryd.prog Tryd.f34 R) [] (env0 #[(.int .i64 p0),(.agg #[(.int .i64 p1_0),(.int .i64 p1_1),(.slice p1_2.a p1_2.n p1_2.c),(.slice p1_3.a p1_3.n p1_3.c)]),(.agg #[(.int .i64 p2_0),(.int .i64 p2_1),(.slice p2_2.a p2_2.n p2_2.c),(.slice p2_3.a p2_3.n p2_3.c)])]) w by kernel_rfl).mp h)
noncomputable def fold_Conjugate.ann:Ann where
 loops:=fun | _=>[]
 joins:=fun | 10=>some [(4,.sc .adr),(6,.sc .adr),(10,.sc .ptr),(11,.sc (.int .i64))] | _=>none
noncomputable def fold_Conjugate.body:Code:=match Tryd.f38.body with | some c=>c | none=>.skip
def fold_Conjugate.sh (p0:Int) (p1_0:Int) (p1_1:Int) (p1_2:Sl) (p1_3:Sl) (p2:ByteArray) (R:Ending → World → Prop) (w:World):Prop:=
 New w (.cells #[(.int .i64 p1_0),(.int .i64 p1_1),(.slice p1_2.a p1_2.n p1_2.c),(.slice p1_3.a p1_3.n p1_3.c)] 27) fun b1 w2=>
 New w2 (.cells #[(.int .i64 0),(.int .i64 0),(.slice none 0 0),(.slice none 0 0)] 27) fun b3 w4=>
 LoadT (.agg [.int .i64,.int .i64,.sl,.sl]) w4 (Addr.mk b1 0 none) fun x5=>
 New w4 (.cells #[(.int .i64 x5.1),(.int .i64 x5.2.1),(.slice x5.2.2.1.a x5.2.2.1.n x5.2.2.1.c),(.slice x5.2.2.2.1.a x5.2.2.2.1.n x5.2.2.2.1.c)] 27) fun b6 w7=>
 New w7 (.cells #[(.string p2)] 9) fun b8 w9=>
 CallT Tryd.prog 55 #[(.int .i64 p0),(.slice (some (Addr.mk b6 0 none)) 1 1),(.slice (some (Addr.mk b8 0 none)) 1 1)] (.sc (.int .i64)) w9 (fun r10 w11=>
  Br ((r10:Int) != 0)
   (StoreN w11 (Addr.mk b3 0 none) [(.int .i64 0),(.int .i64 0),(.slice none 0 0),(.slice none 0 0)] fun w13=>
   LoadT (.agg [.int .i64,.int .i64,.sl,.sl]) w13 (Addr.mk b3 0 none) fun x14=>
   R (.returned (.tuple #[(.agg #[(.int .i64 x14.1),(.int .i64 x14.2.1),(.slice x14.2.2.1.a x14.2.2.1.n x14.2.2.1.c),(.slice x14.2.2.2.1.a x14.2.2.2.1.n x14.2.2.2.1.c)]),(.int .i64 r10)])) w13)
   (CallT Tryd.prog 48 #[(.string p2)] (.sc .str) w11 (fun r15 w16=>
    CallT Tryd.prog 46 #[(.int .i64 p0)] (.sc .ptr) w16 (fun r18 w19=>
     Join (σ:=Addr × Addr × Option Addr × Int × Unit) (fun j23 g22 w30=>
      LoadT (.agg [.int .i64,.int .i64,.sl,.sl]) w30 j23.1 fun x31=>
      CallN Tryd.prog 68 #[(.pointer j23.2.2.1),(.agg #[(.int .i64 x31.1),(.int .i64 x31.2.1),(.slice x31.2.2.1.a x31.2.2.1.n x31.2.2.1.c),(.slice x31.2.2.2.1.a x31.2.2.2.1.n x31.2.2.2.1.c)]),(.int .i64 j23.2.2.2.1)] [] w30 (fun r32 w33=>
       CallN Tryd.prog 49 #[(.pointer j23.2.2.1),(.int .i64 0)] [.agg [.int .i64,.int .i64,.sl,.sl],.sc (.int .i64)] w33 (fun r35 w36=>
        StoreN w36 j23.2.1 [(.int .i64 r35.1.1),(.int .i64 r35.1.2.1),(.slice r35.1.2.2.1.a r35.1.2.2.1.n r35.1.2.2.1.c),(.slice r35.1.2.2.2.1.a r35.1.2.2.2.1.n r35.1.2.2.2.1.c)] fun w38=>
        LoadT (.agg [.int .i64,.int .i64,.sl,.sl]) w38 j23.2.1 fun x39=>
        R (.returned (.tuple #[(.agg #[(.int .i64 x39.1),(.int .i64 x39.2.1),(.slice x39.2.2.1.a x39.2.2.1.n x39.2.2.1.c),(.slice x39.2.2.2.1.a x39.2.2.2.1.n x39.2.2.2.1.c)]),(.int .i64 r35.2.1)])) w38) (fun h37 w36=>R (.panicked h37) w36)) (fun h34 w33=>R (.panicked h34) w33)) fun J21=>
      Br (!(r15.toList == (ByteArray.mk #[]).toList))
       (CallT Tryd.prog 66 #[(.pointer r18)] (.sc (.int .i64)) w19 (fun r24 w25=>
        CallN Tryd.prog 47 #[(.pointer r18),(.int .i64 0),(.string r15),(.int .i64 r24)] [] w25 (fun r27 w28=>
         J21 ((Addr.mk b1 0 none),(Addr.mk b3 0 none),r18,r24,()) w28) (fun h29 w28=>R (.panicked h29) w28)) (fun h26 w25=>R (.panicked h26) w25))
       (J21 ((Addr.mk b1 0 none),(Addr.mk b3 0 none),r18,0,()) w19)) (fun h20 w19=>R (.panicked h20) w19)) (fun h17 w16=>R (.panicked h17) w16))) (fun h12 w11=>R (.panicked h12) w11)
theorem fold_Conjugate.calls (p0:Int) (p1_0:Int) (p1_1:Int) (p1_2:Sl) (p1_3:Sl) (p2:ByteArray) {R:Ending → World → Prop} {w:World} (h:fold_Conjugate.sh p0 p1_0 p1_1 p1_2 p1_3 p2 R w):Calls Tryd.prog 38 #[(.int .i64 p0),(.agg #[(.int .i64 p1_0),(.int .i64 p1_1),(.slice p1_2.a p1_2.n p1_2.c),(.slice p1_3.a p1_3.n p1_3.c)]),(.string p2)] w R:=calls_of_wpc mixed Tryd.func38 (by kernel_rfl) (by kernel_rfl) ((show _ = wpc Tryd.prog fold_Conjugate.ann fold_Conjugate.body (fnKs Tryd.prog Tryd.f38 R) [] (env0 #[(.int .i64 p0),(.agg #[(.int .i64 p1_0),(.int .i64 p1_1),(.slice p1_2.a p1_2.n p1_2.c),(.slice p1_3.a p1_3.n p1_3.c)]),(.string p2)]) w by kernel_rfl).mp h)
noncomputable def fold_Intersect.ann:Ann where
 loops:=fun | 8=>[(4,.sc .adr),(5,.sc .adr),(6,.sc .adr),(7,.sc .adr),(9,.sc .adr),(10,.sc .adr),(11,.sc .adr),(12,.sc .adr)] | _=>[]
 joins:=fun | 23=>some [(11,.sc .adr),(12,.sc .adr),(13,.sc (.int .i64)),(17,.sc (.int .i64))] | _=>none
noncomputable def fold_Intersect.body:Code:=match Tryd.f33.body with | some c=>c | none=>.skip
def fold_Intersect.sh (p0:Int) (p1_0:Int) (p1_1:Int) (p1_2:Sl) (p1_3:Sl) (p2_0:Int) (p2_1:Int) (p2_2:Sl) (p2_3:Sl) (R:Ending → World → Prop) (w:World):Prop:=
 New w (.cells #[(.int .i64 p1_0),(.int .i64 p1_1),(.slice p1_2.a p1_2.n p1_2.c),(.slice p1_3.a p1_3.n p1_3.c)] 27) fun b1 w2=>
 New w2 (.cells #[(.int .i64 p2_0),(.int .i64 p2_1),(.slice p2_2.a p2_2.n p2_2.c),(.slice p2_3.a p2_3.n p2_3.c)] 27) fun b3 w4=>
 New w4 (.cells #[(.int .i64 0),(.int .i64 0),(.slice none 0 0),(.slice none 0 0)] 27) fun b5 w6=>
 New w6 (.cells #[(.int .i64 0)] 28) fun b7 w8=>
 LoadT (.agg [.int .i64,.int .i64,.sl,.sl]) w8 (Addr.mk b1 0 none) fun x9=>
 LoadT (.agg [.int .i64,.int .i64,.sl,.sl]) w8 (Addr.mk b3 0 none) fun x10=>
 New w8 (.cells #[(.int .i64 x9.1),(.int .i64 x9.2.1),(.slice x9.2.2.1.a x9.2.2.1.n x9.2.2.1.c),(.slice x9.2.2.2.1.a x9.2.2.2.1.n x9.2.2.2.1.c),(.int .i64 x10.1),(.int .i64 x10.2.1),(.slice x10.2.2.1.a x10.2.2.1.n x10.2.2.1.c),(.slice x10.2.2.2.1.a x10.2.2.2.1.n x10.2.2.2.1.c)] 27) fun b11 w12=>
 CallT Tryd.prog 55 #[(.int .i64 p0),(.slice (some (Addr.mk b11 0 none)) 2 2),(.slice none 0 0)] (.sc (.int .i64)) w12 (fun r13 w14=>
  Br ((r13:Int) != 0)
   (StoreN w14 (Addr.mk b5 0 none) [(.int .i64 0),(.int .i64 0),(.slice none 0 0),(.slice none 0 0)] fun w16=>
   Store1 w16 (Addr.mk b7 0 none) (.int .i64 r13) fun w17=>
   LoadT (.agg [.int .i64,.int .i64,.sl,.sl]) w17 (Addr.mk b5 0 none) fun x18=>
   LoadT (.sc (.int .i64)) w17 (Addr.mk b7 0 none) fun x19=>
   R (.returned (.tuple #[(.agg #[(.int .i64 x18.1),(.int .i64 x18.2.1),(.slice x18.2.2.1.a x18.2.2.1.n x18.2.2.1.c),(.slice x18.2.2.2.1.a x18.2.2.2.1.n x18.2.2.2.1.c)]),(.int .i64 x19)])) w17)
   (New w14 (.map #[] 0) fun b20 w21=>
   RunU Tryd.prog (Instr.mapUpdate 91 (.map (some b20)) (.agg #[(.int .i64 0),(.int .i64 0)]) (.int .i64 0)) w21 fun w22=>
   New w22 (.cells #[(.map none)] 91) fun b23 w24=>
   Store1 w24 (Addr.mk b23 0 none) (.map (some b20)) fun w25=>
   New w25 (.cells #[(.int .i64 0),(.int .i64 0)] 96) fun b26 w27=>
   New w27 (.cells #[(.slice none 0 0)] 106) fun b28 w29=>
   Store1 w29 (Addr.mk b28 0 none) (.slice (some (Addr.mk b26 0 none)) 1 1) fun w30=>
   CallT Tryd.prog 46 #[(.int .i64 p0)] (.sc .ptr) w30 (fun r31 w32=>
    New w32 (.cells #[(.pointer none)] 76) fun b34 w35=>
    Store1 w35 (Addr.mk b34 0 none) (.pointer r31) fun w36=>
    New w36 (.cells #[(.int .i64 0)] 3) fun b37 w38=>
    Store1 w38 (Addr.mk b37 0 none) (.int .i64 0) fun w39=>
    LoopD (σ:=Addr × Addr × Addr × Addr × Addr × Addr × Addr × Addr × Unit) ((Addr.mk b1 0 none),(Addr.mk b3 0 none),(Addr.mk b5 0 none),(Addr.mk b7 0 none),(Addr.mk b23 0 none),(Addr.mk b28 0 none),(Addr.mk b34 0 none),(Addr.mk b37 0 none),()) ([]) w39 fun l40 d44 g41 w42 I43=>
     LoadT (.sc (.int .i64)) w42 l40.2.2.2.2.2.2.2.1 fun x45=>
     LoadT (.sc .sl) w42 l40.2.2.2.2.2.1 fun x46=>
     Br (decide ((x45:Int) < ((x46.n:Nat):Int)))
      (LoadT (.agg [.int .i64,.int .i64,.sl,.sl]) w42.drew l40.1 fun x47=>
      LoadT (.sc .sl) w42.drew l40.2.2.2.2.2.1 fun x48=>
      LoadT (.sc (.int .i64)) w42.drew l40.2.2.2.2.2.2.2.1 fun x49=>
      Idx x48.a x48.n 2 x49 fun a50=>
      Idx (some a50) 2 1 0 fun a51=>
      LoadT (.sc (.int .i64)) w42.drew a51 fun x52=>
      CallT Tryd.prog 64 #[(.agg #[(.int .i64 x47.1),(.int .i64 x47.2.1),(.slice x47.2.2.1.a x47.2.2.1.n x47.2.2.1.c),(.slice x47.2.2.2.1.a x47.2.2.2.1.n x47.2.2.2.1.c)]),(.int .i64 x52)] (.sc (.clo 88 2)) w42.drew (fun r53 w54=>
       RangeF Tryd.prog 88 #[] #[(.pointer (some r53.1)),(.pointer (some r53.2.1))] [.sc (.int .i64),.sc (.int .i64)] w54 (fun x57 w58 Kc59 Kx60=>
        LoadT (.sc .sl) w58.drew (l40.2.1.add 3) fun x64=>
         LoadT (.sc .sl) w58.drew l40.2.2.2.2.2.1 fun x65=>
         LoadT (.sc (.int .i64)) w58.drew l40.2.2.2.2.2.2.2.1 fun x66=>
         Idx x65.a x65.n 2 x66 fun a67=>
         Idx (some a67) 2 1 1 fun a68=>
         LoadT (.sc (.int .i64)) w58.drew a68 fun x69=>
         Idx x64.a x64.n 1 x69 fun a70=>
         LoadT (.sc .sl) w58.drew a70 fun x71=>
         Idx x71.a x71.n 1 x57.1 fun a72=>
         LoadT (.sc (.int .i64)) w58.drew a72 fun x73=>
         Br (decide ((x73:Int) < 0))
          (Kc59 w58.drew)
          (New w58.drew (.cells #[(.int .i64 0),(.int .i64 0)] 96) fun b74 w75=>
          StoreN w75 (Addr.mk b74 0 none) [(.int .i64 x57.2.1),(.int .i64 x73)] fun w76=>
          LoadT (.sc .map) w76 l40.2.2.2.2.1 fun x77=>
          LoadT (.agg [.int .i64,.int .i64]) w76 (Addr.mk b74 0 none) fun x78=>
          RunN Tryd.prog [.sc (.int .i64),.sc .bool] (Instr.lookup 91 (.map x77) (.agg #[(.int .i64 x78.1),(.int .i64 x78.2.1)]) true) w76 fun r79 w80=>
          Join (σ:=Addr × Addr × Int × Int × Unit) (fun j83 g82 w101=>
           LoadT (.sc .ptr) w101 j83.1 fun x102=>
           LoadT (.sc (.int .i64)) w101 j83.2.1 fun x103=>
           CallN Tryd.prog 67 #[(.pointer x102),(.int .i64 x103),(.int .i64 j83.2.2.1),(.int .i64 j83.2.2.2.1)] [] w101 (fun r104 w105=>
            Kc59 w105) (fun h106 w105=>False)) fun J81=>
           Br (!r79.2.1)
            (LoadT (.sc .ptr) w80 l40.2.2.2.2.2.2.1 fun x84=>
            CallT Tryd.prog 66 #[(.pointer x84)] (.sc (.int .i64)) w80 (fun r85 w86=>
             LoadT (.sc .map) w86 l40.2.2.2.2.1 fun x88=>
             LoadT (.agg [.int .i64,.int .i64]) w86 (Addr.mk b74 0 none) fun x89=>
             RunU Tryd.prog (Instr.mapUpdate 91 (.map x88) (.agg #[(.int .i64 x89.1),(.int .i64 x89.2.1)]) (.int .i64 r85)) w86 fun w90=>
             LoadT (.sc .sl) w90 l40.2.2.2.2.2.1 fun x91=>
             LoadT (.agg [.int .i64,.int .i64]) w90 (Addr.mk b74 0 none) fun x92=>
             New w90 (.cells #[(.int .i64 x92.1),(.int .i64 x92.2.1)] 96) fun b93 w94=>
             RunT Tryd.prog (.sc .sl) (Builtin.append_ #[106,106] 106 #[(.slice x91.a x91.n x91.c),(.slice (some (Addr.mk b93 0 none)) 1 1)]) w94 fun r95 w96=>
             Store1 w96 l40.2.2.2.2.2.1 (.slice r95.a r95.n r95.c) fun w97=>
             LoadT (.sc .sl) w97 l40.2.2.2.2.2.1 fun x98=>
             Br (decide ((((x98.n:Nat):Int):Int) > 20000))
              (StoreN w97 l40.2.2.1 [(.int .i64 0),(.int .i64 0),(.slice none 0 0),(.slice none 0 0)] fun w99=>
              Store1 w99 l40.2.2.2.1 (.int .i64 2) fun w100=>
              Kx60 .ret w100)
              (J81 (l40.2.2.2.2.2.2.1,l40.2.2.2.2.2.2.2.1,x57.1,r85,()) w97)) (fun h87 w86=>False))
            (J81 (l40.2.2.2.2.2.2.1,l40.2.2.2.2.2.2.2.1,x57.1,r79.1,()) w80)))
        (fun j61 d62 w63=>match j61 with
        | none=>
          LoadT (.sc (.int .i64)) w63 l40.2.2.2.2.2.2.2.1 fun x107=>
          New w63 (.cells #[(.int .i64 0)] 3) fun b108 w109=>
          Store1 w109 (Addr.mk b108 0 none) (.int .i64 x107) fun w110=>
          LoadT (.sc (.int .i64)) w110 (Addr.mk b108 0 none) fun x111=>
          Store1 w110 (Addr.mk b108 0 none) (.int .i64 (IntKind.wrap .i64 (x111 + 1))) fun w112=>
          I43 (l40.1,l40.2.1,l40.2.2.1,l40.2.2.2.1,l40.2.2.2.2.1,l40.2.2.2.2.2.1,l40.2.2.2.2.2.2.1,(Addr.mk b108 0 none),()) (Fw.mark d62 :: d44) w112
        | some (.exit i)=>
         bif Nat.beq i 3 then
          False
         else False
        | some .ret=>
          RetM (Fw.mark d62 :: d44) w63 fun z113=>
          LoadT (.agg [.int .i64,.int .i64,.sl,.sl]) z113 l40.2.2.1 fun x114=>
          LoadT (.sc (.int .i64)) z113 l40.2.2.2.1 fun x115=>
          R (.returned (.tuple #[(.agg #[(.int .i64 x114.1),(.int .i64 x114.2.1),(.slice x114.2.2.1.a x114.2.2.1.n x114.2.2.1.c),(.slice x114.2.2.2.1.a x114.2.2.2.1.n x114.2.2.2.1.c)]),(.int .i64 x115)])) z113
        | some _=>False)) (fun h55 w54=>RetM (d44) w54 fun z56=>R (.panicked h55) z56))
      (LoadT (.sc .ptr) w42 l40.2.2.2.2.2.2.1 fun x116=>
      CallN Tryd.prog 49 #[(.pointer x116),(.int .i64 0)] [.agg [.int .i64,.int .i64,.sl,.sl],.sc (.int .i64)] w42 (fun r117 w118=>
       StoreN w118 l40.2.2.1 [(.int .i64 r117.1.1),(.int .i64 r117.1.2.1),(.slice r117.1.2.2.1.a r117.1.2.2.1.n r117.1.2.2.1.c),(.slice r117.1.2.2.2.1.a r117.1.2.2.2.1.n r117.1.2.2.2.1.c)] fun w121=>
       Store1 w121 l40.2.2.2.1 (.int .i64 r117.2.1) fun w122=>
       RetM (d44) w122 fun z123=>
       LoadT (.agg [.int .i64,.int .i64,.sl,.sl]) z123 l40.2.2.1 fun x124=>
       LoadT (.sc (.int .i64)) z123 l40.2.2.2.1 fun x125=>
       R (.returned (.tuple #[(.agg #[(.int .i64 x124.1),(.int .i64 x124.2.1),(.slice x124.2.2.1.a x124.2.2.1.n x124.2.2.1.c),(.slice x124.2.2.2.1.a x124.2.2.2.1.n x124.2.2.2.1.c)]),(.int .i64 x125)])) z123) (fun h119 w118=>RetM (d44) w118 fun z120=>R (.panicked h119) z120))) (fun h33 w32=>R (.panicked h33) w32))) (fun h15 w14=>R (.panicked h15) w14)
theorem fold_Intersect.calls (p0:Int) (p1_0:Int) (p1_1:Int) (p1_2:Sl) (p1_3:Sl) (p2_0:Int) (p2_1:Int) (p2_2:Sl) (p2_3:Sl) {R:Ending → World → Prop} {w:World} (h:fold_Intersect.sh p0 p1_0 p1_1 p1_2 p1_3 p2_0 p2_1 p2_2 p2_3 R w):Calls Tryd.prog 33 #[(.int .i64 p0),(.agg #[(.int .i64 p1_0),(.int .i64 p1_1),(.slice p1_2.a p1_2.n p1_2.c),(.slice p1_3.a p1_3.n p1_3.c)]),(.agg #[(.int .i64 p2_0),(.int .i64 p2_1),(.slice p2_2.a p2_2.n p2_2.c),(.slice p2_3.a p2_3.n p2_3.c)])] w R:=calls_of_wpc mixed Tryd.func33 (by kernel_rfl) (by kernel_rfl) ((show _ = wpc Tryd.prog fold_Intersect.ann fold_Intersect.body (fnKs Tryd.prog Tryd.f33 R) [] (env0 #[(.int .i64 p0),(.agg #[(.int .i64 p1_0),(.int .i64 p1_1),(.slice p1_2.a p1_2.n p1_2.c),(.slice p1_3.a p1_3.n p1_3.c)]),(.agg #[(.int .i64 p2_0),(.int .i64 p2_1),(.slice p2_2.a p2_2.n p2_2.c),(.slice p2_3.a p2_3.n p2_3.c)])]) w by kernel_rfl).mp h)
end Go.Proofs.YtffdjfkekdoeaaaDoor
end
section
set_option maxRecDepth 4000
set_option maxHeartbeats 4000000
namespace Go.Proofs.YtffdjfkekdoeaaaDoor.Fo
open Fw Wd Rf Pl
theorem Turn.chg {B:Nat} {V V':World} (t:Turn B V V'):Chg (fun k=>∃ r,V.heap[k]? = some (.loop r)) V V':=
 ⟨t.os,t.tape,t.output,t.size,fun k hk hs=>by
  have h:V.heap[k]? = some V.heap[k]:=Array.getElem?_eq_getElem hk
  rw [h]
  exact t.keep k _ h fun r hr=>hs ⟨r,by rw [h,hr]⟩⟩
theorem Rep.foot_cells {w:World} {fb:Nat} {st:St} {M:Mem} (h:Fo.Rep w fb st M) {k:Nat} (hk:M.foot fb k):∃ cur e,w.heap[k]? = some (.cells cur e (0,0)) ∧ e ≠ 76 ∧ e ≠ 27:=by
 rcases hk with rfl | hk | hk | hk | hk
 ·exact ⟨_,_,h.head,by decide,by decide⟩
 ·obtain ⟨c,hc⟩:=h.par.elem hk; exact ⟨_,_,hc,by decide,by decide⟩
 ·obtain ⟨c,hc⟩:=h.next.elem hk; exact ⟨_,_,hc,by decide,by decide⟩
 ·obtain ⟨c,hc⟩:=h.todo.elem hk; exact ⟨_,_,hc,by decide,by decide⟩
 ·obtain ⟨c,hc⟩:=h.rowElem hk; exact ⟨_,_,hc,by decide,by decide⟩
theorem Rep.turn {B:Nat} {w w':World} {fb:Nat} {st:St} {M:Mem} (h:Fo.Rep w fb st M) (t:Turn B w w'):Fo.Rep w' fb st M:=
 h.chg (Turn.chg t) fun k hk ⟨r,hr⟩=>by obtain ⟨c,e,hc,_⟩:=Rep.foot_cells h hk; rw [hc] at hr; cases hr
theorem Rep.keepL {w w':World} {fb:Nat} {st:St} {M:Mem} (h:Fo.Rep w fb st M) (hc:Chg (M.foot fb) w w'):KeepL w w':=
 KeepL.of' hc fun k hk=>by obtain ⟨c,e,hc,_⟩:=Rep.foot_cells h hk; exact ⟨_,hc,rfl⟩
theorem own_lit {w:World} {b n:Nat} {e:TypeId} {t:Ty} {cs:Array Value} {xs:List t.den} (h:w.heap[b]? = some (.cells cs e (0,0))) (hz:0 < t.sz) (hc:cs.toList = xs.flatMap t.cells) (hn:n = xs.length) (hm:n ≤ maxLen):OwnT w e t ⟨some ⟨b,0,none⟩,n,n⟩ xs:=by
 have hl:cs.size = n * t.sz:=by
  have:=congrArg List.length hc
  rw [flat_length] at this
  rw [hn,← this]; simp
 refine ⟨⟨by rw [flat_length,← hn],.inr ⟨b,n,cs,rfl,Nat.zero_le _,h,Nat.le_refl _,hm,hl,?_⟩⟩,hn⟩
 rw [← hc,← hl]
 exact List.take_of_length_le (by simp)
def atN (start n0 s:Nat):Nat:=if s = 0 then start else n0 + (s - 1)
def atL (start n0 j:Nat):List Int:=(List.range j).map fun s=>((atN start n0 s:Nat):Int)
theorem atL_succ (start n0 j:Nat):atL start n0 (j + 1) = atL start n0 j ++ [((atN start n0 j:Nat):Int)]:=by
 unfold atL
 rw [List.range_succ,List.map_append]; rfl
theorem atL_get {start n0 j s:Nat} (h:s < j):(atL start n0 j)[s]? = some ((atN start n0 s:Nat):Int):=by
 unfold atL
 rw [List.getElem?_map,List.getElem?_range h]; rfl
theorem atL_len (start n0 j:Nat):(atL start n0 j).length = j:=by unfold atL; simp
def evR (f:Nat → Nat) (s:Nat) (l:List (Int × Int × Unit)):List Ed:=l.flatMap fun e=>if e.1.toNat % 2 = 0 then [(f s,e.1.toNat,f e.2.1.toNat)] else []
def grE (f:Nat → Nat) (next:List (List Int)) (s:Nat):List Ed:=(List.range s).flatMap fun i=>evR f i (edgesFrom 0 (next.getD i []))
theorem evR_mem {f:Nat → Nat} {s:Nat} {l:List (Int × Int × Unit)} {e:Ed}:e ∈ evR f s l ↔ ∃ x t u,(x,t,u) ∈ l ∧ x.toNat % 2 = 0 ∧ e = (f s,x.toNat,f t.toNat):=by
 unfold evR
 rw [List.mem_flatMap]
 constructor
 ·rintro ⟨⟨x,t,u⟩,h1,h2⟩
  split at h2
  ·rename_i hp
   simp only [List.mem_singleton] at h2
   exact ⟨x,t,u,h1,hp,h2⟩
  ·simp at h2
 ·rintro ⟨x,t,u,h1,h2,h3⟩
  exact ⟨_,h1,by rw [if_pos h2]; simp [h3]⟩
theorem grE_dir {k:Nat} (hk:k ≤ 8) {a:Aut} (hc:a.check (k:Int) = 0) (f:Nat → Nat) {u y v:Nat}:Dir (grE f a.next a.next.length) u y v ↔ ∃ s x t,Dl (k:Int) a s x t ∧ u = f s ∧ y = x ∧ v = f t:=by
 have hA:=dl_aut (k:=(k:Int)) (by omega) hc
 obtain ⟨_,_,n1,n2,_,_,hrows⟩:=check_spec hc
 have ev:∀ {u y v:Nat},(u,y,v) ∈ grE f a.next a.next.length ↔ ∃ s x t,Dl (k:Int) a s x t ∧ x % 2 = 0 ∧ u = f s ∧ y = x ∧ v = f t:=fun {u y v}=>by
  unfold grE
  rw [List.mem_flatMap]
  constructor
  ·rintro ⟨s,hs,he⟩
   obtain ⟨x,t,un,h1,h2,h3⟩:=evR_mem.1 he
   have hs:=List.mem_range.1 hs
   have hg:a.next.getD s [] = a.next[s]:=getD_get hs
   rw [hg] at h1
   obtain ⟨i,g1,g2,g3⟩:=Pl.edges_mem _ 0 _ h1
   dsimp only at g1 g2 g3
   have hlt:=(List.getElem?_eq_some_iff.1 g1).1
   obtain ⟨r1,r2⟩:=hrows _ (List.getElem_mem hs)
   simp only [Prod.mk.injEq] at h3
   subst g2
   rw [Nat.zero_add] at *
   refine ⟨s,i,t.toNat,⟨hs,by rw [Int.toNat_natCast]; omega,?_⟩,by simpa using h2,h3.1,by simpa using h3.2.1,h3.2.2⟩
   unfold getN
   rw [hg,List.getD_eq_getElem?_getD,g1]
   show t = _
   omega
  ·rintro ⟨s,x,t,⟨h1,h2,h3⟩,h4,rfl,rfl,rfl⟩
   refine ⟨s,List.mem_range.2 h1,evR_mem.2 ⟨(y:Int),(t:Int),(),?_,by simpa using h4,by simp⟩⟩
   obtain ⟨row,g1,g2,g3,g4,g5⟩:=getN_row (k:=(k:Int)) hc h1 h2
   have hg:a.next.getD s [] = row:=by rw [List.getD_eq_getElem?_getD,g1]; rfl
   rw [hg]
   have he:=edges_of row 0 y g2 (by rw [← g3,h3]; omega)
   rw [Nat.zero_add,← g3,h3] at he
   exact he
 constructor
 ·rintro (⟨h1,h2⟩ | ⟨h1,h2⟩)
  ·obtain ⟨s,x,t,g1,g2,g3⟩:=ev.1 h2
   exact ⟨s,x,t,g1,g3⟩
  ·obtain ⟨s,x,t,g1,g2,g3,g4,g5⟩:=ev.1 h2
   have:=hA.inv _ _ _ g1
   rw [Pl.xor1,if_pos g2] at this
   exact ⟨t,x + 1,s,this,g5,by omega,g3⟩
 ·rintro ⟨s,x,t,h1,rfl,rfl,rfl⟩
  by_cases hx:y % 2 = 0
  ·exact .inl ⟨hx,ev.2 ⟨s,y,t,h1,hx,rfl,rfl,rfl⟩⟩
  ·have:=hA.inv _ _ _ h1
   rw [Pl.xor1,if_neg hx] at this
   exact .inr ⟨by omega,ev.2 ⟨t,y - 1,s,this,by omega,rfl,rfl,rfl⟩⟩
structure Gf (w0 w W:World) (rs:List Nat) (b1 b3 b7 fb:Nat) (M:Mem) (av:Array Value) (st1:St) (M1:Mem) (sat:Sl) (at':List Int):Prop where
 chg0:Chg Nil w0 W
 chg:Chg (M.foot fb) w W
 mks:Marks W rs
 mB:∀ r ∈ rs,w.heap.size ≤ r
 bB:w.heap.size ≤ b1 ∧ w.heap.size ≤ b3 ∧ w.heap.size ≤ b7
 c1:W.heap[b1]? = some (.cells #[.pointer (some (at0 fb))] 76 (0,0))
 c3:W.heap[b3]? = some (.cells av 27 (0,0))
 c7:W.heap[b7]? = some (.cells #[sat.v] 85 (0,0))
 rep:Fo.Rep W fb st1 M1
 foot:∀ k,M1.foot fb k → M.foot fb k ∨ w.heap.size ≤ k
 own:OwnT W 3 tI sat at'
 lo:∀ k,sat.own k → w.heap.size ≤ k
 ap:∀ k,M1.foot fb k → k ≠ b7 ∧ ¬ sat.own k
section
variable {w0 w W W':World} {rs:List Nat} {b1 b3 b7 fb:Nat} {M M1:Mem} {av:Array Value} {st1 st2:St} {sat:Sl} {at':List Int}
theorem Gf.cells (h:Gf w0 w W rs b1 b3 b7 fb M av st1 M1 sat at'):(∀ k,M1.foot fb k → k ≠ b1 ∧ k ≠ b3) ∧ ¬ sat.own b1 ∧ ¬ sat.own b3 ∧ ¬ sat.own b7:=by
 refine ⟨fun k hk=>?_,fun ho=>?_,fun ho=>?_,fun ho=>?_⟩
 ·obtain ⟨c,e,hc,n1,n2⟩:=Rep.foot_cells h.rep hk
  exact ⟨ne_of_elem hc h.c1 n1,ne_of_elem hc h.c3 n2⟩
 ·obtain ⟨c,hc⟩:=h.own.elem ho; have:=h.c1; rw [hc] at this; cases this
 ·obtain ⟨c,hc⟩:=h.own.elem ho; have:=h.c3; rw [hc] at this; cases this
 ·obtain ⟨c,hc⟩:=h.own.elem ho; have:=h.c7; rw [hc] at this; cases this
theorem Gf.nil (h:Gf w0 w W rs b1 b3 b7 fb M av st1 M1 sat at') (hc:Chg Nil W W'):Gf w0 w W' rs b1 b3 b7 fb M av st1 M1 sat at':=
 { chg0:=h.chg0.then hc,chg:=h.chg.then hc.nil,mks:=h.mks.chg hc (fun _ _ h=>h),mB:=h.mB,bB:=h.bB,c1:=hc.heap h.c1 (fun h=>h),c3:=hc.heap h.c3 (fun h=>h),c7:=hc.heap h.c7 (fun h=>h)
   rep:=h.rep.nil hc,foot:=h.foot,own:=h.own.chg hc (fun _ _ h=>h),lo:=h.lo,ap:=h.ap }
theorem Gf.turn {B:Nat} (h:Gf w0 w W rs b1 b3 b7 fb M av st1 M1 sat at') (t:Turn B W W') (hB:w.heap.size ≤ B) (hw:Chg Nil w0 w):Gf w0 w W' rs b1 b3 b7 fb M av st1 M1 sat at':=by
 have hle:=hw.size
 have c1:Chg (M.foot fb) w W':=⟨t.os.trans h.chg.os,t.tape.trans h.chg.tape,t.output.trans h.chg.output,Nat.le_trans h.chg.size t.size,fun k hk hs=>by
  rw [← h.chg.block k hk hs]; exact t.old k (by omega) (Nat.lt_of_lt_of_le hk h.chg.size)⟩
 exact { chg0:=h.chg0.turn t (by omega),chg:=c1,mks:=h.mks.turn t,mB:=h.mB,bB:=h.bB,c1:=t.cells h.c1,c3:=t.cells h.c3,c7:=t.cells h.c7
         rep:=Rep.turn h.rep t,foot:=h.foot,own:=OwnT.turn h.own t,lo:=h.lo,ap:=h.ap }
theorem Gf.step (h:Gf w0 w W rs b1 b3 b7 fb M av st1 M1 sat at') (hw:Chg Nil w0 w) (hf0:∀ k,M.foot fb k → w0.heap.size ≤ k) (k:Fo.Step fb M1 W W' st2):∃ M2,Gf w0 w W' rs b1 b3 b7 fb M av st2 M2 sat at':=by
 obtain ⟨⟨M2,hr2,hf2⟩,hc2⟩:=k
 obtain ⟨d1,d2,d3,d4⟩:=h.cells
 have hle:=h.chg.size
 have hlt:=h.own.lt
 refine ⟨M2,{ chg0:=h.chg0.trans hc2 (fun _ _ h=>h) (fun i hi hk=>?_),chg:=h.chg.trans hc2 (fun _ _ h=>h) (fun i hi hk=>?_),mks:=h.mks.chg hc2 (fun r hr hk=>?_),mB:=h.mB,bB:=h.bB
              c1:=hc2.heap h.c1 (fun hk=>(d1 _ hk).1 rfl),c3:=hc2.heap h.c3 (fun hk=>(d1 _ hk).2 rfl),c7:=hc2.heap h.c7 (fun hk=>(h.ap _ hk).1 rfl)
              rep:=hr2,foot:=fun k hk=>?_,own:=h.own.chg hc2 (fun a ha hk=>(h.ap _ hk).2 ⟨a,ha,rfl⟩),lo:=h.lo,ap:=fun k hk=>?_ }⟩
 ·rcases h.foot i hk with h1 | h1
  ·have:=hf0 i h1; omega
  ·have:=hw.size; omega
 ·rcases h.foot i hk with h1 | h1
  ·exact h1
  ·omega
 ·obtain ⟨c,e,hc,_⟩:=Rep.foot_cells h.rep hk
  have:=h.mks.2 r hr
  rw [hc] at this; cases this
 ·rcases hf2 k hk with h1 | h1
  ·exact h.foot k h1
  ·exact .inr (by omega)
 ·rcases hf2 k hk with h1 | h1
  ·exact h.ap k h1
  ·have l7:=lt_of_heap h.c7
   refine ⟨by omega,fun ⟨a,ha,he⟩=>?_⟩
   have:=hlt a ha
   omega
theorem Gf.mark (h:Gf w0 w W rs b1 b3 b7 fb M av st1 M1 sat at') {d:Nat} (hd:W.heap[d]? = some (.deferred (some []))) (hB:w.heap.size ≤ d) (hn:d ∉ rs):Gf w0 w W (d :: rs) b1 b3 b7 fb M av st1 M1 sat at':=
 { h with mks:=h.mks.cons hd hn,mB:=fun r hr=>by rcases List.mem_cons.1 hr with rfl | hr; exact hB; exact h.mB r hr }
end
theorem graft_ret {w0 w:World} {fb:Nat} {st:St} {M:Mem} (h:Fo.Rep w fb st M) (hw:Chg Nil w0 w) (hf0:∀ k,M.foot fb k → w0.heap.size ≤ k) {E:List Edg} (hI:Pl.Inv E st) (hB:Both E) {k:Nat} (hk:1 ≤ k ∧ k ≤ 8) (hm:st.m = 2 * k)
  {x:Int × Int × Sl × Sl × Unit} {a:Aut} (ha:AutIn w0 x a) (hc:a.check (k:Int) = 0) {start:Nat} (hst:start < st.par.length) (hsz:st.par.length ≤ 1000000) :
  RetN Tryd.prog 68 #[.pointer (some (at0 fb)),.agg #[.int .i64 x.1,.int .i64 x.2.1,x.2.2.1.v,x.2.2.2.1.v],.int .i64 (start:Int)] [] w fun _ w'=>
   ∃ E' st',Fo.Step fb M w w' st' ∧ Pl.Inv E' st' ∧ Both E' ∧ st'.m = st.m ∧ st'.par.length = st.par.length + (a.next.length - 1) ∧
    ∀ u y v,(u,y,v) ∈ E' ↔ (u,y,v) ∈ E ∨ ∃ s x t,Dl (k:Int) a s x t ∧ u = atN start st.par.length s ∧ y = x ∧ v = atN start st.par.length t:=by
 obtain ⟨x1,x2,sa,sn,_⟩:=x
 obtain ⟨_,_,hn1,hn2,hla,_,hrows⟩:=check_spec hc
 refine fold_folding_graft.calls _ x1 x2 sa sn (start:Int) ?_
 unfold fold_folding_graft.sh
 refine New.mk fun b1 w1 hb1 hh1 hs1 hc1=>?_
 refine New.mk fun b3 w2 hb3 hh3 hs3 hc3=>?_
 refine New.mk fun b5 w3 hb5 hh5 hs5 hc5=>?_
 refine New.mk fun b7 w4 hb7 hh7 hs7 hc7=>?_
 refine Store1.at0' hh7 (by show 0 < 1; decide) rfl fun w5 hh7' hc7' hsz7=>?_
 have hnn:sn.n = a.next.length:=by obtain ⟨_,_,_,sls,h4,h5,_⟩:=ha.rd; rw [h4.len,h5]
 generalize hav:(#[.int .i64 x1,.int .i64 x2,.slice sa.a sa.n sa.c,.slice sn.a sn.n sn.c]:Array Value) = av at *
 have e7:∀ j,j < b7 → ¬ (j = b7):=fun j hj he=>by omega
 have l1:=lt_of_heap hh1
 have l3:=lt_of_heap hh3
 have l5:=lt_of_heap hh5
 have hN5:Chg Nil w w5:=(((hc1.then hc3).then hc5).then hc7).trans hc7' (fun _ _ h=>h) fun i hi he=>by have he:i = b7:=he; omega
 have hown:OwnT w5 3 tI ⟨some ⟨b5,0,none⟩,1,1⟩ (atL start st.par.length 1):=by
  have h4:OwnT w4 3 tI ⟨some ⟨b5,0,none⟩,1,1⟩ (atL start st.par.length 1):=by
   exact own_lit (t:=tI) (hc7.heap hh5 fun h=>h) (by decide) rfl rfl (by decide)
  exact h4.chg hc7' fun ad had he=>by cases had; exact e7 b5 (by omega) he
 have hG0:Gf w0 w w5 [] b1 b3 b7 fb M av st M ⟨some ⟨b5,0,none⟩,1,1⟩ (atL start st.par.length 1):=by
  have hlt:=Fo.Rep.lt h
  exact { chg0:=hw.then hN5,chg:=hN5.nil,mks:=⟨List.nodup_nil,fun r hr=>by simp at hr⟩,mB:=by simp,bB:=by omega
          c1:=hc7'.heap (hc7.heap (hc5.heap (hc3.heap hh1 fun h=>h) fun h=>h) fun h=>h) (e7 _ (by omega))
          c3:=hc7'.heap (hc7.heap (hc5.heap hh3 fun h=>h) fun h=>h) (e7 _ (by omega)),c7:=hh7',rep:=h.nil hN5,foot:=fun _ h=>.inl h,own:=hown
          lo:=fun j hj=>by obtain ⟨ad,had,he⟩:=hj; cases had; dsimp only at he; omega
          ap:=fun j hj=>by have:=hlt j hj; exact ⟨by omega,fun ⟨ad,had,he⟩=>by cases had; dsimp only at he; omega⟩ }
 clear hown hh7' hh7 hh5 hh3 hh1 hc7' e7
 refine LoadT.sc (s:=.sl) (x:=sn) (by rw [cellOf hG0.c3,← hav]; rfl) ?_
 have hw1:IntKind.wrap .i64 (((sn.n:Nat):Int) - 1) = ((a.next.length - 1:Nat):Int):=by rw [hnn,wrap64 (by omega) (by omega)]; omega
 rw [hw1]
 -- the states
 refine LoopT.mk (fun y W=>∃ (j:Nat) (st1:St) (M1:Mem) (sat:Sl),j ≤ a.next.length - 1 ∧ y = (at0 b1,at0 b3,at0 b7,((a.next.length - 1:Nat):Int),(j:Int),()) ∧ Gf w0 w W [] b1 b3 b7 fb M av st1 M1 sat (atL start st.par.length (j + 1)) ∧
   Pl.Inv E st1 ∧ st1.m = st.m ∧ st1.par.length = st.par.length + j) (fun y _=>a.next.length - 1 - y.2.2.2.2.1.toNat) ⟨0,st,M,_,Nat.zero_le _,rfl,hG0,hI,rfl,rfl⟩ ?_
 clear hG0
 rintro y g W ⟨j,st1,M1,sat,hj,rfl,hG,hI1,hm1,hp1⟩
 dsimp only
 refine Br.dec (fun hlt=>?_) (fun hge=>?_)
 ·have hlt':j < a.next.length - 1:=by omega
  have hGd:=hG.nil (Chg.drew W)
  obtain ⟨st2,hs2,hI2,hm2,hp2⟩:=state_ev hI1 (by unfold big; omega)
  have hSl:∀ U:World,(U.heap[b7]? = some (.cells #[sat.v] 85 (0,0)) ∧ U.heap[b1]? = some (.cells #[.pointer (some (at0 fb))] 76 (0,0))) → U.cell? (at0 b7) = some (.slice sat.a sat.n sat.c) ∧ U.cell? (at0 b1) = some (.pointer (some (at0 fb))):=fun U hU=>⟨by rw [cellOf0 hU.1]; rfl,by rw [cellOf0 hU.2]; rfl⟩
  refine ⟨fun U:World=>U.heap[b7]? = some (.cells #[sat.v] 85 (0,0)) ∧ U.heap[b1]? = some (.cells #[.pointer (some (at0 fb))] 76 (0,0)),⟨hGd.c7,hGd.c1⟩,?_⟩
  refine LoadS.sc (s:=.sl) (x:=sat) (fun U hU=>(hSl U hU).1) ?_
  refine LoadS.sc (s:=.ptr) (x:=some (at0 fb)) (fun U hU=>(hSl U hU).2) ?_
  refine Ret.call (state_ret hGd.rep hs2) ?_
  rintro _ W1 ⟨rfl,hst1⟩
  obtain ⟨M2,hG1⟩:=hGd.step hw hf0 hst1
  refine ⟨⟨hG1.c7,hG1.c1⟩,?_⟩
  refine New.mk fun b21 W2 hb21 hn21 _ hc21=>?_
  have hG2:=hG1.nil hc21
  refine ⟨⟨hG2.c7,hG2.c1⟩,?_⟩
  have hle2:=hG2.chg.size
  have hsl:(atL start st.par.length (j + 1)).length = j + 1:=atL_len _ _ _
  refine OwnT.append (t:=tI) (m:=1) ok85 rfl (by decide) hG2.own [((st1.par.length:Nat):Int)] rfl (by decide) (fun i v hv=>by rw [cellOf hn21]; simpa [Ty.cells] using hv) (by rw [hsl]; omega) (by rw [hsl]; simp only [maxLen]; omega) fun sat' W3 ho3 hc3' hown3=>?_
  obtain ⟨d1,d2,d3,d4⟩:=hG2.cells
  have hb7:W3.heap[b7]? = some (.cells #[sat.v] 85 (0,0)):=hc3'.heap hG2.c7 d4
  have hb1':W3.heap[b1]? = some (.cells #[.pointer (some (at0 fb))] 76 (0,0)):=hc3'.heap hG2.c1 d2
  refine ⟨⟨hb7,hb1'⟩,?_⟩
  refine Store1.at0' hb7 (by show 0 < 1; decide) rfl fun W4 hb7' hc4 _=>?_
  have hle:=hG2.chg.size
  have hlt7:=lt_of_heap hG2.c7
  have hol:=hG2.own.lt
  have hn7:∀ i,sat'.own i → i ≠ b7:=fun i hi he=>by
   rcases hown3 i hi with h1 | h1
   ·exact d4 (he ▸ h1)
   ·omega
  have hfo:∀ i,M2.foot fb i → i ≠ b7 ∧ ¬ sat'.own i:=fun i hi=>⟨(hG2.ap i hi).1,fun ho=>by
   rcases hown3 i ho with h1 | h1
   ·exact (hG2.ap i hi).2 h1
   ·have:=Fo.Rep.lt hG2.rep i hi; omega⟩
  have hat:atL start st.par.length (j + 1) ++ [((st1.par.length:Nat):Int)] = atL start st.par.length (j + 1 + 1):=by
   rw [atL_succ start st.par.length (j + 1)]
   congr 2
   unfold atN
   rw [if_neg (by omega),hp1]; simp
  have hG4:Gf w0 w W4 [] b1 b3 b7 fb M av st2 M2 sat' (atL start st.par.length (j + 1 + 1)):=by
   have ho4:OwnT W4 3 tI sat' (atL start st.par.length (j + 1 + 1)):=by rw [← hat]; exact ho3.chg hc4 fun ad had he=>hn7 _ ⟨ad,had,rfl⟩ he
   have hw2:=hw.size
   exact { chg0:=(hG2.chg0.trans hc3' (fun _ _ h=>h) fun i hi ho=>by have:=hG2.lo i ho; omega).trans hc4 (fun _ _ h=>h) fun i hi he=>by have he:i = b7:=he; have:=hG2.bB.2.2; omega
           chg:=(hG2.chg.trans hc3' (fun _ _ h=>h) fun i hi ho=>by have:=hG2.lo i ho; omega).trans hc4 (fun _ _ h=>h) fun i hi he=>by have he:i = b7:=he; have:=hG2.bB.2.2; omega
           mks:=⟨List.nodup_nil,fun r hr=>by simp at hr⟩,mB:=by simp,bB:=hG2.bB
           c1:=hc4.heap hb1' fun he=>by have he:b1 = b7:=he; have:=hG2.c1; rw [he,hG2.c7] at this; cases this
           c3:=hc4.heap (hc3'.heap hG2.c3 d3) fun he=>by have he:b3 = b7:=he; have:=hG2.c3; rw [he,hG2.c7] at this; cases this
           c7:=hb7',rep:=(hG2.rep.chg hc3' fun i hi ho=>(hG2.ap i hi).2 ho).chg hc4 fun i hi he=>(hG2.ap i hi).1 he
           foot:=hG2.foot,own:=ho4
           lo:=fun i hi=>by
            rcases hown3 i hi with h1 | h1
            ·exact hG2.lo i h1
            ·omega
           ap:=hfo }
  rw [wrap64 (x:=(j:Int) + 1) (by omega) (by omega)]
  refine ⟨⟨j + 1,st2,M2,sat',hlt',rfl,hG4,hI2,by rw [hm2,hm1],by omega⟩,?_⟩
  show a.next.length - 1 - (j + 1) < a.next.length - 1 - j
  omega
 have hjl:j = a.next.length - 1:=by have:¬ (j:Int) < ((a.next.length - 1:Nat):Int):=hge; omega
 subst hjl
 have hn0:a.next.length - 1 + 1 = a.next.length:=by omega
 rw [hn0] at hG
 refine LoadT.sc (s:=.sl) (x:=sn) (by rw [cellOf hG.c3,← hav]; rfl) ?_
 -- the transitions
 have hbase:st1.par.length ≤ 1002000:=by omega
 refine ⟨fun y ds V=>∃ (s:Nat) (rs:List Nat) (st2:St) (M2:Mem) (E2:List Edg),s ≤ a.next.length ∧ y = (at0 b1,at0 b3,at0 b7,((sn.n:Nat):Int),(s:Int),()) ∧ ds = marksOf rs ∧ Gf w0 w V rs b1 b3 b7 fb M av st2 M2 sat (atL start st.par.length a.next.length) ∧
   Pl.Inv E2 st2 ∧ Both E2 ∧ st2.m = st.m ∧ st2.par.length = st1.par.length ∧ ∀ u y v,(u,y,v) ∈ E2 ↔ (u,y,v) ∈ E ∨ Dir (grE (atN start st.par.length) a.next s) u y v,fun y _=>a.next.length - y.2.2.2.2.1.toNat,
  ⟨0,[],st1,M1,E,Nat.zero_le _,rfl,rfl,hG,hI1,hB,hm1,rfl,fun u y v=>by simp [grE,Dir]⟩,?_⟩
 clear hG hI1
 rintro y ds g2 V ⟨s,rs,st2,M2,E2,hs,rfl,rfl,hG,hI2,hB2,hm2,hp2,hE2⟩
 dsimp only
 refine Br.dec (fun hlt=>?_) (fun hge=>?_)
 ·have hlt':s < a.next.length:=by omega
  have hrow':a.next[s]? = some a.next[s]:=List.getElem?_eq_getElem hlt'
  generalize hR:a.next[s] = row at hrow'
  have hgetS:a.next.getD s [] = row:=by rw [List.getD_eq_getElem?_getD,hrow']; rfl
  obtain ⟨hrlen,hrval⟩:=hrows row (List.mem_of_getElem? hrow')
  refine New.mk fun b32 V1 hb32 hh32 hs32 hc32=>?_
  refine Store1.at0' hh32 (by show 0 < 1; decide) rfl fun V2 hh32' hc32' hsz32=>?_
  have hN2:Chg Nil V V2:=hc32.trans hc32' (fun _ _ h=>h) fun i hi he=>by have he:i = b32:=he; omega
  have hG2:=hG.nil hN2
  refine LoadT.mk (.agg [.int .i64,.int .i64,.sl,.sl]) (x:=(x1,x2,sa,sn,())) (fun j v hv=>by rw [show at0 b3 = Addr.mk b3 0 none from rfl,cellOf hG2.c3,← hav]; simpa [Ty.cells] using hv) ?_
  refine LoadT.sc (s:=.int .i64) (x:=(s:Int)) (by rw [cellOf0 hh32']; rfl) ?_
  refine Ret.call (edges_ret (v0:=x1) (v1:=x2) (sa:=sa) (sn:=sn) (s:Int)) ?_
  rintro _ V3 ⟨q1,q3,rfl,hq1,hq3,hc23,hB1,hB3⟩
  have hq1:V3.heap[q1]? = some (.cells av 27 (0,0)):=by rw [← hav]; exact hq1
  have hG3:=hG2.nil hc23
  have hh32'':=hc23.heap hh32' fun h=>h
  obtain ⟨_,_,_,sls,hrn0,hsl,hrws0,_⟩:=ha.rd
  have hrn0:RdT w0 (.sc .sl) sn sls:=hrn0
  obtain ⟨rsl,hrsl⟩:∃ rsl,sls[s]? = some rsl:=⟨_,List.getElem?_eq_getElem (by rw [hsl]; exact hlt')⟩
  have hrr:=hrws0 s rsl row hrsl hrow'
  have hsz3:w.heap.size ≤ V3.heap.size:=hG3.chg.size
  have lv3:=Fo.Rep.lt hG3.rep
  -- these cells no folding touches
  have hap3:∀ i,M2.foot fb i → i ≠ b32 ∧ i ≠ q1 ∧ i ≠ q3:=fun i hi=>by
   have:=Fo.Rep.lt hG.rep i hi
   have:=hN2.size
   have:=hc32.size
   omega
  refine ⟨edgesFrom 0 row,_,fun i U=>∃ (st3:St) (M3:Mem) (E3:List Edg),Gf w0 w U rs b1 b3 b7 fb M av st3 M3 sat (atL start st.par.length a.next.length) ∧ U.heap[b32]? = some (.cells #[.int .i64 (s:Int)] 3 (0,0)) ∧ U.heap[q1]? = some (.cells av 27 (0,0)) ∧ U.heap[q3]? = some (.cells #[.int .i64 (s:Int)] 3 (0,0)) ∧
    (∀ i,M3.foot fb i → i ≠ b32 ∧ i ≠ q1 ∧ i ≠ q3) ∧ Pl.Inv E3 st3 ∧ Both E3 ∧ st3.m = st.m ∧ st3.par.length = st1.par.length ∧ ∀ u y v,(u,y,v) ∈ E3 ↔ (u,y,v) ∈ E ∨ Dir (grE (atN start st.par.length) a.next s ++ evR (atN start st.par.length) s ((edgesFrom 0 row).take i)) u y v,
   fun c U=>False,edges_gives (q0:=at0 q1) (q1:=at0 q3) (sn:=sn) (rsl:=rsl) (sls:=sls) (s:=s) (row:=row) (by omega),?_,?_,?_,?_,?_,?_,?_⟩
  ·rintro i U ⟨st3,M3,E3,v1,v2,v3,v4,_⟩
   exact ⟨by rw [cellOf v3,← hav]; rfl,by rw [cellOf0 v4]; rfl,hrn0.chg v1.chg0 (fun _ _ h=>h),hrsl,hrr.chg v1.chg0 (fun _ _ h=>h)⟩
  ·rintro i U U' ⟨st3,M3,E3,v1,v2,v3,v4,v5⟩ ht
   exact ⟨st3,M3,E3,v1.turn ht hsz3 hw,ht.cells v2,ht.cells v3,ht.cells v4,v5⟩
  ·rintro c U U' hf ht
   exact hf
  ·exact ⟨st2,M2,E2,hG3,hh32'',hq1,hq3,hap3,hI2,hB2,hm2,hp2,fun u y v=>by rw [hE2]; simp [evR]⟩
  ·rintro i ⟨ex,et,eu⟩ U hx ⟨st3,M3,E3,hU,u32,uq1,uq3,hap,hI3,hB3',hm3,hp3,hE3⟩
   obtain ⟨e1,e2,e3,e4⟩:=Fo.edges_mem row 0 ex et eu (List.mem_of_getElem? hx)
   have e6:=hrval et e2
   obtain ⟨nt,rfl⟩:=Int.eq_ofNat_of_zero_le e1
   obtain ⟨nx,rfl⟩:=Int.eq_ofNat_of_zero_le e3
   have htake:(edgesFrom 0 row).take (i + 1) = (edgesFrom 0 row).take i ++ [((nx:Int),(nt:Int),eu)]:=by rw [List.take_add_one,hx]; rfl
   have hev:evR (atN start st.par.length) s ((edgesFrom 0 row).take (i + 1)) = evR (atN start st.par.length) s ((edgesFrom 0 row).take i) ++ (if nx % 2 = 0 then [(atN start st.par.length s,nx,atN start st.par.length nt)] else []):=by
    rw [htake]; unfold evR; rw [List.flatMap_append]
    simp
   have hmod:Int.tmod (nx:Int) 2 = ((nx % 2:Nat):Int):=by
    rw [Int.tmod_eq_emod_of_nonneg (by omega)]; omega
   refine ⟨by decide,?_⟩
   dsimp only
   rw [hmod]
   refine Br.mk (fun heven=>?_) (fun hodd=>?_)
   ·have heven:nx % 2 = 0:=by have:((nx % 2:Nat):Int) = 0:=by simpa using heven
                              omega
    have hUd:=hU.nil (Chg.drew U)
    have ud32:U.drew.heap[b32]? = some (.cells #[.int .i64 (s:Int)] 3 (0,0)):=u32
    refine LoadT.sc (s:=.ptr) (x:=some (at0 fb)) (by rw [show at0 b1 = Addr.mk b1 0 none from rfl,cellOf0 hUd.c1]; rfl) ?_
    refine LoadT.sc (s:=.sl) (x:=sat) (by rw [show at0 b7 = Addr.mk b7 0 none from rfl,cellOf0 hUd.c7]; rfl) ?_
    refine LoadT.sc (s:=.int .i64) (x:=(s:Int)) (by rw [cellOf0 ud32]; rfl) ?_
    refine hUd.own.rd.get (t:=tI) s rfl (atL_get hlt') ?_
    refine LoadT.sc (s:=.sl) (x:=sat) (by rw [show at0 b7 = Addr.mk b7 0 none from rfl,cellOf0 hUd.c7]; rfl) ?_
    refine hUd.own.rd.get (t:=tI) nt rfl (atL_get (by omega)) ?_
    have hxm:nx < st3.m:=by rw [hm3,hm]; omega
    have hxm1:nx ^^^ 1 < st3.m:=by rw [hm3,hm]; exact Pl.xor_lt hk.2 (by omega)
    have hatlt:∀ q,q < a.next.length → atN start st.par.length q < st3.par.length:=fun q hq=>by
     unfold atN
     split <;> omega
    have hmul:st3.par.length * (st3.m + 1) ≤ 1002000 * 17:=Nat.mul_le_mul (by omega) (by omega)
    obtain ⟨st4,⟨K,hl4⟩,hI4,hm4,hp4⟩:=link_ev hI3 (hatlt s hlt') (hatlt nt (by omega)) hxm hxm1 (by unfold big; omega)
    refine RetN.call (link_ret hUd.rep (hl4 K (Nat.le_refl _))) fun _ U1 hs4=>?_
    have hst4:=hs4.step
    obtain ⟨M4,hU1⟩:=hUd.step hw hf0 hst4
    have hkeep:KeepL U U1:=by
     have k1:=Rep.keepL hUd.rep hst4.chg
     intro q o hq ho
     exact k1 q o hq ho
    obtain ⟨⟨M5,hr5,hf5⟩,hc5'⟩:=hst4
    have hap5:∀ i,M5.foot fb i → i ≠ b32 ∧ i ≠ q1 ∧ i ≠ q3:=fun i hi=>by
     rcases hf5 i hi with h1 | h1
     ·exact hap i h1
     ·have:=lt_of_heap ud32
      have:=lt_of_heap (show U.drew.heap[q1]? = _ from uq1)
      have:=lt_of_heap (show U.drew.heap[q3]? = _ from uq3)
      omega
    have hns:∀ {q o},U.heap[q]? = some o → (q = b32 ∨ q = q1 ∨ q = q3) → U1.heap[q]? = some o:=fun {q o} hq hor=>hc5'.heap (w:=U.drew) hq fun hfo=>by
     obtain ⟨n1,n2,n3⟩:=hap q hfo
     rcases hor with h | h | h
     ·exact n1 h
     ·exact n2 h
     ·exact n3 h
    have hU5:Gf w0 w U1 rs b1 b3 b7 fb M av st4 M5 sat (atL start st.par.length a.next.length):=by
     obtain ⟨d1,d2,d3,d4⟩:=hUd.cells
     have hl7:=lt_of_heap hUd.c7
     have hol:=hUd.own.lt
     have hsz:=hUd.chg.size
     exact { chg0:=hU1.chg0,chg:=hU1.chg,mks:=hU1.mks,mB:=hU1.mB,bB:=hU1.bB,c1:=hU1.c1,c3:=hU1.c3,c7:=hU1.c7,rep:=hr5
             foot:=fun i hi=>by
              rcases hf5 i hi with h1 | h1
              ·exact hUd.foot i h1
              ·exact .inr (by omega)
             own:=hU1.own,lo:=hU1.lo
             ap:=fun i hi=>by
              rcases hf5 i hi with h1 | h1
              ·exact hUd.ap i h1
              ·exact ⟨by omega,fun ⟨ad,had,he⟩=>by have:=hol ad had; omega⟩ }
    refine ⟨hkeep,st4,M5,_,hU5,hns u32 (.inl rfl),hns uq1 (.inr (.inl rfl)),hns uq3 (.inr (.inr rfl)),hap5,hI4,Both.app (Both.pair _ _ _) hB3',by rw [hm4,hm3],by rw [hp4,hp3],fun u y v=>?_⟩
    rw [hev,if_pos heven,← List.append_assoc]
    have hdd:=dir_app (es:=grE (atN start st.par.length) a.next s ++ evR (atN start st.par.length) s ((edgesFrom 0 row).take i)) (es':=[(atN start st.par.length s,nx,atN start st.par.length nt)]) (s:=u) (x:=y) (t:=v)
    rw [hdd]
    have hone:Dir [(atN start st.par.length s,nx,atN start st.par.length nt)] u y v ↔ ((u,y,v) = (atN start st.par.length s,nx,atN start st.par.length nt) ∨ (u,y,v) = (atN start st.par.length nt,nx ^^^ 1,atN start st.par.length s)):=by
     have hx1:nx ^^^ 1 = nx + 1:=by rw [Pl.xor1,if_pos heven]
     simp only [Dir,List.mem_singleton,Prod.mk.injEq]
     constructor
     ·rintro (⟨p,q⟩ | ⟨p,q⟩)
      ·exact .inl q
      ·exact .inr ⟨by omega,by omega,by omega⟩
     ·rintro (⟨p1,p2,p3⟩ | ⟨p1,p2,p3⟩)
      ·exact .inl ⟨by omega,p1,p2,p3⟩
      ·exact .inr ⟨by omega,p3,by omega,p1⟩
    rw [hone]
    simp only [List.mem_cons,hE3]
    constructor
    ·rintro (p | p | p | p)
     ·exact .inr (.inr (.inl p))
     ·exact .inr (.inr (.inr p))
     ·exact .inl p
     ·exact .inr (.inl p)
    ·rintro (p | p | p | p)
     ·exact .inr (.inr (.inl p))
     ·exact .inr (.inr (.inr p))
     ·exact .inl p
     ·exact .inr (.inl p)
   ·have hodd:¬ nx % 2 = 0:=fun he=>by rw [he] at hodd; simp at hodd
    refine ⟨fun q o hq _=>hq,st3,M3,E3,hU,u32,uq1,uq3,hap,hI3,hB3',hm3,hp3,fun u y v=>?_⟩
    rw [hev,if_neg hodd,List.append_nil]
    exact hE3 u y v
  ·rintro d U hd hlo ⟨st3,M3,E3,hU,u32,uq1,uq3,hap,hI3,hB3',hm3,hp3,hE3⟩
   have hnr:d ∉ rs:=fun hr=>by have:=lt_of_heap (hG3.mks.2 d hr); omega
   rw [wrap64 (x:=(s:Int) + 1) (by omega) (by omega)]
   refine ⟨⟨s + 1,d :: rs,st3,M3,E3,hlt',rfl,rfl,hU.mark hd (by omega) hnr,hI3,hB3',hm3,hp3,fun u y v=>?_⟩,?_⟩
   ·rw [hE3,List.take_length]
    have:grE (atN start st.par.length) a.next (s + 1) = grE (atN start st.par.length) a.next s ++ evR (atN start st.par.length) s (edgesFrom 0 row):=by
     unfold grE
     rw [List.range_succ,List.flatMap_append,List.flatMap_cons,List.flatMap_nil,List.append_nil,hgetS]
    rw [this]
   ·show a.next.length - (s + 1) < a.next.length - s
    omega
  ·rintro c d U hd hlo hf
   exact hf.elim
 ·have hsn:s = a.next.length:=by omega
  subst hsn
  refine retM_marks rs V hG.mks fun V' hc'=>⟨(),rfl,E2,st2,?_,hI2,hB2,hm2,by rw [hp2,hp1],fun u y v=>?_⟩
  ·have hcr:Chg (M.foot fb) w V':=hG.chg.trans hc' (fun _ _ h=>h) fun i hi hr=>by have:=hG.mB i hr; omega
   refine ⟨⟨M2,hG.rep.chg hc' fun i hi hr=>?_,hG.foot⟩,hcr⟩
   obtain ⟨c,e,hcc,_⟩:=Rep.foot_cells hG.rep hi
   have:=hG.mks.2 i hr
   rw [hcc] at this; cases this
  ·rw [hE2,grE_dir hk.2 hc]
end Go.Proofs.YtffdjfkekdoeaaaDoor.Fo
end
section
set_option maxRecDepth 8000
set_option maxHeartbeats 4000000
namespace Go.Proofs.YtffdjfkekdoeaaaDoor.Fo
open Fw Wd Rf Pl
theorem foldedD_len {k v:Nat} (hk:k ≤ 8) {δ:Nat → Nat → Nat → Prop} {R:List Row} (h:FoldedD k δ v (some R)):R.length ≤ 2000 ∧ ∀ r ∈ R,r.length ≤ 16:=by
 obtain ⟨E,st,rows',_,i1,i2,i3,i4,i5⟩:=h.ok
 obtain ⟨⟨K,h1⟩,h2⟩:=i5.yes _ rfl
 refine ⟨h2,fun r hr=>?_⟩
 have:=numG_rows (m:=2 * k) (fun v=>?_) K 0 _ [] _ (by simp) h1 r hr
 ·omega
 ·unfold rowOf
  split
  ·rename_i row hrow
   exact Nat.le_of_eq (i5.wf.len _ _ hrow)
  ·simp
def Fresh (B:Nat) (W:World) (x:tA.den) (a:Aut):Prop:=∀ (W':World) (S:Nat → Prop),Chg S W W' → (∀ k,S k → k < B) → AutIn W' x a
theorem made_lang {w0 w:World} {fb:Nat} {st:St} {M:Mem} (h:Fo.Rep w fb st M) (hw:Chg Nil w0 w) (hf0:∀ k,M.foot fb k → w0.heap.size ≤ k) {E:List Edg} (hI:Pl.Inv E st) (hB:Both E) {k:Nat} (hk:1 ≤ k ∧ k ≤ 8) (hm:st.m = 2 * k)
  {v:Nat} (hv:v < st.par.length) (hsz:st.par.length ≤ 10000000) :
  RetN Tryd.prog 49 #[.pointer (some (at0 fb)),.int .i64 (v:Int)] [tA,tI] w fun y w'=>∃ o,FoldedD k (Er E) v o ∧ Chg Nil w0 w' ∧ Chg (M.foot fb) w w' ∧ Fresh w.heap.size w' y.1 (autR (resOf (2 * k) o)).1 ∧ y.2.1 = (autR (resOf (2 * k) o)).2:=by
 have hmul:st.par.length * (st.m + 1) ≤ 10000000 * 17:=Nat.mul_le_mul hsz (by omega)
 obtain ⟨o,rows',⟨K,b1⟩,b2⟩:=made_ev (s:=v) hI hB (fun x hx=>by rw [hm] at hx ⊢; exact Pl.xor_lt hk.2 hx) hv (by unfold big; omega)
 rw [hm] at b2
 have hF:FoldedD k (Er E) v o:=⟨E,st,rows',fun _ _ _=>Iff.rfl,hI,hB,hm,hv,b2⟩
 refine Calls.mono (made_ret h (by rw [hI.ok.len]; unfold big; omega) (by omega) (b1 K (Nat.le_refl _))) ?_
 rintro e w' ⟨hc,he⟩
 have hc0:Chg Nil w0 w':=hw.trans hc (fun _ _ h=>h) fun i hi hk=>by have:=hf0 i hk; omega
 cases o with
 | none=>
  have he:e = _:=he
  subst he
  exact ⟨((0,0,⟨none,0,0⟩,⟨none,0,0⟩,()),2,()),rfl,none,hF,hc0,hc,fun W' _ _ _=>autIn_zero W',rfl⟩
 | some R=>
  obtain ⟨sa,sn,rfl,hA⟩:=he
  obtain ⟨h1,h2⟩:=foldedD_len hk.2 hF
  rw [hm]
  exact ⟨((((2 * k:Nat):Int),0,sa,sn,()),0,()),rfl,some R,hF,hc0,hc,fun W' S hS hlt=>autIn_of (hA.chg hS fun q hq hs=>by have:=hlt q hs; omega) h1 h2,rfl⟩
theorem exam_two {k:Int} {a b:Aut} (hk:1 ≤ k ∧ k ≤ 8):examF k [a,b] [] = 0 ↔ a.check k = 0 ∧ b.check k = 0:=by
 unfold examF
 rw [if_neg (by simpa using hk)]
 by_cases h1:a.check k = 0
 ·by_cases h2:b.check k = 0
  ·simp [h1,h2]
  ·simp [h1,h2]
 ·simp [h1]
theorem exam_rank {k:Int} {l:List Aut} {ws:List ByteArray} (h:examF k l ws = 0):1 ≤ k ∧ k ≤ 8:=by
 unfold examF at h
 split at h
 ·cases h
 ·rename_i hk
  exact Classical.byContradiction fun hh=>hk hh
def Mv (k:Int) (a:Aut) (f:Nat → Nat) (u y v:Nat):Prop:=∃ s x t,Dl k a s x t ∧ u = f s ∧ y = x ∧ v = f t
def joinD (k:Int) (a b:Aut) (u y v:Nat):Prop:=Mv k a (atN 0 1) u y v ∨ Mv k b (atN 0 a.next.length) u y v
inductive JoinIs (k:Int) (a b:Aut):FoldR → Prop
 | err:examF k [a,b] [] ≠ 0 → JoinIs k a b (.err (examF k [a,b] []))
 | ok {o:Option (List Row)}:examF k [a,b] [] = 0 → FoldedD k.toNat (joinD k a b) 0 o → JoinIs k a b (resOf (2 * k.toNat) o)
theorem foldedD_iff {k v:Nat} {δ ε:Nat → Nat → Nat → Prop} {o:Option (List Row)} (h:FoldedD k δ v o) (he:∀ s x t,δ s x t ↔ ε s x t):FoldedD k ε v o:=by
 obtain ⟨E,st,rows',e1,i⟩:=h.ok
 exact ⟨E,st,rows',fun s x t=>(e1 s x t).trans (he s x t),i⟩
theorem Join_ret {w:World} (hl:Laid w) {k:Int} {x y:Int × Int × Sl × Sl × Unit} {a b:Aut} (ha:AutIn w x a) (hb:AutIn w y b) :
  RetN Tryd.prog 34 #[.int .i64 k,.agg #[.int .i64 x.1,.int .i64 x.2.1,x.2.2.1.v,x.2.2.2.1.v],.agg #[.int .i64 y.1,.int .i64 y.2.1,y.2.2.1.v,y.2.2.2.1.v]] [tA,tI] w fun z w'=>
   ∃ res,JoinIs k a b res ∧ Chg Nil w w' ∧ AutIn w' z.1 (autR res).1 ∧ z.2.1 = (autR res).2:=by
 obtain ⟨x1,x2,sa,sn,_⟩:=x
 obtain ⟨y1,y2,ta,tn,_⟩:=y
 refine fold_Join.calls k x1 x2 sa sn y1 y2 ta tn ?_
 unfold fold_Join.sh
 refine New.mk fun b1 w1 hb1 hh1 hs1 hc1=>?_
 refine New.mk fun b3 w2 hb3 hh3 hs3 hc3=>?_
 refine New.mk fun b5 w3 hb5 hh5 hs5 hc5=>?_
 have h1:w3.heap[b1]? = some _:=hc5.heap (hc3.heap hh1 fun h=>h) fun h=>h
 have h3:w3.heap[b3]? = some _:=hc5.heap hh3 fun h=>h
 refine LoadT.mk tA (x:=(x1,x2,sa,sn,())) (fun j v hv=>by rw [cellOf h1]; simpa [Ty.cells] using hv) ?_
 refine LoadT.mk tA (x:=(y1,y2,ta,tn,())) (fun j v hv=>by rw [cellOf h3]; simpa [Ty.cells] using hv) ?_
 refine New.mk fun b9 w4 hb9 hh9 hs9 hc9=>?_
 have hc04:=((hc1.then hc3).then hc5).then hc9
 have hz4:=hc9.heap hh5 fun h=>h
 refine Ret.call (exam_ret (sl:=⟨some ⟨b9,0,none⟩,2,2⟩) (sw:=⟨none,0,0⟩) (xs:=[(x1,x2,sa,sn,()),(y1,y2,ta,tn,())]) (ats:=[a,b]) (ws:=[]) (hl.nil hc04) (rd_lit hh9 rfl rfl) rfl (fun i z c hz hc=>by
  match i,hz,hc with
  | 0,hz,hc=>simp at hz hc; subst hz; subst hc; exact ha.nil hc04
  | 1,hz,hc=>simp at hz hc; subst hz; subst hc; exact hb.nil hc04
  | i + 2,hz,hc=>simp at hz) (RdT.nil _ _ _ _) (by simp) (by simp)) ?_
 rintro _ w5 ⟨rfl,hc4⟩
 have hc05:=hc04.then hc4
 have hz5:=hc4.heap hz4 fun h=>h
 refine Br.mk (fun hne=>?_) (fun heq=>?_)
 ·have hne':examF k [a,b] [] ≠ 0:=by simpa using hne
  refine StoreN.whole (vs:=[.int .i64 0,.int .i64 0,.slice none 0 0,.slice none 0 0]) hz5 rfl fun w6 h6 hc6 _=>?_
  refine LoadT.mk tA (x:=(0,0,⟨none,0,0⟩,⟨none,0,0⟩,())) (fun j v hv=>by rw [cellOf h6]; simpa [Ty.cells] using hv) ?_
  refine ⟨((0,0,⟨none,0,0⟩,⟨none,0,0⟩,()),examF k [a,b] [],()),rfl,_,.err hne',hc05.trans hc6 (fun _ _ h=>h) fun i hi he=>by have he:i = b5:=he; have:=(hc1.then hc3).size; omega,autIn_zero w6,rfl⟩
 ·have hz:examF k [a,b] [] = 0:=by simpa using heq
  have hk:=exam_rank hz
  obtain ⟨hca,hcb⟩:=(exam_two hk).1 hz
  obtain ⟨nk,rfl⟩:=Int.eq_ofNat_of_zero_le (show 0 ≤ k by omega)
  obtain ⟨_,_,na1,na2,_⟩:=check_spec hca
  obtain ⟨_,_,nb1,nb2,_⟩:=check_spec hcb
  refine Ret.call (start_ret nk (by omega) (by omega)) ?_
  rintro _ w6 ⟨fb,M,rfl,hr6,hc6,hf6⟩
  have hc06:=hc05.then hc6
  have h16:=((hc9.then hc4).then hc6).heap h1 fun h=>h
  have h36:=((hc9.then hc4).then hc6).heap h3 fun h=>h
  have h56:=hc6.heap hz5 fun h=>h
  have sz5:=hc05.size
  have hf0:∀ q,M.foot fb q → w5.heap.size ≤ q:=hf6
  refine LoadT.mk tA (x:=(x1,x2,sa,sn,())) (fun j v hv=>by rw [cellOf h16]; simpa [Ty.cells] using hv) ?_
  have hm0:(start0 (2 * nk)).m = 2 * nk:=rfl
  have hp0:(start0 (2 * nk)).par.length = 1:=rfl
  refine RetN.call (graft_ret (w0:=w5) (k:=nk) (x:=(x1,x2,sa,sn,())) (start:=0) hr6 hc6 hf0 (start_inv _) Both.nil (by omega) hm0 (ha.nil hc05) hca (by rw [hp0]; omega) (by rw [hp0]; omega)) ?_
  rintro _ w7 ⟨E1,st1,⟨⟨M1,hr7,hf7⟩,hc7⟩,hI1,hB1,hm1,hp1,hE1⟩
  have hN7:Chg Nil w5 w7:=hc6.trans hc7 (fun _ _ h=>h) fun i hi hk=>by have:=hf0 i hk; omega
  have hf07:∀ q,M1.foot fb q → w5.heap.size ≤ q:=fun q hq=>by
   rcases hf7 q hq with h | h
   ·exact hf0 q h
   ·have:=hc6.size; omega
  have h37:=hN7.heap ((hc9.then hc4).heap h3 fun h=>h) fun h=>h
  refine LoadT.mk tA (x:=(y1,y2,ta,tn,())) (fun j v hv=>by rw [cellOf h37]; simpa [Ty.cells] using hv) ?_
  rw [hp0] at hp1
  rw [hp0] at hE1
  refine RetN.call (graft_ret (w0:=w5) (k:=nk) (x:=(y1,y2,ta,tn,())) (start:=0) hr7 hN7 hf07 hI1 hB1 (by omega) (by rw [hm1,hm0]) (hb.nil hc05) hcb (by omega) (by omega)) ?_
  rintro _ w8 ⟨E2,st2,⟨⟨M2,hr8,hf8⟩,hc8⟩,hI2,hB2,hm2,hp2,hE2⟩
  have hN8:Chg Nil w5 w8:=hN7.trans hc8 (fun _ _ h=>h) fun i hi hk=>by have:=hf07 i hk; omega
  have hf08:∀ q,M2.foot fb q → w5.heap.size ≤ q:=fun q hq=>by
   rcases hf8 q hq with h | h
   ·exact hf07 q h
   ·have:=hN7.size; omega
  refine RetN.call (made_lang (w0:=w5) (k:=nk) (v:=0) hr8 hN8 hf08 hI2 hB2 (by omega) (by rw [hm2,hm1,hm0]) (by omega) (by omega)) ?_
  rintro ⟨⟨z1,z2,ua,un,_⟩,z3,_⟩ w9 ⟨o,hF,hN9,_,hA,hz3⟩
  have hz9:=hN9.heap hz5 fun h=>h
  have hFJ:FoldedD nk (joinD (nk:Int) a b) 0 o:=foldedD_iff hF fun s x t=>by
   show (s,x,t) ∈ E2 ↔ _
   rw [hE2,hE1,hp1]
   have e:1 + (a.next.length - 1) = a.next.length:=by omega
   rw [e]
   unfold joinD Mv
   simp
  refine StoreN.whole (vs:=[.int .i64 z1,.int .i64 z2,ua.v,un.v]) hz9 rfl fun w10 h10 hc10 _=>?_
  refine LoadT.mk tA (x:=(z1,z2,ua,un,())) (fun j v hv=>by rw [cellOf h10]; simpa [Ty.cells] using hv) ?_
  have hJ:=JoinIs.ok (k:=(nk:Int)) (a:=a) (b:=b) hz hFJ
  refine ⟨((z1,z2,ua,un,()),z3,()),rfl,_,hJ,(hc05.then hN9).trans hc10 (fun _ _ h=>h) fun i hi he=>by have he:i = b5:=he; have:=(hc1.then hc3).size; omega,hA w10 _ hc10 fun q hq=>?_,hz3⟩
  have hq:q = b5:=hq
  have:=hN8.size
  have:=lt_of_heap hz5
  omega
end Go.Proofs.YtffdjfkekdoeaaaDoor.Fo
end
section
set_option maxRecDepth 8000
set_option maxHeartbeats 4000000
namespace Go.Proofs.YtffdjfkekdoeaaaDoor.Fo
open Fw Wd Rf Pl
theorem OwnT.appendAny {P:Program} {w:World} {st ty e:TypeId} {t:Ty} {bytes:Nat} (ok:slOk P st e t.sz bytes = true) (ht:t.one = true) (hsz:0 < t.sz) {s:Sl} {xs:List t.den} (h:OwnT w e t s xs)
  {s2:Sl} {ys:List t.den} (h2:RdT w t s2 ys) (hs2:s2.a ≠ none)
  (hb:(xs.length + ys.length) * bytes ≤ 140737488355328) (h63:xs.length + ys.length ≤ maxLen) {K:Sl → World → Prop}
  (k:∀ s' w',OwnT w' e t s' (xs ++ ys) → Chg s.own w w' → (∀ i,s'.own i → s.own i ∨ w.heap.size ≤ i) → K s' w') :
  RunT P (.sc .sl) (Builtin.append_ #[st,st] ty #[s.v,s2.v]) w K:=by
 by_cases hs:s.a = none
 ·cases ys with
  | cons y l=>
   obtain ⟨b,hb2⟩:∃ b,s2.a = some b:=by cases hh:s2.a with | none=>exact absurd hh hs2 | some b=>exact ⟨b,rfl⟩
   have hv2:s2.v = .slice (some b) s2.n s2.c:=by simp only [Sl.v]; rw [hb2]
   rw [hv2]
   have hn2:=h2.len
   exact Fw.OwnT.append (t:=t) (m:=s2.n) ok ht hsz h (y :: l) hn2 (by rw [hn2]; simp) (RdT.flat h2 hb2) (by rw [hn2]; exact hb) (by rw [hn2]; exact h63) fun s' w' a1 a2 a3=>k s' w' a1 a2 a3
  | nil=>
   obtain ⟨b,hb2⟩:∃ b,s2.a = some b:=by cases hh:s2.a with | none=>exact absurd hh hs2 | some b=>exact ⟨b,rfl⟩
   have hv2:s2.v = .slice (some b) s2.n s2.c:=by simp only [Sl.v]; rw [hb2]
   have hn2:s2.n = 0:=h2.len
   rw [hv2,hn2]
   obtain ⟨i,z,h1,h2',h3,h4,h5,h6⟩:=slOk_spec ok
   rcases h.block with ⟨ha,hx⟩ | ⟨g,cur,ha,_⟩
   ·subst hx
    obtain ⟨v',w',hr,ho,hg,hnil⟩:=run_append_own (P:=P) w 0 st ty e i z t.sz i.bytes h1 h2' h5 h3 rfl h6 hsz s.v s.n [] h.row b 0 s2.c [] (by simp) (by simp) (by simp) (by
     have:=h.len; simp at this; rw [this]; exact Nat.zero_le _) (by have:=h.len; simp at this; rw [this]; simp) (Nat.zero_le _)
    have hv:s.v = .slice none 0 0:=by
     rcases h.row.2 with ⟨hv,_⟩ | ⟨g,cap,cur,hv,_⟩
     ·exact hv
     ·simp only [Sl.v,Value.slice.injEq] at hv; rw [hs] at hv; cases hv.1
    have hv':=hnil.2 ⟨hv,rfl⟩
    subst hv'
    refine ⟨⟨none,0,0⟩,w',hr,k _ _ (OwnT.nil _ _ _) (Chg.grown hg fun q hq=>?_) fun i hi=>?_⟩
    ·rw [hv] at hq; cases hq
    ·obtain ⟨a,had,_⟩:=hi; cases had
   ·rw [hs] at ha; cases ha
 ·exact OwnT.appendR ok ht hsz h hs h2 hs2 hb h63 fun s' w' a1 _ a2 a3=>k s' w' a1 a2 a3
end Go.Proofs.YtffdjfkekdoeaaaDoor.Fo
end
section
set_option maxRecDepth 8000
set_option maxHeartbeats 4000000
namespace Go.Proofs.YtffdjfkekdoeaaaDoor.Fo
open Fw Wd Rf Pl
theorem append_none {P:Program} (w:World) {base:Nat} (t ty e:TypeId) (i:TypeInfo) (size:Nat) (ht:P.underlying t = some (.slice e)) (hi:P.info? e = some i)
  (v:Value) (n c:Nat) (xs:List Value) (hown:w.ownsRow base e size v n xs) :
  (Builtin.append_ #[t,t] ty #[v,.slice none 0 c]).run P w = .ok v w:=by
 rcases hown.2 with ⟨rfl,rfl⟩ | ⟨g,cap,cur,rfl,_,_,hnc,_⟩
 ·simp [Builtin.append_,run_underlying ht,sizeOf,typeInfo,hi,Builtin.lenOf,Builtin.firstCells]
 ·simp [Builtin.append_,run_underlying ht,sizeOf,typeInfo,hi,Builtin.lenOf,Builtin.firstCells,hnc,storeCells]
theorem OwnT.appendOpt {P:Program} {w:World} {st ty e:TypeId} {t:Ty} {bytes:Nat} (ok:slOk P st e t.sz bytes = true) (ht:t.one = true) (hsz:0 < t.sz) {s:Sl} {xs:List t.den} (h:OwnT w e t s xs)
  {s2:Sl} {ys:List t.den} (h2:RdT w t s2 ys)
  (hb:(xs.length + ys.length) * bytes ≤ 140737488355328) (h63:xs.length + ys.length ≤ maxLen) {K:Sl → World → Prop}
  (k:∀ s' w',OwnT w' e t s' (xs ++ ys) → Chg s.own w w' → (∀ i,s'.own i → s.own i ∨ w.heap.size ≤ i) → K s' w') :
  RunT P (.sc .sl) (Builtin.append_ #[st,st] ty #[s.v,s2.v]) w K:=by
 by_cases hs2:s2.a = none
 ·have h0:ys = []:=by
   cases ys with
   | nil=>rfl
   | cons y l=>
    obtain ⟨a,ha,_⟩:=h2.at' 0 y rfl
    rw [hs2] at ha; cases ha
  subst h0
  have hn:s2.n = 0:=h2.len
  obtain ⟨i,z,h1,h2',h3,h4,h5,h6⟩:=slOk_spec ok
  refine ⟨s,w,?_,k s w (by rw [List.append_nil]; exact h) (Chg.refl w) fun i hi=>.inl hi⟩
  rw [show s2.v = .slice none 0 s2.c from by simp only [Sl.v]; rw [hs2,hn]]
  exact append_none w st ty e i t.sz h1 h2' s.v s.n s2.c _ h.row
 ·exact OwnT.appendAny ok ht hsz h h2 hs2 hb h63 k
theorem ok25c:slOk Tryd.prog 25 85 1 24 = true:=by kernel_rfl
theorem ok85c:slOk Tryd.prog 85 3 1 8 = true:=by kernel_rfl
def cpLoop (b1 b3 b13:Nat) (R:Ending → World → Prop) (w15:World):Prop:=
 LoopT (σ:=Addr × Addr × Addr × Int × Unit) ((Addr.mk b1 0 none),(Addr.mk b3 0 none),(Addr.mk b13 0 none),0,()) w15 fun l16 g17 w18 I19=>
  LoadT (.sc .sl) w18 (l16.1.add 3) fun x20=>
  Br (decide ((l16.2.2.2.1:Int) < ((x20.n:Nat):Int)))
   (∃ S21:World → Prop,S21 w18.drew ∧
   (LoadS S21 (.sc .sl) (l16.2.2.1.add 3) fun x22=>
   LoadS S21 (.sc .sl) (l16.1.add 3) fun x23=>
   Idx x23.a x23.n 1 l16.2.2.2.1 fun a24=>
   LoadS S21 (.sc .sl) a24 fun x25=>
   New w18.drew (.cells #[] 3) fun b26 w27=>
    S21 w27 ∧
    (RunT Tryd.prog (.sc .sl) (Builtin.append_ #[85,85] 85 #[(.slice (some (Addr.mk b26 0 none)) 0 0),(.slice x25.a x25.n x25.c)]) w27 fun r28 w29=>
     S21 w29 ∧
     (New w29 (.cells #[(.slice r28.a r28.n r28.c)] 85) fun b30 w31=>
      S21 w31 ∧
      (RunT Tryd.prog (.sc .sl) (Builtin.append_ #[25,25] 25 #[(.slice x22.a x22.n x22.c),(.slice (some (Addr.mk b30 0 none)) 1 1)]) w31 fun r32 w33=>
       S21 w33 ∧
       (Store1 w33 (l16.2.2.1.add 3) (.slice r32.a r32.n r32.c) fun w34=>
        I19 (l16.1,l16.2.1,l16.2.2.1,(IntKind.wrap .i64 (l16.2.2.2.1 + 1)),()) w34))))))
   (LoadT (.agg [.int .i64,.int .i64,.sl,.sl]) w18 l16.2.2.1 fun x35=>
   StoreN w18 l16.2.1 [(.int .i64 x35.1),(.int .i64 x35.2.1),(.slice x35.2.2.1.a x35.2.2.1.n x35.2.2.1.c),(.slice x35.2.2.2.1.a x35.2.2.2.1.n x35.2.2.2.1.c)] fun w36=>
   LoadT (.agg [.int .i64,.int .i64,.sl,.sl]) w36 l16.2.1 fun x37=>
   R (.returned (.agg #[(.int .i64 x37.1),(.int .i64 x37.2.1),(.slice x37.2.2.1.a x37.2.2.1.n x37.2.2.1.c),(.slice x37.2.2.2.1.a x37.2.2.2.1.n x37.2.2.2.1.c)])) w36)
abbrev tL:Ty:=.sc .sl
structure AutO (w:World) (x:Int × Int × Sl × Sl × Unit) (a:Aut):Prop where
 sym:x.1 = a.sym
 start:x.2.1 = a.start
 acc:OwnT w 4 (.sc .bool) x.2.2.1 a.acc
 next:∃ sls,OwnT w 85 tL x.2.2.2.1 sls ∧ sls.length = a.next.length ∧ ∀ (j:Nat) (s:Sl) (row:List Int),sls[j]? = some s → a.next[j]? = some row → OwnT w 3 tI s row
 hacc:a.acc.length ≤ maxLen
 hnext:a.next.length ≤ maxLen
 hrow:∀ r ∈ a.next,r.length ≤ maxLen
theorem AutO.chg {w w':World} {x:Int × Int × Sl × Sl × Unit} {a:Aut} (h:AutO w x a) {S:Nat → Prop} (hc:Chg S w w') (hS:∀ k,S k → ∃ cs f,w.heap[k]? = some (.cells cs 27 f)):AutO w' x a:=by
 have ne:∀ {e:TypeId} {t:Ty} {s:Sl} {xs:List t.den},OwnT w e t s xs → e ≠ 27 → OwnT w' e t s xs:=fun {e t s xs} ho he=>ho.chg hc fun ad had hb=>by
  obtain ⟨cur,hcur⟩:=ho.elem ⟨ad,had,rfl⟩
  obtain ⟨cs,f,hcs⟩:=hS _ hb
  exact ne_of_elem hcur hcs he rfl
 obtain ⟨sls,h1,h2,h3⟩:=h.next
 exact ⟨h.sym,h.start,ne h.acc (by decide),⟨sls,ne h1 (by decide),h2,fun j s row hj hr=>ne (h3 j s row hj hr) (by decide)⟩,h.hacc,h.hnext,h.hrow⟩
theorem AutO.nil {w w':World} {x:Int × Int × Sl × Sl × Unit} {a:Aut} (h:AutO w x a) (hc:Chg Nil w w'):AutO w' x a:=h.chg hc fun _ h=>h.elim
theorem AutO.aut {w:World} {x:Int × Int × Sl × Sl × Unit} {a:Aut} (h:AutO w x a):AutIn w x a:=by
 obtain ⟨sls,h1,h2,h3⟩:=h.next
 exact ⟨h.sym,h.start,⟨h.acc.rd,fun _ _=>Nat.zero_le _,fun _ _=>Nat.zero_le _,sls,h1.rd,h2,fun j s row hj hr=>(h3 j s row hj hr).rd,fun _ _ _ _=>Nat.zero_le _⟩,h.hacc,h.hnext,h.hrow⟩
theorem cpLoop_ok {w:World} {x1 x2:Int} {sa sn:Sl} {a:Aut} (ha:AutIn w (x1,x2,sa,sn,()) a) (hrow:∀ r ∈ a.next,r.length * 8 ≤ 140737488351232) (hnext:a.next.length ≤ 1000000) {W:World} (hW:Chg Nil w W)
  {b1 b3 b13:Nat} {r:Sl} {c3:Array Value} (h1:W.heap[b1]? = some (.cells #[.int .i64 x1,.int .i64 x2,sa.v,sn.v] 27 (0,0))) (h3:W.heap[b3]? = some (.cells c3 27 (0,0))) (hs3:c3.size = 4) (h13:W.heap[b13]? = some (.cells #[.int .i64 x1,.int .i64 x2,r.v,.slice none 0 0] 27 (0,0)))
  (l3:w.heap.size ≤ b3) (l13:w.heap.size ≤ b13) (n1:b1 ≠ b13) (n2:b3 ≠ b13) (n3:b1 ≠ b3) (hr:OwnT W 4 (.sc .bool) r a.acc) (hrb:∀ k,r.own k → w.heap.size ≤ k)
  {R:Ending → World → Prop} (hR:∀ (y:Int × Int × Sl × Sl × Unit) (W':World),AutO W' y a → Chg Nil w W' → R (.returned (.agg #[.int .i64 y.1,.int .i64 y.2.1,.slice y.2.2.1.a y.2.2.1.n y.2.2.1.c,.slice y.2.2.2.1.a y.2.2.2.1.n y.2.2.2.1.c])) W'):cpLoop b1 b3 b13 R W:=by
 obtain ⟨hacc,_,_,sls,hsn,hsl,hrd,_⟩:=ha.rd
 have hsn:RdT w tL sn sls:=hsn
 unfold cpLoop
 refine LoopT.mk (fun y W1=>∃ (i:Nat) (so:Sl) (sl':List Sl),i ≤ a.next.length ∧ y = (at0 b1,at0 b3,at0 b13,(i:Int),()) ∧ Chg Nil w W1 ∧ W1.heap[b1]? = some (.cells #[.int .i64 x1,.int .i64 x2,sa.v,sn.v] 27 (0,0)) ∧ W1.heap[b3]? = some (.cells c3 27 (0,0))
   ∧ W1.heap[b13]? = some (.cells #[.int .i64 x1,.int .i64 x2,r.v,so.v] 27 (0,0)) ∧ OwnT W1 4 (.sc .bool) r a.acc ∧ OwnT W1 85 tL so sl' ∧ sl'.length = i ∧ (∀ k,so.own k → w.heap.size ≤ k) ∧ (∀ (j:Nat) (s:Sl) (row:List Int),sl'[j]? = some s → a.next[j]? = some row → OwnT W1 3 tI s row ∧ ∀ k,s.own k → w.heap.size ≤ k))
  (fun y _=>a.next.length - y.2.2.2.1.toNat) ⟨0,⟨none,0,0⟩,[],Nat.zero_le _,rfl,hW,h1,h3,h13,hr,OwnT.nil _ _ _,rfl,(fun k ⟨_,h,_⟩=>by cases h),fun j s row hj=>by simp at hj⟩ ?_
 clear h1 h3 h13 hr
 rintro y g W1 ⟨i,so,sl',hi,rfl,hc1,h1,h3,h13,hr,ho,hlen,hob,hrows⟩
 dsimp only
 have hsnn:sn.n = a.next.length:=by rw [hsn.len,hsl]
 refine LoadT.sc (s:=.sl) (x:=sn) (by rw [show at0 b1 = Addr.mk b1 0 none from rfl,cellOf h1]; rfl) ?_
 have nb:∀ {q:Nat} {c:Array Value},W1.heap[q]? = some (.cells c 27 (0,0)) → ¬ so.own q:=fun hq hk=>by
  obtain ⟨cur,hcur⟩:=ho.elem hk
  exact ne_of_elem hcur hq (by decide) rfl
 refine Br.dec (fun hlt=>?_) (fun hge=>?_)
 ·have hlt:(i:Int) < ((sn.n:Nat):Int):=hlt
  have hil:i < a.next.length:=by omega
  obtain ⟨row,hri⟩:∃ q,a.next[i]? = some q:=⟨_,List.getElem?_eq_getElem hil⟩
  obtain ⟨s0,hsi⟩:∃ q,sls[i]? = some q:=⟨_,List.getElem?_eq_getElem (by omega)⟩
  have hrw:=hrow row (List.mem_of_getElem? hri)
  have back:∀ {W':World},Chg so.own W1 W' → Chg Nil w W':=fun hW'=>hc1.trans hW' (fun _ _ h=>h) fun q hq hk=>by have:=hob q hk; omega
  refine ⟨fun W'=>Chg so.own W1 W',Chg.drew W1,?_⟩
  refine LoadS.sc (s:=.sl) (x:=so) (fun W' hW'=>by rw [show at0 b13 = Addr.mk b13 0 none from rfl,cellOf (hW'.heap h13 (nb h13))]; rfl) ?_
  refine LoadS.sc (s:=.sl) (x:=sn) (fun W' hW'=>by rw [show at0 b1 = Addr.mk b1 0 none from rfl,cellOf (hW'.heap h1 (nb h1))]; rfl) ?_
  refine hsn.idx i rfl hsi fun ad had=>?_
  have had0:=had 0 _ rfl
  rw [add0] at had0
  refine LoadS.sc (s:=.sl) (x:=s0) (fun W' hW'=>(back hW').cell had0 fun h=>h) ?_
  refine New.mk fun b26 w2 hb26 hn26 hz26 hc26=>?_
  have c2:Chg Nil W1 w2:=(Chg.drew W1).then hc26
  refine ⟨c2.nil,?_⟩
  have hz:W1.drew.heap.size = W1.heap.size:=rfl
  have z1:=hc1.size
  refine OwnT.appendOpt (t:=tI) ok85c rfl (by decide) (own_empty (t:=tI) hn26 (by decide)) ((hrd i s0 row hsi hri).chg (hc1.then c2) fun _ _ h=>h) (by simp; omega) (by simp only [maxLen]; simp; omega) fun r28 w3 ho28 hc28 hown28=>?_
  rw [List.nil_append] at ho28
  have c3':Chg Nil W1 w3:=c2.trans hc28 (fun _ _ h=>h) fun q hq ⟨ad,h1,h2⟩=>by cases h1; dsimp only at h2; omega
  have l28:∀ k,r28.own k → W1.heap.size ≤ k:=fun k hk=>by
   rcases hown28 k hk with ⟨ad,h1,h2⟩ | h1
   ·cases h1; dsimp only at h2; omega
   ·have:=c2.size; omega
  refine ⟨c3'.nil,?_⟩
  refine New.mk fun b30 w4 hb30 hn30 hz30 hc30=>?_
  have c4:Chg Nil W1 w4:=c3'.then hc30
  refine ⟨c4.nil,?_⟩
  have ho4:=ho.chg c4 fun _ _ h=>h
  have ho28':=ho28.chg hc30 fun _ _ h=>h
  refine OwnT.append (t:=tL) (m:=1) ok25c rfl (by decide) ho4 [r28] rfl (by decide) (fun j v hv=>?_) (by rw [hlen]; omega) (by simp only [maxLen]; omega) fun s' w5 ho5 hc5 hown5=>?_
  ·cases j with
   | succ j=>simp [Ty.cells] at hv
   | zero=>rw [cellOf hn30]; simpa [Ty.cells] using hv
  have c5:Chg so.own W1 w5:=c4.trans hc5 (fun _ _ h=>h.elim) fun _ _ h=>h
  refine ⟨c5,?_⟩
  have h13':=c5.heap h13 (nb h13)
  refine Store1.at h13' 3 (by show 3 < 4; decide) rfl fun w6 hh6 hc6 hz6=>?_
  have hs'b:∀ k,s'.own k → w.heap.size ≤ k:=fun k hk=>by
   rcases hown5 k hk with h1 | h1
   ·exact hob k h1
   ·have:=c4.size; omega
  have ne27:∀ {e:TypeId} {t:Ty} {s:Sl} {xs:List t.den},OwnT w5 e t s xs → e ≠ 27 → ∀ ad,s.a = some ad → ¬ ad.block = b13:=fun {e t s xs} h he ad had hb=>by
   obtain ⟨cur,hcur⟩:=h.elem ⟨ad,had,rfl⟩
   exact ne_of_elem hcur h13' he hb
  have own85:∀ {e:TypeId} {t:Ty} {s:Sl} {xs:List t.den},OwnT w4 e t s xs → e ≠ 85 → ∀ ad,s.a = some ad → ¬ so.own ad.block:=fun {e t s xs} h he ad had hb=>by
   obtain ⟨cur,hcur⟩:=h.elem ⟨ad,had,rfl⟩
   obtain ⟨cur',hcur'⟩:=ho4.elem hb
   exact ne_of_elem hcur hcur' he rfl
  have carry:∀ {e:TypeId} {t:Ty} {s:Sl} {xs:List t.den},OwnT w4 e t s xs → e ≠ 85 → e ≠ 27 → OwnT w6 e t s xs:=fun {e t s xs} h h1 h2=>
   have h5:=h.chg hc5 (own85 h h1)
   h5.chg hc6 (ne27 h5 h2)
  refine ⟨⟨i + 1,s',sl' ++ [r28],by omega,?_,?_,?_,?_,hh6,carry (hr.chg c4 fun _ _ h=>h) (by decide) (by decide),ho5.chg hc6 (ne27 ho5 (by decide)),by simp [hlen],hs'b,fun j s row' hj hr'=>?_⟩,?_⟩
  ·rw [wrap64 (by omega) (by omega)]; rfl
  ·exact (back c5).trans hc6 (fun _ _ h=>h) fun q hq hk=>by have hk:q = b13:=hk; omega
  ·exact hc6.heap (c5.heap h1 (nb h1)) n1
  ·exact hc6.heap (c5.heap h3 (nb h3)) n2
  ·rw [List.getElem?_append] at hj
   split at hj
   ·rename_i hjl
    obtain ⟨q1,q2⟩:=hrows j s row' hj hr'
    exact ⟨carry (q1.chg c4 fun _ _ h=>h) (by decide) (by decide),q2⟩
   ·rename_i hjl
    have hj0:j = sl'.length:=by
     have:=(List.getElem?_eq_some_iff.1 hj).1
     simp at this; omega
    subst hj0
    simp at hj
    subst hj
    rw [hlen,hri] at hr'
    cases hr'
    exact ⟨carry ho28' (by decide) (by decide),fun k hk=>by have:=l28 k hk; omega⟩
  ·show a.next.length - (IntKind.wrap .i64 ((i:Int) + 1)).toNat < a.next.length - ((i:Int)).toNat
   rw [wrap64 (by omega) (by omega)]; omega
 ·have hge:¬ (i:Int) < ((sn.n:Nat):Int):=hge
  have hie:i = a.next.length:=by omega
  refine LoadT.mk tA (x:=(x1,x2,r,so,())) (fun j v hv=>by rw [show at0 b13 = Addr.mk b13 0 none from rfl,cellOf h13]; simpa [Ty.cells] using hv) ?_
  refine StoreN.whole (vs:=[.int .i64 x1,.int .i64 x2,r.v,so.v]) h3 (by rw [hs3]; rfl) fun w2 hh2 hc2 _=>?_
  refine LoadT.mk tA (x:=(x1,x2,r,so,())) (fun j v hv=>by rw [show at0 b3 = Addr.mk b3 0 none from rfl,cellOf hh2]; simpa [Ty.cells] using hv) ?_
  have ne27:∀ {e:TypeId} {t:Ty} {s:Sl} {xs:List t.den},OwnT W1 e t s xs → e ≠ 27 → ∀ ad,s.a = some ad → ¬ ad.block = b3:=fun {e t s xs} h he ad had hb=>by
   obtain ⟨cur,hcur⟩:=h.elem ⟨ad,had,rfl⟩
   exact ne_of_elem hcur h3 he hb
  refine hR (x1,x2,r,so,()) w2 ⟨ha.sym,ha.start,hr.chg hc2 (ne27 hr (by decide)),⟨sl',ho.chg hc2 (ne27 ho (by decide)),by omega,fun j s row hj hr'=>?_⟩,ha.hacc,ha.hnext,ha.hrow⟩ (hc1.trans hc2 (fun _ _ h=>h) fun q hq hk=>by have hk:q = b3:=hk; omega)
  obtain ⟨q1,_⟩:=hrows j s row hj hr'
  exact q1.chg hc2 (ne27 q1 (by decide))
theorem copied_ret {w:World} {x:Int × Int × Sl × Sl × Unit} {a:Aut} (ha:AutIn w x a) (hrow:∀ r ∈ a.next,r.length * 8 ≤ 140737488351232) (hacc:a.acc.length ≤ 1000000) (hnext:a.next.length ≤ 1000000) :
  Ret Tryd.prog 42 #[.agg #[.int .i64 x.1,.int .i64 x.2.1,x.2.2.1.v,x.2.2.2.1.v]] tA w fun y w'=>AutO w' y a ∧ Chg Nil w w':=by
 obtain ⟨x1,x2,sa,sn,_⟩:=x
 refine cayleylaw21_copied.calls x1 x2 sa sn ?_
 unfold cayleylaw21_copied.sh
 refine New.mk fun b1 w1 hb1 hh1 hs1 hc1=>?_
 refine New.mk fun b3 w2 hb3 hh3 hs3 hc3=>?_
 have h12:=hc3.heap hh1 fun h=>h
 have hc02:=hc1.then hc3
 have hd:Chg Nil w2 w2.drew:=Chg.drew w2
 have z1:=hc1.size
 have z2:=hc3.size
 have hzd:w2.drew.heap.size = w2.heap.size:=rfl
 have rdA:∀ {W:World},Chg Nil w2 W → RdT W (.sc .bool) sa a.acc:=fun hW=>ha.rd.acc.chg (hc02.then hW) fun _ _ h=>h
 have cl:∀ {W:World},Chg Nil w2 W → W.heap[b1]? = some _:=fun hW=>hW.heap h12 fun h=>h
 refine ⟨fun W=>Chg Nil w2 W,hd,?_⟩
 refine LoadS.sc (s:=.int .i64) (x:=x1) (fun W hW=>by rw [cellOf (cl hW)]; rfl) ?_
 refine LoadS.sc (s:=.int .i64) (x:=x2) (fun W hW=>by rw [cellOf (cl hW)]; rfl) ?_
 refine LoadS.sc (s:=.sl) (x:=sa) (fun W hW=>by rw [cellOf (cl hW)]; rfl) ?_
 -- what stands when the loop begins
 have fin:∀ {W:World} {b13:Nat} {r:Sl},Chg Nil w2 W → W.heap[b13]? = some (.cells #[.int .i64 x1,.int .i64 x2,r.v,.slice none 0 0] 27 (0,0)) → w2.heap.size ≤ b13 → OwnT W 4 (.sc .bool) r a.acc → (∀ k,r.own k → w2.heap.size ≤ k) →
   cpLoop b1 b3 b13 (fun e w'=>∃ y,e = .returned (tA.val y) ∧ AutO w' y a ∧ Chg Nil w w') W:=fun {W b13 r} hW h13 hb hr hrb=>
  cpLoop_ok (w:=w) ha hrow hnext (hc02.then hW) (cl hW) (hW.heap hh3 fun h=>h) rfl h13 (by omega) (by omega) (by omega) (by omega) (by omega) hr (fun k hk=>by have:=hrb k hk; omega) fun y W' h1 h2=>⟨y,rfl,h1,h2⟩
 have app:∀ {W:World} {b:Nat},Chg Nil w2 W → W.heap[b]? = some (.cells #[] 4 (0,0)) → w2.heap.size ≤ b → ∀ {K:Sl → World → Prop},(∀ r W',OwnT W' 4 (.sc .bool) r a.acc → Chg Nil w2 W' → Chg (· = b) W W' → (∀ k,r.own k → w2.heap.size ≤ k) → K r W') →
   RunT Tryd.prog (.sc .sl) (Builtin.append_ #[24,24] 24 #[.slice (some (Addr.mk b 0 none)) 0 0,.slice sa.a sa.n sa.c]) W K:=fun {W b} hW hb hge {K} kk=>by
  refine OwnT.appendOpt (t:=.sc .bool) ok24 rfl (by decide) (own_empty (t:=.sc .bool) hb (by decide)) (rdA hW) (by simp; omega) (by simp only [maxLen]; simp; omega) fun r W' ho hc hown=>?_
  rw [List.nil_append] at ho
  refine kk r W' ho (hW.trans hc (fun _ _ h=>h) fun q hq ⟨ad,h1,h2⟩=>by cases h1; dsimp only at h2; omega) (hc.mono fun q _ ⟨ad,h1,h2⟩=>by cases h1; exact h2.symm) fun q hq=>?_
  rcases hown q hq with ⟨ad,h1,h2⟩ | h1
  ·cases h1; dsimp only at h2; omega
  ·have:=hW.size; omega
 have ch27:∀ {W W':World} {b:Nat},Chg Nil w2 W → Chg (· = b) W W' → w2.heap.size ≤ b → Chg Nil w2 W':=fun hW hc hb=>hW.trans hc (fun _ _ h=>h) fun q hq hk=>by have hk:q = _:=hk; omega
 have keep:∀ {W W':World} {b:Nat} {e:TypeId} {t:Ty} {s:Sl} {xs:List t.den} {c:Array Value},OwnT W e t s xs → e ≠ 27 → W.heap[b]? = some (.cells c 27 (0,0)) → Chg (· = b) W W' → OwnT W' e t s xs:=fun {W W' b e t s xs c} h he hb hc=>
  h.chg hc fun ad had hq=>by
   obtain ⟨cur,hcur⟩:=h.elem ⟨ad,had,rfl⟩
   exact ne_of_elem hcur hb he hq
 refine ⟨?_,?_⟩
 ·refine New.mk fun b9 w3 hb9 hn9 hz9 hc9=>?_
  have d3:=hd.then hc9
  refine ⟨d3,?_,?_⟩
  ·refine app d3 hn9 (by omega) fun r w4 ho d4 hc4 hrb=>?_
   refine ⟨d4,?_⟩
   refine New.mk fun b13 w5 hb13 hn13 hz13 hc13=>?_
   have d5:=d4.then hc13
   refine ⟨d5,?_⟩
   have zz:=d4.size
   have hz4:=hc4.size
   refine StoreN.whole (vs:=[.int .i64 x1,.int .i64 x2,r.v,.slice none 0 0]) hn13 rfl fun w6 hh6 hc6 _=>?_
   exact fin (ch27 d5 hc6 (by omega)) hh6 (by omega) (keep (ho.chg hc13 fun _ _ h=>h) (by decide) hn13 hc6) hrb
  ·refine New.mk fun b13 w4 hb13 hn13 hz13 hc13=>?_
   have d4:=d3.then hc13
   refine ⟨d4,?_⟩
   refine app d4 (hc13.heap hn9 fun h=>h) (by omega) fun r w5 ho d5 hc5 hrb=>?_
   refine ⟨d5,?_⟩
   have h13:=hc5.heap hn13 (fun h=>by have h:b13 = b9:=h; omega)
   refine StoreN.whole (vs:=[.int .i64 x1,.int .i64 x2,r.v,.slice none 0 0]) h13 rfl fun w6 hh6 hc6 _=>?_
   exact fin (ch27 d5 hc6 (by omega)) hh6 (by omega) (keep ho (by decide) h13 hc6) hrb
 ·refine New.mk fun b13 w3 hb13 hn13 hz13 hc13=>?_
  have d3:=hd.then hc13
  refine ⟨d3,?_⟩
  refine New.mk fun b9 w4 hb9 hn9 hz9 hc9=>?_
  have d4:=d3.then hc9
  refine ⟨d4,?_⟩
  refine app d4 hn9 (by omega) fun r w5 ho d5 hc5 hrb=>?_
  refine ⟨d5,?_⟩
  have h13:=hc5.heap (hc9.heap hn13 fun h=>h) (fun h=>by have h:b13 = b9:=h; omega)
  refine StoreN.whole (vs:=[.int .i64 x1,.int .i64 x2,r.v,.slice none 0 0]) h13 rfl fun w6 hh6 hc6 _=>?_
  exact fin (ch27 d5 hc6 (by omega)) hh6 (by omega) (keep ho (by decide) h13 hc6) hrb
end Go.Proofs.YtffdjfkekdoeaaaDoor.Fo
end
