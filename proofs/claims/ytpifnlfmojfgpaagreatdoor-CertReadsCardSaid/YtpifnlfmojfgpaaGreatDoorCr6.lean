/- Parts of a proof, laid one behind the other by our own merge.py: PwReg PwDraw PwOrd PwEnt PwSound PwFn CtModel CtNum PkQueue PkNum. -/
import Derived.Test.YtpifnlfmojfgpaaGreatDoorCr5
import Derived.Test.YtpifnlfmojfgpaaGreatDoorCr1
import Derived.Lib.ItoaLen
import Derived.Lib.AtoiAllCases
import Derived.Test.YtpifnlfmojfgpaaGreatDoorProg
import Derived.KernelRfl
set_option linter.unusedVariables false
set_option linter.unusedSimpArgs false
section
namespace Go.Proofs.YtpifnlfmojfgpaaGreatDoor.Pw
open Fw RowKit
def EnvOk (s:Cx) (E:AEnv) (e:Env):Prop:=∀ d,RS s (E d) (e d)
theorem EnvOk.ext {s s':Cx} (h:Ext s s') {E:AEnv} {e:Env} (hE:EnvOk s E e):EnvOk s' E e:=fun d=>(hE d).ext h
theorem EnvOk.upd {s:Cx} {E:AEnv} {e:Env} (hE:EnvOk s E e) (d:Option Nat) {av:AV} {v:Value} (h:RS s av v):EnvOk s (aupdO E d av) (updO e d v):=by
 cases d with
 | none=>exact hE
 | some d=>
  intro t
  simp only [aupdO,updO,aupd,Fw.upd]
  cases Nat.beq t d with
  | true=>exact h
  | false=>exact hE t
theorem EnvOk.self {s:Cx} {E:AEnv} {e:Env} (hE:EnvOk s E e) {d:Nat} {b:Bool} (h:e d = .bool b):EnvOk s (aupd E d (.lit b)) e:=by
 intro t
 simp only [aupd]
 cases hb:Nat.beq t d with
 | true=>rw [Nat.eq_of_beq_eq_true hb,h]; exact RS.of_lit s b
 | false=>exact hE t
theorem gateP_ok {ops:Array Oper} {o:Oper} {s:Cx} {E:AEnv} {e:Env} {run skip:AEnv → Prop} (hE:EnvOk s E e) (h:gateP ops o E run skip) :
  (wantedE ops o e = true ∧ ∃ E',EnvOk s E' e ∧ run E') ∨ (wantedE ops o e = false ∧ ∃ E',EnvOk s E' e ∧ skip E'):=by
 unfold gateP at h
 unfold wantedE
 split at h
 ·rename_i hg; (try rw [hg]); exact .inl ⟨rfl,E,hE,h⟩
 ·rename_i d want hg
  (try rw [hg])
  (try dsimp only)
  have hd:=hE d
  split at h
  ·rename_i b hb
   rw [hb] at hd
   rw [hd.lit]
   cases hw:(b == want) with
   | true=>rw [hw] at h; exact .inl ⟨by simpa [isBool] using hw,E,hE,h⟩
   | false=>rw [hw] at h; exact .inr ⟨by simpa [isBool] using hw,E,hE,h⟩
  ·rename_i b hb
   rw [hb] at hd
   have he:=hd.bool
   rw [he]
   cases b with
   | true=>
    have:=h.t rfl
    cases want with
    | true=>exact .inl ⟨rfl,_,hE.self he,this⟩
    | false=>exact .inr ⟨rfl,_,hE.self he,this⟩
   | false=>
    have:=h.f rfl
    cases want with
    | true=>exact .inr ⟨rfl,_,hE.self he,this⟩
    | false=>exact .inl ⟨rfl,_,hE.self he,this⟩
  ·rename_i hb
   rw [hb] at hd
   obtain ⟨vs,hv,hr⟩:=hd
   exact .inr ⟨by rw [hv]; rfl,E,hE,h⟩
  ·exact h.elim
def NextN (P:Program) (O:Ow) (A0:Pos) (w0:World) (s:Cx) (H:AHeap) (M:Nat → Nat → Bool) (bar:Bool) (K:AEnv → AHeap → Nat → Prop) (e':Env) (w':World):Prop:=
 ∃ s' E' H',K E' H' s'.n ∧ s'.w = w' ∧ Ext s s' ∧ St P O A0 w0 s' H' ∧ EnvOk s' E' e' ∧ (bar = false → Keep s H M H' w')
theorem Keep.refl (s:Cx) (H:AHeap) (M:Nat → Nat → Bool):Keep s H M H s.w:=fun i o hi _=>⟨hi,rfl⟩
theorem stepP_ok {P:Program} {call:CallH} {O:Ow} {A0:Pos} {w0:World} (hcall:CallOk P call O A0 w0) {ops:Array Oper} {s:Cx} {H:AHeap} (h:St P O A0 w0 s H) {M:Nat → Nat → Bool} {bar:Bool} {E:AEnv} {e:Env} (hE:EnvOk s E e) {i:Nat} {o:Oper} (hi:ops[i]? = some o)
  {K:AEnv → AHeap → Nat → Prop} {Kp:AV → AHeap → Prop} (ho:Pw.stepP P call ops M bar o E H s.n K Kp):stepE P ops i e s.w (NextN P O A0 w0 s H M bar K) (StepP P O A0 w0 s Kp):=by
 unfold stepE
 rw [hi]
 dsimp only
 unfold Pw.stepP at ho
 rcases gateP_ok hE ho with ⟨hw,E',hE',ho⟩ | ⟨hw,E',hE',ho⟩
 ·rw [if_pos hw]
  split at ho
  ·rename_i hq
   obtain ⟨av,v,k1,k2,k3⟩:=opQ_ok h.hr hE' hq ho
   rw [k3 s.w (Still.refl s M H)]
   exact ⟨s,_,H,k1,rfl,.refl s,h,hE'.upd _ k2,fun _=>.refl s H M⟩
  ·refine Good.mono (opW_ok hcall h hE' ho) (fun v w' hv=>?_) (fun _ _ h=>h)
   obtain ⟨s',av,H',k1,k2,k3,k4,k5,k6⟩:=hv
   exact ⟨s',_,H',k1,k2,k3,k4,(hE'.ext k3).upd _ k5,k6⟩
 ·rw [if_neg (by rw [hw]; simp)]
  exact ⟨s,_,H,ho,rfl,.refl s,h,hE'.upd _ (show RS s (.tup .anil) undef from ⟨[],rfl,trivial⟩),fun _=>.refl s H M⟩
def EndN (P:Program) (O:Ow) (A0:Pos) (w0:World) (sB:Cx) (K:AEnv → AHeap → Nat → Prop) (e:Env) (w:World):Prop:=
 ∃ s E H,K E H s.n ∧ s.w = w ∧ Ext sB s ∧ St P O A0 w0 s H ∧ EnvOk s E e
theorem StepP.base {P:Program} {O:Ow} {A0:Pos} {w0:World} {sB s:Cx} (hx:Ext sB s) {Kp:AV → AHeap → Prop} {ch:List PanicEntry} {w:World} (h:StepP P O A0 w0 s Kp ch w):StepP P O A0 w0 sB Kp ch w:=by
 obtain ⟨s',p,u,H',k1,k2,k3,k4,k5⟩:=h
 exact ⟨s',p,u,H',k1,k2,k3,hx.trans k4,k5⟩
theorem seqP_ok {P:Program} {call:CallH} {O:Ow} {A0:Pos} {w0:World} (hcall:CallOk P call O A0 w0) {ops:Array Oper} {sB:Cx} {K:AEnv → AHeap → Nat → Prop} {Kp:AV → AHeap → Prop} :
  ∀ (l:List Oper) (k:Nat) {s:Cx} {H:AHeap} {E:AEnv} {e:Env},(∀ j,l[j]? = ops[k + j]?) → Ext sB s → St P O A0 w0 s H → EnvOk s E e → seqP P call ops K Kp l E H s.n →
   seqE P ops (EndN P O A0 w0 sB K) (StepP P O A0 w0 sB Kp) (List.range' k l.length) e s.w
 | [],k,s,H,E,e,_,hx,h,hE,hs=>⟨s,E,H,hs,rfl,hx,h,hE⟩
 | o :: l,k,s,H,E,e,hl,hx,h,hE,hs=>by
  have h0:ops[k]? = some o:=by simpa using (hl 0).symm
  have hl':∀ j,l[j]? = ops[k + 1 + j]?:=fun j=>by
   have:=hl (j + 1)
   rw [show k + 1 + j = k + (j + 1) by omega]; simpa using this
  rw [List.length_cons,List.range'_succ]
  unfold seqE
  unfold seqP at hs
  have:=stepP_ok hcall h hE h0 hs
  have key:∀ {C:Env → World → Prop} {Kq:List PanicEntry → World → Prop},stepE P ops k e s.w C Kq → (∀ e w,C e w → seqE P ops (EndN P O A0 w0 sB K) (StepP P O A0 w0 sB Kp) (List.range' (k + 1) l.length) e w) → (∀ c w,Kq c w → StepP P O A0 w0 sB Kp c w) →
    stepE P ops k e s.w (seqE P ops (EndN P O A0 w0 sB K) (StepP P O A0 w0 sB Kp) (List.range' (k + 1) l.length)) (StepP P O A0 w0 sB Kp):=fun {C Kq} h1 h2 h3=>by
   unfold stepE at *
   rw [h0] at h1 ⊢
   dsimp only at h1 ⊢
   split
   ·rename_i hw; rw [if_pos hw] at h1; exact Good.mono h1 (fun v w hv=>h2 _ _ hv) h3
   ·rename_i hw; rw [if_neg hw] at h1; exact h2 _ _ h1
  refine key this (fun e' w' hc=>?_) (fun c w' hc=>hc.base hx)
  obtain ⟨s',E',H',k1,rfl,k3,k4,k5,_⟩:=hc
  exact seqP_ok hcall l (k + 1) hl' (hx.trans k3) k4 k5 k1
end Go.Proofs.YtpifnlfmojfgpaaGreatDoor.Pw
end
section
namespace Go.Proofs.YtpifnlfmojfgpaaGreatDoor.Pw
open Fw RowKit
def Agree (B:Pos) (w w':World):Prop:=∀ g o,B g o → w'.cell? ⟨g,o,none⟩ = w.cell? ⟨g,o,none⟩
theorem Agree.refl (B:Pos) (w:World):Agree B w w:=fun _ _ _=>rfl
def anyG (P:Program) (ops:Array Oper) (C:Env → World → Prop) (Kp:List PanicEntry → World → Prop):Nat → Pos → Array Bool → Env → World → Prop
 | 0,_,listed,e,w=>Region.ready .any ops listed = [] ∧ C e w
 | f + 1,B,listed,e,w=>
  (Region.ready .any ops listed = [] → C e w) ∧
  ∀ i ∈ Region.ready .any ops listed,stepE P ops i e w (fun e' w'=>
   (pivot ops i = true ∧ ∃ B',anyG P ops C Kp f B' (listed.setIfInBounds i true) e' w') ∨
   (∃ B',(∀ g o,B g o → B' g o) ∧ Agree B w w' ∧ anyG P ops C Kp f B' (listed.setIfInBounds i true) e' w')) Kp
theorem wpAnyIn_of_anyG {ro:Option Nat} {P:Program} {ops:Array Oper} {F:Fm} {ds:List Deferred} {C:Env → World → Prop} {Kp:List PanicEntry → World → Prop} {Q:Exit → Act → World → Prop}
  (hok:okOps F ops = true) (hq:∀ e a w,Rep F ds e a → C e w → Q .normal a w) (hp:∀ c w,Kp c w → ∀ a:Act,a.defers = ds → (∀ p ∈ F.fx,a.tmps.getD p.1 undef = p.2) → Q (.panic c) a w) :
  ∀ (f:Nat) (B:Pos) (listed:Array Bool) (e:Env) (a:Act) (w:World),Rep F ds e a → anyG P ops C Kp f B listed e w → wpAnyIn (Wf ro) 0 P .any ops Q f listed a w
 | 0,B,listed,e,a,w,hr,h=>⟨h.1,hq e a w hr h.2⟩
 | f + 1,B,listed,e,a,w,hr,h=>by
  refine ⟨fun h0=>hq e a w hr (h.1 h0),fun i hi=>?_⟩
  refine wpOpIn_of_stepE hok hr (h.2 i hi) (fun e' a' w' hr' hc=>?_) hp
  rcases hc with ⟨_,B',hc⟩ | ⟨B',_,_,hc⟩
  ·exact wpAnyIn_of_anyG hok hq hp f B' _ e' a' w' hr' hc
  ·exact wpAnyIn_of_anyG hok hq hp f B' _ e' a' w' hr' hc
theorem YieldsE.sub {P:Program} {ops:Array Oper} {S S':World → Prop} {o:Oper} {v:Value} {e:Env} (h:YieldsE P ops S o v e) (hs:∀ w,S' w → S w):YieldsE P ops S' o v e:=by
 rcases h with ⟨h1,h2⟩ | h
 ·exact .inl ⟨h1,fun w hw=>h2 w (hs w hw)⟩
 ·exact .inr h
theorem anyG_first {P:Program} {ops:Array Oper} {F:Fm} {i:Nat} {oi:Oper} {v:Value} {C:Env → World → Prop} {Kp:List PanicEntry → World → Prop} (hok:okOps F ops = true) (hi:ops[i]? = some oi) :
  ∀ (f:Nat) (B:Pos) (listed:Array Bool) (e:Env) (w:World),Down ops listed →
   (∀ j oj,ops[j]? = some oj → j ≠ i → listed.getD j true = false → (∀ x ∈ oj.after,Region.binds .any x = true → x.on ≠ i) → oi.apart ops oj = true) →
   i ∈ Region.ready .any ops listed → YieldsE P ops (Agree B w) oi v e →
   anyG P ops C Kp f B (listed.setIfInBounds i true) (updO e oi.dst v) w → anyG P ops C Kp (f + 1) B listed e w:=by
 intro f
 induction f with
 | zero=>
  intro B listed e w _ _ hr hy H
  refine ⟨fun h=>(by rw [h] at hr; cases hr),fun j hj=>?_⟩
  by_cases hji:j = i
  ·subst hji; exact hy.stepE hi (Agree.refl B w) (.inr ⟨B,fun _ _ h=>h,Agree.refl B w,H⟩)
  ·have:=ready_mono hj hji
   rw [H.1] at this
   cases this
 | succ f ih=>
  intro B listed e w hdn hfree hr hy H
  refine ⟨fun h=>(by rw [h] at hr; cases hr),fun j hj=>?_⟩
  by_cases hji:j = i
  ·subst hji; exact hy.stepE hi (Agree.refl B w) (.inr ⟨B,fun _ _ h=>h,Agree.refl B w,H⟩)
  ·have h1:=H.2 j (ready_mono hj hji)
   obtain ⟨hjun,oj,hoj,hall⟩:=mem_ready.1 hj
   have hnot:∀ x ∈ oj.after,Region.binds .any x = true → x.on ≠ i:=fun x hx hb heq=>by
    have h1:=hall x hx hb
    have h0:=(mem_ready.1 hr).1
    rw [heq] at h1
    by_cases h':i < listed.size
    ·simp [h'] at h0 h1; rw [h0] at h1; cases h1
    ·simp [h'] at h1
   have h2:=stepE_put (F:=F) hoj (hfree j oj hoj hji hjun hnot) (okOp_at hok hi) (okOp_at hok hoj) hy h1
   have hfree':∀ k ok,ops[k]? = some ok → k ≠ i → (listed.setIfInBounds j true).getD k true = false →
     (∀ x ∈ ok.after,Region.binds .any x = true → x.on ≠ i) → oi.apart ops ok = true:=fun k ok hk hki hun hno=>by
    refine hfree k ok hk hki ?_ hno
    by_cases hjk:j = k
    ·subst hjk; exact hjun
    ·rw [getD_set_ne true hjk] at hun; exact hun
   refine stepE_mono h2 fun e' w' h3=>?_
   obtain ⟨hy',h3⟩:=h3
   rcases h3 with ⟨hp,_⟩ | ⟨B',hB,hag,h3⟩
   ·exact absurd (not_both_of_pivot hdn hp hr hj) (fun h=>hji h.symm)
   ·refine .inr ⟨B',hB,hag,ih B' (listed.setIfInBounds j true) e' w' (hdn.set hj) hfree' (ready_mono hr (Ne.symm hji)) (YieldsE.sub hy' fun w'' hw g o hg=>(hw g o (hB g o hg)).trans (hag g o hg)) ?_⟩
    rw [Array.setIfInBounds_comm _ _ hji]
    exact h3
theorem anyG_done {P:Program} {ops:Array Oper} {K:Env → World → Prop} {Kp:List PanicEntry → World → Prop} {B:Pos} {listed:Array Bool} {e:Env} {w:World} (hr:Region.ready .any ops listed = []) (h:K e w) :
  ∀ f,anyG P ops K Kp f B listed e w
 | 0=>⟨hr,h⟩
 | f + 1=>⟨fun _=>h,fun i hi=>by rw [hr] at hi; cases hi⟩
end Go.Proofs.YtpifnlfmojfgpaaGreatDoor.Pw
end
section
namespace Go.Proofs.YtpifnlfmojfgpaaGreatDoor.Pw
open Fw RowKit
def Sched.depth:Sched → Nat
 | .fin=>0
 | .op _ _ s=>s.depth + 1
 | .alt _ _ s t=>max s.depth t.depth + 1
def schedOk (P:Program) (ops:Array Oper):Sched → Array Bool → Bool
 | .fin,listed=>(Region.ready .any ops listed).isEmpty
 | .op i bar s,listed=>(Region.ready .any ops listed).contains i && (match ops[i]? with
   | some o=>bif isQ P o.op then Region.free .any ops listed i else (bif bar then pivot ops i else (Region.ready .any ops listed).all fun j=>j == i)
   | none=>false) && schedOk P ops s (listed.setIfInBounds i true)
 | .alt i j s t,listed=>(Region.ready .any ops listed).all (fun k=>k == i || k == j) && (Region.ready .any ops listed).contains i && (Region.ready .any ops listed).contains j && schedOk P ops s (listed.setIfInBounds i true) && schedOk P ops t (listed.setIfInBounds j true)
def stab (s:Cx) (H:AHeap) (M:Nat → Nat → Bool):Pos:=fun g o=>s.A g o ∨ ∃ i p,H.c i p ≠ none ∧ M i p = false ∧ (s.b i).1 = g ∧ (s.b i).2 + p = o
theorem still_of_agree {s:Cx} {H:AHeap} {M:Nat → Nat → Bool} {w:World} (h:Agree (stab s H M) s.w w):Still s M H w:=
 ⟨fun g o hg=>h g o (.inl hg),fun i o hi hm=>h _ _ (.inr ⟨i,o,hi,hm,rfl,rfl⟩)⟩
theorem stab_keep {P:Program} {s s':Cx} {H H':AHeap} {M:Nat → Nat → Bool} (hr:HR P s H) (hx:Ext s s') (hk:Keep s H M H' s'.w):(∀ g o,stab s H M g o → stab s' H' M g o) ∧ Agree (stab s H M) s.w s'.w:=by
 refine ⟨fun g o h=>?_,fun g o h=>?_⟩
 ·rcases h with h | ⟨i,p,h1,h2,h3,h4⟩
  ·exact .inl (hx.sub g o h).1
  ·obtain ⟨av,hv⟩:=some_of h1
   have hb:=hx.b i (hr.cell i p av hv).1
   exact .inr ⟨i,p,(hk i p h1 h2).1,h2,by rw [hb]; exact h3,by rw [hb]; exact h4⟩
 ·rcases h with h | ⟨i,p,h1,h2,rfl,rfl⟩
  ·exact (hx.sub g o h).2
  ·exact (hk i p h1 h2).2
theorem ordP_ok {P:Program} {call:CallH} {O:Ow} {A0:Pos} {w0:World} (hcall:CallOk P call O A0 w0) {ops:Array Oper} {F:Fm} (hok:okOps F ops = true) {sB:Cx} {M:Nat → Nat → Bool} {K:AEnv → AHeap → Nat → Prop} {Kp:AV → AHeap → Prop} :
  ∀ (sc:Sched) (f:Nat) {listed:Array Bool} {s:Cx} {H:AHeap} {E:AEnv} {e:Env},sc.depth ≤ f → schedOk P ops sc listed = true → Down ops listed → Ext sB s → St P O A0 w0 s H → EnvOk s E e → ordP P call ops M K Kp sc E H s.n →
   anyG P ops (EndN P O A0 w0 sB K) (StepP P O A0 w0 sB Kp) f (stab s H M) listed e s.w:=by
 intro sc
 -- one operation that is not quiet,or whose turn it is
 have one:∀ (sc:Sched) (i:Nat) (bar:Bool) (f:Nat),(∀ {listed:Array Bool} {s:Cx} {H:AHeap} {E:AEnv} {e:Env},schedOk P ops sc listed = true → Down ops listed → Ext sB s → St P O A0 w0 s H → EnvOk s E e → ordP P call ops M K Kp sc E H s.n →
   anyG P ops (EndN P O A0 w0 sB K) (StepP P O A0 w0 sB Kp) f (stab s H M) listed e s.w) → ∀ {listed:Array Bool} {s:Cx} {H:AHeap} {E:AEnv} {e:Env},(bar = true → pivot ops i = true) → i ∈ Region.ready .any ops listed → schedOk P ops sc (listed.setIfInBounds i true) = true → Down ops listed → Ext sB s → St P O A0 w0 s H → EnvOk s E e →
   opAt ops.toList i (fun o=>Pw.stepP P call ops M bar o E H s.n (ordP P call ops M K Kp sc) Kp) →
   stepE P ops i e s.w (fun e' w'=>(pivot ops i = true ∧ ∃ B',anyG P ops (EndN P O A0 w0 sB K) (StepP P O A0 w0 sB Kp) f B' (listed.setIfInBounds i true) e' w') ∨
    (∃ B',(∀ g o,stab s H M g o → B' g o) ∧ Agree (stab s H M) s.w w' ∧ anyG P ops (EndN P O A0 w0 sB K) (StepP P O A0 w0 sB Kp) f B' (listed.setIfInBounds i true) e' w')) (StepP P O A0 w0 sB Kp):=by
  intro sc i bar f ih listed s H E e hpiv hi hs hd hx h hE ho
  unfold opAt at ho
  split at ho
  ·rename_i o hoi
   have hoi':ops[i]? = some o:=by rw [← Array.getElem?_toList]; exact hoi
   have h1:=stepP_ok hcall h hE hoi' ho
   unfold stepE at h1 ⊢
   rw [hoi'] at h1 ⊢
   dsimp only at h1 ⊢
   have fin:∀ e' w',NextN P O A0 w0 s H M bar (ordP P call ops M K Kp sc) e' w' → (pivot ops i = true ∧ ∃ B',anyG P ops (EndN P O A0 w0 sB K) (StepP P O A0 w0 sB Kp) f B' (listed.setIfInBounds i true) e' w') ∨
    (∃ B',(∀ g o,stab s H M g o → B' g o) ∧ Agree (stab s H M) s.w w' ∧ anyG P ops (EndN P O A0 w0 sB K) (StepP P O A0 w0 sB Kp) f B' (listed.setIfInBounds i true) e' w'):=fun e' w' hc=>by
    obtain ⟨s',E',H',k1,rfl,k3,k4,k5,k6⟩:=hc
    have hn:=ih hs (hd.set hi) (hx.trans k3) k4 k5 k1
    cases hb:bar with
    | true=>exact .inl ⟨hpiv hb,_,hn⟩
    | false=>
     obtain ⟨q1,q2⟩:=stab_keep h.hr k3 (k6 hb)
     exact .inr ⟨_,q1,q2,hn⟩
   split
   ·rename_i hw; rw [if_pos hw] at h1; exact Good.mono h1 (fun v w hv=>fin _ _ hv) (fun c w hc=>hc.base hx)
   ·rename_i hw; rw [if_neg hw] at h1; exact fin _ _ h1
  ·exact ho.elim
 induction sc with
 | fin=>
  intro f listed s H E e hf hs hd hx h hE ho
  exact anyG_done (by simpa [schedOk] using hs) ⟨s,E,H,ho,rfl,hx,h,hE⟩ f
 | op i bar sc ih=>
  intro f listed s H E e hf hs hd hx h hE ho
  simp only [schedOk,Bool.and_eq_true] at hs
  obtain ⟨⟨hi,hm⟩,hs⟩:=hs
  have hi:i ∈ Region.ready .any ops listed:=by simpa using hi
  obtain ⟨f,rfl⟩:∃ f',f = f' + 1:=⟨f - 1,by simp only [Sched.depth] at hf; omega⟩
  have hf':sc.depth ≤ f:=by simp only [Sched.depth] at hf; omega
  simp only [ordP] at ho
  cases hoi:ops[i]? with
  | none=>rw [hoi] at hm; cases hm
  | some o=>
   rw [hoi] at hm
   dsimp only at hm
   cases hq:isQ P o.op with
   | true=>
    rw [hq] at hm
    simp only [cond_true] at hm
    have hfree:=Region.free_spec (md:=.any) hoi hm
    unfold opAt at ho
    rw [Array.getElem?_toList,hoi] at ho
    dsimp only at ho
    unfold Pw.stepP at ho
    rcases gateP_ok hE ho with ⟨hw,E',hE',ho⟩ | ⟨hw,E',hE',ho⟩
    ·rw [hq] at ho
     dsimp only at ho
     obtain ⟨av,v,k1,k2,k3⟩:=opQ_ok h.hr hE' hq ho
     exact anyG_first hok hoi f (stab s H M) listed e s.w hd hfree hi (.inl ⟨hw,fun w' hw'=>k3 w' (still_of_agree hw')⟩) (ih f hf' hs (hd.set hi) hx h (hE'.upd _ k2) k1)
    ·exact anyG_first hok hoi f (stab s H M) listed e s.w hd hfree hi (.inr ⟨hw,rfl⟩) (ih f hf' hs (hd.set hi) hx h (hE'.upd _ (show RS s (.tup .anil) undef from ⟨[],rfl,trivial⟩)) ho)
   | false=>
    rw [hq] at hm
    simp only [cond_false] at hm
    have honly:(bar = true → pivot ops i = true) ∧ ∀ j ∈ Region.ready .any ops listed,j = i:=by
     cases bar with
     | true=>exact ⟨fun _=>hm,fun j hj=>not_both_of_pivot hd hm hj hi⟩
     | false=>
      simp only [cond_false,List.all_eq_true] at hm
      exact ⟨fun h=>absurd h (by simp),fun j hj=>by simpa using hm j hj⟩
    refine ⟨fun h0=>(by rw [h0] at hi; cases hi),fun j hj=>?_⟩
    have hji:=honly.2 j hj
    subst hji
    exact one sc j bar f (fun hs hd hx h hE ho=>ih f hf' hs hd hx h hE ho) honly.1 hi hs hd hx h hE ho
 | alt i j s t ih1 ih2=>
  intro f listed st H E e hf hs hd hx h hE ho
  simp only [schedOk,Bool.and_eq_true] at hs
  obtain ⟨⟨⟨⟨ha,hi⟩,hj⟩,hs1⟩,hs2⟩:=hs
  have hi:i ∈ Region.ready .any ops listed:=by simpa using hi
  have hj:j ∈ Region.ready .any ops listed:=by simpa using hj
  obtain ⟨f,rfl⟩:∃ f',f = f' + 1:=⟨f - 1,by simp only [Sched.depth] at hf; omega⟩
  have hf1:s.depth ≤ f:=by simp only [Sched.depth] at hf; omega
  have hf2:t.depth ≤ f:=by simp only [Sched.depth] at hf; omega
  simp only [ordP] at ho
  refine ⟨fun h0=>(by rw [h0] at hi; cases hi),fun k hk=>?_⟩
  rw [List.all_eq_true] at ha
  have:=ha k hk
  simp only [Bool.or_eq_true,beq_iff_eq] at this
  rcases this with rfl | rfl
  ·exact one s k false f (fun hs hd hx h hE ho=>ih1 f hf1 hs hd hx h hE ho) (fun h=>by cases h) hi hs1 hd hx h hE ho.1
  ·exact one t k false f (fun hs hd hx h hE ho=>ih2 f hf2 hs hd hx h hE ho) (fun h=>by cases h) hj hs2 hd hx h hE ho.2
end Go.Proofs.YtpifnlfmojfgpaaGreatDoor.Pw
end
section
namespace Go.Proofs.YtpifnlfmojfgpaaGreatDoor.Pw
open Fw RowKit
theorem same_rv {s0 s:Cx} (hx:Ext s0 s):∀ {a b:AV} {us vs:List Value},a.same b = true → RV s0 b us → RV s a vs → vs = us ∧ a.isAgg = b.isAgg ∧ a.val = true ∧ b.val = true:=by
 intro a
 induction a with
 | adr i o=>
  intro b us vs h h0 h1
  cases b <;> simp only [AV.same] at h <;> first | (cases h; done) | skip
  simp only [Bool.and_eq_true] at h
  obtain ⟨k1,rfl⟩:=h0
  obtain ⟨_,rfl⟩:=h1
  rw [Nat.eq_of_beq_eq_true h.1,Nat.eq_of_beq_eq_true h.2,hx.b _ k1]
  exact ⟨rfl,rfl,rfl,rfl⟩
 | yld l=>
  intro b us vs h h0 h1
  cases b <;> simp only [AV.same] at h <;> first | (cases h; done) | skip
  simp only [RV] at h0 h1
  rw [h0,h1,Nat.eq_of_beq_eq_true h]; exact ⟨rfl,rfl,rfl,rfl⟩
 | fn f c ih=>
  intro b us vs h h0 h1
  cases b <;> simp only [AV.same] at h <;> first | (cases h; done) | skip
  simp only [Bool.and_eq_true] at h
  obtain ⟨cs,k1,rfl⟩:=h0
  obtain ⟨cs',k2,rfl⟩:=h1
  obtain ⟨rfl,_⟩:=ih h.2 k1 k2
  rw [Nat.eq_of_beq_eq_true h.1]; exact ⟨rfl,rfl,rfl,rfl⟩
 | anil=>
  intro b us vs h h0 h1
  cases b <;> simp only [AV.same] at h <;> first | (cases h; done) | skip
  simp only [RV] at h0 h1
  rw [h0,h1]; exact ⟨rfl,rfl,rfl,rfl⟩
 | acons x y ih1 ih2=>
  intro b us vs h h0 h1
  cases b <;> simp only [AV.same] at h <;> first | (cases h; done) | skip
  simp only [Bool.and_eq_true] at h
  obtain ⟨p,q,rfl,k1,k2⟩:=h0
  obtain ⟨p',q',rfl,k3,k4⟩:=h1
  obtain ⟨rfl,_⟩:=ih1 h.1 k1 k3
  obtain ⟨rfl,_⟩:=ih2 h.2 k2 k4
  exact ⟨rfl,rfl,rfl,rfl⟩
 | _=>intro b us vs h; cases b <;> simp only [AV.same] at h <;> cases h
theorem same_vals {a b:AV} (h:a.same b = true):a.val = true ∧ b.val = true ∧ a.isAgg = b.isAgg:=by
 cases a <;> cases b <;> simp only [AV.same] at h <;> first | (cases h; done) | exact ⟨rfl,rfl,rfl⟩
theorem same_val {s0 s:Cx} (hx:Ext s0 s) {a b:AV} {u v:Value} (h:a.same b = true) (h0:RS s0 b u) (h1:RS s a v):v = u:=by
 obtain ⟨k1,k2,k3⟩:=same_vals h
 obtain ⟨us,r1,r2⟩:=h0.val k2
 obtain ⟨vs,r3,r4⟩:=h1.val k1
 obtain ⟨rfl,_⟩:=same_rv hx h r1 r3
 unfold AV.pack at r2 r4
 rw [k3] at r4
 cases hb:b.isAgg with
 | true=>rw [hb] at r2 r4; rw [r2,r4]
 | false=>
  rw [hb] at r2 r4
  rw [r2] at r4
  simpa using r4.symm
def Cx.mv (s0:Cx) (A:Pos) (w:World):Cx:=⟨A,w,s0.b,s0.s,s0.n⟩
theorem Cx.mv_ext {s0 s:Cx} (hx:Ext s0 s):Ext (s0.mv s.A s.w) s:=⟨fun _ _ h=>⟨h,rfl⟩,hx.b,hx.l,hx.n⟩
theorem RV.back {s0 s:Cx} (hx:Ext s0 s):∀ {av:AV} {us vs:List Value},RV s0 av us → RV s av vs → RV (s0.mv s.A s.w) av vs
 | .pv _ _,_,_,_,hr=>hr
 | .lit _,_,_,_,hr=>hr
 | .ls _ _ id,_,_,⟨h1,_,_⟩,⟨_,k2,k3⟩=>⟨h1,by rw [hx.l id h1] at k2; exact k2,k3⟩
 | .adr id _,_,_,⟨h1,_⟩,⟨_,k2⟩=>⟨h1,by rw [hx.b id h1] at k2; exact k2⟩
 | .ref _ _,_,_,_,hr=>hr
 | .fn _ _,_,_,⟨_,h1,_⟩,⟨cs,k1,k2⟩=>⟨cs,h1.back hx k1,k2⟩
 | .yld _,_,_,_,hr=>hr
 | .ifc _ _,_,_,⟨_,_,h1,_,_⟩,⟨us,u,k1,k2,k3⟩=>⟨us,u,h1.back hx k1,k2,k3⟩
 | .anil,_,_,_,hr=>hr
 | .acons _ _,_,_,⟨_,_,_,h1,h2⟩,⟨us,us',he,k1,k2⟩=>⟨us,us',he,h1.back hx k1,h2.back hx k2⟩
 | .tup _,_,_,h,_=>h.elim
 | .cst _,_,_,_,hr=>hr
 | .top,_,_,_,hr=>hr
theorem RT.back {s0 s:Cx} (hx:Ext s0 s):∀ {av:AV} {us vs:List Value},RT s0 av us → RT s av vs → RT (s0.mv s.A s.w) av vs
 | .acons _ _,_ :: _,_ :: _,⟨⟨_,h1,_⟩,h2⟩,⟨⟨vs,k1,k2⟩,k3⟩=>⟨⟨vs,h1.back hx k1,k2⟩,h2.back hx k3⟩
 | .anil,[],[],_,_=>trivial
theorem RS.back {s0 s:Cx} (hx:Ext s0 s) {av:AV} {u v:Value} (h:RS s0 av u) (hr:RS s av v):RS (s0.mv s.A s.w) av v:=by
 cases av <;> first | (obtain ⟨us,h1,_⟩:=h; obtain ⟨vs,k1,k2⟩:=hr; exact RS.one ⟨vs,h1.back hx k1,k2⟩) | skip
 case tup l=>obtain ⟨us,h1,h2⟩:=h; obtain ⟨vs,k1,k2⟩:=hr; exact ⟨vs,k1,h2.back hx k2⟩
 case top=>trivial
theorem dropB_c (i:Nat) (H:AHeap) (j p:Nat):(H.dropB i).c j p = if j = i then none else H.c j p:=by
 simp only [AHeap.dropB]
 cases h1:Nat.beq j i with
 | true=>rw [if_pos (Nat.eq_of_beq_eq_true h1)]
 | false=>rw [if_neg (Nat.ne_of_beq_eq_false h1)]
theorem dropB_le (H:AHeap) (i:Nat):(H.dropB i).le H:=
 ⟨fun j p av h=>by rw [dropB_c] at h; split at h <;> first | cases h | exact h,fun j e h=>h⟩
theorem putB_c (i:Nat) (f:Nat → Option AV) (H:AHeap) (j p:Nat):(H.putB i f).c j p = if j = i ∧ H.c j p = none then f p else H.c j p:=by
 simp only [AHeap.putB]
 cases h1:Nat.beq j i with
 | true=>
  have h1:=Nat.eq_of_beq_eq_true h1
  cases h2:H.c j p with
  | none=>rw [if_pos ⟨h1,rfl⟩]
  | some av=>rw [if_neg (fun h=>by cases h.2)]
 | false=>
  have h1:=Nat.ne_of_beq_eq_false h1
  rw [if_neg (fun h=>h1 h.1)]
def KeptB (s:Cx) (i:Nat) (f:Nat → Option AV) (ω:Ow):Prop:=
 ∀ o av,f o = some av → av.isAgg = false ∧ (∃ v,s.w.cell? ⟨(s.b i).1,(s.b i).2 + o,none⟩ = some v ∧ RV s av [v]) ∧ s.w.frozen? ⟨(s.b i).1,(s.b i).2 + o,none⟩ = false ∧ ¬ s.A (s.b i).1 ((s.b i).2 + o) ∧ ω.c (s.b i).1 ((s.b i).2 + o)
theorem HR.putB {P:Program} {s:Cx} {H:AHeap} (h:HR P s H) {id:Nat} {f:Nat → Option AV} {ω:Ow} (hid:id < s.n) (hf:KeptB s id f ω) (ho:ω.out s H) :
  HR P s (H.putB id f) ∧ Laid s s H (H.putB id f) ω:=by
 have split:∀ i p av,(H.putB id f).c i p = some av → (i = id ∧ H.c i p = none ∧ f p = some av) ∨ H.c i p = some av:=fun i p av hi=>by
  rw [putB_c] at hi
  by_cases hq:i = id ∧ H.c i p = none
  ·rw [if_pos hq] at hi; exact .inl ⟨hq.1,hq.2,hi⟩
  ·rw [if_neg hq] at hi; exact .inr hi
 have nn:∀ {i p av},H.c i p = some av → H.c i p ≠ none:=fun h=>by rw [h]; exact fun h=>by cases h
 have ht:(H.putB id f).t = H.t:=rfl
 refine ⟨⟨h.low,fun i p av hi=>?_,fun i p j q hi hj hg he=>?_,fun i e hi=>?_,fun i e j p hi hj a ha=>?_,fun i j e e' hi hj=>?_⟩,⟨rfl,rfl,.refl s,fun i p hi=>?_,fun i p hi=>?_,fun i e hi=>?_⟩⟩
 ·rcases split i p av hi with ⟨rfl,h1,ha⟩ | ha
  ·obtain ⟨k1,k2,k3,k4,_⟩:=hf p av ha
   exact ⟨hid,k1,k2,k3,k4⟩
  ·exact h.cell i p av ha
 ·obtain ⟨av,hi⟩:=some_of hi
  obtain ⟨av',hj⟩:=some_of hj
  rcases split i p av hi with ⟨e1,h1,ha⟩ | ha <;> rcases split j q av' hj with ⟨e2,h1',ha'⟩ | ha'
  ·subst e1; subst e2; exact ⟨rfl,by omega⟩
  ·subst e1
   exfalso
   obtain ⟨_,_,_,_,h5⟩:=hf p av ha
   rw [he,hg] at h5
   exact (ho.c j q (nn ha')).1 h5
  ·subst e2
   exfalso
   obtain ⟨_,_,_,_,h5⟩:=hf q av' ha'
   rw [← he,← hg] at h5
   exact (ho.c i p (nn ha)).1 h5
  ·exact h.inj i p j q (nn ha) (nn ha') hg he
 ·rw [ht] at hi; exact h.tok i e hi
 ·rw [ht] at hi
  obtain ⟨av,hj⟩:=some_of hj
  rcases split j p av hj with ⟨e1,h1,ha'⟩ | ha'
  ·subst e1
   intro he
   obtain ⟨_,_,_,_,h5⟩:=hf p av ha'
   rw [← he] at h5
   exact (ho.t i e a hi ha).2 _ h5
  ·exact h.apart i e j p hi (nn ha') a ha
 ·rw [ht] at hi hj; exact h.tinj i j e e' hi hj
 ·rw [putB_c,if_neg (fun hq=>hi hq.2)]
 ·obtain ⟨av,hv'⟩:=some_of hi
  rcases split i p av hv' with ⟨e1,h1,ha⟩ | ha
  ·subst e1
   obtain ⟨_,_,_,_,h5⟩:=hf p av ha
   exact .inr ⟨hid,h5⟩
  ·exact .inl ⟨(h.cell i p av ha).1,nn ha⟩
 ·rw [ht] at hi; exact .inl ⟨(h.tok i e hi).1,hi⟩
def TE (P:Program) (A:Pos) (w:World) (s0:Cx) (E0:AEnv) (H0:AHeap) (e0:Env):(l:List Ent) → eden l → Env → Ow → Prop
 | [],_,_,_=>True
 | .kp d :: l,x,e,ω=>e d = e0 d ∧ TE P A w s0 E0 H0 e0 l x e ω
 | .kv d :: l,x,e,ω=>RS (s0.mv A w) (E0 d) (e d) ∧ TE P A w s0 E0 H0 e0 l x e ω
 | .sl d t :: l,x,e,ω=>∃ ω1 ω2,TR1 P A w t x.1 (e d) ω1 ∧ TE P A w s0 E0 H0 e0 l x.2 e ω2 ∧ ω1.dis ω2 ∧ ω1.le ω ∧ ω2.le ω
 | .km i :: l,x,e,ω=>i < s0.n ∧ ∃ ω1 ω2,KeptB (s0.mv A w) i (H0.c i) ω1 ∧ TE P A w s0 E0 H0 e0 l x e ω2 ∧ ω1.dis ω2 ∧ ω1.le ω ∧ ω2.le ω
 | .mem i o t :: l,x,e,ω=>i < s0.n ∧ ∃ ω1 ω2,TR P A w (.box t) x.1 [.pointer (some ⟨(s0.b i).1,(s0.b i).2 + o,none⟩)] ω1 ∧ TE P A w s0 E0 H0 e0 l x.2 e ω2 ∧ ω1.dis ω2 ∧ ω1.le ω ∧ ω2.le ω
theorem takeE_ok {P:Program} {s0 s:Cx} {E0:AEnv} {H0:AHeap} {e0:Env} (hx:Ext s0 s) (h0:EnvOk s0 E0 e0) (hh:HR P s0 H0):∀ (l:List Ent) {E:AEnv} {e:Env} {H:AHeap} {K:eden l → AHeap → Prop},entOk s0.n l = true → HR P s H → EnvOk s E e → takeE E0 H0 l E H K →
  ∃ x H' ω,K x H' ∧ H'.le H ∧ TE P s.A s.w s0 E0 H0 e0 l x e ω ∧ ω.from s H H'
 | [],E,e,H,K,ho,hr,hE,h=>⟨(),H,.no,h,.refl H,trivial,.no _ _ _⟩
 | .kp d :: l,E,e,H,K,ho,hr,hE,h=>by
  simp only [takeE] at h
  cases hb:(E d).same (E0 d) with
  | false=>rw [hb] at h; exact h.elim
  | true=>
   rw [hb] at h
   obtain ⟨x,H',ω,k1,k2,k3,k4⟩:=takeE_ok hx h0 hh l ho hr hE h
   exact ⟨x,H',ω,k1,k2,⟨same_val hx hb (h0 d) (hE d),k3⟩,k4⟩
 | .kv d :: l,E,e,H,K,ho,hr,hE,h=>by
  obtain ⟨he,h⟩:=h
  obtain ⟨x,H',ω,k1,k2,k3,k4⟩:=takeE_ok hx h0 hh l ho hr hE h
  have hd:=hE d
  rw [he] at hd
  exact ⟨x,H',ω,k1,k2,⟨(h0 d).back hx hd,k3⟩,k4⟩
 | .km i :: l,E,e,H,K,ho,hr,hE,h=>by
  simp only [entOk,Bool.and_eq_true] at ho
  have hi:i < s0.n:=by simpa using ho.1
  obtain ⟨he,h⟩:=h
  have hle:=dropB_le H i
  have hfrom:Ow.from s H (H.dropB i) ⟨fun g k=>∃ p,H.c i p ≠ none ∧ g = (s.b i).1 ∧ k = (s.b i).2 + p,fun _=>False⟩:=⟨fun g k hg=>by
   obtain ⟨p,hp,rfl,rfl⟩:=hg
   exact ⟨i,p,hp,by rw [dropB_c,if_pos rfl],rfl,rfl⟩,fun _ h=>h.elim⟩
  obtain ⟨x,H',ω,k1,k2,k3,k4⟩:=takeE_ok hx h0 hh l ho.2 (hr.le hle) hE h
  have hb:s.b i = s0.b i:=hx.b i hi
  refine ⟨x,H',Ow.or ⟨fun g k=>∃ p,H.c i p ≠ none ∧ g = (s.b i).1 ∧ k = (s.b i).2 + p,fun _=>False⟩ ω,k1,k2.trans hle,⟨hi,_,ω,fun o av ha=>?_,k3,hfrom.dis hr hle k4,.left _ _,.right _ _⟩,(hfrom.later k2).or (k4.earlier hle)⟩
  obtain ⟨_,_,⟨v0,_,r0⟩,_⟩:=hh.cell i o av ha
  have hH:H.c i o = some av:=by rw [he]; exact ha
  obtain ⟨_,m2,⟨v,m3,m4⟩,m5,m6⟩:=hr.cell i o av hH
  rw [hb] at m3 m5 m6
  have hne:H.c i o ≠ none:=fun h=>by rw [hH] at h; cases h
  exact ⟨m2,⟨v,m3,r0.back hx m4⟩,m5,m6,⟨o,hne,by rw [hb]; rfl,by rw [hb]; rfl⟩⟩
 | .sl d t :: l,E,e,H,K,ho,hr,hE,h=>by
  simp only [takeE] at h
  obtain ⟨x,H1,ω1,k1,k2,k3,k4,_⟩:=takeS_ok hr (hE d) h
  obtain ⟨y,H2,ω2,m1,m2,m3,m4⟩:=takeE_ok hx h0 hh l ho (hr.le k2) hE k1
  exact ⟨(x,y),H2,ω1.or ω2,m1,m2.trans k2,⟨ω1,ω2,k3,m3,k4.dis hr k2 m4,.left _ _,.right _ _⟩,(k4.later m2).or (m4.earlier k2)⟩
 | .mem i o t :: l,E,e,H,K,ho,hr,hE,h=>by
  simp only [entOk,Bool.and_eq_true] at ho
  have hi:i < s0.n:=by simpa using ho.1
  simp only [takeE] at h
  cases hb:(H.c i o).isSome with
  | false=>rw [hb] at h; exact h.elim
  | true=>
   rw [hb] at h
   simp only [cond_true] at h
   obtain ⟨x,H1,vs,ω1,k1,k2,k3,k4,k5,k6,_⟩:=take_ok (.box t) (c:=fun _ _=>some (.adr i o)) (o:=0) (val:=fun _=>some (.pointer (some ⟨(s.b i).1,(s.b i).2 + o,none⟩))) hr (fun _ _ _ _ _ _ hj=>hj) (fun H' hl j av hj=>by
    simp only [Option.some.injEq] at hj; subst hj
    exact ⟨rfl,_,rfl,Nat.lt_of_lt_of_le hi hx.n,rfl⟩) h
   have hvs:vs = [.pointer (some ⟨(s0.b i).1,(s0.b i).2 + o,none⟩)]:=by
    obtain ⟨v,rfl⟩:∃ v,vs = [v]:=List.length_eq_one_iff.1 k4
    have:=k5 0 v rfl
    simp only [Option.some.injEq] at this
    rw [← this,hx.b i hi]
   rw [hvs] at k3
   obtain ⟨y,H2,ω2,m1,m2,m3,m4⟩:=takeE_ok hx h0 hh l ho.2 (hr.le k2) hE k1
   exact ⟨(x,y),H2,ω1.or ω2,m1,m2.trans k2,⟨hi,ω1,ω2,k3,m3,k6.dis hr k2 m4,.left _ _,.right _ _⟩,(k6.later m2).or (m4.earlier k2)⟩
theorem TE.at {P:Program} {A A':Pos} {w w':World} (hA:A' = A) (hw:w' = w) {s0:Cx} {E0:AEnv} {H0:AHeap} {e0:Env} {l:List Ent} {x:eden l} {e:Env} {ω:Ow} (h:TE P A w s0 E0 H0 e0 l x e ω):TE P A' w' s0 E0 H0 e0 l x e ω:=by subst hA; subst hw; exact h
theorem layE_ok {P:Program} {s0:Cx} {E0:AEnv} {H0:AHeap} {e0:Env} (h0:EnvOk s0 E0 e0):∀ (l:List Ent) {x:eden l} {e:Env} {s:Cx} {H:AHeap} {K:AEnv → AHeap → Nat → Prop} {ω:Ow},Ext s0 s → TE P s.A s.w s0 E0 H0 e0 l x e ω → HR P s H → ω.out s H → layE E0 H0 l x H s.n K →
  ∃ s' E' H',K E' H' s'.n ∧ HR P s' H' ∧ EnvOk s' E' e ∧ Laid s s' H H' ω
 | [],x,e,s,H,K,ω,hx,ht,hr,ho,h=>⟨s,_,H,h,hr,fun d=>(show RS s .top (e d) from trivial),.refl hr ω⟩
 | .kp d :: l,x,e,s,H,K,ω,hx,ht,hr,ho,h=>by
  simp only [layE] at h
  obtain ⟨s',E',H',k1,k2,k3,k4⟩:=layE_ok h0 l hx ht.2 hr ho h
  refine ⟨s',_,H',k1,k2,fun t=>?_,k4⟩
  simp only [aupd]
  cases hb:Nat.beq t d with
  | true=>
   rw [Nat.eq_of_beq_eq_true hb,ht.1]
   exact ((h0 d).ext hx).ext k4.x
  | false=>exact k3 t
 | .kv d :: l,x,e,s,H,K,ω,hx,ht,hr,ho,h=>by
  simp only [layE] at h
  obtain ⟨s',E',H',k1,k2,k3,k4⟩:=layE_ok h0 l hx ht.2 hr ho h
  refine ⟨s',_,H',k1,k2,fun t=>?_,k4⟩
  simp only [aupd]
  cases hb:Nat.beq t d with
  | true=>
   rw [Nat.eq_of_beq_eq_true hb]
   exact (ht.1.ext (Cx.mv_ext hx)).ext k4.x
  | false=>exact k3 t
 | .km i :: l,x,e,s,H,K,ω,hx,ht,hr,ho,h=>by
  obtain ⟨hi,ω1,ω2,h1,h2,h3,h4,h5⟩:=ht
  simp only [layE] at h
  obtain ⟨s',E',H',m1,m2,m3,m4⟩:=layE_ok h0 l hx h2 hr (ho.mono h5) h
  have hx':=hx.trans m4.x
  have hb:s'.b i = s0.b i:=hx'.b i hi
  have hk:KeptB s' i (H0.c i) ω1:=fun o av ha=>by
   obtain ⟨q1,⟨v,q2,q3⟩,q4,q5,q6⟩:=h1 o av ha
   refine ⟨q1,⟨v,?_,(q3.ext (Cx.mv_ext hx)).ext m4.x⟩,?_,?_,?_⟩
   ·rw [m4.w,hb]; exact q2
   ·rw [m4.w,hb]; exact q4
   ·rw [m4.a,hb]; exact q5
   ·rw [hb]; exact q6
  obtain ⟨p1,p2⟩:=m2.putB (id:=i) (f:=H0.c i) (ω:=ω1) (Nat.lt_of_lt_of_le hi hx'.n) hk (m4.out hr (ho.mono h4) h3.symm)
  exact ⟨s',E',_,m1,p1,m3,m4.trans p2 h5 h4⟩
 | .sl d t :: l,x,e,s,H,K,ω,hx,ht,hr,ho,h=>by
  obtain ⟨ω1,ω2,h1,h2,h3,h4,h5⟩:=ht
  simp only [layE] at h
  obtain ⟨s1,av,H1,k1,k2,k3,k4⟩:=lay1_ok h1 hr (ho.mono h4) h
  obtain ⟨s',E',H',m1,m2,m3,m4⟩:=layE_ok h0 l (hx.trans k4.x) (h2.at k4.a k4.w) k2 (k4.out hr (ho.mono h5) h3) k1
  refine ⟨s',_,H',m1,m2,fun t=>?_,k4.trans m4 h4 h5⟩
  simp only [aupd]
  cases hb:Nat.beq t d with
  | true=>
   rw [Nat.eq_of_beq_eq_true hb]
   exact RS.one (k3.ext m4.x)
  | false=>exact m3 t
 | .mem i o t :: l,x,e,s,H,K,ω,hx,ht,hr,ho,h=>by
  obtain ⟨hi,ω1,ω2,h1,h2,h3,h4,h5⟩:=ht
  obtain ⟨g,o',us,ω3,ω4,he,hl,n1,n2,n3,n4,n5⟩:=h1
  simp only [List.cons.injEq,Value.pointer.injEq,Option.some.injEq,Addr.mk.injEq,and_true] at he
  obtain ⟨rfl,rfl⟩:=he
  simp only [layE] at h
  have ho1:=ho.mono h4
  obtain ⟨s1,cs,H1,k1,k2,k3,k4⟩:=layC_ok t n1 hr (ho1.mono n4) h
  obtain ⟨s2,E2,H2,m1,m2,m3,m4⟩:=layE_ok h0 l (hx.trans k4.x) (h2.at k4.a k4.w) k2 ((k4.out (ω2:=ω2) hr (ho.mono h5) ((Ow.dis.mono h3 n4 (.refl _))))) k1
  have hb:s2.b i = s0.b i:=(hx.trans (k4.x.trans m4.x)).b i hi
  have q0:=k4.trans (ω:=ω3.or ω2) m4 (.left _ _) (.right _ _)
  have hd:(ω3.or ω2).dis ω4:=by
   have d2:ω2.dis ω4:=(Ow.dis.mono h3 n5 (.refl _)).symm
   exact ⟨fun g o h=>h.elim (n3.1 g o) (d2.1 g o),fun g h=>h.elim (n3.2.1 g) (d2.2.1 g),fun g o h=>h.elim (n3.2.2.1 g o) (d2.2.2.1 g o),fun g o hb ha=>ha.elim (n3.2.2.2 g o hb) (d2.2.2.2 g o hb)⟩
  obtain ⟨p1,p2⟩:=m2.putBox (id:=i) (o:=o) (ω:=ω4) (vs:=us) (avs:=cs) (Nat.lt_of_lt_of_le hi (hx.trans (k4.x.trans m4.x)).n) (k3.ext m4.x) (fun j v hj=>by rw [q0.a,q0.w,hb]; exact n2 j v hj) (q0.out hr (ho1.mono n5) hd)
  exact ⟨s2,E2,_,m1,p1,m3,q0.trans p2 (Ow.or_le (n4.trans h4) h5) (n5.trans h4)⟩
end Go.Proofs.YtpifnlfmojfgpaaGreatDoor.Pw
end
section
namespace Go.Proofs.YtpifnlfmojfgpaaGreatDoor.Pw
open Fw RowKit
structure AKsOk (F:Fm) (P:Program) (O:Ow) (A0:Pos) (w0:World) (sB:Cx) (k:AKs) (Q:Exit → Act → World → Prop):Prop where
 N:∀ e a w,Rep F [] e a → EndN P O A0 w0 sB k.N e w → Q .normal a w
 X:∀ i e a w,Rep F [] e a → EndN P O A0 w0 sB (k.X i) e w → Q (.exit i) a w
 R:∀ e a w,Rep F [] e a → EndN P O A0 w0 sB k.R e w → Q .ret a w
 P:∀ c w,StepP P O A0 w0 sB k.P c w → ∀ a:Act,a.defers = [] → (∀ p ∈ F.fx,a.tmps.getD p.1 undef = p.2) → Q (.panic c) a w
theorem EndN.base {P:Program} {O:Ow} {A0:Pos} {w0:World} {sB s:Cx} (hx:Ext sB s) {K:AEnv → AHeap → Nat → Prop} {e:Env} {w:World} (h:EndN P O A0 w0 s K e w):EndN P O A0 w0 sB K e w:=by
 obtain ⟨s',E,H,k1,k2,k3,k4⟩:=h
 exact ⟨s',E,H,k1,k2,hx.trans k3,k4⟩
theorem AKsOk.base {F:Fm} {P:Program} {O:Ow} {A0:Pos} {w0:World} {sB s:Cx} (hx:Ext sB s) {k:AKs} {Q:Exit → Act → World → Prop} (h:AKsOk F P O A0 w0 sB k Q):AKsOk F P O A0 w0 s k Q:=
 ⟨fun e a w hr hn=>h.N e a w hr (hn.base hx),fun i e a w hr hn=>h.X i e a w hr (hn.base hx),fun e a w hr hn=>h.R e a w hr (hn.base hx),fun c w hc=>h.P c w (hc.base hx)⟩
theorem AKsOk.setN {F:Fm} {P:Program} {O:Ow} {A0:Pos} {w0:World} {sB:Cx} {k:AKs} {N:AEnv → AHeap → Nat → Prop} {Q Q':Exit → Act → World → Prop} (h:AKsOk F P O A0 w0 sB k Q)
  (hN:∀ e a w,Rep F [] e a → EndN P O A0 w0 sB N e w → Q' .normal a w) (hx:∀ e a w,e ≠ .normal → Q e a w → Q' e a w):AKsOk F P O A0 w0 sB { k with N:=N } Q':=
 ⟨hN,fun i e a w hr hn=>hx _ _ _ (by simp) (h.X i e a w hr hn),fun e a w hr hn=>hx _ _ _ (by simp) (h.R e a w hr hn),fun c w hc a ha hf=>hx _ _ _ (by simp) (h.P c w hc a ha hf)⟩
def okC (P:Program) (F:Fm) (A:FAnn):Code → Bool
 | .skip=>true
 | .region id ops draw=>okOps F ops && (bif draw then schedOk P ops (A.sched id) (Array.replicate ops.size false) && Nat.ble (A.sched id).depth ops.size else true)
 | .seq a b=>okC P F A a && okC P F A b
 | .cond c a b=>okX F.n c && okC P F A a && okC P F A b
 | .block _ c=>okC P F A c
 | .exit _=>true
 | .ret=>true
 | .loop c=>okC P F A c
 | _=>false
theorem St.rename {P:Program} {O:Ow} {A0:Pos} {w0:World} {s0 s:Cx} {H:AHeap} (hx:Ext s0 s) (h:St P O A0 w0 s H) :
  St P O A0 w0 { A:=s.A,w:=s.w,b:=s0.b,s:=s0.s,n:=s0.n } AHeap.none ∧ Ext s0 { A:=s.A,w:=s.w,b:=s0.b,s:=s0.s,n:=s0.n }:=
 ⟨⟨⟨h.hr.low,fun i o av hi=>(by cases hi),fun i o j p hi=>absurd rfl hi,fun i e hi=>(by cases hi),fun i e j o hi=>(by cases hi),fun i j e f hi=>(by cases hi)⟩,fun i o hi=>absurd rfl hi,fun i e a hi=>(by cases hi),h.fr,h.new,h.an,h.sub⟩,hx.sub,fun _ _=>rfl,fun _ _=>rfl,Nat.le_refl _⟩
theorem Ow.from.le {P:Program} {O:Ow} {A0:Pos} {w0:World} {s:Cx} {H H':AHeap} (h:St P O A0 w0 s H) {ω:Ow} (hf:ω.from s H H'):ω.le O:=
 ⟨fun g o hg=>by obtain ⟨i,p,a1,_,rfl,rfl⟩:=hf.c g o hg; exact h.own i p a1,fun g hg=>by obtain ⟨i,e,a,a1,_,a3,rfl⟩:=hf.t g hg; exact h.tok i e a a1 a3⟩
theorem relay {P:Program} {O:Ow} {A0:Pos} {w0:World} {s0 s:Cx} {E0:AEnv} {H0:AHeap} {e0 e:Env} {H:AHeap} (h0:EnvOk s0 E0 e0) (hx:Ext s0 s) (h:St P O A0 w0 s H) {l:List Ent} {x:eden l} {ω:Ow} (ht:TE P s.A s.w s0 E0 H0 e0 l x e ω) (hle:ω.le O) {K:AEnv → AHeap → Nat → Prop}
  (hk:layE E0 H0 l x AHeap.none s0.n K):∃ s' E' H',K E' H' s'.n ∧ s'.w = s.w ∧ Ext s0 s' ∧ St P O A0 w0 s' H' ∧ EnvOk s' E' e:=by
 obtain ⟨h1,h2⟩:=h.rename hx
 obtain ⟨s',E',H',k1,k2,k3,k4⟩:=layE_ok (s:={ A:=s.A,w:=s.w,b:=s0.b,s:=s0.s,n:=s0.n }) h0 l h2 ht h1.hr ⟨fun i o hi=>absurd rfl hi,fun i e a hi=>(by cases hi)⟩ hk
 exact ⟨s',E',H',k1,k4.w,h2.trans k4.x,h1.laid k2 k4 hle,k3⟩
theorem LoopP.gen {σ:Type} {x0:σ} {body:σ → (σ → Prop) → Prop} (h:LoopP x0 body):∃ (I J:Nat → σ → Prop) (m0:Nat),I m0 x0 ∧ (∀ m x,I m x → body x (J m)) ∧ ∀ m y,J m y → ∃ m',m' < m ∧ I m' y:=by
 cases h with
 | mk I μ h0 h=>exact ⟨fun m x=>I x ∧ μ x = m,fun m y=>I y ∧ μ y < m,μ x0,⟨h0,rfl⟩,fun m x hx=>by obtain ⟨hx,rfl⟩:=hx; exact h x hx,fun m y hy=>⟨μ y,hy.2,hy.1,rfl⟩⟩
 | run n R z h h0=>exact ⟨R,fun m=>match m with
   | 0=>fun _=>False
   | k + 1=>R k,n,h0,fun m x hx=>by
    cases m with
    | zero=>exact absurd hx (z x)
    | succ k=>exact h k x hx,fun m y hy=>by
    cases m with
    | zero=>exact hy.elim
    | succ k=>exact ⟨k,Nat.lt_succ_self k,hy⟩⟩
theorem code_ok {P:Program} {call:CallH} (hm:P.follows .mixedOrders = true) {O:Ow} {A0:Pos} {w0:World} (hcall:CallOk P call O A0 w0) {F:Fm} {A:FAnn}:∀ (c:Code) {k:AKs} {Q:Exit → Act → World → Prop} {sB s:Cx} {H:AHeap} {E:AEnv} {e:Env} {a:Act},
  okC P F A c = true → AKsOk F P O A0 w0 sB k Q → Ext sB s → St P O A0 w0 s H → EnvOk s E e → Rep F [] e a → wppC P call A c k E H s.n → c.wpIn (Wf none) 0 P Q a s.w:=by
 have hthen:∀ {Q:Exit → Act → World → Prop} (K:Act → World → Prop) e a w,e ≠ Exit.normal → Q e a w → Exit.then K Q e a w:=fun K e a w hne hq=>by
  cases e <;> first | exact absurd rfl hne | exact hq
 intro c
 induction c with
 | skip=>
  intro k Q sB s H E e a ho hk hx h hE hr hw
  exact wpIn_skip (hk.N e a s.w hr ⟨s,E,H,hw,rfl,hx,h,hE⟩)
 | exit id=>
  intro k Q sB s H E e a ho hk hx h hE hr hw
  exact wpIn_exit (hk.X id e a s.w hr ⟨s,E,H,hw,rfl,hx,h,hE⟩)
 | ret=>
  intro k Q sB s H E e a ho hk hx h hE hr hw
  exact wpIn_ret (hk.R e a s.w hr ⟨s,E,H,hw,rfl,hx,h,hE⟩)
 | region id ops draw=>
  intro k Q sB s H E e a ho hk hx h hE hr hw
  simp only [okC,Bool.and_eq_true] at ho
  simp only [wppC] at hw
  cases draw with
  | false=>
   have:=seqP_ok (ops:=ops) hcall ops.toList 0 (fun j=>by simp) hx h hE hw
   rw [← List.range_eq_range',Array.length_toList] at this
   exact wpIn_region (wpOpsIn_of_seqE ho.1 hk.N hk.P _ e a s.w hr this)
  | true=>
   simp only [cond_true,Bool.and_eq_true] at ho
   refine wpIn_region_any hm ?_
   obtain ⟨h1,h2⟩:=h.grow (w':=s.w.drew) (Chg.drew s.w)
   have:=ordP_ok hcall ho.1 (A.sched id) ops.size (s:=s.wr s.w.drew) (Nat.le_of_ble_eq_true ho.2.2) ho.2.1 (Down.start _ _) (hx.trans h2) h1 (hE.ext h2) hw
   exact wpAnyIn_of_anyG ho.1 hk.N hk.P _ _ _ e a _ hr this
 | block id c ih=>
  intro k Q sB s H E e a ho hk hx h hE hr hw
  simp only [okC] at ho
  simp only [wppC] at hw
  refine wpIn_block (ih ho ?_ hx h hE hr hw)
  refine ⟨fun e a w hr hn=>hk.N e a w hr hn,fun i e a w hr hn=>?_,fun e a w hr hn=>hk.R e a w hr hn,fun c w hc a ha hf=>hk.P c w hc a ha hf⟩
  simp only [Exit.inBlock]
  cases hb:Nat.beq i id with
  | true=>
   simp only [hb] at hn
   rw [if_pos (Nat.eq_of_beq_eq_true hb)]; exact hk.N e a w hr hn
  | false=>
   simp only [hb] at hn
   rw [if_neg (Nat.ne_of_beq_eq_false hb)]; exact hk.X i e a w hr hn
 | cond c x y ih1 ih2=>
  intro k Q sB s H E e a ho hk hx h hE hr hw
  simp only [okC,Bool.and_eq_true] at ho
  simp only [wppC] at hw
  have hc:=evA_ok hE c
  have go:∀ t:Bool,ev e c = .bool t → (t = true → wppC P call A x k E H s.n) → (t = false → wppC P call A y k E H s.n) → (Code.cond c x y).wpIn (Wf none) 0 P Q a s.w:=fun t ht h1 h2=>by
   refine wpIn_cond (t:=t) (by rw [hr.ev ho.1.1]; exact ht) ?_
   cases t with
   | true=>exact ih1 ho.1.2 hk hx h hE hr (h1 rfl)
   | false=>exact ih2 ho.2 hk hx h hE hr (h2 rfl)
  split at hw
  ·rename_i t ht
   rw [ht] at hc
   refine go t hc.lit (fun he=>?_) (fun he=>?_)
   ·subst he; exact hw
   ·subst he; exact hw
  ·rename_i t ht
   rw [ht] at hc
   exact go t hc.bool hw.t hw.f
  ·exact hw.elim
 | seq x y ih1 ih2=>
  intro k Q sB s H E e a ho hk hx h hE hr hw
  simp only [okC,Bool.and_eq_true] at ho
  simp only [wppC] at hw
  refine wpIn_seq ?_
  split at hw
  ·refine ih1 ho.1 (hk.setN (fun e a w hr hn=>?_) (hthen _)) hx h hE hr hw
   obtain ⟨s',E',H',k1,rfl,k3,k4,k5⟩:=hn
   exact ih2 ho.2 hk k3 k4 k5 hr k1
  ·rename_i l _
   cases hb:entOk s.n l with
   | false=>rw [hb] at hw; exact hw.elim
   | true=>
    rw [hb] at hw
    simp only [Bool.not_true,cond_false] at hw
    obtain ⟨J,hJ,hw⟩:=hw
    refine ih1 ho.1 ((hk.base hx).setN (fun e' a w hr hn=>?_) (hthen _)) (.refl s) h hE hr hw
    obtain ⟨s',E',H',k1,rfl,k3,k4,k5⟩:=hn
    obtain ⟨z,H1,ω,m1,m2,m3,m4⟩:=takeE_ok k3 hE h.hr l hb k4.hr k5 k1
    obtain ⟨s2,E2,H2,n1,n2,n3,n4,n5⟩:=relay hE k3 k4 m3 (m4.le k4) (hJ z m1)
    rw [← n2]
    exact ih2 ho.2 hk (hx.trans n3) n4 n5 hr n1
 | loop c ih=>
  intro k Q sB s H E e a ho hk hx h hE hr hw
  simp only [okC] at ho
  simp only [wppC] at hw
  obtain ⟨l,hl⟩:∃ l,l = loopEnts A c:=⟨_,rfl⟩
  rw [← hl] at hw
  cases hb:entOk s.n l with
  | false=>rw [hb] at hw; exact hw.elim
  | true=>
   rw [hb] at hw
   simp only [Bool.not_true,cond_false] at hw
   obtain ⟨x0,H1,ω,m1,m2,m3,m4⟩:=takeE_ok (.refl s) hE h.hr l hb h.hr hE hw
   obtain ⟨I,J,m0,i0,hround,hj⟩:=LoopP.gen m1
   refine wpIn_loop_n (fun m a w=>∃ s' H' e' x ω,Rep F [] e' a ∧ s'.w = w ∧ Ext s s' ∧ St P O A0 w0 s' H' ∧ TE P s'.A s'.w s E H e l x e' ω ∧ ω.le O ∧ I m x) m0 ⟨s,H,e,x0,ω,hr,rfl,.refl s,h,m3,m4.le h,i0⟩ ?_
   rintro m a w ⟨s',H',e',x,ω,hr',rfl,hx',h',ht,hle,hI⟩
   obtain ⟨s2,E2,H2,n1,n2,n3,n4,n5⟩:=relay hE hx' h' ht hle (hround m x hI)
   rw [← n2]
   refine ih ho ((hk.base hx).setN (fun e2 a2 w2 hr2 hn=>?_) (hthen _)) n3 n4 n5 hr' n1
   obtain ⟨s3,E3,H3,k1,rfl,k3,k4,k5⟩:=hn
   obtain ⟨y,H4,ω',q1,q2,q3,q4⟩:=takeE_ok k3 hE h.hr l hb k4.hr k5 k1
   obtain ⟨m',hm',hI'⟩:=hj m y q1
   exact ⟨m',hm',s3,H3,e2,y,ω',hr2,rfl,k3,k4,q3,q4.le k4,hI'⟩
 | _=>intro k Q sB s H E e a ho; simp [okC] at ho
end Go.Proofs.YtpifnlfmojfgpaaGreatDoor.Pw
end
section
namespace Go.Proofs.YtpifnlfmojfgpaaGreatDoor.Pw
open Fw RowKit
def AV.free:AV → Bool
 | .pv _ _=>true
 | .lit _=>true
 | .fn _ c=>c.free
 | .ifc _ v=>v.free
 | .anil=>true
 | .acons a b=>a.free && b.free
 | .cst _=>true
 | _=>false
theorem AV.free_val {av:AV} (h:av.free = true):av.val = true:=by cases av <;> first | rfl | cases h
theorem RV.free {s s':Cx} (hA:s'.A = s.A) (hw:s'.w = s.w):∀ {av:AV} {vs:List Value},av.free = true → RV s av vs → RV s' av vs
 | .pv _ _,_,_,hr=>by show Rp s'.A s'.w _ _ _; rw [hA,hw]; exact hr
 | .lit _,_,_,hr=>hr
 | .fn _ _,_,h,⟨cs,h1,h2⟩=>⟨cs,h1.free hA hw h,h2⟩
 | .ifc _ _,_,h,⟨us,u,h1,h2,h3⟩=>⟨us,u,h1.free hA hw h,h2,h3⟩
 | .anil,_,_,hr=>hr
 | .acons a b,_,h,⟨us,us',he,h1,h2⟩=>by
  simp only [AV.free,Bool.and_eq_true] at h
  exact ⟨us,us',he,h1.free hA hw h.1,h2.free hA hw h.2⟩
 | .cst _,_,_,hr=>hr
def panA (Qp:AV → Prop):AV → Prop
 | .ifc t v=>bif v.free then Qp (.ifc t v) else False
 | _=>False
def finK (P:Program) (fn:Func) (sg:Sig) (args:List AV) (Q:aden sg.res → aden sg.out → Prop) (E:AEnv) (H:AHeap) (n:Nat):Prop:=
 ressA P E H fn.results.toList fun vs=>takeL sg.res vs H fun y H=>takeO sg.out args H fun z _=>Q y z
def bodyP (P:Program) (call:CallH) (fa:FAnn) (f:FuncId) (sg:Sig) (x:aden sg.ps) (Q:aden sg.res → aden sg.out → Prop) (Qp:AV → Prop):Prop:=
 bodyOf P f fun fn c=>layL sg.ps x AHeap.none 0 fun args H n=>
  wppC P call fa c { N:=finK P fn sg args Q,X:=fun _ _ _ _=>False,R:=finK P fn sg args Q,P:=fun p _=>panA Qp p } (argEnv args) H n
def okBody (P:Program) (fa:FAnn) (f:FuncId) (sg:Sig):Bool:=
 enters P f && P.follows .mixedOrders && match P.funcs[f]? with
 | some fn=>(match fn.body with
  | some c=>okC P ⟨fn.ntmps,[]⟩ fa c && fn.results.toList.all (okRes fn.ntmps) && Nat.ble sg.ps.length fn.ntmps
  | none=>false)
 | none=>false
theorem R1s.at {s:Cx}:∀ {l:List AV} {vs:List Value},RSs s l vs → ∀ d:Nat,RS s ((l[d]?).getD .top) ((vs[d]?).getD undef)
 | _,_,.nil,d=>trivial
 | _,_,.cons h k,0=>h
 | _,_,.cons h k,d + 1=>by simpa using R1s.at k d
theorem run_resA {P:Program} {F:Fm} {ds:List Deferred} {e:Env} {a:Act} {s:Cx} {H:AHeap} {E:AEnv} (hH:HR P s H) (hE:EnvOk s E e) (hr:Rep F ds e a):∀ (rs:List ResultVar) (K:List AV → Prop),rs.all (okRes F.n) = true → ressA P E H rs K →
  ∃ avs vs,(rs.mapM (resSem a.tmps)).run P s.w = .ok vs s.w ∧ K avs ∧ RSs s avs vs
 | [],K,_,h=>⟨[],[],by simp,h,.nil⟩
 | r :: rs,K,ho,h=>by
  simp only [List.all_cons,Bool.and_eq_true] at ho
  have step:∀ K:AV → Prop,resA P E H r K → ∃ av v,(resSem a.tmps r).run P s.w = .ok v s.w ∧ K av ∧ RS s av v:=fun K hk=>by
   cases r with
   | tmp t=>
    refine ⟨E t,e t,?_,hk,hE t⟩
    have:=hr.slots t (by simpa [okRes] using ho.1)
    simp only [resSem,this,Sem.run_pure]
   | cell ad t=>
    have hs:=hr.slots ad (by simpa [okRes] using ho.1)
    have hx:=hE ad
    simp only [resA] at hk
    split at hk
    ·rename_i id o hv
     rw [hv] at hx
     obtain ⟨hid,he⟩:=hx.adr
     cases hb:okTy P t with
     | false=>rw [hb] at hk; exact hk.elim
     | true=>
      rw [hb] at hk
      obtain ⟨av,hc,hk⟩:=optA_ok hk
      obtain ⟨vs,h1,h2,h3⟩:=ofCells_ok (s:=s) (f:=fun j v=>s.w.cell? ⟨(s.b id).1,(s.b id).2 + j,none⟩ = some v) (shOf P 8 t) o (fun j a hj ha=>(hH.cell _ _ _ ha).2.2.1) hc
      have hag:=shOf_agg (P:=P) (t:=t) (fun j a ha=>(hH.cell _ _ _ ha).2.1) hc
      have hl:=run_load (w:=s.w) (a:=⟨(s.b id).1,(s.b id).2 + o,none⟩) hb h1 fun j v hj=>by rw [mk_add,Nat.add_assoc]; exact h3 j v hj
      refine ⟨av,loadV P t vs,?_,hk,RS.load h2 hag⟩
      simp only [resSem,hs,he,asAddr,Sem.run_bind,Sem.run_pure,Result.andThen_ok]
      simpa only [Instr.loadAt,Instr.sureAddr,Sem.run_bind,Sem.run_pure,Result.andThen_ok] using hl
    ·exact hk.elim
  obtain ⟨av,v,h1,h2,h3⟩:=step _ h
  obtain ⟨avs,vs,h4,h5,h6⟩:=run_resA hH hE hr rs _ ho.2 h2
  exact ⟨av :: avs,v :: vs,by simp [List.mapM_cons,h1,h4],h5,.cons h3 h6⟩
theorem takeO_ok {P:Program} {s:Cx}:∀ (l:List AT) {args:List AV} {us:List Value} {H:AHeap} {K:aden l → AHeap → Prop},HR P s H → RSs s args us → takeO l args H K →
  ∃ x H' ω,K x H' ∧ H'.le H ∧ TRo P s.A s.w l x us ω ∧ ω.from s H H':=by
 intro l
 induction l with
 | nil=>
  intro args us H K hr hu h
  cases hu with
  | nil=>exact ⟨(),H,.no,h,.refl H,trivial,.no _ _ _⟩
  | cons _ _=>exact h.elim
 | cons t l ih=>
  intro args us H K hr hu h
  cases hu with
  | nil=>cases t <;> exact h.elim
  | cons h1 h2=>
   cases t <;> first | exact h.elim | skip
   case any=>
    obtain ⟨x,H',ω,k1,k2,k3,k4⟩:=ih hr h2 h
    exact ⟨((),x),H',ω,k1,k2,k3,k4⟩
   case box t=>
    simp only [takeO] at h
    obtain ⟨x,H1,ω1,k1,k2,k3,k4,_⟩:=takeS_ok hr h1 h
    obtain ⟨y,H2,ω2,m1,m2,m3,m4⟩:=ih (hr.le k2) h2 k1
    obtain ⟨vs,n1,n2,n3⟩:=k3
    have n3:vs = [_]:=n3
    subst n3
    exact ⟨(x,y),H2,ω1.or ω2,m1,m2.trans k2,⟨ω1,ω2,n1,m3,k4.dis hr k2 m4,.left _ _,.right _ _⟩,(k4.later m2).or (m4.earlier k2)⟩
def Cx.base (A:Pos) (w:World):Cx:=⟨A,w,fun _=>(0,0),fun _=>⟨none,0,0⟩,0⟩
theorem St.base {P:Program} {A:Pos} {w:World} (ω:Ow) (h:∀ g o,A g o → g < w.heap.size):St P (OF A w ω) A w (Cx.base A w) AHeap.none:=
 ⟨⟨h,fun i o av hi=>(by cases hi),fun i o j p hi=>absurd rfl hi,fun i e hi=>(by cases hi),fun i e j o hi=>(by cases hi),fun i j e f hi=>(by cases hi)⟩,fun i o hi=>absurd rfl hi,fun i e a hi=>(by cases hi),.refl _ _,fun g hg=>⟨.inl hg,fun o=>.inl hg⟩,fun g o hg=>.inl hg,fun g o hg=>⟨hg,rfl⟩⟩
theorem pc_of_body {P:Program} {call:CallH} (hcall:∀ {O:Ow} {A0:Pos} {w0:World},Tab w0 O → CallOk P call O A0 w0) {fa:FAnn} {f:FuncId} {sg:Sig} {x:aden sg.ps} {Q:aden sg.res → aden sg.out → Prop} {Qp:AV → Prop} (ho:okBody P fa f sg = true) (h:bodyP P call fa f sg x Q Qp):PC P f sg x Q Qp:=by
 simp only [okBody,Bool.and_eq_true] at ho
 obtain ⟨⟨hen,hm⟩,ho⟩:=ho
 refine ⟨hen,fun A w vs ω ht hlow htab=>?_⟩
 unfold bodyP bodyOf at h
 cases hf:P.funcs[f]? with
 | none=>rw [hf] at h; exact h.elim
 | some fn=>
 rw [hf] at h ho
 dsimp only at h ho
 cases hb:fn.body with
 | none=>rw [hb] at h; exact h.elim
 | some c=>
 rw [hb] at h ho
 simp only [Bool.and_eq_true] at ho
 obtain ⟨⟨ho1,ho2⟩,ho3⟩:=ho
 have st0:=St.base (P:=P) ω hlow
 obtain ⟨s1,args,H1,k1,k2,k3,k4⟩:=layL_ok (s:=Cx.base A w) sg.ps ht st0.hr ⟨fun i o hi=>absurd rfl hi,fun i e a hi=>(by cases hi)⟩ h
 have hωO:ω.le (OF A w ω):=⟨fun g o hg=>.inr hg,fun g hg=>.inr hg⟩
 have st1:=st0.laid k2 k4 hωO
 have hw1:s1.w = w:=k4.w
 have hlen:vs.length = sg.ps.length:=by
  have:∀ (l:List AT) {x:aden l} {vs:List Value} {ω:Ow},TRs P A w l x vs ω → vs.length = l.length:=by
   intro l
   induction l with
   | nil=>intro x vs ω h; simp only [TRs] at h; subst h; rfl
   | cons t l ih=>intro x vs ω h; obtain ⟨v,vs',ω1,ω2,rfl,_,h2,_⟩:=h; simp [ih h2]
  exact this _ ht
 have hE:EnvOk s1 (argEnv args) (env0 vs.toArray):=fun d=>by
  have:=R1s.at k3.rs d
  have he:env0 vs.toArray d = (vs[d]?).getD undef:=by
   unfold env0
   by_cases hd:d < vs.length
   ·simp [Array.getD,hd]
   ·simp [Array.getD,hd,List.getElem?_eq_none (Nat.le_of_not_lt hd)]
  rw [he]; exact this
 refine (callsIn_wide (n:=0)).1 ?_
 rw [← Wf_none]
 refine callsIn_of_wp_marks hf hb trivial ?_
 have hsz:vs.toArray.size ≤ fn.ntmps:=by simp [hlen]; exact Nat.le_of_ble_eq_true ho3
 have hrep:=rep0 (args:=vs.toArray) (n:=fn.ntmps) (fx:=[]) hsz (by simp) (by simp)
 have hret:∀ (e:Env) (a:Act) (w':World),Rep ⟨fn.ntmps,[]⟩ [] e a → EndN P (OF A w ω) A w s1 (finK P fn sg args Q) e w' → LeavesInM (Wf none) 0 P fn a.tmps (fun e w'=>match e with
   | .returned v=>∃ A' y z rs ω1 ω2,Q y z ∧ v = retV rs ∧ TRs P A' w' sg.res y rs ω1 ∧ TRo P A' w' sg.out z vs ω2 ∧ ω1.dis ω2 ∧ After A w ω A' w' (ω1.or ω2)
   | .panicked ch=>∃ A' t p u,Qp (.ifc t p) ∧ ch = [{ v:=.iface t u,recovered:=false }] ∧ RS ⟨A',w',fun _=>(0,0),fun _=>⟨none,0,0⟩,0⟩ p u ∧ p.val = true ∧ After A w ω A' w' .no
   | .outgrown=>False) a.defers .returning w':=fun e a w' hr hn=>by
  obtain ⟨s',E,H,hk,rfl,hx,hs,hE'⟩:=hn
  rw [hr.defers]
  obtain ⟨avs,rs,r1,r2,r3⟩:=run_resA hs.hr hE' hr _ _ ho2 hk
  have hrun:(results fn a.tmps).run P s'.w = .ok (retV rs) s'.w:=by
   have hm:(fn.results.mapM (resSem a.tmps)).run P s'.w = .ok rs.toArray s'.w:=by
    have:fn.results = fn.results.toList.toArray:=by simp
    rw [this,List.mapM_toArray,Sem.run_map,r1]
    rfl
   have hre:results fn a.tmps = (do let vs ← fn.results.mapM (resSem a.tmps); pure (if h:vs.size = 1 then vs[0] else .tuple vs)):=rfl
   rw [hre,Sem.run_bind,hm]
   match rs with
   | []=>rfl
   | [v]=>rfl
   | _ :: _ :: _=>simp [retV]
  obtain ⟨y,H2,ω1,m1,m2,m3,m4,_⟩:=takeL_ok sg.res hs.hr r3 r2
  obtain ⟨z,H3,ω2,n1,n2,n3,n4⟩:=takeO_ok sg.out (hs.hr.le m2) (k3.rs.ext hx) m1
  refine leavesM_of_ret (K:=fun w=>w = s'.w) (fun w2 hw2=>?_) [] s'.w rfl
  subst hw2
  refine ⟨retV rs,hrun,s'.A,y,z,rs,ω1,ω2,n1,rfl,m3,n3,m4.dis hs.hr m2 n4,⟨hs.fr,hs.sub,hs.an,hs.hr.low,Ow.or_le (m4.le hs) ((n4.earlier m2).le hs)⟩⟩
 have key:=fun (Q':Exit → Act → World → Prop) (hk:AKsOk ⟨fn.ntmps,[]⟩ P (OF A w ω) A w s1 { N:=finK P fn sg args Q,X:=fun _ _ _ _=>False,R:=finK P fn sg args Q,P:=fun p _=>panA Qp p } Q')=>
  code_ok (P:=P) (call:=call) hm (hcall htab.of) (F:=⟨fn.ntmps,[]⟩) (A:=fa) (O:=OF A w ω) (A0:=A) (w0:=w) c (sB:=s1) ho1 hk (.refl s1) st1 hE hrep k1
 rw [hw1] at key
 refine key _ ?_
 refine ⟨fun e a w' hr hn=>hret e a w' hr hn,fun i e a w' hr hn=>?_,fun e a w' hr hn=>hret e a w' hr hn,fun ch w' hc a ha hf=>?_⟩
 ·obtain ⟨s',E,H,hk,_⟩:=hn; exact hk.elim
 ·show LeavesInM (Wf none) 0 P fn a.tmps _ a.defers (.panicking ch) w'
  rw [ha]
  refine leavesM_of_panic (K:=fun w2=>w2 = w') (fun w2 hw2=>?_) [] w' rfl
  subst hw2
  obtain ⟨s',p,u,H',q1,rfl,rfl,q2,q3,q4⟩:=hc
  cases p <;> first | exact q1.elim | skip
  rename_i t p
  simp only [panA] at q1
  cases hfr:p.free with
  | false=>rw [hfr] at q1; exact q1.elim
  | true=>
   rw [hfr] at q1
   obtain ⟨vs',x1,x2⟩:=q4
   obtain ⟨us,u',x3,x4,rfl⟩:=x1
   have x2:[_] = [_]:=x2
   simp only [List.cons.injEq,and_true] at x2
   subst x2
   exact ⟨s'.A,t,p,u',q1,rfl,RS.one ⟨us,RV.free (s:=s') (s':=Cx.base s'.A s'.w) rfl rfl hfr x3,x4⟩,AV.free_val hfr,⟨q3.fr,q3.sub,q3.an,q3.hr.low,fun _ _ h=>h.elim,fun _ h=>h.elim⟩⟩
def runS:List (Nat × Bool) → Sched → Sched
 | [],s=>s
 | (i,b) :: l,s=>.op i b (runS l s)
def sigOf:List (Nat × Sig) → FuncId → Option Sig
 | [],_=>none
 | (f,s) :: l,g=>bif Nat.beq g f then some s else sigOf l g
theorem PC.of {P:Program} {f:FuncId} {sg:Sig} (fa:FAnn) (sigs:List (Nat × Sig)) {x:aden sg.ps} {Q:aden sg.res → aden sg.out → Prop} {Qp:AV → Prop} (ho:okBody P fa f sg = true) (h:bodyP P (callC P (sigOf sigs)) fa f sg x Q Qp):PC P f sg x Q Qp:=
 pc_of_body (fun ht=>callC_ok P (sigOf sigs) ht) ho h
theorem BrP.mk' {b:Bool} {A B:Prop} (h1:b = true → A) (h2:b = false → B):BrP b A B:=⟨h1,h2⟩
@[simp] theorem castP_self {t:PT} (h:t = t) (x:t.den):castP h x = x:=rfl
def rounds {σ:Type} (body:σ → (σ → Prop) → Prop):Nat → σ → Prop
 | 0,_=>False
 | n + 1,x=>body x (rounds body n)
theorem LoopP.unroll {σ:Type} {x0:σ} {body:σ → (σ → Prop) → Prop} (n:Nat) (h:rounds body n x0):LoopP x0 body:=.run n (rounds body) (fun _ h=>h) (fun _ _ h=>h) h
end Go.Proofs.YtpifnlfmojfgpaaGreatDoor.Pw
end
section
namespace Go.Proofs.YtpifnlfmojfgpaaGreatDoor.Ct
open Pw
abbrev Str:=List UInt8
abbrev Lns:=List (List Str)
abbrev tI:PT:=.int .i64
abbrev tW:PT:=.lst .str
abbrev tWs:PT:=.lst tW
abbrev tIs:PT:=.lst tI
abbrev tIss:PT:=.lst tIs
abbrev presT:PT:=.cons tI (.cons tW .nil)
abbrev cellT:PT:=.cons .str (.cons tI (.cons .bool .nil))
abbrev tCs:PT:=.lst cellT
abbrev autT:PT:=.cons tI (.cons tI (.cons (.lst .bool) (.cons tIss .nil)))
abbrev stepT:PT:=.cons tI (.cons tI (.cons tI (.cons tI (.cons tCs .nil))))
abbrev endT:PT:=.cons tI (.cons tI (.cons tCs .nil))
abbrev strT:PT:=.cons presT (.cons autT (.cons (.lst autT) (.cons tW (.cons (.lst stepT) (.cons (.lst endT) .nil)))))
abbrev annT:PT:=.cons .str (.cons tCs .nil)
abbrev sepT:PT:=.cons tI (.cons tI (.cons tIs (.cons tIss .nil)))
abbrev mapT:PT:=.cons presT (.cons tI (.cons tIss .nil))
abbrev claimT:PT:=.cons tI (.cons presT (.cons .str (.cons .str (.cons tI (.cons tCs (.cons annT (.cons sepT (.cons tIs (.cons mapT (.cons strT .nil))))))))))
abbrev Pres:=presT.den
abbrev Cell:=cellT.den
abbrev Aut:=autT.den
abbrev Step:=stepT.den
abbrev End:=endT.den
abbrev Strc:=strT.den
abbrev Map:=mapT.den
abbrev Clm:=claimT.den
def Lim (N:Nat):(t:PT) → t.den → Prop
 | .int _,x=>-9223372036854775808 ≤ x ∧ x ≤ 9223372036854775807
 | .bool,_=>True
 | .str,x=>x.length ≤ N
 | .lst e,xs=>xs.length ≤ N ∧ ∀ x ∈ xs,Lim N e x
 | .nil,_=>True
 | .cons h t,x=>Lim N h x.1 ∧ Lim N t x.2
abbrev sClaim:Str:=[99,108,97,105,109]
abbrev sGens:Str:=[103,101,110,115]
abbrev sRel:Str:=[114,101,108]
abbrev sU:Str:=[117]
abbrev sV:Str:=[118]
abbrev sN:Str:=[110]
abbrev sCell:Str:=[99,101,108,108]
abbrev sConj:Str:=[99,111,110,106]
abbrev sRing:Str:=[114,105,110,103]
abbrev sSep:Str:=[115,101,112]
abbrev sImage:Str:=[105,109,97,103,101]
abbrev sPerm:Str:=[112,101,114,109]
abbrev sValue:Str:=[118,97,108,117,101]
abbrev sDegree:Str:=[100,101,103,114,101,101]
abbrev sPoint:Str:=[112,111,105,110,116]
abbrev sAccept:Str:=[97,99,99,101,112,116]
abbrev sMult:Str:=[109,117,108,116]
abbrev sState:Str:=[115,116,97,116,101]
abbrev sDiff:Str:=[100,105,102,102]
abbrev sStep:Str:=[115,116,101,112]
abbrev sEnd:Str:=[101,110,100]
abbrev sProof:Str:=[112,114,111,111,102]
abbrev sDone:Str:=[100,111,110,101]
def kindsL:List Str:=[[],[101,113,117,97,108],[117,110,101,113,117,97,108],[100,105,102,102,101,114,101,110,116],[99,111,110,106,117,103,97,116,101],[115,101,112,97,114,97,116,101],[105,110,102,105,110,105,116,101],[115,116,114,117,99,116,117,114,101],[111,114,100,101,114],[115,105,122,101]]
def itoas (l:List Int):List Str:=l.map Go.Lib.itoa
def wordS (w:Str):Str:=if w = [] then [49] else w
def cellL (h:Str) (c:Cell):List Str:=[h,if c.2.2.1 then [45] else [43],Go.Lib.itoa c.2.1,wordS c.1]
def cellsL (h:Str) (d:List Cell):Lns:=d.map (cellL h)
def stateL (p:Bool × List Int):List Str:=sState :: (if p.1 then [97] else [114]) :: itoas p.2
def autL (h:Str) (a:Aut):Lns:=(h :: itoas [a.1,a.2.1]) :: (a.2.2.1.zip a.2.2.2.1).map stateL
def stepL (t:Step):Lns:=(sStep :: itoas [t.1,t.2.1,t.2.2.1,t.2.2.2.1]) :: cellsL sProof t.2.2.2.2.1
def endL (t:End):Lns:=(sEnd :: itoas [t.1,t.2.1]) :: cellsL sProof t.2.2.1
def strL (s:Strc):Lns:=autL sAccept s.2.1 ++ (s.2.2.1.flatMap (autL sMult) ++ (s.2.2.2.1.map (fun d=>[sDiff,wordS d]) ++ (s.2.2.2.2.1.flatMap stepL ++ s.2.2.2.2.2.1.flatMap endL)))
def noPres (p:Pres):Bool:=p.1 == 0 && p.2.1.isEmpty
def noMap (m:Map):Bool:=noPres m.1 && m.2.1 == 0 && m.2.2.1.isEmpty
def noStr (s:Strc):Bool:=noPres s.1 && s.2.1.1 == 0 && s.2.1.2.1 == 0 && s.2.1.2.2.1.isEmpty && s.2.1.2.2.2.1.isEmpty && s.2.2.1.isEmpty && s.2.2.2.1.isEmpty && s.2.2.2.2.1.isEmpty && s.2.2.2.2.2.1.isEmpty
def mapL (m:Map):Lns:=if noMap m then [] else [sDegree,Go.Lib.itoa m.2.1] :: m.2.2.1.map (fun l=>sPoint :: itoas l)
def kindW (k:Int):Str:=(kindsL[k.toNat]?).getD []
def frontL (k:Int) (p:Pres) (u v:Str) (n:Int):Lns:=
 [sClaim,kindW k] :: [sGens,Go.Lib.itoa p.1] :: (p.2.1.map (fun r=>[sRel,r]) ++ ((if u = [] then [] else [[sU,u]]) ++ ((if v = [] then [] else [[sV,v]]) ++ (if n = 0 then [] else [[sN,Go.Lib.itoa n]]))))
def sepL (s:sepT.den):Lns:=(if s.1 = 0 ∧ s.2.1 = 0 then [] else [sSep :: itoas [s.1,s.2.1]]) ++ ((if s.2.2.1 = [] then [] else [sImage :: itoas s.2.2.1]) ++ s.2.2.2.1.map (fun l=>sPerm :: itoas l))
def linesC (c:Clm):Lns:=
 frontL c.1 c.2.1 c.2.2.1 c.2.2.2.1 c.2.2.2.2.1 ++ (cellsL sCell c.2.2.2.2.2.1 ++ ((if c.2.2.2.2.2.2.1.1 = [] then [] else [[sConj,c.2.2.2.2.2.2.1.1]]) ++ (cellsL sRing c.2.2.2.2.2.2.1.2.1 ++
  (sepL c.2.2.2.2.2.2.2.1 ++ ((if c.2.2.2.2.2.2.2.2.1 = [] then [] else [sValue :: itoas c.2.2.2.2.2.2.2.2.1]) ++ (mapL c.2.2.2.2.2.2.2.2.2.1 ++ ((if noStr c.2.2.2.2.2.2.2.2.2.2.1 then [] else strL c.2.2.2.2.2.2.2.2.2.2.1) ++ [[sDone]])))))))
def lineS:List Str → Str
 | []=>[]
 | p :: ps=>p ++ ps.flatMap (32 :: ·)
def textL (L:Lns):Str:=L.flatMap fun l=>lineS l ++ [10]
def isLet (c:UInt8):Bool:=(97 ≤ c && c ≤ 104) || (65 ≤ c && c ≤ 72)
def isW (w:Str):Bool:=decide (w.length ≤ 100000) && w.all isLet
def cellsW (d:List Cell):Bool:=d.all fun c=>isW c.1
def autW (a:Aut):Bool:=a.2.2.1.length == a.2.2.2.1.length
def strW (s:Strc):Bool:=autW s.2.1 && s.2.2.1.all autW && s.2.2.2.1.all isW && s.2.2.2.2.1.all (fun t=>cellsW t.2.2.2.2.1) && s.2.2.2.2.2.1.all (fun t=>cellsW t.2.2.1)
def writable (c:Clm):Bool:=
 decide (1 ≤ c.1) && decide (c.1 ≤ 9) && isW c.2.2.1 && isW c.2.2.2.1 && isW c.2.2.2.2.2.2.1.1 && c.2.1.2.1.all (fun r=>isW r && !r.isEmpty) && cellsW c.2.2.2.2.2.1 && cellsW c.2.2.2.2.2.2.1.2.1 &&
  (noMap c.2.2.2.2.2.2.2.2.2.1 || decide (c.2.2.2.2.2.2.2.2.2.1.1 = c.2.1)) && (noStr c.2.2.2.2.2.2.2.2.2.2.1 || decide (c.2.2.2.2.2.2.2.2.2.2.1.1 = c.2.1)) && strW c.2.2.2.2.2.2.2.2.2.2.1
def takeF (h:Str):Lns → List Str × Bool × Lns
 | l :: R=>if l.headD [] = h then (l.drop 1,true,R) else ([],false,l :: R)
 | []=>([],false,[])
def numS (s:Str):Option Int:=
 match Go.Lib.atoiAll s with
 | .ok v=>if Go.Lib.itoa v = s then some v else none
 | _=>none
def listS:List Str → Option (List Int)
 | []=>some []
 | s :: l=>(numS s).bind fun v=>(listS l).map (v :: ·)
def unS (s:Str):Option Str:=if s = [49] then some [] else if s = [] then none else some s
def soleS:List Str → Option Str
 | [x]=>some x
 | _=>none
def num1S (ps:List Str):Option Int:=(soleS ps).bind numS
def num2S:List Str → Option (Int × Int)
 | [a,b]=>(numS a).bind fun x=>(numS b).map fun y=>(x,y)
 | _=>none
def num4S:List Str → Option (Int × Int × Int × Int)
 | [a,b,c,d]=>(numS a).bind fun x=>(numS b).bind fun y=>(numS c).bind fun z=>(numS d).map fun t=>(x,y,z,t)
 | _=>none
def cellS:List Str → Option Cell
 | [s,n,c]=>if s = [43] ∨ s = [45] then (numS n).bind fun v=>(unS c).map fun w=>(w,v,decide (s = [45]),()) else none
 | _=>none
def manyS {α:Type} (f:List Str → Option α) (h:Str):Lns → Option (List α × Lns)
 | []=>some ([],[])
 | l :: R=>if l.headD [] = h then (f (l.drop 1)).bind fun x=>(manyS f h R).map fun r=>(x :: r.1,r.2) else some ([],l :: R)
def optS {α:Type} (f:List Str → Option α) (h:Str) (d:α) (L:Lns):Option (α × Lns):=
 if (takeF h L).2.1 then (f (takeF h L).1).map fun x=>(x,(takeF h L).2.2) else some (d,L)
def mustS {α:Type} (f:List Str → Option α) (h:Str) (L:Lns):Option (α × Lns):=
 if (takeF h L).2.1 then (f (takeF h L).1).map fun x=>(x,(takeF h L).2.2) else none
def idxS (s:Str):Nat → List Str → Option Nat
 | _,[]=>none
 | i,k :: l=>if k = s then some i else idxS s (i + 1) l
def kindS (ps:List Str):Option Int:=(soleS ps).bind fun s=>(idxS s 0 kindsL).bind fun i=>if 1 ≤ i then some (i:Int) else none
def stateS:List Str → Option (Bool × List Int)
 | s :: l=>if s = [97] ∨ s = [114] then (listS l).map fun r=>(decide (s = [97]),r) else none
 | []=>none
def autS (ps:List Str) (L:Lns):Option (Aut × Lns):=
 (num2S ps).bind fun n=>(manyS stateS sState L).map fun r=>((n.1,n.2,r.1.map (·.1),r.1.map (·.2),()),r.2)
def piecesS {α:Type} (f:List Str → Lns → Option (α × Lns)) (h:Str):Nat → Lns → Option (List α × Lns)
 | 0,L=>none
 | m + 1,L=>if (takeF h L).2.1 then (f (takeF h L).1 (takeF h L).2.2).bind fun a=>(piecesS f h m a.2).map fun r=>(a.1 :: r.1,r.2) else some ([],L)
def stepS (ps:List Str) (L:Lns):Option (Step × Lns):=
 (num4S ps).bind fun n=>(manyS cellS sProof L).map fun r=>((n.1,n.2.1,n.2.2.1,n.2.2.2,r.1,()),r.2)
def endS (ps:List Str) (L:Lns):Option (End × Lns):=
 (num2S ps).bind fun n=>(manyS cellS sProof L).map fun r=>((n.1,n.2,r.1,()),r.2)
def diffS (ps:List Str):Option Str:=(soleS ps).bind unS
def structS (p:Pres) (ps:List Str) (L:Lns):Option (Strc × Lns):=
 (autS ps L).bind fun a=>(piecesS autS sMult (a.2.length + 1) a.2).bind fun m=>(manyS diffS sDiff m.2).bind fun d=>(piecesS stepS sStep (d.2.length + 1) d.2).bind fun t=>
  (piecesS endS sEnd (t.2.length + 1) t.2).map fun e=>((p,a.1,m.1,d.1,t.1,e.1,()),e.2)
def frontS (L:Lns):Option ((Int × Pres × Str × Str × Int × List Cell) × Lns):=
 (mustS kindS sClaim L).bind fun k=>(mustS num1S sGens k.2).bind fun g=>(manyS soleS sRel g.2).bind fun r=>(optS soleS sU [] r.2).bind fun u=>(optS soleS sV [] u.2).bind fun v=>
  (optS num1S sN 0 v.2).bind fun n=>(manyS cellS sCell n.2).map fun d=>((k.1,(g.1,r.1,()),u.1,v.1,n.1,d.1),d.2)
def middleS (p:Pres) (L:Lns):Option ((annT.den × sepT.den × List Int × Map) × Lns):=
 (optS soleS sConj [] L).bind fun a=>(manyS cellS sRing a.2).bind fun r=>(optS num2S sSep (0,0) r.2).bind fun s=>(optS listS sImage [] s.2).bind fun i=>(manyS listS sPerm i.2).bind fun q=>
  (optS listS sValue [] q.2).bind fun v=>
   if (takeF sDegree v.2).2.1 then (num1S (takeF sDegree v.2).1).bind fun g=>(manyS listS sPoint (takeF sDegree v.2).2.2).map fun m=>(((a.1,r.1,()),(s.1.1,s.1.2,i.1,q.1,()),v.1,(p,g,m.1,())),m.2)
   else some (((a.1,r.1,()),(s.1.1,s.1.2,i.1,q.1,()),v.1,((0,[],()),0,[],())),v.2)
def zeroPres:Pres:=(0,[],())
def zeroAut:Aut:=(0,0,[],[],())
def zeroStr:Strc:=(zeroPres,zeroAut,[],[],[],[],())
def lastS (p:Pres) (L:Lns):Option (Strc × Lns):=
 if (takeF sAccept L).2.1 then structS p (takeF sAccept L).1 (takeF sAccept L).2.2 else some (zeroStr,L)
def claimS (L:Lns):Option Clm:=
 (frontS L).bind fun f=>(middleS f.1.2.1 f.2).bind fun m=>(lastS f.1.2.1 m.2).bind fun s=>
  if s.2 = [[sDone]] then some (f.1.1,f.1.2.1,f.1.2.2.1,f.1.2.2.2.1,f.1.2.2.2.2.1,f.1.2.2.2.2.2,m.1.1,m.1.2.1,m.1.2.2.1,m.1.2.2.2,s.1,()) else none
end Go.Proofs.YtpifnlfmojfgpaaGreatDoor.Ct
end
section
namespace Go.Proofs.YtpifnlfmojfgpaaGreatDoor.Ct
open Go.Lib
theorem digit_toNat (d:Nat) (h:d < 10):(UInt8.ofNat (48 + d)).toNat = 48 + d:=by
 rw [UInt8.toNat_ofNat']; omega
theorem parse_append:∀ (l r:List UInt8) (acc a:Nat),parseUint10 acc l = .ok a → parseUint10 acc (l ++ r) = parseUint10 a r
 | [],r,acc,a,h=>by simp only [parseUint10,NumEnd.ok.injEq] at h; subst h; rfl
 | c :: l,r,acc,a,h=>by
  simp only [parseUint10,List.cons_append] at h ⊢
  split at h
  ·rename_i h1
   rw [if_pos h1]
   split at h
   ·cases h
   ·rename_i h2
    rw [if_neg h2]
    split at h
    ·cases h
    ·rename_i h3
     rw [if_neg h3]
     exact parse_append l r _ a h
  ·cases h
theorem parse_dec (u:Nat) (h:u < 18446744073709551616):parseUint10 0 (decDigits u) = .ok u:=by
 induction u using Nat.strongRecOn with
 | _ u ih=>
  by_cases hu:u < 10
  ·rw [decDigits,dif_pos hu]
   simp only [parseUint10,digit_toNat u hu]
   rw [if_pos (by omega),if_neg (by omega),if_neg (by omega)]
   congr 1; omega
  ·rw [decDigits,dif_neg hu,parse_append _ _ _ _ (ih (u / 10) (by omega) (by omega))]
   have hd:=digit_toNat (u % 10) (by omega)
   simp only [parseUint10,hd]
   rw [if_pos (by omega),if_neg (by omega),if_neg (by omega)]
   congr 1; omega
def isDig (c:UInt8):Prop:=48 ≤ c.toNat ∧ c.toNat ≤ 57
theorem dec_digs (u:Nat):decDigits u ≠ [] ∧ ∀ c ∈ decDigits u,isDig c:=by
 induction u using Nat.strongRecOn with
 | _ u ih=>
  by_cases hu:u < 10
  ·rw [decDigits,dif_pos hu]
   refine ⟨by simp,fun c hc=>?_⟩
   simp only [List.mem_singleton] at hc; subst hc
   unfold isDig; rw [digit_toNat u hu]; omega
  ·rw [decDigits,dif_neg hu]
   refine ⟨by simp,fun c hc=>?_⟩
   rcases List.mem_append.1 hc with hc | hc
   ·exact (ih (u / 10) (by omega)).2 c hc
   ·simp only [List.mem_singleton] at hc; subst hc
    unfold isDig; rw [digit_toNat _ (by omega)]; omega
def In64 (n:Int):Prop:=-9223372036854775808 ≤ n ∧ n ≤ 9223372036854775807
theorem atoi_itoa {n:Int} (h:In64 n):atoiAll (itoa n) = .ok n:=by
 obtain ⟨h0,h1⟩:=h
 unfold itoa
 by_cases hn:n < 0
 ·rw [if_pos hn]
  obtain ⟨hne,hd⟩:=dec_digs n.natAbs
  have hp:=parse_dec n.natAbs (by omega)
  have h45:(45:UInt8).toNat = 45:=rfl
  simp only [atoiAll,h45,or_true,if_true,parseMag,if_neg hne,hp]
  simp only [not_true_eq_false,false_and,if_false,true_and,if_true]
  rw [if_neg (by omega)]
  congr 1; omega
 ·rw [if_neg hn]
  obtain ⟨hne,hd⟩:=dec_digs n.toNat
  have hp:=parse_dec n.toNat (by omega)
  cases hl:decDigits n.toNat with
  | nil=>exact absurd hl hne
  | cons c r=>
   have hc:=hd c (by rw [hl]; simp)
   unfold isDig at hc
   have hp':parseMag (c :: r) = .ok n.toNat:=by rw [parseMag,if_neg (by simp),← hl]; exact hp
   simp only [atoiAll]
   rw [if_neg (by omega),hp']
   have h3:¬ c.toNat = 45:=by omega
   simp only [h3,not_false_eq_true,true_and,false_and,if_false]
   rw [if_neg (by omega)]
   congr 1; omega
theorem numS_itoa {n:Int} (h:In64 n):numS (itoa n) = some n:=by unfold numS; rw [atoi_itoa h]; simp
theorem numS_spec {s:Str} {n:Int} (h:numS s = some n):atoiAll s = .ok n ∧ itoa n = s ∧ In64 n:=by
 unfold numS at h
 split at h
 ·rename_i v hv
  split at h
  ·rename_i he
   simp only [Option.some.injEq] at h; subst h
   exact ⟨hv,he,atoiAll_bounds hv⟩
  ·cases h
 ·cases h
theorem itoa_chars (n:Int):itoa n ≠ [] ∧ ∀ c ∈ itoa n,isDig c ∨ c = 45:=by
 unfold itoa
 by_cases hn:n < 0
 ·rw [if_pos hn]
  refine ⟨by simp,fun c hc=>?_⟩
  rcases List.mem_cons.1 hc with rfl | hc
  ·exact .inr rfl
  ·exact .inl ((dec_digs _).2 c hc)
 ·rw [if_neg hn]; exact ⟨(dec_digs _).1,fun c hc=>.inl ((dec_digs _).2 c hc)⟩
theorem listS_itoas:∀ {l:List Int},(∀ n ∈ l,In64 n) → listS (itoas l) = some l
 | [],_=>rfl
 | n :: l,h=>by
  have:=listS_itoas (l:=l) fun m hm=>h m (by simp [hm])
  unfold itoas at this
  simp only [itoas,List.map_cons,listS,numS_itoa (h n (by simp)),Option.bind_some,this,Option.map_some]
end Go.Proofs.YtpifnlfmojfgpaaGreatDoor.Ct
end
section
set_option maxRecDepth 10000
namespace Go.Proofs.YtpifnlfmojfgpaaGreatDoor.Pk
open Fw Pw Ct
abbrev lnsA:AT:=.pv tWs
abbrev qA:AT:=.box lnsA
abbrev sA:AT:=.pv .str
abbrev bA:AT:=.pv .bool
abbrev iA:AT:=.pv tI
theorem GetL.at {α:Type} {xs:List α} {i:Int} {K:α → Prop} (n:Nat) (hi:i = n) (h:n < xs.length) (k:K xs[n]):GetL xs i K:=
 .mk xs[n] (by omega) (by rw [hi]; simp [h]) k
theorem GetL.is {α:Type} {xs:List α} {i:Int} {K:α → Prop} (n:Nat) {x:α} (hi:i = n) (h:xs[n]? = some x) (k:K x):GetL xs i K:=
 .mk x (by omega) (by rw [hi]; simpa using h) k
theorem SubL.from {α:Type} {xs:List α} {lo hi:Int} {K:List α → Prop} (n:Nat) (h0:lo = n) (h1:hi = xs.length) (h:n ≤ xs.length) (k:K (xs.drop n)):SubL xs lo hi K:=
 ⟨by omega,by omega,by omega,by rw [h0,h1]; simpa using k⟩
theorem AppL.mk' {α:Type} {xs ys:List α} {A:Prop} (h:xs.length + ys.length ≤ 68719476736) (k:A):AppL xs ys A:=⟨h,k⟩
noncomputable def a131:FAnn:={}
noncomputable def a86:FAnn:={}
noncomputable def a80:FAnn:={}
noncomputable def a138:FAnn:={}
def sg131:Sig:=⟨[qA],[qA],[sA]⟩
def sg86:Sig:=⟨[qA,sA],[qA,.any],[.pv tW,bA]⟩
def sg80:Sig:=⟨[bA],[.any],[]⟩
def sg138:Sig:=⟨[sA],[.any],[sA]⟩
def Full (L:Lns):Prop:=∀ l ∈ L,l ≠ []
def headF (L:Lns):Str:=(L.headD []).headD []
theorem head_pc (L:Lns) (hne:Full L):PC Tryz.prog 131 sg131 (L,()) (fun y z=>y = (headF L,()) ∧ z = (L,())) (fun _=>False):=by
 refine PC.of a131 [] (by kernel_rfl) ?_
 refine LenL.mk fun hL=>?_
 refine BrP.mk' (fun h=>?_) (fun h=>?_)
 ·have h:L = []:=by simpa using h
  subst h
  exact ⟨rfl,rfl⟩
 ·cases L with
  | nil=>simp at h
  | cons l R=>
   cases l with
   | nil=>exact absurd rfl (hne [] (by simp))
   | cons p l=>exact GetL.at 0 rfl (by simp) (GetL.at 0 rfl (by simp) ⟨rfl,rfl⟩)
theorem take_pc (h0:Str) (L:Lns) (hne:Full L) (hh:h0 ≠ []):PC Tryz.prog 86 sg86 (L,h0,()) (fun y z=>y = ((takeF h0 L).1,(takeF h0 L).2.1,()) ∧ z.1 = (takeF h0 L).2.2) (fun _=>False):=by
 refine PC.of a86 [(131,sg131)] (by kernel_rfl) ?_
 refine CallP.mk _ _ (head_pc L hne) ?_ (fun p h=>h.elim)
 rintro y z ⟨rfl,rfl⟩
 refine BrP.mk' (fun h=>?_) (fun h=>?_)
 ·have h:headF L ≠ h0:=by simpa using h
  have:takeF h0 L = ([],false,L):=by
   cases L with
   | nil=>rfl
   | cons l R=>simp only [takeF]; exact if_neg h
  show _ = _ ∧ _ = _
  rw [this]; exact ⟨rfl,rfl⟩
 ·have h:headF L = h0:=by simpa using h
  cases L with
  | nil=>exact absurd h.symm hh
  | cons l R=>
   cases l with
   | nil=>exact absurd rfl (hne [] (by simp))
   | cons p l=>
    have h:p = h0:=h
    refine GetL.at 0 rfl (by simp) ?_
    refine SubL.from 1 rfl rfl (by simp) ?_
    refine SubL.from 1 rfl rfl (by simp) ?_
    have ht:takeF h0 ((p :: l) :: R) = (l,true,R):=by simp only [takeF]; exact if_pos h
    show _ = _ ∧ _ = _
    rw [ht]; exact ⟨rfl,rfl⟩
def mal:AV:=.ifc 132 (.pv .nil ())
theorem must_pc (b:Bool):PC Tryz.prog 80 sg80 (b,()) (fun _ _=>b = true) (fun p=>b = false ∧ p = mal):=by
 refine PC.of a80 [] (by kernel_rfl) ?_
 cases b with
 | true=>exact BrP.mk' (fun h=>by cases h) (fun _=>rfl)
 | false=>exact BrP.mk' (fun _=>show _ ∧ _ from ⟨rfl,rfl⟩) (fun h=>by cases h)
theorem unspelt_pc (s:Str):PC Tryz.prog 138 sg138 (s,()) (fun y _=>y.1 = if s = [49] then [] else s) (fun _=>False):=by
 refine PC.of a138 [] (by kernel_rfl) ?_
 refine BrP.mk' (fun h=>?_) (fun h=>?_)
 ·have h:s = [49]:=by simpa using h
  exact (if_pos h).symm
 ·have h:s ≠ [49]:=by simpa using h
  exact (if_neg h).symm
end Go.Proofs.YtpifnlfmojfgpaaGreatDoor.Pk
end
section
set_option maxRecDepth 10000
namespace Go.Proofs.YtpifnlfmojfgpaaGreatDoor.Pk
open Fw Pw Ct
noncomputable def a134:FAnn where
 loops:=fun | 3=>[.sl 3 (.ls 3 (.int .i64)),.kv 6,.kv 7,.sl 8 (.pv (.int .i64))] | _=>[]
noncomputable def a130:FAnn:={}
noncomputable def a133:FAnn where
 loops:=fun | 2=>[.kv 0,.kv 1,.sl 5 (.ls 96 (.cons (.str) (.cons (.int .i64) (.cons (.bool) (.nil))))),.mem 0 0 (.pv (.lst (.lst .str)))] | _=>[]
 joins:=fun | 6=>some [.kv 0,.kv 1,.sl 5 (.ls 96 (.cons (.str) (.cons (.int .i64) (.cons (.bool) (.nil))))),.kv 6,.mem 0 0 (.pv (.lst (.lst .str)))] | _=>none
 sched:=fun | 6=>runS [(0,false),(1,false),(2,false),(3,false),(5,false),(6,false),(7,false),(9,false),(10,false),(11,false),(12,false),(4,false),(8,false),(13,false),(14,false),(15,true),(16,false)] .fin | _=>.fin
noncomputable def a135:FAnn where
 loops:=fun | 2=>[.kv 0,.kv 1,.sl 5 (.ls 28 (.lst (.int .i64))),.mem 0 0 (.pv (.lst (.lst .str)))] | _=>[]
noncomputable def a132:FAnn:={}
def sg163:Sig:=⟨[sA],[.any],[iA]⟩
def sg134:Sig:=⟨[.pv tW],[.any],[.pv tIs]⟩
def sg130:Sig:=⟨[.pv tW,iA],[.any,.any],[.pv tIs]⟩
def sg133:Sig:=⟨[qA,sA],[qA,.any],[.pv tCs]⟩
def sg135:Sig:=⟨[qA,sA],[qA,.any],[.pv tIss]⟩
def sg132:Sig:=⟨[qA,sA,.box sA],[qA,.any,.box sA],[]⟩
def NN:Nat:=20001
def NumPC:Prop:=∀ s:Str,s.length ≤ NN → PC Tryz.prog 163 sg163 (s,()) (fun y _=>In64 y.1 ∧ ∀ n,numS s = some n → y.1 = n) (fun p=>numS s = none ∧ p = mal)
structure ListOk (ps:List Str) (l:List Int):Prop where
 len:l.length = ps.length
 num:∀ n ∈ l,In64 n
 is:∀ r,listS ps = some r → l = r
theorem listS_at:∀ {ps:List Str} {r:List Int},listS ps = some r → ∀ (i:Nat) s,ps[i]? = some s → ∃ n,numS s = some n ∧ r[i]? = some n
 | [],r,h,i,s,hs=>by simp at hs
 | p :: ps,r,h,i,s,hs=>by
  simp only [listS,Option.bind_eq_some_iff,Option.map_eq_some_iff] at h
  obtain ⟨v,h1,l,h2,rfl⟩:=h
  cases i with
  | zero=>simp only [List.getElem?_cons_zero,Option.some.injEq] at hs; subst hs; exact ⟨v,h1,rfl⟩
  | succ i=>exact listS_at h2 i s (by simpa using hs)
theorem listS_len:∀ {ps:List Str} {r:List Int},listS ps = some r → r.length = ps.length
 | [],r,h=>by simp only [listS,Option.some.injEq] at h; subst h; rfl
 | p :: ps,r,h=>by
  simp only [listS,Option.bind_eq_some_iff,Option.map_eq_some_iff] at h
  obtain ⟨v,h1,l,h2,rfl⟩:=h
  simp [listS_len h2]
theorem wrap64 {n:Int} (h:In64 n):IntKind.wrap .i64 n = n:=Fw.wrap64 h.1 h.2
theorem list_pc (hnum:NumPC) (ps:List Str) (hl:ps.length ≤ NN) (hs:∀ p ∈ ps,p.length ≤ NN):PC Tryz.prog 134 sg134 (ps,()) (fun y _=>ListOk ps y.1) (fun p=>listS ps = none ∧ p = mal):=by
 refine PC.of a134 [(163,sg163)] (by kernel_rfl) ?_
 unfold NN at hl
 refine LenL.mk fun _=>?_
 repeat refine SameV.mk rfl ?_
 refine LoopP.mk (fun x=>∃ (i:Nat) (out:List Int),x = (out,(i:Int),()) ∧ i ≤ ps.length ∧ out.length = i ∧ (∀ n ∈ out,In64 n) ∧ ∀ r,listS ps = some r → out = r.take i) (fun x=>ps.length - x.2.1.toNat) ⟨0,[],rfl,Nat.zero_le _,rfl,by simp,by simp⟩ ?_
 rintro x ⟨i,out,rfl,hi,ho,hn,hr⟩
 refine BrP.mk' (fun h=>?_) (fun h=>?_)
 ·have h:i < ps.length:=by simpa using h
  refine GetL.at i rfl h ?_
  refine CallP.mk _ _ (hnum ps[i] (hs _ (List.getElem_mem h))) ?_ ?_
  ·rintro ⟨y,_⟩ z ⟨hy,hy'⟩
   refine AppL.mk' (by show out.length + 1 ≤ _; omega) ?_
   repeat refine SameV.mk rfl ?_
   have hw:IntKind.wrap .i64 ((i:Int) + 1) = ((i + 1:Nat):Int):=wrap64 ⟨by omega,by omega⟩
   refine ⟨⟨i + 1,out ++ [y],by rw [← hw]; rfl,h,by simp [ho],fun n hn'=>?_,fun r hr'=>?_⟩,?_⟩
   ·rcases List.mem_append.1 hn' with h1 | h1
    ·exact hn n h1
    ·simp at h1; subst h1; exact hy
   ·obtain ⟨n,h1,h2⟩:=listS_at hr' i ps[i] (List.getElem?_eq_getElem h)
    have hy':y = n:=hy' n h1
    rw [List.take_add_one,h2,hr r hr',hy']; rfl
   ·show ps.length - (IntKind.wrap .i64 ((i:Int) + 1)).toNat < ps.length - (i:Int).toNat
    rw [hw]; omega
  ·rintro p ⟨h1,rfl⟩
   refine show _ ∧ _ from ⟨?_,rfl⟩
   cases hl:listS ps with
   | none=>rfl
   | some r=>
    obtain ⟨n,h2,_⟩:=listS_at hl i ps[i] (List.getElem?_eq_getElem h)
    rw [h2] at h1; cases h1
 ·have h:i = ps.length:=by have:¬ i < ps.length:=by simpa using h
                           omega
  refine show ListOk _ _ from ⟨by show out.length = _; omega,hn,fun r hr'=>?_⟩
  show out = r
  rw [hr r hr',h,← listS_len hr']; simp
structure LimL (L:Lns):Prop where
 full:Full L
 len:L.length ≤ NN
 parts:∀ l ∈ L,l.length ≤ NN
 part:∀ l ∈ L,∀ p ∈ l,p.length ≤ NN
theorem LimL.sfx {L R:Lns} (h:LimL L) (hs:R <:+ L):LimL R:=
 ⟨fun l hl=>h.full l (hs.subset hl),Nat.le_trans hs.length_le h.len,fun l hl=>h.parts l (hs.subset hl),fun l hl=>h.part l (hs.subset hl)⟩
theorem take_sfx (h:Str) (L:Lns):(takeF h L).2.2 <:+ L:=by
 cases L with
 | nil=>exact List.suffix_rfl
 | cons l R=>
  simp only [takeF]
  split
  ·exact List.suffix_cons l R
  ·exact List.suffix_rfl
theorem take_lt {h:Str} {L:Lns} (hk:(takeF h L).2.1 = true):(takeF h L).2.2.length < L.length:=by
 cases L with
 | nil=>cases hk
 | cons l R=>
  simp only [takeF] at hk ⊢
  split at hk
  ·rename_i he; rw [if_pos he]; simp
  ·cases hk
theorem take_parts {h:Str} {L:Lns} (hl:LimL L):(takeF h L).1.length ≤ NN ∧ ∀ p ∈ (takeF h L).1,p.length ≤ NN:=by
 cases L with
 | nil=>exact ⟨Nat.zero_le _,by simp [takeF]⟩
 | cons l R=>
  simp only [takeF]
  split
  ·refine ⟨?_,fun p hp=>hl.part l (by simp) p (List.mem_of_mem_drop hp)⟩
   have:=hl.parts l (by simp)
   simp only [List.length_drop]; omega
  ·exact ⟨Nat.zero_le _,by simp⟩
theorem many_take {α:Type} {f:List Str → Option α} {h:Str} {L:Lns} (hk:(takeF h L).2.1 = true):manyS f h L = (f (takeF h L).1).bind fun x=>(manyS f h (takeF h L).2.2).map fun r=>(x :: r.1,r.2):=by
 cases L with
 | nil=>cases hk
 | cons l R=>
  simp only [takeF] at hk ⊢
  split at hk
  ·rename_i he; simp only [manyS]; rw [if_pos he,if_pos he]
  ·cases hk
theorem many_stop {α:Type} {f:List Str → Option α} {h:Str} {L:Lns} (hk:(takeF h L).2.1 = false):manyS f h L = some ([],L) ∧ (takeF h L).2.2 = L:=by
 cases L with
 | nil=>exact ⟨rfl,rfl⟩
 | cons l R=>
  simp only [takeF] at hk ⊢
  split at hk
  ·cases hk
  ·rename_i he; simp only [manyS]; rw [if_neg he,if_neg he]; exact ⟨rfl,rfl⟩
structure ManyOk {α:Type} (f:List Str → Option α) (h:Str) (L:Lns) (ok:α → Prop) (ys:List α) (R:Lns):Prop where
 len:ys.length + R.length ≤ L.length
 sfx:R <:+ L
 ok:∀ y ∈ ys,ok y
 is:∀ o,manyS f h L = some o → ∃ d,manyS f h R = some (d,o.2) ∧ o.1 = ys ++ d
theorem ManyOk.start {α:Type} (f:List Str → Option α) (h:Str) (L:Lns) (ok:α → Prop):ManyOk f h L ok [] L:=
 ⟨by simp,List.suffix_rfl,by simp,fun o ho=>⟨o.1,ho,rfl⟩⟩
theorem ManyOk.next {α:Type} {f:List Str → Option α} {h:Str} {L:Lns} {ok:α → Prop} {ys:List α} {R:Lns} (hm:ManyOk f h L ok ys R) (hk:(takeF h R).2.1 = true) {y:α} (hy:ok y) (he:∀ x,f (takeF h R).1 = some x → y = x):ManyOk f h L ok (ys ++ [y]) (takeF h R).2.2:=by
 refine ⟨?_,(take_sfx h R).trans hm.sfx,fun z hz=>?_,fun o ho=>?_⟩
 ·have:=hm.len
  have:=take_lt hk
  simp; omega
 ·rcases List.mem_append.1 hz with hz | hz
  ·exact hm.ok z hz
  ·simp at hz; subst hz; exact hy
 ·obtain ⟨d,h1,h2⟩:=hm.is o ho
  rw [many_take hk] at h1
  simp only [Option.bind_eq_some_iff,Option.map_eq_some_iff,Prod.mk.injEq] at h1
  obtain ⟨x,h3,r,h4,rfl,h5⟩:=h1
  refine ⟨r.1,by rw [h4,← h5],?_⟩
  rw [h2,he x h3]; simp
def Done {α:Type} (f:List Str → Option α) (h:Str) (L:Lns) (ok:α → Prop) (ys:List α) (R:Lns):Prop:=
 ManyOk f h L ok ys R ∧ ∀ o,manyS f h L = some o → o = (ys,R)
theorem ManyOk.done {α:Type} {f:List Str → Option α} {h:Str} {L:Lns} {ok:α → Prop} {ys:List α} {R:Lns} (hm:ManyOk f h L ok ys R) (hk:(takeF h R).2.1 = false):Done f h L ok ys R:=
 ⟨hm,fun o ho=>by
  obtain ⟨d,h1,h2⟩:=hm.is o ho
  rw [(many_stop hk).1] at h1
  simp only [Option.some.injEq,Prod.mk.injEq] at h1
  obtain ⟨rfl,h3⟩:=h1
  obtain ⟨a,b⟩:=o
  simp only [List.append_nil] at h2 h3
  rw [← h2,h3]⟩
theorem ManyOk.bad {α:Type} {f:List Str → Option α} {h:Str} {L:Lns} {ok:α → Prop} {ys:List α} {R:Lns} (hm:ManyOk f h L ok ys R) (hk:(takeF h R).2.1 = true) (hb:f (takeF h R).1 = none):manyS f h L = none:=by
 cases ho:manyS f h L with
 | none=>rfl
 | some o=>
  obtain ⟨d,h1,h2⟩:=hm.is o ho
  rw [many_take hk,hb] at h1
  cases h1
theorem some_pc (hnum:NumPC) (ps:List Str) (n:Int) (hl:ps.length ≤ NN) (hs:∀ p ∈ ps,p.length ≤ NN):PC Tryz.prog 130 sg130 (ps,n,()) (fun y _=>(ps.length:Int) = n ∧ ListOk ps y.1) (fun p=>((ps.length:Int) = n → listS ps = none) ∧ p = mal):=by
 refine PC.of a130 [(134,sg134),(80,sg80)] (by kernel_rfl) ?_
 refine LenL.mk fun _=>?_
 refine CallP.mk _ _ (must_pc _) ?_ ?_
 ·rintro y z hb
  have hb:(ps.length:Int) = n:=by simpa using hb
  refine CallP.mk _ _ (list_pc hnum ps hl hs) ?_ ?_
  ·exact fun y z h=>show _ ∧ _ from ⟨hb,h⟩
  ·rintro p ⟨h1,rfl⟩
   exact show _ ∧ _ from ⟨fun _=>h1,rfl⟩
 ·rintro p ⟨h1,rfl⟩
  have h1:¬ (ps.length:Int) = n:=by simpa using h1
  exact show _ ∧ _ from ⟨fun h=>absurd h h1,rfl⟩
def RowOk (r:List Int):Prop:=r.length ≤ NN ∧ ∀ n ∈ r,In64 n
theorem ListOk.row {ps:List Str} {l:List Int} (h:ListOk ps l) (hl:ps.length ≤ NN):RowOk l:=⟨by rw [h.len]; exact hl,h.num⟩
theorem rows_pc (hnum:NumPC) (h:Str) (L:Lns) (hL:LimL L) (hh:h ≠ []):PC Tryz.prog 135 sg135 (L,h,()) (fun y z=>Done listS h L RowOk y.1 z.1) (fun p=>manyS listS h L = none ∧ p = mal):=by
 refine PC.of a135 [(86,sg86),(134,sg134)] (by kernel_rfl) ?_
 repeat refine SameV.mk rfl ?_
 refine LoopP.mk (fun x=>ManyOk listS h L RowOk x.1 x.2.1) (fun x=>x.2.1.length) (ManyOk.start _ _ _ _) ?_
 rintro ⟨out,R,_⟩ hm
 have hm:ManyOk listS h L RowOk out R:=hm
 have hR:=hL.sfx hm.sfx
 refine CallP.mk _ _ (take_pc h R hR.full hh) ?_ (fun p h=>h.elim)
 rintro y ⟨z,_⟩ ⟨rfl,rfl⟩
 refine BrP.mk' (fun hb=>?_) (fun hb=>?_)
 ·have hb:(takeF h R).2.1 = false:=by simpa using hb
  have:=(many_stop (f:=listS) hb).2
  show Done _ _ _ _ out (takeF h R).2.2
  rw [this]; exact hm.done hb
 ·have hb:(takeF h R).2.1 = true:=by simpa using hb
  have hp:=take_parts (h:=h) hR
  refine CallP.mk _ _ (list_pc hnum _ hp.1 hp.2) ?_ ?_
  ·rintro ⟨y,_⟩ z hy
   have hy:ListOk _ y:=hy
   refine AppL.mk' (by show out.length + 1 ≤ _; have:=hm.len; have:=hL.len; unfold NN at this; omega) ?_
   repeat refine SameV.mk rfl ?_
   exact ⟨hm.next hb (hy.row hp.1) hy.is,take_lt hb⟩
  ·rintro p ⟨h1,rfl⟩
   exact show _ ∧ _ from ⟨hm.bad hb h1,rfl⟩
end Go.Proofs.YtpifnlfmojfgpaaGreatDoor.Pk
end
