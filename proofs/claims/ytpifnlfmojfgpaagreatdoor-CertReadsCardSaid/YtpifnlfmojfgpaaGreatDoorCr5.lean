/- Parts of a proof, laid one behind the other by our own merge.py: PwTR PwLay PwCall PwTab PwPC PwW PwW2. -/
import Derived.Test.YtpifnlfmojfgpaaGreatDoorCr4
import Derived.Lib.ItoaLen
set_option linter.unusedVariables false
set_option linter.unusedSimpArgs false
section
namespace Go.Proofs.YtpifnlfmojfgpaaGreatDoor.Pw
open Fw RowKit
def Ow.dis (a b:Ow):Prop:=(∀ g o,a.c g o → ¬ b.c g o) ∧ (∀ g,a.t g → ¬ b.t g) ∧ (∀ g o,a.t g → ¬ b.c g o) ∧ (∀ g o,b.t g → ¬ a.c g o)
def Ow.le (a b:Ow):Prop:=(∀ g o,a.c g o → b.c g o) ∧ ∀ g,a.t g → b.t g
theorem Ow.le.refl (a:Ow):a.le a:=⟨fun _ _ h=>h,fun _ h=>h⟩
theorem Ow.le.trans {a b c:Ow} (h:a.le b) (k:b.le c):a.le c:=⟨fun g o hg=>k.1 g o (h.1 g o hg),fun g hg=>k.2 g (h.2 g hg)⟩
theorem Ow.dis.mono {a b a' b':Ow} (h:a.dis b) (h1:a'.le a) (h2:b'.le b):a'.dis b':=
 ⟨fun g o ha hb=>h.1 g o (h1.1 g o ha) (h2.1 g o hb),fun g ha hb=>h.2.1 g (h1.2 g ha) (h2.2 g hb),fun g o ha hb=>h.2.2.1 g o (h1.2 g ha) (h2.1 g o hb),fun g o hb ha=>h.2.2.2 g o (h2.2 g hb) (h1.1 g o ha)⟩
theorem Ow.dis.symm {a b:Ow} (h:a.dis b):b.dis a:=⟨fun g o hb ha=>h.1 g o ha hb,fun g hb ha=>h.2.1 g ha hb,h.2.2.2,h.2.2.1⟩
def Ow.or (a b:Ow):Ow:=⟨fun g o=>a.c g o ∨ b.c g o,fun g=>a.t g ∨ b.t g⟩
theorem Ow.le.left (a b:Ow):a.le (a.or b):=⟨fun _ _ h=>.inl h,fun _ h=>.inl h⟩
theorem Ow.le.right (a b:Ow):b.le (a.or b):=⟨fun _ _ h=>.inr h,fun _ h=>.inr h⟩
def TR (P:Program) (A:Pos) (w:World):(t:AT) → t.den → List Value → Ow → Prop
 | .pv t,x,vs,_=>Rp A w t x vs
 | .ls e t,xs,vs,ω=>∃ sl:Sl,vs = [sl.v] ∧ Rp A w (.lst t) xs vs ∧ TailOk P A w sl e ∧ ∀ a,sl.a = some a → ω.t a.block
 | .box a,x,vs,ω=>∃ g o us ω1 ω2,vs = [.pointer (some ⟨g,o,none⟩)] ∧ us.length = a.sz ∧ TR P A w a x us ω1 ∧
   (∀ (j:Nat) v,us[j]? = some v → w.cell? ⟨g,o + j,none⟩ = some v ∧ w.frozen? ⟨g,o + j,none⟩ = false ∧ ¬ A g (o + j) ∧ ω2.c g (o + j)) ∧ ω1.dis ω2 ∧ ω1.le ω ∧ ω2.le ω
 | .fn f a,x,vs,ω=>∃ cs,vs = [.func (.func f) #[] cs.toArray] ∧ cs.length = a.sz ∧ TR P A w a x cs ω
 | .cst v,_,vs,_=>vs = [v] ∧ v.oneCell' = true
 | .any,_,vs,_=>∃ v,vs = [v] ∧ v.oneCell' = true
 | .nil,_,vs,_=>vs = []
 | .cons h t,x,vs,ω=>∃ us us' ω1 ω2,vs = us ++ us' ∧ us.length = h.sz ∧ TR P A w h x.1 us ω1 ∧ TR P A w t x.2 us' ω2 ∧ ω1.dis ω2 ∧ ω1.le ω ∧ ω2.le ω
theorem cast_rp {A:Pos} {w:World} {s t:PT} (h:s = t) (x:s.den) (vs:List Value) (hr:Rp A w s x vs):Rp A w t (castP h x) vs:=by subst h; exact hr
theorem toPv_ok {s:Cx}:∀ (t:PT) {av:AV} {vs:List Value} {K:t.den → Prop},toPv t av K → RV s av vs → ∃ x,K x ∧ Rp s.A s.w t x vs:=by
 intro t
 induction t with
 | cons a b ih1 ih2=>
  intro av vs K h hr
  cases av <;> first | (exfalso; simp only [toPv] at h; done) | skip
  case pv u x=>
   simp only [toPv] at h
   split at h
   ·rename_i he _; exact ⟨_,h,cast_rp he _ _ hr⟩
   ·exact h.elim
  case acons p q=>
   simp only [toPv] at h
   obtain ⟨us,us',rfl,h1,h2⟩:=hr
   obtain ⟨x,hx,r1⟩:=ih1 h h1
   obtain ⟨y,hy,r2⟩:=ih2 hx h2
   exact ⟨(x,y),hy,us,us',rfl,r1,r2⟩
 | nil=>
  intro av vs K h hr
  cases av <;> first | (exfalso; simp only [toPv] at h; done) | skip
  case pv u x=>
   simp only [toPv] at h
   split at h
   ·rename_i he _; exact ⟨_,h,cast_rp he _ _ hr⟩
   ·exact h.elim
  case anil=>simp only [toPv] at h; exact ⟨(),h,hr⟩
 | bool=>
  intro av vs K h hr
  cases av <;> first | (exfalso; simp only [toPv] at h; done) | skip
  case pv u x=>
   simp only [toPv] at h
   split at h
   ·rename_i he _; exact ⟨_,h,cast_rp he _ _ hr⟩
   ·exact h.elim
  case lit b=>simp only [toPv] at h; exact ⟨b,h,hr⟩
 | str=>
  intro av vs K h hr
  cases av <;> first | (exfalso; simp only [toPv] at h; done) | skip
  case pv u x=>
   simp only [toPv] at h
   split at h
   ·rename_i he _; exact ⟨_,h,cast_rp he _ _ hr⟩
   ·exact h.elim
 | int k=>
  intro av vs K h hr
  cases av <;> first | (exfalso; simp only [toPv] at h; done) | skip
  case pv u x=>
   simp only [toPv] at h
   split at h
   ·rename_i he _; exact ⟨_,h,cast_rp he _ _ hr⟩
   ·exact h.elim
 | lst e ih=>
  intro av vs K h hr
  cases av <;> first | (exfalso; simp only [toPv] at h; done) | skip
  case pv u x=>
   simp only [toPv] at h
   split at h
   ·rename_i he _; exact ⟨_,h,cast_rp he _ _ hr⟩
   ·exact h.elim
  case ls u xs id=>
   simp only [toPv] at h
   split at h
   ·rename_i he _; exact ⟨_,h,cast_rp he _ _ hr.2.2⟩
   ·exact h.elim
  case cst v=>
   have hv:v = .slice none 0 0 ∧ K []:=by
    cases v <;> first | (exfalso; simp only [toPv] at h; done) | skip
    rename_i a n c
    cases a <;> cases n <;> cases c <;> first | (exfalso; simp only [toPv] at h; done) | skip
    exact ⟨rfl,by simpa only [toPv] using h⟩
   obtain ⟨rfl,hk⟩:=hv
   obtain ⟨rfl,_⟩:=hr
   exact ⟨[],hk,_,_,_,rfl,rfl,Nat.le_refl _,Nat.zero_le _,fun i x hx=>by simp at hx⟩
structure AHeap.le (H' H:AHeap):Prop where
 c:∀ i o av,H'.c i o = some av → H.c i o = some av
 t:∀ i e,H'.t i = some e → H.t i = some e
theorem AHeap.le.refl (H:AHeap):H.le H:=⟨fun _ _ _ h=>h,fun _ _ h=>h⟩
theorem AHeap.le.trans {a b c:AHeap} (h:a.le b) (k:b.le c):a.le c:=⟨fun i o av ha=>k.c i o av (h.c i o av ha),fun i e ha=>k.t i e (h.t i e ha)⟩
theorem AHeap.le.cn {H' H:AHeap} (h:H'.le H) {i o:Nat} (hn:H'.c i o ≠ Option.none):H.c i o ≠ Option.none:=by
 cases hv:H'.c i o with
 | none=>exact absurd hv hn
 | some av=>rw [h.c i o av hv]; exact fun h=>by cases h
theorem HR.le {P:Program} {s:Cx} {H H':AHeap} (h:HR P s H) (hl:H'.le H):HR P s H':=
 ⟨h.low,fun i o av hi=>h.cell i o av (hl.c i o av hi),fun i o j p hi hj=>h.inj i o j p (hl.cn hi) (hl.cn hj),fun i e hi=>h.tok i e (hl.t i e hi),fun i e j o hi hj=>h.apart i e j o (hl.t i e hi) (hl.cn hj),
  fun i j e f hi hj=>h.tinj i j e f (hl.t i e hi) (hl.t j f hj)⟩
theorem St.le {P:Program} {O:Ow} {A0:Pos} {w0:World} {s:Cx} {H H':AHeap} (h:St P O A0 w0 s H) (hl:H'.le H):St P O A0 w0 s H':=
 ⟨h.hr.le hl,fun i o hi=>h.own i o (hl.cn hi),fun i e a hi=>h.tok i e a (hl.t i e hi),h.fr,h.new,h.an,h.sub⟩
theorem dropL_c (i n o:Nat) (H:AHeap) (j p:Nat):(H.dropL i o n).c j p = if j = i ∧ o ≤ p ∧ p < o + n then none else H.c j p:=by
 simp only [AHeap.dropL]
 cases h1:Nat.beq j i with
 | false=>
  have h1:=Nat.ne_of_beq_eq_false h1
  rw [if_neg (fun h=>h1 h.1)]; rfl
 | true=>
  have h1:=Nat.eq_of_beq_eq_true h1
  cases h2:Nat.ble o p with
  | false=>
   have h2:¬ o ≤ p:=fun h=>by rw [Nat.ble_eq_true_of_le h] at h2; cases h2
   rw [if_neg (fun h=>h2 h.2.1)]; rfl
  | true=>
   have h2:=Nat.le_of_ble_eq_true h2
   cases h3:Nat.blt p (o + n) with
   | false=>
    have h3:¬ p < o + n:=fun h=>by rw [show Nat.blt p (o + n) = true from Nat.ble_eq_true_of_le h] at h3; cases h3
    rw [if_neg (fun h=>h3 h.2.2)]; rfl
   | true=>
    have h3:p < o + n:=Nat.le_of_ble_eq_true h3
    rw [if_pos ⟨h1,h2,h3⟩]; rfl
theorem dropL_t (i n o:Nat) (H:AHeap):(H.dropL i o n).t = H.t:=rfl
theorem dropL_le (H:AHeap) (i o n:Nat):(H.dropL i o n).le H:=
 ⟨fun j p av h=>by rw [dropL_c] at h; split at h <;> first | cases h | exact h,fun j e h=>by rw [dropL_t] at h; exact h⟩
theorem setT_le (H:AHeap) (i:Nat):(H.setT i none).le H:=
 ⟨fun _ _ _ h=>h,fun j e h=>by rw [setT_t] at h; split at h <;> first | cases h | exact h⟩
theorem toLs_ok {P:Program} {s:Cx} {H:AHeap} {e:TypeId} {t:PT} {av:AV} {v:Value} {K:List t.den → AHeap → Prop} (hr:RV s av [v]) (h:toLs e t av H K):∃ xs H',K xs H' ∧ OldOk P s H e t xs v H':=by
 unfold toLs at h
 split at h
 ·rename_i u xs id
  split at h
  ·rename_i e' ht
   cases hb:Nat.beq e' e with
   | false=>rw [hb] at h; exact h.elim
   | true=>
    rw [hb] at h
    simp only [cond_true] at h
    have he:=Nat.eq_of_beq_eq_true hb
    subst he
    split at h
    ·rename_i hc _
     obtain ⟨h1,h2,h3⟩:=hr
     refine ⟨_,_,h,.inr ⟨id,ht,by simpa using h2,cast_rp hc _ _ h3,rfl⟩⟩
    ·exact h.elim
  ·exact h.elim
 ·obtain ⟨h1,_⟩:=hr
  refine ⟨[],H,h,.inl ⟨by simpa using h1,rfl,rfl⟩⟩
 ·exact h.elim
structure Ow.from (s:Cx) (H H':AHeap) (ω:Ow):Prop where
 c:∀ g k,ω.c g k → ∃ i p,H.c i p ≠ none ∧ H'.c i p = none ∧ (s.b i).1 = g ∧ (s.b i).2 + p = k
 t:∀ g,ω.t g → ∃ i e a,H.t i = some e ∧ H'.t i = none ∧ (s.s i).a = some a ∧ a.block = g
def Ow.no:Ow:=⟨fun _ _=>False,fun _=>False⟩
theorem Ow.from.no (s:Cx) (H H':AHeap):Ow.no.from s H H':=⟨fun _ _ h=>h.elim,fun _ h=>h.elim⟩
theorem Ow.from.dis {P:Program} {s:Cx} {H H1 H2:AHeap} {ω1 ω2:Ow} (hr:HR P s H) (l1:H1.le H) (h1:ω1.from s H H1) (h2:ω2.from s H1 H2):ω1.dis ω2:=by
 refine ⟨fun g o ha hb=>?_,fun g ha hb=>?_,fun g o ha hb=>?_,fun g o hb ha=>?_⟩
 ·obtain ⟨i,p,a1,a2,a3,a4⟩:=h1.c g o ha
  obtain ⟨j,q,b1,b2,b3,b4⟩:=h2.c g o hb
  obtain ⟨rfl,rfl⟩:=hr.inj i p j q a1 (l1.cn b1) (by rw [a3,b3]) (by rw [a4,b4])
  exact b1 a2
 ·obtain ⟨i,e,a,a1,a2,a3,a4⟩:=h1.t g ha
  obtain ⟨j,f,b,b1,b2,b3,b4⟩:=h2.t g hb
  by_cases hij:i = j
  ·subst hij; rw [a2] at b1; cases b1
  ·exact hr.tinj i j e f a1 (l1.t j f b1) hij a b a3 b3 (by rw [a4,b4])
 ·obtain ⟨i,e,a,a1,a2,a3,a4⟩:=h1.t g ha
  obtain ⟨j,q,b1,b2,b3,b4⟩:=h2.c g o hb
  exact hr.apart i e j q a1 (l1.cn b1) a a3 (by rw [a4,b3])
 ·obtain ⟨i,e,a,a1,a2,a3,a4⟩:=h2.t g hb
  obtain ⟨j,q,b1,b2,b3,b4⟩:=h1.c g o ha
  exact hr.apart i e j q (l1.t i e a1) b1 a a3 (by rw [a4,b3])
theorem Ow.from.later {s:Cx} {H H1 H2:AHeap} {ω:Ow} (h:ω.from s H H1) (l:H2.le H1):ω.from s H H2:=
 ⟨fun g k hg=>by
  obtain ⟨i,p,a1,a2,a3⟩:=h.c g k hg
  refine ⟨i,p,a1,?_,a3⟩
  cases hv:H2.c i p with
  | none=>rfl
  | some av=>rw [l.c i p av hv] at a2; exact absurd a2 (by simp),fun g hg=>by
  obtain ⟨i,e,a,a1,a2,a3⟩:=h.t g hg
  refine ⟨i,e,a,a1,?_,a3⟩
  cases hv:H2.t i with
  | none=>rfl
  | some f=>rw [l.t i f hv] at a2; cases a2⟩
theorem Ow.from.earlier {s:Cx} {H H1 H2:AHeap} {ω:Ow} (l:H1.le H) (h:ω.from s H1 H2):ω.from s H H2:=
 ⟨fun g k hg=>by obtain ⟨i,p,a1,a2,a3⟩:=h.c g k hg; exact ⟨i,p,l.cn a1,a2,a3⟩,fun g hg=>by obtain ⟨i,e,a,a1,a2,a3⟩:=h.t g hg; exact ⟨i,e,a,l.t i e a1,a2,a3⟩⟩
theorem Ow.from.or {s:Cx} {H H':AHeap} {ω1 ω2:Ow} (h1:ω1.from s H H') (h2:ω2.from s H H'):(ω1.or ω2).from s H H':=
 ⟨fun g k h=>h.elim (h1.c g k) (h2.c g k),fun g h=>h.elim (h1.t g) (h2.t g)⟩
theorem PT.sh_sz:∀ t:PT,t.sh.sz = t.sz
 | .cons h t=>by simp only [PT.sh,Sh.sz,PT.sz,PT.sh_sz h,PT.sh_sz t]
 | .nil=>rfl
 | .int _=>rfl
 | .bool=>rfl
 | .str=>rfl
 | .lst _=>rfl
theorem some_of {α:Type} {x:Option α} (h:x ≠ none):∃ y,x = some y:=by cases x <;> first | exact absurd rfl h | exact ⟨_,rfl⟩
def AT.noBox:AT → Bool
 | .box _=>false
 | .fn _ a=>a.noBox
 | .cons h t=>h.noBox && t.noBox
 | _=>true
def hotA (M:Nat → Nat → Bool):AT → (Nat → Option AV) → Nat → Bool
 | .box a,c,o=>a.noBox && (match c o with
  | some (.adr id p)=>(List.range a.sz).all fun j=>M id (p + j)
  | _=>false)
 | .fn _ a,_,_=>a.noBox
 | .cons h t,c,o=>hotA M h c o && hotA M t c (o + h.sz)
 | _,_,_=>true
theorem noBox_hot (M:Nat → Nat → Bool) (c:Nat → Option AV):∀ (t:AT) (o:Nat),t.noBox = true → hotA M t c o = true:=by
 intro t
 induction t with
 | cons h t ih1 ih2=>
  intro o hb
  simp only [AT.noBox,Bool.and_eq_true] at hb
  simp only [hotA,ih1 _ hb.1,ih2 _ hb.2,Bool.and_self]
 | box a ih=>intro o hb; simp [AT.noBox] at hb
 | fn f a ih=>intro o hb; exact hb
 | _=>intro o hb; rfl
theorem take_ok {P:Program} {s:Cx}:∀ (t:AT) {c:AHeap → Nat → Option AV} {o:Nat} {H:AHeap} {K:t.den → AHeap → Prop} {val:Nat → Option Value},HR P s H →
  (∀ H' H'',H'.le H → H''.le H' → ∀ j av,c H'' j = some av → c H' j = some av) →
  (∀ H',H'.le H → ∀ j av,c H' j = some av → av.isAgg = false ∧ ∃ v,val j = some v ∧ RV s av [v]) → takeA t c o H K →
  ∃ x H' vs ω,K x H' ∧ H'.le H ∧ TR P s.A s.w t x vs ω ∧ vs.length = t.sz ∧ (∀ (j:Nat) v,vs[j]? = some v → val (o + j) = some v) ∧ ω.from s H H' ∧
   ∀ (M:Nat → Nat → Bool) (c0:Nat → Option AV),(∀ j av,c H j = some av → c0 j = some av) → hotA M t c0 o = true → ∀ i q,H.c i q ≠ none → H'.c i q = none → M i q = true:=by
 intro t
 induction t with
 | pv t=>
  intro c o H K val hr hm hv h
  simp only [takeA] at h
  split at h
  ·rename_i av hc
   obtain ⟨vs,h1,h2,h3⟩:=ofCells_ok (s:=s) (f:=fun j v=>val j = some v) t.sh o (fun j a hj ha=>(hv H (.refl H) (o + j) a ha).2) hc
   obtain ⟨x,h4,h5⟩:=toPv_ok t h h2
   exact ⟨x,H,vs,.no,h4,.refl H,h5,by rw [h1]; exact PT.sh_sz t,h3,.no s H H,fun M _ _ _ i q h1 h2=>absurd h2 h1⟩
  ·exact h.elim
 | ls e t=>
  intro c o H K val hr hm hv h
  simp only [takeA] at h
  split at h
  ·rename_i av hc
   obtain ⟨_,v,h1,h2⟩:=hv H (.refl H) o av hc
   obtain ⟨xs,H',h3,h4⟩:=toLs_ok (P:=P) h2 h
   have hval:∀ (j:Nat) u,[v][j]? = some u → val (o + j) = some u:=fun j u hj=>by
    cases j with
    | zero=>simp at hj; subst hj; exact h1
    | succ j=>simp at hj
   rcases h4 with ⟨rfl,rfl,rfl⟩ | ⟨id,hid,rfl,h5,rfl⟩
   ·exact ⟨[],H',[.slice none 0 0],.no,h3,.refl H',⟨⟨none,0,0⟩,rfl,⟨_,_,_,rfl,rfl,Nat.le_refl _,Nat.zero_le _,fun i x hx=>by simp at hx⟩,.inl rfl,fun a ha=>by cases ha⟩,rfl,hval,.no _ _ _,fun M _ _ _ i q h1 h2=>absurd h2 h1⟩
   ·refine ⟨xs,_,[(s.s id).v],⟨fun _ _=>False,fun g=>∃ a,(s.s id).a = some a ∧ a.block = g⟩,h3,setT_le H id,⟨s.s id,rfl,h5,(hr.tok id e hid).2,fun a ha=>⟨a,ha,rfl⟩⟩,rfl,hval,⟨fun _ _ h=>h.elim,fun g hg=>?_⟩,fun M _ _ _ i q h1 h2=>absurd h2 h1⟩
    obtain ⟨a,ha,hb⟩:=hg
    exact ⟨id,e,a,hid,by rw [setT_t]; simp,ha,hb⟩
  ·exact h.elim
 | box a ih=>
  intro c o H K val hr hm hv h
  simp only [takeA] at h
  split at h
  ·rename_i id p hc
   obtain ⟨_,v,h1,h2⟩:=hv H (.refl H) o _ hc
   obtain ⟨hid,he⟩:=h2
   obtain ⟨x,H1,us,ω1,h3,h4,h5,h6,h7,h8,h9⟩:=ih (c:=fun H j=>H.c id (p + j)) (o:=0) (val:=fun j=>s.w.cell? ⟨(s.b id).1,(s.b id).2 + (p + j),none⟩) hr (fun H' H'' _ hl j av hj=>hl.c _ _ _ hj) (fun H' hl j av hj=>by
    obtain ⟨_,k1,k2,_⟩:=hr.cell _ _ _ (hl.c _ _ _ hj)
    exact ⟨k1,k2⟩) h
   cases hb:(List.range a.sz).all (fun j=>(H1.c id (p + j)).isSome) with
   | false=>rw [hb] at h3; exact h3.elim
   | true=>
    rw [hb] at h3
    simp only [cond_true] at h3
    simp only [List.all_eq_true,List.mem_range] at hb
    have hpres:∀ j,j < a.sz → H1.c id (p + j) ≠ none:=fun j hj he=>by have:=hb j hj; rw [he] at this; cases this
    have hω2:Ow.from s H1 (H1.dropL id p a.sz) ⟨fun g k=>∃ j,j < a.sz ∧ g = (s.b id).1 ∧ k = (s.b id).2 + (p + j),fun _=>False⟩:=⟨fun g k hg=>by
     obtain ⟨j,hj,rfl,rfl⟩:=hg
     exact ⟨id,p + j,hpres j hj,by rw [dropL_c,if_pos ⟨rfl,by omega,by omega⟩],rfl,rfl⟩,fun _ h=>h.elim⟩
    have hle:=dropL_le H1 id p a.sz
    refine ⟨x,_,[.pointer (some ⟨(s.b id).1,(s.b id).2 + p,none⟩)],ω1.or ⟨fun g k=>∃ j,j < a.sz ∧ g = (s.b id).1 ∧ k = (s.b id).2 + (p + j),fun _=>False⟩,h3,hle.trans h4,
     ⟨(s.b id).1,(s.b id).2 + p,us,ω1,⟨fun g k=>∃ j,j < a.sz ∧ g = (s.b id).1 ∧ k = (s.b id).2 + (p + j),fun _=>False⟩,rfl,h6,h5,fun j u hj=>?_,h8.dis hr h4 hω2,.left _ _,.right _ _⟩,rfl,fun j u hj=>?_,(h8.later hle).or (hω2.earlier h4),fun M c0 hc0 hM i q n1 n2=>?_⟩
    ·have hlt:j < a.sz:=by rw [← h6]; exact (List.getElem?_eq_some_iff.1 hj).1
     obtain ⟨av,hav⟩:=some_of (h4.cn (hpres j hlt))
     obtain ⟨_,_,_,k3,k4⟩:=hr.cell _ _ _ hav
     have:=h7 j u hj
     rw [Nat.zero_add] at this
     rw [Nat.add_assoc]
     exact ⟨this,k3,k4,j,hlt,rfl,rfl⟩
    ·cases j with
     | zero=>
      simp only [List.getElem?_cons_zero,Option.some.injEq] at hj; subst hj
      simp only [List.cons.injEq,and_true] at he
      rw [Nat.add_zero,← he]; exact h1
     | succ j=>simp at hj
    ·simp only [hotA,hc0 o _ hc,Bool.and_eq_true,List.all_eq_true,List.mem_range] at hM
     by_cases n3:H1.c i q = none
     ·exact absurd (h9 (fun _ _=>false) _ (fun _ _ h=>h) (noBox_hot _ _ a 0 hM.1) i q n1 n3) (by simp)
     ·rw [dropL_c] at n2
      by_cases hq:i = id ∧ p ≤ q ∧ q < p + a.sz
      ·have:=hM.2 (q - p) (by omega)
       rwa [show p + (q - p) = q by omega,← hq.1] at this
      ·rw [if_neg hq] at n2; exact absurd n2 n3
  ·exact h.elim
 | fn f a ih=>
  intro c o H K val hr hm hv h
  simp only [takeA] at h
  split at h
  ·rename_i g av hc
   obtain ⟨_,v,h1,h2⟩:=hv H (.refl H) o _ hc
   obtain ⟨cs,hcs,he⟩:=h2
   cases hb:(Nat.beq f g && Nat.beq av.cells.length a.sz) with
   | false=>rw [hb] at h; exact h.elim
   | true=>
    rw [hb] at h
    simp only [cond_true] at h
    simp only [Bool.and_eq_true] at hb
    have hfg:=Nat.eq_of_beq_eq_true hb.1
    subst hfg
    have hlen:=Nat.eq_of_beq_eq_true hb.2
    obtain ⟨hl,hcell⟩:=hcs.flat
    obtain ⟨x,H1,us,ω1,h3,h4,h5,h6,h7,h8,h9⟩:=ih (c:=fun _ j=>av.cells[j]?) (o:=0) (val:=fun j=>cs[j]?) hr (fun H' H'' _ _ j av hj=>hj) (fun H' hl j av hj=>hcell j av hj) h
    have hus:us = cs:=by
     apply List.ext_getElem?
     intro j
     by_cases hj:j < us.length
     ·have:=h7 j _ (List.getElem?_eq_getElem hj)
      rw [Nat.zero_add] at this
      rw [List.getElem?_eq_getElem hj]; exact this.symm
     ·rw [List.getElem?_eq_none (by omega),List.getElem?_eq_none (by omega)]
    subst hus
    refine ⟨x,H1,[v],ω1,h3,h4,⟨us,he,h6,h5⟩,rfl,fun j u hj=>?_,h8,fun M c0 hc0 hM i q n1 n2=>absurd (h9 (fun _ _=>false) _ (fun _ _ h=>h) (noBox_hot _ _ a 0 hM) i q n1 n2) (by simp)⟩
    cases j with
    | zero=>simp only [List.getElem?_cons_zero,Option.some.injEq] at hj; subst hj; exact h1
    | succ j=>simp at hj
  ·exact h.elim
 | cst v=>intro c o H K val hr hm hv h; simp only [takeA] at h
 | any=>
  intro c o H K val hr hm hv h
  simp only [takeA] at h
  split at h
  ·rename_i av hc
   obtain ⟨_,v,h1,h2⟩:=hv H (.refl H) o av hc
   refine ⟨(),H,[v],.no,h,.refl H,⟨v,rfl,h2.oneCell v (by simp)⟩,rfl,fun j u hj=>?_,.no _ _ _,fun M _ _ _ i q h1 h2=>absurd h2 h1⟩
   cases j with
   | zero=>simp only [List.getElem?_cons_zero,Option.some.injEq] at hj; subst hj; exact h1
   | succ j=>simp at hj
  ·exact h.elim
 | nil=>
  intro c o H K val hr hm hv h
  simp only [takeA] at h
  exact ⟨(),H,[],.no,h,.refl H,rfl,rfl,fun j u hj=>by simp at hj,.no _ _ _,fun M _ _ _ i q h1 h2=>absurd h2 h1⟩
 | cons a b ih1 ih2=>
  intro c o H K val hr hm hv h
  simp only [takeA] at h
  obtain ⟨x,H1,us,ω1,h3,h4,h5,h6,h7,h8,h9⟩:=ih1 hr hm hv h
  obtain ⟨y,H2,us',ω2,k3,k4,k5,k6,k7,k8,k9⟩:=ih2 (hr.le h4) (fun H' H'' hl hl' j av hj=>hm H' H'' (hl.trans h4) hl' j av hj) (fun H' hl j av hj=>hv H' (hl.trans h4) j av hj) h3
  refine ⟨(x,y),H2,us ++ us',ω1.or ω2,k3,k4.trans h4,⟨us,us',ω1,ω2,rfl,h6,h5,k5,h8.dis hr h4 k8,.left _ _,.right _ _⟩,by rw [List.length_append,h6,k6]; rfl,fun j u hj=>?_,(h8.later k4).or (k8.earlier h4),fun M c0 hc0 hM i q n1 n2=>?_⟩
  ·by_cases hlt:j < us.length
   ·rw [List.getElem?_append_left hlt] at hj; exact h7 j u hj
   ·rw [List.getElem?_append_right (by omega)] at hj
    have:=k7 _ u hj
    rwa [show o + a.sz + (j - us.length) = o + j by omega] at this
  ·simp only [hotA,Bool.and_eq_true] at hM
   by_cases n3:H1.c i q = none
   ·exact h9 M c0 hc0 hM.1 i q n1 n3
   ·exact k9 M c0 (fun j av hj=>hc0 j av (hm H H1 (.refl H) h4 j av hj)) hM.2 i q n3 n2
end Go.Proofs.YtpifnlfmojfgpaaGreatDoor.Pw
end
section
namespace Go.Proofs.YtpifnlfmojfgpaaGreatDoor.Pw
open Fw RowKit
theorem CellsOk.ext {s s':Cx} (h:Ext s s') {avs:List AV} {vs:List Value} (hc:CellsOk s avs vs):CellsOk s' avs vs:=
 ⟨hc.1,fun j av hj=>by obtain ⟨h1,v,h2,h3⟩:=hc.2 j av hj; exact ⟨h1,v,h2,h3.ext h⟩⟩
theorem CellsOk.app {s:Cx} {a b:List AV} {us vs:List Value} (h1:CellsOk s a us) (h2:CellsOk s b vs):CellsOk s (a ++ b) (us ++ vs):=by
 refine ⟨by simp [h1.1,h2.1],fun j av hj=>?_⟩
 by_cases hlt:j < a.length
 ·rw [List.getElem?_append_left hlt] at hj
  obtain ⟨k1,v,k2,k3⟩:=h1.2 j av hj
  exact ⟨k1,v,by rw [List.getElem?_append_left (by rw [h1.1]; exact hlt)]; exact k2,k3⟩
 ·rw [List.getElem?_append_right (by omega)] at hj
  obtain ⟨k1,v,k2,k3⟩:=h2.2 _ av hj
  exact ⟨k1,v,by rw [List.getElem?_append_right (by rw [h1.1]; omega),h1.1]; exact k2,k3⟩
theorem CellsOk.fold {s:Cx}:∀ {l:List AV} {vs:List Value},CellsOk s l vs → RV s (l.foldr .acons .anil) vs
 | [],vs,h=>List.eq_nil_of_length_eq_zero h.1
 | a :: l,vs,h=>by
  cases vs with
  | nil=>exact absurd h.1 (by simp)
  | cons v vs=>
   obtain ⟨_,u,h1,h2⟩:=h.2 0 a rfl
   simp only [List.getElem?_cons_zero,Option.some.injEq] at h1; subst h1
   exact ⟨[v],vs,rfl,h2,CellsOk.fold ⟨by simpa using h.1,fun j av hj=>by simpa using h.2 (j + 1) av (by simpa using hj)⟩⟩
theorem CellsOk.one {s:Cx} {av:AV} {v:Value} (h:RV s av [v]) (ha:av.isAgg = false):CellsOk s [av] [v]:=
 ⟨rfl,fun j a hj=>by
  cases j with
  | zero=>simp only [List.getElem?_cons_zero,Option.some.injEq] at hj; subst hj; exact ⟨ha,v,rfl,h⟩
  | succ j=>simp at hj⟩
def Cx.tok (s:Cx) (sl:Sl):Cx:={ s with s:=fun i=>if i = s.n then sl else s.s i,n:=s.n + 1 }
def Cx.box (s:Cx) (g o:Nat):Cx:={ s with b:=fun i=>if i = s.n then (g,o) else s.b i,n:=s.n + 1 }
theorem tok_ext (s:Cx) (sl:Sl):Ext s (s.tok sl):=⟨fun g o h=>⟨h,rfl⟩,fun _ _=>rfl,fun i hi=>by simp [Cx.tok,Nat.ne_of_lt hi],Nat.le_succ _⟩
theorem box_ext (s:Cx) (g o:Nat):Ext s (s.box g o):=⟨fun g o h=>⟨h,rfl⟩,fun i hi=>by simp [Cx.box,Nat.ne_of_lt hi],fun _ _=>rfl,Nat.le_succ _⟩
theorem HR.addTok {P:Program} {s:Cx} {H:AHeap} (h:HR P s H) {sl:Sl} {e:TypeId} (ht:TailOk P s.A s.w sl e)
  (h1:∀ a,sl.a = some a → (∀ i o,H.c i o ≠ none → (s.b i).1 ≠ a.block) ∧ ∀ i f c,H.t i = some f → (s.s i).a = some c → c.block ≠ a.block):HR P (s.tok sl) (H.setT s.n (some e)):=by
 have hx:=tok_ext s sl
 have hsm:(s.tok sl).s s.n = sl:=by simp [Cx.tok]
 have hso:∀ i,i < s.n → (s.tok sl).s i = s.s i:=hx.l
 have tsplit:∀ i f,(H.setT s.n (some e)).t i = some f → (i = s.n ∧ f = e) ∨ (i < s.n ∧ H.t i = some f):=fun i f hi=>by
  rw [setT_t] at hi
  by_cases hq:i = s.n
  ·rw [if_pos hq] at hi; cases hi; exact .inl ⟨hq,rfl⟩
  ·rw [if_neg hq] at hi; exact .inr ⟨(h.tok i f hi).1,hi⟩
 refine ⟨h.low,fun i o av hi=>?_,h.inj,fun i f hi=>?_,fun i f j o hi hj a ha=>?_,fun i j f f' hi hj hne a c' ha hc=>?_⟩
 ·obtain ⟨k1,k2,⟨v,k3,k4⟩,k5⟩:=h.cell i o av hi
  exact ⟨Nat.lt_succ_of_lt k1,k2,⟨v,k3,k4.ext hx⟩,k5⟩
 ·rcases tsplit i f hi with ⟨e1,e2⟩ | ⟨hlt,hi'⟩
  ·rw [e1,hsm,e2]; exact ⟨Nat.lt_succ_self _,ht⟩
  ·obtain ⟨k1,k2⟩:=h.tok i f hi'
   rw [hso i hlt]; exact ⟨Nat.lt_succ_of_lt k1,k2⟩
 ·rcases tsplit i f hi with ⟨e1,e2⟩ | ⟨hlt,hi'⟩
  ·rw [e1,hsm] at ha; exact fun he=>(h1 a ha).1 j o hj he.symm
  ·rw [hso i hlt] at ha; exact h.apart i f j o hi' hj a ha
 ·rcases tsplit i f hi with ⟨e1,e2⟩ | ⟨hlt,hi'⟩ <;> rcases tsplit j f' hj with ⟨e3,e4⟩ | ⟨hlt',hj'⟩
  ·exact absurd (e1.trans e3.symm) hne
  ·rw [e1,hsm] at ha
   rw [hso j hlt'] at hc
   exact fun he=>(h1 a ha).2 j f' c' hj' hc he.symm
  ·rw [e3,hsm] at hc
   rw [hso i hlt] at ha
   exact (h1 c' hc).2 i f a hi' ha
  ·rw [hso i hlt] at ha
   rw [hso j hlt'] at hc
   exact h.tinj i j f f' hi' hj' hne a c' ha hc
theorem HR.addBox {P:Program} {s:Cx} {H:AHeap} (h:HR P s H) {g o:Nat} {avs:List AV} {vs:List Value} (hc:CellsOk s avs vs)
  (hv:∀ (j:Nat) v,vs[j]? = some v → s.w.cell? ⟨g,o + j,none⟩ = some v ∧ s.w.frozen? ⟨g,o + j,none⟩ = false ∧ ¬ s.A g (o + j))
  (h1:∀ i p,H.c i p ≠ none → (s.b i).1 = g → ∀ j,j < avs.length → (s.b i).2 + p ≠ o + j) (h2:0 < avs.length → ∀ i e a,H.t i = some e → (s.s i).a = some a → a.block ≠ g):HR P (s.box g o) (H.setL s.n 0 avs):=by
 have hx:=box_ext s g o
 have bn:(s.box g o).b s.n = (g,o):=by simp [Cx.box]
 have bo:∀ i,i < s.n → (s.box g o).b i = s.b i:=hx.b
 have split:∀ i p av,(H.setL s.n 0 avs).c i p = some av → (i = s.n ∧ p < avs.length ∧ avs[p]? = some av) ∨ (i < s.n ∧ H.c i p = some av):=fun i p av hi=>by
  rw [setL_c] at hi
  by_cases hq:i = s.n ∧ 0 ≤ p ∧ p < 0 + avs.length
  ·rw [if_pos hq] at hi; exact .inl ⟨hq.1,by omega,by simpa using hi⟩
  ·rw [if_neg hq] at hi; exact .inr ⟨(h.cell i p av hi).1,hi⟩
 have nn:∀ {i p av},H.c i p = some av → H.c i p ≠ none:=fun h=>by rw [h]; exact fun h=>by cases h
 refine ⟨h.low,fun i p av hi=>?_,fun i p j q hi hj hg ho=>?_,fun i f hi=>?_,fun i f j p hi hj a ha=>?_,fun i j f f' hi hj=>?_⟩
 ·rcases split i p av hi with ⟨rfl,hlt,ha⟩ | ⟨hlt,ha⟩
  ·obtain ⟨k1,v,k2,k3⟩:=hc.2 p av ha
   obtain ⟨k4,k5,k6⟩:=hv p v k2
   rw [bn]
   exact ⟨Nat.lt_succ_self _,k1,⟨v,k4,k3.ext hx⟩,k5,k6⟩
  ·obtain ⟨k1,k2,⟨v,k3,k4⟩,k5⟩:=h.cell i p av ha
   rw [bo i hlt]
   exact ⟨Nat.lt_succ_of_lt k1,k2,⟨v,k3,k4.ext hx⟩,k5⟩
 ·obtain ⟨av,hi⟩:=some_of hi
  obtain ⟨av',hj⟩:=some_of hj
  rcases split i p av hi with ⟨e1,hlt,ha⟩ | ⟨hlt,ha⟩ <;> rcases split j q av' hj with ⟨e2,hlt',ha'⟩ | ⟨hlt',ha'⟩
  ·rw [e1,e2,bn] at ho; exact ⟨e1.trans e2.symm,by simp only at ho; omega⟩
  ·rw [e1,bn,bo j hlt'] at hg ho
   exact absurd ho.symm (h1 j q (nn ha') hg.symm p hlt)
  ·rw [e2,bn,bo i hlt] at hg ho
   exact absurd ho (h1 i p (nn ha) hg q hlt')
  ·rw [bo i hlt,bo j hlt'] at hg ho
   exact h.inj i p j q (nn ha) (nn ha') hg ho
 ·rw [setL_t] at hi
  obtain ⟨k1,k2⟩:=h.tok i f hi
  exact ⟨Nat.lt_succ_of_lt k1,k2⟩
 ·rw [setL_t] at hi
  obtain ⟨av,hj⟩:=some_of hj
  rcases split j p av hj with ⟨e1,hlt,ha'⟩ | ⟨hlt,ha'⟩
  ·rw [e1,bn]; exact h2 (by omega) i f a hi ha
  ·rw [bo j hlt]; exact h.apart i f j p hi (nn ha') a ha
 ·rw [setL_t] at hi hj
  exact h.tinj i j f f' hi hj
structure Ow.out (s:Cx) (H:AHeap) (ω:Ow):Prop where
 c:∀ i o,H.c i o ≠ none → ¬ ω.c (s.b i).1 ((s.b i).2 + o) ∧ ¬ ω.t (s.b i).1
 t:∀ i e a,H.t i = some e → (s.s i).a = some a → ¬ ω.t a.block ∧ ∀ k,¬ ω.c a.block k
theorem Ow.out.mono {s:Cx} {H:AHeap} {ω ω':Ow} (h:ω.out s H) (l:ω'.le ω):ω'.out s H:=
 ⟨fun i o hi=>⟨fun hc=>(h.c i o hi).1 (l.1 _ _ hc),fun ht=>(h.c i o hi).2 (l.2 _ ht)⟩,fun i e a hi ha=>⟨fun ht=>(h.t i e a hi ha).1 (l.2 _ ht),fun k hc=>(h.t i e a hi ha).2 k (l.1 _ _ hc)⟩⟩
structure Laid (s s':Cx) (H H':AHeap) (ω:Ow):Prop where
 a:s'.A = s.A
 w:s'.w = s.w
 x:Ext s s'
 old:∀ i o,H.c i o ≠ none → H'.c i o = H.c i o
 c:∀ i o,H'.c i o ≠ none → (i < s.n ∧ H.c i o ≠ none) ∨ (i < s'.n ∧ ω.c (s'.b i).1 ((s'.b i).2 + o))
 t:∀ i e,H'.t i = some e → (i < s.n ∧ H.t i = some e) ∨ (i < s'.n ∧ ∀ a,(s'.s i).a = some a → ω.t a.block)
theorem Laid.refl {P:Program} {s:Cx} {H:AHeap} (h:HR P s H) (ω:Ow):Laid s s H H ω:=
 ⟨rfl,rfl,.refl s,fun _ _ _=>rfl,fun i o hi=>.inl ⟨by obtain ⟨av,hv⟩:=some_of hi; exact (h.cell i o av hv).1,hi⟩,fun i e hi=>.inl ⟨(h.tok i e hi).1,hi⟩⟩
theorem Laid.trans {s s1 s2:Cx} {H H1 H2:AHeap} {ω1 ω2 ω:Ow} (h:Laid s s1 H H1 ω1) (k:Laid s1 s2 H1 H2 ω2) (l1:ω1.le ω) (l2:ω2.le ω):Laid s s2 H H2 ω:=by
 refine ⟨k.a.trans h.a,k.w.trans h.w,h.x.trans k.x,fun i o hi=>(k.old i o (by rw [h.old i o hi]; exact hi)).trans (h.old i o hi),fun i o hi=>?_,fun i e hi=>?_⟩
 ·rcases k.c i o hi with ⟨k1,k2⟩ | ⟨k1,k2⟩
  ·rcases h.c i o k2 with h1 | ⟨h1,h2⟩
   ·exact .inl h1
   ·exact .inr ⟨Nat.lt_of_lt_of_le h1 k.x.n,by rw [k.x.b i k1]; exact l1.1 _ _ h2⟩
  ·exact .inr ⟨k1,l2.1 _ _ k2⟩
 ·rcases k.t i e hi with ⟨k1,k2⟩ | ⟨k1,k2⟩
  ·rcases h.t i e k2 with h1 | ⟨h1,h2⟩
   ·exact .inl h1
   ·exact .inr ⟨Nat.lt_of_lt_of_le h1 k.x.n,fun a ha=>by rw [k.x.l i k1] at ha; exact l1.2 _ (h2 a ha)⟩
  ·exact .inr ⟨k1,fun a ha=>l2.2 _ (k2 a ha)⟩
theorem Laid.out {P:Program} {s s1:Cx} {H H1:AHeap} {ω1 ω2:Ow} (h:Laid s s1 H H1 ω1) (hr:HR P s H) (ho:ω2.out s H) (hd:ω1.dis ω2):ω2.out s1 H1:=by
 refine ⟨fun i o hi=>?_,fun i e a hi ha=>?_⟩
 ·rcases h.c i o hi with ⟨h1,h2⟩ | ⟨h1,h2⟩
  ·rw [h.x.b i h1]; exact ho.c i o h2
  ·exact ⟨hd.1 _ _ h2,fun ht=>hd.2.2.2 _ _ ht h2⟩
 ·rcases h.t i e hi with ⟨h1,h2⟩ | ⟨h1,h2⟩
  ·rw [h.x.l i h1] at ha; exact ho.t i e a h2 ha
  ·exact ⟨hd.2.1 _ (h2 a ha),fun k=>hd.2.2.1 _ k (h2 a ha)⟩
theorem lay_tok {P:Program} {s:Cx} {H:AHeap} (hr:HR P s H) {sl:Sl} {e:TypeId} {t:PT} {xs:List t.den} {ω:Ow} (h2:Rp s.A s.w (.lst t) xs [sl.v]) (h3:TailOk P s.A s.w sl e) (h4:∀ a,sl.a = some a → ω.t a.block) (ho:ω.out s H) :
  HR P (s.tok sl) (H.setT s.n (some e)) ∧ RV (s.tok sl) (.ls t xs s.n) [sl.v] ∧ Laid s (s.tok sl) H (H.setT s.n (some e)) ω:=by
 have hx:=tok_ext s sl
 refine ⟨hr.addTok h3 (fun a ha=>⟨fun i o hi he=>(ho.c i o hi).2 (he ▸ h4 a ha),fun i f c hi hc he=>(ho.t i f c hi hc).1 (he ▸ h4 a ha)⟩),⟨Nat.lt_succ_self _,by simp [Cx.tok],h2.ext hx.sub⟩,⟨rfl,rfl,hx,fun _ _ _=>rfl,fun i o hi=>.inl ⟨by obtain ⟨av,hv⟩:=some_of hi; exact (hr.cell i o av hv).1,hi⟩,fun i f hi=>?_⟩⟩
 rw [setT_t] at hi
 by_cases hq:i = s.n
 ·exact .inr ⟨by rw [hq]; exact Nat.lt_succ_self _,fun a ha=>h4 a (by rw [hq] at ha; simpa [Cx.tok] using ha)⟩
 ·rw [if_neg hq] at hi; exact .inl ⟨(hr.tok i f hi).1,hi⟩
theorem lay_box {P:Program} {s:Cx} {H:AHeap} (hr:HR P s H) {g o:Nat} {avs:List AV} {us:List Value} {ω:Ow} (hc:CellsOk s avs us)
  (hv:∀ (j:Nat) v,us[j]? = some v → s.w.cell? ⟨g,o + j,none⟩ = some v ∧ s.w.frozen? ⟨g,o + j,none⟩ = false ∧ ¬ s.A g (o + j) ∧ ω.c g (o + j)) (ho:ω.out s H) :
  HR P (s.box g o) (H.setL s.n 0 avs) ∧ RV (s.box g o) (.adr s.n 0) [.pointer (some ⟨g,o,none⟩)] ∧ Laid s (s.box g o) H (H.setL s.n 0 avs) ω:=by
 have hx:=box_ext s g o
 have hin:∀ j,j < avs.length → ω.c g (o + j):=fun j hj=>by
  have hlt:j < us.length:=by rw [hc.1]; exact hj
  exact (hv j _ (List.getElem?_eq_getElem hlt)).2.2.2
 refine ⟨hr.addBox hc (fun j v hj=>⟨(hv j v hj).1,(hv j v hj).2.1,(hv j v hj).2.2.1⟩) (fun i p hi hg j hj he=>(ho.c i p hi).1 (by rw [hg,he]; exact hin j hj)) (fun h0 i e a hi ha he=>(ho.t i e a hi ha).2 (o + 0) (by rw [he]; exact hin 0 h0)),
  ⟨Nat.lt_succ_self _,by simp [Cx.box]⟩,⟨rfl,rfl,hx,fun i p hi=>by rw [setL_c,if_neg (fun hq=>by obtain ⟨av,hv⟩:=some_of hi; have:=(hr.cell i p av hv).1; omega)],fun i p hi=>?_,fun i f hi=>?_⟩⟩
 ·rw [setL_c] at hi
  by_cases hq:i = s.n ∧ 0 ≤ p ∧ p < 0 + avs.length
  ·refine .inr ⟨by rw [hq.1]; exact Nat.lt_succ_self _,?_⟩
   rw [hq.1]
   simp only [Cx.box,if_true]
   exact hin p (by omega)
  ·rw [if_neg hq] at hi
   exact .inl ⟨by obtain ⟨av,hv⟩:=some_of hi; exact (hr.cell i p av hv).1,hi⟩
 ·rw [setL_t] at hi
  exact .inl ⟨(hr.tok i f hi).1,hi⟩
theorem TR.at {P:Program} {A A':Pos} {w w':World} (hA:A' = A) (hw:w' = w) {t:AT} {x:t.den} {vs:List Value} {ω:Ow} (h:TR P A w t x vs ω):TR P A' w' t x vs ω:=by subst hA; subst hw; exact h
theorem layC_ok {P:Program}:∀ (t:AT) {x:t.den} {s:Cx} {H:AHeap} {K:List AV → AHeap → Nat → Prop} {vs:List Value} {ω:Ow},TR P s.A s.w t x vs ω → HR P s H → ω.out s H → layC t x H s.n K →
  ∃ s' cs H',K cs H' s'.n ∧ HR P s' H' ∧ CellsOk s' cs vs ∧ Laid s s' H H' ω:=by
 intro t
 induction t with
 | pv t=>
  intro x s H K vs ω ht hr ho h
  exact ⟨s,_,H,h,hr,RV.flat (av:=.pv t x) ht,.refl hr ω⟩
 | ls e t=>
  intro xs s H K vs ω ht hr ho h
  obtain ⟨sl,rfl,h2,h3,h4⟩:=ht
  obtain ⟨k1,k2,k3⟩:=lay_tok hr h2 h3 h4 ho
  simp only [layC] at h
  exact ⟨s.tok sl,_,_,h,k1,.one k2 rfl,k3⟩
 | box a ih=>
  intro x s H K vs ω ht hr ho h
  obtain ⟨g,o,us,ω1,ω2,rfl,hl,h1,h2,h3,h4,h5⟩:=ht
  simp only [layC] at h
  obtain ⟨s1,cs,H1,k1,k2,k3,k4⟩:=ih h1 hr (ho.mono h4) h
  obtain ⟨k5,k6,k7⟩:=lay_box (ω:=ω2) k2 k3 (fun j v hj=>by rw [k4.a,k4.w]; exact h2 j v hj) (k4.out hr (ho.mono h5) h3)
  exact ⟨_,_,_,k1,k5,.one k6 rfl,k4.trans k7 h4 h5⟩
 | fn f a ih=>
  intro x s H K vs ω ht hr ho h
  obtain ⟨cs,rfl,hl,h1⟩:=ht
  simp only [layC] at h
  obtain ⟨s1,l,H1,k1,k2,k3,k4⟩:=ih h1 hr ho h
  exact ⟨s1,_,H1,k1,k2,.one ⟨cs,k3.fold,rfl⟩ rfl,k4⟩
 | cst v=>
  intro x s H K vs ω ht hr ho h
  obtain ⟨rfl,hv⟩:=ht
  exact ⟨s,_,H,h,hr,.one ⟨rfl,hv⟩ rfl,.refl hr ω⟩
 | any=>
  intro x s H K vs ω ht hr ho h
  obtain ⟨v,rfl,hv⟩:=ht
  exact ⟨s,_,H,h,hr,.one ⟨v,rfl,hv⟩ rfl,.refl hr ω⟩
 | nil=>
  intro x s H K vs ω ht hr ho h
  simp only [TR] at ht
  subst ht
  exact ⟨s,_,H,h,hr,⟨rfl,fun j av hj=>by simp at hj⟩,.refl hr ω⟩
 | cons a b ih1 ih2=>
  intro x s H K vs ω ht hr ho h
  obtain ⟨us,us',ω1,ω2,rfl,hl,h1,h2,h3,h4,h5⟩:=ht
  simp only [layC] at h
  obtain ⟨s1,l1,H1,k1,k2,k3,k4⟩:=ih1 h1 hr (ho.mono h4) h
  obtain ⟨s2,l2,H2,m1,m2,m3,m4⟩:=ih2 (h2.at k4.a k4.w) k2 (k4.out hr (ho.mono h5) h3) k1
  exact ⟨s2,_,H2,m1,m2,(k3.ext m4.x).app m3,k4.trans m4 h4 h5⟩
theorem layS_ok {P:Program}:∀ (t:AT) {x:t.den} {s:Cx} {H:AHeap} {K:AV → AHeap → Nat → Prop} {vs:List Value} {ω:Ow},TR P s.A s.w t x vs ω → HR P s H → ω.out s H → layS t x H s.n K →
  ∃ s' av H',K av H' s'.n ∧ HR P s' H' ∧ RV s' av vs ∧ av.isAgg = t.isAgg ∧ av.val = (match t with | .any=>false | _=>true) ∧ Laid s s' H H' ω:=by
 intro t
 induction t with
 | pv t=>
  intro x s H K vs ω ht hr ho h
  exact ⟨s,_,H,h,hr,ht,rfl,rfl,.refl hr ω⟩
 | ls e t=>
  intro xs s H K vs ω ht hr ho h
  obtain ⟨sl,rfl,h2,h3,h4⟩:=ht
  obtain ⟨k1,k2,k3⟩:=lay_tok hr h2 h3 h4 ho
  simp only [layS] at h
  exact ⟨s.tok sl,_,_,h,k1,k2,rfl,rfl,k3⟩
 | box a ih=>
  intro x s H K vs ω ht hr ho h
  obtain ⟨g,o,us,ω1,ω2,rfl,hl,h1,h2,h3,h4,h5⟩:=ht
  simp only [layS] at h
  obtain ⟨s1,cs,H1,k1,k2,k3,k4⟩:=layC_ok a h1 hr (ho.mono h4) h
  obtain ⟨k5,k6,k7⟩:=lay_box (ω:=ω2) k2 k3 (fun j v hj=>by rw [k4.a,k4.w]; exact h2 j v hj) (k4.out hr (ho.mono h5) h3)
  exact ⟨_,_,_,k1,k5,k6,rfl,rfl,k4.trans k7 h4 h5⟩
 | fn f a ih=>
  intro x s H K vs ω ht hr ho h
  obtain ⟨cs,rfl,hl,h1⟩:=ht
  simp only [layS] at h
  obtain ⟨s1,l,H1,k1,k2,k3,k4⟩:=layC_ok a h1 hr ho h
  exact ⟨s1,_,H1,k1,k2,⟨cs,k3.fold,rfl⟩,rfl,rfl,k4⟩
 | cst v=>
  intro x s H K vs ω ht hr ho h
  obtain ⟨rfl,hv⟩:=ht
  exact ⟨s,_,H,h,hr,⟨rfl,hv⟩,rfl,rfl,.refl hr ω⟩
 | any=>
  intro x s H K vs ω ht hr ho h
  obtain ⟨v,rfl,hv⟩:=ht
  exact ⟨s,_,H,h,hr,⟨v,rfl,hv⟩,rfl,rfl,.refl hr ω⟩
 | nil=>
  intro x s H K vs ω ht hr ho h
  simp only [TR] at ht
  subst ht
  exact ⟨s,_,H,h,hr,rfl,rfl,rfl,.refl hr ω⟩
 | cons a b ih1 ih2=>
  intro x s H K vs ω ht hr ho h
  obtain ⟨us,us',ω1,ω2,rfl,hl,h1,h2,h3,h4,h5⟩:=ht
  simp only [layS] at h
  obtain ⟨s1,l1,H1,k1,k2,k3,_,_,k4⟩:=ih1 h1 hr (ho.mono h4) h
  obtain ⟨s2,l2,H2,m1,m2,m3,_,_,m4⟩:=ih2 (h2.at k4.a k4.w) k2 (k4.out hr (ho.mono h5) h3) k1
  exact ⟨s2,_,H2,m1,m2,⟨us,us',rfl,k3.ext m4.x,m3⟩,rfl,rfl,k4.trans m4 h4 h5⟩
end Go.Proofs.YtpifnlfmojfgpaaGreatDoor.Pw
end
section
namespace Go.Proofs.YtpifnlfmojfgpaaGreatDoor.Pw
open Fw RowKit
def TR1 (P:Program) (A:Pos) (w:World) (t:AT) (x:t.den) (v:Value) (ω:Ow):Prop:=
 ∃ vs,TR P A w t x vs ω ∧ vs.length = t.sz ∧ (match t.isAgg with
  | true=>v = .agg vs.toArray
  | false=>vs = [v])
def TRs (P:Program) (A:Pos) (w:World):(l:List AT) → aden l → List Value → Ow → Prop
 | [],_,vs,_=>vs = []
 | t :: l,x,vs,ω=>∃ v vs' ω1 ω2,vs = v :: vs' ∧ TR1 P A w t x.1 v ω1 ∧ TRs P A w l x.2 vs' ω2 ∧ ω1.dis ω2 ∧ ω1.le ω ∧ ω2.le ω
def TRo (P:Program) (A:Pos) (w:World):(l:List AT) → aden l → List Value → Ow → Prop
 | [],_,[],_=>True
 | .box t :: l,x,v :: vs,ω=>∃ ω1 ω2,TR P A w (.box t) x.1 [v] ω1 ∧ TRo P A w l x.2 vs ω2 ∧ ω1.dis ω2 ∧ ω1.le ω ∧ ω2.le ω
 | .any :: l,x,_ :: vs,ω=>TRo P A w l x.2 vs ω
 | _,_,_,_=>False
inductive RSs (s:Cx):List AV → List Value → Prop
 | nil:RSs s [] []
 | cons {a v l vs} (h:RS s a v) (k:RSs s l vs):RSs s (a :: l) (v :: vs)
inductive R1s (s:Cx):List AV → List Value → Prop
 | nil:R1s s [] []
 | cons {a v l vs} (h:RS1 s a v) (k:R1s s l vs):R1s s (a :: l) (v :: vs)
theorem R1s.rs {s:Cx}:∀ {l:List AV} {vs:List Value},R1s s l vs → RSs s l vs
 | _,_,.nil=>.nil
 | _,_,.cons h k=>.cons (RS.one h) k.rs
theorem R1s.ext {s s':Cx} (h:Ext s s'):∀ {l:List AV} {vs:List Value},R1s s l vs → R1s s' l vs
 | _,_,.nil=>.nil
 | _,_,.cons h1 h2=>.cons (h1.ext h) (h2.ext h)
theorem takeS_ok {P:Program} {s:Cx} {t:AT} {av:AV} {u:Value} {H:AHeap} {K:t.den → AHeap → Prop} (hr:HR P s H) (hu:RS s av u) (h:takeS t av H K) :
  ∃ x H' ω,K x H' ∧ H'.le H ∧ TR1 P s.A s.w t x u ω ∧ ω.from s H H' ∧ ∀ M:Nat → Nat → Bool,hotA M t (fun j=>av.cells[j]?) 0 = true → ∀ i q,H.c i q ≠ none → H'.c i q = none → M i q = true:=by
 unfold takeS at h
 cases hb:(av.val && (av.isAgg == t.isAgg) && Nat.beq av.cells.length t.sz) with
 | false=>rw [hb] at h; exact h.elim
 | true=>
  rw [hb] at h
  simp only [cond_true] at h
  simp only [Bool.and_eq_true] at hb
  obtain ⟨⟨h1,h2⟩,h3⟩:=hb
  have h2:av.isAgg = t.isAgg:=by simpa using h2
  have h3:=Nat.eq_of_beq_eq_true h3
  obtain ⟨us,h4,h5⟩:=hu.val h1
  obtain ⟨hl,hc⟩:=h4.flat
  obtain ⟨x,H',vs,ω,k1,k2,k3,k4,k5,k6,k7⟩:=take_ok t (c:=fun _ j=>av.cells[j]?) (o:=0) (val:=fun j=>us[j]?) hr (fun _ _ _ _ _ _ hj=>hj) (fun H' hl j a hj=>hc j a hj) h
  have he:vs = us:=by
   apply List.ext_getElem?
   intro j
   by_cases hj:j < vs.length
   ·have:=k5 j _ (List.getElem?_eq_getElem hj)
    rw [Nat.zero_add] at this
    rw [List.getElem?_eq_getElem hj]; exact this.symm
   ·rw [List.getElem?_eq_none (by omega),List.getElem?_eq_none (by omega)]
  subst he
  refine ⟨x,H',ω,k1,k2,⟨vs,k3,k4,?_⟩,k6,fun M hM=>k7 M _ (fun _ _ h=>h) hM⟩
  rw [← h2]
  unfold AV.pack at h5
  cases hag:av.isAgg with
  | true=>rw [hag] at h5; exact h5
  | false=>rw [hag] at h5; exact h5
def hotL (M:Nat → Nat → Bool):List AT → List AV → Bool
 | [],_=>true
 | _,[]=>true
 | t :: l,v :: vs=>hotA M t (fun j=>v.cells[j]?) 0 && hotL M l vs
theorem takeL_ok {P:Program} {s:Cx}:∀ (l:List AT) {args:List AV} {us:List Value} {H:AHeap} {K:aden l → AHeap → Prop},HR P s H → RSs s args us → takeL l args H K →
  ∃ x H' ω,K x H' ∧ H'.le H ∧ TRs P s.A s.w l x us ω ∧ ω.from s H H' ∧ ∀ M:Nat → Nat → Bool,hotL M l args = true → ∀ i q,H.c i q ≠ none → H'.c i q = none → M i q = true
 | [],args,us,H,K,hr,hu,h=>by
  cases hu with
  | nil=>exact ⟨(),H,.no,h,.refl H,rfl,.no _ _ _,fun M _ i q h1 h2=>absurd h2 h1⟩
  | cons _ _=>exact h.elim
 | t :: l,args,us,H,K,hr,hu,h=>by
  cases hu with
  | nil=>exact h.elim
  | cons h1 h2=>
   simp only [takeL] at h
   obtain ⟨x,H1,ω1,k1,k2,k3,k4,k5⟩:=takeS_ok hr h1 h
   obtain ⟨y,H2,ω2,m1,m2,m3,m4,m5⟩:=takeL_ok l (hr.le k2) h2 k1
   exact ⟨(x,y),H2,ω1.or ω2,m1,m2.trans k2,⟨_,_,ω1,ω2,rfl,k3,m3,k4.dis hr k2 m4,.left _ _,.right _ _⟩,(k4.later m2).or (m4.earlier k2),fun M hM i q n1 n2=>by
    simp only [hotL,Bool.and_eq_true] at hM
    by_cases n3:H1.c i q = none
    ·exact k5 M hM.1 i q n1 n3
    ·exact m5 M hM.2 i q n3 n2⟩
theorem TRs.at {P:Program} {A A':Pos} {w w':World} (hA:A' = A) (hw:w' = w) {l:List AT} {x:aden l} {v:List Value} {ω:Ow} (h:TRs P A w l x v ω):TRs P A' w' l x v ω:=by subst hA; subst hw; exact h
theorem TRo.at {P:Program} {A A':Pos} {w w':World} (hA:A' = A) (hw:w' = w) {l:List AT} {x:aden l} {v:List Value} {ω:Ow} (h:TRo P A w l x v ω):TRo P A' w' l x v ω:=by subst hA; subst hw; exact h
theorem lay1_ok {P:Program} {t:AT} {x:t.den} {s:Cx} {H:AHeap} {K:AV → AHeap → Nat → Prop} {v:Value} {ω:Ow} (ht:TR1 P s.A s.w t x v ω) (hr:HR P s H) (ho:ω.out s H) (h:layS t x H s.n K) :
  ∃ s' av H',K av H' s'.n ∧ HR P s' H' ∧ RS1 s' av v ∧ Laid s s' H H' ω:=by
 obtain ⟨vs,h1,h2,h3⟩:=ht
 obtain ⟨s',av,H',k1,k2,k3,k4,_,k5⟩:=layS_ok t h1 hr ho h
 refine ⟨s',av,H',k1,k2,⟨vs,k3,?_⟩,k5⟩
 unfold AV.pack
 rw [k4]
 cases hag:t.isAgg with
 | true=>rw [hag] at h3; exact h3
 | false=>rw [hag] at h3; exact h3
theorem RSs.ext {s s':Cx} (h:Ext s s'):∀ {l:List AV} {vs:List Value},RSs s l vs → RSs s' l vs
 | _,_,.nil=>.nil
 | _,_,.cons h1 h2=>.cons (h1.ext h) (h2.ext h)
theorem layL_ok {P:Program}:∀ (l:List AT) {x:aden l} {s:Cx} {H:AHeap} {K:List AV → AHeap → Nat → Prop} {vs:List Value} {ω:Ow},TRs P s.A s.w l x vs ω → HR P s H → ω.out s H → layL l x H s.n K →
  ∃ s' avs H',K avs H' s'.n ∧ HR P s' H' ∧ R1s s' avs vs ∧ Laid s s' H H' ω
 | [],x,s,H,K,vs,ω,ht,hr,ho,h=>by
  simp only [TRs] at ht
  subst ht
  exact ⟨s,[],H,h,hr,.nil,.refl hr ω⟩
 | t :: l,x,s,H,K,vs,ω,ht,hr,ho,h=>by
  obtain ⟨v,vs',ω1,ω2,rfl,h1,h2,h3,h4,h5⟩:=ht
  simp only [layL] at h
  obtain ⟨s1,av,H1,k1,k2,k3,k4⟩:=lay1_ok h1 hr (ho.mono h4) h
  obtain ⟨s2,avs,H2,m1,m2,m3,m4⟩:=layL_ok l (h2.at k4.a k4.w) k2 (k4.out hr (ho.mono h5) h3) k1
  exact ⟨s2,_,H2,m1,m2,.cons (k3.ext m4.x) m3,k4.trans m4 h4 h5⟩
theorem HR.putBox {P:Program} {s:Cx} {H:AHeap} (h:HR P s H) {id o:Nat} {avs:List AV} {vs:List Value} {ω:Ow} (hid:id < s.n) (hc:CellsOk s avs vs)
  (hv:∀ (j:Nat) v,vs[j]? = some v → s.w.cell? ⟨(s.b id).1,(s.b id).2 + o + j,none⟩ = some v ∧ s.w.frozen? ⟨(s.b id).1,(s.b id).2 + o + j,none⟩ = false ∧ ¬ s.A (s.b id).1 ((s.b id).2 + o + j) ∧ ω.c (s.b id).1 ((s.b id).2 + o + j)) (ho:ω.out s H) :
  HR P s (H.setL id o avs) ∧ Laid s s H (H.setL id o avs) ω:=by
 have hin:∀ j,j < avs.length → ω.c (s.b id).1 ((s.b id).2 + o + j):=fun j hj=>by
  have hlt:j < vs.length:=by rw [hc.1]; exact hj
  exact (hv j _ (List.getElem?_eq_getElem hlt)).2.2.2
 have split:∀ i p av,(H.setL id o avs).c i p = some av → (i = id ∧ o ≤ p ∧ p < o + avs.length ∧ avs[p - o]? = some av) ∨ H.c i p = some av:=fun i p av hi=>by
  rw [setL_c] at hi
  by_cases hq:i = id ∧ o ≤ p ∧ p < o + avs.length
  ·rw [if_pos hq] at hi; exact .inl ⟨hq.1,hq.2.1,hq.2.2,hi⟩
  ·rw [if_neg hq] at hi; exact .inr hi
 have nn:∀ {i p av},H.c i p = some av → H.c i p ≠ none:=fun h=>by rw [h]; exact fun h=>by cases h
 have pos:∀ p,o ≤ p → (s.b id).2 + p = (s.b id).2 + o + (p - o):=fun p hp=>by omega
 refine ⟨⟨h.low,fun i p av hi=>?_,fun i p j q hi hj hg he=>?_,fun i f hi=>?_,fun i f j p hi hj a ha=>?_,fun i j f f' hi hj=>?_⟩,⟨rfl,rfl,.refl s,fun i p hi=>?_,fun i p hi=>?_,fun i e hi=>?_⟩⟩
 ·rcases split i p av hi with ⟨rfl,h1,h2,ha⟩ | ha
  ·obtain ⟨k1,v,k2,k3⟩:=hc.2 _ av ha
   obtain ⟨k4,k5,k6,_⟩:=hv _ v k2
   rw [← pos p h1] at k4 k5 k6
   exact ⟨hid,k1,⟨v,k4,k3⟩,k5,k6⟩
  ·exact h.cell i p av ha
 ·obtain ⟨av,hi⟩:=some_of hi
  obtain ⟨av',hj⟩:=some_of hj
  rcases split i p av hi with ⟨e1,h1,h2,ha⟩ | ha <;> rcases split j q av' hj with ⟨e2,h1',h2',ha'⟩ | ha'
  ·subst e1; subst e2; exact ⟨rfl,by omega⟩
  ·subst e1
   exfalso
   have:=hin (p - o) (by omega)
   rw [← pos p h1,he,hg] at this
   exact (ho.c j q (nn ha')).1 this
  ·subst e2
   exfalso
   have:=hin (q - o) (by omega)
   rw [← pos q h1',← he,← hg] at this
   exact (ho.c i p (nn ha)).1 this
  ·exact h.inj i p j q (nn ha) (nn ha') hg he
 ·rw [setL_t] at hi; exact h.tok i f hi
 ·rw [setL_t] at hi
  obtain ⟨av,hj⟩:=some_of hj
  rcases split j p av hj with ⟨e1,h1,h2,ha'⟩ | ha'
  ·subst e1
   intro he
   have:=hin (p - o) (by omega)
   rw [← he] at this
   exact (ho.t i f a hi ha).2 _ this
  ·exact h.apart i f j p hi (nn ha') a ha
 ·rw [setL_t] at hi hj; exact h.tinj i j f f' hi hj
 ·rw [setL_c]
  by_cases hq:i = id ∧ o ≤ p ∧ p < o + avs.length
  ·exfalso
   obtain ⟨rfl,h1,h2⟩:=hq
   have:=hin (p - o) (by omega)
   rw [← pos p h1] at this
   exact (ho.c i p hi).1 this
  ·rw [if_neg hq]
 ·obtain ⟨av,hv'⟩:=some_of hi
  rcases split i p av hv' with ⟨e1,h1,h2,ha⟩ | ha
  ·subst e1
   have:=hin (p - o) (by omega)
   rw [← pos p h1] at this
   exact .inr ⟨hid,this⟩
  ·exact .inl ⟨(h.cell i p av ha).1,nn ha⟩
 ·rw [setL_t] at hi; exact .inl ⟨(h.tok i e hi).1,hi⟩
theorem putL_ok {P:Program}:∀ (l:List AT) {z:aden l} {args:List AV} {s:Cx} {H:AHeap} {K:AHeap → Nat → Prop} {vs:List Value} {ω:Ow},TRo P s.A s.w l z vs ω → RSs s args vs → HR P s H → ω.out s H → putL l z args H s.n K →
  ∃ s' H',K H' s'.n ∧ HR P s' H' ∧ Laid s s' H H' ω:=by
 intro l
 induction l with
 | nil=>
  intro z args s H K vs ω ht ha hr ho h
  cases ha with
  | nil=>exact ⟨s,H,h,hr,.refl hr ω⟩
  | cons _ _=>exact h.elim
 | cons t l ih=>
  intro z args s H K vs ω ht ha hr ho h
  cases ha with
  | nil=>cases t <;> exact h.elim
  | @cons a v l' vs' h1 h2=>
   cases t <;> first | exact h.elim | skip
   case any=>exact ih ht h2 hr ho h
   case box t=>
    obtain ⟨ω1,ω2,k1,k2,k3,k4,k5⟩:=ht
    simp only [putL] at h
    split at h
    ·rename_i id o
     obtain ⟨hid,hv⟩:=h1.adr
     obtain ⟨g,o',us,ω3,ω4,he,hl,m1,m2,m3,m4,m5⟩:=k1
     rw [hv] at he
     simp only [List.cons.injEq,Value.pointer.injEq,Option.some.injEq,Addr.mk.injEq,and_true] at he
     obtain ⟨rfl,rfl⟩:=he
     have ho1:=ho.mono k4
     obtain ⟨s1,cs,H1,n1,n2,n3,n4⟩:=layC_ok t m1 hr (ho1.mono m4) h
     have hb:s1.b id = s.b id:=n4.x.b id hid
     obtain ⟨p1,p2⟩:=n2.putBox (id:=id) (o:=o) (ω:=ω4) (Nat.lt_of_lt_of_le hid n4.x.n) n3 (fun j v hj=>by rw [n4.a,n4.w,hb]; exact m2 j v hj) (n4.out hr (ho1.mono m5) m3)
     have q1:=n4.trans p2 m4 m5
     obtain ⟨s2,H2,r1,r2,r3⟩:=ih (k2.at n4.a n4.w) (h2.ext n4.x) p1 (q1.out hr (ho.mono k5) k3) n1
     exact ⟨s2,H2,r1,r2,q1.trans r3 k4 k5⟩
    ·exact h.elim
end Go.Proofs.YtpifnlfmojfgpaaGreatDoor.Pw
end
section
namespace Go.Proofs.YtpifnlfmojfgpaaGreatDoor.Pw
def ngl:Nat:=9
def lets:List Int:=[97,65,98,66,99,67,100,68,101,69,102,70,103,71,104,72]
def gtabs:Nat → Option (Array Value → Prop)
 | 0=>some fun cs=>cs = (lets.map (Value.int .u8)).toArray
 | 3=>some fun cs=>∃ m,cs = #[.int .i64 m]
 | 4=>some fun cs=>cs = (Go.Lib.pow10Tab.map (Value.int .u64)).toArray
 | 5=>some fun cs=>∃ t p,cs = #[.iface t (.pointer p)]
 | 6=>some fun cs=>∃ t p,cs = #[.iface t (.pointer p)]
 | _=>none
theorem gtabs_lt {g:Nat} {p:Array Value → Prop} (h:gtabs g = some p):g < ngl:=by
 unfold gtabs at h
 unfold ngl
 split at h <;> first | omega | cases h
end Go.Proofs.YtpifnlfmojfgpaaGreatDoor.Pw
end
section
namespace Go.Proofs.YtpifnlfmojfgpaaGreatDoor.Pw
open Fw RowKit
def OF (A:Pos) (w:World) (ω:Ow):Ow:=⟨fun g o=>w.heap.size ≤ g ∨ ω.c g o,fun g=>w.heap.size ≤ g ∨ ω.t g⟩
structure After (A:Pos) (w:World) (ω:Ow) (A':Pos) (w':World) (ω':Ow):Prop where
 fr:Fr (OP (OF A w ω) A) w w'
 sub:∀ g o,A g o → A' g o ∧ w'.cell? ⟨g,o,none⟩ = w.cell? ⟨g,o,none⟩
 an:∀ g o,A' g o → A g o ∨ OP (OF A w ω) A g o
 low:∀ g o,A' g o → g < w'.heap.size
 own:ω'.le (OF A w ω)
def retV:List Value → Value
 | [v]=>v
 | l=>.tuple l.toArray
structure GOk (w:World):Prop where
 size:ngl ≤ w.heap.size
 tab:∀ g p,gtabs g = some p → ∃ cs t fr,w.heap[g]? = some (.cells cs t fr) ∧ p cs
structure Tab (w:World) (ω:Ow):Prop where
 ok:GOk w
 c:∀ g o,ω.c g o → ngl ≤ g
 t:∀ g,ω.t g → ngl ≤ g
theorem GOk.keep {w w':World} (h:GOk w) (hs:w.heap.size ≤ w'.heap.size) (hk:∀ g,g < ngl → w'.heap[g]? = w.heap[g]?):GOk w':=
 ⟨Nat.le_trans h.size hs,fun g p hp=>by
  obtain ⟨cs,t,fr,h1,h2⟩:=h.tab g p hp
  exact ⟨cs,t,fr,(hk g (gtabs_lt hp)).trans h1,h2⟩⟩
theorem Tab.of {A:Pos} {w:World} {ω:Ow} (h:Tab w ω):Tab w (OF A w ω):=
 ⟨h.ok,fun g o hg=>hg.elim (fun hg=>Nat.le_trans h.ok.size hg) (h.c g o),fun g hg=>hg.elim (fun hg=>Nat.le_trans h.ok.size hg) (h.t g)⟩
theorem Tab.no {O:Ow} {A:Pos} {w:World} (h:Tab w O) {g:Nat} (hg:g < ngl) (o:Nat):¬ OP O A g o:=fun hop=>by
 rcases hop with hop | ⟨hop,_⟩
 ·have:=h.c g o hop; omega
 ·have:=h.t g hop; omega
theorem GOk.fr {O:Ow} {A:Pos} {w w':World} (h:Tab w O) (hf:Fr (OP O A) w w'):GOk w':=
 h.ok.keep hf.size fun g hg=>hf.block g (Nat.lt_of_lt_of_le hg h.ok.size) (h.no hg)
def PC (P:Program) (f:FuncId) (sg:Sig) (x:aden sg.ps) (Q:aden sg.res → aden sg.out → Prop) (Qp:AV → Prop):Prop:=
 enters P f = true ∧ ∀ (A:Pos) (w:World) (vs:List Value) (ω:Ow),TRs P A w sg.ps x vs ω → (∀ g o,A g o → g < w.heap.size) → Tab w ω → Calls P f vs.toArray w fun e w'=>match e with
  | .returned v=>∃ A' y z rs ω1 ω2,Q y z ∧ v = retV rs ∧ TRs P A' w' sg.res y rs ω1 ∧ TRo P A' w' sg.out z vs ω2 ∧ ω1.dis ω2 ∧ After A w ω A' w' (ω1.or ω2)
  | .panicked ch=>∃ A' t p u,Qp (.ifc t p) ∧ ch = [{ v:=.iface t u,recovered:=false }] ∧ RS ⟨A',w',fun _=>(0,0),fun _=>⟨none,0,0⟩,0⟩ p u ∧ p.val = true ∧ After A w ω A' w' .no
  | .outgrown=>False
inductive CallP (P:Program) (f:FuncId) (sg:Sig) (x:aden sg.ps) (K:aden sg.res → aden sg.out → Prop) (Kp:AV → Prop):Prop
 | mk (Q:aden sg.res → aden sg.out → Prop) (Qp:AV → Prop) (h:PC P f sg x Q Qp) (k:∀ y z,Q y z → K y z) (kp:∀ p,Qp p → Kp p)
def callSig (P:Program) (f:FuncId) (sg:Sig) (args:List AV) (H:AHeap) (n:Nat) (K:AV → AHeap → Nat → Prop) (Kp:AV → AHeap → Prop):Prop:=
 takeL sg.ps args H fun x H=>CallP P f sg x (fun y z=>layL sg.res y H n fun vs H n=>putL sg.out z args H n fun H n=>K (valA vs) H n) (fun p=>Kp p H)
theorem Ow.or_le {a b c:Ow} (h1:a.le c) (h2:b.le c):(a.or b).le c:=⟨fun g o h=>h.elim (h1.1 g o) (h2.1 g o),fun g h=>h.elim (h1.2 g) (h2.2 g)⟩
theorem St.after {P:Program} {O:Ow} {A0:Pos} {w0:World} {s:Cx} {H H1:AHeap} (h:St P O A0 w0 s H) (hl:H1.le H) {ω ω':Ow} (hf:ω.from s H H1) {A':Pos} {w':World} (ha:After s.A s.w ω A' w' ω') :
  St P O A0 w0 { s with A:=A',w:=w' } H1 ∧ Ext s { s with A:=A',w:=w' } ∧ ω'.out { s with A:=A',w:=w' } H1 ∧ ω'.le O ∧
  ∀ i o,H1.c i o ≠ none → w'.cell? ⟨(s.b i).1,(s.b i).2 + o,none⟩ = s.w.cell? ⟨(s.b i).1,(s.b i).2 + o,none⟩:=by
 have hx:Ext s { s with A:=A',w:=w' }:=⟨ha.sub,fun _ _=>rfl,fun _ _=>rfl,Nat.le_refl _⟩
 have h1:=h.le hl
 -- what belongs to the caller is not the call's
 have hωc:∀ i o,H1.c i o ≠ none → (s.b i).1 < s.w.heap.size ∧ ¬ ω.c (s.b i).1 ((s.b i).2 + o) ∧ ¬ ω.t (s.b i).1:=fun i o hi=>by
  obtain ⟨av,hv⟩:=some_of hi
  obtain ⟨_,_,⟨v,k1,_⟩,_⟩:=h1.hr.cell i o av hv
  refine ⟨block_lt k1,fun hc=>?_,fun ht=>?_⟩
  ·obtain ⟨j,p,a1,a2,a3,a4⟩:=hf.c _ _ hc
   obtain ⟨rfl,rfl⟩:=h.hr.inj j p i o a1 (hl.cn hi) a3 a4
   exact hi a2
  ·obtain ⟨j,e,a,a1,_,a3,a4⟩:=hf.t _ ht
   exact h.hr.apart j e i o a1 (hl.cn hi) a a3 a4
 have hωt:∀ i e a,H1.t i = some e → (s.s i).a = some a → a.block < s.w.heap.size ∧ ¬ ω.t a.block ∧ ∀ k,¬ ω.c a.block k:=fun i e a hi hia=>by
  refine ⟨?_,fun ht=>?_,fun k hc=>?_⟩
  ·rcases (h1.hr.tok i e hi).2 with h2 | ⟨g,cur,h3,h4,_⟩
   ·rw [h2] at hia; cases hia
   ·rw [h3] at hia; cases hia; exact lt_of_heap h4
  ·obtain ⟨j,f,b,a1,a2,a3,a4⟩:=hf.t _ ht
   by_cases hij:j = i
   ·subst hij; rw [a2] at hi; cases hi
   ·exact h.hr.tinj j i f e a1 (hl.t i e hi) hij b a a3 hia a4
  ·obtain ⟨j,p,a1,a2,a3,a4⟩:=hf.c _ _ hc
   exact h.hr.apart i e j p (hl.t i e hi) a1 a hia a3.symm
 have hno:∀ i o,H1.c i o ≠ none → ¬ OP (OF s.A s.w ω) s.A (s.b i).1 ((s.b i).2 + o):=fun i o hi hop=>by
  obtain ⟨k1,k2,k3⟩:=hωc i o hi
  rcases hop with (hop | hop) | ⟨hop | hop,_⟩
  ·omega
  ·exact k2 hop
  ·omega
  ·exact k3 hop
 have hnt:∀ i e a,H1.t i = some e → (s.s i).a = some a → ∀ k,¬ OP (OF s.A s.w ω) s.A a.block k:=fun i e a hi hia k hop=>by
  obtain ⟨k1,k2,k3⟩:=hωt i e a hi hia
  rcases hop with (hop | hop) | ⟨hop | hop,_⟩
  ·omega
  ·exact k3 k hop
  ·omega
  ·exact k2 hop
 have hO:∀ g o,OP (OF s.A s.w ω) s.A g o → OP O A0 g o:=fun g o hop=>by
  rcases hop with (hop | hop) | ⟨hop | hop,hA⟩
  ·exact .inl ((h.new g (Nat.le_trans h.fr.size hop)).2 o)
  ·obtain ⟨j,p,a1,a2,rfl,rfl⟩:=hf.c _ _ hop
   exact .inl (h.own j p a1)
  ·exact .inl ((h.new g (Nat.le_trans h.fr.size hop)).2 o)
  ·obtain ⟨j,e,a,a1,a2,a3,rfl⟩:=hf.t _ hop
   exact .inr ⟨h.tok j e a a1 a3,fun h0=>hA (h.sub _ _ h0).1⟩
 have hle:ω'.le O:=⟨fun g o hg=>by
   rcases ha.own.1 g o hg with hop | hop
   ·exact (h.new g (Nat.le_trans h.fr.size hop)).2 o
   ·obtain ⟨j,p,a1,a2,rfl,rfl⟩:=hf.c _ _ hop
    exact h.own j p a1,fun g hg=>by
   rcases ha.own.2 g hg with hop | hop
   ·exact (h.new g (Nat.le_trans h.fr.size hop)).1
   ·obtain ⟨j,e,a,a1,a2,a3,rfl⟩:=hf.t _ hop
    exact h.tok j e a a1 a3⟩
 have hcell:∀ i o,H1.c i o ≠ none → w'.cell? ⟨(s.b i).1,(s.b i).2 + o,none⟩ = s.w.cell? ⟨(s.b i).1,(s.b i).2 + o,none⟩ ∧ w'.frozen? ⟨(s.b i).1,(s.b i).2 + o,none⟩ = s.w.frozen? ⟨(s.b i).1,(s.b i).2 + o,none⟩:=fun i o hi=>
  ha.fr.cell _ _ (hωc i o hi).1 (hno i o hi)
 refine ⟨⟨⟨ha.low,fun i o av hi=>?_,h1.hr.inj,fun i e hi=>?_,h1.hr.apart,h1.hr.tinj⟩,h1.own,h1.tok,h.fr.trans (ha.fr.mono fun g o _=>hO g o),h.new,fun g o hg=>?_,fun g o hg=>?_⟩,hx,⟨fun i o hi=>⟨fun hc=>?_,fun ht=>?_⟩,fun i e a hi hia=>⟨fun ht=>?_,fun k hc=>?_⟩⟩,hle,fun i o hi=>(hcell i o hi).1⟩
 ·have hn:H1.c i o ≠ none:=by rw [hi]; exact fun h=>by cases h
  obtain ⟨k1,k2,⟨v,k3,k4⟩,k5,k6⟩:=h1.hr.cell i o av hi
  refine ⟨k1,k2,⟨v,(hcell i o hn).1.trans k3,k4.ext hx⟩,(hcell i o hn).2.trans k5,fun hA=>?_⟩
  rcases ha.an _ _ hA with hA | hop
  ·exact k6 hA
  ·exact hno i o hn hop
 ·obtain ⟨k1,k2⟩:=h1.hr.tok i e hi
  refine ⟨k1,k2.keep (fun a hia=>ha.fr.block _ (hωt i e a hi hia).1 (hnt i e a hi hia)) (fun a hia k _ hA=>?_)⟩
  rcases ha.an _ _ hA with hA | hop
  ·exact hA
  ·exact absurd hop (hnt i e a hi hia k)
 ·rcases ha.an g o hg with hg | hop
  ·exact h.an g o hg
  ·exact .inr (hO g o hop)
 ·obtain ⟨k1,k2⟩:=h.sub g o hg
  exact ⟨(ha.sub g o k1).1,(ha.sub g o k1).2.trans k2⟩
 ·obtain ⟨k1,k2,k3⟩:=hωc i o hi
  rcases ha.own.1 _ _ hc with hop | hop
  ·have hop:s.w.heap.size ≤ (s.b i).1:=hop
   omega
  ·exact k2 hop
 ·obtain ⟨k1,k2,k3⟩:=hωc i o hi
  rcases ha.own.2 _ ht with hop | hop
  ·have hop:s.w.heap.size ≤ (s.b i).1:=hop
   omega
  ·exact k3 hop
 ·obtain ⟨k1,k2,k3⟩:=hωt i e a hi hia
  rcases ha.own.2 _ ht with hop | hop
  ·omega
  ·exact k2 hop
 ·obtain ⟨k1,k2,k3⟩:=hωt i e a hi hia
  rcases ha.own.1 _ _ hc with hop | hop
  ·omega
  ·exact k3 k hop
theorem St.laid {P:Program} {O:Ow} {A0:Pos} {w0:World} {s s':Cx} {H H':AHeap} {ω:Ow} (h:St P O A0 w0 s H) (hr:HR P s' H') (hl:Laid s s' H H' ω) (hO:ω.le O):St P O A0 w0 s' H':=by
 refine ⟨hr,fun i o hi=>?_,fun i e a hi ha=>?_,by rw [hl.w]; exact h.fr,h.new,by rw [hl.a]; exact h.an,by rw [hl.a,hl.w]; exact h.sub⟩
 ·rcases hl.c i o hi with ⟨h1,h2⟩ | ⟨h1,h2⟩
  ·rw [hl.x.b i h1]; exact h.own i o h2
  ·exact hO.1 _ _ h2
 ·rcases hl.t i e hi with ⟨h1,h2⟩ | ⟨h1,h2⟩
  ·rw [hl.x.l i h1] at ha; exact h.tok i e a h2 ha
  ·exact hO.2 _ (h2 a ha)
theorem R1s.one {s:Cx} {avs:List AV} {rs:List Value} (h:R1s s avs rs):RS s (valA avs) (retV rs):=by
 have key:∀ {l:List AV} {vs:List Value},R1s s l vs → RT s (l.foldr .acons .anil) vs:=by
  intro l vs h
  induction h with
  | nil=>trivial
  | cons h k ih=>exact ⟨h,ih⟩
 cases h with
 | nil=>exact ⟨[],rfl,trivial⟩
 | cons h1 h2=>
  cases h2 with
  | nil=>exact RS.one h1
  | cons h3 h4=>exact ⟨_,rfl,key (.cons h1 (.cons h3 h4))⟩
theorem callSig_ok {P:Program} {O:Ow} {A0:Pos} {w0:World} {s:Cx} {H:AHeap} (h:St P O A0 w0 s H) (htab:Tab w0 O) {f:FuncId} {sg:Sig} {args:List AV} {vs:List Value} {K:AV → AHeap → Nat → Prop} {Kp:AV → AHeap → Prop} (hv:RSs s args vs) (hc:callSig P f sg args H s.n K Kp) :
  enters P f = true ∧ ∃ H1,H1.le H ∧ (∀ M:Nat → Nat → Bool,hotL M sg.ps args = true → ∀ i q,H.c i q ≠ none → H1.c i q = none → M i q = true) ∧ Calls P f vs.toArray s.w fun e w'=>match e with
   | .returned v=>∃ s' av H',K av H' s'.n ∧ s'.w = w' ∧ Ext s s' ∧ St P O A0 w0 s' H' ∧ RS s' av v ∧ ∀ i o,H1.c i o ≠ none → H'.c i o ≠ none ∧ w'.cell? ⟨(s.b i).1,(s.b i).2 + o,none⟩ = s.w.cell? ⟨(s.b i).1,(s.b i).2 + o,none⟩
   | .panicked ch=>∃ s' p u,Kp p H1 ∧ ch = [{ v:=u,recovered:=false }] ∧ s'.w = w' ∧ Ext s s' ∧ St P O A0 w0 s' H1 ∧ RS s' p u
   | .outgrown=>False:=by
 obtain ⟨x,H1,ω,h1,h2,h3,h4,hhot⟩:=takeL_ok sg.ps h.hr hv hc
 obtain ⟨Q,Qp,⟨hen,hpc⟩,hk,hkp⟩:=h1
 refine ⟨hen,H1,h2,hhot,Calls.mono (hpc s.A s.w vs ω h3 h.hr.low ⟨GOk.fr htab h.fr,fun g o hg=>by obtain ⟨i,p,a1,_,rfl,rfl⟩:=h4.c g o hg; exact htab.c _ _ (h.own i p a1),fun g hg=>by obtain ⟨i,e,a,a1,_,a3,rfl⟩:=h4.t g hg; exact htab.t _ (h.tok i e a a1 a3)⟩) fun e w' he=>?_⟩
 cases e with
 | outgrown=>exact he
 | returned v=>
  obtain ⟨A',y,z,rs,ω1,ω2,hq,rfl,k1,k2,k3,k4⟩:=he
  obtain ⟨m1,m2,m3,m4,m5⟩:=h.after h2 h4 k4
  have hlay:=hk y z hq
  obtain ⟨s2,avs,H2,n1,n2,n3,n4⟩:=layL_ok (s:={ s with A:=A',w:=w' }) sg.res k1 m1.hr (m3.mono (.left _ _)) hlay
  have m6:=m1.laid n2 n4 ((Ow.le.left _ _).trans m4)
  obtain ⟨s3,H3,p1,p2,p3⟩:=putL_ok sg.out (k2.at n4.a n4.w) (hv.ext (m2.trans n4.x)) n2 (n4.out m1.hr (m3.mono (.right _ _)) k3) n1
  refine ⟨s3,valA avs,H3,p1,p3.w.trans n4.w,(m2.trans n4.x).trans p3.x,m6.laid p2 p3 ((Ow.le.right _ _).trans m4),(n3.ext p3.x).one,fun i o hi=>⟨?_,m5 i o hi⟩⟩
  have q1:=n4.old i o hi
  rw [p3.old i o (by rw [q1]; exact hi),q1]; exact hi
 | panicked ch=>
  obtain ⟨A',t,p,u,hq,rfl,k1,k2,k3⟩:=he
  obtain ⟨m1,m2,m3,m4,m5⟩:=h.after h2 h4 k3
  have hx:Ext ⟨A',w',fun _=>(0,0),fun _=>⟨none,0,0⟩,0⟩ { s with A:=A',w:=w' }:=⟨fun g o hg=>⟨hg,rfl⟩,fun i hi=>absurd hi (Nat.not_lt_zero i),fun i hi=>absurd hi (Nat.not_lt_zero i),Nat.zero_le _⟩
  obtain ⟨us,r1,r2⟩:=(k1.ext hx).val k2
  exact ⟨_,_,_,hkp _ hq,rfl,rfl,m2,m1,RS.one ⟨[.iface t u],⟨us,u,r1,r2,rfl⟩,by rw [pack_one rfl]⟩⟩
end Go.Proofs.YtpifnlfmojfgpaaGreatDoor.Pw
end
section
namespace Go.Proofs.YtpifnlfmojfgpaaGreatDoor.Pw
open Fw RowKit
theorem toPv_val {t:PT} {av:AV} {K:t.den → Prop} (h:toPv t av K):av.val = true:=by
 cases av <;> first | rfl | skip
 all_goals (cases t <;> (simp only [toPv] at h))
theorem allPv_ok {s:Cx} {t:PT}:∀ {avs:List AV} {us:List Value} {K:List t.den → Prop},RSs s avs us → allPv t avs K →
  ∃ xs,K xs ∧ xs.length = us.length ∧ (∀ v ∈ us,v.cells.size = t.sz) ∧ (us.flatMap fun v=>v.cells.toList).length = us.length * t.sz ∧
   ∀ (i:Nat) x,xs[i]? = some x → Rp s.A s.w t x (((us.flatMap fun v=>v.cells.toList).drop (i * t.sz)).take t.sz)
 | [],us,K,hu,h=>by
  cases hu
  exact ⟨[],h,rfl,fun v hv=>by simp at hv,by simp,fun i x hx=>by simp at hx⟩
 | av :: avs,us,K,hu,h=>by
  cases hu with
  | cons h1 h2=>
   simp only [allPv] at h
   have hv:=(h1.val (toPv_val h)).cells
   obtain ⟨x,h3,h4⟩:=toPv_ok t h hv
   obtain ⟨xs,k1,k2,k3,k4,k5⟩:=allPv_ok h2 h3
   rename_i v us
   have hl:=h4.len
   refine ⟨x :: xs,k1,by simp [k2],fun u hu=>?_,?_,fun i y hy=>?_⟩
   ·rcases List.mem_cons.1 hu with rfl | hu
    ·rw [← Array.length_toList]; exact hl
    ·exact k3 u hu
   ·rw [List.flatMap_cons,List.length_append,k4,hl,List.length_cons,Nat.add_mul]; omega
   ·rw [List.flatMap_cons]
    cases i with
    | zero=>
     simp only [List.getElem?_cons_zero,Option.some.injEq] at hy; subst hy
     rw [Nat.zero_mul,List.drop_zero,← hl,List.take_left']
     ·exact h4
     ·rfl
    | succ i=>
     rw [Nat.add_mul,Nat.one_mul,Nat.add_comm,← hl,drop_app,hl]
     exact k5 i y (by simpa using hy)
theorem fill_seq {sz:Nat}:∀ (parts:List (Nat × Value)) (k:Nat) (cs:Array Value),parts.map (·.1) = List.range' k parts.length → (∀ p ∈ parts,p.2.cells.size = sz) → (k + parts.length) * sz ≤ cs.size →
  ∃ c,Instr.fill (fun i=>some (i * sz,sz)) cs parts = some c ∧ c.size = cs.size ∧ c.toList = cs.toList.take (k * sz) ++ (parts.flatMap fun p=>p.2.cells.toList) ++ cs.toList.drop ((k + parts.length) * sz)
 | [],k,cs,_,_,h=>⟨cs,rfl,rfl,by simp⟩
 | (i,v) :: parts,k,cs,hi,hs,h=>by
  simp only [List.map_cons,List.length_cons,List.range'_succ,List.cons.injEq] at hi
  obtain ⟨rfl,hi⟩:=hi
  have hv:=hs (i,v) (by simp)
  simp only at hv
  have hfit:i * sz + v.cells.size ≤ cs.size:=by
   rw [hv]
   have:(i + 1) * sz ≤ (i + (parts.length + 1)) * sz:=Nat.mul_le_mul_right _ (by omega)
   rw [Nat.add_mul,Nat.one_mul] at this
   exact Nat.le_trans this (by simpa using h)
  have hfold:=zipIdx_fold v.cells (i * sz) cs hfit
  obtain ⟨c,h1,h2,h3⟩:=fill_seq parts (i + 1) ((v.cells.zipIdx).foldl (fun (cs:Array Value) (p:Value × Nat)=>cs.setIfInBounds (i * sz + p.2) p.1) cs) hi (fun p hp=>hs p (by simp [hp])) (by
   rw [← Array.length_toList,hfold]
   simp only [List.length_append,List.length_take,List.length_drop,Array.length_toList]
   simp only [List.length_cons] at h
   rw [show i + 1 + parts.length = i + (parts.length + 1) by omega]
   omega)
  refine ⟨c,?_,?_,?_⟩
  ·rw [← h1]
   simp only [Instr.fill]
   rw [if_neg (by simp; omega)]
  ·rw [h2,← Array.length_toList,hfold]
   simp only [List.length_append,List.length_take,List.length_drop,Array.length_toList]
   omega
  ·rw [h3,hfold,List.flatMap_cons]
   have hvl:v.cells.toList.length = sz:=by rw [Array.length_toList]; exact hv
   have htl:(cs.toList.take (i * sz)).length = i * sz:=by rw [List.length_take,Array.length_toList]; omega
   have e1:(i + 1) * sz = (cs.toList.take (i * sz) ++ v.cells.toList).length:=by rw [List.length_append,htl,hvl,Nat.add_mul,Nat.one_mul]
   have t1:(cs.toList.take (i * sz) ++ v.cells.toList ++ cs.toList.drop (i * sz + v.cells.toList.length)).take ((i + 1) * sz) = cs.toList.take (i * sz) ++ v.cells.toList:=by rw [e1]; exact List.take_left
   have t2:(cs.toList.take (i * sz) ++ v.cells.toList ++ cs.toList.drop (i * sz + v.cells.toList.length)).drop ((i + 1 + parts.length) * sz) = cs.toList.drop ((i + (parts.length + 1)) * sz):=by
    rw [show (i + 1 + parts.length) * sz = (cs.toList.take (i * sz) ++ v.cells.toList).length + parts.length * sz by rw [← e1,Nat.add_mul (i + 1)],drop_app,List.drop_drop,hvl]
    congr 1
    rw [Nat.add_mul i,Nat.add_mul parts.length]; omega
   rw [t1,t2]
   simp
end Go.Proofs.YtpifnlfmojfgpaaGreatDoor.Pw
end
section
namespace Go.Proofs.YtpifnlfmojfgpaaGreatDoor.Pw
open Fw RowKit
def Keep (s:Cx) (H:AHeap) (M:Nat → Nat → Bool) (H':AHeap) (w':World):Prop:=
 ∀ i o,H.c i o ≠ none → M i o = false → H'.c i o ≠ none ∧ w'.cell? ⟨(s.b i).1,(s.b i).2 + o,none⟩ = s.w.cell? ⟨(s.b i).1,(s.b i).2 + o,none⟩
def StepN (P:Program) (O:Ow) (A0:Pos) (w0:World) (s:Cx) (H:AHeap) (M:Nat → Nat → Bool) (bar:Bool) (K:AV → AHeap → Nat → Prop) (v:Value) (w':World):Prop:=
 ∃ s' av H',K av H' s'.n ∧ s'.w = w' ∧ Ext s s' ∧ St P O A0 w0 s' H' ∧ RS s' av v ∧ (bar = false → Keep s H M H' w')
def StepP (P:Program) (O:Ow) (A0:Pos) (w0:World) (s:Cx) (Kp:AV → AHeap → Prop) (ch:List PanicEntry) (w':World):Prop:=
 ∃ s' p u H',Kp p H' ∧ ch = [{ v:=u,recovered:=false }] ∧ s'.w = w' ∧ Ext s s' ∧ St P O A0 w0 s' H' ∧ RS s' p u
def CallOk (P:Program) (call:CallH) (O:Ow) (A0:Pos) (w0:World):Prop:=∀ {M:Nat → Nat → Bool} {bar:Bool} {f:FuncId} {args:List AV} {H:AHeap} {K:AV → AHeap → Nat → Prop} {Kp:AV → AHeap → Prop} {s:Cx},
 call M bar f args H s.n K Kp → St P O A0 w0 s H → ∀ vs,RSs s args vs → enters P f = true ∧ Calls P f vs.toArray s.w fun e w'=>match e with
  | .returned v=>StepN P O A0 w0 s H M bar K v w'
  | .panicked ch=>StepP P O A0 w0 s Kp ch w'
  | .outgrown=>False
def callC (P:Program) (sig:FuncId → Option Sig):CallH:=fun M bar f args H n K Kp=>
 match sig f with
 | some sg=>bif bar || hotL M sg.ps args then callSig P f sg args H n K Kp else False
 | none=>False
theorem callC_ok (P:Program) (sig:FuncId → Option Sig) {O:Ow} {A0:Pos} {w0:World} (htab:Tab w0 O):CallOk P (callC P sig) O A0 w0:=by
 intro M bar f args H K Kp s h hs vs hv
 unfold callC at h
 split at h
 ·rename_i sg _
  cases hb:(bar || hotL M sg.ps args) with
  | false=>rw [hb] at h; exact h.elim
  | true=>
   rw [hb] at h
   obtain ⟨h1,H1,h2,h3,h4⟩:=callSig_ok hs htab hv h
   refine ⟨h1,Calls.mono h4 fun e w' he=>?_⟩
   cases e with
   | outgrown=>exact he
   | returned v=>
    obtain ⟨s',av,H',k1,k2,k3,k4,k5,k6⟩:=he
    refine ⟨s',av,H',k1,k2,k3,k4,k5,fun hbar i o hi hM=>?_⟩
    rw [hbar,Bool.false_or] at hb
    refine k6 i o fun hn=>?_
    have:=h3 M hb i o hi hn
    rw [hM] at this; cases this
   | panicked ch=>
    obtain ⟨s',p,u,k1,k2,k3,k4,k5,k6⟩:=he
    exact ⟨s',p,u,H1,k1,k2,k3,k4,k5,k6⟩
 ·exact h.elim
theorem rss_map {s:Cx} {E:AEnv} {e:Env} (hE:∀ d,RS s (E d) (e d)):∀ (l:List Operand),RSs s (l.map (evA E)) (l.map (ev e))
 | []=>.nil
 | x :: l=>.cons (evA_ok hE x) (rss_map hE l)
theorem rss_cells {s:Cx}:∀ {avs:List AV} {vs:List Value},CellsOk s avs vs → RSs s avs vs
 | [],vs,h=>by rw [List.eq_nil_of_length_eq_zero h.1]; exact .nil
 | a :: avs,vs,h=>by
  cases vs with
  | nil=>exact absurd h.1 (by simp)
  | cons v vs=>
   obtain ⟨h0,u,h1,h2⟩:=h.2 0 a rfl
   simp only [List.getElem?_cons_zero,Option.some.injEq] at h1; subst h1
   exact .cons (RS.one ⟨[v],h2,by rw [pack_one h0]⟩) (rss_cells ⟨by simpa using h.1,fun j av hj=>by simpa using h.2 (j + 1) av (by simpa using hj)⟩)
theorem rss_app {s:Cx}:∀ {a b:List AV} {us vs:List Value},RSs s a us → RSs s b vs → RSs s (a ++ b) (us ++ vs)
 | _,_,_,_,.nil,k=>k
 | _,_,_,_,.cons h1 h2,k=>.cons h1 (rss_app h2 k)
theorem run_storeVar {P:Program} {w w':World} {t:TypeId} {a:Addr} {v:Value} (hs:sizeP P t = v.cells.size) (hi:(P.info? t).isSome = true) (h:(storeCells a v.cells.toList 0).run P w = .ok () w'):(storeVar t a v).run P w = .ok () w':=by
 unfold storeVar
 simp [Sem.run_bind,run_sizeOf_some hi,hs,h]
theorem slElem_of {P:Program} {t el:TypeId} (h:slElem P t = some el):P.underlying t = some (.slice el):=by
 unfold slElem at h
 split at h
 ·rename_i e hu; simp only [Option.some.injEq] at h; subst h; exact hu
 ·cases h
theorem keep_setL {s:Cx} {H:AHeap} {M:Nat → Nat → Bool} {id o:Nat} {avs:List AV} {w':World} (h:∀ i p,H.c i p ≠ none → (¬ (i = id ∧ o ≤ p ∧ p < o + avs.length)) → w'.cell? ⟨(s.b i).1,(s.b i).2 + p,none⟩ = s.w.cell? ⟨(s.b i).1,(s.b i).2 + p,none⟩)
  (hM:∀ j,j < avs.length → M id (o + j) = true ∨ H.c id (o + j) = none):Keep s H M (H.setL id o avs) w':=fun i p hi hm=>by
 have hn:¬ (i = id ∧ o ≤ p ∧ p < o + avs.length):=fun hq=>by
  rcases hM (p - o) (by omega) with h1 | h1
  ·rw [show o + (p - o) = p by omega,← hq.1,hm] at h1; cases h1
  ·rw [show o + (p - o) = p by omega,← hq.1] at h1; exact hi h1
 exact ⟨by rw [setL_c,if_neg hn]; exact hi,h i p hi hn⟩
theorem toLs_one {e:TypeId} {t:PT} {av:AV} {H:AHeap} {K:List t.den → AHeap → Prop} (h:toLs e t av H K):av.val = true ∧ av.isAgg = false:=by
 unfold toLs at h
 split at h
 ·exact ⟨rfl,rfl⟩
 ·exact ⟨rfl,rfl⟩
 ·exact h.elim
theorem toPv_lst {e:PT} {av:AV} {K:List e.den → Prop} (h:toPv (.lst e) av K):av.isAgg = false:=by
 cases av <;> first | rfl | skip
 case pv u x=>
  simp only [toPv] at h
  split at h
  ·rename_i he _; subst he; rfl
  ·exact h.elim
 all_goals (simp only [toPv] at h)
theorem RS.single {s:Cx} {av:AV} {v:Value} (h:RS s av v) (h1:av.val = true) (h2:av.isAgg = false):RV s av [v]:=by
 obtain ⟨vs,k1,k2⟩:=h.val h1
 rw [pack_one h2] at k2
 rw [← k2]; exact k1
theorem opW_ok {P:Program} {call:CallH} {O:Ow} {A0:Pos} {w0:World} (hcall:CallOk P call O A0 w0) {s:Cx} {H:AHeap} (h:St P O A0 w0 s H) {M:Nat → Nat → Bool} {bar:Bool} {E:AEnv} {e:Env} (hE:∀ d,RS s (E d) (e d)) {o:Oper}
  {K:AV → AHeap → Nat → Prop} {Kp:AV → AHeap → Prop} (ho:opW P M bar call o E H s.n K Kp) :
  Good P (StepN P O A0 w0 s H M bar K) (StepP P O A0 w0 s Kp) ((execOp (ev e) o).run P s.w):=by
 obtain ⟨dst,op,ty,pos,after,guard⟩:=o
 have hnew:∀ i p,H.c i p ≠ none → i ≠ s.n:=fun i p hi he=>by
  obtain ⟨av,hv⟩:=some_of hi
  have:=(h.hr.cell i p av hv).1
  omega
 have keepNew:∀ (avs:List AV) (cs:Array Value) (t:TypeId),Keep s H M (H.setL s.n 0 avs) (s.w.alloc (.cells cs t)):=fun avs cs t=>
  keep_setL (fun i p hi _=>h.hr.keepN (Chg.alloc _ _) i p hi) (fun j hj=>.inr (by
   cases hv:H.c s.n (0 + j) with
   | none=>rfl
   | some av=>exact absurd rfl (hnew s.n (0 + j) (by rw [hv]; exact fun h=>by cases h))))
 cases op <;> simp only [opW] at ho <;> first | exact ho.elim | skip
 all_goals simp only [execOp]
 case alloc t=>
  split at ho
  ·rename_i z hz
   obtain ⟨v,h1,h2,h3,h4⟩:=zeroA_ok (s:=s) hz
   obtain ⟨k1,k2,k3⟩:=h.push (t:=t) h2.flat
   refine good_value (w':=s.w.alloc (.cells v.cells t)) (v:=.pointer (some ⟨s.w.heap.size,0,none⟩)) (by simp [Instr.alloc,run_zeroValue_some h1,newVar,newRow,newObj,Sem.run]) ?_
   exact ⟨_,_,_,ho,rfl,k2,k1,k3,fun _=>keepNew _ _ _⟩
  ·exact ho.elim
 case box t x=>
  cases hb:(evA E x).val with
  | false=>rw [hb] at ho; exact ho.elim
  | true=>
   rw [hb] at ho
   simp only [cond_true] at ho
   have hx:=((evA_ok hE x).val hb).cells
   obtain ⟨k1,k2,k3⟩:=h.push (t:=t) hx.flat
   refine good_value (w':=s.w.alloc (.cells (ev e x).cells t)) (v:=.pointer (some ⟨s.w.heap.size,0,none⟩)) (by simp [Instr.box,newVar,newRow,newObj,Sem.run]) ?_
   exact ⟨_,_,_,ho,rfl,k2,k1,k3,fun _=>keepNew _ _ _⟩
 case store t x y=>
  split at ho
  ·rename_i id off hx
   have hp:=evA_ok hE x
   rw [hx] at hp
   obtain ⟨hid,he⟩:=hp.adr
   rw [he]
   cases hb:((evA E y).val && (P.info? t).isSome && Nat.beq (sizeP P t) (evA E y).cells.length && (List.range (evA E y).cells.length).all (fun j=>(H.c id (off + j)).isSome) && storesOk M bar id off (evA E y).cells.length) with
   | false=>rw [hb] at ho; exact ho.elim
   | true=>
    rw [hb] at ho
    simp only [cond_true] at ho
    simp only [Bool.and_eq_true,List.all_eq_true,List.mem_range] at hb
    obtain ⟨⟨⟨⟨b1,b2⟩,b3⟩,b4⟩,b5⟩:=hb
    have hy:=((evA_ok hE y).val b1).cells
    have hfl:=hy.flat
    have hl:=hfl.1
    have b3:=Nat.eq_of_beq_eq_true b3
    obtain ⟨k1,k2,k3,k4,k5⟩:=h.store hfl (fun j hj hn=>by have:=b4 j hj; rw [hn] at this; cases this)
    have hrun:(storeCells ⟨(s.b id).1,(s.b id).2 + off,none⟩ (ev e y).cells.toList 0).run P s.w = .ok () (s.w.setCells (s.b id).1 ((s.b id).2 + off) (ev e y).cells.toList):=by
     have:=run_storeCells_cells (P:=P) (s.b id).1 ((s.b id).2 + off) (ev e y).cells.toList 0 s.w (fun j hj=>by obtain ⟨v,hv⟩:=k3 j hj; rw [Nat.add_zero,hv]; rfl) (fun j hj=>by rw [Nat.add_zero]; exact k4 j hj) (fun v hv=>hy.oneCell v hv)
     simpa using this
    have hsv:(storeVar t ⟨(s.b id).1,(s.b id).2 + off,none⟩ (ev e y)).run P s.w = .ok () (s.w.setCells (s.b id).1 ((s.b id).2 + off) (ev e y).cells.toList):=run_storeVar (by rw [b3,← hl,Array.length_toList]) b2 hrun
    have hgo:(do Instr.storeAt t (.pointer (some ⟨(s.b id).1,(s.b id).2 + off,none⟩)) (ev e y); pure .skip:Sem Next).run P s.w = .ok .skip (s.w.setCells (s.b id).1 ((s.b id).2 + off) (ev e y).cells.toList):=by simp [Instr.storeAt,Instr.sureAddr,hsv]
    rw [hgo]
    refine ⟨s.wr (s.w.setCells (s.b id).1 ((s.b id).2 + off) (ev e y).cells.toList),.top,_,ho,rfl,k2,k1,trivial,fun hbar=>keep_setL k5 fun j hj=>?_⟩
    unfold storesOk at b5
    rw [hbar,Bool.false_or,List.all_eq_true] at b5
    exact .inl (b5 j (List.mem_range.2 hj))
  ·exact ho.elim
 case buildSlice t len ps=>
  split at ho
  ·rename_i el hel
   have hu:=slElem_of hel
   obtain ⟨xs,k1,k2,k3,k4,k5⟩:=allPv_ok (us:=ps.toList.map fun p=>ev e p.2) (by
    have:=rss_map hE (ps.toList.map (·.2))
    rw [List.map_map,List.map_map] at this; exact this) ho
   cases hb:(slOk P t el (ptOf P 8 el).sz 2048 && Nat.blt 0 (ptOf P 8 el).sz && Nat.beq len ps.size && (ps.toList.map (·.1) == List.range len) && Nat.ble (len * sizeP P el) 16777216) with
   | false=>rw [hb] at k1; exact k1.elim
   | true=>
    rw [hb] at k1
    simp only [cond_true] at k1
    simp only [Bool.and_eq_true] at hb
    obtain ⟨⟨⟨⟨b1,b0⟩,b2⟩,b3⟩,b4⟩:=hb
    have b0:0 < (ptOf P 8 el).sz:=by simpa using b0
    have b2:=Nat.eq_of_beq_eq_true b2
    have b3:ps.toList.map (·.1) = List.range len:=by simpa using b3
    have b4:=Nat.le_of_ble_eq_true b4
    obtain ⟨i,z,c1,c2,c3,c4,c5,c6⟩:=slOk_spec b1
    have hsz:sizeP P el = (ptOf P 8 el).sz:=by unfold sizeP; rw [c2]; exact c3
    have hzo:zeroOf P el = some z:=by unfold zeroOf; rw [c2]; exact c5
    have hlen:ps.toList.length = len:=by rw [Array.length_toList]; exact b2.symm
    obtain ⟨c,f1,f2,f3⟩:=fill_seq (sz:=sizeP P el) (ps.toList.map fun p=>(p.1,ev e p.2)) 0 ((Array.range (len * sizeP P el)).map (z.cells[· % z.cells.size]!)) (by
      rw [List.map_map,List.length_map,hlen,← List.range_eq_range',← b3]; rfl) (fun p hp=>by
      obtain ⟨q,hq,rfl⟩:=List.mem_map.1 hp
      rw [hsz]; exact k3 _ (List.mem_map.2 ⟨q,hq,rfl⟩)) (by rw [List.length_map,hlen]; simp)
    have hcl:c.toList = (ps.toList.map fun p=>ev e p.2).flatMap fun v=>v.cells.toList:=by
     rw [f3,List.length_map,hlen,Nat.zero_add,Nat.zero_mul,List.take_zero,List.nil_append,List.drop_of_length_le (by simp),List.append_nil,List.flatMap_map,List.flatMap_map]
    have hbv:buildSliceV P t len (ps.map fun (i,x)=>(i,ev e x)) = some (el,c):=by
     unfold buildSliceV
     rw [hu]
     dsimp only
     rw [hzo]
     dsimp only
     have:((P.info? el).isSome && Nat.ble (len * sizeP P el) 16777216) = true:=by rw [c2,Nat.ble_eq_true_of_le b4]; rfl
     rw [this]
     simp only [cond_true]
     rw [Array.toList_map,f1]; rfl
    have hcs:c.size = len * sizeP P el:=by rw [f2]; simp
    obtain ⟨s',m1,m2,m3,m4,m5,m6⟩:=h.newTok (w1:=s.w) rfl rfl rfl rfl (n:=len) (c:=len) (e:=el) (cur:=c) (t:=ptOf P 8 el) (xs:=xs) (Nat.le_refl _) (by
      have:maxLen = 9223372036854775807:=rfl
      have:len * 1 ≤ len * sizeP P el:=Nat.mul_le_mul_left _ (by omega)
      omega) hcs hsz (by rw [k2,List.length_map,hlen]) (fun i x hi=>by
      have ht:List.take (len * (ptOf P 8 el).sz) ((ps.toList.map fun p=>ev e p.2).flatMap fun v=>v.cells.toList) = (ps.toList.map fun p=>ev e p.2).flatMap fun v=>v.cells.toList:=List.take_of_length_le (by rw [k4,List.length_map,hlen]; exact Nat.le_refl _)
      rw [hcl,ht]
      exact k5 i x hi)
    refine good_value (w':=s.w.alloc (.cells c el)) (Fw.run_buildSlice hbv) ?_
    exact ⟨s',_,_,by rw [m2]; exact k1,m1,m5,m4,m6,fun _ i o hi _=>⟨hi,h.hr.keepN (Chg.alloc _ _) i o hi⟩⟩
  ·exact ho.elim
 case convert sr d x=>
  split at ho
  ·rename_i b hx
   have hp:=evA_ok hE x
   rw [hx] at hp
   obtain ⟨vs,⟨bb,rfl,hb1,hb2⟩,hpk⟩:=hp.val rfl
   rw [pack_one rfl] at hpk
   have hpk:Value.string bb = ev e x:=by simpa using hpk
   rw [← hpk]
   cases hb:(isStrT P sr && okBytes P d) with
   | false=>rw [hb] at ho; exact ho.elim
   | true=>
    rw [hb] at ho
    simp only [cond_true] at ho
    simp only [Bool.and_eq_true] at hb
    obtain ⟨el,he1,he2⟩:=okBytes_spec hb.2
    have hb1:bb.data.toList = b:=hb1
    have hsz:bb.size = b.length:=by rw [← hb1,Array.length_toList]; rfl
    have hb2:b.length ≤ 4611686018427387904:=hb2
    have hrun:=run_bytes_of_string (P:=P) s.w sr d el bb (isStrT_spec hb.1) he1 he2
    have hc1:bb.size ≤ grownCap s.w bb.size 0 el:=grownCap_ge _ _ _ _
    have hc2:grownCap s.w bb.size 0 el ≤ maxLen:=grownCap_le_maxLen _ _ _ _ (by have:maxLen = 9223372036854775807:=rfl; omega)
    obtain ⟨cap,hcap⟩:∃ cap,cap = grownCap s.w bb.size 0 el:=⟨_,rfl⟩
    rw [← hcap] at hrun hc1 hc2
    obtain ⟨w',hw'⟩:∃ w',w' = s.w.drew.alloc (.cells (bytesRow bb cap) el ((bytesRow bb cap).size,(bytesRow bb cap).size + 1)):=⟨_,rfl⟩
    rw [← hw'] at hrun
    have hchg:Chg Nil s.w w':=by rw [hw']; exact (Chg.drew s.w).then (Chg.alloc _ _)
    have hblk:w'.heap[s.w.heap.size]? = some (.cells (bytesRow bb cap) el ((bytesRow bb cap).size,(bytesRow bb cap).size + 1)):=by rw [hw']; exact heap_alloc_new _ _
    have hws:w'.heap.size = s.w.heap.size + 1:=by rw [hw']; simp
    have ha:After s.A s.w .no (fun g o=>s.A g o ∨ g = s.w.heap.size) w' .no:=⟨Fr.of_chg (S:=Nil) hchg (fun _ _ h=>h.elim),fun g o hg=>⟨.inl hg,World.cell?_of_block (hchg.block g (h.hr.low g o hg) fun h=>h)⟩,fun g o hg=>hg.elim .inl fun hg=>.inr (.inl (.inl (by omega))),fun g o hg=>hg.elim (fun hA=>Nat.lt_of_lt_of_le (h.hr.low g o hA) hchg.size) (fun h=>by omega),⟨fun _ _ h=>h.elim,fun _ h=>h.elim⟩⟩
    obtain ⟨m1,m2,_,_,m5⟩:=h.after (AHeap.le.refl H) (Ow.from.no s H H) ha
    refine good_value hrun ⟨{ s with A:=fun g o=>s.A g o ∨ g = s.w.heap.size,w:=w' },_,_,ho,rfl,m2,m1,?_,fun _ i o hi _=>⟨hi,m5 i o hi⟩⟩
    refine RS.one ⟨[.slice (some ⟨s.w.heap.size,0,none⟩) bb.size cap],⟨some ⟨s.w.heap.size,0,none⟩,bb.size,cap,rfl,by rw [List.length_map]; exact hsz,hc1,hc2,fun i y hy=>?_⟩,by rw [pack_one rfl]⟩
    rw [List.getElem?_map,Option.map_eq_some_iff] at hy
    obtain ⟨c,hc,rfl⟩:=hy
    refine ⟨s.w.heap.size,0,[.int .u8 (c.toNat:Int)],rfl,rfl,fun j v hv=>?_⟩
    cases j with
    | succ j=>simp at hv
    | zero=>
     simp only [List.getElem?_cons_zero,Option.some.injEq] at hv
     subst hv
     refine ⟨.inr rfl,?_⟩
     have hcell:=cell_of_row w' s.w.heap.size (0 + i * 1 + 0) (bytesRow bb cap) el _ hblk
     rw [show PT.sz (.int .u8) = 1 from rfl,hcell]
     have hi:i < b.length:=(List.getElem?_eq_some_iff.1 hc).1
     have hd:bb.data[i]? = some c:=by rw [← Array.getElem?_toList,hb1]; exact hc
     have hbs:i < bb.data.size:=by have:bb.data.size = bb.size:=rfl; omega
     unfold bytesRow
     rw [show 0 + i * 1 + 0 = i by omega,Array.getElem?_append_left (by simpa using hbs),Array.getElem?_map,hd]
     rfl
  ·exact ho.elim
 case panic x=>
  have hx:=evA_ok hE x
  split at ho
  ·rename_i t v hv
   rw [hv] at hx
   have hx':=hx
   obtain ⟨vs,⟨us,u,r1,r2,r3⟩,r4⟩:=hx.val rfl
   rw [pack_one rfl,r3] at r4
   have r4:(.iface t u:Value) = ev e x:=by simpa using r4
   rw [← r4]
   rw [← r4] at hx'
   simp only [Instr.panic,goPanic,Sem.run,Good]
   exact ⟨s,_,_,H,ho,rfl,rfl,.refl s,h,hx'⟩
  ·exact ho.elim
 case makeSlice t l c=>
  split at ho
  ·rename_i el hel
   split at ho
   ·rename_i z hz
    obtain ⟨zv,h1,h2,h3,h4⟩:=zeroA_ok (s:=s) hz
    obtain ⟨x,ho,hx⟩:=toPv_ok (ptOf P 8 el) ho h2
    cases hb:(slOk P t el (ptOf P 8 el).sz 2048 && Nat.blt 0 (ptOf P 8 el).sz) with
    | false=>rw [hb] at ho; exact ho.elim
    | true=>
     rw [hb] at ho
     simp only [cond_true] at ho
     simp only [Bool.and_eq_true] at hb
     have b0:0 < (ptOf P 8 el).sz:=by simpa using hb.2
     obtain ⟨i,z',c1,c2,c3,c4,c5,c6⟩:=slOk_spec hb.1
     have hsz:sizeP P el = (ptOf P 8 el).sz:=by unfold sizeP; rw [c2]; exact c3
     have hzz:zv = z':=by
      unfold zeroOf at h1
      rw [c2] at h1
      simp only [Option.bind_some] at h1
      rw [c5] at h1; exact (Option.some.inj h1).symm
     subst hzz
     obtain ⟨k,m,e1,ho⟩:=intA_ok (evA_ok hE l) ho
     obtain ⟨k',m',e2,hmm,ho⟩:=intA_ok (evA_ok hE c) ho
     subst hmm
     rw [e1,e2]
     have hm0:=ho.h0
     have hm1:=ho.h1
     obtain ⟨n,rfl⟩:∃ n:Nat,m' = (n:Int):=⟨m'.toNat,(Int.toNat_of_nonneg hm0).symm⟩
     have hbytes:i.bytes * n ≤ 281474976710656:=by
      have:i.bytes * n ≤ 2048 * 68719476736:=Nat.mul_le_mul c4 (by omega)
      omega
     have hmax:n ≤ maxLen:=by have:maxLen = 9223372036854775807:=rfl; omega
     have hr:=run_make (P:=P) s.w t el i zv c1 c2 c5 k k' n n (by omega) (Int.le_refl _) (by
      have:((i.bytes * n:Nat):Int) ≤ 281474976710656:=by omega
      rwa [Int.natCast_mul] at this) (by omega)
     simp only [Int.toNat_natCast] at hr
     have hzs:zv.cells.toList.length = (ptOf P 8 el).sz:=hx.len
     have hmade:∀ j,j < n → (((madeCells zv.cells (n * i.size)).toList.drop (j * (ptOf P 8 el).sz)).take (ptOf P 8 el).sz) = zv.cells.toList:=fun j hj=>by
      apply List.ext_getElem?
      intro q
      by_cases hq:q < (ptOf P 8 el).sz
      ·have hlt:j * (ptOf P 8 el).sz + q < n * i.size:=by
        have:(j + 1) * (ptOf P 8 el).sz ≤ n * (ptOf P 8 el).sz:=Nat.mul_le_mul_right _ hj
        rw [Nat.add_mul,Nat.one_mul] at this
        rw [c3]; omega
       have hmod:(j * (ptOf P 8 el).sz + q) % zv.cells.size = q:=by
        rw [c6,Nat.mul_comm,Nat.mul_add_mod,Nat.mod_eq_of_lt hq]
       rw [List.getElem?_take,if_pos hq,List.getElem?_drop,Array.getElem?_toList,Array.getElem?_toList]
       have hqz:q < zv.cells.size:=by rw [c6]; exact hq
       simp only [madeCells,Array.getElem?_map,Array.getElem?_range,hlt,if_true,Option.map_some,hmod]
       rw [Array.getElem?_eq_getElem hqz,getElem!_pos zv.cells q hqz]
      ·rw [List.getElem?_eq_none (by rw [List.length_take]; omega),List.getElem?_eq_none (by omega)]
     have hcs:(madeCells zv.cells (n * i.size)).size = n * sizeP P el:=by rw [size_madeCells,hsz,c3]
     obtain ⟨s',m1,m2,m3,m4,m5,m6⟩:=h.newTok (w1:=s.w) rfl rfl rfl rfl (n:=n) (c:=n) (e:=el) (cur:=madeCells zv.cells (n * i.size)) (t:=ptOf P 8 el) (xs:=List.replicate n x) (Nat.le_refl _) hmax hcs hsz (by simp) (fun j y hj=>by
      have hjn:j < n:=by have:=(List.getElem?_eq_some_iff.1 hj).1; simpa using this
      rw [List.getElem?_replicate,if_pos hjn] at hj
      cases hj
      have ht:List.take (n * (ptOf P 8 el).sz) (madeCells zv.cells (n * i.size)).toList = (madeCells zv.cells (n * i.size)).toList:=List.take_of_length_le (by rw [Array.length_toList,hcs,hsz]; exact Nat.le_refl _)
      rw [ht,hmade j hjn]; exact hx)
     have hk:=ho.k
     simp only [Int.toNat_natCast] at hk
     refine good_value hr ⟨s',_,_,by rw [m2]; exact hk,m1,m5,m4,m6,fun _ i o hi _=>⟨hi,h.hr.keepN (Chg.alloc _ _) i o hi⟩⟩
   ·exact ho.elim
  ·exact ho.elim
 case call c=>
  obtain ⟨callee,args,argTypes⟩:=c
  cases callee with
  | invoke r m=>exact ho.elim
  | builtin b=>
   cases b <;> first | exact ho.elim | skip
   dsimp only at ho
   split at ho
   ·rename_i a b st st' ha ht
    have e1:args = #[a,b]:=by rw [← Array.toList_inj]; exact ha
    have e2:argTypes = #[st,st']:=by rw [← Array.toList_inj]; exact ht
    subst e1; subst e2
    cases hb:Nat.beq st st' with
    | false=>rw [hb] at ho; exact ho.elim
    | true=>
     rw [hb] at ho
     simp only [cond_true] at ho
     have hst:=Nat.eq_of_beq_eq_true hb
     subst hst
     split at ho
     ·rename_i el hel
      cases hb:(slOk P st el (ptOf P 8 el).sz 2048 && Nat.blt 0 (ptOf P 8 el).sz) with
      | false=>rw [hb] at ho; exact ho.elim
      | true=>
       rw [hb] at ho
       simp only [cond_true] at ho
       simp only [Bool.and_eq_true] at hb
       have b0:0 < (ptOf P 8 el).sz:=by simpa using hb.2
       obtain ⟨v1,v2⟩:=toLs_one ho
       obtain ⟨xs,H1,ho,hold⟩:=toLs_ok (P:=P) ((evA_ok hE a).single v1 v2) ho
       obtain ⟨ys,ho,hys⟩:=toPv_ok (.lst (ptOf P 8 el)) ho ((evA_ok hE b).single (toPv_val ho) (toPv_lst ho))
       obtain ⟨s',r,m1,m2,m3,m4,m5,m6,m7⟩:=append_ok (ty:=ty) h hb.1 b0 hold hys ho.h
       have hres:(do let d ← resolve (ev e) ⟨.builtin .append,#[a,b],#[st,st]⟩ ty; invoke d.target d.args:Sem Next) = builtin .append #[st,st] ty (#[a,b].map fun | .const _=>true | _=>false) (#[a,b].map (ev e)):=rfl
       refine good_eq hres ?_
       have hmap:(#[a,b]:Array Operand).map (ev e) = #[ev e a,ev e b]:=by simp
       rw [bltn_run (s:=Builtin.append_ #[st,st] ty ((#[a,b]:Array Operand).map (ev e))) rfl,hmap]
       refine good_value m1 ⟨s',_,_,by rw [m2]; exact ho.k,rfl,m5,m4,m6,fun _ i o hi _=>⟨?_,m7 i o hi⟩⟩
       rcases hold with ⟨_,_,rfl⟩ | ⟨id,_,_,_,rfl⟩ <;> exact hi
     ·exact ho.elim
   ·exact ho.elim
  | value f=>
   dsimp only at ho
   have hf:=evA_ok hE f
   split at ho
   ·rename_i g ca hv
    rw [hv] at hf
    obtain ⟨cs,h1,he⟩:=hf.fn
    have hres:(do let d ← resolve (ev e) ⟨.value f,args,argTypes⟩ ty; invoke d.target d.args:Sem Next) = callFunc g ((#[] ++ args.map (ev e)) ++ cs.toArray):=by
     simp only [resolve,he,Deferred.ofValue,pure_bind]
     rfl
    refine good_eq hres ?_
    obtain ⟨k1,k2⟩:=hcall ho h (args.toList.map (ev e) ++ cs) (rss_app (rss_map hE args.toList) (rss_cells h1.flat))
    rw [enters_spec k1]
    have hargs:(#[] ++ args.map (ev e)) ++ cs.toArray = (args.toList.map (ev e) ++ cs).toArray:=by
     apply Array.toList_inj.1; simp
    rw [hargs]
    exact Calls.mono k2 fun e' w' he'=>by
     cases e' with
     | outgrown=>exact he'
     | returned v=>exact he'
     | panicked ch=>exact he'
   ·exact ho.elim
end Go.Proofs.YtpifnlfmojfgpaaGreatDoor.Pw
end
