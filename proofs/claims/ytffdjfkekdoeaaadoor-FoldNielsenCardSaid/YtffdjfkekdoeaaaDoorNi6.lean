/- Parts of a proof, laid one behind the other by our own merge.py: PlWord PlLang PlUniq PlSame PlNum PlGood PlMove PlLead PlGen PlGen2 PlGen3 PlBoth PlFit PlNiel Sh6 LwNielsen. -/
import Derived.Test.YtffdjfkekdoeaaaDoorNi5
import Derived.Test.YtffdjfkekdoeaaaDoorNi3
import Derived.Test.YtffdjfkekdoeaaaDoorNi1
import Derived.Test.YtffdjfkekdoeaaaDoorProg
import Derived.KernelRfl
section
/- Words of a free group, as lists of letters: reduction acts. -/
set_option linter.unusedVariables false
set_option linter.unusedSimpArgs false
set_option maxRecDepth 4000
set_option maxHeartbeats 2000000
namespace Go.Proofs.YtffdjfkekdoeaaaDoor.Pl
open Fo Rf Wd

def rdS (out : List Nat) (x : Nat) : List Nat := if out.getLast? = some (x ^^^ 1) then out.dropLast else out ++ [x]
/-- A word acts on reduced words. -/
def act (X l : List Nat) : List Nat := l.foldl rdS X
def rd (l : List Nat) : List Nat := act [] l
def inv (l : List Nat) : List Nat := (l.map (· ^^^ 1)).reverse
theorem act_app (X a b : List Nat) : act X (a ++ b) = act (act X a) b := List.foldl_append ..
theorem Rd.unsnoc : ∀ {l : List Nat} {x : Nat}, Rd (l ++ [x]) → Rd l ∧ l.getLast? ≠ some (x ^^^ 1)
  | [], x, _ => ⟨trivial, by simp⟩
  | [a], x, h => ⟨trivial, fun he => by
    have h : x ≠ a ^^^ 1 ∧ True := h
    simp only [List.getLast?_singleton, Option.some.injEq] at he
    exact h.1 (by rw [he, xor_two])⟩
  | a :: b :: l, x, h => by
    have h : b ≠ a ^^^ 1 ∧ Rd (b :: l ++ [x]) := h
    obtain ⟨h1, h2⟩ := Rd.unsnoc h.2
    exact ⟨⟨h.1, h1⟩, by rw [List.getLast?_cons_cons]; exact h2⟩
theorem Rd.snoc {l : List Nat} {x : Nat} (h : Rd l) (hx : l.getLast? ≠ some (x ^^^ 1)) : Rd (l ++ [x]) :=
  Rd_snoc l x h fun y hy he => hx (by rw [hy, he, xor_two])
theorem rdS_rd {X : List Nat} (h : Rd X) (x : Nat) : Rd (rdS X x) := by
  unfold rdS
  split
  · rcases List.eq_nil_or_concat X with rfl | ⟨q, d, rfl⟩
    · exact h
    · rw [List.concat_eq_append] at h ⊢
      rw [List.dropLast_concat]
      exact (Rd.unsnoc h).1
  · rename_i hx
    exact h.snoc hx
theorem act_rd {X : List Nat} (h : Rd X) : ∀ l : List Nat, Rd (act X l) := by
  intro l
  induction l generalizing X with
  | nil => exact h
  | cons x l ih => exact ih (rdS_rd h x)
theorem rd_rd (l : List Nat) : Rd (rd l) := act_rd (X := []) trivial l
theorem rdS_two {X : List Nat} (h : Rd X) (x : Nat) : rdS (rdS X x) (x ^^^ 1) = X := by
  unfold rdS
  by_cases hx : X.getLast? = some (x ^^^ 1)
  · rw [if_pos hx]
    rcases List.eq_nil_or_concat X with rfl | ⟨q, d, rfl⟩
    · simp at hx
    · rw [List.concat_eq_append] at h hx ⊢
      rw [List.dropLast_concat]
      simp only [List.getLast?_append, List.getLast?_singleton, Option.some_or, Option.some.injEq] at hx
      subst hx
      have := (Rd.unsnoc h).2
      rw [if_neg this]
  · rw [if_neg hx, if_pos (by rw [List.getLast?_append, xor_two]; rfl), List.dropLast_concat]
theorem rd_self : ∀ (n : Nat) (l : List Nat), l.length = n → Rd l → rd l = l := by
  intro n
  induction n with
  | zero => intro l hl _; rw [List.length_eq_zero_iff.1 hl]; rfl
  | succ n ih =>
    intro l hl h
    rcases List.eq_nil_or_concat l with rfl | ⟨q, c, rfl⟩
    · rfl
    · rw [List.concat_eq_append] at *
      obtain ⟨h1, h2⟩ := Rd.unsnoc h
      show act [] (q ++ [c]) = _
      rw [act_app]
      have : act [] q = q := ih q (by simpa using hl) h1
      rw [this]
      show rdS q c = _
      unfold rdS
      rw [if_neg h2]
theorem Rd.self {l : List Nat} (h : Rd l) : rd l = l := rd_self _ l rfl h
/-- Equal in the free group. -/
def Same (a b : List Nat) : Prop := ∀ X, Rd X → act X a = act X b
theorem Same.refl (a : List Nat) : Same a a := fun _ _ => rfl
theorem Same.symm {a b : List Nat} (h : Same a b) : Same b a := fun X hX => (h X hX).symm
theorem Same.trans {a b c : List Nat} (h : Same a b) (k : Same b c) : Same a c := fun X hX => (h X hX).trans (k X hX)
theorem Same.app {a b c d : List Nat} (h : Same a b) (k : Same c d) : Same (a ++ c) (b ++ d) := fun X hX => by
  rw [act_app, act_app, h X hX, k _ (act_rd hX b)]
theorem same_pair (x : Nat) : Same [x, x ^^^ 1] [] := fun X hX => rdS_two hX x
theorem same_pair' (x : Nat) : Same [x ^^^ 1, x] [] := by
  have := same_pair (x ^^^ 1)
  rwa [xor_two] at this
theorem same_rdS (X : List Nat) (x : Nat) : Same (rdS X x) (X ++ [x]) := by
  unfold rdS
  split
  · rename_i hx
    rcases List.eq_nil_or_concat X with rfl | ⟨q, d, rfl⟩
    · simp at hx
    · rw [List.concat_eq_append] at hx ⊢
      rw [List.dropLast_concat]
      simp only [List.getLast?_append, List.getLast?_singleton, Option.some_or, Option.some.injEq] at hx
      subst hx
      rw [List.append_assoc]
      have := (Same.refl q).app (same_pair' x)
      rw [List.append_nil] at this
      exact this.symm
  · exact Same.refl _
theorem same_act : ∀ (l X : List Nat), Same (act X l) (X ++ l)
  | [], X => by rw [List.append_nil]; exact Same.refl _
  | x :: l, X => by
    have h1 := same_act l (rdS X x)
    have h2 := (same_rdS X x).app (Same.refl l)
    rw [List.append_assoc] at h2
    exact h1.trans h2
theorem same_rd (l : List Nat) : Same (rd l) l := same_act l []
theorem Same.rd_eq {a b : List Nat} (h : Same a b) : rd a = rd b := h [] trivial
theorem same_iff_rd {a b : List Nat} : Same a b ↔ rd a = rd b := ⟨Same.rd_eq, fun h => (same_rd a).symm.trans (h ▸ same_rd b)⟩
theorem inv_app (a b : List Nat) : inv (a ++ b) = inv b ++ inv a := by simp [inv]
theorem inv_cons (x : Nat) (a : List Nat) : inv (x :: a) = inv a ++ [x ^^^ 1] := by simp [inv]
theorem inv_inv (a : List Nat) : inv (inv a) = a := by
  unfold inv
  rw [List.map_reverse, List.reverse_reverse, List.map_map]
  conv => rhs; rw [← List.map_id a]
  exact List.map_congr_left fun x _ => xor_two x
theorem same_inv : ∀ a : List Nat, Same (a ++ inv a) []
  | [] => Same.refl _
  | x :: a => by
    rw [inv_cons]
    have h1 : x :: a ++ (inv a ++ [x ^^^ 1]) = [x] ++ (a ++ inv a) ++ [x ^^^ 1] := by simp
    rw [h1]
    have h2 := ((Same.refl [x]).app (same_inv a)).app (Same.refl [x ^^^ 1])
    exact h2.trans (same_pair x)
theorem same_inv' (a : List Nat) : Same (inv a ++ a) [] := by
  have := same_inv (inv a)
  rwa [inv_inv] at this
theorem Same.inv {a b : List Nat} (h : Same a b) : Same (Pl.inv a) (Pl.inv b) := by
  have h1 : Same (Pl.inv a ++ (b ++ Pl.inv b)) (Pl.inv a ++ []) := (Same.refl _).app (same_inv b)
  have h2 : Same (Pl.inv a ++ a ++ Pl.inv b) (Pl.inv a ++ b ++ Pl.inv b) := ((Same.refl _).app h).app (Same.refl _)
  have h3 : Same (Pl.inv a ++ a ++ Pl.inv b) ([] ++ Pl.inv b) := (same_inv' a).app (Same.refl _)
  rw [List.append_nil, ← List.append_assoc] at h1
  rw [List.nil_append] at h3
  exact (h1.symm.trans h2.symm).trans h3
/-! ### a subgroup -/
inductive Mem (gs : List (List Nat)) : List Nat → Prop
  | one : Mem gs []
  | gen {g : List Nat} : g ∈ gs → Mem gs g
  | mul {a b : List Nat} : Mem gs a → Mem gs b → Mem gs (a ++ b)
  | neg {a : List Nat} : Mem gs a → Mem gs (inv a)
  | same {a b : List Nat} : Mem gs a → Same a b → Mem gs b
theorem Mem.sub {gs gs' : List (List Nat)} (h : ∀ g ∈ gs, Mem gs' g) {a : List Nat} (k : Mem gs a) : Mem gs' a := by
  induction k with
  | one => exact .one
  | gen hg => exact h _ hg
  | mul _ _ h1 h2 => exact .mul h1 h2
  | neg _ h1 => exact .neg h1
  | same _ hs h1 => exact .same h1 hs
/-! ### reading words -/
inductive Run (δ : Nat → Nat → Nat → Prop) : Nat → List Nat → Nat → Prop
  | nil (s : Nat) : Run δ s [] s
  | cons {s x u t : Nat} {l : List Nat} : δ s x u → Run δ u l t → Run δ s (x :: l) t
structure Aut' (δ : Nat → Nat → Nat → Prop) : Prop where
  det : ∀ s x t t', δ s x t → δ s x t' → t = t'
  inv : ∀ s x t, δ s x t → δ t (x ^^^ 1) s
section
variable {δ : Nat → Nat → Nat → Prop}
theorem Run.app {s u t : Nat} {a b : List Nat} (h : Run δ s a u) (k : Run δ u b t) : Run δ s (a ++ b) t := by
  induction h with
  | nil _ => exact k
  | cons h _ ih => exact .cons h (ih k)
theorem Run.split : ∀ {a : List Nat} {s t : Nat} {b : List Nat}, Run δ s (a ++ b) t → ∃ u, Run δ s a u ∧ Run δ u b t
  | [], s, t, b, h => ⟨s, .nil s, h⟩
  | x :: a, s, t, b, h => by
    cases h with
    | cons h1 h2 =>
      obtain ⟨u, h3, h4⟩ := Run.split h2
      exact ⟨u, .cons h1 h3, h4⟩
theorem Run.one {s x t : Nat} (h : δ s x t) : Run δ s [x] t := .cons h (.nil t)
theorem Run.of_one {s x t : Nat} (h : Run δ s [x] t) : δ s x t := by
  cases h with
  | cons h1 h2 => cases h2; exact h1
theorem Run.det (hA : Aut' δ) {s t t' : Nat} {a : List Nat} (h : Run δ s a t) (k : Run δ s a t') : t = t' := by
  induction h with
  | nil _ => cases k; rfl
  | cons h1 _ ih =>
    cases k with
    | cons k1 k2 =>
      have := hA.det _ _ _ _ h1 k1
      subst this
      exact ih k2
theorem Run.back (hA : Aut' δ) {s t : Nat} {a : List Nat} (h : Run δ s a t) : Run δ t (inv a) s := by
  induction h with
  | nil s => exact .nil s
  | cons h1 _ ih =>
    rw [inv_cons]
    exact ih.app (.one (hA.inv _ _ _ h1))
theorem Run.rdS (hA : Aut' δ) {s u t x : Nat} {X : List Nat} (h : Run δ s X u) (k : δ u x t) : Run δ s (rdS X x) t := by
  unfold Pl.rdS
  split
  · rename_i hx
    rcases List.eq_nil_or_concat X with rfl | ⟨q, d, rfl⟩
    · simp at hx
    · rw [List.concat_eq_append] at hx h ⊢
      rw [List.dropLast_concat]
      simp only [List.getLast?_append, List.getLast?_singleton, Option.some_or, Option.some.injEq] at hx
      subst hx
      obtain ⟨v, h1, h2⟩ := h.split
      have h3 := hA.inv _ _ _ h2.of_one
      rw [xor_two] at h3
      have := hA.det _ _ _ _ h3 k
      subst this
      exact h1
  · exact h.app (.one k)
theorem Run.act (hA : Aut' δ) : ∀ (l : List Nat) {s u t : Nat} {X : List Nat}, Run δ s X u → Run δ u l t → Run δ s (act X l) t
  | [], s, u, t, X, h, k => by cases k; exact h
  | x :: l, s, u, t, X, h, k => by
    cases k with
    | cons k1 k2 => exact Run.act hA l (h.rdS hA k1) k2
theorem Run.rd (hA : Aut' δ) {s t : Nat} {l : List Nat} (h : Run δ s l t) : Run δ s (rd l) t := Run.act hA l (.nil s) h
end
end Go.Proofs.YtffdjfkekdoeaaaDoor.Pl
end
section
/- The language of a folded graph is the subgroup. -/
set_option linter.unusedVariables false
set_option linter.unusedSimpArgs false
set_option maxRecDepth 4000
set_option maxHeartbeats 2000000
namespace Go.Proofs.YtffdjfkekdoeaaaDoor.Pl
open Fo Rf Wd

/-! ### potentials -/
def Pot (gs : List (List Nat)) (g : Nat → List Nat) (E : List Edg) : Prop := ∀ s x t, (s, x, t) ∈ E → Mem gs (g s ++ [x] ++ inv (g t))
theorem mem_back {gs : List (List Nat)} {a b : List Nat} {x : Nat} (h : Mem gs (a ++ [x] ++ inv b)) : Mem gs (b ++ [x ^^^ 1] ++ inv a) := by
  have := h.neg
  rw [inv_app, inv_app, inv_inv] at this
  have e : b ++ (inv [x] ++ inv a) = b ++ [x ^^^ 1] ++ inv a := by rw [List.append_assoc]; rfl
  rwa [e] at this
theorem pot_path {gs : List (List Nat)} : ∀ (w : List Nat) (n s : Nat) (g0 : Nat → List Nat), s < n → 0 < n → g0 0 = [] → Mem gs (g0 s ++ w) → ∃ g, (∀ v, v < n → g v = g0 v) ∧ (∀ v, n + (w.length - 1) ≤ v → g v = g0 v) ∧ Pot gs g (pathE n s w 0)
  | [], n, s, g0, _, _, _, _ => ⟨g0, fun _ _ => rfl, fun _ _ => rfl, fun a y b h => by simp [pathE] at h⟩
  | [x], n, s, g0, hs, h0, hg, hm => by
    have h1 : Mem gs (g0 s ++ [x] ++ inv (g0 0)) := by
      rw [hg]
      have : inv ([] : List Nat) = [] := rfl
      rw [this, List.append_nil]; exact hm
    refine ⟨g0, fun _ _ => rfl, fun _ _ => rfl, fun a y b h => ?_⟩
    simp only [pathE, List.mem_cons, List.not_mem_nil, or_false, Prod.mk.injEq] at h
    rcases h with ⟨rfl, rfl, rfl⟩ | ⟨rfl, rfl, rfl⟩
    · exact h1
    · exact mem_back h1
  | x :: y :: l, n, s, g0, hs, h0, hg, hm => by
    obtain ⟨g, a1, a2, a3⟩ := pot_path (gs := gs) (y :: l) (n + 1) n (fun v => if v = n then g0 s ++ [x] else g0 v) (by omega) (by omega) (by rw [if_neg (by omega)]; exact hg) (by
      rw [if_pos rfl, List.append_assoc]; exact hm)
    have gn : g n = g0 s ++ [x] := by rw [a1 n (by omega), if_pos rfl]
    have gs' : g s = g0 s := by rw [a1 s (by omega), if_neg (by omega)]
    have h1 : Mem gs (g s ++ [x] ++ inv (g n)) := by
      rw [gn, gs']
      exact .same .one (same_inv _).symm
    refine ⟨g, fun v hv => by rw [a1 v (by omega), if_neg (by omega)], fun v hv => ?_, fun a z b h => ?_⟩
    · simp only [List.length_cons] at hv a2
      rw [a2 v (by omega), if_neg (by omega)]
    · have hp : pathE n s (x :: y :: l) 0 = (s, x, n) :: (n, x ^^^ 1, s) :: pathE (n + 1) n (y :: l) 0 := rfl
      rw [hp] at h
      simp only [List.mem_cons, Prod.mk.injEq] at h
      rcases h with ⟨rfl, rfl, rfl⟩ | ⟨rfl, rfl, rfl⟩ | h
      · exact h1
      · exact mem_back h1
      · exact a3 _ _ _ h
theorem pathE_lt : ∀ (w : List Nat) (n s : Nat), s < n → 0 < n → ∀ a y b, (a, y, b) ∈ pathE n s w 0 → a < n + (w.length - 1) ∧ b < n + (w.length - 1)
  | [], n, s, _, _, a, y, b, h => by simp [pathE] at h
  | [x], n, s, hs, h0, a, y, b, h => by
    simp only [pathE, List.mem_cons, List.not_mem_nil, or_false, Prod.mk.injEq] at h
    simp only [List.length_singleton]
    omega
  | x :: z :: l, n, s, hs, h0, a, y, b, h => by
    have hp : pathE n s (x :: z :: l) 0 = (s, x, n) :: (n, x ^^^ 1, s) :: pathE (n + 1) n (z :: l) 0 := rfl
    rw [hp] at h
    simp only [List.mem_cons, Prod.mk.injEq] at h
    simp only [List.length_cons]
    rcases h with ⟨rfl, rfl, rfl⟩ | ⟨rfl, rfl, rfl⟩ | h
    · omega
    · omega
    · have := pathE_lt (z :: l) (n + 1) n (by omega) (by omega) a y b h
      simp only [List.length_cons] at this
      omega
theorem pot_all {gs : List (List Nat)} : ∀ (ws : List (List Nat)) (n : Nat) (g0 : Nat → List Nat), 0 < n → g0 0 = [] → (∀ w ∈ ws, Mem gs w) → ∃ g, (∀ v, v < n → g v = g0 v) ∧ Pot gs g (allE n ws)
  | [], n, g0, _, _, _ => ⟨g0, fun _ _ => rfl, fun a y b h => by simp [allE] at h⟩
  | w :: l, n, g0, hn, hg, hw => by
    obtain ⟨g1, a1, a2, a3⟩ := pot_path (gs := gs) w n 0 g0 hn hn hg (by rw [hg]; exact hw w (by simp))
    obtain ⟨g, b1, b2⟩ := pot_all (gs := gs) l (n + (w.length - 1)) g1 (by omega) (by rw [a1 0 hn]; exact hg) fun v hv => hw v (by simp [hv])
    refine ⟨g, fun v hv => by rw [b1 v (by omega), a1 v hv], fun a y b h => ?_⟩
    simp only [allE, List.mem_append] at h
    rcases h with h | h
    · obtain ⟨h1, h2⟩ := pathE_lt w n 0 hn hn a y b h
      rw [b1 a h1, b1 b h2]
      exact a3 _ _ _ h
    · exact b2 _ _ _ h
theorem mem_mid {gs : List (List Nat)} {a b c : List Nat} (h : Mem gs (a ++ inv b)) (k : Mem gs (b ++ c)) : Mem gs (a ++ c) := by
  refine .same (h.mul k) ?_
  have h1 : a ++ inv b ++ (b ++ c) = a ++ (inv b ++ b) ++ c := by simp
  rw [h1]
  have := ((Same.refl a).app (same_inv' b)).app (Same.refl c)
  rw [List.append_nil] at this
  exact this
theorem mem_flip {gs : List (List Nat)} {a b : List Nat} (h : Mem gs (a ++ inv b)) : Mem gs (b ++ inv a) := by
  have := h.neg
  rwa [inv_app, inv_inv] at this
theorem pot_cg {gs : List (List Nat)} {g : Nat → List Nat} {E : List Edg} (h : Pot gs g E) {u v : Nat} (hc : Cg E u v) : Mem gs (g u ++ inv (g v)) := by
  induction hc with
  | refl u => exact .same .one (same_inv _).symm
  | symm _ ih => exact mem_flip ih
  | trans _ _ ih1 ih2 => exact mem_mid ih1 ih2
  | @fold s s' x t t' h1 h2 h0 ih =>
    have k1 := mem_back (h _ _ _ h1)
    have k2 := h _ _ _ h2
    -- g t (x^1) inv(g s) · g s inv(g s') · g s' x inv(g t')
    have k3 : Mem gs (g t ++ [x ^^^ 1] ++ inv (g s')) := mem_mid k1 ih
    have k4 : Mem gs (g t ++ [x ^^^ 1] ++ ([x] ++ inv (g t'))) := mem_mid k3 (by rw [← List.append_assoc]; exact k2)
    refine .same k4 ?_
    have e : g t ++ [x ^^^ 1] ++ ([x] ++ inv (g t')) = g t ++ [x ^^^ 1, x] ++ inv (g t') := by simp
    rw [e]
    have := ((Same.refl (g t)).app (same_pair' x)).app (Same.refl (inv (g t')))
    rw [List.append_nil] at this
    exact this
/-! ### the folded graph -/
section
variable {E : List Edg} {st : St}
noncomputable abbrev RowsOf (st : St) : List (Option Row) := rowsS st.par 0 st.next
theorem rows_aut (h : Inv E st) (hb : Both E) : Aut' (To (RowsOf st)) := ⟨fun _ _ _ _ a b => a.unique b, (wf_rows h hb).inv⟩
theorem pot_to {gs : List (List Nat)} {g : Nat → List Nat} (h : Inv E st) (hg : Pot gs g E) {s x t : Nat} (ht : To (RowsOf st) s x t) : Mem gs (g s ++ [x] ++ inv (g t)) := by
  obtain ⟨u, h1, h2, h3⟩ := (to_rows h).1 ht
  obtain ⟨s', e1, e2⟩ := h.snd.ent s x u h2
  have k1 := pot_cg hg e2
  have k2 := hg _ _ _ e1
  have k3 := pot_cg hg (h.snd.par u t ⟨t, h3, h3.self⟩)
  rw [List.append_assoc] at k2
  have k4 := mem_mid k1 k2
  rw [← List.append_assoc] at k4
  exact mem_mid k4 k3
theorem pot_run {gs : List (List Nat)} {g : Nat → List Nat} (h : Inv E st) (hg : Pot gs g E) {s t : Nat} {l : List Nat} (hr : Run (To (RowsOf st)) s l t) : Mem gs (g s ++ l ++ inv (g t)) := by
  induction hr with
  | nil s => rw [List.append_nil]; exact .same .one (same_inv _).symm
  | @cons s x u t l h1 _ ih =>
    have k1 := pot_to h hg h1
    rw [List.append_assoc] at ih
    have := mem_mid k1 ih
    have e : g s ++ [x] ++ (l ++ inv (g t)) = g s ++ x :: l ++ inv (g t) := by simp
    rwa [e] at this
theorem edge_to (h : Inv E st) {s x t : Nat} (he : (s, x, t) ∈ E) : To (RowsOf st) (rt st.par s) x (rt st.par t) := by
  obtain ⟨p, t1, a1, a2, a3⟩ := h.cm s x t he
  rw [h.todo] at a3
  obtain ⟨q, b1, b2⟩ := Eqv.nil (fun _ _ _ => Sm.trans) a3
  rw [rt_spec a1, rt_spec b2]
  exact (to_rows h).2 ⟨t1, a1.self, a2, b1⟩
theorem run_rows (h : Inv E st) {s t : Nat} {l : List Nat} (hr : Run (fun s x t => (s, x, t) ∈ E) s l t) : Run (To (RowsOf st)) (rt st.par s) l (rt st.par t) := by
  induction hr with
  | nil s => exact .nil _
  | cons h1 _ ih => exact .cons (edge_to h h1) ih
end
theorem path_run {E : List Edg} : ∀ (w : List Nat) (n s : Nat), (∀ e ∈ pathE n s w 0, e ∈ E) → (w ≠ [] ∨ s = 0) → Run (fun s x t => (s, x, t) ∈ E) s w 0
  | [], n, s, _, h => by
    rcases h with h | rfl
    · exact absurd rfl h
    · exact .nil 0
  | [x], n, s, hE, _ => .one (hE _ (by simp [pathE]))
  | x :: y :: l, n, s, hE, _ => by
    have hp : pathE n s (x :: y :: l) 0 = (s, x, n) :: (n, x ^^^ 1, s) :: pathE (n + 1) n (y :: l) 0 := rfl
    rw [hp] at hE
    exact .cons (hE _ (by simp)) (path_run (y :: l) (n + 1) n (fun e he => hE e (by simp [he])) (.inl (by simp)))
theorem all_run : ∀ (ws : List (List Nat)) (n : Nat) (E : List Edg), (∀ e ∈ allE n ws, e ∈ E) → ∀ w ∈ ws, Run (fun s x t => (s, x, t) ∈ E) 0 w 0
  | [], n, E, _, w, hw => by simp at hw
  | v :: l, n, E, hE, w, hw => by
    simp only [allE] at hE
    rcases List.mem_cons.1 hw with rfl | hw
    · exact path_run w n 0 (fun e he => hE e (List.mem_append.2 (.inl he))) (.inr rfl)
    · exact all_run l _ E (fun e he => hE e (List.mem_append.2 (.inr he))) w hw
/-- What a folded graph reads from its start to its start is the subgroup. -/
theorem lang {ws : List (List Nat)} {st : St} (h : Inv (allE 1 ws) st) {l : List Nat} (hl : Rd l) : Run (To (RowsOf st)) (rt st.par 0) l (rt st.par 0) ↔ Mem ws l := by
  have hA := rows_aut h (allE_both ws 1)
  constructor
  · intro hr
    obtain ⟨g, h1, h2⟩ := pot_all (gs := ws) ws 1 (fun _ => []) (by omega) rfl fun w hw => .gen hw
    have k := pot_run h h2 hr
    obtain ⟨d, hf⟩ := h.ok.forest
    have g0 : g 0 = [] := h1 0 (by omega)
    have k0 : Mem ws (g 0 ++ inv (g (rt st.par 0))) := by
      by_cases hp : 0 < st.par.length
      · obtain ⟨p, hp⟩ := hf.root _ 0 (Nat.le_refl _) hp
        rw [rt_spec hp]
        exact pot_cg h2 (h.snd.par _ _ ⟨p, hp, hp.self⟩)
      · have : rt st.par 0 = 0 := by
          unfold rt
          rw [dif_neg]
          rintro ⟨r, hr⟩
          exact hp hr.lt_left
        rw [this]
        exact .same .one (same_inv _).symm
    rw [List.append_assoc] at k
    have k1 := mem_mid k0 k
    rw [← List.append_assoc, g0, List.nil_append] at k1
    have k2 := mem_mid k1 (b := g (rt st.par 0)) (c := []) (by
      rw [List.append_nil]
      have := mem_flip k0
      rw [g0] at this
      have e : inv ([] : List Nat) = [] := rfl
      rwa [e, List.append_nil] at this)
    rwa [List.append_nil] at k2
  · intro hm
    have key : ∀ {a : List Nat}, Mem ws a → Run (To (RowsOf st)) (rt st.par 0) (rd a) (rt st.par 0) := by
      intro a ha
      induction ha with
      | one => exact .nil _
      | gen hg => exact (run_rows h (all_run ws 1 _ (fun _ he => he) _ hg)).rd hA
      | @mul a b _ _ h1 h2 =>
        have : rd (a ++ b) = rd (rd a ++ rd b) := (((same_rd a).app (same_rd b)).symm).rd_eq
        rw [this]
        exact (h1.app h2).rd hA
      | @neg a _ h1 =>
        have : rd (inv a) = rd (inv (rd a)) := ((same_rd a).inv.symm).rd_eq
        rw [this]
        exact (h1.back hA).rd hA
      | same _ hs h1 => rw [← hs.rd_eq]; exact h1
    rw [← hl.self]
    exact key hm
/-- And so is what its pruned part reads. -/
theorem lang_cut {ws : List (List Nat)} {st : St} (h : Inv (allE 1 ws) st) {m : Nat} {rows' : List (Option Row)} {o : Option (List Row)} (hm : MadeOf m (rt st.par 0) (RowsOf st) rows' o) {l : List Nat} (hl : Rd l) :
    Run (To rows') (rt st.par 0) l (rt st.par 0) ↔ Mem ws l := by
  rw [← lang h hl]
  generalize rt st.par 0 = r0 at hm
  have hA := rows_aut h (allE_both ws 1)
  have mono : ∀ {s t : Nat} {l : List Nat}, Run (To rows') s l t → Run (To (RowsOf st)) s l t := fun hr => by
    induction hr with
    | nil s => exact .nil s
    | cons h1 _ ih => exact .cons (hm.cut.sub _ _ _ h1) ih
  refine ⟨mono, fun hr => ?_⟩
  let Oc : Nat → Nat → Nat → Prop := fun s x t => ∃ a b, l = a ++ x :: b ∧ Run (To (RowsOf st)) r0 a s ∧ To (RowsOf st) s x t ∧ Run (To (RowsOf st)) t b r0
  have chain : ∀ {a b : List Nat} {y x : Nat}, l = a ++ y :: x :: b → x ≠ y ^^^ 1 := fun {a b y x} he => by
    have : ∀ (a l : List Nat), l = a ++ y :: x :: b → Rd l → x ≠ y ^^^ 1 := by
      intro a
      induction a with
      | nil => intro l he hl; subst he; exact hl.1
      | cons z a ih =>
        intro l he hl
        subst he
        cases a with
        | nil => exact ih _ rfl hl.2
        | cons z' a => exact ih _ rfl hl.2
    exact this a l he hl
  have hS : ∀ s x t, (Oc s x t ∨ Oc t (x ^^^ 1) s) → To rows' s x t := hm.cut.max (fun s x t => Oc s x t ∨ Oc t (x ^^^ 1) s) ⟨fun s x t hh => by rw [xor_two]; exact hh.symm, fun s x t hh hne => by
    rcases hh with ⟨a, b, e1, e2, e3, e4⟩ | ⟨a, b, e1, e2, e3, e4⟩
    · rcases List.eq_nil_or_concat a with rfl | ⟨a', y, rfl⟩
      · cases e2; exact absurd rfl hne
      · rw [List.concat_eq_append] at e1 e2
        obtain ⟨u, f1, f2⟩ := e2.split
        have e5 : l = a' ++ y :: x :: b := by rw [e1]; simp
        refine ⟨y ^^^ 1, u, fun he => chain e5 he.symm, .inr ?_⟩
        rw [xor_two]
        exact ⟨a', x :: b, e5, f1, f2.of_one, .cons e3 e4⟩
    · cases e4 with
      | nil => exact absurd rfl hne
      | @cons _ y u _ b' f1 f2 =>
        refine ⟨y, u, fun he => ?_, .inl ⟨a ++ [x ^^^ 1], b', by rw [e1]; simp, e2.app (.one e3), f1, f2⟩⟩
        have := chain e1
        rw [xor_two] at this
        exact this he⟩ fun s x t hh => by
    rcases hh with ⟨_, _, _, _, e3, _⟩ | ⟨_, _, _, _, e3, _⟩
    · exact e3
    · have := hA.inv _ _ _ e3
      rwa [xor_two] at this
  have walk : ∀ (b a : List Nat) (s : Nat), l = a ++ b → Run (To (RowsOf st)) r0 a s → Run (To (RowsOf st)) s b r0 → Run (To rows') s b r0 := by
    intro b
    induction b with
    | nil => intro a s _ _ h2; cases h2; exact .nil _
    | cons x b ih =>
      intro a s he h1 h2
      cases h2 with
      | @cons _ _ u _ _ f1 f2 =>
        exact .cons (hS _ _ _ (.inl ⟨a, b, he, h1, f1, f2⟩)) (ih (a ++ [x]) u (by rw [he]; simp) (h1.app (.one f1)) f2)
  exact walk l [] r0 rfl (.nil _) hr
end Go.Proofs.YtffdjfkekdoeaaaDoor.Pl
end
section
/- Two pruned graphs that read the same are numbered to the same automaton. -/
set_option linter.unusedVariables false
set_option linter.unusedSimpArgs false
set_option maxRecDepth 4000
set_option maxHeartbeats 2000000
namespace Go.Proofs.YtffdjfkekdoeaaaDoor.Pl
open Fo Rf Wd

theorem Rd_app : ∀ {a b : List Nat}, Rd a → Rd b → (∀ y z, a.getLast? = some y → b.head? = some z → z ≠ y ^^^ 1) → Rd (a ++ b)
  | [], b, _, hb, _ => hb
  | [x], [], _, _, _ => trivial
  | [x], z :: b, _, hb, h => ⟨h x z rfl rfl, hb⟩
  | x :: y :: a, b, ha, hb, h => ⟨ha.1, Rd_app (a := y :: a) ha.2 hb fun u z hu hz => h u z (by rw [List.getLast?_cons_cons]; exact hu) hz⟩
theorem Rd_pre : ∀ {a b : List Nat}, Rd (a ++ b) → Rd a
  | [], _, _ => trivial
  | [_], _, _ => trivial
  | x :: y :: a, b, h => ⟨h.1, Rd_pre (a := y :: a) h.2⟩
theorem Rd_inv : ∀ {a : List Nat}, Rd a → Rd (inv a)
  | [], _ => trivial
  | [x], _ => trivial
  | x :: y :: a, h => by
    rw [inv_cons]
    refine (Rd_inv (a := y :: a) h.2).snoc ?_
    rw [inv_cons, List.getLast?_append]
    simp only [List.getLast?_singleton, Option.some_or, xor_two]
    intro he
    exact h.1 (by rw [← Option.some.inj he, xor_two])
/-- A finite graph without dead ends but at the start. -/
structure Gr (δ : Nat → Nat → Nat → Prop) (r : Nat) (N : Nat) : Prop where
  aut : Aut' δ
  two : ∀ s x t, δ s x t → s ≠ r → ∃ x' t', x' ≠ x ∧ δ s x' t'
  lt : ∀ s x t, δ s x t → s < N ∧ t < N
  r : r < N
inductive Tr (δ : Nat → Nat → Nat → Prop) (r : Nat) : Nat → List (Nat × Nat) → Prop
  | nil : Tr δ r r []
  | step {v x u : Nat} {l : List (Nat × Nat)} : Tr δ r v l → δ v x u → Tr δ r u ((x, v) :: l)
def word (l : List (Nat × Nat)) : List Nat := (l.map (·.1)).reverse
def Simp (u : Nat) (l : List (Nat × Nat)) : Prop := (u :: l.map (·.2)).Nodup
theorem word_cons (x v : Nat) (l : List (Nat × Nat)) : word ((x, v) :: l) = word l ++ [x] := by simp [word]
theorem word_last (l : List (Nat × Nat)) : (word l).getLast? = l.head?.map (·.1) := by
  unfold word
  rw [List.getLast?_reverse, List.head?_map]
section
variable {δ : Nat → Nat → Nat → Prop} {r N : Nat}
theorem Tr.run {u : Nat} {l : List (Nat × Nat)} (h : Tr δ r u l) : Run δ r (word l) u := by
  induction h with
  | nil => exact .nil r
  | step _ h2 ih => rw [word_cons]; exact ih.app (.one h2)
theorem Tr.mem_r {u : Nat} {l : List (Nat × Nat)} (h : Tr δ r u l) : r ∈ u :: l.map (·.2) := by
  induction h with
  | nil => simp
  | step _ _ ih =>
    simp only [List.map_cons, List.mem_cons] at ih ⊢
    exact .inr ih
theorem Tr.cut {u t : Nat} {l : List (Nat × Nat)} (h : Tr δ r u l) (ht : t ∈ u :: l.map (·.2)) : ∃ l1 l2, l = l1 ++ l2 ∧ Tr δ r t l2 := by
  induction h with
  | nil =>
    simp only [List.map_nil, List.mem_singleton] at ht
    subst ht; exact ⟨[], [], rfl, .nil⟩
  | @step v x u l h1 h2 ih =>
    rcases List.mem_cons.1 ht with rfl | ht
    · exact ⟨[], _, rfl, .step h1 h2⟩
    · obtain ⟨l1, l2, rfl, h3⟩ := ih ht
      exact ⟨(x, v) :: l1, l2, rfl, h3⟩
theorem Tr.lt (hG : Gr δ r N) {u : Nat} {l : List (Nat × Nat)} (h : Tr δ r u l) : ∀ v ∈ u :: l.map (·.2), v < N := by
  induction h with
  | nil => intro v hv; simp only [List.map_nil, List.mem_singleton] at hv; subst hv; exact hG.r
  | step _ h2 ih =>
    intro v hv
    rcases List.mem_cons.1 hv with rfl | hv
    · exact (hG.lt _ _ _ h2).2
    · exact ih v hv
theorem Tr.rd (hG : Gr δ r N) {u : Nat} {l : List (Nat × Nat)} (h : Tr δ r u l) (hs : Simp u l) : Rd (word l) := by
  induction h with
  | nil => exact trivial
  | @step v x u l h1 h2 ih =>
    have hs' : Simp v l := (List.nodup_cons.1 hs).2
    rw [word_cons]
    refine (ih hs').snoc ?_
    rw [word_last]
    intro he
    cases h1 with
    | nil => simp at he
    | @step w y _ l1 k1 k2 =>
      simp only [List.head?_cons, Option.map_some, Option.some.injEq] at he
      subst he
      have k3 := hG.aut.inv _ _ _ k2
      rw [xor_two] at k3
      have := hG.aut.det _ _ _ _ h2 k3
      subst this
      have := (List.nodup_cons.1 hs).1
      simp at this
theorem inv_word (l : List (Nat × Nat)) : inv (word l) = l.map fun p => p.1 ^^^ 1 := by
  unfold inv word
  rw [List.map_reverse, List.reverse_reverse, List.map_map]; rfl
/-- The cut of a simple trace is simple. -/
theorem cut_simp {u t : Nat} {l : List (Nat × Nat)} (h : Tr δ r u l) (hs : Simp u l) (ht : t ∈ u :: l.map (·.2)) : ∃ l1 l2, l = l1 ++ l2 ∧ Tr δ r t l2 ∧ Simp t l2 := by
  induction h with
  | nil =>
    simp only [List.map_nil, List.mem_singleton] at ht
    subst ht; exact ⟨[], [], rfl, .nil, hs⟩
  | @step v x u l h1 h2 ih =>
    rcases List.mem_cons.1 ht with rfl | ht
    · exact ⟨[], _, rfl, .step h1 h2, hs⟩
    · obtain ⟨l1, l2, rfl, h3, h4⟩ := ih (List.nodup_cons.1 hs).2 ht
      exact ⟨(x, v) :: l1, l2, rfl, h3, h4⟩
/-- A simple trace, and a step that does not turn back, are the beginning of a reduced way back to the start. -/
theorem close (hG : Gr δ r N) : ∀ (n u : Nat) (l : List (Nat × Nat)) (x t : Nat), N - l.length ≤ n → Tr δ r u l → Simp u l → δ u x t → (∀ y v, l.head? = some (y, v) → x ≠ y ^^^ 1) → ∃ q, Rd (word l ++ x :: q) ∧ Run δ t q r := by
  intro n
  induction n with
  | zero =>
    intro u l x t hn h hs
    have := nodup_len N _ hs (h.lt hG)
    simp at this
    omega
  | succ n ih =>
    intro u l x t hn h hs hx hno
    have hlen := nodup_len N _ hs (h.lt hG)
    simp only [List.length_cons, List.length_map] at hlen
    have hw : Rd (word l ++ [x]) := (h.rd hG hs).snoc (by
      rw [word_last]
      intro he
      cases hl : l.head? with
      | none => rw [hl] at he; cases he
      | some p =>
        obtain ⟨y, v⟩ := p
        rw [hl] at he
        simp only [Option.map_some, Option.some.injEq] at he
        exact hno y v hl (by rw [he, xor_two]))
    by_cases ht : t ∈ u :: l.map (·.2)
    · obtain ⟨l1, l2, hl, h2, hs2⟩ := cut_simp h hs ht
      refine ⟨inv (word l2), ?_, h2.run.back hG.aut⟩
      have e : word l ++ x :: inv (word l2) = (word l ++ [x]) ++ inv (word l2) := by simp
      rw [e]
      refine Rd_app hw (Rd_inv (h2.rd hG hs2)) fun y z hy hz => ?_
      rw [List.getLast?_append] at hy
      simp only [List.getLast?_singleton, Option.some_or, Option.some.injEq] at hy
      subst hy
      rw [inv_word] at hz
      cases h2 with
      | nil => simp at hz
      | @step v y _ l3 k1 k2 =>
        simp only [List.map_cons, List.head?_cons, Option.some.injEq] at hz
        subst hz
        intro he
        have hyx : y = x := by have := congrArg (· ^^^ 1) he; simpa [xor_two] using this
        subst hyx
        have := hG.aut.det _ _ _ _ (hG.aut.inv _ _ _ k2) (hG.aut.inv _ _ _ hx)
        subst this
        have := (List.nodup_cons.1 hs).1
        rw [hl] at this
        simp at this
    · have hs' : Simp t ((x, u) :: l) := List.nodup_cons.2 ⟨by simpa using ht, hs⟩
      have hr : t ≠ r := fun he => ht (he ▸ h.mem_r)
      obtain ⟨x', t', h1, h2⟩ := hG.two _ _ _ (hG.aut.inv _ _ _ hx) hr
      obtain ⟨q, a1, a2⟩ := ih t ((x, u) :: l) x' t' (by simp only [List.length_cons]; omega) (.step h hx) hs' h2 (fun y v hy => by
        simp only [List.head?_cons, Option.some.injEq, Prod.mk.injEq] at hy
        rw [← hy.1]; exact h1)
      rw [word_cons, List.append_assoc] at a1
      exact ⟨x' :: q, a1, .cons h2 a2⟩
/-- A simple trace is the beginning of a reduced way back. -/
theorem extend (hG : Gr δ r N) {u : Nat} {l : List (Nat × Nat)} (h : Tr δ r u l) (hs : Simp u l) : ∃ q, Rd (word l ++ q) ∧ Run δ u q r := by
  cases h with
  | nil => exact ⟨[], trivial, .nil r⟩
  | @step v y _ l k1 k2 =>
    have hr : u ≠ r := fun he => by
      have h1 := (List.nodup_cons.1 hs).1
      have h2 := k1.mem_r
      rw [he] at h1
      simp only [List.map_cons] at h1
      exact h1 h2
    obtain ⟨x', t', h1, h2⟩ := hG.two _ _ _ (hG.aut.inv _ _ _ k2) hr
    obtain ⟨q, a1, a2⟩ := close hG _ u ((y, v) :: l) x' t' (Nat.le_refl _) (.step k1 k2) hs h2 (fun y' v' hy => by
      simp only [List.head?_cons, Option.some.injEq, Prod.mk.injEq] at hy
      rw [← hy.1]; exact h1)
    exact ⟨x' :: q, a1, .cons h2 a2⟩
theorem reach_step {v x t : Nat} {l : List (Nat × Nat)} (h : Tr δ r v l) (hs : Simp v l) (hx : δ v x t) : ∃ l', Tr δ r t l' ∧ Simp t l' := by
  by_cases ht : t ∈ v :: l.map (·.2)
  · obtain ⟨_, l2, _, h2, h3⟩ := cut_simp h hs ht
    exact ⟨l2, h2, h3⟩
  · exact ⟨(x, v) :: l, .step h hx, List.nodup_cons.2 ⟨by simpa using ht, hs⟩⟩
/-- States are cosets. -/
theorem coset (hA : Aut' δ) : ∀ (n : Nat) (p q : List Nat) (v1 v2 : Nat), p.length = n → Rd p → Rd q → Run δ r p v1 → Run δ r q v2 → Run δ r (rd (p ++ inv q)) r → v1 = v2 := by
  intro n
  induction n with
  | zero =>
    intro p q v1 v2 hn hp hq h1 h2 h3
    rw [List.length_eq_zero_iff.1 hn] at h1 h3
    rw [List.nil_append, (Rd_inv hq).self] at h3
    have := h3.back hA
    rw [inv_inv] at this
    cases h1
    exact Run.det hA this h2
  | succ n ih =>
    intro p q v1 v2 hn hp hq h1 h2 h3
    rcases List.eq_nil_or_concat p with rfl | ⟨a, x, rfl⟩
    · simp at hn
    rw [List.concat_eq_append] at *
    rcases List.eq_nil_or_concat q with rfl | ⟨b, y, rfl⟩
    · have e : a ++ [x] ++ inv [] = a ++ [x] := by simp [inv]
      rw [e, hp.self] at h3
      cases h2
      exact Run.det hA h1 h3
    rw [List.concat_eq_append] at *
    by_cases hxy : x = y
    · subst hxy
      obtain ⟨u1, k1, k2⟩ := h1.split
      obtain ⟨u2, k3, k4⟩ := h2.split
      have e : rd (a ++ [x] ++ inv (b ++ [x])) = rd (a ++ inv b) := by
        apply Same.rd_eq
        rw [inv_app]
        have e1 : a ++ [x] ++ (inv [x] ++ inv b) = a ++ [x, x ^^^ 1] ++ inv b := by simp [inv]
        rw [e1]
        have := ((Same.refl a).app (same_pair x)).app (Same.refl (inv b))
        rw [List.append_nil] at this
        exact this
      rw [e] at h3
      have := ih a b u1 u2 (by simpa using hn) (Rd.unsnoc hp).1 (Rd.unsnoc hq).1 k1 k3 h3
      subst this
      exact Run.det hA k2 k4
    · have hr : Rd (a ++ [x] ++ inv (b ++ [y])) := by
        refine Rd_app hp (Rd_inv hq) fun u z hu hz => ?_
        rw [List.getLast?_append] at hu
        simp only [List.getLast?_singleton, Option.some_or, Option.some.injEq] at hu
        subst hu
        rw [inv_app] at hz
        have hz : y ^^^ 1 = z := by simpa [inv] using hz
        subst hz
        intro he
        exact hxy (by have := congrArg (· ^^^ 1) he; simpa [xor_two] using this.symm)
      rw [hr.self] at h3
      obtain ⟨u, k1, k2⟩ := h3.split
      have := Run.det hA h1 k1
      subst this
      have k3 := k2.back hA
      rw [inv_inv] at k3
      exact Run.det hA k3 h2
end
/-! ### two graphs -/
section
variable {δ ε : Nat → Nat → Nat → Prop} {a b N M : Nat}
structure Pair (δ ε : Nat → Nat → Nat → Prop) (a b N M : Nat) : Prop where
  l : Gr δ a N
  r : Gr ε b M
  same : ∀ p, Rd p → (Run δ a p a ↔ Run ε b p b)
theorem Pair.symm (h : Pair δ ε a b N M) : Pair ε δ b a M N := ⟨h.r, h.l, fun p hp => (h.same p hp).symm⟩
def Rch (δ : Nat → Nat → Nat → Prop) (a v : Nat) : Prop := ∃ l, Tr δ a v l ∧ Simp v l
open Classical in
/-- The state of the other graph. -/
noncomputable def to (δ ε : Nat → Nat → Nat → Prop) (a b v : Nat) : Nat := if h : ∃ v' p, Rd p ∧ Run δ a p v ∧ Run ε b p v' then Classical.choose h else 0
theorem Pair.spec (h : Pair δ ε a b N M) {v v' : Nat} {p : List Nat} (hp : Rd p) (h1 : Run δ a p v) (h2 : Run ε b p v') : to δ ε a b v = v' := by
  have hx : ∃ v' p, Rd p ∧ Run δ a p v ∧ Run ε b p v' := ⟨v', p, hp, h1, h2⟩
  unfold to
  rw [dif_pos hx]
  obtain ⟨q, k1, k2, k3⟩ := Classical.choose_spec hx
  refine coset h.r.aut _ q p _ _ rfl k1 hp k3 h2 ?_
  exact (h.same _ (rd_rd _)).1 ((k2.app (h1.back h.l.aut)).rd h.l.aut)
theorem Pair.tr (h : Pair δ ε a b N M) {v : Nat} {l : List (Nat × Nat)} (ht : Tr δ a v l) (hs : Simp v l) : Run ε b (word l) (to δ ε a b v) := by
  obtain ⟨q, h1, h2⟩ := extend h.l ht hs
  obtain ⟨u, k1, k2⟩ := ((h.same _ h1).1 (ht.run.app h2)).split
  rw [h.spec (ht.rd h.l hs) ht.run k1]
  exact k1
theorem Pair.inj (h : Pair δ ε a b N M) {u v : Nat} (hu : Rch δ a u) (hv : Rch δ a v) (he : to δ ε a b u = to δ ε a b v) : u = v := by
  obtain ⟨l, k1, k2⟩ := hu
  obtain ⟨l', k3, k4⟩ := hv
  have h1 := h.tr k1 k2
  have h2 := h.tr k3 k4
  rw [he] at h1
  refine coset h.l.aut _ _ _ _ _ rfl (k1.rd h.l k2) (k3.rd h.l k4) k1.run k3.run ?_
  exact (h.same _ (rd_rd _)).2 ((h1.app (h2.back h.r.aut)).rd h.r.aut)
theorem Pair.step (h : Pair δ ε a b N M) {v x t : Nat} (hv : Rch δ a v) (hx : δ v x t) : ε (to δ ε a b v) x (to δ ε a b t) := by
  obtain ⟨l, k1, k2⟩ := hv
  by_cases hc : ∀ y w, l.head? = some (y, w) → x ≠ y ^^^ 1
  · obtain ⟨q, h1, h2⟩ := close h.l _ v l x t (Nat.le_refl _) k1 k2 hx hc
    obtain ⟨u, e1, e2⟩ := ((h.same _ h1).1 (k1.run.app (.cons hx h2))).split
    have hu := h.spec (k1.rd h.l k2) k1.run e1
    cases e2 with
    | @cons _ _ u' _ _ f1 f2 =>
      have h3 : Rd (word l ++ [x]) := by
        have e : word l ++ x :: q = (word l ++ [x]) ++ q := by simp
        rw [e] at h1
        exact Rd_pre h1
      rw [hu, h.spec h3 (k1.run.app (.one hx)) (e1.app (.one f1))]
      exact f1
  · simp only [Classical.not_forall, Classical.not_not] at hc
    obtain ⟨y, w, hl, rfl⟩ := hc
    cases k1 with
    | nil => simp at hl
    | @step w' y' _ l1 e1 e2 =>
      simp only [List.head?_cons, Option.some.injEq, Prod.mk.injEq] at hl
      obtain ⟨rfl, rfl⟩ := hl
      have := h.l.aut.det _ _ _ _ (h.l.aut.inv _ _ _ e2) hx
      subst this
      have hs1 : Simp w' l1 := (List.nodup_cons.1 k2).2
      have r1 := h.tr (.step e1 e2) k2
      rw [word_cons] at r1
      obtain ⟨z, f1, f2⟩ := r1.split
      rw [h.spec (e1.rd h.l hs1) e1.run f1]
      exact h.r.aut.inv _ _ _ f2.of_one
theorem Pair.rch (h : Pair δ ε a b N M) {v : Nat} {l : List (Nat × Nat)} (hv : Tr δ a v l) (hs : Simp v l) : Rch ε b (to δ ε a b v) := by
  induction hv with
  | nil =>
    rw [h.spec (p := []) trivial (.nil a) (.nil b)]
    exact ⟨[], .nil, by simp [Simp]⟩
  | @step v x u l h1 h2 ih =>
    have hs1 : Simp v l := (List.nodup_cons.1 hs).2
    obtain ⟨l', k1, k2⟩ := ih hs1
    exact reach_step k1 k2 (h.step ⟨l, h1, hs1⟩ h2)
theorem Pair.two (h : Pair δ ε a b N M) {v : Nat} (hv : Rch δ a v) : to ε δ b a (to δ ε a b v) = v := by
  obtain ⟨l, k1, k2⟩ := hv
  exact h.symm.spec (k1.rd h.l k2) (h.tr k1 k2) k1.run
theorem Pair.back (h : Pair δ ε a b N M) {v x t' : Nat} (hv : Rch δ a v) (hx : ε (to δ ε a b v) x t') : ∃ t, δ v x t ∧ t' = to δ ε a b t := by
  obtain ⟨l, k1, k2⟩ := id hv
  have hb := h.rch k1 k2
  have h1 := h.symm.step hb hx
  rw [h.two hv] at h1
  refine ⟨_, h1, ?_⟩
  exact h.r.aut.det _ _ _ _ hx (h.step hv h1)
end
end Go.Proofs.YtffdjfkekdoeaaaDoor.Pl
end
section
/- Foldings of the same subgroup are the same. -/
set_option linter.unusedVariables false
set_option linter.unusedSimpArgs false
set_option maxRecDepth 4000
set_option maxHeartbeats 2000000
namespace Go.Proofs.YtffdjfkekdoeaaaDoor.Pl
open Fo Rf Wd

theorem num_mapG {φ : Nat → Nat} {P : Nat → Prop} (inj : ∀ u v, P u → P v → φ u = φ v → u = v) {ρ ρ' : Nat → Row} (hρ : ∀ v, P v → ρ' (φ v) = (ρ v).map (Option.map φ)) (hP : ∀ v, P v → ∀ t, some t ∈ ρ v → P t) :
    ∀ (K i : Nat) (q : List Nat) (out : List Row), (∀ v ∈ q, P v) → numG ρ' K i (q.map φ) out = numG ρ K i q out
  | 0, _, _, _, _ => rfl
  | K + 1, i, q, out, hq => by
    simp only [numG, List.getElem?_map]
    cases hv : q[i]? with
    | none => rfl
    | some v =>
      have hpv := hq v (List.mem_of_getElem? hv)
      obtain ⟨h1, h2⟩ := bfsRow_map inj (ρ v) q (hP v hpv) hq
      simp only [Option.map_some]
      rw [hρ v hpv, h1]
      exact num_mapG inj hρ hP K (i + 1) _ _ h2
theorem made_gr {m r : Nat} {rows rows' : List (Option Row)} {o : Option (List Row)} (hm : MadeOf m r rows rows' o) (hr : Live rows r) : Gr (To rows') r rows'.length where
  aut := ⟨fun _ _ _ _ a b => a.unique b, hm.wf.inv⟩
  two := hm.two
  lt := fun s x t h => ⟨by obtain ⟨row, h1, _⟩ := h; exact (List.getElem?_eq_some_iff.1 h1).1, live_lt (hm.wf.tgt s x t h)⟩
  r := live_lt ((hm.cut.live r).2 hr)
theorem rch_live {m r : Nat} {rows rows' : List (Option Row)} {o : Option (List Row)} (hm : MadeOf m r rows rows' o) (hr : Live rows r) {v : Nat} (h : Rch (To rows') r v) : Live rows' v := by
  obtain ⟨l, h1, _⟩ := h
  cases h1 with
  | nil => exact (hm.cut.live r).2 hr
  | step _ h2 => exact hm.wf.tgt _ _ _ h2
theorem pair_num {m a b : Nat} {rA rA' rB rB' : List (Option Row)} {oA oB : Option (List Row)} (hA : MadeOf m a rA rA' oA) (hB : MadeOf m b rB rB' oB) (la : Live rA a) (lb : Live rB b)
    (hs : ∀ p, Rd p → (Run (To rA') a p a ↔ Run (To rB') b p b)) (K : Nat) : numG (rowOf rB') K 0 [b] [] = numG (rowOf rA') K 0 [a] [] := by
  have hP : Pair (To rA') (To rB') a b rA'.length rB'.length := ⟨made_gr hA la, made_gr hB lb, hs⟩
  have h0 : to (To rA') (To rB') a b a = b := hP.spec (p := []) trivial (.nil a) (.nil b)
  have := num_mapG (φ := to (To rA') (To rB') a b) (P := Rch (To rA') a) (fun u v hu hv he => hP.inj hu hv he) (ρ := rowOf rA') (ρ' := rowOf rB') (fun v hv => ?_) (fun v hv t ht => ?_) K 0 [a] [] (fun v hv => by
    simp only [List.mem_singleton] at hv; subst hv; exact ⟨[], .nil, by simp [Simp]⟩)
  · rw [List.map_cons, List.map_nil, h0] at this
    exact this
  · obtain ⟨e1, e2, _⟩ := row_live hA.wf (rch_live hA la hv)
    obtain ⟨l, k1, k2⟩ := id hv
    obtain ⟨f1, f2, _⟩ := row_live hB.wf (rch_live hB lb (hP.rch k1 k2))
    apply List.ext_getElem?
    intro x
    rw [List.getElem?_map]
    by_cases hx : x < m
    · have hxa : x < (rowOf rA' v).length := by rw [e2]; exact hx
      have hxb : x < (rowOf rB' (to (To rA') (To rB') a b v)).length := by rw [f2]; exact hx
      rw [List.getElem?_eq_getElem hxa, List.getElem?_eq_getElem hxb]
      simp only [Option.map_some, Option.some.injEq]
      cases ha : (rowOf rA' v)[x] with
      | none =>
        cases hb : (rowOf rB' (to (To rA') (To rB') a b v))[x] with
        | none => rfl
        | some u =>
          exfalso
          obtain ⟨t, ht, _⟩ := hP.back hv (x := x) (t' := u) ⟨_, f1, by rw [List.getElem?_eq_getElem hxb, hb]⟩
          obtain ⟨row, h1, h2⟩ := ht
          rw [e1] at h1; cases h1
          rw [List.getElem?_eq_getElem hxa, ha] at h2; cases h2
      | some t =>
        have ht : To rA' v x t := ⟨_, e1, by rw [List.getElem?_eq_getElem hxa, ha]⟩
        obtain ⟨row, h1, h2⟩ := hP.step hv ht
        rw [f1] at h1; cases h1
        rw [List.getElem?_eq_getElem hxb] at h2
        exact Option.some.inj h2
    · rw [List.getElem?_eq_none (by rw [f2]; omega), List.getElem?_eq_none (by rw [e2]; omega)]; rfl
  · obtain ⟨e1, e2, _⟩ := row_live hA.wf (rch_live hA la hv)
    obtain ⟨x, hx⟩ := List.getElem?_of_mem ht
    obtain ⟨l, k1, k2⟩ := hv
    exact reach_step k1 k2 ⟨_, e1, hx⟩
theorem root_live {E : List Edg} {st : St} (h : Inv E st) (h0 : 0 < st.par.length) : Live (RowsOf st) (rt st.par 0) := by
  obtain ⟨d, hf⟩ := h.ok.forest
  obtain ⟨p, hp⟩ := hf.root _ 0 (Nat.le_refl _) h0
  rw [rt_spec hp]
  exact (live_rows h).2 hp.self
/-- The same subgroup, the same automaton. -/
theorem fold_same {k : Nat} {gens gens' : List ByteArray} {res res' : FoldR} (h : Folded k gens res) (h' : Folded k gens' res') (hm : ∀ p, Mem (gens.map wordF) p ↔ Mem (gens'.map wordF) p) : res = res' := by
  obtain ⟨st, rows, o, i1, i2, i3, i4, rfl⟩ := h.ok
  obtain ⟨st', rows', o', j1, j2, j3, j4, rfl⟩ := h'.ok
  have key := pair_num i4 j4 (root_live i1 i3) (root_live j1 j3) fun p hp => by rw [lang_cut i1 i4 hp, lang_cut j1 j4 hp]; exact hm p
  have uni : ∀ {K K' : Nat} {r r' : List Row}, numG (rowOf rows) K 0 [rt st.par 0] [] = some r → numG (rowOf rows') K' 0 [rt st'.par 0] [] = some r' → r = r' := fun {K K' r r'} h1 h2 => by
    rw [key] at h2
    have a1 := numG_fuel K (K + K') _ _ _ _ (by omega) h1
    have a2 := numG_fuel K' (K + K') _ _ _ _ (by omega) h2
    rw [a1] at a2; exact Option.some.inj a2
  cases ho : o with
  | some r =>
    obtain ⟨⟨K, h1⟩, h2⟩ := i4.yes r ho
    cases ho' : o' with
    | some r' =>
      obtain ⟨⟨K', h1'⟩, h2'⟩ := j4.yes r' ho'
      rw [uni h1 h1']
    | none =>
      obtain ⟨r', ⟨K', h1'⟩, h2'⟩ := j4.no ho'
      have := uni h1 h1'
      subst this; omega
  | none =>
    obtain ⟨r, ⟨K, h1⟩, h2⟩ := i4.no ho
    cases ho' : o' with
    | some r' =>
      obtain ⟨⟨K', h1'⟩, h2'⟩ := j4.yes r' ho'
      have := uni h1 h1'
      subst this; omega
    | none => rfl
end Go.Proofs.YtffdjfkekdoeaaaDoor.Pl
end
section
/- What a numbering is: the queue, and each row by places in it. -/
set_option linter.unusedVariables false
set_option linter.unusedSimpArgs false
set_option maxRecDepth 4000
set_option maxHeartbeats 2000000
namespace Go.Proofs.YtffdjfkekdoeaaaDoor.Pl
open Fo Rf Wd

theorem idxOf_pre {q q' : List Nat} (h : q <+: q') {t : Nat} (ht : t ∈ q) : q'.idxOf t = q.idxOf t := by
  obtain ⟨r, rfl⟩ := h
  rw [List.idxOf_append, if_pos ht]
theorem bfsRow_spec : ∀ (row : Row) (q : List Nat), q.Nodup → q <+: (bfsRow row q).1 ∧ (bfsRow row q).1.Nodup ∧ (bfsRow row q).2 = row.map (Option.map (bfsRow row q).1.idxOf) ∧ ∀ t, some t ∈ row → t ∈ (bfsRow row q).1
  | [], q, hq => ⟨List.prefix_refl _, hq, rfl, fun t ht => by simp at ht⟩
  | none :: l, q, hq => by
    obtain ⟨h1, h2, h3, h4⟩ := bfsRow_spec l q hq
    refine ⟨h1, h2, ?_, fun t ht => h4 t (by simpa using ht)⟩
    simp only [bfsRow, List.map_cons, Option.map_none]
    rw [← h3]
  | some t :: l, q, hq => by
    by_cases ht : t ∈ q
    · obtain ⟨h1, h2, h3, h4⟩ := bfsRow_spec l q hq
      have e : bfsRow (some t :: l) q = ((bfsRow l q).1, some (q.idxOf t) :: (bfsRow l q).2) := by simp only [bfsRow]; rw [if_pos ht]
      rw [e]
      refine ⟨h1, h2, ?_, fun u hu => ?_⟩
      · show some (q.idxOf t) :: (bfsRow l q).2 = some ((bfsRow l q).1.idxOf t) :: l.map (Option.map (bfsRow l q).1.idxOf)
        rw [idxOf_pre h1 ht, ← h3]
      · rcases List.mem_cons.1 hu with hu | hu
        · cases hu; exact h1.subset ht
        · exact h4 u hu
    · have hq' : (q ++ [t]).Nodup := by
        rw [List.nodup_append]
        exact ⟨hq, by simp, fun a ha b hb => by simp only [List.mem_singleton] at hb; subst hb; exact fun he => ht (he ▸ ha)⟩
      obtain ⟨h1, h2, h3, h4⟩ := bfsRow_spec l (q ++ [t]) hq'
      have e : bfsRow (some t :: l) q = ((bfsRow l (q ++ [t])).1, some q.length :: (bfsRow l (q ++ [t])).2) := by simp only [bfsRow]; rw [if_neg ht]
      rw [e]
      have hm : t ∈ q ++ [t] := by simp
      refine ⟨List.IsPrefix.trans (List.prefix_append _ _) h1, h2, ?_, fun u hu => ?_⟩
      · show some q.length :: (bfsRow l (q ++ [t])).2 = some ((bfsRow l (q ++ [t])).1.idxOf t) :: l.map (Option.map (bfsRow l (q ++ [t])).1.idxOf)
        rw [idxOf_pre h1 hm, ← h3, List.idxOf_append, if_neg ht]
        simp
      · rcases List.mem_cons.1 hu with hu | hu
        · cases hu; exact h1.subset hm
        · exact h4 u hu
/-- The queue of a numbering. -/
structure NumOf (ρ : Nat → Row) (q0 q : List Nat) (res : List Row) : Prop where
  pre : q0 <+: q
  nd : q.Nodup
  len : res.length = q.length
  row : ∀ (j v : Nat), q[j]? = some v → res[j]? = some ((ρ v).map (Option.map q.idxOf)) ∧ ∀ t, some t ∈ ρ v → t ∈ q
  all : ∀ P : Nat → Prop, (∀ v ∈ q0, P v) → (∀ v, P v → ∀ t, some t ∈ ρ v → P t) → ∀ v ∈ q, P v
theorem numG_spec {ρ : Nat → Row} : ∀ (K i : Nat) (q : List Nat) (out res : List Row), q.Nodup → out.length = i → i ≤ q.length → (∀ (j v : Nat), j < i → q[j]? = some v → out[j]? = some ((ρ v).map (Option.map q.idxOf)) ∧ ∀ t, some t ∈ ρ v → t ∈ q) → numG ρ K i q out = some res →
    ∃ q', NumOf ρ q q' res
  | 0, _, _, _, _, _, _, _, _, h => by simp [numG] at h
  | K + 1, i, q, out, res, hn, ho, hi, hr, h => by
    simp only [numG] at h
    split at h
    · rename_i hv
      cases h
      have hl : q.length ≤ i := by simpa using hv
      refine ⟨q, List.prefix_refl _, hn, by omega, fun j v hj => hr j v ?_ hj, fun P h1 _ => h1⟩
      have := (List.getElem?_eq_some_iff.1 hj).1
      omega
    · rename_i v hv
      have hlt := (List.getElem?_eq_some_iff.1 hv).1
      obtain ⟨h1, h2, h3, h4⟩ := bfsRow_spec (ρ v) q hn
      have hll := h1.length_le
      have hstep : ∀ (j u : Nat), j < i + 1 → (bfsRow (ρ v) q).1[j]? = some u → (out ++ [(bfsRow (ρ v) q).2])[j]? = some ((ρ u).map (Option.map (bfsRow (ρ v) q).1.idxOf)) ∧ ∀ t, some t ∈ ρ u → t ∈ (bfsRow (ρ v) q).1 := fun j u hj hu => by
        have hqj : q[j]? = some u := by
          obtain ⟨tl, htl⟩ := h1
          rw [← htl, List.getElem?_append_left (by omega)] at hu
          exact hu
        by_cases hji : j < i
        · obtain ⟨k1, k2⟩ := hr j u hji hqj
          refine ⟨?_, fun t ht => h1.subset (k2 t ht)⟩
          rw [List.getElem?_append_left (by omega), k1]
          congr 1
          refine List.map_congr_left fun o ho' => ?_
          cases o with
          | none => rfl
          | some t => simp only [Option.map_some]; rw [idxOf_pre h1 (k2 t ho')]
        · have hj' : j = i := by omega
          subst hj'
          rw [hv] at hqj; cases hqj
          rw [List.getElem?_append_right (by omega), ho, Nat.sub_self]
          exact ⟨by rw [← h3]; rfl, h4⟩
      obtain ⟨q', hq'⟩ := numG_spec K (i + 1) _ _ res h2 (by simp [ho]) (by omega) hstep h
      exact ⟨q', h1.trans hq'.pre, hq'.nd, hq'.len, hq'.row, fun P p1 p2 => hq'.all P (bfsRow_map (φ := fun v => v) (P := P) (fun u v _ _ h => h) (ρ v) q (fun t ht => p2 v (p1 v (List.mem_of_getElem? hv)) t ht) p1).2 p2⟩
/-- The numbering of a numbering is itself. -/
theorem num_self {ρ : Nat → Row} {r K : Nat} {res : List Row} (h : numG ρ K 0 [r] [] = some res) : ∃ q, NumOf ρ [r] q res ∧ numG (fun i => res.getD i []) K 0 [0] [] = some res := by
  obtain ⟨q, hq⟩ := numG_spec K 0 [r] [] res (by simp) rfl (by simp) (fun j v hj => by omega) h
  refine ⟨q, hq, ?_⟩
  have hr : r ∈ q := hq.pre.subset (by simp)
  have h0 : q.idxOf r = 0 := by rw [idxOf_pre hq.pre (by simp)]; simp
  have := num_mapG (φ := q.idxOf) (P := fun v => v ∈ q) (fun u v hu hv he => ?_) (ρ := ρ) (ρ' := fun i => res.getD i []) (fun v hv => ?_) (fun v hv t ht => ?_) K 0 [r] [] (fun v hv => by simp only [List.mem_singleton] at hv; subst hv; exact hr)
  · rw [List.map_cons, List.map_nil, h0, h] at this
    exact this
  · have h1 := List.getElem_idxOf (List.idxOf_lt_length_iff.2 hu)
    have h2 := List.getElem_idxOf (List.idxOf_lt_length_iff.2 hv)
    rw [← h1, ← h2]
    simp only [he]
  · have hlt := List.idxOf_lt_length_iff.2 hv
    have hg : q[q.idxOf v]? = some v := by rw [List.getElem?_eq_getElem hlt, List.getElem_idxOf hlt]
    obtain ⟨k1, _⟩ := hq.row _ _ hg
    show res.getD (q.idxOf v) [] = _
    rw [List.getD_eq_getElem?_getD, k1]; rfl
  · have hlt := List.idxOf_lt_length_iff.2 hv
    have hg : q[q.idxOf v]? = some v := by rw [List.getElem?_eq_getElem hlt, List.getElem_idxOf hlt]
    exact (hq.row _ _ hg).2 t ht
end Go.Proofs.YtffdjfkekdoeaaaDoor.Pl
end
section
/- What Fold makes is a subgroup automaton. -/
set_option linter.unusedVariables false
set_option linter.unusedSimpArgs false
set_option maxRecDepth 4000
set_option maxHeartbeats 2000000
namespace Go.Proofs.YtffdjfkekdoeaaaDoor.Pl
open Fo Rf Wd

theorem edges_mem : ∀ (row : List Int) (y : Nat) (e : Int × Int × Unit), e ∈ edgesFrom y row → ∃ i, row[i]? = some e.2.1 ∧ e.1 = ((y + i : Nat) : Int) ∧ 0 ≤ e.2.1
  | [], y, e, h => by simp [edgesFrom] at h
  | t :: l, y, e, h => by
    simp only [edgesFrom] at h
    split at h
    · rename_i ht
      rcases List.mem_cons.1 h with rfl | h
      · exact ⟨0, rfl, rfl, ht⟩
      · obtain ⟨i, h1, h2, h3⟩ := edges_mem l (y + 1) e h
        exact ⟨i + 1, h1, by rw [h2]; congr 1; omega, h3⟩
    · obtain ⟨i, h1, h2, h3⟩ := edges_mem l (y + 1) e h
      exact ⟨i + 1, h1, by rw [h2]; congr 1; omega, h3⟩
/-- What is made, as an automaton: its queue, and where its letters lead. -/
structure Auto (m r : Nat) (rows' : List (Option Row)) (q : List Nat) (R : List Row) : Prop where
  num : NumOf (rowOf rows') [r] q R
  live : ∀ v ∈ q, Live rows' v
  inn : ∀ v ∈ q, v = r ∨ ∃ u x, To rows' u x v
  first : q[0]? = some r
  len : ∀ row ∈ R, row.length = m
  to : ∀ (j v x : Nat), q[j]? = some v → ∀ i, (∃ row, R[j]? = some row ∧ row[x]? = some (some i)) ↔ ∃ t, To rows' v x t ∧ q[i]? = some t
theorem auto_of {m r K : Nat} {rows rows' : List (Option Row)} {o : Option (List Row)} {R : List Row} (hm : MadeOf m r rows rows' o) (hr : Live rows r) (h : numG (rowOf rows') K 0 [r] [] = some R) : ∃ q, Auto m r rows' q R := by
  obtain ⟨q, hq⟩ := numG_spec K 0 [r] [] R (by simp) rfl (by simp) (fun j v hj => by omega) h
  have hall := hq.all (fun v => Live rows' v ∧ (v = r ∨ ∃ u x, To rows' u x v)) (fun v hv => by simp only [List.mem_singleton] at hv; subst hv; exact ⟨(hm.cut.live v).2 hr, .inl rfl⟩) (fun v hv t ht => by
    obtain ⟨e1, e2, e3⟩ := row_live hm.wf hv.1
    obtain ⟨x, hx⟩ := List.getElem?_of_mem ht
    exact ⟨e3 t ht, .inr ⟨v, x, _, e1, hx⟩⟩)
  refine ⟨q, hq, fun v hv => (hall v hv).1, fun v hv => (hall v hv).2, ?_, fun row hrow => ?_, fun j v x hj i => ?_⟩
  · obtain ⟨tl, htl⟩ := hq.pre
    rw [← htl]; rfl
  · obtain ⟨j, hj⟩ := List.getElem?_of_mem hrow
    have hlt : j < q.length := by rw [← hq.len]; exact (List.getElem?_eq_some_iff.1 hj).1
    have hg : q[j]? = some q[j] := List.getElem?_eq_getElem hlt
    obtain ⟨k1, _⟩ := hq.row j _ hg
    rw [hj] at k1; cases k1
    rw [List.length_map]
    exact (row_live hm.wf (hall _ (List.getElem_mem hlt)).1).2.1
  · obtain ⟨k1, k2⟩ := hq.row j v hj
    obtain ⟨e1, e2, e3⟩ := row_live hm.wf (hall v (List.mem_of_getElem? hj)).1
    constructor
    · rintro ⟨row, h1, h2⟩
      rw [k1] at h1; cases h1
      rw [List.getElem?_map] at h2
      cases hx : (rowOf rows' v)[x]? with
      | none => rw [hx] at h2; cases h2
      | some o =>
        rw [hx] at h2
        cases o with
        | none => cases h2
        | some t =>
          simp only [Option.map_some, Option.some.injEq] at h2
          have ht := k2 t (List.mem_of_getElem? hx)
          have hlt := List.idxOf_lt_length_iff.2 ht
          refine ⟨t, ⟨_, e1, hx⟩, ?_⟩
          rw [← h2, List.getElem?_eq_getElem hlt, List.getElem_idxOf hlt]
    · rintro ⟨t, ⟨row, h1, h2⟩, h3⟩
      rw [e1] at h1; cases h1
      refine ⟨_, k1, ?_⟩
      rw [List.getElem?_map, h2]
      simp only [Option.map_some, Option.some.injEq]
      have hlt := (List.getElem?_eq_some_iff.1 h3)
      obtain ⟨hi, ht⟩ := hlt
      rw [← ht]
      exact hq.nd.idxOf_getElem i hi
theorem accF_get {n s : Nat} (h : s < n) : (accF n).getD s false = (s == 0) := by
  unfold accF
  rw [List.getD_eq_getElem?_getD, List.getElem?_map, List.getElem?_range h]; rfl
theorem next_get {R : List Row} {j x i : Nat} {row : Row} (h1 : R[j]? = some row) (h2 : row[x]? = some (some i)) : getN (R.map (·.map ofO)) j x = (i : Int) := by
  have e : (R.map (·.map ofO)).getD j [] = row.map ofO := by rw [List.getD_eq_getElem?_getD, List.getElem?_map, h1]; rfl
  unfold getN
  rw [e, List.getD_eq_getElem?_getD, List.getElem?_map, h2]; rfl
theorem Auto.next {m r : Nat} {rows' : List (Option Row)} {q : List Nat} {R : List Row} (h : Auto m r rows' q R) {v x t : Nat} {j : Nat} (hj : q[j]? = some v) (ht : To rows' v x t) : ∃ i : Nat, q[i]? = some t := by
  obtain ⟨row, h1, h2⟩ := ht
  have : rowOf rows' v = row := by unfold rowOf; rw [h1]
  have hm := (h.num.row j v hj).2 t (by rw [this]; exact List.mem_of_getElem? h2)
  exact List.getElem?_of_mem hm
theorem good {k r K : Nat} (hk : 1 ≤ k ∧ k ≤ 8) {rows rows' : List (Option Row)} {o : Option (List Row)} {q : List Nat} {R : List Row} (hm : MadeOf (2 * k) r rows rows' o) (hA : Auto (2 * k) r rows' q R) (h2 : R.length ≤ 2000) (h : numG (rowOf rows') K 0 [r] [] = some R) :
    (autE k R).check (k : Int) = 0 := by
  have hql := hA.num.len
  have h1 : 1 ≤ R.length := by
    rw [hql]
    have := (List.getElem?_eq_some_iff.1 hA.first).1
    omega
  have tgt : ∀ row ∈ R, ∀ t, some t ∈ row → t < R.length := fun row hrow t ht => by
    obtain ⟨j, hj⟩ := List.getElem?_of_mem hrow
    obtain ⟨x, hx⟩ := List.getElem?_of_mem ht
    have hlt : j < q.length := by rw [← hql]; exact (List.getElem?_eq_some_iff.1 hj).1
    obtain ⟨u, _, hu⟩ := (hA.to j _ x (List.getElem?_eq_getElem hlt) t).1 ⟨row, hj, hx⟩
    rw [hql]; exact (List.getElem?_eq_some_iff.1 hu).1
  have hrows : ∀ rr ∈ (R.map (·.map ofO)), rr.length = 2 * k ∧ ∀ t ∈ rr, -1 ≤ t ∧ t < ((R.map (·.map ofO)).length : Int) := fun rr hrr => by
    obtain ⟨row, hrow, rfl⟩ := List.mem_map.1 hrr
    refine ⟨by rw [List.length_map]; exact hA.len row hrow, fun t ht => ?_⟩
    obtain ⟨o, ho, rfl⟩ := List.mem_map.1 ht
    rw [List.length_map]
    cases o with
    | none => simp only [ofO]; omega
    | some i => have := tgt row hrow i ho; simp only [ofO]; omega
  have hloc : ∀ (s : Nat) (rr : List Int), (R.map (·.map ofO))[s]? = some rr → rowLocal (R.map (·.map ofO)) s rr = true := fun s rr hs => by
    rw [List.getElem?_map] at hs
    cases hR : R[s]? with
    | none => rw [hR] at hs; cases hs
    | some row =>
      rw [hR] at hs
      simp only [Option.map_some, Option.some.injEq] at hs
      subst hs
      unfold rowLocal
      rw [List.all_eq_true]
      intro e he
      obtain ⟨i, e1, e2, e3⟩ := edges_mem _ 0 e he
      rw [List.getElem?_map] at e1
      cases hi : row[i]? with
      | none => rw [hi] at e1; cases e1
      | some o =>
        rw [hi] at e1
        cases o with
        | none => simp only [Option.map_some, ofO, Option.some.injEq] at e1; omega
        | some t =>
          simp only [Option.map_some, ofO, Option.some.injEq] at e1
          have hlt : s < q.length := by rw [← hql]; exact (List.getElem?_eq_some_iff.1 hR).1
          have hg : q[s]? = some q[s] := List.getElem?_eq_getElem hlt
          obtain ⟨u, k1, k2⟩ := (hA.to s _ i hg t).1 ⟨row, hR, hi⟩
          obtain ⟨row', f1, f2⟩ := (hA.to t u (i ^^^ 1) k2 s).2 ⟨_, hm.wf.inv _ _ _ k1, hg⟩
          rw [← e1, e2, Nat.zero_add, Int.toNat_natCast, Int.toNat_natCast, next_get f1 f2]
          simp
  have hdeg : ∀ (s : Nat) (row : Row), R[s]? = some row → 0 < s → 2 ≤ degF row := fun s row hR hs => by
    have hlt : s < q.length := by rw [← hql]; exact (List.getElem?_eq_some_iff.1 hR).1
    have hg : q[s]? = some q[s] := List.getElem?_eq_getElem hlt
    have hne : q[s] ≠ r := fun he => by
      have h0 := (List.getElem?_eq_some_iff.1 hA.first)
      obtain ⟨h00, h01⟩ := h0
      have := (List.getElem_inj (h₀ := hlt) (h₁ := h00) hA.num.nd).1 (by rw [he, h01])
      omega
    rcases hA.inn _ (List.getElem_mem hlt) with he | ⟨u, x, hu⟩
    · exact absurd he hne
    · have hb := hm.wf.inv _ _ _ hu
      obtain ⟨x', t', hx, hb'⟩ := hm.two _ _ _ hb hne
      obtain ⟨i, hi⟩ := hA.next hg hb
      obtain ⟨i', hi'⟩ := hA.next hg hb'
      obtain ⟨r1, a1, a2⟩ := (hA.to s _ _ hg i).2 ⟨_, hb, hi⟩
      obtain ⟨r2, b1, b2⟩ := (hA.to s _ _ hg i').2 ⟨_, hb', hi'⟩
      rw [hR] at a1 b1
      cases a1; cases b1
      by_cases hd : degF row ≤ 1
      · exact absurd (deg_one row hd _ _ _ _ b2 a2) hx
      · omega
  have hlen : (accF R.length).length = R.length := by unfold accF; simp
  have hfsa : fsaF ((2 * k : Nat) : Int) 0 (accF R.length) (R.map (·.map ofO)) = 0 := by
    unfold fsaF
    rw [if_neg (by rw [hlen, List.length_map]; omega), if_neg]
    rw [Bool.not_eq_true, List.any_eq_false]
    intro rr hrr
    obtain ⟨g1, g2⟩ := hrows rr hrr
    unfold badRow
    rw [Bool.not_eq_true, Bool.or_eq_false_iff]
    refine ⟨by simp [g1], ?_⟩
    rw [List.any_eq_false]
    intro t ht
    have := g2 t ht
    rw [List.length_map] at this
    rw [hlen]
    simp; omega
  have hI : isM (k : Int) (autE k R) = true := by
    have hacc0 : (accF R.length).getD 0 false = true := by rw [accF_get (by omega)]; rfl
    unfold isM
    show (decide (fsaF ((2 * k : Nat) : Int) 0 (accF R.length) (R.map (·.map ofO)) = 0) && (decide (((2 * k : Nat) : Int) = 2 * (k : Int)) && (decide (1 ≤ (accF R.length).length) && (decide ((accF R.length).length ≤ 2000) && (decide ((0 : Int) = 0) && ((accF R.length).getD 0 false && (localAll (accF R.length) (R.map (·.map ofO)) 0 (R.map (·.map ofO)) && sameF (autE k R) (autE k (numR k (R.map (·.map ofO)))))))))) ) = true
    have hla : localAll (accF R.length) (R.map (·.map ofO)) 0 (R.map (·.map ofO)) = true := by
      rw [localAll_iff]
      intro s rr hs
      rw [Nat.zero_add]
      refine (localS_iff hacc0).2 ⟨accF_get (by have := (List.getElem?_eq_some_iff.1 hs).1; simpa using this), fun h0 => ?_, hloc s rr hs⟩
      rw [List.getElem?_map] at hs
      cases hR : R[s]? with
      | none => rw [hR] at hs; cases hs
      | some row =>
        rw [hR] at hs
        simp only [Option.map_some, Option.some.injEq] at hs
        subst hs
        have e : (row.map ofO).map toO = row := by
          rw [List.map_map]
          conv => rhs; rw [← List.map_id row]
          exact List.map_congr_left fun o _ => toO_ofO o
        rw [e]
        exact hdeg s row hR h0
    have hnum : numR k (R.map (·.map ofO)) = R := by
      obtain ⟨q', hq', hself⟩ := num_self h
      have hlt := graphL_lt (k := k) (next := R.map (·.map ofO)) (fun rr hrr t ht => ((hrows rr hrr).2 t ht).2) (by rw [List.length_map]; omega)
      obtain ⟨res, hres⟩ := numE_some (k := k) hlt ((R.map (·.map ofO)).length + 1) 0 [0] [] (by simp) (by simp; omega) (by simp) (by omega)
      have hmap := num_map (φ := fun v => v) (P := fun v => v < R.length) (fun u v _ _ h => h) (k := k) (es := graphL k 0 (R.map (·.map ofO))) (ρ := fun i => R.getD i []) (fun v hv => ?_) (fun v hv t ht => ?_) ((R.map (·.map ofO)).length + 1) 0 [0] [] (by simp; omega)
      · rw [show List.map (fun v : Nat => v) [0] = [0] from rfl] at hmap
        rw [hmap] at hres
        have a1 := numG_fuel _ (K + (R.map (·.map ofO)).length + 1) _ _ _ _ (by omega) hres
        have a2 := numG_fuel _ (K + (R.map (·.map ofO)).length + 1) _ _ _ _ (by omega) hself
        rw [a2] at a1
        unfold numR
        rw [hmap, hres]
        exact (Option.some.inj a1).symm
      · have hRv : R[v]? = some R[v] := List.getElem?_eq_getElem hv
        have e1 : R.getD v [] = R[v] := by rw [List.getD_eq_getElem?_getD, hRv]; rfl
        show rowE k _ v = (R.getD v []).map (Option.map fun v => v)
        rw [e1]
        apply List.ext_getElem?
        intro x
        have hl := hA.len _ (List.getElem_mem hv)
        by_cases hx : x < 2 * k
        · rw [rowE_get hx, step_graph hk.2 hrows hloc (by rw [List.length_map]; exact hv) hx]
          have hxl : x < R[v].length := by omega
          rw [List.getElem?_map, List.getElem?_eq_getElem hxl]
          have e : (R.map (·.map ofO)).getD v [] = R[v].map ofO := by rw [List.getD_eq_getElem?_getD, List.getElem?_map, hRv]; rfl
          unfold getN
          rw [e, List.getD_eq_getElem?_getD, List.getElem?_map, List.getElem?_eq_getElem hxl]
          simp only [Option.map_some, Option.getD_some, toO_ofO]
          cases R[v][x] <;> rfl
        · rw [List.getElem?_eq_none (by rw [rowE_len]; omega), List.getElem?_eq_none (by rw [List.length_map]; omega)]
      · have hRv : R[v]? = some R[v] := List.getElem?_eq_getElem hv
        have e1 : R.getD v [] = R[v] := by rw [List.getD_eq_getElem?_getD, hRv]; rfl
        have ht : some t ∈ R.getD v [] := ht
        rw [e1] at ht
        exact tgt _ (List.getElem_mem hv) t ht
    rw [hfsa, hacc0, hla, hnum]
    have e2 : decide (((2 * k : Nat) : Int) = 2 * (k : Int)) = true := by simp
    rw [e2, hlen, decide_eq_true h1, decide_eq_true h2]
    simp [sameF]
  have := isM_check (k := (k : Int)) (by omega) (autE k R)
  rw [hI] at this
  exact of_decide_eq_true this.symm
end Go.Proofs.YtffdjfkekdoeaaaDoor.Pl
end
section
/- Nielsen moves keep the subgroup. -/
set_option linter.unusedVariables false
set_option linter.unusedSimpArgs false
set_option maxRecDepth 4000
set_option maxHeartbeats 2000000
namespace Go.Proofs.YtffdjfkekdoeaaaDoor.Pl
open Fo Rf Wd

def ix (b : UInt8) : Nat := (idxF (ofB b)).toNat
theorem ix_L {x : Nat} (h : x < 16) : ix (L x) = x := by
  have := L_idx ⟨x, h⟩
  dsimp only at this
  unfold ix; rw [this]; rfl
theorem other_L {x : Nat} (h : x < 16) : otherB (L x) = L (x ^^^ 1) := L_other ⟨x, h⟩
theorem xor16 {x : Nat} (h : x < 16) : x ^^^ 1 < 16 := (xor_xor ⟨x, h⟩).2
/-- A word's letters, as they stand. -/
def rawF (s : ByteArray) : List Nat := s.data.toList.map ix
theorem red_step {out : List UInt8} {c : UInt8} (ho : Good out) (hc : ∃ x, x < 16 ∧ c = L x) : (redStep out c).map ix = rdS (out.map ix) (ix c) ∧ Good (redStep out c) := by
  obtain ⟨x, hx, rfl⟩ := hc
  unfold redStep rdS
  rw [List.getLast?_map]
  cases hl : out.getLast? with
  | none =>
    rw [if_neg (by simp), if_neg (by simp)]
    refine ⟨by simp, ho.app fun b hb => ?_⟩
    simp only [List.mem_singleton] at hb
    exact ⟨x, hx, hb⟩
  | some d =>
    obtain ⟨z, hz, rfl⟩ := ho d (List.mem_of_getLast? hl)
    have hiff : L z = otherB (L x) ↔ ix (L z) = ix (L x) ^^^ 1 := by
      rw [other_L hx, ix_L hz, ix_L hx]
      constructor
      · intro h
        have := congrArg ix h
        rwa [ix_L hz, ix_L (xor16 hx)] at this
      · intro h; rw [h]
    simp only [Option.map_some, Option.some.injEq]
    by_cases h : L z = otherB (L x)
    · rw [if_pos h, if_pos (hiff.1 h)]
      exact ⟨List.map_dropLast .., fun b hb => ho b ((List.dropLast_sublist out).mem hb)⟩
    · rw [if_neg h, if_neg (fun k => h (hiff.2 k))]
      refine ⟨by simp, ho.app fun b hb => ?_⟩
      simp only [List.mem_singleton] at hb
      exact ⟨x, hx, hb⟩
theorem red_raw : ∀ (l out : List UInt8), Good out → Good l → (l.foldl redStep out).map ix = act (out.map ix) (l.map ix)
  | [], out, _, _ => rfl
  | c :: l, out, ho, hl => by
    obtain ⟨h1, h2⟩ := red_step ho (hl c (by simp))
    have := red_raw l (redStep out c) h2 fun b hb => hl b (by simp [hb])
    rw [List.foldl_cons, this, h1]; rfl
theorem good_word {k : Int} {s : ByteArray} (h : checkF k s = 0) : Good s.data.toList := fun b hb => by
  obtain ⟨h1, h2, h3, h4⟩ := check_bad h
  unfold hasBad at h4
  rw [List.any_eq_false] at h4
  have := h4 b hb
  rw [Bool.not_eq_true] at this
  simp only [badF, Bool.or_eq_false_iff] at this
  have t1 := of_decide_eq_false this.1
  have t2 := of_decide_eq_false this.2.1
  obtain ⟨x, hx⟩ := L_of ⟨b.toNat, UInt8.toNat_lt b⟩ (by dsimp only; omega) (by dsimp only; omega)
  refine ⟨x.val, x.isLt, ?_⟩
  dsimp only at hx
  rw [← hx]
  simp
theorem word_raw {s : ByteArray} (h : Good s.data.toList) : wordF s = rd (rawF s) := red_raw s.data.toList [] (fun b hb => by simp at hb) h
theorem same_raw {s : ByteArray} (h : Good s.data.toList) : Same (wordF s) (rawF s) := by rw [word_raw h]; exact same_rd _
theorem raw_app (a b : ByteArray) : rawF (a ++ b) = rawF a ++ rawF b := by unfold rawF; rw [app_list, List.map_append]
theorem word_app {a b : ByteArray} (ha : Good a.data.toList) (hb : Good b.data.toList) : Same (wordF (a ++ b)) (wordF a ++ wordF b) := by
  have h : Good (a ++ b).data.toList := by rw [app_list]; exact ha.app hb
  refine (same_raw h).trans ?_
  rw [raw_app]
  exact ((same_raw ha).app (same_raw hb)).symm
theorem raw_inv {s : ByteArray} (h : Good s.data.toList) (h8 : checkF 8 s = 0) : rawF (InverseF s) = inv (rawF s) := by
  unfold InverseF
  rw [if_pos h8]
  unfold rawF inv invF
  show ((s.data.toList.map otherB).reverse.toArray).toList.map ix = _
  rw [List.toList_toArray, List.map_reverse, List.map_map, List.map_map]
  congr 1
  refine List.map_congr_left fun b hb => ?_
  obtain ⟨x, hx, rfl⟩ := h b hb
  show ix (otherB (L x)) = ix (L x) ^^^ 1
  rw [other_L hx, ix_L hx, ix_L (xor16 hx)]
theorem word_inv {s : ByteArray} (h : Good s.data.toList) (h8 : checkF 8 s = 0) : Good (InverseF s).data.toList ∧ Same (wordF (InverseF s)) (inv (wordF s)) := by
  have hg : Good (InverseF s).data.toList := by
    unfold InverseF
    rw [if_pos h8]
    exact h.inv
  refine ⟨hg, (same_raw hg).trans ?_⟩
  rw [raw_inv h h8]
  exact (same_raw h).symm.inv
theorem mem_of {gens : List ByteArray} {s : ByteArray} (h : s ∈ gens) : Mem (gens.map wordF) (wordF s) := .gen (List.mem_map_of_mem h)
/-- Words that lie in each other's subgroups. -/
theorem mem_both {gens gens' : List ByteArray} (h : ∀ s ∈ gens', Mem (gens.map wordF) (wordF s)) (h' : ∀ s ∈ gens, Mem (gens'.map wordF) (wordF s)) (p : List Nat) : Mem (gens.map wordF) p ↔ Mem (gens'.map wordF) p := by
  constructor
  · exact Mem.sub fun g hg => by obtain ⟨s, hs, rfl⟩ := List.mem_map.1 hg; exact h' s hs
  · exact Mem.sub fun g hg => by obtain ⟨s, hs, rfl⟩ := List.mem_map.1 hg; exact h s hs
/-- One generator is changed to a word that, with the others, gives it back. -/
theorem move_set {gens : List ByteArray} {i : Nat} {s x : ByteArray} (hi : gens[i]? = some s) (h1 : Mem (gens.map wordF) (wordF x)) (h2 : Mem ((gens.set i x).map wordF) (wordF s)) (p : List Nat) : Mem (gens.map wordF) p ↔ Mem ((gens.set i x).map wordF) p := by
  refine mem_both (fun t ht => ?_) (fun t ht => ?_) p
  · rcases List.mem_or_eq_of_mem_set ht with ht | rfl
    · exact mem_of ht
    · exact h1
  · obtain ⟨j, hj⟩ := List.getElem?_of_mem ht
    by_cases hij : i = j
    · subst hij
      rw [hi] at hj; cases hj
      exact h2
    · exact mem_of (List.mem_of_getElem? (i := j) (by rw [List.getElem?_set_ne hij]; exact hj))
theorem Mem.cat {gens : List ByteArray} {a b : ByteArray} (ha : Good a.data.toList) (hb : Good b.data.toList) (h1 : Mem (gens.map wordF) (wordF a)) (h2 : Mem (gens.map wordF) (wordF b)) : Mem (gens.map wordF) (wordF (a ++ b)) :=
  .same (h1.mul h2) (word_app ha hb).symm
theorem Mem.uncat {gens : List ByteArray} {a b : ByteArray} (ha : Good a.data.toList) (hb : Good b.data.toList) (h1 : Mem (gens.map wordF) (wordF (a ++ b))) (h2 : Mem (gens.map wordF) (wordF b)) : Mem (gens.map wordF) (wordF a) := by
  refine .same (h1.mul h2.neg) ?_
  have := (word_app ha hb).app (Same.refl (Pl.inv (wordF b)))
  refine this.trans ?_
  rw [List.append_assoc]
  have := (Same.refl (wordF a)).app (same_inv (wordF b))
  rwa [List.append_nil] at this
end Go.Proofs.YtffdjfkekdoeaaaDoor.Pl
end
section
/- What the made automaton reads. -/
set_option linter.unusedVariables false
set_option linter.unusedSimpArgs false
set_option maxRecDepth 4000
set_option maxHeartbeats 2000000
namespace Go.Proofs.YtffdjfkekdoeaaaDoor.Pl
open Fo Rf Wd

section
variable {m r : Nat} {rows' : List (Option Row)} {q : List Nat} {R : List Row}
theorem Auto.getN (h : Auto m r rows' q R) {j v x : Nat} (hj : q[j]? = some v) (hx : x < m) : (∃ t i : Nat, To rows' v x t ∧ q[i]? = some t ∧ Fo.getN (R.map (·.map ofO)) j x = (i : Int)) ∨ ((∀ t, ¬ To rows' v x t) ∧ Fo.getN (R.map (·.map ofO)) j x = -1) := by
  obtain ⟨k1, k2⟩ := h.num.row j v hj
  have hl := h.len _ (List.mem_of_getElem? k1)
  have hxl : x < ((rowOf rows' v).map (Option.map q.idxOf)).length := by rw [hl]; exact hx
  cases ho : ((rowOf rows' v).map (Option.map q.idxOf))[x] with
  | some i =>
    have hx' : ((rowOf rows' v).map (Option.map q.idxOf))[x]? = some (some i) := by rw [List.getElem?_eq_getElem hxl, ho]
    obtain ⟨t, h1, h2⟩ := (h.to j v x hj i).1 ⟨_, k1, hx'⟩
    exact .inl ⟨t, i, h1, h2, next_get k1 hx'⟩
  | none =>
    refine .inr ⟨fun t ht => ?_, ?_⟩
    · obtain ⟨i, hi⟩ := h.next hj ht
      obtain ⟨row, e1, e2⟩ := (h.to j v x hj i).2 ⟨t, ht, hi⟩
      rw [k1] at e1; cases e1
      rw [List.getElem?_eq_getElem hxl, ho] at e2; cases e2
    · have e : (R.map (·.map ofO)).getD j [] = ((rowOf rows' v).map (Option.map q.idxOf)).map ofO := by rw [List.getD_eq_getElem?_getD, List.getElem?_map, k1]; rfl
      unfold Fo.getN
      rw [e, List.getD_eq_getElem?_getD, List.getElem?_map, List.getElem?_eq_getElem hxl, ho]; rfl
/-- A word leads from a place to another one just if it is read so. -/
theorem Auto.leads (h : Auto m r rows' q R) : ∀ (l : List Nat) (j v : Nat), q[j]? = some v → (∀ x ∈ l, x < m) → ∀ (i t : Nat), q[i]? = some t → (leadsF (R.map (·.map ofO)) l j = (i : Int) ↔ Run (To rows') v l t)
  | [], j, v, hj, _, i, t, hi => by
    simp only [leadsF]
    constructor
    · intro he
      have : j = i := by omega
      subst this
      rw [hj] at hi; cases hi
      exact .nil v
    · intro hr
      cases hr
      obtain ⟨h1, h2⟩ := List.getElem?_eq_some_iff.1 hj
      obtain ⟨h3, h4⟩ := List.getElem?_eq_some_iff.1 hi
      have := (List.getElem_inj (h₀ := h1) (h₁ := h3) h.num.nd).1 (by rw [h2, h4])
      omega
  | x :: l, j, v, hj, hl, i, t, hi => by
    have hx := hl x (by simp)
    have hrest : ∀ y ∈ l, y < m := fun y hy => hl y (by simp [hy])
    have hs : leadsF (R.map (·.map ofO)) (x :: l) j = if Fo.getN (R.map (·.map ofO)) j x < 0 then Fo.getN (R.map (·.map ofO)) j x else leadsF (R.map (·.map ofO)) l (Fo.getN (R.map (·.map ofO)) j x).toNat := rfl
    rw [hs]
    rcases h.getN hj hx with ⟨u, a, h1, h2, h3⟩ | ⟨h1, h3⟩
    · rw [h3, if_neg (by omega), Int.toNat_natCast, Auto.leads h l a u h2 hrest i t hi]
      constructor
      · exact fun hr => .cons h1 hr
      · intro hr
        cases hr with
        | cons k1 k2 =>
          have := h1.unique k1
          subst this
          exact k2
    · rw [h3, if_pos (by omega)]
      constructor
      · intro he; omega
      · intro hr
        cases hr with
        | cons k1 k2 => exact absurd k1 (h1 _)
end
/-- The made automaton reads the subgroup. -/
theorem reads {k : Nat} {gens : List ByteArray} {st : St} (hi : Inv (allE 1 (gens.map wordF)) st) (h0 : 0 < st.par.length) {rows' : List (Option Row)} {o : Option (List Row)} (hm : MadeOf (2 * k) (rt st.par 0) (RowsOf st) rows' o) {q : List Nat} {R : List Row}
    (hA : Auto (2 * k) (rt st.par 0) rows' q R) {l : List Nat} (hl : Rd l) (hx : ∀ x ∈ l, x < 2 * k) : leadsF (R.map (·.map ofO)) l 0 = 0 ↔ Mem (gens.map wordF) l := by
  rw [← lang_cut hi hm hl]
  exact hA.leads l 0 _ hA.first hx 0 _ hA.first
end Go.Proofs.YtffdjfkekdoeaaaDoor.Pl
end
section
/- The basis generates what the automaton reads. -/
set_option linter.unusedVariables false
set_option linter.unusedSimpArgs false
set_option maxRecDepth 4000
set_option maxHeartbeats 2000000
namespace Go.Proofs.YtffdjfkekdoeaaaDoor.Pl
open Fo Rf Wd

/-- The word of a transition beside the tree. -/
def wordB (T : Tree) (s : Nat) (x t : Int) : ByteArray := ReduceF (T.paths.getD s ⟨#[]⟩ ++ letS x ++ InverseF (T.paths.getD t.toNat ⟨#[]⟩))
theorem basE_iff {T : Tree} {s : Nat} {b : ByteArray} : ∀ (l : List (Int × Int × Unit)) (B : Bas), b ∈ (basE T s l B).basis ↔ b ∈ B.basis ∨ ∃ x t u, (x, t, u) ∈ l ∧ x.toNat % 2 = 0 ∧ ((s : Int), x) ∉ T.keys ∧ b = wordB T s x t
  | [], B => by simp [basE]
  | (x, t, u) :: l, B => by
    simp only [basE]
    split
    · rename_i hc
      rw [basE_iff l]
      simp only [List.mem_append, List.mem_cons, List.not_mem_nil, or_false]
      constructor
      · rintro ((h | h) | ⟨x', t', u', h1, h2⟩)
        · exact .inl h
        · exact .inr ⟨x, t, u, .inl rfl, hc.1, hc.2, h⟩
        · exact .inr ⟨x', t', u', .inr h1, h2⟩
      · rintro (h | ⟨x', t', u', h1 | h1, h2, h3, h4⟩)
        · exact .inl (.inl h)
        · simp only [Prod.mk.injEq] at h1
          obtain ⟨rfl, rfl, _⟩ := h1
          exact .inl (.inr h4)
        · exact .inr ⟨x', t', u', h1, h2, h3, h4⟩
    · rename_i hc
      rw [basE_iff l]
      simp only [List.mem_cons]
      constructor
      · rintro (h | ⟨x', t', u', h1, h2⟩)
        · exact .inl h
        · exact .inr ⟨x', t', u', .inr h1, h2⟩
      · rintro (h | ⟨x', t', u', h1 | h1, h2, h3, h4⟩)
        · exact .inl h
        · simp only [Prod.mk.injEq] at h1
          obtain ⟨rfl, rfl, _⟩ := h1
          exact absurd ⟨h2, h3⟩ hc
        · exact .inr ⟨x', t', u', h1, h2, h3, h4⟩
theorem basR_iff {T : Tree} {b : ByteArray} : ∀ (l : List (List Int)) (s : Nat) (B : Bas), b ∈ (basR T s l B).basis ↔ b ∈ B.basis ∨ ∃ i row, l[i]? = some row ∧ ∃ x t u, (x, t, u) ∈ edgesFrom 0 row ∧ x.toNat % 2 = 0 ∧ (((s + i : Nat) : Int), x) ∉ T.keys ∧ b = wordB T (s + i) x t
  | [], s, B => by simp [basR]
  | r :: l, s, B => by
    simp only [basR]
    rw [basR_iff l (s + 1), basE_iff]
    constructor
    · rintro ((h | h) | ⟨i, row, h1, h2⟩)
      · exact .inl h
      · exact .inr ⟨0, r, rfl, h⟩
      · refine .inr ⟨i + 1, row, h1, ?_⟩
        rw [show s + (i + 1) = s + 1 + i by omega]; exact h2
    · rintro (h | ⟨i, row, h1, h2⟩)
      · exact .inl (.inl h)
      · cases i with
        | zero =>
          simp only [List.getElem?_cons_zero, Option.some.injEq] at h1
          subst h1
          exact .inl (.inr h2)
        | succ i =>
          refine .inr ⟨i, row, h1, ?_⟩
          rw [show s + 1 + i = s + (i + 1) by omega]; exact h2
def pathR' (T : Tree) (s : Nat) : List Nat := rawF (T.paths.getD s ⟨#[]⟩)
section
variable {k : Int} {a : Aut}
theorem path_good (hk : k ≤ 8) (hc : a.check k = 0) {s : Nat} (hs : s < a.next.length) : Good ((treeF a.next).paths.getD s ⟨#[]⟩).data.toList ∧ checkF 8 ((treeF a.next).paths.getD s ⟨#[]⟩) = 0 ∧ ((treeF a.next).paths.getD s ⟨#[]⟩).size ≤ 2000 := by
  obtain ⟨h1, h2, h3⟩ := tree_ok hk hc
  obtain ⟨_, _, n1, n2, _⟩ := check_spec hc
  have hm := path_mem (T := treeF a.next) (s := s) (by rw [h1.len]; exact hs)
  have hg : Good ((treeF a.next).paths.getD s ⟨#[]⟩).data.toList := h2.good _ hm
  have hz := h1.small _ hm
  have : ((treeF a.next).paths.getD s ⟨#[]⟩).size ≤ 2000 := by omega
  exact ⟨hg, check_good hg (by omega), this⟩
theorem letS_good {x : Nat} (h : x < 16) : Good (letS (x : Int)).data.toList := fun b hb => by
  rw [letS_list] at hb
  simp only [List.mem_singleton] at hb
  exact ⟨x, h, hb⟩
theorem letS_raw {x : Nat} (h : x < 16) : rawF (letS (x : Int)) = [x] := by
  unfold rawF
  rw [letS_list, List.map_cons, ix_L h]; rfl
/-- What a basis element's word is. -/
theorem wordB_same (hk : k ≤ 8) (hc : a.check k = 0) {s x t : Nat} (hs : s < a.next.length) (ht : t < a.next.length) (hx : x < 16) :
    Same (wordF (wordB (treeF a.next) s (x : Int) (t : Int))) (pathR' (treeF a.next) s ++ [x] ++ inv (pathR' (treeF a.next) t)) := by
  obtain ⟨g1, c1, z1⟩ := path_good hk hc hs
  obtain ⟨g2, c2, z2⟩ := path_good hk hc ht
  obtain ⟨g3, _⟩ := word_inv g2 c2
  unfold wordB pathR'
  rw [Int.toNat_natCast]
  generalize hA : (treeF a.next).paths.getD s ⟨#[]⟩ = A at *
  generalize hB : (treeF a.next).paths.getD t ⟨#[]⟩ = B at *
  have hg : Good (A ++ letS (x : Int) ++ InverseF B).data.toList := by
    rw [app_list, app_list]
    exact (g1.app (letS_good hx)).app g3
  have hinv : (InverseF B).size ≤ 2000 := by
    unfold InverseF
    rw [if_pos c2, size_list]
    unfold invF
    simp
    rw [size_list] at z2
    simpa using z2
  have hsz : (A ++ letS (x : Int) ++ InverseF B).size ≤ 100000 := by
    have e1 : (letS (x : Int)).size = 1 := by rw [size_list, letS_list]; rfl
    have e2 := size_list (InverseF B)
    have e3 := size_list A
    have e4 := size_list (letS (x : Int))
    rw [size_list, app_list, app_list, List.length_append, List.length_append]
    omega
  have hck := check_good hg hsz
  have e : wordF (ReduceF (A ++ letS (x : Int) ++ InverseF B)) = wordF (A ++ letS (x : Int) ++ InverseF B) := by
    unfold wordF
    have : (ReduceF (A ++ letS (x : Int) ++ InverseF B)).data.toList = redF (A ++ letS (x : Int) ++ InverseF B).data.toList := by
      unfold ReduceF; rw [if_pos hck]
    rw [this]
    have h2 : redF (redF (A ++ letS (x : Int) ++ InverseF B).data.toList) = redF (A ++ letS (x : Int) ++ InverseF B).data.toList := redF_red _
    rw [h2]
  rw [e]
  refine (same_raw hg).trans ?_
  rw [raw_app, raw_app, letS_raw hx, raw_inv g2 c2]
  exact Same.refl _
theorem tree_same (hk : k ≤ 8) (hc : a.check k = 0) {s x t : Nat} (ht : getN a.next s x = (t : Int)) (hkey : ((s : Int), (x : Int)) ∈ (treeF a.next).keys) : Same (pathR' (treeF a.next) s ++ [x] ++ inv (pathR' (treeF a.next) t)) [] := by
  obtain ⟨h1, h2, h3⟩ := tree_ok hk hc
  obtain ⟨u', y', t', e1, e2, e3, e4, e5, e6, e7, e8, e9⟩ := h2.keyw _ _ hkey
  have e1 : s = u' := by omega
  have e2 : x = y' := by omega
  subst e1 e2
  rw [ht] at e4
  have e4 : t = t' := by omega
  subst e4
  obtain ⟨_, _, n1, n2, _⟩ := check_spec hc
  have hx : x < 16 := by omega
  unfold pathR' rawF
  rcases e9 with e9 | e9
  · rw [e9, List.map_append, List.map_cons, ix_L hx]
    exact same_inv _
  · rw [e9, List.map_append, List.map_cons, ix_L (xor16 hx)]
    generalize ((treeF a.next).paths.getD t ⟨#[]⟩).data.toList.map ix = Q
    have e : Q ++ [x ^^^ 1] ++ [x] ++ inv Q = Q ++ [x ^^^ 1, x] ++ inv Q := by simp
    show Same (Q ++ [x ^^^ 1] ++ [x] ++ inv Q) []
    rw [e]
    have := ((Same.refl Q).app (same_pair' x)).app (Same.refl (inv Q))
    rw [List.append_nil] at this
    exact this.trans (same_inv Q)
end
end Go.Proofs.YtffdjfkekdoeaaaDoor.Pl
end
section
/- The basis generates what the automaton reads. -/
set_option linter.unusedVariables false
set_option linter.unusedSimpArgs false
set_option maxRecDepth 4000
set_option maxHeartbeats 2000000
namespace Go.Proofs.YtffdjfkekdoeaaaDoor.Pl
open Fo Rf Wd

section
variable {k : Int} {a : Aut}
theorem getN_row (hc : a.check k = 0) {s x : Nat} (hs : s < a.next.length) (hx : x < 2 * k.toNat) : ∃ row, a.next[s]? = some row ∧ x < row.length ∧ getN a.next s x = row.getD x 0 ∧ -1 ≤ row.getD x 0 ∧ row.getD x 0 < (a.next.length : Int) := by
  obtain ⟨_, _, n1, n2, _, _, hrows⟩ := check_spec hc
  have hg : a.next[s]? = some a.next[s] := List.getElem?_eq_getElem hs
  obtain ⟨h1, h2⟩ := hrows _ (List.getElem_mem hs)
  have hxl : x < a.next[s].length := by omega
  refine ⟨_, hg, hxl, ?_, ?_⟩
  · unfold getN; rw [List.getD_eq_getElem?_getD (l := a.next), hg]; rfl
  · rw [getD_get hxl]; exact h2 _ (List.getElem_mem hxl)
theorem edge_bas (hk : k ≤ 8) (hc : a.check k = 0) {s x t : Nat} (hs : s < a.next.length) (hx : x < 2 * k.toNat) (ht : getN a.next s x = (t : Int)) :
    t < a.next.length ∧ Mem ((basF a.next).basis.map wordF) (pathR' (treeF a.next) s ++ [x] ++ inv (pathR' (treeF a.next) t)) := by
  have even : ∀ {s x t : Nat}, s < a.next.length → x < 2 * k.toNat → getN a.next s x = (t : Int) → x % 2 = 0 → ((s : Int), (x : Int)) ∉ (treeF a.next).keys → Mem ((basF a.next).basis.map wordF) (pathR' (treeF a.next) s ++ [x] ++ inv (pathR' (treeF a.next) t)) := fun {s x t} hs hx ht h2 hno => by
    obtain ⟨row, g1, g2, g3, g4, g5⟩ := getN_row hc hs hx
    rw [ht] at g3
    have ht' : t < a.next.length := by omega
    have he := edges_of row 0 x g2 (by omega)
    rw [Nat.zero_add, ← g3] at he
    have hb : wordB (treeF a.next) s (x : Int) (t : Int) ∈ (basF a.next).basis := by
      unfold basF
      rw [basR_iff]
      refine .inr ⟨s, row, g1, (x : Int), (t : Int), (), he, by simpa using h2, ?_, ?_⟩
      · rw [Nat.zero_add]; exact hno
      · rw [Nat.zero_add]
    exact .same (.gen (List.mem_map_of_mem hb)) (wordB_same hk hc hs ht' (by omega))
  obtain ⟨row, g1, g2, g3, g4, g5⟩ := getN_row hc hs hx
  rw [ht] at g3
  have ht' : t < a.next.length := by omega
  refine ⟨ht', ?_⟩
  by_cases hkey : ((s : Int), (x : Int)) ∈ (treeF a.next).keys
  · exact .same .one (tree_same hk hc ht hkey).symm
  · by_cases h2 : x % 2 = 0
    · exact even hs hx ht h2 hkey
    · have hb := back_of hc hs hx (by rw [ht]; omega)
      rw [ht, Int.toNat_natCast] at hb
      have hx1 : x ^^^ 1 < 2 * k.toNat := xor_lt (by omega) hx
      have hno : ((t : Int), ((x ^^^ 1 : Nat) : Int)) ∉ (treeF a.next).keys := fun hk' => by
        obtain ⟨_, hW, _⟩ := tree_ok hk hc
        obtain ⟨u', y', t', e1, e2, e3, e4, e5, e6, e7, e8, e9⟩ := hW.keyw _ _ hk'
        have e1 : t = u' := by omega
        have e2 : x ^^^ 1 = y' := by omega
        subst e1 e2
        rw [hb] at e4
        have e4 : s = t' := by omega
        subst e4
        rw [xor_two] at e7
        exact hkey e7
      have := even ht' hx1 hb (by rw [xor1, if_neg h2]; omega) hno
      have := mem_back this
      rwa [xor_two] at this
theorem path_zero (hk : k ≤ 8) (hc : a.check k = 0) : pathR' (treeF a.next) 0 = [] := by
  obtain ⟨_, hW, _⟩ := tree_ok hk hc
  unfold pathR' rawF
  rw [hW.zero]; rfl
theorem leads_bas (hk : k ≤ 8) (hc : a.check k = 0) : ∀ (l : List Nat) (s t : Nat), s < a.next.length → (∀ x ∈ l, x < 2 * k.toNat) → leadsF a.next l s = (t : Int) → Mem ((basF a.next).basis.map wordF) (pathR' (treeF a.next) s ++ l ++ inv (pathR' (treeF a.next) t))
  | [], s, t, hs, _, h => by
    simp only [leadsF] at h
    have : s = t := by omega
    subst this
    rw [List.append_nil]
    exact .same .one (same_inv _).symm
  | x :: l, s, t, hs, hl, h => by
    have hx := hl x (by simp)
    have hs' : leadsF a.next (x :: l) s = if getN a.next s x < 0 then getN a.next s x else leadsF a.next l (getN a.next s x).toNat := rfl
    rw [hs'] at h
    split at h
    · omega
    · rename_i hp
      obtain ⟨u, hu⟩ := Int.eq_ofNat_of_zero_le (show 0 ≤ getN a.next s x by omega)
      rw [hu, Int.toNat_natCast] at h
      obtain ⟨h1, h2⟩ := edge_bas hk hc hs hx hu
      have ih := leads_bas hk hc l u t h1 (fun y hy => hl y (by simp [hy])) h
      rw [List.append_assoc] at ih
      have := mem_mid h2 ih
      have e : pathR' (treeF a.next) s ++ [x] ++ (l ++ inv (pathR' (treeF a.next) t)) = pathR' (treeF a.next) s ++ x :: l ++ inv (pathR' (treeF a.next) t) := by simp
      rwa [e] at this
/-- What is read from the start to the start is a product of basis elements. -/
theorem reads_bas (hk : k ≤ 8) (hc : a.check k = 0) {l : List Nat} (hl : ∀ x ∈ l, x < 2 * k.toNat) (h : leadsF a.next l 0 = 0) : Mem ((basF a.next).basis.map wordF) l := by
  obtain ⟨_, _, n1, _⟩ := check_spec hc
  have := leads_bas hk hc l 0 0 n1 hl h
  rw [path_zero hk hc, List.nil_append] at this
  have e : inv ([] : List Nat) = [] := rfl
  rwa [e, List.append_nil] at this
end
end Go.Proofs.YtffdjfkekdoeaaaDoor.Pl
end
section
/- The basis' words are read; Fold of a basis. -/
set_option linter.unusedVariables false
set_option linter.unusedSimpArgs false
set_option maxRecDepth 4000
set_option maxHeartbeats 2000000
namespace Go.Proofs.YtffdjfkekdoeaaaDoor.Pl
open Fo Rf Wd

section
variable {k : Int} {a : Aut}
/-- The transitions of an automaton. -/
def Dl (k : Int) (a : Aut) (s x t : Nat) : Prop := s < a.next.length ∧ x < 2 * k.toNat ∧ getN a.next s x = (t : Int)
theorem dl_aut (hk : k ≤ 8) (hc : a.check k = 0) : Aut' (Dl k a) where
  det := fun s x t t' h h' => by have h1 := h.2.2; have h2 := h'.2.2; rw [h1] at h2; omega
  inv := fun s x t ⟨h1, h2, h3⟩ => by
    have hb := back_of hc h1 h2 (by rw [h3]; omega)
    rw [h3, Int.toNat_natCast] at hb
    exact ⟨(edge_bas hk hc h1 h2 h3).1, xor_lt (by omega) h2, hb⟩
theorem leads_dl (hk : k ≤ 8) (hc : a.check k = 0) {s t : Nat} {l : List Nat} (h : Run (Dl k a) s l t) : leadsF a.next l s = (t : Int) := by
  induction h with
  | nil s => rfl
  | @cons s x u t l h1 _ ih =>
    have hs' : leadsF a.next (x :: l) s = if getN a.next s x < 0 then getN a.next s x else leadsF a.next l (getN a.next s x).toNat := rfl
    rw [hs', h1.2.2, if_neg (by omega), Int.toNat_natCast, ih]
theorem path_runs (hk : k ≤ 8) (hc : a.check k = 0) : ∀ (N v : Nat), v < a.next.length → ((treeF a.next).paths.getD v ⟨#[]⟩).data.toList.length ≤ N → Run (Dl k a) 0 (pathR' (treeF a.next) v) v := by
  obtain ⟨hT, hW, hseen⟩ := tree_ok hk hc
  intro N
  induction N with
  | zero =>
    intro v hv hl
    by_cases h0 : v = 0
    · subst h0; rw [path_zero hk hc]; exact .nil 0
    · obtain ⟨s, x, _, e, _⟩ := hW.last v (by omega) (by omega)
      rw [e] at hl; simp at hl
  | succ N ih =>
    intro v hv hl
    by_cases h0 : v = 0
    · subst h0; rw [path_zero hk hc]; exact .nil 0
    · obtain ⟨s, x, hx, e, hkey⟩ := hW.last v (by omega) (by omega)
      obtain ⟨u', y', t', e1, e2, e3, e4, e5, e6, e7, e8, e9⟩ := hW.keyw _ _ hkey
      have e1 : v = u' := by omega
      have e2 : x ^^^ 1 = y' := by omega
      subst e1 e2
      rw [xor_two] at e7 e8 e9
      rcases e9 with e9 | e9
      · exfalso
        have hr := hW.red _ (path_mem (T := treeF a.next) (s := t') (by rw [hT.len]; omega))
        rw [e9] at hr
        have := (RedL.inv hr).2
        rw [e, List.getLast?_append, other_L (xor16 hx), xor_two] at this
        exact this rfl
      · have hr := ih t' (by omega) (by rw [e9, List.length_append, List.length_singleton] at hl; omega)
        have hp : pathR' (treeF a.next) v = pathR' (treeF a.next) t' ++ [x] := by
          unfold pathR' rawF
          rw [e9, List.map_append, List.map_cons, ix_L hx]; rfl
        rw [hp]
        have hxm : x < 2 * k.toNat := by
          have := xor_lt (k := k.toNat) (by omega) e3
          rwa [xor_two] at this
        exact hr.app (.one ⟨by omega, hxm, e8⟩)
theorem bas_iff {next : List (List Int)} {b : ByteArray} (h : b ∈ (basF next).basis) : ∃ s row x t u, next[s]? = some row ∧ (x, t, u) ∈ edgesFrom 0 row ∧ b = wordB (treeF next) s x t := by
  unfold basF at h
  rw [basR_iff] at h
  rcases h with h | ⟨i, row, h1, x, t, u, h2, h3, h4, h5⟩
  · simp at h
  · rw [Nat.zero_add] at h5
    exact ⟨i, row, x, t, u, h1, h2, h5⟩
/-- A basis element is read from the start to the start. -/
theorem bas_reads (hk : k ≤ 8) (hc : a.check k = 0) {b : ByteArray} (h : b ∈ (basF a.next).basis) : Run (Dl k a) 0 (rd (wordF b)) 0 := by
  obtain ⟨s, row, x, t, u, h1, h2, rfl⟩ := bas_iff h
  obtain ⟨i, g1, g2, g3⟩ := edges_mem row 0 _ h2
  dsimp only at g1 g2 g3
  rw [Nat.zero_add] at g2
  subst g2
  obtain ⟨nt, rfl⟩ := Int.eq_ofNat_of_zero_le g3
  have hs : s < a.next.length := (List.getElem?_eq_some_iff.1 h1).1
  obtain ⟨_, _, n1, n2, _, _, hrows⟩ := check_spec hc
  obtain ⟨r1, r2⟩ := hrows row (List.mem_of_getElem? h1)
  have hil := (List.getElem?_eq_some_iff.1 g1).1
  have hx : i < 2 * k.toNat := by omega
  have hg : getN a.next s i = (nt : Int) := by
    unfold getN
    rw [List.getD_eq_getElem?_getD (l := a.next), h1]
    show row.getD i 0 = _
    rw [List.getD_eq_getElem?_getD, g1]; rfl
  have ht := (edge_bas hk hc hs hx hg).1
  have hA := dl_aut hk hc
  have p1 := path_runs hk hc _ s hs (Nat.le_refl _)
  have p2 := path_runs hk hc _ nt ht (Nat.le_refl _)
  have p3 := ((p1.app (.one ⟨hs, hx, hg⟩)).app (p2.back hA)).rd hA
  rw [(wordB_same hk hc hs ht (by omega)).rd_eq]
  exact p3
end
end Go.Proofs.YtffdjfkekdoeaaaDoor.Pl
end
section
/- Fold of the basis is the automaton. -/
set_option linter.unusedVariables false
set_option linter.unusedSimpArgs false
set_option maxRecDepth 4000
set_option maxHeartbeats 2000000
namespace Go.Proofs.YtffdjfkekdoeaaaDoor.Pl
open Fo Rf Wd

/-- What Fold makes: it passes Check, and its basis generates the same subgroup. -/
theorem bas_both {k : Int} {gens : List ByteArray} {m : Nat} {nexts : List Row} (hf : Fit k gens) (h : Folded k.toNat gens (.ok m nexts)) :
    m = 2 * k.toNat ∧ (autE k.toNat nexts).check k = 0 ∧ (∀ l, Rd l → (∀ x ∈ l, x < 2 * k.toNat) → (leadsF (autE k.toNat nexts).next l 0 = 0 ↔ Mem (gens.map wordF) l)) ∧
      ∀ p, Mem (gens.map wordF) p ↔ Mem ((basF (autE k.toNat nexts).next).basis.map wordF) p := by
  obtain ⟨st, rows', o, i1, i2, i3, i4, ho⟩ := h.ok
  have hk1 := hf.k1
  have hk8 := hf.k8
  cases hoo : o with
  | none => rw [hoo] at ho; cases ho
  | some R =>
    rw [hoo] at ho
    simp only [resOf, FoldR.ok.injEq] at ho
    obtain ⟨rfl, rfl⟩ := ho
    obtain ⟨⟨K, h1⟩, h2⟩ := i4.yes _ hoo
    have hr := root_live i1 i3
    obtain ⟨q, hA⟩ := auto_of i4 hr h1
    have hck0 := good (k := k.toNat) ⟨by omega, by omega⟩ i4 hA h2 h1
    have hkk : ((k.toNat : Nat) : Int) = k := by omega
    rw [hkk] at hck0
    have hrd : ∀ l, Rd l → (∀ x ∈ l, x < 2 * k.toNat) → (leadsF (autE k.toNat nexts).next l 0 = 0 ↔ Mem (gens.map wordF) l) := fun l hl hx => reads i1 i3 i4 hA hl hx
    refine ⟨rfl, hck0, hrd, fun p => ⟨fun hp => ?_, fun hp => ?_⟩⟩
    · have hp' : Mem (gens.map wordF) (rd p) := .same hp (same_rd p).symm
      have hrun := (lang_cut i1 i4 (rd_rd p)).2 hp'
      have hlet : ∀ {s t : Nat} {l : List Nat}, Run (To rows') s l t → ∀ x ∈ l, x < 2 * k.toNat := fun hr => by
        induction hr with
        | nil _ => intro x hx; simp at hx
        | cons h1 _ ih =>
          intro x hx
          rcases List.mem_cons.1 hx with rfl | hx
          · exact h1.lt i4.wf
          · exact ih x hx
      have hx := hlet hrun
      exact .same (reads_bas hk8 hck0 hx ((hrd _ (rd_rd p) hx).2 hp')) (same_rd p)
    · refine Mem.sub (fun g hg => ?_) hp
      obtain ⟨b, hb, rfl⟩ := List.mem_map.1 hg
      have hrun := bas_reads hk8 hck0 hb
      have hlet : ∀ {s t : Nat} {l : List Nat}, Run (Dl k (autE k.toNat nexts)) s l t → ∀ x ∈ l, x < 2 * k.toNat := fun hr => by
        induction hr with
        | nil _ => intro x hx; simp at hx
        | cons h1 _ ih =>
          intro x hx
          rcases List.mem_cons.1 hx with rfl | hx
          · exact h1.2.1
          · exact ih x hx
      have hl := leads_dl hk8 hck0 hrun
      exact .same ((hrd _ (rd_rd _) (hlet hrun)).1 hl) (same_rd _)
end Go.Proofs.YtffdjfkekdoeaaaDoor.Pl
end
section
/- Words made of words are words. -/
set_option linter.unusedVariables false
set_option linter.unusedSimpArgs false
set_option maxRecDepth 4000
set_option maxHeartbeats 2000000
namespace Go.Proofs.YtffdjfkekdoeaaaDoor.Pl
open Fo Rf Wd

/-- Letters below m. -/
def LetB (m : Nat) (l : List UInt8) : Prop := ∀ b ∈ l, ∃ x, x < m ∧ b = L x
theorem LetB.app {m : Nat} {a b : List UInt8} (h : LetB m a) (h' : LetB m b) : LetB m (a ++ b) := fun c hc => (List.mem_append.1 hc).elim (h c) (h' c)
theorem LetB.good {m : Nat} (hm : m ≤ 16) {l : List UInt8} (h : LetB m l) : Good l := fun b hb => by
  obtain ⟨x, h1, h2⟩ := h b hb; exact ⟨x, by omega, h2⟩
theorem L_127 : ∀ x : Fin 16, (L x.val).toNat ≤ 127 := by decide
theorem bad_L {k : Int} (hk : k ≤ 8) {x : Nat} (hx : x < 16) : badF k (ofB (L x)) = decide ((x : Int) ≥ 2 * k) := by
  have h1 := L_idx ⟨x, hx⟩
  have h2 := L_127 ⟨x, hx⟩
  dsimp only at h1 h2
  unfold badF
  rw [h1]
  have e1 : decide (ofB (L x) > 127) = false := by rw [decide_eq_false_iff_not]; unfold ofB; omega
  have e2 : decide ((x : Int) < 0) = false := by rw [decide_eq_false_iff_not]; omega
  rw [e1, e2]; rfl
theorem let_of {k : Int} {s : ByteArray} (h : checkF k s = 0) : LetB (2 * k.toNat) s.data.toList := fun b hb => by
  obtain ⟨x, hx, rfl⟩ := good_word h b hb
  obtain ⟨h1, h2, h3, h4⟩ := check_bad h
  unfold hasBad at h4
  rw [List.any_eq_false] at h4
  have h5 : badF k (ofB (L x)) = false := by
    have := h4 _ hb
    rw [Bool.not_eq_true] at this
    exact this
  rw [bad_L h2 hx] at h5
  have := of_decide_eq_false h5
  exact ⟨x, by omega, rfl⟩
theorem check_of {k : Int} (hk : 1 ≤ k ∧ k ≤ 8) {s : ByteArray} (hs : s.size ≤ 100000) (h : LetB (2 * k.toNat) s.data.toList) : checkF k s = 0 := by
  unfold checkF
  rw [if_neg (by omega), if_neg (by omega), if_neg]
  unfold hasBad
  rw [Bool.not_eq_true, List.any_eq_false]
  intro b hb
  obtain ⟨x, hx, rfl⟩ := h b hb
  have := bad_L hk.2 (x := x) (by omega)
  rw [Bool.not_eq_true]
  show badF k (ofB (L x)) = false
  rw [this]
  simp; omega
theorem check_cat {k : Int} {a b : ByteArray} (ha : checkF k a = 0) (hb : checkF k b = 0) (hs : a.size + b.size ≤ 100000) : checkF k (a ++ b) = 0 := by
  obtain ⟨h1, h2, _⟩ := check_bad ha
  refine check_of ⟨h1, h2⟩ ?_ (by rw [app_list]; exact (let_of ha).app (let_of hb))
  rw [size_list, app_list, List.length_append, ← size_list, ← size_list]; exact hs
theorem check_inv {k : Int} {s : ByteArray} (h : checkF k s = 0) : checkF k (InverseF s) = 0 ∧ (InverseF s).size = s.size := by
  obtain ⟨h1, h2, h3, _⟩ := check_bad h
  have h8 := (check8 h).1
  have hz : (InverseF s).size = s.size := by
    unfold InverseF
    rw [if_pos h8, size_list, size_list]
    unfold invF
    show ((s.data.toList.map otherB).reverse.toArray).toList.length = _
    rw [List.toList_toArray, List.length_reverse, List.length_map]
  refine ⟨check_of ⟨h1, h2⟩ (by omega) fun b hb => ?_, hz⟩
  unfold InverseF at hb
  rw [if_pos h8] at hb
  have hb : b ∈ (s.data.toList.map otherB).reverse := by
    have : b ∈ ((s.data.toList.map otherB).reverse.toArray).toList := hb
    rwa [List.toList_toArray] at this
  obtain ⟨c, hc, rfl⟩ := List.mem_map.1 (List.mem_reverse.1 hb)
  obtain ⟨x, hx, rfl⟩ := let_of h c hc
  exact ⟨x ^^^ 1, xor_lt (by omega) hx, other_L (by omega)⟩
end Go.Proofs.YtffdjfkekdoeaaaDoor.Pl
namespace Go.Proofs.YtffdjfkekdoeaaaDoor.Pl
open Fo Rf Wd
theorem run_let {k : Int} {a : Aut} {s t : Nat} {l : List Nat} (h : Run (Dl k a) s l t) : ∀ x ∈ l, x < 2 * k.toNat := by
  induction h with
  | nil _ => intro x hx; simp at hx
  | cons h1 _ ih =>
    intro x hx
    rcases List.mem_cons.1 hx with rfl | hx
    · exact h1.2.1
    · exact ih x hx
theorem path_let {k : Int} {a : Aut} (hk : k ≤ 8) (hc : a.check k = 0) {s : Nat} (hs : s < a.next.length) : LetB (2 * k.toNat) ((treeF a.next).paths.getD s ⟨#[]⟩).data.toList := fun b hb => by
  obtain ⟨x, hx, rfl⟩ := (path_good hk hc hs).1 b hb
  have := run_let (path_runs hk hc _ s hs (Nat.le_refl _)) x (by
    unfold pathR' rawF
    exact List.mem_map.2 ⟨_, hb, ix_L hx⟩)
  exact ⟨x, this, rfl⟩
/-- The basis' words are words. -/
theorem bas_check {k : Int} {a : Aut} (hk : 1 ≤ k ∧ k ≤ 8) (hc : a.check k = 0) {b : ByteArray} (h : b ∈ (basF a.next).basis) : checkF k b = 0 := by
  obtain ⟨s, row, x, t, u, h1, h2, rfl⟩ := bas_iff h
  obtain ⟨i, g1, g2, g3⟩ := edges_mem row 0 _ h2
  dsimp only at g1 g2 g3
  rw [Nat.zero_add] at g2
  subst g2
  obtain ⟨nt, rfl⟩ := Int.eq_ofNat_of_zero_le g3
  have hs : s < a.next.length := (List.getElem?_eq_some_iff.1 h1).1
  obtain ⟨_, _, n1, n2, _, _, hrows⟩ := check_spec hc
  obtain ⟨r1, r2⟩ := hrows row (List.mem_of_getElem? h1)
  have hil := (List.getElem?_eq_some_iff.1 g1).1
  have hx : i < 2 * k.toNat := by omega
  have ht : nt < a.next.length := by have := (r2 _ (List.mem_of_getElem? g1)).2; omega
  obtain ⟨_, c1, z1⟩ := path_good hk.2 hc hs
  obtain ⟨_, c2, z2⟩ := path_good hk.2 hc ht
  have l1 := path_let hk.2 hc hs
  have l2 := path_let hk.2 hc ht
  have k1 := check_of hk (by omega) l1
  have k2 := check_of hk (by omega) l2
  obtain ⟨k3, z3⟩ := check_inv k2
  have k4 : checkF k (letS (i : Int)) = 0 := by
    refine check_of hk ?_ fun b hb => ?_
    · rw [size_list, letS_list]; simp
    · rw [letS_list] at hb
      simp only [List.mem_singleton] at hb
      exact ⟨i, hx, hb⟩
  have z4 : (letS (i : Int)).size = 1 := by rw [size_list, letS_list]; rfl
  unfold wordB
  rw [Int.toNat_natCast]
  generalize (treeF a.next).paths.getD s ⟨#[]⟩ = A at *
  generalize (treeF a.next).paths.getD nt ⟨#[]⟩ = B at *
  have k5 := check_cat k1 k4 (by omega)
  have z5 : (A ++ letS (i : Int)).size = A.size + 1 := by rw [size_list, app_list, List.length_append, ← size_list, ← size_list, z4]
  have k6 := check_cat k5 k3 (by omega)
  have z6 : (A ++ letS (i : Int) ++ InverseF B).size = A.size + 1 + B.size := by rw [size_list, app_list, List.length_append, ← size_list, ← size_list, z5, z3]
  have h8 := (check8 k6).1
  have e : (ReduceF (A ++ letS (i : Int) ++ InverseF B)).data.toList = redF (A ++ letS (i : Int) ++ InverseF B).data.toList := by
    unfold ReduceF; rw [if_pos h8]
  have hlen := redF_len (A ++ letS (i : Int) ++ InverseF B).data.toList
  refine check_of hk ?_ ?_
  · rw [size_list, e]
    rw [← size_list] at hlen
    omega
  · rw [e]
    exact redFold_mem (P := fun b => ∃ x, x < 2 * k.toNat ∧ b = L x) _ [] (fun b hb => by simp at hb) (let_of k6)
end Go.Proofs.YtffdjfkekdoeaaaDoor.Pl
end
section
/- A Nielsen move changes nothing. -/
set_option linter.unusedVariables false
set_option linter.unusedSimpArgs false
set_option maxRecDepth 4000
set_option maxHeartbeats 2000000
namespace Go.Proofs.YtffdjfkekdoeaaaDoor.Pl
open Fo Rf Wd

theorem sizes_mem {l : List ByteArray} {s : ByteArray} (h : s ∈ l) : s.size ≤ sizes l := by
  induction l with
  | nil => simp at h
  | cons t l ih =>
    have e : sizes (t :: l) = t.size + sizes l := by simp [sizes]
    rw [e]
    rcases List.mem_cons.1 h with rfl | h
    · omega
    · have := ih h; omega
theorem sizes_set : ∀ (l : List ByteArray) (i : Nat) (x : ByteArray), sizes (l.set i x) ≤ sizes l + x.size
  | [], i, x => by simp [sizes]
  | t :: l, 0, x => by
    have e1 : sizes (t :: l) = t.size + sizes l := by simp [sizes]
    have e2 : sizes ((t :: l).set 0 x) = x.size + sizes l := by simp [sizes]
    omega
  | t :: l, i + 1, x => by
    have e1 : sizes (t :: l) = t.size + sizes l := by simp [sizes]
    have e2 : sizes ((t :: l).set (i + 1) x) = t.size + sizes (l.set i x) := by simp [sizes]
    have := sizes_set l i x
    omega
/-- What a move makes of generators is fit, and generates the same. -/
structure Moved (k : Int) (gens gens' : List ByteArray) : Prop where
  fit : Fit k gens'
  mem : ∀ p, Mem (gens.map wordF) p ↔ Mem (gens'.map wordF) p
section
variable {k : Int} {gens : List ByteArray} {i j : Nat} {a b : ByteArray}
theorem fit_set (hf : Fit k gens) (h2 : sizes gens ≤ 2000) {x : ByteArray} (hx : checkF k x = 0) (hz : x.size ≤ 4000) : Fit k (gens.set i x) where
  k1 := hf.k1
  k8 := hf.k8
  len := by rw [List.length_set]; exact hf.len
  size := by have := sizes_set gens i x; omega
  word := fun s hs => by
    rcases List.mem_or_eq_of_mem_set hs with hs | rfl
    · exact hf.word s hs
    · exact hx
theorem moved_inv (hf : Fit k gens) (h2 : sizes gens ≤ 2000) (hi : gens[i]? = some a) : Moved k gens (gens.set i (InverseF a)) := by
  have ha := hf.word a (List.mem_of_getElem? hi)
  obtain ⟨h3, h4⟩ := check_inv ha
  have hz := sizes_mem (List.mem_of_getElem? hi)
  obtain ⟨g1, g2⟩ := word_inv (good_word ha) (check8 ha).1
  obtain ⟨f1, f2⟩ := word_inv (good_word h3) (check8 h3).1
  have hlt := (List.getElem?_eq_some_iff.1 hi).1
  have hm : Mem ((gens.set i (InverseF a)).map wordF) (wordF (InverseF a)) := mem_of (List.mem_of_getElem? (i := i) (by rw [List.getElem?_set_self hlt]))
  refine ⟨fit_set hf h2 h3 (by omega), move_set hi (.same (mem_of (List.mem_of_getElem? hi)).neg g2.symm) ?_⟩
  refine .same hm.neg ?_
  have := g2.inv
  rwa [inv_inv] at this
theorem moved_cat (hf : Fit k gens) (h2 : sizes gens ≤ 2000) (hij : i ≠ j) (hi : gens[i]? = some a) (hj : gens[j]? = some b) : Moved k gens (gens.set i (a ++ b)) := by
  have ha := hf.word a (List.mem_of_getElem? hi)
  have hb := hf.word b (List.mem_of_getElem? hj)
  have za := sizes_mem (List.mem_of_getElem? hi)
  have zb := sizes_mem (List.mem_of_getElem? hj)
  have hlt := (List.getElem?_eq_some_iff.1 hi).1
  have hc := check_cat ha hb (by omega)
  have zc : (a ++ b).size = a.size + b.size := by rw [size_list, app_list, List.length_append, ← size_list, ← size_list]
  have hm : Mem ((gens.set i (a ++ b)).map wordF) (wordF (a ++ b)) := mem_of (List.mem_of_getElem? (i := i) (by rw [List.getElem?_set_self hlt]))
  have hmb : Mem ((gens.set i (a ++ b)).map wordF) (wordF b) := mem_of (List.mem_of_getElem? (i := j) (by rw [List.getElem?_set_ne hij]; exact hj))
  exact ⟨fit_set hf h2 hc (by omega), move_set hi (Mem.cat (good_word ha) (good_word hb) (mem_of (List.mem_of_getElem? hi)) (mem_of (List.mem_of_getElem? hj))) (Mem.uncat (good_word ha) (good_word hb) hm hmb)⟩
theorem moved_div (hf : Fit k gens) (h2 : sizes gens ≤ 2000) (hij : i ≠ j) (hi : gens[i]? = some a) (hj : gens[j]? = some b) : Moved k gens (gens.set i (a ++ InverseF b)) := by
  have ha := hf.word a (List.mem_of_getElem? hi)
  have hb := hf.word b (List.mem_of_getElem? hj)
  obtain ⟨h3, h4⟩ := check_inv hb
  obtain ⟨g1, g2⟩ := word_inv (good_word hb) (check8 hb).1
  have za := sizes_mem (List.mem_of_getElem? hi)
  have zb := sizes_mem (List.mem_of_getElem? hj)
  have hlt := (List.getElem?_eq_some_iff.1 hi).1
  have hc := check_cat ha h3 (by omega)
  have zc : (a ++ InverseF b).size = a.size + b.size := by rw [size_list, app_list, List.length_append, ← size_list, ← size_list, h4]
  have hm : Mem ((gens.set i (a ++ InverseF b)).map wordF) (wordF (a ++ InverseF b)) := mem_of (List.mem_of_getElem? (i := i) (by rw [List.getElem?_set_self hlt]))
  have hmb : Mem ((gens.set i (a ++ InverseF b)).map wordF) (wordF (InverseF b)) := .same (mem_of (List.mem_of_getElem? (i := j) (by rw [List.getElem?_set_ne hij]; exact hj))).neg g2.symm
  exact ⟨fit_set hf h2 hc (by omega), move_set hi (Mem.cat (good_word ha) g1 (mem_of (List.mem_of_getElem? hi)) (.same (mem_of (List.mem_of_getElem? hj)).neg g2.symm)) (Mem.uncat (good_word ha) g1 hm hmb)⟩
theorem moved_more (hf : Fit k gens) (h2 : sizes gens ≤ 2000) (hl : gens.length < 200) (hi : gens[i]? = some a) (hj : gens[j]? = some b) : Moved k gens (gens ++ [a ++ b]) := by
  have ha := hf.word a (List.mem_of_getElem? hi)
  have hb := hf.word b (List.mem_of_getElem? hj)
  have za := sizes_mem (List.mem_of_getElem? hi)
  have zb := sizes_mem (List.mem_of_getElem? hj)
  have hc := check_cat ha hb (by omega)
  have zc : (a ++ b).size = a.size + b.size := by rw [size_list, app_list, List.length_append, ← size_list, ← size_list]
  refine ⟨⟨hf.k1, hf.k8, by simp; omega, by rw [sizes_snoc]; omega, fun s hs => ?_⟩, mem_both (fun s hs => ?_) (fun s hs => mem_of (by simp [hs]))⟩
  · rcases List.mem_append.1 hs with hs | hs
    · exact hf.word s hs
    · simp only [List.mem_singleton] at hs; subst hs; exact hc
  · rcases List.mem_append.1 hs with hs | hs
    · exact mem_of hs
    · simp only [List.mem_singleton] at hs; subst hs
      exact Mem.cat (good_word ha) (good_word hb) (mem_of (List.mem_of_getElem? hi)) (mem_of (List.mem_of_getElem? hj))
theorem moved_swap (hf : Fit k gens) (h2 : sizes gens ≤ 2000) (hij : i ≠ j) (hi : gens[i]? = some a) (hj : gens[j]? = some b) : Moved k gens ((gens.set i b).set j a) := by
  have ha := hf.word a (List.mem_of_getElem? hi)
  have hb := hf.word b (List.mem_of_getElem? hj)
  have za := sizes_mem (List.mem_of_getElem? hi)
  have zb := sizes_mem (List.mem_of_getElem? hj)
  have li := (List.getElem?_eq_some_iff.1 hi).1
  have lj := (List.getElem?_eq_some_iff.1 hj).1
  have z1 := sizes_set gens i b
  have z2 := sizes_set (gens.set i b) j a
  refine ⟨⟨hf.k1, hf.k8, by rw [List.length_set, List.length_set]; exact hf.len, by omega, fun s hs => ?_⟩, mem_both (fun s hs => ?_) (fun s hs => mem_of ?_)⟩
  · rcases List.mem_or_eq_of_mem_set hs with hs | rfl
    · rcases List.mem_or_eq_of_mem_set hs with hs | rfl
      · exact hf.word s hs
      · exact hb
    · exact ha
  · rcases List.mem_or_eq_of_mem_set hs with hs | rfl
    · rcases List.mem_or_eq_of_mem_set hs with hs | rfl
      · exact mem_of hs
      · exact mem_of (List.mem_of_getElem? hj)
    · exact mem_of (List.mem_of_getElem? hi)
  · obtain ⟨n, hn⟩ := List.getElem?_of_mem hs
    by_cases h1 : n = i
    · subst h1
      rw [hi] at hn; cases hn
      exact List.mem_of_getElem? (i := j) (by rw [List.getElem?_set_self (by rw [List.length_set]; exact lj)])
    · by_cases h3 : n = j
      · subst h3
        rw [hj] at hn; cases hn
        exact List.mem_of_getElem? (i := i) (by rw [List.getElem?_set_ne (fun h => hij h.symm), List.getElem?_set_self li])
      · exact List.mem_of_getElem? (i := n) (by rw [List.getElem?_set_ne (fun h => h3 h.symm), List.getElem?_set_ne (fun h => h1 h.symm)]; exact hn)
end
end Go.Proofs.YtffdjfkekdoeaaaDoor.Pl
end
section
/- Printed by our own wip/tools/shal.py: the shallow form of functions, and that the model carries them out so. -/
set_option linter.unusedVariables false
set_option maxRecDepth 10000
namespace Go.Proofs.YtffdjfkekdoeaaaDoor
open Fw
/-! cayley/cayleylaw21.FoldNielsen -/
noncomputable def cayleylaw21_FoldNielsen.ann : Ann where
  loops := fun | _ => []
  joins := fun | 3 => some [(0, .sc (.int .i64)), (1, .sc .sl), (2, .sc (.int .i64)), (3, .sc (.int .i64)), (4, .sc (.int .i64))] | 18 => some [(0, .sc (.int .i64)), (11, .sc .adr), (13, .sc .sl)] | 22 => some [(0, .sc (.int .i64)), (11, .sc .adr), (16, .sc .sl)] | _ => none
noncomputable def cayleylaw21_FoldNielsen.body : Code := match Tryd.f4.body with | some c => c | none => .skip
def cayleylaw21_FoldNielsen.sh (p0 : Int) (p1 : Sl) (p2 : Int) (p3 : Int) (p4 : Int) (R : Ending → World → Prop) (w : World) : Prop :=
  Join (σ := Int × Sl × Int × Int × Int × Unit) (fun j3 g2 w28 =>
    CallN Tryd.prog 12 #[(.int .i64 j3.1), (.slice j3.2.1.a j3.2.1.n j3.2.1.c)] [.agg [.int .i64, .int .i64, .sl, .sl], .sc (.int .i64)] w28 (fun r29 w30 =>
      New w30 (.cells #[(.int .i64 0), (.int .i64 0), (.slice none 0 0), (.slice none 0 0)] 27) fun b32 w33 =>
      StoreN w33 (Addr.mk b32 0 none) [(.int .i64 r29.1.1), (.int .i64 r29.1.2.1), (.slice r29.1.2.2.1.a r29.1.2.2.1.n r29.1.2.2.1.c), (.slice r29.1.2.2.2.1.a r29.1.2.2.2.1.n r29.1.2.2.2.1.c)] fun w34 =>
      Br ((r29.2.1 : Int) != 0)
        (CallT Tryd.prog 14 #[] (.sc .bool) w34 (fun r35 w36 =>
          R (.returned (.bool r35)) w36) (fun h37 w36 => R (.panicked h37) w36))
        (New w34 (.cells #[] 9) fun b38 w39 =>
        RunT Tryd.prog (.sc .sl) (Builtin.append_ #[22, 22] 22 #[(.slice (some (Addr.mk b38 0 none)) 0 0), (.slice j3.2.1.a j3.2.1.n j3.2.1.c)]) w39 fun r40 w41 =>
        Join (σ := Int × Addr × Sl × Unit) (fun j44 g43 w85 =>
          CallN Tryd.prog 12 #[(.int .i64 j44.1), (.slice j44.2.2.1.a j44.2.2.1.n j44.2.2.1.c)] [.agg [.int .i64, .int .i64, .sl, .sl], .sc (.int .i64)] w85 (fun r86 w87 =>
            New w87 (.cells #[(.int .i64 0), (.int .i64 0), (.slice none 0 0), (.slice none 0 0)] 27) fun b89 w90 =>
            StoreN w90 (Addr.mk b89 0 none) [(.int .i64 r86.1.1), (.int .i64 r86.1.2.1), (.slice r86.1.2.2.1.a r86.1.2.2.1.n r86.1.2.2.1.c), (.slice r86.1.2.2.2.1.a r86.1.2.2.2.1.n r86.1.2.2.2.1.c)] fun w91 =>
            LoadT (.agg [.int .i64, .int .i64, .sl, .sl]) w91 j44.2.1 fun x92 =>
            CallN Tryd.prog 17 #[(.int .i64 j44.1), (.agg #[(.int .i64 x92.1), (.int .i64 x92.2.1), (.slice x92.2.2.1.a x92.2.2.1.n x92.2.2.1.c), (.slice x92.2.2.2.1.a x92.2.2.2.1.n x92.2.2.2.1.c)])] [.sc .sl, .sc (.int .i64)] w91 (fun r93 w94 =>
              Join (σ := Int × Addr × Sl × Unit) (fun j98 g97 w107 =>
                CallT Tryd.prog 11 #[(.slice j98.2.2.1.a j98.2.2.1.n j98.2.2.1.c), (.int .i64 20000)] (.sc .bool) w107 (fun r108 w109 =>
                  Br (!r108)
                    (R (.returned (.bool true)) w109)
                    (CallN Tryd.prog 12 #[(.int .i64 j98.1), (.slice j98.2.2.1.a j98.2.2.1.n j98.2.2.1.c)] [.agg [.int .i64, .int .i64, .sl, .sl], .sc (.int .i64)] w109 (fun r111 w112 =>
                      New w112 (.cells #[(.int .i64 0), (.int .i64 0), (.slice none 0 0), (.slice none 0 0)] 27) fun b114 w115 =>
                      StoreN w115 (Addr.mk b114 0 none) [(.int .i64 r111.1.1), (.int .i64 r111.1.2.1), (.slice r111.1.2.2.1.a r111.1.2.2.1.n r111.1.2.2.1.c), (.slice r111.1.2.2.2.1.a r111.1.2.2.2.1.n r111.1.2.2.2.1.c)] fun w116 =>
                      Br ((r111.2.1 : Int) == 0)
                        (LoadT (.agg [.int .i64, .int .i64, .sl, .sl]) w116 j98.2.1 fun x117 =>
                        LoadT (.agg [.int .i64, .int .i64, .sl, .sl]) w116 (Addr.mk b114 0 none) fun x118 =>
                        CallT Tryd.prog 15 #[(.agg #[(.int .i64 x117.1), (.int .i64 x117.2.1), (.slice x117.2.2.1.a x117.2.2.1.n x117.2.2.1.c), (.slice x117.2.2.2.1.a x117.2.2.2.1.n x117.2.2.2.1.c)]), (.agg #[(.int .i64 x118.1), (.int .i64 x118.2.1), (.slice x118.2.2.1.a x118.2.2.1.n x118.2.2.1.c), (.slice x118.2.2.2.1.a x118.2.2.2.1.n x118.2.2.2.1.c)])] (.sc .bool) w116 (fun r119 w120 =>
                          R (.returned (.bool r119)) w120) (fun h121 w120 => R (.panicked h121) w120))
                        (R (.returned (.bool false)) w116)) (fun h113 w112 => R (.panicked h113) w112))) (fun h110 w109 => R (.panicked h110) w109)) fun J96 =>
                CallT Tryd.prog 14 #[] (.sc .bool) w94 (fun r99 w100 =>
                  Br (!r99)
                    (Br true
                      (R (.returned (.bool false)) w100)
                      (J96 (j44.1, j44.2.1, r93.1, ()) w100))
                    (Br ((r86.2.1 : Int) != 0)
                      (Br true
                        (R (.returned (.bool false)) w100)
                        (J96 (j44.1, j44.2.1, r93.1, ()) w100))
                      (Br ((r93.2.1 : Int) != 0)
                        (Br true
                          (R (.returned (.bool false)) w100)
                          (J96 (j44.1, j44.2.1, r93.1, ()) w100))
                        (LoadT (.agg [.int .i64, .int .i64, .sl, .sl]) w100 j44.2.1 fun x102 =>
                        LoadT (.agg [.int .i64, .int .i64, .sl, .sl]) w100 (Addr.mk b89 0 none) fun x103 =>
                        CallT Tryd.prog 15 #[(.agg #[(.int .i64 x102.1), (.int .i64 x102.2.1), (.slice x102.2.2.1.a x102.2.2.1.n x102.2.2.1.c), (.slice x102.2.2.2.1.a x102.2.2.2.1.n x102.2.2.2.1.c)]), (.agg #[(.int .i64 x103.1), (.int .i64 x103.2.1), (.slice x103.2.2.1.a x103.2.2.1.n x103.2.2.1.c), (.slice x103.2.2.2.1.a x103.2.2.2.1.n x103.2.2.2.1.c)])] (.sc .bool) w100 (fun r104 w105 =>
                          Br (!r104)
                            (R (.returned (.bool false)) w105)
                            (J96 (j44.1, j44.2.1, r93.1, ()) w105)) (fun h106 w105 => R (.panicked h106) w105))))) (fun h101 w100 => R (.panicked h101) w100)) (fun h95 w94 => R (.panicked h95) w94)) (fun h88 w87 => R (.panicked h88) w87)) fun J42 =>
          Br (((Go.bits .and .i64 j3.2.2.2.2.1 3) : Int) == 0)
            (Idx j3.2.1.a j3.2.1.n 1 j3.2.2.1 fun a45 =>
            LoadT (.sc .str) w41 a45 fun x46 =>
            CallT Tryd.prog 16 #[(.string x46)] (.sc .str) w41 (fun r47 w48 =>
              Idx r40.a r40.n 1 j3.2.2.1 fun a50 =>
              Store1 w48 a50 (.string r47) fun w51 =>
              J42 (j3.1, (Addr.mk b32 0 none), r40, ()) w51) (fun h49 w48 => R (.panicked h49) w48))
            (Br (((Go.bits .and .i64 j3.2.2.2.2.1 3) : Int) == 1)
              (Idx j3.2.1.a j3.2.1.n 1 j3.2.2.1 fun a52 =>
              LoadT (.sc .str) w41.drew a52 fun x53 =>
              Idx j3.2.1.a j3.2.1.n 1 j3.2.2.2.1 fun a54 =>
              LoadT (.sc .str) w41.drew a54 fun x55 =>
              (((x53.size + x55.size : Nat) : Int) ≤ 9223372036854775807) ∧
              Idx r40.a r40.n 1 j3.2.2.1 fun a56 =>
              Store1 w41.drew a56 (.string (x53 ++ x55)) fun w57 =>
              Br (((Go.bits .and .i64 j3.2.2.2.2.1 4) : Int) != 0)
                (∃ S58 : World → Prop, S58 w57.drew ∧
                (Idx j3.2.1.a j3.2.1.n 1 j3.2.2.1 fun a59 =>
                LoadS S58 (.sc .str) a59 fun x60 =>
                Idx j3.2.1.a j3.2.1.n 1 j3.2.2.2.1 fun a61 =>
                LoadS S58 (.sc .str) a61 fun x62 =>
                CallT Tryd.prog 16 #[(.string x62)] (.sc .str) w57.drew (fun r63 w64 =>
                    S58 w64 ∧
                    ((((x60.size + r63.size : Nat) : Int) ≤ 9223372036854775807) ∧
                    Idx r40.a r40.n 1 j3.2.2.1 fun a66 =>
                    Store1 w64 a66 (.string (x60 ++ r63)) fun w67 =>
                      J42 (j3.1, (Addr.mk b32 0 none), r40, ()) w67)) (fun h65 w64 => R (.panicked h65) w64)))
                (J42 (j3.1, (Addr.mk b32 0 none), r40, ()) w57))
              (Br (((Go.bits .and .i64 j3.2.2.2.2.1 3) : Int) == 2)
                (Idx j3.2.1.a j3.2.1.n 1 j3.2.2.2.1 fun a68 =>
                LoadT (.sc .str) w41 a68 fun x69 =>
                Idx r40.a r40.n 1 j3.2.2.1 fun a70 =>
                Store1 w41 a70 (.string x69) fun w71 =>
                Idx j3.2.1.a j3.2.1.n 1 j3.2.2.1 fun a72 =>
                LoadT (.sc .str) w71 a72 fun x73 =>
                Idx r40.a r40.n 1 j3.2.2.2.1 fun a74 =>
                Store1 w71 a74 (.string x73) fun w75 =>
                J42 (j3.1, (Addr.mk b32 0 none), r40, ()) w75)
                (∃ S76 : World → Prop, S76 w41.drew ∧
                (Idx j3.2.1.a j3.2.1.n 1 j3.2.2.1 fun a77 =>
                LoadS S76 (.sc .str) a77 fun x78 =>
                Idx j3.2.1.a j3.2.1.n 1 j3.2.2.2.1 fun a79 =>
                LoadS S76 (.sc .str) a79 fun x80 =>
                (((x78.size + x80.size : Nat) : Int) ≤ 9223372036854775807) ∧
                New w41.drew (.cells #[(.string (x78 ++ x80))] 9) fun b81 w82 =>
                  S76 w82 ∧
                  (RunT Tryd.prog (.sc .sl) (Builtin.append_ #[22, 22] 22 #[(.slice r40.a r40.n r40.c), (.slice (some (Addr.mk b81 0 none)) 1 1)]) w82 fun r83 w84 =>
                    S76 w84 ∧
                    (J42 (j3.1, (Addr.mk b32 0 none), r83, ()) w84)))))))) (fun h31 w30 => R (.panicked h31) w30)) fun J1 =>
    CallT Tryd.prog 11 #[(.slice p1.a p1.n p1.c), (.int .i64 2000)] (.sc .bool) w (fun r4 w5 =>
      Br (!r4)
        (Br true
          (CallT Tryd.prog 14 #[] (.sc .bool) w5 (fun r7 w8 =>
            R (.returned (.bool r7)) w8) (fun h9 w8 => R (.panicked h9) w8))
          (J1 (p0, p1, p2, p3, p4, ()) w5))
        (Br (decide ((p2 : Int) < 0))
          (Br true
            (CallT Tryd.prog 14 #[] (.sc .bool) w5 (fun r10 w11 =>
              R (.returned (.bool r10)) w11) (fun h12 w11 => R (.panicked h12) w11))
            (J1 (p0, p1, p2, p3, p4, ()) w5))
          (Br (decide ((p3 : Int) < 0))
            (Br true
              (CallT Tryd.prog 14 #[] (.sc .bool) w5 (fun r13 w14 =>
                R (.returned (.bool r13)) w14) (fun h15 w14 => R (.panicked h15) w14))
              (J1 (p0, p1, p2, p3, p4, ()) w5))
            (Br (decide ((p2 : Int) ≥ ((p1.n : Nat) : Int)))
              (Br true
                (CallT Tryd.prog 14 #[] (.sc .bool) w5 (fun r16 w17 =>
                  R (.returned (.bool r16)) w17) (fun h18 w17 => R (.panicked h18) w17))
                (J1 (p0, p1, p2, p3, p4, ()) w5))
              (Br (decide ((p3 : Int) ≥ ((p1.n : Nat) : Int)))
                (Br true
                  (CallT Tryd.prog 14 #[] (.sc .bool) w5 (fun r19 w20 =>
                    R (.returned (.bool r19)) w20) (fun h21 w20 => R (.panicked h21) w20))
                  (J1 (p0, p1, p2, p3, p4, ()) w5))
                (Br ((p2 : Int) == p3)
                  (Br true
                    (CallT Tryd.prog 14 #[] (.sc .bool) w5 (fun r22 w23 =>
                      R (.returned (.bool r22)) w23) (fun h24 w23 => R (.panicked h24) w23))
                    (J1 (p0, p1, p2, p3, p4, ()) w5))
                  (Br (decide ((((p1.n : Nat) : Int) : Int) ≥ 200))
                    (CallT Tryd.prog 14 #[] (.sc .bool) w5 (fun r25 w26 =>
                      R (.returned (.bool r25)) w26) (fun h27 w26 => R (.panicked h27) w26))
                    (J1 (p0, p1, p2, p3, p4, ()) w5)))))))) (fun h6 w5 => R (.panicked h6) w5)
theorem cayleylaw21_FoldNielsen.eq (p0 : Int) (p1 : Sl) (p2 : Int) (p3 : Int) (p4 : Int) (R : Ending → World → Prop) (w : World) : cayleylaw21_FoldNielsen.sh p0 p1 p2 p3 p4 R w = wpc Tryd.prog cayleylaw21_FoldNielsen.ann cayleylaw21_FoldNielsen.body (fnKs Tryd.prog Tryd.f4 R) [] (env0 #[(.int .i64 p0), (.slice p1.a p1.n p1.c), (.int .i64 p2), (.int .i64 p3), (.int .i64 p4)]) w := by kernel_rfl
theorem cayleylaw21_FoldNielsen.calls (p0 : Int) (p1 : Sl) (p2 : Int) (p3 : Int) (p4 : Int) {R : Ending → World → Prop} {w : World} (h : cayleylaw21_FoldNielsen.sh p0 p1 p2 p3 p4 R w) : Calls Tryd.prog 4 #[(.int .i64 p0), (.slice p1.a p1.n p1.c), (.int .i64 p2), (.int .i64 p3), (.int .i64 p4)] w R :=
  calls_of_wpc mixed Tryd.func4 (by kernel_rfl) (by kernel_rfl) ((cayleylaw21_FoldNielsen.eq p0 p1 p2 p3 p4 R w).mp h)
/-! cayley/cayleyref21.Product -/
noncomputable def cayleyref21_Product.ann : Ann where
  loops := fun | 3 => [(0, .sc .sl), (1, .sc .sl), (6, .sc .str), (7, .sc (.int .i64))] | _ => []
  joins := fun | 7 => some [(0, .sc .sl), (1, .sc .sl), (6, .sc .str), (7, .sc (.int .i64))] | 10 => some [(0, .sc .sl), (1, .sc .sl), (6, .sc .str), (7, .sc (.int .i64)), (8, .sc .str)] | _ => none
noncomputable def cayleyref21_Product.body : Code := match Tryd.f19.body with | some c => c | none => .skip
def cayleyref21_Product.sh (p0 : Sl) (p1 : Sl) (R : Ending → World → Prop) (w : World) : Prop :=
  LoopT (σ := Sl × Sl × ByteArray × Int × Unit) (p0, p1, (ByteArray.mk #[]), 0, ()) w fun l1 g2 w3 I4 =>
    Br (decide ((l1.2.2.2.1 : Int) < ((l1.2.1.n : Nat) : Int)))
      (Join (σ := Sl × Sl × ByteArray × Int × Unit) (fun j7 g6 w12 =>
        Idx j7.2.1.a j7.2.1.n 2 j7.2.2.2.1 fun a13 =>
        LoadT (.sc (.int .i64)) w12 (a13.add 0) fun x14 =>
        Idx j7.1.a j7.1.n 1 x14 fun a15 =>
        LoadT (.sc .str) w12 a15 fun x16 =>
        Join (σ := Sl × Sl × ByteArray × Int × ByteArray × Unit) (fun j19 g18 w25 =>
          (((j19.2.2.1.size + j19.2.2.2.2.1.size : Nat) : Int) ≤ 9223372036854775807) ∧
          CallT Tryd.prog 25 #[(.string (j19.2.2.1 ++ j19.2.2.2.2.1))] (.sc .str) w25 (fun r26 w27 =>
            I4 (j19.1, j19.2.1, r26, (IntKind.wrap .i64 (j19.2.2.2.1 + 1)), ()) w27) (fun h28 w27 => R (.panicked h28) w27)) fun J17 =>
          Idx j7.2.1.a j7.2.1.n 2 j7.2.2.2.1 fun a20 =>
          LoadT (.sc .bool) w12 (a20.add 1) fun x21 =>
          Br x21
            (CallT Tryd.prog 16 #[(.string x16)] (.sc .str) w12 (fun r22 w23 =>
              J17 (j7.1, j7.2.1, j7.2.2.1, j7.2.2.2.1, r22, ()) w23) (fun h24 w23 => R (.panicked h24) w23))
            (J17 (j7.1, j7.2.1, j7.2.2.1, j7.2.2.2.1, x16, ()) w12)) fun J5 =>
        Idx l1.2.1.a l1.2.1.n 2 l1.2.2.2.1 fun a8 =>
        LoadT (.sc (.int .i64)) w3 (a8.add 0) fun x9 =>
        Br (decide ((x9 : Int) < 0))
          (Br true
            (R (.returned (.tuple #[(.string (ByteArray.mk #[])), (.bool false)])) w3)
            (J5 (l1.1, l1.2.1, l1.2.2.1, l1.2.2.2.1, ()) w3))
          (Idx l1.2.1.a l1.2.1.n 2 l1.2.2.2.1 fun a10 =>
          LoadT (.sc (.int .i64)) w3 (a10.add 0) fun x11 =>
          Br (decide ((x11 : Int) ≥ ((l1.1.n : Nat) : Int)))
            (R (.returned (.tuple #[(.string (ByteArray.mk #[])), (.bool false)])) w3)
            (J5 (l1.1, l1.2.1, l1.2.2.1, l1.2.2.2.1, ()) w3)))
      (R (.returned (.tuple #[(.string l1.2.2.1), (.bool true)])) w3)
theorem cayleyref21_Product.eq (p0 : Sl) (p1 : Sl) (R : Ending → World → Prop) (w : World) : cayleyref21_Product.sh p0 p1 R w = wpc Tryd.prog cayleyref21_Product.ann cayleyref21_Product.body (fnKs Tryd.prog Tryd.f19 R) [] (env0 #[(.slice p0.a p0.n p0.c), (.slice p1.a p1.n p1.c)]) w := by kernel_rfl
theorem cayleyref21_Product.calls (p0 : Sl) (p1 : Sl) {R : Ending → World → Prop} {w : World} (h : cayleyref21_Product.sh p0 p1 R w) : Calls Tryd.prog 19 #[(.slice p0.a p0.n p0.c), (.slice p1.a p1.n p1.c)] w R :=
  calls_of_wpc mixed Tryd.func19 (by kernel_rfl) (by kernel_rfl) ((cayleyref21_Product.eq p0 p1 R w).mp h)
/-! cayley/cayleyref21.Reduced -/
noncomputable def cayleyref21_Reduced.ann : Ann where
  loops := fun | 2 => [(0, .sc .sl), (3, .sc (.int .i64))] | _ => []
  joins := fun | _ => none
noncomputable def cayleyref21_Reduced.body : Code := match Tryd.f24.body with | some c => c | none => .skip
def cayleyref21_Reduced.sh (p0 : Sl) (R : Ending → World → Prop) (w : World) : Prop :=
  LoopT (σ := Sl × Int × Unit) (p0, 1, ()) w fun l1 g2 w3 I4 =>
    Br (decide ((l1.2.1 : Int) < ((l1.1.n : Nat) : Int)))
      (Idx l1.1.a l1.1.n 2 l1.2.1 fun a5 =>
      LoadT (.sc (.int .i64)) w3.drew (a5.add 0) fun x6 =>
      Idx l1.1.a l1.1.n 2 (IntKind.wrap .i64 (l1.2.1 - 1)) fun a7 =>
      LoadT (.sc (.int .i64)) w3.drew (a7.add 0) fun x8 =>
      Br ((x6 : Int) == x8)
        (Idx l1.1.a l1.1.n 2 l1.2.1 fun a9 =>
        LoadT (.sc .bool) w3.drew (a9.add 1) fun x10 =>
        Idx l1.1.a l1.1.n 2 (IntKind.wrap .i64 (l1.2.1 - 1)) fun a11 =>
        LoadT (.sc .bool) w3.drew (a11.add 1) fun x12 =>
        Br (!(x10 == x12))
          (R (.returned (.bool false)) w3.drew)
          (I4 (l1.1, (IntKind.wrap .i64 (l1.2.1 + 1)), ()) w3.drew))
        (Br false
          (R (.returned (.bool false)) w3.drew)
          (I4 (l1.1, (IntKind.wrap .i64 (l1.2.1 + 1)), ()) w3.drew)))
      (R (.returned (.bool true)) w3)
theorem cayleyref21_Reduced.eq (p0 : Sl) (R : Ending → World → Prop) (w : World) : cayleyref21_Reduced.sh p0 R w = wpc Tryd.prog cayleyref21_Reduced.ann cayleyref21_Reduced.body (fnKs Tryd.prog Tryd.f24 R) [] (env0 #[(.slice p0.a p0.n p0.c)]) w := by kernel_rfl
theorem cayleyref21_Reduced.calls (p0 : Sl) {R : Ending → World → Prop} {w : World} (h : cayleyref21_Reduced.sh p0 R w) : Calls Tryd.prog 24 #[(.slice p0.a p0.n p0.c)] w R :=
  calls_of_wpc mixed Tryd.func24 (by kernel_rfl) (by kernel_rfl) ((cayleyref21_Reduced.eq p0 R w).mp h)
/-! cayley/cayleylaw21.FoldMembers -/
noncomputable def cayleylaw21_FoldMembers.ann : Ann where
  loops := fun | _ => []
  joins := fun | 3 => some [(0, .sc (.int .i64)), (1, .sc .sl), (2, .sc .sl), (3, .sc .str)] | 13 => some [(0, .sc (.int .i64)), (3, .sc .str), (9, .sc .adr)] | _ => none
noncomputable def cayleylaw21_FoldMembers.body : Code := match Tryd.f5.body with | some c => c | none => .skip
def cayleylaw21_FoldMembers.sh (p0 : Int) (p1 : Sl) (p2 : Sl) (p3 : ByteArray) (R : Ending → World → Prop) (w : World) : Prop :=
  Join (σ := Int × Sl × Sl × ByteArray × Unit) (fun j3 g2 w7 =>
    CallN Tryd.prog 12 #[(.int .i64 j3.1), (.slice j3.2.1.a j3.2.1.n j3.2.1.c)] [.agg [.int .i64, .int .i64, .sl, .sl], .sc (.int .i64)] w7 (fun r8 w9 =>
      New w9 (.cells #[(.int .i64 0), (.int .i64 0), (.slice none 0 0), (.slice none 0 0)] 27) fun b11 w12 =>
      StoreN w12 (Addr.mk b11 0 none) [(.int .i64 r8.1.1), (.int .i64 r8.1.2.1), (.slice r8.1.2.2.1.a r8.1.2.2.1.n r8.1.2.2.1.c), (.slice r8.1.2.2.2.1.a r8.1.2.2.2.1.n r8.1.2.2.2.1.c)] fun w13 =>
      Br ((r8.2.1 : Int) != 0)
        (CallT Tryd.prog 14 #[] (.sc .bool) w13 (fun r14 w15 =>
          R (.returned (.bool r14)) w15) (fun h16 w15 => R (.panicked h16) w15))
        (LoadT (.agg [.int .i64, .int .i64, .sl, .sl]) w13 (Addr.mk b11 0 none) fun x17 =>
        CallT Tryd.prog 18 #[(.int .i64 j3.1), (.agg #[(.int .i64 x17.1), (.int .i64 x17.2.1), (.slice x17.2.2.1.a x17.2.2.1.n x17.2.2.1.c), (.slice x17.2.2.2.1.a x17.2.2.2.1.n x17.2.2.2.1.c)])] (.sc (.int .i64)) w13 (fun r18 w19 =>
          Br ((r18 : Int) != 0)
            (R (.returned (.bool false)) w19)
            (Join (σ := Int × ByteArray × Addr × Unit) (fun j23 g22 w31 =>
              LoadT (.agg [.int .i64, .int .i64, .sl, .sl]) w31 j23.2.2.1 fun x32 =>
              CallN Tryd.prog 17 #[(.int .i64 j23.1), (.agg #[(.int .i64 x32.1), (.int .i64 x32.2.1), (.slice x32.2.2.1.a x32.2.2.1.n x32.2.2.1.c), (.slice x32.2.2.2.1.a x32.2.2.2.1.n x32.2.2.2.1.c)])] [.sc .sl, .sc (.int .i64)] w31 (fun r33 w34 =>
                LoadT (.agg [.int .i64, .int .i64, .sl, .sl]) w34 j23.2.2.1 fun x36 =>
                CallN Tryd.prog 21 #[(.int .i64 j23.1), (.agg #[(.int .i64 x36.1), (.int .i64 x36.2.1), (.slice x36.2.2.1.a x36.2.2.1.n x36.2.2.1.c), (.slice x36.2.2.2.1.a x36.2.2.2.1.n x36.2.2.2.1.c)]), (.string j23.2.1)] [.sc .sl, .sc (.int .i64)] w34 (fun r37 w38 =>
                  Br ((r33.2.1 : Int) != 0)
                    (R (.returned (.bool false)) w38)
                    (CallT Tryd.prog 22 #[(.int .i64 j23.1), (.string j23.2.1)] (.sc .bool) w38 (fun r40 w41 =>
                      Br (!r40)
                        (CallT Tryd.prog 14 #[] (.sc .bool) w41 (fun r43 w44 =>
                          Br r43
                            (Br ((r37.2.1 : Int) == 4)
                              (R (.returned (.bool ((((r37.1.n : Nat) : Int) : Int) == 0))) w44)
                              (R (.returned (.bool false)) w44))
                            (R (.returned (.bool false)) w44)) (fun h45 w44 => R (.panicked h45) w44))
                        (LoadT (.agg [.int .i64, .int .i64, .sl, .sl]) w41 j23.2.2.1 fun x46 =>
                        CallT Tryd.prog 23 #[(.agg #[(.int .i64 x46.1), (.int .i64 x46.2.1), (.slice x46.2.2.1.a x46.2.2.1.n x46.2.2.1.c), (.slice x46.2.2.2.1.a x46.2.2.2.1.n x46.2.2.2.1.c)]), (.string j23.2.1)] (.sc (.int .i64)) w41 (fun r47 w48 =>
                          Br ((r47 : Int) != 0)
                            (CallT Tryd.prog 14 #[] (.sc .bool) w48 (fun r50 w51 =>
                              Br r50
                                (Br ((r37.2.1 : Int) == 211)
                                  (R (.returned (.bool ((((r37.1.n : Nat) : Int) : Int) == 0))) w51)
                                  (R (.returned (.bool false)) w51))
                                (R (.returned (.bool false)) w51)) (fun h52 w51 => R (.panicked h52) w51))
                            (CallN Tryd.prog 19 #[(.slice r33.1.a r33.1.n r33.1.c), (.slice r37.1.a r37.1.n r37.1.c)] [.sc .str, .sc .bool] w48 (fun r53 w54 =>
                              CallT Tryd.prog 14 #[] (.sc .bool) w54 (fun r56 w57 =>
                                Br r56
                                  (Br ((r37.2.1 : Int) == 0)
                                    (Br r53.2.1
                                      (CallT Tryd.prog 24 #[(.slice r37.1.a r37.1.n r37.1.c)] (.sc .bool) w57 (fun r59 w60 =>
                                        Br r59
                                          (CallT Tryd.prog 25 #[(.string j23.2.1)] (.sc .str) w60 (fun r62 w63 =>
                                            R (.returned (.bool (r53.1.toList == r62.toList))) w63) (fun h64 w63 => R (.panicked h64) w63))
                                          (R (.returned (.bool false)) w60)) (fun h61 w60 => R (.panicked h61) w60))
                                      (R (.returned (.bool false)) w57))
                                    (R (.returned (.bool false)) w57))
                                  (R (.returned (.bool false)) w57)) (fun h58 w57 => R (.panicked h58) w57)) (fun h55 w54 => R (.panicked h55) w54))) (fun h49 w48 => R (.panicked h49) w48))) (fun h42 w41 => R (.panicked h42) w41))) (fun h39 w38 => R (.panicked h39) w38)) (fun h35 w34 => R (.panicked h35) w34)) fun J21 =>
              CallN Tryd.prog 19 #[(.slice j3.2.1.a j3.2.1.n j3.2.1.c), (.slice j3.2.2.1.a j3.2.2.1.n j3.2.2.1.c)] [.sc .str, .sc .bool] w19 (fun r24 w25 =>
                Br r24.2.1
                  (LoadT (.agg [.int .i64, .int .i64, .sl, .sl]) w25 (Addr.mk b11 0 none) fun x27 =>
                  CallN Tryd.prog 20 #[(.int .i64 j3.1), (.agg #[(.int .i64 x27.1), (.int .i64 x27.2.1), (.slice x27.2.2.1.a x27.2.2.1.n x27.2.2.1.c), (.slice x27.2.2.2.1.a x27.2.2.2.1.n x27.2.2.2.1.c)]), (.string r24.1)] [.sc .bool, .sc (.int .i64)] w25 (fun r28 w29 =>
                    Br ((r28.2.1 : Int) != 0)
                      (Br true
                        (R (.returned (.bool false)) w29)
                        (J21 (j3.1, j3.2.2.2.1, (Addr.mk b11 0 none), ()) w29))
                      (Br (!r28.1)
                        (R (.returned (.bool false)) w29)
                        (J21 (j3.1, j3.2.2.2.1, (Addr.mk b11 0 none), ()) w29))) (fun h30 w29 => R (.panicked h30) w29))
                  (J21 (j3.1, j3.2.2.2.1, (Addr.mk b11 0 none), ()) w25)) (fun h26 w25 => R (.panicked h26) w25))) (fun h20 w19 => R (.panicked h20) w19))) (fun h10 w9 => R (.panicked h10) w9)) fun J1 =>
    CallT Tryd.prog 11 #[(.slice p1.a p1.n p1.c), (.int .i64 1000)] (.sc .bool) w (fun r4 w5 =>
      Br (!r4)
        (Br true
          (R (.returned (.bool true)) w5)
          (J1 (p0, p1, p2, p3, ()) w5))
        (Br (decide ((((p2.n : Nat) : Int) : Int) > 40))
          (Br true
            (R (.returned (.bool true)) w5)
            (J1 (p0, p1, p2, p3, ()) w5))
          (Br (decide ((((p3.size : Nat) : Int) : Int) > 400))
            (R (.returned (.bool true)) w5)
            (J1 (p0, p1, p2, p3, ()) w5)))) (fun h6 w5 => R (.panicked h6) w5)
theorem cayleylaw21_FoldMembers.eq (p0 : Int) (p1 : Sl) (p2 : Sl) (p3 : ByteArray) (R : Ending → World → Prop) (w : World) : cayleylaw21_FoldMembers.sh p0 p1 p2 p3 R w = wpc Tryd.prog cayleylaw21_FoldMembers.ann cayleylaw21_FoldMembers.body (fnKs Tryd.prog Tryd.f5 R) [] (env0 #[(.int .i64 p0), (.slice p1.a p1.n p1.c), (.slice p2.a p2.n p2.c), (.string p3)]) w := by kernel_rfl
theorem cayleylaw21_FoldMembers.calls (p0 : Int) (p1 : Sl) (p2 : Sl) (p3 : ByteArray) {R : Ending → World → Prop} {w : World} (h : cayleylaw21_FoldMembers.sh p0 p1 p2 p3 R w) : Calls Tryd.prog 5 #[(.int .i64 p0), (.slice p1.a p1.n p1.c), (.slice p2.a p2.n p2.c), (.string p3)] w R :=
  calls_of_wpc mixed Tryd.func5 (by kernel_rfl) (by kernel_rfl) ((cayleylaw21_FoldMembers.eq p0 p1 p2 p3 R w).mp h)
end Go.Proofs.YtffdjfkekdoeaaaDoor
end
section
/- The walk of FoldNielsen. -/
set_option linter.unusedVariables false
set_option linter.unusedSimpArgs false
set_option maxRecDepth 8000
set_option maxHeartbeats 4000000
namespace Go.Proofs.YtffdjfkekdoeaaaDoor.Fo
open Fw Wd Rf Pl

/-- A string of a list is read, in this world and in those behind it. -/
theorem rdS {w : World} {x : Sl} {l : List ByteArray} (h : RdT w tS x l) {i : Int} {s : ByteArray} (h0 : 0 ≤ i) (hs : l[i.toNat]? = some s) {K : Addr → Prop} (k : ∀ a, (∀ W, Chg Nil w W → W.cell? a = some (.string s)) → K a) : Idx x.a x.n 1 i K :=
  h.idx (t := tS) i.toNat (by omega) hs fun a ha => k a fun W hW => hW.cell (by have := ha 0 _ rfl; rwa [add0] at this) fun h => h
theorem foldIs_err {k : Int} {gens : List ByteArray} {c : Int} (h : FoldIs k gens (.err c)) : c ≠ 0 := by
  cases h with
  | arg _ => decide
  | limit _ _ => decide
  | form _ _ _ => decide
  | fit hf hh =>
    obtain ⟨st, rows', o, i1, i2, i3, i4, ho⟩ := hh.ok
    cases hoo : o with
    | none => rw [hoo] at ho; cases ho; decide
    | some nx => rw [hoo] at ho; cases ho
theorem foldIs_ok {k : Int} {gens : List ByteArray} {m : Nat} {nexts : List Row} (h : FoldIs k gens (.ok m nexts)) : Fit k gens ∧ Folded k.toNat gens (.ok m nexts) := by
  cases h with
  | fit hf hh => exact ⟨hf, hh⟩
theorem foldIs_zero {k : Int} {gens : List ByteArray} {res : FoldR} (h : FoldIs k gens res) (h0 : (autR res).2 = 0) : ∃ m nexts, res = .ok m nexts ∧ Fit k gens ∧ Folded k.toNat gens (.ok m nexts) := by
  cases res with
  | ok m nexts => exact ⟨m, nexts, rfl, foldIs_ok h⟩
  | err c => exact absurd h0 (foldIs_err h)
theorem fit_strs {w : World} {x : Sl} {k : Int} {gens : List ByteArray} (h : RdT w tS x gens) (hf : Fit k gens) : StrsIn w x gens := ⟨h, by have := hf.len; omega, fun s hs => by have h1 := sizes_mem hs; have := hf.size; omega⟩
/-- A Fold of words that generate the same subgroup. -/
theorem fold_again {k : Int} {gens gens' : List ByteArray} {m : Nat} {nexts : List Row} (h : Folded k.toNat gens (.ok m nexts)) (hf' : Fit k gens') (hm : ∀ p, Pl.Mem (gens.map wordF) p ↔ Pl.Mem (gens'.map wordF) p) :
    (∃ K, FoldF K k gens' = some (.ok m nexts)) ∧ FoldIs k gens' (.ok m nexts) := by
  obtain ⟨res, h1, h2⟩ := fit_ev hf'
  have := fold_same h h2 hm
  subst this
  obtain ⟨K, h1⟩ := h1
  exact ⟨⟨K, h1 K (Nat.le_refl _)⟩, .fit hf' h2⟩

theorem FoldNielsen_ret {w : World} (hl : Laid w) (k : Int) {x : Sl} {gens : List ByteArray} (hg : StrsIn w x gens) (i j kind : Int) :
    Ret Tryd.prog 4 #[.int .i64 k, x.v, .int .i64 i, .int .i64 j, .int .i64 kind] (.sc .bool) w fun z w' => z = true ∧ Chg Nil w w' := by
  refine cayleylaw21_FoldNielsen.calls k x i j kind ?_
  unfold cayleylaw21_FoldNielsen.sh
  have hn : x.n = gens.length := hg.rd.len
  have sane : ∀ W, Chg Nil w W → Ret Tryd.prog 14 #[] (.sc .bool) W fun z w' => z = true ∧ Chg Nil w w' := fun W hW => Ret.mono (sane_ret (hl.nil hW)) fun z w' ⟨h1, h2⟩ => ⟨h1, hW.then h2⟩
  refine Join.by' (fun y W => y = (k, x, i, j, kind, ()) ∧ W = w ∧ sizes gens ≤ 2000 ∧ 0 ≤ i ∧ 0 ≤ j ∧ i < gens.length ∧ j < gens.length ∧ i ≠ j ∧ gens.length < 200) ?_ ?_
  rotate_left
  · intro J hJ
    refine Ret.call (Small_ret hg.rd hg.sum hg.len 2000) ?_
    rintro b W ⟨hb0, hW⟩
    rw [hW]; clear hW
    have out : ∀ {Kp : List PanicEntry → World → Prop}, CallT Tryd.prog 14 #[] (.sc .bool) w (fun r w' => ∃ x, Ending.returned (.bool r) = .returned ((Ty.sc .bool).val x) ∧ x = true ∧ Chg Nil w w') Kp := fun {Kp} =>
      Ret.call (sane w (Chg.refl w)) fun z w' ⟨h1, h2⟩ => ⟨z, rfl, h1, h2⟩
    refine Br.mk (fun _ => Br.t rfl out) (fun h1 => ?_)
    refine Br.dec (fun _ => Br.t rfl out) (fun h2 => ?_)
    refine Br.dec (fun _ => Br.t rfl out) (fun h3 => ?_)
    refine Br.dec (fun _ => Br.t rfl out) (fun h4 => ?_)
    refine Br.dec (fun _ => Br.t rfl out) (fun h5 => ?_)
    refine Br.mk (fun _ => Br.t rfl out) (fun h6 => ?_)
    refine Br.dec (fun _ => out) (fun h7 => ?_)
    have hb : b = true := by simpa using h1
    rw [hb] at hb0
    have hb1 := of_decide_eq_true hb0.symm
    have h6 : ¬ i = j := by simpa using h6
    exact hJ _ _ ⟨rfl, rfl, by omega, by omega, by omega, by omega, by omega, h6, by omega⟩
  rintro y W g ⟨rfl, hW, h2000, hi0, hj0, hi1, hj1, hij, h200⟩
  rw [hW]; clear hW
  dsimp only
  obtain ⟨res, hf, hi⟩ := fold_total k gens
  refine RetN.call (Fold_any hl hg hi hf) ?_
  rintro ⟨⟨y1, y2, sa, sn, _⟩, y3, _⟩ w1 ⟨hc1, ha, e3⟩
  have e3 : y3 = (autR res).2 := e3
  subst e3
  refine New.mk fun b32 w2 hb32 hn32 _ hc32 => ?_
  refine StoreN.whole (vs := [.int .i64 y1, .int .i64 y2, sa.v, sn.v]) hn32 rfl fun w3 h32 hc32' _ => ?_
  have hN3 : Chg Nil w1 w3 := hc32.trans hc32' (fun _ _ h => h) fun i hi he => by have he : i = b32 := he; omega
  have hc3 := hc1.then hN3
  have ha3 := ha.nil hN3
  dsimp only
  refine Br.mk (fun _ => Ret.call (sane w3 hc3) fun z w' ⟨h1, h2⟩ => ⟨z, rfl, h1, h2⟩) (fun h0 => ?_)
  have h0 : (autR res).2 = 0 := by simpa using h0
  obtain ⟨m, nexts, rfl, hfit, hfold⟩ := foldIs_zero hi h0
  have hg3 := hg.nil hc3
  obtain ⟨si, hsi⟩ : ∃ s, gens[i.toNat]? = some s := ⟨_, List.getElem?_eq_getElem (by omega)⟩
  obtain ⟨sj, hsj⟩ : ∃ s, gens[j.toNat]? = some s := ⟨_, List.getElem?_eq_getElem (by omega)⟩
  have hnij : i.toNat ≠ j.toNat := by omega
  have zi := sizes_mem (List.mem_of_getElem? hsi)
  have zj := sizes_mem (List.mem_of_getElem? hsj)
  refine New.mk fun b38 w4 hb38 hn38 _ hc38 => ?_
  have hg4 := hg3.nil hc38
  have hxa : x.a ≠ none := fun he => by
    obtain ⟨a, h1, _⟩ := hg.rd.at' _ _ hsi
    rw [he] at h1; cases h1
  refine OwnT.appendR (t := tS) ok22 rfl (by decide) (own_empty (t := tS) hn38 (by decide)) (by simp) hg4.rd hxa (by simp; omega) (by simp only [maxLen]; simp; omega) fun so w5 ho hne hc5 hown => ?_
  rw [List.nil_append] at ho
  have hown5 : ∀ q, so.own q → w3.heap.size ≤ q := fun q hq => by
    rcases hown q hq with ⟨ad, had, he⟩ | h1
    · cases had; dsimp only at he; omega
    · have := hc38.size; omega
  have hN5 : Chg Nil w3 w5 := hc38.trans hc5 (fun _ _ h => h) fun q hq ⟨ad, had, he⟩ => by cases had; dsimp only at he; omega
  have hlo : gens.length = gens.length := rfl
  have hli : i.toNat < gens.length := by omega
  have hlj : j.toNat < gens.length := by omega
  have hg5 : RdT w5 tS x gens := hg3.rd.chg hN5 fun _ _ h => h
  refine Join.by' (fun y W => ∃ r gens', y = (k, at0 b32, r, ()) ∧ Chg Nil w3 W ∧ RdT W tS r gens' ∧ Moved k gens gens') ?_ ?_
  · rintro y W g ⟨r, gens', rfl, hc6, hr, hmv⟩
    dsimp only
    have h03 := hc3.then hc6
    obtain ⟨hf2, hi2⟩ := fold_again hfold hmv.fit hmv.mem
    refine RetN.call (Fold_any (hl.nil h03) (fit_strs hr hmv.fit) hi2 hf2) ?_
    rintro ⟨⟨z1, z2, ta, tn, _⟩, z3, _⟩ w7 ⟨hc7, hb, e3⟩
    have e3 : z3 = 0 := e3
    subst e3
    refine New.mk fun b89 w8 hb89 hn89 _ hc89 => ?_
    refine StoreN.whole (vs := [.int .i64 z1, .int .i64 z2, ta.v, tn.v]) hn89 rfl fun w9 h89 hc89' _ => ?_
    have hN9 : Chg Nil w7 w9 := hc89.trans hc89' (fun _ _ h => h) fun i hi he => by have he : i = b89 := he; omega
    have hc39 := (hc6.then hc7).then hN9
    have hb9 := hb.nil hN9
    refine LoadT.mk tA (x := (y1, y2, sa, sn, ())) (fun j v hv => by rw [show at0 b32 = Addr.mk b32 0 none from rfl, cellOf (hc39.heap h32 fun h => h)]; simpa [Ty.cells] using hv) ?_
    obtain ⟨hm2, hck, hlead, hbas⟩ := bas_both hfit hfold
    have hkk : ((k.toNat : Nat) : Int) = k := by have := hfit.k1; omega
    have hau : (autR (.ok m nexts)).1 = autE k.toNat nexts := by rw [autR, autOf, autE, hm2]
    refine RetN.call (Basis_ret (x := (y1, y2, sa, sn, ())) (k := k) (hl.nil (hc3.then hc39)) (ha3.nil hc39)) ?_
    rw [hau]
    rintro ⟨r1, r2, _⟩ w10 ⟨q1, q2, hc10, _⟩
    have q1 : r2 = (basisF k (autE k.toNat nexts)).2 := q1
    have hb1 : basisF k (autE k.toNat nexts) = ((basF (autE k.toNat nexts).next).basis, 0) := by
      unfold basisF examF
      simp [hck, hfit.k1, hfit.k8]
    rw [hb1] at q1 q2
    have q1 : r2 = 0 := q1
    subst q1
    have hc310 := hc39.then hc10
    refine Join.by' (fun y W => y = (k, at0 b32, r1, ()) ∧ Chg Nil w10 W) ?_ ?_
    rotate_left
    · intro J hJ
      refine Ret.call (sane_ret (hl.nil (hc3.then hc310))) ?_
      rintro _ w11 ⟨rfl, hc11⟩
      have hc911 := hc10.then hc11
      have hc311 := hc39.then hc911
      refine Br.f rfl (Br.f rfl (Br.f rfl ?_))
      refine LoadT.mk tA (x := (y1, y2, sa, sn, ())) (fun j v hv => by rw [show at0 b32 = Addr.mk b32 0 none from rfl, cellOf (hc311.heap h32 fun h => h)]; simpa [Ty.cells] using hv) ?_
      refine LoadT.mk tA (x := (z1, z2, ta, tn, ())) (fun j v hv => by rw [cellOf (hc911.heap h89 fun h => h)]; simpa [Ty.cells] using hv) ?_
      refine Ret.call (Same_ret (ha3.nil hc311) (hb9.nil hc911)) ?_
      rintro _ w12 ⟨rfl, hc12⟩
      refine Br.f (by simp [sameF]) (hJ _ _ ⟨rfl, hc11.then hc12⟩)
    rintro y W11 g ⟨rfl, hc11⟩
    dsimp only
    have hc311 := hc310.then hc11
    have hr1 : RdT W11 tS r1 (basF (autE k.toNat nexts).next).basis := q2.rd.chg hc11 fun _ _ h => h
    have hbw : ∀ s ∈ (basF (autE k.toNat nexts).next).basis, checkF k s = 0 := fun s hs => bas_check ⟨hfit.k1, hfit.k8⟩ hck hs
    have hbs : ∀ s ∈ (basF (autE k.toNat nexts).next).basis, s.size ≤ 100000 := fun s hs => by
      have := hbw s hs
      exact check_size this
    refine Ret.call (Small_ret hr1 (fun hl => ?_) ?_ 20000) ?_
    · have := sizes_bound _ _ hbs
      have h3 : (basF (autE k.toNat nexts).next).basis.length * 100000 ≤ 200 * 100000 := Nat.mul_le_mul_right _ hl
      omega
    · have q3 : OwnT w10 9 tS r1 (basF (autE k.toNat nexts).next).basis := q2
      have := q3.rd.len
      rcases q3.block with ⟨_, hx⟩ | ⟨g, cur, _, _, h3, h4, _⟩
      · rw [hx]; simp
      · simp only [maxLen] at h4; omega
    rintro b W ⟨hbb, hW⟩
    rw [hW]; clear hW
    refine Br.mk (fun _ => ⟨true, rfl, rfl, hc3.then hc311⟩) (fun h1 => ?_)
    have hb2 : b = true := by simpa using h1
    rw [hb2] at hbb
    have hbb := of_decide_eq_true hbb.symm
    have hbfit : Fit k (basF (autE k.toNat nexts).next).basis := ⟨hfit.k1, hfit.k8, hbb.1, by omega, hbw⟩
    obtain ⟨hf3, hi3⟩ := fold_again hfold hbfit hbas
    refine RetN.call (Fold_any (hl.nil (hc3.then hc311)) (fit_strs hr1 hbfit) hi3 hf3) ?_
    rintro ⟨⟨u1, u2, ua, un, _⟩, u3, _⟩ w13 ⟨hc13, hu, e3⟩
    have e3 : u3 = 0 := e3
    subst e3
    refine New.mk fun b114 w14 hb114 hn114 _ hc114 => ?_
    refine StoreN.whole (vs := [.int .i64 u1, .int .i64 u2, ua.v, un.v]) hn114 rfl fun w15 h114 hc114' _ => ?_
    have hN15 : Chg Nil w13 w15 := hc114.trans hc114' (fun _ _ h => h) fun i hi he => by have he : i = b114 := he; omega
    have hc315 := (hc311.then hc13).then hN15
    refine Br.t rfl ?_
    refine LoadT.mk tA (x := (y1, y2, sa, sn, ())) (fun j v hv => by rw [show at0 b32 = Addr.mk b32 0 none from rfl, cellOf (hc315.heap h32 fun h => h)]; simpa [Ty.cells] using hv) ?_
    refine LoadT.mk tA (x := (u1, u2, ua, un, ())) (fun j v hv => by rw [cellOf h114]; simpa [Ty.cells] using hv) ?_
    refine Ret.call (Same_ret (ha3.nil hc315) (hu.nil hN15)) ?_
    rintro _ w16 ⟨rfl, hc16⟩
    exact ⟨_, rfl, by simp [sameF], (hc3.then hc315).then hc16⟩
  · intro J hJ
    refine Br.mk (fun _ => ?_) (fun _ => Br.mk (fun _ => ?_) (fun _ => Br.mk (fun _ => ?_) (fun _ => ?_)))
    · -- an inverse
      refine rdS hg5 hi0 hsi fun a ha => ?_
      refine LoadT.sc (s := .str) (ha _ (Chg.refl _)) ?_
      refine Ret.call (Rf.Inverse_ret w5 si) ?_
      rintro _ w6 ⟨rfl, hc6⟩
      have ho6 := ho.chg hc6 fun _ _ h => h
      refine OwnT.idx (t := tS) ho6 i.toNat (by omega) hli fun g hgg => ?_
      have hgn : w3.heap.size ≤ g := hown5 g ⟨_, hgg, rfl⟩
      refine OwnT.store ho6 hgg _ hli fun w7 ho7 hc7 _ => ?_
      exact hJ _ _ ⟨so, _, rfl, (hN5.then hc6).trans hc7 (fun _ _ h => h) fun q hq he => by have he : q = g := he; omega, ho7.rd, moved_inv hfit h2000 hsi⟩
    · -- a product
      have hgd : RdT w5.drew tS x gens := hg5.chg (S := Nil) (Chg.drew w5) fun _ _ h => h
      have hod : OwnT w5.drew 9 tS so gens := ho.chg (S := Nil) (Chg.drew w5) fun _ _ h => h
      refine rdS hgd hi0 hsi fun a ha => ?_
      refine LoadT.sc (s := .str) (ha _ (Chg.refl _)) ?_
      refine rdS hgd hj0 hsj fun a' ha' => ?_
      refine LoadT.sc (s := .str) (ha' _ (Chg.refl _)) ⟨by omega, ?_⟩
      refine OwnT.idx (t := tS) hod i.toNat (by omega) hli fun g hgg => ?_
      have hgn : w3.heap.size ≤ g := hown5 g ⟨_, hgg, rfl⟩
      refine OwnT.store hod hgg _ hli fun w7 ho7 hc7 _ => ?_
      have hN7 : Chg Nil w3 w7 := (hN5.then (Chg.drew w5)).trans hc7 (fun _ _ h => h) fun q hq he => by have he : q = g := he; omega
      refine Br.mk (fun _ => ?_) (fun _ => hJ _ _ ⟨so, _, rfl, hN7, ho7.rd, moved_cat hfit h2000 hnij hsi hsj⟩)
      refine ⟨fun W => Chg Nil w3 W, hN7.then (Chg.drew w7), ?_⟩
      refine rdS hg3.rd hi0 hsi fun a ha => ?_
      refine LoadS.sc (s := .str) (fun W hW => ha W hW) ?_
      refine rdS hg3.rd hj0 hsj fun a' ha' => ?_
      refine LoadS.sc (s := .str) (fun W hW => ha' W hW) ?_
      refine Ret.call (Rf.Inverse_ret w7.drew sj) ?_
      rintro _ w8 ⟨rfl, hc8⟩
      have hd7 : Chg Nil w7 w8 := (Chg.drew w7).then hc8
      have ho8 := ho7.chg hd7 fun _ _ h => h
      have hzj := (check_inv (hfit.word _ (List.mem_of_getElem? hsj))).2
      refine ⟨hN7.then hd7, by rw [hzj]; omega, ?_⟩
      refine OwnT.idx (t := tS) ho8 i.toNat (by omega) (by rw [List.length_set]; exact hli) fun g hgg => ?_
      have hgn : w3.heap.size ≤ g := hown5 g ⟨_, hgg, rfl⟩
      refine OwnT.store ho8 hgg _ (by rw [List.length_set]; exact hli) fun w9 ho9 hc9 _ => ?_
      rw [List.set_set] at ho9
      exact hJ _ _ ⟨so, _, rfl, (hN7.then hd7).trans hc9 (fun _ _ h => h) fun q hq he => by have he : q = g := he; omega, ho9.rd, moved_div hfit h2000 hnij hsi hsj⟩
    · -- an exchange
      refine rdS hg5 hj0 hsj fun a ha => ?_
      refine LoadT.sc (s := .str) (ha _ (Chg.refl _)) ?_
      refine OwnT.idx (t := tS) ho i.toNat (by omega) hli fun g hgg => ?_
      have hgn : w3.heap.size ≤ g := hown5 g ⟨_, hgg, rfl⟩
      refine OwnT.store ho hgg _ hli fun w6 ho6 hc6 _ => ?_
      have hN6 : Chg Nil w3 w6 := hN5.trans hc6 (fun _ _ h => h) fun q hq he => by have he : q = g := he; omega
      have hg6 : RdT w6 tS x gens := (hg3.nil hN6).rd
      refine rdS hg6 hi0 hsi fun a' ha' => ?_
      refine LoadT.sc (s := .str) (ha' _ (Chg.refl _)) ?_
      refine OwnT.idx (t := tS) ho6 j.toNat (by omega) (by rw [List.length_set]; exact hlj) fun g hgg => ?_
      have hgn : w3.heap.size ≤ g := hown5 g ⟨_, hgg, rfl⟩
      refine OwnT.store ho6 hgg _ (by rw [List.length_set]; exact hlj) fun w7 ho7 hc7 _ => ?_
      exact hJ _ _ ⟨so, _, rfl, hN6.trans hc7 (fun _ _ h => h) fun q hq he => by have he : q = g := he; omega, ho7.rd, moved_swap hfit h2000 hnij hsi hsj⟩
    · -- one more
      refine ⟨fun W => Chg Nil w3 W, hN5.then (Chg.drew w5), ?_⟩
      refine rdS hg3.rd hi0 hsi fun a ha => ?_
      refine LoadS.sc (s := .str) (fun W hW => ha W hW) ?_
      refine rdS hg3.rd hj0 hsj fun a' ha' => ?_
      refine LoadS.sc (s := .str) (fun W hW => ha' W hW) ⟨by omega, ?_⟩
      refine New.mk fun b81 w6 hb81 hn81 _ hc81 => ?_
      have hd6 : Chg Nil w5 w6 := (Chg.drew w5).then hc81
      refine ⟨hN5.then hd6, ?_⟩
      have ho6 := ho.chg hd6 fun _ _ h => h
      refine OwnT.append (t := tS) (m := 1) ok22 rfl (by decide) ho6 [_] rfl (by decide) (fun j v hv => by rw [cellOf hn81]; simpa [Ty.cells] using hv) (by omega) (by simp only [maxLen]; omega) fun so' w7 ho7 hc7 hown7 => ?_
      have hN7 : Chg Nil w3 w7 := (hN5.then hd6).trans hc7 (fun _ _ h => h) fun q hq he => by have := hown5 q he; omega
      exact ⟨hN7, hJ _ _ ⟨so', _, rfl, hN7, ho7.rd, moved_more hfit h2000 h200 hsi hsj⟩⟩
end Go.Proofs.YtffdjfkekdoeaaaDoor.Fo
end
