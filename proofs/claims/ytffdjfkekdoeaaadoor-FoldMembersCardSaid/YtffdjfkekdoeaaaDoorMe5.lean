/- Parts of a proof, laid one behind the other by our own merge.py: PlPrune RfIs PlAll PlTotal RfFold PlStall1 PlCheck PlTree PlBasis PlStall2 PlStall3 LwFinds PlWord PlLang PlUniq PlSame PlNum PlGood PlMove PlLead PlGen PlGen2 PlGen3 PlBoth PlFit PlNiel Sh6 LwNielsen. -/
import Derived.Test.YtffdjfkekdoeaaaDoorMe1
import Derived.Test.YtffdjfkekdoeaaaDoorMe4
import Derived.Test.YtffdjfkekdoeaaaDoorMe3
import Derived.Test.YtffdjfkekdoeaaaDoorProg
import Derived.KernelRfl
section
set_option linter.unusedVariables false
set_option linter.unusedSimpArgs false
set_option maxRecDepth 4000
set_option maxHeartbeats 2000000
namespace Go.Proofs.YtffdjfkekdoeaaaDoor.Pl
open Fo
def To (rows : List (Option Row)) (s x t : Nat) : Prop := ∃ row, rows[s]? = some (some row) ∧ row[x]? = some (some t)
def Live (rows : List (Option Row)) (s : Nat) : Prop := ∃ row, rows[s]? = some (some row)
structure Wf (m : Nat) (rows : List (Option Row)) : Prop where
  len : ∀ (s : Nat) (row : Row), rows[s]? = some (some row) → row.length = m
  tgt : ∀ s x t, To rows s x t → Live rows t
  inv : ∀ s x t, To rows s x t → To rows t (x ^^^ 1) s
def One (rows : List (Option Row)) (s : Nat) : Prop := ∀ x x' t t', To rows s x t → To rows s x' t' → x = x'
theorem To.unique {rows : List (Option Row)} {s x t t' : Nat} (h : To rows s x t) (h' : To rows s x t') : t = t' := by
  obtain ⟨r, h1, h2⟩ := h; obtain ⟨r', h3, h4⟩ := h'
  rw [h1] at h3; cases h3; rw [h2] at h4; cases h4; rfl
theorem To.lt {m : Nat} {rows : List (Option Row)} (hw : Wf m rows) {s x t : Nat} (h : To rows s x t) : x < m := by
  obtain ⟨r, h1, h2⟩ := h
  rw [← hw.len s r h1]; exact (List.getElem?_eq_some_iff.1 h2).1
theorem degF_cons (o : Option Nat) (l : Row) : degF (o :: l) = degF l + (if o.isSome = true then 1 else 0) := by
  unfold degF
  cases o <;> simp
theorem deg_zero : ∀ (r : Row), degF r = 0 → ∀ (x t : Nat), r[x]? ≠ some (some t)
  | [], _, x, t, h => by simp at h
  | o :: l, hd, x, t, h => by
    rw [degF_cons] at hd
    cases x with
    | zero => simp only [List.getElem?_cons_zero, Option.some.injEq] at h; subst h; simp at hd
    | succ x => exact deg_zero l (by omega) x t (by simpa using h)
theorem deg_pos : ∀ (r : Row), 0 < degF r → ∃ x t : Nat, r[x]? = some (some t)
  | [], h => by simp [degF] at h
  | none :: l, h => by
    rw [degF_cons] at h
    obtain ⟨x, t, hx⟩ := deg_pos l (by simpa using h)
    exact ⟨x + 1, t, by simpa using hx⟩
  | some t :: l, _ => ⟨0, t, rfl⟩
theorem deg_one : ∀ (r : Row), degF r ≤ 1 → ∀ (x x' t t' : Nat), r[x]? = some (some t) → r[x']? = some (some t') → x = x'
  | [], _, x, _, t, _, h, _ => by simp at h
  | o :: l, hd, x, x', t, t', h, h' => by
    rw [degF_cons] at hd
    cases x with
    | zero =>
      simp only [List.getElem?_cons_zero, Option.some.injEq] at h
      subst h
      cases x' with
      | zero => rfl
      | succ x' => exact absurd (by simpa using h') (deg_zero l (by simpa using hd) x' t')
    | succ x =>
      cases x' with
      | zero =>
        simp only [List.getElem?_cons_zero, Option.some.injEq] at h'
        subst h'
        exact absurd (by simpa using h) (deg_zero l (by simpa using hd) x t)
      | succ x' => rw [deg_one l (by omega) x x' t t' (by simpa using h) (by simpa using h')]
theorem deg_two : ∀ (r : Row), 2 ≤ degF r → ∀ x : Nat, ∃ x' t' : Nat, x' ≠ x ∧ r[x']? = some (some t')
  | [], h, _ => by simp [degF] at h
  | none :: l, h, x => by
    rw [degF_cons] at h
    cases x with
    | zero =>
      obtain ⟨x', t', hx⟩ := deg_pos l (by simp at h; omega)
      exact ⟨x' + 1, t', by omega, by simpa using hx⟩
    | succ x =>
      obtain ⟨x', t', h1, h2⟩ := deg_two l (by simpa using h) x
      exact ⟨x' + 1, t', by omega, by simpa using h2⟩
  | some t :: l, h, x => by
    rw [degF_cons] at h
    cases x with
    | zero =>
      obtain ⟨x', t', hx⟩ := deg_pos l (by simp at h; omega)
      exact ⟨x' + 1, t', by omega, by simpa using hx⟩
    | succ x => exact ⟨0, t, by omega, rfl⟩
theorem deg_set : ∀ (r : Row) (x t : Nat), r[x]? = some (some t) → degF (r.set x none) + 1 = degF r
  | [], x, t, h => by simp at h
  | o :: l, 0, t, h => by
    simp only [List.getElem?_cons_zero, Option.some.injEq] at h
    subst h
    rw [List.set_cons_zero, degF_cons, degF_cons]; simp
  | o :: l, x + 1, t, h => by
    rw [List.set_cons_succ, degF_cons, degF_cons]
    have := deg_set l x t (by simpa using h)
    omega
def degO : Option Row → Nat
  | some r => degF r
  | none => 0
def cnt (rows : List (Option Row)) : Nat := (rows.map degO).sum
theorem cnt_set : ∀ (rows : List (Option Row)) (s : Nat) (o o' : Option Row), rows[s]? = some o → cnt (rows.set s o') + degO o = cnt rows + degO o'
  | [], s, o, o', h => by simp at h
  | p :: l, 0, o, o', h => by
    simp only [List.getElem?_cons_zero, Option.some.injEq] at h
    subst h
    simp [cnt]; omega
  | p :: l, s + 1, o, o', h => by
    have := cnt_set l s o o' (by simpa using h)
    simp [cnt] at this ⊢; omega
structure Part (start : Nat) (S : Nat → Nat → Nat → Prop) : Prop where
  inv : ∀ s x t, S s x t → S t (x ^^^ 1) s
  two : ∀ s x t, S s x t → s ≠ start → ∃ x' t', x' ≠ x ∧ S s x' t'
structure Cut (start : Nat) (rows rows' : List (Option Row)) : Prop where
  len : rows'.length = rows.length
  live : ∀ s, Live rows' s ↔ Live rows s
  sub : ∀ s x t, To rows' s x t → To rows s x t
  max : ∀ S, Part start S → (∀ s x t, S s x t → To rows s x t) → ∀ s x t, S s x t → To rows' s x t
theorem Cut.refl (start : Nat) (rows : List (Option Row)) : Cut start rows rows := ⟨rfl, fun _ => Iff.rfl, fun _ _ _ h => h, fun _ _ h => h⟩
theorem Cut.trans {start : Nat} {a b c : List (Option Row)} (h : Cut start a b) (k : Cut start b c) : Cut start a c :=
  ⟨k.len.trans h.len, fun s => (k.live s).trans (h.live s), fun s x t e => h.sub s x t (k.sub s x t e), fun S hS hs => k.max S hS (h.max S hS hs)⟩
structure Lv (start : Nat) (rows : List (Option Row)) (leaves : List Nat) (ex : Nat → Prop) : Prop where
  ok : ∀ v ∈ leaves, Live rows v ∧ v ≠ start ∧ One rows v
  all : ∀ v x t, To rows v x t → v ≠ start → One rows v → v ∈ leaves ∨ ex v
theorem xor_ne (x : Nat) : x ^^^ 1 ≠ x := fun h => by
  have h1 := congrArg (· ^^^ x) h
  simp only [Nat.xor_self] at h1
  rw [Nat.xor_comm x 1, Nat.xor_assoc, Nat.xor_self] at h1
  simp at h1
theorem drop_edge {m start : Nat} (hxm : ∀ x, x < m → x ^^^ 1 < m) {rows : List (Option Row)} (hw : Wf m rows) {s y t : Nat} {row rt : Row} (hs : rows[s]? = some (some row)) (hy : row[y]? = some (some t)) (hst : s ≠ start) (hone : One rows s) (ht : rows[t]? = some (some rt)) :
    t ≠ s ∧ Wf m ((rows.set s (some (row.set y none))).set t (some (rt.set (y ^^^ 1) none))) ∧ Cut start rows ((rows.set s (some (row.set y none))).set t (some (rt.set (y ^^^ 1) none))) ∧ cnt ((rows.set s (some (row.set y none))).set t (some (rt.set (y ^^^ 1) none))) + 2 = cnt rows ∧
      (∀ u x v, To ((rows.set s (some (row.set y none))).set t (some (rt.set (y ^^^ 1) none))) u x v ↔ To rows u x v ∧ ¬ (u = s ∧ x = y) ∧ ¬ (u = t ∧ x = y ^^^ 1)) := by
  have hE : To rows s y t := ⟨row, hs, hy⟩
  have hI := hw.inv s y t hE
  have hts : t ≠ s := fun he => by
    subst he
    exact xor_ne y (hone _ _ _ _ hI hE)
  have hsl : s < rows.length := (List.getElem?_eq_some_iff.1 hs).1
  have htl : t < rows.length := (List.getElem?_eq_some_iff.1 ht).1
  obtain ⟨rt', q1, q2⟩ := hI
  rw [ht] at q1; cases q1
  have hyl : y < row.length := (List.getElem?_eq_some_iff.1 hy).1
  have hy1 : (y ^^^ 1) < rt.length := (List.getElem?_eq_some_iff.1 q2).1
  generalize hR : (rows.set s (some (row.set y none))).set t (some (rt.set (y ^^^ 1) none)) = R
  have at_t : R[t]? = some (some (rt.set (y ^^^ 1) none)) := by rw [← hR, List.getElem?_set_self (by rw [List.length_set]; exact htl)]
  have at_s : R[s]? = some (some (row.set y none)) := by rw [← hR, List.getElem?_set_ne hts, List.getElem?_set_self hsl]
  have at_o : ∀ u, u ≠ s → u ≠ t → R[u]? = rows[u]? := fun u h1 h2 => by rw [← hR, List.getElem?_set_ne (fun e => h2 e.symm), List.getElem?_set_ne (fun e => h1 e.symm)]
  have hto : ∀ u x v, To R u x v ↔ To rows u x v ∧ ¬ (u = s ∧ x = y) ∧ ¬ (u = t ∧ x = y ^^^ 1) := fun u x v => by
    by_cases hus : u = s
    · subst hus
      constructor
      · rintro ⟨r, h1, h2⟩
        rw [at_s] at h1; cases h1
        by_cases hx : x = y
        · subst hx; rw [List.getElem?_set_self hyl] at h2; cases h2
        · rw [List.getElem?_set_ne (fun e => hx e.symm)] at h2
          exact ⟨⟨row, hs, h2⟩, fun h => hx h.2, fun h => hts h.1.symm⟩
      · rintro ⟨⟨r, h1, h2⟩, h3, _⟩
        rw [hs] at h1; cases h1
        exact ⟨_, at_s, by rw [List.getElem?_set_ne (fun e => h3 ⟨rfl, e.symm⟩)]; exact h2⟩
    · by_cases hut : u = t
      · subst hut
        constructor
        · rintro ⟨r, h1, h2⟩
          rw [at_t] at h1; cases h1
          by_cases hx : x = y ^^^ 1
          · subst hx; rw [List.getElem?_set_self hy1] at h2; cases h2
          · rw [List.getElem?_set_ne (fun e => hx e.symm)] at h2
            exact ⟨⟨rt, ht, h2⟩, fun h => hus h.1, fun h => hx h.2⟩
        · rintro ⟨⟨r, h1, h2⟩, _, h3⟩
          rw [ht] at h1; cases h1
          exact ⟨_, at_t, by rw [List.getElem?_set_ne (fun e => h3 ⟨rfl, e.symm⟩)]; exact h2⟩
      · unfold To
        rw [at_o u hus hut]
        exact ⟨fun h => ⟨h, fun hh => hus hh.1, fun hh => hut hh.1⟩, fun h => h.1⟩
  have hlive : ∀ u, Live R u ↔ Live rows u := fun u => by
    by_cases hus : u = s
    · subst hus; exact ⟨fun _ => ⟨_, hs⟩, fun _ => ⟨_, at_s⟩⟩
    · by_cases hut : u = t
      · subst hut; exact ⟨fun _ => ⟨_, ht⟩, fun _ => ⟨_, at_t⟩⟩
      · unfold Live; rw [at_o u hus hut]
  have xx : ∀ z, (z ^^^ 1) ^^^ 1 = z := fun z => by rw [Nat.xor_assoc, Nat.xor_self, Nat.xor_zero]
  refine ⟨hts, ⟨fun u r h => ?_, fun u x v h => (hlive v).2 (hw.tgt u x v ((hto u x v).1 h).1), fun u x v h => ?_⟩, ⟨by rw [← hR, List.length_set, List.length_set], hlive, fun u x v h => ((hto u x v).1 h).1, fun S hS hsub u x v h => ?_⟩, ?_, hto⟩
  · by_cases hus : u = s
    · subst hus; rw [at_s] at h; cases h; rw [List.length_set]; exact hw.len u row hs
    · by_cases hut : u = t
      · subst hut; rw [at_t] at h; cases h; rw [List.length_set]; exact hw.len u rt ht
      · rw [at_o u hus hut] at h; exact hw.len u r h
  · obtain ⟨h1, h2, h3⟩ := (hto u x v).1 h
    refine (hto v (x ^^^ 1) u).2 ⟨hw.inv u x v h1, ?_, ?_⟩
    · rintro ⟨rfl, he⟩
      have h4 := hw.inv u x v h1
      rw [he] at h4
      have : u = t := h4.unique hE
      subst this
      exact h3 ⟨rfl, by rw [← he, xx]⟩
    · rintro ⟨rfl, he⟩
      have h4 := hw.inv u x v h1
      rw [he] at h4
      have : u = s := h4.unique ⟨rt, ht, q2⟩
      subst this
      exact h2 ⟨rfl, by have := congrArg (· ^^^ 1) he; simpa [xx] using this⟩
  · refine (hto u x v).2 ⟨hsub u x v h, ?_, ?_⟩
    · rintro ⟨rfl, rfl⟩
      obtain ⟨x', t', h1, h2⟩ := hS.two u x v h hst
      exact h1 (hone _ _ _ _ (hsub _ _ _ h2) hE)
    · rintro ⟨rfl, rfl⟩
      have hv : v = s := (hsub _ _ _ h).unique ⟨rt, ht, q2⟩
      subst hv
      have h4 := hS.inv _ _ _ h
      rw [xx] at h4
      obtain ⟨x', t', h1, h2⟩ := hS.two v y u h4 hst
      exact h1 (hone _ _ _ _ (hsub _ _ _ h2) hE)
  · have h1 := cnt_set rows s (some row) (some (row.set y none)) hs
    have ht1 : (rows.set s (some (row.set y none)))[t]? = some (some rt) := by rw [List.getElem?_set_ne (fun e => hts e.symm)]; exact ht
    have h2 := cnt_set (rows.set s (some (row.set y none))) t (some rt) (some (rt.set (y ^^^ 1) none)) ht1
    have h3 := deg_set row y t hy
    have h4 := deg_set rt (y ^^^ 1) s q2
    rw [hR] at h2
    simp only [degO] at h1 h2
    omega
theorem pruneRow_ev {m start : Nat} (hxm : ∀ x, x < m → x ^^^ 1 < m) : ∀ (n : Nat) (rows : List (Option Row)) (leaves : List Nat) (s y : Nat), Wf m rows → Live rows s → s ≠ start → One rows s → y + n = m → leaves.length + cnt rows < big → (∀ x t, To rows s x t → y ≤ x) → Lv start rows leaves (· = s) →
    ∃ rows' leaves', pruneRow start s n rows leaves y = some (rows', leaves') ∧ Wf m rows' ∧ Cut start rows rows' ∧ leaves'.length + cnt rows' ≤ leaves.length + cnt rows ∧ Lv start rows' leaves' (fun _ => False)
  | 0, rows, leaves, s, y, hw, hl, hst, hone, hy, hb, hlow, hL => by
    refine ⟨rows, leaves, rfl, hw, Cut.refl _ _, Nat.le_refl _, ⟨hL.ok, fun v x t h1 h2 h3 => ?_⟩⟩
    rcases hL.all v x t h1 h2 h3 with h | rfl
    · exact .inl h
    · have := hlow x t h1
      have := To.lt hw h1
      omega
  | n + 1, rows, leaves, s, y, hw, hl, hst, hone, hy, hb, hlow, hL => by
    obtain ⟨row, hs⟩ := hl
    have hrl := hw.len s row hs
    have hyl : y < row.length := by omega
    have hye : row[y]? = some row[y] := List.getElem?_eq_getElem hyl
    cases ho : row[y] with
    | none =>
      obtain ⟨rows', leaves', h1, h2⟩ := pruneRow_ev hxm n rows leaves s (y + 1) hw ⟨row, hs⟩ hst hone (by omega) hb (fun x t h => by
        have := hlow x t h
        by_cases he : x = y
        · subst he
          obtain ⟨r, q1, q2⟩ := h
          rw [hs] at q1; cases q1
          rw [hye, ho] at q2; cases q2
        · omega) hL
      refine ⟨rows', leaves', ?_, h2⟩
      simp only [pruneRow, hs, hye, ho]
      exact h1
    | some t =>
      have hyt : row[y]? = some (some t) := by rw [hye, ho]
      obtain ⟨rt, ht⟩ := hw.tgt s y t ⟨row, hs, hyt⟩
      obtain ⟨hts, hw2, hcut, hcnt, hto⟩ := drop_edge (start := start) hxm hw hs hyt hst hone ht
      have hsl : s < rows.length := (List.getElem?_eq_some_iff.1 hs).1
      have htl : t < rows.length := (List.getElem?_eq_some_iff.1 ht).1
      have ht1 : (rows.set s (some (row.set y none)))[t]? = some (some rt) := by rw [List.getElem?_set_ne (fun e => hts e.symm)]; exact ht
      have hy1 : (y ^^^ 1) < rt.length := by rw [hw.len t rt ht]; exact hxm y (by omega)
      generalize hR : (rows.set s (some (row.set y none))).set t (some (rt.set (y ^^^ 1) none)) = R at *
      have at_t : R[t]? = some (some (rt.set (y ^^^ 1) none)) := by rw [← hR, List.getElem?_set_self (by rw [List.length_set]; exact htl)]
      have hnoS : ∀ x v, ¬ To R s x v := fun x v h => by
        obtain ⟨h1, h2, _⟩ := (hto s x v).1 h
        exact h2 ⟨rfl, hone _ _ _ _ h1 ⟨row, hs, hyt⟩⟩
      have hone' : ∀ v, One rows v → One R v := fun v h x x' a b h1 h2 => h x x' a b ((hto _ _ _).1 h1).1 ((hto _ _ _).1 h2).1
      have hll : leaves.length < big := by omega
      have hdeg : degF (rt.set (y ^^^ 1) none) = 1 → One R t ∧ ∃ x v, To R t x v := fun hd => by
        refine ⟨fun x x' a b ⟨r, h1, h2⟩ ⟨r', h3, h4⟩ => ?_, ?_⟩
        · rw [at_t] at h1 h3; cases h1; cases h3
          exact deg_one _ (by omega) x x' a b h2 h4
        · obtain ⟨x, v, hv⟩ := deg_pos _ (by omega : 0 < degF (rt.set (y ^^^ 1) none))
          exact ⟨x, v, _, at_t, hv⟩
      generalize hlv : (if t != start && degF (rt.set (y ^^^ 1) none) == 1 then leaves ++ [t] else leaves) = leaves2
      have hl2 : leaves2.length ≤ leaves.length + 1 := by rw [← hlv]; split <;> simp
      have hL2 : Lv start R leaves2 (· = s) := by
        refine ⟨fun v hv => ?_, fun v x u h1 h2 h3 => ?_⟩
        · have : v ∈ leaves ∨ (v = t ∧ t ≠ start ∧ degF (rt.set (y ^^^ 1) none) = 1) := by
            rw [← hlv] at hv
            split at hv
            · rename_i hc
              simp only [Bool.and_eq_true, bne_iff_ne, ne_eq, beq_iff_eq] at hc
              rcases List.mem_append.1 hv with hv | hv
              · exact .inl hv
              · simp only [List.mem_singleton] at hv; exact .inr ⟨hv, hc⟩
            · exact .inl hv
          rcases this with hv | ⟨rfl, h2, h3⟩
          · obtain ⟨q1, q2, q3⟩ := hL.ok v hv
            exact ⟨(hcut.live v).2 q1, q2, hone' v q3⟩
          · exact ⟨⟨_, at_t⟩, h2, (hdeg h3).1⟩
        · by_cases hvt : v = t
          · subst hvt
            have hd : degF (rt.set (y ^^^ 1) none) = 1 := by
              obtain ⟨r, q1, q2⟩ := h1
              rw [at_t] at q1; cases q1
              have hp : 0 < degF (rt.set (y ^^^ 1) none) := by
                by_cases h0 : degF (rt.set (y ^^^ 1) none) = 0
                · exact absurd q2 (deg_zero _ h0 x u)
                · omega
              by_cases h2' : 2 ≤ degF (rt.set (y ^^^ 1) none)
              · obtain ⟨x', t', e1, e2⟩ := deg_two _ h2' x
                exact absurd (h3 x' x t' u ⟨_, at_t, e2⟩ ⟨_, at_t, q2⟩) e1
              · omega
            refine .inl ?_
            rw [← hlv, if_pos (by simp [h2, hd])]
            simp
          · by_cases hvs : v = s
            · exact .inr hvs
            · have hoR : ∀ x u, To rows v x u → To R v x u := fun x u h => (hto v x u).2 ⟨h, fun hh => hvs hh.1, fun hh => hvt hh.1⟩
              rcases hL.all v x u ((hto _ _ _).1 h1).1 h2 (fun a b c d e1 e2 => h3 a b c d (hoR _ _ e1) (hoR _ _ e2)) with h | h
              · refine .inl ?_
                rw [← hlv]; split
                · exact List.mem_append_left _ h
                · exact h
              · exact .inr h
      obtain ⟨rows', leaves', h1, h2, h3, h4, h5⟩ := pruneRow_ev hxm n R leaves2 s (y + 1) hw2 ((hcut.live s).2 ⟨row, hs⟩) hst (hone' s hone) (by omega) (by omega) (fun x v h => absurd h (hnoS x v)) hL2
      refine ⟨rows', leaves', ?_, h2, hcut.trans h3, by omega, h5⟩
      simp only [pruneRow, hs, hye, ho, ht1]
      rw [if_pos ⟨hy1, hll⟩, hR, hlv]
      exact h1
theorem prune_ev {m start : Nat} (hxm : ∀ x, x < m → x ^^^ 1 < m) : ∀ (N : Nat) (rows : List (Option Row)) (leaves : List Nat), leaves.length + cnt rows ≤ N → N < big → Wf m rows → Lv start rows leaves (fun _ => False) →
    ∃ rows', (∀ k, N < k → pruneF start k rows leaves = some rows') ∧ Wf m rows' ∧ Cut start rows rows' ∧ Lv start rows' [] (fun _ => False) := by
  intro N
  induction N with
  | zero =>
    intro rows leaves hN hb hw hL
    have : leaves = [] := List.eq_nil_of_length_eq_zero (by omega)
    subst this
    refine ⟨rows, fun k hk => ?_, hw, Cut.refl _ _, hL⟩
    obtain ⟨k, rfl⟩ : ∃ m, k = m + 1 := ⟨k - 1, by omega⟩
    simp only [pruneF, List.getLast?_nil]
  | succ N ih =>
    intro rows leaves hN hb hw hL
    rcases List.eq_nil_or_concat leaves with rfl | ⟨ls, s, rfl⟩
    · refine ⟨rows, fun k hk => ?_, hw, Cut.refl _ _, hL⟩
      obtain ⟨k, rfl⟩ : ∃ m, k = m + 1 := ⟨k - 1, by omega⟩
      simp only [pruneF, List.getLast?_nil]
    · rw [List.concat_eq_append] at *
      obtain ⟨⟨row, hs⟩, hst, hone⟩ := hL.ok s (by simp)
      simp only [List.length_append, List.length_singleton] at hN
      obtain ⟨rows1, leaves1, h1, h2, h3, h4, h5⟩ := pruneRow_ev (start := start) hxm row.length rows ls s 0 hw ⟨row, hs⟩ hst hone (by rw [hw.len s row hs]; omega) (by omega) (fun _ _ _ => Nat.zero_le _)
        ⟨fun v hv => hL.ok v (by simp [hv]), fun v x t a1 a2 a3 => by
          rcases hL.all v x t a1 a2 a3 with h | h
          · rcases List.mem_append.1 h with h | h
            · exact .inl h
            · simp only [List.mem_singleton] at h; exact .inr h
          · exact h.elim⟩
      obtain ⟨rows', r1, r2, r3, r4⟩ := ih rows1 leaves1 (by omega) (by omega) h2 h5
      refine ⟨rows', fun k hk => ?_, r2, h3.trans r3, r4⟩
      obtain ⟨k, rfl⟩ : ∃ m, k = m + 1 := ⟨k - 1, by omega⟩
      simp only [pruneF, List.getLast?_append, List.getLast?_singleton, Option.some_or, hs, List.dropLast_concat, h1]
      exact r1 k (by omega)
theorem leaves_mem (start : Nat) : ∀ (l : List (Option Row)) (s v : Nat), v ∈ leavesF start s l ↔ ∃ i o, l[i]? = some o ∧ v = s + i ∧ leafAt start v o = true
  | [], s, v => by simp [leavesF]
  | o :: l, s, v => by
    have ih := leaves_mem start l (s + 1) v
    simp only [leavesF]
    constructor
    · intro h
      split at h
      · rename_i hl
        rcases List.mem_cons.1 h with rfl | h
        · exact ⟨0, o, rfl, rfl, hl⟩
        · obtain ⟨i, o', h1, h2, h3⟩ := ih.1 h
          exact ⟨i + 1, o', by simpa using h1, by omega, h3⟩
      · obtain ⟨i, o', h1, h2, h3⟩ := ih.1 h
        exact ⟨i + 1, o', by simpa using h1, by omega, h3⟩
    · rintro ⟨i, o', h1, h2, h3⟩
      cases i with
      | zero =>
        simp only [List.getElem?_cons_zero, Option.some.injEq] at h1
        subst h1
        rw [Nat.add_zero] at h2
        subst h2
        rw [if_pos h3]; simp
      | succ i =>
        have := ih.2 ⟨i, o', by simpa using h1, by omega, h3⟩
        split
        · exact List.mem_cons_of_mem _ this
        · exact this
theorem cnt_le {m : Nat} : ∀ (rows : List (Option Row)), (∀ r, some r ∈ rows → r.length = m) → cnt rows ≤ rows.length * m
  | [], _ => by simp [cnt]
  | o :: l, h => by
    have := cnt_le l fun r hr => h r (by simp [hr])
    have h1 : degO o ≤ m := by
      cases o with
      | none => exact Nat.zero_le _
      | some r => rw [← h r (by simp)]; exact List.length_filter_le _ _
    simp only [cnt, List.map_cons, List.sum_cons, List.length_cons, Nat.add_mul, Nat.one_mul] at this ⊢
    omega
theorem pruned {m start : Nat} (hxm : ∀ x, x < m → x ^^^ 1 < m) {rows : List (Option Row)} (hw : Wf m rows) (hb : rows.length * (m + 1) < big) :
    ∃ rows', Fo.big = Fo.big ∧ (∀ k, rows.length * (m + 1) < k → pruneF start k rows (leavesF start 0 rows) = some rows') ∧ Wf m rows' ∧ Cut start rows rows' ∧ ∀ s x t, To rows' s x t → s ≠ start → ∃ x' t', x' ≠ x ∧ To rows' s x' t' := by
  have hl : (leavesF start 0 rows).length ≤ rows.length := by
    have : ∀ (l : List (Option Row)) (s : Nat), (leavesF start s l).length ≤ l.length := by
      intro l
      induction l with
      | nil => intro s; simp [leavesF]
      | cons r l ih =>
        intro s
        simp only [leavesF]
        have := ih (s + 1)
        split <;> simp <;> omega
    exact this rows 0
  have hc : cnt rows ≤ rows.length * m := cnt_le rows fun r hr => by
    obtain ⟨s, hs⟩ := List.getElem?_of_mem hr
    exact hw.len s r hs
  have hle : (leavesF start 0 rows).length + cnt rows ≤ rows.length * (m + 1) := by rw [Nat.mul_add, Nat.mul_one]; omega
  obtain ⟨rows', h1, h2, h3, h4⟩ := prune_ev (start := start) hxm (rows.length * (m + 1)) rows (leavesF start 0 rows) hle hb hw
    ⟨fun v hv => by
      obtain ⟨i, o, q1, q2, q3⟩ := (leaves_mem start rows 0 v).1 hv
      rw [Nat.zero_add] at q2
      subst q2
      unfold leafAt at q3
      split at q3
      · rename_i r
        simp only [Bool.and_eq_true, bne_iff_ne, ne_eq, beq_iff_eq] at q3
        refine ⟨⟨r, q1⟩, q3.1, fun x x' t t' ⟨r1, e1, e2⟩ ⟨r2, e3, e4⟩ => ?_⟩
        rw [q1] at e1 e3; cases e1; cases e3
        exact deg_one r (by omega) x x' t t' e2 e4
      · exact absurd q3 Bool.false_ne_true, fun v x t a1 a2 a3 => .inl ((leaves_mem start rows 0 v).2 (by
        obtain ⟨r, e1, e2⟩ := a1
        refine ⟨v, some r, e1, by omega, ?_⟩
        unfold leafAt
        have hp : 0 < degF r := by
          by_cases h0 : degF r = 0
          · exact absurd e2 (deg_zero _ h0 x t)
          · omega
        have hd : degF r = 1 := by
          by_cases h2' : 2 ≤ degF r
          · obtain ⟨x', t', f1, f2⟩ := deg_two _ h2' x
            exact absurd (a3 x' x t' t ⟨_, e1, f2⟩ ⟨_, e1, e2⟩) f1
          · omega
        simp [a2, hd]))⟩
  refine ⟨rows', rfl, h1, h2, h3, fun s x t hst hs => ?_⟩
  by_cases hex : ∃ x' t', x' ≠ x ∧ To rows' s x' t'
  · exact hex
  · exfalso
    have hone : One rows' s := fun a b c d e1 e2 => by
      have ea : a = x := Classical.byContradiction fun h => hex ⟨a, c, h, e1⟩
      have eb : b = x := Classical.byContradiction fun h => hex ⟨b, d, h, e2⟩
      rw [ea, eb]
    rcases h4.all s x t hst hs hone with h | h
    · simp at h
    · exact h
end Go.Proofs.YtffdjfkekdoeaaaDoor.Pl
end
section
set_option linter.unusedVariables false
set_option linter.unusedSimpArgs false
set_option maxRecDepth 8000
set_option maxHeartbeats 4000000
namespace Go.Proofs.YtffdjfkekdoeaaaDoor.Rf
open Fw Wd Fo
theorem bfsRow_grow : ∀ (row : Row) (q : List Nat), q.length ≤ (bfsRow row q).1.length
  | [], q => Nat.le_refl _
  | none :: l, q => bfsRow_grow l q
  | some t :: l, q => by
    simp only [bfsRow]
    split
    · exact bfsRow_grow l q
    · have := bfsRow_grow l (q ++ [t]); rw [List.length_append] at this; exact Nat.le_trans (Nat.le_add_right _ _) this
theorem numE_some {k : Nat} {es : List Ed} {B : Nat} (hes : ∀ e ∈ es, e.1 < B ∧ e.2.2 < B) : ∀ (K i : Nat) (q : List Nat) (out : List Row), q.Nodup → (∀ v ∈ q, v < B) → i ≤ q.length → B - i < K → ∃ res, numE k es K i q out = some res
  | 0, i, q, out, _, _, _, h => absurd h (Nat.not_lt_zero _)
  | K + 1, i, q, out, hn, hq, hi, hK => by
    simp only [numE]
    split
    · exact ⟨_, rfl⟩
    · rename_i v hv
      have hlt := (List.getElem?_eq_some_iff.1 hv).1
      have hl := nodup_len B q hn hq
      obtain ⟨h1, h2⟩ := bfsRow_ok (B := B) (rowE k es v) q (fun t ht => by
        unfold rowE at ht
        obtain ⟨x, _, hx⟩ := List.mem_map.1 ht
        exact stepE_lt es v x t hes hx) hn hq
      have h3 := bfsRow_grow (rowE k es v) q
      exact numE_some hes K (i + 1) _ _ h1 h2 (by omega) (by omega)
theorem bfsRow_len : ∀ (row : Row) (q : List Nat), (bfsRow row q).2.length = row.length
  | [], q => rfl
  | none :: l, q => by simp [bfsRow, bfsRow_len l q]
  | some t :: l, q => by
    simp only [bfsRow]
    split <;> simp [bfsRow_len l]
theorem numE_rows {k : Nat} {es : List Ed} : ∀ (K i : Nat) (q : List Nat) (out res : List Row), (∀ r ∈ out, r.length = 2 * k) → numE k es K i q out = some res → ∀ r ∈ res, r.length = 2 * k
  | 0, _, _, _, _, _, h => by simp [numE] at h
  | K + 1, i, q, out, res, ho, h => by
    simp only [numE] at h
    split at h
    · cases h; exact ho
    · refine numE_rows K _ _ _ _ (fun r hr => ?_) h
      rcases List.mem_append.1 hr with hr | hr
      · exact ho r hr
      · simp only [List.mem_singleton] at hr; subst hr; rw [bfsRow_len, rowE_len]
def autE (k : Nat) (res : List Row) : Aut := ⟨((2 * k : Nat) : Int), 0, accF res.length, res.map (·.map ofO)⟩
def numR (k : Nat) (next : List (List Int)) : List Row := (numE k (graphL k 0 next) (next.length + 1) 0 [0] []).getD []
theorem graphR_mem {s : Nat} {row : List Int} : ∀ (n i : Nat) (e : Ed), e ∈ graphR s row i n → e.1 = s ∧ ∃ j, i ≤ j ∧ j < i + n ∧ e.2.1 = 2 * j ∧ 0 ≤ row.getD (2 * j) 0 ∧ e.2.2 = (row.getD (2 * j) 0).toNat
  | 0, i, e, h => by simp [graphR] at h
  | n + 1, i, e, h => by
    simp only [graphR] at h
    rcases List.mem_append.1 h with h | h
    · split at h
      · rename_i hp
        simp only [List.mem_singleton] at h
        subst h
        exact ⟨rfl, i, Nat.le_refl _, by omega, rfl, hp, rfl⟩
      · simp at h
    · obtain ⟨h1, j, h2, h3, h4⟩ := graphR_mem n (i + 1) e h
      exact ⟨h1, j, by omega, by omega, h4⟩
theorem graphL_mem {k : Nat} : ∀ (l : List (List Int)) (s : Nat) (e : Ed), e ∈ graphL k s l → ∃ (i : Nat) (row : List Int), l[i]? = some row ∧ e.1 = s + i ∧ ∃ j, j < k ∧ e.2.1 = 2 * j ∧ 0 ≤ row.getD (2 * j) 0 ∧ e.2.2 = (row.getD (2 * j) 0).toNat
  | [], s, e, h => by simp [graphL] at h
  | row :: l, s, e, h => by
    simp only [graphL] at h
    rcases List.mem_append.1 h with h | h
    · obtain ⟨h1, j, _, h2, h3⟩ := graphR_mem k 0 e h
      exact ⟨0, row, rfl, by omega, j, by omega, h3⟩
    · obtain ⟨i, r, h1, h2, h3⟩ := graphL_mem l (s + 1) e h
      exact ⟨i + 1, r, by simpa using h1, by omega, h3⟩
theorem graphL_lt {k : Nat} {next : List (List Int)} (hrow : ∀ r ∈ next, ∀ t ∈ r, t < (next.length : Int)) (hpos : 0 < next.length) : ∀ e ∈ graphL k 0 next, e.1 < next.length ∧ e.2.2 < next.length := fun e he => by
  obtain ⟨i, row, h1, h2, j, h3, h4, h5, h6⟩ := graphL_mem next 0 e he
  have hi := (List.getElem?_eq_some_iff.1 h1).1
  refine ⟨by omega, ?_⟩
  rw [h6]
  by_cases hx : 2 * j < row.length
  · have := hrow row (List.mem_of_getElem? h1) row[2 * j] (List.getElem_mem hx)
    rw [getD_get hx] at h5 ⊢
    omega
  · rw [List.getD_eq_getElem?_getD, List.getElem?_eq_none (by omega)]; simpa using hpos
def rowLocal (next : List (List Int)) (s : Nat) (row : List Int) : Bool := (edgesFrom 0 row).all fun e => getN next e.2.1.toNat (e.1.toNat ^^^ 1) == (s : Int)
def localS (acc : List Bool) (next : List (List Int)) (s : Nat) (row : List Int) : Bool := rowLocal next s row && (s == 0 || (decide (2 ≤ degF (row.map toO)) && !acc.getD s false))
def localAll (acc : List Bool) (next : List (List Int)) : Nat → List (List Int) → Bool
  | _, [] => true
  | s, row :: l => localS acc next s row && localAll acc next (s + 1) l
def isM (k : Int) (a : Aut) : Bool :=
  decide (fsaF a.sym a.start a.acc a.next = 0) && (decide (a.sym = 2 * k) && (decide (1 ≤ a.acc.length) && (decide (a.acc.length ≤ 2000) && (decide (a.start = 0) && (a.acc.getD 0 false && (localAll a.acc a.next 0 a.next && sameF a (autE k.toNat (numR k.toNat a.next))))))))
theorem degF_toO_snoc (row : List Int) (t : Int) : degF ((row ++ [t]).map toO) = degF (row.map toO) + (if 0 ≤ t then 1 else 0) := by
  rw [List.map_append, List.map_cons, List.map_nil, degF_snoc]
  congr 1
  unfold toO
  split <;> split <;> first | rfl | omega | simp_all
theorem localAll_false {acc : List Bool} {next : List (List Int)} : ∀ (l : List (List Int)) (s i : Nat) (row : List Int), l[i]? = some row → localS acc next (s + i) row = false → localAll acc next s l = false
  | [], s, i, row, h, _ => by simp at h
  | r :: l, s, 0, row, h, hf => by
    simp only [List.getElem?_cons_zero, Option.some.injEq] at h
    subst h
    simp only [localAll]
    rw [Nat.add_zero] at hf
    rw [hf]; rfl
  | r :: l, s, i + 1, row, h, hf => by
    simp only [localAll]
    rw [localAll_false l (s + 1) i row (by simpa using h) (by rw [show s + 1 + i = s + (i + 1) by omega]; exact hf), Bool.and_false]
theorem Is_ret21 {w : World} {k : Int} (hk : 1 ≤ k ∧ k ≤ 8) {x : Int × Int × Sl × Sl × Unit} {a : Aut} (ha : AutIn w x a) :
    Ret Tryd.prog 57 #[.int .i64 k, .agg #[.int .i64 x.1, .int .i64 x.2.1, x.2.2.1.v, x.2.2.2.1.v]] (.sc .bool) w fun z w' => z = isM k a ∧ Chg Nil w w' := by
  obtain ⟨x1, x2, sa, sn, _⟩ := x
  refine cayleyref21_Is.calls k x1 x2 sa sn ?_
  unfold cayleyref21_Is.sh
  have a1 := ha.sym
  have a2 := ha.start
  simp only at a1 a2
  obtain ⟨hra, _, _, sls, hrn, hsl, hrws, _⟩ := id ha.rd
  have hra : RdT w (.sc .bool) sa a.acc := hra
  have hrn : RdT w (.sc .sl) sn sls := hrn
  have e1 : sa.n = a.acc.length := hra.len
  have e3 : sn.n = a.next.length := by rw [hrn.len, hsl]
  refine New.mk fun b1 w1 hb1 hn1 hs1 hc1 => ?_
  have l0 : ∀ {W : World}, Chg Nil w1 W → W.heap[b1]? = some (.cells #[.int .i64 x1, .int .i64 x2, sa.v, sn.v] 27 (0, 0)) := fun hW => hW.heap hn1 fun h => h
  have ldA : ∀ {W : World}, Chg Nil w1 W → ∀ {K : tA.den → Prop}, K (x1, x2, sa, sn, ()) → LoadT tA W (Addr.mk b1 0 none) K := fun hW K kk => LoadT.mk tA (fun j v hv => by rw [cellOf (l0 hW)]; simpa [Ty.cells] using hv) kk
  refine LoadT.sc (s := .sl) (x := sa) (by rw [cellOf hn1]; rfl) ?_
  rw [e1]
  obtain ⟨nk, rfl⟩ := Int.eq_ofNat_of_zero_le (show 0 ≤ k by omega)
  have hw2k : IntKind.wrap .i64 (2 * (nk : Int)) = ((2 * nk : Nat) : Int) := by rw [wrap64 (by omega) (by omega)]; omega
  have retF : ∀ {W : World}, isM (nk : Int) a = false → Chg Nil w1 W → ∃ z : Bool, Ending.returned (.bool false) = .returned ((Ty.sc .bool).val z) ∧ z = isM (nk : Int) a ∧ Chg Nil w W := fun h hW => ⟨false, rfl, h.symm, hc1.then hW⟩
  refine Join.by' (fun y W => y = ((nk : Int), at0 b1, ((a.acc.length : Nat) : Int), ()) ∧ Chg Nil w1 W ∧ fsaF a.sym a.start a.acc a.next = 0 ∧ a.sym = 2 * (nk : Int) ∧ 1 ≤ a.acc.length ∧ a.acc.length ≤ 2000 ∧ a.start = 0 ∧ a.acc.getD 0 false = true) ?_ ?_
  · rintro y W g ⟨rfl, hcW, g1, g2, g3, g4, g5, g6⟩
    dsimp only
    obtain ⟨hla, hrows⟩ := fsa_spec g1
    have hI : isM (nk : Int) a = (localAll a.acc a.next 0 a.next && sameF a (autE nk (numR nk a.next))) := by
      unfold isM
      rw [decide_eq_true g1, decide_eq_true g2, decide_eq_true g3, decide_eq_true g4, decide_eq_true g5, g6]
      simp
    refine LoopT.mk (fun y W => ∃ s : Nat, s ≤ a.next.length ∧ y = ((nk : Int), at0 b1, ((a.acc.length : Nat) : Int), (s : Int), ()) ∧ Chg Nil w1 W ∧ localAll a.acc a.next s (a.next.drop s) = localAll a.acc a.next 0 a.next) (fun y _ => a.next.length - y.2.2.2.1.toNat) ⟨0, Nat.zero_le _, rfl, hcW, rfl⟩ ?_
    clear hcW
    rintro y gE W ⟨s, hs, rfl, hc, hloc⟩
    dsimp only
    refine Br.dec (fun hlt => ?_) (fun hge => ?_)
    · have hlt' : s < a.next.length := by omega
      have hdrop : a.next.drop s = a.next[s] :: a.next.drop (s + 1) := List.drop_eq_getElem_cons hlt'
      have hrow' : a.next[s]? = some a.next[s] := List.getElem?_eq_getElem hlt'
      obtain ⟨hrl, hrv⟩ := hrows _ (List.getElem_mem hlt')
      generalize a.next[s] = row at hdrop hrow' hrl hrv
      have hrl' : row.length = 2 * nk := by omega
      obtain ⟨rsl, hrsl⟩ : ∃ rsl, sls[s]? = some rsl := ⟨_, List.getElem?_eq_getElem (by rw [hsl]; exact hlt')⟩
      have hrr := hrws s rsl row hrsl hrow'
      rw [hdrop] at hloc
      simp only [localAll] at hloc
      have hbad : localS a.acc a.next s row = false → isM (nk : Int) a = false := fun h => by
        rw [hI, localAll_false a.next 0 s row hrow' (by rw [Nat.zero_add]; exact h), Bool.false_and]
      refine LoopT.mk (fun y W => ∃ x : Nat, x ≤ 2 * nk ∧ y = ((nk : Int), at0 b1, ((a.acc.length : Nat) : Int), (s : Int), ((degF ((row.take x).map toO) : Nat) : Int), (x : Int), ()) ∧ Chg Nil w1 W ∧ rowLocal a.next s (row.take x) = true) (fun y _ => 2 * nk - y.2.2.2.2.2.1.toNat)
        ⟨0, Nat.zero_le _, rfl, hc, rfl⟩ ?_
      clear hc
      rintro y gE2 W ⟨x, hx, rfl, hc, hrl2⟩
      dsimp only
      rw [hw2k]
      refine Br.dec (fun hlt2 => ?_) (fun hge2 => ?_)
      · have hx2 : x < 2 * nk := by omega
        have hxr : x < row.length := by omega
        have hrx : row[x]? = some row[x] := List.getElem?_eq_getElem hxr
        have htk : row.take (x + 1) = row.take x ++ [row[x]] := take_snoc hxr
        have htv := hrv row[x] (List.getElem_mem hxr)
        have hlen' : (row.take x).length = x := by simp; omega
        have hE : edgesFrom 0 (row.take (x + 1)) = edgesFrom 0 (row.take x) ++ edgesFrom x [row[x]] := by rw [htk, edgesFrom_append, hlen', Nat.zero_add]
        have hdeg : degF ((row.take x).map toO) ≤ x := Nat.le_trans (List.length_filter_le _ _) (by simp; omega)
        have hEr : edgesFrom 0 row = edgesFrom 0 (row.take (x + 1)) ++ edgesFrom (x + 1) (row.drop (x + 1)) := by
          conv => lhs; rw [← List.take_append_drop (x + 1) row]
          rw [edgesFrom_append]; simp; congr 1; omega
        generalize row[x] = t at *
        have hc01 := hc1.then hc
        refine LoadT.sc (s := .sl) (x := sn) (by rw [cellOf (l0 hc)]; rfl) ?_
        refine (hrn.chg hc01 fun _ _ h => h).get (t := .sc .sl) s rfl hrsl ?_
        refine (hrr.chg hc01 fun _ _ h => h).get (t := tI) x rfl hrx ?_
        have hmu : 2 * nk - (x + 1) < 2 * nk - x := by omega
        rw [wrap64 (x := (x : Int) + 1) (by omega) (by omega), wrap64 (x := ((degF ((row.take x).map toO) : Nat) : Int) + 1) (by omega) (by omega)]
        refine Br.dec (fun hpos => ?_) (fun hneg => ?_)
        · have hpos : t ≥ 0 := hpos
          obtain ⟨nt, rfl⟩ := Int.eq_ofNat_of_zero_le hpos
          have hE1 : edgesFrom x [(nt : Int)] = [((x : Int), (nt : Int), ())] := by simp [edgesFrom]
          rw [hE1] at hE
          have hntl : nt < a.next.length := by omega
          have hrowT : a.next[nt]? = some a.next[nt] := List.getElem?_eq_getElem hntl
          obtain ⟨hrTl, _⟩ := hrows _ (List.getElem_mem hntl)
          obtain ⟨slT, hslT⟩ : ∃ slT, sls[nt]? = some slT := ⟨_, List.getElem?_eq_getElem (by rw [hsl]; exact hntl)⟩
          have hrT := hrws nt slT _ hslT hrowT
          have hx1 : x ^^^ 1 < a.next[nt].length := by have := xor_even (x := x) (n := nk) (by omega) hx2; omega
          have hgN : getN a.next nt (x ^^^ 1) = a.next[nt][x ^^^ 1] := by unfold getN; rw [getD_get hntl, getD_get hx1]
          refine LoadT.sc (s := .sl) (x := sn) (by rw [cellOf (l0 hc)]; rfl) ?_
          refine (hrn.chg hc01 fun _ _ h => h).get (t := .sc .sl) nt rfl hslT ?_
          rw [xor1 x (by omega)]
          refine (hrT.chg hc01 fun _ _ h => h).get (t := tI) (x ^^^ 1) rfl (x := a.next[nt][x ^^^ 1]) (List.getElem?_eq_getElem hx1) ?_
          refine Br.mk (fun hne => retF (hbad ?_) hc) (fun heq => ?_)
          · have hne' : a.next[nt][x ^^^ 1] ≠ (s : Int) := by simpa using hne
            unfold localS rowLocal
            have : (edgesFrom 0 row).all (fun e => getN a.next e.2.1.toNat (e.1.toNat ^^^ 1) == (s : Int)) = false := by
              rw [hEr, hE, List.all_append, List.all_append]
              simp only [List.all_cons, List.all_nil, Bool.and_true, Int.toNat_natCast, hgN]
              rw [beq_eq_false_iff_ne.2 hne']; simp
            rw [this, Bool.false_and]
          · have heq' : a.next[nt][x ^^^ 1] = (s : Int) := by simpa using heq
            refine ⟨⟨x + 1, hx2, ?_, hc, ?_⟩, hmu⟩
            · rw [htk, degF_toO_snoc, if_pos (by omega)]; rfl
            · unfold rowLocal at hrl2 ⊢
              rw [hE, List.all_append, hrl2]
              simp only [List.all_cons, List.all_nil, Bool.and_true, Int.toNat_natCast, hgN, heq', Bool.true_and]
              exact beq_self_eq_true _
        · have hneg : ¬ t ≥ 0 := hneg
          have hE1 : edgesFrom x [t] = [] := by simp only [edgesFrom]; rw [if_neg (by omega)]
          rw [hE1, List.append_nil] at hE
          refine ⟨⟨x + 1, hx2, ?_, hc, ?_⟩, hmu⟩
          · rw [htk, degF_toO_snoc, if_neg (by omega)]; rfl
          · unfold rowLocal at hrl2 ⊢
            rw [hE]; exact hrl2
      · have hx2 : x = row.length := by omega
        rw [hx2, List.take_length] at hrl2
        have htake : row.take x = row := by rw [hx2, List.take_length]
        rw [htake]
        rw [wrap64 (x := (s : Int) + 1) (by omega) (by omega)]
        have next' : localS a.acc a.next s row = true → (∃ s1 : Nat, s1 ≤ a.next.length ∧ (((nk : Int), at0 b1, ((a.acc.length : Nat) : Int), (s : Int) + 1, ()) : Int × Addr × Int × Int × Unit) = ((nk : Int), at0 b1, ((a.acc.length : Nat) : Int), (s1 : Int), ()) ∧ Chg Nil w1 W ∧ localAll a.acc a.next s1 (a.next.drop s1) = localAll a.acc a.next 0 a.next) ∧ a.next.length - ((s : Int) + 1).toNat < a.next.length - ((s : Int)).toNat := fun h => by
          rw [h, Bool.true_and] at hloc
          exact ⟨⟨s + 1, hlt', rfl, hc, hloc⟩, by omega⟩
        refine Br.dec (fun hpos => ?_) (fun hz => ?_)
        · have hpos : (s : Int) > 0 := hpos
          have hs0 : (s == 0) = false := by simp; omega
          refine Br.dec (fun hd2 => Br.t rfl (retF (hbad ?_) hc)) (fun hd2 => ?_)
          · have hd2 : ((degF (row.map toO) : Nat) : Int) < 2 := hd2
            unfold localS
            rw [hrl2, hs0, decide_eq_false (by omega)]; rfl
          · have hd2 : ¬ ((degF (row.map toO) : Nat) : Int) < 2 := hd2
            have hsacc : s < a.acc.length := by omega
            refine LoadT.sc (s := .sl) (x := sa) (by rw [cellOf (l0 hc)]; rfl) ?_
            refine (hra.chg (hc1.then hc) fun _ _ h => h).get (t := .sc .bool) s rfl (x := a.acc[s]) (List.getElem?_eq_getElem hsacc) ?_
            have hgd : a.acc.getD s false = a.acc[s] := getD_get hsacc
            refine Br.mk (fun ht => retF (hbad ?_) hc) (fun hf => next' ?_)
            · unfold localS
              rw [hrl2, hs0, hgd, ht]; simp
            · unfold localS
              rw [hrl2, hs0, hgd, hf, decide_eq_true (by omega)]; rfl
        · have hz : ¬ (s : Int) > 0 := hz
          refine Br.f rfl (next' ?_)
          have hs0 : (s == 0) = true := by simp; omega
          unfold localS
          rw [hrl2, hs0]; rfl
    · have hsn : s = a.next.length := by omega
      rw [hsn, List.drop_eq_nil_of_le (Nat.le_refl _)] at hloc
      simp only [localAll] at hloc
      rw [← hloc, Bool.true_and] at hI
      have hd : Chg Nil W W.drew := Chg.drew W
      have hcd := hc.then hd
      refine ⟨fun V => Chg Nil w1 V, hcd, ?_⟩
      have ldS : ∀ {K : tA.den → Prop}, K (x1, x2, sa, sn, ()) → LoadS (fun V => Chg Nil w1 V) tA (at0 b1) K := fun kk => LoadS.mk tA (fun V hV j v hv => by rw [cellOf (l0 hV)]; simpa [Ty.cells] using hv) kk
      refine ldS (ldS ?_)
      have haD := ha.nil (hc1.then hcd)
      have hrB : ∀ r ∈ a.next, ∀ t ∈ r, t < (a.next.length : Int) := fun r hr t ht => ((hrows r hr).2 t ht).2
      refine Ret.call (GraphOf_ret (k := nk) (x := (x1, x2, sa, sn, ())) (by omega) haD (by omega) (fun r hr => by have := (hrows r hr).1; omega)) ?_
      rintro ⟨y1, y2, ys, _⟩ W2 ⟨q1, q2, q3, hc2, q5⟩
      have q1 : y1 = (nk : Int) := q1
      subst q1
      refine ⟨hcd.then hc2, ?_⟩
      have hesl := graphL_len nk a.next 0
      have hesl2 : nk * a.next.length ≤ 8 * 2000 := Nat.mul_le_mul (by omega) (by omega)
      have hlt := graphL_lt (k := nk) hrB (by omega)
      obtain ⟨res, hres⟩ := numE_some (k := nk) hlt (a.next.length + 1) 0 [0] [] (by simp) (by simp; omega) (by simp) (by omega)
      have hnumR : numR nk a.next = res := by unfold numR; rw [hres]; rfl
      refine Ret.call (Numbered_ret (k := nk) (by omega) (base := 0) (B := a.next.length) q3.rd (by omega) (by omega) hlt (by omega) hres) ?_
      rintro ⟨z1, z2, zs, zn, _⟩ W3 ⟨p1, p2, p3, hc3, p5⟩
      refine ⟨(hcd.then hc2).then hc3, ?_⟩
      have hB2 : AutIn W3 (z1, z2, zs, zn, ()) (autE nk res) := ⟨p1, p2, p3.zero, by show (accF res.length).length ≤ _; simp [accF, maxLen]; omega, by show (res.map _).length ≤ _; simp [maxLen]; omega, fun r hr => ?_⟩
      · refine Ret.call (Same_ret (x := (x1, x2, sa, sn, ())) ((haD.nil hc2).nil hc3) hB2) ?_
        rintro _ W4 ⟨rfl, hc4⟩
        exact ⟨((hcd.then hc2).then hc3).then hc4, _, rfl, by rw [hI, hnumR], hc1.then (((hcd.then hc2).then hc3).then hc4)⟩
      · obtain ⟨r', hr', rfl⟩ := List.mem_map.1 hr
        rw [List.length_map, numE_rows _ _ _ _ _ (by simp) hres r' hr']
        simp only [maxLen]; omega
  · intro J hJ
    refine ldA (Chg.refl _) ?_
    refine Ret.call (Check6_ret (x := (x1, x2, sa, sn, ())) (ha.nil hc1)) ?_
    rintro _ W ⟨rfl, hc⟩
    refine Br.mk (fun h => Br.t rfl (retF ?_ hc)) (fun g1 => ?_)
    · have : ¬ fsaF a.sym a.start a.acc a.next = 0 := by simpa using h
      unfold isM; rw [decide_eq_false this]; rfl
    have g1 : fsaF a.sym a.start a.acc a.next = 0 := by simpa using g1
    have i1 : isM (nk : Int) a = (decide (a.sym = 2 * (nk : Int)) && (decide (1 ≤ a.acc.length) && (decide (a.acc.length ≤ 2000) && (decide (a.start = 0) && (a.acc.getD 0 false && (localAll a.acc a.next 0 a.next && sameF a (autE nk (numR nk a.next)))))))) := by
      unfold isM; rw [decide_eq_true g1, Bool.true_and]; rfl
    refine LoadT.sc (s := .int .i64) (x := x1) (by rw [cellOf (l0 hc)]; rfl) ?_
    rw [hw2k, a1]
    refine Br.mk (fun h => Br.t rfl (retF ?_ hc)) (fun g2 => ?_)
    · have : ¬ a.sym = 2 * (nk : Int) := by have : ¬ a.sym = ((2 * nk : Nat) : Int) := by simpa using h
                                            omega
      rw [i1, decide_eq_false this]; rfl
    have g2 : a.sym = 2 * (nk : Int) := by have : a.sym = ((2 * nk : Nat) : Int) := by simpa using g2
                                           omega
    rw [decide_eq_true g2, Bool.true_and] at i1
    refine Br.dec (fun h => Br.t rfl (retF ?_ hc)) (fun g3 => ?_)
    · have h : ((a.acc.length : Nat) : Int) < 1 := h
      rw [i1, decide_eq_false (by omega)]; rfl
    have g3 : ¬ ((a.acc.length : Nat) : Int) < 1 := g3
    have g3 : 1 ≤ a.acc.length := by omega
    rw [decide_eq_true g3, Bool.true_and] at i1
    refine Br.dec (fun h => Br.t rfl (retF ?_ hc)) (fun g4 => ?_)
    · have h : ((a.acc.length : Nat) : Int) > 2000 := h
      rw [i1, decide_eq_false (by omega)]; rfl
    have g4 : ¬ ((a.acc.length : Nat) : Int) > 2000 := g4
    have g4 : a.acc.length ≤ 2000 := by omega
    rw [decide_eq_true g4, Bool.true_and] at i1
    refine LoadT.sc (s := .int .i64) (x := x2) (by rw [cellOf (l0 hc)]; rfl) ?_
    rw [a2]
    refine Br.mk (fun h => Br.t rfl (retF ?_ hc)) (fun g5 => ?_)
    · have : ¬ a.start = 0 := by simpa using h
      rw [i1, decide_eq_false this]; rfl
    have g5 : a.start = 0 := by simpa using g5
    rw [decide_eq_true g5, Bool.true_and] at i1
    refine LoadT.sc (s := .sl) (x := sa) (by rw [cellOf (l0 hc)]; rfl) ?_
    refine (hra.chg (hc1.then hc) fun _ _ h => h).get (t := .sc .bool) 0 rfl (x := a.acc.getD 0 false) (by rw [getD_get (show 0 < a.acc.length by omega)]; exact List.getElem?_eq_getElem _) ?_
    refine Br.mk (fun h => retF ?_ hc) (fun g6 => hJ _ _ ⟨rfl, hc, g1, g2, g3, g4, g5, by simpa using g6⟩)
    have : a.acc.getD 0 false = false := by simpa using h
    rw [i1, this]; rfl
theorem Check_ret21 {w : World} {k : Int} {x : Int × Int × Sl × Sl × Unit} {a : Aut} (ha : AutIn w x a) :
    Ret Tryd.prog 18 #[.int .i64 k, .agg #[.int .i64 x.1, .int .i64 x.2.1, x.2.2.1.v, x.2.2.2.1.v]] tI w fun z w' => z = (if ¬ (1 ≤ k ∧ k ≤ 8) then 1 else if isM k a then 0 else 210) ∧ Chg Nil w w' := by
  obtain ⟨x1, x2, sa, sn, _⟩ := x
  refine cayleyref21_Check.calls k x1 x2 sa sn ?_
  unfold cayleyref21_Check.sh
  refine New.mk fun b1 w1 hb1 hn1 hs1 hc1 => ?_
  refine Join.by' (fun y W => y = (k, at0 b1, ()) ∧ W = w1 ∧ 1 ≤ k ∧ k ≤ 8) ?_ ?_
  · rintro y W g ⟨rfl, hW, h1, h2⟩
    rw [hW]; clear hW
    dsimp only
    rw [if_neg (by omega)]
    refine LoadT.mk tA (x := (x1, x2, sa, sn, ())) (fun j v hv => by rw [cellOf hn1]; simpa [Ty.cells] using hv) ?_
    refine Ret.call (Is_ret21 ⟨h1, h2⟩ (x := (x1, x2, sa, sn, ())) (ha.nil hc1)) ?_
    rintro _ W ⟨rfl, hc⟩
    refine Br.mk (fun h => ⟨210, rfl, ?_, hc1.then hc⟩) (fun h => ⟨0, rfl, ?_, hc1.then hc⟩)
    · have : isM k a = false := by simpa using h
      rw [this]; rfl
    · have : isM k a = true := by simpa using h
      rw [this]; rfl
  · intro J hJ
    refine Br.dec (fun h => Br.t rfl ⟨1, rfl, ?_, hc1⟩) (fun h => Br.dec (fun h2 => ⟨1, rfl, ?_, hc1⟩) (fun h2 => hJ _ _ ⟨rfl, rfl, ?_, ?_⟩))
    · rw [if_pos (by have h : k < 1 := h; omega)]
    · rw [if_pos (by have h2 : k > 8 := h2; omega)]
    · have h : ¬ k < 1 := h; omega
    · have h2 : ¬ k > 8 := h2; omega
end Go.Proofs.YtffdjfkekdoeaaaDoor.Rf
end
section
set_option linter.unusedVariables false
set_option linter.unusedSimpArgs false
set_option maxRecDepth 4000
set_option maxHeartbeats 2000000
namespace Go.Proofs.YtffdjfkekdoeaaaDoor.Pl
open Fo Rf
def rowOf (rows : List (Option Row)) (v : Nat) : Row :=
  match rows[v]? with
  | some (some r) => r
  | _ => []
def numG (ρ : Nat → Row) : Nat → Nat → List Nat → List Row → Option (List Row)
  | 0, _, _, _ => none
  | f + 1, i, q, out =>
    match q[i]? with
    | none => some out
    | some v => numG ρ f (i + 1) (bfsRow (ρ v) q).1 (out ++ [(bfsRow (ρ v) q).2])
theorem numG_len {ρ : Nat → Row} : ∀ (K i : Nat) (q : List Nat) (out res : List Row), out.length = i → i ≤ q.length → numG ρ K i q out = some res → q.length ≤ res.length
  | 0, _, _, _, _, _, _, h => by simp [numG] at h
  | K + 1, i, q, out, res, ho, hi, h => by
    simp only [numG] at h
    split at h
    · rename_i hn
      cases h
      have : q.length ≤ i := by simpa using hn
      omega
    · rename_i v hv
      have hlt := (List.getElem?_eq_some_iff.1 hv).1
      have hg := bfsRow_grow (ρ v) q
      have := numG_len K (i + 1) _ _ res (by simp [ho]) (by omega) h
      omega
theorem numG_some {ρ : Nat → Row} {B : Nat} (hB : ∀ v, v < B → ∀ t, some t ∈ ρ v → t < B) : ∀ (K i : Nat) (q : List Nat) (out : List Row), q.Nodup → (∀ v ∈ q, v < B) → i ≤ q.length → B - i < K → ∃ res, numG ρ K i q out = some res
  | 0, i, q, out, _, _, _, h => absurd h (Nat.not_lt_zero _)
  | K + 1, i, q, out, hn, hq, hi, hK => by
    simp only [numG]
    split
    · exact ⟨_, rfl⟩
    · rename_i v hv
      have hlt := (List.getElem?_eq_some_iff.1 hv).1
      have hl := nodup_len B q hn hq
      obtain ⟨h1, h2⟩ := bfsRow_ok (B := B) (ρ v) q (hB v (hq v (List.mem_of_getElem? hv))) hn hq
      have h3 := bfsRow_grow (ρ v) q
      exact numG_some hB K (i + 1) _ _ h1 h2 (by omega) (by omega)
theorem numG_fuel {ρ : Nat → Row} : ∀ (K K' i : Nat) (q : List Nat) (out res : List Row), K ≤ K' → numG ρ K i q out = some res → numG ρ K' i q out = some res
  | 0, _, _, _, _, _, _, h => by simp [numG] at h
  | K + 1, 0, _, _, _, _, h, _ => by omega
  | K + 1, K' + 1, i, q, out, res, hK, h => by
    simp only [numG] at h ⊢
    split at h
    · exact h
    · exact numG_fuel K K' _ _ _ res (by omega) h
theorem row_live {m : Nat} {rows : List (Option Row)} (hw : Wf m rows) {v : Nat} (h : Live rows v) : rows[v]? = some (some (rowOf rows v)) ∧ (rowOf rows v).length = m ∧ ∀ t, some t ∈ rowOf rows v → Live rows t := by
  obtain ⟨r, hr⟩ := h
  have e : rowOf rows v = r := by unfold rowOf; rw [hr]
  rw [e]
  refine ⟨hr, hw.len v r hr, fun t ht => ?_⟩
  obtain ⟨x, hx⟩ := List.getElem?_of_mem ht
  exact hw.tgt v x t ⟨r, hr, hx⟩
theorem bfsRow_live {rows : List (Option Row)} : ∀ (row : Row) (q : List Nat), (∀ t, some t ∈ row → Live rows t) → (∀ v ∈ q, Live rows v) → ∀ v ∈ (bfsRow row q).1, Live rows v
  | [], q, _, hq => hq
  | none :: l, q, hr, hq => bfsRow_live l q (fun t ht => hr t (by simp [ht])) hq
  | some t :: l, q, hr, hq => by
    simp only [bfsRow]
    split
    · exact bfsRow_live l q (fun t ht => hr t (by simp [ht])) hq
    · refine bfsRow_live l (q ++ [t]) (fun t ht => hr t (by simp [ht])) fun v hv => ?_
      rcases List.mem_append.1 hv with hv | hv
      · exact hq v hv
      · simp only [List.mem_singleton] at hv; subst hv; exact hr v (by simp)
theorem live_lt {rows : List (Option Row)} {v : Nat} (h : Live rows v) : v < rows.length := by
  obtain ⟨r, hr⟩ := h; exact (List.getElem?_eq_some_iff.1 hr).1
theorem bfs_ev {m : Nat} {rows : List (Option Row)} (hw : Wf m rows) : ∀ (K i : Nat) (q : List Nat) (out : List Row), q.Nodup → (∀ v ∈ q, Live rows v) → i ≤ q.length → out.length = i → q.length ≤ 2000 → rows.length - i < K →
    ∃ o, bfsF m rows K i q out = some o ∧ (∀ res, o = some res → numG (rowOf rows) K i q out = some res ∧ res.length ≤ 2000) ∧ (o = none → ∃ res, numG (rowOf rows) K i q out = some res ∧ 2000 < res.length)
  | 0, i, q, out, _, _, _, _, _, h => absurd h (Nat.not_lt_zero _)
  | K + 1, i, q, out, hn, hq, hi, ho, h2, hK => by
    simp only [bfsF, numG]
    cases hv : q[i]? with
    | none =>
      have hqi : q.length ≤ i := by simpa using hv
      exact ⟨some out, rfl, fun res h => by cases h; exact ⟨rfl, by omega⟩, fun h => by cases h⟩
    | some v =>
      have hlv := hq v (List.mem_of_getElem? hv)
      obtain ⟨hr1, hr2, hr3⟩ := row_live hw hlv
      have hlt := (List.getElem?_eq_some_iff.1 hv).1
      obtain ⟨a1, _⟩ := bfsRow_ok (B := rows.length) (rowOf rows v) q (fun t ht => live_lt (hr3 t ht)) hn fun u hu => live_lt (hq u hu)
      have a2 := bfsRow_live (rowOf rows v) q hr3 hq
      have a3 := bfsRow_grow (rowOf rows v) q
      have hl := nodup_len rows.length q hn fun u hu => live_lt (hq u hu)
      simp only [hr1]
      rw [if_pos hr2]
      by_cases hbig : 2000 < (bfsRow (rowOf rows v) q).1.length
      · rw [if_pos hbig]
        refine ⟨none, rfl, fun res h => (by cases h), fun _ => ?_⟩
        obtain ⟨res, hres⟩ := numG_some (ρ := rowOf rows) (B := rows.length) (fun u hu t ht => by
          by_cases hlu : Live rows u
          · exact live_lt ((row_live hw hlu).2.2 t ht)
          · have : rowOf rows u = [] := by
              unfold rowOf; split
              · rename_i r hr; exact absurd ⟨r, hr⟩ hlu
              · rfl
            rw [this] at ht; simp at ht) K (i + 1) _ (out ++ [(bfsRow (rowOf rows v) q).2]) a1 (fun u hu => live_lt (a2 u hu)) (by omega) (by omega)
        have := numG_len K (i + 1) _ _ res (by simp [ho]) (by omega) hres
        exact ⟨res, hres, by omega⟩
      · rw [if_neg hbig]
        exact bfs_ev hw K (i + 1) _ _ a1 a2 (by omega) (by simp [ho]) (by omega) (by omega)
theorem rowsS_get {par : List Nat} : ∀ (l : List Row) (s i : Nat), (rowsS par s l)[i]? = (l[i]?).map fun row => if rt par (s + i) = s + i then some (row.map (Option.map (rt par))) else none
  | [], s, i => by simp [rowsS]
  | row :: l, s, 0 => by simp [rowsS]
  | row :: l, s, i + 1 => by
    have := rowsS_get (par := par) l (s + 1) i
    simp only [rowsS, List.getElem?_cons_succ, this]
    rw [show s + 1 + i = s + (i + 1) by omega]
theorem rowsS_len {par : List Nat} : ∀ (l : List Row) (s : Nat), (rowsS par s l).length = l.length
  | [], _ => rfl
  | row :: l, s => by simp [rowsS, rowsS_len l (s + 1)]
def Both (E : List Edg) : Prop := ∀ s x t, (s, x, t) ∈ E → (t, x ^^^ 1, s) ∈ E
theorem Eqv.nil {par : List Nat} (hsm : ∀ u v w, Sm par u v → Sm par v w → Sm par u w) {u v : Nat} (h : Eqv par [] u v) : Sm par u v := by
  induction h with
  | same h => exact h
  | pair h => simp at h
  | symm _ ih => obtain ⟨r, a, b⟩ := ih; exact ⟨r, b, a⟩
  | trans _ _ ih1 ih2 => exact hsm _ _ _ ih1 ih2
theorem Sm.trans {par : List Nat} {u v w : Nat} (h : Sm par u v) (k : Sm par v w) : Sm par u w := by
  obtain ⟨r, a, b⟩ := h; obtain ⟨r', c, d⟩ := k
  have := b.unique c; subst this
  exact ⟨r, a, d⟩
theorem Sm.symm {par : List Nat} {u v : Nat} (h : Sm par u v) : Sm par v u := by obtain ⟨r, a, b⟩ := h; exact ⟨r, b, a⟩
section
variable {E : List Edg} {st : St}
theorem Inv.same_iff (h : Inv E st) {u v : Nat} (hu : u < st.par.length) : Cg E u v → Sm st.par u v := by
  obtain ⟨d, hf⟩ := h.ok.forest
  have hE : ∀ s x t, (s, x, t) ∈ E → s < st.par.length ∧ t < st.par.length := fun s x t he => by
    obtain ⟨r, t', h1, h2, h3⟩ := h.cm s x t he
    refine ⟨h1.lt_left, ?_⟩
    rw [h.todo] at h3
    obtain ⟨r', _, hb⟩ := Eqv.nil (fun _ _ _ => Sm.trans) h3
    exact hb.lt_left
  have key : ∀ {u v : Nat}, Cg E u v → Sm st.par u v ∨ u = v := by
    intro u v hc
    induction hc with
    | refl u => exact .inr rfl
    | symm _ ih => exact ih.imp Sm.symm Eq.symm
    | trans _ _ ih1 ih2 =>
      rcases ih1 with h1 | rfl
      · rcases ih2 with h2 | rfl
        · exact .inl (h1.trans h2)
        · exact .inl h1
      · exact ih2
    | @fold s s' x t t' h1 h2 h0 ih =>
      obtain ⟨r, q, a1, a2, a3⟩ := h.cm s x t h1
      obtain ⟨r', q', b1, b2, b3⟩ := h.cm s' x t' h2
      rw [h.todo] at a3 b3
      have a3 := Eqv.nil (fun _ _ _ => Sm.trans) a3
      have b3 := Eqv.nil (fun _ _ _ => Sm.trans) b3
      have hrr : r = r' := by
        rcases ih with ⟨z, c1, c2⟩ | rfl
        · have e1 := a1.unique c1; have e2 := b1.unique c2; rw [e1, e2]
        · exact a1.unique b1
      subst hrr
      obtain ⟨row, e1, e2⟩ := a2
      obtain ⟨row', e3, e4⟩ := b2
      rw [e1] at e3; cases e3
      rw [e2] at e4; cases e4
      exact .inl (a3.symm.trans b3)
  intro hc
  rcases key hc with h1 | rfl
  · exact h1
  · obtain ⟨r, hr⟩ := hf.root _ u (Nat.le_refl _) hu
    exact ⟨r, hr, hr⟩
theorem to_rows (h : Inv E st) {s x t : Nat} : To (rowsS st.par 0 st.next) s x t ↔ ∃ u, Root st.par s s ∧ Ent st s x u ∧ Root st.par u t := by
  obtain ⟨d, hf⟩ := h.ok.forest
  constructor
  · rintro ⟨row, h1, h2⟩
    rw [rowsS_get, Nat.zero_add] at h1
    cases hr : st.next[s]? with
    | none => rw [hr] at h1; cases h1
    | some r =>
      rw [hr] at h1
      simp only [Option.map_some, Option.some.injEq] at h1
      split at h1
      · rename_i hrt
        cases h1
        rw [List.getElem?_map] at h2
        cases hx : r[x]? with
        | none => rw [hx] at h2; cases h2
        | some o =>
          rw [hx] at h2
          cases o with
          | none => cases h2
          | some u =>
            simp only [Option.map_some, Option.some.injEq] at h2
            have hs : s < st.par.length := by rw [← h.ok.len]; exact (List.getElem?_eq_some_iff.1 hr).1
            have hu : u < st.par.length := (h.ok.row r (List.mem_of_getElem? hr)).2 u (List.mem_of_getElem? hx)
            obtain ⟨q, hq⟩ := hf.root _ s (Nat.le_refl _) hs
            obtain ⟨q', hq'⟩ := hf.root _ u (Nat.le_refl _) hu
            have e1 := rt_spec hq
            rw [hrt] at e1
            subst e1
            have e2 := rt_spec hq'
            rw [h2] at e2
            subst e2
            exact ⟨u, hq, ⟨r, hr, hx⟩, hq'⟩
      · cases h1
  · rintro ⟨u, h1, ⟨r, h2, h3⟩, h4⟩
    refine ⟨r.map (Option.map (rt st.par)), ?_, by rw [List.getElem?_map, h3]; simp [rt_spec h4]⟩
    rw [rowsS_get, Nat.zero_add, h2]
    simp [rt_spec h1]
theorem live_rows (h : Inv E st) {s : Nat} : Live (rowsS st.par 0 st.next) s ↔ Root st.par s s := by
  obtain ⟨d, hf⟩ := h.ok.forest
  constructor
  · rintro ⟨row, h1⟩
    rw [rowsS_get, Nat.zero_add] at h1
    cases hr : st.next[s]? with
    | none => rw [hr] at h1; cases h1
    | some r =>
      rw [hr] at h1
      simp only [Option.map_some, Option.some.injEq] at h1
      split at h1
      · rename_i hrt
        have hs : s < st.par.length := by rw [← h.ok.len]; exact (List.getElem?_eq_some_iff.1 hr).1
        obtain ⟨q, hq⟩ := hf.root _ s (Nat.le_refl _) hs
        have e1 := rt_spec hq
        rw [hrt] at e1
        subst e1; exact hq
      · cases h1
  · intro h1
    have hs : s < st.next.length := by rw [h.ok.len]; exact h1.lt
    exact ⟨_, by rw [rowsS_get, Nat.zero_add, List.getElem?_eq_getElem hs]; simp [rt_spec h1]; rfl⟩
theorem wf_rows (h : Inv E st) (hb : Both E) : Wf st.m (rowsS st.par 0 st.next) where
  len := fun s row h1 => by
    rw [rowsS_get, Nat.zero_add] at h1
    cases hr : st.next[s]? with
    | none => rw [hr] at h1; cases h1
    | some r =>
      rw [hr] at h1
      simp only [Option.map_some, Option.some.injEq] at h1
      split at h1
      · cases h1; rw [List.length_map]; exact (h.ok.row r (List.mem_of_getElem? hr)).1
      · cases h1
  tgt := fun s x t ht => by
    obtain ⟨u, _, _, h3⟩ := (to_rows h).1 ht
    exact (live_rows h).2 h3.self
  inv := fun s x t ht => by
    obtain ⟨u, h1, h2, h3⟩ := (to_rows h).1 ht
    obtain ⟨s', e1, e2⟩ := h.snd.ent s x u h2
    obtain ⟨r, q, a1, a2, a3⟩ := h.cm u (x ^^^ 1) s' (hb _ _ _ e1)
    rw [h.todo] at a3
    have a3 := Eqv.nil (fun _ _ _ => Sm.trans) a3
    have hrt := h3.unique a1
    subst hrt
    obtain ⟨z, c1, c2⟩ := a3.trans (h.same_iff h1.lt e2).symm
    have : z = s := c2.unique h1
    subst this
    exact (to_rows h).2 ⟨q, h3.self, a2, c1⟩
end
structure MadeOf (m start : Nat) (rows : List (Option Row)) (rows' : List (Option Row)) (o : Option (List Row)) : Prop where
  wf : Wf m rows'
  cut : Cut start rows rows'
  two : ∀ s x t, To rows' s x t → s ≠ start → ∃ x' t', x' ≠ x ∧ To rows' s x' t'
  yes : ∀ res, o = some res → (∃ K, numG (rowOf rows') K 0 [start] [] = some res) ∧ res.length ≤ 2000
  no : o = none → ∃ res, (∃ K, numG (rowOf rows') K 0 [start] [] = some res) ∧ 2000 < res.length
theorem made_ev {E : List Edg} {st : St} (h : Inv E st) (hb : Both E) (hxm : ∀ x, x < st.m → x ^^^ 1 < st.m) {s : Nat} (hs : s < st.par.length) (hbig : st.par.length * (st.m + 1) < big) :
    ∃ o rows', Ev (fun K => madeF K st s) o ∧ MadeOf st.m (rt st.par s) (rowsS st.par 0 st.next) rows' o := by
  obtain ⟨d, hf⟩ := h.ok.forest
  obtain ⟨par1, ⟨K1, a1⟩, a2, a3, a4⟩ := rows_ev st.next st.par 0 hf (by rw [h.ok.len]; omega) fun row hr t ht => (h.ok.row row hr).2 t ht
  obtain ⟨par2, r, k1, k2, k3, k4, k5⟩ := find_ev (d s) s par1 (Nat.le_refl _) a2 (by rw [a3]; exact hs)
  have hr := (a4 _ _).1 k2
  have hrt := rt_spec hr
  rw [hrt]
  have hw := wf_rows h hb
  have hlen : (rowsS st.par 0 st.next).length = st.par.length := by rw [rowsS_len, h.ok.len]
  obtain ⟨rows', _, p1, p2, p3, p4⟩ := pruned (start := r) hxm hw (by rw [hlen]; exact hbig)
  rw [hlen] at p1
  have hlv : Live rows' r := (p3.live r).2 ((live_rows h).2 hr.self)
  have hl' : rows'.length = st.par.length := p3.len.trans hlen
  have hq : ∀ K, rows'.length < K → ∃ o, bfsF st.m rows' K 0 [r] [] = some o ∧ (∀ res, o = some res → numG (rowOf rows') K 0 [r] [] = some res ∧ res.length ≤ 2000) ∧ (o = none → ∃ res, numG (rowOf rows') K 0 [r] [] = some res ∧ 2000 < res.length) := fun K hK =>
    bfs_ev p2 K 0 [r] [] (by simp) (by simpa using hlv) (by simp) rfl (by simp) (by omega)
  obtain ⟨o, q1, q2, q3⟩ := hq (rows'.length + 1) (by omega)
  have huniq : ∀ K, rows'.length < K → bfsF st.m rows' K 0 [r] [] = some o := fun K hK => by
    obtain ⟨o', r1, r2, r3⟩ := hq K hK
    rw [r1]
    congr 1
    cases o with
    | some res =>
      obtain ⟨e1, e2⟩ := q2 res rfl
      cases o' with
      | some res' =>
        obtain ⟨e3, _⟩ := r2 res' rfl
        have := numG_fuel _ K _ _ _ _ (by omega) e1
        rw [this] at e3; cases e3; rfl
      | none =>
        obtain ⟨res', e3, e4⟩ := r3 rfl
        have := numG_fuel _ K _ _ _ _ (by omega) e1
        rw [this] at e3; cases e3; omega
    | none =>
      obtain ⟨res, e1, e2⟩ := q3 rfl
      cases o' with
      | some res' =>
        obtain ⟨e3, e4⟩ := r2 res' rfl
        have := numG_fuel _ K _ _ _ _ (by omega) e1
        rw [this] at e3; cases e3; omega
      | none => rfl
  refine ⟨o, rows', ⟨K1 + d s + st.par.length * (st.m + 1) + rows'.length + 1, fun K hK => ?_⟩, ⟨p2, p3, p4, fun res hres => ⟨⟨_, (q2 res hres).1⟩, (q2 res hres).2⟩, fun hn => ?_⟩⟩
  · show madeF K st s = _
    unfold madeF
    rw [show rowsF K st.par st.next 0 = _ from a1 K (by omega)]
    simp only
    rw [k1 K (by omega)]
    simp only
    unfold numberedF
    rw [p1 K (by omega)]
    exact huniq K (by omega)
  · obtain ⟨res, e1, e2⟩ := q3 hn
    exact ⟨res, ⟨_, e1⟩, e2⟩
end Go.Proofs.YtffdjfkekdoeaaaDoor.Pl
end
section
set_option linter.unusedVariables false
set_option linter.unusedSimpArgs false
set_option maxRecDepth 4000
set_option maxHeartbeats 2000000
namespace Go.Proofs.YtffdjfkekdoeaaaDoor.Pl
open Fo Wd
theorem xor_rank : ∀ k : Fin 9, ∀ x : Fin 16, x.val < 2 * k.val → x.val ^^^ 1 < 2 * k.val := by decide
theorem xor_lt {k x : Nat} (hk : k ≤ 8) (hx : x < 2 * k) : x ^^^ 1 < 2 * k := xor_rank ⟨k, by omega⟩ ⟨x, by omega⟩ hx
theorem xor_two (x : Nat) : (x ^^^ 1) ^^^ 1 = x := by rw [Nat.xor_assoc, Nat.xor_self, Nat.xor_zero]
theorem Both.app {E E' : List Edg} (h : Both E) (h' : Both E') : Both (E ++ E') := fun s x t he => by
  rcases List.mem_append.1 he with he | he
  · exact List.mem_append.2 (.inl (h _ _ _ he))
  · exact List.mem_append.2 (.inr (h' _ _ _ he))
theorem Both.nil : Both [] := fun s x t he => by simp at he
theorem Both.pair (s x t : Nat) : Both [(s, x, t), (t, x ^^^ 1, s)] := fun a y b he => by
  simp only [List.mem_cons, Prod.mk.injEq, List.not_mem_nil, or_false] at he ⊢
  rcases he with ⟨rfl, rfl, rfl⟩ | ⟨rfl, rfl, rfl⟩
  · exact .inr ⟨rfl, rfl, rfl⟩
  · exact .inl ⟨rfl, xor_two _, rfl⟩
theorem pathE_both : ∀ (w : List Nat) (n s t : Nat), Both (pathE n s w t)
  | [], n, s, t => Both.nil
  | [x], n, s, t => Both.pair s x t
  | x :: y :: l, n, s, t => (Both.pair s x n).app (pathE_both (y :: l) (n + 1) n t)
theorem allE_both : ∀ (ws : List (List Nat)) (n : Nat), Both (allE n ws)
  | [], n => Both.nil
  | w :: l, n => (pathE_both w n 0 0).app (allE_both l _)
theorem wordF_lt {k : Int} {s : ByteArray} (h : checkF k s = 0) : ∀ x ∈ wordF s, x < 2 * k.toNat := by
  obtain ⟨h1, h2, h3, h4⟩ := check_bad h
  unfold hasBad at h4
  rw [List.any_eq_false] at h4
  have hb : ∀ b ∈ s.data.toList, badF k (ofB b) = false := fun b hb => by simpa [ofB] using h4 b hb
  intro x hx
  unfold wordF at hx
  obtain ⟨b, hb1, rfl⟩ := List.mem_map.1 hx
  have := redFold_mem (P := fun b => badF k (ofB b) = false) s.data.toList [] (by simp) hb b hb1
  simp only [badF, Bool.or_eq_false_iff, decide_eq_false_iff_not] at this
  omega
theorem wordF_len (s : ByteArray) : (wordF s).length ≤ s.size := by
  unfold wordF
  rw [List.length_map]
  have := redFold_len s.data.toList []
  simp [redF] at *
  exact this
theorem lens_sizes : ∀ gens : List ByteArray, lens (gens.map wordF) ≤ sizes gens
  | [] => Nat.le_refl _
  | s :: l => by
    have := lens_sizes l
    have := wordF_len s
    simp only [lens, sizes, List.map_cons, List.sum_cons, List.map_map] at *
    omega
def resOf (m : Nat) : Option (List Row) → FoldR
  | none => .err 2
  | some nexts => .ok m nexts
structure Folded (k : Nat) (gens : List ByteArray) (res : FoldR) : Prop where
  ok : ∃ st rows' o, Inv (allE 1 (gens.map wordF)) st ∧ st.m = 2 * k ∧ 0 < st.par.length ∧ MadeOf (2 * k) (rt st.par 0) (rowsS st.par 0 st.next) rows' o ∧ res = resOf (2 * k) o
structure Fit (k : Int) (gens : List ByteArray) : Prop where
  k1 : 1 ≤ k
  k8 : k ≤ 8
  len : gens.length ≤ 200
  size : sizes gens ≤ 20000
  word : ∀ s ∈ gens, checkF k s = 0
theorem fit_ev {k : Int} {gens : List ByteArray} (h : Fit k gens) : ∃ res, Ev (fun K => FoldF K k gens) res ∧ Folded k.toNat gens res := by
  have hk0 : 1 ≤ k.toNat := by have := h.k1; omega
  have hk8 : k.toNat ≤ 8 := by have := h.k8; omega
  have hlen := Nat.le_trans (lens_sizes gens) h.size
  have hany : gens.any (fun s => checkF k s != 0) = false := by
    rw [List.any_eq_false]; exact fun s hs => by simp [h.word s hs]
  have hm0 : (start0 (2 * k.toNat)).m = 2 * k.toNat := rfl
  have hp0 : (start0 (2 * k.toNat)).par.length = 1 := rfl
  have hbound : (1 + lens (gens.map wordF)) * (2 * k.toNat + 1) ≤ 20001 * 17 := Nat.mul_le_mul (by omega) (by omega)
  obtain ⟨st, ⟨K1, a1⟩, a2, a3, a4, a5⟩ := all_ev (gens.map wordF) [] (start0 (2 * k.toNat)) (start_inv _) (by rw [hp0]; omega) (fun w hw x hx => by
    obtain ⟨s, hs, rfl⟩ := List.mem_map.1 hw
    have := wordF_lt (h.word s hs) x hx
    rw [hm0]
    exact ⟨this, xor_lt hk8 this⟩) (by rw [hp0, hm0]; unfold big; omega)
  rw [hp0, List.nil_append] at a2
  rw [hm0] at a3
  rw [hp0] at a5
  have hmul : st.par.length * (st.m + 1) ≤ 20001 * 17 := by rw [a3]; exact Nat.mul_le_mul (by omega) (by omega)
  obtain ⟨o, rows', ⟨K2, b1⟩, b2⟩ := made_ev (s := 0) a2 (allE_both _ _) (fun x hx => by rw [a3] at hx ⊢; exact xor_lt hk8 hx) a4 (by unfold big; omega)
  rw [a3] at b2
  refine ⟨resOf (2 * k.toNat) o, ⟨K1 + K2, fun K hK => ?_⟩, ⟨st, rows', o, a2, a3, a4, b2, rfl⟩⟩
  show FoldF K k gens = _
  unfold FoldF
  rw [if_neg (by have := h.k1; have := h.k8; omega), if_neg (by have := h.len; have := h.size; omega), if_neg (by rw [hany]; simp)]
  rw [show allF K (start0 (2 * k.toNat)) (gens.map wordF) = some st from a1 K (by omega)]
  simp only
  rw [if_pos ⟨by rw [a2.ok.len]; unfold big; omega, by rw [a3]; omega⟩]
  rw [show madeF K st 0 = some o from b1 K (by omega), a3]
  cases o <;> rfl
inductive FoldIs (k : Int) (gens : List ByteArray) : FoldR → Prop
  | arg : ¬ (1 ≤ k ∧ k ≤ 8) → FoldIs k gens (.err 1)
  | limit : 1 ≤ k ∧ k ≤ 8 → (200 < gens.length ∨ 20000 < sizes gens) → FoldIs k gens (.err 2)
  | form : 1 ≤ k ∧ k ≤ 8 → ¬ (200 < gens.length ∨ 20000 < sizes gens) → (∃ s ∈ gens, checkF k s ≠ 0) → FoldIs k gens (.err 4)
  | fit {res : FoldR} : Fit k gens → Folded k.toNat gens res → FoldIs k gens res
theorem fold_total (k : Int) (gens : List ByteArray) : ∃ res, (∃ K, FoldF K k gens = some res) ∧ FoldIs k gens res := by
  by_cases hk : 1 ≤ k ∧ k ≤ 8
  · by_cases hb : 200 < gens.length ∨ 20000 < sizes gens
    · exact ⟨.err 2, ⟨0, by unfold FoldF; rw [if_neg (by simpa using hk), if_pos hb]⟩, .limit hk hb⟩
    · by_cases hw : gens.any (fun s => checkF k s != 0) = true
      · refine ⟨.err 4, ⟨0, by unfold FoldF; rw [if_neg (by simpa using hk), if_neg hb, if_pos hw]⟩, .form hk hb ?_⟩
        obtain ⟨s, hs, h⟩ := List.any_eq_true.1 hw
        exact ⟨s, hs, by simpa using h⟩
      · have hf : Fit k gens := ⟨hk.1, hk.2, by omega, by omega, fun s hs => by
          rw [Bool.not_eq_true, List.any_eq_false] at hw
          simpa using hw s hs⟩
        obtain ⟨res, ⟨K, h1⟩, h2⟩ := fit_ev hf
        exact ⟨res, ⟨K, h1 K (Nat.le_refl _)⟩, .fit hf h2⟩
  · exact ⟨.err 1, ⟨0, by unfold FoldF; rw [if_pos hk]⟩, .arg hk⟩
end Go.Proofs.YtffdjfkekdoeaaaDoor.Pl
end
section
set_option linter.unusedVariables false
set_option linter.unusedSimpArgs false
set_option maxRecDepth 8000
set_option maxHeartbeats 4000000
namespace Go.Proofs.YtffdjfkekdoeaaaDoor.Rf
open Fw Wd Fo Pl
theorem Small_ret {w : World} {sl : Sl} {gens : List ByteArray} (hg : RdT w (.sc .str) sl gens) (hsum : gens.length ≤ 200 → sizes gens ≤ 4611686018427387904) (hlen : gens.length ≤ 9223372036854775807) (n : Int) :
    Ret Tryd.prog 11 #[sl.v, .int .i64 n] (.sc .bool) w fun x w' => x = decide (gens.length ≤ 200 ∧ (sizes gens : Int) ≤ n) ∧ w' = w := by
  refine cayleyref21_Small.calls sl n ?_
  unfold cayleyref21_Small.sh
  have hn : sl.n = gens.length := hg.len
  refine LoopT.mk (fun x w' => ∃ (i : Nat) (sm : Int), i ≤ gens.length ∧ x = (sl, n, sm, (i : Int), ()) ∧ w' = w ∧ (gens.length ≤ 200 → sm = ((sizes (gens.take i) : Nat) : Int))) (fun x _ => gens.length - x.2.2.2.1.toNat) ⟨0, 0, Nat.zero_le _, rfl, rfl, fun _ => rfl⟩ ?_
  rintro x g w1' ⟨i, sm, hi, rfl, hw1', hsm⟩
  rw [hw1']
  clear hw1'
  dsimp only
  refine Br.dec (fun hlt => ?_) (fun hge => ?_)
  · have hlt' : i < gens.length := by omega
    refine hg.get (t := .sc .str) i rfl (x := gens[i]) (List.getElem?_eq_getElem hlt') ?_
    have ht : gens.take (i + 1) = gens.take i ++ [gens[i]] := by rw [List.take_add_one, List.getElem?_eq_getElem hlt']; rfl
    have hss : sizes (gens.take (i + 1)) = sizes (gens.take i) + gens[i].size := by rw [ht, sizes_snoc]
    have := sizes_take gens (i + 1)
    rw [wrap64 (x := (i : Int) + 1) (by omega) (by omega)]
    refine ⟨⟨i + 1, _, hlt', rfl, rfl, fun h200 => ?_⟩, ?_⟩
    · have := hsum h200
      rw [hsm h200, hss, wrap64 (by omega) (by omega)]; rfl
    · show gens.length - (i + 1) < gens.length - i
      omega
  · have hin : i = gens.length := by omega
    rw [hin, List.take_length] at hsm
    refine Br.dec (fun h => ⟨_, rfl, ?_, rfl⟩) (fun h => ⟨_, rfl, ?_, rfl⟩)
    · have h1 : gens.length ≤ 200 := by omega
      rw [hsm h1]
      simp [h1]
    · have h1 : ¬ gens.length ≤ 200 := by omega
      simp [h1]
def edgeR (s x t : Nat) : Ed := if x % 2 = 0 then (s, x, t) else (t, x - 1, s)
def pathR : Nat → Nat → List Nat → List Ed
  | _, _, [] => []
  | at', n, [x] => [edgeR at' x 0]
  | at', n, x :: y :: l => edgeR at' x n :: pathR n (n + 1) (y :: l)
theorem path_ret {w : World} {g1 : Int} {n : Nat} {s : Sl} {es : List Ed} {r : ByteArray} {l : List Nat} (h : OwnT w 100 tE s (es.map ofE)) (hidx : Idxs r l) (hsz : r.size ≤ 100000) (hxs : ∀ x ∈ l, x < 16) (hb : es.length ≤ 1000000) (hn : n ≤ 1000000) :
    Ret Tryd.prog 50 #[.agg #[.int .i64 g1, .int .i64 (n : Int), s.v], .string r] tG w fun y w' => y.1 = g1 ∧ y.2.1 = ((n + (l.length - 1) : Nat) : Int) ∧ OwnT w' 100 tE y.2.2.1 ((es ++ pathR 0 n l).map ofE) ∧ Chg s.own w w' ∧ ∀ k, y.2.2.1.own k → s.own k ∨ w.heap.size ≤ k := by
  refine cayleyref21_path.calls g1 (n : Int) s r ?_
  unfold cayleyref21_path.sh
  have hlen : l.length = r.size := by have := congrArg List.length hidx; simpa using this.symm
  refine New.mk fun b1 w1 hb1 hn1 hs1 hc1 => ?_
  refine New.mk fun b3 w2 hb3 hn3 hs3 hc3 => ?_
  have h12 := hc3.heap hn1 fun h => h
  have hc02 := hc1.then hc3
  have s1 := hc1.size
  have s3 := hc3.size
  have hml : maxLen = 9223372036854775807 := rfl
  let Inv : Nat → Sl → List Ed → World → Prop := fun m so out W => Chg s.own w W ∧ W.heap[b1]? = some (.cells #[.int .i64 g1, .int .i64 (m : Int), so.v] 54 (0, 0)) ∧ W.heap[b3]? = some (.cells #[.int .i64 0, .int .i64 0, .slice none 0 0] 54 (0, 0)) ∧ OwnT W 100 tE so (out.map ofE) ∧ (∀ k, so.own k → s.own k ∨ w.heap.size ≤ k)
  refine LoopT.mk (fun y W => ∃ (i at' m : Nat) (so : Sl) (out : List Ed), i ≤ l.length ∧ at' ≤ 2000000 ∧ m ≤ 1000000 + i ∧ out.length ≤ es.length + i ∧ y = (r, at0 b1, at0 b3, (at' : Int), (i : Int), ()) ∧ Inv m so out W ∧ out ++ pathR at' m (l.drop i) = es ++ pathR 0 n l ∧ m + ((l.drop i).length - 1) = n + (l.length - 1)) (fun y _ => l.length - y.2.2.2.2.1.toNat)
    ⟨0, 0, n, s, es, Nat.zero_le _, by omega, by omega, by omega, rfl, ⟨hc02.nil, h12, hn3, h.chg hc02 fun _ _ h => h, fun k hk => .inl hk⟩, rfl, rfl⟩ ?_
  rintro y g W ⟨i, at', m, so, out, hi, hat, hm, hol, rfl, ⟨i1, i2, i3, i4, i5⟩, hpa, hsi⟩
  dsimp only
  have kd : ∀ {V : World}, Chg Nil W V → OwnT V 100 tE so (out.map ofE) := fun hV => i4.chg hV fun _ _ h => h
  refine Br.dec (fun hlt => ?_) (fun hge => ?_)
  rotate_left
  · have hin : i = l.length := by omega
    rw [hin, List.drop_eq_nil_of_le (Nat.le_refl _)] at hpa hsi
    simp only [pathR, List.append_nil, List.length_nil, Nat.zero_sub, Nat.add_zero] at hpa hsi
    refine LoadT.mk (.agg [.int .i64, .int .i64, .sl]) (x := (g1, (m : Int), so, ())) (fun j v hv => by rw [cellOf i2]; simpa [Ty.cells] using hv) ?_
    refine StoreN.whole (vs := [.int .i64 g1, .int .i64 (m : Int), so.v]) i3 rfl fun w5 h35 hc5 _ => ?_
    refine LoadT.mk (.agg [.int .i64, .int .i64, .sl]) (x := (g1, (m : Int), so, ())) (fun j v hv => by rw [cellOf h35]; simpa [Ty.cells] using hv) ?_
    refine ⟨(g1, (m : Int), so, ()), rfl, rfl, by show (m : Int) = _; rw [hsi], ?_, i1.trans hc5 (fun _ _ h => h) fun k hk he => (by have he : k = b3 := he; omega), i5⟩
    rw [← hpa]
    exact OwnT.chgT i4 hc5 (e := 54) (fun k hk => by have hk : k = b3 := hk; subst hk; exact ⟨_, _, i3⟩) (by decide)
  have hlt' : i < l.length := by omega
  have hxl := hxs _ (List.getElem_mem hlt')
  have hidxi : idxF (ofB (r[i]'(by omega))) = ((l[i] : Nat) : Int) := by
    have h1 := congrArg (·[i]?) hidx
    simp only [List.getElem?_map, bytes_get r i (by omega), List.getElem?_eq_getElem hlt', Option.map_some, Option.some.injEq] at h1
    exact h1
  have hdrop : l.drop i = l[i] :: l.drop (i + 1) := List.drop_eq_getElem_cons hlt'
  have hdl : (l.drop (i + 1)).length = l.length - (i + 1) := List.length_drop ..
  generalize l[i] = x at hdrop hidxi hxl
  rw [hdrop] at hpa hsi
  have hw1 : IntKind.wrap .i64 ((i : Int) + 1) = ((i + 1 : Nat) : Int) := wrap64 (by omega) (by omega)
  -- where it leads
  refine Join.by' (fun y V => ∃ to m' : Nat, y = (r, at0 b1, at0 b3, (at' : Int), (i : Int), (to : Int), ()) ∧ to ≤ 2000000 ∧ m' ≤ 1000000 + (i + 1) ∧ Inv m' so out V ∧ out ++ (edgeR at' x to :: pathR to m' (l.drop (i + 1))) = es ++ pathR 0 n l ∧ m' + ((l.drop (i + 1)).length - 1) = n + (l.length - 1)) ?_ ?_
  rotate_left
  · intro J hJ
    rw [wrap64 (by omega) (by omega)]
    refine Br.dec (fun hlt2 => ?_) (fun hge2 => hJ _ _ ⟨0, m, rfl, by omega, by omega, ⟨i1, i2, i3, i4, i5⟩, ?_, ?_⟩)
    · have hlt2' : i + 1 < l.length := by omega
      refine LoadT.sc (s := .int .i64) (x := (m : Int)) (by rw [cellOf i2]; rfl) ?_
      refine LoadT.sc (s := .int .i64) (x := (m : Int)) (by rw [cellOf i2]; rfl) ?_
      refine Store1.at i2 1 (by show 1 < 3; decide) rfl fun W3 h3 hc3 _ => ?_
      rw [wrap64 (by omega) (by omega)] at h3
      have i4' : OwnT W3 100 tE so (out.map ofE) := OwnT.chgT i4 hc3 (e := 54) (fun k hk => by have hk : k = b1 := hk; subst hk; exact ⟨_, _, i2⟩) (by decide)
      refine hJ _ _ ⟨m, m + 1, rfl, by omega, by omega, ⟨i1.trans hc3 (fun _ _ h => h) fun k hk he => (by have he : k = b1 := he; omega), h3, hc3.heap i3 fun he => (by have he : b3 = b1 := he; omega), i4', i5⟩, ?_, ?_⟩
      · rw [← hpa]
        rw [List.drop_eq_getElem_cons hlt2']
        rfl
      · rw [← hsi, List.length_cons, hdl]; omega
    · have hin : i + 1 = l.length := by omega
      rw [hin, List.drop_eq_nil_of_le (Nat.le_refl _)] at hpa
      rw [hin, List.drop_eq_nil_of_le (Nat.le_refl _)]
      exact hpa
    · rw [← hsi, List.length_cons, hdl]; omega
  clear hpa hsi i1 i2 i3 i4 i5 kd
  rintro y V g3 ⟨to, m', rfl, hto, hm', ⟨i1, i2, i3, i4, i5⟩, hpa, hsi⟩
  dsimp only
  refine StrIdx.mk i rfl (by omega) ?_
  have hbb := UInt8.toNat_lt (r[i]'(by omega))
  refine Ret.call (Rf.Index_ret _ _ (by unfold ofB; omega) (by unfold ofB; omega)) ?_
  rintro _ V2 ⟨rfl, hV2⟩
  rw [hV2]; clear hV2
  rw [hidxi, hw1]
  have hmod : Int.tmod (x : Int) 2 = ((x % 2 : Nat) : Int) := rfl
  have hr3 : Chg s.own w V := i1
  -- an edge more
  have step : ∀ (e : Ed), e = edgeR at' x to → LoadT (.sc .sl) V ((at0 b1).add 2) fun x20 =>
      New V (.cells #[(.int .i64 (ofE e).1), (.int .i64 (ofE e).2.1), (.int .i64 (ofE e).2.2.1)] 100) fun b21 w22 =>
      RunT Tryd.prog (.sc .sl) (Builtin.append_ #[52, 52] 52 #[(.slice x20.a x20.n x20.c), (.slice (some (Addr.mk b21 0 none)) 1 1)]) w22 fun r23 w24 =>
      Store1 w24 ((at0 b1).add 2) (.slice r23.a r23.n r23.c) fun w25 =>
      (∃ (i_1 at'_1 m : Nat) (so : Sl) (out : List Ed), i_1 ≤ l.length ∧ at'_1 ≤ 2000000 ∧ m ≤ 1000000 + i_1 ∧ out.length ≤ es.length + i_1 ∧ (r, at0 b1, at0 b3, (to : Int), ((i + 1 : Nat) : Int), ()) = (r, at0 b1, at0 b3, (at'_1 : Int), (i_1 : Int), ()) ∧ Inv m so out w25 ∧ out ++ pathR at'_1 m (l.drop i_1) = es ++ pathR 0 n l ∧ m + ((l.drop i_1).length - 1) = n + (l.length - 1)) ∧ l.length - ((i + 1 : Nat) : Int).toNat < l.length - ((i : Nat) : Int).toNat := fun e he => by
    refine LoadT.sc (s := .sl) (x := so) (by rw [cellOf i2]; rfl) ?_
    refine New.mk fun b21 V1 hb21 hn21 hs21 hc21 => ?_
    refine OwnT.append (t := tE) (m := 1) ok52 rfl (by decide) (i4.chg hc21 fun _ _ h => h) [ofE e] rfl (by decide) (fun j v hv => by rw [cellOf hn21]; simpa [Ty.cells] using hv) ?_ ?_ fun so' V2 ho2 hcA hownA => ?_
    · rw [List.length_map]; omega
    · rw [List.length_map]; omega
    have hk : ∀ k, so.own k → ∃ c fl, V1.heap[k]? = some (.cells c 100 fl) := OwnT.kind (i4.chg hc21 fun _ _ h => h)
    have j2 := Chg.heapT hcA hk (hc21.heap i2 fun h => h) (by decide)
    have j3 := Chg.heapT hcA hk (hc21.heap i3 fun h => h) (by decide)
    have hsz1 := i1.size
    have hsz2 := hc21.size
    refine Store1.at j2 2 (by show 2 < 3; decide) rfl fun V3 h3 hc4 _ => ?_
    have ho3 : OwnT V3 100 tE so' (out.map ofE ++ [ofE e]) := OwnT.chgT ho2 hc4 (e := 54) (fun k hk => by have hk : k = b1 := hk; subst hk; exact ⟨_, _, j2⟩) (by decide)
    refine ⟨⟨i + 1, to, m', so', out ++ [e], hlt', hto, hm', by simp; omega, rfl, ⟨?_, h3, hc4.heap j3 fun he => (by have he : b3 = b1 := he; omega), by rw [List.map_append]; exact ho3, fun k hk => ?_⟩, ?_, hsi⟩, by omega⟩
    · refine ((i1.then hc21.nil).trans hcA (fun _ _ h => h) fun k hk ho => ?_).trans hc4 (fun _ _ h => h) fun k hk he => (by have he : k = b1 := he; omega)
      rcases i5 k ho with h1 | h1
      · exact h1
      · omega
    · rcases hownA k hk with h1 | h1
      · exact i5 k h1
      · right; omega
    · rw [← hpa, he]; simp
  refine ⟨by decide, ?_⟩
  rw [hmod]
  refine Br.mk (fun he => ?_) (fun he => ?_)
  · have he : x % 2 = 0 := by have : ((x % 2 : Nat) : Int) = 0 := by simpa using he
                              omega
    exact step (at', x, to) (by rw [edgeR, if_pos he])
  · have he : ¬ x % 2 = 0 := fun h => by rw [h] at he; simp at he
    have hw : IntKind.wrap .i64 ((x : Int) - 1) = ((x - 1 : Nat) : Int) := by rw [wrap64 (by omega) (by omega)]; omega
    rw [hw]
    exact step (to, x - 1, at') (by rw [edgeR, if_neg he])
end Go.Proofs.YtffdjfkekdoeaaaDoor.Rf
end
section
set_option linter.unusedVariables false
set_option linter.unusedSimpArgs false
set_option maxRecDepth 4000
set_option maxHeartbeats 2000000
namespace Go.Proofs.YtffdjfkekdoeaaaDoor.Pl
open Fo Rf
theorem xor1 (x : Nat) : x ^^^ 1 = if x % 2 = 0 then x + 1 else x - 1 := by
  have h1 : (x ^^^ 1) / 2 = x / 2 := by rw [Nat.xor_div_two]; simp
  have h2 := @Nat.xor_mod_two_eq_one x 1
  split <;> omega
def Dir (es : List Ed) (s x t : Nat) : Prop := (x % 2 = 0 ∧ (s, x, t) ∈ es) ∨ (x % 2 = 1 ∧ (t, x - 1, s) ∈ es)
theorem Dir.back {es : List Ed} {s x t : Nat} (h : Dir es s x t) : Dir es t (x ^^^ 1) s := by
  rw [xor1]
  rcases h with ⟨h1, h2⟩ | ⟨h1, h2⟩
  · rw [if_pos h1]; exact .inr ⟨by omega, h2⟩
  · rw [if_neg (by omega)]; exact .inl ⟨by omega, h2⟩
theorem Dir.mono {es es' : List Ed} (h : ∀ e ∈ es, e ∈ es') {s x t : Nat} (k : Dir es s x t) : Dir es' s x t := k.imp (fun ⟨a, b⟩ => ⟨a, h _ b⟩) fun ⟨a, b⟩ => ⟨a, h _ b⟩
def Det (es : List Ed) : Prop := ∀ s x t t', Dir es s x t → Dir es s x t' → t = t'
structure Rep (E : List Edg) (es0 es : List Ed) (r : Nat → Nat) : Prop where
  img : ∀ e, e ∈ es ↔ ∃ e0 ∈ es0, e = (r e0.1, e0.2.1, r e0.2.2)
  snd : ∀ v, Cg E (r v) v
  idem : ∀ v, r (r v) = r v
  le : ∀ v, r v ≤ v
def Uq (es : List Ed) : Prop := es.Pairwise fun e e' => e = e' → e.1 = 0 ∧ e.2.2 = 0
theorem Rep.cg {E : List Edg} {es0 es : List Ed} {r : Nat → Nat} (hE : ∀ s x t, (s, x, t) ∈ E ↔ Dir es0 s x t) (hr : Rep E es0 es r) (hd : Det es) {u v : Nat} : r u = r v ↔ Cg E u v := by
  constructor
  · intro h
    exact (hr.snd u).symm.trans (h ▸ hr.snd v)
  · intro h
    induction h with
    | refl _ => rfl
    | symm _ ih => exact ih.symm
    | trans _ _ ih1 ih2 => exact ih1.trans ih2
    | @fold s s' x t t' h1 h2 h0 ih =>
      have img : ∀ {s x t : Nat}, (s, x, t) ∈ E → Dir es (r s) x (r t) := fun {s x t} h => by
        rcases (hE _ _ _).1 h with ⟨a, b⟩ | ⟨a, b⟩
        · exact .inl ⟨a, (hr.img _).2 ⟨_, b, rfl⟩⟩
        · exact .inr ⟨a, (hr.img _).2 ⟨_, b, rfl⟩⟩
      exact hd _ _ _ _ (img h1) (ih ▸ img h2)
theorem Rep.dir {E : List Edg} {es0 es : List Ed} {r : Nat → Nat} (hE : ∀ s x t, (s, x, t) ∈ E ↔ Dir es0 s x t) (hr : Rep E es0 es r) {u x v : Nat} : Dir es u x v ↔ ∃ s t, (s, x, t) ∈ E ∧ r s = u ∧ r t = v := by
  constructor
  · rintro (⟨a, b⟩ | ⟨a, b⟩)
    · obtain ⟨⟨f, y, t⟩, h0, h1⟩ := (hr.img _).1 b
      simp only [Prod.mk.injEq] at h1
      obtain ⟨rfl, rfl, rfl⟩ := h1
      exact ⟨f, t, (hE _ _ _).2 (.inl ⟨a, h0⟩), rfl, rfl⟩
    · obtain ⟨⟨f, y, t⟩, h0, h1⟩ := (hr.img _).1 b
      simp only [Prod.mk.injEq] at h1
      obtain ⟨rfl, h1, rfl⟩ := h1
      subst h1
      exact ⟨t, f, (hE _ _ _).2 (.inr ⟨a, h0⟩), rfl, rfl⟩
  · rintro ⟨s, t, h, rfl, rfl⟩
    rcases (hE _ _ _).1 h with ⟨a, b⟩ | ⟨a, b⟩
    · exact .inl ⟨a, (hr.img _).2 ⟨_, b, rfl⟩⟩
    · exact .inr ⟨a, (hr.img _).2 ⟨_, b, rfl⟩⟩
end Go.Proofs.YtffdjfkekdoeaaaDoor.Pl
end
section
set_option linter.unusedVariables false
set_option linter.unusedSimpArgs false
set_option maxRecDepth 4000
set_option maxHeartbeats 2000000
namespace Go.Proofs.YtffdjfkekdoeaaaDoor.Pl
open Fw Wd Fo Rf
def scanO : Row → Nat → Option Nat
  | [], seen => some seen
  | none :: l, seen => scanO l seen
  | some t :: l, seen => if t > seen then none else scanO l (if t = seen then seen + 1 else seen)
theorem idxOf_range : ∀ (n t : Nat), t < n → (List.range n).idxOf t = t := fun n t h => by
  have h1 : (List.range n)[t]'(by simpa using h) = t := by simp
  have := (List.nodup_range (n := n)).idxOf_getElem t (by simpa using h)
  rw [h1] at this; exact this
theorem bfs_scan : ∀ (r : Row) (seen seen' : Nat), scanO r seen = some seen' → bfsRow r (List.range seen) = (List.range seen', r)
  | [], seen, seen', h => by simp only [scanO, Option.some.injEq] at h; subst h; rfl
  | none :: l, seen, seen', h => by
    simp only [scanO] at h
    simp only [bfsRow, bfs_scan l seen seen' h]
  | some t :: l, seen, seen', h => by
    simp only [scanO] at h
    split at h
    · cases h
    rename_i hle
    simp only [bfsRow, List.mem_range]
    by_cases hlt : t < seen
    · rw [if_neg (by omega)] at h
      rw [if_pos hlt, bfs_scan l seen seen' h, idxOf_range seen t hlt]
    · have : t = seen := by omega
      subst this
      rw [if_pos rfl] at h
      rw [if_neg hlt, ← List.range_succ, bfs_scan l (t + 1) seen' h, List.length_range]
theorem bfs_scan_none : ∀ (r : Row) (seen : Nat), scanO r seen = none → (bfsRow r (List.range seen)).2 ≠ r
  | [], seen, h => by simp [scanO] at h
  | none :: l, seen, h => by
    simp only [scanO] at h
    have := bfs_scan_none l seen h
    simp only [bfsRow]
    intro he
    simp only [List.cons.injEq, true_and] at he
    exact this he
  | some t :: l, seen, h => by
    simp only [scanO] at h
    simp only [bfsRow, List.mem_range]
    split at h
    · rename_i hgt
      rw [if_neg (by omega)]
      intro he
      simp only [List.cons.injEq, Option.some.injEq, List.length_range] at he
      omega
    · rename_i hle
      by_cases hlt : t < seen
      · rw [if_neg (by omega)] at h
        have := bfs_scan_none l seen h
        rw [if_pos hlt]
        intro he
        simp only [List.cons.injEq] at he
        exact this he.2
      · have : t = seen := by omega
        subst this
        rw [if_pos rfl] at h
        have := bfs_scan_none l (t + 1) h
        rw [if_neg hlt, ← List.range_succ]
        intro he
        simp only [List.cons.injEq] at he
        exact this he.2
theorem scanO_le : ∀ (r : Row) (n seen seen' : Nat), (∀ t, some t ∈ r → t < n) → seen ≤ n → scanO r seen = some seen' → seen ≤ seen' ∧ seen' ≤ n
  | [], n, seen, seen', _, hs, h => by simp only [scanO, Option.some.injEq] at h; omega
  | none :: l, n, seen, seen', hr, hs, h => scanO_le l n seen seen' (fun t ht => hr t (by simp [ht])) hs h
  | some t :: l, n, seen, seen', hr, hs, h => by
    simp only [scanO] at h
    split at h
    · cases h
    have ht := hr t (by simp)
    have := scanO_le l n _ seen' (fun t ht => hr t (by simp [ht])) (by split <;> omega) h
    split at this <;> omega
def scanQ : Nat → List Row → Nat → Option Nat
  | _, [], seen => some seen
  | s, r :: l, seen => if seen ≤ s then none else (scanO r seen).bind (scanQ (s + 1) l)
theorem numE_ext {k : Nat} {es : List Ed} : ∀ (K i : Nat) (q : List Nat) (out res : List Row), numE k es K i q out = some res → ∃ tl, res = out ++ tl
  | 0, _, _, _, _, h => by simp [numE] at h
  | K + 1, i, q, out, res, h => by
    simp only [numE] at h
    split at h
    · cases h; exact ⟨[], by simp⟩
    · obtain ⟨tl, h⟩ := numE_ext K _ _ _ _ h
      exact ⟨_, by rw [h, List.append_assoc]⟩
theorem num_iff {k n : Nat} {es : List Ed} {R : List Row} (hn : R.length = n) (hrow : ∀ v, v < n → rowE k es v = R.getD v []) (hlt : ∀ r ∈ R, ∀ t, some t ∈ r → t < n) : ∀ (K s seen : Nat) (res : List Row), s ≤ seen → seen ≤ n → numE k es K s (List.range seen) (R.take s) = some res → (res = R ↔ scanQ s (R.drop s) seen = some n)
  | 0, _, _, _, _, _, h => by simp [numE] at h
  | K + 1, s, seen, res, hs, hsn, h => by
    simp only [numE] at h
    by_cases hlt' : s < seen
    · have hsn' : s < n := by omega
      rw [show (List.range seen)[s]? = some s by rw [List.getElem?_range hlt']] at h
      simp only at h
      have hRs : R.getD s [] = R[s] := getD_get (by omega)
      rw [hrow s hsn', hRs] at h
      have hdrop : R.drop s = R[s] :: R.drop (s + 1) := List.drop_eq_getElem_cons (by omega)
      rw [hdrop]
      simp only [scanQ, if_neg (show ¬ seen ≤ s by omega)]
      have hmem : R[s] ∈ R := List.getElem_mem (by omega)
      cases hsc : scanO R[s] seen with
      | none =>
        have hne := bfs_scan_none _ _ hsc
        obtain ⟨tl, hres⟩ := numE_ext _ _ _ _ _ h
        simp only [Option.bind_none, reduceCtorEq, iff_false]
        intro he
        rw [he] at hres
        have h1 := congrArg (fun l => l[s]?) hres
        simp only [List.append_assoc] at h1
        rw [List.getElem?_append_right (by simp; omega), List.getElem?_eq_getElem (by omega)] at h1
        simp only [List.length_take, show s - min s R.length = 0 by omega, List.cons_append, List.getElem?_cons_zero, Option.some.injEq] at h1
        exact hne h1.symm
      | some seen' =>
        rw [bfs_scan _ _ _ hsc] at h
        have hle := scanO_le _ n _ _ (hlt _ hmem) hsn hsc
        simp only [Option.bind_some]
        rw [← take_snoc (show s < R.length by omega)] at h
        exact num_iff hn hrow hlt K (s + 1) seen' res (by omega) hle.2 h
    · have hse : s = seen := by omega
      subst hse
      rw [show (List.range s)[s]? = none by simp] at h
      simp only [Option.some.injEq] at h
      subst h
      by_cases hsn' : s = n
      · subst hsn'
        rw [List.take_of_length_le (by omega), List.drop_eq_nil_of_le (by omega)]
        simp [scanQ]
      · have hdrop : R.drop s = R[s]'(by omega) :: R.drop (s + 1) := List.drop_eq_getElem_cons (by omega)
        rw [hdrop]
        simp only [scanQ, Nat.le_refl, if_true, reduceCtorEq, iff_false]
        intro he
        have := congrArg List.length he
        simp at this
        omega
def localP (acc : List Bool) (next : List (List Int)) (s : Nat) (row : List Int) : Prop := acc.getD s false = (s == 0) ∧ (0 < s → 2 ≤ degF (row.map toO)) ∧ rowLocal next s row = true
theorem scanE_iff {next : List (List Int)} {s : Nat} : ∀ (row : List Int) (y seen r : Nat), scanE next s (edgesFrom y row) seen = some r ↔ ((edgesFrom y row).all fun e => getN next e.2.1.toNat (e.1.toNat ^^^ 1) == (s : Int)) = true ∧ scanO (row.map toO) seen = some r
  | [], y, seen, r => by simp [edgesFrom, scanE, scanO]
  | t :: l, y, seen, r => by
    simp only [edgesFrom, List.map_cons]
    by_cases ht : 0 ≤ t
    · obtain ⟨n, rfl⟩ := Int.eq_ofNat_of_zero_le ht
      have ho : toO (n : Int) = some n := by unfold toO; rw [if_neg (by omega)]; simp
      rw [if_pos ht, ho]
      simp only [scanE, scanO, List.all_cons, Bool.and_eq_true, beq_iff_eq]
      have ih := fun s' => scanE_iff (next := next) (s := s) l (y + 1) s' r
      by_cases hg : n > seen
      · rw [if_pos hg, if_pos (.inr (by omega))]; simp
      · rw [if_neg hg]
        by_cases hb : getN next ((n : Int)).toNat (((y : Int)).toNat ^^^ 1) = (s : Int)
        · rw [if_neg (by unfold getN at hb; intro h; rcases h with h | h; exact h hb; omega)]
          have e1 : (if (n : Int) = (seen : Int) then seen + 1 else seen) = (if n = seen then seen + 1 else seen) := by
            by_cases h : n = seen
            · simp [h]
            · rw [if_neg h, if_neg (by omega)]
          rw [e1, ih]
          constructor
          · rintro ⟨h1, h2⟩; exact ⟨⟨hb, h1⟩, h2⟩
          · rintro ⟨⟨_, h1⟩, h2⟩; exact ⟨h1, h2⟩
        · rw [if_pos (.inl hb)]
          constructor
          · intro h; cases h
          · rintro ⟨⟨h1, _⟩, _⟩; exact absurd h1 hb
    · have ho : toO t = none := by unfold toO; rw [if_pos (by omega)]
      rw [if_neg ht, ho]
      simp only [scanO]
      exact scanE_iff l (y + 1) seen r
theorem scanR_iff {acc : List Bool} {next : List (List Int)} : ∀ (l : List (List Int)) (s seen r : Nat), scanR acc next s l seen = some r ↔ (∀ (i : Nat) (row : List Int), l[i]? = some row → localP acc next (s + i) row) ∧ scanQ s (l.map (·.map toO)) seen = some r
  | [], s, seen, r => by simp [scanR, scanQ]
  | row :: l, s, seen, r => by
    simp only [scanR, List.map_cons, scanQ]
    have ih := fun s' => scanR_iff (acc := acc) (next := next) l (s + 1) s' r
    have hE := fun s' => scanE_iff (next := next) (s := s) row 0 seen s'
    constructor
    · intro h
      split at h
      · cases h
      rename_i hc
      split at h
      · cases h
      rename_i seen' he
      obtain ⟨h1, h2⟩ := (hE seen').1 he
      obtain ⟨h3, h4⟩ := (ih seen').1 h
      have hacc : acc.getD s false = (s == 0) := by
        by_cases hh : acc.getD s false = (s == 0)
        · exact hh
        · exact absurd (.inl hh) hc
      refine ⟨fun i r' hi => ?_, ?_⟩
      · cases i with
        | zero =>
          simp only [List.getElem?_cons_zero, Option.some.injEq] at hi
          subst hi
          refine ⟨hacc, fun hs => ?_, h1⟩
          have hs : 0 < s := hs
          by_cases hd : degF (row.map toO) < 2
          · exact absurd (.inr (.inl ⟨hs, hd⟩)) hc
          · omega
        | succ i =>
          have := h3 i r' (by simpa using hi)
          rw [show s + (i + 1) = s + 1 + i by omega]; exact this
      · rw [if_neg (fun hle => hc (.inr (.inr hle))), h2]
        exact h4
    · rintro ⟨h1, h2⟩
      obtain ⟨p1, p2, p3⟩ := h1 0 row rfl
      rw [Nat.add_zero] at p1 p2 p3
      split at h2
      · cases h2
      rename_i hle
      cases hsc : scanO (row.map toO) seen with
      | none => rw [hsc] at h2; cases h2
      | some seen' =>
        rw [hsc] at h2
        have h2 : scanQ (s + 1) (l.map (·.map toO)) seen' = some r := h2
        rw [if_neg (by
          rintro (h | h | h)
          · exact h p1
          · have := p2 h.1; omega
          · exact hle h), (hE seen').2 ⟨p3, hsc⟩]
        exact (ih seen').2 ⟨fun i r' hi => by
          have := h1 (i + 1) r' (by simpa using hi)
          rw [show s + (i + 1) = s + 1 + i by omega] at this; exact this, h2⟩
theorem localAll_iff {acc : List Bool} {next : List (List Int)} : ∀ (l : List (List Int)) (s : Nat), localAll acc next s l = true ↔ ∀ (i : Nat) (row : List Int), l[i]? = some row → localS acc next (s + i) row = true
  | [], s => by simp [localAll]
  | r :: l, s => by
    simp only [localAll, Bool.and_eq_true, localAll_iff l (s + 1)]
    constructor
    · rintro ⟨h1, h2⟩ i row hi
      cases i with
      | zero => simp only [List.getElem?_cons_zero, Option.some.injEq] at hi; subst hi; exact h1
      | succ i => rw [show s + (i + 1) = s + 1 + i by omega]; exact h2 i row (by simpa using hi)
    · intro h
      exact ⟨h 0 r rfl, fun i row hi => by rw [show s + 1 + i = s + (i + 1) by omega]; exact h (i + 1) row (by simpa using hi)⟩
theorem localS_iff {acc : List Bool} {next : List (List Int)} {s : Nat} {row : List Int} (h0 : acc.getD 0 false = true) : localS acc next s row = true ↔ localP acc next s row := by
  unfold localS localP
  rw [Bool.and_eq_true]
  by_cases hs : s = 0
  · subst hs
    rw [h0]
    simp
  · have e : (s == 0) = false := by simp [hs]
    rw [e]
    simp only [Bool.false_or, Bool.and_eq_true, decide_eq_true_eq, Bool.not_eq_true']
    constructor
    · rintro ⟨h1, h2, h3⟩; exact ⟨h3, fun _ => h2, h1⟩
    · rintro ⟨h1, h2, h3⟩; exact ⟨h3, h2 (by omega), h1⟩
theorem edges_of : ∀ (row : List Int) (y x : Nat), x < row.length → 0 ≤ row.getD x 0 → (((y + x : Nat) : Int), row.getD x 0, ()) ∈ edgesFrom y row
  | [], y, x, h, _ => by simp at h
  | t :: l, y, 0, h, hp => by
    have hp : 0 ≤ t := by simpa using hp
    simp only [edgesFrom]; rw [if_pos hp]; simp
  | t :: l, y, x + 1, h, hp => by
    have := edges_of l (y + 1) x (by simpa using h) (by simpa using hp)
    simp only [edgesFrom]
    rw [show y + (x + 1) = y + 1 + x by omega]
    split
    · exact List.mem_cons_of_mem _ (by simpa using this)
    · simpa using this
theorem mem_graphR {s : Nat} {row : List Int} {j : Nat} (hp : 0 ≤ row.getD (2 * j) 0) : ∀ (n i : Nat), i ≤ j → j < i + n → (s, 2 * j, (row.getD (2 * j) 0).toNat) ∈ graphR s row i n
  | 0, i, h1, h2 => by omega
  | n + 1, i, h1, h2 => by
    simp only [graphR]
    by_cases he : i = j
    · subst he; rw [if_pos hp]; simp
    · exact List.mem_append_right _ (mem_graphR hp n (i + 1) (by omega) (by omega))
theorem mem_graphL {k j : Nat} (hj : j < k) : ∀ (l : List (List Int)) (s i : Nat) (row : List Int), l[i]? = some row → 0 ≤ row.getD (2 * j) 0 → (s + i, 2 * j, (row.getD (2 * j) 0).toNat) ∈ graphL k s l
  | [], s, i, row, h, _ => by simp at h
  | r :: l, s, 0, row, h, hp => by
    simp only [List.getElem?_cons_zero, Option.some.injEq] at h
    subst h
    exact List.mem_append_left _ (mem_graphR hp k 0 (Nat.zero_le _) (by omega))
  | r :: l, s, i + 1, row, h, hp => by
    have := mem_graphL hj l (s + 1) i row (by simpa using h) hp
    rw [show s + (i + 1) = s + 1 + i by omega]
    exact List.mem_append_right _ this
theorem stepE_some : ∀ (es : List Ed) (v x t : Nat), Rf.stepE es v x = some t → (x % 2 = 0 ∧ (v, x, t) ∈ es) ∨ (x % 2 = 1 ∧ ∃ y, y + 1 = x ∧ (t, y, v) ∈ es)
  | [], v, x, t, h => by simp [Rf.stepE] at h
  | (f, y, u) :: l, v, x, t, h => by
    simp only [Rf.stepE] at h
    split at h
    · rename_i hc
      obtain ⟨h1, rfl, rfl⟩ := hc
      cases h
      exact .inl ⟨h1, by simp⟩
    · split at h
      · rename_i hc
        obtain ⟨h1, h2, rfl⟩ := hc
        cases h
        exact .inr ⟨h1, y, h2, by simp⟩
      · rcases stepE_some l v x t h with ⟨h1, h2⟩ | ⟨h1, y', h2, h3⟩
        · exact .inl ⟨h1, by simp [h2]⟩
        · exact .inr ⟨h1, y', h2, by simp [h3]⟩
theorem stepE_none : ∀ (es : List Ed) (v x : Nat), Rf.stepE es v x = none → ∀ e ∈ es, ¬ (x % 2 = 0 ∧ e.2.1 = x ∧ e.1 = v) ∧ ¬ (x % 2 = 1 ∧ e.2.1 + 1 = x ∧ e.2.2 = v)
  | [], v, x, _, e, he => by simp at he
  | (f, y, u) :: l, v, x, h, e, he => by
    simp only [Rf.stepE] at h
    split at h
    · cases h
    · split at h
      · cases h
      · rename_i h1 h2
        rcases List.mem_cons.1 he with rfl | he
        · exact ⟨h1, h2⟩
        · exact stepE_none l v x h e he
theorem xor_evens : ∀ y : Fin 16, y.val % 2 = 0 → y.val ^^^ 1 = y.val + 1 := by decide
theorem xor_odds : ∀ y : Fin 16, y.val % 2 = 1 → y.val ^^^ 1 = y.val - 1 := by decide
theorem step_graph {k : Nat} (hk : k ≤ 8) {next : List (List Int)} (hlen : ∀ r ∈ next, r.length = 2 * k ∧ ∀ t ∈ r, -1 ≤ t ∧ t < (next.length : Int)) (hloc : ∀ (i : Nat) (row : List Int), next[i]? = some row → rowLocal next i row = true) {v x : Nat} (hv : v < next.length) (hx : x < 2 * k) :
    Rf.stepE (graphL k 0 next) v x = toO (getN next v x) := by
  have back : ∀ {s y : Nat}, s < next.length → y < 2 * k → 0 ≤ getN next s y → getN next (getN next s y).toNat (y ^^^ 1) = (s : Int) := fun {s y} hs hy hp => by
    have hr := hloc s next[s] (List.getElem?_eq_getElem hs)
    have hl := (hlen _ (List.getElem_mem hs)).1
    have hg : getN next s y = next[s].getD y 0 := by unfold getN; rw [getD_get hs]
    rw [hg] at hp ⊢
    have := edges_of next[s] 0 y (by omega) hp
    have := List.all_eq_true.1 hr _ this
    simpa using this
  have tgt : ∀ {s y : Nat}, s < next.length → y < 2 * k → getN next s y < (next.length : Int) ∧ -1 ≤ getN next s y := fun {s y} hs hy => by
    have hl := hlen _ (List.getElem_mem hs)
    have hg : getN next s y = next[s][y]'(by omega) := by unfold getN; rw [getD_get hs, getD_get (by omega)]
    rw [hg]; have := hl.2 _ (List.getElem_mem (show y < next[s].length by omega)); omega
  have ed : ∀ {s j : Nat}, s < next.length → j < k → 0 ≤ getN next s (2 * j) → (s, 2 * j, (getN next s (2 * j)).toNat) ∈ graphL k 0 next := fun {s j} hs hj hp => by
    have hg : getN next s (2 * j) = next[s].getD (2 * j) 0 := by unfold getN; rw [getD_get hs]
    rw [hg] at hp ⊢
    have := mem_graphL hj next 0 s next[s] (List.getElem?_eq_getElem hs) hp
    rw [Nat.zero_add] at this; exact this
  have edm : ∀ {f y t : Nat}, (f, y, t) ∈ graphL k 0 next → f < next.length ∧ y < 2 * k ∧ getN next f y = (t : Int) ∧ y % 2 = 0 := fun {f y t} he => by
    obtain ⟨i, row, h1, h2, j, h3, h4, h5, h6⟩ := graphL_mem next 0 _ he
    dsimp only at h2 h4 h6
    obtain ⟨hi, hri⟩ := List.getElem?_eq_some_iff.1 h1
    rw [Nat.zero_add] at h2
    subst h2
    refine ⟨hi, by omega, ?_, by omega⟩
    unfold getN; rw [getD_get hi, hri, h4]; omega
  cases hst : Rf.stepE (graphL k 0 next) v x with
  | some t =>
    rcases stepE_some _ _ _ _ hst with ⟨h1, h2⟩ | ⟨h1, y, h2, h3⟩
    · have := (edm h2).2.2.1
      rw [this]; unfold toO; rw [if_neg (by omega)]; simp
    · obtain ⟨q1, q2, q3, q4⟩ := edm h3
      have hb := back q1 q2 (by omega)
      rw [q3] at hb
      have hxy : y ^^^ 1 = x := by rw [xor_evens ⟨y, by omega⟩ (by dsimp only; omega)]; exact h2
      rw [hxy] at hb
      have hb : getN next v x = (t : Int) := hb
      rw [hb]; unfold toO; rw [if_neg (by omega)]; simp
  | none =>
    have hn := stepE_none _ _ _ hst
    by_cases hp : 0 ≤ getN next v x
    · exfalso
      by_cases hx2 : x % 2 = 0
      · have := ed (s := v) (j := x / 2) hv (by omega) (by rw [show 2 * (x / 2) = x by omega]; exact hp)
        rw [show 2 * (x / 2) = x by omega] at this
        exact (hn _ this).1 ⟨hx2, rfl, rfl⟩
      · have hb := back hv hx hp
        have ht := (tgt hv hx).1
        have hxy : x ^^^ 1 = 2 * (x / 2) := by rw [xor_odds ⟨x, by omega⟩ (by dsimp only; omega)]; dsimp only; omega
        rw [hxy] at hb
        have := ed (s := (getN next v x).toNat) (j := x / 2) (by omega) (by omega) (by rw [hb]; omega)
        rw [hb] at this
        exact (hn _ this).2 ⟨by omega, by dsimp only; omega, by simp⟩
    · unfold toO; rw [if_pos (by omega)]
theorem toO_ofO (o : Option Nat) : toO (ofO o) = o := by
  cases o with
  | none => rfl
  | some n => show toO (n : Int) = _; unfold toO; rw [if_neg (by omega)]; simp
theorem isM_check {k : Int} (hk : 1 ≤ k ∧ k ≤ 8) (a : Aut) : isM k a = decide (a.check k = 0) := by
  obtain ⟨nk, rfl⟩ := Int.eq_ofNat_of_zero_le (show 0 ≤ k by omega)
  have hA : a.check (nk : Int) = if fsaF a.sym a.start a.acc a.next ≠ 0 ∨ a.sym ≠ 2 * (nk : Int) ∨ a.next.length < 1 ∨ 2000 < a.next.length ∨ a.start ≠ 0 then 210
      else match scanR a.acc a.next 0 a.next 1 with | some seen => if seen = a.next.length then 0 else 210 | none => 210 := by
    unfold Aut.check checkG; rw [if_neg (by simpa using hk)]; (try rfl)
  by_cases g1 : fsaF a.sym a.start a.acc a.next = 0
  case neg =>
    rw [hA, if_pos (.inl g1)]; unfold isM; rw [decide_eq_false g1]; rfl
  obtain ⟨hla, hrows⟩ := fsa_spec g1
  by_cases g2 : a.sym = 2 * (nk : Int)
  case neg =>
    rw [hA, if_pos (.inr (.inl g2))]; unfold isM; rw [decide_eq_false g2]; simp
  by_cases g3 : 1 ≤ a.acc.length
  case neg =>
    rw [hA, if_pos (.inr (.inr (.inl (by omega))))]; unfold isM; rw [decide_eq_false g3]; simp
  by_cases g4 : a.acc.length ≤ 2000
  case neg =>
    rw [hA, if_pos (.inr (.inr (.inr (.inl (by omega)))))]; unfold isM; rw [decide_eq_false g4]; simp
  by_cases g5 : a.start = 0
  case neg =>
    rw [hA, if_pos (.inr (.inr (.inr (.inr g5))))]; unfold isM; rw [decide_eq_false g5]; simp
  have hI : isM (nk : Int) a = (a.acc.getD 0 false && (localAll a.acc a.next 0 a.next && sameF a (autE nk (numR nk a.next)))) := by
    unfold isM
    rw [decide_eq_true g1, decide_eq_true g2, decide_eq_true g3, decide_eq_true g4, decide_eq_true g5]
    simp
  rw [hI, hA, if_neg (by
    rintro (h | h | h | h | h)
    · exact h g1
    · exact h g2
    · omega
    · omega
    · exact h g5)]
  clear hI hA
  have hrow2 : ∀ r ∈ a.next, r.length = 2 * nk ∧ ∀ t ∈ r, -1 ≤ t ∧ t < (a.next.length : Int) := fun r hr => ⟨by have := (hrows r hr).1; omega, (hrows r hr).2⟩
  have hback : (a.next.map (·.map toO)).map (·.map ofO) = a.next := by
    rw [List.map_map]
    conv => rhs; rw [← List.map_id a.next]
    exact List.map_congr_left fun r hr => row_toO fun t ht => ((hrow2 r hr).2 t ht).1
  have hlt := graphL_lt (k := nk) (fun r hr t ht => ((hrow2 r hr).2 t ht).2) (by omega)
  obtain ⟨res, hres⟩ := numE_some (k := nk) hlt (a.next.length + 1) 0 [0] [] (by simp) (by simp; omega) (by simp) (by omega)
  have hnR : numR nk a.next = res := by unfold numR; rw [hres]; rfl
  rw [hnR]
  -- the states' marks and letters
  by_cases hloc : ∀ (i : Nat) (row : List Int), a.next[i]? = some row → localP a.acc a.next (0 + i) row
  case neg =>
    have h1 : ¬ ∃ r, scanR a.acc a.next 0 a.next 1 = some r := fun ⟨r, hr⟩ => hloc ((scanR_iff a.next 0 1 r).1 hr).1
    have h2 : scanR a.acc a.next 0 a.next 1 = none := by
      cases h : scanR a.acc a.next 0 a.next 1 with
      | none => rfl
      | some r => exact absurd ⟨r, h⟩ h1
    rw [h2]
    rw [show (decide ((210 : Int) = 0)) = false from rfl]
    by_cases g6 : a.acc.getD 0 false = true
    · have h3 : localAll a.acc a.next 0 a.next = false := by
        cases h : localAll a.acc a.next 0 a.next with
        | false => rfl
        | true => exact absurd (fun i row hi => (localS_iff g6).1 ((localAll_iff a.next 0).1 h i row hi)) hloc
      rw [h3, Bool.false_and, Bool.and_false]
    · rw [Bool.not_eq_true] at g6
      rw [g6, Bool.false_and]
  have g6 : a.acc.getD 0 false = true := (hloc 0 _ (List.getElem?_eq_getElem (by omega))).1
  have h3 : localAll a.acc a.next 0 a.next = true := (localAll_iff a.next 0).2 fun i row hi => (localS_iff g6).2 (hloc i row hi)
  rw [g6, h3, Bool.true_and, Bool.true_and]
  have hstep : ∀ v, v < a.next.length → rowE nk (graphL nk 0 a.next) v = (a.next.map (·.map toO)).getD v [] := fun v hv => by
    have hrv : (a.next.map (·.map toO)).getD v [] = a.next[v].map toO := by rw [getD_get (by simpa using hv)]; simp
    rw [hrv]
    have hlv := (hrow2 _ (List.getElem_mem hv)).1
    apply List.ext_getElem (by rw [rowE_len]; simp [hlv])
    intro x h1 h2
    rw [rowE_len] at h1
    have := rowE_get (k := nk) (es := graphL nk 0 a.next) (v := v) h1
    rw [step_graph (by omega) hrow2 (fun i row hi => by have := (hloc i row hi).2.2; rw [Nat.zero_add] at this; exact this) hv h1] at this
    obtain ⟨h4, h5⟩ := List.getElem?_eq_some_iff.1 this
    rw [h5, List.getElem_map]
    unfold getN
    rw [getD_get hv, getD_get (by omega)]
  have hN := num_iff (k := nk) (n := a.next.length) (es := graphL nk 0 a.next) (R := a.next.map (·.map toO)) (by simp) hstep (fun r hr t ht => by
    obtain ⟨r', hr', rfl⟩ := List.mem_map.1 hr
    obtain ⟨u, hu, hut⟩ := List.mem_map.1 ht
    have := (hrow2 r' hr').2 u hu
    unfold toO at hut
    split at hut
    · cases hut
    · cases hut; omega) (a.next.length + 1) 0 1 res (by omega) (by omega) (by simpa using hres)
  rw [List.drop_zero] at hN
  have hS : sameF a (autE nk res) = true ↔ res = a.next.map (·.map toO) := by
    unfold sameF autE
    rw [decide_eq_true_eq]
    constructor
    · rintro ⟨_, _, _, h⟩
      have h : a.next = res.map (·.map ofO) := h
      rw [h, List.map_map]
      conv => lhs; rw [← List.map_id res]
      refine List.map_congr_left fun r _ => ?_
      simp only [Function.comp, List.map_map]
      conv => lhs; rw [id, ← List.map_id r]
      exact List.map_congr_left fun o _ => (toO_ofO o).symm
    · intro h
      refine ⟨by rw [g2]; push_cast; rfl, g5, ?_, ?_⟩
      · rw [h, List.length_map]
        apply List.ext_getElem (by simp [accF]; omega)
        intro i h1 h2
        have := (hloc i _ (List.getElem?_eq_getElem (show i < a.next.length by omega))).1
        rw [Nat.zero_add, getD_get h1] at this
        rw [this]
        simp [accF]
      · rw [h]; exact hback.symm
  cases hs : sameF a (autE nk res) with
  | true =>
    have h4 := hN.1 (hS.1 hs)
    have h5 := (scanR_iff (acc := a.acc) (next := a.next) a.next 0 1 a.next.length).2 ⟨hloc, h4⟩
    rw [h5]; simp
  | false =>
    cases h6 : scanR a.acc a.next 0 a.next 1 with
    | none => rfl
    | some r =>
      by_cases hr : r = a.next.length
      · subst hr
        have := hS.2 (hN.2 ((scanR_iff a.next 0 1 _).1 h6).2)
        rw [hs] at this; cases this
      · simp [hr]
end Go.Proofs.YtffdjfkekdoeaaaDoor.Pl
end
section
set_option linter.unusedVariables false
set_option linter.unusedSimpArgs false
set_option maxRecDepth 4000
set_option maxHeartbeats 2000000
namespace Go.Proofs.YtffdjfkekdoeaaaDoor.Pl
open Fw Wd Fo Rf
def L (x : Nat) : UInt8 := UInt8.ofNat (letF (x : Int)).toNat
theorem L_other : ∀ x : Fin 16, otherB (L x.val) = L (x.val ^^^ 1) := by decide
theorem L_inj : ∀ x y : Fin 16, L x.val = L y.val → x = y := by decide
theorem L_idx : ∀ x : Fin 16, idxF (ofB (L x.val)) = (x.val : Int) := by decide
theorem letS_list (x : Nat) : (letS (x : Int)).data.toList = [L x] := rfl
theorem app_list (a b : ByteArray) : (a ++ b).data.toList = a.data.toList ++ b.data.toList := by
  rw [ByteArray.data_append, Array.toList_append]
theorem xor_xor : ∀ x : Fin 16, (x.val ^^^ 1) ^^^ 1 = x.val ∧ x.val ^^^ 1 < 16 := by decide
def RedL (l : List UInt8) : Prop := redF l = l
theorem redF_snoc (l : List UInt8) (c : UInt8) : redF (l ++ [c]) = redStep (redF l) c := by simp [redF]
theorem RedL.snoc {l : List UInt8} {c : UInt8} (h : RedL l) (hc : l.getLast? ≠ some (otherB c)) : RedL (l ++ [c]) := by
  unfold RedL at *
  rw [redF_snoc, h, redStep, if_neg hc]
theorem redF_len (l : List UInt8) : (redF l).length ≤ l.length := by have := redFold_len l []; simpa [redF] using this
theorem RedL.inv {l : List UInt8} {c : UInt8} (h : RedL (l ++ [c])) : RedL l ∧ l.getLast? ≠ some (otherB c) := by
  unfold RedL at *
  rw [redF_snoc, redStep] at h
  split at h
  · exfalso
    have h1 := congrArg List.length h
    have h2 := redF_len l
    simp at h1
    omega
  · rename_i hn
    have := List.append_cancel_right h
    rw [this] at hn
    exact ⟨this, hn⟩
theorem RedL.nil : RedL [] := rfl
theorem otherB_otherB (c : UInt8) : otherB (otherB c) = c := by
  unfold otherB
  rw [UInt8.xor_assoc]; simp
def isEven (k : Int × Int) : Bool := k.2.toNat % 2 == 0
structure TreeW (m : Nat) (next : List (List Int)) (T : Tree) : Prop where
  good : ∀ p ∈ T.paths, ∀ b ∈ p.data.toList, ∃ x, x < 16 ∧ b = L x
  red : ∀ p ∈ T.paths, RedL p.data.toList
  zero : T.paths.getD 0 ⟨#[]⟩ = ⟨#[]⟩
  last : ∀ v, 0 < v → v < T.seen → ∃ s x, x < 16 ∧ (T.paths.getD v ⟨#[]⟩).data.toList = (T.paths.getD s ⟨#[]⟩).data.toList ++ [L x] ∧ ((v : Int), ((x ^^^ 1 : Nat) : Int)) ∈ T.keys
  keyw : ∀ u y, (u, y) ∈ T.keys → ∃ (u' y' t' : Nat), u = (u' : Int) ∧ y = (y' : Int) ∧ y' < m ∧ getN next u' y' = (t' : Int) ∧ u' < T.seen ∧ t' < T.seen ∧ ((t' : Int), ((y' ^^^ 1 : Nat) : Int)) ∈ T.keys ∧ getN next t' (y' ^^^ 1) = (u' : Int) ∧
    ((T.paths.getD t' ⟨#[]⟩).data.toList = (T.paths.getD u' ⟨#[]⟩).data.toList ++ [L y'] ∨ (T.paths.getD u' ⟨#[]⟩).data.toList = (T.paths.getD t' ⟨#[]⟩).data.toList ++ [L (y' ^^^ 1)])
  nodup : T.keys.Nodup
  evens : (T.keys.filter isEven).length + 1 = T.seen
theorem TreeW.start {m : Nat} {next : List (List Int)} (h : 1 ≤ next.length) : TreeW m next ⟨1, List.replicate next.length ⟨#[]⟩, []⟩ where
  good := fun p hp b hb => by rw [List.eq_of_mem_replicate hp] at hb; simp at hb
  red := fun p hp => by rw [List.eq_of_mem_replicate hp]; exact RedL.nil
  zero := by rw [getD_get (by rw [List.length_replicate]; exact h)]; simp
  last := fun v h1 h2 => absurd h2 (by show ¬ v < 1; omega)
  keyw := fun u y h => by simp at h
  nodup := List.nodup_nil
  evens := rfl
theorem getD_set_ne {α : Type} {l : List α} {i j : Nat} {x d : α} (h : i ≠ j) : (l.set i x).getD j d = l.getD j d := by
  rw [List.getD_eq_getElem?_getD, List.getElem?_set_ne h, ← List.getD_eq_getElem?_getD]
theorem getD_set_eq {α : Type} {l : List α} {i : Nat} {x d : α} (h : i < l.length) : (l.set i x).getD i d = x := by
  rw [List.getD_eq_getElem?_getD, List.getElem?_set_self h]; rfl
theorem even_xor : ∀ x : Fin 16, ((x.val % 2 == 0) = true ∧ ((x.val ^^^ 1) % 2 == 0) = false) ∨ ((x.val % 2 == 0) = false ∧ ((x.val ^^^ 1) % 2 == 0) = true) := by decide
theorem TreeW.step {m : Nat} (hm16 : m ≤ 16) (hcl : ∀ x, x < m → x ^^^ 1 < m) {next : List (List Int)} {T : Tree} (hW : TreeW m next T) (h : TreeOk next T) {s x : Nat} (hxm : x < m) (hs : s < T.seen) (ht : T.seen < next.length) (hx : getN next s x = (T.seen : Int)) (hb : getN next T.seen (x ^^^ 1) = (s : Int)) :
    TreeW m next ⟨T.seen + 1, T.paths.set T.seen (T.paths.getD s ⟨#[]⟩ ++ letS (x : Int)), T.keys ++ [((s : Int), (x : Int)), ((T.seen : Int), ((x ^^^ 1 : Nat) : Int))]⟩ := by
  have hx16 : x < 16 := by omega
  have hpl : T.seen < T.paths.length := by rw [h.len]; exact ht
  have hsl : s < T.paths.length := by omega
  have hps : T.paths.getD s ⟨#[]⟩ ∈ T.paths := by rw [getD_get hsl]; exact List.getElem_mem hsl
  have hnew : (T.paths.getD s ⟨#[]⟩ ++ letS (x : Int)).data.toList = (T.paths.getD s ⟨#[]⟩).data.toList ++ [L x] := by rw [app_list, letS_list]
  obtain ⟨hxx, hx1⟩ := xor_xor ⟨x, hx16⟩
  dsimp only at hxx hx1
  have old : ∀ v, v < T.seen → (T.paths.set T.seen (T.paths.getD s ⟨#[]⟩ ++ letS (x : Int))).getD v ⟨#[]⟩ = T.paths.getD v ⟨#[]⟩ := fun v hv => getD_set_ne (by omega)
  have neu : (T.paths.set T.seen (T.paths.getD s ⟨#[]⟩ ++ letS (x : Int))).getD T.seen ⟨#[]⟩ = T.paths.getD s ⟨#[]⟩ ++ letS (x : Int) := getD_set_eq hpl
  have hredS : RedL ((T.paths.getD s ⟨#[]⟩).data.toList ++ [L x]) := by
    refine (hW.red _ hps).snoc fun hl => ?_
    by_cases hs0 : s = 0
    · subst hs0; rw [hW.zero] at hl; simp at hl
    · obtain ⟨s', x', h1, h2, h3⟩ := hW.last s (by omega) hs
      rw [h2, List.getLast?_append, List.getLast?_singleton] at hl
      simp only [Option.some_or, Option.some.injEq] at hl
      rw [L_other ⟨x, hx16⟩] at hl
      have := L_inj ⟨x', h1⟩ ⟨x ^^^ 1, hx1⟩ hl
      simp only [Fin.mk.injEq] at this
      subst this
      rw [hxx] at h3
      exact h.new1 hx h3
  refine ⟨fun p hp b hb => ?_, fun p hp => ?_, ?_, fun v h1 h2 => ?_, fun u y hm => ?_, ?_, ?_⟩
  · rcases List.mem_or_eq_of_mem_set hp with hp | rfl
    · exact hW.good p hp b hb
    · rw [hnew] at hb
      rcases List.mem_append.1 hb with hb | hb
      · exact hW.good _ hps b hb
      · simp only [List.mem_singleton] at hb; exact ⟨x, hx16, hb⟩
  · rcases List.mem_or_eq_of_mem_set hp with hp | rfl
    · exact hW.red p hp
    · rw [hnew]; exact hredS
  · show (T.paths.set _ _).getD 0 _ = _
    rw [old 0 (by omega)]; exact hW.zero
  · have h2 : v < T.seen + 1 := h2
    by_cases hv : v < T.seen
    · obtain ⟨s', x', q1, q2, q3⟩ := hW.last v h1 hv
      by_cases hs' : s' < T.seen
      · refine ⟨s', x', q1, ?_, List.mem_append_left _ q3⟩
        show ((T.paths.set _ _).getD v _).data.toList = ((T.paths.set _ _).getD s' _).data.toList ++ _
        rw [old v hv, old s' hs']; exact q2
      · -- its parent is met already
        obtain ⟨u', y', t', p1, p2, p3, p4, p5, p6, p7, p8, p9⟩ := hW.keyw _ _ q3
        obtain rfl : v = u' := by omega
        obtain ⟨hyx, hy1⟩ := xor_xor ⟨y', Nat.lt_of_lt_of_le p3 hm16⟩
        dsimp only at hyx hy1
        rcases p9 with p9 | p9
        · rw [q2] at p9
          have e1 : (x' ^^^ 1) = y' := by omega
          refine ⟨s', x', q1, ?_, List.mem_append_left _ q3⟩
          exfalso
          have h5 : T.paths.getD s' ⟨#[]⟩ = ⟨#[]⟩ ∨ s' < T.paths.length := by
            by_cases hl : s' < T.paths.length
            · exact .inr hl
            · exact .inl (by rw [List.getD_eq_getElem?_getD, List.getElem?_eq_none (by omega)]; rfl)
          have hmem : ((T.paths.getD t' ⟨#[]⟩)) ∈ T.paths := by rw [getD_get (show t' < T.paths.length by rw [h.len]; omega)]; exact List.getElem_mem _
          have hr := hW.red _ hmem
          rw [p9] at hr
          have h6 := hr.inv.2
          rw [List.getLast?_append, List.getLast?_singleton] at h6
          apply h6
          rw [← e1, ← L_other ⟨x', q1⟩, otherB_otherB]; rfl
        · refine ⟨t', x', q1, ?_, List.mem_append_left _ q3⟩
          show ((T.paths.set _ _).getD v _).data.toList = ((T.paths.set _ _).getD t' _).data.toList ++ _
          rw [old v hv, old t' p6, p9]
          have e1 : (x' ^^^ 1) = y' := by omega
          obtain ⟨hxx', _⟩ := xor_xor ⟨x', q1⟩
          dsimp only at hxx'
          rw [← e1, hxx']
    · obtain rfl : v = T.seen := by omega
      refine ⟨s, x, hx16, ?_, List.mem_append_right _ (by simp)⟩
      show ((T.paths.set _ _).getD T.seen _).data.toList = ((T.paths.set _ _).getD s _).data.toList ++ _
      rw [neu, old s hs, hnew]
  · rcases List.mem_append.1 hm with hm | hm
    · obtain ⟨u', y', t', p1, p2, p3, p4, p5, p6, p7, p8, p9⟩ := hW.keyw u y hm
      refine ⟨u', y', t', p1, p2, p3, p4, by show u' < T.seen + 1; omega, by show t' < T.seen + 1; omega, List.mem_append_left _ p7, p8, ?_⟩
      show ((T.paths.set _ _).getD t' _).data.toList = ((T.paths.set _ _).getD u' _).data.toList ++ _ ∨ ((T.paths.set _ _).getD u' _).data.toList = ((T.paths.set _ _).getD t' _).data.toList ++ _
      rw [old u' p5, old t' p6]; exact p9
    · simp only [List.mem_cons, Prod.mk.injEq, List.not_mem_nil, or_false] at hm
      rcases hm with ⟨rfl, rfl⟩ | ⟨rfl, rfl⟩
      · refine ⟨s, x, T.seen, rfl, rfl, hxm, hx, by show s < T.seen + 1; omega, by show T.seen < T.seen + 1; omega, List.mem_append_right _ (by simp), hb, .inl ?_⟩
        show ((T.paths.set _ _).getD T.seen _).data.toList = ((T.paths.set _ _).getD s _).data.toList ++ _
        rw [neu, old s hs, hnew]
      · refine ⟨T.seen, x ^^^ 1, s, rfl, rfl, hcl x hxm, hb, by show T.seen < T.seen + 1; omega, by show s < T.seen + 1; omega, List.mem_append_right _ (by rw [hxx]; simp), by rw [hxx]; exact hx, .inr ?_⟩
        show ((T.paths.set _ _).getD T.seen _).data.toList = ((T.paths.set _ _).getD s _).data.toList ++ _
        rw [neu, old s hs, hnew, hxx]
  · rw [List.nodup_append]
    refine ⟨hW.nodup, ?_, fun a ha b hb' => ?_⟩
    · simp; omega
    · simp only [List.mem_cons, List.not_mem_nil, or_false] at hb'
      rcases hb' with rfl | rfl
      · exact fun he => h.new1 hx (he ▸ ha)
      · intro he
        subst he
        have := (h.keys _ _ ha).2.1; omega
  · show ((T.keys ++ [_, _]).filter isEven).length + 1 = T.seen + 1
    rw [List.filter_append, List.length_append]
    have := hW.evens
    rcases even_xor ⟨x, hx16⟩ with ⟨q1, q2⟩ | ⟨q1, q2⟩ <;> simp [List.filter_cons, isEven, q1, q2] <;> omega
theorem treeE_ok {m : Nat} (hm16 : m ≤ 16) (hcl : ∀ x, x < m → x ^^^ 1 < m) {next : List (List Int)} {s : Nat} : ∀ (l : List (Int × Int × Unit)) (T : Tree) (r : Nat), (∀ x t u, (x, t, u) ∈ l → 0 ≤ x ∧ x < (m : Int) ∧ 0 ≤ t ∧ t < (next.length : Int) ∧ getN next s x.toNat = t) → TreeOk next T → TreeW m next T → s < T.seen → scanE next s l T.seen = some r →
    TreeOk next (treeE s l T) ∧ TreeW m next (treeE s l T) ∧ (treeE s l T).seen = r ∧ T.seen ≤ r
  | [], T, r, _, h1, h2, _, hs => by simp only [scanE, Option.some.injEq] at hs; subst hs; exact ⟨h1, h2, rfl, Nat.le_refl _⟩
  | (x, t, u) :: l, T, r, hl, h1, h2, hsT, hs => by
    obtain ⟨a1, a2, a3, a4, a5⟩ := hl x t u (by simp)
    obtain ⟨nx, rfl⟩ := Int.eq_ofNat_of_zero_le a1
    obtain ⟨nt, rfl⟩ := Int.eq_ofNat_of_zero_le a3
    simp only [scanE] at hs
    split at hs
    · cases hs
    rename_i hc
    have hb : getN next nt (nx ^^^ 1) = (s : Int) := by
      by_cases hh : (next.getD ((nt : Int)).toNat []).getD (((nx : Int)).toNat ^^^ 1) 0 = (s : Int)
      · exact hh
      · exact absurd (.inl hh) hc
    have hl' : ∀ x t u, (x, t, u) ∈ l → 0 ≤ x ∧ x < (m : Int) ∧ 0 ≤ t ∧ t < (next.length : Int) ∧ getN next s x.toNat = t := fun x t u hm => hl x t u (by simp [hm])
    simp only [treeE]
    by_cases he : (nt : Int) = (T.seen : Int)
    · obtain rfl : nt = T.seen := by omega
      rw [if_pos rfl] at hs ⊢
      have h5 : getN next s nx = (T.seen : Int) := a5
      have := treeE_ok hm16 hcl l _ r hl' (h1.step hsT (by omega) h5 hb) (h2.step hm16 hcl h1 (by omega) hsT (by omega) h5 hb) (by show s < T.seen + 1; omega) hs
      refine ⟨this.1, this.2.1, this.2.2.1, ?_⟩
      have := this.2.2.2
      have : T.seen + 1 ≤ r := this
      omega
    · rw [if_neg he] at hs ⊢
      exact treeE_ok hm16 hcl l T r hl' h1 h2 hsT hs
theorem treeR_ok {m : Nat} (hm16 : m ≤ 16) (hcl : ∀ x, x < m → x ^^^ 1 < m) {acc : List Bool} {next : List (List Int)} (hrow : ∀ r ∈ next, r.length = m ∧ ∀ t ∈ r, -1 ≤ t ∧ t < (next.length : Int)) : ∀ (l : List (List Int)) (s : Nat) (T : Tree) (r : Nat), l = next.drop s → TreeOk next T → TreeW m next T → scanR acc next s l T.seen = some r →
    TreeOk next (treeR s l T) ∧ TreeW m next (treeR s l T) ∧ (treeR s l T).seen = r
  | [], s, T, r, _, h1, h2, hs => by simp only [scanR, Option.some.injEq] at hs; subst hs; exact ⟨h1, h2, rfl⟩
  | row :: l, s, T, r, hl, h1, h2, hs => by
    have hsn : s < next.length := by
      by_cases hh : s < next.length
      · exact hh
      · rw [List.drop_eq_nil_of_le (by omega)] at hl; cases hl
    have hd : next.drop s = next[s] :: next.drop (s + 1) := List.drop_eq_getElem_cons hsn
    rw [hd] at hl
    simp only [List.cons.injEq] at hl
    obtain ⟨hr, hl⟩ := hl
    have hm := hrow row (by rw [hr]; exact List.getElem_mem hsn)
    simp only [scanR] at hs
    split at hs
    · cases hs
    rename_i hc
    split at hs
    · cases hs
    rename_i seen' hE
    have hsT : s < T.seen := by
      by_cases hh : T.seen ≤ s
      · exact absurd (.inr (.inr hh)) hc
      · omega
    obtain ⟨p1, p2, p3, p4⟩ := treeE_ok hm16 hcl (edgesFrom 0 row) T seen' (fun x t u hx => by
      obtain ⟨e1, e2, e3, e4⟩ := edges_mem row 0 x t u hx
      obtain ⟨e5, _⟩ := edges_val row 0 x t u hx
      have := hm.2 t e2
      have hml := hm.1
      refine ⟨e3, by omega, e1, this.2, ?_⟩
      unfold getN; rw [getD_get hsn, ← hr]; simpa using e5) h1 h2 hsT hE
    simp only [treeR]
    exact treeR_ok hm16 hcl hrow l (s + 1) _ r hl p1 p2 (by rw [p3]; exact hs)
theorem tree_ok {k : Int} (hk : k ≤ 8) {a : Aut} (hc : a.check k = 0) : TreeOk a.next (treeF a.next) ∧ TreeW (2 * k.toNat) a.next (treeF a.next) ∧ (treeF a.next).seen = a.next.length := by
  obtain ⟨_, _, h1, _, _, hs, hr⟩ := check_spec hc
  exact treeR_ok (m := 2 * k.toNat) (by omega) (fun x hx => xor_even (by omega) hx) (acc := a.acc) (fun r hm => ⟨by have := (hr r hm).1; omega, (hr r hm).2⟩) a.next 0 _ _ rfl (TreeOk.start h1) (TreeW.start h1) hs
end Go.Proofs.YtffdjfkekdoeaaaDoor.Pl
end
section
set_option linter.unusedVariables false
set_option linter.unusedSimpArgs false
set_option maxRecDepth 4000
set_option maxHeartbeats 2000000
namespace Go.Proofs.YtffdjfkekdoeaaaDoor.Pl
open Fw Wd Fo Rf
theorem L_bad : ∀ x : Fin 16, badF 8 ((L x.val).toNat : Int) = false := by decide
def Good (l : List UInt8) : Prop := ∀ b ∈ l, ∃ x, x < 16 ∧ b = L x
theorem Good.inv {l : List UInt8} (h : Good l) : Good (invF l) := fun b hb => by
  unfold invF at hb
  rw [List.mem_reverse] at hb
  obtain ⟨c, hc, rfl⟩ := List.mem_map.1 hb
  obtain ⟨x, hx, rfl⟩ := h c hc
  exact ⟨x ^^^ 1, (xor_xor ⟨x, hx⟩).2, L_other ⟨x, hx⟩⟩
theorem Good.app {a b : List UInt8} (h : Good a) (h' : Good b) : Good (a ++ b) := fun c hc => (List.mem_append.1 hc).elim (h c) (h' c)
theorem check_good {s : ByteArray} (h : Good s.data.toList) (hs : s.size ≤ 100000) : checkF 8 s = 0 := by
  unfold checkF
  rw [if_neg (by omega), if_neg (by omega), if_neg]
  unfold hasBad
  rw [Bool.not_eq_true, List.any_eq_false]
  intro b hb
  obtain ⟨x, hx, rfl⟩ := h b hb
  rw [L_bad ⟨x, hx⟩]; simp
theorem size_list (s : ByteArray) : s.size = s.data.toList.length := by
  show s.data.size = _
  rw [Array.length_toList]
theorem back_of {k : Int} {a : Aut} (hc : a.check k = 0) {s x : Nat} (hs : s < a.next.length) (hx : x < 2 * k.toNat) (hp : 0 ≤ getN a.next s x) : getN a.next (getN a.next s x).toNat (x ^^^ 1) = (s : Int) := by
  obtain ⟨_, _, _, _, _, hsc, hrows⟩ := check_spec hc
  have hl := ((scanR_iff a.next 0 1 _).1 hsc).1 s a.next[s] (List.getElem?_eq_getElem hs)
  rw [Nat.zero_add] at hl
  have hr := hl.2.2
  have hlen := (hrows _ (List.getElem_mem hs)).1
  have hg : getN a.next s x = a.next[s].getD x 0 := by unfold getN; rw [getD_get hs]
  rw [hg] at hp ⊢
  have := edges_of a.next[s] 0 x (by omega) hp
  have := List.all_eq_true.1 hr _ this
  simpa using this
theorem path_mem {T : Tree} {s : Nat} (h : s < T.paths.length) : T.paths.getD s ⟨#[]⟩ ∈ T.paths := by rw [getD_get h]; exact List.getElem_mem h
end Go.Proofs.YtffdjfkekdoeaaaDoor.Pl
end
section
set_option linter.unusedVariables false
set_option linter.unusedSimpArgs false
set_option maxRecDepth 4000
set_option maxHeartbeats 2000000
namespace Go.Proofs.YtffdjfkekdoeaaaDoor.Pl
open Fo Rf Wd
def Rd : List Nat → Prop
  | x :: y :: l => y ≠ x ^^^ 1 ∧ Rd (y :: l)
  | _ => True
theorem Rd_snoc : ∀ (l : List Nat) (x : Nat), Rd l → (∀ y, l.getLast? = some y → x ≠ y ^^^ 1) → Rd (l ++ [x])
  | [], x, _, _ => trivial
  | [a], x, _, h => ⟨h a rfl, trivial⟩
  | a :: b :: l, x, h, hx => ⟨h.1, Rd_snoc (b :: l) x h.2 fun y hy => hx y (by rw [List.getLast?_cons_cons]; exact hy)⟩
theorem red_snoc {l : List UInt8} (h : RedL l) (c : UInt8) : RedL (redStep l c) := by
  unfold redStep
  split
  · rename_i hl
    rcases List.eq_nil_or_concat l with rfl | ⟨q, d, rfl⟩
    · exact RedL.nil
    · rw [List.concat_eq_append] at h ⊢
      rw [List.dropLast_concat]
      exact (RedL.inv h).1
  · rename_i hl
    exact RedL.snoc h hl
theorem red_fold : ∀ (l out : List UInt8), RedL out → RedL (l.foldl redStep out)
  | [], out, h => h
  | c :: l, out, h => red_fold l _ (red_snoc h c)
theorem redF_red (l : List UInt8) : RedL (redF l) := red_fold l [] RedL.nil
theorem L_of : ∀ n : Fin 256, 0 ≤ idxF (n.val : Int) → n.val ≤ 127 → ∃ x : Fin 16, UInt8.ofNat n.val = L x.val := by decide
theorem Uq.split {p q : List Ed} {e : Ed} (h : Uq (p ++ e :: q)) (hm : e ∈ p ++ q) : e.1 = 0 ∧ e.2.2 = 0 := by
  obtain ⟨_, h2, h3⟩ := List.pairwise_append.1 h
  obtain ⟨h4, _⟩ := List.pairwise_cons.1 h2
  rcases List.mem_append.1 hm with hm | hm
  · exact h3 e hm e (by simp) rfl
  · exact h4 e hm rfl
structure Pr (es res : List Ed) : Prop where
  sub : res.Sublist es
  max : ∀ S, Part 0 S → (∀ s x t, S s x t → Dir es s x t) → ∀ s x t, S s x t → Dir res s x t
  two : ∀ s x t, Dir res s x t → s ≠ 0 → ∃ x' t', x' ≠ x ∧ Dir res s x' t'
theorem Det.sub {es es' : List Ed} (h : Det es) (hs : ∀ e ∈ es', e ∈ es) : Det es' := fun s x t t' h1 h2 => h s x t t' (h1.mono hs) (h2.mono hs)
end Go.Proofs.YtffdjfkekdoeaaaDoor.Pl
end
section
set_option linter.unusedVariables false
set_option linter.unusedSimpArgs false
set_option maxRecDepth 4000
set_option maxHeartbeats 2000000
namespace Go.Proofs.YtffdjfkekdoeaaaDoor.Pl
open Fo Rf Wd
theorem idxOf_map {φ : Nat → Nat} {P : Nat → Prop} (inj : ∀ u v, P u → P v → φ u = φ v → u = v) : ∀ (q : List Nat) (t : Nat), (∀ v ∈ q, P v) → P t → (q.map φ).idxOf (φ t) = q.idxOf t
  | [], t, _, _ => rfl
  | v :: l, t, hq, ht => by
    rw [List.map_cons, List.idxOf_cons, List.idxOf_cons, idxOf_map inj l t (fun u hu => hq u (by simp [hu])) ht]
    by_cases h : v = t
    · subst h; simp
    · have : φ v ≠ φ t := fun he => h (inj _ _ (hq v (by simp)) ht he)
      rw [show (φ v == φ t) = false by simpa using this, show (v == t) = false by simpa using h]
theorem bfsRow_map {φ : Nat → Nat} {P : Nat → Prop} (inj : ∀ u v, P u → P v → φ u = φ v → u = v) : ∀ (row : Row) (q : List Nat), (∀ t, some t ∈ row → P t) → (∀ v ∈ q, P v) →
    bfsRow (row.map (Option.map φ)) (q.map φ) = ((bfsRow row q).1.map φ, (bfsRow row q).2) ∧ ∀ v ∈ (bfsRow row q).1, P v
  | [], q, _, hq => ⟨rfl, hq⟩
  | none :: l, q, hr, hq => by
    obtain ⟨h1, h2⟩ := bfsRow_map inj l q (fun t ht => hr t (by simp [ht])) hq
    simp only [List.map_cons, Option.map_none, bfsRow]
    rw [h1]
    exact ⟨rfl, h2⟩
  | some t :: l, q, hr, hq => by
    have ht := hr t (by simp)
    have hmem : φ t ∈ q.map φ ↔ t ∈ q := by
      constructor
      · intro h
        obtain ⟨v, hv, he⟩ := List.mem_map.1 h
        rw [← inj v t (hq v hv) ht he]; exact hv
      · exact List.mem_map_of_mem
    simp only [List.map_cons, Option.map_some, bfsRow]
    by_cases h : t ∈ q
    · obtain ⟨h1, h2⟩ := bfsRow_map inj l q (fun t ht => hr t (by simp [ht])) hq
      rw [if_pos h, if_pos (hmem.2 h), h1, idxOf_map inj q t hq ht]
      exact ⟨rfl, h2⟩
    · have hq' : ∀ v ∈ q ++ [t], P v := fun v hv => by
        rcases List.mem_append.1 hv with hv | hv
        · exact hq v hv
        · simp only [List.mem_singleton] at hv; subst hv; exact ht
      obtain ⟨h1, h2⟩ := bfsRow_map inj l (q ++ [t]) (fun t ht => hr t (by simp [ht])) hq'
      rw [if_neg h, if_neg (fun hh => h (hmem.1 hh)), List.length_map]
      rw [List.map_append] at h1
      simp only [List.map_cons, List.map_nil] at h1
      rw [h1]
      exact ⟨rfl, h2⟩
theorem num_map {φ : Nat → Nat} {P : Nat → Prop} (inj : ∀ u v, P u → P v → φ u = φ v → u = v) {k : Nat} {es : List Ed} {ρ : Nat → Row} (hρ : ∀ v, P v → rowE k es (φ v) = (ρ v).map (Option.map φ)) (hP : ∀ v, P v → ∀ t, some t ∈ ρ v → P t) :
    ∀ (K i : Nat) (q : List Nat) (out : List Row), (∀ v ∈ q, P v) → numE k es K i (q.map φ) out = numG ρ K i q out
  | 0, _, _, _, _ => rfl
  | K + 1, i, q, out, hq => by
    simp only [numE, numG, List.getElem?_map]
    cases hv : q[i]? with
    | none => rfl
    | some v =>
      have hpv := hq v (List.mem_of_getElem? hv)
      obtain ⟨h1, h2⟩ := bfsRow_map inj (ρ v) q (hP v hpv) hq
      simp only [Option.map_some]
      rw [hρ v hpv, h1]
      exact num_map inj hρ hP K (i + 1) _ _ h2
theorem stepE_dir {x : Nat} : ∀ {es : List Ed} {v t : Nat}, stepE es v x = some t → Dir es v x t
  | [], v, t, h => by simp [stepE] at h
  | (f, y, u) :: l, v, t, h => by
    simp only [stepE] at h
    split at h
    · rename_i hc
      cases h
      obtain ⟨h1, rfl, rfl⟩ := hc
      exact .inl ⟨h1, by simp⟩
    · split at h
      · rename_i hc
        cases h
        obtain ⟨h1, rfl, rfl⟩ := hc
        exact .inr ⟨h1, by simp⟩
      · exact (stepE_dir h).mono fun e he => by simp [he]
theorem dir_step {x : Nat} : ∀ {es : List Ed} {v t : Nat}, Dir es v x t → ∃ t', stepE es v x = some t'
  | [], v, t, h => by simp [Dir] at h
  | (f, y, u) :: l, v, t, h => by
    simp only [stepE]
    split
    · exact ⟨_, rfl⟩
    · rename_i h1
      split
      · exact ⟨_, rfl⟩
      · rename_i h2
        refine dir_step (t := t) ?_
        rcases h with ⟨a, b⟩ | ⟨a, b⟩
        · refine .inl ⟨a, ?_⟩
          rcases List.mem_cons.1 b with b | b
          · simp only [Prod.mk.injEq] at b
            exact absurd ⟨a, b.2.1.symm, b.1.symm⟩ h1
          · exact b
        · refine .inr ⟨a, ?_⟩
          rcases List.mem_cons.1 b with b | b
          · simp only [Prod.mk.injEq] at b
            exact absurd ⟨a, by omega, b.2.2.symm⟩ h2
          · exact b
theorem stepE_iff {es : List Ed} (hd : Det es) {v x t : Nat} : stepE es v x = some t ↔ Dir es v x t := by
  constructor
  · exact stepE_dir
  · intro h
    obtain ⟨t', h'⟩ := dir_step h
    rw [h', hd _ _ _ _ (stepE_dir h') h]
section
variable {E : List Edg} {st : St} {es0 es1 es2 : List Ed} {r : Nat → Nat} {rows' : List (Option Row)} {k : Nat} {o : Option (List Row)}
theorem Root.sm {par : List Nat} {u p : Nat} (h : Root par u p) : Sm par u p := ⟨p, h, h.self⟩
structure Two (E : List Edg) (st : St) (es0 es1 : List Ed) (r : Nat → Nat) : Prop where
  inv : Inv E st
  hE : ∀ s x t, (s, x, t) ∈ E ↔ Dir es0 s x t
  rep : Rep E es0 es1 r
  det : Det es1
theorem Two.inj (h : Two E st es0 es1 r) {u v : Nat} (hu : Root st.par u u) (hv : Root st.par v v) (he : r u = r v) : u = v := by
  obtain ⟨p, a, b⟩ := h.inv.same_iff hu.lt_left ((h.rep.cg h.hE h.det).1 he)
  rw [hu.unique a, hv.unique b]
theorem Two.root (h : Two E st es0 es1 r) {u p : Nat} (hu : Root st.par u p) : r u = r p := (h.rep.cg h.hE h.det).2 (h.inv.snd.par _ _ hu.sm)
theorem Two.to (h : Two E st es0 es1 r) {s x t : Nat} : To (rowsS st.par 0 st.next) s x t ↔ Root st.par s s ∧ Root st.par t t ∧ Dir es1 (r s) x (r t) := by
  rw [to_rows h.inv]
  constructor
  · rintro ⟨u, h1, h2, h3⟩
    obtain ⟨s', e1, e2⟩ := h.inv.snd.ent s x u h2
    refine ⟨h1, h3.self, (h.rep.dir h.hE).2 ⟨s', u, e1, ((h.rep.cg h.hE h.det).2 e2).symm, h.root h3⟩⟩
  · rintro ⟨h1, h2, h3⟩
    obtain ⟨s0, t0, e1, e2, e3⟩ := (h.rep.dir h.hE).1 h3
    obtain ⟨p, t1, a1, a2, a3⟩ := h.inv.cm s0 x t0 e1
    rw [h.inv.todo] at a3
    have a3 := Eqv.nil (fun _ _ _ => Sm.trans) a3
    have hs0 := a1.lt_left
    obtain ⟨z, c1, c2⟩ := h.inv.same_iff hs0 ((h.rep.cg h.hE h.det).1 e2)
    have hz : z = s := c2.unique h1
    subst hz
    have hp : p = z := a1.unique c1
    subst hp
    have ht0 : t0 < st.par.length := by obtain ⟨q, _, hq⟩ := a3; exact hq.lt_left
    obtain ⟨z', d1, d2⟩ := a3.trans (h.inv.same_iff ht0 ((h.rep.cg h.hE h.det).1 e3))
    have hz' : z' = t := d2.unique h2
    subst hz'
    exact ⟨t1, h1, a2, d1⟩
theorem Two.reach (h : Two E st es0 es1 r) {u x v : Nat} (hd : Dir es1 u x v) : ∃ t, Root st.par t t ∧ r t = v := by
  obtain ⟨d, hf⟩ := h.inv.ok.forest
  obtain ⟨s0, t0, e1, e2, e3⟩ := (h.rep.dir h.hE).1 hd
  obtain ⟨p, t1, a1, a2, a3⟩ := h.inv.cm s0 x t0 e1
  rw [h.inv.todo] at a3
  obtain ⟨q, _, hq⟩ := Eqv.nil (fun _ _ _ => Sm.trans) a3
  exact ⟨q, hq.self, by rw [← e3]; exact (h.root hq).symm⟩
theorem Two.cut (h : Two E st es0 es1 r) {m : Nat} {start : Nat} (hs : Root st.par start start) (hs0 : r start = 0) (hm : MadeOf m start (rowsS st.par 0 st.next) rows' o) (hp : Pr es1 es2) {s x t : Nat} :
    To rows' s x t ↔ Root st.par s s ∧ Root st.par t t ∧ Dir es2 (r s) x (r t) := by
  have hsub : ∀ e ∈ es2, e ∈ es1 := fun e he => hp.sub.mem he
  constructor
  · intro ht
    obtain ⟨h1, h2, _⟩ := h.to.1 (hm.cut.sub _ _ _ ht)
    refine ⟨h1, h2, hp.max (fun a x b => ∃ s t, r s = a ∧ r t = b ∧ To rows' s x t) ⟨?_, ?_⟩ ?_ _ _ _ ⟨s, t, rfl, rfl, ht⟩⟩
    · rintro _ x _ ⟨s, t, rfl, rfl, ht⟩
      exact ⟨t, s, rfl, rfl, hm.wf.inv _ _ _ ht⟩
    · rintro _ x _ ⟨s, t, rfl, rfl, ht⟩ hne
      obtain ⟨x', t', hx, ht'⟩ := hm.two s x t ht fun he => hne (by rw [he]; exact hs0)
      exact ⟨x', r t', hx, s, t', rfl, rfl, ht'⟩
    · rintro _ x _ ⟨s, t, rfl, rfl, ht⟩
      exact (h.to.1 (hm.cut.sub _ _ _ ht)).2.2
  · intro hh
    refine hm.cut.max (fun s x t => Root st.par s s ∧ Root st.par t t ∧ Dir es2 (r s) x (r t)) ⟨?_, ?_⟩ ?_ s x t hh
    · rintro s x t ⟨h1, h2, h3⟩
      exact ⟨h2, h1, h3.back⟩
    · rintro s x t ⟨h1, h2, h3⟩ hne
      obtain ⟨x', t', hx, hd⟩ := hp.two _ _ _ h3 fun he => hne (h.inj h1 hs (he.trans hs0.symm))
      obtain ⟨q, hq, rfl⟩ := h.reach (hd.mono hsub)
      exact ⟨x', q, hx, h1, hq, hd⟩
    · rintro s x t ⟨h1, h2, h3⟩
      exact h.to.2 ⟨h1, h2, h3.mono hsub⟩
theorem Two.num (h : Two E st es0 es1 r) {start : Nat} (hs : Root st.par start start) (hs0 : r start = 0) (hm : MadeOf (2 * k) start (rowsS st.par 0 st.next) rows' o) (hp : Pr es1 es2) (K : Nat) :
    numE k es2 K 0 [0] [] = numG (rowOf rows') K 0 [start] [] := by
  have hsub : ∀ e ∈ es2, e ∈ es1 := fun e he => hp.sub.mem he
  have hdet := h.det.sub hsub
  have hlive : ∀ v, Root st.par v v → Live rows' v := fun v hv => (hm.cut.live v).2 ((live_rows h.inv).2 hv)
  have := num_map (φ := r) (P := fun v => Root st.par v v) (fun u v hu hv he => h.inj hu hv he) (k := k) (es := es2) (ρ := rowOf rows') (fun v hv => ?_) (fun v hv t ht => ?_) K 0 [start] [] (fun v hv => by simp only [List.mem_singleton] at hv; subst hv; exact hs)
  · rw [List.map_cons, List.map_nil, hs0] at this
    exact this
  · obtain ⟨e1, e2, e3⟩ := row_live hm.wf (hlive v hv)
    apply List.ext_getElem?
    intro x
    rw [List.getElem?_map]
    by_cases hx : x < 2 * k
    · rw [rowE_get hx]
      have hxr : x < (rowOf rows' v).length := by rw [e2]; exact hx
      rw [List.getElem?_eq_getElem hxr]
      simp only [Option.map_some, Option.some.injEq]
      cases ho : (rowOf rows' v)[x] with
      | none =>
        cases hst : stepE es2 (r v) x with
        | none => rfl
        | some u =>
          exfalso
          have hd := stepE_dir hst
          obtain ⟨q, hq, rfl⟩ := h.reach (hd.mono hsub)
          obtain ⟨row, h1, h2⟩ := (h.cut hs hs0 hm hp).2 ⟨hv, hq, hd⟩
          rw [e1] at h1
          cases h1
          rw [List.getElem?_eq_getElem hxr, ho] at h2
          cases h2
      | some t =>
        have ht : To rows' v x t := ⟨_, e1, by rw [List.getElem?_eq_getElem hxr, ho]⟩
        exact (stepE_iff hdet).2 ((h.cut hs hs0 hm hp).1 ht).2.2
    · rw [List.getElem?_eq_none (by rw [rowE_len]; omega), List.getElem?_eq_none (by rw [e2]; omega)]; rfl
  · obtain ⟨e1, e2, e3⟩ := row_live hm.wf (hlive v hv)
    obtain ⟨x, hx⟩ := List.getElem?_of_mem ht
    exact ((h.cut hs hs0 hm hp).1 ⟨_, e1, hx⟩).2.1
end
end Go.Proofs.YtffdjfkekdoeaaaDoor.Pl
end
section
set_option linter.unusedVariables false
set_option linter.unusedSimpArgs false
set_option maxRecDepth 8000
set_option maxHeartbeats 4000000
namespace Go.Proofs.YtffdjfkekdoeaaaDoor.Fo
open Fw Wd Rf Pl
def autR (res : FoldR) : Aut × Int := match res with
  | .ok m nexts => (autOf m nexts, 0)
  | .err c => (⟨0, 0, [], []⟩, c)
theorem bfsRow_length : ∀ (row : Row) (q : List Nat), (bfsRow row q).2.length = row.length
  | [], q => rfl
  | none :: l, q => by simp only [bfsRow, List.length_cons, bfsRow_length l q]
  | some t :: l, q => by
    simp only [bfsRow]
    split
    · simp only [List.length_cons, bfsRow_length l q]
    · simp only [List.length_cons, bfsRow_length l (q ++ [t])]
theorem numG_rows {ρ : Nat → Row} {m : Nat} (hρ : ∀ v, (ρ v).length ≤ m) : ∀ (K i : Nat) (q : List Nat) (out res : List Row), (∀ r ∈ out, r.length ≤ m) → numG ρ K i q out = some res → ∀ r ∈ res, r.length ≤ m
  | 0, _, _, _, _, _, h => by simp [numG] at h
  | K + 1, i, q, out, res, ho, h => by
    simp only [numG] at h
    split at h
    · cases h; exact ho
    · rename_i v hv
      refine numG_rows hρ K _ _ _ res (fun r hr => ?_) h
      rcases List.mem_append.1 hr with hr | hr
      · exact ho r hr
      · simp only [List.mem_singleton] at hr
        subst hr
        rw [bfsRow_length]; exact hρ v
theorem folded_len {k : Int} {gens : List ByteArray} {res : FoldR} (h : FoldIs k gens res) : ∀ m nexts, res = .ok m nexts → nexts.length ≤ 2000 ∧ ∀ r ∈ nexts, r.length ≤ 16 := by
  intro m nexts he
  cases h with
  | arg _ => cases he
  | limit _ _ => cases he
  | form _ _ _ => cases he
  | fit hf hh =>
    obtain ⟨st, rows', o, i1, i2, i3, i4, ho⟩ := hh.ok
    rw [he] at ho
    cases hoo : o with
    | none => rw [hoo] at ho; cases ho
    | some nx =>
      rw [hoo] at ho
      cases ho
      obtain ⟨⟨K, h1⟩, h2⟩ := i4.yes _ hoo
      have := hf.k8
      refine ⟨h2, fun r hr => ?_⟩
      have := numG_rows (m := 2 * k.toNat) (fun v => ?_) K 0 _ [] _ (by simp) h1 r hr
      · omega
      · unfold rowOf
        split
        · rename_i row hrow
          exact Nat.le_of_eq (i4.wf.len _ _ hrow)
        · simp
theorem autIn_zero (w : World) : AutIn w ((0 : Int), (0 : Int), (⟨none, 0, 0⟩ : Sl), (⟨none, 0, 0⟩ : Sl), ()) ⟨0, 0, [], []⟩ :=
  ⟨rfl, rfl, ⟨RdT.nil _ _ _ _, fun _ _ => Nat.zero_le _, fun _ _ => Nat.zero_le _, [], RdT.nil _ _ _ _, rfl, fun i s r hi => by simp at hi, fun _ _ _ _ => Nat.zero_le _⟩, Nat.zero_le _, Nat.zero_le _, fun r hr => by simp at hr⟩
theorem autIn_of {w : World} {sa sn : Sl} {m : Nat} {nexts : List Row} {B : Nat} (h : AutR B w sa sn (accF nexts.length) (nexts.map (·.map ofO))) (h1 : nexts.length ≤ 2000) (h2 : ∀ r ∈ nexts, r.length ≤ 16) : AutIn w ((m : Int), (0 : Int), sa, sn, ()) (autOf m nexts) :=
  ⟨rfl, rfl, h.mono (Nat.zero_le _), by
    show (accF nexts.length).length ≤ maxLen
    rw [accF, List.length_map, List.length_range]; have : maxLen = 9223372036854775807 := rfl; omega, by
    show (nexts.map (·.map ofO)).length ≤ maxLen
    rw [List.length_map]; have : maxLen = 9223372036854775807 := rfl; omega, fun r hr => by
    obtain ⟨r', hr', rfl⟩ := List.mem_map.1 hr
    rw [List.length_map]; have := h2 r' hr'; have : maxLen = 9223372036854775807 := rfl; omega⟩
theorem Fold_any {w : World} (hl : Laid w) {sl : Sl} {gens : List ByteArray} (hg : StrsIn w sl gens) {k : Int} {res : FoldR} (hi : FoldIs k gens res) (hf : ∃ K, FoldF K k gens = some res) :
    RetN Tryd.prog 12 #[.int .i64 k, sl.v] [tA, tI] w fun y w' => Chg Nil w w' ∧ AutIn w' y.1 (autR res).1 ∧ y.2.1 = (autR res).2 := by
  obtain ⟨K, hf⟩ := hf
  refine Calls.mono (Fold_ret hl hg.rd hg.sum hg.len hf) fun e w' he => ?_
  obtain ⟨hc, he⟩ := he
  cases res with
  | ok m nexts =>
    obtain ⟨sa, sn, rfl, hA⟩ := he
    obtain ⟨h1, h2⟩ := folded_len hi m nexts rfl
    exact ⟨(((m : Int), 0, sa, sn, ()), 0, ()), rfl, hc, autIn_of hA h1 h2, rfl⟩
  | err c =>
    subst he
    exact ⟨((0, 0, ⟨none, 0, 0⟩, ⟨none, 0, 0⟩, ()), c, ()), rfl, hc, autIn_zero w', rfl⟩
end Go.Proofs.YtffdjfkekdoeaaaDoor.Fo
end
section
set_option linter.unusedVariables false
set_option linter.unusedSimpArgs false
set_option maxRecDepth 4000
set_option maxHeartbeats 2000000
namespace Go.Proofs.YtffdjfkekdoeaaaDoor.Pl
open Fo Rf Wd
def rdS (out : List Nat) (x : Nat) : List Nat := if out.getLast? = some (x ^^^ 1) then out.dropLast else out ++ [x]
def act (X l : List Nat) : List Nat := l.foldl rdS X
def rd (l : List Nat) : List Nat := act [] l
def inv (l : List Nat) : List Nat := (l.map (· ^^^ 1)).reverse
theorem act_app (X a b : List Nat) : act X (a ++ b) = act (act X a) b := List.foldl_append ..
theorem Rd.unsnoc : ∀ {l : List Nat} {x : Nat}, Rd (l ++ [x]) → Rd l ∧ l.getLast? ≠ some (x ^^^ 1)
  | [], x, _ => ⟨trivial, by simp⟩
  | [a], x, h => ⟨trivial, fun he => by
    have h : x ≠ a ^^^ 1 ∧ True := h
    simp only [List.getLast?_singleton, Option.some.injEq] at he
    exact h.1 (by rw [he, xor_two])⟩
  | a :: b :: l, x, h => by
    have h : b ≠ a ^^^ 1 ∧ Rd (b :: l ++ [x]) := h
    obtain ⟨h1, h2⟩ := Rd.unsnoc h.2
    exact ⟨⟨h.1, h1⟩, by rw [List.getLast?_cons_cons]; exact h2⟩
theorem Rd.snoc {l : List Nat} {x : Nat} (h : Rd l) (hx : l.getLast? ≠ some (x ^^^ 1)) : Rd (l ++ [x]) :=
  Rd_snoc l x h fun y hy he => hx (by rw [hy, he, xor_two])
theorem rdS_rd {X : List Nat} (h : Rd X) (x : Nat) : Rd (rdS X x) := by
  unfold rdS
  split
  · rcases List.eq_nil_or_concat X with rfl | ⟨q, d, rfl⟩
    · exact h
    · rw [List.concat_eq_append] at h ⊢
      rw [List.dropLast_concat]
      exact (Rd.unsnoc h).1
  · rename_i hx
    exact h.snoc hx
theorem act_rd {X : List Nat} (h : Rd X) : ∀ l : List Nat, Rd (act X l) := by
  intro l
  induction l generalizing X with
  | nil => exact h
  | cons x l ih => exact ih (rdS_rd h x)
theorem rd_rd (l : List Nat) : Rd (rd l) := act_rd (X := []) trivial l
theorem rdS_two {X : List Nat} (h : Rd X) (x : Nat) : rdS (rdS X x) (x ^^^ 1) = X := by
  unfold rdS
  by_cases hx : X.getLast? = some (x ^^^ 1)
  · rw [if_pos hx]
    rcases List.eq_nil_or_concat X with rfl | ⟨q, d, rfl⟩
    · simp at hx
    · rw [List.concat_eq_append] at h hx ⊢
      rw [List.dropLast_concat]
      simp only [List.getLast?_append, List.getLast?_singleton, Option.some_or, Option.some.injEq] at hx
      subst hx
      have := (Rd.unsnoc h).2
      rw [if_neg this]
  · rw [if_neg hx, if_pos (by rw [List.getLast?_append, xor_two]; rfl), List.dropLast_concat]
theorem rd_self : ∀ (n : Nat) (l : List Nat), l.length = n → Rd l → rd l = l := by
  intro n
  induction n with
  | zero => intro l hl _; rw [List.length_eq_zero_iff.1 hl]; rfl
  | succ n ih =>
    intro l hl h
    rcases List.eq_nil_or_concat l with rfl | ⟨q, c, rfl⟩
    · rfl
    · rw [List.concat_eq_append] at *
      obtain ⟨h1, h2⟩ := Rd.unsnoc h
      show act [] (q ++ [c]) = _
      rw [act_app]
      have : act [] q = q := ih q (by simpa using hl) h1
      rw [this]
      show rdS q c = _
      unfold rdS
      rw [if_neg h2]
theorem Rd.self {l : List Nat} (h : Rd l) : rd l = l := rd_self _ l rfl h
def Same (a b : List Nat) : Prop := ∀ X, Rd X → act X a = act X b
theorem Same.refl (a : List Nat) : Same a a := fun _ _ => rfl
theorem Same.symm {a b : List Nat} (h : Same a b) : Same b a := fun X hX => (h X hX).symm
theorem Same.trans {a b c : List Nat} (h : Same a b) (k : Same b c) : Same a c := fun X hX => (h X hX).trans (k X hX)
theorem Same.app {a b c d : List Nat} (h : Same a b) (k : Same c d) : Same (a ++ c) (b ++ d) := fun X hX => by
  rw [act_app, act_app, h X hX, k _ (act_rd hX b)]
theorem same_pair (x : Nat) : Same [x, x ^^^ 1] [] := fun X hX => rdS_two hX x
theorem same_pair' (x : Nat) : Same [x ^^^ 1, x] [] := by
  have := same_pair (x ^^^ 1)
  rwa [xor_two] at this
theorem same_rdS (X : List Nat) (x : Nat) : Same (rdS X x) (X ++ [x]) := by
  unfold rdS
  split
  · rename_i hx
    rcases List.eq_nil_or_concat X with rfl | ⟨q, d, rfl⟩
    · simp at hx
    · rw [List.concat_eq_append] at hx ⊢
      rw [List.dropLast_concat]
      simp only [List.getLast?_append, List.getLast?_singleton, Option.some_or, Option.some.injEq] at hx
      subst hx
      rw [List.append_assoc]
      have := (Same.refl q).app (same_pair' x)
      rw [List.append_nil] at this
      exact this.symm
  · exact Same.refl _
theorem same_act : ∀ (l X : List Nat), Same (act X l) (X ++ l)
  | [], X => by rw [List.append_nil]; exact Same.refl _
  | x :: l, X => by
    have h1 := same_act l (rdS X x)
    have h2 := (same_rdS X x).app (Same.refl l)
    rw [List.append_assoc] at h2
    exact h1.trans h2
theorem same_rd (l : List Nat) : Same (rd l) l := same_act l []
theorem Same.rd_eq {a b : List Nat} (h : Same a b) : rd a = rd b := h [] trivial
theorem inv_app (a b : List Nat) : inv (a ++ b) = inv b ++ inv a := by simp [inv]
theorem inv_cons (x : Nat) (a : List Nat) : inv (x :: a) = inv a ++ [x ^^^ 1] := by simp [inv]
theorem inv_inv (a : List Nat) : inv (inv a) = a := by
  unfold inv
  rw [List.map_reverse, List.reverse_reverse, List.map_map]
  conv => rhs; rw [← List.map_id a]
  exact List.map_congr_left fun x _ => xor_two x
theorem same_inv : ∀ a : List Nat, Same (a ++ inv a) []
  | [] => Same.refl _
  | x :: a => by
    rw [inv_cons]
    have h1 : x :: a ++ (inv a ++ [x ^^^ 1]) = [x] ++ (a ++ inv a) ++ [x ^^^ 1] := by simp
    rw [h1]
    have h2 := ((Same.refl [x]).app (same_inv a)).app (Same.refl [x ^^^ 1])
    exact h2.trans (same_pair x)
theorem same_inv' (a : List Nat) : Same (inv a ++ a) [] := by
  have := same_inv (inv a)
  rwa [inv_inv] at this
theorem Same.inv {a b : List Nat} (h : Same a b) : Same (Pl.inv a) (Pl.inv b) := by
  have h1 : Same (Pl.inv a ++ (b ++ Pl.inv b)) (Pl.inv a ++ []) := (Same.refl _).app (same_inv b)
  have h2 : Same (Pl.inv a ++ a ++ Pl.inv b) (Pl.inv a ++ b ++ Pl.inv b) := ((Same.refl _).app h).app (Same.refl _)
  have h3 : Same (Pl.inv a ++ a ++ Pl.inv b) ([] ++ Pl.inv b) := (same_inv' a).app (Same.refl _)
  rw [List.append_nil, ← List.append_assoc] at h1
  rw [List.nil_append] at h3
  exact (h1.symm.trans h2.symm).trans h3
inductive Mem (gs : List (List Nat)) : List Nat → Prop
  | one : Mem gs []
  | gen {g : List Nat} : g ∈ gs → Mem gs g
  | mul {a b : List Nat} : Mem gs a → Mem gs b → Mem gs (a ++ b)
  | neg {a : List Nat} : Mem gs a → Mem gs (inv a)
  | same {a b : List Nat} : Mem gs a → Same a b → Mem gs b
theorem Mem.sub {gs gs' : List (List Nat)} (h : ∀ g ∈ gs, Mem gs' g) {a : List Nat} (k : Mem gs a) : Mem gs' a := by
  induction k with
  | one => exact .one
  | gen hg => exact h _ hg
  | mul _ _ h1 h2 => exact .mul h1 h2
  | neg _ h1 => exact .neg h1
  | same _ hs h1 => exact .same h1 hs
inductive Run (δ : Nat → Nat → Nat → Prop) : Nat → List Nat → Nat → Prop
  | nil (s : Nat) : Run δ s [] s
  | cons {s x u t : Nat} {l : List Nat} : δ s x u → Run δ u l t → Run δ s (x :: l) t
structure Aut' (δ : Nat → Nat → Nat → Prop) : Prop where
  det : ∀ s x t t', δ s x t → δ s x t' → t = t'
  inv : ∀ s x t, δ s x t → δ t (x ^^^ 1) s
section
variable {δ : Nat → Nat → Nat → Prop}
theorem Run.app {s u t : Nat} {a b : List Nat} (h : Run δ s a u) (k : Run δ u b t) : Run δ s (a ++ b) t := by
  induction h with
  | nil _ => exact k
  | cons h _ ih => exact .cons h (ih k)
theorem Run.split : ∀ {a : List Nat} {s t : Nat} {b : List Nat}, Run δ s (a ++ b) t → ∃ u, Run δ s a u ∧ Run δ u b t
  | [], s, t, b, h => ⟨s, .nil s, h⟩
  | x :: a, s, t, b, h => by
    cases h with
    | cons h1 h2 =>
      obtain ⟨u, h3, h4⟩ := Run.split h2
      exact ⟨u, .cons h1 h3, h4⟩
theorem Run.one {s x t : Nat} (h : δ s x t) : Run δ s [x] t := .cons h (.nil t)
theorem Run.of_one {s x t : Nat} (h : Run δ s [x] t) : δ s x t := by
  cases h with
  | cons h1 h2 => cases h2; exact h1
theorem Run.det (hA : Aut' δ) {s t t' : Nat} {a : List Nat} (h : Run δ s a t) (k : Run δ s a t') : t = t' := by
  induction h with
  | nil _ => cases k; rfl
  | cons h1 _ ih =>
    cases k with
    | cons k1 k2 =>
      have := hA.det _ _ _ _ h1 k1
      subst this
      exact ih k2
theorem Run.back (hA : Aut' δ) {s t : Nat} {a : List Nat} (h : Run δ s a t) : Run δ t (inv a) s := by
  induction h with
  | nil s => exact .nil s
  | cons h1 _ ih =>
    rw [inv_cons]
    exact ih.app (.one (hA.inv _ _ _ h1))
theorem Run.rdS (hA : Aut' δ) {s u t x : Nat} {X : List Nat} (h : Run δ s X u) (k : δ u x t) : Run δ s (rdS X x) t := by
  unfold Pl.rdS
  split
  · rename_i hx
    rcases List.eq_nil_or_concat X with rfl | ⟨q, d, rfl⟩
    · simp at hx
    · rw [List.concat_eq_append] at hx h ⊢
      rw [List.dropLast_concat]
      simp only [List.getLast?_append, List.getLast?_singleton, Option.some_or, Option.some.injEq] at hx
      subst hx
      obtain ⟨v, h1, h2⟩ := h.split
      have h3 := hA.inv _ _ _ h2.of_one
      rw [xor_two] at h3
      have := hA.det _ _ _ _ h3 k
      subst this
      exact h1
  · exact h.app (.one k)
theorem Run.act (hA : Aut' δ) : ∀ (l : List Nat) {s u t : Nat} {X : List Nat}, Run δ s X u → Run δ u l t → Run δ s (act X l) t
  | [], s, u, t, X, h, k => by cases k; exact h
  | x :: l, s, u, t, X, h, k => by
    cases k with
    | cons k1 k2 => exact Run.act hA l (h.rdS hA k1) k2
theorem Run.rd (hA : Aut' δ) {s t : Nat} {l : List Nat} (h : Run δ s l t) : Run δ s (rd l) t := Run.act hA l (.nil s) h
end
end Go.Proofs.YtffdjfkekdoeaaaDoor.Pl
end
section
set_option linter.unusedVariables false
set_option linter.unusedSimpArgs false
set_option maxRecDepth 4000
set_option maxHeartbeats 2000000
namespace Go.Proofs.YtffdjfkekdoeaaaDoor.Pl
open Fo Rf Wd
def Pot (gs : List (List Nat)) (g : Nat → List Nat) (E : List Edg) : Prop := ∀ s x t, (s, x, t) ∈ E → Mem gs (g s ++ [x] ++ inv (g t))
theorem mem_back {gs : List (List Nat)} {a b : List Nat} {x : Nat} (h : Mem gs (a ++ [x] ++ inv b)) : Mem gs (b ++ [x ^^^ 1] ++ inv a) := by
  have := h.neg
  rw [inv_app, inv_app, inv_inv] at this
  have e : b ++ (inv [x] ++ inv a) = b ++ [x ^^^ 1] ++ inv a := by rw [List.append_assoc]; rfl
  rwa [e] at this
theorem pot_path {gs : List (List Nat)} : ∀ (w : List Nat) (n s : Nat) (g0 : Nat → List Nat), s < n → 0 < n → g0 0 = [] → Mem gs (g0 s ++ w) → ∃ g, (∀ v, v < n → g v = g0 v) ∧ (∀ v, n + (w.length - 1) ≤ v → g v = g0 v) ∧ Pot gs g (pathE n s w 0)
  | [], n, s, g0, _, _, _, _ => ⟨g0, fun _ _ => rfl, fun _ _ => rfl, fun a y b h => by simp [pathE] at h⟩
  | [x], n, s, g0, hs, h0, hg, hm => by
    have h1 : Mem gs (g0 s ++ [x] ++ inv (g0 0)) := by
      rw [hg]
      have : inv ([] : List Nat) = [] := rfl
      rw [this, List.append_nil]; exact hm
    refine ⟨g0, fun _ _ => rfl, fun _ _ => rfl, fun a y b h => ?_⟩
    simp only [pathE, List.mem_cons, List.not_mem_nil, or_false, Prod.mk.injEq] at h
    rcases h with ⟨rfl, rfl, rfl⟩ | ⟨rfl, rfl, rfl⟩
    · exact h1
    · exact mem_back h1
  | x :: y :: l, n, s, g0, hs, h0, hg, hm => by
    obtain ⟨g, a1, a2, a3⟩ := pot_path (gs := gs) (y :: l) (n + 1) n (fun v => if v = n then g0 s ++ [x] else g0 v) (by omega) (by omega) (by rw [if_neg (by omega)]; exact hg) (by
      rw [if_pos rfl, List.append_assoc]; exact hm)
    have gn : g n = g0 s ++ [x] := by rw [a1 n (by omega), if_pos rfl]
    have gs' : g s = g0 s := by rw [a1 s (by omega), if_neg (by omega)]
    have h1 : Mem gs (g s ++ [x] ++ inv (g n)) := by
      rw [gn, gs']
      exact .same .one (same_inv _).symm
    refine ⟨g, fun v hv => by rw [a1 v (by omega), if_neg (by omega)], fun v hv => ?_, fun a z b h => ?_⟩
    · simp only [List.length_cons] at hv a2
      rw [a2 v (by omega), if_neg (by omega)]
    · have hp : pathE n s (x :: y :: l) 0 = (s, x, n) :: (n, x ^^^ 1, s) :: pathE (n + 1) n (y :: l) 0 := rfl
      rw [hp] at h
      simp only [List.mem_cons, Prod.mk.injEq] at h
      rcases h with ⟨rfl, rfl, rfl⟩ | ⟨rfl, rfl, rfl⟩ | h
      · exact h1
      · exact mem_back h1
      · exact a3 _ _ _ h
theorem pathE_lt : ∀ (w : List Nat) (n s : Nat), s < n → 0 < n → ∀ a y b, (a, y, b) ∈ pathE n s w 0 → a < n + (w.length - 1) ∧ b < n + (w.length - 1)
  | [], n, s, _, _, a, y, b, h => by simp [pathE] at h
  | [x], n, s, hs, h0, a, y, b, h => by
    simp only [pathE, List.mem_cons, List.not_mem_nil, or_false, Prod.mk.injEq] at h
    simp only [List.length_singleton]
    omega
  | x :: z :: l, n, s, hs, h0, a, y, b, h => by
    have hp : pathE n s (x :: z :: l) 0 = (s, x, n) :: (n, x ^^^ 1, s) :: pathE (n + 1) n (z :: l) 0 := rfl
    rw [hp] at h
    simp only [List.mem_cons, Prod.mk.injEq] at h
    simp only [List.length_cons]
    rcases h with ⟨rfl, rfl, rfl⟩ | ⟨rfl, rfl, rfl⟩ | h
    · omega
    · omega
    · have := pathE_lt (z :: l) (n + 1) n (by omega) (by omega) a y b h
      simp only [List.length_cons] at this
      omega
theorem pot_all {gs : List (List Nat)} : ∀ (ws : List (List Nat)) (n : Nat) (g0 : Nat → List Nat), 0 < n → g0 0 = [] → (∀ w ∈ ws, Mem gs w) → ∃ g, (∀ v, v < n → g v = g0 v) ∧ Pot gs g (allE n ws)
  | [], n, g0, _, _, _ => ⟨g0, fun _ _ => rfl, fun a y b h => by simp [allE] at h⟩
  | w :: l, n, g0, hn, hg, hw => by
    obtain ⟨g1, a1, a2, a3⟩ := pot_path (gs := gs) w n 0 g0 hn hn hg (by rw [hg]; exact hw w (by simp))
    obtain ⟨g, b1, b2⟩ := pot_all (gs := gs) l (n + (w.length - 1)) g1 (by omega) (by rw [a1 0 hn]; exact hg) fun v hv => hw v (by simp [hv])
    refine ⟨g, fun v hv => by rw [b1 v (by omega), a1 v hv], fun a y b h => ?_⟩
    simp only [allE, List.mem_append] at h
    rcases h with h | h
    · obtain ⟨h1, h2⟩ := pathE_lt w n 0 hn hn a y b h
      rw [b1 a h1, b1 b h2]
      exact a3 _ _ _ h
    · exact b2 _ _ _ h
theorem mem_mid {gs : List (List Nat)} {a b c : List Nat} (h : Mem gs (a ++ inv b)) (k : Mem gs (b ++ c)) : Mem gs (a ++ c) := by
  refine .same (h.mul k) ?_
  have h1 : a ++ inv b ++ (b ++ c) = a ++ (inv b ++ b) ++ c := by simp
  rw [h1]
  have := ((Same.refl a).app (same_inv' b)).app (Same.refl c)
  rw [List.append_nil] at this
  exact this
theorem mem_flip {gs : List (List Nat)} {a b : List Nat} (h : Mem gs (a ++ inv b)) : Mem gs (b ++ inv a) := by
  have := h.neg
  rwa [inv_app, inv_inv] at this
theorem pot_cg {gs : List (List Nat)} {g : Nat → List Nat} {E : List Edg} (h : Pot gs g E) {u v : Nat} (hc : Cg E u v) : Mem gs (g u ++ inv (g v)) := by
  induction hc with
  | refl u => exact .same .one (same_inv _).symm
  | symm _ ih => exact mem_flip ih
  | trans _ _ ih1 ih2 => exact mem_mid ih1 ih2
  | @fold s s' x t t' h1 h2 h0 ih =>
    have k1 := mem_back (h _ _ _ h1)
    have k2 := h _ _ _ h2
    -- g t (x^1) inv(g s) · g s inv(g s') · g s' x inv(g t')
    have k3 : Mem gs (g t ++ [x ^^^ 1] ++ inv (g s')) := mem_mid k1 ih
    have k4 : Mem gs (g t ++ [x ^^^ 1] ++ ([x] ++ inv (g t'))) := mem_mid k3 (by rw [← List.append_assoc]; exact k2)
    refine .same k4 ?_
    have e : g t ++ [x ^^^ 1] ++ ([x] ++ inv (g t')) = g t ++ [x ^^^ 1, x] ++ inv (g t') := by simp
    rw [e]
    have := ((Same.refl (g t)).app (same_pair' x)).app (Same.refl (inv (g t')))
    rw [List.append_nil] at this
    exact this
section
variable {E : List Edg} {st : St}
noncomputable abbrev RowsOf (st : St) : List (Option Row) := rowsS st.par 0 st.next
theorem rows_aut (h : Inv E st) (hb : Both E) : Aut' (To (RowsOf st)) := ⟨fun _ _ _ _ a b => a.unique b, (wf_rows h hb).inv⟩
theorem pot_to {gs : List (List Nat)} {g : Nat → List Nat} (h : Inv E st) (hg : Pot gs g E) {s x t : Nat} (ht : To (RowsOf st) s x t) : Mem gs (g s ++ [x] ++ inv (g t)) := by
  obtain ⟨u, h1, h2, h3⟩ := (to_rows h).1 ht
  obtain ⟨s', e1, e2⟩ := h.snd.ent s x u h2
  have k1 := pot_cg hg e2
  have k2 := hg _ _ _ e1
  have k3 := pot_cg hg (h.snd.par u t ⟨t, h3, h3.self⟩)
  rw [List.append_assoc] at k2
  have k4 := mem_mid k1 k2
  rw [← List.append_assoc] at k4
  exact mem_mid k4 k3
theorem pot_run {gs : List (List Nat)} {g : Nat → List Nat} (h : Inv E st) (hg : Pot gs g E) {s t : Nat} {l : List Nat} (hr : Run (To (RowsOf st)) s l t) : Mem gs (g s ++ l ++ inv (g t)) := by
  induction hr with
  | nil s => rw [List.append_nil]; exact .same .one (same_inv _).symm
  | @cons s x u t l h1 _ ih =>
    have k1 := pot_to h hg h1
    rw [List.append_assoc] at ih
    have := mem_mid k1 ih
    have e : g s ++ [x] ++ (l ++ inv (g t)) = g s ++ x :: l ++ inv (g t) := by simp
    rwa [e] at this
theorem edge_to (h : Inv E st) {s x t : Nat} (he : (s, x, t) ∈ E) : To (RowsOf st) (rt st.par s) x (rt st.par t) := by
  obtain ⟨p, t1, a1, a2, a3⟩ := h.cm s x t he
  rw [h.todo] at a3
  obtain ⟨q, b1, b2⟩ := Eqv.nil (fun _ _ _ => Sm.trans) a3
  rw [rt_spec a1, rt_spec b2]
  exact (to_rows h).2 ⟨t1, a1.self, a2, b1⟩
theorem run_rows (h : Inv E st) {s t : Nat} {l : List Nat} (hr : Run (fun s x t => (s, x, t) ∈ E) s l t) : Run (To (RowsOf st)) (rt st.par s) l (rt st.par t) := by
  induction hr with
  | nil s => exact .nil _
  | cons h1 _ ih => exact .cons (edge_to h h1) ih
end
theorem path_run {E : List Edg} : ∀ (w : List Nat) (n s : Nat), (∀ e ∈ pathE n s w 0, e ∈ E) → (w ≠ [] ∨ s = 0) → Run (fun s x t => (s, x, t) ∈ E) s w 0
  | [], n, s, _, h => by
    rcases h with h | rfl
    · exact absurd rfl h
    · exact .nil 0
  | [x], n, s, hE, _ => .one (hE _ (by simp [pathE]))
  | x :: y :: l, n, s, hE, _ => by
    have hp : pathE n s (x :: y :: l) 0 = (s, x, n) :: (n, x ^^^ 1, s) :: pathE (n + 1) n (y :: l) 0 := rfl
    rw [hp] at hE
    exact .cons (hE _ (by simp)) (path_run (y :: l) (n + 1) n (fun e he => hE e (by simp [he])) (.inl (by simp)))
theorem all_run : ∀ (ws : List (List Nat)) (n : Nat) (E : List Edg), (∀ e ∈ allE n ws, e ∈ E) → ∀ w ∈ ws, Run (fun s x t => (s, x, t) ∈ E) 0 w 0
  | [], n, E, _, w, hw => by simp at hw
  | v :: l, n, E, hE, w, hw => by
    simp only [allE] at hE
    rcases List.mem_cons.1 hw with rfl | hw
    · exact path_run w n 0 (fun e he => hE e (List.mem_append.2 (.inl he))) (.inr rfl)
    · exact all_run l _ E (fun e he => hE e (List.mem_append.2 (.inr he))) w hw
theorem lang {ws : List (List Nat)} {st : St} (h : Inv (allE 1 ws) st) {l : List Nat} (hl : Rd l) : Run (To (RowsOf st)) (rt st.par 0) l (rt st.par 0) ↔ Mem ws l := by
  have hA := rows_aut h (allE_both ws 1)
  constructor
  · intro hr
    obtain ⟨g, h1, h2⟩ := pot_all (gs := ws) ws 1 (fun _ => []) (by omega) rfl fun w hw => .gen hw
    have k := pot_run h h2 hr
    obtain ⟨d, hf⟩ := h.ok.forest
    have g0 : g 0 = [] := h1 0 (by omega)
    have k0 : Mem ws (g 0 ++ inv (g (rt st.par 0))) := by
      by_cases hp : 0 < st.par.length
      · obtain ⟨p, hp⟩ := hf.root _ 0 (Nat.le_refl _) hp
        rw [rt_spec hp]
        exact pot_cg h2 (h.snd.par _ _ ⟨p, hp, hp.self⟩)
      · have : rt st.par 0 = 0 := by
          unfold rt
          rw [dif_neg]
          rintro ⟨r, hr⟩
          exact hp hr.lt_left
        rw [this]
        exact .same .one (same_inv _).symm
    rw [List.append_assoc] at k
    have k1 := mem_mid k0 k
    rw [← List.append_assoc, g0, List.nil_append] at k1
    have k2 := mem_mid k1 (b := g (rt st.par 0)) (c := []) (by
      rw [List.append_nil]
      have := mem_flip k0
      rw [g0] at this
      have e : inv ([] : List Nat) = [] := rfl
      rwa [e, List.append_nil] at this)
    rwa [List.append_nil] at k2
  · intro hm
    have key : ∀ {a : List Nat}, Mem ws a → Run (To (RowsOf st)) (rt st.par 0) (rd a) (rt st.par 0) := by
      intro a ha
      induction ha with
      | one => exact .nil _
      | gen hg => exact (run_rows h (all_run ws 1 _ (fun _ he => he) _ hg)).rd hA
      | @mul a b _ _ h1 h2 =>
        have : rd (a ++ b) = rd (rd a ++ rd b) := (((same_rd a).app (same_rd b)).symm).rd_eq
        rw [this]
        exact (h1.app h2).rd hA
      | @neg a _ h1 =>
        have : rd (inv a) = rd (inv (rd a)) := ((same_rd a).inv.symm).rd_eq
        rw [this]
        exact (h1.back hA).rd hA
      | same _ hs h1 => rw [← hs.rd_eq]; exact h1
    rw [← hl.self]
    exact key hm
theorem lang_cut {ws : List (List Nat)} {st : St} (h : Inv (allE 1 ws) st) {m : Nat} {rows' : List (Option Row)} {o : Option (List Row)} (hm : MadeOf m (rt st.par 0) (RowsOf st) rows' o) {l : List Nat} (hl : Rd l) :
    Run (To rows') (rt st.par 0) l (rt st.par 0) ↔ Mem ws l := by
  rw [← lang h hl]
  generalize rt st.par 0 = r0 at hm
  have hA := rows_aut h (allE_both ws 1)
  have mono : ∀ {s t : Nat} {l : List Nat}, Run (To rows') s l t → Run (To (RowsOf st)) s l t := fun hr => by
    induction hr with
    | nil s => exact .nil s
    | cons h1 _ ih => exact .cons (hm.cut.sub _ _ _ h1) ih
  refine ⟨mono, fun hr => ?_⟩
  let Oc : Nat → Nat → Nat → Prop := fun s x t => ∃ a b, l = a ++ x :: b ∧ Run (To (RowsOf st)) r0 a s ∧ To (RowsOf st) s x t ∧ Run (To (RowsOf st)) t b r0
  have chain : ∀ {a b : List Nat} {y x : Nat}, l = a ++ y :: x :: b → x ≠ y ^^^ 1 := fun {a b y x} he => by
    have : ∀ (a l : List Nat), l = a ++ y :: x :: b → Rd l → x ≠ y ^^^ 1 := by
      intro a
      induction a with
      | nil => intro l he hl; subst he; exact hl.1
      | cons z a ih =>
        intro l he hl
        subst he
        cases a with
        | nil => exact ih _ rfl hl.2
        | cons z' a => exact ih _ rfl hl.2
    exact this a l he hl
  have hS : ∀ s x t, (Oc s x t ∨ Oc t (x ^^^ 1) s) → To rows' s x t := hm.cut.max (fun s x t => Oc s x t ∨ Oc t (x ^^^ 1) s) ⟨fun s x t hh => by rw [xor_two]; exact hh.symm, fun s x t hh hne => by
    rcases hh with ⟨a, b, e1, e2, e3, e4⟩ | ⟨a, b, e1, e2, e3, e4⟩
    · rcases List.eq_nil_or_concat a with rfl | ⟨a', y, rfl⟩
      · cases e2; exact absurd rfl hne
      · rw [List.concat_eq_append] at e1 e2
        obtain ⟨u, f1, f2⟩ := e2.split
        have e5 : l = a' ++ y :: x :: b := by rw [e1]; simp
        refine ⟨y ^^^ 1, u, fun he => chain e5 he.symm, .inr ?_⟩
        rw [xor_two]
        exact ⟨a', x :: b, e5, f1, f2.of_one, .cons e3 e4⟩
    · cases e4 with
      | nil => exact absurd rfl hne
      | @cons _ y u _ b' f1 f2 =>
        refine ⟨y, u, fun he => ?_, .inl ⟨a ++ [x ^^^ 1], b', by rw [e1]; simp, e2.app (.one e3), f1, f2⟩⟩
        have := chain e1
        rw [xor_two] at this
        exact this he⟩ fun s x t hh => by
    rcases hh with ⟨_, _, _, _, e3, _⟩ | ⟨_, _, _, _, e3, _⟩
    · exact e3
    · have := hA.inv _ _ _ e3
      rwa [xor_two] at this
  have walk : ∀ (b a : List Nat) (s : Nat), l = a ++ b → Run (To (RowsOf st)) r0 a s → Run (To (RowsOf st)) s b r0 → Run (To rows') s b r0 := by
    intro b
    induction b with
    | nil => intro a s _ _ h2; cases h2; exact .nil _
    | cons x b ih =>
      intro a s he h1 h2
      cases h2 with
      | @cons _ _ u _ _ f1 f2 =>
        exact .cons (hS _ _ _ (.inl ⟨a, b, he, h1, f1, f2⟩)) (ih (a ++ [x]) u (by rw [he]; simp) (h1.app (.one f1)) f2)
  exact walk l [] r0 rfl (.nil _) hr
end Go.Proofs.YtffdjfkekdoeaaaDoor.Pl
end
section
set_option linter.unusedVariables false
set_option linter.unusedSimpArgs false
set_option maxRecDepth 4000
set_option maxHeartbeats 2000000
namespace Go.Proofs.YtffdjfkekdoeaaaDoor.Pl
open Fo Rf Wd
theorem Rd_app : ∀ {a b : List Nat}, Rd a → Rd b → (∀ y z, a.getLast? = some y → b.head? = some z → z ≠ y ^^^ 1) → Rd (a ++ b)
  | [], b, _, hb, _ => hb
  | [x], [], _, _, _ => trivial
  | [x], z :: b, _, hb, h => ⟨h x z rfl rfl, hb⟩
  | x :: y :: a, b, ha, hb, h => ⟨ha.1, Rd_app (a := y :: a) ha.2 hb fun u z hu hz => h u z (by rw [List.getLast?_cons_cons]; exact hu) hz⟩
theorem Rd_pre : ∀ {a b : List Nat}, Rd (a ++ b) → Rd a
  | [], _, _ => trivial
  | [_], _, _ => trivial
  | x :: y :: a, b, h => ⟨h.1, Rd_pre (a := y :: a) h.2⟩
theorem Rd_inv : ∀ {a : List Nat}, Rd a → Rd (inv a)
  | [], _ => trivial
  | [x], _ => trivial
  | x :: y :: a, h => by
    rw [inv_cons]
    refine (Rd_inv (a := y :: a) h.2).snoc ?_
    rw [inv_cons, List.getLast?_append]
    simp only [List.getLast?_singleton, Option.some_or, xor_two]
    intro he
    exact h.1 (by rw [← Option.some.inj he, xor_two])
structure Gr (δ : Nat → Nat → Nat → Prop) (r : Nat) (N : Nat) : Prop where
  aut : Aut' δ
  two : ∀ s x t, δ s x t → s ≠ r → ∃ x' t', x' ≠ x ∧ δ s x' t'
  lt : ∀ s x t, δ s x t → s < N ∧ t < N
  r : r < N
inductive Tr (δ : Nat → Nat → Nat → Prop) (r : Nat) : Nat → List (Nat × Nat) → Prop
  | nil : Tr δ r r []
  | step {v x u : Nat} {l : List (Nat × Nat)} : Tr δ r v l → δ v x u → Tr δ r u ((x, v) :: l)
def word (l : List (Nat × Nat)) : List Nat := (l.map (·.1)).reverse
def Simp (u : Nat) (l : List (Nat × Nat)) : Prop := (u :: l.map (·.2)).Nodup
theorem word_cons (x v : Nat) (l : List (Nat × Nat)) : word ((x, v) :: l) = word l ++ [x] := by simp [word]
theorem word_last (l : List (Nat × Nat)) : (word l).getLast? = l.head?.map (·.1) := by
  unfold word
  rw [List.getLast?_reverse, List.head?_map]
section
variable {δ : Nat → Nat → Nat → Prop} {r N : Nat}
theorem Tr.run {u : Nat} {l : List (Nat × Nat)} (h : Tr δ r u l) : Run δ r (word l) u := by
  induction h with
  | nil => exact .nil r
  | step _ h2 ih => rw [word_cons]; exact ih.app (.one h2)
theorem Tr.mem_r {u : Nat} {l : List (Nat × Nat)} (h : Tr δ r u l) : r ∈ u :: l.map (·.2) := by
  induction h with
  | nil => simp
  | step _ _ ih =>
    simp only [List.map_cons, List.mem_cons] at ih ⊢
    exact .inr ih
theorem Tr.cut {u t : Nat} {l : List (Nat × Nat)} (h : Tr δ r u l) (ht : t ∈ u :: l.map (·.2)) : ∃ l1 l2, l = l1 ++ l2 ∧ Tr δ r t l2 := by
  induction h with
  | nil =>
    simp only [List.map_nil, List.mem_singleton] at ht
    subst ht; exact ⟨[], [], rfl, .nil⟩
  | @step v x u l h1 h2 ih =>
    rcases List.mem_cons.1 ht with rfl | ht
    · exact ⟨[], _, rfl, .step h1 h2⟩
    · obtain ⟨l1, l2, rfl, h3⟩ := ih ht
      exact ⟨(x, v) :: l1, l2, rfl, h3⟩
theorem Tr.lt (hG : Gr δ r N) {u : Nat} {l : List (Nat × Nat)} (h : Tr δ r u l) : ∀ v ∈ u :: l.map (·.2), v < N := by
  induction h with
  | nil => intro v hv; simp only [List.map_nil, List.mem_singleton] at hv; subst hv; exact hG.r
  | step _ h2 ih =>
    intro v hv
    rcases List.mem_cons.1 hv with rfl | hv
    · exact (hG.lt _ _ _ h2).2
    · exact ih v hv
theorem Tr.rd (hG : Gr δ r N) {u : Nat} {l : List (Nat × Nat)} (h : Tr δ r u l) (hs : Simp u l) : Rd (word l) := by
  induction h with
  | nil => exact trivial
  | @step v x u l h1 h2 ih =>
    have hs' : Simp v l := (List.nodup_cons.1 hs).2
    rw [word_cons]
    refine (ih hs').snoc ?_
    rw [word_last]
    intro he
    cases h1 with
    | nil => simp at he
    | @step w y _ l1 k1 k2 =>
      simp only [List.head?_cons, Option.map_some, Option.some.injEq] at he
      subst he
      have k3 := hG.aut.inv _ _ _ k2
      rw [xor_two] at k3
      have := hG.aut.det _ _ _ _ h2 k3
      subst this
      have := (List.nodup_cons.1 hs).1
      simp at this
theorem inv_word (l : List (Nat × Nat)) : inv (word l) = l.map fun p => p.1 ^^^ 1 := by
  unfold inv word
  rw [List.map_reverse, List.reverse_reverse, List.map_map]; rfl
theorem cut_simp {u t : Nat} {l : List (Nat × Nat)} (h : Tr δ r u l) (hs : Simp u l) (ht : t ∈ u :: l.map (·.2)) : ∃ l1 l2, l = l1 ++ l2 ∧ Tr δ r t l2 ∧ Simp t l2 := by
  induction h with
  | nil =>
    simp only [List.map_nil, List.mem_singleton] at ht
    subst ht; exact ⟨[], [], rfl, .nil, hs⟩
  | @step v x u l h1 h2 ih =>
    rcases List.mem_cons.1 ht with rfl | ht
    · exact ⟨[], _, rfl, .step h1 h2, hs⟩
    · obtain ⟨l1, l2, rfl, h3, h4⟩ := ih (List.nodup_cons.1 hs).2 ht
      exact ⟨(x, v) :: l1, l2, rfl, h3, h4⟩
theorem close (hG : Gr δ r N) : ∀ (n u : Nat) (l : List (Nat × Nat)) (x t : Nat), N - l.length ≤ n → Tr δ r u l → Simp u l → δ u x t → (∀ y v, l.head? = some (y, v) → x ≠ y ^^^ 1) → ∃ q, Rd (word l ++ x :: q) ∧ Run δ t q r := by
  intro n
  induction n with
  | zero =>
    intro u l x t hn h hs
    have := nodup_len N _ hs (h.lt hG)
    simp at this
    omega
  | succ n ih =>
    intro u l x t hn h hs hx hno
    have hlen := nodup_len N _ hs (h.lt hG)
    simp only [List.length_cons, List.length_map] at hlen
    have hw : Rd (word l ++ [x]) := (h.rd hG hs).snoc (by
      rw [word_last]
      intro he
      cases hl : l.head? with
      | none => rw [hl] at he; cases he
      | some p =>
        obtain ⟨y, v⟩ := p
        rw [hl] at he
        simp only [Option.map_some, Option.some.injEq] at he
        exact hno y v hl (by rw [he, xor_two]))
    by_cases ht : t ∈ u :: l.map (·.2)
    · obtain ⟨l1, l2, hl, h2, hs2⟩ := cut_simp h hs ht
      refine ⟨inv (word l2), ?_, h2.run.back hG.aut⟩
      have e : word l ++ x :: inv (word l2) = (word l ++ [x]) ++ inv (word l2) := by simp
      rw [e]
      refine Rd_app hw (Rd_inv (h2.rd hG hs2)) fun y z hy hz => ?_
      rw [List.getLast?_append] at hy
      simp only [List.getLast?_singleton, Option.some_or, Option.some.injEq] at hy
      subst hy
      rw [inv_word] at hz
      cases h2 with
      | nil => simp at hz
      | @step v y _ l3 k1 k2 =>
        simp only [List.map_cons, List.head?_cons, Option.some.injEq] at hz
        subst hz
        intro he
        have hyx : y = x := by have := congrArg (· ^^^ 1) he; simpa [xor_two] using this
        subst hyx
        have := hG.aut.det _ _ _ _ (hG.aut.inv _ _ _ k2) (hG.aut.inv _ _ _ hx)
        subst this
        have := (List.nodup_cons.1 hs).1
        rw [hl] at this
        simp at this
    · have hs' : Simp t ((x, u) :: l) := List.nodup_cons.2 ⟨by simpa using ht, hs⟩
      have hr : t ≠ r := fun he => ht (he ▸ h.mem_r)
      obtain ⟨x', t', h1, h2⟩ := hG.two _ _ _ (hG.aut.inv _ _ _ hx) hr
      obtain ⟨q, a1, a2⟩ := ih t ((x, u) :: l) x' t' (by simp only [List.length_cons]; omega) (.step h hx) hs' h2 (fun y v hy => by
        simp only [List.head?_cons, Option.some.injEq, Prod.mk.injEq] at hy
        rw [← hy.1]; exact h1)
      rw [word_cons, List.append_assoc] at a1
      exact ⟨x' :: q, a1, .cons h2 a2⟩
theorem extend (hG : Gr δ r N) {u : Nat} {l : List (Nat × Nat)} (h : Tr δ r u l) (hs : Simp u l) : ∃ q, Rd (word l ++ q) ∧ Run δ u q r := by
  cases h with
  | nil => exact ⟨[], trivial, .nil r⟩
  | @step v y _ l k1 k2 =>
    have hr : u ≠ r := fun he => by
      have h1 := (List.nodup_cons.1 hs).1
      have h2 := k1.mem_r
      rw [he] at h1
      simp only [List.map_cons] at h1
      exact h1 h2
    obtain ⟨x', t', h1, h2⟩ := hG.two _ _ _ (hG.aut.inv _ _ _ k2) hr
    obtain ⟨q, a1, a2⟩ := close hG _ u ((y, v) :: l) x' t' (Nat.le_refl _) (.step k1 k2) hs h2 (fun y' v' hy => by
      simp only [List.head?_cons, Option.some.injEq, Prod.mk.injEq] at hy
      rw [← hy.1]; exact h1)
    exact ⟨x' :: q, a1, .cons h2 a2⟩
theorem reach_step {v x t : Nat} {l : List (Nat × Nat)} (h : Tr δ r v l) (hs : Simp v l) (hx : δ v x t) : ∃ l', Tr δ r t l' ∧ Simp t l' := by
  by_cases ht : t ∈ v :: l.map (·.2)
  · obtain ⟨_, l2, _, h2, h3⟩ := cut_simp h hs ht
    exact ⟨l2, h2, h3⟩
  · exact ⟨(x, v) :: l, .step h hx, List.nodup_cons.2 ⟨by simpa using ht, hs⟩⟩
theorem coset (hA : Aut' δ) : ∀ (n : Nat) (p q : List Nat) (v1 v2 : Nat), p.length = n → Rd p → Rd q → Run δ r p v1 → Run δ r q v2 → Run δ r (rd (p ++ inv q)) r → v1 = v2 := by
  intro n
  induction n with
  | zero =>
    intro p q v1 v2 hn hp hq h1 h2 h3
    rw [List.length_eq_zero_iff.1 hn] at h1 h3
    rw [List.nil_append, (Rd_inv hq).self] at h3
    have := h3.back hA
    rw [inv_inv] at this
    cases h1
    exact Run.det hA this h2
  | succ n ih =>
    intro p q v1 v2 hn hp hq h1 h2 h3
    rcases List.eq_nil_or_concat p with rfl | ⟨a, x, rfl⟩
    · simp at hn
    rw [List.concat_eq_append] at *
    rcases List.eq_nil_or_concat q with rfl | ⟨b, y, rfl⟩
    · have e : a ++ [x] ++ inv [] = a ++ [x] := by simp [inv]
      rw [e, hp.self] at h3
      cases h2
      exact Run.det hA h1 h3
    rw [List.concat_eq_append] at *
    by_cases hxy : x = y
    · subst hxy
      obtain ⟨u1, k1, k2⟩ := h1.split
      obtain ⟨u2, k3, k4⟩ := h2.split
      have e : rd (a ++ [x] ++ inv (b ++ [x])) = rd (a ++ inv b) := by
        apply Same.rd_eq
        rw [inv_app]
        have e1 : a ++ [x] ++ (inv [x] ++ inv b) = a ++ [x, x ^^^ 1] ++ inv b := by simp [inv]
        rw [e1]
        have := ((Same.refl a).app (same_pair x)).app (Same.refl (inv b))
        rw [List.append_nil] at this
        exact this
      rw [e] at h3
      have := ih a b u1 u2 (by simpa using hn) (Rd.unsnoc hp).1 (Rd.unsnoc hq).1 k1 k3 h3
      subst this
      exact Run.det hA k2 k4
    · have hr : Rd (a ++ [x] ++ inv (b ++ [y])) := by
        refine Rd_app hp (Rd_inv hq) fun u z hu hz => ?_
        rw [List.getLast?_append] at hu
        simp only [List.getLast?_singleton, Option.some_or, Option.some.injEq] at hu
        subst hu
        rw [inv_app] at hz
        have hz : y ^^^ 1 = z := by simpa [inv] using hz
        subst hz
        intro he
        exact hxy (by have := congrArg (· ^^^ 1) he; simpa [xor_two] using this.symm)
      rw [hr.self] at h3
      obtain ⟨u, k1, k2⟩ := h3.split
      have := Run.det hA h1 k1
      subst this
      have k3 := k2.back hA
      rw [inv_inv] at k3
      exact Run.det hA k3 h2
end
section
variable {δ ε : Nat → Nat → Nat → Prop} {a b N M : Nat}
structure Pair (δ ε : Nat → Nat → Nat → Prop) (a b N M : Nat) : Prop where
  l : Gr δ a N
  r : Gr ε b M
  same : ∀ p, Rd p → (Run δ a p a ↔ Run ε b p b)
theorem Pair.symm (h : Pair δ ε a b N M) : Pair ε δ b a M N := ⟨h.r, h.l, fun p hp => (h.same p hp).symm⟩
def Rch (δ : Nat → Nat → Nat → Prop) (a v : Nat) : Prop := ∃ l, Tr δ a v l ∧ Simp v l
open Classical in
noncomputable def to (δ ε : Nat → Nat → Nat → Prop) (a b v : Nat) : Nat := if h : ∃ v' p, Rd p ∧ Run δ a p v ∧ Run ε b p v' then Classical.choose h else 0
theorem Pair.spec (h : Pair δ ε a b N M) {v v' : Nat} {p : List Nat} (hp : Rd p) (h1 : Run δ a p v) (h2 : Run ε b p v') : to δ ε a b v = v' := by
  have hx : ∃ v' p, Rd p ∧ Run δ a p v ∧ Run ε b p v' := ⟨v', p, hp, h1, h2⟩
  unfold to
  rw [dif_pos hx]
  obtain ⟨q, k1, k2, k3⟩ := Classical.choose_spec hx
  refine coset h.r.aut _ q p _ _ rfl k1 hp k3 h2 ?_
  exact (h.same _ (rd_rd _)).1 ((k2.app (h1.back h.l.aut)).rd h.l.aut)
theorem Pair.tr (h : Pair δ ε a b N M) {v : Nat} {l : List (Nat × Nat)} (ht : Tr δ a v l) (hs : Simp v l) : Run ε b (word l) (to δ ε a b v) := by
  obtain ⟨q, h1, h2⟩ := extend h.l ht hs
  obtain ⟨u, k1, k2⟩ := ((h.same _ h1).1 (ht.run.app h2)).split
  rw [h.spec (ht.rd h.l hs) ht.run k1]
  exact k1
theorem Pair.inj (h : Pair δ ε a b N M) {u v : Nat} (hu : Rch δ a u) (hv : Rch δ a v) (he : to δ ε a b u = to δ ε a b v) : u = v := by
  obtain ⟨l, k1, k2⟩ := hu
  obtain ⟨l', k3, k4⟩ := hv
  have h1 := h.tr k1 k2
  have h2 := h.tr k3 k4
  rw [he] at h1
  refine coset h.l.aut _ _ _ _ _ rfl (k1.rd h.l k2) (k3.rd h.l k4) k1.run k3.run ?_
  exact (h.same _ (rd_rd _)).2 ((h1.app (h2.back h.r.aut)).rd h.r.aut)
theorem Pair.step (h : Pair δ ε a b N M) {v x t : Nat} (hv : Rch δ a v) (hx : δ v x t) : ε (to δ ε a b v) x (to δ ε a b t) := by
  obtain ⟨l, k1, k2⟩ := hv
  by_cases hc : ∀ y w, l.head? = some (y, w) → x ≠ y ^^^ 1
  · obtain ⟨q, h1, h2⟩ := close h.l _ v l x t (Nat.le_refl _) k1 k2 hx hc
    obtain ⟨u, e1, e2⟩ := ((h.same _ h1).1 (k1.run.app (.cons hx h2))).split
    have hu := h.spec (k1.rd h.l k2) k1.run e1
    cases e2 with
    | @cons _ _ u' _ _ f1 f2 =>
      have h3 : Rd (word l ++ [x]) := by
        have e : word l ++ x :: q = (word l ++ [x]) ++ q := by simp
        rw [e] at h1
        exact Rd_pre h1
      rw [hu, h.spec h3 (k1.run.app (.one hx)) (e1.app (.one f1))]
      exact f1
  · simp only [Classical.not_forall, Classical.not_not] at hc
    obtain ⟨y, w, hl, rfl⟩ := hc
    cases k1 with
    | nil => simp at hl
    | @step w' y' _ l1 e1 e2 =>
      simp only [List.head?_cons, Option.some.injEq, Prod.mk.injEq] at hl
      obtain ⟨rfl, rfl⟩ := hl
      have := h.l.aut.det _ _ _ _ (h.l.aut.inv _ _ _ e2) hx
      subst this
      have hs1 : Simp w' l1 := (List.nodup_cons.1 k2).2
      have r1 := h.tr (.step e1 e2) k2
      rw [word_cons] at r1
      obtain ⟨z, f1, f2⟩ := r1.split
      rw [h.spec (e1.rd h.l hs1) e1.run f1]
      exact h.r.aut.inv _ _ _ f2.of_one
theorem Pair.rch (h : Pair δ ε a b N M) {v : Nat} {l : List (Nat × Nat)} (hv : Tr δ a v l) (hs : Simp v l) : Rch ε b (to δ ε a b v) := by
  induction hv with
  | nil =>
    rw [h.spec (p := []) trivial (.nil a) (.nil b)]
    exact ⟨[], .nil, by simp [Simp]⟩
  | @step v x u l h1 h2 ih =>
    have hs1 : Simp v l := (List.nodup_cons.1 hs).2
    obtain ⟨l', k1, k2⟩ := ih hs1
    exact reach_step k1 k2 (h.step ⟨l, h1, hs1⟩ h2)
theorem Pair.two (h : Pair δ ε a b N M) {v : Nat} (hv : Rch δ a v) : to ε δ b a (to δ ε a b v) = v := by
  obtain ⟨l, k1, k2⟩ := hv
  exact h.symm.spec (k1.rd h.l k2) (h.tr k1 k2) k1.run
theorem Pair.back (h : Pair δ ε a b N M) {v x t' : Nat} (hv : Rch δ a v) (hx : ε (to δ ε a b v) x t') : ∃ t, δ v x t ∧ t' = to δ ε a b t := by
  obtain ⟨l, k1, k2⟩ := id hv
  have hb := h.rch k1 k2
  have h1 := h.symm.step hb hx
  rw [h.two hv] at h1
  refine ⟨_, h1, ?_⟩
  exact h.r.aut.det _ _ _ _ hx (h.step hv h1)
end
end Go.Proofs.YtffdjfkekdoeaaaDoor.Pl
end
section
set_option linter.unusedVariables false
set_option linter.unusedSimpArgs false
set_option maxRecDepth 4000
set_option maxHeartbeats 2000000
namespace Go.Proofs.YtffdjfkekdoeaaaDoor.Pl
open Fo Rf Wd
theorem num_mapG {φ : Nat → Nat} {P : Nat → Prop} (inj : ∀ u v, P u → P v → φ u = φ v → u = v) {ρ ρ' : Nat → Row} (hρ : ∀ v, P v → ρ' (φ v) = (ρ v).map (Option.map φ)) (hP : ∀ v, P v → ∀ t, some t ∈ ρ v → P t) :
    ∀ (K i : Nat) (q : List Nat) (out : List Row), (∀ v ∈ q, P v) → numG ρ' K i (q.map φ) out = numG ρ K i q out
  | 0, _, _, _, _ => rfl
  | K + 1, i, q, out, hq => by
    simp only [numG, List.getElem?_map]
    cases hv : q[i]? with
    | none => rfl
    | some v =>
      have hpv := hq v (List.mem_of_getElem? hv)
      obtain ⟨h1, h2⟩ := bfsRow_map inj (ρ v) q (hP v hpv) hq
      simp only [Option.map_some]
      rw [hρ v hpv, h1]
      exact num_mapG inj hρ hP K (i + 1) _ _ h2
theorem root_live {E : List Edg} {st : St} (h : Inv E st) (h0 : 0 < st.par.length) : Live (RowsOf st) (rt st.par 0) := by
  obtain ⟨d, hf⟩ := h.ok.forest
  obtain ⟨p, hp⟩ := hf.root _ 0 (Nat.le_refl _) h0
  rw [rt_spec hp]
  exact (live_rows h).2 hp.self
end Go.Proofs.YtffdjfkekdoeaaaDoor.Pl
end
section
set_option linter.unusedVariables false
set_option linter.unusedSimpArgs false
set_option maxRecDepth 4000
set_option maxHeartbeats 2000000
namespace Go.Proofs.YtffdjfkekdoeaaaDoor.Pl
open Fo Rf Wd
theorem idxOf_pre {q q' : List Nat} (h : q <+: q') {t : Nat} (ht : t ∈ q) : q'.idxOf t = q.idxOf t := by
  obtain ⟨r, rfl⟩ := h
  rw [List.idxOf_append, if_pos ht]
theorem bfsRow_spec : ∀ (row : Row) (q : List Nat), q.Nodup → q <+: (bfsRow row q).1 ∧ (bfsRow row q).1.Nodup ∧ (bfsRow row q).2 = row.map (Option.map (bfsRow row q).1.idxOf) ∧ ∀ t, some t ∈ row → t ∈ (bfsRow row q).1
  | [], q, hq => ⟨List.prefix_refl _, hq, rfl, fun t ht => by simp at ht⟩
  | none :: l, q, hq => by
    obtain ⟨h1, h2, h3, h4⟩ := bfsRow_spec l q hq
    refine ⟨h1, h2, ?_, fun t ht => h4 t (by simpa using ht)⟩
    simp only [bfsRow, List.map_cons, Option.map_none]
    rw [← h3]
  | some t :: l, q, hq => by
    by_cases ht : t ∈ q
    · obtain ⟨h1, h2, h3, h4⟩ := bfsRow_spec l q hq
      have e : bfsRow (some t :: l) q = ((bfsRow l q).1, some (q.idxOf t) :: (bfsRow l q).2) := by simp only [bfsRow]; rw [if_pos ht]
      rw [e]
      refine ⟨h1, h2, ?_, fun u hu => ?_⟩
      · show some (q.idxOf t) :: (bfsRow l q).2 = some ((bfsRow l q).1.idxOf t) :: l.map (Option.map (bfsRow l q).1.idxOf)
        rw [idxOf_pre h1 ht, ← h3]
      · rcases List.mem_cons.1 hu with hu | hu
        · cases hu; exact h1.subset ht
        · exact h4 u hu
    · have hq' : (q ++ [t]).Nodup := by
        rw [List.nodup_append]
        exact ⟨hq, by simp, fun a ha b hb => by simp only [List.mem_singleton] at hb; subst hb; exact fun he => ht (he ▸ ha)⟩
      obtain ⟨h1, h2, h3, h4⟩ := bfsRow_spec l (q ++ [t]) hq'
      have e : bfsRow (some t :: l) q = ((bfsRow l (q ++ [t])).1, some q.length :: (bfsRow l (q ++ [t])).2) := by simp only [bfsRow]; rw [if_neg ht]
      rw [e]
      have hm : t ∈ q ++ [t] := by simp
      refine ⟨List.IsPrefix.trans (List.prefix_append _ _) h1, h2, ?_, fun u hu => ?_⟩
      · show some q.length :: (bfsRow l (q ++ [t])).2 = some ((bfsRow l (q ++ [t])).1.idxOf t) :: l.map (Option.map (bfsRow l (q ++ [t])).1.idxOf)
        rw [idxOf_pre h1 hm, ← h3, List.idxOf_append, if_neg ht]
        simp
      · rcases List.mem_cons.1 hu with hu | hu
        · cases hu; exact h1.subset hm
        · exact h4 u hu
structure NumOf (ρ : Nat → Row) (q0 q : List Nat) (res : List Row) : Prop where
  pre : q0 <+: q
  nd : q.Nodup
  len : res.length = q.length
  row : ∀ (j v : Nat), q[j]? = some v → res[j]? = some ((ρ v).map (Option.map q.idxOf)) ∧ ∀ t, some t ∈ ρ v → t ∈ q
  all : ∀ P : Nat → Prop, (∀ v ∈ q0, P v) → (∀ v, P v → ∀ t, some t ∈ ρ v → P t) → ∀ v ∈ q, P v
theorem numG_spec {ρ : Nat → Row} : ∀ (K i : Nat) (q : List Nat) (out res : List Row), q.Nodup → out.length = i → i ≤ q.length → (∀ (j v : Nat), j < i → q[j]? = some v → out[j]? = some ((ρ v).map (Option.map q.idxOf)) ∧ ∀ t, some t ∈ ρ v → t ∈ q) → numG ρ K i q out = some res →
    ∃ q', NumOf ρ q q' res
  | 0, _, _, _, _, _, _, _, _, h => by simp [numG] at h
  | K + 1, i, q, out, res, hn, ho, hi, hr, h => by
    simp only [numG] at h
    split at h
    · rename_i hv
      cases h
      have hl : q.length ≤ i := by simpa using hv
      refine ⟨q, List.prefix_refl _, hn, by omega, fun j v hj => hr j v ?_ hj, fun P h1 _ => h1⟩
      have := (List.getElem?_eq_some_iff.1 hj).1
      omega
    · rename_i v hv
      have hlt := (List.getElem?_eq_some_iff.1 hv).1
      obtain ⟨h1, h2, h3, h4⟩ := bfsRow_spec (ρ v) q hn
      have hll := h1.length_le
      have hstep : ∀ (j u : Nat), j < i + 1 → (bfsRow (ρ v) q).1[j]? = some u → (out ++ [(bfsRow (ρ v) q).2])[j]? = some ((ρ u).map (Option.map (bfsRow (ρ v) q).1.idxOf)) ∧ ∀ t, some t ∈ ρ u → t ∈ (bfsRow (ρ v) q).1 := fun j u hj hu => by
        have hqj : q[j]? = some u := by
          obtain ⟨tl, htl⟩ := h1
          rw [← htl, List.getElem?_append_left (by omega)] at hu
          exact hu
        by_cases hji : j < i
        · obtain ⟨k1, k2⟩ := hr j u hji hqj
          refine ⟨?_, fun t ht => h1.subset (k2 t ht)⟩
          rw [List.getElem?_append_left (by omega), k1]
          congr 1
          refine List.map_congr_left fun o ho' => ?_
          cases o with
          | none => rfl
          | some t => simp only [Option.map_some]; rw [idxOf_pre h1 (k2 t ho')]
        · have hj' : j = i := by omega
          subst hj'
          rw [hv] at hqj; cases hqj
          rw [List.getElem?_append_right (by omega), ho, Nat.sub_self]
          exact ⟨by rw [← h3]; rfl, h4⟩
      obtain ⟨q', hq'⟩ := numG_spec K (i + 1) _ _ res h2 (by simp [ho]) (by omega) hstep h
      exact ⟨q', h1.trans hq'.pre, hq'.nd, hq'.len, hq'.row, fun P p1 p2 => hq'.all P (bfsRow_map (φ := fun v => v) (P := P) (fun u v _ _ h => h) (ρ v) q (fun t ht => p2 v (p1 v (List.mem_of_getElem? hv)) t ht) p1).2 p2⟩
theorem num_self {ρ : Nat → Row} {r K : Nat} {res : List Row} (h : numG ρ K 0 [r] [] = some res) : ∃ q, NumOf ρ [r] q res ∧ numG (fun i => res.getD i []) K 0 [0] [] = some res := by
  obtain ⟨q, hq⟩ := numG_spec K 0 [r] [] res (by simp) rfl (by simp) (fun j v hj => by omega) h
  refine ⟨q, hq, ?_⟩
  have hr : r ∈ q := hq.pre.subset (by simp)
  have h0 : q.idxOf r = 0 := by rw [idxOf_pre hq.pre (by simp)]; simp
  have := num_mapG (φ := q.idxOf) (P := fun v => v ∈ q) (fun u v hu hv he => ?_) (ρ := ρ) (ρ' := fun i => res.getD i []) (fun v hv => ?_) (fun v hv t ht => ?_) K 0 [r] [] (fun v hv => by simp only [List.mem_singleton] at hv; subst hv; exact hr)
  · rw [List.map_cons, List.map_nil, h0, h] at this
    exact this
  · have h1 := List.getElem_idxOf (List.idxOf_lt_length_iff.2 hu)
    have h2 := List.getElem_idxOf (List.idxOf_lt_length_iff.2 hv)
    rw [← h1, ← h2]
    simp only [he]
  · have hlt := List.idxOf_lt_length_iff.2 hv
    have hg : q[q.idxOf v]? = some v := by rw [List.getElem?_eq_getElem hlt, List.getElem_idxOf hlt]
    obtain ⟨k1, _⟩ := hq.row _ _ hg
    show res.getD (q.idxOf v) [] = _
    rw [List.getD_eq_getElem?_getD, k1]; rfl
  · have hlt := List.idxOf_lt_length_iff.2 hv
    have hg : q[q.idxOf v]? = some v := by rw [List.getElem?_eq_getElem hlt, List.getElem_idxOf hlt]
    exact (hq.row _ _ hg).2 t ht
end Go.Proofs.YtffdjfkekdoeaaaDoor.Pl
end
section
set_option linter.unusedVariables false
set_option linter.unusedSimpArgs false
set_option maxRecDepth 4000
set_option maxHeartbeats 2000000
namespace Go.Proofs.YtffdjfkekdoeaaaDoor.Pl
open Fo Rf Wd
theorem edges_mem : ∀ (row : List Int) (y : Nat) (e : Int × Int × Unit), e ∈ edgesFrom y row → ∃ i, row[i]? = some e.2.1 ∧ e.1 = ((y + i : Nat) : Int) ∧ 0 ≤ e.2.1
  | [], y, e, h => by simp [edgesFrom] at h
  | t :: l, y, e, h => by
    simp only [edgesFrom] at h
    split at h
    · rename_i ht
      rcases List.mem_cons.1 h with rfl | h
      · exact ⟨0, rfl, rfl, ht⟩
      · obtain ⟨i, h1, h2, h3⟩ := edges_mem l (y + 1) e h
        exact ⟨i + 1, h1, by rw [h2]; congr 1; omega, h3⟩
    · obtain ⟨i, h1, h2, h3⟩ := edges_mem l (y + 1) e h
      exact ⟨i + 1, h1, by rw [h2]; congr 1; omega, h3⟩
structure Auto (m r : Nat) (rows' : List (Option Row)) (q : List Nat) (R : List Row) : Prop where
  num : NumOf (rowOf rows') [r] q R
  live : ∀ v ∈ q, Live rows' v
  inn : ∀ v ∈ q, v = r ∨ ∃ u x, To rows' u x v
  first : q[0]? = some r
  len : ∀ row ∈ R, row.length = m
  to : ∀ (j v x : Nat), q[j]? = some v → ∀ i, (∃ row, R[j]? = some row ∧ row[x]? = some (some i)) ↔ ∃ t, To rows' v x t ∧ q[i]? = some t
theorem auto_of {m r K : Nat} {rows rows' : List (Option Row)} {o : Option (List Row)} {R : List Row} (hm : MadeOf m r rows rows' o) (hr : Live rows r) (h : numG (rowOf rows') K 0 [r] [] = some R) : ∃ q, Auto m r rows' q R := by
  obtain ⟨q, hq⟩ := numG_spec K 0 [r] [] R (by simp) rfl (by simp) (fun j v hj => by omega) h
  have hall := hq.all (fun v => Live rows' v ∧ (v = r ∨ ∃ u x, To rows' u x v)) (fun v hv => by simp only [List.mem_singleton] at hv; subst hv; exact ⟨(hm.cut.live v).2 hr, .inl rfl⟩) (fun v hv t ht => by
    obtain ⟨e1, e2, e3⟩ := row_live hm.wf hv.1
    obtain ⟨x, hx⟩ := List.getElem?_of_mem ht
    exact ⟨e3 t ht, .inr ⟨v, x, _, e1, hx⟩⟩)
  refine ⟨q, hq, fun v hv => (hall v hv).1, fun v hv => (hall v hv).2, ?_, fun row hrow => ?_, fun j v x hj i => ?_⟩
  · obtain ⟨tl, htl⟩ := hq.pre
    rw [← htl]; rfl
  · obtain ⟨j, hj⟩ := List.getElem?_of_mem hrow
    have hlt : j < q.length := by rw [← hq.len]; exact (List.getElem?_eq_some_iff.1 hj).1
    have hg : q[j]? = some q[j] := List.getElem?_eq_getElem hlt
    obtain ⟨k1, _⟩ := hq.row j _ hg
    rw [hj] at k1; cases k1
    rw [List.length_map]
    exact (row_live hm.wf (hall _ (List.getElem_mem hlt)).1).2.1
  · obtain ⟨k1, k2⟩ := hq.row j v hj
    obtain ⟨e1, e2, e3⟩ := row_live hm.wf (hall v (List.mem_of_getElem? hj)).1
    constructor
    · rintro ⟨row, h1, h2⟩
      rw [k1] at h1; cases h1
      rw [List.getElem?_map] at h2
      cases hx : (rowOf rows' v)[x]? with
      | none => rw [hx] at h2; cases h2
      | some o =>
        rw [hx] at h2
        cases o with
        | none => cases h2
        | some t =>
          simp only [Option.map_some, Option.some.injEq] at h2
          have ht := k2 t (List.mem_of_getElem? hx)
          have hlt := List.idxOf_lt_length_iff.2 ht
          refine ⟨t, ⟨_, e1, hx⟩, ?_⟩
          rw [← h2, List.getElem?_eq_getElem hlt, List.getElem_idxOf hlt]
    · rintro ⟨t, ⟨row, h1, h2⟩, h3⟩
      rw [e1] at h1; cases h1
      refine ⟨_, k1, ?_⟩
      rw [List.getElem?_map, h2]
      simp only [Option.map_some, Option.some.injEq]
      have hlt := (List.getElem?_eq_some_iff.1 h3)
      obtain ⟨hi, ht⟩ := hlt
      rw [← ht]
      exact hq.nd.idxOf_getElem i hi
theorem accF_get {n s : Nat} (h : s < n) : (accF n).getD s false = (s == 0) := by
  unfold accF
  rw [List.getD_eq_getElem?_getD, List.getElem?_map, List.getElem?_range h]; rfl
theorem next_get {R : List Row} {j x i : Nat} {row : Row} (h1 : R[j]? = some row) (h2 : row[x]? = some (some i)) : getN (R.map (·.map ofO)) j x = (i : Int) := by
  have e : (R.map (·.map ofO)).getD j [] = row.map ofO := by rw [List.getD_eq_getElem?_getD, List.getElem?_map, h1]; rfl
  unfold getN
  rw [e, List.getD_eq_getElem?_getD, List.getElem?_map, h2]; rfl
theorem Auto.next {m r : Nat} {rows' : List (Option Row)} {q : List Nat} {R : List Row} (h : Auto m r rows' q R) {v x t : Nat} {j : Nat} (hj : q[j]? = some v) (ht : To rows' v x t) : ∃ i : Nat, q[i]? = some t := by
  obtain ⟨row, h1, h2⟩ := ht
  have : rowOf rows' v = row := by unfold rowOf; rw [h1]
  have hm := (h.num.row j v hj).2 t (by rw [this]; exact List.mem_of_getElem? h2)
  exact List.getElem?_of_mem hm
theorem good {k r K : Nat} (hk : 1 ≤ k ∧ k ≤ 8) {rows rows' : List (Option Row)} {o : Option (List Row)} {q : List Nat} {R : List Row} (hm : MadeOf (2 * k) r rows rows' o) (hA : Auto (2 * k) r rows' q R) (h2 : R.length ≤ 2000) (h : numG (rowOf rows') K 0 [r] [] = some R) :
    (autE k R).check (k : Int) = 0 := by
  have hql := hA.num.len
  have h1 : 1 ≤ R.length := by
    rw [hql]
    have := (List.getElem?_eq_some_iff.1 hA.first).1
    omega
  have tgt : ∀ row ∈ R, ∀ t, some t ∈ row → t < R.length := fun row hrow t ht => by
    obtain ⟨j, hj⟩ := List.getElem?_of_mem hrow
    obtain ⟨x, hx⟩ := List.getElem?_of_mem ht
    have hlt : j < q.length := by rw [← hql]; exact (List.getElem?_eq_some_iff.1 hj).1
    obtain ⟨u, _, hu⟩ := (hA.to j _ x (List.getElem?_eq_getElem hlt) t).1 ⟨row, hj, hx⟩
    rw [hql]; exact (List.getElem?_eq_some_iff.1 hu).1
  have hrows : ∀ rr ∈ (R.map (·.map ofO)), rr.length = 2 * k ∧ ∀ t ∈ rr, -1 ≤ t ∧ t < ((R.map (·.map ofO)).length : Int) := fun rr hrr => by
    obtain ⟨row, hrow, rfl⟩ := List.mem_map.1 hrr
    refine ⟨by rw [List.length_map]; exact hA.len row hrow, fun t ht => ?_⟩
    obtain ⟨o, ho, rfl⟩ := List.mem_map.1 ht
    rw [List.length_map]
    cases o with
    | none => simp only [ofO]; omega
    | some i => have := tgt row hrow i ho; simp only [ofO]; omega
  have hloc : ∀ (s : Nat) (rr : List Int), (R.map (·.map ofO))[s]? = some rr → rowLocal (R.map (·.map ofO)) s rr = true := fun s rr hs => by
    rw [List.getElem?_map] at hs
    cases hR : R[s]? with
    | none => rw [hR] at hs; cases hs
    | some row =>
      rw [hR] at hs
      simp only [Option.map_some, Option.some.injEq] at hs
      subst hs
      unfold rowLocal
      rw [List.all_eq_true]
      intro e he
      obtain ⟨i, e1, e2, e3⟩ := edges_mem _ 0 e he
      rw [List.getElem?_map] at e1
      cases hi : row[i]? with
      | none => rw [hi] at e1; cases e1
      | some o =>
        rw [hi] at e1
        cases o with
        | none => simp only [Option.map_some, ofO, Option.some.injEq] at e1; omega
        | some t =>
          simp only [Option.map_some, ofO, Option.some.injEq] at e1
          have hlt : s < q.length := by rw [← hql]; exact (List.getElem?_eq_some_iff.1 hR).1
          have hg : q[s]? = some q[s] := List.getElem?_eq_getElem hlt
          obtain ⟨u, k1, k2⟩ := (hA.to s _ i hg t).1 ⟨row, hR, hi⟩
          obtain ⟨row', f1, f2⟩ := (hA.to t u (i ^^^ 1) k2 s).2 ⟨_, hm.wf.inv _ _ _ k1, hg⟩
          rw [← e1, e2, Nat.zero_add, Int.toNat_natCast, Int.toNat_natCast, next_get f1 f2]
          simp
  have hdeg : ∀ (s : Nat) (row : Row), R[s]? = some row → 0 < s → 2 ≤ degF row := fun s row hR hs => by
    have hlt : s < q.length := by rw [← hql]; exact (List.getElem?_eq_some_iff.1 hR).1
    have hg : q[s]? = some q[s] := List.getElem?_eq_getElem hlt
    have hne : q[s] ≠ r := fun he => by
      have h0 := (List.getElem?_eq_some_iff.1 hA.first)
      obtain ⟨h00, h01⟩ := h0
      have := (List.getElem_inj (h₀ := hlt) (h₁ := h00) hA.num.nd).1 (by rw [he, h01])
      omega
    rcases hA.inn _ (List.getElem_mem hlt) with he | ⟨u, x, hu⟩
    · exact absurd he hne
    · have hb := hm.wf.inv _ _ _ hu
      obtain ⟨x', t', hx, hb'⟩ := hm.two _ _ _ hb hne
      obtain ⟨i, hi⟩ := hA.next hg hb
      obtain ⟨i', hi'⟩ := hA.next hg hb'
      obtain ⟨r1, a1, a2⟩ := (hA.to s _ _ hg i).2 ⟨_, hb, hi⟩
      obtain ⟨r2, b1, b2⟩ := (hA.to s _ _ hg i').2 ⟨_, hb', hi'⟩
      rw [hR] at a1 b1
      cases a1; cases b1
      by_cases hd : degF row ≤ 1
      · exact absurd (deg_one row hd _ _ _ _ b2 a2) hx
      · omega
  have hlen : (accF R.length).length = R.length := by unfold accF; simp
  have hfsa : fsaF ((2 * k : Nat) : Int) 0 (accF R.length) (R.map (·.map ofO)) = 0 := by
    unfold fsaF
    rw [if_neg (by rw [hlen, List.length_map]; omega), if_neg]
    rw [Bool.not_eq_true, List.any_eq_false]
    intro rr hrr
    obtain ⟨g1, g2⟩ := hrows rr hrr
    unfold badRow
    rw [Bool.not_eq_true, Bool.or_eq_false_iff]
    refine ⟨by simp [g1], ?_⟩
    rw [List.any_eq_false]
    intro t ht
    have := g2 t ht
    rw [List.length_map] at this
    rw [hlen]
    simp; omega
  have hI : isM (k : Int) (autE k R) = true := by
    have hacc0 : (accF R.length).getD 0 false = true := by rw [accF_get (by omega)]; rfl
    unfold isM
    show (decide (fsaF ((2 * k : Nat) : Int) 0 (accF R.length) (R.map (·.map ofO)) = 0) && (decide (((2 * k : Nat) : Int) = 2 * (k : Int)) && (decide (1 ≤ (accF R.length).length) && (decide ((accF R.length).length ≤ 2000) && (decide ((0 : Int) = 0) && ((accF R.length).getD 0 false && (localAll (accF R.length) (R.map (·.map ofO)) 0 (R.map (·.map ofO)) && sameF (autE k R) (autE k (numR k (R.map (·.map ofO)))))))))) ) = true
    have hla : localAll (accF R.length) (R.map (·.map ofO)) 0 (R.map (·.map ofO)) = true := by
      rw [localAll_iff]
      intro s rr hs
      rw [Nat.zero_add]
      refine (localS_iff hacc0).2 ⟨accF_get (by have := (List.getElem?_eq_some_iff.1 hs).1; simpa using this), fun h0 => ?_, hloc s rr hs⟩
      rw [List.getElem?_map] at hs
      cases hR : R[s]? with
      | none => rw [hR] at hs; cases hs
      | some row =>
        rw [hR] at hs
        simp only [Option.map_some, Option.some.injEq] at hs
        subst hs
        have e : (row.map ofO).map toO = row := by
          rw [List.map_map]
          conv => rhs; rw [← List.map_id row]
          exact List.map_congr_left fun o _ => toO_ofO o
        rw [e]
        exact hdeg s row hR h0
    have hnum : numR k (R.map (·.map ofO)) = R := by
      obtain ⟨q', hq', hself⟩ := num_self h
      have hlt := graphL_lt (k := k) (next := R.map (·.map ofO)) (fun rr hrr t ht => ((hrows rr hrr).2 t ht).2) (by rw [List.length_map]; omega)
      obtain ⟨res, hres⟩ := numE_some (k := k) hlt ((R.map (·.map ofO)).length + 1) 0 [0] [] (by simp) (by simp; omega) (by simp) (by omega)
      have hmap := num_map (φ := fun v => v) (P := fun v => v < R.length) (fun u v _ _ h => h) (k := k) (es := graphL k 0 (R.map (·.map ofO))) (ρ := fun i => R.getD i []) (fun v hv => ?_) (fun v hv t ht => ?_) ((R.map (·.map ofO)).length + 1) 0 [0] [] (by simp; omega)
      · rw [show List.map (fun v : Nat => v) [0] = [0] from rfl] at hmap
        rw [hmap] at hres
        have a1 := numG_fuel _ (K + (R.map (·.map ofO)).length + 1) _ _ _ _ (by omega) hres
        have a2 := numG_fuel _ (K + (R.map (·.map ofO)).length + 1) _ _ _ _ (by omega) hself
        rw [a2] at a1
        unfold numR
        rw [hmap, hres]
        exact (Option.some.inj a1).symm
      · have hRv : R[v]? = some R[v] := List.getElem?_eq_getElem hv
        have e1 : R.getD v [] = R[v] := by rw [List.getD_eq_getElem?_getD, hRv]; rfl
        show rowE k _ v = (R.getD v []).map (Option.map fun v => v)
        rw [e1]
        apply List.ext_getElem?
        intro x
        have hl := hA.len _ (List.getElem_mem hv)
        by_cases hx : x < 2 * k
        · rw [rowE_get hx, step_graph hk.2 hrows hloc (by rw [List.length_map]; exact hv) hx]
          have hxl : x < R[v].length := by omega
          rw [List.getElem?_map, List.getElem?_eq_getElem hxl]
          have e : (R.map (·.map ofO)).getD v [] = R[v].map ofO := by rw [List.getD_eq_getElem?_getD, List.getElem?_map, hRv]; rfl
          unfold getN
          rw [e, List.getD_eq_getElem?_getD, List.getElem?_map, List.getElem?_eq_getElem hxl]
          simp only [Option.map_some, Option.getD_some, toO_ofO]
          cases R[v][x] <;> rfl
        · rw [List.getElem?_eq_none (by rw [rowE_len]; omega), List.getElem?_eq_none (by rw [List.length_map]; omega)]
      · have hRv : R[v]? = some R[v] := List.getElem?_eq_getElem hv
        have e1 : R.getD v [] = R[v] := by rw [List.getD_eq_getElem?_getD, hRv]; rfl
        have ht : some t ∈ R.getD v [] := ht
        rw [e1] at ht
        exact tgt _ (List.getElem_mem hv) t ht
    rw [hfsa, hacc0, hla, hnum]
    have e2 : decide (((2 * k : Nat) : Int) = 2 * (k : Int)) = true := by simp
    rw [e2, hlen, decide_eq_true h1, decide_eq_true h2]
    simp [sameF]
  have := isM_check (k := (k : Int)) (by omega) (autE k R)
  rw [hI] at this
  exact of_decide_eq_true this.symm
end Go.Proofs.YtffdjfkekdoeaaaDoor.Pl
end
section
set_option linter.unusedVariables false
set_option linter.unusedSimpArgs false
set_option maxRecDepth 4000
set_option maxHeartbeats 2000000
namespace Go.Proofs.YtffdjfkekdoeaaaDoor.Pl
open Fo Rf Wd
def ix (b : UInt8) : Nat := (idxF (ofB b)).toNat
theorem ix_L {x : Nat} (h : x < 16) : ix (L x) = x := by
  have := L_idx ⟨x, h⟩
  dsimp only at this
  unfold ix; rw [this]; rfl
theorem other_L {x : Nat} (h : x < 16) : otherB (L x) = L (x ^^^ 1) := L_other ⟨x, h⟩
theorem xor16 {x : Nat} (h : x < 16) : x ^^^ 1 < 16 := (xor_xor ⟨x, h⟩).2
def rawF (s : ByteArray) : List Nat := s.data.toList.map ix
theorem red_step {out : List UInt8} {c : UInt8} (ho : Good out) (hc : ∃ x, x < 16 ∧ c = L x) : (redStep out c).map ix = rdS (out.map ix) (ix c) ∧ Good (redStep out c) := by
  obtain ⟨x, hx, rfl⟩ := hc
  unfold redStep rdS
  rw [List.getLast?_map]
  cases hl : out.getLast? with
  | none =>
    rw [if_neg (by simp), if_neg (by simp)]
    refine ⟨by simp, ho.app fun b hb => ?_⟩
    simp only [List.mem_singleton] at hb
    exact ⟨x, hx, hb⟩
  | some d =>
    obtain ⟨z, hz, rfl⟩ := ho d (List.mem_of_getLast? hl)
    have hiff : L z = otherB (L x) ↔ ix (L z) = ix (L x) ^^^ 1 := by
      rw [other_L hx, ix_L hz, ix_L hx]
      constructor
      · intro h
        have := congrArg ix h
        rwa [ix_L hz, ix_L (xor16 hx)] at this
      · intro h; rw [h]
    simp only [Option.map_some, Option.some.injEq]
    by_cases h : L z = otherB (L x)
    · rw [if_pos h, if_pos (hiff.1 h)]
      exact ⟨List.map_dropLast .., fun b hb => ho b ((List.dropLast_sublist out).mem hb)⟩
    · rw [if_neg h, if_neg (fun k => h (hiff.2 k))]
      refine ⟨by simp, ho.app fun b hb => ?_⟩
      simp only [List.mem_singleton] at hb
      exact ⟨x, hx, hb⟩
theorem red_raw : ∀ (l out : List UInt8), Good out → Good l → (l.foldl redStep out).map ix = act (out.map ix) (l.map ix)
  | [], out, _, _ => rfl
  | c :: l, out, ho, hl => by
    obtain ⟨h1, h2⟩ := red_step ho (hl c (by simp))
    have := red_raw l (redStep out c) h2 fun b hb => hl b (by simp [hb])
    rw [List.foldl_cons, this, h1]; rfl
theorem good_word {k : Int} {s : ByteArray} (h : checkF k s = 0) : Good s.data.toList := fun b hb => by
  obtain ⟨h1, h2, h3, h4⟩ := check_bad h
  unfold hasBad at h4
  rw [List.any_eq_false] at h4
  have := h4 b hb
  rw [Bool.not_eq_true] at this
  simp only [badF, Bool.or_eq_false_iff] at this
  have t1 := of_decide_eq_false this.1
  have t2 := of_decide_eq_false this.2.1
  obtain ⟨x, hx⟩ := L_of ⟨b.toNat, UInt8.toNat_lt b⟩ (by dsimp only; omega) (by dsimp only; omega)
  refine ⟨x.val, x.isLt, ?_⟩
  dsimp only at hx
  rw [← hx]
  simp
theorem word_raw {s : ByteArray} (h : Good s.data.toList) : wordF s = rd (rawF s) := red_raw s.data.toList [] (fun b hb => by simp at hb) h
theorem same_raw {s : ByteArray} (h : Good s.data.toList) : Same (wordF s) (rawF s) := by rw [word_raw h]; exact same_rd _
theorem raw_app (a b : ByteArray) : rawF (a ++ b) = rawF a ++ rawF b := by unfold rawF; rw [app_list, List.map_append]
theorem word_app {a b : ByteArray} (ha : Good a.data.toList) (hb : Good b.data.toList) : Same (wordF (a ++ b)) (wordF a ++ wordF b) := by
  have h : Good (a ++ b).data.toList := by rw [app_list]; exact ha.app hb
  refine (same_raw h).trans ?_
  rw [raw_app]
  exact ((same_raw ha).app (same_raw hb)).symm
theorem raw_inv {s : ByteArray} (h : Good s.data.toList) (h8 : checkF 8 s = 0) : rawF (InverseF s) = inv (rawF s) := by
  unfold InverseF
  rw [if_pos h8]
  unfold rawF inv invF
  show ((s.data.toList.map otherB).reverse.toArray).toList.map ix = _
  rw [List.toList_toArray, List.map_reverse, List.map_map, List.map_map]
  congr 1
  refine List.map_congr_left fun b hb => ?_
  obtain ⟨x, hx, rfl⟩ := h b hb
  show ix (otherB (L x)) = ix (L x) ^^^ 1
  rw [other_L hx, ix_L hx, ix_L (xor16 hx)]
theorem word_inv {s : ByteArray} (h : Good s.data.toList) (h8 : checkF 8 s = 0) : Good (InverseF s).data.toList ∧ Same (wordF (InverseF s)) (inv (wordF s)) := by
  have hg : Good (InverseF s).data.toList := by
    unfold InverseF
    rw [if_pos h8]
    exact h.inv
  refine ⟨hg, (same_raw hg).trans ?_⟩
  rw [raw_inv h h8]
  exact (same_raw h).symm.inv
theorem mem_of {gens : List ByteArray} {s : ByteArray} (h : s ∈ gens) : Mem (gens.map wordF) (wordF s) := .gen (List.mem_map_of_mem h)
theorem Mem.cat {gens : List ByteArray} {a b : ByteArray} (ha : Good a.data.toList) (hb : Good b.data.toList) (h1 : Mem (gens.map wordF) (wordF a)) (h2 : Mem (gens.map wordF) (wordF b)) : Mem (gens.map wordF) (wordF (a ++ b)) :=
  .same (h1.mul h2) (word_app ha hb).symm
end Go.Proofs.YtffdjfkekdoeaaaDoor.Pl
end
section
set_option linter.unusedVariables false
set_option linter.unusedSimpArgs false
set_option maxRecDepth 4000
set_option maxHeartbeats 2000000
namespace Go.Proofs.YtffdjfkekdoeaaaDoor.Pl
open Fo Rf Wd
section
variable {m r : Nat} {rows' : List (Option Row)} {q : List Nat} {R : List Row}
theorem Auto.getN (h : Auto m r rows' q R) {j v x : Nat} (hj : q[j]? = some v) (hx : x < m) : (∃ t i : Nat, To rows' v x t ∧ q[i]? = some t ∧ Fo.getN (R.map (·.map ofO)) j x = (i : Int)) ∨ ((∀ t, ¬ To rows' v x t) ∧ Fo.getN (R.map (·.map ofO)) j x = -1) := by
  obtain ⟨k1, k2⟩ := h.num.row j v hj
  have hl := h.len _ (List.mem_of_getElem? k1)
  have hxl : x < ((rowOf rows' v).map (Option.map q.idxOf)).length := by rw [hl]; exact hx
  cases ho : ((rowOf rows' v).map (Option.map q.idxOf))[x] with
  | some i =>
    have hx' : ((rowOf rows' v).map (Option.map q.idxOf))[x]? = some (some i) := by rw [List.getElem?_eq_getElem hxl, ho]
    obtain ⟨t, h1, h2⟩ := (h.to j v x hj i).1 ⟨_, k1, hx'⟩
    exact .inl ⟨t, i, h1, h2, next_get k1 hx'⟩
  | none =>
    refine .inr ⟨fun t ht => ?_, ?_⟩
    · obtain ⟨i, hi⟩ := h.next hj ht
      obtain ⟨row, e1, e2⟩ := (h.to j v x hj i).2 ⟨t, ht, hi⟩
      rw [k1] at e1; cases e1
      rw [List.getElem?_eq_getElem hxl, ho] at e2; cases e2
    · have e : (R.map (·.map ofO)).getD j [] = ((rowOf rows' v).map (Option.map q.idxOf)).map ofO := by rw [List.getD_eq_getElem?_getD, List.getElem?_map, k1]; rfl
      unfold Fo.getN
      rw [e, List.getD_eq_getElem?_getD, List.getElem?_map, List.getElem?_eq_getElem hxl, ho]; rfl
theorem Auto.leads (h : Auto m r rows' q R) : ∀ (l : List Nat) (j v : Nat), q[j]? = some v → (∀ x ∈ l, x < m) → ∀ (i t : Nat), q[i]? = some t → (leadsF (R.map (·.map ofO)) l j = (i : Int) ↔ Run (To rows') v l t)
  | [], j, v, hj, _, i, t, hi => by
    simp only [leadsF]
    constructor
    · intro he
      have : j = i := by omega
      subst this
      rw [hj] at hi; cases hi
      exact .nil v
    · intro hr
      cases hr
      obtain ⟨h1, h2⟩ := List.getElem?_eq_some_iff.1 hj
      obtain ⟨h3, h4⟩ := List.getElem?_eq_some_iff.1 hi
      have := (List.getElem_inj (h₀ := h1) (h₁ := h3) h.num.nd).1 (by rw [h2, h4])
      omega
  | x :: l, j, v, hj, hl, i, t, hi => by
    have hx := hl x (by simp)
    have hrest : ∀ y ∈ l, y < m := fun y hy => hl y (by simp [hy])
    have hs : leadsF (R.map (·.map ofO)) (x :: l) j = if Fo.getN (R.map (·.map ofO)) j x < 0 then Fo.getN (R.map (·.map ofO)) j x else leadsF (R.map (·.map ofO)) l (Fo.getN (R.map (·.map ofO)) j x).toNat := rfl
    rw [hs]
    rcases h.getN hj hx with ⟨u, a, h1, h2, h3⟩ | ⟨h1, h3⟩
    · rw [h3, if_neg (by omega), Int.toNat_natCast, Auto.leads h l a u h2 hrest i t hi]
      constructor
      · exact fun hr => .cons h1 hr
      · intro hr
        cases hr with
        | cons k1 k2 =>
          have := h1.unique k1
          subst this
          exact k2
    · rw [h3, if_pos (by omega)]
      constructor
      · intro he; omega
      · intro hr
        cases hr with
        | cons k1 k2 => exact absurd k1 (h1 _)
end
theorem reads {k : Nat} {gens : List ByteArray} {st : St} (hi : Inv (allE 1 (gens.map wordF)) st) (h0 : 0 < st.par.length) {rows' : List (Option Row)} {o : Option (List Row)} (hm : MadeOf (2 * k) (rt st.par 0) (RowsOf st) rows' o) {q : List Nat} {R : List Row}
    (hA : Auto (2 * k) (rt st.par 0) rows' q R) {l : List Nat} (hl : Rd l) (hx : ∀ x ∈ l, x < 2 * k) : leadsF (R.map (·.map ofO)) l 0 = 0 ↔ Mem (gens.map wordF) l := by
  rw [← lang_cut hi hm hl]
  exact hA.leads l 0 _ hA.first hx 0 _ hA.first
end Go.Proofs.YtffdjfkekdoeaaaDoor.Pl
end
section
set_option linter.unusedVariables false
set_option linter.unusedSimpArgs false
set_option maxRecDepth 4000
set_option maxHeartbeats 2000000
namespace Go.Proofs.YtffdjfkekdoeaaaDoor.Pl
open Fo Rf Wd
def wordB (T : Tree) (s : Nat) (x t : Int) : ByteArray := ReduceF (T.paths.getD s ⟨#[]⟩ ++ letS x ++ InverseF (T.paths.getD t.toNat ⟨#[]⟩))
theorem basE_iff {T : Tree} {s : Nat} {b : ByteArray} : ∀ (l : List (Int × Int × Unit)) (B : Bas), b ∈ (basE T s l B).basis ↔ b ∈ B.basis ∨ ∃ x t u, (x, t, u) ∈ l ∧ x.toNat % 2 = 0 ∧ ((s : Int), x) ∉ T.keys ∧ b = wordB T s x t
  | [], B => by simp [basE]
  | (x, t, u) :: l, B => by
    simp only [basE]
    split
    · rename_i hc
      rw [basE_iff l]
      simp only [List.mem_append, List.mem_cons, List.not_mem_nil, or_false]
      constructor
      · rintro ((h | h) | ⟨x', t', u', h1, h2⟩)
        · exact .inl h
        · exact .inr ⟨x, t, u, .inl rfl, hc.1, hc.2, h⟩
        · exact .inr ⟨x', t', u', .inr h1, h2⟩
      · rintro (h | ⟨x', t', u', h1 | h1, h2, h3, h4⟩)
        · exact .inl (.inl h)
        · simp only [Prod.mk.injEq] at h1
          obtain ⟨rfl, rfl, _⟩ := h1
          exact .inl (.inr h4)
        · exact .inr ⟨x', t', u', h1, h2, h3, h4⟩
    · rename_i hc
      rw [basE_iff l]
      simp only [List.mem_cons]
      constructor
      · rintro (h | ⟨x', t', u', h1, h2⟩)
        · exact .inl h
        · exact .inr ⟨x', t', u', .inr h1, h2⟩
      · rintro (h | ⟨x', t', u', h1 | h1, h2, h3, h4⟩)
        · exact .inl h
        · simp only [Prod.mk.injEq] at h1
          obtain ⟨rfl, rfl, _⟩ := h1
          exact absurd ⟨h2, h3⟩ hc
        · exact .inr ⟨x', t', u', h1, h2, h3, h4⟩
theorem basR_iff {T : Tree} {b : ByteArray} : ∀ (l : List (List Int)) (s : Nat) (B : Bas), b ∈ (basR T s l B).basis ↔ b ∈ B.basis ∨ ∃ i row, l[i]? = some row ∧ ∃ x t u, (x, t, u) ∈ edgesFrom 0 row ∧ x.toNat % 2 = 0 ∧ (((s + i : Nat) : Int), x) ∉ T.keys ∧ b = wordB T (s + i) x t
  | [], s, B => by simp [basR]
  | r :: l, s, B => by
    simp only [basR]
    rw [basR_iff l (s + 1), basE_iff]
    constructor
    · rintro ((h | h) | ⟨i, row, h1, h2⟩)
      · exact .inl h
      · exact .inr ⟨0, r, rfl, h⟩
      · refine .inr ⟨i + 1, row, h1, ?_⟩
        rw [show s + (i + 1) = s + 1 + i by omega]; exact h2
    · rintro (h | ⟨i, row, h1, h2⟩)
      · exact .inl (.inl h)
      · cases i with
        | zero =>
          simp only [List.getElem?_cons_zero, Option.some.injEq] at h1
          subst h1
          exact .inl (.inr h2)
        | succ i =>
          refine .inr ⟨i, row, h1, ?_⟩
          rw [show s + 1 + i = s + (i + 1) by omega]; exact h2
def pathR' (T : Tree) (s : Nat) : List Nat := rawF (T.paths.getD s ⟨#[]⟩)
section
variable {k : Int} {a : Aut}
theorem path_good (hk : k ≤ 8) (hc : a.check k = 0) {s : Nat} (hs : s < a.next.length) : Good ((treeF a.next).paths.getD s ⟨#[]⟩).data.toList ∧ checkF 8 ((treeF a.next).paths.getD s ⟨#[]⟩) = 0 ∧ ((treeF a.next).paths.getD s ⟨#[]⟩).size ≤ 2000 := by
  obtain ⟨h1, h2, h3⟩ := tree_ok hk hc
  obtain ⟨_, _, n1, n2, _⟩ := check_spec hc
  have hm := path_mem (T := treeF a.next) (s := s) (by rw [h1.len]; exact hs)
  have hg : Good ((treeF a.next).paths.getD s ⟨#[]⟩).data.toList := h2.good _ hm
  have hz := h1.small _ hm
  have : ((treeF a.next).paths.getD s ⟨#[]⟩).size ≤ 2000 := by omega
  exact ⟨hg, check_good hg (by omega), this⟩
theorem letS_good {x : Nat} (h : x < 16) : Good (letS (x : Int)).data.toList := fun b hb => by
  rw [letS_list] at hb
  simp only [List.mem_singleton] at hb
  exact ⟨x, h, hb⟩
theorem letS_raw {x : Nat} (h : x < 16) : rawF (letS (x : Int)) = [x] := by
  unfold rawF
  rw [letS_list, List.map_cons, ix_L h]; rfl
theorem wordB_same (hk : k ≤ 8) (hc : a.check k = 0) {s x t : Nat} (hs : s < a.next.length) (ht : t < a.next.length) (hx : x < 16) :
    Same (wordF (wordB (treeF a.next) s (x : Int) (t : Int))) (pathR' (treeF a.next) s ++ [x] ++ inv (pathR' (treeF a.next) t)) := by
  obtain ⟨g1, c1, z1⟩ := path_good hk hc hs
  obtain ⟨g2, c2, z2⟩ := path_good hk hc ht
  obtain ⟨g3, _⟩ := word_inv g2 c2
  unfold wordB pathR'
  rw [Int.toNat_natCast]
  generalize hA : (treeF a.next).paths.getD s ⟨#[]⟩ = A at *
  generalize hB : (treeF a.next).paths.getD t ⟨#[]⟩ = B at *
  have hg : Good (A ++ letS (x : Int) ++ InverseF B).data.toList := by
    rw [app_list, app_list]
    exact (g1.app (letS_good hx)).app g3
  have hinv : (InverseF B).size ≤ 2000 := by
    unfold InverseF
    rw [if_pos c2, size_list]
    unfold invF
    simp
    rw [size_list] at z2
    simpa using z2
  have hsz : (A ++ letS (x : Int) ++ InverseF B).size ≤ 100000 := by
    have e1 : (letS (x : Int)).size = 1 := by rw [size_list, letS_list]; rfl
    have e2 := size_list (InverseF B)
    have e3 := size_list A
    have e4 := size_list (letS (x : Int))
    rw [size_list, app_list, app_list, List.length_append, List.length_append]
    omega
  have hck := check_good hg hsz
  have e : wordF (ReduceF (A ++ letS (x : Int) ++ InverseF B)) = wordF (A ++ letS (x : Int) ++ InverseF B) := by
    unfold wordF
    have : (ReduceF (A ++ letS (x : Int) ++ InverseF B)).data.toList = redF (A ++ letS (x : Int) ++ InverseF B).data.toList := by
      unfold ReduceF; rw [if_pos hck]
    rw [this]
    have h2 : redF (redF (A ++ letS (x : Int) ++ InverseF B).data.toList) = redF (A ++ letS (x : Int) ++ InverseF B).data.toList := redF_red _
    rw [h2]
  rw [e]
  refine (same_raw hg).trans ?_
  rw [raw_app, raw_app, letS_raw hx, raw_inv g2 c2]
  exact Same.refl _
theorem tree_same (hk : k ≤ 8) (hc : a.check k = 0) {s x t : Nat} (ht : getN a.next s x = (t : Int)) (hkey : ((s : Int), (x : Int)) ∈ (treeF a.next).keys) : Same (pathR' (treeF a.next) s ++ [x] ++ inv (pathR' (treeF a.next) t)) [] := by
  obtain ⟨h1, h2, h3⟩ := tree_ok hk hc
  obtain ⟨u', y', t', e1, e2, e3, e4, e5, e6, e7, e8, e9⟩ := h2.keyw _ _ hkey
  have e1 : s = u' := by omega
  have e2 : x = y' := by omega
  subst e1 e2
  rw [ht] at e4
  have e4 : t = t' := by omega
  subst e4
  obtain ⟨_, _, n1, n2, _⟩ := check_spec hc
  have hx : x < 16 := by omega
  unfold pathR' rawF
  rcases e9 with e9 | e9
  · rw [e9, List.map_append, List.map_cons, ix_L hx]
    exact same_inv _
  · rw [e9, List.map_append, List.map_cons, ix_L (xor16 hx)]
    generalize ((treeF a.next).paths.getD t ⟨#[]⟩).data.toList.map ix = Q
    have e : Q ++ [x ^^^ 1] ++ [x] ++ inv Q = Q ++ [x ^^^ 1, x] ++ inv Q := by simp
    show Same (Q ++ [x ^^^ 1] ++ [x] ++ inv Q) []
    rw [e]
    have := ((Same.refl Q).app (same_pair' x)).app (Same.refl (inv Q))
    rw [List.append_nil] at this
    exact this.trans (same_inv Q)
end
end Go.Proofs.YtffdjfkekdoeaaaDoor.Pl
end
section
set_option linter.unusedVariables false
set_option linter.unusedSimpArgs false
set_option maxRecDepth 4000
set_option maxHeartbeats 2000000
namespace Go.Proofs.YtffdjfkekdoeaaaDoor.Pl
open Fo Rf Wd
section
variable {k : Int} {a : Aut}
theorem getN_row (hc : a.check k = 0) {s x : Nat} (hs : s < a.next.length) (hx : x < 2 * k.toNat) : ∃ row, a.next[s]? = some row ∧ x < row.length ∧ getN a.next s x = row.getD x 0 ∧ -1 ≤ row.getD x 0 ∧ row.getD x 0 < (a.next.length : Int) := by
  obtain ⟨_, _, n1, n2, _, _, hrows⟩ := check_spec hc
  have hg : a.next[s]? = some a.next[s] := List.getElem?_eq_getElem hs
  obtain ⟨h1, h2⟩ := hrows _ (List.getElem_mem hs)
  have hxl : x < a.next[s].length := by omega
  refine ⟨_, hg, hxl, ?_, ?_⟩
  · unfold getN; rw [List.getD_eq_getElem?_getD (l := a.next), hg]; rfl
  · rw [getD_get hxl]; exact h2 _ (List.getElem_mem hxl)
theorem edge_bas (hk : k ≤ 8) (hc : a.check k = 0) {s x t : Nat} (hs : s < a.next.length) (hx : x < 2 * k.toNat) (ht : getN a.next s x = (t : Int)) :
    t < a.next.length ∧ Mem ((basF a.next).basis.map wordF) (pathR' (treeF a.next) s ++ [x] ++ inv (pathR' (treeF a.next) t)) := by
  have even : ∀ {s x t : Nat}, s < a.next.length → x < 2 * k.toNat → getN a.next s x = (t : Int) → x % 2 = 0 → ((s : Int), (x : Int)) ∉ (treeF a.next).keys → Mem ((basF a.next).basis.map wordF) (pathR' (treeF a.next) s ++ [x] ++ inv (pathR' (treeF a.next) t)) := fun {s x t} hs hx ht h2 hno => by
    obtain ⟨row, g1, g2, g3, g4, g5⟩ := getN_row hc hs hx
    rw [ht] at g3
    have ht' : t < a.next.length := by omega
    have he := edges_of row 0 x g2 (by omega)
    rw [Nat.zero_add, ← g3] at he
    have hb : wordB (treeF a.next) s (x : Int) (t : Int) ∈ (basF a.next).basis := by
      unfold basF
      rw [basR_iff]
      refine .inr ⟨s, row, g1, (x : Int), (t : Int), (), he, by simpa using h2, ?_, ?_⟩
      · rw [Nat.zero_add]; exact hno
      · rw [Nat.zero_add]
    exact .same (.gen (List.mem_map_of_mem hb)) (wordB_same hk hc hs ht' (by omega))
  obtain ⟨row, g1, g2, g3, g4, g5⟩ := getN_row hc hs hx
  rw [ht] at g3
  have ht' : t < a.next.length := by omega
  refine ⟨ht', ?_⟩
  by_cases hkey : ((s : Int), (x : Int)) ∈ (treeF a.next).keys
  · exact .same .one (tree_same hk hc ht hkey).symm
  · by_cases h2 : x % 2 = 0
    · exact even hs hx ht h2 hkey
    · have hb := back_of hc hs hx (by rw [ht]; omega)
      rw [ht, Int.toNat_natCast] at hb
      have hx1 : x ^^^ 1 < 2 * k.toNat := xor_lt (by omega) hx
      have hno : ((t : Int), ((x ^^^ 1 : Nat) : Int)) ∉ (treeF a.next).keys := fun hk' => by
        obtain ⟨_, hW, _⟩ := tree_ok hk hc
        obtain ⟨u', y', t', e1, e2, e3, e4, e5, e6, e7, e8, e9⟩ := hW.keyw _ _ hk'
        have e1 : t = u' := by omega
        have e2 : x ^^^ 1 = y' := by omega
        subst e1 e2
        rw [hb] at e4
        have e4 : s = t' := by omega
        subst e4
        rw [xor_two] at e7
        exact hkey e7
      have := even ht' hx1 hb (by rw [xor1, if_neg h2]; omega) hno
      have := mem_back this
      rwa [xor_two] at this
theorem path_zero (hk : k ≤ 8) (hc : a.check k = 0) : pathR' (treeF a.next) 0 = [] := by
  obtain ⟨_, hW, _⟩ := tree_ok hk hc
  unfold pathR' rawF
  rw [hW.zero]; rfl
theorem leads_bas (hk : k ≤ 8) (hc : a.check k = 0) : ∀ (l : List Nat) (s t : Nat), s < a.next.length → (∀ x ∈ l, x < 2 * k.toNat) → leadsF a.next l s = (t : Int) → Mem ((basF a.next).basis.map wordF) (pathR' (treeF a.next) s ++ l ++ inv (pathR' (treeF a.next) t))
  | [], s, t, hs, _, h => by
    simp only [leadsF] at h
    have : s = t := by omega
    subst this
    rw [List.append_nil]
    exact .same .one (same_inv _).symm
  | x :: l, s, t, hs, hl, h => by
    have hx := hl x (by simp)
    have hs' : leadsF a.next (x :: l) s = if getN a.next s x < 0 then getN a.next s x else leadsF a.next l (getN a.next s x).toNat := rfl
    rw [hs'] at h
    split at h
    · omega
    · rename_i hp
      obtain ⟨u, hu⟩ := Int.eq_ofNat_of_zero_le (show 0 ≤ getN a.next s x by omega)
      rw [hu, Int.toNat_natCast] at h
      obtain ⟨h1, h2⟩ := edge_bas hk hc hs hx hu
      have ih := leads_bas hk hc l u t h1 (fun y hy => hl y (by simp [hy])) h
      rw [List.append_assoc] at ih
      have := mem_mid h2 ih
      have e : pathR' (treeF a.next) s ++ [x] ++ (l ++ inv (pathR' (treeF a.next) t)) = pathR' (treeF a.next) s ++ x :: l ++ inv (pathR' (treeF a.next) t) := by simp
      rwa [e] at this
theorem reads_bas (hk : k ≤ 8) (hc : a.check k = 0) {l : List Nat} (hl : ∀ x ∈ l, x < 2 * k.toNat) (h : leadsF a.next l 0 = 0) : Mem ((basF a.next).basis.map wordF) l := by
  obtain ⟨_, _, n1, _⟩ := check_spec hc
  have := leads_bas hk hc l 0 0 n1 hl h
  rw [path_zero hk hc, List.nil_append] at this
  have e : inv ([] : List Nat) = [] := rfl
  rwa [e, List.append_nil] at this
end
end Go.Proofs.YtffdjfkekdoeaaaDoor.Pl
end
section
set_option linter.unusedVariables false
set_option linter.unusedSimpArgs false
set_option maxRecDepth 4000
set_option maxHeartbeats 2000000
namespace Go.Proofs.YtffdjfkekdoeaaaDoor.Pl
open Fo Rf Wd
section
variable {k : Int} {a : Aut}
def Dl (k : Int) (a : Aut) (s x t : Nat) : Prop := s < a.next.length ∧ x < 2 * k.toNat ∧ getN a.next s x = (t : Int)
theorem dl_aut (hk : k ≤ 8) (hc : a.check k = 0) : Aut' (Dl k a) where
  det := fun s x t t' h h' => by have h1 := h.2.2; have h2 := h'.2.2; rw [h1] at h2; omega
  inv := fun s x t ⟨h1, h2, h3⟩ => by
    have hb := back_of hc h1 h2 (by rw [h3]; omega)
    rw [h3, Int.toNat_natCast] at hb
    exact ⟨(edge_bas hk hc h1 h2 h3).1, xor_lt (by omega) h2, hb⟩
theorem leads_dl (hk : k ≤ 8) (hc : a.check k = 0) {s t : Nat} {l : List Nat} (h : Run (Dl k a) s l t) : leadsF a.next l s = (t : Int) := by
  induction h with
  | nil s => rfl
  | @cons s x u t l h1 _ ih =>
    have hs' : leadsF a.next (x :: l) s = if getN a.next s x < 0 then getN a.next s x else leadsF a.next l (getN a.next s x).toNat := rfl
    rw [hs', h1.2.2, if_neg (by omega), Int.toNat_natCast, ih]
theorem path_runs (hk : k ≤ 8) (hc : a.check k = 0) : ∀ (N v : Nat), v < a.next.length → ((treeF a.next).paths.getD v ⟨#[]⟩).data.toList.length ≤ N → Run (Dl k a) 0 (pathR' (treeF a.next) v) v := by
  obtain ⟨hT, hW, hseen⟩ := tree_ok hk hc
  intro N
  induction N with
  | zero =>
    intro v hv hl
    by_cases h0 : v = 0
    · subst h0; rw [path_zero hk hc]; exact .nil 0
    · obtain ⟨s, x, _, e, _⟩ := hW.last v (by omega) (by omega)
      rw [e] at hl; simp at hl
  | succ N ih =>
    intro v hv hl
    by_cases h0 : v = 0
    · subst h0; rw [path_zero hk hc]; exact .nil 0
    · obtain ⟨s, x, hx, e, hkey⟩ := hW.last v (by omega) (by omega)
      obtain ⟨u', y', t', e1, e2, e3, e4, e5, e6, e7, e8, e9⟩ := hW.keyw _ _ hkey
      have e1 : v = u' := by omega
      have e2 : x ^^^ 1 = y' := by omega
      subst e1 e2
      rw [xor_two] at e7 e8 e9
      rcases e9 with e9 | e9
      · exfalso
        have hr := hW.red _ (path_mem (T := treeF a.next) (s := t') (by rw [hT.len]; omega))
        rw [e9] at hr
        have := (RedL.inv hr).2
        rw [e, List.getLast?_append, other_L (xor16 hx), xor_two] at this
        exact this rfl
      · have hr := ih t' (by omega) (by rw [e9, List.length_append, List.length_singleton] at hl; omega)
        have hp : pathR' (treeF a.next) v = pathR' (treeF a.next) t' ++ [x] := by
          unfold pathR' rawF
          rw [e9, List.map_append, List.map_cons, ix_L hx]; rfl
        rw [hp]
        have hxm : x < 2 * k.toNat := by
          have := xor_lt (k := k.toNat) (by omega) e3
          rwa [xor_two] at this
        exact hr.app (.one ⟨by omega, hxm, e8⟩)
theorem bas_iff {next : List (List Int)} {b : ByteArray} (h : b ∈ (basF next).basis) : ∃ s row x t u, next[s]? = some row ∧ (x, t, u) ∈ edgesFrom 0 row ∧ b = wordB (treeF next) s x t := by
  unfold basF at h
  rw [basR_iff] at h
  rcases h with h | ⟨i, row, h1, x, t, u, h2, h3, h4, h5⟩
  · simp at h
  · rw [Nat.zero_add] at h5
    exact ⟨i, row, x, t, u, h1, h2, h5⟩
theorem bas_reads (hk : k ≤ 8) (hc : a.check k = 0) {b : ByteArray} (h : b ∈ (basF a.next).basis) : Run (Dl k a) 0 (rd (wordF b)) 0 := by
  obtain ⟨s, row, x, t, u, h1, h2, rfl⟩ := bas_iff h
  obtain ⟨i, g1, g2, g3⟩ := edges_mem row 0 _ h2
  dsimp only at g1 g2 g3
  rw [Nat.zero_add] at g2
  subst g2
  obtain ⟨nt, rfl⟩ := Int.eq_ofNat_of_zero_le g3
  have hs : s < a.next.length := (List.getElem?_eq_some_iff.1 h1).1
  obtain ⟨_, _, n1, n2, _, _, hrows⟩ := check_spec hc
  obtain ⟨r1, r2⟩ := hrows row (List.mem_of_getElem? h1)
  have hil := (List.getElem?_eq_some_iff.1 g1).1
  have hx : i < 2 * k.toNat := by omega
  have hg : getN a.next s i = (nt : Int) := by
    unfold getN
    rw [List.getD_eq_getElem?_getD (l := a.next), h1]
    show row.getD i 0 = _
    rw [List.getD_eq_getElem?_getD, g1]; rfl
  have ht := (edge_bas hk hc hs hx hg).1
  have hA := dl_aut hk hc
  have p1 := path_runs hk hc _ s hs (Nat.le_refl _)
  have p2 := path_runs hk hc _ nt ht (Nat.le_refl _)
  have p3 := ((p1.app (.one ⟨hs, hx, hg⟩)).app (p2.back hA)).rd hA
  rw [(wordB_same hk hc hs ht (by omega)).rd_eq]
  exact p3
end
end Go.Proofs.YtffdjfkekdoeaaaDoor.Pl
end
section
set_option linter.unusedVariables false
set_option linter.unusedSimpArgs false
set_option maxRecDepth 4000
set_option maxHeartbeats 2000000
namespace Go.Proofs.YtffdjfkekdoeaaaDoor.Pl
open Fo Rf Wd
theorem bas_both {k : Int} {gens : List ByteArray} {m : Nat} {nexts : List Row} (hf : Fit k gens) (h : Folded k.toNat gens (.ok m nexts)) :
    m = 2 * k.toNat ∧ (autE k.toNat nexts).check k = 0 ∧ (∀ l, Rd l → (∀ x ∈ l, x < 2 * k.toNat) → (leadsF (autE k.toNat nexts).next l 0 = 0 ↔ Mem (gens.map wordF) l)) ∧
      ∀ p, Mem (gens.map wordF) p ↔ Mem ((basF (autE k.toNat nexts).next).basis.map wordF) p := by
  obtain ⟨st, rows', o, i1, i2, i3, i4, ho⟩ := h.ok
  have hk1 := hf.k1
  have hk8 := hf.k8
  cases hoo : o with
  | none => rw [hoo] at ho; cases ho
  | some R =>
    rw [hoo] at ho
    simp only [resOf, FoldR.ok.injEq] at ho
    obtain ⟨rfl, rfl⟩ := ho
    obtain ⟨⟨K, h1⟩, h2⟩ := i4.yes _ hoo
    have hr := root_live i1 i3
    obtain ⟨q, hA⟩ := auto_of i4 hr h1
    have hck0 := good (k := k.toNat) ⟨by omega, by omega⟩ i4 hA h2 h1
    have hkk : ((k.toNat : Nat) : Int) = k := by omega
    rw [hkk] at hck0
    have hrd : ∀ l, Rd l → (∀ x ∈ l, x < 2 * k.toNat) → (leadsF (autE k.toNat nexts).next l 0 = 0 ↔ Mem (gens.map wordF) l) := fun l hl hx => reads i1 i3 i4 hA hl hx
    refine ⟨rfl, hck0, hrd, fun p => ⟨fun hp => ?_, fun hp => ?_⟩⟩
    · have hp' : Mem (gens.map wordF) (rd p) := .same hp (same_rd p).symm
      have hrun := (lang_cut i1 i4 (rd_rd p)).2 hp'
      have hlet : ∀ {s t : Nat} {l : List Nat}, Run (To rows') s l t → ∀ x ∈ l, x < 2 * k.toNat := fun hr => by
        induction hr with
        | nil _ => intro x hx; simp at hx
        | cons h1 _ ih =>
          intro x hx
          rcases List.mem_cons.1 hx with rfl | hx
          · exact h1.lt i4.wf
          · exact ih x hx
      have hx := hlet hrun
      exact .same (reads_bas hk8 hck0 hx ((hrd _ (rd_rd p) hx).2 hp')) (same_rd p)
    · refine Mem.sub (fun g hg => ?_) hp
      obtain ⟨b, hb, rfl⟩ := List.mem_map.1 hg
      have hrun := bas_reads hk8 hck0 hb
      have hlet : ∀ {s t : Nat} {l : List Nat}, Run (Dl k (autE k.toNat nexts)) s l t → ∀ x ∈ l, x < 2 * k.toNat := fun hr => by
        induction hr with
        | nil _ => intro x hx; simp at hx
        | cons h1 _ ih =>
          intro x hx
          rcases List.mem_cons.1 hx with rfl | hx
          · exact h1.2.1
          · exact ih x hx
      have hl := leads_dl hk8 hck0 hrun
      exact .same ((hrd _ (rd_rd _) (hlet hrun)).1 hl) (same_rd _)
end Go.Proofs.YtffdjfkekdoeaaaDoor.Pl
end
section
set_option linter.unusedVariables false
set_option linter.unusedSimpArgs false
set_option maxRecDepth 4000
set_option maxHeartbeats 2000000
namespace Go.Proofs.YtffdjfkekdoeaaaDoor.Pl
open Fo Rf Wd
def LetB (m : Nat) (l : List UInt8) : Prop := ∀ b ∈ l, ∃ x, x < m ∧ b = L x
theorem LetB.app {m : Nat} {a b : List UInt8} (h : LetB m a) (h' : LetB m b) : LetB m (a ++ b) := fun c hc => (List.mem_append.1 hc).elim (h c) (h' c)
theorem LetB.good {m : Nat} (hm : m ≤ 16) {l : List UInt8} (h : LetB m l) : Good l := fun b hb => by
  obtain ⟨x, h1, h2⟩ := h b hb; exact ⟨x, by omega, h2⟩
theorem L_127 : ∀ x : Fin 16, (L x.val).toNat ≤ 127 := by decide
theorem bad_L {k : Int} (hk : k ≤ 8) {x : Nat} (hx : x < 16) : badF k (ofB (L x)) = decide ((x : Int) ≥ 2 * k) := by
  have h1 := L_idx ⟨x, hx⟩
  have h2 := L_127 ⟨x, hx⟩
  dsimp only at h1 h2
  unfold badF
  rw [h1]
  have e1 : decide (ofB (L x) > 127) = false := by rw [decide_eq_false_iff_not]; unfold ofB; omega
  have e2 : decide ((x : Int) < 0) = false := by rw [decide_eq_false_iff_not]; omega
  rw [e1, e2]; rfl
theorem let_of {k : Int} {s : ByteArray} (h : checkF k s = 0) : LetB (2 * k.toNat) s.data.toList := fun b hb => by
  obtain ⟨x, hx, rfl⟩ := good_word h b hb
  obtain ⟨h1, h2, h3, h4⟩ := check_bad h
  unfold hasBad at h4
  rw [List.any_eq_false] at h4
  have h5 : badF k (ofB (L x)) = false := by
    have := h4 _ hb
    rw [Bool.not_eq_true] at this
    exact this
  rw [bad_L h2 hx] at h5
  have := of_decide_eq_false h5
  exact ⟨x, by omega, rfl⟩
theorem check_of {k : Int} (hk : 1 ≤ k ∧ k ≤ 8) {s : ByteArray} (hs : s.size ≤ 100000) (h : LetB (2 * k.toNat) s.data.toList) : checkF k s = 0 := by
  unfold checkF
  rw [if_neg (by omega), if_neg (by omega), if_neg]
  unfold hasBad
  rw [Bool.not_eq_true, List.any_eq_false]
  intro b hb
  obtain ⟨x, hx, rfl⟩ := h b hb
  have := bad_L hk.2 (x := x) (by omega)
  rw [Bool.not_eq_true]
  show badF k (ofB (L x)) = false
  rw [this]
  simp; omega
theorem check_cat {k : Int} {a b : ByteArray} (ha : checkF k a = 0) (hb : checkF k b = 0) (hs : a.size + b.size ≤ 100000) : checkF k (a ++ b) = 0 := by
  obtain ⟨h1, h2, _⟩ := check_bad ha
  refine check_of ⟨h1, h2⟩ ?_ (by rw [app_list]; exact (let_of ha).app (let_of hb))
  rw [size_list, app_list, List.length_append, ← size_list, ← size_list]; exact hs
theorem check_inv {k : Int} {s : ByteArray} (h : checkF k s = 0) : checkF k (InverseF s) = 0 ∧ (InverseF s).size = s.size := by
  obtain ⟨h1, h2, h3, _⟩ := check_bad h
  have h8 := (check8 h).1
  have hz : (InverseF s).size = s.size := by
    unfold InverseF
    rw [if_pos h8, size_list, size_list]
    unfold invF
    show ((s.data.toList.map otherB).reverse.toArray).toList.length = _
    rw [List.toList_toArray, List.length_reverse, List.length_map]
  refine ⟨check_of ⟨h1, h2⟩ (by omega) fun b hb => ?_, hz⟩
  unfold InverseF at hb
  rw [if_pos h8] at hb
  have hb : b ∈ (s.data.toList.map otherB).reverse := by
    have : b ∈ ((s.data.toList.map otherB).reverse.toArray).toList := hb
    rwa [List.toList_toArray] at this
  obtain ⟨c, hc, rfl⟩ := List.mem_map.1 (List.mem_reverse.1 hb)
  obtain ⟨x, hx, rfl⟩ := let_of h c hc
  exact ⟨x ^^^ 1, xor_lt (by omega) hx, other_L (by omega)⟩
end Go.Proofs.YtffdjfkekdoeaaaDoor.Pl
namespace Go.Proofs.YtffdjfkekdoeaaaDoor.Pl
open Fo Rf Wd
theorem run_let {k : Int} {a : Aut} {s t : Nat} {l : List Nat} (h : Run (Dl k a) s l t) : ∀ x ∈ l, x < 2 * k.toNat := by
  induction h with
  | nil _ => intro x hx; simp at hx
  | cons h1 _ ih =>
    intro x hx
    rcases List.mem_cons.1 hx with rfl | hx
    · exact h1.2.1
    · exact ih x hx
theorem path_let {k : Int} {a : Aut} (hk : k ≤ 8) (hc : a.check k = 0) {s : Nat} (hs : s < a.next.length) : LetB (2 * k.toNat) ((treeF a.next).paths.getD s ⟨#[]⟩).data.toList := fun b hb => by
  obtain ⟨x, hx, rfl⟩ := (path_good hk hc hs).1 b hb
  have := run_let (path_runs hk hc _ s hs (Nat.le_refl _)) x (by
    unfold pathR' rawF
    exact List.mem_map.2 ⟨_, hb, ix_L hx⟩)
  exact ⟨x, this, rfl⟩
theorem bas_check {k : Int} {a : Aut} (hk : 1 ≤ k ∧ k ≤ 8) (hc : a.check k = 0) {b : ByteArray} (h : b ∈ (basF a.next).basis) : checkF k b = 0 := by
  obtain ⟨s, row, x, t, u, h1, h2, rfl⟩ := bas_iff h
  obtain ⟨i, g1, g2, g3⟩ := edges_mem row 0 _ h2
  dsimp only at g1 g2 g3
  rw [Nat.zero_add] at g2
  subst g2
  obtain ⟨nt, rfl⟩ := Int.eq_ofNat_of_zero_le g3
  have hs : s < a.next.length := (List.getElem?_eq_some_iff.1 h1).1
  obtain ⟨_, _, n1, n2, _, _, hrows⟩ := check_spec hc
  obtain ⟨r1, r2⟩ := hrows row (List.mem_of_getElem? h1)
  have hil := (List.getElem?_eq_some_iff.1 g1).1
  have hx : i < 2 * k.toNat := by omega
  have ht : nt < a.next.length := by have := (r2 _ (List.mem_of_getElem? g1)).2; omega
  obtain ⟨_, c1, z1⟩ := path_good hk.2 hc hs
  obtain ⟨_, c2, z2⟩ := path_good hk.2 hc ht
  have l1 := path_let hk.2 hc hs
  have l2 := path_let hk.2 hc ht
  have k1 := check_of hk (by omega) l1
  have k2 := check_of hk (by omega) l2
  obtain ⟨k3, z3⟩ := check_inv k2
  have k4 : checkF k (letS (i : Int)) = 0 := by
    refine check_of hk ?_ fun b hb => ?_
    · rw [size_list, letS_list]; simp
    · rw [letS_list] at hb
      simp only [List.mem_singleton] at hb
      exact ⟨i, hx, hb⟩
  have z4 : (letS (i : Int)).size = 1 := by rw [size_list, letS_list]; rfl
  unfold wordB
  rw [Int.toNat_natCast]
  generalize (treeF a.next).paths.getD s ⟨#[]⟩ = A at *
  generalize (treeF a.next).paths.getD nt ⟨#[]⟩ = B at *
  have k5 := check_cat k1 k4 (by omega)
  have z5 : (A ++ letS (i : Int)).size = A.size + 1 := by rw [size_list, app_list, List.length_append, ← size_list, ← size_list, z4]
  have k6 := check_cat k5 k3 (by omega)
  have z6 : (A ++ letS (i : Int) ++ InverseF B).size = A.size + 1 + B.size := by rw [size_list, app_list, List.length_append, ← size_list, ← size_list, z5, z3]
  have h8 := (check8 k6).1
  have e : (ReduceF (A ++ letS (i : Int) ++ InverseF B)).data.toList = redF (A ++ letS (i : Int) ++ InverseF B).data.toList := by
    unfold ReduceF; rw [if_pos h8]
  have hlen := redF_len (A ++ letS (i : Int) ++ InverseF B).data.toList
  refine check_of hk ?_ ?_
  · rw [size_list, e]
    rw [← size_list] at hlen
    omega
  · rw [e]
    exact redFold_mem (P := fun b => ∃ x, x < 2 * k.toNat ∧ b = L x) _ [] (fun b hb => by simp at hb) (let_of k6)
end Go.Proofs.YtffdjfkekdoeaaaDoor.Pl
end
section
set_option linter.unusedVariables false
set_option linter.unusedSimpArgs false
set_option maxRecDepth 4000
set_option maxHeartbeats 2000000
namespace Go.Proofs.YtffdjfkekdoeaaaDoor.Pl
open Fo Rf Wd
theorem sizes_mem {l : List ByteArray} {s : ByteArray} (h : s ∈ l) : s.size ≤ sizes l := by
  induction l with
  | nil => simp at h
  | cons t l ih =>
    have e : sizes (t :: l) = t.size + sizes l := by simp [sizes]
    rw [e]
    rcases List.mem_cons.1 h with rfl | h
    · omega
    · have := ih h; omega
structure Moved (k : Int) (gens gens' : List ByteArray) : Prop where
  fit : Fit k gens'
  mem : ∀ p, Mem (gens.map wordF) p ↔ Mem (gens'.map wordF) p
section
variable {k : Int} {gens : List ByteArray} {i j : Nat} {a b : ByteArray}
end
end Go.Proofs.YtffdjfkekdoeaaaDoor.Pl
end
section
set_option linter.unusedVariables false
set_option maxRecDepth 10000
namespace Go.Proofs.YtffdjfkekdoeaaaDoor
open Fw
noncomputable def cayleylaw21_FoldNielsen.ann : Ann where
  loops := fun | _ => []
  joins := fun | 3 => some [(0, .sc (.int .i64)), (1, .sc .sl), (2, .sc (.int .i64)), (3, .sc (.int .i64)), (4, .sc (.int .i64))] | 18 => some [(0, .sc (.int .i64)), (11, .sc .adr), (13, .sc .sl)] | 22 => some [(0, .sc (.int .i64)), (11, .sc .adr), (16, .sc .sl)] | _ => none
noncomputable def cayleylaw21_FoldNielsen.body : Code := match Tryd.f4.body with | some c => c | none => .skip
def cayleylaw21_FoldNielsen.sh (p0 : Int) (p1 : Sl) (p2 : Int) (p3 : Int) (p4 : Int) (R : Ending → World → Prop) (w : World) : Prop :=
  Join (σ := Int × Sl × Int × Int × Int × Unit) (fun j3 g2 w28 =>
    CallN Tryd.prog 12 #[(.int .i64 j3.1), (.slice j3.2.1.a j3.2.1.n j3.2.1.c)] [.agg [.int .i64, .int .i64, .sl, .sl], .sc (.int .i64)] w28 (fun r29 w30 =>
      New w30 (.cells #[(.int .i64 0), (.int .i64 0), (.slice none 0 0), (.slice none 0 0)] 27) fun b32 w33 =>
      StoreN w33 (Addr.mk b32 0 none) [(.int .i64 r29.1.1), (.int .i64 r29.1.2.1), (.slice r29.1.2.2.1.a r29.1.2.2.1.n r29.1.2.2.1.c), (.slice r29.1.2.2.2.1.a r29.1.2.2.2.1.n r29.1.2.2.2.1.c)] fun w34 =>
      Br ((r29.2.1 : Int) != 0)
        (CallT Tryd.prog 14 #[] (.sc .bool) w34 (fun r35 w36 =>
          R (.returned (.bool r35)) w36) (fun h37 w36 => R (.panicked h37) w36))
        (New w34 (.cells #[] 9) fun b38 w39 =>
        RunT Tryd.prog (.sc .sl) (Builtin.append_ #[22, 22] 22 #[(.slice (some (Addr.mk b38 0 none)) 0 0), (.slice j3.2.1.a j3.2.1.n j3.2.1.c)]) w39 fun r40 w41 =>
        Join (σ := Int × Addr × Sl × Unit) (fun j44 g43 w85 =>
          CallN Tryd.prog 12 #[(.int .i64 j44.1), (.slice j44.2.2.1.a j44.2.2.1.n j44.2.2.1.c)] [.agg [.int .i64, .int .i64, .sl, .sl], .sc (.int .i64)] w85 (fun r86 w87 =>
            New w87 (.cells #[(.int .i64 0), (.int .i64 0), (.slice none 0 0), (.slice none 0 0)] 27) fun b89 w90 =>
            StoreN w90 (Addr.mk b89 0 none) [(.int .i64 r86.1.1), (.int .i64 r86.1.2.1), (.slice r86.1.2.2.1.a r86.1.2.2.1.n r86.1.2.2.1.c), (.slice r86.1.2.2.2.1.a r86.1.2.2.2.1.n r86.1.2.2.2.1.c)] fun w91 =>
            LoadT (.agg [.int .i64, .int .i64, .sl, .sl]) w91 j44.2.1 fun x92 =>
            CallN Tryd.prog 17 #[(.int .i64 j44.1), (.agg #[(.int .i64 x92.1), (.int .i64 x92.2.1), (.slice x92.2.2.1.a x92.2.2.1.n x92.2.2.1.c), (.slice x92.2.2.2.1.a x92.2.2.2.1.n x92.2.2.2.1.c)])] [.sc .sl, .sc (.int .i64)] w91 (fun r93 w94 =>
              Join (σ := Int × Addr × Sl × Unit) (fun j98 g97 w107 =>
                CallT Tryd.prog 11 #[(.slice j98.2.2.1.a j98.2.2.1.n j98.2.2.1.c), (.int .i64 20000)] (.sc .bool) w107 (fun r108 w109 =>
                  Br (!r108)
                    (R (.returned (.bool true)) w109)
                    (CallN Tryd.prog 12 #[(.int .i64 j98.1), (.slice j98.2.2.1.a j98.2.2.1.n j98.2.2.1.c)] [.agg [.int .i64, .int .i64, .sl, .sl], .sc (.int .i64)] w109 (fun r111 w112 =>
                      New w112 (.cells #[(.int .i64 0), (.int .i64 0), (.slice none 0 0), (.slice none 0 0)] 27) fun b114 w115 =>
                      StoreN w115 (Addr.mk b114 0 none) [(.int .i64 r111.1.1), (.int .i64 r111.1.2.1), (.slice r111.1.2.2.1.a r111.1.2.2.1.n r111.1.2.2.1.c), (.slice r111.1.2.2.2.1.a r111.1.2.2.2.1.n r111.1.2.2.2.1.c)] fun w116 =>
                      Br ((r111.2.1 : Int) == 0)
                        (LoadT (.agg [.int .i64, .int .i64, .sl, .sl]) w116 j98.2.1 fun x117 =>
                        LoadT (.agg [.int .i64, .int .i64, .sl, .sl]) w116 (Addr.mk b114 0 none) fun x118 =>
                        CallT Tryd.prog 15 #[(.agg #[(.int .i64 x117.1), (.int .i64 x117.2.1), (.slice x117.2.2.1.a x117.2.2.1.n x117.2.2.1.c), (.slice x117.2.2.2.1.a x117.2.2.2.1.n x117.2.2.2.1.c)]), (.agg #[(.int .i64 x118.1), (.int .i64 x118.2.1), (.slice x118.2.2.1.a x118.2.2.1.n x118.2.2.1.c), (.slice x118.2.2.2.1.a x118.2.2.2.1.n x118.2.2.2.1.c)])] (.sc .bool) w116 (fun r119 w120 =>
                          R (.returned (.bool r119)) w120) (fun h121 w120 => R (.panicked h121) w120))
                        (R (.returned (.bool false)) w116)) (fun h113 w112 => R (.panicked h113) w112))) (fun h110 w109 => R (.panicked h110) w109)) fun J96 =>
                CallT Tryd.prog 14 #[] (.sc .bool) w94 (fun r99 w100 =>
                  Br (!r99)
                    (Br true
                      (R (.returned (.bool false)) w100)
                      (J96 (j44.1, j44.2.1, r93.1, ()) w100))
                    (Br ((r86.2.1 : Int) != 0)
                      (Br true
                        (R (.returned (.bool false)) w100)
                        (J96 (j44.1, j44.2.1, r93.1, ()) w100))
                      (Br ((r93.2.1 : Int) != 0)
                        (Br true
                          (R (.returned (.bool false)) w100)
                          (J96 (j44.1, j44.2.1, r93.1, ()) w100))
                        (LoadT (.agg [.int .i64, .int .i64, .sl, .sl]) w100 j44.2.1 fun x102 =>
                        LoadT (.agg [.int .i64, .int .i64, .sl, .sl]) w100 (Addr.mk b89 0 none) fun x103 =>
                        CallT Tryd.prog 15 #[(.agg #[(.int .i64 x102.1), (.int .i64 x102.2.1), (.slice x102.2.2.1.a x102.2.2.1.n x102.2.2.1.c), (.slice x102.2.2.2.1.a x102.2.2.2.1.n x102.2.2.2.1.c)]), (.agg #[(.int .i64 x103.1), (.int .i64 x103.2.1), (.slice x103.2.2.1.a x103.2.2.1.n x103.2.2.1.c), (.slice x103.2.2.2.1.a x103.2.2.2.1.n x103.2.2.2.1.c)])] (.sc .bool) w100 (fun r104 w105 =>
                          Br (!r104)
                            (R (.returned (.bool false)) w105)
                            (J96 (j44.1, j44.2.1, r93.1, ()) w105)) (fun h106 w105 => R (.panicked h106) w105))))) (fun h101 w100 => R (.panicked h101) w100)) (fun h95 w94 => R (.panicked h95) w94)) (fun h88 w87 => R (.panicked h88) w87)) fun J42 =>
          Br (((Go.bits .and .i64 j3.2.2.2.2.1 3) : Int) == 0)
            (Idx j3.2.1.a j3.2.1.n 1 j3.2.2.1 fun a45 =>
            LoadT (.sc .str) w41 a45 fun x46 =>
            CallT Tryd.prog 16 #[(.string x46)] (.sc .str) w41 (fun r47 w48 =>
              Idx r40.a r40.n 1 j3.2.2.1 fun a50 =>
              Store1 w48 a50 (.string r47) fun w51 =>
              J42 (j3.1, (Addr.mk b32 0 none), r40, ()) w51) (fun h49 w48 => R (.panicked h49) w48))
            (Br (((Go.bits .and .i64 j3.2.2.2.2.1 3) : Int) == 1)
              (Idx j3.2.1.a j3.2.1.n 1 j3.2.2.1 fun a52 =>
              LoadT (.sc .str) w41.drew a52 fun x53 =>
              Idx j3.2.1.a j3.2.1.n 1 j3.2.2.2.1 fun a54 =>
              LoadT (.sc .str) w41.drew a54 fun x55 =>
              (((x53.size + x55.size : Nat) : Int) ≤ 9223372036854775807) ∧
              Idx r40.a r40.n 1 j3.2.2.1 fun a56 =>
              Store1 w41.drew a56 (.string (x53 ++ x55)) fun w57 =>
              Br (((Go.bits .and .i64 j3.2.2.2.2.1 4) : Int) != 0)
                (∃ S58 : World → Prop, S58 w57.drew ∧
                (Idx j3.2.1.a j3.2.1.n 1 j3.2.2.1 fun a59 =>
                LoadS S58 (.sc .str) a59 fun x60 =>
                Idx j3.2.1.a j3.2.1.n 1 j3.2.2.2.1 fun a61 =>
                LoadS S58 (.sc .str) a61 fun x62 =>
                CallT Tryd.prog 16 #[(.string x62)] (.sc .str) w57.drew (fun r63 w64 =>
                    S58 w64 ∧
                    ((((x60.size + r63.size : Nat) : Int) ≤ 9223372036854775807) ∧
                    Idx r40.a r40.n 1 j3.2.2.1 fun a66 =>
                    Store1 w64 a66 (.string (x60 ++ r63)) fun w67 =>
                      J42 (j3.1, (Addr.mk b32 0 none), r40, ()) w67)) (fun h65 w64 => R (.panicked h65) w64)))
                (J42 (j3.1, (Addr.mk b32 0 none), r40, ()) w57))
              (Br (((Go.bits .and .i64 j3.2.2.2.2.1 3) : Int) == 2)
                (Idx j3.2.1.a j3.2.1.n 1 j3.2.2.2.1 fun a68 =>
                LoadT (.sc .str) w41 a68 fun x69 =>
                Idx r40.a r40.n 1 j3.2.2.1 fun a70 =>
                Store1 w41 a70 (.string x69) fun w71 =>
                Idx j3.2.1.a j3.2.1.n 1 j3.2.2.1 fun a72 =>
                LoadT (.sc .str) w71 a72 fun x73 =>
                Idx r40.a r40.n 1 j3.2.2.2.1 fun a74 =>
                Store1 w71 a74 (.string x73) fun w75 =>
                J42 (j3.1, (Addr.mk b32 0 none), r40, ()) w75)
                (∃ S76 : World → Prop, S76 w41.drew ∧
                (Idx j3.2.1.a j3.2.1.n 1 j3.2.2.1 fun a77 =>
                LoadS S76 (.sc .str) a77 fun x78 =>
                Idx j3.2.1.a j3.2.1.n 1 j3.2.2.2.1 fun a79 =>
                LoadS S76 (.sc .str) a79 fun x80 =>
                (((x78.size + x80.size : Nat) : Int) ≤ 9223372036854775807) ∧
                New w41.drew (.cells #[(.string (x78 ++ x80))] 9) fun b81 w82 =>
                  S76 w82 ∧
                  (RunT Tryd.prog (.sc .sl) (Builtin.append_ #[22, 22] 22 #[(.slice r40.a r40.n r40.c), (.slice (some (Addr.mk b81 0 none)) 1 1)]) w82 fun r83 w84 =>
                    S76 w84 ∧
                    (J42 (j3.1, (Addr.mk b32 0 none), r83, ()) w84)))))))) (fun h31 w30 => R (.panicked h31) w30)) fun J1 =>
    CallT Tryd.prog 11 #[(.slice p1.a p1.n p1.c), (.int .i64 2000)] (.sc .bool) w (fun r4 w5 =>
      Br (!r4)
        (Br true
          (CallT Tryd.prog 14 #[] (.sc .bool) w5 (fun r7 w8 =>
            R (.returned (.bool r7)) w8) (fun h9 w8 => R (.panicked h9) w8))
          (J1 (p0, p1, p2, p3, p4, ()) w5))
        (Br (decide ((p2 : Int) < 0))
          (Br true
            (CallT Tryd.prog 14 #[] (.sc .bool) w5 (fun r10 w11 =>
              R (.returned (.bool r10)) w11) (fun h12 w11 => R (.panicked h12) w11))
            (J1 (p0, p1, p2, p3, p4, ()) w5))
          (Br (decide ((p3 : Int) < 0))
            (Br true
              (CallT Tryd.prog 14 #[] (.sc .bool) w5 (fun r13 w14 =>
                R (.returned (.bool r13)) w14) (fun h15 w14 => R (.panicked h15) w14))
              (J1 (p0, p1, p2, p3, p4, ()) w5))
            (Br (decide ((p2 : Int) ≥ ((p1.n : Nat) : Int)))
              (Br true
                (CallT Tryd.prog 14 #[] (.sc .bool) w5 (fun r16 w17 =>
                  R (.returned (.bool r16)) w17) (fun h18 w17 => R (.panicked h18) w17))
                (J1 (p0, p1, p2, p3, p4, ()) w5))
              (Br (decide ((p3 : Int) ≥ ((p1.n : Nat) : Int)))
                (Br true
                  (CallT Tryd.prog 14 #[] (.sc .bool) w5 (fun r19 w20 =>
                    R (.returned (.bool r19)) w20) (fun h21 w20 => R (.panicked h21) w20))
                  (J1 (p0, p1, p2, p3, p4, ()) w5))
                (Br ((p2 : Int) == p3)
                  (Br true
                    (CallT Tryd.prog 14 #[] (.sc .bool) w5 (fun r22 w23 =>
                      R (.returned (.bool r22)) w23) (fun h24 w23 => R (.panicked h24) w23))
                    (J1 (p0, p1, p2, p3, p4, ()) w5))
                  (Br (decide ((((p1.n : Nat) : Int) : Int) ≥ 200))
                    (CallT Tryd.prog 14 #[] (.sc .bool) w5 (fun r25 w26 =>
                      R (.returned (.bool r25)) w26) (fun h27 w26 => R (.panicked h27) w26))
                    (J1 (p0, p1, p2, p3, p4, ()) w5)))))))) (fun h6 w5 => R (.panicked h6) w5)
theorem cayleylaw21_FoldNielsen.eq (p0 : Int) (p1 : Sl) (p2 : Int) (p3 : Int) (p4 : Int) (R : Ending → World → Prop) (w : World) : cayleylaw21_FoldNielsen.sh p0 p1 p2 p3 p4 R w = wpc Tryd.prog cayleylaw21_FoldNielsen.ann cayleylaw21_FoldNielsen.body (fnKs Tryd.prog Tryd.f4 R) [] (env0 #[(.int .i64 p0), (.slice p1.a p1.n p1.c), (.int .i64 p2), (.int .i64 p3), (.int .i64 p4)]) w := by kernel_rfl
theorem cayleylaw21_FoldNielsen.calls (p0 : Int) (p1 : Sl) (p2 : Int) (p3 : Int) (p4 : Int) {R : Ending → World → Prop} {w : World} (h : cayleylaw21_FoldNielsen.sh p0 p1 p2 p3 p4 R w) : Calls Tryd.prog 4 #[(.int .i64 p0), (.slice p1.a p1.n p1.c), (.int .i64 p2), (.int .i64 p3), (.int .i64 p4)] w R :=
  calls_of_wpc mixed Tryd.func4 (by kernel_rfl) (by kernel_rfl) ((cayleylaw21_FoldNielsen.eq p0 p1 p2 p3 p4 R w).mp h)
noncomputable def cayleyref21_Product.ann : Ann where
  loops := fun | 3 => [(0, .sc .sl), (1, .sc .sl), (6, .sc .str), (7, .sc (.int .i64))] | _ => []
  joins := fun | 7 => some [(0, .sc .sl), (1, .sc .sl), (6, .sc .str), (7, .sc (.int .i64))] | 10 => some [(0, .sc .sl), (1, .sc .sl), (6, .sc .str), (7, .sc (.int .i64)), (8, .sc .str)] | _ => none
noncomputable def cayleyref21_Product.body : Code := match Tryd.f19.body with | some c => c | none => .skip
def cayleyref21_Product.sh (p0 : Sl) (p1 : Sl) (R : Ending → World → Prop) (w : World) : Prop :=
  LoopT (σ := Sl × Sl × ByteArray × Int × Unit) (p0, p1, (ByteArray.mk #[]), 0, ()) w fun l1 g2 w3 I4 =>
    Br (decide ((l1.2.2.2.1 : Int) < ((l1.2.1.n : Nat) : Int)))
      (Join (σ := Sl × Sl × ByteArray × Int × Unit) (fun j7 g6 w12 =>
        Idx j7.2.1.a j7.2.1.n 2 j7.2.2.2.1 fun a13 =>
        LoadT (.sc (.int .i64)) w12 (a13.add 0) fun x14 =>
        Idx j7.1.a j7.1.n 1 x14 fun a15 =>
        LoadT (.sc .str) w12 a15 fun x16 =>
        Join (σ := Sl × Sl × ByteArray × Int × ByteArray × Unit) (fun j19 g18 w25 =>
          (((j19.2.2.1.size + j19.2.2.2.2.1.size : Nat) : Int) ≤ 9223372036854775807) ∧
          CallT Tryd.prog 25 #[(.string (j19.2.2.1 ++ j19.2.2.2.2.1))] (.sc .str) w25 (fun r26 w27 =>
            I4 (j19.1, j19.2.1, r26, (IntKind.wrap .i64 (j19.2.2.2.1 + 1)), ()) w27) (fun h28 w27 => R (.panicked h28) w27)) fun J17 =>
          Idx j7.2.1.a j7.2.1.n 2 j7.2.2.2.1 fun a20 =>
          LoadT (.sc .bool) w12 (a20.add 1) fun x21 =>
          Br x21
            (CallT Tryd.prog 16 #[(.string x16)] (.sc .str) w12 (fun r22 w23 =>
              J17 (j7.1, j7.2.1, j7.2.2.1, j7.2.2.2.1, r22, ()) w23) (fun h24 w23 => R (.panicked h24) w23))
            (J17 (j7.1, j7.2.1, j7.2.2.1, j7.2.2.2.1, x16, ()) w12)) fun J5 =>
        Idx l1.2.1.a l1.2.1.n 2 l1.2.2.2.1 fun a8 =>
        LoadT (.sc (.int .i64)) w3 (a8.add 0) fun x9 =>
        Br (decide ((x9 : Int) < 0))
          (Br true
            (R (.returned (.tuple #[(.string (ByteArray.mk #[])), (.bool false)])) w3)
            (J5 (l1.1, l1.2.1, l1.2.2.1, l1.2.2.2.1, ()) w3))
          (Idx l1.2.1.a l1.2.1.n 2 l1.2.2.2.1 fun a10 =>
          LoadT (.sc (.int .i64)) w3 (a10.add 0) fun x11 =>
          Br (decide ((x11 : Int) ≥ ((l1.1.n : Nat) : Int)))
            (R (.returned (.tuple #[(.string (ByteArray.mk #[])), (.bool false)])) w3)
            (J5 (l1.1, l1.2.1, l1.2.2.1, l1.2.2.2.1, ()) w3)))
      (R (.returned (.tuple #[(.string l1.2.2.1), (.bool true)])) w3)
theorem cayleyref21_Product.eq (p0 : Sl) (p1 : Sl) (R : Ending → World → Prop) (w : World) : cayleyref21_Product.sh p0 p1 R w = wpc Tryd.prog cayleyref21_Product.ann cayleyref21_Product.body (fnKs Tryd.prog Tryd.f19 R) [] (env0 #[(.slice p0.a p0.n p0.c), (.slice p1.a p1.n p1.c)]) w := by kernel_rfl
theorem cayleyref21_Product.calls (p0 : Sl) (p1 : Sl) {R : Ending → World → Prop} {w : World} (h : cayleyref21_Product.sh p0 p1 R w) : Calls Tryd.prog 19 #[(.slice p0.a p0.n p0.c), (.slice p1.a p1.n p1.c)] w R :=
  calls_of_wpc mixed Tryd.func19 (by kernel_rfl) (by kernel_rfl) ((cayleyref21_Product.eq p0 p1 R w).mp h)
noncomputable def cayleyref21_Reduced.ann : Ann where
  loops := fun | 2 => [(0, .sc .sl), (3, .sc (.int .i64))] | _ => []
  joins := fun | _ => none
noncomputable def cayleyref21_Reduced.body : Code := match Tryd.f24.body with | some c => c | none => .skip
def cayleyref21_Reduced.sh (p0 : Sl) (R : Ending → World → Prop) (w : World) : Prop :=
  LoopT (σ := Sl × Int × Unit) (p0, 1, ()) w fun l1 g2 w3 I4 =>
    Br (decide ((l1.2.1 : Int) < ((l1.1.n : Nat) : Int)))
      (Idx l1.1.a l1.1.n 2 l1.2.1 fun a5 =>
      LoadT (.sc (.int .i64)) w3.drew (a5.add 0) fun x6 =>
      Idx l1.1.a l1.1.n 2 (IntKind.wrap .i64 (l1.2.1 - 1)) fun a7 =>
      LoadT (.sc (.int .i64)) w3.drew (a7.add 0) fun x8 =>
      Br ((x6 : Int) == x8)
        (Idx l1.1.a l1.1.n 2 l1.2.1 fun a9 =>
        LoadT (.sc .bool) w3.drew (a9.add 1) fun x10 =>
        Idx l1.1.a l1.1.n 2 (IntKind.wrap .i64 (l1.2.1 - 1)) fun a11 =>
        LoadT (.sc .bool) w3.drew (a11.add 1) fun x12 =>
        Br (!(x10 == x12))
          (R (.returned (.bool false)) w3.drew)
          (I4 (l1.1, (IntKind.wrap .i64 (l1.2.1 + 1)), ()) w3.drew))
        (Br false
          (R (.returned (.bool false)) w3.drew)
          (I4 (l1.1, (IntKind.wrap .i64 (l1.2.1 + 1)), ()) w3.drew)))
      (R (.returned (.bool true)) w3)
theorem cayleyref21_Reduced.eq (p0 : Sl) (R : Ending → World → Prop) (w : World) : cayleyref21_Reduced.sh p0 R w = wpc Tryd.prog cayleyref21_Reduced.ann cayleyref21_Reduced.body (fnKs Tryd.prog Tryd.f24 R) [] (env0 #[(.slice p0.a p0.n p0.c)]) w := by kernel_rfl
theorem cayleyref21_Reduced.calls (p0 : Sl) {R : Ending → World → Prop} {w : World} (h : cayleyref21_Reduced.sh p0 R w) : Calls Tryd.prog 24 #[(.slice p0.a p0.n p0.c)] w R :=
  calls_of_wpc mixed Tryd.func24 (by kernel_rfl) (by kernel_rfl) ((cayleyref21_Reduced.eq p0 R w).mp h)
noncomputable def cayleylaw21_FoldMembers.ann : Ann where
  loops := fun | _ => []
  joins := fun | 3 => some [(0, .sc (.int .i64)), (1, .sc .sl), (2, .sc .sl), (3, .sc .str)] | 13 => some [(0, .sc (.int .i64)), (3, .sc .str), (9, .sc .adr)] | _ => none
noncomputable def cayleylaw21_FoldMembers.body : Code := match Tryd.f5.body with | some c => c | none => .skip
def cayleylaw21_FoldMembers.sh (p0 : Int) (p1 : Sl) (p2 : Sl) (p3 : ByteArray) (R : Ending → World → Prop) (w : World) : Prop :=
  Join (σ := Int × Sl × Sl × ByteArray × Unit) (fun j3 g2 w7 =>
    CallN Tryd.prog 12 #[(.int .i64 j3.1), (.slice j3.2.1.a j3.2.1.n j3.2.1.c)] [.agg [.int .i64, .int .i64, .sl, .sl], .sc (.int .i64)] w7 (fun r8 w9 =>
      New w9 (.cells #[(.int .i64 0), (.int .i64 0), (.slice none 0 0), (.slice none 0 0)] 27) fun b11 w12 =>
      StoreN w12 (Addr.mk b11 0 none) [(.int .i64 r8.1.1), (.int .i64 r8.1.2.1), (.slice r8.1.2.2.1.a r8.1.2.2.1.n r8.1.2.2.1.c), (.slice r8.1.2.2.2.1.a r8.1.2.2.2.1.n r8.1.2.2.2.1.c)] fun w13 =>
      Br ((r8.2.1 : Int) != 0)
        (CallT Tryd.prog 14 #[] (.sc .bool) w13 (fun r14 w15 =>
          R (.returned (.bool r14)) w15) (fun h16 w15 => R (.panicked h16) w15))
        (LoadT (.agg [.int .i64, .int .i64, .sl, .sl]) w13 (Addr.mk b11 0 none) fun x17 =>
        CallT Tryd.prog 18 #[(.int .i64 j3.1), (.agg #[(.int .i64 x17.1), (.int .i64 x17.2.1), (.slice x17.2.2.1.a x17.2.2.1.n x17.2.2.1.c), (.slice x17.2.2.2.1.a x17.2.2.2.1.n x17.2.2.2.1.c)])] (.sc (.int .i64)) w13 (fun r18 w19 =>
          Br ((r18 : Int) != 0)
            (R (.returned (.bool false)) w19)
            (Join (σ := Int × ByteArray × Addr × Unit) (fun j23 g22 w31 =>
              LoadT (.agg [.int .i64, .int .i64, .sl, .sl]) w31 j23.2.2.1 fun x32 =>
              CallN Tryd.prog 17 #[(.int .i64 j23.1), (.agg #[(.int .i64 x32.1), (.int .i64 x32.2.1), (.slice x32.2.2.1.a x32.2.2.1.n x32.2.2.1.c), (.slice x32.2.2.2.1.a x32.2.2.2.1.n x32.2.2.2.1.c)])] [.sc .sl, .sc (.int .i64)] w31 (fun r33 w34 =>
                LoadT (.agg [.int .i64, .int .i64, .sl, .sl]) w34 j23.2.2.1 fun x36 =>
                CallN Tryd.prog 21 #[(.int .i64 j23.1), (.agg #[(.int .i64 x36.1), (.int .i64 x36.2.1), (.slice x36.2.2.1.a x36.2.2.1.n x36.2.2.1.c), (.slice x36.2.2.2.1.a x36.2.2.2.1.n x36.2.2.2.1.c)]), (.string j23.2.1)] [.sc .sl, .sc (.int .i64)] w34 (fun r37 w38 =>
                  Br ((r33.2.1 : Int) != 0)
                    (R (.returned (.bool false)) w38)
                    (CallT Tryd.prog 22 #[(.int .i64 j23.1), (.string j23.2.1)] (.sc .bool) w38 (fun r40 w41 =>
                      Br (!r40)
                        (CallT Tryd.prog 14 #[] (.sc .bool) w41 (fun r43 w44 =>
                          Br r43
                            (Br ((r37.2.1 : Int) == 4)
                              (R (.returned (.bool ((((r37.1.n : Nat) : Int) : Int) == 0))) w44)
                              (R (.returned (.bool false)) w44))
                            (R (.returned (.bool false)) w44)) (fun h45 w44 => R (.panicked h45) w44))
                        (LoadT (.agg [.int .i64, .int .i64, .sl, .sl]) w41 j23.2.2.1 fun x46 =>
                        CallT Tryd.prog 23 #[(.agg #[(.int .i64 x46.1), (.int .i64 x46.2.1), (.slice x46.2.2.1.a x46.2.2.1.n x46.2.2.1.c), (.slice x46.2.2.2.1.a x46.2.2.2.1.n x46.2.2.2.1.c)]), (.string j23.2.1)] (.sc (.int .i64)) w41 (fun r47 w48 =>
                          Br ((r47 : Int) != 0)
                            (CallT Tryd.prog 14 #[] (.sc .bool) w48 (fun r50 w51 =>
                              Br r50
                                (Br ((r37.2.1 : Int) == 211)
                                  (R (.returned (.bool ((((r37.1.n : Nat) : Int) : Int) == 0))) w51)
                                  (R (.returned (.bool false)) w51))
                                (R (.returned (.bool false)) w51)) (fun h52 w51 => R (.panicked h52) w51))
                            (CallN Tryd.prog 19 #[(.slice r33.1.a r33.1.n r33.1.c), (.slice r37.1.a r37.1.n r37.1.c)] [.sc .str, .sc .bool] w48 (fun r53 w54 =>
                              CallT Tryd.prog 14 #[] (.sc .bool) w54 (fun r56 w57 =>
                                Br r56
                                  (Br ((r37.2.1 : Int) == 0)
                                    (Br r53.2.1
                                      (CallT Tryd.prog 24 #[(.slice r37.1.a r37.1.n r37.1.c)] (.sc .bool) w57 (fun r59 w60 =>
                                        Br r59
                                          (CallT Tryd.prog 25 #[(.string j23.2.1)] (.sc .str) w60 (fun r62 w63 =>
                                            R (.returned (.bool (r53.1.toList == r62.toList))) w63) (fun h64 w63 => R (.panicked h64) w63))
                                          (R (.returned (.bool false)) w60)) (fun h61 w60 => R (.panicked h61) w60))
                                      (R (.returned (.bool false)) w57))
                                    (R (.returned (.bool false)) w57))
                                  (R (.returned (.bool false)) w57)) (fun h58 w57 => R (.panicked h58) w57)) (fun h55 w54 => R (.panicked h55) w54))) (fun h49 w48 => R (.panicked h49) w48))) (fun h42 w41 => R (.panicked h42) w41))) (fun h39 w38 => R (.panicked h39) w38)) (fun h35 w34 => R (.panicked h35) w34)) fun J21 =>
              CallN Tryd.prog 19 #[(.slice j3.2.1.a j3.2.1.n j3.2.1.c), (.slice j3.2.2.1.a j3.2.2.1.n j3.2.2.1.c)] [.sc .str, .sc .bool] w19 (fun r24 w25 =>
                Br r24.2.1
                  (LoadT (.agg [.int .i64, .int .i64, .sl, .sl]) w25 (Addr.mk b11 0 none) fun x27 =>
                  CallN Tryd.prog 20 #[(.int .i64 j3.1), (.agg #[(.int .i64 x27.1), (.int .i64 x27.2.1), (.slice x27.2.2.1.a x27.2.2.1.n x27.2.2.1.c), (.slice x27.2.2.2.1.a x27.2.2.2.1.n x27.2.2.2.1.c)]), (.string r24.1)] [.sc .bool, .sc (.int .i64)] w25 (fun r28 w29 =>
                    Br ((r28.2.1 : Int) != 0)
                      (Br true
                        (R (.returned (.bool false)) w29)
                        (J21 (j3.1, j3.2.2.2.1, (Addr.mk b11 0 none), ()) w29))
                      (Br (!r28.1)
                        (R (.returned (.bool false)) w29)
                        (J21 (j3.1, j3.2.2.2.1, (Addr.mk b11 0 none), ()) w29))) (fun h30 w29 => R (.panicked h30) w29))
                  (J21 (j3.1, j3.2.2.2.1, (Addr.mk b11 0 none), ()) w25)) (fun h26 w25 => R (.panicked h26) w25))) (fun h20 w19 => R (.panicked h20) w19))) (fun h10 w9 => R (.panicked h10) w9)) fun J1 =>
    CallT Tryd.prog 11 #[(.slice p1.a p1.n p1.c), (.int .i64 1000)] (.sc .bool) w (fun r4 w5 =>
      Br (!r4)
        (Br true
          (R (.returned (.bool true)) w5)
          (J1 (p0, p1, p2, p3, ()) w5))
        (Br (decide ((((p2.n : Nat) : Int) : Int) > 40))
          (Br true
            (R (.returned (.bool true)) w5)
            (J1 (p0, p1, p2, p3, ()) w5))
          (Br (decide ((((p3.size : Nat) : Int) : Int) > 400))
            (R (.returned (.bool true)) w5)
            (J1 (p0, p1, p2, p3, ()) w5)))) (fun h6 w5 => R (.panicked h6) w5)
theorem cayleylaw21_FoldMembers.eq (p0 : Int) (p1 : Sl) (p2 : Sl) (p3 : ByteArray) (R : Ending → World → Prop) (w : World) : cayleylaw21_FoldMembers.sh p0 p1 p2 p3 R w = wpc Tryd.prog cayleylaw21_FoldMembers.ann cayleylaw21_FoldMembers.body (fnKs Tryd.prog Tryd.f5 R) [] (env0 #[(.int .i64 p0), (.slice p1.a p1.n p1.c), (.slice p2.a p2.n p2.c), (.string p3)]) w := by kernel_rfl
theorem cayleylaw21_FoldMembers.calls (p0 : Int) (p1 : Sl) (p2 : Sl) (p3 : ByteArray) {R : Ending → World → Prop} {w : World} (h : cayleylaw21_FoldMembers.sh p0 p1 p2 p3 R w) : Calls Tryd.prog 5 #[(.int .i64 p0), (.slice p1.a p1.n p1.c), (.slice p2.a p2.n p2.c), (.string p3)] w R :=
  calls_of_wpc mixed Tryd.func5 (by kernel_rfl) (by kernel_rfl) ((cayleylaw21_FoldMembers.eq p0 p1 p2 p3 R w).mp h)
end Go.Proofs.YtffdjfkekdoeaaaDoor
end
section
set_option linter.unusedVariables false
set_option linter.unusedSimpArgs false
set_option maxRecDepth 8000
set_option maxHeartbeats 4000000
namespace Go.Proofs.YtffdjfkekdoeaaaDoor.Fo
open Fw Wd Rf Pl
theorem rdS {w : World} {x : Sl} {l : List ByteArray} (h : RdT w tS x l) {i : Int} {s : ByteArray} (h0 : 0 ≤ i) (hs : l[i.toNat]? = some s) {K : Addr → Prop} (k : ∀ a, (∀ W, Chg Nil w W → W.cell? a = some (.string s)) → K a) : Idx x.a x.n 1 i K :=
  h.idx (t := tS) i.toNat (by omega) hs fun a ha => k a fun W hW => hW.cell (by have := ha 0 _ rfl; rwa [add0] at this) fun h => h
theorem foldIs_err {k : Int} {gens : List ByteArray} {c : Int} (h : FoldIs k gens (.err c)) : c ≠ 0 := by
  cases h with
  | arg _ => decide
  | limit _ _ => decide
  | form _ _ _ => decide
  | fit hf hh =>
    obtain ⟨st, rows', o, i1, i2, i3, i4, ho⟩ := hh.ok
    cases hoo : o with
    | none => rw [hoo] at ho; cases ho; decide
    | some nx => rw [hoo] at ho; cases ho
theorem foldIs_ok {k : Int} {gens : List ByteArray} {m : Nat} {nexts : List Row} (h : FoldIs k gens (.ok m nexts)) : Fit k gens ∧ Folded k.toNat gens (.ok m nexts) := by
  cases h with
  | fit hf hh => exact ⟨hf, hh⟩
theorem foldIs_zero {k : Int} {gens : List ByteArray} {res : FoldR} (h : FoldIs k gens res) (h0 : (autR res).2 = 0) : ∃ m nexts, res = .ok m nexts ∧ Fit k gens ∧ Folded k.toNat gens (.ok m nexts) := by
  cases res with
  | ok m nexts => exact ⟨m, nexts, rfl, foldIs_ok h⟩
  | err c => exact absurd h0 (foldIs_err h)
end Go.Proofs.YtffdjfkekdoeaaaDoor.Fo
end
