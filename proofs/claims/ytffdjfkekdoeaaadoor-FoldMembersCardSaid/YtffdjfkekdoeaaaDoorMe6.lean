/- Parts of a proof, laid one behind the other by our own merge.py: PlProd LwProd RfLead LwMembers LwFacs. -/
import Derived.Test.YtffdjfkekdoeaaaDoorMe5
import Derived.Test.YtffdjfkekdoeaaaDoorMe3
import Derived.Deep.SlicePairs
section
set_option linter.unusedVariables false
set_option linter.unusedSimpArgs false
set_option maxRecDepth 4000
set_option maxHeartbeats 2000000
namespace Go.Proofs.YtffdjfkekdoeaaaDoor.Pl
open Fo Rf Wd
abbrev Fac := Int × Bool × Unit
def facB (basis : List ByteArray) (f : Fac) : ByteArray := if f.2.1 = true then InverseF (basis.getD f.1.toNat ⟨#[]⟩) else basis.getD f.1.toNat ⟨#[]⟩
def prodS (basis : List ByteArray) : List Fac → ByteArray → Option ByteArray
  | [], out => some out
  | f :: l, out => if f.1 < 0 ∨ f.1 ≥ (basis.length : Int) then none else prodS basis l (ReduceF (out ++ facB basis f))
def redF' : List Fac → Bool
  | f :: g :: l => !(g.1 == f.1 && (g.2.1 != f.2.1)) && redF' (g :: l)
  | _ => true
theorem reduce_spec {k : Int} {s : ByteArray} (h : checkF k s = 0) : checkF k (ReduceF s) = 0 ∧ (ReduceF s).size ≤ s.size ∧ rawF (ReduceF s) = wordF s := by
  obtain ⟨h1, h2, h3, _⟩ := check_bad h
  have h8 := (check8 h).1
  have e : (ReduceF s).data.toList = redF s.data.toList := by unfold ReduceF; rw [if_pos h8]
  have hz : (ReduceF s).size ≤ s.size := by
    rw [size_list, size_list, e]
    have := redFold_len s.data.toList []
    simpa [redF] using this
  refine ⟨check_of ⟨h1, h2⟩ (by omega) fun b hb => ?_, hz, ?_⟩
  · rw [e] at hb
    have hl := let_of h
    exact redFold_mem (P := fun b => ∃ x, x < 2 * k.toNat ∧ b = L x) s.data.toList [] (by simp) hl b hb
  · unfold rawF
    rw [e]; rfl
theorem size_raw (s : ByteArray) : (rawF s).length = s.size := by unfold rawF; rw [List.length_map, size_list]
theorem raw_inj {s t : ByteArray} (hs : Good s.data.toList) (ht : Good t.data.toList) (h : rawF s = rawF t) : s = t := by
  have key : ∀ (a b : List UInt8), Good a → Good b → a.map ix = b.map ix → a = b := by
    intro a
    induction a with
    | nil => intro b _ _ h; cases b with
      | nil => rfl
      | cons c b => simp at h
    | cons c a ih =>
      intro b ha hb h
      cases b with
      | nil => simp at h
      | cons d b =>
        simp only [List.map_cons, List.cons.injEq] at h
        obtain ⟨x, hx, rfl⟩ := ha c (by simp)
        obtain ⟨y, hy, rfl⟩ := hb d (by simp)
        rw [ix_L hx, ix_L hy] at h
        rw [h.1, ih b (fun e he => ha e (by simp [he])) (fun e he => hb e (by simp [he])) h.2]
  have := key _ _ hs ht h
  cases s with
  | mk s => cases t with
    | mk t => cases s with
      | mk s => cases t with
        | mk t => simp only at this; rw [this]
theorem prod_mem {k : Int} (hk : 1 ≤ k ∧ k ≤ 8) {gens : List ByteArray} {B : Nat} (hw : ∀ s ∈ gens, checkF k s = 0 ∧ s.size ≤ B) : ∀ (l : List Fac) (out v : ByteArray), checkF k out = 0 → out.size + l.length * B ≤ 100000 → Mem (gens.map wordF) (wordF out) → prodS gens l out = some v →
    checkF k v = 0 ∧ Mem (gens.map wordF) (wordF v)
  | [], out, v, h1, h2, h3, h => by
    simp only [prodS, Option.some.injEq] at h
    subst h; exact ⟨h1, h3⟩
  | f :: l, out, v, h1, h2, h3, h => by
    simp only [prodS] at h
    split at h
    · cases h
    · rename_i hf
      have hlt : f.1.toNat < gens.length := by omega
      have hm : gens.getD f.1.toNat ⟨#[]⟩ ∈ gens := by rw [getD_get hlt]; exact List.getElem_mem hlt
      obtain ⟨w1, w2⟩ := hw _ hm
      have hfac : checkF k (facB gens f) = 0 ∧ (facB gens f).size ≤ B ∧ Mem (gens.map wordF) (wordF (facB gens f)) := by
        unfold facB
        split
        · obtain ⟨c1, c2⟩ := check_inv w1
          exact ⟨c1, by omega, .same (mem_of hm).neg (word_inv (good_word w1) (check8 w1).1).2.symm⟩
        · exact ⟨w1, w2, mem_of hm⟩
      obtain ⟨c1, c2, c3⟩ := hfac
      rw [List.length_cons, Nat.add_mul] at h2
      have hcat := check_cat h1 c1 (by omega)
      have zc : (out ++ facB gens f).size = out.size + (facB gens f).size := by rw [size_list, app_list, List.length_append, ← size_list, ← size_list]
      obtain ⟨r1, r2, r3⟩ := reduce_spec hcat
      refine prod_mem hk hw l _ v r1 (by omega) ?_ h
      refine .same (Mem.cat (good_word h1) (good_word c1) h3 c3) ?_
      refine Same.trans ?_ (same_raw (good_word r1)).symm
      rw [r3]; exact Same.refl _
def facR (basis : List ByteArray) (f : Fac) : List Nat := if f.2.1 = true then inv (rawF (basis.getD f.1.toNat ⟨#[]⟩)) else rawF (basis.getD f.1.toNat ⟨#[]⟩)
theorem prod_raw {basis : List ByteArray} (hw : ∀ s ∈ basis, checkF 8 s = 0 ∧ s.size ≤ 5000) : ∀ (l : List Fac) (out : ByteArray), checkF 8 out = 0 → Rd (rawF out) → (∀ f ∈ l, 0 ≤ f.1 ∧ f.1 < (basis.length : Int)) →
    (∀ n, (act (rawF out) ((l.take n).flatMap (facR basis))).length ≤ 50000) → ∃ v, prodS basis l out = some v ∧ checkF 8 v = 0 ∧ rawF v = act (rawF out) (l.flatMap (facR basis))
  | [], out, h1, h2, _, h => ⟨out, rfl, h1, rfl⟩
  | f :: l, out, h1, h2, h3, h => by
    obtain ⟨f0, f1⟩ := h3 f (by simp)
    have hlt : f.1.toNat < basis.length := by omega
    have hm : basis.getD f.1.toNat ⟨#[]⟩ ∈ basis := by rw [getD_get hlt]; exact List.getElem_mem hlt
    obtain ⟨w1, w2⟩ := hw _ hm
    have hfac : checkF 8 (facB basis f) = 0 ∧ (facB basis f).size ≤ 5000 ∧ rawF (facB basis f) = facR basis f := by
      unfold facB facR
      split
      · obtain ⟨c1, c2⟩ := check_inv w1
        exact ⟨c1, by omega, raw_inv (good_word w1) w1⟩
      · exact ⟨w1, w2, rfl⟩
    obtain ⟨c1, c2, c3⟩ := hfac
    have h0 := h 0
    simp only [List.take_zero, List.flatMap_nil] at h0
    have hout : out.size ≤ 50000 := by rw [← size_raw]; exact h0
    have hcat := check_cat h1 c1 (by omega)
    obtain ⟨r1, r2, r3⟩ := reduce_spec hcat
    have hraw : rawF (ReduceF (out ++ facB basis f)) = act (rawF out) (facR basis f) := by
      rw [r3, word_raw (good_word hcat), raw_app, c3]
      unfold rd
      rw [act_app]
      show act (rd (rawF out)) _ = _
      rw [h2.self]
    have hs : prodS basis (f :: l) out = prodS basis l (ReduceF (out ++ facB basis f)) := by
      simp only [prodS]; rw [if_neg (by omega)]
    obtain ⟨v, p1, p2, p3⟩ := prod_raw hw l (ReduceF (out ++ facB basis f)) r1 (by rw [hraw]; exact act_rd h2 _) (fun g hg => h3 g (by simp [hg])) fun n => by
      have := h (n + 1)
      rw [List.take_succ_cons, List.flatMap_cons, act_app] at this
      rw [hraw]; exact this
    refine ⟨v, by rw [hs]; exact p1, p2, ?_⟩
    rw [p3, hraw, List.flatMap_cons, act_app]
def entE (T : Tree) (s : Nat) : List (Int × Int × Unit) → List ((Int × Int) × ByteArray)
  | [] => []
  | (x, t, _) :: l => (if x.toNat % 2 = 0 ∧ ((s : Int), x) ∉ T.keys then [(((s : Int), x), wordB T s x t)] else []) ++ entE T s l
def entR (T : Tree) : Nat → List (List Int) → List ((Int × Int) × ByteArray)
  | _, [] => []
  | s, row :: l => entE T s (edgesFrom 0 row) ++ entR T (s + 1) l
theorem basE_ent (T : Tree) (s : Nat) : ∀ (l : List (Int × Int × Unit)) (B : Bas), (basE T s l B).number = B.number ++ (entE T s l).map (·.1) ∧ (basE T s l B).basis = B.basis ++ (entE T s l).map (·.2)
  | [], B => by simp [basE, entE]
  | (x, t, u) :: l, B => by
    simp only [basE, entE]
    split
    · obtain ⟨h1, h2⟩ := basE_ent T s l ⟨B.number ++ [((s : Int), x)], B.basis ++ [wordB T s x t]⟩
      have h1 : (basE T s l ⟨B.number ++ [((s : Int), x)], B.basis ++ [ReduceF (T.paths.getD s ⟨#[]⟩ ++ letS x ++ InverseF (T.paths.getD t.toNat ⟨#[]⟩))]⟩).number = _ := h1
      have h2 : (basE T s l ⟨B.number ++ [((s : Int), x)], B.basis ++ [ReduceF (T.paths.getD s ⟨#[]⟩ ++ letS x ++ InverseF (T.paths.getD t.toNat ⟨#[]⟩))]⟩).basis = _ := h2
      rw [h1, h2]; simp
    · obtain ⟨h1, h2⟩ := basE_ent T s l B
      rw [h1, h2]; simp
theorem basR_ent (T : Tree) : ∀ (l : List (List Int)) (s : Nat) (B : Bas), (basR T s l B).number = B.number ++ (entR T s l).map (·.1) ∧ (basR T s l B).basis = B.basis ++ (entR T s l).map (·.2)
  | [], s, B => by simp [basR, entR]
  | row :: l, s, B => by
    obtain ⟨h1, h2⟩ := basR_ent T l (s + 1) (basE T s (edgesFrom 0 row) B)
    obtain ⟨h3, h4⟩ := basE_ent T s (edgesFrom 0 row) B
    simp only [basR, entR]
    rw [h1, h2, h3, h4]; simp
theorem entE_iff {T : Tree} {s : Nat} {e : (Int × Int) × ByteArray} : ∀ {l : List (Int × Int × Unit)}, e ∈ entE T s l ↔ ∃ x t u, (x, t, u) ∈ l ∧ x.toNat % 2 = 0 ∧ ((s : Int), x) ∉ T.keys ∧ e = (((s : Int), x), wordB T s x t)
  | [] => by simp [entE]
  | (x, t, u) :: l => by
    simp only [entE, List.mem_append, entE_iff (l := l)]
    constructor
    · rintro (h | ⟨x', t', u', h1, h2⟩)
      · split at h
        · rename_i hc
          simp only [List.mem_singleton] at h
          exact ⟨x, t, u, by simp, hc.1, hc.2, h⟩
        · simp at h
      · exact ⟨x', t', u', by simp [h1], h2⟩
    · rintro ⟨x', t', u', h1, h2, h3, h4⟩
      rcases List.mem_cons.1 h1 with h1 | h1
      · simp only [Prod.mk.injEq] at h1
        obtain ⟨rfl, rfl, _⟩ := h1
        rw [if_pos ⟨h2, h3⟩]
        exact .inl (by simp [h4])
      · exact .inr ⟨x', t', u', h1, h2, h3, h4⟩
theorem entR_iff {T : Tree} {e : (Int × Int) × ByteArray} : ∀ {l : List (List Int)} {s : Nat}, e ∈ entR T s l ↔ ∃ i row, l[i]? = some row ∧ ∃ x t u, (x, t, u) ∈ edgesFrom 0 row ∧ x.toNat % 2 = 0 ∧ (((s + i : Nat) : Int), x) ∉ T.keys ∧ e = ((((s + i : Nat) : Int), x), wordB T (s + i) x t)
  | [], s => by simp [entR]
  | row :: l, s => by
    simp only [entR, List.mem_append, entE_iff, entR_iff (l := l)]
    constructor
    · rintro (h | ⟨i, r, h1, h2⟩)
      · exact ⟨0, row, rfl, h⟩
      · refine ⟨i + 1, r, h1, ?_⟩
        rwa [show s + (i + 1) = s + 1 + i by omega]
    · rintro ⟨i, r, h1, h2⟩
      cases i with
      | zero =>
        simp only [List.getElem?_cons_zero, Option.some.injEq] at h1
        subst h1; exact .inl h2
      | succ i =>
        refine .inr ⟨i, r, h1, ?_⟩
        rwa [show s + 1 + i = s + (i + 1) by omega]
section
variable {k : Int} {a : Aut}
theorem num_at (hk : k ≤ 8) (hc : a.check k = 0) {s x t : Nat} (hs : s < a.next.length) (hx : x < 2 * k.toNat) (ht : getN a.next s x = (t : Int)) (h2 : x % 2 = 0) :
    (((s : Int), (x : Int)) ∈ (basF a.next).number ↔ ((s : Int), (x : Int)) ∉ (treeF a.next).keys) ∧
    (((s : Int), (x : Int)) ∈ (basF a.next).number → (basF a.next).number.idxOf ((s : Int), (x : Int)) < (basF a.next).basis.length ∧
      (basF a.next).basis.getD ((basF a.next).number.idxOf ((s : Int), (x : Int))) ⟨#[]⟩ = wordB (treeF a.next) s (x : Int) (t : Int)) := by
  obtain ⟨e1, e2⟩ := basR_ent (treeF a.next) a.next 0 ⟨[], []⟩
  have e1 : (basF a.next).number = (entR (treeF a.next) 0 a.next).map (·.1) := by simpa [basF] using e1
  have e2 : (basF a.next).basis = (entR (treeF a.next) 0 a.next).map (·.2) := by simpa [basF] using e2
  obtain ⟨row, g1, g2, g3, g4, g5⟩ := getN_row hc hs hx
  rw [ht] at g3
  have val : ∀ e ∈ entR (treeF a.next) 0 a.next, e.1 = ((s : Int), (x : Int)) → ((s : Int), (x : Int)) ∉ (treeF a.next).keys ∧ e.2 = wordB (treeF a.next) s (x : Int) (t : Int) := fun e he h1 => by
    obtain ⟨i, r, q1, x', t', u', q2, q3, q4, rfl⟩ := entR_iff.1 he
    simp only [Prod.mk.injEq, Nat.zero_add] at h1 q4 ⊢
    obtain ⟨h1, rfl⟩ := h1
    have : i = s := by omega
    subst this
    rw [g1] at q1; cases q1
    have hv := (edges_val row 0 _ _ _ q2).1
    have hv : row.getD x 0 = t' := by simpa using hv
    refine ⟨q4, ?_⟩
    rw [← hv, ← g3]
  refine ⟨⟨fun h => ?_, fun h => ?_⟩, fun h => ?_⟩
  · rw [e1] at h
    obtain ⟨e, he, h1⟩ := List.mem_map.1 h
    exact (val e he h1).1
  · have he := edges_of row 0 x g2 (by omega)
    rw [Nat.zero_add, ← g3] at he
    rw [e1]
    refine List.mem_map.2 ⟨_, entR_iff.2 ⟨s, row, g1, (x : Int), (t : Int), (), he, by simpa using h2, by rw [Nat.zero_add]; exact h, rfl⟩, by simp⟩
  · have hlt := List.idxOf_lt_length_iff.2 h
    have hlen : (basF a.next).number.length = (entR (treeF a.next) 0 a.next).length := by rw [e1, List.length_map]
    have hlen2 : (basF a.next).basis.length = (entR (treeF a.next) 0 a.next).length := by rw [e2, List.length_map]
    refine ⟨by omega, ?_⟩
    have hg := List.getElem_idxOf hlt
    generalize (basF a.next).number.idxOf ((s : Int), (x : Int)) = i at *
    have hi : i < (entR (treeF a.next) 0 a.next).length := by omega
    have hv := val _ (List.getElem_mem hi) (by
      have : (basF a.next).number[i]? = some ((s : Int), (x : Int)) := by rw [List.getElem?_eq_getElem hlt, hg]
      rw [e1, List.getElem?_map, List.getElem?_eq_getElem hi] at this
      simpa using this)
    rw [List.getD_eq_getElem?_getD, e2, List.getElem?_map, List.getElem?_eq_getElem hi]
    exact hv.2
theorem key_back (hk : k ≤ 8) (hc : a.check k = 0) {s x t : Nat} (ht : getN a.next s x = (t : Int)) (h : ((s : Int), (x : Int)) ∈ (treeF a.next).keys) : ((t : Int), ((x ^^^ 1 : Nat) : Int)) ∈ (treeF a.next).keys := by
  obtain ⟨_, hW, _⟩ := tree_ok hk hc
  obtain ⟨u', y', t', e1, e2, e3, e4, e5, e6, e7, e8, e9⟩ := hW.keyw _ _ h
  have e1 : s = u' := by omega
  have e2 : x = y' := by omega
  subst e1 e2
  rw [ht] at e4
  have e4 : t = t' := by omega
  subst e4
  exact e7
theorem inv_mid (P Q : List Nat) (x : Nat) : inv (P ++ [x] ++ inv Q) = Q ++ [x ^^^ 1] ++ inv P := by
  rw [inv_app, inv_app, inv_inv]
  show Q ++ ([x ^^^ 1] ++ inv P) = _
  simp
def fac1 (next : List (List Int)) (num : List (Int × Int)) (s x : Nat) : List Fac :=
  if keyF s x (getN next s x) ∈ num then [(((num.idxOf (keyF s x (getN next s x)) : Nat) : Int), decide (x % 2 = 1), ())] else []
theorem fac_step (hk : k ≤ 8) (hc : a.check k = 0) {s x t : Nat} (hs : s < a.next.length) (hx : x < 2 * k.toNat) (ht : getN a.next s x = (t : Int)) :
    (fac1 a.next (basF a.next).number s x = [] ∧ ((s : Int), (x : Int)) ∈ (treeF a.next).keys ∨
      ∃ f, fac1 a.next (basF a.next).number s x = [f] ∧ 0 ≤ f.1 ∧ f.1 < ((basF a.next).basis.length : Int) ∧ keyF s x (t : Int) ∈ (basF a.next).number ∧ f = ((((basF a.next).number.idxOf (keyF s x (t : Int)) : Nat) : Int), decide (x % 2 = 1), ())) ∧
    Same ((fac1 a.next (basF a.next).number s x).flatMap (facR (basF a.next).basis)) (pathR' (treeF a.next) s ++ [x] ++ inv (pathR' (treeF a.next) t)) := by
  have ht' := (edge_bas hk hc hs hx ht).1
  have hmem : ∀ {i : Nat}, i < (basF a.next).basis.length → checkF 8 ((basF a.next).basis.getD i ⟨#[]⟩) = 0 := fun {i} hi => by
    have hm : (basF a.next).basis.getD i ⟨#[]⟩ ∈ (basF a.next).basis := by rw [getD_get hi]; exact List.getElem_mem hi
    have hk1 : 1 ≤ k := by
      by_cases h1 : 1 ≤ k
      · exact h1
      · omega
    exact (check8 (bas_check ⟨hk1, hk⟩ hc hm)).1
  unfold fac1
  rw [ht]
  by_cases h2 : x % 2 = 1
  · have hb := back_of hc hs hx (by rw [ht]; omega)
    rw [ht, Int.toNat_natCast] at hb
    have hx1 : x ^^^ 1 < 2 * k.toNat := xor_lt (by omega) hx
    have hev : (x ^^^ 1) % 2 = 0 := by rw [xor1, if_neg (by omega)]; omega
    obtain ⟨n1, n2⟩ := num_at hk hc ht' hx1 hb hev
    have hkey : keyF s x (t : Int) = ((t : Int), ((x ^^^ 1 : Nat) : Int)) := by unfold keyF; rw [if_pos h2]
    rw [hkey]
    by_cases hin : ((t : Int), ((x ^^^ 1 : Nat) : Int)) ∈ (basF a.next).number
    · obtain ⟨n3, n4⟩ := n2 hin
      rw [if_pos hin]
      refine ⟨.inr ⟨_, rfl, by omega, by dsimp only; omega, hin, rfl⟩, ?_⟩
      rw [List.flatMap_cons, List.flatMap_nil, List.append_nil]
      unfold facR
      rw [if_pos (by simp [h2]), Int.toNat_natCast]
      have hg := hmem n3
      rw [n4] at hg ⊢
      have := ((same_raw (good_word hg)).symm.trans (wordB_same hk hc ht' hs (by omega))).inv
      rwa [inv_mid, xor_two] at this
    · rw [if_neg hin]
      have hkk : ((t : Int), ((x ^^^ 1 : Nat) : Int)) ∈ (treeF a.next).keys := Classical.byContradiction fun h => hin (n1.2 h)
      have hk3 := key_back hk hc hb hkk
      rw [xor_two] at hk3
      exact ⟨.inl ⟨rfl, hk3⟩, (tree_same hk hc ht hk3).symm⟩
  · have h0 : x % 2 = 0 := by omega
    obtain ⟨n1, n2⟩ := num_at hk hc hs hx ht h0
    have hkey : keyF s x (t : Int) = ((s : Int), (x : Int)) := by unfold keyF; rw [if_neg h2]
    rw [hkey]
    by_cases hin : ((s : Int), (x : Int)) ∈ (basF a.next).number
    · obtain ⟨n3, n4⟩ := n2 hin
      rw [if_pos hin]
      refine ⟨.inr ⟨_, rfl, by omega, by dsimp only; omega, hin, rfl⟩, ?_⟩
      rw [List.flatMap_cons, List.flatMap_nil, List.append_nil]
      unfold facR
      rw [if_neg (by simp [h2]), Int.toNat_natCast]
      have hg := hmem n3
      rw [n4] at hg ⊢
      exact (same_raw (good_word hg)).symm.trans (wordB_same hk hc hs ht' (by omega))
    · rw [if_neg hin]
      have hkk : ((s : Int), (x : Int)) ∈ (treeF a.next).keys := Classical.byContradiction fun h => hin (n1.2 h)
      exact ⟨.inl ⟨rfl, hkk⟩, (tree_same hk hc ht hkk).symm⟩
theorem expr_cons (next : List (List Int)) (num : List (Int × Int)) (x : Nat) (l : List Nat) (s : Nat) : exprW next num (x :: l) s = fac1 next num s x ++ exprW next num l (getN next s x).toNat := rfl
theorem leads_cons (next : List (List Int)) (x : Nat) (l : List Nat) (s : Nat) : leadsF next (x :: l) s = if getN next s x < 0 then getN next s x else leadsF next l (getN next s x).toNat := rfl
theorem rd_len (l : List Nat) : (rd l).length ≤ l.length := by
  have key : ∀ (l X : List Nat), (act X l).length ≤ X.length + l.length := by
    intro l
    induction l with
    | nil => intro X; simp [act]
    | cons x l ih =>
      intro X
      have h1 := ih (rdS X x)
      have h2 : (rdS X x).length ≤ X.length + 1 := by
        unfold rdS; split
        · rw [List.length_dropLast]; omega
        · simp
      have h3 : act X (x :: l) = act (rdS X x) l := rfl
      rw [h3, List.length_cons]; omega
  simpa [rd] using key l []
theorem expr_raw (hk : k ≤ 8) (hc : a.check k = 0) : ∀ (l : List Nat) (s t : Nat) (pre X : List Nat), s < a.next.length → (∀ x ∈ l, x < 2 * k.toNat) → leadsF a.next l s = (t : Int) → X = rd (pre ++ inv (pathR' (treeF a.next) s)) →
    (∀ f ∈ exprW a.next (basF a.next).number l s, 0 ≤ f.1 ∧ f.1 < ((basF a.next).basis.length : Int)) ∧
    act X ((exprW a.next (basF a.next).number l s).flatMap (facR (basF a.next).basis)) = rd (pre ++ l ++ inv (pathR' (treeF a.next) t)) ∧
    ∀ n, (act X (((exprW a.next (basF a.next).number l s).take n).flatMap (facR (basF a.next).basis))).length ≤ pre.length + l.length + 2000
  | [], s, t, pre, X, hs, _, h, hX => by
    simp only [leadsF] at h
    have : s = t := by omega
    subst this
    refine ⟨fun f hf => by simp [exprW] at hf, by simp [exprW, act, hX], fun n => ?_⟩
    simp only [exprW, List.take_nil, List.flatMap_nil, List.length_nil]
    show X.length ≤ _
    rw [hX]
    have h1 := rd_len (pre ++ inv (pathR' (treeF a.next) s))
    have h2 := (path_good hk hc hs).2.2
    have h3 : (inv (pathR' (treeF a.next) s)).length = ((treeF a.next).paths.getD s ⟨#[]⟩).size := by unfold inv pathR'; rw [List.length_reverse, List.length_map, size_raw]
    rw [List.length_append] at h1
    omega
  | x :: l, s, t, pre, X, hs, hl, h, hX => by
    have hx := hl x (by simp)
    rw [leads_cons] at h
    split at h
    · omega
    · rename_i hp
      obtain ⟨u, hu⟩ := Int.eq_ofNat_of_zero_le (show 0 ≤ getN a.next s x by omega)
      rw [hu, Int.toNat_natCast] at h
      have hu' := (edge_bas hk hc hs hx hu).1
      obtain ⟨f1, f2⟩ := fac_step hk hc hs hx hu
      have hXr : Rd X := by rw [hX]; exact rd_rd _
      have hact : act X ((fac1 a.next (basF a.next).number s x).flatMap (facR (basF a.next).basis)) = rd (pre ++ [x] ++ inv (pathR' (treeF a.next) u)) := by
        rw [f2 X hXr, hX]
        unfold rd
        rw [← act_app]
        have : Same (pre ++ inv (pathR' (treeF a.next) s) ++ (pathR' (treeF a.next) s ++ [x] ++ inv (pathR' (treeF a.next) u))) (pre ++ [x] ++ inv (pathR' (treeF a.next) u)) := by
          have e : pre ++ inv (pathR' (treeF a.next) s) ++ (pathR' (treeF a.next) s ++ [x] ++ inv (pathR' (treeF a.next) u)) = pre ++ ((inv (pathR' (treeF a.next) s) ++ pathR' (treeF a.next) s) ++ ([x] ++ inv (pathR' (treeF a.next) u))) := by simp
          rw [e]
          have e2 : pre ++ [x] ++ inv (pathR' (treeF a.next) u) = pre ++ ([] ++ ([x] ++ inv (pathR' (treeF a.next) u))) := by simp
          rw [e2]
          exact (Same.refl pre).app ((same_inv' _).app (Same.refl _))
        exact this [] trivial
      obtain ⟨i1, i2, i3⟩ := expr_raw hk hc l u t (pre ++ [x]) _ hu' (fun y hy => hl y (by simp [hy])) h rfl
      rw [expr_cons, hu, Int.toNat_natCast]
      rw [← hact, ← act_app] at i2
      refine ⟨fun f hf => ?_, ?_, fun n => ?_⟩
      · rcases List.mem_append.1 hf with hf | hf
        · rcases f1 with ⟨f1, _⟩ | ⟨g, f1, f3, f4, _⟩
          · rw [f1] at hf; simp at hf
          · rw [f1] at hf
            simp only [List.mem_singleton] at hf
            subst hf; exact ⟨f3, f4⟩
        · exact i1 f hf
      · rw [List.flatMap_append, i2]; simp
      · rcases f1 with ⟨f1, _⟩ | ⟨g, f1, f3, f4, _⟩
        · rw [f1, List.nil_append]
          have := i3 n
          rw [← hact, f1] at this
          simp only [List.length_append, List.length_cons, List.length_nil, List.flatMap_nil] at this ⊢
          have e : act X [] = X := rfl
          rw [e] at this
          omega
        · rw [f1] at hact ⊢
          cases n with
          | zero =>
            simp only [List.take_zero, List.flatMap_nil]
            show X.length ≤ _
            rw [hX]
            have h1 := rd_len (pre ++ inv (pathR' (treeF a.next) s))
            have h2 := (path_good hk hc hs).2.2
            have h3 : (inv (pathR' (treeF a.next) s)).length = ((treeF a.next).paths.getD s ⟨#[]⟩).size := by unfold inv pathR'; rw [List.length_reverse, List.length_map, size_raw]
            rw [List.length_append] at h1
            omega
          | succ n =>
            have := i3 n
            rw [← hact, ← act_app] at this
            rw [List.singleton_append, List.take_succ_cons, List.flatMap_cons]
            rw [List.flatMap_cons, List.flatMap_nil, List.append_nil] at this
            simp only [List.length_append, List.length_cons, List.length_nil] at this ⊢
            omega
theorem expr_first (hk : k ≤ 8) (hc : a.check k = 0) : ∀ (l : List Nat) (s t : Nat) (f : Fac) (fs : List Fac), s < a.next.length → (∀ x ∈ l, x < 2 * k.toNat) → leadsF a.next l s = (t : Int) → exprW a.next (basF a.next).number l s = f :: fs →
    ∃ (l1 : List Nat) (x : Nat) (l2 : List Nat) (s1 u : Nat), l = l1 ++ x :: l2 ∧ s1 < a.next.length ∧ Same (pathR' (treeF a.next) s ++ l1 ++ inv (pathR' (treeF a.next) s1)) [] ∧ getN a.next s1 x = (u : Int) ∧ keyF s1 x (u : Int) ∈ (basF a.next).number ∧ f = ((((basF a.next).number.idxOf (keyF s1 x (u : Int)) : Nat) : Int), decide (x % 2 = 1), ())
  | [], s, t, f, fs, hs, _, h, he => by simp [exprW] at he
  | x :: l, s, t, f, fs, hs, hl, h, he => by
    have hx := hl x (by simp)
    rw [leads_cons] at h
    split at h
    · omega
    · rename_i hp
      obtain ⟨u, hu⟩ := Int.eq_ofNat_of_zero_le (show 0 ≤ getN a.next s x by omega)
      rw [hu, Int.toNat_natCast] at h
      have hu' := (edge_bas hk hc hs hx hu).1
      obtain ⟨f1, f2⟩ := fac_step hk hc hs hx hu
      rw [expr_cons, hu, Int.toNat_natCast] at he
      rcases f1 with ⟨f1, f3⟩ | ⟨g, f1, _, _, f5, f6⟩
      · rw [f1, List.nil_append] at he
        obtain ⟨l1, x', l2, s1, u', e1, e2, e3, e4, e5, e6⟩ := expr_first hk hc l u t f fs hu' (fun y hy => hl y (by simp [hy])) h he
        refine ⟨x :: l1, x', l2, s1, u', by rw [e1]; rfl, e2, ?_, e4, e5, e6⟩
        have h1 := tree_same hk hc hu f3
        have := h1.app e3
        refine Same.trans ?_ this
        have e : pathR' (treeF a.next) s ++ [x] ++ inv (pathR' (treeF a.next) u) ++ (pathR' (treeF a.next) u ++ l1 ++ inv (pathR' (treeF a.next) s1)) = pathR' (treeF a.next) s ++ [x] ++ ((inv (pathR' (treeF a.next) u) ++ pathR' (treeF a.next) u) ++ (l1 ++ inv (pathR' (treeF a.next) s1))) := by simp
        rw [e]
        have e2 : pathR' (treeF a.next) s ++ x :: l1 ++ inv (pathR' (treeF a.next) s1) = pathR' (treeF a.next) s ++ [x] ++ ([] ++ (l1 ++ inv (pathR' (treeF a.next) s1))) := by simp
        rw [e2]
        exact (Same.refl _).app ((same_inv' _).symm.app (Same.refl _))
      · rw [f1, List.singleton_append, List.cons.injEq] at he
        obtain ⟨rfl, _⟩ := he
        refine ⟨[], x, l, s, u, rfl, hs, ?_, hu, f5, f6⟩
        rw [List.append_nil]; exact same_inv _
theorem Rd.mid : ∀ {a b : List Nat}, Rd (a ++ b) → Rd b
  | [], b, h => h
  | [x], b, h => by
    cases b with
    | nil => trivial
    | cons y b => exact h.2
  | x :: y :: a, b, h => Rd.mid (a := y :: a) h.2
theorem Rd.left : ∀ {a b : List Nat}, Rd (a ++ b) → Rd a
  | [], b, h => trivial
  | [x], b, h => trivial
  | x :: y :: a, b, h => ⟨h.1, Rd.left (a := y :: a) h.2⟩
theorem same_nil {P l : List Nat} (h : Same (P ++ l ++ inv P) []) (hl : Rd l) : l = [] := by
  have h1 : Same l [] := by
    have h2 : Same (inv P ++ (P ++ l ++ inv P) ++ P) (inv P ++ [] ++ P) := ((Same.refl _).app h).app (Same.refl _)
    rw [List.append_nil] at h2
    have h3 := h2.trans (same_inv' P)
    have e : inv P ++ (P ++ l ++ inv P) ++ P = (inv P ++ P) ++ (l ++ (inv P ++ P)) := by simp
    rw [e] at h3
    refine Same.trans ?_ h3
    have e2 : l = [] ++ (l ++ []) := by simp
    have h4 : Same ([] ++ (l ++ [])) ((inv P ++ P) ++ (l ++ (inv P ++ P))) := (same_inv' P).symm.app ((Same.refl l).app (same_inv' P).symm)
    rw [← e2] at h4; exact h4
  have := h1.rd_eq
  rw [hl.self] at this
  exact this
theorem expr_reduced (hk : k ≤ 8) (hc : a.check k = 0) : ∀ (l : List Nat) (s t : Nat), s < a.next.length → (∀ x ∈ l, x < 2 * k.toNat) → leadsF a.next l s = (t : Int) → Rd l → redF' (exprW a.next (basF a.next).number l s) = true
  | [], s, t, _, _, _, _ => rfl
  | x :: l, s, t, hs, hl, h, hr => by
    have hx := hl x (by simp)
    rw [leads_cons] at h
    split at h
    · omega
    · rename_i hp
      obtain ⟨u, hu⟩ := Int.eq_ofNat_of_zero_le (show 0 ≤ getN a.next s x by omega)
      rw [hu, Int.toNat_natCast] at h
      have hu' := (edge_bas hk hc hs hx hu).1
      obtain ⟨f1, f2⟩ := fac_step hk hc hs hx hu
      have hrl : Rd l := Rd.mid (a := [x]) hr
      have hll : ∀ y ∈ l, y < 2 * k.toNat := fun y hy => hl y (by simp [hy])
      have ih := expr_reduced hk hc l u t hu' hll h hrl
      rw [expr_cons, hu, Int.toNat_natCast]
      rcases f1 with ⟨f1, f3⟩ | ⟨g, f1, _, _, f5, f6⟩
      · rw [f1, List.nil_append]; exact ih
      · rw [f1, List.singleton_append]
        cases hE : exprW a.next (basF a.next).number l u with
        | nil => rfl
        | cons f fs =>
          rw [hE] at ih
          obtain ⟨l1, y, l2, s1, u1, e1, e2, e3, e4, e5, e6⟩ := expr_first hk hc l u t f fs hu' hll h hE
          simp only [redF', ih, Bool.and_true, Bool.not_eq_true', Bool.and_eq_false_iff]
          by_cases hi : f.1 = g.1
          · right
            rw [bne_eq_false_iff_eq]
            rw [f6, e6] at hi
            simp only at hi
            have hidx : (basF a.next).number.idxOf (keyF s1 y (u1 : Int)) = (basF a.next).number.idxOf (keyF s x (u : Int)) := by omega
            have hkey : keyF s1 y (u1 : Int) = keyF s x (u : Int) := by
              have p1 := List.getElem_idxOf (List.idxOf_lt_length_iff.2 e5)
              have p2 := List.getElem_idxOf (List.idxOf_lt_length_iff.2 f5)
              rw [← p1, ← p2]
              congr 1
            rw [f6, e6]
            simp only
            apply Classical.byContradiction
            intro hne
            have hy : y < 2 * k.toNat := hll y (by rw [e1]; simp)
            have hpar : y = x ^^^ 1 ∧ s1 = u := by
              unfold keyF at hkey
              by_cases p : x % 2 = 1
              · have q : ¬ y % 2 = 1 := fun q => hne (by simp [p, q])
                rw [if_pos p, if_neg q, Prod.mk.injEq] at hkey
                omega
              · have q : y % 2 = 1 := Classical.byContradiction fun q => hne (by simp [p, q])
                rw [if_neg p, if_pos q, Prod.mk.injEq] at hkey
                have h1 : y ^^^ 1 = x := by omega
                have h2 : y = x ^^^ 1 := by rw [← h1, xor_two]
                have h3 : u1 = s := by omega
                refine ⟨h2, ?_⟩
                have hb := back_of hc e2 hy (by rw [e4]; omega)
                rw [e4, Int.toNat_natCast, h1, h3, hu] at hb
                omega
            obtain ⟨hy1, hs1⟩ := hpar
            subst hs1
            have hl1 : l1 = [] := same_nil e3 (by rw [e1] at hrl; exact Rd.left hrl)
            subst hl1
            rw [e1, List.nil_append] at hr
            exact hr.1 hy1
          · left; rw [beq_eq_false_iff_ne]; exact hi
end
end Go.Proofs.YtffdjfkekdoeaaaDoor.Pl
end
section
set_option linter.unusedVariables false
set_option linter.unusedSimpArgs false
set_option maxRecDepth 8000
set_option maxHeartbeats 4000000
namespace Go.Proofs.YtffdjfkekdoeaaaDoor.Fo
open Fw Wd Rf Pl
theorem reduce_size (s : ByteArray) : (ReduceF s).size ≤ 100000 := by
  unfold ReduceF
  split
  · rename_i h
    have h1 := check_size h
    have h2 := redFold_len s.data.toList []
    rw [size_list] at h1
    rw [size_list]
    show (redF s.data.toList).toArray.toList.length ≤ _
    rw [List.toList_toArray]
    unfold redF
    simp only [List.length_nil] at h2
    omega
  · exact Nat.zero_le _
theorem inverse_size (s : ByteArray) : (InverseF s).size ≤ 100000 := by
  unfold InverseF
  split
  · rename_i h
    have h1 := check_size h
    rw [size_list] at h1
    rw [size_list]
    simp [invF]
    simpa using h1
  · exact Nat.zero_le _
theorem drop_at {α : Type} {l : List α} {i : Nat} {x : α} (h : l[i]? = some x) : l.drop i = x :: l.drop (i + 1) := by
  obtain ⟨h1, h2⟩ := List.getElem?_eq_some_iff.1 h
  rw [List.drop_eq_getElem_cons h1, h2]
theorem prodS_cons (basis : List ByteArray) (f : Fac) (l : List Fac) (out : ByteArray) : prodS basis (f :: l) out = if f.1 < 0 ∨ f.1 ≥ (basis.length : Int) then none else prodS basis l (ReduceF (out ++ facB basis f)) := rfl
theorem Product_ret {w : World} {s1 s2 : Sl} {basis : List ByteArray} (hb : StrsIn w s1 basis) {l : List Fac} (hl : RdT w tF s2 l) (hlen : l.length ≤ 1000000000) :
    RetN Tryd.prog 19 #[s1.v, s2.v] [.sc .str, .sc .bool] w fun y w' => Chg Nil w w' ∧ match prodS basis l ⟨#[]⟩ with
      | none => y.2.1 = false
      | some v => y.1 = v ∧ y.2.1 = true := by
  refine cayleyref21_Product.calls s1 s2 ?_
  unfold cayleyref21_Product.sh
  have hn1 : s1.n = basis.length := hb.rd.len
  have hn2 : s2.n = l.length := hl.len
  refine LoopT.mk (fun x W => ∃ (i : Nat) (out : ByteArray), i ≤ l.length ∧ x = (s1, s2, out, (i : Int), ()) ∧ Chg Nil w W ∧ out.size ≤ 100000 ∧ prodS basis (l.drop i) out = prodS basis l ⟨#[]⟩) (fun x _ => l.length - x.2.2.2.1.toNat) ⟨0, ⟨#[]⟩, Nat.zero_le _, rfl, Chg.refl w, Nat.zero_le _, rfl⟩ ?_
  rintro x g W ⟨i, out, hi, rfl, hW, hout, hp⟩
  dsimp only
  refine Br.dec (fun hlt => ?_) (fun hge => ?_)
  · have hlt : i < l.length := by omega
    obtain ⟨f, hf⟩ : ∃ f, l[i]? = some f := ⟨_, List.getElem?_eq_getElem hlt⟩
    obtain ⟨fi, fb, u⟩ := f
    have hd : l.drop i = (fi, fb, u) :: l.drop (i + 1) := drop_at hf
    rw [hd, prodS_cons] at hp
    have hlW : RdT W tF s2 l := hl.chg hW fun _ _ h => h
    have hbW := hb.nil hW
    have c0 : ∀ {a : Addr}, (∀ j v, (tF.cells (fi, fb, u))[j]? = some v → W.cell? (a.add j) = some v) → W.cell? (a.add 0) = some (.int .i64 fi) ∧ W.cell? (a.add 1) = some (.bool fb) := fun {a} h => ⟨h 0 _ rfl, h 1 _ rfl⟩
    refine Join.by' (fun y V => y = (s1, s2, out, (i : Int), ()) ∧ V = W ∧ ¬ (fi < 0 ∨ fi ≥ (basis.length : Int))) ?_ ?_
    rotate_left
    · intro J hJ
      refine hlW.idx (t := tF) i rfl hf fun a ha => ?_
      refine LoadT.sc (s := .int .i64) (c0 ha).1 ?_
      refine Br.dec (fun h => Br.t rfl ?_) (fun h1 => ?_)
      · rw [if_pos (.inl h)] at hp
        refine ⟨(⟨#[]⟩, false, ()), rfl, hW, ?_⟩
        rw [← hp]
      · refine hlW.idx (t := tF) i rfl hf fun a ha => ?_
        refine LoadT.sc (s := .int .i64) (c0 ha).1 ?_
        refine Br.dec (fun h2 => ?_) (fun h2 => ?_)
        · have h2 : fi ≥ ((s1.n : Nat) : Int) := h2
          rw [if_pos (.inr (by omega))] at hp
          refine ⟨(⟨#[]⟩, false, ()), rfl, hW, ?_⟩
          rw [← hp]
        · have h1 : ¬ fi < 0 := h1
          have h2 : ¬ fi ≥ ((s1.n : Nat) : Int) := h2
          exact hJ _ _ ⟨rfl, rfl, by omega⟩
    rintro y V g ⟨rfl, hV, hr⟩
    rw [hV]; clear hV
    dsimp only
    rw [if_neg hr] at hp
    have hblt : fi.toNat < basis.length := by omega
    obtain ⟨b, hbb⟩ : ∃ b, basis[fi.toNat]? = some b := ⟨_, List.getElem?_eq_getElem hblt⟩
    have hbd : basis.getD fi.toNat ⟨#[]⟩ = b := by rw [List.getD_eq_getElem?_getD, hbb]; rfl
    have hbs := hb.small b (List.mem_of_getElem? hbb)
    refine hlW.idx (t := tF) i rfl hf fun a ha => ?_
    refine LoadT.sc (s := .int .i64) (c0 ha).1 ?_
    refine rdS hbW.rd (by omega) hbb fun a' ha' => ?_
    refine LoadT.sc (s := .str) (ha' _ (Chg.refl _)) ?_
    refine Join.by' (fun y V => y = (s1, s2, out, (i : Int), facB basis (fi, fb, u), ()) ∧ Chg Nil W V) ?_ ?_
    rotate_left
    · intro J hJ
      refine hlW.idx (t := tF) i rfl hf fun a ha => ?_
      refine LoadT.sc (s := .bool) (c0 ha).2 ?_
      refine Br.mk (fun h => ?_) (fun h => ?_)
      · refine Ret.call (Rf.Inverse_ret W b) ?_
        rintro _ V ⟨rfl, hV⟩
        refine hJ _ _ ⟨?_, hV⟩
        unfold facB
        rw [if_pos h, hbd]
      · refine hJ _ _ ⟨?_, Chg.refl W⟩
        unfold facB
        rw [if_neg (by simp [h]), hbd]
    rintro y V g ⟨rfl, hV⟩
    dsimp only
    have hfs : (facB basis (fi, fb, u)).size ≤ 140737488351232 := by
      unfold facB
      split
      · have := inverse_size (basis.getD fi.toNat ⟨#[]⟩); dsimp only; omega
      · dsimp only; rw [hbd]; exact hbs
    refine ⟨by omega, ?_⟩
    refine Ret.call (Rf.Reduce_ret V _) ?_
    rintro _ V2 ⟨rfl, hV2⟩
    refine ⟨⟨i + 1, _, hlt, ?_, (hW.then hV).then hV2, reduce_size _, hp⟩, ?_⟩
    · rw [wrap64 (by omega) (by omega)]; rfl
    · rw [wrap64 (by omega) (by omega)]; omega
  · have hi2 : i = l.length := by omega
    subst hi2
    rw [List.drop_length] at hp
    refine ⟨(out, true, ()), rfl, hW, ?_⟩
    rw [← hp]
    exact ⟨rfl, rfl⟩
theorem Reduced_ret {w : World} {s : Sl} {l : List Fac} (hl : RdT w tF s l) (hlen : l.length ≤ 1000000000) : Ret Tryd.prog 24 #[s.v] (.sc .bool) w fun x w' => x = redF' l ∧ Chg Nil w w' := by
  refine cayleyref21_Reduced.calls s ?_
  unfold cayleyref21_Reduced.sh
  have hn : s.n = l.length := hl.len
  have short : ∀ l : List Fac, l.length ≤ 1 → redF' l = true := fun l h => by
    cases l with
    | nil => rfl
    | cons f l => cases l with
      | nil => rfl
      | cons g l => simp at h
  refine LoopT.mk (fun x W => ∃ i : Nat, 1 ≤ i ∧ x = (s, (i : Int), ()) ∧ Chg Nil w W ∧ redF' (l.drop (i - 1)) = redF' l) (fun x _ => l.length + 1 - x.2.1.toNat) ⟨1, Nat.le_refl _, rfl, Chg.refl w, rfl⟩ ?_
  rintro x g W ⟨i, hi, rfl, hW, hp⟩
  dsimp only
  refine Br.dec (fun hlt => ?_) (fun hge => ?_)
  · have hlt : i < l.length := by omega
    obtain ⟨f, hf⟩ : ∃ f, l[i]? = some f := ⟨_, List.getElem?_eq_getElem hlt⟩
    obtain ⟨e, he⟩ : ∃ f, l[i - 1]? = some f := ⟨_, List.getElem?_eq_getElem (by omega)⟩
    obtain ⟨fi, fb, u⟩ := f
    obtain ⟨ei, eb, u'⟩ := e
    have hd : l.drop (i - 1) = (ei, eb, u') :: (fi, fb, u) :: l.drop (i + 1) := by
      rw [drop_at he, show i - 1 + 1 = i by omega, drop_at hf]
    have hd2 : l.drop i = (fi, fb, u) :: l.drop (i + 1) := drop_at hf
    have hlW : RdT W.drew tF s l := hl.chg (S := Nil) (hW.then (Chg.drew W)) fun _ _ h => h
    have hw1 : IntKind.wrap .i64 ((i : Int) - 1) = ((i - 1 : Nat) : Int) := by rw [wrap64 (by omega) (by omega)]; omega
    rw [hw1]
    have hw2 : IntKind.wrap .i64 ((i : Int) + 1) = ((i + 1 : Nat) : Int) := by rw [wrap64 (by omega) (by omega)]; omega
    rw [hw2]
    have ha : ∀ {a : Addr}, (∀ j v, (tF.cells (fi, fb, u))[j]? = some v → W.drew.cell? (a.add j) = some v) → W.drew.cell? (a.add 0) = some (.int .i64 fi) ∧ W.drew.cell? (a.add 1) = some (.bool fb) := fun {a} h => ⟨h 0 _ rfl, h 1 _ rfl⟩
    have hb : ∀ {a : Addr}, (∀ j v, (tF.cells (ei, eb, u'))[j]? = some v → W.drew.cell? (a.add j) = some v) → W.drew.cell? (a.add 0) = some (.int .i64 ei) ∧ W.drew.cell? (a.add 1) = some (.bool eb) := fun {a} h => ⟨h 0 _ rfl, h 1 _ rfl⟩
    have hnext : redF' (l.drop i) = redF' l → ∃ j : Nat, 1 ≤ j ∧ (s, ((i + 1 : Nat) : Int), ()) = (s, (j : Int), ()) ∧ Chg Nil w W.drew ∧ redF' (l.drop (j - 1)) = redF' l := fun h => ⟨i + 1, by omega, rfl, hW.then (Chg.drew W), by rw [show i + 1 - 1 = i by omega]; exact h⟩
    have hE : redF' (l.drop (i - 1)) = (!(fi == ei && (fb != eb)) && redF' (l.drop i)) := by rw [hd, hd2]; rfl
    refine hlW.idx (t := tF) i rfl hf fun a h => LoadT.sc (s := .int .i64) (ha h).1 ?_
    refine hlW.idx (t := tF) (i - 1) rfl he fun a h => LoadT.sc (s := .int .i64) (hb h).1 ?_
    refine Br.mk (fun h1 => ?_) (fun h1 => ?_)
    · refine hlW.idx (t := tF) i rfl hf fun a h => LoadT.sc (s := .bool) (ha h).2 ?_
      refine hlW.idx (t := tF) (i - 1) rfl he fun a h => LoadT.sc (s := .bool) (hb h).2 ?_
      refine Br.mk (fun h2 => ?_) (fun h2 => ?_)
      · refine ⟨false, rfl, ?_, hW.then (Chg.drew W)⟩
        rw [← hp, hE, h1]
        have h2 : (fb != eb) = true := h2
        rw [h2]; rfl
      · refine ⟨hnext ?_, by omega⟩
        have h2 : (fb != eb) = false := h2
        rw [← hp, hE, h1, h2]; rfl
    · refine Br.f rfl ⟨hnext ?_, by omega⟩
      rw [← hp, hE, h1]; rfl
  · refine ⟨true, rfl, ?_, hW⟩
    rw [← hp, short]
    rw [List.length_drop]; omega
end Go.Proofs.YtffdjfkekdoeaaaDoor.Fo
end
section
set_option linter.unusedVariables false
set_option linter.unusedSimpArgs false
set_option maxRecDepth 8000
set_option maxHeartbeats 4000000
namespace Go.Proofs.YtffdjfkekdoeaaaDoor.Rf
open Fw Wd Fo
theorem Lead_ret {w : World} {k : Int} {x : Int × Int × Sl × Sl × Unit} {a : Aut} (h : AutIn w x a) (hc : a.check k = 0) (hk : 1 ≤ k ∧ k ≤ 8) {s : ByteArray} (hs : checkF k s = 0) :
    Ret Tryd.prog 23 #[.agg #[.int .i64 x.1, .int .i64 x.2.1, x.2.2.1.v, x.2.2.2.1.v], .string s] tI w fun y w' => y = leadsF a.next (wordF s) 0 ∧ Chg Nil w w' := by
  obtain ⟨x1, x2, sa, sn, _⟩ := x
  obtain ⟨_, _, hn1, hn2, _, _, hrows⟩ := check_spec hc
  refine cayleyref21_Lead.calls x1 x2 sa sn s ?_
  unfold cayleyref21_Lead.sh
  refine New.mk fun b1 w1 hb1 hh1 hs1 hc1 => ?_
  refine Ret.call (Rf.Reduce_ret w1 s) ?_
  rintro _ w2 ⟨rfl, hc2⟩
  obtain ⟨hidx, hsz⟩ := idxs_word hs
  have hlen : (wordF s).length = (ReduceF s).size := by have := congrArg List.length hidx; simpa using this.symm
  obtain ⟨_, _, _, sls, hrn, hsl, hrws, _⟩ := h.rd
  have hrn : RdT w (.sc .sl) sn sls := hrn
  have e3 : sn.n = a.next.length := by rw [hrn.len, hsl]
  have hc02 := hc1.then hc2
  have l1 : ∀ {W : World}, Chg Nil w2 W → W.heap[b1]? = some (.cells #[.int .i64 x1, .int .i64 x2, sa.v, sn.v] 27 (0, 0)) := fun hW => hW.heap (hc2.heap hh1 fun h => h) fun h => h
  refine LoopT.mk (fun y W => ∃ (i : Nat) (st : Int), i ≤ (wordF s).length ∧ -1 ≤ st ∧ st < (a.next.length : Int) ∧ y = (at0 b1, ReduceF s, st, (i : Int), ()) ∧ Chg Nil w2 W ∧ (0 ≤ st → leadsF a.next ((wordF s).drop i) st.toNat = leadsF a.next (wordF s) 0) ∧ (st < 0 → st = leadsF a.next (wordF s) 0)) (fun y _ => (wordF s).length - y.2.2.2.1.toNat)
    ⟨0, 0, Nat.zero_le _, by omega, by omega, rfl, Chg.refl _, fun _ => rfl, fun h => by omega⟩ ?_
  rintro y g W ⟨i, st, hi, hst0, hst1, rfl, hcW, hl1, hl2⟩
  dsimp only
  have done : (st < 0 ∨ i = (wordF s).length) → ∃ z, Ending.returned (.int .i64 st) = .returned (tI.val z) ∧ z = leadsF a.next (wordF s) 0 ∧ Chg Nil w W := fun hd => by
    refine ⟨st, rfl, ?_, hc02.then hcW⟩
    by_cases hn : st < 0
    · exact hl2 hn
    · rcases hd with hd | hd
      · exact absurd hd hn
      · have := hl1 (by omega)
        rw [hd, List.drop_eq_nil_of_le (Nat.le_refl _)] at this
        simp only [leadsF] at this
        rw [← this]
        show st = ((st.toNat : Nat) : Int)
        omega
  refine Join.by' (fun y V => y = (at0 b1, ReduceF s, st, (i : Int), ()) ∧ V = W ∧ i < (wordF s).length ∧ 0 ≤ st) ?_ ?_
  · rintro y V g2 ⟨rfl, hV, hil, hst⟩
    rw [hV]; clear hV
    dsimp only
    obtain ⟨ns, rfl⟩ := Int.eq_ofNat_of_zero_le hst
    have hns : ns < a.next.length := by omega
    have hlead := hl1 hst
    have hidxi : idxF (ofB ((ReduceF s)[i]'(by omega))) = (((wordF s)[i] : Nat) : Int) := by
      have h1 := congrArg (·[i]?) hidx
      simp only [List.getElem?_map, bytes_get (ReduceF s) i (by omega), List.getElem?_eq_getElem hil, Option.map_some, Option.some.injEq] at h1
      exact h1
    have hxlt := word_lt hs i hil
    have hdrop : (wordF s).drop i = (wordF s)[i] :: (wordF s).drop (i + 1) := List.drop_eq_getElem_cons hil
    generalize (wordF s)[i] = x at hdrop hidxi hxlt
    rw [hdrop] at hlead
    simp only [leadsF, Int.toNat_natCast] at hlead
    obtain ⟨hrl, hrv⟩ := hrows _ (List.getElem_mem hns)
    have hxl : x < a.next[ns].length := by omega
    rw [getD_get hns, getD_get hxl] at hlead
    obtain ⟨v1, v2⟩ := hrv _ (List.getElem_mem hxl)
    obtain ⟨rsl, hrsl⟩ : ∃ rsl, sls[ns]? = some rsl := ⟨_, List.getElem?_eq_getElem (by rw [hsl]; exact hns)⟩
    have hrr := hrws ns rsl _ hrsl (List.getElem?_eq_getElem hns)
    have hd : Chg Nil W W.drew := Chg.drew W
    have hcd := hcW.then hd
    refine ⟨fun V => Chg Nil w2 V, hcd, ?_⟩
    refine LoadS.sc (s := .sl) (x := sn) (fun V hV => by rw [cellOf (l1 hV)]; rfl) ?_
    refine rd_idxA (t := .sc .sl) hrn ns rfl hrsl fun ad had => ?_
    refine LoadS.sc (s := .sl) (x := rsl) (fun V hV => (hrn.chg (hc02.then hV) fun _ _ h => h).cell1 had hrsl) ?_
    refine StrIdx.mk i rfl (by omega) ?_
    have hb := UInt8.toNat_lt ((ReduceF s)[i]'(by omega))
    refine Ret.call (Rf.Index_ret _ _ (by unfold ofB; omega) (by unfold ofB; omega)) ?_
    rintro _ _ ⟨rfl, rfl⟩
    refine ⟨hcd, ?_⟩
    rw [hidxi]
    have hxe : a.next[ns][x]? = some a.next[ns][x] := List.getElem?_eq_getElem hxl
    refine rd_idxA (t := tI) hrr x rfl hxe fun ad' had' => ?_
    refine LoadS.sc (s := .int .i64) (x := a.next[ns][x]) (fun V hV => (hrr.chg (hc02.then hV) fun _ _ h => h).cell1 had' hxe) ?_
    rw [wrap64 (by omega) (by omega)]
    refine ⟨⟨i + 1, a.next[ns][x], hil, v1, v2, rfl, hcd, fun hp => ?_, fun hn => ?_⟩, ?_⟩
    · rw [if_neg (by omega)] at hlead; exact hlead
    · rw [if_pos hn] at hlead; exact hlead
    · show (wordF s).length - (i + 1) < (wordF s).length - i
      omega
  · intro J hJ
    refine Br.dec (fun hlt => ?_) (fun hge => Br.f rfl (done (.inr ?_)))
    · have hlt : (i : Int) < ((ReduceF s).size : Int) := hlt
      refine Br.dec (fun hp => ?_) (fun hn => Br.f rfl (done (.inl ?_)))
      · have hp : st ≥ 0 := hp
        refine LoadT.sc (s := .sl) (x := sn) (by rw [cellOf (l1 hcW)]; rfl) ?_
        refine Br.yes (by rw [e3]; exact hst1) (hJ _ _ ⟨rfl, rfl, by omega, hp⟩)
      · have hn : ¬ st ≥ 0 := hn
        omega
    · have hge : ¬ (i : Int) < ((ReduceF s).size : Int) := hge
      omega
end Go.Proofs.YtffdjfkekdoeaaaDoor.Rf
end
section
set_option linter.unusedVariables false
set_option linter.unusedSimpArgs false
set_option maxRecDepth 8000
set_option maxHeartbeats 4000000
namespace Go.Proofs.YtffdjfkekdoeaaaDoor.Fo
open Fw Wd Rf Pl
theorem word_all {k : Int} {s : ByteArray} (hs : checkF k s = 0) : ∀ x ∈ wordF s, x < 2 * k.toNat := fun x hx => by
  obtain ⟨i, hi, rfl⟩ := List.getElem_of_mem hx
  exact word_lt hs i hi
theorem word_rd {k : Int} {s : ByteArray} (hs : checkF k s = 0) : Rd (wordF s) := by rw [word_raw (good_word hs)]; exact rd_rd _
theorem empty_ok {k : Int} (hk : 1 ≤ k ∧ k ≤ 8) : checkF k ⟨#[]⟩ = 0 := check_of hk (Nat.zero_le _) fun b hb => by simp at hb
theorem exam_ok {k : Int} {a : Aut} {s : ByteArray} (hk : 1 ≤ k ∧ k ≤ 8) (hc : a.check k = 0) (hs : checkF k s = 0) : examF k [a] [s] = 0 := by
  unfold examF
  simp [hc, hk.1, hk.2, hs]
theorem exam_bad {k : Int} {a : Aut} {s : ByteArray} (hk : 1 ≤ k ∧ k ≤ 8) (hc : a.check k = 0) (hs : checkF k s ≠ 0) : examF k [a] [s] = 4 := by
  unfold examF
  simp [hc, hk.1, hk.2, hs]
theorem members_prod {k : Int} {gens : List ByteArray} {nexts : List Row} {m : Nat} (hf : Fit k gens) (h : Folded k.toNat gens (.ok m nexts)) (hsz : sizes gens ≤ 1000) {l : List Fac} (hl : l.length ≤ 40) {v : ByteArray} (hp : prodS gens l ⟨#[]⟩ = some v) :
    memberF k (autE k.toNat nexts) v = (true, 0) := by
  obtain ⟨hm2, hck, hlead, hbas⟩ := bas_both hf h
  have hk : 1 ≤ k ∧ k ≤ 8 := ⟨hf.k1, hf.k8⟩
  have hE : wordF ⟨#[]⟩ = [] := rfl
  obtain ⟨c1, c2⟩ := prod_mem hk (B := 1000) (fun s hs => ⟨hf.word s hs, by have := sizes_mem hs; omega⟩) l ⟨#[]⟩ v (empty_ok hk) (by have : (⟨#[]⟩ : ByteArray).size = 0 := rfl; omega) (by rw [hE]; exact .one) hp
  have hz := (hlead (wordF v) (word_rd c1) (word_all c1)).2 c2
  unfold memberF
  rw [exam_ok hk hck c1, hz]
  rfl
theorem members_expr {k : Int} {a : Aut} (hk : 1 ≤ k ∧ k ≤ 8) (hc : a.check k = 0) {s : ByteArray} (hs : checkF k s = 0) (h4 : s.size ≤ 400) (h0 : leadsF a.next (wordF s) 0 = 0) :
    prodS (basF a.next).basis (exprW a.next (basF a.next).number (wordF s) 0) ⟨#[]⟩ = some (ReduceF s) ∧ redF' (exprW a.next (basF a.next).number (wordF s) 0) = true ∧ (exprW a.next (basF a.next).number (wordF s) 0).length ≤ 400 := by
  obtain ⟨_, _, n1, n2, _⟩ := check_spec hc
  have hE : rawF ⟨#[]⟩ = [] := rfl
  have hp0 := path_zero hk.2 hc
  have hi0 : inv ([] : List Nat) = [] := rfl
  have hwl : (wordF s).length ≤ 400 := by
    rw [word_raw (good_word hs)]
    have := rd_len (rawF s)
    rw [size_raw] at this
    omega
  obtain ⟨e1, e2, e3⟩ := expr_raw hk.2 hc (wordF s) 0 0 [] [] n1 (word_all hs) h0 (by rw [hp0]; rfl)
  rw [hp0, hi0, List.nil_append, List.append_nil, (word_rd hs).self] at e2
  have hbs : ∀ b ∈ (basF a.next).basis, checkF 8 b = 0 ∧ b.size ≤ 5000 := fun b hb => by
    have h1 := bas_check hk hc hb
    refine ⟨(check8 h1).1, ?_⟩
    obtain ⟨s, row, x, t, u, g1, g2, rfl⟩ := bas_iff hb
    have hs1 := (List.getElem?_eq_some_iff.1 g1).1
    obtain ⟨i, q1, q2, q3⟩ := Pl.edges_mem row 0 _ g2
    dsimp only at q1 q2 q3
    obtain ⟨_, _, _, _, _, _, hrows⟩ := check_spec hc
    obtain ⟨r1, r2⟩ := hrows row (List.mem_of_getElem? g1)
    have ht := (r2 t (List.mem_of_getElem? q1)).2
    obtain ⟨p1, p2, p3⟩ := path_good hk.2 hc hs1
    obtain ⟨p4, p5, p6⟩ := path_good hk.2 hc (s := t.toNat) (by omega)
    have p7 := (check_inv p5).2
    have hil := (List.getElem?_eq_some_iff.1 q1).1
    subst q2
    rw [Nat.zero_add] at *
    have hlet := letS_good (x := i) (by omega)
    have hls : (letS ((i : Nat) : Int)).size = 1 := by rw [size_list, letS_list]; rfl
    have hcl : checkF 8 (letS ((i : Nat) : Int)) = 0 := check_good hlet (by omega)
    have z1 : ((treeF a.next).paths.getD s ⟨#[]⟩ ++ letS ((i : Nat) : Int)).size = ((treeF a.next).paths.getD s ⟨#[]⟩).size + 1 := by rw [size_list, app_list, List.length_append, ← size_list, ← size_list, hls]
    have k1 := check_cat p2 hcl (by omega)
    have k2 := check_cat k1 (check_inv p5).1 (by omega)
    have z2 : ((treeF a.next).paths.getD s ⟨#[]⟩ ++ letS ((i : Nat) : Int) ++ InverseF ((treeF a.next).paths.getD t.toNat ⟨#[]⟩)).size = ((treeF a.next).paths.getD s ⟨#[]⟩ ++ letS ((i : Nat) : Int)).size + (InverseF ((treeF a.next).paths.getD t.toNat ⟨#[]⟩)).size := by rw [size_list, app_list, List.length_append, ← size_list, ← size_list]
    have := (reduce_spec k2).2.1
    unfold wordB
    omega
  obtain ⟨v, v1, v2, v3⟩ := prod_raw hbs (exprW a.next (basF a.next).number (wordF s) 0) ⟨#[]⟩ (empty_ok ⟨by decide, by decide⟩) (by rw [hE]; trivial) e1 fun n => by
    rw [hE]
    have := e3 n
    simp only [List.length_nil] at this
    omega
  rw [hE, e2] at v3
  have hr := reduce_spec hs
  have : v = ReduceF s := raw_inj (good_word v2) (good_word hr.1) (by rw [v3, hr.2.2])
  subst this
  refine ⟨v1, expr_reduced hk.2 hc _ 0 0 n1 (word_all hs) h0 (word_rd hs), ?_⟩
  have hlen : ∀ (l : List Nat) (s : Nat), (exprW a.next (basF a.next).number l s).length ≤ l.length := by
    intro l
    induction l with
    | nil => intro s; simp [exprW]
    | cons x l ih =>
      intro s
      have := ih (getN a.next s x).toNat
      rw [expr_cons, List.length_append, List.length_cons]
      have : (fac1 a.next (basF a.next).number s x).length ≤ 1 := by unfold fac1; split <;> simp
      omega
  exact Nat.le_trans (hlen _ _) hwl
theorem FoldMembers_ret {w : World} (hl : Laid w) {k : Int} {x : Sl} {gens : List ByteArray} (hg : StrsIn w x gens) {y : Sl} {l : List Fac} (hy : RdT w tF y l) (s : ByteArray) :
    Ret Tryd.prog 5 #[.int .i64 k, x.v, y.v, .string s] (.sc .bool) w fun z w' => z = true ∧ Chg Nil w w' := by
  refine cayleylaw21_FoldMembers.calls k x y s ?_
  unfold cayleylaw21_FoldMembers.sh
  have hn : x.n = gens.length := hg.rd.len
  have hny : y.n = l.length := hy.len
  refine Join.by' (fun z W => z = (k, x, y, s, ()) ∧ W = w ∧ sizes gens ≤ 1000 ∧ l.length ≤ 40 ∧ s.size ≤ 400) ?_ ?_
  rotate_left
  · intro J hJ
    refine Ret.call (Small_ret hg.rd hg.sum hg.len 1000) ?_
    rintro b W ⟨hb0, hW⟩
    rw [hW]; clear hW
    refine Br.mk (fun _ => Br.t rfl ⟨true, rfl, rfl, Chg.refl w⟩) (fun h1 => ?_)
    refine Br.dec (fun _ => Br.t rfl ⟨true, rfl, rfl, Chg.refl w⟩) (fun h2 => ?_)
    refine Br.dec (fun _ => ⟨true, rfl, rfl, Chg.refl w⟩) (fun h3 => ?_)
    have hb : b = true := by simpa using h1
    rw [hb] at hb0
    have hb1 := of_decide_eq_true hb0.symm
    exact hJ _ _ ⟨rfl, rfl, by omega, by omega, by omega⟩
  rintro z W g ⟨rfl, hW, h1000, hl40, hs400⟩
  rw [hW]; clear hW
  dsimp only
  obtain ⟨res, hf, hi⟩ := fold_total k gens
  refine RetN.call (Fold_any hl hg hi hf) ?_
  rintro ⟨⟨y1, y2, sa, sn, _⟩, y3, _⟩ w1 ⟨hc1, ha, e3⟩
  have e3 : y3 = (autR res).2 := e3
  subst e3
  refine New.mk fun b11 w2 hb11 hn11 _ hc11 => ?_
  refine StoreN.whole (vs := [.int .i64 y1, .int .i64 y2, sa.v, sn.v]) hn11 rfl fun w3 h11 hc11' _ => ?_
  have hN3 : Chg Nil w1 w3 := hc11.trans hc11' (fun _ _ h => h) fun i hi he => by have he : i = b11 := he; omega
  have hc3 := hc1.then hN3
  have ha3 := ha.nil hN3
  dsimp only
  have sane : ∀ W, Chg Nil w W → Ret Tryd.prog 14 #[] (.sc .bool) W fun z w' => z = true ∧ Chg Nil w w' := fun W hW => Ret.mono (sane_ret (hl.nil hW)) fun z w' ⟨h1, h2⟩ => ⟨h1, hW.then h2⟩
  refine Br.mk (fun _ => Ret.call (sane w3 hc3) fun z w' ⟨h1, h2⟩ => ⟨z, rfl, h1, h2⟩) (fun h0 => ?_)
  have h0 : (autR res).2 = 0 := by simpa using h0
  obtain ⟨m, nexts, rfl, hfit, hfold⟩ := foldIs_zero hi h0
  obtain ⟨hm2, hck, hlead, hbas⟩ := bas_both hfit hfold
  have hk : 1 ≤ k ∧ k ≤ 8 := ⟨hfit.k1, hfit.k8⟩
  have hau : (autR (.ok m nexts)).1 = autE k.toNat nexts := by rw [autR, autOf, autE, hm2]
  rw [hau] at ha3
  have ldA : ∀ {W : World}, Chg Nil w3 W → ∀ {K : tA.den → Prop}, K (y1, y2, sa, sn, ()) → LoadT tA W (Addr.mk b11 0 none) K := fun hW K kk => LoadT.mk tA (fun j v hv => by rw [cellOf (hW.heap h11 fun h => h)]; simpa [Ty.cells] using hv) kk
  refine ldA (Chg.refl _) ?_
  refine Ret.call (Check_ret21 (k := k) (x := (y1, y2, sa, sn, ())) ha3) ?_
  rintro _ w4 ⟨rfl, hc4⟩
  have hz : (if ¬ (1 ≤ k ∧ k ≤ 8) then (1 : Int) else if isM k (autE k.toNat nexts) then 0 else 210) = 0 := by
    rw [if_neg (by simpa using hk), isM_check hk, decide_eq_true hck]; rfl
  rw [hz]
  refine Br.f rfl ?_
  have hgW := hg.nil (hc3.then hc4)
  have hyW : RdT w4 tF y l := hy.chg (S := Nil) (hc3.then hc4) fun _ _ h => h
  refine Join.by' (fun z W => z = (k, s, at0 b11, ()) ∧ Chg Nil w4 W) ?_ ?_
  rotate_left
  · intro J hJ
    refine RetN.call (Product_ret hgW hyW (by omega)) ?_
    rintro ⟨v, ok, _⟩ w5 ⟨hc5, hp⟩
    cases hpp : prodS gens l ⟨#[]⟩ with
    | none =>
      rw [hpp] at hp
      have hp : ok = false := hp
      exact Br.f hp (hJ _ _ ⟨rfl, hc5⟩)
    | some v' =>
      rw [hpp] at hp
      obtain ⟨hv, ho⟩ := hp
      have hv : v = v' := hv
      have ho : ok = true := ho
      subst hv
      refine Br.t ho ?_
      have hc35 := hc4.then hc5
      refine ldA hc35 ?_
      refine RetN.call (Member_ret (k := k) (x := (y1, y2, sa, sn, ())) (hl.nil (hc3.then hc35)) (ha3.nil hc35) v) ?_
      rintro _ w6 ⟨rfl, hc6⟩
      rw [members_prod hfit hfold h1000 hl40 hpp]
      exact Br.f rfl (Br.f rfl (hJ _ _ ⟨rfl, hc5.then hc6⟩))
  rintro z W g ⟨rfl, hcW⟩
  dsimp only
  have hc3W := hc4.then hcW
  refine ldA hc3W ?_
  refine RetN.call (Basis_ret (k := k) (x := (y1, y2, sa, sn, ())) (hl.nil (hc3.then hc3W)) (ha3.nil hc3W)) ?_
  rintro ⟨r1, r2, _⟩ w7 ⟨q1, q2, hc7, _⟩
  have hb1 : basisF k (autE k.toNat nexts) = ((basF (autE k.toNat nexts).next).basis, 0) := by
    unfold basisF examF
    simp [hck, hfit.k1, hfit.k8]
  have q1 : r2 = (basisF k (autE k.toNat nexts)).2 := q1
  have q5 : OwnT w7 9 tS r1 (basisF k (autE k.toNat nexts)).1 := q2
  rw [hb1] at q1 q5
  have q1 : r2 = 0 := q1
  subst q1
  have q6 : OwnT w7 9 tS r1 (basF (autE k.toNat nexts).next).basis := q5
  have hc37 := hc3W.then hc7
  refine ldA hc37 ?_
  refine RetN.call (Express_ret (k := k) (x := (y1, y2, sa, sn, ())) (hl.nil (hc3.then hc37)) (ha3.nil hc37) s) ?_
  rintro ⟨r3, r4, _⟩ w8 ⟨q3, q4, hc8, _⟩
  have q3 : r4 = (expressF k (autE k.toNat nexts) s).2 := q3
  have q4 : OwnT w8 83 tF r3 (expressF k (autE k.toNat nexts) s).1 := q4
  subst q3
  have hc38 := hc37.then hc8
  refine Br.f rfl ?_
  refine Ret.call (IsWord_ret w8 k s) ?_
  rintro _ W9 ⟨rfl, hW9⟩
  rw [hW9]; clear hW9
  by_cases hs : checkF k s = 0
  · refine Br.f (by rw [hs]; rfl) ?_
    refine ldA hc38 ?_
    refine Ret.call (Lead_ret (k := k) (x := (y1, y2, sa, sn, ())) (ha3.nil hc38) hck hk hs) ?_
    rintro _ w9 ⟨rfl, hc9⟩
    have hc39 := hc38.then hc9
    have hE : expressF k (autE k.toNat nexts) s = if leadsF (autE k.toNat nexts).next (wordF s) 0 ≠ 0 then ([], 211) else (exprW (autE k.toNat nexts).next (basF (autE k.toNat nexts).next).number (wordF s) 0, 0) := by
      unfold expressF
      rw [if_neg (by rw [exam_ok hk hck hs]; simp)]
    by_cases h0 : leadsF (autE k.toNat nexts).next (wordF s) 0 = 0
    · refine Br.f (by rw [h0]; rfl) ?_
      rw [if_neg (by rw [h0]; simp)] at hE
      rw [hE] at q4 ⊢
      have q4 : OwnT w8 83 tF r3 (exprW (autE k.toNat nexts).next (basF (autE k.toNat nexts).next).number (wordF s) 0) := q4
      obtain ⟨m1, m2, m3⟩ := members_expr hk hck hs hs400 h0
      have hr1 : RdT w9 tS r1 (basF (autE k.toNat nexts).next).basis := q6.rd.chg (S := Nil) (hc8.then hc9) fun _ _ h => h
      have hr3 : RdT w9 tF r3 (exprW (autE k.toNat nexts).next (basF (autE k.toNat nexts).next).number (wordF s) 0) := q4.rd.chg (S := Nil) hc9 fun _ _ h => h
      have hbs : StrsIn w9 r1 (basF (autE k.toNat nexts).next).basis := by
        refine ⟨hr1, ?_, fun b hb => ?_⟩
        · have := q6.rd.len
          rcases q6.block with ⟨_, hx⟩ | ⟨g, cur, _, _, h3, h4, _⟩
          · rw [hx]; simp
          · simp only [maxLen] at h4; omega
        · have := check_size (bas_check hk hck hb); omega
      refine RetN.call (Product_ret hbs hr3 (by omega)) ?_
      rintro ⟨v, ok, _⟩ w10 ⟨hc10, hp⟩
      rw [m1] at hp
      obtain ⟨hv, ho⟩ := hp
      have hv : v = ReduceF s := hv
      have ho : ok = true := ho
      subst hv ho
      have hc310 := hc39.then hc10
      refine Ret.call (sane_ret (hl.nil (hc3.then hc310))) ?_
      rintro _ w11 ⟨rfl, hc11⟩
      refine Br.t rfl (Br.t rfl (Br.t rfl ?_))
      have hr4 := hr3.chg (S := Nil) (hc10.then hc11) fun _ _ h => h
      refine Ret.call (Reduced_ret hr4 (by omega)) ?_
      rintro _ w12 ⟨rfl, hc12⟩
      refine Br.t m2 ?_
      refine Ret.call (Rf.Reduce_ret w12 s) ?_
      rintro _ w13 ⟨rfl, hc13⟩
      exact ⟨_, rfl, by simp, (((hc3.then hc310).then hc11).then hc12).then hc13⟩
    · have hlt : ∀ z : Int, z ≠ 0 → (z != 0) = true := fun z hz => by simp [hz]
      refine Br.t (hlt _ h0) ?_
      rw [if_pos h0] at hE
      rw [hE] at q4 ⊢
      refine Ret.call (sane w9 (hc3.then hc39)) ?_
      rintro _ w10 ⟨rfl, hc10⟩
      have q5 : r3.n = 0 := q4.len
      exact Br.t rfl (Br.t rfl ⟨true, by rw [q5]; rfl, rfl, hc10⟩)
  · refine Br.t (by simp [hs]) ?_
    have hE : expressF k (autE k.toNat nexts) s = ([], 4) := by
      unfold expressF
      rw [exam_bad hk hck hs]; rfl
    rw [hE] at q4 ⊢
    refine Ret.call (sane w8 (hc3.then hc38)) ?_
    rintro _ w10 ⟨rfl, hc10⟩
    have q5 : r3.n = 0 := q4.len
    exact Br.t rfl (Br.t rfl ⟨true, by rw [q5]; rfl, rfl, hc10⟩)
end Go.Proofs.YtffdjfkekdoeaaaDoor.Fo
end
section
set_option linter.unusedVariables false
set_option linter.unusedSimpArgs false
set_option maxRecDepth 8000
set_option maxHeartbeats 4000000
namespace Go.Proofs.YtffdjfkekdoeaaaDoor.Fo
open Go.ChangeShapes Go.WideShapes Go.ChangeAt Go.Deep
open Fw Wd
theorem under38 : Tryd.prog.underlying 38 = some (.slice 83) := by kernel_rfl
theorem open_facs {H : Type} {enc : TypeId × Value → H} {W : World} {base : Nat} {v : Value} {d : DataW H} {p : List MemPlace} (hv : Value.okWide Tryd.prog W .any base 38 v) (h : DataW.Trod enc Tryd.prog W 0 (fun _ => true) true 38 v d p) :
    ∃ (x : Sl) (l : List (Int × Bool × Unit)), v = x.v ∧ RdT W tF x l := by
  obtain ⟨a0, n0, c0, rfl⟩ := okWide_slice under38 hv
  obtain ⟨fuel, hf⟩ := h
  have hs : Tryd.prog.underlying 83 = some (.struct (Tryd.prog.fieldsOf 83)) := by kernel_rfl
  have hfl : (Tryd.prog.fieldsOf 83).toList.map (fun f => (f.type, f.offset)) = [(3, 0), (4, 1)] := by kernel_rfl
  obtain ⟨f0, f1, he⟩ : ∃ f0 f1, Tryd.prog.fieldsOf 83 = #[f0, f1] := by
    generalize Tryd.prog.fieldsOf 83 = fs at hfl
    rcases fs with ⟨_ | ⟨f, _ | ⟨g, _ | ⟨e, l⟩⟩⟩⟩
    · simp at hfl
    · simp at hfl
    · exact ⟨f, g, rfl⟩
    · simp at hfl
  rw [he] at hs hfl
  simp only [List.map_cons, List.map_nil, List.cons.injEq, Prod.mk.injEq, and_true] at hfl
  obtain ⟨⟨t0, o0⟩, t1, o1⟩ := hfl
  rcases open_slice_pairs under38 hs (by kernel_rfl) o0 o1 (by rw [t0]; kernel_rfl) (by rw [t1]; kernel_rfl) hf with ⟨hcs, _⟩ | ⟨a, len, cap, m, n, V0, V1, D0, D1, P0, P1, hcs, _, hl, hm, hmm, hx, hc⟩
  · simp only [Value.cells, List.cons.injEq, and_true] at hcs
    rw [hcs]
    exact ⟨⟨none, 0, 0⟩, [], rfl, RdT.nil _ _ _ _⟩
  · simp only [Value.cells, List.cons.injEq, and_true] at hcs
    rw [hcs]
    have hmc : m = cap := by simpa using hmm
    have each : ∀ i, ∃ q : Int × Bool, i < len → W.cell? (a.add (i * 2)) = some (.int .i64 q.1) ∧ W.cell? (a.add (i * 2 + 1)) = some (.bool q.2) := fun i => by
      by_cases hi : i < len
      · obtain ⟨c1, c2, c3, c4⟩ := hc i (by omega)
        rw [t0] at c3
        rw [t1] at c4
        obtain ⟨k0, e0, _⟩ := DataW.trod_int under3 c3
        obtain ⟨b0, e1, _⟩ := DataW.trod_bool under4 c4
        simp only [List.cons.injEq, and_true] at e0 e1
        exact ⟨(k0, b0), fun _ => ⟨by rw [c1, e0], by rw [c2, e1]⟩⟩
      · exact ⟨(0, false), fun h => absurd h hi⟩
    have ⟨q, hq⟩ := Classical.axiomOfChoice each
    refine ⟨⟨some a, len, cap⟩, (List.range len).map fun i => ((q i).1, (q i).2, ()), rfl, ⟨by simp, fun i x hx => ⟨a, rfl, fun j u hu => ?_⟩⟩⟩
    obtain ⟨hi, rfl⟩ := list_ofFn_get len _ i x hx
    obtain ⟨h1, h2⟩ := hq i hi
    have hsz : i * Ty.sz tF = i * 2 := rfl
    rw [hsz]
    match j, hu with
    | 0, hu =>
      simp only [Ty.cells, vals, List.getElem?_cons_zero, Option.some.injEq] at hu
      subst hu
      rw [add0]; exact h1
    | 1, hu =>
      simp only [Ty.cells, vals, List.getElem?_cons_succ, List.getElem?_cons_zero, Option.some.injEq] at hu
      subst hu
      rw [Fw.add_add]; exact h2
    | j + 2, hu => simp [Ty.cells, vals] at hu
end Go.Proofs.YtffdjfkekdoeaaaDoor.Fo
end
