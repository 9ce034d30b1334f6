/- Parts of a proof, laid one behind the other by our own merge.py: RfPaths LwChecks. -/
import Derived.Test.YtffdjfkekdoeaaaDoorCk4
import Derived.Laws.StructEq
section
/- The references Paths and Basis. -/
set_option linter.unusedVariables false
set_option linter.unusedSimpArgs false
set_option maxRecDepth 8000
set_option maxHeartbeats 4000000
namespace Go.Proofs.YtffdjfkekdoeaaaDoor.Rf
open Fw Wd Fo Pl

def metF (n m : Nat) : List Bool := (List.range n).map fun i => decide (i < m)
theorem metF_set {n m : Nat} (h : m < n) : (metF n m).set m true = metF n (m + 1) := by
  unfold metF
  apply List.ext_getElem (by simp)
  intro i h1 h2
  rw [List.getElem_set]
  simp only [List.getElem_map, List.getElem_range]
  split
  · rename_i he; subst he; simp
  · rename_i he
    by_cases hi : i < m
    · simp [hi]; omega
    · simp [hi]; omega
theorem metF_get {n m i : Nat} (h : i < n) : (metF n m)[i]? = some (decide (i < m)) := by
  unfold metF; rw [List.getElem?_map, List.getElem?_range h]; rfl
theorem metF_zero (n : Nat) : List.replicate n false = metF n 0 := by
  unfold metF
  apply List.ext_getElem (by simp)
  intro i h1 h2
  simp
theorem zero4' : (Tryd.prog.info? 4).bind (·.zero) = some (.bool false) := by kernel_rfl
theorem Paths_ret {w : World} {k : Int} {x : Int × Int × Sl × Sl × Unit} {a : Aut} (h : AutIn w x a) (hc : a.check k = 0) (hk : 1 ≤ k ∧ k ≤ 8) :
    Ret Tryd.prog 32 #[.agg #[.int .i64 x.1, .int .i64 x.2.1, x.2.2.1.v, x.2.2.2.1.v]] (.sc .sl) w fun y w' => OwnT w' 9 tS y (treeF a.next).paths ∧ Chg Nil w w' ∧ ∀ k, y.own k → w.heap.size ≤ k := by
  obtain ⟨x1, x2, sa, sn, _⟩ := x
  obtain ⟨hsym, _, hn1, hn2, hla, hscan0, hrows⟩ := check_spec hc
  have a1 := h.sym
  simp only at a1
  refine cayleyref21_Paths.calls x1 x2 sa sn ?_
  unfold cayleyref21_Paths.sh
  refine New.mk fun b1 w1 hb1 hh1 hs1 hc1 => ?_
  obtain ⟨hra, _, _, sls, hrn, hsl, hrws, _⟩ := h.rd
  have hrn : RdT w (.sc .sl) sn sls := hrn
  have e1 : sa.n = a.next.length := by rw [hla]; exact hra.len
  have hml : maxLen = 9223372036854775807 := rfl
  refine LoadT.sc (s := .sl) (x := sa) (by rw [cellOf hh1]; rfl) ?_
  rw [e1]
  refine makeSlice_own (s := .str) ok22 (z := (⟨#[]⟩ : ByteArray)) zero9 rfl a.next.length rfl (by omega) (by omega) fun g w2 hog hcg hg => ?_
  refine LoadT.sc (s := .sl) (x := sa) (by rw [cellOf (hcg.heap hh1 fun h => h)]; rfl) ?_
  rw [e1]
  refine makeSlice_own (s := .bool) ok24 (z := false) zero4' rfl a.next.length rfl (by omega) (by omega) fun m w3 hom hcm hm => ?_
  rw [metF_zero] at hom
  refine hom.idx (t := .sc .bool) 0 rfl (by simp [metF]; omega) fun g' hg' => ?_
  cases hg'
  refine hom.store (s := .bool) rfl 0 (by simp [metF]; omega) (x := true) fun w4 hom4 hc4 _ => ?_
  rw [metF_set (by omega)] at hom4
  have hog3 := hog.chg hcm fun _ _ h => h
  have hgl := Rf.OwnT.ltk hog (k := g) ⟨_, rfl, rfl⟩
  have hog4 : OwnT w4 9 tS (sl0 g a.next.length) (List.replicate a.next.length ⟨#[]⟩) := hog3.chg hc4 fun a' ha' he => by cases ha'; have he : g = m := he; omega
  have z1 := hc1.size
  have z2 := hcg.size
  have hc04 : Chg Nil w w4 := ((hc1.then hcg).then hcm).trans hc4 (fun _ _ h => h) fun i hi he => by have he : i = m := he; omega
  have l1 := lt_of_heap hh1
  have h14 : w4.heap[b1]? = some (.cells #[.int .i64 x1, .int .i64 x2, sa.v, sn.v] 27 (0, 0)) := hc4.heap (hcm.heap (hcg.heap hh1 fun h => h) fun h => h) fun he => by have he : b1 = m := he; omega
  have hgm : g < m := by omega
  have hT0 := TreeOk.start hn1
  let Inv : World → Tree → Prop := fun W T => Chg Nil w W ∧ W.heap[b1]? = some (.cells #[.int .i64 x1, .int .i64 x2, sa.v, sn.v] 27 (0, 0)) ∧ OwnT W 9 tS (sl0 g a.next.length) T.paths ∧ OwnT W 4 (.sc .bool) (sl0 m a.next.length) (metF a.next.length T.seen) ∧ TreeOk a.next T
  refine LoopT.mk (fun y W => ∃ (s : Nat) (T : Tree), s ≤ a.next.length ∧ y = (at0 b1, sl0 g a.next.length, sl0 m a.next.length, (s : Int), ()) ∧ Inv W T ∧ treeR s (a.next.drop s) T = treeF a.next ∧ scanR a.acc a.next s (a.next.drop s) T.seen = some a.next.length) (fun y _ => a.next.length - y.2.2.2.1.toNat)
    ⟨0, _, Nat.zero_le _, rfl, ⟨hc04, h14, hog4, hom4, hT0⟩, rfl, hscan0⟩ ?_
  rintro y gE W ⟨s, T, hs, rfl, ⟨i1, i2, i3, i4, i5⟩, htree, hscan⟩
  dsimp only
  refine LoadT.sc (s := .sl) (x := sa) (by rw [cellOf i2]; rfl) ?_
  rw [e1]
  refine Br.dec (fun hlt => ?_) (fun hge => ?_)
  · have hlt' : s < a.next.length := by omega
    have hdrop : a.next.drop s = a.next[s] :: a.next.drop (s + 1) := List.drop_eq_getElem_cons hlt'
    have hrow' : a.next[s]? = some a.next[s] := List.getElem?_eq_getElem hlt'
    generalize hR : a.next[s] = row at hdrop hrow'
    obtain ⟨hrlen, hrval⟩ := hrows row (List.mem_of_getElem? hrow')
    have hgetS : a.next.getD s [] = row := by rw [List.getD_eq_getElem?_getD, hrow']; rfl
    rw [hdrop] at htree hscan
    simp only [treeR, scanR] at htree hscan
    split at hscan
    · cases hscan
    rename_i hgood
    split at hscan
    · cases hscan
    rename_i seen' hE
    have hsT : s < T.seen := by
      by_cases hcc : T.seen ≤ s
      · exact absurd (.inr (.inr hcc)) hgood
      · omega
    obtain ⟨rsl, hrsl⟩ : ∃ rsl, sls[s]? = some rsl := ⟨_, List.getElem?_eq_getElem (by rw [hsl]; exact hlt')⟩
    have hrr := hrws s rsl row hrsl hrow'
    refine LoopT.mk (fun y W => ∃ (x : Nat) (T' : Tree), x ≤ row.length ∧ y = (at0 b1, sl0 g a.next.length, sl0 m a.next.length, (s : Int), (x : Int), ()) ∧ Inv W T' ∧ treeE s (edgesFrom x (row.drop x)) T' = treeE s (edgesFrom 0 row) T ∧ scanE a.next s (edgesFrom x (row.drop x)) T'.seen = some seen' ∧ s < T'.seen) (fun y _ => row.length - y.2.2.2.2.1.toNat)
      ⟨0, T, Nat.zero_le _, rfl, ⟨i1, i2, i3, i4, i5⟩, rfl, hE, hsT⟩ ?_
    clear i1 i2 i3 i4 i5
    rintro y gE2 W ⟨x, T', hx, rfl, ⟨i1, i2, i3, i4, i5⟩, htr, hsc, hsT'⟩
    dsimp only
    refine LoadT.sc (s := .int .i64) (x := x1) (by rw [cellOf i2]; rfl) ?_
    rw [a1, hsym]
    refine Br.dec (fun hlt2 => ?_) (fun hge2 => ?_)
    · have hxr : x < row.length := by omega
      have hxe : row[x]? = some row[x] := List.getElem?_eq_getElem hxr
      have hdr2 : row.drop x = row[x] :: row.drop (x + 1) := List.drop_eq_getElem_cons hxr
      have htv := hrval row[x] (List.getElem_mem hxr)
      have hfor0 : getN a.next s x = row[x] := by unfold getN; rw [hgetS, getD_get hxr]
      rw [hdr2] at htr hsc
      generalize row[x] = t at *
      simp only [edgesFrom] at htr hsc
      refine LoadT.sc (s := .sl) (x := sn) (by rw [cellOf i2]; rfl) ?_
      refine (hrn.chg i1 fun _ _ h => h).get (t := .sc .sl) s rfl hrsl ?_
      refine (hrr.chg i1 fun _ _ h => h).get (t := tI) x rfl hxe ?_
      have hwx : IntKind.wrap .i64 ((x : Int) + 1) = ((x + 1 : Nat) : Int) := by rw [wrap64 (by omega) (by omega)]; rfl
      have hmu : row.length - (x + 1) < row.length - x := by omega
      have hseen := i5.seen
      refine Join.by' (fun y V => ∃ b : Bool, y = (at0 b1, sl0 g a.next.length, sl0 m a.next.length, (s : Int), (x : Int), t, b, ()) ∧ V = W ∧ (b = true ↔ (0 ≤ t ∧ ¬ t.toNat < T'.seen))) ?_ ?_
      · rintro y V gE3 ⟨b, rfl, hV, hb⟩
        rw [hV]; clear hV
        dsimp only
        rw [hwx]
        refine Br.mk (fun hbt => ?_) (fun hbf => ?_)
        · obtain ⟨h0, hge3⟩ := hb.1 hbt
          obtain ⟨nt, rfl⟩ := Int.eq_ofNat_of_zero_le h0
          simp only [Int.toNat_natCast] at hge3
          rw [if_pos h0] at htr hsc
          simp only [treeE, scanE] at htr hsc
          split at hsc
          · cases hsc
          rename_i hok
          have hle : ¬ (nt : Int) > (T'.seen : Int) := fun hh => hok (.inr hh)
          have hback : getN a.next nt (x ^^^ 1) = (s : Int) := by
            by_cases hh : (a.next.getD ((nt : Int)).toNat []).getD (((x : Int)).toNat ^^^ 1) 0 = (s : Int)
            · exact hh
            · exact absurd (.inl hh) hok
          obtain rfl : nt = T'.seen := by omega
          rw [if_pos rfl] at htr hsc
          have hstep := i5.step hsT' (by omega) hfor0 hback
          have hmlen : T'.seen < (metF a.next.length T'.seen).length := by simp [metF]; omega
          refine i4.idx (t := .sc .bool) T'.seen rfl hmlen fun g' hg' => ?_
          cases hg'
          refine i4.store (s := .bool) rfl T'.seen hmlen (x := true) fun V1 om1 hcA _ => ?_
          rw [metF_set (by omega)] at om1
          have hd : Chg Nil V1 V1.drew := Chg.drew V1
          have pl : s < T'.paths.length := by rw [i5.len]; exact hlt'
          have hps : T'.paths[s]? = some (T'.paths.getD s ⟨#[]⟩) := by rw [getD_get pl]; exact List.getElem?_eq_getElem pl
          have op1 : OwnT V1 9 tS (sl0 g a.next.length) T'.paths := i3.chg hcA fun a' ha' he => by cases ha'; have he : g = m := he; omega
          have j1 : Chg Nil w V1 := i1.trans hcA (fun _ _ h => h) fun i hi he => by have he : i = m := he; omega
          have j2 := hcA.heap i2 fun he => by have he : b1 = m := he; omega
          refine ⟨fun U => Chg Nil V1.drew U, Chg.refl _, ?_⟩
          refine rd_idxA (t := tS) op1.rd s rfl hps fun ad had => ?_
          refine LoadS.sc (s := .str) (x := T'.paths.getD s ⟨#[]⟩) (fun U hU => (op1.rd.chg (hd.then hU) fun _ _ h => h).cell1 had hps) ?_
          refine Ret.call (Rf.Letter_ret _ _) ?_
          rintro _ _ ⟨rfl, rfl⟩
          refine ⟨Chg.refl _, ?_⟩
          refine New.mk fun b40 V3 hb40 hn40 _ hc3' => ⟨hc3', ?_⟩
          refine letter_string hn40 ⟨hc3', ?_, ?_⟩
          · have := i5.small _ (List.mem_of_getElem? hps)
            rw [letS_size]; omega
          have hdN := hd.then hc3'
          have op3 := op1.chg hdN fun _ _ h => h
          have om3 := om1.chg hdN fun _ _ h => h
          have hpt : T'.seen < T'.paths.length := by rw [i5.len]; omega
          refine op3.idx (t := tS) T'.seen rfl hpt fun g' hg' => ?_
          cases hg'
          refine op3.store (s := .str) rfl T'.seen hpt (x := T'.paths.getD s ⟨#[]⟩ ++ letS (x : Int)) fun V4 op4 hc4' _ => ?_
          refine ⟨⟨x + 1, ⟨T'.seen + 1, T'.paths.set T'.seen (T'.paths.getD s ⟨#[]⟩ ++ letS (x : Int)), T'.keys ++ [((s : Int), (x : Int)), ((T'.seen : Int), ((x ^^^ 1 : Nat) : Int))]⟩, hxr, rfl, ⟨?_, ?_, op4, ?_, hstep⟩, ?_, hsc, by show s < T'.seen + 1; omega⟩, hmu⟩
          · exact (j1.then hdN).trans hc4' (fun _ _ h => h) fun i hi he => by have he : i = g := he; omega
          · exact hc4'.heap (hdN.heap j2 fun h => h) fun he => by have he : b1 = g := he; omega
          · exact om3.chg hc4' fun a' ha' he => by cases ha'; have he : m = g := he; omega
          · simpa using htr
        · have hno : ¬ (0 ≤ t ∧ ¬ t.toNat < T'.seen) := fun hh => by rw [hb.2 hh] at hbf; cases hbf
          refine ⟨⟨x + 1, T', hxr, rfl, ⟨i1, i2, i3, i4, i5⟩, ?_, ?_, hsT'⟩, hmu⟩
          · by_cases h0 : 0 ≤ t
            · rw [if_pos h0] at htr
              simp only [treeE] at htr
              rw [if_neg (by omega)] at htr
              exact htr
            · rw [if_neg h0] at htr; exact htr
          · by_cases h0 : 0 ≤ t
            · rw [if_pos h0] at hsc
              simp only [scanE] at hsc
              split at hsc
              · cases hsc
              rw [if_neg (by omega)] at hsc
              exact hsc
            · rw [if_neg h0] at hsc; exact hsc
      · intro J hJ
        refine Br.dec (fun hp => ?_) (fun hn => hJ _ _ ⟨false, rfl, rfl, ?_⟩)
        · have hp : t ≥ 0 := hp
          obtain ⟨nt, rfl⟩ := Int.eq_ofNat_of_zero_le hp
          refine i4.rd.get (t := .sc .bool) nt rfl (x := decide (nt < T'.seen)) (metF_get (by omega)) ?_
          refine hJ _ _ ⟨_, rfl, rfl, ?_⟩
          simp
        · have hn : ¬ t ≥ 0 := hn
          constructor
          · intro h; cases h
          · rintro ⟨h, _⟩; omega
    · have hxe : x = row.length := by omega
      rw [hxe, List.drop_eq_nil_of_le (Nat.le_refl _)] at htr hsc
      simp only [edgesFrom, treeE, scanE, Option.some.injEq] at htr hsc
      rw [← htr] at htree
      rw [← hsc] at hscan
      rw [wrap64 (by omega) (by omega)]
      refine ⟨⟨s + 1, T', hlt', rfl, ⟨i1, i2, i3, i4, i5⟩, htree, hscan⟩, ?_⟩
      show a.next.length - (s + 1) < a.next.length - s
      omega
  · have hsn : s = a.next.length := by omega
    rw [hsn, List.drop_eq_nil_of_le (Nat.le_refl _)] at htree
    simp only [treeR] at htree
    exact ⟨_, rfl, by rw [← htree]; exact i3, i1, fun k hk => by obtain ⟨a', ha', rfl⟩ := hk; cases ha'; show w.heap.size ≤ g; omega⟩
theorem bytes_eq (a b : ByteArray) : (a.toList == b.toList) = decide (a = b) := by
  by_cases h : a = b
  · subst h; simp
  · rw [decide_eq_false h]
    refine beq_eq_false_iff_ne.2 fun he => h ?_
    rw [ByteArray.toList_eq, ByteArray.toList_eq] at he
    exact ByteArray.ext (Array.toList_inj.1 he)
theorem Basis_ret21 {w : World} {k : Int} {x : Int × Int × Sl × Sl × Unit} {a : Aut} (h : AutIn w x a) (hc : a.check k = 0) (hk : 1 ≤ k ∧ k ≤ 8) :
    Ret Tryd.prog 30 #[.agg #[.int .i64 x.1, .int .i64 x.2.1, x.2.2.1.v, x.2.2.2.1.v]] (.sc .sl) w fun y w' => OwnT w' 9 tS y (basF a.next).basis ∧ Chg Nil w w' ∧ ∀ k, y.own k → w.heap.size ≤ k := by
  obtain ⟨x1, x2, sa, sn, _⟩ := x
  obtain ⟨hsym, _, hn1, hn2, hla, _, hrows⟩ := check_spec hc
  obtain ⟨hT, hW, hseen⟩ := tree_ok hk.2 hc
  have a1 := h.sym
  simp only at a1
  refine cayleyref21_Basis.calls x1 x2 sa sn ?_
  unfold cayleyref21_Basis.sh
  refine New.mk fun b1 w1 hb1 hh1 hs1 hc1 => ?_
  obtain ⟨hra, _, _, sls, hrn, hsl, hrws, _⟩ := id h.rd
  have hrn : RdT w (.sc .sl) sn sls := hrn
  have e1 : sa.n = a.next.length := by rw [hla]; exact hra.len
  have hml : maxLen = 9223372036854775807 := rfl
  refine LoadT.mk tA (x := (x1, x2, sa, sn, ())) (fun j v hv => by rw [cellOf hh1]; simpa [Ty.cells] using hv) ?_
  refine Ret.call (Paths_ret (x := (x1, x2, sa, sn, ())) (h.nil hc1) hc hk) ?_
  rintro ps w2 ⟨hps, hc2, hpsO⟩
  refine New.mk fun b7 w3 hb7 hh7 hs7 hc7 => ?_
  have h13 := hc7.heap (hc2.heap hh1 fun h => h) fun h => h
  have hps3 := hps.chg hc7 fun _ _ h => h
  have hob : OwnT w3 9 tS ⟨some ⟨b7, 0, none⟩, 0, 0⟩ [] := own_empty hh7 (by decide)
  have hc03 := (hc1.then hc2).then hc7
  have z1 := hc1.size
  have z2 := hc2.size
  generalize hTT : treeF a.next = T at *
  have rd2 : ∀ {W : World}, Chg Nil w3 W → W.heap[b1]? = some (.cells #[.int .i64 x1, .int .i64 x2, sa.v, sn.v] 27 (0, 0)) ∧ OwnT W 9 tS ps T.paths := fun hW => ⟨hW.heap h13 fun h => h, hps3.chg hW fun _ _ h => h⟩
  let Inv : World → Sl → List ByteArray → Prop := fun W so bl => Chg Nil w3 W ∧ OwnT W 9 tS so bl ∧ (∀ k, so.own k → b7 ≤ k)
  -- the old blocks end at b7
  have hlt7 : ∀ {W : World}, Chg (fun k => b7 ≤ k) w3 W → W.heap[b1]? = some (.cells #[.int .i64 x1, .int .i64 x2, sa.v, sn.v] 27 (0, 0)) ∧ OwnT W 9 tS ps T.paths ∧ Chg Nil w W := fun hW => by
    have l1 := lt_of_heap hh1
    have lp : ∀ k, ps.own k → k < b7 := fun k hk => by rw [hb7]; exact Rf.OwnT.ltk hps hk
    refine ⟨hW.heap h13 fun hk => by have hk : b7 ≤ b1 := hk; omega, hps3.chg hW fun a' ha' hk => ?_, hc03.trans hW (fun _ _ h => h) fun i hi hk => ?_⟩
    · have := lp a'.block ⟨a', ha', rfl⟩
      have hk : b7 ≤ a'.block := hk
      omega
    · have hk : b7 ≤ i := hk; omega
  refine LoopT.mk (fun y W => ∃ (s : Nat) (so : Sl) (B : Bas), s ≤ a.next.length ∧ y = (at0 b1, ps, so, (s : Int), ()) ∧ Chg (fun k => b7 ≤ k) w3 W ∧ OwnT W 9 tS so B.basis ∧ (∀ k, so.own k → b7 ≤ k) ∧ B.basis.length ≤ 16 * s ∧ basR T s (a.next.drop s) B = basR T 0 a.next ⟨[], []⟩) (fun y _ => a.next.length - y.2.2.2.1.toNat)
    ⟨0, _, ⟨[], []⟩, Nat.zero_le _, rfl, Chg.refl _, hob, fun k hk => by obtain ⟨a', ha', rfl⟩ := hk; cases ha'; exact Nat.le_refl _, by simp, rfl⟩ ?_
  rintro y gE W ⟨s, so, B, hs, rfl, hcW, hoW, hownW, hbl, hbas⟩
  dsimp only
  obtain ⟨i2, i3, i1⟩ := hlt7 hcW
  refine LoadT.sc (s := .sl) (x := sa) (by rw [cellOf i2]; rfl) ?_
  rw [e1]
  refine Br.dec (fun hlt => ?_) (fun hge => ?_)
  · have hlt' : s < a.next.length := by omega
    have hdrop : a.next.drop s = a.next[s] :: a.next.drop (s + 1) := List.drop_eq_getElem_cons hlt'
    have hrow' : a.next[s]? = some a.next[s] := List.getElem?_eq_getElem hlt'
    obtain ⟨hrlen, hrval⟩ := hrows _ (List.getElem_mem hlt')
    have hgetS : a.next.getD s [] = a.next[s] := getD_get hlt'
    generalize a.next[s] = row at *
    rw [hdrop] at hbas
    simp only [basR] at hbas
    obtain ⟨rsl, hrsl⟩ : ∃ rsl, sls[s]? = some rsl := ⟨_, List.getElem?_eq_getElem (by rw [hsl]; exact hlt')⟩
    have hrr := hrws s rsl row hrsl hrow'
    have hr2 : row.length = 2 * k.toNat := by omega
    refine LoopT.mk (fun y W => ∃ (i : Nat) (so : Sl) (B' : Bas), i ≤ k.toNat ∧ y = (at0 b1, ps, so, (s : Int), ((2 * i : Nat) : Int), ()) ∧ Chg (fun k => b7 ≤ k) w3 W ∧ OwnT W 9 tS so B'.basis ∧ (∀ k, so.own k → b7 ≤ k) ∧ B'.basis.length ≤ 16 * s + i ∧ basE T s (edgesFrom (2 * i) (row.drop (2 * i))) B' = basE T s (edgesFrom 0 row) B) (fun y _ => 2 * k.toNat - y.2.2.2.2.1.toNat)
      ⟨0, so, B, Nat.zero_le _, rfl, hcW, hoW, hownW, by omega, rfl⟩ ?_
    clear hcW hoW hownW hbl i1 i2 i3 so
    rintro y gE2 W ⟨i, so, B', hi, rfl, hcW, hoW, hownW, hbl, hbe⟩
    dsimp only
    obtain ⟨i2, i3, i1⟩ := hlt7 hcW
    refine LoadT.sc (s := .int .i64) (x := x1) (by rw [cellOf i2]; rfl) ?_
    rw [a1, hsym]
    refine Br.dec (fun hlt2 => ?_) (fun hge2 => ?_)
    · have hik : i < k.toNat := by have hlt2 : ((2 * i : Nat) : Int) < 2 * k := hlt2; omega
      have h2i : 2 * i < row.length := by omega
      have hxe : row[2 * i]? = some row[2 * i] := List.getElem?_eq_getElem h2i
      have hdr1 : row.drop (2 * i) = row[2 * i] :: row.drop (2 * i + 1) := List.drop_eq_getElem_cons h2i
      have hdr2 : row.drop (2 * i + 1) = row[2 * i + 1]'(by omega) :: row.drop (2 * i + 1 + 1) := List.drop_eq_getElem_cons (by omega)
      have htv := hrval row[2 * i] (List.getElem_mem h2i)
      have hfor : getN a.next s (2 * i) = row[2 * i] := by unfold getN; rw [hgetS, getD_get h2i]
      rw [hdr1, hdr2] at hbe
      generalize row[2 * i] = t at *
      generalize row[2 * i + 1]'(by omega) = t2 at hbe hdr2
      simp only [edgesFrom] at hbe
      have hodd : ∀ (Z : List (Int × Int × Unit)) (B0 : Bas), basE T s (if 0 ≤ t2 then (((2 * i + 1 : Nat) : Int), t2, ()) :: Z else Z) B0 = basE T s Z B0 := fun Z B0 => by
        split
        · simp only [basE]
          rw [if_neg (by rintro ⟨h, _⟩; omega)]
        · rfl
      have hwx : IntKind.wrap .i64 (((2 * i : Nat) : Int) + 2) = ((2 * (i + 1) : Nat) : Int) := by rw [wrap64 (by omega) (by omega)]; omega
      have hmu : 2 * k.toNat - (((2 * (i + 1) : Nat) : Int)).toNat < 2 * k.toNat - (((2 * i : Nat) : Int)).toNat := by omega
      rw [hwx]
      refine LoadT.sc (s := .sl) (x := sn) (by rw [cellOf i2]; rfl) ?_
      refine (hrn.chg i1 fun _ _ h => h).get (t := .sc .sl) s rfl hrsl ?_
      refine (hrr.chg i1 fun _ _ h => h).get (t := tI) (2 * i) rfl hxe ?_
      refine Br.dec (fun hp => ?_) (fun hn => ?_)
      · have hp : t ≥ 0 := hp
        obtain ⟨nt, rfl⟩ := Int.eq_ofNat_of_zero_le hp
        rw [if_pos hp] at hbe
        simp only [basE] at hbe
        have hntl : nt < a.next.length := by omega
        have hps' : T.paths[s]? = some (T.paths.getD s ⟨#[]⟩) := by rw [getD_get (by rw [hT.len]; exact hlt')]; exact List.getElem?_eq_getElem _
        have hpt' : T.paths[nt]? = some (T.paths.getD nt ⟨#[]⟩) := by rw [getD_get (by rw [hT.len]; exact hntl)]; exact List.getElem?_eq_getElem _
        have zs := hT.small _ (List.mem_of_getElem? hps')
        have zt := hT.small _ (List.mem_of_getElem? hpt')
        have hTs := hT.seen
        have hred := red_edge hk.2 hc hlt' (x := 2 * i) (by omega) hfor
        rw [hTT] at hred
        refine Ret.call (Rf.Letter_ret _ _) ?_
        rintro _ W1 ⟨rfl, hw1⟩
        rw [hw1]; clear hw1
        refine New.mk fun b27 W2 hb27 hn27 _ hc27 => ?_
        refine letter_string hn27 ?_
        have hd : Chg Nil W2 W2.drew := Chg.drew W2
        have hN := hc27.then hd
        have i3d := i3.chg hN fun _ _ h => h
        refine ⟨fun U => Chg Nil W2.drew U, Chg.refl _, ?_⟩
        refine rd_idxA (t := tS) i3d.rd s rfl hps' fun ad had => ?_
        refine LoadS.sc (s := .str) (x := T.paths.getD s ⟨#[]⟩) (fun U hU => (i3d.rd.chg hU fun _ _ h => h).cell1 had hps') ⟨by rw [letS_size]; omega, ?_⟩
        refine rd_idxA (t := tS) i3d.rd nt rfl hpt' fun ad2 had2 => ?_
        refine LoadS.sc (s := .str) (x := T.paths.getD nt ⟨#[]⟩) (fun U hU => (i3d.rd.chg hU fun _ _ h => h).cell1 had2 hpt') ?_
        refine Ret.call (Rf.Inverse_ret _ _) ?_
        rintro _ W3 ⟨rfl, hc3⟩
        have zi := invF_size (T.paths.getD nt ⟨#[]⟩)
        refine ⟨hc3, by rw [ByteArray.size_append, letS_size]; omega, ?_⟩
        refine Ret.call (Rf.Reduce_ret _ _) ?_
        rintro _ W4 ⟨rfl, hc4⟩
        refine ⟨hc3.then hc4, ?_⟩
        have hN4 := (hN.then hc3).then hc4
        have hcW4 : Chg (fun k => b7 ≤ k) w3 W4 := hcW.then hN4.nil
        have hoW4 := hoW.chg hN4 fun _ _ h => h
        rw [bytes_eq]
        refine Br.mk (fun hne => ?_) (fun heq => ?_)
        · have hnk : ¬ ((s : Int), ((2 * i : Nat) : Int)) ∈ T.keys := fun hm => by
            have := hred.2 hm
            rw [this] at hne; simp at hne
          rw [if_pos ⟨by omega, hnk⟩] at hbe
          refine New.mk fun b42 W5 hb42 hn42 _ hc42 => ?_
          have hoW5 := hoW4.chg hc42 fun _ _ h => h
          refine OwnT.append (t := tS) (m := 1) ok22 rfl (by decide) hoW5 [_] rfl (by decide) (fun j v hv => by rw [cellOf hn42]; simpa [Ty.cells] using hv) ?_ ?_ fun so' W6 ho6 hcA hownA => ?_
          · omega
          · omega
          have z5 := (hcW4.then hc42.nil).size
          have z3 : b7 < w3.heap.size := lt_of_heap hh7
          refine ⟨⟨i + 1, so', ⟨B'.number ++ [((s : Int), ((2 * i : Nat) : Int))], _⟩, hik, rfl, (hcW4.then hc42.nil).then (hcA.mono fun j _ hj => hownW j hj), ho6, fun k hk => ?_, by simp; omega, ?_⟩, hmu⟩
          · rcases hownA k hk with h1 | h1
            · exact hownW k h1
            · omega
          · rw [hodd] at hbe; exact hbe
        · have hk' : ((s : Int), ((2 * i : Nat) : Int)) ∈ T.keys := hred.1 (by simpa using heq)
          rw [if_neg (by rintro ⟨_, h⟩; exact h hk')] at hbe
          refine ⟨⟨i + 1, so, B', hik, rfl, hcW4, hoW4, hownW, by omega, ?_⟩, hmu⟩
          rw [hodd] at hbe; exact hbe
      · have hn : ¬ t ≥ 0 := hn
        rw [if_neg (by omega)] at hbe
        refine ⟨⟨i + 1, so, B', hik, rfl, hcW, hoW, hownW, by omega, ?_⟩, hmu⟩
        rw [hodd] at hbe; exact hbe
    · have hik : i = k.toNat := by have hge2 : ¬ ((2 * i : Nat) : Int) < 2 * k := hge2; omega
      rw [List.drop_eq_nil_of_le (by omega)] at hbe
      simp only [edgesFrom, basE] at hbe
      rw [← hbe] at hbas
      rw [wrap64 (by omega) (by omega)]
      refine ⟨⟨s + 1, so, B', hlt', rfl, hcW, hoW, hownW, by omega, hbas⟩, ?_⟩
      show a.next.length - (s + 1) < a.next.length - s
      omega
  · have hsn : s = a.next.length := by omega
    rw [hsn, List.drop_eq_nil_of_le (Nat.le_refl _)] at hbas
    simp only [basR] at hbas
    have : B = basF a.next := by rw [hbas]; unfold basF; rw [hTT]
    exact ⟨so, rfl, by rw [← this]; exact hoW, i1, fun k hk => by have := hownW k hk; omega⟩
end Go.Proofs.YtffdjfkekdoeaaaDoor.Rf
end
section
/- The walk of FoldChecks. -/
set_option linter.unusedVariables false
set_option linter.unusedSimpArgs false
set_option maxRecDepth 8000
set_option maxHeartbeats 8000000
namespace Go.Proofs.YtffdjfkekdoeaaaDoor.Fo
open Fw Wd Rf Pl

/-- What both checks return. -/
def badC (k : Int) (a : Aut) : Int := if ¬ (1 ≤ k ∧ k ≤ 8) then 1 else if isM k a then 0 else 210
theorem check_badC (k : Int) (a : Aut) : a.check k = badC k a := by
  unfold badC
  by_cases hk : 1 ≤ k ∧ k ≤ 8
  · rw [if_neg (by simpa using hk), isM_check hk]
    by_cases h0 : a.check k = 0
    · simp [h0]
    · rw [decide_eq_false h0]
      unfold Aut.check checkG at h0 ⊢
      rw [if_neg (by simpa using hk)] at h0 ⊢
      split
      · rfl
      · rename_i hc
        rw [if_neg hc] at h0
        split
        · rename_i seen hs
          rw [hs] at h0
          split
          · rename_i he
            simp [he] at h0
          · rfl
        · rfl
  · rw [if_pos hk]
    unfold Aut.check checkG
    rw [if_pos hk]
theorem exam_badC (k : Int) (a : Aut) (ws : List ByteArray) : examF k [a] ws = if badC k a ≠ 0 then badC k a else if ws.any (fun s => checkF k s != 0) then 4 else 0 := by
  unfold examF
  by_cases hk : 1 ≤ k ∧ k ≤ 8
  · rw [if_neg (by simpa using hk)]
    have hb := check_badC k a
    by_cases h0 : badC k a = 0
    · simp [hb, h0]
    · have : badC k a = 210 := by
        unfold badC at h0 ⊢
        rw [if_neg (by simpa using hk)] at h0 ⊢
        split
        · rename_i hm; rw [if_pos hm] at h0; exact absurd rfl h0
        · rfl
      simp [hb, this]
  · rw [if_pos hk]
    have : badC k a = 1 := by unfold badC; rw [if_pos hk]
    simp [this]
theorem index_all {k : Int} {a : Aut} (hk : 1 ≤ k ∧ k ≤ 8) (hc : a.check k = 0) : (indexF k a).1 = if a.next.all (fun r => r.all fun t => decide (0 ≤ t)) then (a.next.length : Int) else 0 := by
  obtain ⟨_, _, _, _, _, _, hrows⟩ := check_spec hc
  have hex : examF k [a] [] = 0 := by
    unfold examF
    rw [if_neg (by simpa using hk)]
    simp [hc]
  have hI : indexF k a = if a.next.any (fun r => decide ((degF (r.map toO) : Int) < 2 * k)) then (0, 0) else ((a.next.length : Int), 0) := by
    unfold indexF; rw [if_neg (by rw [hex]; simp)]
  have hrow : ∀ r ∈ a.next, (decide ((degF (r.map toO) : Int) < 2 * k)) = !(r.all fun t => decide (0 ≤ t)) := fun r hr => by
    have hl := (hrows r hr).1
    by_cases hall : (r.all fun t => decide (0 ≤ t)) = true
    · rw [hall]
      have hd : degF (r.map toO) = r.length := by
        unfold degF
        rw [List.filter_eq_self.2 (fun o ho => by
          obtain ⟨t, ht, rfl⟩ := List.mem_map.1 ho
          have := List.all_eq_true.1 hall t ht
          have : 0 ≤ t := by simpa using this
          unfold toO; rw [if_neg (by omega)]; rfl), List.length_map]
      rw [hd]; simp; omega
    · rw [Bool.not_eq_true] at hall
      rw [hall]
      simp only [Bool.not_false, decide_eq_true_eq]
      by_cases hd : (degF (r.map toO) : Int) < 2 * k
      · exact hd
      · have := deg_full r (by omega)
        rw [List.all_eq_false] at hall
        obtain ⟨t, ht, hn⟩ := hall
        exact absurd (this t ht) (by simpa using hn)
  have hb : a.next.any (fun r => decide ((degF (r.map toO) : Int) < 2 * k)) = !(a.next.all (fun r => r.all fun t => decide (0 ≤ t))) := by
    rw [List.not_all_eq_any_not]
    apply Bool.eq_iff_iff.2
    simp only [List.any_eq_true]
    constructor
    · rintro ⟨r, hr, h⟩; exact ⟨r, hr, by rw [← hrow r hr]; exact h⟩
    · rintro ⟨r, hr, h⟩; exact ⟨r, hr, by rw [hrow r hr]; exact h⟩
  rw [hI, hb]
  cases a.next.all (fun r => r.all fun t => decide (0 ≤ t)) <;> simp
theorem FoldChecks_ret {w : World} (hl : Laid w) {k : Int} {x : Int × Int × Sl × Sl × Unit} {a : Aut} (ha : AutIn w x a) (s : ByteArray) :
    Ret Tryd.prog 7 #[.int .i64 k, .agg #[.int .i64 x.1, .int .i64 x.2.1, x.2.2.1.v, x.2.2.2.1.v], .string s] (.sc .bool) w fun z w' => z = true ∧ Chg Nil w w' := by
  obtain ⟨x1, x2, sa, sn, _⟩ := x
  refine cayleylaw21_FoldChecks.calls k x1 x2 sa sn s ?_
  unfold cayleylaw21_FoldChecks.sh
  refine New.mk fun b1 w1 hb1 hn1 hs1 hc1 => ?_
  have ha1 := ha.nil hc1
  have l0 : ∀ {W : World}, Chg Nil w1 W → W.heap[b1]? = some (.cells #[.int .i64 x1, .int .i64 x2, sa.v, sn.v] 27 (0, 0)) := fun hW => hW.heap hn1 fun h => h
  have ldA : ∀ {W : World}, Chg Nil w1 W → ∀ {K : tA.den → Prop}, K (x1, x2, sa, sn, ()) → LoadT tA W (Addr.mk b1 0 none) K := fun hW K kk => LoadT.mk tA (fun j v hv => by rw [cellOf (l0 hW)]; simpa [Ty.cells] using hv) kk
  have lay : ∀ {W : World}, Chg Nil w1 W → Laid W := fun hW => hl.nil (hc1.then hW)
  have retT : ∀ {W : World} {z : Bool}, Chg Nil w1 W → z = true → ∃ y : Bool, Ending.returned (.bool z) = .returned ((Ty.sc .bool).val y) ∧ y = true ∧ Chg Nil w W := fun hW hz => ⟨_, rfl, hz, hc1.then hW⟩
  have hbyte : ∀ b : ByteArray, b = ⟨#[]⟩ → (b.toList == (ByteArray.mk #[]).toList) = true := fun b hb => by rw [hb]; exact beq_self_eq_true _
  refine Join.by' (fun y W => y = (k, s, at0 b1, ()) ∧ W = w1) ?_ ?_
  · rintro y W g ⟨rfl, hW⟩
    rw [hW]; clear hW
    dsimp only
    refine ldA (Chg.refl _) ?_
    refine RetN.call (Basis_ret (x := (x1, x2, sa, sn, ())) (lay (Chg.refl _)) ha1) ?_
    rintro ⟨r1, r2, _⟩ W2 ⟨q1, q2, c2, _⟩
    have q1 : r2 = (basisF k a).2 := q1
    subst q1
    refine ldA c2 ?_
    refine RetN.call (Index_ret (x := (x1, x2, sa, sn, ())) (lay c2) (ha1.nil c2)) ?_
    rintro _ W3 ⟨rfl, c3'⟩
    have c3 := c2.then c3'
    refine ldA c3 ?_
    refine RetN.call (Member_ret (x := (x1, x2, sa, sn, ())) (lay c3) (ha1.nil c3) s) ?_
    rintro _ W4 ⟨rfl, c4'⟩
    have c4 := c3.then c4'
    refine ldA c4 ?_
    refine RetN.call (Coset_ret (x := (x1, x2, sa, sn, ())) (lay c4) (ha1.nil c4) s) ?_
    rintro _ W5 ⟨rfl, c5'⟩
    have c5 := c4.then c5'
    refine ldA c5 ?_
    refine Ret.call (Check_ret21 (k := k) (x := (x1, x2, sa, sn, ())) (ha1.nil c5)) ?_
    rintro _ W6 ⟨rfl, c6'⟩
    have c6 := c5.then c6'
    have hbad : (if ¬ (1 ≤ k ∧ k ≤ 8) then (1 : Int) else if isM k a = true then 0 else 210) = badC k a := rfl
    rw [hbad]
    have ex0 : examF k [a] [] = badC k a := by rw [exam_badC]; by_cases h : badC k a = 0 <;> simp [h]
    have exs : examF k [a] [s] = if badC k a ≠ 0 then badC k a else if checkF k s != 0 then 4 else 0 := by rw [exam_badC]; simp
    have eB : (basisF k a).2 = badC k a := by unfold basisF; rw [ex0]; by_cases h : badC k a = 0 <;> simp [h]
    have eI : (indexF k a).2 = badC k a := by unfold indexF; rw [ex0]; by_cases h : badC k a = 0 <;> simp [h] <;> split <;> rfl
    have q2' : OwnT W6 9 tS r1 (basisF k a).1 := q2.chg (((c3'.then c4').then c5').then c6') fun _ _ h => h
    have e1 : r1.n = (basisF k a).1.length := q2.len
    refine Join.by' (fun y W => y = (k, s, at0 b1, r1, (indexF k a).1, (memberF k a s).1, (memberF k a s).2, (cosetF k a s).1, (cosetF k a s).2, badC k a, ()) ∧ Chg Nil W6 W) ?_ ?_
    · rintro y W g3 ⟨rfl, c7'⟩
      dsimp only
      have c7 := c6.then c7'
      have q3 := q2'.chg c7' fun _ _ h => h
      refine Br.mk (fun hne => ?_) (fun heq => ?_)
      · have hne : badC k a ≠ 0 := by simpa using hne
        have exb : examF k [a] [s] = badC k a := by rw [exs, if_pos hne]
        refine Ret.call (sane_ret (lay c7)) ?_
        rintro _ W8 ⟨rfl, c8'⟩
        have c8 := c7.then c8'
        have m1 : memberF k a s = (false, badC k a) := by unfold memberF; rw [exb, if_pos hne]
        have m2 : cosetF k a s = (⟨#[]⟩, badC k a) := by unfold cosetF; rw [exb, if_pos hne]
        have m3 : basisF k a = ([], badC k a) := by unfold basisF; rw [ex0, if_pos hne]
        have m4 : indexF k a = (0, badC k a) := by unfold indexF; rw [ex0, if_pos hne]
        rw [m1, m2, m4]
        refine Br.t rfl (Br.t (beq_self_eq_true _) (Br.t (beq_self_eq_true _) (Br.t ?_ (Br.t rfl (Br.t rfl (retT c8 (hbyte _ rfl)))))))
        rw [e1, m3]; rfl
      have hz : badC k a = 0 := by simpa using heq
      have hck : a.check k = 0 := by rw [check_badC, hz]
      have hk : 1 ≤ k ∧ k ≤ 8 := by
        by_cases h : 1 ≤ k ∧ k ≤ 8
        · exact h
        · unfold badC at hz; rw [if_pos h] at hz; cases hz
      obtain ⟨_, _, hn1', hn2', _, _, hrows⟩ := check_spec hck
      have m3 : basisF k a = ((basF a.next).basis, 0) := by unfold basisF; rw [ex0, hz]; simp
      rw [m3] at q3 e1
      refine ldA c7 ?_
      refine Ret.call (Basis_ret21 (x := (x1, x2, sa, sn, ())) (ha1.nil c7) hck hk) ?_
      rintro rb W8 ⟨p1, c8', _⟩
      have c8 := c7.then c8'
      have q4 := q3.chg c8' fun _ _ h => h
      have e2 : rb.n = (basF a.next).basis.length := p1.len
      have hblen : (basF a.next).basis.length ≤ 100000 := by
        have h1 := (basF_eq a.next).2
        have h2 := number_count hk.2 hck
        have h3 := graphL_count (k := k.toNat) a.next 0 (fun r hm => by have := (hrows r hm).1; omega)
        have h4 := graphL_len k.toNat a.next 0
        have h5 : k.toNat * a.next.length ≤ 8 * 2000 := Nat.mul_le_mul (by omega) (by omega)
        omega
      refine Join.by' (fun y W => y = (k, s, at0 b1, r1, (memberF k a s).1, (memberF k a s).2, (cosetF k a s).1, (cosetF k a s).2, rb, ()) ∧ Chg Nil W8 W) ?_ ?_
      · rintro y W g4 ⟨rfl, c9'⟩
        dsimp only
        have c9 := c8.then c9'
        refine LoopT.mk (fun y W => ∃ i : Nat, i ≤ (basF a.next).basis.length ∧ y = (k, s, at0 b1, r1, (memberF k a s).1, (memberF k a s).2, (cosetF k a s).1, (cosetF k a s).2, rb, (i : Int), ()) ∧ Chg Nil W8 W) (fun y _ => (basF a.next).basis.length - y.2.2.2.2.2.2.2.2.2.1.toNat) ⟨0, Nat.zero_le _, rfl, c9'⟩ ?_
        clear c9' c9
        rintro y g5 W ⟨i, hi, rfl, c9'⟩
        dsimp only
        have c9 := c8.then c9'
        refine Br.dec (fun hlt => ?_) (fun hge => ?_)
        · have hlt : (i : Int) < ((rb.n : Nat) : Int) := hlt
          have hlt' : i < (basF a.next).basis.length := by omega
          have hd := c9'.then (Chg.drew (S := Nil) W)
          refine (q4.chg hd fun _ _ h => h).rd.get (t := tS) i rfl (x := (basF a.next).basis[i]) (List.getElem?_eq_getElem hlt') ?_
          refine (p1.chg hd fun _ _ h => h).rd.get (t := tS) i rfl (x := (basF a.next).basis[i]) (List.getElem?_eq_getElem hlt') ?_
          refine Br.f (by rw [beq_self_eq_true]; rfl) ?_
          rw [wrap64 (by omega) (by omega)]
          refine ⟨⟨i + 1, hlt', rfl, hd⟩, ?_⟩
          show (basF a.next).basis.length - (i + 1) < (basF a.next).basis.length - i
          omega
        refine Ret.call (IsWord_ret W k s) ?_
        rintro _ W9 ⟨rfl, hw9⟩
        rw [hw9]; clear hw9
        refine Br.mk (fun hnw => ?_) (fun hw => ?_)
        · have hnw : ¬ checkF k s = 0 := by simpa using hnw
          have ex4 : examF k [a] [s] = 4 := by rw [exs, if_neg (by simp [hz]), if_pos (by simpa using hnw)]
          have m1 : memberF k a s = (false, 4) := by unfold memberF; rw [ex4]; rfl
          have m2 : cosetF k a s = (⟨#[]⟩, 4) := by unfold cosetF; rw [ex4]; rfl
          rw [m1, m2]
          refine Ret.call (sane_ret (lay c9)) ?_
          rintro _ W10 ⟨rfl, c10'⟩
          exact Br.t rfl (Br.t rfl (Br.t rfl (Br.t rfl (retT (c9.then c10') (hbyte _ rfl)))))
        have hw : checkF k s = 0 := by simpa using hw
        have exz : examF k [a] [s] = 0 := by rw [exs, if_neg (by simp [hz]), if_neg (by simp [hw])]
        refine ldA c9 ?_
        refine Ret.call (Lead_ret (x := (x1, x2, sa, sn, ())) (ha1.nil c9) hck hk hw) ?_
        rintro _ W10 ⟨rfl, c10'⟩
        have c10 := c9.then c10'
        have m1 : memberF k a s = (leadsF a.next (wordF s) 0 == 0, 0) := by unfold memberF; rw [exz]; rfl
        refine Br.dec (fun hneg => ?_) (fun hpos => ?_)
        · have hneg : leadsF a.next (wordF s) 0 < 0 := hneg
          have m2 : cosetF k a s = (⟨#[]⟩, 211) := by unfold cosetF; rw [exz, if_neg (by simp), if_pos hneg]
          have hb0 : (leadsF a.next (wordF s) 0 == 0) = false := by simp; omega
          rw [m1, m2, hb0]
          refine Ret.call (sane_ret (lay c10)) ?_
          rintro _ W11 ⟨rfl, c11'⟩
          exact Br.t rfl (Br.t rfl (Br.t rfl (Br.t rfl (retT (c10.then c11') (hbyte _ rfl)))))
        · have hpos : ¬ leadsF a.next (wordF s) 0 < 0 := hpos
          have m2 : cosetF k a s = ((treeF a.next).paths.getD (leadsF a.next (wordF s) 0).toNat ⟨#[]⟩, 0) := by unfold cosetF; rw [exz, if_neg (by simp), if_neg hpos]
          rw [m1, m2]
          refine Ret.call (sane_ret (lay c10)) ?_
          rintro _ W11 ⟨rfl, c11'⟩
          have c11 := c10.then c11'
          refine Br.t rfl (Br.t rfl (Br.t (beq_self_eq_true _) (Br.t rfl ?_)))
          refine ldA c11 ?_
          refine Ret.call (Paths_ret (x := (x1, x2, sa, sn, ())) (ha1.nil c11) hck hk) ?_
          rintro rp W12 ⟨pp, c12', _⟩
          have hlt := leadsF_lt (by omega) (fun r hr t ht => ((hrows r hr).2 t ht).2) (wordF s) 0 (by omega)
          have hpl : (leadsF a.next (wordF s) 0).toNat < (treeF a.next).paths.length := by rw [(tree_ok hk.2 hck).1.len]; omega
          have hpx : (treeF a.next).paths[(leadsF a.next (wordF s) 0).toNat]? = some ((treeF a.next).paths.getD (leadsF a.next (wordF s) 0).toNat ⟨#[]⟩) := by rw [getD_get hpl]; exact List.getElem?_eq_getElem hpl
          refine pp.rd.get (t := tS) (leadsF a.next (wordF s) 0).toNat (by show leadsF a.next (wordF s) 0 = _; omega) hpx ?_
          exact retT (c11.then c12') (beq_self_eq_true _)
      · intro J hJ
        refine Br.mk (fun hne => ?_) (fun _ => ?_)
        · rw [e1, e2] at hne; simp at hne
        · refine ldA c8 ?_
          refine Ret.call (Index_ret21 (x := (x1, x2, sa, sn, ())) (ha1.nil c8) hck hk) ?_
          rintro _ W9 ⟨rfl, c9'⟩
          refine Br.f ?_ (hJ _ _ ⟨rfl, c9'⟩)
          rw [index_all hk hck]; simp
    · intro J hJ
      refine ldA c6 ?_
      refine Ret.call (AutIn.check (x := (x1, x2, sa, sn, ())) (ha1.nil c6) k) ?_
      rintro _ W7 ⟨rfl, c7'⟩
      rw [check_badC, eB, eI]
      refine Br.f (by simp) (Br.f (by simp) (Br.f (by simp) (hJ _ _ ⟨rfl, c7'⟩)))
  · intro J hJ
    refine LoadT.sc (s := .sl) (x := sa) (by rw [cellOf hn1]; rfl) ?_
    refine Br.dec (fun h => Br.t rfl (retT (Chg.refl _) rfl)) (fun h => ?_)
    refine LoadT.sc (s := .sl) (x := sn) (by rw [cellOf hn1]; rfl) ?_
    exact Br.dec (fun h => retT (Chg.refl _) rfl) (fun h => hJ _ _ ⟨rfl, rfl⟩)
end Go.Proofs.YtffdjfkekdoeaaaDoor.Fo
end
