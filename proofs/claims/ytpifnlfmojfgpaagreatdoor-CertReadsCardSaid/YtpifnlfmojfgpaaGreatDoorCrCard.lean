/- CertReads: for every input the law returns true, and its argument reads as it did. No condition beyond the row's own (the listed tables and errors of the library and of the program are as the program's text lays them: tied). -/
import Derived.Test.YtpifnlfmojfgpaaGreatDoorCr17
import Derived.Test.YtpifnlfmojfgpaaGreatDoorCards
import Derived.Test.YtpifnlfmojfgpaaGreatDoorTie
import Derived.SevenTiedAt
import Derived.Test.YtpifnlfmojfgpaaGreatDoorSnFactD
set_option linter.unusedVariables false
set_option maxRecDepth 100000
set_option maxHeartbeats 4000000
namespace Go.Proofs.YtpifnlfmojfgpaaGreatDoor.CertReads
open Go.ChangeShapes Go.WideShapes Go.ChangeAt Go.RowKit
open Go.ChangeMaps (open_string shut_string)
open Fw Pw Ct Sn

theorem law_ok (b : ByteArray) (hb : b.size ≤ 4611686018427387904) {w : World} (hg : GOk w) : Calls Tryz.prog 4 #[.string b] w fun e w' => e = .returned (.bool true) ∧ Chg Nil w w' := by
  have hts : b.size = b.data.toList.length := Pk.size_of rfl
  refine Calls.mono (pc_bool (ps := [.str]) (out := [.any]) (y := true) (law_pc b.data.toList) (fun a c h => congrArg Prod.fst h) (vs := [.string b]) ⟨[.string b], _, _, rfl, ⟨b, rfl, rfl, by show b.data.toList.length ≤ 4611686018427387904; omega⟩, rfl, rfl⟩ hg) fun e w' he => ?_
  exact ⟨he.1, he.2.1⟩
theorem lifted (os : Os) (started : os.Started) (H : Type) (enc : TypeId × Value → H) :
    ReturnsInHanded {} Tryz.checked os 4 .any (fun w args => (Rows.certReadsSpec.pre enc Tryz.prog Tryz.f4 [] false w args ∧ laidMetH Tryz.prog laidL w) ∧ sizedMet enc Tryz.prog Tryz.f4 (OpenSpec.ofChange Rows.certReadsSpec) false w args)
      (Rows.certReadsSpec.post enc Tryz.prog Tryz.f4 false true false false) := by
  refine returnsInHanded_of_calls own started (by kernel_rfl)
    (ChangeSpec.witness_shaped (enc := enc) (C := Tryz.checked) (os := os) (X := fun w _ => laidMetH Tryz.prog laidL w) false (World.laidAll Tryz.prog os laidL) #[.string ByteArray.empty] 8 (World.laidAll_os _ _ _)
      (World.shaped_of_ZipB (by kernel_rfl) (by kernel_rfl)) (by kernel_rfl) (by kernel_rfl) (by kernel_rfl)
      (by rw [MakeChecks.laidMetH_plain _ _ _ (by kernel_rfl)]; exact laidMet_laidAll _ (by kernel_rfl) (by kernel_rfl))) ?_
  intro w0 tape i _ hsh _ hok hpre _
  obtain ⟨_, _, _, fn', hfn', _, _, _, _, hval0⟩ := hok
  obtain rfl : fn' = Tryz.f4 := Option.some.inj (hfn'.symm.trans Tryz.func4)
  obtain ⟨⟨⟨ds, gs, before, hw, hcd⟩, hx⟩, hz⟩ := hpre
  have hWt := hz.weights hw
  have hW : DataW.Whole enc Tryz.prog Tryz.f4.params.toList Rows.certReadsSpec.vars false (w0.forCall tape i) i.args.toList ds gs before := DataW.Whole.of_heap (w' := w0.forCall tape i) (by rfl) hw
  have hL : laidMetH Tryz.prog laidL (w0.forCall tape i) := laidMetH.of_heap (by rfl) hx
  obtain ⟨W, hWe⟩ : ∃ W, W = w0.forCall tape i := ⟨_, rfl⟩
  rw [← hWe] at hsh hW hL hval0 ⊢
  have hval : ∀ (j : Nat) t v, Tryz.f4.params[j]? = some t → i.args[j]? = some v → Value.okWide Tryz.prog W .any w0.heap.size t v := hval0
  have hW' := hW
  obtain ⟨p, q, hA0, hV, rfl, hfz, hnd⟩ := hW
  have hA : DataW.TrodAll enc Tryz.prog W 0 (fun _ => true) true Tryz.f4.params.toList i.args.toList ds p := hA0
  rw [Tryz.params4] at hA hval
  obtain ⟨v0, vs0, d0, ds0, p0, q0, hargs, rfl, rfl, h0, r0⟩ := trodAll_cons hA
  obtain ⟨rfl, rfl, rfl⟩ := trodAll_nil r0
  obtain ⟨args, hargse⟩ : ∃ args, args = i.args := ⟨_, rfl⟩
  rw [← hargse] at hargs hval hW' ⊢
  obtain rfl : args = #[v0] := by cases args; simp_all
  obtain ⟨rfl, rfl⟩ := trodVars_none hV
  obtain ⟨a0, rfl, rfl, rfl, y0⟩ := open_string Tryz.underlying9 (hval 0 9 v0 rfl rfl) h0
  have hw0 : a0.data.toList.length ≤ reachBytes := of_decide_eq_true (List.all_eq_true.1 hWt _ (DataW.weights_mem_each (j := 0) (t := 9) (by rw [Tryz.params4]; rfl) rfl _ (by simp [DataW.weights])))
  have hsz : a0.size ≤ 4611686018427387904 := by
    have h1 : a0.size = a0.data.toList.length := Pk.size_of rfl
    have h2 : reachBytes = 140737488351232 := rfl
    omega
  refine Calls.mono (law_ok a0 hsz (gok_of hL hsh)) fun e W' ⟨he, hc⟩ => ?_
  subst he
  have bel := hc.toBelow
  exact ChangeSpec.post_blind ⟨_, _, _, [], _, [], hW', trodAll_mk1 (shut_bool Tryz.underlying4 _), (trodAll_cons_mk (shut_string Tryz.underlying9 y0) trodAll_mk0), rfl, bel.frame _, fun h => by cases h⟩
theorem over : Rows.CertReadsSaid :=
  OpenClaim.holds_of_wide 4 Tryz.f4 rfl rfl rfl rfl rfl rfl rfl ⟨rfl, rfl, rfl, rfl, rfl⟩ rfl rfl rfl rfl rfl Facts.byName Tryz.func4 Facts.closed Facts.inst Facts.wrap
    (fun os started H enc _ => lifted os started H enc)
theorem card : Rows.CertReadsCardSaid :=
  Claim7.holds_tied_plain_at .later [] [.data, .data, .data, .data, .sentinel, .sentinel, .data, .pinned] true (true, "41935f2a8f80c712b22d8598a14dffaf330d77c0951397ea3e90b6540cef2ed5") true
    over (fun _ h => by cases h) Facts.byText (fun _ h => by cases h) certReads_row_tie rfl ⟨rfl, rfl⟩ Facts.mainIs rfl
    (fun f fn hf hfn => by
      obtain rfl : f = 4 := Option.some.inj (hf.symm.trans Facts.byName)
      obtain rfl : fn = Tryz.f4 := (Option.some.inj (Tryz.func4.symm.trans hfn)).symm
      exact ⟨Facts.looks, fun j t ht => by
        rw [Tryz.params4] at ht
        have hm : t ∈ [9] := by simpa using Array.mem_of_getElem? ht
        exact (show Tryz.prog.wantsStandIn t = false by simpa using List.all_eq_true.1 Facts.stand t hm)⟩)
    Facts.goes
end Go.Proofs.YtpifnlfmojfgpaaGreatDoor.CertReads
namespace Go.Proofs.YtpifnlfmojfgpaaGreatDoor
theorem certReads_card : Rows.CertReadsCardSaid := CertReads.card
#print axioms certReads_card
end Go.Proofs.YtpifnlfmojfgpaaGreatDoor
