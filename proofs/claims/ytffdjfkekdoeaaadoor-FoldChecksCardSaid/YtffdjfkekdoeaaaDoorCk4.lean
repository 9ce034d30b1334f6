/- Parts of a proof, laid one behind the other by our own merge.py: Sh2 RfWord RfReduce RfSame RfGraph RfNum1 RfNum2 RfIs PlCheck PlTree PlIndex LwIndexes RfLead PlBasis. -/
import Derived.Test.YtffdjfkekdoeaaaDoorCk1
import Derived.Test.YtffdjfkekdoeaaaDoorProg
import Derived.KernelRfl
import Derived.Test.YtffdjfkekdoeaaaDoorCk3
section
/- Printed by our own wip/tools/shal.py: the shallow form of functions, and that the model carries them out so. -/
set_option linter.unusedVariables false
set_option maxRecDepth 10000
namespace Go.Proofs.YtffdjfkekdoeaaaDoor
open Fw
/-! cayley/cayleyref01.Index -/
noncomputable def cayleyref01_Index.ann : Ann where
  loops := fun | _ => []
  joins := fun | 2 => some [(0, .sc (.int .u8)), (8, .sc .bool)] | 4 => some [(0, .sc (.int .u8)), (18, .sc .bool)] | _ => none
noncomputable def cayleyref01_Index.body : Code := match Tryd.f61.body with | some c => c | none => .skip
def cayleyref01_Index.sh (p0 : Int) (R : Ending → World → Prop) (w : World) : Prop :=
  Join (σ := Int × Bool × Unit) (fun j3 g2 w4 =>
    Br j3.2.1
      (RunT Tryd.prog (.sc (.int .i64)) (convert 5 3 (.int .u8 (IntKind.wrap .u8 (j3.1 - 97)))) w4 fun r5 w6 =>
      R (.returned (.int .i64 (IntKind.wrap .i64 (2 * r5)))) w6)
      (Join (σ := Int × Bool × Unit) (fun j9 g8 w10 =>
        Br j9.2.1
          (RunT Tryd.prog (.sc (.int .i64)) (convert 5 3 (.int .u8 (IntKind.wrap .u8 (j9.1 - 65)))) w10 fun r11 w12 =>
          R (.returned (.int .i64 (IntKind.wrap .i64 ((IntKind.wrap .i64 (2 * r11)) + 1)))) w12)
          (R (.returned (.int .i64 (-1))) w10)) fun J7 =>
        Br (decide ((j3.1 : Int) ≥ 65))
          (J7 (j3.1, (decide ((j3.1 : Int) < 73)), ()) w4)
          (J7 (j3.1, false, ()) w4))) fun J1 =>
    Br (decide ((p0 : Int) ≥ 97))
      (J1 (p0, (decide ((p0 : Int) < 105)), ()) w)
      (J1 (p0, false, ()) w)
theorem cayleyref01_Index.eq (p0 : Int) (R : Ending → World → Prop) (w : World) : cayleyref01_Index.sh p0 R w = wpc Tryd.prog cayleyref01_Index.ann cayleyref01_Index.body (fnKs Tryd.prog Tryd.f61 R) [] (env0 #[(.int .u8 p0)]) w := by kernel_rfl
theorem cayleyref01_Index.calls (p0 : Int) {R : Ending → World → Prop} {w : World} (h : cayleyref01_Index.sh p0 R w) : Calls Tryd.prog 61 #[(.int .u8 p0)] w R :=
  calls_of_wpc mixed Tryd.func61 (by kernel_rfl) (by kernel_rfl) ((cayleyref01_Index.eq p0 R w).mp h)
/-! cayley/cayleyref01.Letter -/
noncomputable def cayleyref01_Letter.ann : Ann where
  loops := fun | _ => []
  joins := fun | 3 => some [(0, .sc (.int .i64))] | _ => none
noncomputable def cayleyref01_Letter.body : Code := match Tryd.f65.body with | some c => c | none => .skip
def cayleyref01_Letter.sh (p0 : Int) (R : Ending → World → Prop) (w : World) : Prop :=
  Join (σ := Int × Unit) (fun j3 g2 w4 =>
    (2 : Int) ≠ 0 ∧
    Br (((Int.tmod j3.1 2) : Int) == 0)
      ((2 : Int) ≠ 0 ∧
      RunT Tryd.prog (.sc (.int .u8)) (convert 3 5 (.int .i64 (IntKind.wrap .i64 (Int.tdiv j3.1 2)))) w4 fun r5 w6 =>
      R (.returned (.int .u8 (IntKind.wrap .u8 (97 + r5)))) w6)
      ((2 : Int) ≠ 0 ∧
      RunT Tryd.prog (.sc (.int .u8)) (convert 3 5 (.int .i64 (IntKind.wrap .i64 (Int.tdiv j3.1 2)))) w4 fun r7 w8 =>
      R (.returned (.int .u8 (IntKind.wrap .u8 (65 + r7)))) w8)) fun J1 =>
    Br (decide ((p0 : Int) < 0))
      (Br true
        (R (.returned (.int .u8 0)) w)
        (J1 (p0, ()) w))
      (Br (decide ((p0 : Int) ≥ 16))
        (R (.returned (.int .u8 0)) w)
        (J1 (p0, ()) w))
theorem cayleyref01_Letter.eq (p0 : Int) (R : Ending → World → Prop) (w : World) : cayleyref01_Letter.sh p0 R w = wpc Tryd.prog cayleyref01_Letter.ann cayleyref01_Letter.body (fnKs Tryd.prog Tryd.f65 R) [] (env0 #[(.int .i64 p0)]) w := by kernel_rfl
theorem cayleyref01_Letter.calls (p0 : Int) {R : Ending → World → Prop} {w : World} (h : cayleyref01_Letter.sh p0 R w) : Calls Tryd.prog 65 #[(.int .i64 p0)] w R :=
  calls_of_wpc mixed Tryd.func65 (by kernel_rfl) (by kernel_rfl) ((cayleyref01_Letter.eq p0 R w).mp h)
/-! cayley/cayleyref01.Check -/
noncomputable def cayleyref01_Check.ann : Ann where
  loops := fun | 6 => [(0, .sc (.int .i64)), (1, .sc .str), (5, .sc (.int .i64))] | _ => []
  joins := fun | 3 => some [(0, .sc (.int .i64)), (1, .sc .str)] | _ => none
noncomputable def cayleyref01_Check.body : Code := match Tryd.f60.body with | some c => c | none => .skip
def cayleyref01_Check.sh (p0 : Int) (p1 : ByteArray) (R : Ending → World → Prop) (w : World) : Prop :=
  Join (σ := Int × ByteArray × Unit) (fun j3 g2 w4 =>
    Br (decide ((((j3.2.1.size : Nat) : Int) : Int) > 100000))
      (R (.returned (.int .i64 2)) w4)
      (LoopT (σ := Int × ByteArray × Int × Unit) (j3.1, j3.2.1, 0, ()) w4 fun l5 g6 w7 I8 =>
        Br (decide ((l5.2.2.1 : Int) < ((l5.2.1.size : Nat) : Int)))
          (StrIdx l5.2.1 l5.2.2.1 fun c9 =>
          CallT Tryd.prog 61 #[(.int .u8 c9)] (.sc (.int .i64)) w7 (fun r10 w11 =>
            Br (decide ((r10 : Int) < 0))
              (Br true
                (R (.returned (.int .i64 4)) w11)
                (I8 (l5.1, l5.2.1, (IntKind.wrap .i64 (l5.2.2.1 + 1)), ()) w11))
              (Br (decide ((r10 : Int) ≥ (IntKind.wrap .i64 (2 * l5.1))))
                (R (.returned (.int .i64 4)) w11)
                (I8 (l5.1, l5.2.1, (IntKind.wrap .i64 (l5.2.2.1 + 1)), ()) w11))) (fun h12 w11 => R (.panicked h12) w11))
          (R (.returned (.int .i64 0)) w7))) fun J1 =>
    Br (decide ((p0 : Int) < 1))
      (Br true
        (R (.returned (.int .i64 1)) w)
        (J1 (p0, p1, ()) w))
      (Br (decide ((p0 : Int) > 8))
        (R (.returned (.int .i64 1)) w)
        (J1 (p0, p1, ()) w))
theorem cayleyref01_Check.eq (p0 : Int) (p1 : ByteArray) (R : Ending → World → Prop) (w : World) : cayleyref01_Check.sh p0 p1 R w = wpc Tryd.prog cayleyref01_Check.ann cayleyref01_Check.body (fnKs Tryd.prog Tryd.f60 R) [] (env0 #[(.int .i64 p0), (.string p1)]) w := by kernel_rfl
theorem cayleyref01_Check.calls (p0 : Int) (p1 : ByteArray) {R : Ending → World → Prop} {w : World} (h : cayleyref01_Check.sh p0 p1 R w) : Calls Tryd.prog 60 #[(.int .i64 p0), (.string p1)] w R :=
  calls_of_wpc mixed Tryd.func60 (by kernel_rfl) (by kernel_rfl) ((cayleyref01_Check.eq p0 p1 R w).mp h)
/-! cayley/cayleyref01.Is -/
noncomputable def cayleyref01_Is.ann : Ann where
  loops := fun | _ => []
  joins := fun | _ => none
noncomputable def cayleyref01_Is.body : Code := match Tryd.f53.body with | some c => c | none => .skip
def cayleyref01_Is.sh (p0 : ByteArray) (R : Ending → World → Prop) (w : World) : Prop :=
  CallT Tryd.prog 60 #[(.int .i64 8), (.string p0)] (.sc (.int .i64)) w (fun r1 w2 =>
    R (.returned (.bool ((r1 : Int) == 0))) w2) (fun h3 w2 => R (.panicked h3) w2)
theorem cayleyref01_Is.eq (p0 : ByteArray) (R : Ending → World → Prop) (w : World) : cayleyref01_Is.sh p0 R w = wpc Tryd.prog cayleyref01_Is.ann cayleyref01_Is.body (fnKs Tryd.prog Tryd.f53 R) [] (env0 #[(.string p0)]) w := by kernel_rfl
theorem cayleyref01_Is.calls (p0 : ByteArray) {R : Ending → World → Prop} {w : World} (h : cayleyref01_Is.sh p0 R w) : Calls Tryd.prog 53 #[(.string p0)] w R :=
  calls_of_wpc mixed Tryd.func53 (by kernel_rfl) (by kernel_rfl) ((cayleyref01_Is.eq p0 R w).mp h)
/-! cayley/cayleyref01.Other -/
noncomputable def cayleyref01_Other.ann : Ann where
  loops := fun | _ => []
  joins := fun | _ => none
noncomputable def cayleyref01_Other.body : Code := match Tryd.f54.body with | some c => c | none => .skip
def cayleyref01_Other.sh (p0 : Int) (R : Ending → World → Prop) (w : World) : Prop :=
  CallT Tryd.prog 61 #[(.int .u8 p0)] (.sc (.int .i64)) w (fun r1 w2 =>
    CallT Tryd.prog 65 #[(.int .i64 (Go.bits .xor .i64 r1 1))] (.sc (.int .u8)) w2 (fun r4 w5 =>
      R (.returned (.int .u8 r4)) w5) (fun h6 w5 => R (.panicked h6) w5)) (fun h3 w2 => R (.panicked h3) w2)
theorem cayleyref01_Other.eq (p0 : Int) (R : Ending → World → Prop) (w : World) : cayleyref01_Other.sh p0 R w = wpc Tryd.prog cayleyref01_Other.ann cayleyref01_Other.body (fnKs Tryd.prog Tryd.f54 R) [] (env0 #[(.int .u8 p0)]) w := by kernel_rfl
theorem cayleyref01_Other.calls (p0 : Int) {R : Ending → World → Prop} {w : World} (h : cayleyref01_Other.sh p0 R w) : Calls Tryd.prog 54 #[(.int .u8 p0)] w R :=
  calls_of_wpc mixed Tryd.func54 (by kernel_rfl) (by kernel_rfl) ((cayleyref01_Other.eq p0 R w).mp h)
/-! cayley/cayleyref01.Reduce -/
noncomputable def cayleyref01_Reduce.ann : Ann where
  loops := fun | 5 => [(0, .sc .str), (3, .sc .sl), (4, .sc (.int .i64))] | _ => []
  joins := fun | 9 => some [(0, .sc .str), (3, .sc .sl), (4, .sc (.int .i64)), (5, .sc (.int .i64)), (30, .sc .bool)] | _ => none
noncomputable def cayleyref01_Reduce.body : Code := match Tryd.f25.body with | some c => c | none => .skip
def cayleyref01_Reduce.sh (p0 : ByteArray) (R : Ending → World → Prop) (w : World) : Prop :=
  CallT Tryd.prog 53 #[(.string p0)] (.sc .bool) w (fun r1 w2 =>
    Br (!r1)
      (R (.returned (.string (ByteArray.mk #[]))) w2)
      (LoopT (σ := ByteArray × Sl × Int × Unit) (p0, ⟨none, 0, 0⟩, 0, ()) w2 fun l4 g5 w6 I7 =>
        Br (decide ((l4.2.2.1 : Int) < ((l4.1.size : Nat) : Int)))
          (Join (σ := ByteArray × Sl × Int × Int × Bool × Unit) (fun j10 g9 w18 =>
            Br j10.2.2.2.2.1
              (RunT Tryd.prog (.sc .sl) (Instr.sliceAt 87 (.slice j10.2.1.a j10.2.1.n j10.2.1.c) none (some (.int .i64 (IntKind.wrap .i64 (j10.2.2.2.1 - 1)))) none) w18 fun r19 w20 =>
              I7 (j10.1, r19, (IntKind.wrap .i64 (j10.2.2.1 + 1)), ()) w20)
              (StrIdx j10.1 j10.2.2.1 fun c21 =>
              New w18 (.cells #[(.int .u8 c21)] 5) fun b22 w23 =>
              RunT Tryd.prog (.sc .sl) (Builtin.append_ #[87, 87] 87 #[(.slice j10.2.1.a j10.2.1.n j10.2.1.c), (.slice (some (Addr.mk b22 0 none)) 1 1)]) w23 fun r24 w25 =>
              I7 (j10.1, r24, (IntKind.wrap .i64 (j10.2.2.1 + 1)), ()) w25)) fun J8 =>
            ∃ S11 : World → Prop, S11 w6.drew ∧
            (Br (decide ((((l4.2.1.n : Nat) : Int) : Int) > 0))
              (Idx l4.2.1.a l4.2.1.n 1 (IntKind.wrap .i64 (((l4.2.1.n : Nat) : Int) - 1)) fun a12 =>
              LoadS S11 (.sc (.int .u8)) a12 fun x13 =>
              StrIdx l4.1 l4.2.2.1 fun c14 =>
              CallT Tryd.prog 54 #[(.int .u8 c14)] (.sc (.int .u8)) w6.drew (fun r15 w16 =>
                  S11 w16 ∧
                  (J8 (l4.1, l4.2.1, l4.2.2.1, ((l4.2.1.n : Nat) : Int), ((x13 : Int) == r15), ()) w16)) (fun h17 w16 => R (.panicked h17) w16))
              (J8 (l4.1, l4.2.1, l4.2.2.1, ((l4.2.1.n : Nat) : Int), false, ()) w6.drew)))
          (RunT Tryd.prog (.sc .str) (convert 87 9 (.slice l4.2.1.a l4.2.1.n l4.2.1.c)) w6 fun r26 w27 =>
          R (.returned (.string r26)) w27))) (fun h3 w2 => R (.panicked h3) w2)
theorem cayleyref01_Reduce.eq (p0 : ByteArray) (R : Ending → World → Prop) (w : World) : cayleyref01_Reduce.sh p0 R w = wpc Tryd.prog cayleyref01_Reduce.ann cayleyref01_Reduce.body (fnKs Tryd.prog Tryd.f25 R) [] (env0 #[(.string p0)]) w := by kernel_rfl
theorem cayleyref01_Reduce.calls (p0 : ByteArray) {R : Ending → World → Prop} {w : World} (h : cayleyref01_Reduce.sh p0 R w) : Calls Tryd.prog 25 #[(.string p0)] w R :=
  calls_of_wpc mixed Tryd.func25 (by kernel_rfl) (by kernel_rfl) ((cayleyref01_Reduce.eq p0 R w).mp h)
/-! cayley/cayleyref01.Inverse -/
noncomputable def cayleyref01_Inverse.ann : Ann where
  loops := fun | 5 => [(0, .sc .str), (3, .sc .sl), (4, .sc (.int .i64))] | _ => []
  joins := fun | _ => none
noncomputable def cayleyref01_Inverse.body : Code := match Tryd.f16.body with | some c => c | none => .skip
def cayleyref01_Inverse.sh (p0 : ByteArray) (R : Ending → World → Prop) (w : World) : Prop :=
  CallT Tryd.prog 53 #[(.string p0)] (.sc .bool) w (fun r1 w2 =>
    Br (!r1)
      (R (.returned (.string (ByteArray.mk #[]))) w2)
      (LoopT (σ := ByteArray × Sl × Int × Unit) (p0, ⟨none, 0, 0⟩, (IntKind.wrap .i64 (((p0.size : Nat) : Int) - 1)), ()) w2 fun l4 g5 w6 I7 =>
        Br (decide ((l4.2.2.1 : Int) ≥ 0))
          (StrIdx l4.1 l4.2.2.1 fun c8 =>
          CallT Tryd.prog 54 #[(.int .u8 c8)] (.sc (.int .u8)) w6 (fun r9 w10 =>
            New w10 (.cells #[(.int .u8 r9)] 5) fun b12 w13 =>
            RunT Tryd.prog (.sc .sl) (Builtin.append_ #[87, 87] 87 #[(.slice l4.2.1.a l4.2.1.n l4.2.1.c), (.slice (some (Addr.mk b12 0 none)) 1 1)]) w13 fun r14 w15 =>
            I7 (l4.1, r14, (IntKind.wrap .i64 (l4.2.2.1 - 1)), ()) w15) (fun h11 w10 => R (.panicked h11) w10))
          (RunT Tryd.prog (.sc .str) (convert 87 9 (.slice l4.2.1.a l4.2.1.n l4.2.1.c)) w6 fun r16 w17 =>
          R (.returned (.string r16)) w17))) (fun h3 w2 => R (.panicked h3) w2)
theorem cayleyref01_Inverse.eq (p0 : ByteArray) (R : Ending → World → Prop) (w : World) : cayleyref01_Inverse.sh p0 R w = wpc Tryd.prog cayleyref01_Inverse.ann cayleyref01_Inverse.body (fnKs Tryd.prog Tryd.f16 R) [] (env0 #[(.string p0)]) w := by kernel_rfl
theorem cayleyref01_Inverse.calls (p0 : ByteArray) {R : Ending → World → Prop} {w : World} (h : cayleyref01_Inverse.sh p0 R w) : Calls Tryd.prog 16 #[(.string p0)] w R :=
  calls_of_wpc mixed Tryd.func16 (by kernel_rfl) (by kernel_rfl) ((cayleyref01_Inverse.eq p0 R w).mp h)
/-! cayley/cayleyref21.IsWord -/
noncomputable def cayleyref21_IsWord.ann : Ann where
  loops := fun | _ => []
  joins := fun | _ => none
noncomputable def cayleyref21_IsWord.body : Code := match Tryd.f22.body with | some c => c | none => .skip
def cayleyref21_IsWord.sh (p0 : Int) (p1 : ByteArray) (R : Ending → World → Prop) (w : World) : Prop :=
  CallT Tryd.prog 60 #[(.int .i64 p0), (.string p1)] (.sc (.int .i64)) w (fun r1 w2 =>
    R (.returned (.bool ((r1 : Int) == 0))) w2) (fun h3 w2 => R (.panicked h3) w2)
theorem cayleyref21_IsWord.eq (p0 : Int) (p1 : ByteArray) (R : Ending → World → Prop) (w : World) : cayleyref21_IsWord.sh p0 p1 R w = wpc Tryd.prog cayleyref21_IsWord.ann cayleyref21_IsWord.body (fnKs Tryd.prog Tryd.f22 R) [] (env0 #[(.int .i64 p0), (.string p1)]) w := by kernel_rfl
theorem cayleyref21_IsWord.calls (p0 : Int) (p1 : ByteArray) {R : Ending → World → Prop} {w : World} (h : cayleyref21_IsWord.sh p0 p1 R w) : Calls Tryd.prog 22 #[(.int .i64 p0), (.string p1)] w R :=
  calls_of_wpc mixed Tryd.func22 (by kernel_rfl) (by kernel_rfl) ((cayleyref21_IsWord.eq p0 p1 R w).mp h)
/-! cayley/cayleyref06.sameInts -/
noncomputable def cayleyref06_sameInts.ann : Ann where
  loops := fun | 4 => [(0, .sc .sl), (1, .sc .sl), (5, .sc (.int .i64))] | _ => []
  joins := fun | _ => none
noncomputable def cayleyref06_sameInts.body : Code := match Tryd.f52.body with | some c => c | none => .skip
def cayleyref06_sameInts.sh (p0 : Sl) (p1 : Sl) (R : Ending → World → Prop) (w : World) : Prop :=
  Br ((((p0.n : Nat) : Int) : Int) != ((p1.n : Nat) : Int))
    (R (.returned (.bool false)) w)
    (LoopT (σ := Sl × Sl × Int × Unit) (p0, p1, 0, ()) w fun l1 g2 w3 I4 =>
      Br (decide ((l1.2.2.1 : Int) < ((l1.1.n : Nat) : Int)))
        (Idx l1.1.a l1.1.n 1 l1.2.2.1 fun a5 =>
        LoadT (.sc (.int .i64)) w3.drew a5 fun x6 =>
        Idx l1.2.1.a l1.2.1.n 1 l1.2.2.1 fun a7 =>
        LoadT (.sc (.int .i64)) w3.drew a7 fun x8 =>
        Br ((x6 : Int) != x8)
          (R (.returned (.bool false)) w3.drew)
          (I4 (l1.1, l1.2.1, (IntKind.wrap .i64 (l1.2.2.1 + 1)), ()) w3.drew))
        (R (.returned (.bool true)) w3))
theorem cayleyref06_sameInts.eq (p0 : Sl) (p1 : Sl) (R : Ending → World → Prop) (w : World) : cayleyref06_sameInts.sh p0 p1 R w = wpc Tryd.prog cayleyref06_sameInts.ann cayleyref06_sameInts.body (fnKs Tryd.prog Tryd.f52 R) [] (env0 #[(.slice p0.a p0.n p0.c), (.slice p1.a p1.n p1.c)]) w := by kernel_rfl
theorem cayleyref06_sameInts.calls (p0 : Sl) (p1 : Sl) {R : Ending → World → Prop} {w : World} (h : cayleyref06_sameInts.sh p0 p1 R w) : Calls Tryd.prog 52 #[(.slice p0.a p0.n p0.c), (.slice p1.a p1.n p1.c)] w R :=
  calls_of_wpc mixed Tryd.func52 (by kernel_rfl) (by kernel_rfl) ((cayleyref06_sameInts.eq p0 p1 R w).mp h)
/-! cayley/cayleyref06.Same -/
noncomputable def cayleyref06_Same.ann : Ann where
  loops := fun | 4 => [(2, .sc .adr), (3, .sc .adr), (5, .sc (.int .i64))] | 9 => [(2, .sc .adr), (3, .sc .adr), (6, .sc (.int .i64))] | _ => []
  joins := fun | 3 => some [(2, .sc .adr), (3, .sc .adr)] | _ => none
noncomputable def cayleyref06_Same.body : Code := match Tryd.f15.body with | some c => c | none => .skip
def cayleyref06_Same.sh (p0_0 : Int) (p0_1 : Int) (p0_2 : Sl) (p0_3 : Sl) (p1_0 : Int) (p1_1 : Int) (p1_2 : Sl) (p1_3 : Sl) (R : Ending → World → Prop) (w : World) : Prop :=
  New w (.cells #[(.int .i64 p0_0), (.int .i64 p0_1), (.slice p0_2.a p0_2.n p0_2.c), (.slice p0_3.a p0_3.n p0_3.c)] 27) fun b1 w2 =>
  New w2 (.cells #[(.int .i64 p1_0), (.int .i64 p1_1), (.slice p1_2.a p1_2.n p1_2.c), (.slice p1_3.a p1_3.n p1_3.c)] 27) fun b3 w4 =>
  Join (σ := Addr × Addr × Unit) (fun j7 g6 w16 =>
    LoopT (σ := Addr × Addr × Int × Unit) (j7.1, j7.2.1, 0, ()) w16 fun l17 g18 w19 I20 =>
      LoadT (.sc .sl) w19 (l17.1.add 2) fun x21 =>
      Br (decide ((l17.2.2.1 : Int) < ((x21.n : Nat) : Int)))
        (LoadT (.sc .sl) w19.drew (l17.1.add 2) fun x22 =>
        Idx x22.a x22.n 1 l17.2.2.1 fun a23 =>
        LoadT (.sc .bool) w19.drew a23 fun x24 =>
        LoadT (.sc .sl) w19.drew (l17.2.1.add 2) fun x25 =>
        Idx x25.a x25.n 1 l17.2.2.1 fun a26 =>
        LoadT (.sc .bool) w19.drew a26 fun x27 =>
        Br (!(x24 == x27))
          (R (.returned (.bool false)) w19.drew)
          (I20 (l17.1, l17.2.1, (IntKind.wrap .i64 (l17.2.2.1 + 1)), ()) w19.drew))
        (LoopT (σ := Addr × Addr × Int × Unit) (l17.1, l17.2.1, 0, ()) w19 fun l28 g29 w30 I31 =>
          LoadT (.sc .sl) w30 (l28.1.add 3) fun x32 =>
          Br (decide ((l28.2.2.1 : Int) < ((x32.n : Nat) : Int)))
            (LoadT (.sc .sl) w30.drew (l28.1.add 3) fun x33 =>
            Idx x33.a x33.n 1 l28.2.2.1 fun a34 =>
            LoadT (.sc .sl) w30.drew a34 fun x35 =>
            LoadT (.sc .sl) w30.drew (l28.2.1.add 3) fun x36 =>
            Idx x36.a x36.n 1 l28.2.2.1 fun a37 =>
            LoadT (.sc .sl) w30.drew a37 fun x38 =>
            CallT Tryd.prog 52 #[(.slice x35.a x35.n x35.c), (.slice x38.a x38.n x38.c)] (.sc .bool) w30.drew (fun r39 w40 =>
              Br (!r39)
                (R (.returned (.bool false)) w40)
                (I31 (l28.1, l28.2.1, (IntKind.wrap .i64 (l28.2.2.1 + 1)), ()) w40)) (fun h41 w40 => R (.panicked h41) w40))
            (R (.returned (.bool true)) w30))) fun J5 =>
    LoadT (.sc (.int .i64)) w4 ((Addr.mk b1 0 none).add 0) fun x8 =>
    LoadT (.sc (.int .i64)) w4 ((Addr.mk b3 0 none).add 0) fun x9 =>
    Br ((x8 : Int) != x9)
      (Br true
        (R (.returned (.bool false)) w4)
        (J5 ((Addr.mk b1 0 none), (Addr.mk b3 0 none), ()) w4))
      (LoadT (.sc (.int .i64)) w4 ((Addr.mk b1 0 none).add 1) fun x10 =>
      LoadT (.sc (.int .i64)) w4 ((Addr.mk b3 0 none).add 1) fun x11 =>
      Br ((x10 : Int) != x11)
        (Br true
          (R (.returned (.bool false)) w4)
          (J5 ((Addr.mk b1 0 none), (Addr.mk b3 0 none), ()) w4))
        (LoadT (.sc .sl) w4 ((Addr.mk b1 0 none).add 2) fun x12 =>
        LoadT (.sc .sl) w4 ((Addr.mk b3 0 none).add 2) fun x13 =>
        Br ((((x12.n : Nat) : Int) : Int) != ((x13.n : Nat) : Int))
          (Br true
            (R (.returned (.bool false)) w4)
            (J5 ((Addr.mk b1 0 none), (Addr.mk b3 0 none), ()) w4))
          (LoadT (.sc .sl) w4 ((Addr.mk b1 0 none).add 3) fun x14 =>
          LoadT (.sc .sl) w4 ((Addr.mk b3 0 none).add 3) fun x15 =>
          Br ((((x14.n : Nat) : Int) : Int) != ((x15.n : Nat) : Int))
            (R (.returned (.bool false)) w4)
            (J5 ((Addr.mk b1 0 none), (Addr.mk b3 0 none), ()) w4))))
theorem cayleyref06_Same.eq (p0_0 : Int) (p0_1 : Int) (p0_2 : Sl) (p0_3 : Sl) (p1_0 : Int) (p1_1 : Int) (p1_2 : Sl) (p1_3 : Sl) (R : Ending → World → Prop) (w : World) : cayleyref06_Same.sh p0_0 p0_1 p0_2 p0_3 p1_0 p1_1 p1_2 p1_3 R w = wpc Tryd.prog cayleyref06_Same.ann cayleyref06_Same.body (fnKs Tryd.prog Tryd.f15 R) [] (env0 #[(.agg #[(.int .i64 p0_0), (.int .i64 p0_1), (.slice p0_2.a p0_2.n p0_2.c), (.slice p0_3.a p0_3.n p0_3.c)]), (.agg #[(.int .i64 p1_0), (.int .i64 p1_1), (.slice p1_2.a p1_2.n p1_2.c), (.slice p1_3.a p1_3.n p1_3.c)])]) w := by kernel_rfl
theorem cayleyref06_Same.calls (p0_0 : Int) (p0_1 : Int) (p0_2 : Sl) (p0_3 : Sl) (p1_0 : Int) (p1_1 : Int) (p1_2 : Sl) (p1_3 : Sl) {R : Ending → World → Prop} {w : World} (h : cayleyref06_Same.sh p0_0 p0_1 p0_2 p0_3 p1_0 p1_1 p1_2 p1_3 R w) : Calls Tryd.prog 15 #[(.agg #[(.int .i64 p0_0), (.int .i64 p0_1), (.slice p0_2.a p0_2.n p0_2.c), (.slice p0_3.a p0_3.n p0_3.c)]), (.agg #[(.int .i64 p1_0), (.int .i64 p1_1), (.slice p1_2.a p1_2.n p1_2.c), (.slice p1_3.a p1_3.n p1_3.c)])] w R :=
  calls_of_wpc mixed Tryd.func15 (by kernel_rfl) (by kernel_rfl) ((cayleyref06_Same.eq p0_0 p0_1 p0_2 p0_3 p1_0 p1_1 p1_2 p1_3 R w).mp h)
/-! cayley/cayleyref06.Check -/
noncomputable def cayleyref06_Check.ann : Ann where
  loops := fun | 5 => [(1, .sc .adr), (3, .sc (.int .i64)), (4, .sc (.int .i64))] | 10 => [(1, .sc .adr), (3, .sc (.int .i64)), (4, .sc (.int .i64)), (5, .sc (.int .i64))] | _ => []
  joins := fun | 4 => some [(1, .sc .adr), (3, .sc (.int .i64))] | _ => none
noncomputable def cayleyref06_Check.body : Code := match Tryd.f87.body with | some c => c | none => .skip
def cayleyref06_Check.sh (p0_0 : Int) (p0_1 : Int) (p0_2 : Sl) (p0_3 : Sl) (R : Ending → World → Prop) (w : World) : Prop :=
  New w (.cells #[(.int .i64 p0_0), (.int .i64 p0_1), (.slice p0_2.a p0_2.n p0_2.c), (.slice p0_3.a p0_3.n p0_3.c)] 27) fun b1 w2 =>
  LoadT (.sc .sl) w2 ((Addr.mk b1 0 none).add 3) fun x3 =>
  Join (σ := Addr × Int × Unit) (fun j6 g5 w14 =>
    LoopT (σ := Addr × Int × Int × Unit) (j6.1, j6.2.1, 0, ()) w14 fun l15 g16 w17 I18 =>
      Br (decide ((l15.2.2.1 : Int) < l15.2.1))
        (LoadT (.sc .sl) w17.drew (l15.1.add 3) fun x19 =>
        Idx x19.a x19.n 1 l15.2.2.1 fun a20 =>
        LoadT (.sc .sl) w17.drew a20 fun x21 =>
        LoadT (.sc (.int .i64)) w17.drew (l15.1.add 0) fun x22 =>
        Br ((((x21.n : Nat) : Int) : Int) != x22)
          (R (.returned (.int .i64 60)) w17.drew)
          (LoopT (σ := Addr × Int × Int × Int × Unit) (l15.1, l15.2.1, l15.2.2.1, 0, ()) w17.drew fun l23 g24 w25 I26 =>
            LoadT (.sc (.int .i64)) w25 (l23.1.add 0) fun x27 =>
            Br (decide ((l23.2.2.2.1 : Int) < x27))
              (LoadT (.sc .sl) w25 (l23.1.add 3) fun x28 =>
              Idx x28.a x28.n 1 l23.2.2.1 fun a29 =>
              LoadT (.sc .sl) w25 a29 fun x30 =>
              Idx x30.a x30.n 1 l23.2.2.2.1 fun a31 =>
              LoadT (.sc (.int .i64)) w25 a31 fun x32 =>
              Br (decide ((x32 : Int) < (-1)))
                (Br true
                  (R (.returned (.int .i64 60)) w25)
                  (I26 (l23.1, l23.2.1, l23.2.2.1, (IntKind.wrap .i64 (l23.2.2.2.1 + 1)), ()) w25))
                (LoadT (.sc .sl) w25 (l23.1.add 3) fun x33 =>
                Idx x33.a x33.n 1 l23.2.2.1 fun a34 =>
                LoadT (.sc .sl) w25 a34 fun x35 =>
                Idx x35.a x35.n 1 l23.2.2.2.1 fun a36 =>
                LoadT (.sc (.int .i64)) w25 a36 fun x37 =>
                Br (decide ((x37 : Int) ≥ l23.2.1))
                  (R (.returned (.int .i64 60)) w25)
                  (I26 (l23.1, l23.2.1, l23.2.2.1, (IntKind.wrap .i64 (l23.2.2.2.1 + 1)), ()) w25)))
              (I18 (l23.1, l23.2.1, (IntKind.wrap .i64 (l23.2.2.1 + 1)), ()) w25)))
        (R (.returned (.int .i64 0)) w17)) fun J4 =>
    LoadT (.sc (.int .i64)) w2 ((Addr.mk b1 0 none).add 0) fun x7 =>
    Br (decide ((x7 : Int) < 1))
      (Br true
        (R (.returned (.int .i64 60)) w2)
        (J4 ((Addr.mk b1 0 none), ((x3.n : Nat) : Int), ()) w2))
      (LoadT (.sc (.int .i64)) w2 ((Addr.mk b1 0 none).add 0) fun x8 =>
      Br (decide ((x8 : Int) > 400))
        (Br true
          (R (.returned (.int .i64 60)) w2)
          (J4 ((Addr.mk b1 0 none), ((x3.n : Nat) : Int), ()) w2))
        (LoadT (.sc .sl) w2 ((Addr.mk b1 0 none).add 2) fun x9 =>
        Br ((((x9.n : Nat) : Int) : Int) != ((x3.n : Nat) : Int))
          (Br true
            (R (.returned (.int .i64 60)) w2)
            (J4 ((Addr.mk b1 0 none), ((x3.n : Nat) : Int), ()) w2))
          (Br (decide ((((x3.n : Nat) : Int) : Int) > 20000))
            (Br true
              (R (.returned (.int .i64 60)) w2)
              (J4 ((Addr.mk b1 0 none), ((x3.n : Nat) : Int), ()) w2))
            (LoadT (.sc (.int .i64)) w2 ((Addr.mk b1 0 none).add 1) fun x10 =>
            Br (decide ((x10 : Int) < 0))
              (Br true
                (R (.returned (.int .i64 60)) w2)
                (J4 ((Addr.mk b1 0 none), ((x3.n : Nat) : Int), ()) w2))
              (Br ((((x3.n : Nat) : Int) : Int) == 0)
                (LoadT (.sc (.int .i64)) w2 ((Addr.mk b1 0 none).add 1) fun x11 =>
                Br ((x11 : Int) != 0)
                  (Br true
                    (R (.returned (.int .i64 60)) w2)
                    (J4 ((Addr.mk b1 0 none), ((x3.n : Nat) : Int), ()) w2))
                  (Br (decide ((((x3.n : Nat) : Int) : Int) > 0))
                    (LoadT (.sc (.int .i64)) w2 ((Addr.mk b1 0 none).add 1) fun x12 =>
                    Br (decide ((x12 : Int) ≥ ((x3.n : Nat) : Int)))
                      (R (.returned (.int .i64 60)) w2)
                      (J4 ((Addr.mk b1 0 none), ((x3.n : Nat) : Int), ()) w2))
                    (Br false
                      (R (.returned (.int .i64 60)) w2)
                      (J4 ((Addr.mk b1 0 none), ((x3.n : Nat) : Int), ()) w2))))
                (Br (decide ((((x3.n : Nat) : Int) : Int) > 0))
                  (LoadT (.sc (.int .i64)) w2 ((Addr.mk b1 0 none).add 1) fun x13 =>
                  Br (decide ((x13 : Int) ≥ ((x3.n : Nat) : Int)))
                    (R (.returned (.int .i64 60)) w2)
                    (J4 ((Addr.mk b1 0 none), ((x3.n : Nat) : Int), ()) w2))
                  (Br false
                    (R (.returned (.int .i64 60)) w2)
                    (J4 ((Addr.mk b1 0 none), ((x3.n : Nat) : Int), ()) w2))))))))
theorem cayleyref06_Check.eq (p0_0 : Int) (p0_1 : Int) (p0_2 : Sl) (p0_3 : Sl) (R : Ending → World → Prop) (w : World) : cayleyref06_Check.sh p0_0 p0_1 p0_2 p0_3 R w = wpc Tryd.prog cayleyref06_Check.ann cayleyref06_Check.body (fnKs Tryd.prog Tryd.f87 R) [] (env0 #[(.agg #[(.int .i64 p0_0), (.int .i64 p0_1), (.slice p0_2.a p0_2.n p0_2.c), (.slice p0_3.a p0_3.n p0_3.c)])]) w := by kernel_rfl
theorem cayleyref06_Check.calls (p0_0 : Int) (p0_1 : Int) (p0_2 : Sl) (p0_3 : Sl) {R : Ending → World → Prop} {w : World} (h : cayleyref06_Check.sh p0_0 p0_1 p0_2 p0_3 R w) : Calls Tryd.prog 87 #[(.agg #[(.int .i64 p0_0), (.int .i64 p0_1), (.slice p0_2.a p0_2.n p0_2.c), (.slice p0_3.a p0_3.n p0_3.c)])] w R :=
  calls_of_wpc mixed Tryd.func87 (by kernel_rfl) (by kernel_rfl) ((cayleyref06_Check.eq p0_0 p0_1 p0_2 p0_3 R w).mp h)
/-! cayley/cayleyref21.step -/
noncomputable def cayleyref21_step.ann : Ann where
  loops := fun | 2 => [(1, .sc (.int .i64)), (2, .sc (.int .i64)), (3, .sc .adr), (7, .sc (.int .i64))] | _ => []
  joins := fun | 6 => some [(1, .sc (.int .i64)), (2, .sc (.int .i64)), (3, .sc .adr), (7, .sc (.int .i64)), (8, .sc .adr), (35, .sc .bool)] | 8 => some [(1, .sc (.int .i64)), (2, .sc (.int .i64)), (3, .sc .adr), (7, .sc (.int .i64)), (8, .sc .adr), (53, .sc .bool)] | _ => none
noncomputable def cayleyref21_step.body : Code := match Tryd.f91.body with | some c => c | none => .skip
def cayleyref21_step.sh (p0_0 : Int) (p0_1 : Int) (p0_2 : Sl) (p1 : Int) (p2 : Int) (R : Ending → World → Prop) (w : World) : Prop :=
  New w (.cells #[(.int .i64 p0_0), (.int .i64 p0_1), (.slice p0_2.a p0_2.n p0_2.c)] 54) fun b1 w2 =>
  LoopT (σ := Int × Int × Addr × Int × Unit) (p1, p2, (Addr.mk b1 0 none), 0, ()) w2 fun l3 g4 w5 I6 =>
    LoadT (.sc .sl) w5 (l3.2.2.1.add 2) fun x7 =>
    Br (decide ((l3.2.2.2.1 : Int) < ((x7.n : Nat) : Int)))
      (LoadT (.sc .sl) w5 (l3.2.2.1.add 2) fun x8 =>
      Idx x8.a x8.n 3 l3.2.2.2.1 fun a9 =>
      LoadT (.agg [.int .i64, .int .i64, .int .i64]) w5 a9 fun x10 =>
      New w5 (.cells #[(.int .i64 0), (.int .i64 0), (.int .i64 0)] 100) fun b11 w12 =>
      StoreN w12 (Addr.mk b11 0 none) [(.int .i64 x10.1), (.int .i64 x10.2.1), (.int .i64 x10.2.2.1)] fun w13 =>
      Join (σ := Int × Int × Addr × Int × Addr × Bool × Unit) (fun j16 g15 w19 =>
        Br j16.2.2.2.2.2.1
          (LoadT (.sc (.int .i64)) w19 (j16.2.2.2.2.1.add 2) fun x20 =>
          R (.returned (.int .i64 x20)) w19)
          (Join (σ := Int × Int × Addr × Int × Addr × Bool × Unit) (fun j23 g22 w26 =>
            Br j23.2.2.2.2.2.1
              (LoadT (.sc (.int .i64)) w26 (j23.2.2.2.2.1.add 0) fun x27 =>
              R (.returned (.int .i64 x27)) w26)
              (I6 (j23.1, j23.2.1, j23.2.2.1, (IntKind.wrap .i64 (j23.2.2.2.1 + 1)), ()) w26)) fun J21 =>
            (2 : Int) ≠ 0 ∧
            Br (((Int.tmod j16.2.1 2) : Int) == 1)
              (LoadT (.sc (.int .i64)) w19 (j16.2.2.2.2.1.add 1) fun x24 =>
              Br ((x24 : Int) == (IntKind.wrap .i64 (j16.2.1 - 1)))
                (LoadT (.sc (.int .i64)) w19 (j16.2.2.2.2.1.add 2) fun x25 =>
                J21 (j16.1, j16.2.1, j16.2.2.1, j16.2.2.2.1, j16.2.2.2.2.1, ((x25 : Int) == j16.1), ()) w19)
                (J21 (j16.1, j16.2.1, j16.2.2.1, j16.2.2.2.1, j16.2.2.2.2.1, false, ()) w19))
              (J21 (j16.1, j16.2.1, j16.2.2.1, j16.2.2.2.1, j16.2.2.2.2.1, false, ()) w19))) fun J14 =>
        (2 : Int) ≠ 0 ∧
        Br (((Int.tmod l3.2.1 2) : Int) == 0)
          (LoadT (.sc (.int .i64)) w13 ((Addr.mk b11 0 none).add 1) fun x17 =>
          Br ((x17 : Int) == l3.2.1)
            (LoadT (.sc (.int .i64)) w13 ((Addr.mk b11 0 none).add 0) fun x18 =>
            J14 (l3.1, l3.2.1, l3.2.2.1, l3.2.2.2.1, (Addr.mk b11 0 none), ((x18 : Int) == l3.1), ()) w13)
            (J14 (l3.1, l3.2.1, l3.2.2.1, l3.2.2.2.1, (Addr.mk b11 0 none), false, ()) w13))
          (J14 (l3.1, l3.2.1, l3.2.2.1, l3.2.2.2.1, (Addr.mk b11 0 none), false, ()) w13))
      (R (.returned (.int .i64 (-1))) w5)
theorem cayleyref21_step.eq (p0_0 : Int) (p0_1 : Int) (p0_2 : Sl) (p1 : Int) (p2 : Int) (R : Ending → World → Prop) (w : World) : cayleyref21_step.sh p0_0 p0_1 p0_2 p1 p2 R w = wpc Tryd.prog cayleyref21_step.ann cayleyref21_step.body (fnKs Tryd.prog Tryd.f91 R) [] (env0 #[(.agg #[(.int .i64 p0_0), (.int .i64 p0_1), (.slice p0_2.a p0_2.n p0_2.c)]), (.int .i64 p1), (.int .i64 p2)]) w := by kernel_rfl
theorem cayleyref21_step.calls (p0_0 : Int) (p0_1 : Int) (p0_2 : Sl) (p1 : Int) (p2 : Int) {R : Ending → World → Prop} {w : World} (h : cayleyref21_step.sh p0_0 p0_1 p0_2 p1 p2 R w) : Calls Tryd.prog 91 #[(.agg #[(.int .i64 p0_0), (.int .i64 p0_1), (.slice p0_2.a p0_2.n p0_2.c)]), (.int .i64 p1), (.int .i64 p2)] w R :=
  calls_of_wpc mixed Tryd.func91 (by kernel_rfl) (by kernel_rfl) ((cayleyref21_step.eq p0_0 p0_1 p0_2 p1 p2 R w).mp h)
/-! cayley/cayleyref21.GraphOf -/
noncomputable def cayleyref21_GraphOf.ann : Ann where
  loops := fun | 3 => [(0, .sc (.int .i64)), (3, .sc .adr), (4, .sc .adr), (5, .sc .adr), (6, .sc (.int .i64))] | 6 => [(0, .sc (.int .i64)), (3, .sc .adr), (4, .sc .adr), (5, .sc .adr), (6, .sc (.int .i64)), (7, .sc (.int .i64))] | _ => []
  joins := fun | _ => none
noncomputable def cayleyref21_GraphOf.body : Code := match Tryd.f27.body with | some c => c | none => .skip
def cayleyref21_GraphOf.sh (p0 : Int) (p1_0 : Int) (p1_1 : Int) (p1_2 : Sl) (p1_3 : Sl) (R : Ending → World → Prop) (w : World) : Prop :=
  New w (.cells #[(.int .i64 p1_0), (.int .i64 p1_1), (.slice p1_2.a p1_2.n p1_2.c), (.slice p1_3.a p1_3.n p1_3.c)] 27) fun b1 w2 =>
  New w2 (.cells #[(.int .i64 0), (.int .i64 0), (.slice none 0 0)] 54) fun b3 w4 =>
  LoadT (.sc .sl) w4 ((Addr.mk b1 0 none).add 2) fun x5 =>
  New w4 (.cells #[(.int .i64 0), (.int .i64 0), (.slice none 0 0)] 54) fun b6 w7 =>
  StoreN w7 (Addr.mk b6 0 none) [(.int .i64 p0), (.int .i64 ((x5.n : Nat) : Int)), (.slice none 0 0)] fun w8 =>
  LoopT (σ := Int × Addr × Addr × Addr × Int × Unit) (p0, (Addr.mk b1 0 none), (Addr.mk b3 0 none), (Addr.mk b6 0 none), 0, ()) w8 fun l9 g10 w11 I12 =>
    LoadT (.sc .sl) w11 (l9.2.1.add 3) fun x13 =>
    Br (decide ((l9.2.2.2.2.1 : Int) < ((x13.n : Nat) : Int)))
      (LoopT (σ := Int × Addr × Addr × Addr × Int × Int × Unit) (l9.1, l9.2.1, l9.2.2.1, l9.2.2.2.1, l9.2.2.2.2.1, 0, ()) w11 fun l14 g15 w16 I17 =>
        Br (decide ((l14.2.2.2.2.2.1 : Int) < (IntKind.wrap .i64 (2 * l14.1))))
          (LoadT (.sc .sl) w16 (l14.2.1.add 3) fun x18 =>
          Idx x18.a x18.n 1 l14.2.2.2.2.1 fun a19 =>
          LoadT (.sc .sl) w16 a19 fun x20 =>
          Idx x20.a x20.n 1 l14.2.2.2.2.2.1 fun a21 =>
          LoadT (.sc (.int .i64)) w16 a21 fun x22 =>
          Br (decide ((x22 : Int) ≥ 0))
            (∃ S23 : World → Prop, S23 w16.drew ∧
            (LoadS S23 (.sc .sl) (l14.2.2.2.1.add 2) fun x24 =>
            LoadS S23 (.sc .sl) (l14.2.1.add 3) fun x25 =>
            Idx x25.a x25.n 1 l14.2.2.2.2.1 fun a26 =>
            LoadS S23 (.sc .sl) a26 fun x27 =>
            Idx x27.a x27.n 1 l14.2.2.2.2.2.1 fun a28 =>
            LoadS S23 (.sc (.int .i64)) a28 fun x29 =>
            New w16.drew (.cells #[(.int .i64 l14.2.2.2.2.1), (.int .i64 l14.2.2.2.2.2.1), (.int .i64 x29)] 100) fun b30 w31 =>
              S23 w31 ∧
              (RunT Tryd.prog (.sc .sl) (Builtin.append_ #[52, 52] 52 #[(.slice x24.a x24.n x24.c), (.slice (some (Addr.mk b30 0 none)) 1 1)]) w31 fun r32 w33 =>
                S23 w33 ∧
                (Store1 w33 (l14.2.2.2.1.add 2) (.slice r32.a r32.n r32.c) fun w34 =>
                  I17 (l14.1, l14.2.1, l14.2.2.1, l14.2.2.2.1, l14.2.2.2.2.1, (IntKind.wrap .i64 (l14.2.2.2.2.2.1 + 2)), ()) w34))))
            (I17 (l14.1, l14.2.1, l14.2.2.1, l14.2.2.2.1, l14.2.2.2.2.1, (IntKind.wrap .i64 (l14.2.2.2.2.2.1 + 2)), ()) w16))
          (I12 (l14.1, l14.2.1, l14.2.2.1, l14.2.2.2.1, (IntKind.wrap .i64 (l14.2.2.2.2.1 + 1)), ()) w16))
      (LoadT (.agg [.int .i64, .int .i64, .sl]) w11 l9.2.2.2.1 fun x35 =>
      StoreN w11 l9.2.2.1 [(.int .i64 x35.1), (.int .i64 x35.2.1), (.slice x35.2.2.1.a x35.2.2.1.n x35.2.2.1.c)] fun w36 =>
      LoadT (.agg [.int .i64, .int .i64, .sl]) w36 l9.2.2.1 fun x37 =>
      R (.returned (.agg #[(.int .i64 x37.1), (.int .i64 x37.2.1), (.slice x37.2.2.1.a x37.2.2.1.n x37.2.2.1.c)])) w36)
theorem cayleyref21_GraphOf.eq (p0 : Int) (p1_0 : Int) (p1_1 : Int) (p1_2 : Sl) (p1_3 : Sl) (R : Ending → World → Prop) (w : World) : cayleyref21_GraphOf.sh p0 p1_0 p1_1 p1_2 p1_3 R w = wpc Tryd.prog cayleyref21_GraphOf.ann cayleyref21_GraphOf.body (fnKs Tryd.prog Tryd.f27 R) [] (env0 #[(.int .i64 p0), (.agg #[(.int .i64 p1_0), (.int .i64 p1_1), (.slice p1_2.a p1_2.n p1_2.c), (.slice p1_3.a p1_3.n p1_3.c)])]) w := by kernel_rfl
theorem cayleyref21_GraphOf.calls (p0 : Int) (p1_0 : Int) (p1_1 : Int) (p1_2 : Sl) (p1_3 : Sl) {R : Ending → World → Prop} {w : World} (h : cayleyref21_GraphOf.sh p0 p1_0 p1_1 p1_2 p1_3 R w) : Calls Tryd.prog 27 #[(.int .i64 p0), (.agg #[(.int .i64 p1_0), (.int .i64 p1_1), (.slice p1_2.a p1_2.n p1_2.c), (.slice p1_3.a p1_3.n p1_3.c)])] w R :=
  calls_of_wpc mixed Tryd.func27 (by kernel_rfl) (by kernel_rfl) ((cayleyref21_GraphOf.eq p0 p1_0 p1_1 p1_2 p1_3 R w).mp h)
/-! cayley/cayleyref21.Numbered -/
noncomputable def cayleyref21_Numbered.ann : Ann where
  loops := fun | 4 => [(2, .sc .adr), (4, .sc .adr), (5, .sc .sl), (6, .sc .adr), (7, .sc (.int .i64))] | 8 => [(2, .sc .adr), (4, .sc .adr), (5, .sc .sl), (6, .sc .adr), (7, .sc (.int .i64)), (8, .sc .sl), (9, .sc (.int .i64))] | 14 => [(2, .sc .adr), (4, .sc .adr), (5, .sc .sl), (6, .sc .adr), (7, .sc (.int .i64)), (8, .sc .sl), (9, .sc (.int .i64)), (10, .sc (.int .i64)), (11, .sc (.int .i64)), (12, .sc (.int .i64))] | _ => []
  joins := fun | 21 => some [(2, .sc .adr), (4, .sc .adr), (5, .sc .sl), (6, .sc .adr), (7, .sc (.int .i64)), (8, .sc .sl), (9, .sc (.int .i64)), (11, .sc (.int .i64))] | _ => none
noncomputable def cayleyref21_Numbered.body : Code := match Tryd.f70.body with | some c => c | none => .skip
def cayleyref21_Numbered.sh (p0_0 : Int) (p0_1 : Int) (p0_2 : Sl) (p1 : Int) (R : Ending → World → Prop) (w : World) : Prop :=
  New w (.cells #[(.int .i64 p0_0), (.int .i64 p0_1), (.slice p0_2.a p0_2.n p0_2.c)] 54) fun b1 w2 =>
  New w2 (.cells #[(.int .i64 0), (.int .i64 0), (.slice none 0 0), (.slice none 0 0)] 27) fun b3 w4 =>
  New w4 (.cells #[(.int .i64 p1)] 3) fun b5 w6 =>
  LoadT (.sc (.int .i64)) w6 ((Addr.mk b1 0 none).add 0) fun x7 =>
  New w6 (.cells #[(.int .i64 0), (.int .i64 0), (.slice none 0 0), (.slice none 0 0)] 27) fun b8 w9 =>
  StoreN w9 (Addr.mk b8 0 none) [(.int .i64 (IntKind.wrap .i64 (2 * x7))), (.int .i64 0), (.slice none 0 0), (.slice none 0 0)] fun w10 =>
  LoopT (σ := Addr × Addr × Sl × Addr × Int × Unit) ((Addr.mk b1 0 none), (Addr.mk b3 0 none), ⟨(some (Addr.mk b5 0 none)), 1, 1⟩, (Addr.mk b8 0 none), 0, ()) w10 fun l11 g12 w13 I14 =>
    Br (decide ((l11.2.2.2.2.1 : Int) < ((l11.2.2.1.n : Nat) : Int)))
      (New w13 (.cells #[] 3) fun b15 w16 =>
      LoopT (σ := Addr × Addr × Sl × Addr × Int × Sl × Int × Unit) (l11.1, l11.2.1, l11.2.2.1, l11.2.2.2.1, l11.2.2.2.2.1, ⟨(some (Addr.mk b15 0 none)), 0, 0⟩, 0, ()) w16 fun l17 g18 w19 I20 =>
        LoadT (.sc (.int .i64)) w19 (l17.1.add 0) fun x21 =>
        Br (decide ((l17.2.2.2.2.2.2.1 : Int) < (IntKind.wrap .i64 (2 * x21))))
          (LoadT (.agg [.int .i64, .int .i64, .sl]) w19.drew l17.1 fun x22 =>
          Idx l17.2.2.1.a l17.2.2.1.n 1 l17.2.2.2.2.1 fun a23 =>
          LoadT (.sc (.int .i64)) w19.drew a23 fun x24 =>
          CallT Tryd.prog 91 #[(.agg #[(.int .i64 x22.1), (.int .i64 x22.2.1), (.slice x22.2.2.1.a x22.2.2.1.n x22.2.2.1.c)]), (.int .i64 x24), (.int .i64 l17.2.2.2.2.2.2.1)] (.sc (.int .i64)) w19.drew (fun r25 w26 =>
            Join (σ := Addr × Addr × Sl × Addr × Int × Sl × Int × Int × Unit) (fun j30 g29 w41 =>
              New w41 (.cells #[(.int .i64 j30.2.2.2.2.2.2.2.1)] 3) fun b42 w43 =>
              RunT Tryd.prog (.sc .sl) (Builtin.append_ #[85, 85] 85 #[(.slice j30.2.2.2.2.2.1.a j30.2.2.2.2.2.1.n j30.2.2.2.2.2.1.c), (.slice (some (Addr.mk b42 0 none)) 1 1)]) w43 fun r44 w45 =>
              I20 (j30.1, j30.2.1, j30.2.2.1, j30.2.2.2.1, j30.2.2.2.2.1, r44, (IntKind.wrap .i64 (j30.2.2.2.2.2.2.1 + 1)), ()) w45) fun J28 =>
              Br (decide ((r25 : Int) ≥ 0))
                (LoopT (σ := Addr × Addr × Sl × Addr × Int × Sl × Int × Int × Int × Int × Unit) (l17.1, l17.2.1, l17.2.2.1, l17.2.2.2.1, l17.2.2.2.2.1, l17.2.2.2.2.2.1, l17.2.2.2.2.2.2.1, r25, (-1), 0, ()) w26 fun l31 g32 w33 I34 =>
                  Br (decide ((l31.2.2.2.2.2.2.2.2.2.1 : Int) < ((l31.2.2.1.n : Nat) : Int)))
                    (Idx l31.2.2.1.a l31.2.2.1.n 1 l31.2.2.2.2.2.2.2.2.2.1 fun a35 =>
                    LoadT (.sc (.int .i64)) w33 a35 fun x36 =>
                    Br ((x36 : Int) == l31.2.2.2.2.2.2.2.1)
                      (I34 (l31.1, l31.2.1, l31.2.2.1, l31.2.2.2.1, l31.2.2.2.2.1, l31.2.2.2.2.2.1, l31.2.2.2.2.2.2.1, l31.2.2.2.2.2.2.2.1, l31.2.2.2.2.2.2.2.2.2.1, (IntKind.wrap .i64 (l31.2.2.2.2.2.2.2.2.2.1 + 1)), ()) w33)
                      (I34 (l31.1, l31.2.1, l31.2.2.1, l31.2.2.2.1, l31.2.2.2.2.1, l31.2.2.2.2.2.1, l31.2.2.2.2.2.2.1, l31.2.2.2.2.2.2.2.1, l31.2.2.2.2.2.2.2.2.1, (IntKind.wrap .i64 (l31.2.2.2.2.2.2.2.2.2.1 + 1)), ()) w33))
                    (Br (decide ((l31.2.2.2.2.2.2.2.2.1 : Int) < 0))
                      (New w33 (.cells #[(.int .i64 l31.2.2.2.2.2.2.2.1)] 3) fun b37 w38 =>
                      RunT Tryd.prog (.sc .sl) (Builtin.append_ #[85, 85] 85 #[(.slice l31.2.2.1.a l31.2.2.1.n l31.2.2.1.c), (.slice (some (Addr.mk b37 0 none)) 1 1)]) w38 fun r39 w40 =>
                      J28 (l31.1, l31.2.1, r39, l31.2.2.2.1, l31.2.2.2.2.1, l31.2.2.2.2.2.1, l31.2.2.2.2.2.2.1, ((l31.2.2.1.n : Nat) : Int), ()) w40)
                      (J28 (l31.1, l31.2.1, l31.2.2.1, l31.2.2.2.1, l31.2.2.2.2.1, l31.2.2.2.2.2.1, l31.2.2.2.2.2.2.1, l31.2.2.2.2.2.2.2.2.1, ()) w33)))
                (J28 (l17.1, l17.2.1, l17.2.2.1, l17.2.2.2.1, l17.2.2.2.2.1, l17.2.2.2.2.2.1, l17.2.2.2.2.2.2.1, (-1), ()) w26)) (fun h27 w26 => R (.panicked h27) w26))
          (LoadT (.sc .sl) w19 (l17.2.2.2.1.add 3) fun x46 =>
          New w19 (.cells #[(.slice l17.2.2.2.2.2.1.a l17.2.2.2.2.2.1.n l17.2.2.2.2.2.1.c)] 85) fun b47 w48 =>
          RunT Tryd.prog (.sc .sl) (Builtin.append_ #[25, 25] 25 #[(.slice x46.a x46.n x46.c), (.slice (some (Addr.mk b47 0 none)) 1 1)]) w48 fun r49 w50 =>
          Store1 w50 (l17.2.2.2.1.add 3) (.slice r49.a r49.n r49.c) fun w51 =>
          LoadT (.sc .sl) w51 (l17.2.2.2.1.add 2) fun x52 =>
          New w51 (.cells #[(.bool ((l17.2.2.2.2.1 : Int) == 0))] 4) fun b53 w54 =>
          RunT Tryd.prog (.sc .sl) (Builtin.append_ #[24, 24] 24 #[(.slice x52.a x52.n x52.c), (.slice (some (Addr.mk b53 0 none)) 1 1)]) w54 fun r55 w56 =>
          Store1 w56 (l17.2.2.2.1.add 2) (.slice r55.a r55.n r55.c) fun w57 =>
          I14 (l17.1, l17.2.1, l17.2.2.1, l17.2.2.2.1, (IntKind.wrap .i64 (l17.2.2.2.2.1 + 1)), ()) w57))
      (LoadT (.agg [.int .i64, .int .i64, .sl, .sl]) w13 l11.2.2.2.1 fun x58 =>
      StoreN w13 l11.2.1 [(.int .i64 x58.1), (.int .i64 x58.2.1), (.slice x58.2.2.1.a x58.2.2.1.n x58.2.2.1.c), (.slice x58.2.2.2.1.a x58.2.2.2.1.n x58.2.2.2.1.c)] fun w59 =>
      LoadT (.agg [.int .i64, .int .i64, .sl, .sl]) w59 l11.2.1 fun x60 =>
      R (.returned (.agg #[(.int .i64 x60.1), (.int .i64 x60.2.1), (.slice x60.2.2.1.a x60.2.2.1.n x60.2.2.1.c), (.slice x60.2.2.2.1.a x60.2.2.2.1.n x60.2.2.2.1.c)])) w59)
theorem cayleyref21_Numbered.eq (p0_0 : Int) (p0_1 : Int) (p0_2 : Sl) (p1 : Int) (R : Ending → World → Prop) (w : World) : cayleyref21_Numbered.sh p0_0 p0_1 p0_2 p1 R w = wpc Tryd.prog cayleyref21_Numbered.ann cayleyref21_Numbered.body (fnKs Tryd.prog Tryd.f70 R) [] (env0 #[(.agg #[(.int .i64 p0_0), (.int .i64 p0_1), (.slice p0_2.a p0_2.n p0_2.c)]), (.int .i64 p1)]) w := by kernel_rfl
theorem cayleyref21_Numbered.calls (p0_0 : Int) (p0_1 : Int) (p0_2 : Sl) (p1 : Int) {R : Ending → World → Prop} {w : World} (h : cayleyref21_Numbered.sh p0_0 p0_1 p0_2 p1 R w) : Calls Tryd.prog 70 #[(.agg #[(.int .i64 p0_0), (.int .i64 p0_1), (.slice p0_2.a p0_2.n p0_2.c)]), (.int .i64 p1)] w R :=
  calls_of_wpc mixed Tryd.func70 (by kernel_rfl) (by kernel_rfl) ((cayleyref21_Numbered.eq p0_0 p0_1 p0_2 p1 R w).mp h)
/-! cayley/cayleyref21.Is -/
noncomputable def cayleyref21_Is.ann : Ann where
  loops := fun | 5 => [(0, .sc (.int .i64)), (3, .sc .adr), (5, .sc (.int .i64)), (6, .sc (.int .i64))] | 9 => [(0, .sc (.int .i64)), (3, .sc .adr), (5, .sc (.int .i64)), (6, .sc (.int .i64)), (7, .sc (.int .i64)), (8, .sc (.int .i64))] | _ => []
  joins := fun | 4 => some [(0, .sc (.int .i64)), (3, .sc .adr), (5, .sc (.int .i64))] | _ => none
noncomputable def cayleyref21_Is.body : Code := match Tryd.f57.body with | some c => c | none => .skip
def cayleyref21_Is.sh (p0 : Int) (p1_0 : Int) (p1_1 : Int) (p1_2 : Sl) (p1_3 : Sl) (R : Ending → World → Prop) (w : World) : Prop :=
  New w (.cells #[(.int .i64 p1_0), (.int .i64 p1_1), (.slice p1_2.a p1_2.n p1_2.c), (.slice p1_3.a p1_3.n p1_3.c)] 27) fun b1 w2 =>
  LoadT (.sc .sl) w2 ((Addr.mk b1 0 none).add 2) fun x3 =>
  Join (σ := Int × Addr × Int × Unit) (fun j6 g5 w16 =>
    LoopT (σ := Int × Addr × Int × Int × Unit) (j6.1, j6.2.1, j6.2.2.1, 0, ()) w16 fun l17 g18 w19 I20 =>
      Br (decide ((l17.2.2.2.1 : Int) < l17.2.2.1))
        (LoopT (σ := Int × Addr × Int × Int × Int × Int × Unit) (l17.1, l17.2.1, l17.2.2.1, l17.2.2.2.1, 0, 0, ()) w19 fun l21 g22 w23 I24 =>
          Br (decide ((l21.2.2.2.2.2.1 : Int) < (IntKind.wrap .i64 (2 * l21.1))))
            (LoadT (.sc .sl) w23 (l21.2.1.add 3) fun x25 =>
            Idx x25.a x25.n 1 l21.2.2.2.1 fun a26 =>
            LoadT (.sc .sl) w23 a26 fun x27 =>
            Idx x27.a x27.n 1 l21.2.2.2.2.2.1 fun a28 =>
            LoadT (.sc (.int .i64)) w23 a28 fun x29 =>
            Br (decide ((x29 : Int) ≥ 0))
              (LoadT (.sc .sl) w23 (l21.2.1.add 3) fun x30 =>
              Idx x30.a x30.n 1 x29 fun a31 =>
              LoadT (.sc .sl) w23 a31 fun x32 =>
              Idx x32.a x32.n 1 (Go.bits .xor .i64 l21.2.2.2.2.2.1 1) fun a33 =>
              LoadT (.sc (.int .i64)) w23 a33 fun x34 =>
              Br ((x34 : Int) != l21.2.2.2.1)
                (R (.returned (.bool false)) w23)
                (I24 (l21.1, l21.2.1, l21.2.2.1, l21.2.2.2.1, (IntKind.wrap .i64 (l21.2.2.2.2.1 + 1)), (IntKind.wrap .i64 (l21.2.2.2.2.2.1 + 1)), ()) w23))
              (I24 (l21.1, l21.2.1, l21.2.2.1, l21.2.2.2.1, l21.2.2.2.2.1, (IntKind.wrap .i64 (l21.2.2.2.2.2.1 + 1)), ()) w23))
            (Br (decide ((l21.2.2.2.1 : Int) > 0))
              (Br (decide ((l21.2.2.2.2.1 : Int) < 2))
                (Br true
                  (R (.returned (.bool false)) w23)
                  (I20 (l21.1, l21.2.1, l21.2.2.1, (IntKind.wrap .i64 (l21.2.2.2.1 + 1)), ()) w23))
                (LoadT (.sc .sl) w23 (l21.2.1.add 2) fun x35 =>
                Idx x35.a x35.n 1 l21.2.2.2.1 fun a36 =>
                LoadT (.sc .bool) w23 a36 fun x37 =>
                Br x37
                  (R (.returned (.bool false)) w23)
                  (I20 (l21.1, l21.2.1, l21.2.2.1, (IntKind.wrap .i64 (l21.2.2.2.1 + 1)), ()) w23)))
              (Br false
                (R (.returned (.bool false)) w23)
                (I20 (l21.1, l21.2.1, l21.2.2.1, (IntKind.wrap .i64 (l21.2.2.2.1 + 1)), ()) w23))))
        (∃ S38 : World → Prop, S38 w19.drew ∧
        (LoadS S38 (.agg [.int .i64, .int .i64, .sl, .sl]) l17.2.1 fun x39 =>
        LoadS S38 (.agg [.int .i64, .int .i64, .sl, .sl]) l17.2.1 fun x40 =>
        CallT Tryd.prog 27 #[(.int .i64 l17.1), (.agg #[(.int .i64 x40.1), (.int .i64 x40.2.1), (.slice x40.2.2.1.a x40.2.2.1.n x40.2.2.1.c), (.slice x40.2.2.2.1.a x40.2.2.2.1.n x40.2.2.2.1.c)])] (.agg [.int .i64, .int .i64, .sl]) w19.drew (fun r41 w42 =>
            S38 w42 ∧
            (CallT Tryd.prog 70 #[(.agg #[(.int .i64 r41.1), (.int .i64 r41.2.1), (.slice r41.2.2.1.a r41.2.2.1.n r41.2.2.1.c)]), (.int .i64 0)] (.agg [.int .i64, .int .i64, .sl, .sl]) w42 (fun r44 w45 =>
                S38 w45 ∧
                (CallT Tryd.prog 15 #[(.agg #[(.int .i64 x39.1), (.int .i64 x39.2.1), (.slice x39.2.2.1.a x39.2.2.1.n x39.2.2.1.c), (.slice x39.2.2.2.1.a x39.2.2.2.1.n x39.2.2.2.1.c)]), (.agg #[(.int .i64 r44.1), (.int .i64 r44.2.1), (.slice r44.2.2.1.a r44.2.2.1.n r44.2.2.1.c), (.slice r44.2.2.2.1.a r44.2.2.2.1.n r44.2.2.2.1.c)])] (.sc .bool) w45 (fun r47 w48 =>
                    S38 w48 ∧
                    (R (.returned (.bool r47)) w48)) (fun h49 w48 => R (.panicked h49) w48))) (fun h46 w45 => R (.panicked h46) w45))) (fun h43 w42 => R (.panicked h43) w42)))) fun J4 =>
    LoadT (.agg [.int .i64, .int .i64, .sl, .sl]) w2 (Addr.mk b1 0 none) fun x7 =>
    CallT Tryd.prog 87 #[(.agg #[(.int .i64 x7.1), (.int .i64 x7.2.1), (.slice x7.2.2.1.a x7.2.2.1.n x7.2.2.1.c), (.slice x7.2.2.2.1.a x7.2.2.2.1.n x7.2.2.2.1.c)])] (.sc (.int .i64)) w2 (fun r8 w9 =>
      Br ((r8 : Int) != 0)
        (Br true
          (R (.returned (.bool false)) w9)
          (J4 (p0, (Addr.mk b1 0 none), ((x3.n : Nat) : Int), ()) w9))
        (LoadT (.sc (.int .i64)) w9 ((Addr.mk b1 0 none).add 0) fun x11 =>
        Br ((x11 : Int) != (IntKind.wrap .i64 (2 * p0)))
          (Br true
            (R (.returned (.bool false)) w9)
            (J4 (p0, (Addr.mk b1 0 none), ((x3.n : Nat) : Int), ()) w9))
          (Br (decide ((((x3.n : Nat) : Int) : Int) < 1))
            (Br true
              (R (.returned (.bool false)) w9)
              (J4 (p0, (Addr.mk b1 0 none), ((x3.n : Nat) : Int), ()) w9))
            (Br (decide ((((x3.n : Nat) : Int) : Int) > 2000))
              (Br true
                (R (.returned (.bool false)) w9)
                (J4 (p0, (Addr.mk b1 0 none), ((x3.n : Nat) : Int), ()) w9))
              (LoadT (.sc (.int .i64)) w9 ((Addr.mk b1 0 none).add 1) fun x12 =>
              Br ((x12 : Int) != 0)
                (Br true
                  (R (.returned (.bool false)) w9)
                  (J4 (p0, (Addr.mk b1 0 none), ((x3.n : Nat) : Int), ()) w9))
                (LoadT (.sc .sl) w9 ((Addr.mk b1 0 none).add 2) fun x13 =>
                Idx x13.a x13.n 1 0 fun a14 =>
                LoadT (.sc .bool) w9 a14 fun x15 =>
                Br (!x15)
                  (R (.returned (.bool false)) w9)
                  (J4 (p0, (Addr.mk b1 0 none), ((x3.n : Nat) : Int), ()) w9))))))) (fun h10 w9 => R (.panicked h10) w9)
theorem cayleyref21_Is.eq (p0 : Int) (p1_0 : Int) (p1_1 : Int) (p1_2 : Sl) (p1_3 : Sl) (R : Ending → World → Prop) (w : World) : cayleyref21_Is.sh p0 p1_0 p1_1 p1_2 p1_3 R w = wpc Tryd.prog cayleyref21_Is.ann cayleyref21_Is.body (fnKs Tryd.prog Tryd.f57 R) [] (env0 #[(.int .i64 p0), (.agg #[(.int .i64 p1_0), (.int .i64 p1_1), (.slice p1_2.a p1_2.n p1_2.c), (.slice p1_3.a p1_3.n p1_3.c)])]) w := by kernel_rfl
theorem cayleyref21_Is.calls (p0 : Int) (p1_0 : Int) (p1_1 : Int) (p1_2 : Sl) (p1_3 : Sl) {R : Ending → World → Prop} {w : World} (h : cayleyref21_Is.sh p0 p1_0 p1_1 p1_2 p1_3 R w) : Calls Tryd.prog 57 #[(.int .i64 p0), (.agg #[(.int .i64 p1_0), (.int .i64 p1_1), (.slice p1_2.a p1_2.n p1_2.c), (.slice p1_3.a p1_3.n p1_3.c)])] w R :=
  calls_of_wpc mixed Tryd.func57 (by kernel_rfl) (by kernel_rfl) ((cayleyref21_Is.eq p0 p1_0 p1_1 p1_2 p1_3 R w).mp h)
/-! cayley/cayleyref21.Check -/
noncomputable def cayleyref21_Check.ann : Ann where
  loops := fun | _ => []
  joins := fun | 3 => some [(0, .sc (.int .i64)), (3, .sc .adr)] | _ => none
noncomputable def cayleyref21_Check.body : Code := match Tryd.f18.body with | some c => c | none => .skip
def cayleyref21_Check.sh (p0 : Int) (p1_0 : Int) (p1_1 : Int) (p1_2 : Sl) (p1_3 : Sl) (R : Ending → World → Prop) (w : World) : Prop :=
  New w (.cells #[(.int .i64 p1_0), (.int .i64 p1_1), (.slice p1_2.a p1_2.n p1_2.c), (.slice p1_3.a p1_3.n p1_3.c)] 27) fun b1 w2 =>
  Join (σ := Int × Addr × Unit) (fun j5 g4 w6 =>
    LoadT (.agg [.int .i64, .int .i64, .sl, .sl]) w6 j5.2.1 fun x7 =>
    CallT Tryd.prog 57 #[(.int .i64 j5.1), (.agg #[(.int .i64 x7.1), (.int .i64 x7.2.1), (.slice x7.2.2.1.a x7.2.2.1.n x7.2.2.1.c), (.slice x7.2.2.2.1.a x7.2.2.2.1.n x7.2.2.2.1.c)])] (.sc .bool) w6 (fun r8 w9 =>
      Br (!r8)
        (R (.returned (.int .i64 210)) w9)
        (R (.returned (.int .i64 0)) w9)) (fun h10 w9 => R (.panicked h10) w9)) fun J3 =>
    Br (decide ((p0 : Int) < 1))
      (Br true
        (R (.returned (.int .i64 1)) w2)
        (J3 (p0, (Addr.mk b1 0 none), ()) w2))
      (Br (decide ((p0 : Int) > 8))
        (R (.returned (.int .i64 1)) w2)
        (J3 (p0, (Addr.mk b1 0 none), ()) w2))
theorem cayleyref21_Check.eq (p0 : Int) (p1_0 : Int) (p1_1 : Int) (p1_2 : Sl) (p1_3 : Sl) (R : Ending → World → Prop) (w : World) : cayleyref21_Check.sh p0 p1_0 p1_1 p1_2 p1_3 R w = wpc Tryd.prog cayleyref21_Check.ann cayleyref21_Check.body (fnKs Tryd.prog Tryd.f18 R) [] (env0 #[(.int .i64 p0), (.agg #[(.int .i64 p1_0), (.int .i64 p1_1), (.slice p1_2.a p1_2.n p1_2.c), (.slice p1_3.a p1_3.n p1_3.c)])]) w := by kernel_rfl
theorem cayleyref21_Check.calls (p0 : Int) (p1_0 : Int) (p1_1 : Int) (p1_2 : Sl) (p1_3 : Sl) {R : Ending → World → Prop} {w : World} (h : cayleyref21_Check.sh p0 p1_0 p1_1 p1_2 p1_3 R w) : Calls Tryd.prog 18 #[(.int .i64 p0), (.agg #[(.int .i64 p1_0), (.int .i64 p1_1), (.slice p1_2.a p1_2.n p1_2.c), (.slice p1_3.a p1_3.n p1_3.c)])] w R :=
  calls_of_wpc mixed Tryd.func18 (by kernel_rfl) (by kernel_rfl) ((cayleyref21_Check.eq p0 p1_0 p1_1 p1_2 p1_3 R w).mp h)
/-! cayley/cayleyref21.Lead -/
noncomputable def cayleyref21_Lead.ann : Ann where
  loops := fun | 4 => [(2, .sc .adr), (5, .sc .str), (6, .sc (.int .i64)), (7, .sc (.int .i64))] | _ => []
  joins := fun | 6 => some [(2, .sc .adr), (5, .sc .str), (6, .sc (.int .i64)), (7, .sc (.int .i64))] | _ => none
noncomputable def cayleyref21_Lead.body : Code := match Tryd.f23.body with | some c => c | none => .skip
def cayleyref21_Lead.sh (p0_0 : Int) (p0_1 : Int) (p0_2 : Sl) (p0_3 : Sl) (p1 : ByteArray) (R : Ending → World → Prop) (w : World) : Prop :=
  New w (.cells #[(.int .i64 p0_0), (.int .i64 p0_1), (.slice p0_2.a p0_2.n p0_2.c), (.slice p0_3.a p0_3.n p0_3.c)] 27) fun b1 w2 =>
  CallT Tryd.prog 25 #[(.string p1)] (.sc .str) w2 (fun r3 w4 =>
    LoopT (σ := Addr × ByteArray × Int × Int × Unit) ((Addr.mk b1 0 none), r3, 0, 0, ()) w4 fun l6 g7 w8 I9 =>
      Join (σ := Addr × ByteArray × Int × Int × Unit) (fun j12 g11 w14 =>
        ∃ S15 : World → Prop, S15 w14.drew ∧
        (LoadS S15 (.sc .sl) (j12.1.add 3) fun x16 =>
        Idx x16.a x16.n 1 j12.2.2.1 fun a17 =>
        LoadS S15 (.sc .sl) a17 fun x18 =>
        StrIdx j12.2.1 j12.2.2.2.1 fun c19 =>
        CallT Tryd.prog 61 #[(.int .u8 c19)] (.sc (.int .i64)) w14.drew (fun r20 w21 =>
            S15 w21 ∧
            (Idx x18.a x18.n 1 r20 fun a23 =>
            LoadS S15 (.sc (.int .i64)) a23 fun x24 =>
            I9 (j12.1, j12.2.1, x24, (IntKind.wrap .i64 (j12.2.2.2.1 + 1)), ()) w21)) (fun h22 w21 => R (.panicked h22) w21))) fun J10 =>
        Br (decide ((l6.2.2.2.1 : Int) < ((l6.2.1.size : Nat) : Int)))
          (Br (decide ((l6.2.2.1 : Int) ≥ 0))
            (LoadT (.sc .sl) w8 (l6.1.add 3) fun x13 =>
            Br (decide ((l6.2.2.1 : Int) < ((x13.n : Nat) : Int)))
              (J10 (l6.1, l6.2.1, l6.2.2.1, l6.2.2.2.1, ()) w8)
              (R (.returned (.int .i64 l6.2.2.1)) w8))
            (Br false
              (J10 (l6.1, l6.2.1, l6.2.2.1, l6.2.2.2.1, ()) w8)
              (R (.returned (.int .i64 l6.2.2.1)) w8)))
          (Br false
            (J10 (l6.1, l6.2.1, l6.2.2.1, l6.2.2.2.1, ()) w8)
            (R (.returned (.int .i64 l6.2.2.1)) w8))) (fun h5 w4 => R (.panicked h5) w4)
theorem cayleyref21_Lead.eq (p0_0 : Int) (p0_1 : Int) (p0_2 : Sl) (p0_3 : Sl) (p1 : ByteArray) (R : Ending → World → Prop) (w : World) : cayleyref21_Lead.sh p0_0 p0_1 p0_2 p0_3 p1 R w = wpc Tryd.prog cayleyref21_Lead.ann cayleyref21_Lead.body (fnKs Tryd.prog Tryd.f23 R) [] (env0 #[(.agg #[(.int .i64 p0_0), (.int .i64 p0_1), (.slice p0_2.a p0_2.n p0_2.c), (.slice p0_3.a p0_3.n p0_3.c)]), (.string p1)]) w := by kernel_rfl
theorem cayleyref21_Lead.calls (p0_0 : Int) (p0_1 : Int) (p0_2 : Sl) (p0_3 : Sl) (p1 : ByteArray) {R : Ending → World → Prop} {w : World} (h : cayleyref21_Lead.sh p0_0 p0_1 p0_2 p0_3 p1 R w) : Calls Tryd.prog 23 #[(.agg #[(.int .i64 p0_0), (.int .i64 p0_1), (.slice p0_2.a p0_2.n p0_2.c), (.slice p0_3.a p0_3.n p0_3.c)]), (.string p1)] w R :=
  calls_of_wpc mixed Tryd.func23 (by kernel_rfl) (by kernel_rfl) ((cayleyref21_Lead.eq p0_0 p0_1 p0_2 p0_3 p1 R w).mp h)
/-! cayley/cayleyref21.Paths -/
noncomputable def cayleyref21_Paths.ann : Ann where
  loops := fun | 5 => [(1, .sc .adr), (3, .sc .sl), (4, .sc .sl), (5, .sc (.int .i64))] | 8 => [(1, .sc .adr), (3, .sc .sl), (4, .sc .sl), (5, .sc (.int .i64)), (6, .sc (.int .i64))] | _ => []
  joins := fun | 12 => some [(1, .sc .adr), (3, .sc .sl), (4, .sc .sl), (5, .sc (.int .i64)), (6, .sc (.int .i64)), (7, .sc (.int .i64)), (47, .sc .bool)] | _ => none
noncomputable def cayleyref21_Paths.body : Code := match Tryd.f32.body with | some c => c | none => .skip
def cayleyref21_Paths.sh (p0_0 : Int) (p0_1 : Int) (p0_2 : Sl) (p0_3 : Sl) (R : Ending → World → Prop) (w : World) : Prop :=
  New w (.cells #[(.int .i64 p0_0), (.int .i64 p0_1), (.slice p0_2.a p0_2.n p0_2.c), (.slice p0_3.a p0_3.n p0_3.c)] 27) fun b1 w2 =>
  LoadT (.sc .sl) w2 ((Addr.mk b1 0 none).add 2) fun x3 =>
  RunT Tryd.prog (.sc .sl) (Instr.makeSlice 22 (.int .i64 ((x3.n : Nat) : Int)) (.int .i64 ((x3.n : Nat) : Int))) w2 fun r4 w5 =>
  LoadT (.sc .sl) w5 ((Addr.mk b1 0 none).add 2) fun x6 =>
  RunT Tryd.prog (.sc .sl) (Instr.makeSlice 24 (.int .i64 ((x6.n : Nat) : Int)) (.int .i64 ((x6.n : Nat) : Int))) w5 fun r7 w8 =>
  Idx r7.a r7.n 1 0 fun a9 =>
  Store1 w8 a9 (.bool true) fun w10 =>
  LoopT (σ := Addr × Sl × Sl × Int × Unit) ((Addr.mk b1 0 none), r4, r7, 0, ()) w10 fun l11 g12 w13 I14 =>
    LoadT (.sc .sl) w13 (l11.1.add 2) fun x15 =>
    Br (decide ((l11.2.2.2.1 : Int) < ((x15.n : Nat) : Int)))
      (LoopT (σ := Addr × Sl × Sl × Int × Int × Unit) (l11.1, l11.2.1, l11.2.2.1, l11.2.2.2.1, 0, ()) w13 fun l16 g17 w18 I19 =>
        LoadT (.sc (.int .i64)) w18 (l16.1.add 0) fun x20 =>
        Br (decide ((l16.2.2.2.2.1 : Int) < x20))
          (LoadT (.sc .sl) w18 (l16.1.add 3) fun x21 =>
          Idx x21.a x21.n 1 l16.2.2.2.1 fun a22 =>
          LoadT (.sc .sl) w18 a22 fun x23 =>
          Idx x23.a x23.n 1 l16.2.2.2.2.1 fun a24 =>
          LoadT (.sc (.int .i64)) w18 a24 fun x25 =>
          Join (σ := Addr × Sl × Sl × Int × Int × Int × Bool × Unit) (fun j28 g27 w31 =>
            Br j28.2.2.2.2.2.2.1
              (Idx j28.2.2.1.a j28.2.2.1.n 1 j28.2.2.2.2.2.1 fun a32 =>
              Store1 w31 a32 (.bool true) fun w33 =>
              ∃ S34 : World → Prop, S34 w33.drew ∧
              (Idx j28.2.1.a j28.2.1.n 1 j28.2.2.2.1 fun a35 =>
              LoadS S34 (.sc .str) a35 fun x36 =>
              CallT Tryd.prog 65 #[(.int .i64 j28.2.2.2.2.1)] (.sc (.int .u8)) w33.drew (fun r37 w38 =>
                  S34 w38 ∧
                  (New w38 (.cells #[(.int .u8 r37)] 5) fun b40 w41 =>
                    S34 w41 ∧
                    (RunT Tryd.prog (.sc .str) (convert 87 9 (.slice (some (Addr.mk b40 0 none)) 1 1)) w41 fun r42 w43 =>
                      S34 w43 ∧
                      ((((x36.size + r42.size : Nat) : Int) ≤ 9223372036854775807) ∧
                      Idx j28.2.1.a j28.2.1.n 1 j28.2.2.2.2.2.1 fun a44 =>
                      Store1 w43 a44 (.string (x36 ++ r42)) fun w45 =>
                        I19 (j28.1, j28.2.1, j28.2.2.1, j28.2.2.2.1, (IntKind.wrap .i64 (j28.2.2.2.2.1 + 1)), ()) w45)))) (fun h39 w38 => R (.panicked h39) w38)))
              (I19 (j28.1, j28.2.1, j28.2.2.1, j28.2.2.2.1, (IntKind.wrap .i64 (j28.2.2.2.2.1 + 1)), ()) w31)) fun J26 =>
            Br (decide ((x25 : Int) ≥ 0))
              (Idx l16.2.2.1.a l16.2.2.1.n 1 x25 fun a29 =>
              LoadT (.sc .bool) w18 a29 fun x30 =>
              J26 (l16.1, l16.2.1, l16.2.2.1, l16.2.2.2.1, l16.2.2.2.2.1, x25, (!x30), ()) w18)
              (J26 (l16.1, l16.2.1, l16.2.2.1, l16.2.2.2.1, l16.2.2.2.2.1, x25, false, ()) w18))
          (I14 (l16.1, l16.2.1, l16.2.2.1, (IntKind.wrap .i64 (l16.2.2.2.1 + 1)), ()) w18))
      (R (.returned (.slice l11.2.1.a l11.2.1.n l11.2.1.c)) w13)
theorem cayleyref21_Paths.eq (p0_0 : Int) (p0_1 : Int) (p0_2 : Sl) (p0_3 : Sl) (R : Ending → World → Prop) (w : World) : cayleyref21_Paths.sh p0_0 p0_1 p0_2 p0_3 R w = wpc Tryd.prog cayleyref21_Paths.ann cayleyref21_Paths.body (fnKs Tryd.prog Tryd.f32 R) [] (env0 #[(.agg #[(.int .i64 p0_0), (.int .i64 p0_1), (.slice p0_2.a p0_2.n p0_2.c), (.slice p0_3.a p0_3.n p0_3.c)])]) w := by kernel_rfl
theorem cayleyref21_Paths.calls (p0_0 : Int) (p0_1 : Int) (p0_2 : Sl) (p0_3 : Sl) {R : Ending → World → Prop} {w : World} (h : cayleyref21_Paths.sh p0_0 p0_1 p0_2 p0_3 R w) : Calls Tryd.prog 32 #[(.agg #[(.int .i64 p0_0), (.int .i64 p0_1), (.slice p0_2.a p0_2.n p0_2.c), (.slice p0_3.a p0_3.n p0_3.c)])] w R :=
  calls_of_wpc mixed Tryd.func32 (by kernel_rfl) (by kernel_rfl) ((cayleyref21_Paths.eq p0_0 p0_1 p0_2 p0_3 R w).mp h)
/-! cayley/cayleyref21.Basis -/
noncomputable def cayleyref21_Basis.ann : Ann where
  loops := fun | 4 => [(1, .sc .adr), (3, .sc .sl), (4, .sc .sl), (5, .sc (.int .i64))] | 7 => [(1, .sc .adr), (3, .sc .sl), (4, .sc .sl), (5, .sc (.int .i64)), (6, .sc (.int .i64))] | _ => []
  joins := fun | _ => none
noncomputable def cayleyref21_Basis.body : Code := match Tryd.f30.body with | some c => c | none => .skip
def cayleyref21_Basis.sh (p0_0 : Int) (p0_1 : Int) (p0_2 : Sl) (p0_3 : Sl) (R : Ending → World → Prop) (w : World) : Prop :=
  New w (.cells #[(.int .i64 p0_0), (.int .i64 p0_1), (.slice p0_2.a p0_2.n p0_2.c), (.slice p0_3.a p0_3.n p0_3.c)] 27) fun b1 w2 =>
  LoadT (.agg [.int .i64, .int .i64, .sl, .sl]) w2 (Addr.mk b1 0 none) fun x3 =>
  CallT Tryd.prog 32 #[(.agg #[(.int .i64 x3.1), (.int .i64 x3.2.1), (.slice x3.2.2.1.a x3.2.2.1.n x3.2.2.1.c), (.slice x3.2.2.2.1.a x3.2.2.2.1.n x3.2.2.2.1.c)])] (.sc .sl) w2 (fun r4 w5 =>
    New w5 (.cells #[] 9) fun b7 w8 =>
    LoopT (σ := Addr × Sl × Sl × Int × Unit) ((Addr.mk b1 0 none), r4, ⟨(some (Addr.mk b7 0 none)), 0, 0⟩, 0, ()) w8 fun l9 g10 w11 I12 =>
      LoadT (.sc .sl) w11 (l9.1.add 2) fun x13 =>
      Br (decide ((l9.2.2.2.1 : Int) < ((x13.n : Nat) : Int)))
        (LoopT (σ := Addr × Sl × Sl × Int × Int × Unit) (l9.1, l9.2.1, l9.2.2.1, l9.2.2.2.1, 0, ()) w11 fun l14 g15 w16 I17 =>
          LoadT (.sc (.int .i64)) w16 (l14.1.add 0) fun x18 =>
          Br (decide ((l14.2.2.2.2.1 : Int) < x18))
            (LoadT (.sc .sl) w16 (l14.1.add 3) fun x19 =>
            Idx x19.a x19.n 1 l14.2.2.2.1 fun a20 =>
            LoadT (.sc .sl) w16 a20 fun x21 =>
            Idx x21.a x21.n 1 l14.2.2.2.2.1 fun a22 =>
            LoadT (.sc (.int .i64)) w16 a22 fun x23 =>
            Br (decide ((x23 : Int) ≥ 0))
              (CallT Tryd.prog 65 #[(.int .i64 l14.2.2.2.2.1)] (.sc (.int .u8)) w16 (fun r24 w25 =>
                New w25 (.cells #[(.int .u8 r24)] 5) fun b27 w28 =>
                RunT Tryd.prog (.sc .str) (convert 87 9 (.slice (some (Addr.mk b27 0 none)) 1 1)) w28 fun r29 w30 =>
                ∃ S31 : World → Prop, S31 w30.drew ∧
                (Idx l14.2.1.a l14.2.1.n 1 l14.2.2.2.1 fun a32 =>
                LoadS S31 (.sc .str) a32 fun x33 =>
                (((x33.size + r29.size : Nat) : Int) ≤ 9223372036854775807) ∧
                Idx l14.2.1.a l14.2.1.n 1 x23 fun a34 =>
                LoadS S31 (.sc .str) a34 fun x35 =>
                CallT Tryd.prog 16 #[(.string x35)] (.sc .str) w30.drew (fun r36 w37 =>
                    S31 w37 ∧
                    (((((x33 ++ r29).size + r36.size : Nat) : Int) ≤ 9223372036854775807) ∧
                    CallT Tryd.prog 25 #[(.string ((x33 ++ r29) ++ r36))] (.sc .str) w37 (fun r39 w40 =>
                        S31 w40 ∧
                        (Br (!(r39.toList == (ByteArray.mk #[]).toList))
                          (New w40 (.cells #[(.string r39)] 9) fun b42 w43 =>
                          RunT Tryd.prog (.sc .sl) (Builtin.append_ #[22, 22] 22 #[(.slice l14.2.2.1.a l14.2.2.1.n l14.2.2.1.c), (.slice (some (Addr.mk b42 0 none)) 1 1)]) w43 fun r44 w45 =>
                          I17 (l14.1, l14.2.1, r44, l14.2.2.2.1, (IntKind.wrap .i64 (l14.2.2.2.2.1 + 2)), ()) w45)
                          (I17 (l14.1, l14.2.1, l14.2.2.1, l14.2.2.2.1, (IntKind.wrap .i64 (l14.2.2.2.2.1 + 2)), ()) w40))) (fun h41 w40 => R (.panicked h41) w40))) (fun h38 w37 => R (.panicked h38) w37))) (fun h26 w25 => R (.panicked h26) w25))
              (I17 (l14.1, l14.2.1, l14.2.2.1, l14.2.2.2.1, (IntKind.wrap .i64 (l14.2.2.2.2.1 + 2)), ()) w16))
            (I12 (l14.1, l14.2.1, l14.2.2.1, (IntKind.wrap .i64 (l14.2.2.2.1 + 1)), ()) w16))
        (R (.returned (.slice l9.2.2.1.a l9.2.2.1.n l9.2.2.1.c)) w11)) (fun h6 w5 => R (.panicked h6) w5)
theorem cayleyref21_Basis.eq (p0_0 : Int) (p0_1 : Int) (p0_2 : Sl) (p0_3 : Sl) (R : Ending → World → Prop) (w : World) : cayleyref21_Basis.sh p0_0 p0_1 p0_2 p0_3 R w = wpc Tryd.prog cayleyref21_Basis.ann cayleyref21_Basis.body (fnKs Tryd.prog Tryd.f30 R) [] (env0 #[(.agg #[(.int .i64 p0_0), (.int .i64 p0_1), (.slice p0_2.a p0_2.n p0_2.c), (.slice p0_3.a p0_3.n p0_3.c)])]) w := by kernel_rfl
theorem cayleyref21_Basis.calls (p0_0 : Int) (p0_1 : Int) (p0_2 : Sl) (p0_3 : Sl) {R : Ending → World → Prop} {w : World} (h : cayleyref21_Basis.sh p0_0 p0_1 p0_2 p0_3 R w) : Calls Tryd.prog 30 #[(.agg #[(.int .i64 p0_0), (.int .i64 p0_1), (.slice p0_2.a p0_2.n p0_2.c), (.slice p0_3.a p0_3.n p0_3.c)])] w R :=
  calls_of_wpc mixed Tryd.func30 (by kernel_rfl) (by kernel_rfl) ((cayleyref21_Basis.eq p0_0 p0_1 p0_2 p0_3 R w).mp h)
/-! cayley/cayleyref21.Index -/
noncomputable def cayleyref21_Index.ann : Ann where
  loops := fun | 2 => [(1, .sc .adr), (3, .sc (.int .i64))] | 5 => [(1, .sc .adr), (3, .sc (.int .i64)), (4, .sc (.int .i64))] | _ => []
  joins := fun | _ => none
noncomputable def cayleyref21_Index.body : Code := match Tryd.f31.body with | some c => c | none => .skip
def cayleyref21_Index.sh (p0_0 : Int) (p0_1 : Int) (p0_2 : Sl) (p0_3 : Sl) (R : Ending → World → Prop) (w : World) : Prop :=
  New w (.cells #[(.int .i64 p0_0), (.int .i64 p0_1), (.slice p0_2.a p0_2.n p0_2.c), (.slice p0_3.a p0_3.n p0_3.c)] 27) fun b1 w2 =>
  LoopT (σ := Addr × Int × Unit) ((Addr.mk b1 0 none), 0, ()) w2 fun l3 g4 w5 I6 =>
    LoadT (.sc .sl) w5 (l3.1.add 2) fun x7 =>
    Br (decide ((l3.2.1 : Int) < ((x7.n : Nat) : Int)))
      (LoopT (σ := Addr × Int × Int × Unit) (l3.1, l3.2.1, 0, ()) w5 fun l8 g9 w10 I11 =>
        LoadT (.sc (.int .i64)) w10 (l8.1.add 0) fun x12 =>
        Br (decide ((l8.2.2.1 : Int) < x12))
          (LoadT (.sc .sl) w10 (l8.1.add 3) fun x13 =>
          Idx x13.a x13.n 1 l8.2.1 fun a14 =>
          LoadT (.sc .sl) w10 a14 fun x15 =>
          Idx x15.a x15.n 1 l8.2.2.1 fun a16 =>
          LoadT (.sc (.int .i64)) w10 a16 fun x17 =>
          Br (decide ((x17 : Int) < 0))
            (R (.returned (.int .i64 0)) w10)
            (I11 (l8.1, l8.2.1, (IntKind.wrap .i64 (l8.2.2.1 + 1)), ()) w10))
          (I6 (l8.1, (IntKind.wrap .i64 (l8.2.1 + 1)), ()) w10))
      (LoadT (.sc .sl) w5 (l3.1.add 2) fun x18 =>
      R (.returned (.int .i64 ((x18.n : Nat) : Int))) w5)
theorem cayleyref21_Index.eq (p0_0 : Int) (p0_1 : Int) (p0_2 : Sl) (p0_3 : Sl) (R : Ending → World → Prop) (w : World) : cayleyref21_Index.sh p0_0 p0_1 p0_2 p0_3 R w = wpc Tryd.prog cayleyref21_Index.ann cayleyref21_Index.body (fnKs Tryd.prog Tryd.f31 R) [] (env0 #[(.agg #[(.int .i64 p0_0), (.int .i64 p0_1), (.slice p0_2.a p0_2.n p0_2.c), (.slice p0_3.a p0_3.n p0_3.c)])]) w := by kernel_rfl
theorem cayleyref21_Index.calls (p0_0 : Int) (p0_1 : Int) (p0_2 : Sl) (p0_3 : Sl) {R : Ending → World → Prop} {w : World} (h : cayleyref21_Index.sh p0_0 p0_1 p0_2 p0_3 R w) : Calls Tryd.prog 31 #[(.agg #[(.int .i64 p0_0), (.int .i64 p0_1), (.slice p0_2.a p0_2.n p0_2.c), (.slice p0_3.a p0_3.n p0_3.c)])] w R :=
  calls_of_wpc mixed Tryd.func31 (by kernel_rfl) (by kernel_rfl) ((cayleyref21_Index.eq p0_0 p0_1 p0_2 p0_3 R w).mp h)
/-! cayley/cayleyref21.Rank -/
noncomputable def cayleyref21_Rank.ann : Ann where
  loops := fun | _ => []
  joins := fun | _ => none
noncomputable def cayleyref21_Rank.body : Code := match Tryd.f37.body with | some c => c | none => .skip
def cayleyref21_Rank.sh (p0_0 : Int) (p0_1 : Int) (p0_2 : Sl) (p0_3 : Sl) (R : Ending → World → Prop) (w : World) : Prop :=
  New w (.cells #[(.int .i64 p0_0), (.int .i64 p0_1), (.slice p0_2.a p0_2.n p0_2.c), (.slice p0_3.a p0_3.n p0_3.c)] 27) fun b1 w2 =>
  LoadT (.agg [.int .i64, .int .i64, .sl, .sl]) w2 (Addr.mk b1 0 none) fun x3 =>
  CallT Tryd.prog 30 #[(.agg #[(.int .i64 x3.1), (.int .i64 x3.2.1), (.slice x3.2.2.1.a x3.2.2.1.n x3.2.2.1.c), (.slice x3.2.2.2.1.a x3.2.2.2.1.n x3.2.2.2.1.c)])] (.sc .sl) w2 (fun r4 w5 =>
    R (.returned (.int .i64 ((r4.n : Nat) : Int))) w5) (fun h6 w5 => R (.panicked h6) w5)
theorem cayleyref21_Rank.eq (p0_0 : Int) (p0_1 : Int) (p0_2 : Sl) (p0_3 : Sl) (R : Ending → World → Prop) (w : World) : cayleyref21_Rank.sh p0_0 p0_1 p0_2 p0_3 R w = wpc Tryd.prog cayleyref21_Rank.ann cayleyref21_Rank.body (fnKs Tryd.prog Tryd.f37 R) [] (env0 #[(.agg #[(.int .i64 p0_0), (.int .i64 p0_1), (.slice p0_2.a p0_2.n p0_2.c), (.slice p0_3.a p0_3.n p0_3.c)])]) w := by kernel_rfl
theorem cayleyref21_Rank.calls (p0_0 : Int) (p0_1 : Int) (p0_2 : Sl) (p0_3 : Sl) {R : Ending → World → Prop} {w : World} (h : cayleyref21_Rank.sh p0_0 p0_1 p0_2 p0_3 R w) : Calls Tryd.prog 37 #[(.agg #[(.int .i64 p0_0), (.int .i64 p0_1), (.slice p0_2.a p0_2.n p0_2.c), (.slice p0_3.a p0_3.n p0_3.c)])] w R :=
  calls_of_wpc mixed Tryd.func37 (by kernel_rfl) (by kernel_rfl) ((cayleyref21_Rank.eq p0_0 p0_1 p0_2 p0_3 R w).mp h)
end Go.Proofs.YtffdjfkekdoeaaaDoor
end
section
/- The references of words: Index, Letter, Check, Is, Other, IsWord. -/
set_option linter.unusedVariables false
set_option linter.unusedSimpArgs false
set_option maxRecDepth 8000
set_option maxHeartbeats 4000000
namespace Go.Proofs.YtffdjfkekdoeaaaDoor.Rf
open Fw Wd Fo

abbrev tI : Ty := .sc (.int .i64)
theorem conv53 (w : World) (c : Int) (h0 : 0 ≤ c) (h1 : c ≤ 255) : (convert 5 3 (.int .u8 c)).run Tryd.prog w = .ok (.int .i64 c) w := by
  have hw : IntKind.wrap .i64 c = c := wrap64 (by omega) (by omega)
  simp [convert, run_underlying under5, run_underlying under3, Conv.intToInt, hw]
theorem conv35 (w : World) (c : Int) (h0 : 0 ≤ c) (h1 : c ≤ 255) : (convert 3 5 (.int .i64 c)).run Tryd.prog w = .ok (.int .u8 c) w := by
  have hw : IntKind.wrap .u8 c = c := by simp [IntKind.wrap, IntKind.bits, IntKind.signed]; omega
  simp [convert, run_underlying under5, run_underlying under3, Conv.intToInt, hw]
theorem wrap8 {x : Int} (h0 : 0 ≤ x) (h1 : x ≤ 255) : IntKind.wrap .u8 x = x := by simp [IntKind.wrap, IntKind.bits, IntKind.signed]; omega
theorem idx_low : ∀ c : Fin 256, (97 ≤ c.val ∧ c.val < 105 → idxF (c.val : Int) = 2 * ((c.val : Int) - 97)) ∧ (65 ≤ c.val ∧ c.val < 73 → idxF (c.val : Int) = 2 * ((c.val : Int) - 65) + 1) ∧ (¬ (97 ≤ c.val ∧ c.val < 105) → ¬ (65 ≤ c.val ∧ c.val < 73) → idxF (c.val : Int) = -1) := by decide +kernel
theorem idx_at {c : Int} (h0 : 0 ≤ c) (h1 : c ≤ 255) : (97 ≤ c ∧ c < 105 → idxF c = 2 * (c - 97)) ∧ (65 ≤ c ∧ c < 73 → idxF c = 2 * (c - 65) + 1) ∧ (¬ (97 ≤ c ∧ c < 105) → ¬ (65 ≤ c ∧ c < 73) → idxF c = -1) := by
  obtain ⟨n, rfl⟩ := Int.eq_ofNat_of_zero_le h0
  have := idx_low ⟨n, by omega⟩
  refine ⟨fun h => this.1 (by dsimp only; omega), fun h => this.2.1 (by dsimp only; omega), fun h h' => this.2.2 (by dsimp only; omega) (by dsimp only; omega)⟩
theorem Index_ret (w : World) (c : Int) (h0 : 0 ≤ c) (h1 : c ≤ 255) : Ret Tryd.prog 61 #[.int .u8 c] tI w fun x w' => x = idxF c ∧ w' = w := by
  obtain ⟨i1, i2, i3⟩ := idx_at h0 h1
  refine cayleyref01_Index.calls c ?_
  unfold cayleyref01_Index.sh
  refine Join.by' (fun x w' => x = (c, decide (97 ≤ c ∧ c < 105), ()) ∧ w' = w) ?_ ?_
  · rintro x w' g ⟨rfl, hw⟩
    rw [hw]; clear hw
    dsimp only
    refine Br.mk (fun hb => ?_) (fun hb => ?_)
    · have hb' : 97 ≤ c ∧ c < 105 := by simpa using hb
      rw [wrap8 (by omega) (by omega)]
      refine ⟨c - 97, w, conv53 w _ (by omega) (by omega), ?_⟩
      dsimp only
      rw [wrap64 (by omega) (by omega)]
      exact ⟨_, rfl, (i1 hb').symm, rfl⟩
    · have hb' : ¬ (97 ≤ c ∧ c < 105) := by simpa using hb
      refine Join.by' (fun x w' => x = (c, decide (65 ≤ c ∧ c < 73), ()) ∧ w' = w) ?_ ?_
      · rintro x w' g ⟨rfl, hw⟩
        rw [hw]; clear hw
        dsimp only
        refine Br.mk (fun hc => ?_) (fun hc => ?_)
        · have hc' : 65 ≤ c ∧ c < 73 := by simpa using hc
          rw [wrap8 (by omega) (by omega)]
          refine ⟨c - 65, w, conv53 w _ (by omega) (by omega), ?_⟩
          dsimp only
          rw [wrap64 (x := 2 * (c - 65)) (by omega) (by omega), wrap64 (by omega) (by omega)]
          exact ⟨_, rfl, (i2 hc').symm, rfl⟩
        · have hc' : ¬ (65 ≤ c ∧ c < 73) := by simpa using hc
          exact ⟨_, rfl, (i3 hb' hc').symm, rfl⟩
      · intro J hJ
        refine Br.dec (fun h => hJ _ _ ⟨?_, rfl⟩) (fun h => hJ _ _ ⟨?_, rfl⟩)
        · have h : c ≥ 65 := h
          simp [h]
        · have h : ¬ c ≥ 65 := h
          simp [h]
  · intro J hJ
    refine Br.dec (fun h => hJ _ _ ⟨?_, rfl⟩) (fun h => hJ _ _ ⟨?_, rfl⟩)
    · have h : c ≥ 97 := h
      simp [h]
    · have h : ¬ c ≥ 97 := h
      simp [h]
theorem let_low : ∀ i : Fin 16, letF (i.val : Int) = (if i.val % 2 = 0 then 97 else 65) + ((i.val / 2 : Nat) : Int) := by decide
theorem Letter_ret (w : World) (i : Int) : Ret Tryd.prog 65 #[.int .i64 i] (.sc (.int .u8)) w fun x w' => x = letF i ∧ w' = w := by
  refine cayleyref01_Letter.calls i ?_
  unfold cayleyref01_Letter.sh
  refine Join.by' (fun x w' => x = (i, ()) ∧ w' = w ∧ 0 ≤ i ∧ i < 16) ?_ ?_
  · rintro x w' g ⟨rfl, hw, h0, h1⟩
    rw [hw]; clear hw
    dsimp only
    obtain ⟨n, rfl⟩ := Int.eq_ofNat_of_zero_le h0
    have hn : n < 16 := by omega
    have hl := let_low ⟨n, hn⟩
    dsimp only at hl
    have e1 : Int.tmod (n : Int) 2 = ((n % 2 : Nat) : Int) := rfl
    have e2 : Int.tdiv (n : Int) 2 = ((n / 2 : Nat) : Int) := rfl
    rw [e1, e2, wrap64 (by omega) (by omega)]
    refine ⟨by decide, Br.mk (fun hb => ?_) (fun hb => ?_)⟩
    · have hb' : n % 2 = 0 := by have : ((n % 2 : Nat) : Int) = 0 := by simpa using hb
                                 omega
      rw [if_pos hb'] at hl
      refine ⟨by decide, ((n / 2 : Nat) : Int), w, conv35 w _ (by omega) (by omega), ?_⟩
      dsimp only
      rw [wrap8 (by omega) (by omega)]
      exact ⟨_, rfl, hl.symm, rfl⟩
    · have hb' : ¬ n % 2 = 0 := fun he => by rw [he] at hb; simp at hb
      rw [if_neg hb'] at hl
      refine ⟨by decide, ((n / 2 : Nat) : Int), w, conv35 w _ (by omega) (by omega), ?_⟩
      dsimp only
      rw [wrap8 (by omega) (by omega)]
      exact ⟨_, rfl, hl.symm, rfl⟩
  · intro J hJ
    refine Br.dec (fun h => Br.t rfl ⟨_, rfl, by rw [letF, if_neg (by omega)], rfl⟩) (fun h => Br.dec (fun h2 => ⟨_, rfl, by rw [letF, if_neg (by omega)], rfl⟩) (fun h2 => hJ _ _ ⟨rfl, rfl, by omega, by omega⟩))
theorem byte_high : ∀ c : Fin 256, 127 < c.val → idxF (c.val : Int) = -1 := by decide +kernel
theorem bad_byte (k : Int) (b : UInt8) : badF k (b.toNat : Int) = (decide (idxF (ofB b) < 0) || decide (idxF (ofB b) ≥ 2 * k)) := by
  have hb : ofB b = (b.toNat : Int) := rfl
  rw [hb]
  unfold badF
  by_cases h : (b.toNat : Int) > 127
  · have := byte_high ⟨b.toNat, UInt8.toNat_lt b⟩ (by dsimp only; omega)
    dsimp only at this
    rw [this]; simp
  · simp [h]
theorem Check_ret (w : World) (k : Int) (s : ByteArray) : Ret Tryd.prog 60 #[.int .i64 k, .string s] tI w fun x w' => x = checkF k s ∧ w' = w := by
  refine cayleyref01_Check.calls k s ?_
  unfold cayleyref01_Check.sh
  refine Join.by' (fun x w' => x = (k, s, ()) ∧ w' = w ∧ ¬ (k < 1 ∨ k > 8)) ?_ ?_
  · rintro x w' g ⟨rfl, hw, hk⟩
    rw [hw]; clear hw
    dsimp only
    have hE : checkF k s = if (s.size : Int) > 100000 then 2 else if hasBad k s then 4 else 0 := by unfold checkF; rw [if_neg hk]
    rw [hE]
    refine Br.dec (fun h => ⟨_, rfl, by rw [if_pos h], rfl⟩) (fun h => ?_)
    rw [if_neg h]
    refine LoopT.mk (fun x w' => ∃ i : Nat, i ≤ s.size ∧ x = (k, s, (i : Int), ()) ∧ w' = w ∧ (s.data.toList.drop i).any (fun b => badF k (b.toNat : Int)) = hasBad k s) (fun x _ => s.size - x.2.2.1.toNat) ⟨0, Nat.zero_le _, rfl, rfl, rfl⟩ ?_
    rintro x g2 w2 ⟨i, hi, rfl, hw, hany⟩
    rw [hw]; clear hw
    dsimp only
    refine Br.dec (fun hlt => ?_) (fun hge => ?_)
    · have hlt' : i < s.size := by omega
      have hdrop : s.data.toList.drop i = s[i] :: s.data.toList.drop (i + 1) := by
        rw [List.drop_eq_getElem_cons (by simpa using hlt')]; rfl
      rw [hdrop, List.any_cons, bad_byte] at hany
      refine StrIdx.mk i rfl hlt' ?_
      have hb := UInt8.toNat_lt s[i]
      refine Ret.call (Index_ret w _ (by unfold ofB; omega) (by unfold ofB; omega)) ?_
      rintro _ w3 ⟨rfl, hw⟩
      rw [hw]; clear hw
      rw [wrap64 (x := 2 * k) (by omega) (by omega), wrap64 (x := (i : Int) + 1) (by omega) (by omega)]
      refine Br.dec (fun h1 => Br.t rfl ⟨_, rfl, ?_, rfl⟩) (fun h1 => Br.dec (fun h2 => ⟨_, rfl, ?_, rfl⟩) (fun h2 => ?_))
      · have h1 : idxF (ofB s[i]) < 0 := h1
        rw [← hany]; simp [h1]
      · have h2 : idxF (ofB s[i]) ≥ 2 * k := h2
        rw [← hany]; simp [h2]
      · have h1 : ¬ idxF (ofB s[i]) < 0 := h1
        have h2 : ¬ idxF (ofB s[i]) ≥ 2 * k := h2
        refine ⟨⟨i + 1, hlt', rfl, rfl, ?_⟩, ?_⟩
        · rw [← hany]; simp [h1, h2]
        · show s.size - (i + 1) < s.size - i
          omega
    · have : i = s.size := by omega
      subst this
      rw [List.drop_eq_nil_of_le (by simp)] at hany
      exact ⟨_, rfl, by rw [← hany]; rfl, rfl⟩
  · intro J hJ
    refine Br.dec (fun h => Br.t rfl ⟨_, rfl, by rw [checkF, if_pos (.inl h)], rfl⟩) (fun h => Br.dec (fun h2 => ⟨_, rfl, by rw [checkF, if_pos (.inr h2)], rfl⟩) (fun h2 => hJ _ _ ⟨rfl, rfl, by omega⟩))
theorem IsWord_ret (w : World) (k : Int) (s : ByteArray) : Ret Tryd.prog 22 #[.int .i64 k, .string s] (.sc .bool) w fun x w' => x = (checkF k s == 0) ∧ w' = w := by
  refine cayleyref21_IsWord.calls k s ?_
  unfold cayleyref21_IsWord.sh
  refine Ret.call (Check_ret w k s) ?_
  rintro _ w1 ⟨rfl, hw⟩
  exact ⟨_, rfl, rfl, hw⟩
theorem Is_ret (w : World) (s : ByteArray) : Ret Tryd.prog 53 #[.string s] (.sc .bool) w fun x w' => x = (checkF 8 s == 0) ∧ w' = w := by
  refine cayleyref01_Is.calls s ?_
  unfold cayleyref01_Is.sh
  refine Ret.call (Check_ret w 8 s) ?_
  rintro _ w1 ⟨rfl, hw⟩
  exact ⟨_, rfl, rfl, hw⟩
theorem other_low : ∀ c : Fin 256, 0 ≤ idxF (c.val : Int) → letF (((idxF (c.val : Int)).toNat ^^^ 1 : Nat) : Int) = ((UInt8.ofNat c.val ^^^ 32).toNat : Int) ∧ (idxF (c.val : Int)).toNat < 16 := by decide +kernel
theorem Other_ret (w : World) (b : UInt8) (hb : 0 ≤ idxF (ofB b)) : Ret Tryd.prog 54 #[.int .u8 (ofB b)] (.sc (.int .u8)) w fun x w' => x = ofB (otherB b) ∧ w' = w := by
  have hlt := UInt8.toNat_lt b
  obtain ⟨h1, h2⟩ := other_low ⟨b.toNat, hlt⟩ hb
  refine cayleyref01_Other.calls _ ?_
  unfold cayleyref01_Other.sh
  refine Ret.call (Index_ret w _ (by unfold ofB; omega) (by unfold ofB; omega)) ?_
  rintro _ w1 ⟨rfl, hw⟩
  rw [hw]; clear hw
  have e : idxF (ofB b) = (((idxF (ofB b)).toNat : Nat) : Int) := by omega
  rw [e, xor1 _ (by have : (idxF (ofB b)).toNat < 16 := h2; omega)]
  refine Ret.call (Letter_ret w _) ?_
  rintro _ w2 ⟨rfl, hw⟩
  refine ⟨_, rfl, ?_, hw⟩
  have hu : UInt8.ofNat b.toNat = b := UInt8.ofNat_toNat
  rw [hu] at h1
  exact h1
end Go.Proofs.YtffdjfkekdoeaaaDoor.Rf
end
section
/- The references of words: Reduce, Inverse. -/
set_option linter.unusedVariables false
set_option linter.unusedSimpArgs false
set_option maxRecDepth 8000
set_option maxHeartbeats 4000000
namespace Go.Proofs.YtffdjfkekdoeaaaDoor.Rf
open Fw Wd Fo

theorem idx_of_check {s : ByteArray} (h : checkF 8 s = 0) (i : Nat) (hi : i < s.size) : 0 ≤ idxF (ofB s[i]) := by
  have := (check8 h).2 s[i] (by
    have := bytes_get s i hi
    exact List.mem_of_getElem? this)
  exact this
theorem Reduce_ret (w : World) (s : ByteArray) : Ret Tryd.prog 25 #[.string s] (.sc .str) w fun x w' => x = ReduceF s ∧ Chg Nil w w' := by
  refine cayleyref01_Reduce.calls s ?_
  unfold cayleyref01_Reduce.sh
  refine Ret.call (Is_ret w s) ?_
  rintro _ w1 ⟨rfl, hw⟩
  rw [hw]; clear hw
  refine Br.mk (fun hb => ⟨_, rfl, ?_, Chg.refl w⟩) (fun hb => ?_)
  · rw [ReduceF, if_neg]; simpa using hb
  have hz : checkF 8 s = 0 := by simpa using hb
  have hsz := check_size hz
  rw [show ReduceF s = ⟨(redF s.data.toList).toArray⟩ by rw [ReduceF, if_pos hz]]
  refine LoopT.mk (fun x w' => ∃ (j : Nat) (o : Sl) (out : List UInt8), j ≤ s.size ∧ x = (s, o, (j : Int), ()) ∧ Chg Nil w w' ∧ OwnB w' o out ∧ (∀ k, o.own k → w.heap.size ≤ k) ∧ (s.data.toList.drop j).foldl redStep out = redF s.data.toList ∧ out.length ≤ j) (fun x _ => s.size - x.2.2.1.toNat)
    ⟨0, ⟨none, 0, 0⟩, [], Nat.zero_le _, rfl, Chg.refl w, OwnT.nil w 5 tB, fun k hk => Own.nilk k hk, rfl, by simp⟩ ?_
  rintro x g w2 ⟨j, o2, out, hj, rfl, hc2, ho, hown, hred, hlen⟩
  dsimp only
  have hon : o2.n = out.length := by rw [ho.len, List.length_map]
  refine Br.dec (fun hlt => ?_) (fun hge => ?_)
  · have hlt' : j < s.size := by omega
    have hdrop : s.data.toList.drop j = s[j] :: s.data.toList.drop (j + 1) := by
      rw [List.drop_eq_getElem_cons (by simpa using hlt')]; rfl
    rw [hdrop, List.foldl_cons] at hred
    have hwj : IntKind.wrap .i64 ((j : Int) + 1) = ((j + 1 : Nat) : Int) := by rw [wrap64 (by omega) (by omega)]; rfl
    have hmu : s.size - (j + 1) < s.size - j := by omega
    refine Join.by' (fun x w' => ∃ b : Bool, x = (s, o2, (j : Int), (out.length : Int), b, ()) ∧ Chg Nil w2 w' ∧ (b = true ↔ out.getLast? = some (otherB s[j]))) ?_ ?_
    · rintro x w3 g3 ⟨b, rfl, hc3, hb⟩
      dsimp only
      have ho3 : OwnB w3 o2 out := ho.chg hc3 fun _ _ h => h
      rw [hwj]
      refine Br.mk (fun h => ?_) (fun h => ?_)
      · have hl := hb.1 h
        have hpos : 0 < out.length := by
          cases out with
          | nil => simp at hl
          | cons _ _ => simp
        rw [wrap64 (by omega) (by omega)]
        refine OwnT.upto (t := tB) ok87 ho3 (out.length - 1) (by omega) (by rw [List.length_map]; omega) fun s' hs' hown' hsn => ?_
        refine ⟨⟨j + 1, s', out.dropLast, hlt', rfl, hc2.then hc3, ?_, fun k hk => hown k (hown' k hk), ?_, ?_⟩, hmu⟩
        · unfold OwnB; rw [List.dropLast_eq_take, List.map_take]; exact hs'
        · rw [redStep, if_pos hl] at hred; exact hred
        · rw [List.length_dropLast]; omega
      · have hl : ¬ out.getLast? = some (otherB s[j]) := fun hl => by rw [hb.2 hl] at h; cases h
        refine StrIdx.mk j rfl hlt' ?_
        refine New.mk fun b' w4 hb' hnew hsz' hc4 => ?_
        have ho4 : OwnB w4 o2 out := ho3.chg hc4 fun _ _ h => h
        refine OwnT.append (t := tB) (m := 1) ok87 rfl (by decide) ho4 [ofB s[j]] rfl (by decide) (fun i v hv => ?_) ?_ ?_ fun o' w5 ho5 hc5 hown5 => ?_
        · rw [cellOf hnew]; simpa [Ty.cells] using hv
        · rw [List.length_map]; omega
        · rw [List.length_map]; simp only [maxLen]; omega
        have hw4 : w.heap.size ≤ w4.heap.size := ((hc2.then hc3).then hc4).size
        refine ⟨⟨j + 1, o', out ++ [s[j]], hlt', rfl, ?_, ?_, fun k hk => ?_, ?_, ?_⟩, hmu⟩
        · exact ((hc2.then hc3).then hc4).trans hc5 (fun _ _ h => h) fun i hi hk => by have := hown i hk; omega
        · unfold OwnB; rw [List.map_append]; exact ho5
        · rcases hown5 k hk with hk | hk
          · exact hown k hk
          · omega
        · rw [redStep, if_neg hl] at hred; exact hred
        · simp; omega
    · intro J hJ
      have hd : Chg Nil w2 w2.drew := Chg.drew w2
      refine ⟨fun w' => Chg Nil w2 w', hd, ?_⟩
      refine Br.dec (fun hpos => ?_) (fun hzero => ?_)
      · have hpos' : 0 < out.length := by omega
        have hlast : out[out.length - 1]? = out.getLast? := by rw [List.getLast?_eq_getElem?]
        obtain ⟨c, hcl⟩ : ∃ c, out.getLast? = some c := by
          cases hg : out.getLast? with
          | none => rw [List.getLast?_eq_none_iff] at hg; subst hg; simp at hpos'
          | some c => exact ⟨c, rfl⟩
        rw [hcl] at hlast
        have hm : (out.map ofB)[out.length - 1]? = some (ofB c) := by rw [List.getElem?_map, hlast]; rfl
        rw [wrap64 (by omega) (by omega)]
        refine ho.idx (t := tB) (out.length - 1) (by omega) (by rw [List.length_map]; omega) fun g hg => ?_
        refine LoadS.sc (s := .int .u8) (x := ofB c) (fun w' hw => (ho.chg hw fun _ _ h => h).rd.cell1 hg hm) ?_
        refine StrIdx.mk j rfl hlt' ?_
        refine Ret.call (Other_ret _ _ (idx_of_check hz j hlt')) ?_
        rintro _ _ ⟨rfl, rfl⟩
        refine ⟨hd, hJ _ _ ⟨_, by rw [hon], hd, ?_⟩⟩
        rw [hcl]
        simp [ofB_inj]
      · have hz : out = [] := by
          cases out with
          | nil => rfl
          | cons _ _ => rw [hon] at hzero; simp at hzero
        refine hJ _ _ ⟨false, by rw [hon], hd, ?_⟩
        subst hz; simp
  · have : j = s.size := by omega
    subst this
    rw [List.drop_eq_nil_of_le (by simp)] at hred
    have hred : out = redF s.data.toList := hred
    rw [← hred]
    exact bytes_string under87 under5 under9 ho.rd ⟨_, rfl, rfl, hc2⟩
theorem Inverse_ret (w : World) (s : ByteArray) : Ret Tryd.prog 16 #[.string s] (.sc .str) w fun x w' => x = InverseF s ∧ Chg Nil w w' := by
  refine cayleyref01_Inverse.calls s ?_
  unfold cayleyref01_Inverse.sh
  refine Ret.call (Is_ret w s) ?_
  rintro _ w1 ⟨rfl, hw⟩
  rw [hw]; clear hw
  refine Br.mk (fun hb => ⟨_, rfl, ?_, Chg.refl w⟩) (fun hb => ?_)
  · rw [InverseF, if_neg]; simpa using hb
  have hz : checkF 8 s = 0 := by simpa using hb
  have hsz := check_size hz
  rw [show InverseF s = ⟨(invF s.data.toList).toArray⟩ by rw [InverseF, if_pos hz]]
  rw [wrap64 (by omega) (by omega)]
  refine LoopT.mk (fun x w' => ∃ (j : Nat) (o : Sl) (out : List UInt8), j ≤ s.size ∧ x = (s, o, (s.size : Int) - 1 - (j : Int), ()) ∧ Chg Nil w w' ∧ OwnB w' o out ∧ (∀ k, o.own k → w.heap.size ≤ k) ∧ out = invF (s.data.toList.drop (s.size - j)) ∧ out.length = j) (fun x _ => (x.2.2.1 + 1).toNat)
    ⟨0, ⟨none, 0, 0⟩, [], Nat.zero_le _, by simp, Chg.refl w, OwnT.nil w 5 tB, fun k hk => Own.nilk k hk, by rw [List.drop_eq_nil_of_le (by simp)]; rfl, rfl⟩ ?_
  rintro x g w2 ⟨j, o2, out, hj, rfl, hc2, ho, hown, hred, hlen⟩
  dsimp only
  refine Br.dec (fun hlt => ?_) (fun hge => ?_)
  · have hlt' : j < s.size := by omega
    refine StrIdx.mk (s.size - 1 - j) (by omega) (by omega) ?_
    refine Ret.call (Other_ret _ _ (idx_of_check hz _ (by omega))) ?_
    rintro _ w3 ⟨rfl, hw⟩
    rw [hw]; clear hw
    refine New.mk fun b' w4 hb' hnew hsz' hc4 => ?_
    have ho4 : OwnB w4 o2 out := ho.chg hc4 fun _ _ h => h
    refine OwnT.append (t := tB) (m := 1) ok87 rfl (by decide) ho4 [ofB (otherB s[s.size - 1 - j])] rfl (by decide) (fun i v hv => ?_) ?_ ?_ fun o' w5 ho5 hc5 hown5 => ?_
    · rw [cellOf hnew]; simpa [Ty.cells] using hv
    · rw [List.length_map]; omega
    · rw [List.length_map]; simp only [maxLen]; omega
    have hw4 : w.heap.size ≤ w4.heap.size := (hc2.then hc4).size
    rw [wrap64 (by omega) (by omega)]
    refine ⟨⟨j + 1, o', out ++ [otherB s[s.size - 1 - j]], hlt', by congr 3; omega, ?_, ?_, fun k hk => ?_, ?_, ?_⟩, ?_⟩
    · exact (hc2.then hc4).trans hc5 (fun _ _ h => h) fun i hi hk => by have := hown i hk; omega
    · unfold OwnB; rw [List.map_append]; exact ho5
    · rcases hown5 k hk with hk | hk
      · exact hown k hk
      · omega
    · have hd : s.data.toList.drop (s.size - (j + 1)) = s[s.size - 1 - j] :: s.data.toList.drop (s.size - j) := by
        rw [show s.size - (j + 1) = s.size - 1 - j by omega, List.drop_eq_getElem_cons (by simp; omega), show s.size - 1 - j + 1 = s.size - j by omega]; rfl
      rw [hd]
      simp only [invF, List.map_cons, List.reverse_cons]
      exact congrArg (· ++ [otherB s[s.size - 1 - j]]) hred
    · simp [hlen]
    · show ((s.size : Int) - 1 - (j : Int) - 1 + 1).toNat < ((s.size : Int) - 1 - (j : Int) + 1).toNat
      omega
  · have : j = s.size := by omega
    subst this
    rw [Nat.sub_self, List.drop_zero] at hred
    subst hred
    exact bytes_string under87 under5 under9 ho.rd ⟨_, rfl, rfl, hc2⟩
end Go.Proofs.YtffdjfkekdoeaaaDoor.Rf
end
section
/- The references of automata: sameInts, Same, Check. -/
set_option linter.unusedVariables false
set_option linter.unusedSimpArgs false
set_option maxRecDepth 8000
set_option maxHeartbeats 4000000
namespace Go.Proofs.YtffdjfkekdoeaaaDoor.Rf
open Fw Wd Fo

theorem take_snoc {α : Type} {l : List α} {i : Nat} (h : i < l.length) : l.take (i + 1) = l.take i ++ [l[i]] := by rw [List.take_add_one, List.getElem?_eq_getElem h]; rfl
theorem sameInts_ret {w : World} {s1 s2 : Sl} {l1 l2 : List Int} (h1 : RdT w tI s1 l1) (h2 : RdT w tI s2 l2) (hb : l1.length ≤ maxLen) : Ret Tryd.prog 52 #[s1.v, s2.v] (.sc .bool) w fun x w' => x = decide (l1 = l2) ∧ Chg Nil w w' := by
  refine cayleyref06_sameInts.calls s1 s2 ?_
  unfold cayleyref06_sameInts.sh
  have e1 := h1.len
  have e2 := h2.len
  simp only [maxLen] at hb
  refine Br.mk (fun hne => ⟨false, rfl, ?_, Chg.refl w⟩) (fun heq => ?_)
  · have : ¬ l1 = l2 := fun he => by subst he; rw [e1, e2] at hne; simp at hne
    simp [this]
  have hlen : l1.length = l2.length := by
    have : (s1.n : Int) = (s2.n : Int) := by simpa using heq
    omega
  refine LoopT.mk (fun x w' => ∃ i : Nat, i ≤ l1.length ∧ x = (s1, s2, (i : Int), ()) ∧ Chg Nil w w' ∧ l1.take i = l2.take i) (fun x _ => l1.length - x.2.2.1.toNat) ⟨0, Nat.zero_le _, rfl, Chg.refl w, rfl⟩ ?_
  rintro x g w2 ⟨i, hi, rfl, hc, ht⟩
  dsimp only
  have hd := hc.then (Chg.drew (S := Nil) w2)
  refine Br.dec (fun hlt => ?_) (fun hge => ?_)
  · have hlt' : i < l1.length := by omega
    refine (h1.chg hd fun _ _ h => h).get (t := tI) i rfl (x := l1[i]) (List.getElem?_eq_getElem hlt') ?_
    refine (h2.chg hd fun _ _ h => h).get (t := tI) i rfl (x := l2[i]) (List.getElem?_eq_getElem (by omega)) ?_
    rw [wrap64 (by omega) (by omega)]
    refine Br.mk (fun hne => ⟨false, rfl, ?_, hd⟩) (fun heq => ?_)
    · have hne' : l1[i] ≠ l2[i] := by simpa using hne
      have : ¬ l1 = l2 := fun he => hne' (by subst he; rfl)
      simp [this]
    · have heq' : l1[i] = l2[i] := by simpa using heq
      refine ⟨⟨i + 1, hlt', rfl, hd, ?_⟩, ?_⟩
      · rw [take_snoc hlt', take_snoc (show i < l2.length by omega), ht, heq']
      · show l1.length - (i + 1) < l1.length - i
        omega
  · have hin : i = l1.length := by omega
    rw [hin, List.take_length, hlen, List.take_length] at ht
    exact ⟨true, rfl, by simp [ht], hc⟩
def sameF (a b : Aut) : Bool := decide (a.sym = b.sym ∧ a.start = b.start ∧ a.acc = b.acc ∧ a.next = b.next)
theorem Same_ret {w : World} {x y : Int × Int × Sl × Sl × Unit} {a b : Aut} (ha : AutIn w x a) (hb : AutIn w y b) :
    Ret Tryd.prog 15 #[.agg #[.int .i64 x.1, .int .i64 x.2.1, x.2.2.1.v, x.2.2.2.1.v], .agg #[.int .i64 y.1, .int .i64 y.2.1, y.2.2.1.v, y.2.2.2.1.v]] (.sc .bool) w fun z w' => z = sameF a b ∧ Chg Nil w w' := by
  obtain ⟨x1, x2, sa, sn, _⟩ := x
  obtain ⟨y1, y2, ta, tn, _⟩ := y
  refine cayleyref06_Same.calls x1 x2 sa sn y1 y2 ta tn ?_
  unfold cayleyref06_Same.sh
  refine New.mk fun b1 w1 hb1 hn1 hs1 hc1 => ?_
  refine New.mk fun b3 w2 hb3 hn3 hs3 hc3 => ?_
  have h12 := hc3.heap hn1 fun h => h
  have hc02 := hc1.then hc3
  have a1 := ha.sym
  have a2 := ha.start
  have a3 := ha.hacc
  have a4 := ha.hnext
  have b1' := hb.sym
  have b2' := hb.start
  simp only at a1 a2 b1' b2'
  obtain ⟨hra, _, _, sls, hrn, hsl, hrws, _⟩ := ha.rd
  have hrn : RdT w (.sc .sl) sn sls := hrn
  obtain ⟨hta, _, _, tls, htn, htl, htws, _⟩ := hb.rd
  have htn : RdT w (.sc .sl) tn tls := htn
  have hra : RdT w (.sc .bool) sa a.acc := hra
  have hta : RdT w (.sc .bool) ta b.acc := hta
  have e1 := hra.len
  have e2 := hta.len
  have e3 := hrn.len
  have e4 := htn.len
  simp only [maxLen] at a3 a4
  refine Join.by' (fun x W => x = (at0 b1, at0 b3, ()) ∧ W = w2 ∧ a.sym = b.sym ∧ a.start = b.start ∧ a.acc.length = b.acc.length ∧ a.next.length = b.next.length) ?_ ?_
  · rintro x W g ⟨rfl, hW, g1, g2, g3, g4⟩
    rw [hW]; clear hW
    dsimp only
    refine LoopT.mk (fun x W => ∃ i : Nat, i ≤ a.acc.length ∧ x = (at0 b1, at0 b3, (i : Int), ()) ∧ Chg Nil w2 W ∧ a.acc.take i = b.acc.take i) (fun x _ => a.acc.length - x.2.2.1.toNat) ⟨0, Nat.zero_le _, rfl, Chg.refl w2, rfl⟩ ?_
    rintro x g5 W ⟨i, hi, rfl, hc, ht⟩
    dsimp only
    refine LoadT.sc (s := .sl) (x := sa) (by rw [cellOf (hc.heap h12 fun h => h)]; rfl) ?_
    have hd := hc.then (Chg.drew (S := Nil) W)
    refine Br.dec (fun hlt => ?_) (fun hge => ?_)
    · have hlt' : i < a.acc.length := by omega
      refine LoadT.sc (s := .sl) (x := sa) (by rw [cellOf (hd.heap h12 fun h => h)]; rfl) ?_
      refine (hra.chg (hc02.then hd) fun _ _ h => h).get (t := .sc .bool) i rfl (x := a.acc[i]) (List.getElem?_eq_getElem hlt') ?_
      refine LoadT.sc (s := .sl) (x := ta) (by rw [cellOf (hd.heap hn3 fun h => h)]; rfl) ?_
      refine (hta.chg (hc02.then hd) fun _ _ h => h).get (t := .sc .bool) i rfl (x := b.acc[i]) (List.getElem?_eq_getElem (by omega)) ?_
      rw [wrap64 (by omega) (by omega)]
      refine Br.mk (fun hne => ⟨false, rfl, ?_, hc02.then hd⟩) (fun heq => ?_)
      · have hne' : a.acc[i] ≠ b.acc[i] := by simpa using hne
        have : ¬ a.acc = b.acc := fun he => hne' (by simp only [he])
        simp [sameF, this]
      · have heq' : a.acc[i] = b.acc[i] := by simpa using heq
        refine ⟨⟨i + 1, hlt', rfl, hd, ?_⟩, ?_⟩
        · rw [take_snoc hlt', take_snoc (show i < b.acc.length by omega), ht, heq']
        · show a.acc.length - (i + 1) < a.acc.length - i
          omega
    · have hin : i = a.acc.length := by omega
      rw [hin, List.take_length, g3, List.take_length] at ht
      refine LoopT.mk (fun x W => ∃ i : Nat, i ≤ a.next.length ∧ x = (at0 b1, at0 b3, (i : Int), ()) ∧ Chg Nil w2 W ∧ a.next.take i = b.next.take i) (fun x _ => a.next.length - x.2.2.1.toNat) ⟨0, Nat.zero_le _, rfl, hc, rfl⟩ ?_
      clear hc hd hi hge hin
      rintro x g6 W ⟨i, hi, rfl, hc, ht2⟩
      dsimp only
      refine LoadT.sc (s := .sl) (x := sn) (by rw [cellOf (hc.heap h12 fun h => h)]; rfl) ?_
      have hd := hc.then (Chg.drew (S := Nil) W)
      refine Br.dec (fun hlt => ?_) (fun hge => ?_)
      · have hlt' : i < a.next.length := by omega
        obtain ⟨s1, hs1'⟩ : ∃ s1, sls[i]? = some s1 := ⟨_, List.getElem?_eq_getElem (by rw [hsl]; exact hlt')⟩
        obtain ⟨t1, ht1⟩ : ∃ t1, tls[i]? = some t1 := ⟨_, List.getElem?_eq_getElem (by rw [htl]; show i < b.next.length; omega)⟩
        have hnb : i < b.next.length := by omega
        refine LoadT.sc (s := .sl) (x := sn) (by rw [cellOf (hd.heap h12 fun h => h)]; rfl) ?_
        refine (hrn.chg (hc02.then hd) fun _ _ h => h).get (t := .sc .sl) i rfl hs1' ?_
        refine LoadT.sc (s := .sl) (x := tn) (by rw [cellOf (hd.heap hn3 fun h => h)]; rfl) ?_
        refine (htn.chg (hc02.then hd) fun _ _ h => h).get (t := .sc .sl) i rfl ht1 ?_
        have r1 := (hrws i s1 _ hs1' (List.getElem?_eq_getElem hlt')).chg (hc02.then hd) fun _ _ h => h
        have r2 := (htws i t1 _ ht1 (List.getElem?_eq_getElem hnb)).chg (hc02.then hd) fun _ _ h => h
        refine Ret.call (sameInts_ret r1 r2 (ha.hrow _ (List.getElem_mem hlt'))) ?_
        rintro _ W3 ⟨rfl, hc3'⟩
        rw [wrap64 (by omega) (by omega)]
        refine Br.mk (fun hne => ⟨false, rfl, ?_, (hc02.then hd).then hc3'⟩) (fun heq => ?_)
        · have hne' : ¬ a.next[i] = b.next[i] := by simpa using hne
          have : ¬ a.next = b.next := fun he => hne' (by simp only [he])
          simp [sameF, this]
        · have heq' : a.next[i] = b.next[i] := by simpa using heq
          refine ⟨⟨i + 1, hlt', rfl, hd.then hc3', ?_⟩, ?_⟩
          · rw [take_snoc hlt', take_snoc hnb, ht2, heq']
          · show a.next.length - (i + 1) < a.next.length - i
            omega
      · have hin : i = a.next.length := by omega
        rw [hin, List.take_length, g4, List.take_length] at ht2
        exact ⟨true, rfl, by simp [sameF, g1, g2, ht, ht2], hc02.then hc⟩
  · intro J hJ
    refine LoadT.sc (s := .int .i64) (x := x1) (by rw [cellOf h12]; rfl) ?_
    refine LoadT.sc (s := .int .i64) (x := y1) (by rw [cellOf hn3]; rfl) ?_
    refine Br.mk (fun hne => Br.t rfl ⟨false, rfl, ?_, hc02⟩) (fun g1 => ?_)
    · have : ¬ a.sym = b.sym := by rw [← a1, ← b1']; simpa using hne
      simp [sameF, this]
    refine LoadT.sc (s := .int .i64) (x := x2) (by rw [cellOf h12]; rfl) ?_
    refine LoadT.sc (s := .int .i64) (x := y2) (by rw [cellOf hn3]; rfl) ?_
    refine Br.mk (fun hne => Br.t rfl ⟨false, rfl, ?_, hc02⟩) (fun g2 => ?_)
    · have : ¬ a.start = b.start := by rw [← a2, ← b2']; simpa using hne
      simp [sameF, this]
    refine LoadT.sc (s := .sl) (x := sa) (by rw [cellOf h12]; rfl) ?_
    refine LoadT.sc (s := .sl) (x := ta) (by rw [cellOf hn3]; rfl) ?_
    refine Br.mk (fun hne => Br.t rfl ⟨false, rfl, ?_, hc02⟩) (fun g3 => ?_)
    · have : ¬ a.acc = b.acc := fun he => by rw [e1, e2, he] at hne; simp at hne
      simp [sameF, this]
    refine LoadT.sc (s := .sl) (x := sn) (by rw [cellOf h12]; rfl) ?_
    refine LoadT.sc (s := .sl) (x := tn) (by rw [cellOf hn3]; rfl) ?_
    refine Br.mk (fun hne => ⟨false, rfl, ?_, hc02⟩) (fun g4 => hJ _ _ ⟨rfl, rfl, ?_, ?_, ?_, ?_⟩)
    · have : ¬ a.next = b.next := fun he => by rw [e3, e4, hsl, htl, he] at hne; simp at hne
      simp [sameF, this]
    · rw [← a1, ← b1']; simpa using g1
    · rw [← a2, ← b2']; simpa using g2
    · have : (sa.n : Int) = (ta.n : Int) := by simpa using g3
      omega
    · have : (sn.n : Int) = (tn.n : Int) := by simpa using g4
      rw [e3, e4, hsl, htl] at this
      exact Int.ofNat.inj this
theorem Check6_ret {w : World} {x : Int × Int × Sl × Sl × Unit} {a : Aut} (ha : AutIn w x a) :
    Ret Tryd.prog 87 #[.agg #[.int .i64 x.1, .int .i64 x.2.1, x.2.2.1.v, x.2.2.2.1.v]] tI w fun z w' => z = fsaF a.sym a.start a.acc a.next ∧ Chg Nil w w' := by
  obtain ⟨x1, x2, sa, sn, _⟩ := x
  refine cayleyref06_Check.calls x1 x2 sa sn ?_
  unfold cayleyref06_Check.sh
  refine New.mk fun b1 w1 hb1 hn1 hs1 hc1 => ?_
  have a1 := ha.sym
  have a2 := ha.start
  simp only at a1 a2
  obtain ⟨hra, _, _, sls, hrn, hsl, hrws, _⟩ := ha.rd
  have hrn : RdT w (.sc .sl) sn sls := hrn
  have e1 : sa.n = a.acc.length := hra.len
  have e3 : sn.n = a.next.length := by rw [hrn.len, hsl]
  have l0 : ∀ {W : World}, Chg Nil w1 W → W.heap[b1]? = some (.cells #[.int .i64 x1, .int .i64 x2, sa.v, sn.v] 27 (0, 0)) := fun hW => hW.heap hn1 fun h => h
  refine LoadT.sc (s := .sl) (x := sn) (by rw [cellOf hn1]; rfl) ?_
  rw [e3]
  let bad1 : Prop := a.sym < 1 ∨ a.sym > 400 ∨ (a.acc.length : Int) > 20000 ∨ a.next.length ≠ a.acc.length ∨ a.start < 0 ∨ a.start ≥ max (a.acc.length : Int) 1
  have hbad : bad1 → fsaF a.sym a.start a.acc a.next = 60 := fun h => by unfold fsaF; rw [if_pos h]
  have hok : ¬ bad1 → fsaF a.sym a.start a.acc a.next = if a.next.any (badRow a.sym a.acc.length) then 60 else 0 := fun h => by unfold fsaF; rw [if_neg h]
  refine Join.by' (fun y W => y = (at0 b1, ((a.next.length : Nat) : Int), ()) ∧ W = w1 ∧ ¬ bad1) ?_ ?_
  · rintro y W g ⟨rfl, hW, hg⟩
    rw [hW]; clear hW
    dsimp only
    rw [hok hg]
    have hlen : a.next.length = a.acc.length := by
      by_cases h : a.next.length = a.acc.length
      · exact h
      · exact absurd (.inr (.inr (.inr (.inl h)))) hg
    have hl2 : a.next.length ≤ 20000 := by
      by_cases h : (a.acc.length : Int) > 20000
      · exact absurd (.inr (.inr (.inl h))) hg
      · omega
    have hsym : 1 ≤ a.sym ∧ a.sym ≤ 400 := ⟨by by_cases h : a.sym < 1; exact absurd (.inl h) hg; omega, by by_cases h : a.sym > 400; exact absurd (.inr (.inl h)) hg; omega⟩
    refine LoopT.mk (fun y W => ∃ i : Nat, i ≤ a.next.length ∧ y = (at0 b1, ((a.next.length : Nat) : Int), (i : Int), ()) ∧ Chg Nil w1 W ∧ (a.next.take i).any (badRow a.sym a.acc.length) = false) (fun y _ => a.next.length - y.2.2.1.toNat) ⟨0, Nat.zero_le _, rfl, Chg.refl _, rfl⟩ ?_
    rintro y g2 W ⟨i, hi, rfl, hc, hgood⟩
    dsimp only
    refine Br.dec (fun hlt => ?_) (fun hge => ?_)
    · have hlt' : i < a.next.length := by omega
      have hd := hc.then (Chg.drew (S := Nil) W)
      obtain ⟨s1, hs1'⟩ : ∃ s1, sls[i]? = some s1 := ⟨_, List.getElem?_eq_getElem (by rw [hsl]; exact hlt')⟩
      have hrow := hrws i s1 _ hs1' (List.getElem?_eq_getElem hlt')
      have hsl1 : s1.n = a.next[i].length := hrow.len
      refine LoadT.sc (s := .sl) (x := sn) (by rw [cellOf (l0 hd)]; rfl) ?_
      refine (hrn.chg (hc1.then hd) fun _ _ h => h).get (t := .sc .sl) i rfl hs1' ?_
      refine LoadT.sc (s := .int .i64) (x := x1) (by rw [cellOf (l0 hd)]; rfl) ?_
      have hmem : a.next[i] ∈ a.next := List.getElem_mem hlt'
      have herr : badRow a.sym a.acc.length a.next[i] = true → ∀ V : World, Chg Nil w V → (∃ z, Ending.returned (.int .i64 60) = .returned (tI.val z) ∧ z = (if a.next.any (badRow a.sym a.acc.length) = true then 60 else 0) ∧ Chg Nil w V) := fun hb V hV => by
        have : a.next.any (badRow a.sym a.acc.length) = true := List.any_eq_true.2 ⟨_, hmem, hb⟩
        exact ⟨60, rfl, by rw [if_pos this], hV⟩
      refine Br.mk (fun hne => herr ?_ _ (hc1.then hd)) (fun heq => ?_)
      · have : ((s1.n : Int)) ≠ x1 := by simpa using hne
        unfold badRow
        rw [hsl1, a1] at this
        simp [this]
      have hsym2 : (a.next[i].length : Int) = a.sym := by
        have : ((s1.n : Int)) = x1 := by simpa using heq
        rw [hsl1, a1] at this; exact this
      generalize hR : a.next[i] = row at *
      refine LoopT.mk (fun y W => ∃ j : Nat, j ≤ row.length ∧ y = (at0 b1, ((a.next.length : Nat) : Int), (i : Int), (j : Int), ()) ∧ Chg Nil w1 W ∧ (row.take j).any (fun t => decide (t < -1) || decide (t ≥ (a.acc.length : Int))) = false) (fun y _ => row.length - y.2.2.2.1.toNat) ⟨0, Nat.zero_le _, rfl, hd, rfl⟩ ?_
      clear hd hc
      rintro y g3 V ⟨j, hj, rfl, hc, hg3⟩
      dsimp only
      refine LoadT.sc (s := .int .i64) (x := x1) (by rw [cellOf (l0 hc)]; rfl) ?_
      rw [a1]
      refine Br.dec (fun hlt2 => ?_) (fun hge2 => ?_)
      · have hlt2' : j < row.length := by omega
        have hrV := hrow.chg (hc1.then hc) fun _ _ h => h
        have hsV := hrn.chg (hc1.then hc) fun _ _ h => h
        have hany : (decide (row[j] < -1) || decide (row[j] ≥ (a.acc.length : Int))) = true → badRow a.sym a.acc.length row = true := fun hb => by
          unfold badRow
          rw [Bool.or_eq_true]
          exact .inr (List.any_eq_true.2 ⟨_, List.getElem_mem hlt2', hb⟩)
        refine LoadT.sc (s := .sl) (x := sn) (by rw [cellOf (l0 hc)]; rfl) ?_
        refine hsV.get (t := .sc .sl) i rfl hs1' ?_
        refine hrV.get (t := tI) j rfl (x := row[j]) (List.getElem?_eq_getElem hlt2') ?_
        rw [wrap64 (x := (j : Int) + 1) (by omega) (by omega)]
        refine Br.dec (fun hb => Br.t rfl (herr (hany (by have hb : row[j] < -1 := hb; simp [hb])) _ (hc1.then hc))) (fun hnb => ?_)
        refine LoadT.sc (s := .sl) (x := sn) (by rw [cellOf (l0 hc)]; rfl) ?_
        refine hsV.get (t := .sc .sl) i rfl hs1' ?_
        refine hrV.get (t := tI) j rfl (x := row[j]) (List.getElem?_eq_getElem hlt2') ?_
        refine Br.dec (fun hb => herr (hany ?_) _ (hc1.then hc)) (fun hnb2 => ?_)
        · have hb : row[j] ≥ ((a.next.length : Nat) : Int) := hb
          rw [hlen] at hb; simp [hb]
        · refine ⟨⟨j + 1, hlt2', rfl, hc, ?_⟩, ?_⟩
          · have hnb : ¬ row[j] < -1 := hnb
            have hnb2 : ¬ row[j] ≥ ((a.next.length : Nat) : Int) := hnb2
            rw [hlen] at hnb2
            rw [take_snoc hlt2', List.any_append, hg3]
            simp [hnb, hnb2]
          · show row.length - (j + 1) < row.length - j
            omega
      · have hjn : j = row.length := by omega
        rw [hjn, List.take_length] at hg3
        rw [wrap64 (x := (i : Int) + 1) (by omega) (by omega)]
        refine ⟨⟨i + 1, hlt', rfl, hc, ?_⟩, ?_⟩
        · rw [take_snoc hlt', hR, List.any_append, hgood]
          simp only [List.any_cons, List.any_nil, Bool.or_false, Bool.false_or, badRow, hg3, hsym2]
          simp
        · show a.next.length - (i + 1) < a.next.length - i
          omega
    · have hin : i = a.next.length := by omega
      rw [hin, List.take_length] at hgood
      exact ⟨0, rfl, by rw [if_neg (by rw [hgood]; simp)], hc1.then hc⟩
  · intro J hJ
    have herr : bad1 → ∃ z, Ending.returned (.int .i64 60) = .returned (tI.val z) ∧ z = fsaF a.sym a.start a.acc a.next ∧ Chg Nil w w1 := fun h => ⟨60, rfl, (hbad h).symm, hc1⟩
    refine LoadT.sc (s := .int .i64) (x := x1) (by rw [cellOf hn1]; rfl) ?_
    rw [a1]
    refine Br.dec (fun h => Br.t rfl (herr (.inl h))) (fun h1 => ?_)
    refine LoadT.sc (s := .int .i64) (x := x1) (by rw [cellOf hn1]; rfl) ?_
    rw [a1]
    refine Br.dec (fun h => Br.t rfl (herr (.inr (.inl h)))) (fun h2 => ?_)
    refine LoadT.sc (s := .sl) (x := sa) (by rw [cellOf hn1]; rfl) ?_
    rw [e1]
    refine Br.mk (fun h => Br.t rfl (herr (.inr (.inr (.inr (.inl ?_)))))) (fun h3 => ?_)
    · have : (a.acc.length : Int) ≠ (a.next.length : Int) := by simpa using h
      omega
    have hlen : a.acc.length = a.next.length := by have : (a.acc.length : Int) = (a.next.length : Int) := by simpa using h3
                                                   omega
    refine Br.dec (fun h => Br.t rfl (herr (.inr (.inr (.inl (by have h : (a.next.length : Int) > 20000 := h; omega)))))) (fun h4 => ?_)
    refine LoadT.sc (s := .int .i64) (x := x2) (by rw [cellOf hn1]; rfl) ?_
    rw [a2]
    refine Br.dec (fun h => Br.t rfl (herr (.inr (.inr (.inr (.inr (.inl h))))))) (fun h5 => ?_)
    have h1 : ¬ a.sym < 1 := h1
    have h2 : ¬ a.sym > 400 := h2
    have h4 : ¬ (a.next.length : Int) > 20000 := h4
    have h5 : ¬ a.start < 0 := h5
    have good : a.start < max (a.acc.length : Int) 1 → ¬ bad1 := fun h => by
      rintro (h | h | h | h | h | h)
      · exact h1 h
      · exact h2 h
      · omega
      · exact h hlen.symm
      · exact h5 h
      · omega
    have ebad : a.start ≥ max (a.acc.length : Int) 1 → bad1 := fun h => .inr (.inr (.inr (.inr (.inr h))))
    refine Br.mk (fun h6 => ?_) (fun h6 => ?_)
    · have h6' : a.next.length = 0 := by have : (a.next.length : Int) = 0 := by simpa using h6
                                         omega
      refine LoadT.sc (s := .int .i64) (x := x2) (by rw [cellOf hn1]; rfl) ?_
      rw [a2]
      refine Br.mk (fun h => Br.t rfl (herr (ebad ?_))) (fun h => Br.no ?_ (Br.f rfl (hJ _ _ ⟨rfl, rfl, good ?_⟩)))
      · have : a.start ≠ 0 := by simpa using h
        omega
      · rw [h6']; decide
      · have : a.start = 0 := by simpa using h
        omega
    · have h6' : ¬ a.next.length = 0 := fun he => by rw [he] at h6; simp at h6
      refine Br.yes (by show (a.next.length : Int) > 0; omega) ?_
      refine LoadT.sc (s := .int .i64) (x := x2) (by rw [cellOf hn1]; rfl) ?_
      rw [a2]
      refine Br.dec (fun h => herr (ebad (by have h : a.start ≥ (a.next.length : Int) := h; omega))) (fun h => hJ _ _ ⟨rfl, rfl, good (by have h : ¬ a.start ≥ (a.next.length : Int) := h; omega)⟩)
end Go.Proofs.YtffdjfkekdoeaaaDoor.Rf
end
section
/- The references of graphs: step, GraphOf. -/
set_option linter.unusedVariables false
set_option linter.unusedSimpArgs false
set_option maxRecDepth 8000
set_option maxHeartbeats 4000000
namespace Go.Proofs.YtffdjfkekdoeaaaDoor.Rf
open Fw Wd Fo

/-- An edge: from, letter, to. -/
abbrev Ed := Nat × Nat × Nat
abbrev tE : Ty := .agg [.int .i64, .int .i64, .int .i64]
def ofE (e : Ed) : Int × Int × Int × Unit := ((e.1 : Int), (e.2.1 : Int), (e.2.2 : Int), ())
theorem ok52 : slOk Tryd.prog 52 100 3 24 = true := by kernel_rfl
/-- Where a letter leads from a vertex. -/
def stepE : List Ed → Nat → Nat → Option Nat
  | [], _, _ => none
  | (f, y, t) :: l, v, x => if x % 2 = 0 ∧ y = x ∧ f = v then some t else if x % 2 = 1 ∧ y + 1 = x ∧ t = v then some f else stepE l v x
theorem step_ret {w : World} {g1 g2 : Int} {s : Sl} {es : List Ed} (h : RdT w tE s (es.map ofE)) (hb : es.length ≤ 1000000000) (v x : Nat) (hx : x < 1000) :
    Ret Tryd.prog 91 #[.agg #[.int .i64 g1, .int .i64 g2, s.v], .int .i64 (v : Int), .int .i64 (x : Int)] tI w fun y w' => y = ofO (stepE es v x) ∧ Chg Nil w w' := by
  refine cayleyref21_step.calls g1 g2 s (v : Int) (x : Int) ?_
  unfold cayleyref21_step.sh
  refine New.mk fun b1 w1 hb1 hn1 hs1 hc1 => ?_
  have hn : s.n = es.length := by rw [h.len, List.length_map]
  refine LoopT.mk (fun y W => ∃ i : Nat, i ≤ es.length ∧ y = ((v : Int), (x : Int), at0 b1, (i : Int), ()) ∧ Chg Nil w1 W ∧ stepE (es.drop i) v x = stepE es v x) (fun y _ => es.length - y.2.2.2.1.toNat) ⟨0, Nat.zero_le _, rfl, Chg.refl _, rfl⟩ ?_
  rintro y g W ⟨i, hi, rfl, hc, hst⟩
  dsimp only
  refine LoadT.sc (s := .sl) (x := s) (by rw [cellOf (hc.heap hn1 fun h => h)]; rfl) ?_
  refine Br.dec (fun hlt => ?_) (fun hge => ?_)
  · have hlt' : i < es.length := by omega
    have hdrop : es.drop i = es[i] :: es.drop (i + 1) := List.drop_eq_getElem_cons hlt'
    have hei : (es.map ofE)[i]? = some (ofE es[i]) := by rw [List.getElem?_map, List.getElem?_eq_getElem hlt']; rfl
    generalize es[i] = e at hdrop hei
    obtain ⟨f, z, t⟩ := e
    rw [hdrop] at hst
    simp only [stepE] at hst
    refine LoadT.sc (s := .sl) (x := s) (by rw [cellOf (hc.heap hn1 fun h => h)]; rfl) ?_
    refine (h.chg (hc1.then hc) fun _ _ h => h).get (t := tE) i rfl hei ?_
    refine New.mk fun b11 W1 hb11 hn11 hs11 hc11 => ?_
    refine StoreN.whole (vs := [.int .i64 (f : Int), .int .i64 (z : Int), .int .i64 (t : Int)]) hn11 rfl fun W2 hh hc2 _ => ?_
    have hN : Chg Nil W W2 := hc11.trans hc2 (fun _ _ h => h) fun i hi he => by have he : i = b11 := he; omega
    have hcW := hc.then hN
    have hmod : Int.tmod (x : Int) 2 = ((x % 2 : Nat) : Int) := rfl
    have ld0 : ∀ {K : Int → Prop}, K (f : Int) → LoadT tI W2 ((at0 b11).add 0) K := fun k => LoadT.sc (s := .int .i64) (by rw [cellOf hh]; rfl) k
    have ld1 : ∀ {K : Int → Prop}, K (z : Int) → LoadT tI W2 ((at0 b11).add 1) K := fun k => LoadT.sc (s := .int .i64) (by rw [cellOf hh]; rfl) k
    have ld2 : ∀ {K : Int → Prop}, K (t : Int) → LoadT tI W2 ((at0 b11).add 2) K := fun k => LoadT.sc (s := .int .i64) (by rw [cellOf hh]; rfl) k
    refine Join.by' (fun y V => ∃ b : Bool, y = ((v : Int), (x : Int), at0 b1, (i : Int), at0 b11, b, ()) ∧ V = W2 ∧ (b = true ↔ (x % 2 = 0 ∧ z = x ∧ f = v))) ?_ ?_
    · rintro y V g2 ⟨b, rfl, hV, hb'⟩
      rw [hV]; clear hV
      dsimp only
      refine Br.mk (fun hbt => ld2 ⟨_, rfl, ?_, hc1.then hcW⟩) (fun hbf => ?_)
      · rw [if_pos (hb'.1 hbt)] at hst
        rw [← hst]; rfl
      · rw [if_neg (fun hh => by rw [hb'.2 hh] at hbf; cases hbf)] at hst
        refine Join.by' (fun y V => ∃ b : Bool, y = ((v : Int), (x : Int), at0 b1, (i : Int), at0 b11, b, ()) ∧ V = W2 ∧ (b = true ↔ (x % 2 = 1 ∧ z + 1 = x ∧ t = v))) ?_ ?_
        · rintro y V g3 ⟨b, rfl, hV, hb2⟩
          rw [hV]; clear hV
          dsimp only
          rw [wrap64 (by omega) (by omega)]
          refine Br.mk (fun hbt => ld0 ⟨_, rfl, ?_, hc1.then hcW⟩) (fun hbf => ?_)
          · rw [if_pos (hb2.1 hbt)] at hst
            rw [← hst]; rfl
          · rw [if_neg (fun hh => by rw [hb2.2 hh] at hbf; cases hbf)] at hst
            refine ⟨⟨i + 1, hlt', rfl, hcW, hst⟩, ?_⟩
            show es.length - (i + 1) < es.length - i
            omega
        · intro J hJ
          rw [hmod]
          refine ⟨by decide, Br.mk (fun h1 => ld1 ?_) (fun h1 => hJ _ _ ⟨false, rfl, rfl, ?_⟩)⟩
          · have h1' : x % 2 = 1 := by have : ((x % 2 : Nat) : Int) = 1 := by simpa using h1
                                       omega
            rw [wrap64 (by omega) (by omega)]
            refine Br.mk (fun h2 => ld2 (hJ _ _ ⟨_, rfl, rfl, ?_⟩)) (fun h2 => hJ _ _ ⟨false, rfl, rfl, ?_⟩)
            · have h2' : z + 1 = x := by have : (z : Int) = (x : Int) - 1 := by simpa using h2
                                         omega
              refine ⟨fun h3 => ⟨h1', h2', ?_⟩, fun ⟨_, _, h3⟩ => by subst h3; exact beq_self_eq_true _⟩
              have h3 : (t : Int) = (v : Int) := by simpa using h3
              omega
            · have h2' : ¬ z + 1 = x := fun he => by
                have : ((z : Int) == (x : Int) - 1) = true := by simp; omega
                rw [this] at h2; cases h2
              simp [h2']
          · have h1' : ¬ x % 2 = 1 := fun he => by rw [he] at h1; simp at h1
            simp [h1']
    · intro J hJ
      rw [hmod]
      refine ⟨by decide, Br.mk (fun h1 => ld1 ?_) (fun h1 => hJ _ _ ⟨false, rfl, rfl, ?_⟩)⟩
      · have h1' : x % 2 = 0 := by have : ((x % 2 : Nat) : Int) = 0 := by simpa using h1
                                   omega
        refine Br.mk (fun h2 => ld0 (hJ _ _ ⟨_, rfl, rfl, ?_⟩)) (fun h2 => hJ _ _ ⟨false, rfl, rfl, ?_⟩)
        · have h2' : z = x := by have : (z : Int) = (x : Int) := by simpa using h2
                                 omega
          refine ⟨fun h3 => ⟨h1', h2', ?_⟩, fun ⟨_, _, h3⟩ => by subst h3; exact beq_self_eq_true _⟩
          have h3 : (f : Int) = (v : Int) := by simpa using h3
          omega
        · have h2' : ¬ z = x := fun he => by subst he; simp at h2
          simp [h2']
      · have h1' : ¬ x % 2 = 0 := fun he => by rw [he] at h1; simp at h1
        simp [h1']
  · have hin : i = es.length := by omega
    rw [hin, List.drop_eq_nil_of_le (Nat.le_refl _)] at hst
    exact ⟨-1, rfl, by rw [← hst]; rfl, hc1.then hc⟩

/-- The edges of a row, from letter 2 i on. -/
def graphR (s : Nat) (row : List Int) : Nat → Nat → List Ed
  | _, 0 => []
  | i, n + 1 => (if 0 ≤ row.getD (2 * i) 0 then [(s, 2 * i, (row.getD (2 * i) 0).toNat)] else []) ++ graphR s row (i + 1) n
def graphL (k : Nat) : Nat → List (List Int) → List Ed
  | _, [] => []
  | s, row :: l => graphR s row 0 k ++ graphL k (s + 1) l
theorem graphR_len (s : Nat) (row : List Int) : ∀ (n i : Nat), (graphR s row i n).length ≤ n
  | 0, i => by simp [graphR]
  | n + 1, i => by
    have := graphR_len s row n (i + 1)
    simp only [graphR, List.length_append]
    split <;> simp <;> omega
theorem graphL_len (k : Nat) : ∀ (l : List (List Int)) (s : Nat), (graphL k s l).length ≤ k * l.length
  | [], s => by simp [graphL]
  | row :: l, s => by
    have h1 := graphR_len s row k 0
    have h2 := graphL_len k l (s + 1)
    simp only [graphL, List.length_append, List.length_cons, Nat.mul_add, Nat.mul_one]
    omega
/-- GraphOf, of an automaton with rows that are long enough. -/
theorem GraphOf_ret {w : World} {k : Nat} (hk : k ≤ 8) {x : Int × Int × Sl × Sl × Unit} {a : Aut} (h : AutIn w x a) (hlen : a.next.length ≤ 100000) (hrow : ∀ r ∈ a.next, 2 * k ≤ r.length) :
    Ret Tryd.prog 27 #[.int .i64 (k : Int), .agg #[.int .i64 x.1, .int .i64 x.2.1, x.2.2.1.v, x.2.2.2.1.v]] (.agg [.int .i64, .int .i64, .sl]) w fun y w' => y.1 = (k : Int) ∧ y.2.1 = (a.acc.length : Int) ∧ OwnT w' 100 tE y.2.2.1 ((graphL k 0 a.next).map ofE) ∧ Chg Nil w w' ∧ ∀ k, y.2.2.1.own k → w.heap.size ≤ k := by
  obtain ⟨x1, x2, sa, sn, _⟩ := x
  refine cayleyref21_GraphOf.calls (k : Int) x1 x2 sa sn ?_
  unfold cayleyref21_GraphOf.sh
  obtain ⟨hra, _, _, sls, hrn, hsl, hrws, _⟩ := h.rd
  have hrn : RdT w (.sc .sl) sn sls := hrn
  have e1 : sa.n = a.acc.length := hra.len
  have e3 : sn.n = a.next.length := by rw [hrn.len, hsl]
  refine New.mk fun b1 w1 hb1 hn1 hs1 hc1 => ?_
  refine New.mk fun b3 w2 hb3 hn3 hs3 hc3 => ?_
  have h12 := hc3.heap hn1 fun h => h
  refine LoadT.sc (s := .sl) (x := sa) (by rw [cellOf h12]; rfl) ?_
  rw [e1]
  refine New.mk fun b6 w3 hb6 hn6 hs6 hc6 => ?_
  refine StoreN.whole (vs := [.int .i64 (k : Int), .int .i64 ((a.acc.length : Nat) : Int), .slice none 0 0]) hn6 rfl fun w4 h64 hc6' hsz6 => ?_
  have hN : Chg Nil w2 w4 := hc6.trans hc6' (fun _ _ h => h) fun i hi he => by have he : i = b6 := he; omega
  have h14 := hN.heap h12 fun h => h
  have h34 := hN.heap hn3 fun h => h
  have hc04 := (hc1.then hc3).then hN
  have s1 := hc1.size
  have s3 := hc3.size
  have s6 := lt_of_heap h64
  have hml : maxLen = 9223372036854775807 := rfl
  -- what holds at each place
  let Inv : Sl → List Ed → World → Prop := fun so es W => Chg Nil w W ∧ W.heap[b1]? = some (.cells #[.int .i64 x1, .int .i64 x2, sa.v, sn.v] 27 (0, 0)) ∧ W.heap[b3]? = some (.cells #[.int .i64 0, .int .i64 0, .slice none 0 0] 54 (0, 0)) ∧
    W.heap[b6]? = some (.cells #[.int .i64 (k : Int), .int .i64 ((a.acc.length : Nat) : Int), so.v] 54 (0, 0)) ∧ OwnT W 100 tE so (es.map ofE) ∧ ∀ k, so.own k → b6 < k
  have hb13 : b1 < b3 := by omega
  have hb36 : b3 < b6 := by omega
  refine LoopT.mk (fun y W => ∃ (s : Nat) (so : Sl) (es : List Ed), s ≤ a.next.length ∧ y = ((k : Int), at0 b1, at0 b3, at0 b6, (s : Int), ()) ∧ Inv so es W ∧ es.length ≤ k * s ∧ es ++ graphL k s (a.next.drop s) = graphL k 0 a.next) (fun y _ => a.next.length - y.2.2.2.2.1.toNat)
    ⟨0, ⟨none, 0, 0⟩, [], Nat.zero_le _, rfl, ⟨hc04, h14, h34, h64, OwnT.nil _ _ _, fun k hk => Own.nilk k hk⟩, by simp, rfl⟩ ?_
  rintro y g W ⟨s, so, es, hs, rfl, ⟨i1, i2, i3, i4, i5, i6⟩, hel, hes⟩
  dsimp only
  refine LoadT.sc (s := .sl) (x := sn) (by rw [cellOf i2]; rfl) ?_
  refine Br.dec (fun hlt => ?_) (fun hge => ?_)
  · have hlt' : s < a.next.length := by omega
    have hdrop : a.next.drop s = a.next[s] :: a.next.drop (s + 1) := List.drop_eq_getElem_cons hlt'
    have hrow' : a.next[s]? = some a.next[s] := List.getElem?_eq_getElem hlt'
    have hrl := hrow _ (List.getElem_mem hlt')
    generalize a.next[s] = row at hdrop hrow' hrl
    obtain ⟨rsl, hrsl⟩ : ∃ rsl, sls[s]? = some rsl := ⟨_, List.getElem?_eq_getElem (by rw [hsl]; exact hlt')⟩
    have hrr := hrws s rsl row hrsl hrow'
    rw [hdrop] at hes
    simp only [graphL] at hes
    refine LoopT.mk (fun y W => ∃ (i : Nat) (so : Sl) (es : List Ed), i ≤ k ∧ y = ((k : Int), at0 b1, at0 b3, at0 b6, (s : Int), ((2 * i : Nat) : Int), ()) ∧ Inv so es W ∧ es.length ≤ k * s + i ∧ es ++ (graphR s row i (k - i) ++ graphL k (s + 1) (a.next.drop (s + 1))) = graphL k 0 a.next) (fun y _ => 2 * k - y.2.2.2.2.2.1.toNat)
      ⟨0, so, es, Nat.zero_le _, rfl, ⟨i1, i2, i3, i4, i5, i6⟩, by omega, hes⟩ ?_
    clear i1 i2 i3 i4 i5 i6 hes hel es so
    rintro y g2 W ⟨i, so, es, hi, rfl, ⟨i1, i2, i3, i4, i5, i6⟩, hel, hes⟩
    dsimp only
    rw [wrap64 (x := 2 * (k : Int)) (by omega) (by omega)]
    refine Br.dec (fun hlt2 => ?_) (fun hge2 => ?_)
    · have hik : i < k := by omega
      have h2i : 2 * i < row.length := by omega
      have hgd : row.getD (2 * i) 0 = row[2 * i] := getD_get h2i
      have hrx : row[2 * i]? = some (row.getD (2 * i) 0) := by rw [hgd]; exact List.getElem?_eq_getElem h2i
      rw [show k - i = (k - (i + 1)) + 1 by omega] at hes
      simp only [graphR] at hes
      generalize row.getD (2 * i) 0 = t at hes hrx
      have hksl : k * s ≤ 8 * 100000 := Nat.mul_le_mul hk (by omega)
      refine LoadT.sc (s := .sl) (x := sn) (by rw [cellOf i2]; rfl) ?_
      refine (hrn.chg i1 fun _ _ h => h).get (t := .sc .sl) s rfl hrsl ?_
      refine (hrr.chg i1 fun _ _ h => h).get (t := tI) (2 * i) rfl hrx ?_
      have hw2 : IntKind.wrap .i64 (((2 * i : Nat) : Int) + 2) = ((2 * (i + 1) : Nat) : Int) := by rw [wrap64 (by omega) (by omega)]; omega
      have hmu : 2 * k - ((2 * (i + 1) : Nat) : Int).toNat < 2 * k - ((2 * i : Nat) : Int).toNat := by omega
      rw [hw2]
      refine Br.dec (fun hpos => ?_) (fun hneg => ?_)
      · have hpos : t ≥ 0 := hpos
        obtain ⟨nt, rfl⟩ := Int.eq_ofNat_of_zero_le hpos
        rw [if_pos hpos] at hes
        have hd : Chg Nil W W.drew := Chg.drew W
        have lW := lt_of_heap i4
        refine ⟨fun V => Chg so.own W.drew V, Chg.refl _, ?_⟩
        have hne : ∀ {k}, k ≤ b6 → ¬ so.own k := fun hk ho => by have := i6 _ ho; omega
        refine LoadS.sc (s := .sl) (x := so) (fun V hV => by rw [cellOf (hV.heap (w := W.drew) i4 (hne (Nat.le_refl _)))]; rfl) ?_
        refine LoadS.sc (s := .sl) (x := sn) (fun V hV => by rw [cellOf (hV.heap (w := W.drew) i2 (hne (by omega)))]; rfl) ?_
        refine rd_idxA (t := .sc .sl) hrn s rfl hrsl fun ad had => ?_
        have hstay : ∀ {V : World}, Chg so.own W.drew V → Chg Nil w V := fun hV => (i1.then hd).trans hV (fun _ _ h => h) fun j hj ho => by have := i6 _ ho; omega
        refine LoadS.sc (s := .sl) (x := rsl) (fun V hV => (hrn.chg (hstay hV) fun _ _ h => h).cell1 had hrsl) ?_
        refine rd_idxA (t := tI) hrr (2 * i) rfl hrx fun ad2 had2 => ?_
        refine LoadS.sc (s := .int .i64) (x := (nt : Int)) (fun V hV => (hrr.chg (hstay hV) fun _ _ h => h).cell1 had2 hrx) ?_
        refine New.mk fun b30 W1 hb30 hn30 hs30 hc30 => ⟨hc30.nil, ?_⟩
        have ho1 : OwnT W1 100 tE so (es.map ofE) := (i5.chg hd fun _ _ h => h).chg hc30 fun _ _ h => h
        refine OwnT.append (t := tE) (m := 1) ok52 rfl (by decide) ho1 [ofE (s, 2 * i, nt)] rfl (by decide) (fun j v hv => by rw [cellOf hn30]; simpa [Ty.cells, ofE] using hv) ?_ ?_ fun so' W2 ho2 hcA hownA => ?_
        · rw [List.length_map]; omega
        · rw [List.length_map]; omega
        have hcA' : Chg so.own W.drew W2 := hc30.nil.then hcA
        refine ⟨hcA', ?_⟩
        have i4' := hcA'.heap (w := W.drew) i4 (hne (Nat.le_refl _))
        have hz1 := hc30.size
        have own' : ∀ k, so'.own k → b6 < k := fun k hk => by
          rcases hownA k hk with h1 | h1
          · exact i6 k h1
          · have : W.heap.size ≤ W1.heap.size := hz1
            omega
        refine Store1.at i4' 2 (by show 2 < 3; decide) rfl fun W3 h63 hcB _ => ?_
        refine ⟨⟨i + 1, so', es ++ [(s, 2 * i, nt)], hik, rfl, ⟨?_, ?_, ?_, h63, ?_, own'⟩, by simp; omega, ?_⟩, hmu⟩
        · exact (hstay hcA').trans hcB (fun _ _ h => h) fun j hj he => by have he : j = b6 := he; omega
        · exact hcB.heap (hcA'.heap (w := W.drew) i2 (hne (by omega))) fun he => by have he : b1 = b6 := he; omega
        · exact hcB.heap (hcA'.heap (w := W.drew) i3 (hne (by omega))) fun he => by have he : b3 = b6 := he; omega
        · rw [List.map_append]
          exact ho2.chg hcB fun a' ha' he => by have := own' _ ⟨a', ha', rfl⟩; have he : a'.block = b6 := he; omega
        · rw [← hes]; simp
      · have hneg : ¬ t ≥ 0 := hneg
        rw [if_neg (by omega), List.nil_append] at hes
        exact ⟨⟨i + 1, so, es, hik, rfl, ⟨i1, i2, i3, i4, i5, i6⟩, by omega, hes⟩, hmu⟩
    · have hik : i = k := by omega
      rw [hik, Nat.sub_self] at hes
      simp only [graphR, List.nil_append] at hes
      rw [wrap64 (by omega) (by omega)]
      refine ⟨⟨s + 1, so, es, hlt', rfl, ⟨i1, i2, i3, i4, i5, i6⟩, ?_, hes⟩, ?_⟩
      · rw [Nat.mul_add]; omega
      · show a.next.length - (s + 1) < a.next.length - s
        omega
  · have hsn : s = a.next.length := by omega
    rw [hsn, List.drop_eq_nil_of_le (Nat.le_refl _)] at hes
    simp only [graphL, List.append_nil] at hes
    refine LoadT.mk (.agg [.int .i64, .int .i64, .sl]) (x := ((k : Int), ((a.acc.length : Nat) : Int), so, ())) (fun j v hv => by rw [cellOf i4]; simpa [Ty.cells] using hv) ?_
    refine StoreN.whole (vs := [.int .i64 (k : Int), .int .i64 ((a.acc.length : Nat) : Int), so.v]) i3 rfl fun W2 h3 hc3' _ => ?_
    refine LoadT.mk (.agg [.int .i64, .int .i64, .sl]) (x := ((k : Int), ((a.acc.length : Nat) : Int), so, ())) (fun j v hv => by rw [cellOf h3]; simpa [Ty.cells] using hv) ?_
    refine ⟨((k : Int), ((a.acc.length : Nat) : Int), so, ()), rfl, rfl, rfl, ?_, ?_, fun j hj => by have := i6 j hj; omega⟩
    · rw [← hes]
      exact i5.chg hc3' fun a' ha' he => by have := i6 _ ⟨a', ha', rfl⟩; have he : a'.block = b3 := he; omega
    · exact i1.trans hc3' (fun _ _ h => h) fun j hj he => by have he : j = b3 := he; omega
end Go.Proofs.YtffdjfkekdoeaaaDoor.Rf
end
section
/- The reference's numbering: how it lies in memory. -/
set_option linter.unusedVariables false
set_option linter.unusedSimpArgs false
set_option maxRecDepth 8000
set_option maxHeartbeats 4000000
namespace Go.Proofs.YtffdjfkekdoeaaaDoor.Rf
open Fw Wd Fo

/-- Blocks of one kind turn: those of other kinds stay. -/
theorem Chg.heapT {S : Nat → Prop} {w w' : World} (hc : Chg S w w') {e : TypeId} (hS : ∀ k, S k → ∃ c f, w.heap[k]? = some (.cells c e f)) {k : Nat} {c : Array Value} {e' : TypeId} {f : Nat × Nat} (h : w.heap[k]? = some (.cells c e' f)) (hne : e' ≠ e) : w'.heap[k]? = some (.cells c e' f) :=
  hc.heap h fun hk => by obtain ⟨c', f', h'⟩ := hS k hk; exact ne_of_elem h h' hne rfl
theorem OwnT.chgT {S : Nat → Prop} {w w' : World} {e' : TypeId} {t : Ty} {s : Sl} {xs : List t.den} (h : OwnT w e' t s xs) (hc : Chg S w w') {e : TypeId} (hS : ∀ k, S k → ∃ c f, w.heap[k]? = some (.cells c e f)) (hne : e' ≠ e) : OwnT w' e' t s xs :=
  h.chg hc fun a ha hk => by
    obtain ⟨c', f', h'⟩ := hS _ hk
    obtain ⟨c1, h1⟩ := h.elem ⟨a, ha, rfl⟩
    exact ne_of_elem h1 h' hne rfl
theorem OwnT.kind {w : World} {e : TypeId} {t : Ty} {s : Sl} {xs : List t.den} (h : OwnT w e t s xs) : ∀ k, s.own k → ∃ c f, w.heap[k]? = some (.cells c e f) := fun k hk => by
  obtain ⟨c, hc⟩ := h.elem hk; exact ⟨c, _, hc⟩
theorem OwnT.ltk {w : World} {e : TypeId} {t : Ty} {s : Sl} {xs : List t.den} (h : OwnT w e t s xs) {k : Nat} (hk : s.own k) : k < w.heap.size := by
  obtain ⟨c, hc⟩ := h.elem hk; exact lt_of_heap hc
theorem own_empty {w : World} {b : Nat} {e : TypeId} {t : Ty} (h : w.heap[b]? = some (.cells #[] e (0, 0))) (hz : 0 < t.sz) : OwnT w e t ⟨some ⟨b, 0, none⟩, 0, 0⟩ [] :=
  ⟨⟨by simp, .inr ⟨b, 0, #[], rfl, Nat.zero_le _, h, Nat.le_refl _, Nat.zero_le _, by simp, by simp⟩⟩, rfl⟩
structure Nm (w V : World) (b1 b3 b8 : Nat) (gc : Array Value) (m : Nat) (qs sa sn rs : Sl) (q : List Nat) (os : List Sl) (out : List Row) (cur : Row) : Prop where
  chg : Chg Nil w V
  ge : w.heap.size ≤ b1 ∧ w.heap.size ≤ b3 ∧ w.heap.size ≤ b8 ∧ b3 ≠ b8
  c1 : V.heap[b1]? = some (.cells gc 54 (0, 0))
  c3 : V.heap[b3]? = some (.cells #[.int .i64 0, .int .i64 0, .slice none 0 0, .slice none 0 0] 27 (0, 0))
  c8 : V.heap[b8]? = some (.cells #[.int .i64 (m : Int), .int .i64 0, sa.v, sn.v] 27 (0, 0))
  que : OwnN V qs q
  acc : OwnT V 4 (.sc .bool) sa (accF out.length)
  nxt : OwnT V 85 (.sc .sl) sn os
  len : os.length = out.length
  row : ∀ (i : Nat) (s : Sl) (r : Row), os[i]? = some s → out[i]? = some r → OwnT V 3 tI s (r.map ofO)
  curr : OwnT V 3 tI rs (cur.map ofO)
  own : ∀ k, (qs.own k ∨ sa.own k ∨ sn.own k ∨ rs.own k ∨ ∃ s ∈ os, s.own k) → w.heap.size ≤ k
  ap1 : ∀ k, rs.own k → ¬ qs.own k
  ap2 : ∀ s ∈ os, ∀ k, s.own k → ¬ qs.own k ∧ ¬ rs.own k
section
variable {w V V' : World} {b1 b3 b8 : Nat} {gc : Array Value} {m : Nat} {qs sa sn rs : Sl} {q : List Nat} {os : List Sl} {out : List Row} {cur : Row}
theorem Nm.rowOf (h : Nm w V b1 b3 b8 gc m qs sa sn rs q os out cur) {s : Sl} (hs : s ∈ os) : ∃ r : Row, OwnT V 3 tI s (r.map ofO) := by
  obtain ⟨i, hi⟩ := List.getElem?_of_mem hs
  have hlt : i < out.length := by rw [← h.len]; exact (List.getElem?_eq_some_iff.1 hi).1
  exact ⟨_, h.row i s _ hi (List.getElem?_eq_getElem hlt)⟩
theorem Nm.nil (h : Nm w V b1 b3 b8 gc m qs sa sn rs q os out cur) (hc : Chg Nil V V') : Nm w V' b1 b3 b8 gc m qs sa sn rs q os out cur :=
  { h with chg := h.chg.then hc, c1 := hc.heap h.c1 fun h => h, c3 := hc.heap h.c3 fun h => h, c8 := hc.heap h.c8 fun h => h, que := h.que.chg hc fun _ _ h => h, acc := h.acc.chg hc fun _ _ h => h, nxt := h.nxt.chg hc fun _ _ h => h
           row := fun i s r hi hr => (h.row i s r hi hr).chg hc fun _ _ h => h, curr := h.curr.chg hc fun _ _ h => h }
theorem Nm.newRow (h : Nm w V b1 b3 b8 gc m qs sa sn rs q os out cur) (hc : Chg Nil V V') {b : Nat} (hb : b = V.heap.size) (hn : V'.heap[b]? = some (.cells #[] 3 (0, 0))) : Nm w V' b1 b3 b8 gc m qs sa sn ⟨some ⟨b, 0, none⟩, 0, 0⟩ q os out [] :=
  { h.nil hc with
    curr := own_empty (t := tI) hn (by decide)
    own := fun k hk => by
      rcases hk with hk | hk | hk | hk | hk
      · exact h.own k (.inl hk)
      · exact h.own k (.inr (.inl hk))
      · exact h.own k (.inr (.inr (.inl hk)))
      · obtain ⟨a, ha, rfl⟩ := hk; cases ha; have := h.chg.size; dsimp only; omega
      · exact h.own k (.inr (.inr (.inr (.inr hk))))
    ap1 := fun k hk hq => by obtain ⟨a, ha, rfl⟩ := hk; cases ha; have := Rf.OwnT.ltk h.que hq; dsimp only at this; omega
    ap2 := fun s hs k hk => ⟨(h.ap2 s hs k hk).1, fun hr => by
      obtain ⟨a, ha, rfl⟩ := hr; cases ha
      obtain ⟨r, hr⟩ := h.rowOf hs
      have := Rf.OwnT.ltk hr hk; dsimp only at this; omega⟩ }
/-- The queue grows. -/
theorem Nm.setQue (h : Nm w V b1 b3 b8 gc m qs sa sn rs q os out cur) (hc : Chg qs.own V V') {qs' : Sl} {q' : List Nat} (hq : OwnN V' qs' q') (hown : ∀ k, qs'.own k → qs.own k ∨ V.heap.size ≤ k) : Nm w V' b1 b3 b8 gc m qs' sa sn rs q' os out cur := by
  have hk := Rf.OwnT.kind h.que
  have hs := h.chg.size
  exact { chg := h.chg.trans hc (fun _ _ h => h) fun i hi ho => by have := h.own i (.inl ho); omega
          ge := h.ge, c1 := Chg.heapT hc hk h.c1 (by decide), c3 := Chg.heapT hc hk h.c3 (by decide), c8 := Chg.heapT hc hk h.c8 (by decide), que := hq
          acc := OwnT.chgT h.acc hc hk (by decide), nxt := OwnT.chgT h.nxt hc hk (by decide), len := h.len
          row := fun i s r hi hr => (h.row i s r hi hr).chg hc fun a ha => (h.ap2 s (List.mem_of_getElem? hi) _ ⟨a, ha, rfl⟩).1
          curr := h.curr.chg hc fun a ha => h.ap1 _ ⟨a, ha, rfl⟩
          own := fun k hk => by
            rcases hk with hk | hk
            · rcases hown k hk with h1 | h1
              · exact h.own k (.inl h1)
              · omega
            · exact h.own k (.inr hk)
          ap1 := fun k hk hq' => by
            rcases hown k hq' with h1 | h1
            · exact h.ap1 k hk h1
            · have := Rf.OwnT.ltk h.curr hk; omega
          ap2 := fun s hs' k hk => ⟨fun hq' => by
            rcases hown k hq' with h1 | h1
            · exact (h.ap2 s hs' k hk).1 h1
            · obtain ⟨r, hr⟩ := h.rowOf hs'
              have := Rf.OwnT.ltk hr hk; omega, (h.ap2 s hs' k hk).2⟩ }
/-- The row grows. -/
theorem Nm.setCur (h : Nm w V b1 b3 b8 gc m qs sa sn rs q os out cur) (hc : Chg rs.own V V') {rs' : Sl} {cur' : Row} (hq : OwnT V' 3 tI rs' (cur'.map ofO)) (hown : ∀ k, rs'.own k → rs.own k ∨ V.heap.size ≤ k) : Nm w V' b1 b3 b8 gc m qs sa sn rs' q os out cur' := by
  have hk := Rf.OwnT.kind h.curr
  have hs := h.chg.size
  exact { chg := h.chg.trans hc (fun _ _ h => h) fun i hi ho => by have := h.own i (.inr (.inr (.inr (.inl ho)))); omega
          ge := h.ge, c1 := Chg.heapT hc hk h.c1 (by decide), c3 := Chg.heapT hc hk h.c3 (by decide), c8 := Chg.heapT hc hk h.c8 (by decide)
          que := h.que.chg hc fun a ha ho => h.ap1 _ ho ⟨a, ha, rfl⟩
          acc := OwnT.chgT h.acc hc hk (by decide), nxt := OwnT.chgT h.nxt hc hk (by decide), len := h.len
          row := fun i s r hi hr => (h.row i s r hi hr).chg hc fun a ha => (h.ap2 s (List.mem_of_getElem? hi) _ ⟨a, ha, rfl⟩).2
          curr := hq
          own := fun k hk => by
            rcases hk with hk | hk | hk | hk | hk
            · exact h.own k (.inl hk)
            · exact h.own k (.inr (.inl hk))
            · exact h.own k (.inr (.inr (.inl hk)))
            · rcases hown k hk with h1 | h1
              · exact h.own k (.inr (.inr (.inr (.inl h1))))
              · omega
            · exact h.own k (.inr (.inr (.inr (.inr hk))))
          ap1 := fun k hk hq' => by
            rcases hown k hk with h1 | h1
            · exact h.ap1 k h1 hq'
            · have := Rf.OwnT.ltk h.que hq'; omega
          ap2 := fun s hs' k hk => ⟨(h.ap2 s hs' k hk).1, fun hr' => by
            rcases hown k hr' with h1 | h1
            · exact (h.ap2 s hs' k hk).2 h1
            · obtain ⟨r, hr⟩ := h.rowOf hs'
              have := Rf.OwnT.ltk hr hk; omega⟩ }
/-- The row is put behind the others, and the state's mark. -/
theorem Nm.endRow (h : Nm w V b1 b3 b8 gc m qs sa sn rs q os out cur) {V1 V2 V3 V4 : World} {sn' sa' : Sl} (c1 : Chg sn.own V V1) (hn : OwnT V1 85 (.sc .sl) sn' (os ++ [rs])) (hownN : ∀ k, sn'.own k → sn.own k ∨ V.heap.size ≤ k)
    (c2 : Chg (· = b8) V1 V2) (h8 : V2.heap[b8]? = some (.cells #[.int .i64 (m : Int), .int .i64 0, sa.v, sn'.v] 27 (0, 0)))
    (c3 : Chg sa.own V2 V3) (ha : OwnT V3 4 (.sc .bool) sa' (accF (out.length + 1))) (hownA : ∀ k, sa'.own k → sa.own k ∨ V2.heap.size ≤ k)
    (c4 : Chg (· = b8) V3 V4) (h8' : V4.heap[b8]? = some (.cells #[.int .i64 (m : Int), .int .i64 0, sa'.v, sn'.v] 27 (0, 0))) : Nm w V4 b1 b3 b8 gc m qs sa' sn' ⟨none, 0, 0⟩ q (os ++ [rs]) (out ++ [cur]) [] := by
  have hs := h.chg.size
  have k1 := Rf.OwnT.kind h.nxt
  have k2 : ∀ k, k = b8 → ∃ c f, V1.heap[k]? = some (.cells c 27 f) := fun k hk => by subst hk; exact ⟨_, _, Chg.heapT c1 k1 h.c8 (by decide)⟩
  have acc1 := OwnT.chgT h.acc c1 k1 (by decide)
  have acc2 := OwnT.chgT acc1 c2 k2 (by decide)
  have k3 := Rf.OwnT.kind acc2
  have k4 : ∀ k, k = b8 → ∃ c f, V3.heap[k]? = some (.cells c 27 f) := fun k hk => by subst hk; exact ⟨_, _, Chg.heapT c3 k3 h8 (by decide)⟩
  have cell54 : ∀ {k : Nat} {c : Array Value}, V.heap[k]? = some (Obj.cells c 54 (0, 0)) → V4.heap[k]? = some (Obj.cells c 54 (0, 0)) := fun hk => Chg.heapT c4 k4 (Chg.heapT c3 k3 (Chg.heapT c2 k2 (Chg.heapT c1 k1 hk (by decide)) (by decide)) (by decide)) (by decide)
  have own3 : ∀ {s : Sl} {xs : List Int}, OwnT V 3 tI s xs → OwnT V4 3 tI s xs := fun ho => OwnT.chgT (OwnT.chgT (OwnT.chgT (OwnT.chgT ho c1 k1 (by decide)) c2 k2 (by decide)) c3 k3 (by decide)) c4 k4 (by decide)
  have n2 := OwnT.chgT hn c2 k2 (by decide)
  have n3 := OwnT.chgT n2 c3 k3 (by decide)
  have n4 := OwnT.chgT n3 c4 k4 (by decide)
  have z1 := c1.size
  have z2 := c2.size
  have z3 := c3.size
  have rw : ∀ k, rs.own k → w.heap.size ≤ k := fun k hk => h.own k (.inr (.inr (.inr (.inl hk))))
  exact {
    chg := (((h.chg.trans c1 (fun _ _ h => h) fun i hi ho => by have := h.own i (.inr (.inr (.inl ho))); omega).trans c2 (fun _ _ h => h) fun i hi he => by have he : i = b8 := he; have := h.ge; omega).trans c3 (fun _ _ h => h) fun i hi ho => by have := h.own i (.inr (.inl ho)); omega).trans c4 (fun _ _ h => h) fun i hi he => by have he : i = b8 := he; have := h.ge; omega
    ge := h.ge
    c1 := cell54 h.c1
    c3 := by
      have e1 := Chg.heapT c1 k1 h.c3 (by decide)
      have e2 := c2.heap e1 fun he => h.ge.2.2.2 he
      have e3 := Chg.heapT c3 k3 e2 (by decide)
      exact c4.heap e3 fun he => h.ge.2.2.2 he
    c8 := h8'
    que := own3 h.que
    acc := by rw [List.length_append]; exact OwnT.chgT ha c4 k4 (by decide)
    nxt := n4
    len := by rw [List.length_append, List.length_append, h.len]; rfl
    row := fun i s r hi hr => by
      by_cases hlt : i < os.length
      · rw [List.getElem?_append_left hlt] at hi
        rw [List.getElem?_append_left (by rw [← h.len]; exact hlt)] at hr
        exact own3 (h.row i s r hi hr)
      · rw [List.getElem?_append_right (by omega)] at hi
        rw [List.getElem?_append_right (by rw [← h.len]; omega), ← h.len] at hr
        cases hk : i - os.length with
        | zero => rw [hk] at hi hr; cases hi; cases hr; exact own3 h.curr
        | succ n => rw [hk] at hi; simp at hi
    curr := OwnT.nil _ _ _
    own := fun k hk => by
      rcases hk with hk | hk | hk | hk | ⟨s, hs', hk⟩
      · exact h.own k (.inl hk)
      · rcases hownA k hk with h1 | h1
        · exact h.own k (.inr (.inl h1))
        · omega
      · rcases hownN k hk with h1 | h1
        · exact h.own k (.inr (.inr (.inl h1)))
        · omega
      · exact Own.nilk k hk
      · rcases List.mem_append.1 hs' with h1 | h1
        · exact h.own k (.inr (.inr (.inr (.inr ⟨s, h1, hk⟩))))
        · simp only [List.mem_singleton] at h1; subst h1; exact rw k hk
    ap1 := fun k hk => Own.nilk k hk
    ap2 := fun s hs' k hk => ⟨by
      rcases List.mem_append.1 hs' with h1 | h1
      · exact (h.ap2 s h1 k hk).1
      · simp only [List.mem_singleton] at h1; subst h1; exact h.ap1 k hk, fun hk' => Own.nilk k hk'⟩ }
theorem Nm.aut (h : Nm w V b1 b3 b8 gc m qs sa sn rs q os out cur) : AutR w.heap.size V sa sn (accF out.length) (out.map (·.map ofO)) :=
  ⟨h.acc.rd, fun k hk => h.own k (.inr (.inl hk)), fun k hk => h.own k (.inr (.inr (.inl hk))), os, h.nxt.rd, by rw [h.len, List.length_map], fun i s r hi hr => (by
    rw [List.getElem?_map] at hr
    cases ho : out[i]? with
    | none => rw [ho] at hr; cases hr
    | some r' => rw [ho] at hr; cases hr; exact (h.row i s r' hi ho).rd), fun s hs k hk => h.own k (.inr (.inr (.inr (.inr ⟨s, hs, hk⟩))))⟩
end
/-! ### the model -/
def rowE (k : Nat) (es : List Ed) (v : Nat) : Row := (List.range (2 * k)).map (stepE es v)
def numE (k : Nat) (es : List Ed) : Nat → Nat → List Nat → List Row → Option (List Row)
  | 0, _, _, _ => none
  | f + 1, i, q, out =>
    match q[i]? with
    | none => some out
    | some v => numE k es f (i + 1) (bfsRow (rowE k es v) q).1 (out ++ [(bfsRow (rowE k es v) q).2])
theorem stepE_lt {B : Nat} : ∀ (es : List Ed) (v x t : Nat), (∀ e ∈ es, e.1 < B ∧ e.2.2 < B) → stepE es v x = some t → t < B
  | [], v, x, t, _, h => by simp [stepE] at h
  | (f, y, u) :: l, v, x, t, hB, h => by
    simp only [stepE] at h
    have hb := hB (f, y, u) (by simp)
    split at h
    · cases h; exact hb.2
    · split at h
      · cases h; exact hb.1
      · exact stepE_lt l v x t (fun e he => hB e (by simp [he])) h
theorem nodup_len : ∀ (B : Nat) (l : List Nat), l.Nodup → (∀ v ∈ l, v < B) → l.length ≤ B
  | 0, l, _, h => by
    cases l with
    | nil => simp
    | cons v l => exact absurd (h v (by simp)) (Nat.not_lt_zero _)
  | B + 1, l, hn, h => by
    by_cases hm : B ∈ l
    · have h1 := nodup_len B (l.erase B) (hn.erase B) fun v hv => by
        have h2 := h v (List.mem_of_mem_erase hv)
        have h3 : v ≠ B := fun he => by subst he; exact (List.Nodup.not_mem_erase hn) hv
        omega
      rw [List.length_erase_of_mem hm] at h1
      omega
    · have := nodup_len B l hn fun v hv => by
        have h2 := h v hv
        have h3 : v ≠ B := fun he => hm (he ▸ hv)
        omega
      omega
theorem bfsRow_ok {B : Nat} : ∀ (row : Row) (q : List Nat), (∀ t, some t ∈ row → t < B) → q.Nodup → (∀ v ∈ q, v < B) → (bfsRow row q).1.Nodup ∧ ∀ v ∈ (bfsRow row q).1, v < B
  | [], q, _, hn, hq => ⟨hn, hq⟩
  | none :: l, q, hr, hn, hq => bfsRow_ok l q (fun t ht => hr t (by simp [ht])) hn hq
  | some t :: l, q, hr, hn, hq => by
    simp only [bfsRow]
    split
    · exact bfsRow_ok l q (fun t ht => hr t (by simp [ht])) hn hq
    · rename_i hni
      refine bfsRow_ok l (q ++ [t]) (fun t ht => hr t (by simp [ht])) ?_ fun v hv => ?_
      · rw [List.nodup_append]
        exact ⟨hn, by simp, fun a ha b hb => by simp only [List.mem_singleton] at hb; subst hb; exact fun he => hni (he ▸ ha)⟩
      · rcases List.mem_append.1 hv with hv | hv
        · exact hq v hv
        · simp only [List.mem_singleton] at hv; subst hv; exact hr v (by simp)
end Go.Proofs.YtffdjfkekdoeaaaDoor.Rf
end
section
/- The contract of the reference's Numbered. -/
set_option linter.unusedVariables false
set_option linter.unusedSimpArgs false
set_option maxRecDepth 8000
set_option maxHeartbeats 4000000
namespace Go.Proofs.YtffdjfkekdoeaaaDoor.Rf
open Fw Wd Fo

theorem rowE_get {k : Nat} {es : List Ed} {v x : Nat} (h : x < 2 * k) : (rowE k es v)[x]? = some (stepE es v x) := by
  unfold rowE
  rw [List.getElem?_map, List.getElem?_range h]; rfl
theorem rowE_len (k : Nat) (es : List Ed) (v : Nat) : (rowE k es v).length = 2 * k := by unfold rowE; simp
theorem Numbered_ret {w : World} {k : Nat} (hk : k ≤ 8) {g2 : Int} {s : Sl} {es : List Ed} (h : RdT w tE s (es.map ofE)) (hb : es.length ≤ 1000000000) {B base : Nat} (hB : B ≤ 1000000) (hes : ∀ e ∈ es, e.1 < B ∧ e.2.2 < B) (hbase : base < B) {K : Nat} {res : List Row} (hf : numE k es K 0 [base] [] = some res) :
    Ret Tryd.prog 70 #[.agg #[.int .i64 (k : Int), .int .i64 g2, s.v], .int .i64 (base : Int)] tA w fun y w' => y.1 = ((2 * k : Nat) : Int) ∧ y.2.1 = 0 ∧ AutR w.heap.size w' y.2.2.1 y.2.2.2.1 (accF res.length) (res.map (·.map ofO)) ∧ Chg Nil w w' ∧ res.length ≤ B := by
  refine cayleyref21_Numbered.calls (k : Int) g2 s (base : Int) ?_
  unfold cayleyref21_Numbered.sh
  generalize hgc : (#[.int .i64 (k : Int), .int .i64 g2, .slice s.a s.n s.c] : Array Value) = gc
  refine New.mk fun b1 w1 hb1 hn1 hs1 hc1 => ?_
  refine New.mk fun b3 w2 hb3 hn3 hs3 hc3 => ?_
  refine New.mk fun b5 w3 hb5 hn5 hs5 hc5 => ?_
  have h13 := hc5.heap (hc3.heap hn1 fun h => h) fun h => h
  refine LoadT.sc (s := .int .i64) (x := (k : Int)) (by rw [cellOf h13, ← hgc]; rfl) ?_
  have hw2k : IntKind.wrap .i64 (2 * (k : Int)) = ((2 * k : Nat) : Int) := by rw [wrap64 (by omega) (by omega)]; omega
  rw [hw2k]
  refine New.mk fun b8 w4 hb8 hn8 hs8 hc8 => ?_
  refine StoreN.whole (vs := [.int .i64 ((2 * k : Nat) : Int), .int .i64 0, .slice none 0 0, .slice none 0 0]) hn8 rfl fun w5 h85 hc8' _ => ?_
  have hN : Chg Nil w3 w5 := hc8.trans hc8' (fun _ _ h => h) fun i hi he => by have he : i = b8 := he; omega
  have s1 := hc1.size
  have s3 := hc3.size
  have s5 := hc5.size
  have hml : maxLen = 9223372036854775807 := rfl
  have hNm0 : Nm w w5 b1 b3 b8 gc (2 * k) ⟨some ⟨b5, 0, none⟩, 1, 1⟩ ⟨none, 0, 0⟩ ⟨none, 0, 0⟩ ⟨none, 0, 0⟩ [base] [] [] [] :=
    { chg := ((hc1.then hc3).then hc5).then hN, ge := by omega, c1 := hN.heap h13 fun h => h, c3 := hN.heap (hc5.heap hn3 fun h => h) fun h => h, c8 := h85
      que := ⟨⟨rfl, .inr ⟨b5, 1, _, rfl, Nat.zero_le _, hN.heap hn5 fun h => h, Nat.le_refl _, by simp [maxLen], rfl, rfl⟩⟩, rfl⟩
      acc := OwnT.nil _ _ _, nxt := OwnT.nil _ _ _, len := rfl, row := fun i s r hi => by simp at hi, curr := OwnT.nil _ _ _
      own := fun k hk => by
        rcases hk with ⟨a, ha, rfl⟩ | hk | hk | hk | ⟨s, hs, _⟩
        · cases ha; dsimp only; omega
        · exact Own.nilk k hk
        · exact Own.nilk k hk
        · exact Own.nilk k hk
        · simp at hs
      ap1 := fun k hk => Own.nilk k hk, ap2 := fun s hs => by simp at hs }
  clear hn1 hn3 hn5 h13 hn8 h85
  refine LoopT.fuel (fun f y W => ∃ (i : Nat) (qs sa sn : Sl) (q : List Nat) (os : List Sl) (out : List Row), y = (at0 b1, at0 b3, qs, at0 b8, (i : Int), ()) ∧ Nm w W b1 b3 b8 gc (2 * k) qs sa sn ⟨none, 0, 0⟩ q os out [] ∧ numE k es f i q out = some res ∧ out.length = i ∧ q.Nodup ∧ (∀ v ∈ q, v < B) ∧ i ≤ q.length) K
    ⟨0, _, _, _, [base], [], [], rfl, hNm0, hf, rfl, by simp, by simpa using hbase, by simp⟩ ?_
  clear hNm0 hf
  rintro f y g W C ⟨i, qs, sa, sn, q, os, out, rfl, hG, hf, hout, hnd, hqB, hiq⟩ hC
  dsimp only
  have hqn : qs.n = q.length := by rw [hG.que.len, List.length_map]
  have hqlen := nodup_len B q hnd hqB
  cases f with
  | zero => simp [numE] at hf
  | succ f =>
  simp only [numE] at hf
  split at hf
  · rename_i hnone
    cases hf
    have hiq' : q.length ≤ i := by simpa using hnone
    refine Br.no (by rw [hqn]; omega) ?_
    refine LoadT.mk tA (x := (((2 * k : Nat) : Int), (0 : Int), sa, sn, ())) (fun j v hv => by rw [cellOf hG.c8]; simpa [Ty.cells] using hv) ?_
    refine StoreN.whole (vs := [.int .i64 ((2 * k : Nat) : Int), .int .i64 0, sa.v, sn.v]) hG.c3 rfl fun w6 h6 hc6 _ => ?_
    refine LoadT.mk tA (x := (((2 * k : Nat) : Int), (0 : Int), sa, sn, ())) (fun j v hv => by rw [cellOf h6]; simpa [Ty.cells] using hv) ?_
    have k3 : ∀ k, k = b3 → ∃ c f, W.heap[k]? = some (.cells c 27 f) := fun k hk => by subst hk; exact ⟨_, _, hG.c3⟩
    refine ⟨_, rfl, rfl, rfl, ?_, hG.chg.trans hc6 (fun _ _ h => h) fun j hj he => (by have he : j = b3 := he; have := hG.ge; omega), by omega⟩
    have hA := hG.aut
    obtain ⟨p1, p2, p3, sls, p4, p5, p6, p7⟩ := hA
    refine ⟨(OwnT.chgT hG.acc hc6 k3 (by decide)).rd, p2, p3, os, (OwnT.chgT hG.nxt hc6 k3 (by decide)).rd, by rw [hG.len, List.length_map], fun i s r hi hr => ?_, fun s hs k hk => hG.own k (.inr (.inr (.inr (.inr ⟨s, hs, hk⟩))))⟩
    rw [List.getElem?_map] at hr
    cases ho : res[i]? with
    | none => rw [ho] at hr; cases hr
    | some r' => rw [ho] at hr; cases hr; exact (OwnT.chgT (hG.row i s r' hi ho) hc6 k3 (by decide)).rd
  rename_i v hv
  have hiq' : i < q.length := (List.getElem?_eq_some_iff.1 hv).1
  refine Br.yes (by rw [hqn]; omega) ?_
  refine New.mk fun b15 W1 hb15 hn15 hs15 hc15 => ?_
  have hG1 := hG.newRow hc15 hb15 hn15
  generalize hR : rowE k es v = rowv at hf
  have hrl : rowv.length = 2 * k := by rw [← hR]; exact rowE_len _ _ _
  have hrB : ∀ t, some t ∈ rowv → t < B := fun t ht => by
    rw [← hR] at ht
    unfold rowE at ht
    obtain ⟨x, _, hx⟩ := List.mem_map.1 ht
    exact stepE_lt es v x t hes hx
  refine LoopT.mk (fun y W => ∃ (x : Nat) (qs rs : Sl) (q' : List Nat) (cur : Row), x ≤ 2 * k ∧ y = (at0 b1, at0 b3, qs, at0 b8, (i : Int), rs, (x : Int), ()) ∧ Nm w W b1 b3 b8 gc (2 * k) qs sa sn rs q' os out cur ∧ cur.length = x ∧ (bfsRow (rowv.drop x) q').1 = (bfsRow rowv q).1 ∧
      cur ++ (bfsRow (rowv.drop x) q').2 = (bfsRow rowv q).2 ∧ q'.Nodup ∧ (∀ v ∈ q', v < B) ∧ q'[i]? = some v) (fun y _ => 2 * k - y.2.2.2.2.2.2.1.toNat)
    ⟨0, qs, _, q, [], Nat.zero_le _, rfl, hG1, rfl, rfl, rfl, hnd, hqB, hv⟩ ?_
  clear hG1 hnd hqB hv hiq' hqlen hqn hG hn15 hc15 hs15
  rintro y gE W1 ⟨x, qs, rs, q', cur, hx, rfl, hG, hcl, hb1', hb2, hnd, hqB, hv⟩
  dsimp only
  have hqn : qs.n = q'.length := by rw [hG.que.len, List.length_map]
  have hqlen := nodup_len B q' hnd hqB
  have hiq' : i < q'.length := (List.getElem?_eq_some_iff.1 hv).1
  refine LoadT.sc (s := .int .i64) (x := (k : Int)) (by rw [cellOf hG.c1, ← hgc]; rfl) ?_
  rw [hw2k]
  refine Br.dec (fun hlt => ?_) (fun hge => ?_)
  · have hx2 : x < 2 * k := by omega
    have hd : Chg Nil W1 W1.drew := Chg.drew W1
    have hGd := hG.nil hd
    have hdrop : rowv.drop x = stepE es v x :: rowv.drop (x + 1) := by
      have h1 := rowE_get (k := k) (es := es) (v := v) hx2
      rw [hR] at h1
      obtain ⟨h2, h3⟩ := List.getElem?_eq_some_iff.1 h1
      rw [← h3]; exact List.drop_eq_getElem_cons h2
    rw [hdrop] at hb1' hb2
    have hwx : IntKind.wrap .i64 ((x : Int) + 1) = ((x + 1 : Nat) : Int) := by rw [wrap64 (by omega) (by omega)]; rfl
    have hmu : 2 * k - (x + 1) < 2 * k - x := by omega
    refine LoadT.mk (.agg [.int .i64, .int .i64, .sl]) (x := ((k : Int), g2, s, ())) (fun j u hu => by rw [cellOf hGd.c1, ← hgc]; simpa [Ty.cells] using hu) ?_
    refine hGd.que.rd.get (t := tI) i rfl (x := ofN v) (by rw [List.getElem?_map, hv]; rfl) ?_
    refine Ret.call (step_ret (h.chg hGd.chg fun _ _ h => h) hb v x (by omega)) ?_
    rintro _ W2 ⟨rfl, hc2⟩
    have hG2 := hGd.nil hc2
    -- behind the search
    refine Join.by' (fun y V => ∃ (qs2 : Sl) (q2 : List Nat) (o : Option Nat), y = (at0 b1, at0 b3, qs2, at0 b8, (i : Int), rs, (x : Int), ofO o, ()) ∧ Nm w V b1 b3 b8 gc (2 * k) qs2 sa sn rs q2 os out cur ∧ (bfsRow (rowv.drop (x + 1)) q2).1 = (bfsRow rowv q).1 ∧
        cur ++ o :: (bfsRow (rowv.drop (x + 1)) q2).2 = (bfsRow rowv q).2 ∧ q2.Nodup ∧ (∀ v ∈ q2, v < B) ∧ q2[i]? = some v) ?_ ?_
    · rintro y V g3 ⟨qs2, q2, o, rfl, hV, e1, e2, e3, e4, e5⟩
      dsimp only
      refine New.mk fun b42 V1 hb42 hn42 _ hc42 => ?_
      have hV1 := hV.nil hc42
      refine OwnT.append (t := tI) (m := 1) ok85 rfl (by decide) hV1.curr [ofO o] rfl (by decide) (fun j u hu => by rw [cellOf hn42]; simpa [Ty.cells] using hu) ?_ ?_ fun rs' V2 ho2 hcA hownA => ?_
      · rw [List.length_map]; omega
      · rw [List.length_map]; omega
      have hV2 := hV1.setCur (cur' := cur ++ [o]) hcA (by rw [List.map_append]; exact ho2) hownA
      rw [hwx]
      exact ⟨⟨x + 1, qs2, rs', q2, cur ++ [o], hx2, rfl, hV2, by simp [hcl], e1, by rw [List.append_assoc]; exact e2, e3, e4, e5⟩, hmu⟩
    · intro J hJ
      cases hst : stepE es v x with
      | none =>
        rw [hst] at hb1' hb2
        simp only [bfsRow] at hb1' hb2
        refine Br.no (by show ¬ ((-1 : Int) ≥ 0); omega) (hJ _ _ ⟨qs, q', none, rfl, hG2, hb1', hb2, hnd, hqB, hv⟩)
      | some t =>
        rw [hst] at hb1' hb2
        simp only [bfsRow] at hb1' hb2
        have htB := stepE_lt es v x t hes hst
        refine Br.yes (by show ((t : Int) ≥ 0); omega) ?_
        refine LoopT.mk (fun y V => ∃ (kk : Nat) (at' : Int), kk ≤ q'.length ∧ y = (at0 b1, at0 b3, qs, at0 b8, (i : Int), rs, (x : Int), (t : Int), at', (kk : Int), ()) ∧ V = W2 ∧ at' = (if t ∈ q'.take kk then ((q'.idxOf t : Nat) : Int) else -1)) (fun y _ => q'.length - y.2.2.2.2.2.2.2.2.2.1.toNat)
          ⟨0, -1, Nat.zero_le _, rfl, rfl, by simp⟩ ?_
        rintro y g4 V ⟨kk, at', hkk, rfl, hV, hat⟩
        rw [hV]; clear hV
        dsimp only
        refine Br.dec (fun hlt3 => ?_) (fun hge3 => ?_)
        · have hlt3' : kk < q'.length := by omega
          refine hG2.que.rd.get (t := tI) kk rfl (x := ofN q'[kk]) (by rw [List.getElem?_map, List.getElem?_eq_getElem hlt3']; rfl) ?_
          rw [wrap64 (x := (kk : Int) + 1) (by omega) (by omega)]
          have hmu3 : q'.length - (kk + 1) < q'.length - kk := by omega
          have htk : q'.take (kk + 1) = q'.take kk ++ [q'[kk]] := take_snoc hlt3'
          refine Br.mk (fun heq => ?_) (fun hne => ?_)
          · have heq' : q'[kk] = t := by have : ((q'[kk] : Nat) : Int) = (t : Int) := by simpa [ofN] using heq
                                         omega
            refine ⟨⟨kk + 1, (kk : Int), hlt3', rfl, rfl, ?_⟩, hmu3⟩
            rw [htk, if_pos (by simp [heq'])]
            have hidx : q'.idxOf t = kk := by
              rw [← heq']; exact hnd.idxOf_getElem kk hlt3'
            rw [hidx]
          · have hne' : ¬ q'[kk] = t := fun he => by rw [he] at hne; simp [ofN] at hne
            refine ⟨⟨kk + 1, at', hlt3', rfl, rfl, ?_⟩, hmu3⟩
            rw [hat, htk]
            have : (t ∈ q'.take kk ++ [q'[kk]]) ↔ t ∈ q'.take kk := by
              simp only [List.mem_append, List.mem_singleton]
              exact ⟨fun h => h.elim id fun h => absurd h.symm hne', .inl⟩
            simp only [this]
        · have hkn : kk = q'.length := by omega
          rw [hkn, List.take_length] at hat
          by_cases hin : t ∈ q'
          · rw [if_pos hin] at hat hb1' hb2
            refine Br.no (by rw [hat]; omega) (hJ _ _ ⟨qs, q', some (q'.idxOf t), by rw [hat]; rfl, hG2, hb1', hb2, hnd, hqB, hv⟩)
          · rw [if_neg hin] at hat hb1' hb2
            refine Br.yes (by rw [hat]; decide) ?_
            refine New.mk fun b37 V1 hb37 hn37 _ hc37 => ?_
            have hV1 := hG2.nil hc37
            refine OwnT.append (t := tI) (m := 1) ok85 rfl (by decide) hV1.que [ofN t] rfl (by decide) (fun j u hu => by rw [cellOf hn37]; simpa [Ty.cells, ofN] using hu) ?_ ?_ fun qs' V2 ho2 hcA hownA => ?_
            · rw [List.length_map]; omega
            · rw [List.length_map]; omega
            have hV2 := hV1.setQue (q' := q' ++ [t]) hcA (by unfold OwnN; rw [List.map_append]; exact ho2) hownA
            rw [hqn]
            refine hJ _ _ ⟨qs', q' ++ [t], some q'.length, rfl, hV2, hb1', hb2, ?_, ?_, ?_⟩
            · rw [List.nodup_append]
              exact ⟨hnd, by simp, fun a ha b hb => by simp only [List.mem_singleton] at hb; subst hb; exact fun he => hin (he ▸ ha)⟩
            · intro u hu
              rcases List.mem_append.1 hu with hu | hu
              · exact hqB u hu
              · simp only [List.mem_singleton] at hu; subst hu; exact htB
            · rw [List.getElem?_append_left hiq']; exact hv
  · have hx2 : x = 2 * k := by omega
    have hdr : rowv.drop x = [] := List.drop_eq_nil_of_le (by omega)
    rw [hdr] at hb1' hb2
    simp only [bfsRow, List.append_nil] at hb1' hb2
    rw [← hb1', ← hb2] at hf
    have hol : os.length ≤ B := by rw [hG.len, hout]; omega
    refine LoadT.sc (s := .sl) (x := sn) (by rw [cellOf hG.c8]; rfl) ?_
    refine New.mk fun b47 V1 hb47 hn47 _ hc47 => ?_
    have hG1 := hG.nil hc47
    refine OwnT.append (t := .sc .sl) (m := 1) ok25 rfl (by decide) hG1.nxt [rs] rfl (by decide) (fun j u hu => by rw [cellOf hn47]; simpa [Ty.cells] using hu) ?_ ?_ fun sn' V2 hn2 hcN hownN => ?_
    · omega
    · omega
    have k1 := Rf.OwnT.kind hG1.nxt
    have h82 := Chg.heapT hcN k1 hG1.c8 (by decide)
    refine Store1.at h82 3 (by show 3 < 4; decide) rfl fun V3 h83 hc3' _ => ?_
    refine LoadT.sc (s := .sl) (x := sa) (by rw [cellOf h83]; rfl) ?_
    refine New.mk fun b53 V4 hb53 hn53 _ hc53 => ?_
    have k2 : ∀ k, k = b8 → ∃ c f, V2.heap[k]? = some (.cells c 27 f) := fun k hk => by subst hk; exact ⟨_, _, h82⟩
    have acc3 : OwnT V3 4 (.sc .bool) sa (accF out.length) := OwnT.chgT (OwnT.chgT hG1.acc hcN k1 (by decide)) hc3' k2 (by decide)
    have acc4 := OwnT.chg acc3 hc53 fun _ _ h => h
    have hib : (((i : Nat) : Int) == 0) = (out.length == 0) := by rw [hout, Bool.eq_iff_iff]; simp
    refine OwnT.append (t := .sc .bool) (m := 1) ok24 rfl (by decide) acc4 [out.length == 0] rfl (by decide) (fun j u hu => by rw [cellOf hn53, hib]; simpa [Ty.cells] using hu) ?_ ?_ fun sa' V5 ha5 hcA hownA => ?_
    · simp [accF]; omega
    · simp [accF]; omega
    have acck := Rf.OwnT.kind acc4
    have h84 := hc53.heap h83 fun h => h
    have h85' := Chg.heapT hcA acck h84 (by decide)
    refine Store1.at h85' 2 (by show 2 < 4; decide) rfl fun V6 h86 hc6 _ => ?_
    have c23 : Chg (· = b8) V2 V4 := hc3'.then hc53.nil
    have hz2 := hc3'.size
    rw [← accF_succ] at ha5
    have hfin := hG1.endRow hcN hn2 hownN c23 h84 hcA ha5 hownA hc6 h86
    rw [wrap64 (x := (i : Int) + 1) (by omega) (by omega)]
    refine hC _ _ f (by omega) ⟨i + 1, qs, sa', sn', q', os ++ [rs], out ++ [cur], rfl, hfin, hf, by simp [hout], hnd, hqB, hiq'⟩
end Go.Proofs.YtffdjfkekdoeaaaDoor.Rf
end
section
/- The contracts of the reference's Is and Check. -/
set_option linter.unusedVariables false
set_option linter.unusedSimpArgs false
set_option maxRecDepth 8000
set_option maxHeartbeats 4000000
namespace Go.Proofs.YtffdjfkekdoeaaaDoor.Rf
open Fw Wd Fo

theorem bfsRow_grow : ∀ (row : Row) (q : List Nat), q.length ≤ (bfsRow row q).1.length
  | [], q => Nat.le_refl _
  | none :: l, q => bfsRow_grow l q
  | some t :: l, q => by
    simp only [bfsRow]
    split
    · exact bfsRow_grow l q
    · have := bfsRow_grow l (q ++ [t]); rw [List.length_append] at this; exact Nat.le_trans (Nat.le_add_right _ _) this
theorem numE_some {k : Nat} {es : List Ed} {B : Nat} (hes : ∀ e ∈ es, e.1 < B ∧ e.2.2 < B) : ∀ (K i : Nat) (q : List Nat) (out : List Row), q.Nodup → (∀ v ∈ q, v < B) → i ≤ q.length → B - i < K → ∃ res, numE k es K i q out = some res
  | 0, i, q, out, _, _, _, h => absurd h (Nat.not_lt_zero _)
  | K + 1, i, q, out, hn, hq, hi, hK => by
    simp only [numE]
    split
    · exact ⟨_, rfl⟩
    · rename_i v hv
      have hlt := (List.getElem?_eq_some_iff.1 hv).1
      have hl := nodup_len B q hn hq
      obtain ⟨h1, h2⟩ := bfsRow_ok (B := B) (rowE k es v) q (fun t ht => by
        unfold rowE at ht
        obtain ⟨x, _, hx⟩ := List.mem_map.1 ht
        exact stepE_lt es v x t hes hx) hn hq
      have h3 := bfsRow_grow (rowE k es v) q
      exact numE_some hes K (i + 1) _ _ h1 h2 (by omega) (by omega)
theorem bfsRow_len : ∀ (row : Row) (q : List Nat), (bfsRow row q).2.length = row.length
  | [], q => rfl
  | none :: l, q => by simp [bfsRow, bfsRow_len l q]
  | some t :: l, q => by
    simp only [bfsRow]
    split <;> simp [bfsRow_len l]
theorem numE_rows {k : Nat} {es : List Ed} : ∀ (K i : Nat) (q : List Nat) (out res : List Row), (∀ r ∈ out, r.length = 2 * k) → numE k es K i q out = some res → ∀ r ∈ res, r.length = 2 * k
  | 0, _, _, _, _, _, h => by simp [numE] at h
  | K + 1, i, q, out, res, ho, h => by
    simp only [numE] at h
    split at h
    · cases h; exact ho
    · refine numE_rows K _ _ _ _ (fun r hr => ?_) h
      rcases List.mem_append.1 hr with hr | hr
      · exact ho r hr
      · simp only [List.mem_singleton] at hr; subst hr; rw [bfsRow_len, rowE_len]
/-- The automaton of a numbering. -/
def autE (k : Nat) (res : List Row) : Aut := ⟨((2 * k : Nat) : Int), 0, accF res.length, res.map (·.map ofO)⟩
def numR (k : Nat) (next : List (List Int)) : List Row := (numE k (graphL k 0 next) (next.length + 1) 0 [0] []).getD []
theorem graphR_mem {s : Nat} {row : List Int} : ∀ (n i : Nat) (e : Ed), e ∈ graphR s row i n → e.1 = s ∧ ∃ j, i ≤ j ∧ j < i + n ∧ e.2.1 = 2 * j ∧ 0 ≤ row.getD (2 * j) 0 ∧ e.2.2 = (row.getD (2 * j) 0).toNat
  | 0, i, e, h => by simp [graphR] at h
  | n + 1, i, e, h => by
    simp only [graphR] at h
    rcases List.mem_append.1 h with h | h
    · split at h
      · rename_i hp
        simp only [List.mem_singleton] at h
        subst h
        exact ⟨rfl, i, Nat.le_refl _, by omega, rfl, hp, rfl⟩
      · simp at h
    · obtain ⟨h1, j, h2, h3, h4⟩ := graphR_mem n (i + 1) e h
      exact ⟨h1, j, by omega, by omega, h4⟩
theorem graphL_mem {k : Nat} : ∀ (l : List (List Int)) (s : Nat) (e : Ed), e ∈ graphL k s l → ∃ (i : Nat) (row : List Int), l[i]? = some row ∧ e.1 = s + i ∧ ∃ j, j < k ∧ e.2.1 = 2 * j ∧ 0 ≤ row.getD (2 * j) 0 ∧ e.2.2 = (row.getD (2 * j) 0).toNat
  | [], s, e, h => by simp [graphL] at h
  | row :: l, s, e, h => by
    simp only [graphL] at h
    rcases List.mem_append.1 h with h | h
    · obtain ⟨h1, j, _, h2, h3⟩ := graphR_mem k 0 e h
      exact ⟨0, row, rfl, by omega, j, by omega, h3⟩
    · obtain ⟨i, r, h1, h2, h3⟩ := graphL_mem l (s + 1) e h
      exact ⟨i + 1, r, by simpa using h1, by omega, h3⟩
theorem graphL_lt {k : Nat} {next : List (List Int)} (hrow : ∀ r ∈ next, ∀ t ∈ r, t < (next.length : Int)) (hpos : 0 < next.length) : ∀ e ∈ graphL k 0 next, e.1 < next.length ∧ e.2.2 < next.length := fun e he => by
  obtain ⟨i, row, h1, h2, j, h3, h4, h5, h6⟩ := graphL_mem next 0 e he
  have hi := (List.getElem?_eq_some_iff.1 h1).1
  refine ⟨by omega, ?_⟩
  rw [h6]
  by_cases hx : 2 * j < row.length
  · have := hrow row (List.mem_of_getElem? h1) row[2 * j] (List.getElem_mem hx)
    rw [getD_get hx] at h5 ⊢
    omega
  · rw [List.getD_eq_getElem?_getD, List.getElem?_eq_none (by omega)]; simpa using hpos
/-- What the reference asks of a row. -/
def rowLocal (next : List (List Int)) (s : Nat) (row : List Int) : Bool := (edgesFrom 0 row).all fun e => getN next e.2.1.toNat (e.1.toNat ^^^ 1) == (s : Int)
def localS (acc : List Bool) (next : List (List Int)) (s : Nat) (row : List Int) : Bool := rowLocal next s row && (s == 0 || (decide (2 ≤ degF (row.map toO)) && !acc.getD s false))
def localAll (acc : List Bool) (next : List (List Int)) : Nat → List (List Int) → Bool
  | _, [] => true
  | s, row :: l => localS acc next s row && localAll acc next (s + 1) l
def isM (k : Int) (a : Aut) : Bool :=
  decide (fsaF a.sym a.start a.acc a.next = 0) && (decide (a.sym = 2 * k) && (decide (1 ≤ a.acc.length) && (decide (a.acc.length ≤ 2000) && (decide (a.start = 0) && (a.acc.getD 0 false && (localAll a.acc a.next 0 a.next && sameF a (autE k.toNat (numR k.toNat a.next))))))))
theorem degF_toO_snoc (row : List Int) (t : Int) : degF ((row ++ [t]).map toO) = degF (row.map toO) + (if 0 ≤ t then 1 else 0) := by
  rw [List.map_append, List.map_cons, List.map_nil, degF_snoc]
  congr 1
  unfold toO
  split <;> split <;> first | rfl | omega | simp_all
theorem localAll_false {acc : List Bool} {next : List (List Int)} : ∀ (l : List (List Int)) (s i : Nat) (row : List Int), l[i]? = some row → localS acc next (s + i) row = false → localAll acc next s l = false
  | [], s, i, row, h, _ => by simp at h
  | r :: l, s, 0, row, h, hf => by
    simp only [List.getElem?_cons_zero, Option.some.injEq] at h
    subst h
    simp only [localAll]
    rw [Nat.add_zero] at hf
    rw [hf]; rfl
  | r :: l, s, i + 1, row, h, hf => by
    simp only [localAll]
    rw [localAll_false l (s + 1) i row (by simpa using h) (by rw [show s + 1 + i = s + (i + 1) by omega]; exact hf), Bool.and_false]
theorem Is_ret21 {w : World} {k : Int} (hk : 1 ≤ k ∧ k ≤ 8) {x : Int × Int × Sl × Sl × Unit} {a : Aut} (ha : AutIn w x a) :
    Ret Tryd.prog 57 #[.int .i64 k, .agg #[.int .i64 x.1, .int .i64 x.2.1, x.2.2.1.v, x.2.2.2.1.v]] (.sc .bool) w fun z w' => z = isM k a ∧ Chg Nil w w' := by
  obtain ⟨x1, x2, sa, sn, _⟩ := x
  refine cayleyref21_Is.calls k x1 x2 sa sn ?_
  unfold cayleyref21_Is.sh
  have a1 := ha.sym
  have a2 := ha.start
  simp only at a1 a2
  obtain ⟨hra, _, _, sls, hrn, hsl, hrws, _⟩ := id ha.rd
  have hra : RdT w (.sc .bool) sa a.acc := hra
  have hrn : RdT w (.sc .sl) sn sls := hrn
  have e1 : sa.n = a.acc.length := hra.len
  have e3 : sn.n = a.next.length := by rw [hrn.len, hsl]
  refine New.mk fun b1 w1 hb1 hn1 hs1 hc1 => ?_
  have l0 : ∀ {W : World}, Chg Nil w1 W → W.heap[b1]? = some (.cells #[.int .i64 x1, .int .i64 x2, sa.v, sn.v] 27 (0, 0)) := fun hW => hW.heap hn1 fun h => h
  have ldA : ∀ {W : World}, Chg Nil w1 W → ∀ {K : tA.den → Prop}, K (x1, x2, sa, sn, ()) → LoadT tA W (Addr.mk b1 0 none) K := fun hW K kk => LoadT.mk tA (fun j v hv => by rw [cellOf (l0 hW)]; simpa [Ty.cells] using hv) kk
  refine LoadT.sc (s := .sl) (x := sa) (by rw [cellOf hn1]; rfl) ?_
  rw [e1]
  obtain ⟨nk, rfl⟩ := Int.eq_ofNat_of_zero_le (show 0 ≤ k by omega)
  have hw2k : IntKind.wrap .i64 (2 * (nk : Int)) = ((2 * nk : Nat) : Int) := by rw [wrap64 (by omega) (by omega)]; omega
  have retF : ∀ {W : World}, isM (nk : Int) a = false → Chg Nil w1 W → ∃ z : Bool, Ending.returned (.bool false) = .returned ((Ty.sc .bool).val z) ∧ z = isM (nk : Int) a ∧ Chg Nil w W := fun h hW => ⟨false, rfl, h.symm, hc1.then hW⟩
  refine Join.by' (fun y W => y = ((nk : Int), at0 b1, ((a.acc.length : Nat) : Int), ()) ∧ Chg Nil w1 W ∧ fsaF a.sym a.start a.acc a.next = 0 ∧ a.sym = 2 * (nk : Int) ∧ 1 ≤ a.acc.length ∧ a.acc.length ≤ 2000 ∧ a.start = 0 ∧ a.acc.getD 0 false = true) ?_ ?_
  · rintro y W g ⟨rfl, hcW, g1, g2, g3, g4, g5, g6⟩
    dsimp only
    obtain ⟨hla, hrows⟩ := fsa_spec g1
    have hI : isM (nk : Int) a = (localAll a.acc a.next 0 a.next && sameF a (autE nk (numR nk a.next))) := by
      unfold isM
      rw [decide_eq_true g1, decide_eq_true g2, decide_eq_true g3, decide_eq_true g4, decide_eq_true g5, g6]
      simp
    refine LoopT.mk (fun y W => ∃ s : Nat, s ≤ a.next.length ∧ y = ((nk : Int), at0 b1, ((a.acc.length : Nat) : Int), (s : Int), ()) ∧ Chg Nil w1 W ∧ localAll a.acc a.next s (a.next.drop s) = localAll a.acc a.next 0 a.next) (fun y _ => a.next.length - y.2.2.2.1.toNat) ⟨0, Nat.zero_le _, rfl, hcW, rfl⟩ ?_
    clear hcW
    rintro y gE W ⟨s, hs, rfl, hc, hloc⟩
    dsimp only
    refine Br.dec (fun hlt => ?_) (fun hge => ?_)
    · have hlt' : s < a.next.length := by omega
      have hdrop : a.next.drop s = a.next[s] :: a.next.drop (s + 1) := List.drop_eq_getElem_cons hlt'
      have hrow' : a.next[s]? = some a.next[s] := List.getElem?_eq_getElem hlt'
      obtain ⟨hrl, hrv⟩ := hrows _ (List.getElem_mem hlt')
      generalize a.next[s] = row at hdrop hrow' hrl hrv
      have hrl' : row.length = 2 * nk := by omega
      obtain ⟨rsl, hrsl⟩ : ∃ rsl, sls[s]? = some rsl := ⟨_, List.getElem?_eq_getElem (by rw [hsl]; exact hlt')⟩
      have hrr := hrws s rsl row hrsl hrow'
      rw [hdrop] at hloc
      simp only [localAll] at hloc
      have hbad : localS a.acc a.next s row = false → isM (nk : Int) a = false := fun h => by
        rw [hI, localAll_false a.next 0 s row hrow' (by rw [Nat.zero_add]; exact h), Bool.false_and]
      refine LoopT.mk (fun y W => ∃ x : Nat, x ≤ 2 * nk ∧ y = ((nk : Int), at0 b1, ((a.acc.length : Nat) : Int), (s : Int), ((degF ((row.take x).map toO) : Nat) : Int), (x : Int), ()) ∧ Chg Nil w1 W ∧ rowLocal a.next s (row.take x) = true) (fun y _ => 2 * nk - y.2.2.2.2.2.1.toNat)
        ⟨0, Nat.zero_le _, rfl, hc, rfl⟩ ?_
      clear hc
      rintro y gE2 W ⟨x, hx, rfl, hc, hrl2⟩
      dsimp only
      rw [hw2k]
      refine Br.dec (fun hlt2 => ?_) (fun hge2 => ?_)
      · have hx2 : x < 2 * nk := by omega
        have hxr : x < row.length := by omega
        have hrx : row[x]? = some row[x] := List.getElem?_eq_getElem hxr
        have htk : row.take (x + 1) = row.take x ++ [row[x]] := take_snoc hxr
        have htv := hrv row[x] (List.getElem_mem hxr)
        have hlen' : (row.take x).length = x := by simp; omega
        have hE : edgesFrom 0 (row.take (x + 1)) = edgesFrom 0 (row.take x) ++ edgesFrom x [row[x]] := by rw [htk, edgesFrom_append, hlen', Nat.zero_add]
        have hdeg : degF ((row.take x).map toO) ≤ x := Nat.le_trans (List.length_filter_le _ _) (by simp; omega)
        have hEr : edgesFrom 0 row = edgesFrom 0 (row.take (x + 1)) ++ edgesFrom (x + 1) (row.drop (x + 1)) := by
          conv => lhs; rw [← List.take_append_drop (x + 1) row]
          rw [edgesFrom_append]; simp; congr 1; omega
        generalize row[x] = t at *
        have hc01 := hc1.then hc
        refine LoadT.sc (s := .sl) (x := sn) (by rw [cellOf (l0 hc)]; rfl) ?_
        refine (hrn.chg hc01 fun _ _ h => h).get (t := .sc .sl) s rfl hrsl ?_
        refine (hrr.chg hc01 fun _ _ h => h).get (t := tI) x rfl hrx ?_
        have hmu : 2 * nk - (x + 1) < 2 * nk - x := by omega
        rw [wrap64 (x := (x : Int) + 1) (by omega) (by omega), wrap64 (x := ((degF ((row.take x).map toO) : Nat) : Int) + 1) (by omega) (by omega)]
        refine Br.dec (fun hpos => ?_) (fun hneg => ?_)
        · have hpos : t ≥ 0 := hpos
          obtain ⟨nt, rfl⟩ := Int.eq_ofNat_of_zero_le hpos
          have hE1 : edgesFrom x [(nt : Int)] = [((x : Int), (nt : Int), ())] := by simp [edgesFrom]
          rw [hE1] at hE
          have hntl : nt < a.next.length := by omega
          have hrowT : a.next[nt]? = some a.next[nt] := List.getElem?_eq_getElem hntl
          obtain ⟨hrTl, _⟩ := hrows _ (List.getElem_mem hntl)
          obtain ⟨slT, hslT⟩ : ∃ slT, sls[nt]? = some slT := ⟨_, List.getElem?_eq_getElem (by rw [hsl]; exact hntl)⟩
          have hrT := hrws nt slT _ hslT hrowT
          have hx1 : x ^^^ 1 < a.next[nt].length := by have := xor_even (x := x) (n := nk) (by omega) hx2; omega
          have hgN : getN a.next nt (x ^^^ 1) = a.next[nt][x ^^^ 1] := by unfold getN; rw [getD_get hntl, getD_get hx1]
          refine LoadT.sc (s := .sl) (x := sn) (by rw [cellOf (l0 hc)]; rfl) ?_
          refine (hrn.chg hc01 fun _ _ h => h).get (t := .sc .sl) nt rfl hslT ?_
          rw [xor1 x (by omega)]
          refine (hrT.chg hc01 fun _ _ h => h).get (t := tI) (x ^^^ 1) rfl (x := a.next[nt][x ^^^ 1]) (List.getElem?_eq_getElem hx1) ?_
          refine Br.mk (fun hne => retF (hbad ?_) hc) (fun heq => ?_)
          · have hne' : a.next[nt][x ^^^ 1] ≠ (s : Int) := by simpa using hne
            unfold localS rowLocal
            have : (edgesFrom 0 row).all (fun e => getN a.next e.2.1.toNat (e.1.toNat ^^^ 1) == (s : Int)) = false := by
              rw [hEr, hE, List.all_append, List.all_append]
              simp only [List.all_cons, List.all_nil, Bool.and_true, Int.toNat_natCast, hgN]
              rw [beq_eq_false_iff_ne.2 hne']; simp
            rw [this, Bool.false_and]
          · have heq' : a.next[nt][x ^^^ 1] = (s : Int) := by simpa using heq
            refine ⟨⟨x + 1, hx2, ?_, hc, ?_⟩, hmu⟩
            · rw [htk, degF_toO_snoc, if_pos (by omega)]; rfl
            · unfold rowLocal at hrl2 ⊢
              rw [hE, List.all_append, hrl2]
              simp only [List.all_cons, List.all_nil, Bool.and_true, Int.toNat_natCast, hgN, heq', Bool.true_and]
              exact beq_self_eq_true _
        · have hneg : ¬ t ≥ 0 := hneg
          have hE1 : edgesFrom x [t] = [] := by simp only [edgesFrom]; rw [if_neg (by omega)]
          rw [hE1, List.append_nil] at hE
          refine ⟨⟨x + 1, hx2, ?_, hc, ?_⟩, hmu⟩
          · rw [htk, degF_toO_snoc, if_neg (by omega)]; rfl
          · unfold rowLocal at hrl2 ⊢
            rw [hE]; exact hrl2
      · have hx2 : x = row.length := by omega
        rw [hx2, List.take_length] at hrl2
        have htake : row.take x = row := by rw [hx2, List.take_length]
        rw [htake]
        rw [wrap64 (x := (s : Int) + 1) (by omega) (by omega)]
        have next' : localS a.acc a.next s row = true → (∃ s1 : Nat, s1 ≤ a.next.length ∧ (((nk : Int), at0 b1, ((a.acc.length : Nat) : Int), (s : Int) + 1, ()) : Int × Addr × Int × Int × Unit) = ((nk : Int), at0 b1, ((a.acc.length : Nat) : Int), (s1 : Int), ()) ∧ Chg Nil w1 W ∧ localAll a.acc a.next s1 (a.next.drop s1) = localAll a.acc a.next 0 a.next) ∧ a.next.length - ((s : Int) + 1).toNat < a.next.length - ((s : Int)).toNat := fun h => by
          rw [h, Bool.true_and] at hloc
          exact ⟨⟨s + 1, hlt', rfl, hc, hloc⟩, by omega⟩
        refine Br.dec (fun hpos => ?_) (fun hz => ?_)
        · have hpos : (s : Int) > 0 := hpos
          have hs0 : (s == 0) = false := by simp; omega
          refine Br.dec (fun hd2 => Br.t rfl (retF (hbad ?_) hc)) (fun hd2 => ?_)
          · have hd2 : ((degF (row.map toO) : Nat) : Int) < 2 := hd2
            unfold localS
            rw [hrl2, hs0, decide_eq_false (by omega)]; rfl
          · have hd2 : ¬ ((degF (row.map toO) : Nat) : Int) < 2 := hd2
            have hsacc : s < a.acc.length := by omega
            refine LoadT.sc (s := .sl) (x := sa) (by rw [cellOf (l0 hc)]; rfl) ?_
            refine (hra.chg (hc1.then hc) fun _ _ h => h).get (t := .sc .bool) s rfl (x := a.acc[s]) (List.getElem?_eq_getElem hsacc) ?_
            have hgd : a.acc.getD s false = a.acc[s] := getD_get hsacc
            refine Br.mk (fun ht => retF (hbad ?_) hc) (fun hf => next' ?_)
            · unfold localS
              rw [hrl2, hs0, hgd, ht]; simp
            · unfold localS
              rw [hrl2, hs0, hgd, hf, decide_eq_true (by omega)]; rfl
        · have hz : ¬ (s : Int) > 0 := hz
          refine Br.f rfl (next' ?_)
          have hs0 : (s == 0) = true := by simp; omega
          unfold localS
          rw [hrl2, hs0]; rfl
    · have hsn : s = a.next.length := by omega
      rw [hsn, List.drop_eq_nil_of_le (Nat.le_refl _)] at hloc
      simp only [localAll] at hloc
      rw [← hloc, Bool.true_and] at hI
      have hd : Chg Nil W W.drew := Chg.drew W
      have hcd := hc.then hd
      refine ⟨fun V => Chg Nil w1 V, hcd, ?_⟩
      have ldS : ∀ {K : tA.den → Prop}, K (x1, x2, sa, sn, ()) → LoadS (fun V => Chg Nil w1 V) tA (at0 b1) K := fun kk => LoadS.mk tA (fun V hV j v hv => by rw [cellOf (l0 hV)]; simpa [Ty.cells] using hv) kk
      refine ldS (ldS ?_)
      have haD := ha.nil (hc1.then hcd)
      have hrB : ∀ r ∈ a.next, ∀ t ∈ r, t < (a.next.length : Int) := fun r hr t ht => ((hrows r hr).2 t ht).2
      refine Ret.call (GraphOf_ret (k := nk) (x := (x1, x2, sa, sn, ())) (by omega) haD (by omega) (fun r hr => by have := (hrows r hr).1; omega)) ?_
      rintro ⟨y1, y2, ys, _⟩ W2 ⟨q1, q2, q3, hc2, q5⟩
      have q1 : y1 = (nk : Int) := q1
      subst q1
      refine ⟨hcd.then hc2, ?_⟩
      have hesl := graphL_len nk a.next 0
      have hesl2 : nk * a.next.length ≤ 8 * 2000 := Nat.mul_le_mul (by omega) (by omega)
      have hlt := graphL_lt (k := nk) hrB (by omega)
      obtain ⟨res, hres⟩ := numE_some (k := nk) hlt (a.next.length + 1) 0 [0] [] (by simp) (by simp; omega) (by simp) (by omega)
      have hnumR : numR nk a.next = res := by unfold numR; rw [hres]; rfl
      refine Ret.call (Numbered_ret (k := nk) (by omega) (base := 0) (B := a.next.length) q3.rd (by omega) (by omega) hlt (by omega) hres) ?_
      rintro ⟨z1, z2, zs, zn, _⟩ W3 ⟨p1, p2, p3, hc3, p5⟩
      refine ⟨(hcd.then hc2).then hc3, ?_⟩
      have hB2 : AutIn W3 (z1, z2, zs, zn, ()) (autE nk res) := ⟨p1, p2, p3.zero, by show (accF res.length).length ≤ _; simp [accF, maxLen]; omega, by show (res.map _).length ≤ _; simp [maxLen]; omega, fun r hr => ?_⟩
      · refine Ret.call (Same_ret (x := (x1, x2, sa, sn, ())) ((haD.nil hc2).nil hc3) hB2) ?_
        rintro _ W4 ⟨rfl, hc4⟩
        exact ⟨((hcd.then hc2).then hc3).then hc4, _, rfl, by rw [hI, hnumR], hc1.then (((hcd.then hc2).then hc3).then hc4)⟩
      · obtain ⟨r', hr', rfl⟩ := List.mem_map.1 hr
        rw [List.length_map, numE_rows _ _ _ _ _ (by simp) hres r' hr']
        simp only [maxLen]; omega
  · intro J hJ
    refine ldA (Chg.refl _) ?_
    refine Ret.call (Check6_ret (x := (x1, x2, sa, sn, ())) (ha.nil hc1)) ?_
    rintro _ W ⟨rfl, hc⟩
    refine Br.mk (fun h => Br.t rfl (retF ?_ hc)) (fun g1 => ?_)
    · have : ¬ fsaF a.sym a.start a.acc a.next = 0 := by simpa using h
      unfold isM; rw [decide_eq_false this]; rfl
    have g1 : fsaF a.sym a.start a.acc a.next = 0 := by simpa using g1
    have i1 : isM (nk : Int) a = (decide (a.sym = 2 * (nk : Int)) && (decide (1 ≤ a.acc.length) && (decide (a.acc.length ≤ 2000) && (decide (a.start = 0) && (a.acc.getD 0 false && (localAll a.acc a.next 0 a.next && sameF a (autE nk (numR nk a.next)))))))) := by
      unfold isM; rw [decide_eq_true g1, Bool.true_and]; rfl
    refine LoadT.sc (s := .int .i64) (x := x1) (by rw [cellOf (l0 hc)]; rfl) ?_
    rw [hw2k, a1]
    refine Br.mk (fun h => Br.t rfl (retF ?_ hc)) (fun g2 => ?_)
    · have : ¬ a.sym = 2 * (nk : Int) := by have : ¬ a.sym = ((2 * nk : Nat) : Int) := by simpa using h
                                            omega
      rw [i1, decide_eq_false this]; rfl
    have g2 : a.sym = 2 * (nk : Int) := by have : a.sym = ((2 * nk : Nat) : Int) := by simpa using g2
                                           omega
    rw [decide_eq_true g2, Bool.true_and] at i1
    refine Br.dec (fun h => Br.t rfl (retF ?_ hc)) (fun g3 => ?_)
    · have h : ((a.acc.length : Nat) : Int) < 1 := h
      rw [i1, decide_eq_false (by omega)]; rfl
    have g3 : ¬ ((a.acc.length : Nat) : Int) < 1 := g3
    have g3 : 1 ≤ a.acc.length := by omega
    rw [decide_eq_true g3, Bool.true_and] at i1
    refine Br.dec (fun h => Br.t rfl (retF ?_ hc)) (fun g4 => ?_)
    · have h : ((a.acc.length : Nat) : Int) > 2000 := h
      rw [i1, decide_eq_false (by omega)]; rfl
    have g4 : ¬ ((a.acc.length : Nat) : Int) > 2000 := g4
    have g4 : a.acc.length ≤ 2000 := by omega
    rw [decide_eq_true g4, Bool.true_and] at i1
    refine LoadT.sc (s := .int .i64) (x := x2) (by rw [cellOf (l0 hc)]; rfl) ?_
    rw [a2]
    refine Br.mk (fun h => Br.t rfl (retF ?_ hc)) (fun g5 => ?_)
    · have : ¬ a.start = 0 := by simpa using h
      rw [i1, decide_eq_false this]; rfl
    have g5 : a.start = 0 := by simpa using g5
    rw [decide_eq_true g5, Bool.true_and] at i1
    refine LoadT.sc (s := .sl) (x := sa) (by rw [cellOf (l0 hc)]; rfl) ?_
    refine (hra.chg (hc1.then hc) fun _ _ h => h).get (t := .sc .bool) 0 rfl (x := a.acc.getD 0 false) (by rw [getD_get (show 0 < a.acc.length by omega)]; exact List.getElem?_eq_getElem _) ?_
    refine Br.mk (fun h => retF ?_ hc) (fun g6 => hJ _ _ ⟨rfl, hc, g1, g2, g3, g4, g5, by simpa using g6⟩)
    have : a.acc.getD 0 false = false := by simpa using h
    rw [i1, this]; rfl
theorem Check_ret21 {w : World} {k : Int} {x : Int × Int × Sl × Sl × Unit} {a : Aut} (ha : AutIn w x a) :
    Ret Tryd.prog 18 #[.int .i64 k, .agg #[.int .i64 x.1, .int .i64 x.2.1, x.2.2.1.v, x.2.2.2.1.v]] tI w fun z w' => z = (if ¬ (1 ≤ k ∧ k ≤ 8) then 1 else if isM k a then 0 else 210) ∧ Chg Nil w w' := by
  obtain ⟨x1, x2, sa, sn, _⟩ := x
  refine cayleyref21_Check.calls k x1 x2 sa sn ?_
  unfold cayleyref21_Check.sh
  refine New.mk fun b1 w1 hb1 hn1 hs1 hc1 => ?_
  refine Join.by' (fun y W => y = (k, at0 b1, ()) ∧ W = w1 ∧ 1 ≤ k ∧ k ≤ 8) ?_ ?_
  · rintro y W g ⟨rfl, hW, h1, h2⟩
    rw [hW]; clear hW
    dsimp only
    rw [if_neg (by omega)]
    refine LoadT.mk tA (x := (x1, x2, sa, sn, ())) (fun j v hv => by rw [cellOf hn1]; simpa [Ty.cells] using hv) ?_
    refine Ret.call (Is_ret21 ⟨h1, h2⟩ (x := (x1, x2, sa, sn, ())) (ha.nil hc1)) ?_
    rintro _ W ⟨rfl, hc⟩
    refine Br.mk (fun h => ⟨210, rfl, ?_, hc1.then hc⟩) (fun h => ⟨0, rfl, ?_, hc1.then hc⟩)
    · have : isM k a = false := by simpa using h
      rw [this]; rfl
    · have : isM k a = true := by simpa using h
      rw [this]; rfl
  · intro J hJ
    refine Br.dec (fun h => Br.t rfl ⟨1, rfl, ?_, hc1⟩) (fun h => Br.dec (fun h2 => ⟨1, rfl, ?_, hc1⟩) (fun h2 => hJ _ _ ⟨rfl, rfl, ?_, ?_⟩))
    · rw [if_pos (by have h : k < 1 := h; omega)]
    · rw [if_pos (by have h2 : k > 8 := h2; omega)]
    · have h : ¬ k < 1 := h; omega
    · have h2 : ¬ k > 8 := h2; omega
end Go.Proofs.YtffdjfkekdoeaaaDoor.Rf
end
section
/- The reference's check is the program's. -/
set_option linter.unusedVariables false
set_option linter.unusedSimpArgs false
set_option maxRecDepth 4000
set_option maxHeartbeats 2000000
namespace Go.Proofs.YtffdjfkekdoeaaaDoor.Pl
open Fw Wd Fo Rf

/-! ### the numbering -/
def scanO : Row → Nat → Option Nat
  | [], seen => some seen
  | none :: l, seen => scanO l seen
  | some t :: l, seen => if t > seen then none else scanO l (if t = seen then seen + 1 else seen)
theorem idxOf_range : ∀ (n t : Nat), t < n → (List.range n).idxOf t = t := fun n t h => by
  have h1 : (List.range n)[t]'(by simpa using h) = t := by simp
  have := (List.nodup_range (n := n)).idxOf_getElem t (by simpa using h)
  rw [h1] at this; exact this
theorem bfs_scan : ∀ (r : Row) (seen seen' : Nat), scanO r seen = some seen' → bfsRow r (List.range seen) = (List.range seen', r)
  | [], seen, seen', h => by simp only [scanO, Option.some.injEq] at h; subst h; rfl
  | none :: l, seen, seen', h => by
    simp only [scanO] at h
    simp only [bfsRow, bfs_scan l seen seen' h]
  | some t :: l, seen, seen', h => by
    simp only [scanO] at h
    split at h
    · cases h
    rename_i hle
    simp only [bfsRow, List.mem_range]
    by_cases hlt : t < seen
    · rw [if_neg (by omega)] at h
      rw [if_pos hlt, bfs_scan l seen seen' h, idxOf_range seen t hlt]
    · have : t = seen := by omega
      subst this
      rw [if_pos rfl] at h
      rw [if_neg hlt, ← List.range_succ, bfs_scan l (t + 1) seen' h, List.length_range]
theorem bfs_scan_none : ∀ (r : Row) (seen : Nat), scanO r seen = none → (bfsRow r (List.range seen)).2 ≠ r
  | [], seen, h => by simp [scanO] at h
  | none :: l, seen, h => by
    simp only [scanO] at h
    have := bfs_scan_none l seen h
    simp only [bfsRow]
    intro he
    simp only [List.cons.injEq, true_and] at he
    exact this he
  | some t :: l, seen, h => by
    simp only [scanO] at h
    simp only [bfsRow, List.mem_range]
    split at h
    · rename_i hgt
      rw [if_neg (by omega)]
      intro he
      simp only [List.cons.injEq, Option.some.injEq, List.length_range] at he
      omega
    · rename_i hle
      by_cases hlt : t < seen
      · rw [if_neg (by omega)] at h
        have := bfs_scan_none l seen h
        rw [if_pos hlt]
        intro he
        simp only [List.cons.injEq] at he
        exact this he.2
      · have : t = seen := by omega
        subst this
        rw [if_pos rfl] at h
        have := bfs_scan_none l (t + 1) h
        rw [if_neg hlt, ← List.range_succ]
        intro he
        simp only [List.cons.injEq] at he
        exact this he.2
theorem scanO_le : ∀ (r : Row) (n seen seen' : Nat), (∀ t, some t ∈ r → t < n) → seen ≤ n → scanO r seen = some seen' → seen ≤ seen' ∧ seen' ≤ n
  | [], n, seen, seen', _, hs, h => by simp only [scanO, Option.some.injEq] at h; omega
  | none :: l, n, seen, seen', hr, hs, h => scanO_le l n seen seen' (fun t ht => hr t (by simp [ht])) hs h
  | some t :: l, n, seen, seen', hr, hs, h => by
    simp only [scanO] at h
    split at h
    · cases h
    have ht := hr t (by simp)
    have := scanO_le l n _ seen' (fun t ht => hr t (by simp [ht])) (by split <;> omega) h
    split at this <;> omega
/-- The numbers of the rows, from state s on. -/
def scanQ : Nat → List Row → Nat → Option Nat
  | _, [], seen => some seen
  | s, r :: l, seen => if seen ≤ s then none else (scanO r seen).bind (scanQ (s + 1) l)
theorem numE_ext {k : Nat} {es : List Ed} : ∀ (K i : Nat) (q : List Nat) (out res : List Row), numE k es K i q out = some res → ∃ tl, res = out ++ tl
  | 0, _, _, _, _, h => by simp [numE] at h
  | K + 1, i, q, out, res, h => by
    simp only [numE] at h
    split at h
    · cases h; exact ⟨[], by simp⟩
    · obtain ⟨tl, h⟩ := numE_ext K _ _ _ _ h
      exact ⟨_, by rw [h, List.append_assoc]⟩
/-- Numbering gives the rows back exactly if they are numbered already. -/
theorem num_iff {k n : Nat} {es : List Ed} {R : List Row} (hn : R.length = n) (hrow : ∀ v, v < n → rowE k es v = R.getD v []) (hlt : ∀ r ∈ R, ∀ t, some t ∈ r → t < n) : ∀ (K s seen : Nat) (res : List Row), s ≤ seen → seen ≤ n → numE k es K s (List.range seen) (R.take s) = some res → (res = R ↔ scanQ s (R.drop s) seen = some n)
  | 0, _, _, _, _, _, h => by simp [numE] at h
  | K + 1, s, seen, res, hs, hsn, h => by
    simp only [numE] at h
    by_cases hlt' : s < seen
    · have hsn' : s < n := by omega
      rw [show (List.range seen)[s]? = some s by rw [List.getElem?_range hlt']] at h
      simp only at h
      have hRs : R.getD s [] = R[s] := getD_get (by omega)
      rw [hrow s hsn', hRs] at h
      have hdrop : R.drop s = R[s] :: R.drop (s + 1) := List.drop_eq_getElem_cons (by omega)
      rw [hdrop]
      simp only [scanQ, if_neg (show ¬ seen ≤ s by omega)]
      have hmem : R[s] ∈ R := List.getElem_mem (by omega)
      cases hsc : scanO R[s] seen with
      | none =>
        have hne := bfs_scan_none _ _ hsc
        obtain ⟨tl, hres⟩ := numE_ext _ _ _ _ _ h
        simp only [Option.bind_none, reduceCtorEq, iff_false]
        intro he
        rw [he] at hres
        have h1 := congrArg (fun l => l[s]?) hres
        simp only [List.append_assoc] at h1
        rw [List.getElem?_append_right (by simp; omega), List.getElem?_eq_getElem (by omega)] at h1
        simp only [List.length_take, show s - min s R.length = 0 by omega, List.cons_append, List.getElem?_cons_zero, Option.some.injEq] at h1
        exact hne h1.symm
      | some seen' =>
        rw [bfs_scan _ _ _ hsc] at h
        have hle := scanO_le _ n _ _ (hlt _ hmem) hsn hsc
        simp only [Option.bind_some]
        rw [← take_snoc (show s < R.length by omega)] at h
        exact num_iff hn hrow hlt K (s + 1) seen' res (by omega) hle.2 h
    · have hse : s = seen := by omega
      subst hse
      rw [show (List.range s)[s]? = none by simp] at h
      simp only [Option.some.injEq] at h
      subst h
      by_cases hsn' : s = n
      · subst hsn'
        rw [List.take_of_length_le (by omega), List.drop_eq_nil_of_le (by omega)]
        simp [scanQ]
      · have hdrop : R.drop s = R[s]'(by omega) :: R.drop (s + 1) := List.drop_eq_getElem_cons (by omega)
        rw [hdrop]
        simp only [scanQ, Nat.le_refl, if_true, reduceCtorEq, iff_false]
        intro he
        have := congrArg List.length he
        simp at this
        omega
/-! ### what the program asks of a state -/
def localP (acc : List Bool) (next : List (List Int)) (s : Nat) (row : List Int) : Prop := acc.getD s false = (s == 0) ∧ (0 < s → 2 ≤ degF (row.map toO)) ∧ rowLocal next s row = true
theorem scanE_iff {next : List (List Int)} {s : Nat} : ∀ (row : List Int) (y seen r : Nat), scanE next s (edgesFrom y row) seen = some r ↔ ((edgesFrom y row).all fun e => getN next e.2.1.toNat (e.1.toNat ^^^ 1) == (s : Int)) = true ∧ scanO (row.map toO) seen = some r
  | [], y, seen, r => by simp [edgesFrom, scanE, scanO]
  | t :: l, y, seen, r => by
    simp only [edgesFrom, List.map_cons]
    by_cases ht : 0 ≤ t
    · obtain ⟨n, rfl⟩ := Int.eq_ofNat_of_zero_le ht
      have ho : toO (n : Int) = some n := by unfold toO; rw [if_neg (by omega)]; simp
      rw [if_pos ht, ho]
      simp only [scanE, scanO, List.all_cons, Bool.and_eq_true, beq_iff_eq]
      have ih := fun s' => scanE_iff (next := next) (s := s) l (y + 1) s' r
      by_cases hg : n > seen
      · rw [if_pos hg, if_pos (.inr (by omega))]; simp
      · rw [if_neg hg]
        by_cases hb : getN next ((n : Int)).toNat (((y : Int)).toNat ^^^ 1) = (s : Int)
        · rw [if_neg (by unfold getN at hb; intro h; rcases h with h | h; exact h hb; omega)]
          have e1 : (if (n : Int) = (seen : Int) then seen + 1 else seen) = (if n = seen then seen + 1 else seen) := by
            by_cases h : n = seen
            · simp [h]
            · rw [if_neg h, if_neg (by omega)]
          rw [e1, ih]
          constructor
          · rintro ⟨h1, h2⟩; exact ⟨⟨hb, h1⟩, h2⟩
          · rintro ⟨⟨_, h1⟩, h2⟩; exact ⟨h1, h2⟩
        · rw [if_pos (.inl hb)]
          constructor
          · intro h; cases h
          · rintro ⟨⟨h1, _⟩, _⟩; exact absurd h1 hb
    · have ho : toO t = none := by unfold toO; rw [if_pos (by omega)]
      rw [if_neg ht, ho]
      simp only [scanO]
      exact scanE_iff l (y + 1) seen r
theorem scanR_iff {acc : List Bool} {next : List (List Int)} : ∀ (l : List (List Int)) (s seen r : Nat), scanR acc next s l seen = some r ↔ (∀ (i : Nat) (row : List Int), l[i]? = some row → localP acc next (s + i) row) ∧ scanQ s (l.map (·.map toO)) seen = some r
  | [], s, seen, r => by simp [scanR, scanQ]
  | row :: l, s, seen, r => by
    simp only [scanR, List.map_cons, scanQ]
    have ih := fun s' => scanR_iff (acc := acc) (next := next) l (s + 1) s' r
    have hE := fun s' => scanE_iff (next := next) (s := s) row 0 seen s'
    constructor
    · intro h
      split at h
      · cases h
      rename_i hc
      split at h
      · cases h
      rename_i seen' he
      obtain ⟨h1, h2⟩ := (hE seen').1 he
      obtain ⟨h3, h4⟩ := (ih seen').1 h
      have hacc : acc.getD s false = (s == 0) := by
        by_cases hh : acc.getD s false = (s == 0)
        · exact hh
        · exact absurd (.inl hh) hc
      refine ⟨fun i r' hi => ?_, ?_⟩
      · cases i with
        | zero =>
          simp only [List.getElem?_cons_zero, Option.some.injEq] at hi
          subst hi
          refine ⟨hacc, fun hs => ?_, h1⟩
          have hs : 0 < s := hs
          by_cases hd : degF (row.map toO) < 2
          · exact absurd (.inr (.inl ⟨hs, hd⟩)) hc
          · omega
        | succ i =>
          have := h3 i r' (by simpa using hi)
          rw [show s + (i + 1) = s + 1 + i by omega]; exact this
      · rw [if_neg (fun hle => hc (.inr (.inr hle))), h2]
        exact h4
    · rintro ⟨h1, h2⟩
      obtain ⟨p1, p2, p3⟩ := h1 0 row rfl
      rw [Nat.add_zero] at p1 p2 p3
      split at h2
      · cases h2
      rename_i hle
      cases hsc : scanO (row.map toO) seen with
      | none => rw [hsc] at h2; cases h2
      | some seen' =>
        rw [hsc] at h2
        have h2 : scanQ (s + 1) (l.map (·.map toO)) seen' = some r := h2
        rw [if_neg (by
          rintro (h | h | h)
          · exact h p1
          · have := p2 h.1; omega
          · exact hle h), (hE seen').2 ⟨p3, hsc⟩]
        exact (ih seen').2 ⟨fun i r' hi => by
          have := h1 (i + 1) r' (by simpa using hi)
          rw [show s + (i + 1) = s + 1 + i by omega] at this; exact this, h2⟩
theorem localAll_iff {acc : List Bool} {next : List (List Int)} : ∀ (l : List (List Int)) (s : Nat), localAll acc next s l = true ↔ ∀ (i : Nat) (row : List Int), l[i]? = some row → localS acc next (s + i) row = true
  | [], s => by simp [localAll]
  | r :: l, s => by
    simp only [localAll, Bool.and_eq_true, localAll_iff l (s + 1)]
    constructor
    · rintro ⟨h1, h2⟩ i row hi
      cases i with
      | zero => simp only [List.getElem?_cons_zero, Option.some.injEq] at hi; subst hi; exact h1
      | succ i => rw [show s + (i + 1) = s + 1 + i by omega]; exact h2 i row (by simpa using hi)
    · intro h
      exact ⟨h 0 r rfl, fun i row hi => by rw [show s + 1 + i = s + (i + 1) by omega]; exact h (i + 1) row (by simpa using hi)⟩
theorem localS_iff {acc : List Bool} {next : List (List Int)} {s : Nat} {row : List Int} (h0 : acc.getD 0 false = true) : localS acc next s row = true ↔ localP acc next s row := by
  unfold localS localP
  rw [Bool.and_eq_true]
  by_cases hs : s = 0
  · subst hs
    rw [h0]
    simp
  · have e : (s == 0) = false := by simp [hs]
    rw [e]
    simp only [Bool.false_or, Bool.and_eq_true, decide_eq_true_eq, Bool.not_eq_true']
    constructor
    · rintro ⟨h1, h2, h3⟩; exact ⟨h3, fun _ => h2, h1⟩
    · rintro ⟨h1, h2, h3⟩; exact ⟨h3, h2 (by omega), h1⟩
/-! ### where letters lead in the graph -/
theorem edges_of : ∀ (row : List Int) (y x : Nat), x < row.length → 0 ≤ row.getD x 0 → (((y + x : Nat) : Int), row.getD x 0, ()) ∈ edgesFrom y row
  | [], y, x, h, _ => by simp at h
  | t :: l, y, 0, h, hp => by
    have hp : 0 ≤ t := by simpa using hp
    simp only [edgesFrom]; rw [if_pos hp]; simp
  | t :: l, y, x + 1, h, hp => by
    have := edges_of l (y + 1) x (by simpa using h) (by simpa using hp)
    simp only [edgesFrom]
    rw [show y + (x + 1) = y + 1 + x by omega]
    split
    · exact List.mem_cons_of_mem _ (by simpa using this)
    · simpa using this
theorem mem_graphR {s : Nat} {row : List Int} {j : Nat} (hp : 0 ≤ row.getD (2 * j) 0) : ∀ (n i : Nat), i ≤ j → j < i + n → (s, 2 * j, (row.getD (2 * j) 0).toNat) ∈ graphR s row i n
  | 0, i, h1, h2 => by omega
  | n + 1, i, h1, h2 => by
    simp only [graphR]
    by_cases he : i = j
    · subst he; rw [if_pos hp]; simp
    · exact List.mem_append_right _ (mem_graphR hp n (i + 1) (by omega) (by omega))
theorem mem_graphL {k j : Nat} (hj : j < k) : ∀ (l : List (List Int)) (s i : Nat) (row : List Int), l[i]? = some row → 0 ≤ row.getD (2 * j) 0 → (s + i, 2 * j, (row.getD (2 * j) 0).toNat) ∈ graphL k s l
  | [], s, i, row, h, _ => by simp at h
  | r :: l, s, 0, row, h, hp => by
    simp only [List.getElem?_cons_zero, Option.some.injEq] at h
    subst h
    exact List.mem_append_left _ (mem_graphR hp k 0 (Nat.zero_le _) (by omega))
  | r :: l, s, i + 1, row, h, hp => by
    have := mem_graphL hj l (s + 1) i row (by simpa using h) hp
    rw [show s + (i + 1) = s + 1 + i by omega]
    exact List.mem_append_right _ this
theorem stepE_some : ∀ (es : List Ed) (v x t : Nat), Rf.stepE es v x = some t → (x % 2 = 0 ∧ (v, x, t) ∈ es) ∨ (x % 2 = 1 ∧ ∃ y, y + 1 = x ∧ (t, y, v) ∈ es)
  | [], v, x, t, h => by simp [Rf.stepE] at h
  | (f, y, u) :: l, v, x, t, h => by
    simp only [Rf.stepE] at h
    split at h
    · rename_i hc
      obtain ⟨h1, rfl, rfl⟩ := hc
      cases h
      exact .inl ⟨h1, by simp⟩
    · split at h
      · rename_i hc
        obtain ⟨h1, h2, rfl⟩ := hc
        cases h
        exact .inr ⟨h1, y, h2, by simp⟩
      · rcases stepE_some l v x t h with ⟨h1, h2⟩ | ⟨h1, y', h2, h3⟩
        · exact .inl ⟨h1, by simp [h2]⟩
        · exact .inr ⟨h1, y', h2, by simp [h3]⟩
theorem stepE_none : ∀ (es : List Ed) (v x : Nat), Rf.stepE es v x = none → ∀ e ∈ es, ¬ (x % 2 = 0 ∧ e.2.1 = x ∧ e.1 = v) ∧ ¬ (x % 2 = 1 ∧ e.2.1 + 1 = x ∧ e.2.2 = v)
  | [], v, x, _, e, he => by simp at he
  | (f, y, u) :: l, v, x, h, e, he => by
    simp only [Rf.stepE] at h
    split at h
    · cases h
    · split at h
      · cases h
      · rename_i h1 h2
        rcases List.mem_cons.1 he with rfl | he
        · exact ⟨h1, h2⟩
        · exact stepE_none l v x h e he
/-- In the graph of an automaton whose transitions have their inverses, letters lead as in the automaton. -/
theorem xor_evens : ∀ y : Fin 16, y.val % 2 = 0 → y.val ^^^ 1 = y.val + 1 := by decide
theorem xor_odds : ∀ y : Fin 16, y.val % 2 = 1 → y.val ^^^ 1 = y.val - 1 := by decide
theorem step_graph {k : Nat} (hk : k ≤ 8) {next : List (List Int)} (hlen : ∀ r ∈ next, r.length = 2 * k ∧ ∀ t ∈ r, -1 ≤ t ∧ t < (next.length : Int)) (hloc : ∀ (i : Nat) (row : List Int), next[i]? = some row → rowLocal next i row = true) {v x : Nat} (hv : v < next.length) (hx : x < 2 * k) :
    Rf.stepE (graphL k 0 next) v x = toO (getN next v x) := by
  have back : ∀ {s y : Nat}, s < next.length → y < 2 * k → 0 ≤ getN next s y → getN next (getN next s y).toNat (y ^^^ 1) = (s : Int) := fun {s y} hs hy hp => by
    have hr := hloc s next[s] (List.getElem?_eq_getElem hs)
    have hl := (hlen _ (List.getElem_mem hs)).1
    have hg : getN next s y = next[s].getD y 0 := by unfold getN; rw [getD_get hs]
    rw [hg] at hp ⊢
    have := edges_of next[s] 0 y (by omega) hp
    have := List.all_eq_true.1 hr _ this
    simpa using this
  have tgt : ∀ {s y : Nat}, s < next.length → y < 2 * k → getN next s y < (next.length : Int) ∧ -1 ≤ getN next s y := fun {s y} hs hy => by
    have hl := hlen _ (List.getElem_mem hs)
    have hg : getN next s y = next[s][y]'(by omega) := by unfold getN; rw [getD_get hs, getD_get (by omega)]
    rw [hg]; have := hl.2 _ (List.getElem_mem (show y < next[s].length by omega)); omega
  have ed : ∀ {s j : Nat}, s < next.length → j < k → 0 ≤ getN next s (2 * j) → (s, 2 * j, (getN next s (2 * j)).toNat) ∈ graphL k 0 next := fun {s j} hs hj hp => by
    have hg : getN next s (2 * j) = next[s].getD (2 * j) 0 := by unfold getN; rw [getD_get hs]
    rw [hg] at hp ⊢
    have := mem_graphL hj next 0 s next[s] (List.getElem?_eq_getElem hs) hp
    rw [Nat.zero_add] at this; exact this
  have edm : ∀ {f y t : Nat}, (f, y, t) ∈ graphL k 0 next → f < next.length ∧ y < 2 * k ∧ getN next f y = (t : Int) ∧ y % 2 = 0 := fun {f y t} he => by
    obtain ⟨i, row, h1, h2, j, h3, h4, h5, h6⟩ := graphL_mem next 0 _ he
    dsimp only at h2 h4 h6
    obtain ⟨hi, hri⟩ := List.getElem?_eq_some_iff.1 h1
    rw [Nat.zero_add] at h2
    subst h2
    refine ⟨hi, by omega, ?_, by omega⟩
    unfold getN; rw [getD_get hi, hri, h4]; omega
  cases hst : Rf.stepE (graphL k 0 next) v x with
  | some t =>
    rcases stepE_some _ _ _ _ hst with ⟨h1, h2⟩ | ⟨h1, y, h2, h3⟩
    · have := (edm h2).2.2.1
      rw [this]; unfold toO; rw [if_neg (by omega)]; simp
    · obtain ⟨q1, q2, q3, q4⟩ := edm h3
      have hb := back q1 q2 (by omega)
      rw [q3] at hb
      have hxy : y ^^^ 1 = x := by rw [xor_evens ⟨y, by omega⟩ (by dsimp only; omega)]; exact h2
      rw [hxy] at hb
      have hb : getN next v x = (t : Int) := hb
      rw [hb]; unfold toO; rw [if_neg (by omega)]; simp
  | none =>
    have hn := stepE_none _ _ _ hst
    by_cases hp : 0 ≤ getN next v x
    · exfalso
      by_cases hx2 : x % 2 = 0
      · have := ed (s := v) (j := x / 2) hv (by omega) (by rw [show 2 * (x / 2) = x by omega]; exact hp)
        rw [show 2 * (x / 2) = x by omega] at this
        exact (hn _ this).1 ⟨hx2, rfl, rfl⟩
      · have hb := back hv hx hp
        have ht := (tgt hv hx).1
        have hxy : x ^^^ 1 = 2 * (x / 2) := by rw [xor_odds ⟨x, by omega⟩ (by dsimp only; omega)]; dsimp only; omega
        rw [hxy] at hb
        have := ed (s := (getN next v x).toNat) (j := x / 2) (by omega) (by omega) (by rw [hb]; omega)
        rw [hb] at this
        exact (hn _ this).2 ⟨by omega, by dsimp only; omega, by simp⟩
    · unfold toO; rw [if_pos (by omega)]
theorem toO_ofO (o : Option Nat) : toO (ofO o) = o := by
  cases o with
  | none => rfl
  | some n => show toO (n : Int) = _; unfold toO; rw [if_neg (by omega)]; simp
/-- THE CHECKS AGREE. -/
theorem isM_check {k : Int} (hk : 1 ≤ k ∧ k ≤ 8) (a : Aut) : isM k a = decide (a.check k = 0) := by
  obtain ⟨nk, rfl⟩ := Int.eq_ofNat_of_zero_le (show 0 ≤ k by omega)
  have hA : a.check (nk : Int) = if fsaF a.sym a.start a.acc a.next ≠ 0 ∨ a.sym ≠ 2 * (nk : Int) ∨ a.next.length < 1 ∨ 2000 < a.next.length ∨ a.start ≠ 0 then 210
      else match scanR a.acc a.next 0 a.next 1 with | some seen => if seen = a.next.length then 0 else 210 | none => 210 := by
    unfold Aut.check checkG; rw [if_neg (by simpa using hk)]; (try rfl)
  by_cases g1 : fsaF a.sym a.start a.acc a.next = 0
  case neg =>
    rw [hA, if_pos (.inl g1)]; unfold isM; rw [decide_eq_false g1]; rfl
  obtain ⟨hla, hrows⟩ := fsa_spec g1
  by_cases g2 : a.sym = 2 * (nk : Int)
  case neg =>
    rw [hA, if_pos (.inr (.inl g2))]; unfold isM; rw [decide_eq_false g2]; simp
  by_cases g3 : 1 ≤ a.acc.length
  case neg =>
    rw [hA, if_pos (.inr (.inr (.inl (by omega))))]; unfold isM; rw [decide_eq_false g3]; simp
  by_cases g4 : a.acc.length ≤ 2000
  case neg =>
    rw [hA, if_pos (.inr (.inr (.inr (.inl (by omega)))))]; unfold isM; rw [decide_eq_false g4]; simp
  by_cases g5 : a.start = 0
  case neg =>
    rw [hA, if_pos (.inr (.inr (.inr (.inr g5))))]; unfold isM; rw [decide_eq_false g5]; simp
  have hI : isM (nk : Int) a = (a.acc.getD 0 false && (localAll a.acc a.next 0 a.next && sameF a (autE nk (numR nk a.next)))) := by
    unfold isM
    rw [decide_eq_true g1, decide_eq_true g2, decide_eq_true g3, decide_eq_true g4, decide_eq_true g5]
    simp
  rw [hI, hA, if_neg (by
    rintro (h | h | h | h | h)
    · exact h g1
    · exact h g2
    · omega
    · omega
    · exact h g5)]
  clear hI hA
  have hrow2 : ∀ r ∈ a.next, r.length = 2 * nk ∧ ∀ t ∈ r, -1 ≤ t ∧ t < (a.next.length : Int) := fun r hr => ⟨by have := (hrows r hr).1; omega, (hrows r hr).2⟩
  have hback : (a.next.map (·.map toO)).map (·.map ofO) = a.next := by
    rw [List.map_map]
    conv => rhs; rw [← List.map_id a.next]
    exact List.map_congr_left fun r hr => row_toO fun t ht => ((hrow2 r hr).2 t ht).1
  have hlt := graphL_lt (k := nk) (fun r hr t ht => ((hrow2 r hr).2 t ht).2) (by omega)
  obtain ⟨res, hres⟩ := numE_some (k := nk) hlt (a.next.length + 1) 0 [0] [] (by simp) (by simp; omega) (by simp) (by omega)
  have hnR : numR nk a.next = res := by unfold numR; rw [hres]; rfl
  rw [hnR]
  -- the states' marks and letters
  by_cases hloc : ∀ (i : Nat) (row : List Int), a.next[i]? = some row → localP a.acc a.next (0 + i) row
  case neg =>
    have h1 : ¬ ∃ r, scanR a.acc a.next 0 a.next 1 = some r := fun ⟨r, hr⟩ => hloc ((scanR_iff a.next 0 1 r).1 hr).1
    have h2 : scanR a.acc a.next 0 a.next 1 = none := by
      cases h : scanR a.acc a.next 0 a.next 1 with
      | none => rfl
      | some r => exact absurd ⟨r, h⟩ h1
    rw [h2]
    rw [show (decide ((210 : Int) = 0)) = false from rfl]
    by_cases g6 : a.acc.getD 0 false = true
    · have h3 : localAll a.acc a.next 0 a.next = false := by
        cases h : localAll a.acc a.next 0 a.next with
        | false => rfl
        | true => exact absurd (fun i row hi => (localS_iff g6).1 ((localAll_iff a.next 0).1 h i row hi)) hloc
      rw [h3, Bool.false_and, Bool.and_false]
    · rw [Bool.not_eq_true] at g6
      rw [g6, Bool.false_and]
  have g6 : a.acc.getD 0 false = true := (hloc 0 _ (List.getElem?_eq_getElem (by omega))).1
  have h3 : localAll a.acc a.next 0 a.next = true := (localAll_iff a.next 0).2 fun i row hi => (localS_iff g6).2 (hloc i row hi)
  rw [g6, h3, Bool.true_and, Bool.true_and]
  have hstep : ∀ v, v < a.next.length → rowE nk (graphL nk 0 a.next) v = (a.next.map (·.map toO)).getD v [] := fun v hv => by
    have hrv : (a.next.map (·.map toO)).getD v [] = a.next[v].map toO := by rw [getD_get (by simpa using hv)]; simp
    rw [hrv]
    have hlv := (hrow2 _ (List.getElem_mem hv)).1
    apply List.ext_getElem (by rw [rowE_len]; simp [hlv])
    intro x h1 h2
    rw [rowE_len] at h1
    have := rowE_get (k := nk) (es := graphL nk 0 a.next) (v := v) h1
    rw [step_graph (by omega) hrow2 (fun i row hi => by have := (hloc i row hi).2.2; rw [Nat.zero_add] at this; exact this) hv h1] at this
    obtain ⟨h4, h5⟩ := List.getElem?_eq_some_iff.1 this
    rw [h5, List.getElem_map]
    unfold getN
    rw [getD_get hv, getD_get (by omega)]
  have hN := num_iff (k := nk) (n := a.next.length) (es := graphL nk 0 a.next) (R := a.next.map (·.map toO)) (by simp) hstep (fun r hr t ht => by
    obtain ⟨r', hr', rfl⟩ := List.mem_map.1 hr
    obtain ⟨u, hu, hut⟩ := List.mem_map.1 ht
    have := (hrow2 r' hr').2 u hu
    unfold toO at hut
    split at hut
    · cases hut
    · cases hut; omega) (a.next.length + 1) 0 1 res (by omega) (by omega) (by simpa using hres)
  rw [List.drop_zero] at hN
  have hS : sameF a (autE nk res) = true ↔ res = a.next.map (·.map toO) := by
    unfold sameF autE
    rw [decide_eq_true_eq]
    constructor
    · rintro ⟨_, _, _, h⟩
      have h : a.next = res.map (·.map ofO) := h
      rw [h, List.map_map]
      conv => lhs; rw [← List.map_id res]
      refine List.map_congr_left fun r _ => ?_
      simp only [Function.comp, List.map_map]
      conv => lhs; rw [id, ← List.map_id r]
      exact List.map_congr_left fun o _ => (toO_ofO o).symm
    · intro h
      refine ⟨by rw [g2]; push_cast; rfl, g5, ?_, ?_⟩
      · rw [h, List.length_map]
        apply List.ext_getElem (by simp [accF]; omega)
        intro i h1 h2
        have := (hloc i _ (List.getElem?_eq_getElem (show i < a.next.length by omega))).1
        rw [Nat.zero_add, getD_get h1] at this
        rw [this]
        simp [accF]
      · rw [h]; exact hback.symm
  cases hs : sameF a (autE nk res) with
  | true =>
    have h4 := hN.1 (hS.1 hs)
    have h5 := (scanR_iff (acc := a.acc) (next := a.next) a.next 0 1 a.next.length).2 ⟨hloc, h4⟩
    rw [h5]; simp
  | false =>
    cases h6 : scanR a.acc a.next 0 a.next 1 with
    | none => rfl
    | some r =>
      by_cases hr : r = a.next.length
      · subst hr
        have := hS.2 (hN.2 ((scanR_iff a.next 0 1 _).1 h6).2)
        rw [hs] at this; cases this
      · simp [hr]
end Go.Proofs.YtffdjfkekdoeaaaDoor.Pl
end
section
/- The tree of a subgroup automaton: its words are reduced, its keys are half of its transitions. -/
set_option linter.unusedVariables false
set_option linter.unusedSimpArgs false
set_option maxRecDepth 4000
set_option maxHeartbeats 2000000
namespace Go.Proofs.YtffdjfkekdoeaaaDoor.Pl
open Fw Wd Fo Rf

/-! ### letters and words -/
def L (x : Nat) : UInt8 := UInt8.ofNat (letF (x : Int)).toNat
theorem L_other : ∀ x : Fin 16, otherB (L x.val) = L (x.val ^^^ 1) := by decide
theorem L_inj : ∀ x y : Fin 16, L x.val = L y.val → x = y := by decide
theorem L_idx : ∀ x : Fin 16, idxF (ofB (L x.val)) = (x.val : Int) := by decide
theorem letS_list (x : Nat) : (letS (x : Int)).data.toList = [L x] := rfl
theorem app_list (a b : ByteArray) : (a ++ b).data.toList = a.data.toList ++ b.data.toList := by
  rw [ByteArray.data_append, Array.toList_append]
theorem xor_xor : ∀ x : Fin 16, (x.val ^^^ 1) ^^^ 1 = x.val ∧ x.val ^^^ 1 < 16 := by decide
def RedL (l : List UInt8) : Prop := redF l = l
theorem redF_snoc (l : List UInt8) (c : UInt8) : redF (l ++ [c]) = redStep (redF l) c := by simp [redF]
theorem RedL.snoc {l : List UInt8} {c : UInt8} (h : RedL l) (hc : l.getLast? ≠ some (otherB c)) : RedL (l ++ [c]) := by
  unfold RedL at *
  rw [redF_snoc, h, redStep, if_neg hc]
theorem redF_len (l : List UInt8) : (redF l).length ≤ l.length := by have := redFold_len l []; simpa [redF] using this
theorem RedL.inv {l : List UInt8} {c : UInt8} (h : RedL (l ++ [c])) : RedL l ∧ l.getLast? ≠ some (otherB c) := by
  unfold RedL at *
  rw [redF_snoc, redStep] at h
  split at h
  · exfalso
    have h1 := congrArg List.length h
    have h2 := redF_len l
    simp at h1
    omega
  · rename_i hn
    have := List.append_cancel_right h
    rw [this] at hn
    exact ⟨this, hn⟩
theorem RedL.nil : RedL [] := rfl
theorem otherB_otherB (c : UInt8) : otherB (otherB c) = c := by
  unfold otherB
  rw [UInt8.xor_assoc]; simp
theorem invF_snoc (q : List UInt8) (c : UInt8) : invF (q ++ [c]) = otherB c :: invF q := by simp [invF]
theorem fold_inv : ∀ (n : Nat) (q a : List UInt8), q.length = n → (invF q).foldl redStep (a ++ q) = a
  | 0, q, a, h => by
    have : q = [] := List.eq_nil_of_length_eq_zero h
    subst this; simp [invF]
  | n + 1, q, a, h => by
    rcases List.eq_nil_or_concat q with rfl | ⟨q', c, rfl⟩
    · simp at h
    · rw [List.concat_eq_append] at *
      rw [invF_snoc, List.foldl_cons]
      have : redStep (a ++ (q' ++ [c])) (otherB c) = a ++ q' := by
        unfold redStep
        rw [otherB_otherB, ← List.append_assoc]
        simp
      rw [this]
      exact fold_inv n q' a (by simpa using h)
theorem fold_red : ∀ (n : Nat) (q A : List UInt8), q.length = n → RedL q → A ≠ [] → (q = [] ∨ q.getLast? ≠ A.getLast?) → (invF q).foldl redStep A = A ++ invF q
  | 0, q, A, h, _, _, _ => by
    have : q = [] := List.eq_nil_of_length_eq_zero h
    subst this; simp [invF]
  | n + 1, q, A, h, hr, hA, hne => by
    rcases List.eq_nil_or_concat q with rfl | ⟨q', c, rfl⟩
    · simp at h
    · rw [List.concat_eq_append] at *
      obtain ⟨h1, h2⟩ := hr.inv
      rw [invF_snoc, List.foldl_cons]
      have h3 : A.getLast? ≠ some c := by
        rcases hne with hne | hne
        · simp at hne
        · simp only [List.getLast?_append, List.getLast?_singleton, Option.some_or] at hne
          exact fun he => hne he.symm
      have : redStep A (otherB c) = A ++ [otherB c] := by
        unfold redStep
        rw [otherB_otherB, if_neg h3]
      rw [this, fold_red n q' (A ++ [otherB c]) (by simpa using h) h1 (by simp) (by
        by_cases hq : q' = []
        · exact .inl hq
        · refine .inr ?_
          rw [List.getLast?_append, List.getLast?_singleton]; exact h2), List.append_assoc]
      rfl
/-- A word whose last letter is behind a reduced one, and an inverse. -/
theorem red_loop {p q : List UInt8} {c : UInt8} (hp : RedL p) (hq : RedL q) (h1 : p.getLast? ≠ some (otherB c)) (h2 : q.getLast? ≠ some c) : redF (p ++ [c] ++ invF q) = p ++ [c] ++ invF q := by
  have h3 := hp.snoc h1
  unfold RedL at h3
  rw [redF, List.foldl_append]
  show (invF q).foldl redStep (redF (p ++ [c])) = _
  rw [h3, fold_red _ q (p ++ [c]) rfl hq (by simp) (by
    by_cases hn : q = []
    · exact .inl hn
    · refine .inr ?_
      rw [List.getLast?_append, List.getLast?_singleton]; exact h2)]
theorem red_tree1 {p : List UInt8} {c : UInt8} (hp : RedL (p ++ [c])) : redF (p ++ [c] ++ invF (p ++ [c])) = [] := by
  rw [redF, List.foldl_append]
  show (invF (p ++ [c])).foldl redStep (redF (p ++ [c])) = _
  rw [hp]
  have := fold_inv _ (p ++ [c]) [] rfl
  simpa using this
theorem red_tree2 {p : List UInt8} {c : UInt8} (hp : RedL (p ++ [otherB c])) : redF ((p ++ [otherB c]) ++ [c] ++ invF p) = [] := by
  rw [redF, List.foldl_append, List.foldl_append]
  have h1 : (p ++ [otherB c]).foldl redStep [] = p ++ [otherB c] := hp
  rw [h1]
  have h2 : [c].foldl redStep (p ++ [otherB c]) = p := by
    simp [redStep]
  rw [h2]
  have := fold_inv _ p [] rfl
  simpa using this
/-! ### what holds of a tree -/
def isEven (k : Int × Int) : Bool := k.2.toNat % 2 == 0
structure TreeW (m : Nat) (next : List (List Int)) (T : Tree) : Prop where
  good : ∀ p ∈ T.paths, ∀ b ∈ p.data.toList, ∃ x, x < 16 ∧ b = L x
  red : ∀ p ∈ T.paths, RedL p.data.toList
  zero : T.paths.getD 0 ⟨#[]⟩ = ⟨#[]⟩
  last : ∀ v, 0 < v → v < T.seen → ∃ s x, x < 16 ∧ (T.paths.getD v ⟨#[]⟩).data.toList = (T.paths.getD s ⟨#[]⟩).data.toList ++ [L x] ∧ ((v : Int), ((x ^^^ 1 : Nat) : Int)) ∈ T.keys
  keyw : ∀ u y, (u, y) ∈ T.keys → ∃ (u' y' t' : Nat), u = (u' : Int) ∧ y = (y' : Int) ∧ y' < m ∧ getN next u' y' = (t' : Int) ∧ u' < T.seen ∧ t' < T.seen ∧ ((t' : Int), ((y' ^^^ 1 : Nat) : Int)) ∈ T.keys ∧ getN next t' (y' ^^^ 1) = (u' : Int) ∧
    ((T.paths.getD t' ⟨#[]⟩).data.toList = (T.paths.getD u' ⟨#[]⟩).data.toList ++ [L y'] ∨ (T.paths.getD u' ⟨#[]⟩).data.toList = (T.paths.getD t' ⟨#[]⟩).data.toList ++ [L (y' ^^^ 1)])
  nodup : T.keys.Nodup
  evens : (T.keys.filter isEven).length + 1 = T.seen
theorem TreeW.start {m : Nat} {next : List (List Int)} (h : 1 ≤ next.length) : TreeW m next ⟨1, List.replicate next.length ⟨#[]⟩, []⟩ where
  good := fun p hp b hb => by rw [List.eq_of_mem_replicate hp] at hb; simp at hb
  red := fun p hp => by rw [List.eq_of_mem_replicate hp]; exact RedL.nil
  zero := by rw [getD_get (by rw [List.length_replicate]; exact h)]; simp
  last := fun v h1 h2 => absurd h2 (by show ¬ v < 1; omega)
  keyw := fun u y h => by simp at h
  nodup := List.nodup_nil
  evens := rfl
theorem getD_set_ne {α : Type} {l : List α} {i j : Nat} {x d : α} (h : i ≠ j) : (l.set i x).getD j d = l.getD j d := by
  rw [List.getD_eq_getElem?_getD, List.getElem?_set_ne h, ← List.getD_eq_getElem?_getD]
theorem getD_set_eq {α : Type} {l : List α} {i : Nat} {x d : α} (h : i < l.length) : (l.set i x).getD i d = x := by
  rw [List.getD_eq_getElem?_getD, List.getElem?_set_self h]; rfl
theorem even_xor : ∀ x : Fin 16, ((x.val % 2 == 0) = true ∧ ((x.val ^^^ 1) % 2 == 0) = false) ∨ ((x.val % 2 == 0) = false ∧ ((x.val ^^^ 1) % 2 == 0) = true) := by decide
theorem TreeW.step {m : Nat} (hm16 : m ≤ 16) (hcl : ∀ x, x < m → x ^^^ 1 < m) {next : List (List Int)} {T : Tree} (hW : TreeW m next T) (h : TreeOk next T) {s x : Nat} (hxm : x < m) (hs : s < T.seen) (ht : T.seen < next.length) (hx : getN next s x = (T.seen : Int)) (hb : getN next T.seen (x ^^^ 1) = (s : Int)) :
    TreeW m next ⟨T.seen + 1, T.paths.set T.seen (T.paths.getD s ⟨#[]⟩ ++ letS (x : Int)), T.keys ++ [((s : Int), (x : Int)), ((T.seen : Int), ((x ^^^ 1 : Nat) : Int))]⟩ := by
  have hx16 : x < 16 := by omega
  have hpl : T.seen < T.paths.length := by rw [h.len]; exact ht
  have hsl : s < T.paths.length := by omega
  have hps : T.paths.getD s ⟨#[]⟩ ∈ T.paths := by rw [getD_get hsl]; exact List.getElem_mem hsl
  have hnew : (T.paths.getD s ⟨#[]⟩ ++ letS (x : Int)).data.toList = (T.paths.getD s ⟨#[]⟩).data.toList ++ [L x] := by rw [app_list, letS_list]
  obtain ⟨hxx, hx1⟩ := xor_xor ⟨x, hx16⟩
  dsimp only at hxx hx1
  have old : ∀ v, v < T.seen → (T.paths.set T.seen (T.paths.getD s ⟨#[]⟩ ++ letS (x : Int))).getD v ⟨#[]⟩ = T.paths.getD v ⟨#[]⟩ := fun v hv => getD_set_ne (by omega)
  have neu : (T.paths.set T.seen (T.paths.getD s ⟨#[]⟩ ++ letS (x : Int))).getD T.seen ⟨#[]⟩ = T.paths.getD s ⟨#[]⟩ ++ letS (x : Int) := getD_set_eq hpl
  have hredS : RedL ((T.paths.getD s ⟨#[]⟩).data.toList ++ [L x]) := by
    refine (hW.red _ hps).snoc fun hl => ?_
    by_cases hs0 : s = 0
    · subst hs0; rw [hW.zero] at hl; simp at hl
    · obtain ⟨s', x', h1, h2, h3⟩ := hW.last s (by omega) hs
      rw [h2, List.getLast?_append, List.getLast?_singleton] at hl
      simp only [Option.some_or, Option.some.injEq] at hl
      rw [L_other ⟨x, hx16⟩] at hl
      have := L_inj ⟨x', h1⟩ ⟨x ^^^ 1, hx1⟩ hl
      simp only [Fin.mk.injEq] at this
      subst this
      rw [hxx] at h3
      exact h.new1 hx h3
  refine ⟨fun p hp b hb => ?_, fun p hp => ?_, ?_, fun v h1 h2 => ?_, fun u y hm => ?_, ?_, ?_⟩
  · rcases List.mem_or_eq_of_mem_set hp with hp | rfl
    · exact hW.good p hp b hb
    · rw [hnew] at hb
      rcases List.mem_append.1 hb with hb | hb
      · exact hW.good _ hps b hb
      · simp only [List.mem_singleton] at hb; exact ⟨x, hx16, hb⟩
  · rcases List.mem_or_eq_of_mem_set hp with hp | rfl
    · exact hW.red p hp
    · rw [hnew]; exact hredS
  · show (T.paths.set _ _).getD 0 _ = _
    rw [old 0 (by omega)]; exact hW.zero
  · have h2 : v < T.seen + 1 := h2
    by_cases hv : v < T.seen
    · obtain ⟨s', x', q1, q2, q3⟩ := hW.last v h1 hv
      by_cases hs' : s' < T.seen
      · refine ⟨s', x', q1, ?_, List.mem_append_left _ q3⟩
        show ((T.paths.set _ _).getD v _).data.toList = ((T.paths.set _ _).getD s' _).data.toList ++ _
        rw [old v hv, old s' hs']; exact q2
      · -- its parent is met already
        obtain ⟨u', y', t', p1, p2, p3, p4, p5, p6, p7, p8, p9⟩ := hW.keyw _ _ q3
        obtain rfl : v = u' := by omega
        obtain ⟨hyx, hy1⟩ := xor_xor ⟨y', Nat.lt_of_lt_of_le p3 hm16⟩
        dsimp only at hyx hy1
        rcases p9 with p9 | p9
        · rw [q2] at p9
          have e1 : (x' ^^^ 1) = y' := by omega
          refine ⟨s', x', q1, ?_, List.mem_append_left _ q3⟩
          exfalso
          have h5 : T.paths.getD s' ⟨#[]⟩ = ⟨#[]⟩ ∨ s' < T.paths.length := by
            by_cases hl : s' < T.paths.length
            · exact .inr hl
            · exact .inl (by rw [List.getD_eq_getElem?_getD, List.getElem?_eq_none (by omega)]; rfl)
          have hmem : ((T.paths.getD t' ⟨#[]⟩)) ∈ T.paths := by rw [getD_get (show t' < T.paths.length by rw [h.len]; omega)]; exact List.getElem_mem _
          have hr := hW.red _ hmem
          rw [p9] at hr
          have h6 := hr.inv.2
          rw [List.getLast?_append, List.getLast?_singleton] at h6
          apply h6
          rw [← e1, ← L_other ⟨x', q1⟩, otherB_otherB]; rfl
        · refine ⟨t', x', q1, ?_, List.mem_append_left _ q3⟩
          show ((T.paths.set _ _).getD v _).data.toList = ((T.paths.set _ _).getD t' _).data.toList ++ _
          rw [old v hv, old t' p6, p9]
          have e1 : (x' ^^^ 1) = y' := by omega
          obtain ⟨hxx', _⟩ := xor_xor ⟨x', q1⟩
          dsimp only at hxx'
          rw [← e1, hxx']
    · obtain rfl : v = T.seen := by omega
      refine ⟨s, x, hx16, ?_, List.mem_append_right _ (by simp)⟩
      show ((T.paths.set _ _).getD T.seen _).data.toList = ((T.paths.set _ _).getD s _).data.toList ++ _
      rw [neu, old s hs, hnew]
  · rcases List.mem_append.1 hm with hm | hm
    · obtain ⟨u', y', t', p1, p2, p3, p4, p5, p6, p7, p8, p9⟩ := hW.keyw u y hm
      refine ⟨u', y', t', p1, p2, p3, p4, by show u' < T.seen + 1; omega, by show t' < T.seen + 1; omega, List.mem_append_left _ p7, p8, ?_⟩
      show ((T.paths.set _ _).getD t' _).data.toList = ((T.paths.set _ _).getD u' _).data.toList ++ _ ∨ ((T.paths.set _ _).getD u' _).data.toList = ((T.paths.set _ _).getD t' _).data.toList ++ _
      rw [old u' p5, old t' p6]; exact p9
    · simp only [List.mem_cons, Prod.mk.injEq, List.not_mem_nil, or_false] at hm
      rcases hm with ⟨rfl, rfl⟩ | ⟨rfl, rfl⟩
      · refine ⟨s, x, T.seen, rfl, rfl, hxm, hx, by show s < T.seen + 1; omega, by show T.seen < T.seen + 1; omega, List.mem_append_right _ (by simp), hb, .inl ?_⟩
        show ((T.paths.set _ _).getD T.seen _).data.toList = ((T.paths.set _ _).getD s _).data.toList ++ _
        rw [neu, old s hs, hnew]
      · refine ⟨T.seen, x ^^^ 1, s, rfl, rfl, hcl x hxm, hb, by show T.seen < T.seen + 1; omega, by show s < T.seen + 1; omega, List.mem_append_right _ (by rw [hxx]; simp), by rw [hxx]; exact hx, .inr ?_⟩
        show ((T.paths.set _ _).getD T.seen _).data.toList = ((T.paths.set _ _).getD s _).data.toList ++ _
        rw [neu, old s hs, hnew, hxx]
  · rw [List.nodup_append]
    refine ⟨hW.nodup, ?_, fun a ha b hb' => ?_⟩
    · simp; omega
    · simp only [List.mem_cons, List.not_mem_nil, or_false] at hb'
      rcases hb' with rfl | rfl
      · exact fun he => h.new1 hx (he ▸ ha)
      · intro he
        subst he
        have := (h.keys _ _ ha).2.1; omega
  · show ((T.keys ++ [_, _]).filter isEven).length + 1 = T.seen + 1
    rw [List.filter_append, List.length_append]
    have := hW.evens
    rcases even_xor ⟨x, hx16⟩ with ⟨q1, q2⟩ | ⟨q1, q2⟩ <;> simp [List.filter_cons, isEven, q1, q2] <;> omega
theorem treeE_ok {m : Nat} (hm16 : m ≤ 16) (hcl : ∀ x, x < m → x ^^^ 1 < m) {next : List (List Int)} {s : Nat} : ∀ (l : List (Int × Int × Unit)) (T : Tree) (r : Nat), (∀ x t u, (x, t, u) ∈ l → 0 ≤ x ∧ x < (m : Int) ∧ 0 ≤ t ∧ t < (next.length : Int) ∧ getN next s x.toNat = t) → TreeOk next T → TreeW m next T → s < T.seen → scanE next s l T.seen = some r →
    TreeOk next (treeE s l T) ∧ TreeW m next (treeE s l T) ∧ (treeE s l T).seen = r ∧ T.seen ≤ r
  | [], T, r, _, h1, h2, _, hs => by simp only [scanE, Option.some.injEq] at hs; subst hs; exact ⟨h1, h2, rfl, Nat.le_refl _⟩
  | (x, t, u) :: l, T, r, hl, h1, h2, hsT, hs => by
    obtain ⟨a1, a2, a3, a4, a5⟩ := hl x t u (by simp)
    obtain ⟨nx, rfl⟩ := Int.eq_ofNat_of_zero_le a1
    obtain ⟨nt, rfl⟩ := Int.eq_ofNat_of_zero_le a3
    simp only [scanE] at hs
    split at hs
    · cases hs
    rename_i hc
    have hb : getN next nt (nx ^^^ 1) = (s : Int) := by
      by_cases hh : (next.getD ((nt : Int)).toNat []).getD (((nx : Int)).toNat ^^^ 1) 0 = (s : Int)
      · exact hh
      · exact absurd (.inl hh) hc
    have hl' : ∀ x t u, (x, t, u) ∈ l → 0 ≤ x ∧ x < (m : Int) ∧ 0 ≤ t ∧ t < (next.length : Int) ∧ getN next s x.toNat = t := fun x t u hm => hl x t u (by simp [hm])
    simp only [treeE]
    by_cases he : (nt : Int) = (T.seen : Int)
    · obtain rfl : nt = T.seen := by omega
      rw [if_pos rfl] at hs ⊢
      have h5 : getN next s nx = (T.seen : Int) := a5
      have := treeE_ok hm16 hcl l _ r hl' (h1.step hsT (by omega) h5 hb) (h2.step hm16 hcl h1 (by omega) hsT (by omega) h5 hb) (by show s < T.seen + 1; omega) hs
      refine ⟨this.1, this.2.1, this.2.2.1, ?_⟩
      have := this.2.2.2
      have : T.seen + 1 ≤ r := this
      omega
    · rw [if_neg he] at hs ⊢
      exact treeE_ok hm16 hcl l T r hl' h1 h2 hsT hs
theorem treeR_ok {m : Nat} (hm16 : m ≤ 16) (hcl : ∀ x, x < m → x ^^^ 1 < m) {acc : List Bool} {next : List (List Int)} (hrow : ∀ r ∈ next, r.length = m ∧ ∀ t ∈ r, -1 ≤ t ∧ t < (next.length : Int)) : ∀ (l : List (List Int)) (s : Nat) (T : Tree) (r : Nat), l = next.drop s → TreeOk next T → TreeW m next T → scanR acc next s l T.seen = some r →
    TreeOk next (treeR s l T) ∧ TreeW m next (treeR s l T) ∧ (treeR s l T).seen = r
  | [], s, T, r, _, h1, h2, hs => by simp only [scanR, Option.some.injEq] at hs; subst hs; exact ⟨h1, h2, rfl⟩
  | row :: l, s, T, r, hl, h1, h2, hs => by
    have hsn : s < next.length := by
      by_cases hh : s < next.length
      · exact hh
      · rw [List.drop_eq_nil_of_le (by omega)] at hl; cases hl
    have hd : next.drop s = next[s] :: next.drop (s + 1) := List.drop_eq_getElem_cons hsn
    rw [hd] at hl
    simp only [List.cons.injEq] at hl
    obtain ⟨hr, hl⟩ := hl
    have hm := hrow row (by rw [hr]; exact List.getElem_mem hsn)
    simp only [scanR] at hs
    split at hs
    · cases hs
    rename_i hc
    split at hs
    · cases hs
    rename_i seen' hE
    have hsT : s < T.seen := by
      by_cases hh : T.seen ≤ s
      · exact absurd (.inr (.inr hh)) hc
      · omega
    obtain ⟨p1, p2, p3, p4⟩ := treeE_ok hm16 hcl (edgesFrom 0 row) T seen' (fun x t u hx => by
      obtain ⟨e1, e2, e3, e4⟩ := edges_mem row 0 x t u hx
      obtain ⟨e5, _⟩ := edges_val row 0 x t u hx
      have := hm.2 t e2
      have hml := hm.1
      refine ⟨e3, by omega, e1, this.2, ?_⟩
      unfold getN; rw [getD_get hsn, ← hr]; simpa using e5) h1 h2 hsT hE
    simp only [treeR]
    exact treeR_ok hm16 hcl hrow l (s + 1) _ r hl p1 p2 (by rw [p3]; exact hs)
/-- THE TREE OF A CHECKED AUTOMATON. -/
theorem tree_ok {k : Int} (hk : k ≤ 8) {a : Aut} (hc : a.check k = 0) : TreeOk a.next (treeF a.next) ∧ TreeW (2 * k.toNat) a.next (treeF a.next) ∧ (treeF a.next).seen = a.next.length := by
  obtain ⟨_, _, h1, _, _, hs, hr⟩ := check_spec hc
  exact treeR_ok (m := 2 * k.toNat) (by omega) (fun x hx => xor_even (by omega) hx) (acc := a.acc) (fun r hm => ⟨by have := (hr r hm).1; omega, (hr r hm).2⟩) a.next 0 _ _ rfl (TreeOk.start h1) (TreeW.start h1) hs
end Go.Proofs.YtffdjfkekdoeaaaDoor.Pl
end
section
/- How many basis elements there are: Schreier's formula. -/
set_option linter.unusedVariables false
set_option linter.unusedSimpArgs false
set_option maxRecDepth 4000
set_option maxHeartbeats 2000000
namespace Go.Proofs.YtffdjfkekdoeaaaDoor.Pl
open Fw Wd Fo Rf

def evE (s : Nat) (l : List (Int × Int × Unit)) : List (Int × Int) := (l.filter fun e => e.1.toNat % 2 == 0).map fun e => ((s : Int), e.1)
def evL : Nat → List (List Int) → List (Int × Int)
  | _, [] => []
  | s, row :: l => evE s (edgesFrom 0 row) ++ evL (s + 1) l
theorem basE_eq (T : Tree) (s : Nat) : ∀ (l : List (Int × Int × Unit)) (B : Bas), (basE T s l B).number = B.number ++ (evE s l).filter (fun k => decide (k ∉ T.keys)) ∧ (B.basis.length = B.number.length → (basE T s l B).basis.length = (basE T s l B).number.length)
  | [], B => by simp [basE, evE]
  | (x, t, u) :: l, B => by
    simp only [basE]
    have ih := fun B => basE_eq T s l B
    by_cases hx : x.toNat % 2 = 0
    · have he : evE s ((x, t, u) :: l) = ((s : Int), x) :: evE s l := by simp [evE, hx]
      rw [he]
      by_cases hm : ((s : Int), x) ∈ T.keys
      · rw [if_neg (by rintro ⟨_, h⟩; exact h hm), List.filter_cons_of_neg (by simpa using hm)]
        exact ih B
      · rw [if_pos ⟨hx, hm⟩, List.filter_cons_of_pos (by simpa using hm)]
        obtain ⟨h1, h2⟩ := ih ⟨B.number ++ [((s : Int), x)], B.basis ++ [ReduceF (T.paths.getD s ⟨#[]⟩ ++ letS x ++ InverseF (T.paths.getD t.toNat ⟨#[]⟩))]⟩
        refine ⟨by rw [h1]; simp, fun h => h2 (by simp [h])⟩
    · have he : evE s ((x, t, u) :: l) = evE s l := by simp [evE, hx]
      rw [he, if_neg (by rintro ⟨h, _⟩; exact hx h)]
      exact ih B
theorem basR_eq (T : Tree) : ∀ (l : List (List Int)) (s : Nat) (B : Bas), (basR T s l B).number = B.number ++ (evL s l).filter (fun k => decide (k ∉ T.keys)) ∧ (B.basis.length = B.number.length → (basR T s l B).basis.length = (basR T s l B).number.length)
  | [], s, B => by simp [basR, evL]
  | row :: l, s, B => by
    simp only [basR, evL]
    obtain ⟨h1, h2⟩ := basE_eq T s (edgesFrom 0 row) B
    obtain ⟨h3, h4⟩ := basR_eq T l (s + 1) (basE T s (edgesFrom 0 row) B)
    exact ⟨by rw [h3, h1, List.filter_append, List.append_assoc], fun h => h4 (h2 h)⟩
theorem basF_eq (next : List (List Int)) : (basF next).number = (evL 0 next).filter (fun k => decide (k ∉ (treeF next).keys)) ∧ (basF next).basis.length = (basF next).number.length := by
  obtain ⟨h1, h2⟩ := basR_eq (treeF next) next 0 ⟨[], []⟩
  exact ⟨by unfold basF; rw [h1]; rfl, h2 rfl⟩
theorem mem_evE {s : Nat} {l : List (Int × Int × Unit)} {k : Int × Int} : k ∈ evE s l ↔ k.1 = (s : Int) ∧ k.2.toNat % 2 = 0 ∧ ∃ t u, (k.2, t, u) ∈ l := by
  unfold evE
  constructor
  · intro h
    obtain ⟨e, he, rfl⟩ := List.mem_map.1 h
    obtain ⟨h1, h2⟩ := List.mem_filter.1 he
    exact ⟨rfl, by simpa using h2, e.2.1, e.2.2, h1⟩
  · rintro ⟨h1, h2, t, u, h3⟩
    obtain ⟨k1, k2⟩ := k
    dsimp only at h1 h2 h3
    subst h1
    exact List.mem_map.2 ⟨(k2, t, u), List.mem_filter.2 ⟨h3, by simpa using h2⟩, rfl⟩
theorem mem_evL : ∀ {l : List (List Int)} {s : Nat} {k : Int × Int}, k ∈ evL s l ↔ ∃ (i : Nat) (row : List Int), l[i]? = some row ∧ k.1 = ((s + i : Nat) : Int) ∧ k.2.toNat % 2 = 0 ∧ ∃ t u, (k.2, t, u) ∈ edgesFrom 0 row
  | [], s, k => by simp [evL]
  | row :: l, s, k => by
    simp only [evL, List.mem_append, mem_evE, mem_evL (l := l) (s := s + 1)]
    constructor
    · rintro (⟨h1, h2, h3⟩ | ⟨i, r, h0, h1, h2, h3⟩)
      · exact ⟨0, row, rfl, by simpa using h1, h2, h3⟩
      · exact ⟨i + 1, r, by simpa using h0, by rw [h1]; omega, h2, h3⟩
    · rintro ⟨i, r, h0, h1, h2, h3⟩
      cases i with
      | zero =>
        simp only [List.getElem?_cons_zero, Option.some.injEq] at h0
        subst h0
        exact .inl ⟨by simpa using h1, h2, h3⟩
      | succ i => exact .inr ⟨i, r, by simpa using h0, by rw [h1]; omega, h2, h3⟩
theorem evE_nodup (s : Nat) (row : List Int) : (evE s (edgesFrom 0 row)).Nodup := by
  unfold evE
  refine List.Pairwise.map _ (R := fun a b => a.1 < b.1) (fun a b h => ?_) ((edges_sorted row 0).sublist List.filter_sublist)
  intro he
  simp only [Prod.mk.injEq, true_and] at he
  omega
theorem evL_nodup : ∀ (l : List (List Int)) (s : Nat), (evL s l).Nodup
  | [], s => List.nodup_nil
  | row :: l, s => by
    simp only [evL]
    rw [List.nodup_append]
    refine ⟨evE_nodup s row, evL_nodup l (s + 1), fun a ha b hb he => ?_⟩
    subst he
    have h1 := (mem_evE.1 ha).1
    obtain ⟨i, r, _, h2, _⟩ := mem_evL.1 hb
    omega
theorem nodup_sub {α : Type} [DecidableEq α] : ∀ (a b : List α), a.Nodup → (∀ x ∈ a, x ∈ b) → a.length ≤ b.length
  | [], b, _, _ => Nat.zero_le _
  | x :: a, b, hn, h => by
    obtain ⟨h1, h2⟩ := List.nodup_cons.1 hn
    have hx := h x (by simp)
    have := nodup_sub a (b.erase x) h2 fun y hy => by
      have hne : y ≠ x := fun he => h1 (he ▸ hy)
      exact (List.mem_erase_of_ne hne).2 (h y (by simp [hy]))
    rw [List.length_erase_of_mem hx] at this
    have hpos : 0 < b.length := List.length_pos_of_mem hx
    simp only [List.length_cons]; omega
theorem filter_count {α : Type} (p : α → Bool) : ∀ l : List α, (l.filter p).length + (l.filter (fun x => !p x)).length = l.length
  | [] => rfl
  | x :: l => by
    have := filter_count p l
    cases h : p x <;> simp [h] <;> omega
/-- There are as many basis elements as transitions by small letters, less the states, plus 1. -/
theorem number_count {k : Int} (hk : k ≤ 8) {a : Aut} (hc : a.check k = 0) : (basF a.next).number.length + a.next.length = (evL 0 a.next).length + 1 := by
  obtain ⟨hT, hW, hseen⟩ := tree_ok hk hc
  obtain ⟨_, _, _, _, _, _, hrows⟩ := check_spec hc
  rw [(basF_eq a.next).1]
  have h1 := filter_count (fun k => decide (k ∈ (treeF a.next).keys)) (evL 0 a.next)
  have e : (fun k => !decide (k ∈ (treeF a.next).keys)) = (fun k => decide (k ∉ (treeF a.next).keys)) := by funext k; simp
  rw [e] at h1
  have h2 : ((evL 0 a.next).filter (fun k => decide (k ∈ (treeF a.next).keys))).length = ((treeF a.next).keys.filter isEven).length := by
    apply Nat.le_antisymm
    · refine nodup_sub _ _ ((evL_nodup _ _).sublist List.filter_sublist) fun x hx => ?_
      obtain ⟨hx1, hx2⟩ := List.mem_filter.1 hx
      obtain ⟨i, r, q1, q2, q3, q4⟩ := mem_evL.1 hx1
      exact List.mem_filter.2 ⟨by simpa using hx2, by unfold isEven; simpa using q3⟩
    · refine nodup_sub _ _ (hW.nodup.sublist List.filter_sublist) fun x hx => ?_
      obtain ⟨hx1, hx2⟩ := List.mem_filter.1 hx
      obtain ⟨x1, x2⟩ := x
      obtain ⟨u', y', t', p1, p2, p3, p4, p5, p6, _⟩ := hW.keyw x1 x2 hx1
      subst p1; subst p2
      have hul : u' < a.next.length := by omega
      have hrow : a.next[u']? = some a.next[u'] := List.getElem?_eq_getElem hul
      have hg : a.next[u'].getD y' 0 = (t' : Int) := by unfold getN at p4; rw [getD_get hul] at p4; exact p4
      refine List.mem_filter.2 ⟨mem_evL.2 ⟨u', _, hrow, by simp, by unfold isEven at hx2; simpa using hx2, a.next[u'].getD y' 0, (), ?_⟩, by simpa using hx1⟩
      by_cases hy : y' < a.next[u'].length
      · have := edges_of a.next[u'] 0 y' hy (by rw [hg]; omega)
        simpa using this
      · -- the key is a transition: its letter is there
        exfalso
        have h4 := (hrows _ (List.getElem_mem hul)).1
        omega
  have h3 := hW.evens
  omega
theorem graphR_count (s : Nat) : ∀ (n i : Nat) (row : List Int), row.length = 2 * n → ∀ full : List Int, (∀ j, full.getD (2 * i + j) 0 = row.getD j 0) → (graphR s full i n).length = (evE s (edgesFrom (2 * i) row)).length
  | 0, i, row, h, full, hf => by
    have : row = [] := List.eq_nil_of_length_eq_zero (by omega)
    subst this; simp [graphR, edgesFrom, evE]
  | n + 1, i, row, h, full, hf => by
    match row, h with
    | x :: y :: l, h =>
      have h0 : full.getD (2 * i) 0 = x := by have := hf 0; simpa using this
      have ih := graphR_count s n (i + 1) l (by simp at h; omega) full (fun j => by have := hf (j + 2); rw [show 2 * (i + 1) + j = 2 * i + (j + 2) by omega, this]; simp)
      have e1 : ((2 * i : Nat) : Int).toNat % 2 = 0 := by omega
      have e2 : ¬ ((2 * i + 1 : Nat) : Int).toNat % 2 = 0 := by omega
      simp only [graphR, edgesFrom, h0, List.length_append, ih]
      rw [show 2 * i + 1 + 1 = 2 * (i + 1) by omega]
      generalize edgesFrom (2 * (i + 1)) l = Z
      have p1 : (((2 * i : Nat) : Int).toNat % 2 == 0) = true := by rw [e1]; rfl
      have p2 : (((2 * i + 1 : Nat) : Int).toNat % 2 == 0) = false := beq_eq_false_iff_ne.2 e2
      have q1 : ∀ t u Z, (evE s ((((2 * i : Nat) : Int), t, u) :: Z)).length = 1 + (evE s Z).length := fun t u Z => by
        unfold evE; rw [List.filter_cons_of_pos (p := fun e : Int × Int × Unit => e.1.toNat % 2 == 0) (a := (((2 * i : Nat) : Int), t, u)) p1, List.map_cons, List.length_cons, Nat.add_comm]
      have q2 : ∀ t u Z, (evE s ((((2 * i + 1 : Nat) : Int), t, u) :: Z)).length = (evE s Z).length := fun t u Z => by
        unfold evE; rw [List.filter_cons_of_neg (p := fun e : Int × Int × Unit => e.1.toNat % 2 == 0) (a := (((2 * i + 1 : Nat) : Int), t, u)) (by show ¬ (_ == 0) = true; rw [p2]; simp)]
      by_cases hx : 0 ≤ x <;> by_cases hy : 0 ≤ y <;> simp only [hx, hy, if_true, if_false, q1, q2, List.length_singleton, List.length_nil, Nat.zero_add]
theorem graphL_count {k : Nat} : ∀ (l : List (List Int)) (s : Nat), (∀ r ∈ l, r.length = 2 * k) → (graphL k s l).length = (evL s l).length
  | [], s, _ => rfl
  | row :: l, s, h => by
    simp only [graphL, evL, List.length_append]
    rw [graphL_count l (s + 1) fun r hr => h r (by simp [hr]), graphR_count s k 0 row (h row (by simp)) row (fun j => by simp)]
theorem graphR_full (s : Nat) (row : List Int) : ∀ (n i : Nat), (∀ j, 0 ≤ row.getD j 0) → (graphR s row i n).length = n
  | 0, i, _ => rfl
  | n + 1, i, h => by
    simp only [graphR, if_pos (h (2 * i)), List.length_append, graphR_full s row n (i + 1) h, List.length_singleton]
    omega
theorem graphL_full {k : Nat} : ∀ (l : List (List Int)) (s : Nat), (∀ r ∈ l, ∀ j, 0 ≤ r.getD j 0) → (graphL k s l).length = l.length * k
  | [], s, _ => by simp [graphL]
  | row :: l, s, h => by
    simp only [graphL, List.length_append, List.length_cons]
    rw [graphL_full l (s + 1) fun r hr => h r (by simp [hr]), graphR_full s row k 0 (h row (by simp)), Nat.add_mul, Nat.one_mul, Nat.add_comm]
theorem deg_full : ∀ (row : List Int), row.length ≤ degF (row.map toO) → ∀ t ∈ row, 0 ≤ t
  | [], _, t, h => by simp at h
  | x :: l, hd, t, ht => by
    have hl : degF (l.map toO) ≤ l.length := Nat.le_trans (List.length_filter_le _ _) (by simp)
    have hs : degF ((x :: l).map toO) = degF (l.map toO) + (if 0 ≤ x then 1 else 0) := by
      unfold degF
      simp only [List.map_cons, List.filter_cons]
      by_cases hx : 0 ≤ x
      · have : (toO x).isSome = true := by unfold toO; rw [if_neg (by omega)]; rfl
        rw [this, if_pos hx]; simp
      · have : (toO x).isSome = false := by unfold toO; rw [if_pos (by omega)]; rfl
        rw [this, if_neg hx]; simp
    rw [hs] at hd
    simp only [List.length_cons] at hd
    have hx : 0 ≤ x := by
      by_cases hx : 0 ≤ x
      · exact hx
      · rw [if_neg hx] at hd; omega
    rw [if_pos hx] at hd
    rcases List.mem_cons.1 ht with rfl | ht
    · exact hx
    · exact deg_full l (by omega) t ht
/-- THE STATEMENT OF FoldIndexes. -/
theorem indexes {k : Int} (hk : 1 ≤ k ∧ k ≤ 8) {a : Aut} (hc : a.check k = 0) : ((basisF k a).1.length : Int) = ((graphL k.toNat 0 a.next).length : Int) - (a.next.length : Int) + 1 ∧ (basisF k a).2 = 0 ∧ (indexF k a).2 = 0 ∧ ((indexF k a).1 = 0 ∨ ((basisF k a).1.length : Int) = 1 + (indexF k a).1 * (k - 1)) ∧ (graphL k.toNat 0 a.next).length ≤ 16000 ∧ 0 ≤ (indexF k a).1 ∧ (indexF k a).1 ≤ 2000 := by
  obtain ⟨_, _, h1, h2, _, hs, hr⟩ := check_spec hc
  have hex : examF k [a] [] = 0 := by
    unfold examF
    rw [if_neg (by simpa using hk)]
    simp [hc]
  have hB : basisF k a = ((basF a.next).basis, 0) := by simp [basisF, hex]
  have hI : indexF k a = if a.next.any (fun r => decide ((degF (r.map toO) : Int) < 2 * k)) then (0, 0) else ((a.next.length : Int), 0) := by
    unfold indexF; rw [if_neg (by rw [hex]; simp)]
  have hn := number_count hk.2 hc
  have hg := graphL_count (k := k.toNat) a.next 0 (fun r hm => by have := (hr r hm).1; omega)
  have hb := (basF_eq a.next).2
  have hgl := graphL_len k.toNat a.next 0
  have hkn : k.toNat * a.next.length ≤ 8 * 2000 := Nat.mul_le_mul (by omega) (by omega)
  refine ⟨by rw [hB]; dsimp only; omega, by rw [hB], by rw [hI]; split <;> rfl, ?_, by omega, by rw [hI]; split <;> simp, by rw [hI]; split <;> simp; omega⟩
  rw [hI]
  split
  · exact .inl rfl
  · rename_i hany
    refine .inr ?_
    rw [hB]
    dsimp only
    have hfull := graphL_full (k := k.toNat) a.next 0 (fun r hm j => by
      have hd : ¬ (degF (r.map toO) : Int) < 2 * k := fun hh => hany (List.any_eq_true.2 ⟨r, hm, by simpa using hh⟩)
      have hl := (hr r hm).1
      have := deg_full r (by omega)
      by_cases hj : j < r.length
      · rw [getD_get hj]; exact this _ (List.getElem_mem hj)
      · rw [List.getD_eq_getElem?_getD, List.getElem?_eq_none (by omega)]; exact Int.le_refl _)
    obtain ⟨nk, rfl⟩ := Int.eq_ofNat_of_zero_le (show 0 ≤ k by omega)
    simp only [Int.toNat_natCast] at hfull hg
    rw [Int.mul_sub, Int.mul_one]
    have : ((a.next.length * nk : Nat) : Int) = (a.next.length : Int) * (nk : Int) := by push_cast; rfl
    rw [← this]
    omega
end Go.Proofs.YtffdjfkekdoeaaaDoor.Pl
end
section
/- The walk of FoldIndexes. -/
set_option linter.unusedVariables false
set_option linter.unusedSimpArgs false
set_option maxRecDepth 8000
set_option maxHeartbeats 4000000
namespace Go.Proofs.YtffdjfkekdoeaaaDoor.Fo
open Fw Wd Rf Pl

theorem FoldIndexes_ret {w : World} (hl : Laid w) {k : Int} {x : Int × Int × Sl × Sl × Unit} {a : Aut} (ha : AutIn w x a) :
    Ret Tryd.prog 6 #[.int .i64 k, .agg #[.int .i64 x.1, .int .i64 x.2.1, x.2.2.1.v, x.2.2.2.1.v]] (.sc .bool) w fun z w' => z = true ∧ Chg Nil w w' := by
  obtain ⟨x1, x2, sa, sn, _⟩ := x
  refine cayleylaw21_FoldIndexes.calls k x1 x2 sa sn ?_
  unfold cayleylaw21_FoldIndexes.sh
  refine New.mk fun b1 w1 hb1 hn1 hs1 hc1 => ?_
  have ha1 := ha.nil hc1
  have e1 : sa.n = a.acc.length := ha.rd.acc.len
  have l0 : ∀ {W : World}, Chg Nil w1 W → W.heap[b1]? = some (.cells #[.int .i64 x1, .int .i64 x2, sa.v, sn.v] 27 (0, 0)) := fun hW => hW.heap hn1 fun h => h
  have ldA : ∀ {W : World}, Chg Nil w1 W → ∀ {K : tA.den → Prop}, K (x1, x2, sa, sn, ()) → LoadT tA W (Addr.mk b1 0 none) K := fun hW K kk => LoadT.mk tA (fun j v hv => by rw [cellOf (l0 hW)]; simpa [Ty.cells] using hv) kk
  refine Join.by' (fun y W => y = (k, at0 b1, ()) ∧ Chg Nil w1 W ∧ a.check k = 0 ∧ 1 ≤ k ∧ k ≤ 8) ?_ ?_
  · rintro y W g ⟨rfl, hcW, hck, hk1, hk8⟩
    dsimp only
    obtain ⟨i1, i2, i3, i4, i5, i6, i7⟩ := indexes ⟨hk1, hk8⟩ hck
    obtain ⟨_, _, n1, n2, n3, _, hrows⟩ := check_spec hck
    refine ldA hcW ?_
    refine RetN.call (Basis_ret (x := (x1, x2, sa, sn, ())) (hl.nil (hc1.then hcW)) (ha1.nil hcW)) ?_
    rintro ⟨r1, r2, _⟩ W2 ⟨q1, q2, hc2, _⟩
    have q1 : r2 = (basisF k a).2 := q1
    rw [i2] at q1
    subst q1
    have hcW2 := hcW.then hc2
    refine ldA hcW2 ?_
    refine RetN.call (Index_ret (x := (x1, x2, sa, sn, ())) (hl.nil (hc1.then hcW2)) (ha1.nil hcW2)) ?_
    rintro _ W3 ⟨rfl, hc3⟩
    rw [i3]
    have hcW3 := hcW2.then hc3
    refine ldA hcW3 ?_
    obtain ⟨nk, rfl⟩ := Int.eq_ofNat_of_zero_le (show 0 ≤ k by omega)
    refine Ret.call (GraphOf_ret (k := nk) (x := (x1, x2, sa, sn, ())) (by omega) (ha1.nil hcW3) (by omega) (fun r hr => by have := (hrows r hr).1; omega)) ?_
    rintro ⟨y1, y2, ys, _⟩ W4 ⟨p1, p2, p3, hc4, _⟩
    have hcW4 := hcW3.then hc4
    refine Ret.call (sane_ret (hl.nil (hc1.then hcW4))) ?_
    rintro _ W5 ⟨rfl, hc5⟩
    have hcW5 := hcW4.then hc5
    refine Br.t rfl (Br.t rfl (Br.t rfl ?_))
    refine LoadT.sc (s := .sl) (x := sa) (by rw [cellOf (l0 hcW5)]; rfl) ?_
    have e2 : r1.n = (basisF (nk : Int) a).1.length := q2.len
    have e3 : ys.n = (graphL nk 0 a.next).length := by have := p3.len; simpa using this
    simp only [Int.toNat_natCast] at i1 i5
    rw [e1, e2, e3, wrap64 (x := ((graphL nk 0 a.next).length : Int) - (a.acc.length : Int)) (by omega) (by omega), wrap64 (by omega) (by omega)]
    refine Br.t ?_ ?_
    · rw [i1, beq_iff_eq, n3]
    refine Br.mk (fun h => ⟨true, rfl, rfl, hc1.then hcW5⟩) (fun h => ⟨true, ?_, rfl, hc1.then hcW5⟩)
    have h : ¬ (indexF (nk : Int) a).1 = 0 := by simpa using h
    have i4 := i4.resolve_left h
    have hm0 : 0 ≤ (indexF (nk : Int) a).1 * ((nk : Int) - 1) := Int.mul_nonneg i6 (by omega)
    have hm1 : (indexF (nk : Int) a).1 * ((nk : Int) - 1) ≤ 2000 * 7 := Int.mul_le_mul i7 (by omega) (by omega) (by omega)
    rw [wrap64 (x := (nk : Int) - 1) (by omega) (by omega), wrap64 (x := (indexF (nk : Int) a).1 * ((nk : Int) - 1)) (by omega) (by omega), wrap64 (by omega) (by omega), i4, beq_self_eq_true]
  · intro J hJ
    refine LoadT.sc (s := .sl) (x := sa) (by rw [cellOf hn1]; rfl) ?_
    have ret0 : ∀ {W : World}, Chg Nil w1 W → CallT Tryd.prog 14 #[] (.sc .bool) W (fun r W' => ∃ z : Bool, Ending.returned (.bool r) = .returned ((Ty.sc .bool).val z) ∧ z = true ∧ Chg Nil w W') (fun ch W' => ∃ z : Bool, Ending.panicked ch = .returned ((Ty.sc .bool).val z) ∧ z = true ∧ Chg Nil w W') := fun hW =>
      Ret.call (sane_ret (hl.nil (hc1.then hW))) fun r W' ⟨hr, hc⟩ => ⟨r, rfl, hr, (hc1.then hW).then hc⟩
    refine Br.dec (fun h => Br.t rfl (ret0 (Chg.refl _))) (fun h => ?_)
    refine LoadT.sc (s := .sl) (x := sn) (by rw [cellOf hn1]; rfl) ?_
    refine Br.dec (fun h => Br.t rfl (ret0 (Chg.refl _))) (fun h => ?_)
    refine ldA (Chg.refl _) ?_
    refine Ret.call (Check_ret21 (k := k) (x := (x1, x2, sa, sn, ())) ha1) ?_
    rintro _ W ⟨rfl, hc⟩
    refine Br.mk (fun hne => ret0 hc) (fun heq => hJ _ _ ⟨rfl, hc, ?_⟩)
    have heq : (if ¬ (1 ≤ k ∧ k ≤ 8) then (1 : Int) else if isM k a = true then 0 else 210) = 0 := by simpa using heq
    by_cases hk : 1 ≤ k ∧ k ≤ 8
    · rw [if_neg (by simpa using hk)] at heq
      by_cases hm : isM k a = true
      · rw [isM_check hk] at hm
        exact ⟨by simpa using hm, hk.1, hk.2⟩
      · rw [if_neg hm] at heq; cases heq
    · rw [if_pos hk] at heq; cases heq
end Go.Proofs.YtffdjfkekdoeaaaDoor.Fo
end
section
/- The references Lead and Index. -/
set_option linter.unusedVariables false
set_option linter.unusedSimpArgs false
set_option maxRecDepth 8000
set_option maxHeartbeats 4000000
namespace Go.Proofs.YtffdjfkekdoeaaaDoor.Rf
open Fw Wd Fo

theorem leadsF_low {next : List (List Int)} (hr : ∀ r ∈ next, ∀ t ∈ r, -1 ≤ t) : ∀ (l : List Nat) (s : Nat), s < next.length → (∀ r ∈ next, ∀ t ∈ r, t < (next.length : Int)) → 0 < next.length → -1 ≤ leadsF next l s
  | [], s, hs, _, _ => by simp only [leadsF]; omega
  | x :: l, s, hs, hlt, h0 => by
    have hv : -1 ≤ (next.getD s []).getD x 0 ∧ (next.getD s []).getD x 0 < (next.length : Int) := by
      rw [getD_get hs]
      by_cases hx : x < next[s].length
      · rw [getD_get hx]; exact ⟨hr _ (List.getElem_mem hs) _ (List.getElem_mem hx), hlt _ (List.getElem_mem hs) _ (List.getElem_mem hx)⟩
      · rw [List.getD_eq_getElem?_getD, List.getElem?_eq_none (by omega)]; simp; omega
    simp only [leadsF]
    split
    · exact hv.1
    · exact leadsF_low hr l _ (by omega) hlt h0
theorem Lead_ret {w : World} {k : Int} {x : Int × Int × Sl × Sl × Unit} {a : Aut} (h : AutIn w x a) (hc : a.check k = 0) (hk : 1 ≤ k ∧ k ≤ 8) {s : ByteArray} (hs : checkF k s = 0) :
    Ret Tryd.prog 23 #[.agg #[.int .i64 x.1, .int .i64 x.2.1, x.2.2.1.v, x.2.2.2.1.v], .string s] tI w fun y w' => y = leadsF a.next (wordF s) 0 ∧ Chg Nil w w' := by
  obtain ⟨x1, x2, sa, sn, _⟩ := x
  obtain ⟨_, _, hn1, hn2, _, _, hrows⟩ := check_spec hc
  refine cayleyref21_Lead.calls x1 x2 sa sn s ?_
  unfold cayleyref21_Lead.sh
  refine New.mk fun b1 w1 hb1 hh1 hs1 hc1 => ?_
  refine Ret.call (Rf.Reduce_ret w1 s) ?_
  rintro _ w2 ⟨rfl, hc2⟩
  obtain ⟨hidx, hsz⟩ := idxs_word hs
  have hlen : (wordF s).length = (ReduceF s).size := by have := congrArg List.length hidx; simpa using this.symm
  obtain ⟨_, _, _, sls, hrn, hsl, hrws, _⟩ := h.rd
  have hrn : RdT w (.sc .sl) sn sls := hrn
  have e3 : sn.n = a.next.length := by rw [hrn.len, hsl]
  have hc02 := hc1.then hc2
  have l1 : ∀ {W : World}, Chg Nil w2 W → W.heap[b1]? = some (.cells #[.int .i64 x1, .int .i64 x2, sa.v, sn.v] 27 (0, 0)) := fun hW => hW.heap (hc2.heap hh1 fun h => h) fun h => h
  refine LoopT.mk (fun y W => ∃ (i : Nat) (st : Int), i ≤ (wordF s).length ∧ -1 ≤ st ∧ st < (a.next.length : Int) ∧ y = (at0 b1, ReduceF s, st, (i : Int), ()) ∧ Chg Nil w2 W ∧ (0 ≤ st → leadsF a.next ((wordF s).drop i) st.toNat = leadsF a.next (wordF s) 0) ∧ (st < 0 → st = leadsF a.next (wordF s) 0)) (fun y _ => (wordF s).length - y.2.2.2.1.toNat)
    ⟨0, 0, Nat.zero_le _, by omega, by omega, rfl, Chg.refl _, fun _ => rfl, fun h => by omega⟩ ?_
  rintro y g W ⟨i, st, hi, hst0, hst1, rfl, hcW, hl1, hl2⟩
  dsimp only
  have done : (st < 0 ∨ i = (wordF s).length) → ∃ z, Ending.returned (.int .i64 st) = .returned (tI.val z) ∧ z = leadsF a.next (wordF s) 0 ∧ Chg Nil w W := fun hd => by
    refine ⟨st, rfl, ?_, hc02.then hcW⟩
    by_cases hn : st < 0
    · exact hl2 hn
    · rcases hd with hd | hd
      · exact absurd hd hn
      · have := hl1 (by omega)
        rw [hd, List.drop_eq_nil_of_le (Nat.le_refl _)] at this
        simp only [leadsF] at this
        rw [← this]
        show st = ((st.toNat : Nat) : Int)
        omega
  refine Join.by' (fun y V => y = (at0 b1, ReduceF s, st, (i : Int), ()) ∧ V = W ∧ i < (wordF s).length ∧ 0 ≤ st) ?_ ?_
  · rintro y V g2 ⟨rfl, hV, hil, hst⟩
    rw [hV]; clear hV
    dsimp only
    obtain ⟨ns, rfl⟩ := Int.eq_ofNat_of_zero_le hst
    have hns : ns < a.next.length := by omega
    have hlead := hl1 hst
    have hidxi : idxF (ofB ((ReduceF s)[i]'(by omega))) = (((wordF s)[i] : Nat) : Int) := by
      have h1 := congrArg (·[i]?) hidx
      simp only [List.getElem?_map, bytes_get (ReduceF s) i (by omega), List.getElem?_eq_getElem hil, Option.map_some, Option.some.injEq] at h1
      exact h1
    have hxlt := word_lt hs i hil
    have hdrop : (wordF s).drop i = (wordF s)[i] :: (wordF s).drop (i + 1) := List.drop_eq_getElem_cons hil
    generalize (wordF s)[i] = x at hdrop hidxi hxlt
    rw [hdrop] at hlead
    simp only [leadsF, Int.toNat_natCast] at hlead
    obtain ⟨hrl, hrv⟩ := hrows _ (List.getElem_mem hns)
    have hxl : x < a.next[ns].length := by omega
    rw [getD_get hns, getD_get hxl] at hlead
    obtain ⟨v1, v2⟩ := hrv _ (List.getElem_mem hxl)
    obtain ⟨rsl, hrsl⟩ : ∃ rsl, sls[ns]? = some rsl := ⟨_, List.getElem?_eq_getElem (by rw [hsl]; exact hns)⟩
    have hrr := hrws ns rsl _ hrsl (List.getElem?_eq_getElem hns)
    have hd : Chg Nil W W.drew := Chg.drew W
    have hcd := hcW.then hd
    refine ⟨fun V => Chg Nil w2 V, hcd, ?_⟩
    refine LoadS.sc (s := .sl) (x := sn) (fun V hV => by rw [cellOf (l1 hV)]; rfl) ?_
    refine rd_idxA (t := .sc .sl) hrn ns rfl hrsl fun ad had => ?_
    refine LoadS.sc (s := .sl) (x := rsl) (fun V hV => (hrn.chg (hc02.then hV) fun _ _ h => h).cell1 had hrsl) ?_
    refine StrIdx.mk i rfl (by omega) ?_
    have hb := UInt8.toNat_lt ((ReduceF s)[i]'(by omega))
    refine Ret.call (Rf.Index_ret _ _ (by unfold ofB; omega) (by unfold ofB; omega)) ?_
    rintro _ _ ⟨rfl, rfl⟩
    refine ⟨hcd, ?_⟩
    rw [hidxi]
    have hxe : a.next[ns][x]? = some a.next[ns][x] := List.getElem?_eq_getElem hxl
    refine rd_idxA (t := tI) hrr x rfl hxe fun ad' had' => ?_
    refine LoadS.sc (s := .int .i64) (x := a.next[ns][x]) (fun V hV => (hrr.chg (hc02.then hV) fun _ _ h => h).cell1 had' hxe) ?_
    rw [wrap64 (by omega) (by omega)]
    refine ⟨⟨i + 1, a.next[ns][x], hil, v1, v2, rfl, hcd, fun hp => ?_, fun hn => ?_⟩, ?_⟩
    · rw [if_neg (by omega)] at hlead; exact hlead
    · rw [if_pos hn] at hlead; exact hlead
    · show (wordF s).length - (i + 1) < (wordF s).length - i
      omega
  · intro J hJ
    refine Br.dec (fun hlt => ?_) (fun hge => Br.f rfl (done (.inr ?_)))
    · have hlt : (i : Int) < ((ReduceF s).size : Int) := hlt
      refine Br.dec (fun hp => ?_) (fun hn => Br.f rfl (done (.inl ?_)))
      · have hp : st ≥ 0 := hp
        refine LoadT.sc (s := .sl) (x := sn) (by rw [cellOf (l1 hcW)]; rfl) ?_
        refine Br.yes (by rw [e3]; exact hst1) (hJ _ _ ⟨rfl, rfl, by omega, hp⟩)
      · have hn : ¬ st ≥ 0 := hn
        omega
    · have hge : ¬ (i : Int) < ((ReduceF s).size : Int) := hge
      omega
theorem Index_ret21 {w : World} {k : Int} {x : Int × Int × Sl × Sl × Unit} {a : Aut} (h : AutIn w x a) (hc : a.check k = 0) (hk : 1 ≤ k ∧ k ≤ 8) :
    Ret Tryd.prog 31 #[.agg #[.int .i64 x.1, .int .i64 x.2.1, x.2.2.1.v, x.2.2.2.1.v]] tI w fun y w' => y = (if a.next.all (fun r => r.all fun t => decide (0 ≤ t)) then (a.next.length : Int) else 0) ∧ Chg Nil w w' := by
  obtain ⟨x1, x2, sa, sn, _⟩ := x
  obtain ⟨hsym, _, hn1, hn2, hla, _, hrows⟩ := check_spec hc
  have a1 := h.sym
  simp only at a1
  refine cayleyref21_Index.calls x1 x2 sa sn ?_
  unfold cayleyref21_Index.sh
  refine New.mk fun b1 w1 hb1 hh1 hs1 hc1 => ?_
  obtain ⟨hra, _, _, sls, hrn, hsl, hrws, _⟩ := h.rd
  have hrn : RdT w (.sc .sl) sn sls := hrn
  have e1 : sa.n = a.acc.length := hra.len
  have l1 : ∀ {W : World}, Chg Nil w1 W → W.heap[b1]? = some (.cells #[.int .i64 x1, .int .i64 x2, sa.v, sn.v] 27 (0, 0)) := fun hW => hW.heap hh1 fun h => h
  refine LoopT.mk (fun y W => ∃ i : Nat, i ≤ a.next.length ∧ y = (at0 b1, (i : Int), ()) ∧ Chg Nil w1 W ∧ (a.next.take i).all (fun r => r.all fun t => decide (0 ≤ t)) = true) (fun y _ => a.next.length - y.2.1.toNat) ⟨0, Nat.zero_le _, rfl, Chg.refl _, rfl⟩ ?_
  rintro y g W ⟨i, hi, rfl, hcW, hall⟩
  dsimp only
  refine LoadT.sc (s := .sl) (x := sa) (by rw [cellOf (l1 hcW)]; rfl) ?_
  rw [e1]
  refine Br.dec (fun hlt => ?_) (fun hge => ?_)
  · have hlt' : i < a.next.length := by omega
    obtain ⟨hrl, hrv⟩ := hrows _ (List.getElem_mem hlt')
    obtain ⟨rsl, hrsl⟩ : ∃ rsl, sls[i]? = some rsl := ⟨_, List.getElem?_eq_getElem (by rw [hsl]; exact hlt')⟩
    have hrr := hrws i rsl _ hrsl (List.getElem?_eq_getElem hlt')
    refine LoopT.mk (fun y W => ∃ j : Nat, j ≤ a.next[i].length ∧ y = (at0 b1, (i : Int), (j : Int), ()) ∧ Chg Nil w1 W ∧ (a.next[i].take j).all (fun t => decide (0 ≤ t)) = true) (fun y _ => a.next[i].length - y.2.2.1.toNat) ⟨0, Nat.zero_le _, rfl, hcW, rfl⟩ ?_
    clear hcW
    rintro y g2 W ⟨j, hj, rfl, hcW, hall2⟩
    dsimp only
    refine LoadT.sc (s := .int .i64) (x := x1) (by rw [cellOf (l1 hcW)]; rfl) ?_
    rw [a1, hsym]
    refine Br.dec (fun hlt2 => ?_) (fun hge2 => ?_)
    · have hlt2' : j < a.next[i].length := by omega
      refine LoadT.sc (s := .sl) (x := sn) (by rw [cellOf (l1 hcW)]; rfl) ?_
      refine (hrn.chg (hc1.then hcW) fun _ _ h => h).get (t := .sc .sl) i rfl hrsl ?_
      refine (hrr.chg (hc1.then hcW) fun _ _ h => h).get (t := tI) j rfl (x := a.next[i][j]) (List.getElem?_eq_getElem hlt2') ?_
      refine Br.dec (fun hneg => ⟨0, rfl, ?_, hc1.then hcW⟩) (fun hpos => ?_)
      · have hneg : a.next[i][j] < 0 := hneg
        have : a.next.all (fun r => r.all fun t => decide (0 ≤ t)) = false := by
          rw [List.all_eq_false]
          refine ⟨_, List.getElem_mem hlt', ?_⟩
          rw [Bool.not_eq_true, List.all_eq_false]
          exact ⟨_, List.getElem_mem hlt2', by simpa using hneg⟩
        rw [this]; rfl
      · have hpos : ¬ a.next[i][j] < 0 := hpos
        rw [wrap64 (by omega) (by omega)]
        refine ⟨⟨j + 1, hlt2', rfl, hcW, ?_⟩, ?_⟩
        · rw [take_snoc hlt2', List.all_append, hall2]; simp; omega
        · show a.next[i].length - (j + 1) < a.next[i].length - j
          omega
    · have hjn : j = a.next[i].length := by omega
      rw [hjn, List.take_length] at hall2
      rw [wrap64 (by omega) (by omega)]
      refine ⟨⟨i + 1, hlt', rfl, hcW, ?_⟩, ?_⟩
      · rw [take_snoc hlt', List.all_append, hall, List.all_cons, hall2]; rfl
      · show a.next.length - (i + 1) < a.next.length - i
        omega
  · have hin : i = a.next.length := by omega
    rw [hin, List.take_length] at hall
    refine LoadT.sc (s := .sl) (x := sa) (by rw [cellOf (l1 hcW)]; rfl) ?_
    exact ⟨_, rfl, by rw [hall, e1, hla]; rfl, hc1.then hcW⟩
end Go.Proofs.YtffdjfkekdoeaaaDoor.Rf
end
section
/- Which transitions make a basis element: those beside the tree. -/
set_option linter.unusedVariables false
set_option linter.unusedSimpArgs false
set_option maxRecDepth 4000
set_option maxHeartbeats 2000000
namespace Go.Proofs.YtffdjfkekdoeaaaDoor.Pl
open Fw Wd Fo Rf

theorem L_bad : ∀ x : Fin 16, badF 8 ((L x.val).toNat : Int) = false := by decide
def Good (l : List UInt8) : Prop := ∀ b ∈ l, ∃ x, x < 16 ∧ b = L x
theorem Good.inv {l : List UInt8} (h : Good l) : Good (invF l) := fun b hb => by
  unfold invF at hb
  rw [List.mem_reverse] at hb
  obtain ⟨c, hc, rfl⟩ := List.mem_map.1 hb
  obtain ⟨x, hx, rfl⟩ := h c hc
  exact ⟨x ^^^ 1, (xor_xor ⟨x, hx⟩).2, L_other ⟨x, hx⟩⟩
theorem Good.app {a b : List UInt8} (h : Good a) (h' : Good b) : Good (a ++ b) := fun c hc => (List.mem_append.1 hc).elim (h c) (h' c)
theorem check_good {s : ByteArray} (h : Good s.data.toList) (hs : s.size ≤ 100000) : checkF 8 s = 0 := by
  unfold checkF
  rw [if_neg (by omega), if_neg (by omega), if_neg]
  unfold hasBad
  rw [Bool.not_eq_true, List.any_eq_false]
  intro b hb
  obtain ⟨x, hx, rfl⟩ := h b hb
  rw [L_bad ⟨x, hx⟩]; simp
theorem size_list (s : ByteArray) : s.size = s.data.toList.length := by
  show s.data.size = _
  rw [Array.length_toList]
/-- The transition back. -/
theorem back_of {k : Int} {a : Aut} (hc : a.check k = 0) {s x : Nat} (hs : s < a.next.length) (hx : x < 2 * k.toNat) (hp : 0 ≤ getN a.next s x) : getN a.next (getN a.next s x).toNat (x ^^^ 1) = (s : Int) := by
  obtain ⟨_, _, _, _, _, hsc, hrows⟩ := check_spec hc
  have hl := ((scanR_iff a.next 0 1 _).1 hsc).1 s a.next[s] (List.getElem?_eq_getElem hs)
  rw [Nat.zero_add] at hl
  have hr := hl.2.2
  have hlen := (hrows _ (List.getElem_mem hs)).1
  have hg : getN a.next s x = a.next[s].getD x 0 := by unfold getN; rw [getD_get hs]
  rw [hg] at hp ⊢
  have := edges_of a.next[s] 0 x (by omega) hp
  have := List.all_eq_true.1 hr _ this
  simpa using this
theorem path_mem {T : Tree} {s : Nat} (h : s < T.paths.length) : T.paths.getD s ⟨#[]⟩ ∈ T.paths := by rw [getD_get h]; exact List.getElem_mem h
/-- A TRANSITION MAKES THE EMPTY WORD EXACTLY IF IT BELONGS TO THE TREE. -/
theorem red_edge {k : Int} (hk : k ≤ 8) {a : Aut} (hc : a.check k = 0) {s x t : Nat} (hs : s < a.next.length) (hx : x < 2 * k.toNat) (ht : getN a.next s x = (t : Int)) :
    (ReduceF ((treeF a.next).paths.getD s ⟨#[]⟩ ++ letS (x : Int) ++ InverseF ((treeF a.next).paths.getD t ⟨#[]⟩)) = ⟨#[]⟩ ↔ ((s : Int), (x : Int)) ∈ (treeF a.next).keys) := by
  obtain ⟨hT, hW, hseen⟩ := tree_ok hk hc
  obtain ⟨_, _, h1, h2, _, _, hrows⟩ := check_spec hc
  have hx16 : x < 16 := by omega
  have hb := back_of hc hs hx (by omega)
  rw [ht, Int.toNat_natCast] at hb
  have htn : t < a.next.length := by
    have hlen := (hrows _ (List.getElem_mem hs)).1
    have hg : getN a.next s x = a.next[s][x]'(by omega) := by unfold getN; rw [getD_get hs, getD_get (by omega)]
    have := ((hrows _ (List.getElem_mem hs)).2 _ (List.getElem_mem (show x < a.next[s].length by omega))).2
    omega
  have mS := path_mem (T := treeF a.next) (s := s) (by rw [hT.len]; exact hs)
  have mT := path_mem (T := treeF a.next) (s := t) (by rw [hT.len]; exact htn)
  have zS := hT.small _ mS
  have zT := hT.small _ mT
  have gS : Good _ := hW.good _ mS
  have gT : Good _ := hW.good _ mT
  have rS := hW.red _ mS
  have rT := hW.red _ mT
  have lastS : s ≠ 0 → ∃ s' x', x' < 16 ∧ ((treeF a.next).paths.getD s ⟨#[]⟩).data.toList = ((treeF a.next).paths.getD s' ⟨#[]⟩).data.toList ++ [L x'] ∧ ((s : Int), ((x' ^^^ 1 : Nat) : Int)) ∈ (treeF a.next).keys := fun h => hW.last s (by omega) (by omega)
  have lastT : t ≠ 0 → ∃ s' x', x' < 16 ∧ ((treeF a.next).paths.getD t ⟨#[]⟩).data.toList = ((treeF a.next).paths.getD s' ⟨#[]⟩).data.toList ++ [L x'] ∧ ((t : Int), ((x' ^^^ 1 : Nat) : Int)) ∈ (treeF a.next).keys := fun h => hW.last t (by omega) (by omega)
  have zero := hW.zero
  have keyw := hW.keyw
  generalize hPS : (treeF a.next).paths.getD s ⟨#[]⟩ = pS at *
  generalize hPT : (treeF a.next).paths.getD t ⟨#[]⟩ = pT at *
  have hI : InverseF pT = ⟨(invF pT.data.toList).toArray⟩ := by unfold InverseF; rw [if_pos (check_good gT (by omega))]
  have hIl : (InverseF pT).data.toList = invF pT.data.toList := by rw [hI]
  have hw : (pS ++ letS (x : Int) ++ InverseF pT).data.toList = pS.data.toList ++ [L x] ++ invF pT.data.toList := by rw [app_list, app_list, letS_list, hIl]
  have gw : Good (pS ++ letS (x : Int) ++ InverseF pT).data.toList := by
    rw [hw]
    exact (gS.app fun b hb => by simp only [List.mem_singleton] at hb; exact ⟨x, hx16, hb⟩).app gT.inv
  have hR : ReduceF (pS ++ letS (x : Int) ++ InverseF pT) = ⟨(redF (pS.data.toList ++ [L x] ++ invF pT.data.toList)).toArray⟩ := by
    unfold ReduceF
    have : (pS ++ letS (x : Int) ++ InverseF pT).size ≤ 100000 := by
      rw [ByteArray.size_append, ByteArray.size_append, letS_size]
      have := invF_size pT
      omega
    rw [if_pos (check_good gw this), hw]
  have hemp : ∀ l : List UInt8, ((⟨l.toArray⟩ : ByteArray) = ⟨#[]⟩ ↔ l = []) := fun l => by
    constructor
    · intro h
      have := congrArg (fun b : ByteArray => b.data.toList) h
      simpa using this
    · intro h; rw [h]
  rw [hR, hemp]
  constructor
  · intro he
    by_cases hm : ((s : Int), (x : Int)) ∈ (treeF a.next).keys
    · exact hm
    · exfalso
      have hoth : otherB (L x) = L (x ^^^ 1) := L_other ⟨x, hx16⟩
      obtain ⟨hxx, hx1⟩ := xor_xor ⟨x, hx16⟩
      dsimp only at hxx hx1
      have q1 : pS.data.toList.getLast? ≠ some (otherB (L x)) := fun hl => by
        by_cases hs0 : s = 0
        · subst hs0
          rw [hPS] at zero
          rw [zero] at hl; simp at hl
        · obtain ⟨s', x', p1, p2, p3⟩ := lastS hs0
          rw [p2, List.getLast?_append, List.getLast?_singleton, hoth] at hl
          simp only [Option.some_or, Option.some.injEq] at hl
          have := L_inj ⟨x', p1⟩ ⟨x ^^^ 1, hx1⟩ hl
          simp only [Fin.mk.injEq] at this
          subst this
          rw [hxx] at p3
          exact hm p3
      have q2 : pT.data.toList.getLast? ≠ some (L x) := fun hl => by
        by_cases ht0 : t = 0
        · subst ht0
          rw [hPT] at zero
          rw [zero] at hl; simp at hl
        · obtain ⟨s', x', p1, p2, p3⟩ := lastT ht0
          rw [p2, List.getLast?_append, List.getLast?_singleton] at hl
          simp only [Option.some_or, Option.some.injEq] at hl
          have := L_inj ⟨x', p1⟩ ⟨x, hx16⟩ hl
          simp only [Fin.mk.injEq] at this
          subst this
          obtain ⟨u', y', t', r1, r2, r3, r4, r5, r6, r7, _⟩ := keyw _ _ p3
          obtain rfl : t = u' := by omega
          obtain rfl : x' ^^^ 1 = y' := by omega
          rw [hb] at r4
          rw [hxx, ← r4] at r7
          exact hm r7
      rw [red_loop rS rT q1 q2] at he
      simp at he
  · intro hm
    obtain ⟨u', y', t', r1, r2, r3, r4, r5, r6, r7, r8, r9⟩ := keyw _ _ hm
    obtain rfl : s = u' := by omega
    obtain rfl : x = y' := by omega
    rw [ht] at r4
    obtain rfl : t = t' := by omega
    rw [hPS, hPT] at r9
    rcases r9 with r9 | r9
    · rw [r9] at rT ⊢
      exact red_tree1 rT
    · rw [r9] at rS ⊢
      rw [← L_other ⟨x, hx16⟩] at rS ⊢
      exact red_tree2 rS
end Go.Proofs.YtffdjfkekdoeaaaDoor.Pl
end
