/- Parts of a proof, laid one behind the other by our own merge.py: Sh2 RfWord RfReduce RfSame RfGraph RfNum1 Sh4 RfEdge RfSlice RfClash RfFolded RfNum2 PlRoot PlFold PlMade. -/
import Derived.Test.YtffdjfkekdoeaaaDoorMe1
import Derived.Test.YtffdjfkekdoeaaaDoorProg
import Derived.KernelRfl
import Derived.Test.YtffdjfkekdoeaaaDoorMe3
import Derived.Laws.StructEq
import Derived.Test.YtffdjfkekdoeaaaDoorMe2
section
set_option linter.unusedVariables false
set_option maxRecDepth 10000
namespace Go.Proofs.YtffdjfkekdoeaaaDoor
open Fw
noncomputable def cayleyref01_Index.ann : Ann where
  loops := fun | _ => []
  joins := fun | 2 => some [(0, .sc (.int .u8)), (8, .sc .bool)] | 4 => some [(0, .sc (.int .u8)), (18, .sc .bool)] | _ => none
noncomputable def cayleyref01_Index.body : Code := match Tryd.f61.body with | some c => c | none => .skip
def cayleyref01_Index.sh (p0 : Int) (R : Ending → World → Prop) (w : World) : Prop :=
  Join (σ := Int × Bool × Unit) (fun j3 g2 w4 =>
    Br j3.2.1
      (RunT Tryd.prog (.sc (.int .i64)) (convert 5 3 (.int .u8 (IntKind.wrap .u8 (j3.1 - 97)))) w4 fun r5 w6 =>
      R (.returned (.int .i64 (IntKind.wrap .i64 (2 * r5)))) w6)
      (Join (σ := Int × Bool × Unit) (fun j9 g8 w10 =>
        Br j9.2.1
          (RunT Tryd.prog (.sc (.int .i64)) (convert 5 3 (.int .u8 (IntKind.wrap .u8 (j9.1 - 65)))) w10 fun r11 w12 =>
          R (.returned (.int .i64 (IntKind.wrap .i64 ((IntKind.wrap .i64 (2 * r11)) + 1)))) w12)
          (R (.returned (.int .i64 (-1))) w10)) fun J7 =>
        Br (decide ((j3.1 : Int) ≥ 65))
          (J7 (j3.1, (decide ((j3.1 : Int) < 73)), ()) w4)
          (J7 (j3.1, false, ()) w4))) fun J1 =>
    Br (decide ((p0 : Int) ≥ 97))
      (J1 (p0, (decide ((p0 : Int) < 105)), ()) w)
      (J1 (p0, false, ()) w)
theorem cayleyref01_Index.eq (p0 : Int) (R : Ending → World → Prop) (w : World) : cayleyref01_Index.sh p0 R w = wpc Tryd.prog cayleyref01_Index.ann cayleyref01_Index.body (fnKs Tryd.prog Tryd.f61 R) [] (env0 #[(.int .u8 p0)]) w := by kernel_rfl
theorem cayleyref01_Index.calls (p0 : Int) {R : Ending → World → Prop} {w : World} (h : cayleyref01_Index.sh p0 R w) : Calls Tryd.prog 61 #[(.int .u8 p0)] w R :=
  calls_of_wpc mixed Tryd.func61 (by kernel_rfl) (by kernel_rfl) ((cayleyref01_Index.eq p0 R w).mp h)
noncomputable def cayleyref01_Letter.ann : Ann where
  loops := fun | _ => []
  joins := fun | 3 => some [(0, .sc (.int .i64))] | _ => none
noncomputable def cayleyref01_Letter.body : Code := match Tryd.f65.body with | some c => c | none => .skip
def cayleyref01_Letter.sh (p0 : Int) (R : Ending → World → Prop) (w : World) : Prop :=
  Join (σ := Int × Unit) (fun j3 g2 w4 =>
    (2 : Int) ≠ 0 ∧
    Br (((Int.tmod j3.1 2) : Int) == 0)
      ((2 : Int) ≠ 0 ∧
      RunT Tryd.prog (.sc (.int .u8)) (convert 3 5 (.int .i64 (IntKind.wrap .i64 (Int.tdiv j3.1 2)))) w4 fun r5 w6 =>
      R (.returned (.int .u8 (IntKind.wrap .u8 (97 + r5)))) w6)
      ((2 : Int) ≠ 0 ∧
      RunT Tryd.prog (.sc (.int .u8)) (convert 3 5 (.int .i64 (IntKind.wrap .i64 (Int.tdiv j3.1 2)))) w4 fun r7 w8 =>
      R (.returned (.int .u8 (IntKind.wrap .u8 (65 + r7)))) w8)) fun J1 =>
    Br (decide ((p0 : Int) < 0))
      (Br true
        (R (.returned (.int .u8 0)) w)
        (J1 (p0, ()) w))
      (Br (decide ((p0 : Int) ≥ 16))
        (R (.returned (.int .u8 0)) w)
        (J1 (p0, ()) w))
theorem cayleyref01_Letter.eq (p0 : Int) (R : Ending → World → Prop) (w : World) : cayleyref01_Letter.sh p0 R w = wpc Tryd.prog cayleyref01_Letter.ann cayleyref01_Letter.body (fnKs Tryd.prog Tryd.f65 R) [] (env0 #[(.int .i64 p0)]) w := by kernel_rfl
theorem cayleyref01_Letter.calls (p0 : Int) {R : Ending → World → Prop} {w : World} (h : cayleyref01_Letter.sh p0 R w) : Calls Tryd.prog 65 #[(.int .i64 p0)] w R :=
  calls_of_wpc mixed Tryd.func65 (by kernel_rfl) (by kernel_rfl) ((cayleyref01_Letter.eq p0 R w).mp h)
noncomputable def cayleyref01_Check.ann : Ann where
  loops := fun | 6 => [(0, .sc (.int .i64)), (1, .sc .str), (5, .sc (.int .i64))] | _ => []
  joins := fun | 3 => some [(0, .sc (.int .i64)), (1, .sc .str)] | _ => none
noncomputable def cayleyref01_Check.body : Code := match Tryd.f60.body with | some c => c | none => .skip
def cayleyref01_Check.sh (p0 : Int) (p1 : ByteArray) (R : Ending → World → Prop) (w : World) : Prop :=
  Join (σ := Int × ByteArray × Unit) (fun j3 g2 w4 =>
    Br (decide ((((j3.2.1.size : Nat) : Int) : Int) > 100000))
      (R (.returned (.int .i64 2)) w4)
      (LoopT (σ := Int × ByteArray × Int × Unit) (j3.1, j3.2.1, 0, ()) w4 fun l5 g6 w7 I8 =>
        Br (decide ((l5.2.2.1 : Int) < ((l5.2.1.size : Nat) : Int)))
          (StrIdx l5.2.1 l5.2.2.1 fun c9 =>
          CallT Tryd.prog 61 #[(.int .u8 c9)] (.sc (.int .i64)) w7 (fun r10 w11 =>
            Br (decide ((r10 : Int) < 0))
              (Br true
                (R (.returned (.int .i64 4)) w11)
                (I8 (l5.1, l5.2.1, (IntKind.wrap .i64 (l5.2.2.1 + 1)), ()) w11))
              (Br (decide ((r10 : Int) ≥ (IntKind.wrap .i64 (2 * l5.1))))
                (R (.returned (.int .i64 4)) w11)
                (I8 (l5.1, l5.2.1, (IntKind.wrap .i64 (l5.2.2.1 + 1)), ()) w11))) (fun h12 w11 => R (.panicked h12) w11))
          (R (.returned (.int .i64 0)) w7))) fun J1 =>
    Br (decide ((p0 : Int) < 1))
      (Br true
        (R (.returned (.int .i64 1)) w)
        (J1 (p0, p1, ()) w))
      (Br (decide ((p0 : Int) > 8))
        (R (.returned (.int .i64 1)) w)
        (J1 (p0, p1, ()) w))
theorem cayleyref01_Check.eq (p0 : Int) (p1 : ByteArray) (R : Ending → World → Prop) (w : World) : cayleyref01_Check.sh p0 p1 R w = wpc Tryd.prog cayleyref01_Check.ann cayleyref01_Check.body (fnKs Tryd.prog Tryd.f60 R) [] (env0 #[(.int .i64 p0), (.string p1)]) w := by kernel_rfl
theorem cayleyref01_Check.calls (p0 : Int) (p1 : ByteArray) {R : Ending → World → Prop} {w : World} (h : cayleyref01_Check.sh p0 p1 R w) : Calls Tryd.prog 60 #[(.int .i64 p0), (.string p1)] w R :=
  calls_of_wpc mixed Tryd.func60 (by kernel_rfl) (by kernel_rfl) ((cayleyref01_Check.eq p0 p1 R w).mp h)
noncomputable def cayleyref01_Is.ann : Ann where
  loops := fun | _ => []
  joins := fun | _ => none
noncomputable def cayleyref01_Is.body : Code := match Tryd.f53.body with | some c => c | none => .skip
def cayleyref01_Is.sh (p0 : ByteArray) (R : Ending → World → Prop) (w : World) : Prop :=
  CallT Tryd.prog 60 #[(.int .i64 8), (.string p0)] (.sc (.int .i64)) w (fun r1 w2 =>
    R (.returned (.bool ((r1 : Int) == 0))) w2) (fun h3 w2 => R (.panicked h3) w2)
theorem cayleyref01_Is.eq (p0 : ByteArray) (R : Ending → World → Prop) (w : World) : cayleyref01_Is.sh p0 R w = wpc Tryd.prog cayleyref01_Is.ann cayleyref01_Is.body (fnKs Tryd.prog Tryd.f53 R) [] (env0 #[(.string p0)]) w := by kernel_rfl
theorem cayleyref01_Is.calls (p0 : ByteArray) {R : Ending → World → Prop} {w : World} (h : cayleyref01_Is.sh p0 R w) : Calls Tryd.prog 53 #[(.string p0)] w R :=
  calls_of_wpc mixed Tryd.func53 (by kernel_rfl) (by kernel_rfl) ((cayleyref01_Is.eq p0 R w).mp h)
noncomputable def cayleyref01_Other.ann : Ann where
  loops := fun | _ => []
  joins := fun | _ => none
noncomputable def cayleyref01_Other.body : Code := match Tryd.f54.body with | some c => c | none => .skip
def cayleyref01_Other.sh (p0 : Int) (R : Ending → World → Prop) (w : World) : Prop :=
  CallT Tryd.prog 61 #[(.int .u8 p0)] (.sc (.int .i64)) w (fun r1 w2 =>
    CallT Tryd.prog 65 #[(.int .i64 (Go.bits .xor .i64 r1 1))] (.sc (.int .u8)) w2 (fun r4 w5 =>
      R (.returned (.int .u8 r4)) w5) (fun h6 w5 => R (.panicked h6) w5)) (fun h3 w2 => R (.panicked h3) w2)
theorem cayleyref01_Other.eq (p0 : Int) (R : Ending → World → Prop) (w : World) : cayleyref01_Other.sh p0 R w = wpc Tryd.prog cayleyref01_Other.ann cayleyref01_Other.body (fnKs Tryd.prog Tryd.f54 R) [] (env0 #[(.int .u8 p0)]) w := by kernel_rfl
theorem cayleyref01_Other.calls (p0 : Int) {R : Ending → World → Prop} {w : World} (h : cayleyref01_Other.sh p0 R w) : Calls Tryd.prog 54 #[(.int .u8 p0)] w R :=
  calls_of_wpc mixed Tryd.func54 (by kernel_rfl) (by kernel_rfl) ((cayleyref01_Other.eq p0 R w).mp h)
noncomputable def cayleyref01_Reduce.ann : Ann where
  loops := fun | 5 => [(0, .sc .str), (3, .sc .sl), (4, .sc (.int .i64))] | _ => []
  joins := fun | 9 => some [(0, .sc .str), (3, .sc .sl), (4, .sc (.int .i64)), (5, .sc (.int .i64)), (30, .sc .bool)] | _ => none
noncomputable def cayleyref01_Reduce.body : Code := match Tryd.f25.body with | some c => c | none => .skip
def cayleyref01_Reduce.sh (p0 : ByteArray) (R : Ending → World → Prop) (w : World) : Prop :=
  CallT Tryd.prog 53 #[(.string p0)] (.sc .bool) w (fun r1 w2 =>
    Br (!r1)
      (R (.returned (.string (ByteArray.mk #[]))) w2)
      (LoopT (σ := ByteArray × Sl × Int × Unit) (p0, ⟨none, 0, 0⟩, 0, ()) w2 fun l4 g5 w6 I7 =>
        Br (decide ((l4.2.2.1 : Int) < ((l4.1.size : Nat) : Int)))
          (Join (σ := ByteArray × Sl × Int × Int × Bool × Unit) (fun j10 g9 w18 =>
            Br j10.2.2.2.2.1
              (RunT Tryd.prog (.sc .sl) (Instr.sliceAt 87 (.slice j10.2.1.a j10.2.1.n j10.2.1.c) none (some (.int .i64 (IntKind.wrap .i64 (j10.2.2.2.1 - 1)))) none) w18 fun r19 w20 =>
              I7 (j10.1, r19, (IntKind.wrap .i64 (j10.2.2.1 + 1)), ()) w20)
              (StrIdx j10.1 j10.2.2.1 fun c21 =>
              New w18 (.cells #[(.int .u8 c21)] 5) fun b22 w23 =>
              RunT Tryd.prog (.sc .sl) (Builtin.append_ #[87, 87] 87 #[(.slice j10.2.1.a j10.2.1.n j10.2.1.c), (.slice (some (Addr.mk b22 0 none)) 1 1)]) w23 fun r24 w25 =>
              I7 (j10.1, r24, (IntKind.wrap .i64 (j10.2.2.1 + 1)), ()) w25)) fun J8 =>
            ∃ S11 : World → Prop, S11 w6.drew ∧
            (Br (decide ((((l4.2.1.n : Nat) : Int) : Int) > 0))
              (Idx l4.2.1.a l4.2.1.n 1 (IntKind.wrap .i64 (((l4.2.1.n : Nat) : Int) - 1)) fun a12 =>
              LoadS S11 (.sc (.int .u8)) a12 fun x13 =>
              StrIdx l4.1 l4.2.2.1 fun c14 =>
              CallT Tryd.prog 54 #[(.int .u8 c14)] (.sc (.int .u8)) w6.drew (fun r15 w16 =>
                  S11 w16 ∧
                  (J8 (l4.1, l4.2.1, l4.2.2.1, ((l4.2.1.n : Nat) : Int), ((x13 : Int) == r15), ()) w16)) (fun h17 w16 => R (.panicked h17) w16))
              (J8 (l4.1, l4.2.1, l4.2.2.1, ((l4.2.1.n : Nat) : Int), false, ()) w6.drew)))
          (RunT Tryd.prog (.sc .str) (convert 87 9 (.slice l4.2.1.a l4.2.1.n l4.2.1.c)) w6 fun r26 w27 =>
          R (.returned (.string r26)) w27))) (fun h3 w2 => R (.panicked h3) w2)
theorem cayleyref01_Reduce.eq (p0 : ByteArray) (R : Ending → World → Prop) (w : World) : cayleyref01_Reduce.sh p0 R w = wpc Tryd.prog cayleyref01_Reduce.ann cayleyref01_Reduce.body (fnKs Tryd.prog Tryd.f25 R) [] (env0 #[(.string p0)]) w := by kernel_rfl
theorem cayleyref01_Reduce.calls (p0 : ByteArray) {R : Ending → World → Prop} {w : World} (h : cayleyref01_Reduce.sh p0 R w) : Calls Tryd.prog 25 #[(.string p0)] w R :=
  calls_of_wpc mixed Tryd.func25 (by kernel_rfl) (by kernel_rfl) ((cayleyref01_Reduce.eq p0 R w).mp h)
noncomputable def cayleyref01_Inverse.ann : Ann where
  loops := fun | 5 => [(0, .sc .str), (3, .sc .sl), (4, .sc (.int .i64))] | _ => []
  joins := fun | _ => none
noncomputable def cayleyref01_Inverse.body : Code := match Tryd.f16.body with | some c => c | none => .skip
def cayleyref01_Inverse.sh (p0 : ByteArray) (R : Ending → World → Prop) (w : World) : Prop :=
  CallT Tryd.prog 53 #[(.string p0)] (.sc .bool) w (fun r1 w2 =>
    Br (!r1)
      (R (.returned (.string (ByteArray.mk #[]))) w2)
      (LoopT (σ := ByteArray × Sl × Int × Unit) (p0, ⟨none, 0, 0⟩, (IntKind.wrap .i64 (((p0.size : Nat) : Int) - 1)), ()) w2 fun l4 g5 w6 I7 =>
        Br (decide ((l4.2.2.1 : Int) ≥ 0))
          (StrIdx l4.1 l4.2.2.1 fun c8 =>
          CallT Tryd.prog 54 #[(.int .u8 c8)] (.sc (.int .u8)) w6 (fun r9 w10 =>
            New w10 (.cells #[(.int .u8 r9)] 5) fun b12 w13 =>
            RunT Tryd.prog (.sc .sl) (Builtin.append_ #[87, 87] 87 #[(.slice l4.2.1.a l4.2.1.n l4.2.1.c), (.slice (some (Addr.mk b12 0 none)) 1 1)]) w13 fun r14 w15 =>
            I7 (l4.1, r14, (IntKind.wrap .i64 (l4.2.2.1 - 1)), ()) w15) (fun h11 w10 => R (.panicked h11) w10))
          (RunT Tryd.prog (.sc .str) (convert 87 9 (.slice l4.2.1.a l4.2.1.n l4.2.1.c)) w6 fun r16 w17 =>
          R (.returned (.string r16)) w17))) (fun h3 w2 => R (.panicked h3) w2)
theorem cayleyref01_Inverse.eq (p0 : ByteArray) (R : Ending → World → Prop) (w : World) : cayleyref01_Inverse.sh p0 R w = wpc Tryd.prog cayleyref01_Inverse.ann cayleyref01_Inverse.body (fnKs Tryd.prog Tryd.f16 R) [] (env0 #[(.string p0)]) w := by kernel_rfl
theorem cayleyref01_Inverse.calls (p0 : ByteArray) {R : Ending → World → Prop} {w : World} (h : cayleyref01_Inverse.sh p0 R w) : Calls Tryd.prog 16 #[(.string p0)] w R :=
  calls_of_wpc mixed Tryd.func16 (by kernel_rfl) (by kernel_rfl) ((cayleyref01_Inverse.eq p0 R w).mp h)
noncomputable def cayleyref21_IsWord.ann : Ann where
  loops := fun | _ => []
  joins := fun | _ => none
noncomputable def cayleyref21_IsWord.body : Code := match Tryd.f22.body with | some c => c | none => .skip
def cayleyref21_IsWord.sh (p0 : Int) (p1 : ByteArray) (R : Ending → World → Prop) (w : World) : Prop :=
  CallT Tryd.prog 60 #[(.int .i64 p0), (.string p1)] (.sc (.int .i64)) w (fun r1 w2 =>
    R (.returned (.bool ((r1 : Int) == 0))) w2) (fun h3 w2 => R (.panicked h3) w2)
theorem cayleyref21_IsWord.eq (p0 : Int) (p1 : ByteArray) (R : Ending → World → Prop) (w : World) : cayleyref21_IsWord.sh p0 p1 R w = wpc Tryd.prog cayleyref21_IsWord.ann cayleyref21_IsWord.body (fnKs Tryd.prog Tryd.f22 R) [] (env0 #[(.int .i64 p0), (.string p1)]) w := by kernel_rfl
theorem cayleyref21_IsWord.calls (p0 : Int) (p1 : ByteArray) {R : Ending → World → Prop} {w : World} (h : cayleyref21_IsWord.sh p0 p1 R w) : Calls Tryd.prog 22 #[(.int .i64 p0), (.string p1)] w R :=
  calls_of_wpc mixed Tryd.func22 (by kernel_rfl) (by kernel_rfl) ((cayleyref21_IsWord.eq p0 p1 R w).mp h)
noncomputable def cayleyref06_sameInts.ann : Ann where
  loops := fun | 4 => [(0, .sc .sl), (1, .sc .sl), (5, .sc (.int .i64))] | _ => []
  joins := fun | _ => none
noncomputable def cayleyref06_sameInts.body : Code := match Tryd.f52.body with | some c => c | none => .skip
def cayleyref06_sameInts.sh (p0 : Sl) (p1 : Sl) (R : Ending → World → Prop) (w : World) : Prop :=
  Br ((((p0.n : Nat) : Int) : Int) != ((p1.n : Nat) : Int))
    (R (.returned (.bool false)) w)
    (LoopT (σ := Sl × Sl × Int × Unit) (p0, p1, 0, ()) w fun l1 g2 w3 I4 =>
      Br (decide ((l1.2.2.1 : Int) < ((l1.1.n : Nat) : Int)))
        (Idx l1.1.a l1.1.n 1 l1.2.2.1 fun a5 =>
        LoadT (.sc (.int .i64)) w3.drew a5 fun x6 =>
        Idx l1.2.1.a l1.2.1.n 1 l1.2.2.1 fun a7 =>
        LoadT (.sc (.int .i64)) w3.drew a7 fun x8 =>
        Br ((x6 : Int) != x8)
          (R (.returned (.bool false)) w3.drew)
          (I4 (l1.1, l1.2.1, (IntKind.wrap .i64 (l1.2.2.1 + 1)), ()) w3.drew))
        (R (.returned (.bool true)) w3))
theorem cayleyref06_sameInts.eq (p0 : Sl) (p1 : Sl) (R : Ending → World → Prop) (w : World) : cayleyref06_sameInts.sh p0 p1 R w = wpc Tryd.prog cayleyref06_sameInts.ann cayleyref06_sameInts.body (fnKs Tryd.prog Tryd.f52 R) [] (env0 #[(.slice p0.a p0.n p0.c), (.slice p1.a p1.n p1.c)]) w := by kernel_rfl
theorem cayleyref06_sameInts.calls (p0 : Sl) (p1 : Sl) {R : Ending → World → Prop} {w : World} (h : cayleyref06_sameInts.sh p0 p1 R w) : Calls Tryd.prog 52 #[(.slice p0.a p0.n p0.c), (.slice p1.a p1.n p1.c)] w R :=
  calls_of_wpc mixed Tryd.func52 (by kernel_rfl) (by kernel_rfl) ((cayleyref06_sameInts.eq p0 p1 R w).mp h)
noncomputable def cayleyref06_Same.ann : Ann where
  loops := fun | 4 => [(2, .sc .adr), (3, .sc .adr), (5, .sc (.int .i64))] | 9 => [(2, .sc .adr), (3, .sc .adr), (6, .sc (.int .i64))] | _ => []
  joins := fun | 3 => some [(2, .sc .adr), (3, .sc .adr)] | _ => none
noncomputable def cayleyref06_Same.body : Code := match Tryd.f15.body with | some c => c | none => .skip
def cayleyref06_Same.sh (p0_0 : Int) (p0_1 : Int) (p0_2 : Sl) (p0_3 : Sl) (p1_0 : Int) (p1_1 : Int) (p1_2 : Sl) (p1_3 : Sl) (R : Ending → World → Prop) (w : World) : Prop :=
  New w (.cells #[(.int .i64 p0_0), (.int .i64 p0_1), (.slice p0_2.a p0_2.n p0_2.c), (.slice p0_3.a p0_3.n p0_3.c)] 27) fun b1 w2 =>
  New w2 (.cells #[(.int .i64 p1_0), (.int .i64 p1_1), (.slice p1_2.a p1_2.n p1_2.c), (.slice p1_3.a p1_3.n p1_3.c)] 27) fun b3 w4 =>
  Join (σ := Addr × Addr × Unit) (fun j7 g6 w16 =>
    LoopT (σ := Addr × Addr × Int × Unit) (j7.1, j7.2.1, 0, ()) w16 fun l17 g18 w19 I20 =>
      LoadT (.sc .sl) w19 (l17.1.add 2) fun x21 =>
      Br (decide ((l17.2.2.1 : Int) < ((x21.n : Nat) : Int)))
        (LoadT (.sc .sl) w19.drew (l17.1.add 2) fun x22 =>
        Idx x22.a x22.n 1 l17.2.2.1 fun a23 =>
        LoadT (.sc .bool) w19.drew a23 fun x24 =>
        LoadT (.sc .sl) w19.drew (l17.2.1.add 2) fun x25 =>
        Idx x25.a x25.n 1 l17.2.2.1 fun a26 =>
        LoadT (.sc .bool) w19.drew a26 fun x27 =>
        Br (!(x24 == x27))
          (R (.returned (.bool false)) w19.drew)
          (I20 (l17.1, l17.2.1, (IntKind.wrap .i64 (l17.2.2.1 + 1)), ()) w19.drew))
        (LoopT (σ := Addr × Addr × Int × Unit) (l17.1, l17.2.1, 0, ()) w19 fun l28 g29 w30 I31 =>
          LoadT (.sc .sl) w30 (l28.1.add 3) fun x32 =>
          Br (decide ((l28.2.2.1 : Int) < ((x32.n : Nat) : Int)))
            (LoadT (.sc .sl) w30.drew (l28.1.add 3) fun x33 =>
            Idx x33.a x33.n 1 l28.2.2.1 fun a34 =>
            LoadT (.sc .sl) w30.drew a34 fun x35 =>
            LoadT (.sc .sl) w30.drew (l28.2.1.add 3) fun x36 =>
            Idx x36.a x36.n 1 l28.2.2.1 fun a37 =>
            LoadT (.sc .sl) w30.drew a37 fun x38 =>
            CallT Tryd.prog 52 #[(.slice x35.a x35.n x35.c), (.slice x38.a x38.n x38.c)] (.sc .bool) w30.drew (fun r39 w40 =>
              Br (!r39)
                (R (.returned (.bool false)) w40)
                (I31 (l28.1, l28.2.1, (IntKind.wrap .i64 (l28.2.2.1 + 1)), ()) w40)) (fun h41 w40 => R (.panicked h41) w40))
            (R (.returned (.bool true)) w30))) fun J5 =>
    LoadT (.sc (.int .i64)) w4 ((Addr.mk b1 0 none).add 0) fun x8 =>
    LoadT (.sc (.int .i64)) w4 ((Addr.mk b3 0 none).add 0) fun x9 =>
    Br ((x8 : Int) != x9)
      (Br true
        (R (.returned (.bool false)) w4)
        (J5 ((Addr.mk b1 0 none), (Addr.mk b3 0 none), ()) w4))
      (LoadT (.sc (.int .i64)) w4 ((Addr.mk b1 0 none).add 1) fun x10 =>
      LoadT (.sc (.int .i64)) w4 ((Addr.mk b3 0 none).add 1) fun x11 =>
      Br ((x10 : Int) != x11)
        (Br true
          (R (.returned (.bool false)) w4)
          (J5 ((Addr.mk b1 0 none), (Addr.mk b3 0 none), ()) w4))
        (LoadT (.sc .sl) w4 ((Addr.mk b1 0 none).add 2) fun x12 =>
        LoadT (.sc .sl) w4 ((Addr.mk b3 0 none).add 2) fun x13 =>
        Br ((((x12.n : Nat) : Int) : Int) != ((x13.n : Nat) : Int))
          (Br true
            (R (.returned (.bool false)) w4)
            (J5 ((Addr.mk b1 0 none), (Addr.mk b3 0 none), ()) w4))
          (LoadT (.sc .sl) w4 ((Addr.mk b1 0 none).add 3) fun x14 =>
          LoadT (.sc .sl) w4 ((Addr.mk b3 0 none).add 3) fun x15 =>
          Br ((((x14.n : Nat) : Int) : Int) != ((x15.n : Nat) : Int))
            (R (.returned (.bool false)) w4)
            (J5 ((Addr.mk b1 0 none), (Addr.mk b3 0 none), ()) w4))))
theorem cayleyref06_Same.eq (p0_0 : Int) (p0_1 : Int) (p0_2 : Sl) (p0_3 : Sl) (p1_0 : Int) (p1_1 : Int) (p1_2 : Sl) (p1_3 : Sl) (R : Ending → World → Prop) (w : World) : cayleyref06_Same.sh p0_0 p0_1 p0_2 p0_3 p1_0 p1_1 p1_2 p1_3 R w = wpc Tryd.prog cayleyref06_Same.ann cayleyref06_Same.body (fnKs Tryd.prog Tryd.f15 R) [] (env0 #[(.agg #[(.int .i64 p0_0), (.int .i64 p0_1), (.slice p0_2.a p0_2.n p0_2.c), (.slice p0_3.a p0_3.n p0_3.c)]), (.agg #[(.int .i64 p1_0), (.int .i64 p1_1), (.slice p1_2.a p1_2.n p1_2.c), (.slice p1_3.a p1_3.n p1_3.c)])]) w := by kernel_rfl
theorem cayleyref06_Same.calls (p0_0 : Int) (p0_1 : Int) (p0_2 : Sl) (p0_3 : Sl) (p1_0 : Int) (p1_1 : Int) (p1_2 : Sl) (p1_3 : Sl) {R : Ending → World → Prop} {w : World} (h : cayleyref06_Same.sh p0_0 p0_1 p0_2 p0_3 p1_0 p1_1 p1_2 p1_3 R w) : Calls Tryd.prog 15 #[(.agg #[(.int .i64 p0_0), (.int .i64 p0_1), (.slice p0_2.a p0_2.n p0_2.c), (.slice p0_3.a p0_3.n p0_3.c)]), (.agg #[(.int .i64 p1_0), (.int .i64 p1_1), (.slice p1_2.a p1_2.n p1_2.c), (.slice p1_3.a p1_3.n p1_3.c)])] w R :=
  calls_of_wpc mixed Tryd.func15 (by kernel_rfl) (by kernel_rfl) ((cayleyref06_Same.eq p0_0 p0_1 p0_2 p0_3 p1_0 p1_1 p1_2 p1_3 R w).mp h)
noncomputable def cayleyref06_Check.ann : Ann where
  loops := fun | 5 => [(1, .sc .adr), (3, .sc (.int .i64)), (4, .sc (.int .i64))] | 10 => [(1, .sc .adr), (3, .sc (.int .i64)), (4, .sc (.int .i64)), (5, .sc (.int .i64))] | _ => []
  joins := fun | 4 => some [(1, .sc .adr), (3, .sc (.int .i64))] | _ => none
noncomputable def cayleyref06_Check.body : Code := match Tryd.f87.body with | some c => c | none => .skip
def cayleyref06_Check.sh (p0_0 : Int) (p0_1 : Int) (p0_2 : Sl) (p0_3 : Sl) (R : Ending → World → Prop) (w : World) : Prop :=
  New w (.cells #[(.int .i64 p0_0), (.int .i64 p0_1), (.slice p0_2.a p0_2.n p0_2.c), (.slice p0_3.a p0_3.n p0_3.c)] 27) fun b1 w2 =>
  LoadT (.sc .sl) w2 ((Addr.mk b1 0 none).add 3) fun x3 =>
  Join (σ := Addr × Int × Unit) (fun j6 g5 w14 =>
    LoopT (σ := Addr × Int × Int × Unit) (j6.1, j6.2.1, 0, ()) w14 fun l15 g16 w17 I18 =>
      Br (decide ((l15.2.2.1 : Int) < l15.2.1))
        (LoadT (.sc .sl) w17.drew (l15.1.add 3) fun x19 =>
        Idx x19.a x19.n 1 l15.2.2.1 fun a20 =>
        LoadT (.sc .sl) w17.drew a20 fun x21 =>
        LoadT (.sc (.int .i64)) w17.drew (l15.1.add 0) fun x22 =>
        Br ((((x21.n : Nat) : Int) : Int) != x22)
          (R (.returned (.int .i64 60)) w17.drew)
          (LoopT (σ := Addr × Int × Int × Int × Unit) (l15.1, l15.2.1, l15.2.2.1, 0, ()) w17.drew fun l23 g24 w25 I26 =>
            LoadT (.sc (.int .i64)) w25 (l23.1.add 0) fun x27 =>
            Br (decide ((l23.2.2.2.1 : Int) < x27))
              (LoadT (.sc .sl) w25 (l23.1.add 3) fun x28 =>
              Idx x28.a x28.n 1 l23.2.2.1 fun a29 =>
              LoadT (.sc .sl) w25 a29 fun x30 =>
              Idx x30.a x30.n 1 l23.2.2.2.1 fun a31 =>
              LoadT (.sc (.int .i64)) w25 a31 fun x32 =>
              Br (decide ((x32 : Int) < (-1)))
                (Br true
                  (R (.returned (.int .i64 60)) w25)
                  (I26 (l23.1, l23.2.1, l23.2.2.1, (IntKind.wrap .i64 (l23.2.2.2.1 + 1)), ()) w25))
                (LoadT (.sc .sl) w25 (l23.1.add 3) fun x33 =>
                Idx x33.a x33.n 1 l23.2.2.1 fun a34 =>
                LoadT (.sc .sl) w25 a34 fun x35 =>
                Idx x35.a x35.n 1 l23.2.2.2.1 fun a36 =>
                LoadT (.sc (.int .i64)) w25 a36 fun x37 =>
                Br (decide ((x37 : Int) ≥ l23.2.1))
                  (R (.returned (.int .i64 60)) w25)
                  (I26 (l23.1, l23.2.1, l23.2.2.1, (IntKind.wrap .i64 (l23.2.2.2.1 + 1)), ()) w25)))
              (I18 (l23.1, l23.2.1, (IntKind.wrap .i64 (l23.2.2.1 + 1)), ()) w25)))
        (R (.returned (.int .i64 0)) w17)) fun J4 =>
    LoadT (.sc (.int .i64)) w2 ((Addr.mk b1 0 none).add 0) fun x7 =>
    Br (decide ((x7 : Int) < 1))
      (Br true
        (R (.returned (.int .i64 60)) w2)
        (J4 ((Addr.mk b1 0 none), ((x3.n : Nat) : Int), ()) w2))
      (LoadT (.sc (.int .i64)) w2 ((Addr.mk b1 0 none).add 0) fun x8 =>
      Br (decide ((x8 : Int) > 400))
        (Br true
          (R (.returned (.int .i64 60)) w2)
          (J4 ((Addr.mk b1 0 none), ((x3.n : Nat) : Int), ()) w2))
        (LoadT (.sc .sl) w2 ((Addr.mk b1 0 none).add 2) fun x9 =>
        Br ((((x9.n : Nat) : Int) : Int) != ((x3.n : Nat) : Int))
          (Br true
            (R (.returned (.int .i64 60)) w2)
            (J4 ((Addr.mk b1 0 none), ((x3.n : Nat) : Int), ()) w2))
          (Br (decide ((((x3.n : Nat) : Int) : Int) > 20000))
            (Br true
              (R (.returned (.int .i64 60)) w2)
              (J4 ((Addr.mk b1 0 none), ((x3.n : Nat) : Int), ()) w2))
            (LoadT (.sc (.int .i64)) w2 ((Addr.mk b1 0 none).add 1) fun x10 =>
            Br (decide ((x10 : Int) < 0))
              (Br true
                (R (.returned (.int .i64 60)) w2)
                (J4 ((Addr.mk b1 0 none), ((x3.n : Nat) : Int), ()) w2))
              (Br ((((x3.n : Nat) : Int) : Int) == 0)
                (LoadT (.sc (.int .i64)) w2 ((Addr.mk b1 0 none).add 1) fun x11 =>
                Br ((x11 : Int) != 0)
                  (Br true
                    (R (.returned (.int .i64 60)) w2)
                    (J4 ((Addr.mk b1 0 none), ((x3.n : Nat) : Int), ()) w2))
                  (Br (decide ((((x3.n : Nat) : Int) : Int) > 0))
                    (LoadT (.sc (.int .i64)) w2 ((Addr.mk b1 0 none).add 1) fun x12 =>
                    Br (decide ((x12 : Int) ≥ ((x3.n : Nat) : Int)))
                      (R (.returned (.int .i64 60)) w2)
                      (J4 ((Addr.mk b1 0 none), ((x3.n : Nat) : Int), ()) w2))
                    (Br false
                      (R (.returned (.int .i64 60)) w2)
                      (J4 ((Addr.mk b1 0 none), ((x3.n : Nat) : Int), ()) w2))))
                (Br (decide ((((x3.n : Nat) : Int) : Int) > 0))
                  (LoadT (.sc (.int .i64)) w2 ((Addr.mk b1 0 none).add 1) fun x13 =>
                  Br (decide ((x13 : Int) ≥ ((x3.n : Nat) : Int)))
                    (R (.returned (.int .i64 60)) w2)
                    (J4 ((Addr.mk b1 0 none), ((x3.n : Nat) : Int), ()) w2))
                  (Br false
                    (R (.returned (.int .i64 60)) w2)
                    (J4 ((Addr.mk b1 0 none), ((x3.n : Nat) : Int), ()) w2))))))))
theorem cayleyref06_Check.eq (p0_0 : Int) (p0_1 : Int) (p0_2 : Sl) (p0_3 : Sl) (R : Ending → World → Prop) (w : World) : cayleyref06_Check.sh p0_0 p0_1 p0_2 p0_3 R w = wpc Tryd.prog cayleyref06_Check.ann cayleyref06_Check.body (fnKs Tryd.prog Tryd.f87 R) [] (env0 #[(.agg #[(.int .i64 p0_0), (.int .i64 p0_1), (.slice p0_2.a p0_2.n p0_2.c), (.slice p0_3.a p0_3.n p0_3.c)])]) w := by kernel_rfl
theorem cayleyref06_Check.calls (p0_0 : Int) (p0_1 : Int) (p0_2 : Sl) (p0_3 : Sl) {R : Ending → World → Prop} {w : World} (h : cayleyref06_Check.sh p0_0 p0_1 p0_2 p0_3 R w) : Calls Tryd.prog 87 #[(.agg #[(.int .i64 p0_0), (.int .i64 p0_1), (.slice p0_2.a p0_2.n p0_2.c), (.slice p0_3.a p0_3.n p0_3.c)])] w R :=
  calls_of_wpc mixed Tryd.func87 (by kernel_rfl) (by kernel_rfl) ((cayleyref06_Check.eq p0_0 p0_1 p0_2 p0_3 R w).mp h)
noncomputable def cayleyref21_step.ann : Ann where
  loops := fun | 2 => [(1, .sc (.int .i64)), (2, .sc (.int .i64)), (3, .sc .adr), (7, .sc (.int .i64))] | _ => []
  joins := fun | 6 => some [(1, .sc (.int .i64)), (2, .sc (.int .i64)), (3, .sc .adr), (7, .sc (.int .i64)), (8, .sc .adr), (35, .sc .bool)] | 8 => some [(1, .sc (.int .i64)), (2, .sc (.int .i64)), (3, .sc .adr), (7, .sc (.int .i64)), (8, .sc .adr), (53, .sc .bool)] | _ => none
noncomputable def cayleyref21_step.body : Code := match Tryd.f91.body with | some c => c | none => .skip
def cayleyref21_step.sh (p0_0 : Int) (p0_1 : Int) (p0_2 : Sl) (p1 : Int) (p2 : Int) (R : Ending → World → Prop) (w : World) : Prop :=
  New w (.cells #[(.int .i64 p0_0), (.int .i64 p0_1), (.slice p0_2.a p0_2.n p0_2.c)] 54) fun b1 w2 =>
  LoopT (σ := Int × Int × Addr × Int × Unit) (p1, p2, (Addr.mk b1 0 none), 0, ()) w2 fun l3 g4 w5 I6 =>
    LoadT (.sc .sl) w5 (l3.2.2.1.add 2) fun x7 =>
    Br (decide ((l3.2.2.2.1 : Int) < ((x7.n : Nat) : Int)))
      (LoadT (.sc .sl) w5 (l3.2.2.1.add 2) fun x8 =>
      Idx x8.a x8.n 3 l3.2.2.2.1 fun a9 =>
      LoadT (.agg [.int .i64, .int .i64, .int .i64]) w5 a9 fun x10 =>
      New w5 (.cells #[(.int .i64 0), (.int .i64 0), (.int .i64 0)] 100) fun b11 w12 =>
      StoreN w12 (Addr.mk b11 0 none) [(.int .i64 x10.1), (.int .i64 x10.2.1), (.int .i64 x10.2.2.1)] fun w13 =>
      Join (σ := Int × Int × Addr × Int × Addr × Bool × Unit) (fun j16 g15 w19 =>
        Br j16.2.2.2.2.2.1
          (LoadT (.sc (.int .i64)) w19 (j16.2.2.2.2.1.add 2) fun x20 =>
          R (.returned (.int .i64 x20)) w19)
          (Join (σ := Int × Int × Addr × Int × Addr × Bool × Unit) (fun j23 g22 w26 =>
            Br j23.2.2.2.2.2.1
              (LoadT (.sc (.int .i64)) w26 (j23.2.2.2.2.1.add 0) fun x27 =>
              R (.returned (.int .i64 x27)) w26)
              (I6 (j23.1, j23.2.1, j23.2.2.1, (IntKind.wrap .i64 (j23.2.2.2.1 + 1)), ()) w26)) fun J21 =>
            (2 : Int) ≠ 0 ∧
            Br (((Int.tmod j16.2.1 2) : Int) == 1)
              (LoadT (.sc (.int .i64)) w19 (j16.2.2.2.2.1.add 1) fun x24 =>
              Br ((x24 : Int) == (IntKind.wrap .i64 (j16.2.1 - 1)))
                (LoadT (.sc (.int .i64)) w19 (j16.2.2.2.2.1.add 2) fun x25 =>
                J21 (j16.1, j16.2.1, j16.2.2.1, j16.2.2.2.1, j16.2.2.2.2.1, ((x25 : Int) == j16.1), ()) w19)
                (J21 (j16.1, j16.2.1, j16.2.2.1, j16.2.2.2.1, j16.2.2.2.2.1, false, ()) w19))
              (J21 (j16.1, j16.2.1, j16.2.2.1, j16.2.2.2.1, j16.2.2.2.2.1, false, ()) w19))) fun J14 =>
        (2 : Int) ≠ 0 ∧
        Br (((Int.tmod l3.2.1 2) : Int) == 0)
          (LoadT (.sc (.int .i64)) w13 ((Addr.mk b11 0 none).add 1) fun x17 =>
          Br ((x17 : Int) == l3.2.1)
            (LoadT (.sc (.int .i64)) w13 ((Addr.mk b11 0 none).add 0) fun x18 =>
            J14 (l3.1, l3.2.1, l3.2.2.1, l3.2.2.2.1, (Addr.mk b11 0 none), ((x18 : Int) == l3.1), ()) w13)
            (J14 (l3.1, l3.2.1, l3.2.2.1, l3.2.2.2.1, (Addr.mk b11 0 none), false, ()) w13))
          (J14 (l3.1, l3.2.1, l3.2.2.1, l3.2.2.2.1, (Addr.mk b11 0 none), false, ()) w13))
      (R (.returned (.int .i64 (-1))) w5)
theorem cayleyref21_step.eq (p0_0 : Int) (p0_1 : Int) (p0_2 : Sl) (p1 : Int) (p2 : Int) (R : Ending → World → Prop) (w : World) : cayleyref21_step.sh p0_0 p0_1 p0_2 p1 p2 R w = wpc Tryd.prog cayleyref21_step.ann cayleyref21_step.body (fnKs Tryd.prog Tryd.f91 R) [] (env0 #[(.agg #[(.int .i64 p0_0), (.int .i64 p0_1), (.slice p0_2.a p0_2.n p0_2.c)]), (.int .i64 p1), (.int .i64 p2)]) w := by kernel_rfl
theorem cayleyref21_step.calls (p0_0 : Int) (p0_1 : Int) (p0_2 : Sl) (p1 : Int) (p2 : Int) {R : Ending → World → Prop} {w : World} (h : cayleyref21_step.sh p0_0 p0_1 p0_2 p1 p2 R w) : Calls Tryd.prog 91 #[(.agg #[(.int .i64 p0_0), (.int .i64 p0_1), (.slice p0_2.a p0_2.n p0_2.c)]), (.int .i64 p1), (.int .i64 p2)] w R :=
  calls_of_wpc mixed Tryd.func91 (by kernel_rfl) (by kernel_rfl) ((cayleyref21_step.eq p0_0 p0_1 p0_2 p1 p2 R w).mp h)
noncomputable def cayleyref21_GraphOf.ann : Ann where
  loops := fun | 3 => [(0, .sc (.int .i64)), (3, .sc .adr), (4, .sc .adr), (5, .sc .adr), (6, .sc (.int .i64))] | 6 => [(0, .sc (.int .i64)), (3, .sc .adr), (4, .sc .adr), (5, .sc .adr), (6, .sc (.int .i64)), (7, .sc (.int .i64))] | _ => []
  joins := fun | _ => none
noncomputable def cayleyref21_GraphOf.body : Code := match Tryd.f27.body with | some c => c | none => .skip
def cayleyref21_GraphOf.sh (p0 : Int) (p1_0 : Int) (p1_1 : Int) (p1_2 : Sl) (p1_3 : Sl) (R : Ending → World → Prop) (w : World) : Prop :=
  New w (.cells #[(.int .i64 p1_0), (.int .i64 p1_1), (.slice p1_2.a p1_2.n p1_2.c), (.slice p1_3.a p1_3.n p1_3.c)] 27) fun b1 w2 =>
  New w2 (.cells #[(.int .i64 0), (.int .i64 0), (.slice none 0 0)] 54) fun b3 w4 =>
  LoadT (.sc .sl) w4 ((Addr.mk b1 0 none).add 2) fun x5 =>
  New w4 (.cells #[(.int .i64 0), (.int .i64 0), (.slice none 0 0)] 54) fun b6 w7 =>
  StoreN w7 (Addr.mk b6 0 none) [(.int .i64 p0), (.int .i64 ((x5.n : Nat) : Int)), (.slice none 0 0)] fun w8 =>
  LoopT (σ := Int × Addr × Addr × Addr × Int × Unit) (p0, (Addr.mk b1 0 none), (Addr.mk b3 0 none), (Addr.mk b6 0 none), 0, ()) w8 fun l9 g10 w11 I12 =>
    LoadT (.sc .sl) w11 (l9.2.1.add 3) fun x13 =>
    Br (decide ((l9.2.2.2.2.1 : Int) < ((x13.n : Nat) : Int)))
      (LoopT (σ := Int × Addr × Addr × Addr × Int × Int × Unit) (l9.1, l9.2.1, l9.2.2.1, l9.2.2.2.1, l9.2.2.2.2.1, 0, ()) w11 fun l14 g15 w16 I17 =>
        Br (decide ((l14.2.2.2.2.2.1 : Int) < (IntKind.wrap .i64 (2 * l14.1))))
          (LoadT (.sc .sl) w16 (l14.2.1.add 3) fun x18 =>
          Idx x18.a x18.n 1 l14.2.2.2.2.1 fun a19 =>
          LoadT (.sc .sl) w16 a19 fun x20 =>
          Idx x20.a x20.n 1 l14.2.2.2.2.2.1 fun a21 =>
          LoadT (.sc (.int .i64)) w16 a21 fun x22 =>
          Br (decide ((x22 : Int) ≥ 0))
            (∃ S23 : World → Prop, S23 w16.drew ∧
            (LoadS S23 (.sc .sl) (l14.2.2.2.1.add 2) fun x24 =>
            LoadS S23 (.sc .sl) (l14.2.1.add 3) fun x25 =>
            Idx x25.a x25.n 1 l14.2.2.2.2.1 fun a26 =>
            LoadS S23 (.sc .sl) a26 fun x27 =>
            Idx x27.a x27.n 1 l14.2.2.2.2.2.1 fun a28 =>
            LoadS S23 (.sc (.int .i64)) a28 fun x29 =>
            New w16.drew (.cells #[(.int .i64 l14.2.2.2.2.1), (.int .i64 l14.2.2.2.2.2.1), (.int .i64 x29)] 100) fun b30 w31 =>
              S23 w31 ∧
              (RunT Tryd.prog (.sc .sl) (Builtin.append_ #[52, 52] 52 #[(.slice x24.a x24.n x24.c), (.slice (some (Addr.mk b30 0 none)) 1 1)]) w31 fun r32 w33 =>
                S23 w33 ∧
                (Store1 w33 (l14.2.2.2.1.add 2) (.slice r32.a r32.n r32.c) fun w34 =>
                  I17 (l14.1, l14.2.1, l14.2.2.1, l14.2.2.2.1, l14.2.2.2.2.1, (IntKind.wrap .i64 (l14.2.2.2.2.2.1 + 2)), ()) w34))))
            (I17 (l14.1, l14.2.1, l14.2.2.1, l14.2.2.2.1, l14.2.2.2.2.1, (IntKind.wrap .i64 (l14.2.2.2.2.2.1 + 2)), ()) w16))
          (I12 (l14.1, l14.2.1, l14.2.2.1, l14.2.2.2.1, (IntKind.wrap .i64 (l14.2.2.2.2.1 + 1)), ()) w16))
      (LoadT (.agg [.int .i64, .int .i64, .sl]) w11 l9.2.2.2.1 fun x35 =>
      StoreN w11 l9.2.2.1 [(.int .i64 x35.1), (.int .i64 x35.2.1), (.slice x35.2.2.1.a x35.2.2.1.n x35.2.2.1.c)] fun w36 =>
      LoadT (.agg [.int .i64, .int .i64, .sl]) w36 l9.2.2.1 fun x37 =>
      R (.returned (.agg #[(.int .i64 x37.1), (.int .i64 x37.2.1), (.slice x37.2.2.1.a x37.2.2.1.n x37.2.2.1.c)])) w36)
theorem cayleyref21_GraphOf.eq (p0 : Int) (p1_0 : Int) (p1_1 : Int) (p1_2 : Sl) (p1_3 : Sl) (R : Ending → World → Prop) (w : World) : cayleyref21_GraphOf.sh p0 p1_0 p1_1 p1_2 p1_3 R w = wpc Tryd.prog cayleyref21_GraphOf.ann cayleyref21_GraphOf.body (fnKs Tryd.prog Tryd.f27 R) [] (env0 #[(.int .i64 p0), (.agg #[(.int .i64 p1_0), (.int .i64 p1_1), (.slice p1_2.a p1_2.n p1_2.c), (.slice p1_3.a p1_3.n p1_3.c)])]) w := by kernel_rfl
theorem cayleyref21_GraphOf.calls (p0 : Int) (p1_0 : Int) (p1_1 : Int) (p1_2 : Sl) (p1_3 : Sl) {R : Ending → World → Prop} {w : World} (h : cayleyref21_GraphOf.sh p0 p1_0 p1_1 p1_2 p1_3 R w) : Calls Tryd.prog 27 #[(.int .i64 p0), (.agg #[(.int .i64 p1_0), (.int .i64 p1_1), (.slice p1_2.a p1_2.n p1_2.c), (.slice p1_3.a p1_3.n p1_3.c)])] w R :=
  calls_of_wpc mixed Tryd.func27 (by kernel_rfl) (by kernel_rfl) ((cayleyref21_GraphOf.eq p0 p1_0 p1_1 p1_2 p1_3 R w).mp h)
noncomputable def cayleyref21_Numbered.ann : Ann where
  loops := fun | 4 => [(2, .sc .adr), (4, .sc .adr), (5, .sc .sl), (6, .sc .adr), (7, .sc (.int .i64))] | 8 => [(2, .sc .adr), (4, .sc .adr), (5, .sc .sl), (6, .sc .adr), (7, .sc (.int .i64)), (8, .sc .sl), (9, .sc (.int .i64))] | 14 => [(2, .sc .adr), (4, .sc .adr), (5, .sc .sl), (6, .sc .adr), (7, .sc (.int .i64)), (8, .sc .sl), (9, .sc (.int .i64)), (10, .sc (.int .i64)), (11, .sc (.int .i64)), (12, .sc (.int .i64))] | _ => []
  joins := fun | 21 => some [(2, .sc .adr), (4, .sc .adr), (5, .sc .sl), (6, .sc .adr), (7, .sc (.int .i64)), (8, .sc .sl), (9, .sc (.int .i64)), (11, .sc (.int .i64))] | _ => none
noncomputable def cayleyref21_Numbered.body : Code := match Tryd.f70.body with | some c => c | none => .skip
def cayleyref21_Numbered.sh (p0_0 : Int) (p0_1 : Int) (p0_2 : Sl) (p1 : Int) (R : Ending → World → Prop) (w : World) : Prop :=
  New w (.cells #[(.int .i64 p0_0), (.int .i64 p0_1), (.slice p0_2.a p0_2.n p0_2.c)] 54) fun b1 w2 =>
  New w2 (.cells #[(.int .i64 0), (.int .i64 0), (.slice none 0 0), (.slice none 0 0)] 27) fun b3 w4 =>
  New w4 (.cells #[(.int .i64 p1)] 3) fun b5 w6 =>
  LoadT (.sc (.int .i64)) w6 ((Addr.mk b1 0 none).add 0) fun x7 =>
  New w6 (.cells #[(.int .i64 0), (.int .i64 0), (.slice none 0 0), (.slice none 0 0)] 27) fun b8 w9 =>
  StoreN w9 (Addr.mk b8 0 none) [(.int .i64 (IntKind.wrap .i64 (2 * x7))), (.int .i64 0), (.slice none 0 0), (.slice none 0 0)] fun w10 =>
  LoopT (σ := Addr × Addr × Sl × Addr × Int × Unit) ((Addr.mk b1 0 none), (Addr.mk b3 0 none), ⟨(some (Addr.mk b5 0 none)), 1, 1⟩, (Addr.mk b8 0 none), 0, ()) w10 fun l11 g12 w13 I14 =>
    Br (decide ((l11.2.2.2.2.1 : Int) < ((l11.2.2.1.n : Nat) : Int)))
      (New w13 (.cells #[] 3) fun b15 w16 =>
      LoopT (σ := Addr × Addr × Sl × Addr × Int × Sl × Int × Unit) (l11.1, l11.2.1, l11.2.2.1, l11.2.2.2.1, l11.2.2.2.2.1, ⟨(some (Addr.mk b15 0 none)), 0, 0⟩, 0, ()) w16 fun l17 g18 w19 I20 =>
        LoadT (.sc (.int .i64)) w19 (l17.1.add 0) fun x21 =>
        Br (decide ((l17.2.2.2.2.2.2.1 : Int) < (IntKind.wrap .i64 (2 * x21))))
          (LoadT (.agg [.int .i64, .int .i64, .sl]) w19.drew l17.1 fun x22 =>
          Idx l17.2.2.1.a l17.2.2.1.n 1 l17.2.2.2.2.1 fun a23 =>
          LoadT (.sc (.int .i64)) w19.drew a23 fun x24 =>
          CallT Tryd.prog 91 #[(.agg #[(.int .i64 x22.1), (.int .i64 x22.2.1), (.slice x22.2.2.1.a x22.2.2.1.n x22.2.2.1.c)]), (.int .i64 x24), (.int .i64 l17.2.2.2.2.2.2.1)] (.sc (.int .i64)) w19.drew (fun r25 w26 =>
            Join (σ := Addr × Addr × Sl × Addr × Int × Sl × Int × Int × Unit) (fun j30 g29 w41 =>
              New w41 (.cells #[(.int .i64 j30.2.2.2.2.2.2.2.1)] 3) fun b42 w43 =>
              RunT Tryd.prog (.sc .sl) (Builtin.append_ #[85, 85] 85 #[(.slice j30.2.2.2.2.2.1.a j30.2.2.2.2.2.1.n j30.2.2.2.2.2.1.c), (.slice (some (Addr.mk b42 0 none)) 1 1)]) w43 fun r44 w45 =>
              I20 (j30.1, j30.2.1, j30.2.2.1, j30.2.2.2.1, j30.2.2.2.2.1, r44, (IntKind.wrap .i64 (j30.2.2.2.2.2.2.1 + 1)), ()) w45) fun J28 =>
              Br (decide ((r25 : Int) ≥ 0))
                (LoopT (σ := Addr × Addr × Sl × Addr × Int × Sl × Int × Int × Int × Int × Unit) (l17.1, l17.2.1, l17.2.2.1, l17.2.2.2.1, l17.2.2.2.2.1, l17.2.2.2.2.2.1, l17.2.2.2.2.2.2.1, r25, (-1), 0, ()) w26 fun l31 g32 w33 I34 =>
                  Br (decide ((l31.2.2.2.2.2.2.2.2.2.1 : Int) < ((l31.2.2.1.n : Nat) : Int)))
                    (Idx l31.2.2.1.a l31.2.2.1.n 1 l31.2.2.2.2.2.2.2.2.2.1 fun a35 =>
                    LoadT (.sc (.int .i64)) w33 a35 fun x36 =>
                    Br ((x36 : Int) == l31.2.2.2.2.2.2.2.1)
                      (I34 (l31.1, l31.2.1, l31.2.2.1, l31.2.2.2.1, l31.2.2.2.2.1, l31.2.2.2.2.2.1, l31.2.2.2.2.2.2.1, l31.2.2.2.2.2.2.2.1, l31.2.2.2.2.2.2.2.2.2.1, (IntKind.wrap .i64 (l31.2.2.2.2.2.2.2.2.2.1 + 1)), ()) w33)
                      (I34 (l31.1, l31.2.1, l31.2.2.1, l31.2.2.2.1, l31.2.2.2.2.1, l31.2.2.2.2.2.1, l31.2.2.2.2.2.2.1, l31.2.2.2.2.2.2.2.1, l31.2.2.2.2.2.2.2.2.1, (IntKind.wrap .i64 (l31.2.2.2.2.2.2.2.2.2.1 + 1)), ()) w33))
                    (Br (decide ((l31.2.2.2.2.2.2.2.2.1 : Int) < 0))
                      (New w33 (.cells #[(.int .i64 l31.2.2.2.2.2.2.2.1)] 3) fun b37 w38 =>
                      RunT Tryd.prog (.sc .sl) (Builtin.append_ #[85, 85] 85 #[(.slice l31.2.2.1.a l31.2.2.1.n l31.2.2.1.c), (.slice (some (Addr.mk b37 0 none)) 1 1)]) w38 fun r39 w40 =>
                      J28 (l31.1, l31.2.1, r39, l31.2.2.2.1, l31.2.2.2.2.1, l31.2.2.2.2.2.1, l31.2.2.2.2.2.2.1, ((l31.2.2.1.n : Nat) : Int), ()) w40)
                      (J28 (l31.1, l31.2.1, l31.2.2.1, l31.2.2.2.1, l31.2.2.2.2.1, l31.2.2.2.2.2.1, l31.2.2.2.2.2.2.1, l31.2.2.2.2.2.2.2.2.1, ()) w33)))
                (J28 (l17.1, l17.2.1, l17.2.2.1, l17.2.2.2.1, l17.2.2.2.2.1, l17.2.2.2.2.2.1, l17.2.2.2.2.2.2.1, (-1), ()) w26)) (fun h27 w26 => R (.panicked h27) w26))
          (LoadT (.sc .sl) w19 (l17.2.2.2.1.add 3) fun x46 =>
          New w19 (.cells #[(.slice l17.2.2.2.2.2.1.a l17.2.2.2.2.2.1.n l17.2.2.2.2.2.1.c)] 85) fun b47 w48 =>
          RunT Tryd.prog (.sc .sl) (Builtin.append_ #[25, 25] 25 #[(.slice x46.a x46.n x46.c), (.slice (some (Addr.mk b47 0 none)) 1 1)]) w48 fun r49 w50 =>
          Store1 w50 (l17.2.2.2.1.add 3) (.slice r49.a r49.n r49.c) fun w51 =>
          LoadT (.sc .sl) w51 (l17.2.2.2.1.add 2) fun x52 =>
          New w51 (.cells #[(.bool ((l17.2.2.2.2.1 : Int) == 0))] 4) fun b53 w54 =>
          RunT Tryd.prog (.sc .sl) (Builtin.append_ #[24, 24] 24 #[(.slice x52.a x52.n x52.c), (.slice (some (Addr.mk b53 0 none)) 1 1)]) w54 fun r55 w56 =>
          Store1 w56 (l17.2.2.2.1.add 2) (.slice r55.a r55.n r55.c) fun w57 =>
          I14 (l17.1, l17.2.1, l17.2.2.1, l17.2.2.2.1, (IntKind.wrap .i64 (l17.2.2.2.2.1 + 1)), ()) w57))
      (LoadT (.agg [.int .i64, .int .i64, .sl, .sl]) w13 l11.2.2.2.1 fun x58 =>
      StoreN w13 l11.2.1 [(.int .i64 x58.1), (.int .i64 x58.2.1), (.slice x58.2.2.1.a x58.2.2.1.n x58.2.2.1.c), (.slice x58.2.2.2.1.a x58.2.2.2.1.n x58.2.2.2.1.c)] fun w59 =>
      LoadT (.agg [.int .i64, .int .i64, .sl, .sl]) w59 l11.2.1 fun x60 =>
      R (.returned (.agg #[(.int .i64 x60.1), (.int .i64 x60.2.1), (.slice x60.2.2.1.a x60.2.2.1.n x60.2.2.1.c), (.slice x60.2.2.2.1.a x60.2.2.2.1.n x60.2.2.2.1.c)])) w59)
theorem cayleyref21_Numbered.eq (p0_0 : Int) (p0_1 : Int) (p0_2 : Sl) (p1 : Int) (R : Ending → World → Prop) (w : World) : cayleyref21_Numbered.sh p0_0 p0_1 p0_2 p1 R w = wpc Tryd.prog cayleyref21_Numbered.ann cayleyref21_Numbered.body (fnKs Tryd.prog Tryd.f70 R) [] (env0 #[(.agg #[(.int .i64 p0_0), (.int .i64 p0_1), (.slice p0_2.a p0_2.n p0_2.c)]), (.int .i64 p1)]) w := by kernel_rfl
theorem cayleyref21_Numbered.calls (p0_0 : Int) (p0_1 : Int) (p0_2 : Sl) (p1 : Int) {R : Ending → World → Prop} {w : World} (h : cayleyref21_Numbered.sh p0_0 p0_1 p0_2 p1 R w) : Calls Tryd.prog 70 #[(.agg #[(.int .i64 p0_0), (.int .i64 p0_1), (.slice p0_2.a p0_2.n p0_2.c)]), (.int .i64 p1)] w R :=
  calls_of_wpc mixed Tryd.func70 (by kernel_rfl) (by kernel_rfl) ((cayleyref21_Numbered.eq p0_0 p0_1 p0_2 p1 R w).mp h)
noncomputable def cayleyref21_Is.ann : Ann where
  loops := fun | 5 => [(0, .sc (.int .i64)), (3, .sc .adr), (5, .sc (.int .i64)), (6, .sc (.int .i64))] | 9 => [(0, .sc (.int .i64)), (3, .sc .adr), (5, .sc (.int .i64)), (6, .sc (.int .i64)), (7, .sc (.int .i64)), (8, .sc (.int .i64))] | _ => []
  joins := fun | 4 => some [(0, .sc (.int .i64)), (3, .sc .adr), (5, .sc (.int .i64))] | _ => none
noncomputable def cayleyref21_Is.body : Code := match Tryd.f57.body with | some c => c | none => .skip
def cayleyref21_Is.sh (p0 : Int) (p1_0 : Int) (p1_1 : Int) (p1_2 : Sl) (p1_3 : Sl) (R : Ending → World → Prop) (w : World) : Prop :=
  New w (.cells #[(.int .i64 p1_0), (.int .i64 p1_1), (.slice p1_2.a p1_2.n p1_2.c), (.slice p1_3.a p1_3.n p1_3.c)] 27) fun b1 w2 =>
  LoadT (.sc .sl) w2 ((Addr.mk b1 0 none).add 2) fun x3 =>
  Join (σ := Int × Addr × Int × Unit) (fun j6 g5 w16 =>
    LoopT (σ := Int × Addr × Int × Int × Unit) (j6.1, j6.2.1, j6.2.2.1, 0, ()) w16 fun l17 g18 w19 I20 =>
      Br (decide ((l17.2.2.2.1 : Int) < l17.2.2.1))
        (LoopT (σ := Int × Addr × Int × Int × Int × Int × Unit) (l17.1, l17.2.1, l17.2.2.1, l17.2.2.2.1, 0, 0, ()) w19 fun l21 g22 w23 I24 =>
          Br (decide ((l21.2.2.2.2.2.1 : Int) < (IntKind.wrap .i64 (2 * l21.1))))
            (LoadT (.sc .sl) w23 (l21.2.1.add 3) fun x25 =>
            Idx x25.a x25.n 1 l21.2.2.2.1 fun a26 =>
            LoadT (.sc .sl) w23 a26 fun x27 =>
            Idx x27.a x27.n 1 l21.2.2.2.2.2.1 fun a28 =>
            LoadT (.sc (.int .i64)) w23 a28 fun x29 =>
            Br (decide ((x29 : Int) ≥ 0))
              (LoadT (.sc .sl) w23 (l21.2.1.add 3) fun x30 =>
              Idx x30.a x30.n 1 x29 fun a31 =>
              LoadT (.sc .sl) w23 a31 fun x32 =>
              Idx x32.a x32.n 1 (Go.bits .xor .i64 l21.2.2.2.2.2.1 1) fun a33 =>
              LoadT (.sc (.int .i64)) w23 a33 fun x34 =>
              Br ((x34 : Int) != l21.2.2.2.1)
                (R (.returned (.bool false)) w23)
                (I24 (l21.1, l21.2.1, l21.2.2.1, l21.2.2.2.1, (IntKind.wrap .i64 (l21.2.2.2.2.1 + 1)), (IntKind.wrap .i64 (l21.2.2.2.2.2.1 + 1)), ()) w23))
              (I24 (l21.1, l21.2.1, l21.2.2.1, l21.2.2.2.1, l21.2.2.2.2.1, (IntKind.wrap .i64 (l21.2.2.2.2.2.1 + 1)), ()) w23))
            (Br (decide ((l21.2.2.2.1 : Int) > 0))
              (Br (decide ((l21.2.2.2.2.1 : Int) < 2))
                (Br true
                  (R (.returned (.bool false)) w23)
                  (I20 (l21.1, l21.2.1, l21.2.2.1, (IntKind.wrap .i64 (l21.2.2.2.1 + 1)), ()) w23))
                (LoadT (.sc .sl) w23 (l21.2.1.add 2) fun x35 =>
                Idx x35.a x35.n 1 l21.2.2.2.1 fun a36 =>
                LoadT (.sc .bool) w23 a36 fun x37 =>
                Br x37
                  (R (.returned (.bool false)) w23)
                  (I20 (l21.1, l21.2.1, l21.2.2.1, (IntKind.wrap .i64 (l21.2.2.2.1 + 1)), ()) w23)))
              (Br false
                (R (.returned (.bool false)) w23)
                (I20 (l21.1, l21.2.1, l21.2.2.1, (IntKind.wrap .i64 (l21.2.2.2.1 + 1)), ()) w23))))
        (∃ S38 : World → Prop, S38 w19.drew ∧
        (LoadS S38 (.agg [.int .i64, .int .i64, .sl, .sl]) l17.2.1 fun x39 =>
        LoadS S38 (.agg [.int .i64, .int .i64, .sl, .sl]) l17.2.1 fun x40 =>
        CallT Tryd.prog 27 #[(.int .i64 l17.1), (.agg #[(.int .i64 x40.1), (.int .i64 x40.2.1), (.slice x40.2.2.1.a x40.2.2.1.n x40.2.2.1.c), (.slice x40.2.2.2.1.a x40.2.2.2.1.n x40.2.2.2.1.c)])] (.agg [.int .i64, .int .i64, .sl]) w19.drew (fun r41 w42 =>
            S38 w42 ∧
            (CallT Tryd.prog 70 #[(.agg #[(.int .i64 r41.1), (.int .i64 r41.2.1), (.slice r41.2.2.1.a r41.2.2.1.n r41.2.2.1.c)]), (.int .i64 0)] (.agg [.int .i64, .int .i64, .sl, .sl]) w42 (fun r44 w45 =>
                S38 w45 ∧
                (CallT Tryd.prog 15 #[(.agg #[(.int .i64 x39.1), (.int .i64 x39.2.1), (.slice x39.2.2.1.a x39.2.2.1.n x39.2.2.1.c), (.slice x39.2.2.2.1.a x39.2.2.2.1.n x39.2.2.2.1.c)]), (.agg #[(.int .i64 r44.1), (.int .i64 r44.2.1), (.slice r44.2.2.1.a r44.2.2.1.n r44.2.2.1.c), (.slice r44.2.2.2.1.a r44.2.2.2.1.n r44.2.2.2.1.c)])] (.sc .bool) w45 (fun r47 w48 =>
                    S38 w48 ∧
                    (R (.returned (.bool r47)) w48)) (fun h49 w48 => R (.panicked h49) w48))) (fun h46 w45 => R (.panicked h46) w45))) (fun h43 w42 => R (.panicked h43) w42)))) fun J4 =>
    LoadT (.agg [.int .i64, .int .i64, .sl, .sl]) w2 (Addr.mk b1 0 none) fun x7 =>
    CallT Tryd.prog 87 #[(.agg #[(.int .i64 x7.1), (.int .i64 x7.2.1), (.slice x7.2.2.1.a x7.2.2.1.n x7.2.2.1.c), (.slice x7.2.2.2.1.a x7.2.2.2.1.n x7.2.2.2.1.c)])] (.sc (.int .i64)) w2 (fun r8 w9 =>
      Br ((r8 : Int) != 0)
        (Br true
          (R (.returned (.bool false)) w9)
          (J4 (p0, (Addr.mk b1 0 none), ((x3.n : Nat) : Int), ()) w9))
        (LoadT (.sc (.int .i64)) w9 ((Addr.mk b1 0 none).add 0) fun x11 =>
        Br ((x11 : Int) != (IntKind.wrap .i64 (2 * p0)))
          (Br true
            (R (.returned (.bool false)) w9)
            (J4 (p0, (Addr.mk b1 0 none), ((x3.n : Nat) : Int), ()) w9))
          (Br (decide ((((x3.n : Nat) : Int) : Int) < 1))
            (Br true
              (R (.returned (.bool false)) w9)
              (J4 (p0, (Addr.mk b1 0 none), ((x3.n : Nat) : Int), ()) w9))
            (Br (decide ((((x3.n : Nat) : Int) : Int) > 2000))
              (Br true
                (R (.returned (.bool false)) w9)
                (J4 (p0, (Addr.mk b1 0 none), ((x3.n : Nat) : Int), ()) w9))
              (LoadT (.sc (.int .i64)) w9 ((Addr.mk b1 0 none).add 1) fun x12 =>
              Br ((x12 : Int) != 0)
                (Br true
                  (R (.returned (.bool false)) w9)
                  (J4 (p0, (Addr.mk b1 0 none), ((x3.n : Nat) : Int), ()) w9))
                (LoadT (.sc .sl) w9 ((Addr.mk b1 0 none).add 2) fun x13 =>
                Idx x13.a x13.n 1 0 fun a14 =>
                LoadT (.sc .bool) w9 a14 fun x15 =>
                Br (!x15)
                  (R (.returned (.bool false)) w9)
                  (J4 (p0, (Addr.mk b1 0 none), ((x3.n : Nat) : Int), ()) w9))))))) (fun h10 w9 => R (.panicked h10) w9)
theorem cayleyref21_Is.eq (p0 : Int) (p1_0 : Int) (p1_1 : Int) (p1_2 : Sl) (p1_3 : Sl) (R : Ending → World → Prop) (w : World) : cayleyref21_Is.sh p0 p1_0 p1_1 p1_2 p1_3 R w = wpc Tryd.prog cayleyref21_Is.ann cayleyref21_Is.body (fnKs Tryd.prog Tryd.f57 R) [] (env0 #[(.int .i64 p0), (.agg #[(.int .i64 p1_0), (.int .i64 p1_1), (.slice p1_2.a p1_2.n p1_2.c), (.slice p1_3.a p1_3.n p1_3.c)])]) w := by kernel_rfl
theorem cayleyref21_Is.calls (p0 : Int) (p1_0 : Int) (p1_1 : Int) (p1_2 : Sl) (p1_3 : Sl) {R : Ending → World → Prop} {w : World} (h : cayleyref21_Is.sh p0 p1_0 p1_1 p1_2 p1_3 R w) : Calls Tryd.prog 57 #[(.int .i64 p0), (.agg #[(.int .i64 p1_0), (.int .i64 p1_1), (.slice p1_2.a p1_2.n p1_2.c), (.slice p1_3.a p1_3.n p1_3.c)])] w R :=
  calls_of_wpc mixed Tryd.func57 (by kernel_rfl) (by kernel_rfl) ((cayleyref21_Is.eq p0 p1_0 p1_1 p1_2 p1_3 R w).mp h)
noncomputable def cayleyref21_Check.ann : Ann where
  loops := fun | _ => []
  joins := fun | 3 => some [(0, .sc (.int .i64)), (3, .sc .adr)] | _ => none
noncomputable def cayleyref21_Check.body : Code := match Tryd.f18.body with | some c => c | none => .skip
def cayleyref21_Check.sh (p0 : Int) (p1_0 : Int) (p1_1 : Int) (p1_2 : Sl) (p1_3 : Sl) (R : Ending → World → Prop) (w : World) : Prop :=
  New w (.cells #[(.int .i64 p1_0), (.int .i64 p1_1), (.slice p1_2.a p1_2.n p1_2.c), (.slice p1_3.a p1_3.n p1_3.c)] 27) fun b1 w2 =>
  Join (σ := Int × Addr × Unit) (fun j5 g4 w6 =>
    LoadT (.agg [.int .i64, .int .i64, .sl, .sl]) w6 j5.2.1 fun x7 =>
    CallT Tryd.prog 57 #[(.int .i64 j5.1), (.agg #[(.int .i64 x7.1), (.int .i64 x7.2.1), (.slice x7.2.2.1.a x7.2.2.1.n x7.2.2.1.c), (.slice x7.2.2.2.1.a x7.2.2.2.1.n x7.2.2.2.1.c)])] (.sc .bool) w6 (fun r8 w9 =>
      Br (!r8)
        (R (.returned (.int .i64 210)) w9)
        (R (.returned (.int .i64 0)) w9)) (fun h10 w9 => R (.panicked h10) w9)) fun J3 =>
    Br (decide ((p0 : Int) < 1))
      (Br true
        (R (.returned (.int .i64 1)) w2)
        (J3 (p0, (Addr.mk b1 0 none), ()) w2))
      (Br (decide ((p0 : Int) > 8))
        (R (.returned (.int .i64 1)) w2)
        (J3 (p0, (Addr.mk b1 0 none), ()) w2))
theorem cayleyref21_Check.eq (p0 : Int) (p1_0 : Int) (p1_1 : Int) (p1_2 : Sl) (p1_3 : Sl) (R : Ending → World → Prop) (w : World) : cayleyref21_Check.sh p0 p1_0 p1_1 p1_2 p1_3 R w = wpc Tryd.prog cayleyref21_Check.ann cayleyref21_Check.body (fnKs Tryd.prog Tryd.f18 R) [] (env0 #[(.int .i64 p0), (.agg #[(.int .i64 p1_0), (.int .i64 p1_1), (.slice p1_2.a p1_2.n p1_2.c), (.slice p1_3.a p1_3.n p1_3.c)])]) w := by kernel_rfl
theorem cayleyref21_Check.calls (p0 : Int) (p1_0 : Int) (p1_1 : Int) (p1_2 : Sl) (p1_3 : Sl) {R : Ending → World → Prop} {w : World} (h : cayleyref21_Check.sh p0 p1_0 p1_1 p1_2 p1_3 R w) : Calls Tryd.prog 18 #[(.int .i64 p0), (.agg #[(.int .i64 p1_0), (.int .i64 p1_1), (.slice p1_2.a p1_2.n p1_2.c), (.slice p1_3.a p1_3.n p1_3.c)])] w R :=
  calls_of_wpc mixed Tryd.func18 (by kernel_rfl) (by kernel_rfl) ((cayleyref21_Check.eq p0 p1_0 p1_1 p1_2 p1_3 R w).mp h)
noncomputable def cayleyref21_Lead.ann : Ann where
  loops := fun | 4 => [(2, .sc .adr), (5, .sc .str), (6, .sc (.int .i64)), (7, .sc (.int .i64))] | _ => []
  joins := fun | 6 => some [(2, .sc .adr), (5, .sc .str), (6, .sc (.int .i64)), (7, .sc (.int .i64))] | _ => none
noncomputable def cayleyref21_Lead.body : Code := match Tryd.f23.body with | some c => c | none => .skip
def cayleyref21_Lead.sh (p0_0 : Int) (p0_1 : Int) (p0_2 : Sl) (p0_3 : Sl) (p1 : ByteArray) (R : Ending → World → Prop) (w : World) : Prop :=
  New w (.cells #[(.int .i64 p0_0), (.int .i64 p0_1), (.slice p0_2.a p0_2.n p0_2.c), (.slice p0_3.a p0_3.n p0_3.c)] 27) fun b1 w2 =>
  CallT Tryd.prog 25 #[(.string p1)] (.sc .str) w2 (fun r3 w4 =>
    LoopT (σ := Addr × ByteArray × Int × Int × Unit) ((Addr.mk b1 0 none), r3, 0, 0, ()) w4 fun l6 g7 w8 I9 =>
      Join (σ := Addr × ByteArray × Int × Int × Unit) (fun j12 g11 w14 =>
        ∃ S15 : World → Prop, S15 w14.drew ∧
        (LoadS S15 (.sc .sl) (j12.1.add 3) fun x16 =>
        Idx x16.a x16.n 1 j12.2.2.1 fun a17 =>
        LoadS S15 (.sc .sl) a17 fun x18 =>
        StrIdx j12.2.1 j12.2.2.2.1 fun c19 =>
        CallT Tryd.prog 61 #[(.int .u8 c19)] (.sc (.int .i64)) w14.drew (fun r20 w21 =>
            S15 w21 ∧
            (Idx x18.a x18.n 1 r20 fun a23 =>
            LoadS S15 (.sc (.int .i64)) a23 fun x24 =>
            I9 (j12.1, j12.2.1, x24, (IntKind.wrap .i64 (j12.2.2.2.1 + 1)), ()) w21)) (fun h22 w21 => R (.panicked h22) w21))) fun J10 =>
        Br (decide ((l6.2.2.2.1 : Int) < ((l6.2.1.size : Nat) : Int)))
          (Br (decide ((l6.2.2.1 : Int) ≥ 0))
            (LoadT (.sc .sl) w8 (l6.1.add 3) fun x13 =>
            Br (decide ((l6.2.2.1 : Int) < ((x13.n : Nat) : Int)))
              (J10 (l6.1, l6.2.1, l6.2.2.1, l6.2.2.2.1, ()) w8)
              (R (.returned (.int .i64 l6.2.2.1)) w8))
            (Br false
              (J10 (l6.1, l6.2.1, l6.2.2.1, l6.2.2.2.1, ()) w8)
              (R (.returned (.int .i64 l6.2.2.1)) w8)))
          (Br false
            (J10 (l6.1, l6.2.1, l6.2.2.1, l6.2.2.2.1, ()) w8)
            (R (.returned (.int .i64 l6.2.2.1)) w8))) (fun h5 w4 => R (.panicked h5) w4)
theorem cayleyref21_Lead.eq (p0_0 : Int) (p0_1 : Int) (p0_2 : Sl) (p0_3 : Sl) (p1 : ByteArray) (R : Ending → World → Prop) (w : World) : cayleyref21_Lead.sh p0_0 p0_1 p0_2 p0_3 p1 R w = wpc Tryd.prog cayleyref21_Lead.ann cayleyref21_Lead.body (fnKs Tryd.prog Tryd.f23 R) [] (env0 #[(.agg #[(.int .i64 p0_0), (.int .i64 p0_1), (.slice p0_2.a p0_2.n p0_2.c), (.slice p0_3.a p0_3.n p0_3.c)]), (.string p1)]) w := by kernel_rfl
theorem cayleyref21_Lead.calls (p0_0 : Int) (p0_1 : Int) (p0_2 : Sl) (p0_3 : Sl) (p1 : ByteArray) {R : Ending → World → Prop} {w : World} (h : cayleyref21_Lead.sh p0_0 p0_1 p0_2 p0_3 p1 R w) : Calls Tryd.prog 23 #[(.agg #[(.int .i64 p0_0), (.int .i64 p0_1), (.slice p0_2.a p0_2.n p0_2.c), (.slice p0_3.a p0_3.n p0_3.c)]), (.string p1)] w R :=
  calls_of_wpc mixed Tryd.func23 (by kernel_rfl) (by kernel_rfl) ((cayleyref21_Lead.eq p0_0 p0_1 p0_2 p0_3 p1 R w).mp h)
noncomputable def cayleyref21_Paths.ann : Ann where
  loops := fun | 5 => [(1, .sc .adr), (3, .sc .sl), (4, .sc .sl), (5, .sc (.int .i64))] | 8 => [(1, .sc .adr), (3, .sc .sl), (4, .sc .sl), (5, .sc (.int .i64)), (6, .sc (.int .i64))] | _ => []
  joins := fun | 12 => some [(1, .sc .adr), (3, .sc .sl), (4, .sc .sl), (5, .sc (.int .i64)), (6, .sc (.int .i64)), (7, .sc (.int .i64)), (47, .sc .bool)] | _ => none
noncomputable def cayleyref21_Paths.body : Code := match Tryd.f32.body with | some c => c | none => .skip
def cayleyref21_Paths.sh (p0_0 : Int) (p0_1 : Int) (p0_2 : Sl) (p0_3 : Sl) (R : Ending → World → Prop) (w : World) : Prop :=
  New w (.cells #[(.int .i64 p0_0), (.int .i64 p0_1), (.slice p0_2.a p0_2.n p0_2.c), (.slice p0_3.a p0_3.n p0_3.c)] 27) fun b1 w2 =>
  LoadT (.sc .sl) w2 ((Addr.mk b1 0 none).add 2) fun x3 =>
  RunT Tryd.prog (.sc .sl) (Instr.makeSlice 22 (.int .i64 ((x3.n : Nat) : Int)) (.int .i64 ((x3.n : Nat) : Int))) w2 fun r4 w5 =>
  LoadT (.sc .sl) w5 ((Addr.mk b1 0 none).add 2) fun x6 =>
  RunT Tryd.prog (.sc .sl) (Instr.makeSlice 24 (.int .i64 ((x6.n : Nat) : Int)) (.int .i64 ((x6.n : Nat) : Int))) w5 fun r7 w8 =>
  Idx r7.a r7.n 1 0 fun a9 =>
  Store1 w8 a9 (.bool true) fun w10 =>
  LoopT (σ := Addr × Sl × Sl × Int × Unit) ((Addr.mk b1 0 none), r4, r7, 0, ()) w10 fun l11 g12 w13 I14 =>
    LoadT (.sc .sl) w13 (l11.1.add 2) fun x15 =>
    Br (decide ((l11.2.2.2.1 : Int) < ((x15.n : Nat) : Int)))
      (LoopT (σ := Addr × Sl × Sl × Int × Int × Unit) (l11.1, l11.2.1, l11.2.2.1, l11.2.2.2.1, 0, ()) w13 fun l16 g17 w18 I19 =>
        LoadT (.sc (.int .i64)) w18 (l16.1.add 0) fun x20 =>
        Br (decide ((l16.2.2.2.2.1 : Int) < x20))
          (LoadT (.sc .sl) w18 (l16.1.add 3) fun x21 =>
          Idx x21.a x21.n 1 l16.2.2.2.1 fun a22 =>
          LoadT (.sc .sl) w18 a22 fun x23 =>
          Idx x23.a x23.n 1 l16.2.2.2.2.1 fun a24 =>
          LoadT (.sc (.int .i64)) w18 a24 fun x25 =>
          Join (σ := Addr × Sl × Sl × Int × Int × Int × Bool × Unit) (fun j28 g27 w31 =>
            Br j28.2.2.2.2.2.2.1
              (Idx j28.2.2.1.a j28.2.2.1.n 1 j28.2.2.2.2.2.1 fun a32 =>
              Store1 w31 a32 (.bool true) fun w33 =>
              ∃ S34 : World → Prop, S34 w33.drew ∧
              (Idx j28.2.1.a j28.2.1.n 1 j28.2.2.2.1 fun a35 =>
              LoadS S34 (.sc .str) a35 fun x36 =>
              CallT Tryd.prog 65 #[(.int .i64 j28.2.2.2.2.1)] (.sc (.int .u8)) w33.drew (fun r37 w38 =>
                  S34 w38 ∧
                  (New w38 (.cells #[(.int .u8 r37)] 5) fun b40 w41 =>
                    S34 w41 ∧
                    (RunT Tryd.prog (.sc .str) (convert 87 9 (.slice (some (Addr.mk b40 0 none)) 1 1)) w41 fun r42 w43 =>
                      S34 w43 ∧
                      ((((x36.size + r42.size : Nat) : Int) ≤ 9223372036854775807) ∧
                      Idx j28.2.1.a j28.2.1.n 1 j28.2.2.2.2.2.1 fun a44 =>
                      Store1 w43 a44 (.string (x36 ++ r42)) fun w45 =>
                        I19 (j28.1, j28.2.1, j28.2.2.1, j28.2.2.2.1, (IntKind.wrap .i64 (j28.2.2.2.2.1 + 1)), ()) w45)))) (fun h39 w38 => R (.panicked h39) w38)))
              (I19 (j28.1, j28.2.1, j28.2.2.1, j28.2.2.2.1, (IntKind.wrap .i64 (j28.2.2.2.2.1 + 1)), ()) w31)) fun J26 =>
            Br (decide ((x25 : Int) ≥ 0))
              (Idx l16.2.2.1.a l16.2.2.1.n 1 x25 fun a29 =>
              LoadT (.sc .bool) w18 a29 fun x30 =>
              J26 (l16.1, l16.2.1, l16.2.2.1, l16.2.2.2.1, l16.2.2.2.2.1, x25, (!x30), ()) w18)
              (J26 (l16.1, l16.2.1, l16.2.2.1, l16.2.2.2.1, l16.2.2.2.2.1, x25, false, ()) w18))
          (I14 (l16.1, l16.2.1, l16.2.2.1, (IntKind.wrap .i64 (l16.2.2.2.1 + 1)), ()) w18))
      (R (.returned (.slice l11.2.1.a l11.2.1.n l11.2.1.c)) w13)
theorem cayleyref21_Paths.eq (p0_0 : Int) (p0_1 : Int) (p0_2 : Sl) (p0_3 : Sl) (R : Ending → World → Prop) (w : World) : cayleyref21_Paths.sh p0_0 p0_1 p0_2 p0_3 R w = wpc Tryd.prog cayleyref21_Paths.ann cayleyref21_Paths.body (fnKs Tryd.prog Tryd.f32 R) [] (env0 #[(.agg #[(.int .i64 p0_0), (.int .i64 p0_1), (.slice p0_2.a p0_2.n p0_2.c), (.slice p0_3.a p0_3.n p0_3.c)])]) w := by kernel_rfl
theorem cayleyref21_Paths.calls (p0_0 : Int) (p0_1 : Int) (p0_2 : Sl) (p0_3 : Sl) {R : Ending → World → Prop} {w : World} (h : cayleyref21_Paths.sh p0_0 p0_1 p0_2 p0_3 R w) : Calls Tryd.prog 32 #[(.agg #[(.int .i64 p0_0), (.int .i64 p0_1), (.slice p0_2.a p0_2.n p0_2.c), (.slice p0_3.a p0_3.n p0_3.c)])] w R :=
  calls_of_wpc mixed Tryd.func32 (by kernel_rfl) (by kernel_rfl) ((cayleyref21_Paths.eq p0_0 p0_1 p0_2 p0_3 R w).mp h)
noncomputable def cayleyref21_Basis.ann : Ann where
  loops := fun | 4 => [(1, .sc .adr), (3, .sc .sl), (4, .sc .sl), (5, .sc (.int .i64))] | 7 => [(1, .sc .adr), (3, .sc .sl), (4, .sc .sl), (5, .sc (.int .i64)), (6, .sc (.int .i64))] | _ => []
  joins := fun | _ => none
noncomputable def cayleyref21_Basis.body : Code := match Tryd.f30.body with | some c => c | none => .skip
def cayleyref21_Basis.sh (p0_0 : Int) (p0_1 : Int) (p0_2 : Sl) (p0_3 : Sl) (R : Ending → World → Prop) (w : World) : Prop :=
  New w (.cells #[(.int .i64 p0_0), (.int .i64 p0_1), (.slice p0_2.a p0_2.n p0_2.c), (.slice p0_3.a p0_3.n p0_3.c)] 27) fun b1 w2 =>
  LoadT (.agg [.int .i64, .int .i64, .sl, .sl]) w2 (Addr.mk b1 0 none) fun x3 =>
  CallT Tryd.prog 32 #[(.agg #[(.int .i64 x3.1), (.int .i64 x3.2.1), (.slice x3.2.2.1.a x3.2.2.1.n x3.2.2.1.c), (.slice x3.2.2.2.1.a x3.2.2.2.1.n x3.2.2.2.1.c)])] (.sc .sl) w2 (fun r4 w5 =>
    New w5 (.cells #[] 9) fun b7 w8 =>
    LoopT (σ := Addr × Sl × Sl × Int × Unit) ((Addr.mk b1 0 none), r4, ⟨(some (Addr.mk b7 0 none)), 0, 0⟩, 0, ()) w8 fun l9 g10 w11 I12 =>
      LoadT (.sc .sl) w11 (l9.1.add 2) fun x13 =>
      Br (decide ((l9.2.2.2.1 : Int) < ((x13.n : Nat) : Int)))
        (LoopT (σ := Addr × Sl × Sl × Int × Int × Unit) (l9.1, l9.2.1, l9.2.2.1, l9.2.2.2.1, 0, ()) w11 fun l14 g15 w16 I17 =>
          LoadT (.sc (.int .i64)) w16 (l14.1.add 0) fun x18 =>
          Br (decide ((l14.2.2.2.2.1 : Int) < x18))
            (LoadT (.sc .sl) w16 (l14.1.add 3) fun x19 =>
            Idx x19.a x19.n 1 l14.2.2.2.1 fun a20 =>
            LoadT (.sc .sl) w16 a20 fun x21 =>
            Idx x21.a x21.n 1 l14.2.2.2.2.1 fun a22 =>
            LoadT (.sc (.int .i64)) w16 a22 fun x23 =>
            Br (decide ((x23 : Int) ≥ 0))
              (CallT Tryd.prog 65 #[(.int .i64 l14.2.2.2.2.1)] (.sc (.int .u8)) w16 (fun r24 w25 =>
                New w25 (.cells #[(.int .u8 r24)] 5) fun b27 w28 =>
                RunT Tryd.prog (.sc .str) (convert 87 9 (.slice (some (Addr.mk b27 0 none)) 1 1)) w28 fun r29 w30 =>
                ∃ S31 : World → Prop, S31 w30.drew ∧
                (Idx l14.2.1.a l14.2.1.n 1 l14.2.2.2.1 fun a32 =>
                LoadS S31 (.sc .str) a32 fun x33 =>
                (((x33.size + r29.size : Nat) : Int) ≤ 9223372036854775807) ∧
                Idx l14.2.1.a l14.2.1.n 1 x23 fun a34 =>
                LoadS S31 (.sc .str) a34 fun x35 =>
                CallT Tryd.prog 16 #[(.string x35)] (.sc .str) w30.drew (fun r36 w37 =>
                    S31 w37 ∧
                    (((((x33 ++ r29).size + r36.size : Nat) : Int) ≤ 9223372036854775807) ∧
                    CallT Tryd.prog 25 #[(.string ((x33 ++ r29) ++ r36))] (.sc .str) w37 (fun r39 w40 =>
                        S31 w40 ∧
                        (Br (!(r39.toList == (ByteArray.mk #[]).toList))
                          (New w40 (.cells #[(.string r39)] 9) fun b42 w43 =>
                          RunT Tryd.prog (.sc .sl) (Builtin.append_ #[22, 22] 22 #[(.slice l14.2.2.1.a l14.2.2.1.n l14.2.2.1.c), (.slice (some (Addr.mk b42 0 none)) 1 1)]) w43 fun r44 w45 =>
                          I17 (l14.1, l14.2.1, r44, l14.2.2.2.1, (IntKind.wrap .i64 (l14.2.2.2.2.1 + 2)), ()) w45)
                          (I17 (l14.1, l14.2.1, l14.2.2.1, l14.2.2.2.1, (IntKind.wrap .i64 (l14.2.2.2.2.1 + 2)), ()) w40))) (fun h41 w40 => R (.panicked h41) w40))) (fun h38 w37 => R (.panicked h38) w37))) (fun h26 w25 => R (.panicked h26) w25))
              (I17 (l14.1, l14.2.1, l14.2.2.1, l14.2.2.2.1, (IntKind.wrap .i64 (l14.2.2.2.2.1 + 2)), ()) w16))
            (I12 (l14.1, l14.2.1, l14.2.2.1, (IntKind.wrap .i64 (l14.2.2.2.1 + 1)), ()) w16))
        (R (.returned (.slice l9.2.2.1.a l9.2.2.1.n l9.2.2.1.c)) w11)) (fun h6 w5 => R (.panicked h6) w5)
theorem cayleyref21_Basis.eq (p0_0 : Int) (p0_1 : Int) (p0_2 : Sl) (p0_3 : Sl) (R : Ending → World → Prop) (w : World) : cayleyref21_Basis.sh p0_0 p0_1 p0_2 p0_3 R w = wpc Tryd.prog cayleyref21_Basis.ann cayleyref21_Basis.body (fnKs Tryd.prog Tryd.f30 R) [] (env0 #[(.agg #[(.int .i64 p0_0), (.int .i64 p0_1), (.slice p0_2.a p0_2.n p0_2.c), (.slice p0_3.a p0_3.n p0_3.c)])]) w := by kernel_rfl
theorem cayleyref21_Basis.calls (p0_0 : Int) (p0_1 : Int) (p0_2 : Sl) (p0_3 : Sl) {R : Ending → World → Prop} {w : World} (h : cayleyref21_Basis.sh p0_0 p0_1 p0_2 p0_3 R w) : Calls Tryd.prog 30 #[(.agg #[(.int .i64 p0_0), (.int .i64 p0_1), (.slice p0_2.a p0_2.n p0_2.c), (.slice p0_3.a p0_3.n p0_3.c)])] w R :=
  calls_of_wpc mixed Tryd.func30 (by kernel_rfl) (by kernel_rfl) ((cayleyref21_Basis.eq p0_0 p0_1 p0_2 p0_3 R w).mp h)
noncomputable def cayleyref21_Index.ann : Ann where
  loops := fun | 2 => [(1, .sc .adr), (3, .sc (.int .i64))] | 5 => [(1, .sc .adr), (3, .sc (.int .i64)), (4, .sc (.int .i64))] | _ => []
  joins := fun | _ => none
noncomputable def cayleyref21_Index.body : Code := match Tryd.f31.body with | some c => c | none => .skip
def cayleyref21_Index.sh (p0_0 : Int) (p0_1 : Int) (p0_2 : Sl) (p0_3 : Sl) (R : Ending → World → Prop) (w : World) : Prop :=
  New w (.cells #[(.int .i64 p0_0), (.int .i64 p0_1), (.slice p0_2.a p0_2.n p0_2.c), (.slice p0_3.a p0_3.n p0_3.c)] 27) fun b1 w2 =>
  LoopT (σ := Addr × Int × Unit) ((Addr.mk b1 0 none), 0, ()) w2 fun l3 g4 w5 I6 =>
    LoadT (.sc .sl) w5 (l3.1.add 2) fun x7 =>
    Br (decide ((l3.2.1 : Int) < ((x7.n : Nat) : Int)))
      (LoopT (σ := Addr × Int × Int × Unit) (l3.1, l3.2.1, 0, ()) w5 fun l8 g9 w10 I11 =>
        LoadT (.sc (.int .i64)) w10 (l8.1.add 0) fun x12 =>
        Br (decide ((l8.2.2.1 : Int) < x12))
          (LoadT (.sc .sl) w10 (l8.1.add 3) fun x13 =>
          Idx x13.a x13.n 1 l8.2.1 fun a14 =>
          LoadT (.sc .sl) w10 a14 fun x15 =>
          Idx x15.a x15.n 1 l8.2.2.1 fun a16 =>
          LoadT (.sc (.int .i64)) w10 a16 fun x17 =>
          Br (decide ((x17 : Int) < 0))
            (R (.returned (.int .i64 0)) w10)
            (I11 (l8.1, l8.2.1, (IntKind.wrap .i64 (l8.2.2.1 + 1)), ()) w10))
          (I6 (l8.1, (IntKind.wrap .i64 (l8.2.1 + 1)), ()) w10))
      (LoadT (.sc .sl) w5 (l3.1.add 2) fun x18 =>
      R (.returned (.int .i64 ((x18.n : Nat) : Int))) w5)
theorem cayleyref21_Index.eq (p0_0 : Int) (p0_1 : Int) (p0_2 : Sl) (p0_3 : Sl) (R : Ending → World → Prop) (w : World) : cayleyref21_Index.sh p0_0 p0_1 p0_2 p0_3 R w = wpc Tryd.prog cayleyref21_Index.ann cayleyref21_Index.body (fnKs Tryd.prog Tryd.f31 R) [] (env0 #[(.agg #[(.int .i64 p0_0), (.int .i64 p0_1), (.slice p0_2.a p0_2.n p0_2.c), (.slice p0_3.a p0_3.n p0_3.c)])]) w := by kernel_rfl
theorem cayleyref21_Index.calls (p0_0 : Int) (p0_1 : Int) (p0_2 : Sl) (p0_3 : Sl) {R : Ending → World → Prop} {w : World} (h : cayleyref21_Index.sh p0_0 p0_1 p0_2 p0_3 R w) : Calls Tryd.prog 31 #[(.agg #[(.int .i64 p0_0), (.int .i64 p0_1), (.slice p0_2.a p0_2.n p0_2.c), (.slice p0_3.a p0_3.n p0_3.c)])] w R :=
  calls_of_wpc mixed Tryd.func31 (by kernel_rfl) (by kernel_rfl) ((cayleyref21_Index.eq p0_0 p0_1 p0_2 p0_3 R w).mp h)
noncomputable def cayleyref21_Rank.ann : Ann where
  loops := fun | _ => []
  joins := fun | _ => none
noncomputable def cayleyref21_Rank.body : Code := match Tryd.f37.body with | some c => c | none => .skip
def cayleyref21_Rank.sh (p0_0 : Int) (p0_1 : Int) (p0_2 : Sl) (p0_3 : Sl) (R : Ending → World → Prop) (w : World) : Prop :=
  New w (.cells #[(.int .i64 p0_0), (.int .i64 p0_1), (.slice p0_2.a p0_2.n p0_2.c), (.slice p0_3.a p0_3.n p0_3.c)] 27) fun b1 w2 =>
  LoadT (.agg [.int .i64, .int .i64, .sl, .sl]) w2 (Addr.mk b1 0 none) fun x3 =>
  CallT Tryd.prog 30 #[(.agg #[(.int .i64 x3.1), (.int .i64 x3.2.1), (.slice x3.2.2.1.a x3.2.2.1.n x3.2.2.1.c), (.slice x3.2.2.2.1.a x3.2.2.2.1.n x3.2.2.2.1.c)])] (.sc .sl) w2 (fun r4 w5 =>
    R (.returned (.int .i64 ((r4.n : Nat) : Int))) w5) (fun h6 w5 => R (.panicked h6) w5)
theorem cayleyref21_Rank.eq (p0_0 : Int) (p0_1 : Int) (p0_2 : Sl) (p0_3 : Sl) (R : Ending → World → Prop) (w : World) : cayleyref21_Rank.sh p0_0 p0_1 p0_2 p0_3 R w = wpc Tryd.prog cayleyref21_Rank.ann cayleyref21_Rank.body (fnKs Tryd.prog Tryd.f37 R) [] (env0 #[(.agg #[(.int .i64 p0_0), (.int .i64 p0_1), (.slice p0_2.a p0_2.n p0_2.c), (.slice p0_3.a p0_3.n p0_3.c)])]) w := by kernel_rfl
theorem cayleyref21_Rank.calls (p0_0 : Int) (p0_1 : Int) (p0_2 : Sl) (p0_3 : Sl) {R : Ending → World → Prop} {w : World} (h : cayleyref21_Rank.sh p0_0 p0_1 p0_2 p0_3 R w) : Calls Tryd.prog 37 #[(.agg #[(.int .i64 p0_0), (.int .i64 p0_1), (.slice p0_2.a p0_2.n p0_2.c), (.slice p0_3.a p0_3.n p0_3.c)])] w R :=
  calls_of_wpc mixed Tryd.func37 (by kernel_rfl) (by kernel_rfl) ((cayleyref21_Rank.eq p0_0 p0_1 p0_2 p0_3 R w).mp h)
end Go.Proofs.YtffdjfkekdoeaaaDoor
end
section
set_option linter.unusedVariables false
set_option linter.unusedSimpArgs false
set_option maxRecDepth 8000
set_option maxHeartbeats 4000000
namespace Go.Proofs.YtffdjfkekdoeaaaDoor.Rf
open Fw Wd Fo
abbrev tI : Ty := .sc (.int .i64)
theorem conv53 (w : World) (c : Int) (h0 : 0 ≤ c) (h1 : c ≤ 255) : (convert 5 3 (.int .u8 c)).run Tryd.prog w = .ok (.int .i64 c) w := by
  have hw : IntKind.wrap .i64 c = c := wrap64 (by omega) (by omega)
  simp [convert, run_underlying under5, run_underlying under3, Conv.intToInt, hw]
theorem conv35 (w : World) (c : Int) (h0 : 0 ≤ c) (h1 : c ≤ 255) : (convert 3 5 (.int .i64 c)).run Tryd.prog w = .ok (.int .u8 c) w := by
  have hw : IntKind.wrap .u8 c = c := by simp [IntKind.wrap, IntKind.bits, IntKind.signed]; omega
  simp [convert, run_underlying under5, run_underlying under3, Conv.intToInt, hw]
theorem wrap8 {x : Int} (h0 : 0 ≤ x) (h1 : x ≤ 255) : IntKind.wrap .u8 x = x := by simp [IntKind.wrap, IntKind.bits, IntKind.signed]; omega
theorem idx_low : ∀ c : Fin 256, (97 ≤ c.val ∧ c.val < 105 → idxF (c.val : Int) = 2 * ((c.val : Int) - 97)) ∧ (65 ≤ c.val ∧ c.val < 73 → idxF (c.val : Int) = 2 * ((c.val : Int) - 65) + 1) ∧ (¬ (97 ≤ c.val ∧ c.val < 105) → ¬ (65 ≤ c.val ∧ c.val < 73) → idxF (c.val : Int) = -1) := by decide +kernel
theorem idx_at {c : Int} (h0 : 0 ≤ c) (h1 : c ≤ 255) : (97 ≤ c ∧ c < 105 → idxF c = 2 * (c - 97)) ∧ (65 ≤ c ∧ c < 73 → idxF c = 2 * (c - 65) + 1) ∧ (¬ (97 ≤ c ∧ c < 105) → ¬ (65 ≤ c ∧ c < 73) → idxF c = -1) := by
  obtain ⟨n, rfl⟩ := Int.eq_ofNat_of_zero_le h0
  have := idx_low ⟨n, by omega⟩
  refine ⟨fun h => this.1 (by dsimp only; omega), fun h => this.2.1 (by dsimp only; omega), fun h h' => this.2.2 (by dsimp only; omega) (by dsimp only; omega)⟩
theorem Index_ret (w : World) (c : Int) (h0 : 0 ≤ c) (h1 : c ≤ 255) : Ret Tryd.prog 61 #[.int .u8 c] tI w fun x w' => x = idxF c ∧ w' = w := by
  obtain ⟨i1, i2, i3⟩ := idx_at h0 h1
  refine cayleyref01_Index.calls c ?_
  unfold cayleyref01_Index.sh
  refine Join.by' (fun x w' => x = (c, decide (97 ≤ c ∧ c < 105), ()) ∧ w' = w) ?_ ?_
  · rintro x w' g ⟨rfl, hw⟩
    rw [hw]; clear hw
    dsimp only
    refine Br.mk (fun hb => ?_) (fun hb => ?_)
    · have hb' : 97 ≤ c ∧ c < 105 := by simpa using hb
      rw [wrap8 (by omega) (by omega)]
      refine ⟨c - 97, w, conv53 w _ (by omega) (by omega), ?_⟩
      dsimp only
      rw [wrap64 (by omega) (by omega)]
      exact ⟨_, rfl, (i1 hb').symm, rfl⟩
    · have hb' : ¬ (97 ≤ c ∧ c < 105) := by simpa using hb
      refine Join.by' (fun x w' => x = (c, decide (65 ≤ c ∧ c < 73), ()) ∧ w' = w) ?_ ?_
      · rintro x w' g ⟨rfl, hw⟩
        rw [hw]; clear hw
        dsimp only
        refine Br.mk (fun hc => ?_) (fun hc => ?_)
        · have hc' : 65 ≤ c ∧ c < 73 := by simpa using hc
          rw [wrap8 (by omega) (by omega)]
          refine ⟨c - 65, w, conv53 w _ (by omega) (by omega), ?_⟩
          dsimp only
          rw [wrap64 (x := 2 * (c - 65)) (by omega) (by omega), wrap64 (by omega) (by omega)]
          exact ⟨_, rfl, (i2 hc').symm, rfl⟩
        · have hc' : ¬ (65 ≤ c ∧ c < 73) := by simpa using hc
          exact ⟨_, rfl, (i3 hb' hc').symm, rfl⟩
      · intro J hJ
        refine Br.dec (fun h => hJ _ _ ⟨?_, rfl⟩) (fun h => hJ _ _ ⟨?_, rfl⟩)
        · have h : c ≥ 65 := h
          simp [h]
        · have h : ¬ c ≥ 65 := h
          simp [h]
  · intro J hJ
    refine Br.dec (fun h => hJ _ _ ⟨?_, rfl⟩) (fun h => hJ _ _ ⟨?_, rfl⟩)
    · have h : c ≥ 97 := h
      simp [h]
    · have h : ¬ c ≥ 97 := h
      simp [h]
theorem let_low : ∀ i : Fin 16, letF (i.val : Int) = (if i.val % 2 = 0 then 97 else 65) + ((i.val / 2 : Nat) : Int) := by decide
theorem Letter_ret (w : World) (i : Int) : Ret Tryd.prog 65 #[.int .i64 i] (.sc (.int .u8)) w fun x w' => x = letF i ∧ w' = w := by
  refine cayleyref01_Letter.calls i ?_
  unfold cayleyref01_Letter.sh
  refine Join.by' (fun x w' => x = (i, ()) ∧ w' = w ∧ 0 ≤ i ∧ i < 16) ?_ ?_
  · rintro x w' g ⟨rfl, hw, h0, h1⟩
    rw [hw]; clear hw
    dsimp only
    obtain ⟨n, rfl⟩ := Int.eq_ofNat_of_zero_le h0
    have hn : n < 16 := by omega
    have hl := let_low ⟨n, hn⟩
    dsimp only at hl
    have e1 : Int.tmod (n : Int) 2 = ((n % 2 : Nat) : Int) := rfl
    have e2 : Int.tdiv (n : Int) 2 = ((n / 2 : Nat) : Int) := rfl
    rw [e1, e2, wrap64 (by omega) (by omega)]
    refine ⟨by decide, Br.mk (fun hb => ?_) (fun hb => ?_)⟩
    · have hb' : n % 2 = 0 := by have : ((n % 2 : Nat) : Int) = 0 := by simpa using hb
                                 omega
      rw [if_pos hb'] at hl
      refine ⟨by decide, ((n / 2 : Nat) : Int), w, conv35 w _ (by omega) (by omega), ?_⟩
      dsimp only
      rw [wrap8 (by omega) (by omega)]
      exact ⟨_, rfl, hl.symm, rfl⟩
    · have hb' : ¬ n % 2 = 0 := fun he => by rw [he] at hb; simp at hb
      rw [if_neg hb'] at hl
      refine ⟨by decide, ((n / 2 : Nat) : Int), w, conv35 w _ (by omega) (by omega), ?_⟩
      dsimp only
      rw [wrap8 (by omega) (by omega)]
      exact ⟨_, rfl, hl.symm, rfl⟩
  · intro J hJ
    refine Br.dec (fun h => Br.t rfl ⟨_, rfl, by rw [letF, if_neg (by omega)], rfl⟩) (fun h => Br.dec (fun h2 => ⟨_, rfl, by rw [letF, if_neg (by omega)], rfl⟩) (fun h2 => hJ _ _ ⟨rfl, rfl, by omega, by omega⟩))
theorem byte_high : ∀ c : Fin 256, 127 < c.val → idxF (c.val : Int) = -1 := by decide +kernel
theorem bad_byte (k : Int) (b : UInt8) : badF k (b.toNat : Int) = (decide (idxF (ofB b) < 0) || decide (idxF (ofB b) ≥ 2 * k)) := by
  have hb : ofB b = (b.toNat : Int) := rfl
  rw [hb]
  unfold badF
  by_cases h : (b.toNat : Int) > 127
  · have := byte_high ⟨b.toNat, UInt8.toNat_lt b⟩ (by dsimp only; omega)
    dsimp only at this
    rw [this]; simp
  · simp [h]
theorem Check_ret (w : World) (k : Int) (s : ByteArray) : Ret Tryd.prog 60 #[.int .i64 k, .string s] tI w fun x w' => x = checkF k s ∧ w' = w := by
  refine cayleyref01_Check.calls k s ?_
  unfold cayleyref01_Check.sh
  refine Join.by' (fun x w' => x = (k, s, ()) ∧ w' = w ∧ ¬ (k < 1 ∨ k > 8)) ?_ ?_
  · rintro x w' g ⟨rfl, hw, hk⟩
    rw [hw]; clear hw
    dsimp only
    have hE : checkF k s = if (s.size : Int) > 100000 then 2 else if hasBad k s then 4 else 0 := by unfold checkF; rw [if_neg hk]
    rw [hE]
    refine Br.dec (fun h => ⟨_, rfl, by rw [if_pos h], rfl⟩) (fun h => ?_)
    rw [if_neg h]
    refine LoopT.mk (fun x w' => ∃ i : Nat, i ≤ s.size ∧ x = (k, s, (i : Int), ()) ∧ w' = w ∧ (s.data.toList.drop i).any (fun b => badF k (b.toNat : Int)) = hasBad k s) (fun x _ => s.size - x.2.2.1.toNat) ⟨0, Nat.zero_le _, rfl, rfl, rfl⟩ ?_
    rintro x g2 w2 ⟨i, hi, rfl, hw, hany⟩
    rw [hw]; clear hw
    dsimp only
    refine Br.dec (fun hlt => ?_) (fun hge => ?_)
    · have hlt' : i < s.size := by omega
      have hdrop : s.data.toList.drop i = s[i] :: s.data.toList.drop (i + 1) := by
        rw [List.drop_eq_getElem_cons (by simpa using hlt')]; rfl
      rw [hdrop, List.any_cons, bad_byte] at hany
      refine StrIdx.mk i rfl hlt' ?_
      have hb := UInt8.toNat_lt s[i]
      refine Ret.call (Index_ret w _ (by unfold ofB; omega) (by unfold ofB; omega)) ?_
      rintro _ w3 ⟨rfl, hw⟩
      rw [hw]; clear hw
      rw [wrap64 (x := 2 * k) (by omega) (by omega), wrap64 (x := (i : Int) + 1) (by omega) (by omega)]
      refine Br.dec (fun h1 => Br.t rfl ⟨_, rfl, ?_, rfl⟩) (fun h1 => Br.dec (fun h2 => ⟨_, rfl, ?_, rfl⟩) (fun h2 => ?_))
      · have h1 : idxF (ofB s[i]) < 0 := h1
        rw [← hany]; simp [h1]
      · have h2 : idxF (ofB s[i]) ≥ 2 * k := h2
        rw [← hany]; simp [h2]
      · have h1 : ¬ idxF (ofB s[i]) < 0 := h1
        have h2 : ¬ idxF (ofB s[i]) ≥ 2 * k := h2
        refine ⟨⟨i + 1, hlt', rfl, rfl, ?_⟩, ?_⟩
        · rw [← hany]; simp [h1, h2]
        · show s.size - (i + 1) < s.size - i
          omega
    · have : i = s.size := by omega
      subst this
      rw [List.drop_eq_nil_of_le (by simp)] at hany
      exact ⟨_, rfl, by rw [← hany]; rfl, rfl⟩
  · intro J hJ
    refine Br.dec (fun h => Br.t rfl ⟨_, rfl, by rw [checkF, if_pos (.inl h)], rfl⟩) (fun h => Br.dec (fun h2 => ⟨_, rfl, by rw [checkF, if_pos (.inr h2)], rfl⟩) (fun h2 => hJ _ _ ⟨rfl, rfl, by omega⟩))
theorem IsWord_ret (w : World) (k : Int) (s : ByteArray) : Ret Tryd.prog 22 #[.int .i64 k, .string s] (.sc .bool) w fun x w' => x = (checkF k s == 0) ∧ w' = w := by
  refine cayleyref21_IsWord.calls k s ?_
  unfold cayleyref21_IsWord.sh
  refine Ret.call (Check_ret w k s) ?_
  rintro _ w1 ⟨rfl, hw⟩
  exact ⟨_, rfl, rfl, hw⟩
theorem Is_ret (w : World) (s : ByteArray) : Ret Tryd.prog 53 #[.string s] (.sc .bool) w fun x w' => x = (checkF 8 s == 0) ∧ w' = w := by
  refine cayleyref01_Is.calls s ?_
  unfold cayleyref01_Is.sh
  refine Ret.call (Check_ret w 8 s) ?_
  rintro _ w1 ⟨rfl, hw⟩
  exact ⟨_, rfl, rfl, hw⟩
theorem other_low : ∀ c : Fin 256, 0 ≤ idxF (c.val : Int) → letF (((idxF (c.val : Int)).toNat ^^^ 1 : Nat) : Int) = ((UInt8.ofNat c.val ^^^ 32).toNat : Int) ∧ (idxF (c.val : Int)).toNat < 16 := by decide +kernel
theorem Other_ret (w : World) (b : UInt8) (hb : 0 ≤ idxF (ofB b)) : Ret Tryd.prog 54 #[.int .u8 (ofB b)] (.sc (.int .u8)) w fun x w' => x = ofB (otherB b) ∧ w' = w := by
  have hlt := UInt8.toNat_lt b
  obtain ⟨h1, h2⟩ := other_low ⟨b.toNat, hlt⟩ hb
  refine cayleyref01_Other.calls _ ?_
  unfold cayleyref01_Other.sh
  refine Ret.call (Index_ret w _ (by unfold ofB; omega) (by unfold ofB; omega)) ?_
  rintro _ w1 ⟨rfl, hw⟩
  rw [hw]; clear hw
  have e : idxF (ofB b) = (((idxF (ofB b)).toNat : Nat) : Int) := by omega
  rw [e, xor1 _ (by have : (idxF (ofB b)).toNat < 16 := h2; omega)]
  refine Ret.call (Letter_ret w _) ?_
  rintro _ w2 ⟨rfl, hw⟩
  refine ⟨_, rfl, ?_, hw⟩
  have hu : UInt8.ofNat b.toNat = b := UInt8.ofNat_toNat
  rw [hu] at h1
  exact h1
end Go.Proofs.YtffdjfkekdoeaaaDoor.Rf
end
section
set_option linter.unusedVariables false
set_option linter.unusedSimpArgs false
set_option maxRecDepth 8000
set_option maxHeartbeats 4000000
namespace Go.Proofs.YtffdjfkekdoeaaaDoor.Rf
open Fw Wd Fo
theorem idx_of_check {s : ByteArray} (h : checkF 8 s = 0) (i : Nat) (hi : i < s.size) : 0 ≤ idxF (ofB s[i]) := by
  have := (check8 h).2 s[i] (by
    have := bytes_get s i hi
    exact List.mem_of_getElem? this)
  exact this
theorem Reduce_ret (w : World) (s : ByteArray) : Ret Tryd.prog 25 #[.string s] (.sc .str) w fun x w' => x = ReduceF s ∧ Chg Nil w w' := by
  refine cayleyref01_Reduce.calls s ?_
  unfold cayleyref01_Reduce.sh
  refine Ret.call (Is_ret w s) ?_
  rintro _ w1 ⟨rfl, hw⟩
  rw [hw]; clear hw
  refine Br.mk (fun hb => ⟨_, rfl, ?_, Chg.refl w⟩) (fun hb => ?_)
  · rw [ReduceF, if_neg]; simpa using hb
  have hz : checkF 8 s = 0 := by simpa using hb
  have hsz := check_size hz
  rw [show ReduceF s = ⟨(redF s.data.toList).toArray⟩ by rw [ReduceF, if_pos hz]]
  refine LoopT.mk (fun x w' => ∃ (j : Nat) (o : Sl) (out : List UInt8), j ≤ s.size ∧ x = (s, o, (j : Int), ()) ∧ Chg Nil w w' ∧ OwnB w' o out ∧ (∀ k, o.own k → w.heap.size ≤ k) ∧ (s.data.toList.drop j).foldl redStep out = redF s.data.toList ∧ out.length ≤ j) (fun x _ => s.size - x.2.2.1.toNat)
    ⟨0, ⟨none, 0, 0⟩, [], Nat.zero_le _, rfl, Chg.refl w, OwnT.nil w 5 tB, fun k hk => Own.nilk k hk, rfl, by simp⟩ ?_
  rintro x g w2 ⟨j, o2, out, hj, rfl, hc2, ho, hown, hred, hlen⟩
  dsimp only
  have hon : o2.n = out.length := by rw [ho.len, List.length_map]
  refine Br.dec (fun hlt => ?_) (fun hge => ?_)
  · have hlt' : j < s.size := by omega
    have hdrop : s.data.toList.drop j = s[j] :: s.data.toList.drop (j + 1) := by
      rw [List.drop_eq_getElem_cons (by simpa using hlt')]; rfl
    rw [hdrop, List.foldl_cons] at hred
    have hwj : IntKind.wrap .i64 ((j : Int) + 1) = ((j + 1 : Nat) : Int) := by rw [wrap64 (by omega) (by omega)]; rfl
    have hmu : s.size - (j + 1) < s.size - j := by omega
    refine Join.by' (fun x w' => ∃ b : Bool, x = (s, o2, (j : Int), (out.length : Int), b, ()) ∧ Chg Nil w2 w' ∧ (b = true ↔ out.getLast? = some (otherB s[j]))) ?_ ?_
    · rintro x w3 g3 ⟨b, rfl, hc3, hb⟩
      dsimp only
      have ho3 : OwnB w3 o2 out := ho.chg hc3 fun _ _ h => h
      rw [hwj]
      refine Br.mk (fun h => ?_) (fun h => ?_)
      · have hl := hb.1 h
        have hpos : 0 < out.length := by
          cases out with
          | nil => simp at hl
          | cons _ _ => simp
        rw [wrap64 (by omega) (by omega)]
        refine OwnT.upto (t := tB) ok87 ho3 (out.length - 1) (by omega) (by rw [List.length_map]; omega) fun s' hs' hown' hsn => ?_
        refine ⟨⟨j + 1, s', out.dropLast, hlt', rfl, hc2.then hc3, ?_, fun k hk => hown k (hown' k hk), ?_, ?_⟩, hmu⟩
        · unfold OwnB; rw [List.dropLast_eq_take, List.map_take]; exact hs'
        · rw [redStep, if_pos hl] at hred; exact hred
        · rw [List.length_dropLast]; omega
      · have hl : ¬ out.getLast? = some (otherB s[j]) := fun hl => by rw [hb.2 hl] at h; cases h
        refine StrIdx.mk j rfl hlt' ?_
        refine New.mk fun b' w4 hb' hnew hsz' hc4 => ?_
        have ho4 : OwnB w4 o2 out := ho3.chg hc4 fun _ _ h => h
        refine OwnT.append (t := tB) (m := 1) ok87 rfl (by decide) ho4 [ofB s[j]] rfl (by decide) (fun i v hv => ?_) ?_ ?_ fun o' w5 ho5 hc5 hown5 => ?_
        · rw [cellOf hnew]; simpa [Ty.cells] using hv
        · rw [List.length_map]; omega
        · rw [List.length_map]; simp only [maxLen]; omega
        have hw4 : w.heap.size ≤ w4.heap.size := ((hc2.then hc3).then hc4).size
        refine ⟨⟨j + 1, o', out ++ [s[j]], hlt', rfl, ?_, ?_, fun k hk => ?_, ?_, ?_⟩, hmu⟩
        · exact ((hc2.then hc3).then hc4).trans hc5 (fun _ _ h => h) fun i hi hk => by have := hown i hk; omega
        · unfold OwnB; rw [List.map_append]; exact ho5
        · rcases hown5 k hk with hk | hk
          · exact hown k hk
          · omega
        · rw [redStep, if_neg hl] at hred; exact hred
        · simp; omega
    · intro J hJ
      have hd : Chg Nil w2 w2.drew := Chg.drew w2
      refine ⟨fun w' => Chg Nil w2 w', hd, ?_⟩
      refine Br.dec (fun hpos => ?_) (fun hzero => ?_)
      · have hpos' : 0 < out.length := by omega
        have hlast : out[out.length - 1]? = out.getLast? := by rw [List.getLast?_eq_getElem?]
        obtain ⟨c, hcl⟩ : ∃ c, out.getLast? = some c := by
          cases hg : out.getLast? with
          | none => rw [List.getLast?_eq_none_iff] at hg; subst hg; simp at hpos'
          | some c => exact ⟨c, rfl⟩
        rw [hcl] at hlast
        have hm : (out.map ofB)[out.length - 1]? = some (ofB c) := by rw [List.getElem?_map, hlast]; rfl
        rw [wrap64 (by omega) (by omega)]
        refine ho.idx (t := tB) (out.length - 1) (by omega) (by rw [List.length_map]; omega) fun g hg => ?_
        refine LoadS.sc (s := .int .u8) (x := ofB c) (fun w' hw => (ho.chg hw fun _ _ h => h).rd.cell1 hg hm) ?_
        refine StrIdx.mk j rfl hlt' ?_
        refine Ret.call (Other_ret _ _ (idx_of_check hz j hlt')) ?_
        rintro _ _ ⟨rfl, rfl⟩
        refine ⟨hd, hJ _ _ ⟨_, by rw [hon], hd, ?_⟩⟩
        rw [hcl]
        simp [ofB_inj]
      · have hz : out = [] := by
          cases out with
          | nil => rfl
          | cons _ _ => rw [hon] at hzero; simp at hzero
        refine hJ _ _ ⟨false, by rw [hon], hd, ?_⟩
        subst hz; simp
  · have : j = s.size := by omega
    subst this
    rw [List.drop_eq_nil_of_le (by simp)] at hred
    have hred : out = redF s.data.toList := hred
    rw [← hred]
    exact bytes_string under87 under5 under9 ho.rd ⟨_, rfl, rfl, hc2⟩
theorem Inverse_ret (w : World) (s : ByteArray) : Ret Tryd.prog 16 #[.string s] (.sc .str) w fun x w' => x = InverseF s ∧ Chg Nil w w' := by
  refine cayleyref01_Inverse.calls s ?_
  unfold cayleyref01_Inverse.sh
  refine Ret.call (Is_ret w s) ?_
  rintro _ w1 ⟨rfl, hw⟩
  rw [hw]; clear hw
  refine Br.mk (fun hb => ⟨_, rfl, ?_, Chg.refl w⟩) (fun hb => ?_)
  · rw [InverseF, if_neg]; simpa using hb
  have hz : checkF 8 s = 0 := by simpa using hb
  have hsz := check_size hz
  rw [show InverseF s = ⟨(invF s.data.toList).toArray⟩ by rw [InverseF, if_pos hz]]
  rw [wrap64 (by omega) (by omega)]
  refine LoopT.mk (fun x w' => ∃ (j : Nat) (o : Sl) (out : List UInt8), j ≤ s.size ∧ x = (s, o, (s.size : Int) - 1 - (j : Int), ()) ∧ Chg Nil w w' ∧ OwnB w' o out ∧ (∀ k, o.own k → w.heap.size ≤ k) ∧ out = invF (s.data.toList.drop (s.size - j)) ∧ out.length = j) (fun x _ => (x.2.2.1 + 1).toNat)
    ⟨0, ⟨none, 0, 0⟩, [], Nat.zero_le _, by simp, Chg.refl w, OwnT.nil w 5 tB, fun k hk => Own.nilk k hk, by rw [List.drop_eq_nil_of_le (by simp)]; rfl, rfl⟩ ?_
  rintro x g w2 ⟨j, o2, out, hj, rfl, hc2, ho, hown, hred, hlen⟩
  dsimp only
  refine Br.dec (fun hlt => ?_) (fun hge => ?_)
  · have hlt' : j < s.size := by omega
    refine StrIdx.mk (s.size - 1 - j) (by omega) (by omega) ?_
    refine Ret.call (Other_ret _ _ (idx_of_check hz _ (by omega))) ?_
    rintro _ w3 ⟨rfl, hw⟩
    rw [hw]; clear hw
    refine New.mk fun b' w4 hb' hnew hsz' hc4 => ?_
    have ho4 : OwnB w4 o2 out := ho.chg hc4 fun _ _ h => h
    refine OwnT.append (t := tB) (m := 1) ok87 rfl (by decide) ho4 [ofB (otherB s[s.size - 1 - j])] rfl (by decide) (fun i v hv => ?_) ?_ ?_ fun o' w5 ho5 hc5 hown5 => ?_
    · rw [cellOf hnew]; simpa [Ty.cells] using hv
    · rw [List.length_map]; omega
    · rw [List.length_map]; simp only [maxLen]; omega
    have hw4 : w.heap.size ≤ w4.heap.size := (hc2.then hc4).size
    rw [wrap64 (by omega) (by omega)]
    refine ⟨⟨j + 1, o', out ++ [otherB s[s.size - 1 - j]], hlt', by congr 3; omega, ?_, ?_, fun k hk => ?_, ?_, ?_⟩, ?_⟩
    · exact (hc2.then hc4).trans hc5 (fun _ _ h => h) fun i hi hk => by have := hown i hk; omega
    · unfold OwnB; rw [List.map_append]; exact ho5
    · rcases hown5 k hk with hk | hk
      · exact hown k hk
      · omega
    · have hd : s.data.toList.drop (s.size - (j + 1)) = s[s.size - 1 - j] :: s.data.toList.drop (s.size - j) := by
        rw [show s.size - (j + 1) = s.size - 1 - j by omega, List.drop_eq_getElem_cons (by simp; omega), show s.size - 1 - j + 1 = s.size - j by omega]; rfl
      rw [hd]
      simp only [invF, List.map_cons, List.reverse_cons]
      exact congrArg (· ++ [otherB s[s.size - 1 - j]]) hred
    · simp [hlen]
    · show ((s.size : Int) - 1 - (j : Int) - 1 + 1).toNat < ((s.size : Int) - 1 - (j : Int) + 1).toNat
      omega
  · have : j = s.size := by omega
    subst this
    rw [Nat.sub_self, List.drop_zero] at hred
    subst hred
    exact bytes_string under87 under5 under9 ho.rd ⟨_, rfl, rfl, hc2⟩
end Go.Proofs.YtffdjfkekdoeaaaDoor.Rf
end
section
set_option linter.unusedVariables false
set_option linter.unusedSimpArgs false
set_option maxRecDepth 8000
set_option maxHeartbeats 4000000
namespace Go.Proofs.YtffdjfkekdoeaaaDoor.Rf
open Fw Wd Fo
theorem take_snoc {α : Type} {l : List α} {i : Nat} (h : i < l.length) : l.take (i + 1) = l.take i ++ [l[i]] := by rw [List.take_add_one, List.getElem?_eq_getElem h]; rfl
theorem sameInts_ret {w : World} {s1 s2 : Sl} {l1 l2 : List Int} (h1 : RdT w tI s1 l1) (h2 : RdT w tI s2 l2) (hb : l1.length ≤ maxLen) : Ret Tryd.prog 52 #[s1.v, s2.v] (.sc .bool) w fun x w' => x = decide (l1 = l2) ∧ Chg Nil w w' := by
  refine cayleyref06_sameInts.calls s1 s2 ?_
  unfold cayleyref06_sameInts.sh
  have e1 := h1.len
  have e2 := h2.len
  simp only [maxLen] at hb
  refine Br.mk (fun hne => ⟨false, rfl, ?_, Chg.refl w⟩) (fun heq => ?_)
  · have : ¬ l1 = l2 := fun he => by subst he; rw [e1, e2] at hne; simp at hne
    simp [this]
  have hlen : l1.length = l2.length := by
    have : (s1.n : Int) = (s2.n : Int) := by simpa using heq
    omega
  refine LoopT.mk (fun x w' => ∃ i : Nat, i ≤ l1.length ∧ x = (s1, s2, (i : Int), ()) ∧ Chg Nil w w' ∧ l1.take i = l2.take i) (fun x _ => l1.length - x.2.2.1.toNat) ⟨0, Nat.zero_le _, rfl, Chg.refl w, rfl⟩ ?_
  rintro x g w2 ⟨i, hi, rfl, hc, ht⟩
  dsimp only
  have hd := hc.then (Chg.drew (S := Nil) w2)
  refine Br.dec (fun hlt => ?_) (fun hge => ?_)
  · have hlt' : i < l1.length := by omega
    refine (h1.chg hd fun _ _ h => h).get (t := tI) i rfl (x := l1[i]) (List.getElem?_eq_getElem hlt') ?_
    refine (h2.chg hd fun _ _ h => h).get (t := tI) i rfl (x := l2[i]) (List.getElem?_eq_getElem (by omega)) ?_
    rw [wrap64 (by omega) (by omega)]
    refine Br.mk (fun hne => ⟨false, rfl, ?_, hd⟩) (fun heq => ?_)
    · have hne' : l1[i] ≠ l2[i] := by simpa using hne
      have : ¬ l1 = l2 := fun he => hne' (by subst he; rfl)
      simp [this]
    · have heq' : l1[i] = l2[i] := by simpa using heq
      refine ⟨⟨i + 1, hlt', rfl, hd, ?_⟩, ?_⟩
      · rw [take_snoc hlt', take_snoc (show i < l2.length by omega), ht, heq']
      · show l1.length - (i + 1) < l1.length - i
        omega
  · have hin : i = l1.length := by omega
    rw [hin, List.take_length, hlen, List.take_length] at ht
    exact ⟨true, rfl, by simp [ht], hc⟩
def sameF (a b : Aut) : Bool := decide (a.sym = b.sym ∧ a.start = b.start ∧ a.acc = b.acc ∧ a.next = b.next)
theorem Same_ret {w : World} {x y : Int × Int × Sl × Sl × Unit} {a b : Aut} (ha : AutIn w x a) (hb : AutIn w y b) :
    Ret Tryd.prog 15 #[.agg #[.int .i64 x.1, .int .i64 x.2.1, x.2.2.1.v, x.2.2.2.1.v], .agg #[.int .i64 y.1, .int .i64 y.2.1, y.2.2.1.v, y.2.2.2.1.v]] (.sc .bool) w fun z w' => z = sameF a b ∧ Chg Nil w w' := by
  obtain ⟨x1, x2, sa, sn, _⟩ := x
  obtain ⟨y1, y2, ta, tn, _⟩ := y
  refine cayleyref06_Same.calls x1 x2 sa sn y1 y2 ta tn ?_
  unfold cayleyref06_Same.sh
  refine New.mk fun b1 w1 hb1 hn1 hs1 hc1 => ?_
  refine New.mk fun b3 w2 hb3 hn3 hs3 hc3 => ?_
  have h12 := hc3.heap hn1 fun h => h
  have hc02 := hc1.then hc3
  have a1 := ha.sym
  have a2 := ha.start
  have a3 := ha.hacc
  have a4 := ha.hnext
  have b1' := hb.sym
  have b2' := hb.start
  simp only at a1 a2 b1' b2'
  obtain ⟨hra, _, _, sls, hrn, hsl, hrws, _⟩ := ha.rd
  have hrn : RdT w (.sc .sl) sn sls := hrn
  obtain ⟨hta, _, _, tls, htn, htl, htws, _⟩ := hb.rd
  have htn : RdT w (.sc .sl) tn tls := htn
  have hra : RdT w (.sc .bool) sa a.acc := hra
  have hta : RdT w (.sc .bool) ta b.acc := hta
  have e1 := hra.len
  have e2 := hta.len
  have e3 := hrn.len
  have e4 := htn.len
  simp only [maxLen] at a3 a4
  refine Join.by' (fun x W => x = (at0 b1, at0 b3, ()) ∧ W = w2 ∧ a.sym = b.sym ∧ a.start = b.start ∧ a.acc.length = b.acc.length ∧ a.next.length = b.next.length) ?_ ?_
  · rintro x W g ⟨rfl, hW, g1, g2, g3, g4⟩
    rw [hW]; clear hW
    dsimp only
    refine LoopT.mk (fun x W => ∃ i : Nat, i ≤ a.acc.length ∧ x = (at0 b1, at0 b3, (i : Int), ()) ∧ Chg Nil w2 W ∧ a.acc.take i = b.acc.take i) (fun x _ => a.acc.length - x.2.2.1.toNat) ⟨0, Nat.zero_le _, rfl, Chg.refl w2, rfl⟩ ?_
    rintro x g5 W ⟨i, hi, rfl, hc, ht⟩
    dsimp only
    refine LoadT.sc (s := .sl) (x := sa) (by rw [cellOf (hc.heap h12 fun h => h)]; rfl) ?_
    have hd := hc.then (Chg.drew (S := Nil) W)
    refine Br.dec (fun hlt => ?_) (fun hge => ?_)
    · have hlt' : i < a.acc.length := by omega
      refine LoadT.sc (s := .sl) (x := sa) (by rw [cellOf (hd.heap h12 fun h => h)]; rfl) ?_
      refine (hra.chg (hc02.then hd) fun _ _ h => h).get (t := .sc .bool) i rfl (x := a.acc[i]) (List.getElem?_eq_getElem hlt') ?_
      refine LoadT.sc (s := .sl) (x := ta) (by rw [cellOf (hd.heap hn3 fun h => h)]; rfl) ?_
      refine (hta.chg (hc02.then hd) fun _ _ h => h).get (t := .sc .bool) i rfl (x := b.acc[i]) (List.getElem?_eq_getElem (by omega)) ?_
      rw [wrap64 (by omega) (by omega)]
      refine Br.mk (fun hne => ⟨false, rfl, ?_, hc02.then hd⟩) (fun heq => ?_)
      · have hne' : a.acc[i] ≠ b.acc[i] := by simpa using hne
        have : ¬ a.acc = b.acc := fun he => hne' (by simp only [he])
        simp [sameF, this]
      · have heq' : a.acc[i] = b.acc[i] := by simpa using heq
        refine ⟨⟨i + 1, hlt', rfl, hd, ?_⟩, ?_⟩
        · rw [take_snoc hlt', take_snoc (show i < b.acc.length by omega), ht, heq']
        · show a.acc.length - (i + 1) < a.acc.length - i
          omega
    · have hin : i = a.acc.length := by omega
      rw [hin, List.take_length, g3, List.take_length] at ht
      refine LoopT.mk (fun x W => ∃ i : Nat, i ≤ a.next.length ∧ x = (at0 b1, at0 b3, (i : Int), ()) ∧ Chg Nil w2 W ∧ a.next.take i = b.next.take i) (fun x _ => a.next.length - x.2.2.1.toNat) ⟨0, Nat.zero_le _, rfl, hc, rfl⟩ ?_
      clear hc hd hi hge hin
      rintro x g6 W ⟨i, hi, rfl, hc, ht2⟩
      dsimp only
      refine LoadT.sc (s := .sl) (x := sn) (by rw [cellOf (hc.heap h12 fun h => h)]; rfl) ?_
      have hd := hc.then (Chg.drew (S := Nil) W)
      refine Br.dec (fun hlt => ?_) (fun hge => ?_)
      · have hlt' : i < a.next.length := by omega
        obtain ⟨s1, hs1'⟩ : ∃ s1, sls[i]? = some s1 := ⟨_, List.getElem?_eq_getElem (by rw [hsl]; exact hlt')⟩
        obtain ⟨t1, ht1⟩ : ∃ t1, tls[i]? = some t1 := ⟨_, List.getElem?_eq_getElem (by rw [htl]; show i < b.next.length; omega)⟩
        have hnb : i < b.next.length := by omega
        refine LoadT.sc (s := .sl) (x := sn) (by rw [cellOf (hd.heap h12 fun h => h)]; rfl) ?_
        refine (hrn.chg (hc02.then hd) fun _ _ h => h).get (t := .sc .sl) i rfl hs1' ?_
        refine LoadT.sc (s := .sl) (x := tn) (by rw [cellOf (hd.heap hn3 fun h => h)]; rfl) ?_
        refine (htn.chg (hc02.then hd) fun _ _ h => h).get (t := .sc .sl) i rfl ht1 ?_
        have r1 := (hrws i s1 _ hs1' (List.getElem?_eq_getElem hlt')).chg (hc02.then hd) fun _ _ h => h
        have r2 := (htws i t1 _ ht1 (List.getElem?_eq_getElem hnb)).chg (hc02.then hd) fun _ _ h => h
        refine Ret.call (sameInts_ret r1 r2 (ha.hrow _ (List.getElem_mem hlt'))) ?_
        rintro _ W3 ⟨rfl, hc3'⟩
        rw [wrap64 (by omega) (by omega)]
        refine Br.mk (fun hne => ⟨false, rfl, ?_, (hc02.then hd).then hc3'⟩) (fun heq => ?_)
        · have hne' : ¬ a.next[i] = b.next[i] := by simpa using hne
          have : ¬ a.next = b.next := fun he => hne' (by simp only [he])
          simp [sameF, this]
        · have heq' : a.next[i] = b.next[i] := by simpa using heq
          refine ⟨⟨i + 1, hlt', rfl, hd.then hc3', ?_⟩, ?_⟩
          · rw [take_snoc hlt', take_snoc hnb, ht2, heq']
          · show a.next.length - (i + 1) < a.next.length - i
            omega
      · have hin : i = a.next.length := by omega
        rw [hin, List.take_length, g4, List.take_length] at ht2
        exact ⟨true, rfl, by simp [sameF, g1, g2, ht, ht2], hc02.then hc⟩
  · intro J hJ
    refine LoadT.sc (s := .int .i64) (x := x1) (by rw [cellOf h12]; rfl) ?_
    refine LoadT.sc (s := .int .i64) (x := y1) (by rw [cellOf hn3]; rfl) ?_
    refine Br.mk (fun hne => Br.t rfl ⟨false, rfl, ?_, hc02⟩) (fun g1 => ?_)
    · have : ¬ a.sym = b.sym := by rw [← a1, ← b1']; simpa using hne
      simp [sameF, this]
    refine LoadT.sc (s := .int .i64) (x := x2) (by rw [cellOf h12]; rfl) ?_
    refine LoadT.sc (s := .int .i64) (x := y2) (by rw [cellOf hn3]; rfl) ?_
    refine Br.mk (fun hne => Br.t rfl ⟨false, rfl, ?_, hc02⟩) (fun g2 => ?_)
    · have : ¬ a.start = b.start := by rw [← a2, ← b2']; simpa using hne
      simp [sameF, this]
    refine LoadT.sc (s := .sl) (x := sa) (by rw [cellOf h12]; rfl) ?_
    refine LoadT.sc (s := .sl) (x := ta) (by rw [cellOf hn3]; rfl) ?_
    refine Br.mk (fun hne => Br.t rfl ⟨false, rfl, ?_, hc02⟩) (fun g3 => ?_)
    · have : ¬ a.acc = b.acc := fun he => by rw [e1, e2, he] at hne; simp at hne
      simp [sameF, this]
    refine LoadT.sc (s := .sl) (x := sn) (by rw [cellOf h12]; rfl) ?_
    refine LoadT.sc (s := .sl) (x := tn) (by rw [cellOf hn3]; rfl) ?_
    refine Br.mk (fun hne => ⟨false, rfl, ?_, hc02⟩) (fun g4 => hJ _ _ ⟨rfl, rfl, ?_, ?_, ?_, ?_⟩)
    · have : ¬ a.next = b.next := fun he => by rw [e3, e4, hsl, htl, he] at hne; simp at hne
      simp [sameF, this]
    · rw [← a1, ← b1']; simpa using g1
    · rw [← a2, ← b2']; simpa using g2
    · have : (sa.n : Int) = (ta.n : Int) := by simpa using g3
      omega
    · have : (sn.n : Int) = (tn.n : Int) := by simpa using g4
      rw [e3, e4, hsl, htl] at this
      exact Int.ofNat.inj this
theorem Check6_ret {w : World} {x : Int × Int × Sl × Sl × Unit} {a : Aut} (ha : AutIn w x a) :
    Ret Tryd.prog 87 #[.agg #[.int .i64 x.1, .int .i64 x.2.1, x.2.2.1.v, x.2.2.2.1.v]] tI w fun z w' => z = fsaF a.sym a.start a.acc a.next ∧ Chg Nil w w' := by
  obtain ⟨x1, x2, sa, sn, _⟩ := x
  refine cayleyref06_Check.calls x1 x2 sa sn ?_
  unfold cayleyref06_Check.sh
  refine New.mk fun b1 w1 hb1 hn1 hs1 hc1 => ?_
  have a1 := ha.sym
  have a2 := ha.start
  simp only at a1 a2
  obtain ⟨hra, _, _, sls, hrn, hsl, hrws, _⟩ := ha.rd
  have hrn : RdT w (.sc .sl) sn sls := hrn
  have e1 : sa.n = a.acc.length := hra.len
  have e3 : sn.n = a.next.length := by rw [hrn.len, hsl]
  have l0 : ∀ {W : World}, Chg Nil w1 W → W.heap[b1]? = some (.cells #[.int .i64 x1, .int .i64 x2, sa.v, sn.v] 27 (0, 0)) := fun hW => hW.heap hn1 fun h => h
  refine LoadT.sc (s := .sl) (x := sn) (by rw [cellOf hn1]; rfl) ?_
  rw [e3]
  let bad1 : Prop := a.sym < 1 ∨ a.sym > 400 ∨ (a.acc.length : Int) > 20000 ∨ a.next.length ≠ a.acc.length ∨ a.start < 0 ∨ a.start ≥ max (a.acc.length : Int) 1
  have hbad : bad1 → fsaF a.sym a.start a.acc a.next = 60 := fun h => by unfold fsaF; rw [if_pos h]
  have hok : ¬ bad1 → fsaF a.sym a.start a.acc a.next = if a.next.any (badRow a.sym a.acc.length) then 60 else 0 := fun h => by unfold fsaF; rw [if_neg h]
  refine Join.by' (fun y W => y = (at0 b1, ((a.next.length : Nat) : Int), ()) ∧ W = w1 ∧ ¬ bad1) ?_ ?_
  · rintro y W g ⟨rfl, hW, hg⟩
    rw [hW]; clear hW
    dsimp only
    rw [hok hg]
    have hlen : a.next.length = a.acc.length := by
      by_cases h : a.next.length = a.acc.length
      · exact h
      · exact absurd (.inr (.inr (.inr (.inl h)))) hg
    have hl2 : a.next.length ≤ 20000 := by
      by_cases h : (a.acc.length : Int) > 20000
      · exact absurd (.inr (.inr (.inl h))) hg
      · omega
    have hsym : 1 ≤ a.sym ∧ a.sym ≤ 400 := ⟨by by_cases h : a.sym < 1; exact absurd (.inl h) hg; omega, by by_cases h : a.sym > 400; exact absurd (.inr (.inl h)) hg; omega⟩
    refine LoopT.mk (fun y W => ∃ i : Nat, i ≤ a.next.length ∧ y = (at0 b1, ((a.next.length : Nat) : Int), (i : Int), ()) ∧ Chg Nil w1 W ∧ (a.next.take i).any (badRow a.sym a.acc.length) = false) (fun y _ => a.next.length - y.2.2.1.toNat) ⟨0, Nat.zero_le _, rfl, Chg.refl _, rfl⟩ ?_
    rintro y g2 W ⟨i, hi, rfl, hc, hgood⟩
    dsimp only
    refine Br.dec (fun hlt => ?_) (fun hge => ?_)
    · have hlt' : i < a.next.length := by omega
      have hd := hc.then (Chg.drew (S := Nil) W)
      obtain ⟨s1, hs1'⟩ : ∃ s1, sls[i]? = some s1 := ⟨_, List.getElem?_eq_getElem (by rw [hsl]; exact hlt')⟩
      have hrow := hrws i s1 _ hs1' (List.getElem?_eq_getElem hlt')
      have hsl1 : s1.n = a.next[i].length := hrow.len
      refine LoadT.sc (s := .sl) (x := sn) (by rw [cellOf (l0 hd)]; rfl) ?_
      refine (hrn.chg (hc1.then hd) fun _ _ h => h).get (t := .sc .sl) i rfl hs1' ?_
      refine LoadT.sc (s := .int .i64) (x := x1) (by rw [cellOf (l0 hd)]; rfl) ?_
      have hmem : a.next[i] ∈ a.next := List.getElem_mem hlt'
      have herr : badRow a.sym a.acc.length a.next[i] = true → ∀ V : World, Chg Nil w V → (∃ z, Ending.returned (.int .i64 60) = .returned (tI.val z) ∧ z = (if a.next.any (badRow a.sym a.acc.length) = true then 60 else 0) ∧ Chg Nil w V) := fun hb V hV => by
        have : a.next.any (badRow a.sym a.acc.length) = true := List.any_eq_true.2 ⟨_, hmem, hb⟩
        exact ⟨60, rfl, by rw [if_pos this], hV⟩
      refine Br.mk (fun hne => herr ?_ _ (hc1.then hd)) (fun heq => ?_)
      · have : ((s1.n : Int)) ≠ x1 := by simpa using hne
        unfold badRow
        rw [hsl1, a1] at this
        simp [this]
      have hsym2 : (a.next[i].length : Int) = a.sym := by
        have : ((s1.n : Int)) = x1 := by simpa using heq
        rw [hsl1, a1] at this; exact this
      generalize hR : a.next[i] = row at *
      refine LoopT.mk (fun y W => ∃ j : Nat, j ≤ row.length ∧ y = (at0 b1, ((a.next.length : Nat) : Int), (i : Int), (j : Int), ()) ∧ Chg Nil w1 W ∧ (row.take j).any (fun t => decide (t < -1) || decide (t ≥ (a.acc.length : Int))) = false) (fun y _ => row.length - y.2.2.2.1.toNat) ⟨0, Nat.zero_le _, rfl, hd, rfl⟩ ?_
      clear hd hc
      rintro y g3 V ⟨j, hj, rfl, hc, hg3⟩
      dsimp only
      refine LoadT.sc (s := .int .i64) (x := x1) (by rw [cellOf (l0 hc)]; rfl) ?_
      rw [a1]
      refine Br.dec (fun hlt2 => ?_) (fun hge2 => ?_)
      · have hlt2' : j < row.length := by omega
        have hrV := hrow.chg (hc1.then hc) fun _ _ h => h
        have hsV := hrn.chg (hc1.then hc) fun _ _ h => h
        have hany : (decide (row[j] < -1) || decide (row[j] ≥ (a.acc.length : Int))) = true → badRow a.sym a.acc.length row = true := fun hb => by
          unfold badRow
          rw [Bool.or_eq_true]
          exact .inr (List.any_eq_true.2 ⟨_, List.getElem_mem hlt2', hb⟩)
        refine LoadT.sc (s := .sl) (x := sn) (by rw [cellOf (l0 hc)]; rfl) ?_
        refine hsV.get (t := .sc .sl) i rfl hs1' ?_
        refine hrV.get (t := tI) j rfl (x := row[j]) (List.getElem?_eq_getElem hlt2') ?_
        rw [wrap64 (x := (j : Int) + 1) (by omega) (by omega)]
        refine Br.dec (fun hb => Br.t rfl (herr (hany (by have hb : row[j] < -1 := hb; simp [hb])) _ (hc1.then hc))) (fun hnb => ?_)
        refine LoadT.sc (s := .sl) (x := sn) (by rw [cellOf (l0 hc)]; rfl) ?_
        refine hsV.get (t := .sc .sl) i rfl hs1' ?_
        refine hrV.get (t := tI) j rfl (x := row[j]) (List.getElem?_eq_getElem hlt2') ?_
        refine Br.dec (fun hb => herr (hany ?_) _ (hc1.then hc)) (fun hnb2 => ?_)
        · have hb : row[j] ≥ ((a.next.length : Nat) : Int) := hb
          rw [hlen] at hb; simp [hb]
        · refine ⟨⟨j + 1, hlt2', rfl, hc, ?_⟩, ?_⟩
          · have hnb : ¬ row[j] < -1 := hnb
            have hnb2 : ¬ row[j] ≥ ((a.next.length : Nat) : Int) := hnb2
            rw [hlen] at hnb2
            rw [take_snoc hlt2', List.any_append, hg3]
            simp [hnb, hnb2]
          · show row.length - (j + 1) < row.length - j
            omega
      · have hjn : j = row.length := by omega
        rw [hjn, List.take_length] at hg3
        rw [wrap64 (x := (i : Int) + 1) (by omega) (by omega)]
        refine ⟨⟨i + 1, hlt', rfl, hc, ?_⟩, ?_⟩
        · rw [take_snoc hlt', hR, List.any_append, hgood]
          simp only [List.any_cons, List.any_nil, Bool.or_false, Bool.false_or, badRow, hg3, hsym2]
          simp
        · show a.next.length - (i + 1) < a.next.length - i
          omega
    · have hin : i = a.next.length := by omega
      rw [hin, List.take_length] at hgood
      exact ⟨0, rfl, by rw [if_neg (by rw [hgood]; simp)], hc1.then hc⟩
  · intro J hJ
    have herr : bad1 → ∃ z, Ending.returned (.int .i64 60) = .returned (tI.val z) ∧ z = fsaF a.sym a.start a.acc a.next ∧ Chg Nil w w1 := fun h => ⟨60, rfl, (hbad h).symm, hc1⟩
    refine LoadT.sc (s := .int .i64) (x := x1) (by rw [cellOf hn1]; rfl) ?_
    rw [a1]
    refine Br.dec (fun h => Br.t rfl (herr (.inl h))) (fun h1 => ?_)
    refine LoadT.sc (s := .int .i64) (x := x1) (by rw [cellOf hn1]; rfl) ?_
    rw [a1]
    refine Br.dec (fun h => Br.t rfl (herr (.inr (.inl h)))) (fun h2 => ?_)
    refine LoadT.sc (s := .sl) (x := sa) (by rw [cellOf hn1]; rfl) ?_
    rw [e1]
    refine Br.mk (fun h => Br.t rfl (herr (.inr (.inr (.inr (.inl ?_)))))) (fun h3 => ?_)
    · have : (a.acc.length : Int) ≠ (a.next.length : Int) := by simpa using h
      omega
    have hlen : a.acc.length = a.next.length := by have : (a.acc.length : Int) = (a.next.length : Int) := by simpa using h3
                                                   omega
    refine Br.dec (fun h => Br.t rfl (herr (.inr (.inr (.inl (by have h : (a.next.length : Int) > 20000 := h; omega)))))) (fun h4 => ?_)
    refine LoadT.sc (s := .int .i64) (x := x2) (by rw [cellOf hn1]; rfl) ?_
    rw [a2]
    refine Br.dec (fun h => Br.t rfl (herr (.inr (.inr (.inr (.inr (.inl h))))))) (fun h5 => ?_)
    have h1 : ¬ a.sym < 1 := h1
    have h2 : ¬ a.sym > 400 := h2
    have h4 : ¬ (a.next.length : Int) > 20000 := h4
    have h5 : ¬ a.start < 0 := h5
    have good : a.start < max (a.acc.length : Int) 1 → ¬ bad1 := fun h => by
      rintro (h | h | h | h | h | h)
      · exact h1 h
      · exact h2 h
      · omega
      · exact h hlen.symm
      · exact h5 h
      · omega
    have ebad : a.start ≥ max (a.acc.length : Int) 1 → bad1 := fun h => .inr (.inr (.inr (.inr (.inr h))))
    refine Br.mk (fun h6 => ?_) (fun h6 => ?_)
    · have h6' : a.next.length = 0 := by have : (a.next.length : Int) = 0 := by simpa using h6
                                         omega
      refine LoadT.sc (s := .int .i64) (x := x2) (by rw [cellOf hn1]; rfl) ?_
      rw [a2]
      refine Br.mk (fun h => Br.t rfl (herr (ebad ?_))) (fun h => Br.no ?_ (Br.f rfl (hJ _ _ ⟨rfl, rfl, good ?_⟩)))
      · have : a.start ≠ 0 := by simpa using h
        omega
      · rw [h6']; decide
      · have : a.start = 0 := by simpa using h
        omega
    · have h6' : ¬ a.next.length = 0 := fun he => by rw [he] at h6; simp at h6
      refine Br.yes (by show (a.next.length : Int) > 0; omega) ?_
      refine LoadT.sc (s := .int .i64) (x := x2) (by rw [cellOf hn1]; rfl) ?_
      rw [a2]
      refine Br.dec (fun h => herr (ebad (by have h : a.start ≥ (a.next.length : Int) := h; omega))) (fun h => hJ _ _ ⟨rfl, rfl, good (by have h : ¬ a.start ≥ (a.next.length : Int) := h; omega)⟩)
end Go.Proofs.YtffdjfkekdoeaaaDoor.Rf
end
section
set_option linter.unusedVariables false
set_option linter.unusedSimpArgs false
set_option maxRecDepth 8000
set_option maxHeartbeats 4000000
namespace Go.Proofs.YtffdjfkekdoeaaaDoor.Rf
open Fw Wd Fo
abbrev Ed := Nat × Nat × Nat
abbrev tE : Ty := .agg [.int .i64, .int .i64, .int .i64]
def ofE (e : Ed) : Int × Int × Int × Unit := ((e.1 : Int), (e.2.1 : Int), (e.2.2 : Int), ())
theorem ok52 : slOk Tryd.prog 52 100 3 24 = true := by kernel_rfl
def stepE : List Ed → Nat → Nat → Option Nat
  | [], _, _ => none
  | (f, y, t) :: l, v, x => if x % 2 = 0 ∧ y = x ∧ f = v then some t else if x % 2 = 1 ∧ y + 1 = x ∧ t = v then some f else stepE l v x
theorem step_ret {w : World} {g1 g2 : Int} {s : Sl} {es : List Ed} (h : RdT w tE s (es.map ofE)) (hb : es.length ≤ 1000000000) (v x : Nat) (hx : x < 1000) :
    Ret Tryd.prog 91 #[.agg #[.int .i64 g1, .int .i64 g2, s.v], .int .i64 (v : Int), .int .i64 (x : Int)] tI w fun y w' => y = ofO (stepE es v x) ∧ Chg Nil w w' := by
  refine cayleyref21_step.calls g1 g2 s (v : Int) (x : Int) ?_
  unfold cayleyref21_step.sh
  refine New.mk fun b1 w1 hb1 hn1 hs1 hc1 => ?_
  have hn : s.n = es.length := by rw [h.len, List.length_map]
  refine LoopT.mk (fun y W => ∃ i : Nat, i ≤ es.length ∧ y = ((v : Int), (x : Int), at0 b1, (i : Int), ()) ∧ Chg Nil w1 W ∧ stepE (es.drop i) v x = stepE es v x) (fun y _ => es.length - y.2.2.2.1.toNat) ⟨0, Nat.zero_le _, rfl, Chg.refl _, rfl⟩ ?_
  rintro y g W ⟨i, hi, rfl, hc, hst⟩
  dsimp only
  refine LoadT.sc (s := .sl) (x := s) (by rw [cellOf (hc.heap hn1 fun h => h)]; rfl) ?_
  refine Br.dec (fun hlt => ?_) (fun hge => ?_)
  · have hlt' : i < es.length := by omega
    have hdrop : es.drop i = es[i] :: es.drop (i + 1) := List.drop_eq_getElem_cons hlt'
    have hei : (es.map ofE)[i]? = some (ofE es[i]) := by rw [List.getElem?_map, List.getElem?_eq_getElem hlt']; rfl
    generalize es[i] = e at hdrop hei
    obtain ⟨f, z, t⟩ := e
    rw [hdrop] at hst
    simp only [stepE] at hst
    refine LoadT.sc (s := .sl) (x := s) (by rw [cellOf (hc.heap hn1 fun h => h)]; rfl) ?_
    refine (h.chg (hc1.then hc) fun _ _ h => h).get (t := tE) i rfl hei ?_
    refine New.mk fun b11 W1 hb11 hn11 hs11 hc11 => ?_
    refine StoreN.whole (vs := [.int .i64 (f : Int), .int .i64 (z : Int), .int .i64 (t : Int)]) hn11 rfl fun W2 hh hc2 _ => ?_
    have hN : Chg Nil W W2 := hc11.trans hc2 (fun _ _ h => h) fun i hi he => by have he : i = b11 := he; omega
    have hcW := hc.then hN
    have hmod : Int.tmod (x : Int) 2 = ((x % 2 : Nat) : Int) := rfl
    have ld0 : ∀ {K : Int → Prop}, K (f : Int) → LoadT tI W2 ((at0 b11).add 0) K := fun k => LoadT.sc (s := .int .i64) (by rw [cellOf hh]; rfl) k
    have ld1 : ∀ {K : Int → Prop}, K (z : Int) → LoadT tI W2 ((at0 b11).add 1) K := fun k => LoadT.sc (s := .int .i64) (by rw [cellOf hh]; rfl) k
    have ld2 : ∀ {K : Int → Prop}, K (t : Int) → LoadT tI W2 ((at0 b11).add 2) K := fun k => LoadT.sc (s := .int .i64) (by rw [cellOf hh]; rfl) k
    refine Join.by' (fun y V => ∃ b : Bool, y = ((v : Int), (x : Int), at0 b1, (i : Int), at0 b11, b, ()) ∧ V = W2 ∧ (b = true ↔ (x % 2 = 0 ∧ z = x ∧ f = v))) ?_ ?_
    · rintro y V g2 ⟨b, rfl, hV, hb'⟩
      rw [hV]; clear hV
      dsimp only
      refine Br.mk (fun hbt => ld2 ⟨_, rfl, ?_, hc1.then hcW⟩) (fun hbf => ?_)
      · rw [if_pos (hb'.1 hbt)] at hst
        rw [← hst]; rfl
      · rw [if_neg (fun hh => by rw [hb'.2 hh] at hbf; cases hbf)] at hst
        refine Join.by' (fun y V => ∃ b : Bool, y = ((v : Int), (x : Int), at0 b1, (i : Int), at0 b11, b, ()) ∧ V = W2 ∧ (b = true ↔ (x % 2 = 1 ∧ z + 1 = x ∧ t = v))) ?_ ?_
        · rintro y V g3 ⟨b, rfl, hV, hb2⟩
          rw [hV]; clear hV
          dsimp only
          rw [wrap64 (by omega) (by omega)]
          refine Br.mk (fun hbt => ld0 ⟨_, rfl, ?_, hc1.then hcW⟩) (fun hbf => ?_)
          · rw [if_pos (hb2.1 hbt)] at hst
            rw [← hst]; rfl
          · rw [if_neg (fun hh => by rw [hb2.2 hh] at hbf; cases hbf)] at hst
            refine ⟨⟨i + 1, hlt', rfl, hcW, hst⟩, ?_⟩
            show es.length - (i + 1) < es.length - i
            omega
        · intro J hJ
          rw [hmod]
          refine ⟨by decide, Br.mk (fun h1 => ld1 ?_) (fun h1 => hJ _ _ ⟨false, rfl, rfl, ?_⟩)⟩
          · have h1' : x % 2 = 1 := by have : ((x % 2 : Nat) : Int) = 1 := by simpa using h1
                                       omega
            rw [wrap64 (by omega) (by omega)]
            refine Br.mk (fun h2 => ld2 (hJ _ _ ⟨_, rfl, rfl, ?_⟩)) (fun h2 => hJ _ _ ⟨false, rfl, rfl, ?_⟩)
            · have h2' : z + 1 = x := by have : (z : Int) = (x : Int) - 1 := by simpa using h2
                                         omega
              refine ⟨fun h3 => ⟨h1', h2', ?_⟩, fun ⟨_, _, h3⟩ => by subst h3; exact beq_self_eq_true _⟩
              have h3 : (t : Int) = (v : Int) := by simpa using h3
              omega
            · have h2' : ¬ z + 1 = x := fun he => by
                have : ((z : Int) == (x : Int) - 1) = true := by simp; omega
                rw [this] at h2; cases h2
              simp [h2']
          · have h1' : ¬ x % 2 = 1 := fun he => by rw [he] at h1; simp at h1
            simp [h1']
    · intro J hJ
      rw [hmod]
      refine ⟨by decide, Br.mk (fun h1 => ld1 ?_) (fun h1 => hJ _ _ ⟨false, rfl, rfl, ?_⟩)⟩
      · have h1' : x % 2 = 0 := by have : ((x % 2 : Nat) : Int) = 0 := by simpa using h1
                                   omega
        refine Br.mk (fun h2 => ld0 (hJ _ _ ⟨_, rfl, rfl, ?_⟩)) (fun h2 => hJ _ _ ⟨false, rfl, rfl, ?_⟩)
        · have h2' : z = x := by have : (z : Int) = (x : Int) := by simpa using h2
                                 omega
          refine ⟨fun h3 => ⟨h1', h2', ?_⟩, fun ⟨_, _, h3⟩ => by subst h3; exact beq_self_eq_true _⟩
          have h3 : (f : Int) = (v : Int) := by simpa using h3
          omega
        · have h2' : ¬ z = x := fun he => by subst he; simp at h2
          simp [h2']
      · have h1' : ¬ x % 2 = 0 := fun he => by rw [he] at h1; simp at h1
        simp [h1']
  · have hin : i = es.length := by omega
    rw [hin, List.drop_eq_nil_of_le (Nat.le_refl _)] at hst
    exact ⟨-1, rfl, by rw [← hst]; rfl, hc1.then hc⟩
def graphR (s : Nat) (row : List Int) : Nat → Nat → List Ed
  | _, 0 => []
  | i, n + 1 => (if 0 ≤ row.getD (2 * i) 0 then [(s, 2 * i, (row.getD (2 * i) 0).toNat)] else []) ++ graphR s row (i + 1) n
def graphL (k : Nat) : Nat → List (List Int) → List Ed
  | _, [] => []
  | s, row :: l => graphR s row 0 k ++ graphL k (s + 1) l
theorem graphR_len (s : Nat) (row : List Int) : ∀ (n i : Nat), (graphR s row i n).length ≤ n
  | 0, i => by simp [graphR]
  | n + 1, i => by
    have := graphR_len s row n (i + 1)
    simp only [graphR, List.length_append]
    split <;> simp <;> omega
theorem graphL_len (k : Nat) : ∀ (l : List (List Int)) (s : Nat), (graphL k s l).length ≤ k * l.length
  | [], s => by simp [graphL]
  | row :: l, s => by
    have h1 := graphR_len s row k 0
    have h2 := graphL_len k l (s + 1)
    simp only [graphL, List.length_append, List.length_cons, Nat.mul_add, Nat.mul_one]
    omega
theorem GraphOf_ret {w : World} {k : Nat} (hk : k ≤ 8) {x : Int × Int × Sl × Sl × Unit} {a : Aut} (h : AutIn w x a) (hlen : a.next.length ≤ 100000) (hrow : ∀ r ∈ a.next, 2 * k ≤ r.length) :
    Ret Tryd.prog 27 #[.int .i64 (k : Int), .agg #[.int .i64 x.1, .int .i64 x.2.1, x.2.2.1.v, x.2.2.2.1.v]] (.agg [.int .i64, .int .i64, .sl]) w fun y w' => y.1 = (k : Int) ∧ y.2.1 = (a.acc.length : Int) ∧ OwnT w' 100 tE y.2.2.1 ((graphL k 0 a.next).map ofE) ∧ Chg Nil w w' ∧ ∀ k, y.2.2.1.own k → w.heap.size ≤ k := by
  obtain ⟨x1, x2, sa, sn, _⟩ := x
  refine cayleyref21_GraphOf.calls (k : Int) x1 x2 sa sn ?_
  unfold cayleyref21_GraphOf.sh
  obtain ⟨hra, _, _, sls, hrn, hsl, hrws, _⟩ := h.rd
  have hrn : RdT w (.sc .sl) sn sls := hrn
  have e1 : sa.n = a.acc.length := hra.len
  have e3 : sn.n = a.next.length := by rw [hrn.len, hsl]
  refine New.mk fun b1 w1 hb1 hn1 hs1 hc1 => ?_
  refine New.mk fun b3 w2 hb3 hn3 hs3 hc3 => ?_
  have h12 := hc3.heap hn1 fun h => h
  refine LoadT.sc (s := .sl) (x := sa) (by rw [cellOf h12]; rfl) ?_
  rw [e1]
  refine New.mk fun b6 w3 hb6 hn6 hs6 hc6 => ?_
  refine StoreN.whole (vs := [.int .i64 (k : Int), .int .i64 ((a.acc.length : Nat) : Int), .slice none 0 0]) hn6 rfl fun w4 h64 hc6' hsz6 => ?_
  have hN : Chg Nil w2 w4 := hc6.trans hc6' (fun _ _ h => h) fun i hi he => by have he : i = b6 := he; omega
  have h14 := hN.heap h12 fun h => h
  have h34 := hN.heap hn3 fun h => h
  have hc04 := (hc1.then hc3).then hN
  have s1 := hc1.size
  have s3 := hc3.size
  have s6 := lt_of_heap h64
  have hml : maxLen = 9223372036854775807 := rfl
  -- what holds at each place
  let Inv : Sl → List Ed → World → Prop := fun so es W => Chg Nil w W ∧ W.heap[b1]? = some (.cells #[.int .i64 x1, .int .i64 x2, sa.v, sn.v] 27 (0, 0)) ∧ W.heap[b3]? = some (.cells #[.int .i64 0, .int .i64 0, .slice none 0 0] 54 (0, 0)) ∧
    W.heap[b6]? = some (.cells #[.int .i64 (k : Int), .int .i64 ((a.acc.length : Nat) : Int), so.v] 54 (0, 0)) ∧ OwnT W 100 tE so (es.map ofE) ∧ ∀ k, so.own k → b6 < k
  have hb13 : b1 < b3 := by omega
  have hb36 : b3 < b6 := by omega
  refine LoopT.mk (fun y W => ∃ (s : Nat) (so : Sl) (es : List Ed), s ≤ a.next.length ∧ y = ((k : Int), at0 b1, at0 b3, at0 b6, (s : Int), ()) ∧ Inv so es W ∧ es.length ≤ k * s ∧ es ++ graphL k s (a.next.drop s) = graphL k 0 a.next) (fun y _ => a.next.length - y.2.2.2.2.1.toNat)
    ⟨0, ⟨none, 0, 0⟩, [], Nat.zero_le _, rfl, ⟨hc04, h14, h34, h64, OwnT.nil _ _ _, fun k hk => Own.nilk k hk⟩, by simp, rfl⟩ ?_
  rintro y g W ⟨s, so, es, hs, rfl, ⟨i1, i2, i3, i4, i5, i6⟩, hel, hes⟩
  dsimp only
  refine LoadT.sc (s := .sl) (x := sn) (by rw [cellOf i2]; rfl) ?_
  refine Br.dec (fun hlt => ?_) (fun hge => ?_)
  · have hlt' : s < a.next.length := by omega
    have hdrop : a.next.drop s = a.next[s] :: a.next.drop (s + 1) := List.drop_eq_getElem_cons hlt'
    have hrow' : a.next[s]? = some a.next[s] := List.getElem?_eq_getElem hlt'
    have hrl := hrow _ (List.getElem_mem hlt')
    generalize a.next[s] = row at hdrop hrow' hrl
    obtain ⟨rsl, hrsl⟩ : ∃ rsl, sls[s]? = some rsl := ⟨_, List.getElem?_eq_getElem (by rw [hsl]; exact hlt')⟩
    have hrr := hrws s rsl row hrsl hrow'
    rw [hdrop] at hes
    simp only [graphL] at hes
    refine LoopT.mk (fun y W => ∃ (i : Nat) (so : Sl) (es : List Ed), i ≤ k ∧ y = ((k : Int), at0 b1, at0 b3, at0 b6, (s : Int), ((2 * i : Nat) : Int), ()) ∧ Inv so es W ∧ es.length ≤ k * s + i ∧ es ++ (graphR s row i (k - i) ++ graphL k (s + 1) (a.next.drop (s + 1))) = graphL k 0 a.next) (fun y _ => 2 * k - y.2.2.2.2.2.1.toNat)
      ⟨0, so, es, Nat.zero_le _, rfl, ⟨i1, i2, i3, i4, i5, i6⟩, by omega, hes⟩ ?_
    clear i1 i2 i3 i4 i5 i6 hes hel es so
    rintro y g2 W ⟨i, so, es, hi, rfl, ⟨i1, i2, i3, i4, i5, i6⟩, hel, hes⟩
    dsimp only
    rw [wrap64 (x := 2 * (k : Int)) (by omega) (by omega)]
    refine Br.dec (fun hlt2 => ?_) (fun hge2 => ?_)
    · have hik : i < k := by omega
      have h2i : 2 * i < row.length := by omega
      have hgd : row.getD (2 * i) 0 = row[2 * i] := getD_get h2i
      have hrx : row[2 * i]? = some (row.getD (2 * i) 0) := by rw [hgd]; exact List.getElem?_eq_getElem h2i
      rw [show k - i = (k - (i + 1)) + 1 by omega] at hes
      simp only [graphR] at hes
      generalize row.getD (2 * i) 0 = t at hes hrx
      have hksl : k * s ≤ 8 * 100000 := Nat.mul_le_mul hk (by omega)
      refine LoadT.sc (s := .sl) (x := sn) (by rw [cellOf i2]; rfl) ?_
      refine (hrn.chg i1 fun _ _ h => h).get (t := .sc .sl) s rfl hrsl ?_
      refine (hrr.chg i1 fun _ _ h => h).get (t := tI) (2 * i) rfl hrx ?_
      have hw2 : IntKind.wrap .i64 (((2 * i : Nat) : Int) + 2) = ((2 * (i + 1) : Nat) : Int) := by rw [wrap64 (by omega) (by omega)]; omega
      have hmu : 2 * k - ((2 * (i + 1) : Nat) : Int).toNat < 2 * k - ((2 * i : Nat) : Int).toNat := by omega
      rw [hw2]
      refine Br.dec (fun hpos => ?_) (fun hneg => ?_)
      · have hpos : t ≥ 0 := hpos
        obtain ⟨nt, rfl⟩ := Int.eq_ofNat_of_zero_le hpos
        rw [if_pos hpos] at hes
        have hd : Chg Nil W W.drew := Chg.drew W
        have lW := lt_of_heap i4
        refine ⟨fun V => Chg so.own W.drew V, Chg.refl _, ?_⟩
        have hne : ∀ {k}, k ≤ b6 → ¬ so.own k := fun hk ho => by have := i6 _ ho; omega
        refine LoadS.sc (s := .sl) (x := so) (fun V hV => by rw [cellOf (hV.heap (w := W.drew) i4 (hne (Nat.le_refl _)))]; rfl) ?_
        refine LoadS.sc (s := .sl) (x := sn) (fun V hV => by rw [cellOf (hV.heap (w := W.drew) i2 (hne (by omega)))]; rfl) ?_
        refine rd_idxA (t := .sc .sl) hrn s rfl hrsl fun ad had => ?_
        have hstay : ∀ {V : World}, Chg so.own W.drew V → Chg Nil w V := fun hV => (i1.then hd).trans hV (fun _ _ h => h) fun j hj ho => by have := i6 _ ho; omega
        refine LoadS.sc (s := .sl) (x := rsl) (fun V hV => (hrn.chg (hstay hV) fun _ _ h => h).cell1 had hrsl) ?_
        refine rd_idxA (t := tI) hrr (2 * i) rfl hrx fun ad2 had2 => ?_
        refine LoadS.sc (s := .int .i64) (x := (nt : Int)) (fun V hV => (hrr.chg (hstay hV) fun _ _ h => h).cell1 had2 hrx) ?_
        refine New.mk fun b30 W1 hb30 hn30 hs30 hc30 => ⟨hc30.nil, ?_⟩
        have ho1 : OwnT W1 100 tE so (es.map ofE) := (i5.chg hd fun _ _ h => h).chg hc30 fun _ _ h => h
        refine OwnT.append (t := tE) (m := 1) ok52 rfl (by decide) ho1 [ofE (s, 2 * i, nt)] rfl (by decide) (fun j v hv => by rw [cellOf hn30]; simpa [Ty.cells, ofE] using hv) ?_ ?_ fun so' W2 ho2 hcA hownA => ?_
        · rw [List.length_map]; omega
        · rw [List.length_map]; omega
        have hcA' : Chg so.own W.drew W2 := hc30.nil.then hcA
        refine ⟨hcA', ?_⟩
        have i4' := hcA'.heap (w := W.drew) i4 (hne (Nat.le_refl _))
        have hz1 := hc30.size
        have own' : ∀ k, so'.own k → b6 < k := fun k hk => by
          rcases hownA k hk with h1 | h1
          · exact i6 k h1
          · have : W.heap.size ≤ W1.heap.size := hz1
            omega
        refine Store1.at i4' 2 (by show 2 < 3; decide) rfl fun W3 h63 hcB _ => ?_
        refine ⟨⟨i + 1, so', es ++ [(s, 2 * i, nt)], hik, rfl, ⟨?_, ?_, ?_, h63, ?_, own'⟩, by simp; omega, ?_⟩, hmu⟩
        · exact (hstay hcA').trans hcB (fun _ _ h => h) fun j hj he => by have he : j = b6 := he; omega
        · exact hcB.heap (hcA'.heap (w := W.drew) i2 (hne (by omega))) fun he => by have he : b1 = b6 := he; omega
        · exact hcB.heap (hcA'.heap (w := W.drew) i3 (hne (by omega))) fun he => by have he : b3 = b6 := he; omega
        · rw [List.map_append]
          exact ho2.chg hcB fun a' ha' he => by have := own' _ ⟨a', ha', rfl⟩; have he : a'.block = b6 := he; omega
        · rw [← hes]; simp
      · have hneg : ¬ t ≥ 0 := hneg
        rw [if_neg (by omega), List.nil_append] at hes
        exact ⟨⟨i + 1, so, es, hik, rfl, ⟨i1, i2, i3, i4, i5, i6⟩, by omega, hes⟩, hmu⟩
    · have hik : i = k := by omega
      rw [hik, Nat.sub_self] at hes
      simp only [graphR, List.nil_append] at hes
      rw [wrap64 (by omega) (by omega)]
      refine ⟨⟨s + 1, so, es, hlt', rfl, ⟨i1, i2, i3, i4, i5, i6⟩, ?_, hes⟩, ?_⟩
      · rw [Nat.mul_add]; omega
      · show a.next.length - (s + 1) < a.next.length - s
        omega
  · have hsn : s = a.next.length := by omega
    rw [hsn, List.drop_eq_nil_of_le (Nat.le_refl _)] at hes
    simp only [graphL, List.append_nil] at hes
    refine LoadT.mk (.agg [.int .i64, .int .i64, .sl]) (x := ((k : Int), ((a.acc.length : Nat) : Int), so, ())) (fun j v hv => by rw [cellOf i4]; simpa [Ty.cells] using hv) ?_
    refine StoreN.whole (vs := [.int .i64 (k : Int), .int .i64 ((a.acc.length : Nat) : Int), so.v]) i3 rfl fun W2 h3 hc3' _ => ?_
    refine LoadT.mk (.agg [.int .i64, .int .i64, .sl]) (x := ((k : Int), ((a.acc.length : Nat) : Int), so, ())) (fun j v hv => by rw [cellOf h3]; simpa [Ty.cells] using hv) ?_
    refine ⟨((k : Int), ((a.acc.length : Nat) : Int), so, ()), rfl, rfl, rfl, ?_, ?_, fun j hj => by have := i6 j hj; omega⟩
    · rw [← hes]
      exact i5.chg hc3' fun a' ha' he => by have := i6 _ ⟨a', ha', rfl⟩; have he : a'.block = b3 := he; omega
    · exact i1.trans hc3' (fun _ _ h => h) fun j hj he => by have he : j = b3 := he; omega
end Go.Proofs.YtffdjfkekdoeaaaDoor.Rf
end
section
set_option linter.unusedVariables false
set_option linter.unusedSimpArgs false
set_option maxRecDepth 8000
set_option maxHeartbeats 4000000
namespace Go.Proofs.YtffdjfkekdoeaaaDoor.Rf
open Fw Wd Fo
theorem Chg.heapT {S : Nat → Prop} {w w' : World} (hc : Chg S w w') {e : TypeId} (hS : ∀ k, S k → ∃ c f, w.heap[k]? = some (.cells c e f)) {k : Nat} {c : Array Value} {e' : TypeId} {f : Nat × Nat} (h : w.heap[k]? = some (.cells c e' f)) (hne : e' ≠ e) : w'.heap[k]? = some (.cells c e' f) :=
  hc.heap h fun hk => by obtain ⟨c', f', h'⟩ := hS k hk; exact ne_of_elem h h' hne rfl
theorem OwnT.chgT {S : Nat → Prop} {w w' : World} {e' : TypeId} {t : Ty} {s : Sl} {xs : List t.den} (h : OwnT w e' t s xs) (hc : Chg S w w') {e : TypeId} (hS : ∀ k, S k → ∃ c f, w.heap[k]? = some (.cells c e f)) (hne : e' ≠ e) : OwnT w' e' t s xs :=
  h.chg hc fun a ha hk => by
    obtain ⟨c', f', h'⟩ := hS _ hk
    obtain ⟨c1, h1⟩ := h.elem ⟨a, ha, rfl⟩
    exact ne_of_elem h1 h' hne rfl
theorem OwnT.kind {w : World} {e : TypeId} {t : Ty} {s : Sl} {xs : List t.den} (h : OwnT w e t s xs) : ∀ k, s.own k → ∃ c f, w.heap[k]? = some (.cells c e f) := fun k hk => by
  obtain ⟨c, hc⟩ := h.elem hk; exact ⟨c, _, hc⟩
theorem OwnT.ltk {w : World} {e : TypeId} {t : Ty} {s : Sl} {xs : List t.den} (h : OwnT w e t s xs) {k : Nat} (hk : s.own k) : k < w.heap.size := by
  obtain ⟨c, hc⟩ := h.elem hk; exact lt_of_heap hc
theorem own_empty {w : World} {b : Nat} {e : TypeId} {t : Ty} (h : w.heap[b]? = some (.cells #[] e (0, 0))) (hz : 0 < t.sz) : OwnT w e t ⟨some ⟨b, 0, none⟩, 0, 0⟩ [] :=
  ⟨⟨by simp, .inr ⟨b, 0, #[], rfl, Nat.zero_le _, h, Nat.le_refl _, Nat.zero_le _, by simp, by simp⟩⟩, rfl⟩
structure Nm (w V : World) (b1 b3 b8 : Nat) (gc : Array Value) (m : Nat) (qs sa sn rs : Sl) (q : List Nat) (os : List Sl) (out : List Row) (cur : Row) : Prop where
  chg : Chg Nil w V
  ge : w.heap.size ≤ b1 ∧ w.heap.size ≤ b3 ∧ w.heap.size ≤ b8 ∧ b3 ≠ b8
  c1 : V.heap[b1]? = some (.cells gc 54 (0, 0))
  c3 : V.heap[b3]? = some (.cells #[.int .i64 0, .int .i64 0, .slice none 0 0, .slice none 0 0] 27 (0, 0))
  c8 : V.heap[b8]? = some (.cells #[.int .i64 (m : Int), .int .i64 0, sa.v, sn.v] 27 (0, 0))
  que : OwnN V qs q
  acc : OwnT V 4 (.sc .bool) sa (accF out.length)
  nxt : OwnT V 85 (.sc .sl) sn os
  len : os.length = out.length
  row : ∀ (i : Nat) (s : Sl) (r : Row), os[i]? = some s → out[i]? = some r → OwnT V 3 tI s (r.map ofO)
  curr : OwnT V 3 tI rs (cur.map ofO)
  own : ∀ k, (qs.own k ∨ sa.own k ∨ sn.own k ∨ rs.own k ∨ ∃ s ∈ os, s.own k) → w.heap.size ≤ k
  ap1 : ∀ k, rs.own k → ¬ qs.own k
  ap2 : ∀ s ∈ os, ∀ k, s.own k → ¬ qs.own k ∧ ¬ rs.own k
section
variable {w V V' : World} {b1 b3 b8 : Nat} {gc : Array Value} {m : Nat} {qs sa sn rs : Sl} {q : List Nat} {os : List Sl} {out : List Row} {cur : Row}
theorem Nm.rowOf (h : Nm w V b1 b3 b8 gc m qs sa sn rs q os out cur) {s : Sl} (hs : s ∈ os) : ∃ r : Row, OwnT V 3 tI s (r.map ofO) := by
  obtain ⟨i, hi⟩ := List.getElem?_of_mem hs
  have hlt : i < out.length := by rw [← h.len]; exact (List.getElem?_eq_some_iff.1 hi).1
  exact ⟨_, h.row i s _ hi (List.getElem?_eq_getElem hlt)⟩
theorem Nm.nil (h : Nm w V b1 b3 b8 gc m qs sa sn rs q os out cur) (hc : Chg Nil V V') : Nm w V' b1 b3 b8 gc m qs sa sn rs q os out cur :=
  { h with chg := h.chg.then hc, c1 := hc.heap h.c1 fun h => h, c3 := hc.heap h.c3 fun h => h, c8 := hc.heap h.c8 fun h => h, que := h.que.chg hc fun _ _ h => h, acc := h.acc.chg hc fun _ _ h => h, nxt := h.nxt.chg hc fun _ _ h => h
           row := fun i s r hi hr => (h.row i s r hi hr).chg hc fun _ _ h => h, curr := h.curr.chg hc fun _ _ h => h }
theorem Nm.newRow (h : Nm w V b1 b3 b8 gc m qs sa sn rs q os out cur) (hc : Chg Nil V V') {b : Nat} (hb : b = V.heap.size) (hn : V'.heap[b]? = some (.cells #[] 3 (0, 0))) : Nm w V' b1 b3 b8 gc m qs sa sn ⟨some ⟨b, 0, none⟩, 0, 0⟩ q os out [] :=
  { h.nil hc with
    curr := own_empty (t := tI) hn (by decide)
    own := fun k hk => by
      rcases hk with hk | hk | hk | hk | hk
      · exact h.own k (.inl hk)
      · exact h.own k (.inr (.inl hk))
      · exact h.own k (.inr (.inr (.inl hk)))
      · obtain ⟨a, ha, rfl⟩ := hk; cases ha; have := h.chg.size; dsimp only; omega
      · exact h.own k (.inr (.inr (.inr (.inr hk))))
    ap1 := fun k hk hq => by obtain ⟨a, ha, rfl⟩ := hk; cases ha; have := Rf.OwnT.ltk h.que hq; dsimp only at this; omega
    ap2 := fun s hs k hk => ⟨(h.ap2 s hs k hk).1, fun hr => by
      obtain ⟨a, ha, rfl⟩ := hr; cases ha
      obtain ⟨r, hr⟩ := h.rowOf hs
      have := Rf.OwnT.ltk hr hk; dsimp only at this; omega⟩ }
theorem Nm.setQue (h : Nm w V b1 b3 b8 gc m qs sa sn rs q os out cur) (hc : Chg qs.own V V') {qs' : Sl} {q' : List Nat} (hq : OwnN V' qs' q') (hown : ∀ k, qs'.own k → qs.own k ∨ V.heap.size ≤ k) : Nm w V' b1 b3 b8 gc m qs' sa sn rs q' os out cur := by
  have hk := Rf.OwnT.kind h.que
  have hs := h.chg.size
  exact { chg := h.chg.trans hc (fun _ _ h => h) fun i hi ho => by have := h.own i (.inl ho); omega
          ge := h.ge, c1 := Chg.heapT hc hk h.c1 (by decide), c3 := Chg.heapT hc hk h.c3 (by decide), c8 := Chg.heapT hc hk h.c8 (by decide), que := hq
          acc := OwnT.chgT h.acc hc hk (by decide), nxt := OwnT.chgT h.nxt hc hk (by decide), len := h.len
          row := fun i s r hi hr => (h.row i s r hi hr).chg hc fun a ha => (h.ap2 s (List.mem_of_getElem? hi) _ ⟨a, ha, rfl⟩).1
          curr := h.curr.chg hc fun a ha => h.ap1 _ ⟨a, ha, rfl⟩
          own := fun k hk => by
            rcases hk with hk | hk
            · rcases hown k hk with h1 | h1
              · exact h.own k (.inl h1)
              · omega
            · exact h.own k (.inr hk)
          ap1 := fun k hk hq' => by
            rcases hown k hq' with h1 | h1
            · exact h.ap1 k hk h1
            · have := Rf.OwnT.ltk h.curr hk; omega
          ap2 := fun s hs' k hk => ⟨fun hq' => by
            rcases hown k hq' with h1 | h1
            · exact (h.ap2 s hs' k hk).1 h1
            · obtain ⟨r, hr⟩ := h.rowOf hs'
              have := Rf.OwnT.ltk hr hk; omega, (h.ap2 s hs' k hk).2⟩ }
theorem Nm.setCur (h : Nm w V b1 b3 b8 gc m qs sa sn rs q os out cur) (hc : Chg rs.own V V') {rs' : Sl} {cur' : Row} (hq : OwnT V' 3 tI rs' (cur'.map ofO)) (hown : ∀ k, rs'.own k → rs.own k ∨ V.heap.size ≤ k) : Nm w V' b1 b3 b8 gc m qs sa sn rs' q os out cur' := by
  have hk := Rf.OwnT.kind h.curr
  have hs := h.chg.size
  exact { chg := h.chg.trans hc (fun _ _ h => h) fun i hi ho => by have := h.own i (.inr (.inr (.inr (.inl ho)))); omega
          ge := h.ge, c1 := Chg.heapT hc hk h.c1 (by decide), c3 := Chg.heapT hc hk h.c3 (by decide), c8 := Chg.heapT hc hk h.c8 (by decide)
          que := h.que.chg hc fun a ha ho => h.ap1 _ ho ⟨a, ha, rfl⟩
          acc := OwnT.chgT h.acc hc hk (by decide), nxt := OwnT.chgT h.nxt hc hk (by decide), len := h.len
          row := fun i s r hi hr => (h.row i s r hi hr).chg hc fun a ha => (h.ap2 s (List.mem_of_getElem? hi) _ ⟨a, ha, rfl⟩).2
          curr := hq
          own := fun k hk => by
            rcases hk with hk | hk | hk | hk | hk
            · exact h.own k (.inl hk)
            · exact h.own k (.inr (.inl hk))
            · exact h.own k (.inr (.inr (.inl hk)))
            · rcases hown k hk with h1 | h1
              · exact h.own k (.inr (.inr (.inr (.inl h1))))
              · omega
            · exact h.own k (.inr (.inr (.inr (.inr hk))))
          ap1 := fun k hk hq' => by
            rcases hown k hk with h1 | h1
            · exact h.ap1 k h1 hq'
            · have := Rf.OwnT.ltk h.que hq'; omega
          ap2 := fun s hs' k hk => ⟨(h.ap2 s hs' k hk).1, fun hr' => by
            rcases hown k hr' with h1 | h1
            · exact (h.ap2 s hs' k hk).2 h1
            · obtain ⟨r, hr⟩ := h.rowOf hs'
              have := Rf.OwnT.ltk hr hk; omega⟩ }
theorem Nm.endRow (h : Nm w V b1 b3 b8 gc m qs sa sn rs q os out cur) {V1 V2 V3 V4 : World} {sn' sa' : Sl} (c1 : Chg sn.own V V1) (hn : OwnT V1 85 (.sc .sl) sn' (os ++ [rs])) (hownN : ∀ k, sn'.own k → sn.own k ∨ V.heap.size ≤ k)
    (c2 : Chg (· = b8) V1 V2) (h8 : V2.heap[b8]? = some (.cells #[.int .i64 (m : Int), .int .i64 0, sa.v, sn'.v] 27 (0, 0)))
    (c3 : Chg sa.own V2 V3) (ha : OwnT V3 4 (.sc .bool) sa' (accF (out.length + 1))) (hownA : ∀ k, sa'.own k → sa.own k ∨ V2.heap.size ≤ k)
    (c4 : Chg (· = b8) V3 V4) (h8' : V4.heap[b8]? = some (.cells #[.int .i64 (m : Int), .int .i64 0, sa'.v, sn'.v] 27 (0, 0))) : Nm w V4 b1 b3 b8 gc m qs sa' sn' ⟨none, 0, 0⟩ q (os ++ [rs]) (out ++ [cur]) [] := by
  have hs := h.chg.size
  have k1 := Rf.OwnT.kind h.nxt
  have k2 : ∀ k, k = b8 → ∃ c f, V1.heap[k]? = some (.cells c 27 f) := fun k hk => by subst hk; exact ⟨_, _, Chg.heapT c1 k1 h.c8 (by decide)⟩
  have acc1 := OwnT.chgT h.acc c1 k1 (by decide)
  have acc2 := OwnT.chgT acc1 c2 k2 (by decide)
  have k3 := Rf.OwnT.kind acc2
  have k4 : ∀ k, k = b8 → ∃ c f, V3.heap[k]? = some (.cells c 27 f) := fun k hk => by subst hk; exact ⟨_, _, Chg.heapT c3 k3 h8 (by decide)⟩
  have cell54 : ∀ {k : Nat} {c : Array Value}, V.heap[k]? = some (Obj.cells c 54 (0, 0)) → V4.heap[k]? = some (Obj.cells c 54 (0, 0)) := fun hk => Chg.heapT c4 k4 (Chg.heapT c3 k3 (Chg.heapT c2 k2 (Chg.heapT c1 k1 hk (by decide)) (by decide)) (by decide)) (by decide)
  have own3 : ∀ {s : Sl} {xs : List Int}, OwnT V 3 tI s xs → OwnT V4 3 tI s xs := fun ho => OwnT.chgT (OwnT.chgT (OwnT.chgT (OwnT.chgT ho c1 k1 (by decide)) c2 k2 (by decide)) c3 k3 (by decide)) c4 k4 (by decide)
  have n2 := OwnT.chgT hn c2 k2 (by decide)
  have n3 := OwnT.chgT n2 c3 k3 (by decide)
  have n4 := OwnT.chgT n3 c4 k4 (by decide)
  have z1 := c1.size
  have z2 := c2.size
  have z3 := c3.size
  have rw : ∀ k, rs.own k → w.heap.size ≤ k := fun k hk => h.own k (.inr (.inr (.inr (.inl hk))))
  exact {
    chg := (((h.chg.trans c1 (fun _ _ h => h) fun i hi ho => by have := h.own i (.inr (.inr (.inl ho))); omega).trans c2 (fun _ _ h => h) fun i hi he => by have he : i = b8 := he; have := h.ge; omega).trans c3 (fun _ _ h => h) fun i hi ho => by have := h.own i (.inr (.inl ho)); omega).trans c4 (fun _ _ h => h) fun i hi he => by have he : i = b8 := he; have := h.ge; omega
    ge := h.ge
    c1 := cell54 h.c1
    c3 := by
      have e1 := Chg.heapT c1 k1 h.c3 (by decide)
      have e2 := c2.heap e1 fun he => h.ge.2.2.2 he
      have e3 := Chg.heapT c3 k3 e2 (by decide)
      exact c4.heap e3 fun he => h.ge.2.2.2 he
    c8 := h8'
    que := own3 h.que
    acc := by rw [List.length_append]; exact OwnT.chgT ha c4 k4 (by decide)
    nxt := n4
    len := by rw [List.length_append, List.length_append, h.len]; rfl
    row := fun i s r hi hr => by
      by_cases hlt : i < os.length
      · rw [List.getElem?_append_left hlt] at hi
        rw [List.getElem?_append_left (by rw [← h.len]; exact hlt)] at hr
        exact own3 (h.row i s r hi hr)
      · rw [List.getElem?_append_right (by omega)] at hi
        rw [List.getElem?_append_right (by rw [← h.len]; omega), ← h.len] at hr
        cases hk : i - os.length with
        | zero => rw [hk] at hi hr; cases hi; cases hr; exact own3 h.curr
        | succ n => rw [hk] at hi; simp at hi
    curr := OwnT.nil _ _ _
    own := fun k hk => by
      rcases hk with hk | hk | hk | hk | ⟨s, hs', hk⟩
      · exact h.own k (.inl hk)
      · rcases hownA k hk with h1 | h1
        · exact h.own k (.inr (.inl h1))
        · omega
      · rcases hownN k hk with h1 | h1
        · exact h.own k (.inr (.inr (.inl h1)))
        · omega
      · exact Own.nilk k hk
      · rcases List.mem_append.1 hs' with h1 | h1
        · exact h.own k (.inr (.inr (.inr (.inr ⟨s, h1, hk⟩))))
        · simp only [List.mem_singleton] at h1; subst h1; exact rw k hk
    ap1 := fun k hk => Own.nilk k hk
    ap2 := fun s hs' k hk => ⟨by
      rcases List.mem_append.1 hs' with h1 | h1
      · exact (h.ap2 s h1 k hk).1
      · simp only [List.mem_singleton] at h1; subst h1; exact h.ap1 k hk, fun hk' => Own.nilk k hk'⟩ }
theorem Nm.aut (h : Nm w V b1 b3 b8 gc m qs sa sn rs q os out cur) : AutR w.heap.size V sa sn (accF out.length) (out.map (·.map ofO)) :=
  ⟨h.acc.rd, fun k hk => h.own k (.inr (.inl hk)), fun k hk => h.own k (.inr (.inr (.inl hk))), os, h.nxt.rd, by rw [h.len, List.length_map], fun i s r hi hr => (by
    rw [List.getElem?_map] at hr
    cases ho : out[i]? with
    | none => rw [ho] at hr; cases hr
    | some r' => rw [ho] at hr; cases hr; exact (h.row i s r' hi ho).rd), fun s hs k hk => h.own k (.inr (.inr (.inr (.inr ⟨s, hs, hk⟩))))⟩
end
def rowE (k : Nat) (es : List Ed) (v : Nat) : Row := (List.range (2 * k)).map (stepE es v)
def numE (k : Nat) (es : List Ed) : Nat → Nat → List Nat → List Row → Option (List Row)
  | 0, _, _, _ => none
  | f + 1, i, q, out =>
    match q[i]? with
    | none => some out
    | some v => numE k es f (i + 1) (bfsRow (rowE k es v) q).1 (out ++ [(bfsRow (rowE k es v) q).2])
theorem stepE_lt {B : Nat} : ∀ (es : List Ed) (v x t : Nat), (∀ e ∈ es, e.1 < B ∧ e.2.2 < B) → stepE es v x = some t → t < B
  | [], v, x, t, _, h => by simp [stepE] at h
  | (f, y, u) :: l, v, x, t, hB, h => by
    simp only [stepE] at h
    have hb := hB (f, y, u) (by simp)
    split at h
    · cases h; exact hb.2
    · split at h
      · cases h; exact hb.1
      · exact stepE_lt l v x t (fun e he => hB e (by simp [he])) h
theorem nodup_len : ∀ (B : Nat) (l : List Nat), l.Nodup → (∀ v ∈ l, v < B) → l.length ≤ B
  | 0, l, _, h => by
    cases l with
    | nil => simp
    | cons v l => exact absurd (h v (by simp)) (Nat.not_lt_zero _)
  | B + 1, l, hn, h => by
    by_cases hm : B ∈ l
    · have h1 := nodup_len B (l.erase B) (hn.erase B) fun v hv => by
        have h2 := h v (List.mem_of_mem_erase hv)
        have h3 : v ≠ B := fun he => by subst he; exact (List.Nodup.not_mem_erase hn) hv
        omega
      rw [List.length_erase_of_mem hm] at h1
      omega
    · have := nodup_len B l hn fun v hv => by
        have h2 := h v hv
        have h3 : v ≠ B := fun he => hm (he ▸ hv)
        omega
      omega
theorem bfsRow_ok {B : Nat} : ∀ (row : Row) (q : List Nat), (∀ t, some t ∈ row → t < B) → q.Nodup → (∀ v ∈ q, v < B) → (bfsRow row q).1.Nodup ∧ ∀ v ∈ (bfsRow row q).1, v < B
  | [], q, _, hn, hq => ⟨hn, hq⟩
  | none :: l, q, hr, hn, hq => bfsRow_ok l q (fun t ht => hr t (by simp [ht])) hn hq
  | some t :: l, q, hr, hn, hq => by
    simp only [bfsRow]
    split
    · exact bfsRow_ok l q (fun t ht => hr t (by simp [ht])) hn hq
    · rename_i hni
      refine bfsRow_ok l (q ++ [t]) (fun t ht => hr t (by simp [ht])) ?_ fun v hv => ?_
      · rw [List.nodup_append]
        exact ⟨hn, by simp, fun a ha b hb => by simp only [List.mem_singleton] at hb; subst hb; exact fun he => hni (he ▸ ha)⟩
      · rcases List.mem_append.1 hv with hv | hv
        · exact hq v hv
        · simp only [List.mem_singleton] at hv; subst hv; exact hr v (by simp)
end Go.Proofs.YtffdjfkekdoeaaaDoor.Rf
end
section
set_option linter.unusedVariables false
set_option maxRecDepth 10000
namespace Go.Proofs.YtffdjfkekdoeaaaDoor
open Fw
noncomputable def cayleyref21_Small.ann : Ann where
  loops := fun | 3 => [(0, .sc .sl), (1, .sc (.int .i64)), (5, .sc (.int .i64)), (6, .sc (.int .i64))] | _ => []
  joins := fun | _ => none
noncomputable def cayleyref21_Small.body : Code := match Tryd.f11.body with | some c => c | none => .skip
def cayleyref21_Small.sh (p0 : Sl) (p1 : Int) (R : Ending → World → Prop) (w : World) : Prop :=
  LoopT (σ := Sl × Int × Int × Int × Unit) (p0, p1, 0, 0, ()) w fun l1 g2 w3 I4 =>
    Br (decide ((l1.2.2.2.1 : Int) < ((l1.1.n : Nat) : Int)))
      (Idx l1.1.a l1.1.n 1 l1.2.2.2.1 fun a5 =>
      LoadT (.sc .str) w3 a5 fun x6 =>
      I4 (l1.1, l1.2.1, (IntKind.wrap .i64 (l1.2.2.1 + ((x6.size : Nat) : Int))), (IntKind.wrap .i64 (l1.2.2.2.1 + 1)), ()) w3)
      (Br (decide ((((l1.1.n : Nat) : Int) : Int) ≤ 200))
        (R (.returned (.bool (decide ((l1.2.2.1 : Int) ≤ l1.2.1)))) w3)
        (R (.returned (.bool false)) w3))
theorem cayleyref21_Small.eq (p0 : Sl) (p1 : Int) (R : Ending → World → Prop) (w : World) : cayleyref21_Small.sh p0 p1 R w = wpc Tryd.prog cayleyref21_Small.ann cayleyref21_Small.body (fnKs Tryd.prog Tryd.f11 R) [] (env0 #[(.slice p0.a p0.n p0.c), (.int .i64 p1)]) w := by kernel_rfl
theorem cayleyref21_Small.calls (p0 : Sl) (p1 : Int) {R : Ending → World → Prop} {w : World} (h : cayleyref21_Small.sh p0 p1 R w) : Calls Tryd.prog 11 #[(.slice p0.a p0.n p0.c), (.int .i64 p1)] w R :=
  calls_of_wpc mixed Tryd.func11 (by kernel_rfl) (by kernel_rfl) ((cayleyref21_Small.eq p0 p1 R w).mp h)
noncomputable def cayleyref21_path.ann : Ann where
  loops := fun | 3 => [(1, .sc .str), (2, .sc .adr), (4, .sc .adr), (5, .sc (.int .i64)), (6, .sc (.int .i64))] | _ => []
  joins := fun | 9 => some [(1, .sc .str), (2, .sc .adr), (4, .sc .adr), (5, .sc (.int .i64)), (6, .sc (.int .i64)), (7, .sc (.int .i64))] | _ => none
noncomputable def cayleyref21_path.body : Code := match Tryd.f50.body with | some c => c | none => .skip
def cayleyref21_path.sh (p0_0 : Int) (p0_1 : Int) (p0_2 : Sl) (p1 : ByteArray) (R : Ending → World → Prop) (w : World) : Prop :=
  New w (.cells #[(.int .i64 p0_0), (.int .i64 p0_1), (.slice p0_2.a p0_2.n p0_2.c)] 54) fun b1 w2 =>
  New w2 (.cells #[(.int .i64 0), (.int .i64 0), (.slice none 0 0)] 54) fun b3 w4 =>
  LoopT (σ := ByteArray × Addr × Addr × Int × Int × Unit) (p1, (Addr.mk b1 0 none), (Addr.mk b3 0 none), 0, 0, ()) w4 fun l5 g6 w7 I8 =>
    Br (decide ((l5.2.2.2.2.1 : Int) < ((l5.1.size : Nat) : Int)))
      (Join (σ := ByteArray × Addr × Addr × Int × Int × Int × Unit) (fun j11 g10 w15 =>
        StrIdx j11.1 j11.2.2.2.2.1 fun c16 =>
        CallT Tryd.prog 61 #[(.int .u8 c16)] (.sc (.int .i64)) w15 (fun r17 w18 =>
          (2 : Int) ≠ 0 ∧
          Br (((Int.tmod r17 2) : Int) == 0)
            (LoadT (.sc .sl) w18 (j11.2.1.add 2) fun x20 =>
            New w18 (.cells #[(.int .i64 j11.2.2.2.1), (.int .i64 r17), (.int .i64 j11.2.2.2.2.2.1)] 100) fun b21 w22 =>
            RunT Tryd.prog (.sc .sl) (Builtin.append_ #[52, 52] 52 #[(.slice x20.a x20.n x20.c), (.slice (some (Addr.mk b21 0 none)) 1 1)]) w22 fun r23 w24 =>
            Store1 w24 (j11.2.1.add 2) (.slice r23.a r23.n r23.c) fun w25 =>
            I8 (j11.1, j11.2.1, j11.2.2.1, j11.2.2.2.2.2.1, (IntKind.wrap .i64 (j11.2.2.2.2.1 + 1)), ()) w25)
            (LoadT (.sc .sl) w18 (j11.2.1.add 2) fun x26 =>
            New w18 (.cells #[(.int .i64 j11.2.2.2.2.2.1), (.int .i64 (IntKind.wrap .i64 (r17 - 1))), (.int .i64 j11.2.2.2.1)] 100) fun b27 w28 =>
            RunT Tryd.prog (.sc .sl) (Builtin.append_ #[52, 52] 52 #[(.slice x26.a x26.n x26.c), (.slice (some (Addr.mk b27 0 none)) 1 1)]) w28 fun r29 w30 =>
            Store1 w30 (j11.2.1.add 2) (.slice r29.a r29.n r29.c) fun w31 =>
            I8 (j11.1, j11.2.1, j11.2.2.1, j11.2.2.2.2.2.1, (IntKind.wrap .i64 (j11.2.2.2.2.1 + 1)), ()) w31)) (fun h19 w18 => R (.panicked h19) w18)) fun J9 =>
        Br (decide ((l5.2.2.2.2.1 : Int) < (IntKind.wrap .i64 (((l5.1.size : Nat) : Int) - 1))))
          (LoadT (.sc (.int .i64)) w7 (l5.2.1.add 1) fun x12 =>
          LoadT (.sc (.int .i64)) w7 (l5.2.1.add 1) fun x13 =>
          Store1 w7 (l5.2.1.add 1) (.int .i64 (IntKind.wrap .i64 (x13 + 1))) fun w14 =>
          J9 (l5.1, l5.2.1, l5.2.2.1, l5.2.2.2.1, l5.2.2.2.2.1, x12, ()) w14)
          (J9 (l5.1, l5.2.1, l5.2.2.1, l5.2.2.2.1, l5.2.2.2.2.1, 0, ()) w7))
      (LoadT (.agg [.int .i64, .int .i64, .sl]) w7 l5.2.1 fun x32 =>
      StoreN w7 l5.2.2.1 [(.int .i64 x32.1), (.int .i64 x32.2.1), (.slice x32.2.2.1.a x32.2.2.1.n x32.2.2.1.c)] fun w33 =>
      LoadT (.agg [.int .i64, .int .i64, .sl]) w33 l5.2.2.1 fun x34 =>
      R (.returned (.agg #[(.int .i64 x34.1), (.int .i64 x34.2.1), (.slice x34.2.2.1.a x34.2.2.1.n x34.2.2.1.c)])) w33)
theorem cayleyref21_path.eq (p0_0 : Int) (p0_1 : Int) (p0_2 : Sl) (p1 : ByteArray) (R : Ending → World → Prop) (w : World) : cayleyref21_path.sh p0_0 p0_1 p0_2 p1 R w = wpc Tryd.prog cayleyref21_path.ann cayleyref21_path.body (fnKs Tryd.prog Tryd.f50 R) [] (env0 #[(.agg #[(.int .i64 p0_0), (.int .i64 p0_1), (.slice p0_2.a p0_2.n p0_2.c)]), (.string p1)]) w := by kernel_rfl
theorem cayleyref21_path.calls (p0_0 : Int) (p0_1 : Int) (p0_2 : Sl) (p1 : ByteArray) {R : Ending → World → Prop} {w : World} (h : cayleyref21_path.sh p0_0 p0_1 p0_2 p1 R w) : Calls Tryd.prog 50 #[(.agg #[(.int .i64 p0_0), (.int .i64 p0_1), (.slice p0_2.a p0_2.n p0_2.c)]), (.string p1)] w R :=
  calls_of_wpc mixed Tryd.func50 (by kernel_rfl) (by kernel_rfl) ((cayleyref21_path.eq p0_0 p0_1 p0_2 p1 R w).mp h)
noncomputable def cayleyref21_insert.ann : Ann where
  loops := fun | 2 => [(0, .sc .sl), (3, .sc .adr), (5, .sc (.int .i64))] | _ => []
  joins := fun | _ => none
noncomputable def cayleyref21_insert.body : Code := match Tryd.f69.body with | some c => c | none => .skip
def cayleyref21_insert.sh (p0 : Sl) (p1_0 : Int) (p1_1 : Int) (p1_2 : Int) (R : Ending → World → Prop) (w : World) : Prop :=
  New w (.cells #[(.int .i64 p1_0), (.int .i64 p1_1), (.int .i64 p1_2)] 100) fun b1 w2 =>
  LoopT (σ := Sl × Addr × Int × Unit) (p0, (Addr.mk b1 0 none), 0, ()) w2 fun l3 g4 w5 I6 =>
    Br (decide ((l3.2.2.1 : Int) < ((l3.1.n : Nat) : Int)))
      (Idx l3.1.a l3.1.n 3 l3.2.2.1 fun a7 =>
      LoadT (.agg [.int .i64, .int .i64, .int .i64]) w5.drew a7 fun x8 =>
      LoadT (.agg [.int .i64, .int .i64, .int .i64]) w5.drew l3.2.1 fun x9 =>
      ∃ r10 : Ty.den (.sc .bool), (do eqGuard .eql 100 (.tmp 15) (.tmp 16) (.agg #[(.int .i64 x8.1), (.int .i64 x8.2.1), (.int .i64 x8.2.2.1)]) (.agg #[(.int .i64 x9.1), (.int .i64 x9.2.1), (.int .i64 x9.2.2.1)]); binOp .eql 100 (.agg #[(.int .i64 x8.1), (.int .i64 x8.2.1), (.int .i64 x8.2.2.1)]) (.agg #[(.int .i64 x9.1), (.int .i64 x9.2.1), (.int .i64 x9.2.2.1)])).run Tryd.prog w5.drew = .ok (Ty.val (.sc .bool) r10) w5.drew ∧
      Br r10
        (R (.returned (.slice l3.1.a l3.1.n l3.1.c)) w5.drew)
        (I6 (l3.1, l3.2.1, (IntKind.wrap .i64 (l3.2.2.1 + 1)), ()) w5.drew))
      (LoadT (.agg [.int .i64, .int .i64, .int .i64]) w5 l3.2.1 fun x11 =>
      New w5 (.cells #[(.int .i64 x11.1), (.int .i64 x11.2.1), (.int .i64 x11.2.2.1)] 100) fun b12 w13 =>
      RunT Tryd.prog (.sc .sl) (Builtin.append_ #[52, 52] 52 #[(.slice l3.1.a l3.1.n l3.1.c), (.slice (some (Addr.mk b12 0 none)) 1 1)]) w13 fun r14 w15 =>
      R (.returned (.slice r14.a r14.n r14.c)) w15)
theorem cayleyref21_insert.eq (p0 : Sl) (p1_0 : Int) (p1_1 : Int) (p1_2 : Int) (R : Ending → World → Prop) (w : World) : cayleyref21_insert.sh p0 p1_0 p1_1 p1_2 R w = wpc Tryd.prog cayleyref21_insert.ann cayleyref21_insert.body (fnKs Tryd.prog Tryd.f69 R) [] (env0 #[(.slice p0.a p0.n p0.c), (.agg #[(.int .i64 p1_0), (.int .i64 p1_1), (.int .i64 p1_2)])]) w := by kernel_rfl
theorem cayleyref21_insert.calls (p0 : Sl) (p1_0 : Int) (p1_1 : Int) (p1_2 : Int) {R : Ending → World → Prop} {w : World} (h : cayleyref21_insert.sh p0 p1_0 p1_1 p1_2 R w) : Calls Tryd.prog 69 #[(.slice p0.a p0.n p0.c), (.agg #[(.int .i64 p1_0), (.int .i64 p1_1), (.int .i64 p1_2)])] w R :=
  calls_of_wpc mixed Tryd.func69 (by kernel_rfl) (by kernel_rfl) ((cayleyref21_insert.eq p0 p1_0 p1_1 p1_2 R w).mp h)
noncomputable def cayleyref21_merged.ann : Ann where
  loops := fun | 3 => [(1, .sc (.int .i64)), (2, .sc (.int .i64)), (3, .sc .adr), (6, .sc .adr), (7, .sc .adr), (8, .sc (.int .i64))] | _ => []
  joins := fun | 8 => some [(1, .sc (.int .i64)), (2, .sc (.int .i64)), (3, .sc .adr), (6, .sc .adr), (7, .sc .adr), (8, .sc (.int .i64)), (9, .sc .adr)] | 10 => some [(1, .sc (.int .i64)), (2, .sc (.int .i64)), (3, .sc .adr), (6, .sc .adr), (7, .sc .adr), (8, .sc (.int .i64)), (9, .sc .adr)] | _ => none
noncomputable def cayleyref21_merged.body : Code := match Tryd.f97.body with | some c => c | none => .skip
def cayleyref21_merged.sh (p0_0 : Int) (p0_1 : Int) (p0_2 : Sl) (p1 : Int) (p2 : Int) (R : Ending → World → Prop) (w : World) : Prop :=
  New w (.cells #[(.int .i64 p0_0), (.int .i64 p0_1), (.slice p0_2.a p0_2.n p0_2.c)] 54) fun b1 w2 =>
  New w2 (.cells #[(.int .i64 0), (.int .i64 0), (.slice none 0 0)] 54) fun b3 w4 =>
  LoadT (.sc (.int .i64)) w4 ((Addr.mk b1 0 none).add 0) fun x5 =>
  LoadT (.sc (.int .i64)) w4 ((Addr.mk b1 0 none).add 1) fun x6 =>
  New w4 (.cells #[(.int .i64 0), (.int .i64 0), (.slice none 0 0)] 54) fun b7 w8 =>
  StoreN w8 (Addr.mk b7 0 none) [(.int .i64 x5), (.int .i64 x6), (.slice none 0 0)] fun w9 =>
  LoopT (σ := Int × Int × Addr × Addr × Addr × Int × Unit) (p1, p2, (Addr.mk b1 0 none), (Addr.mk b3 0 none), (Addr.mk b7 0 none), 0, ()) w9 fun l10 g11 w12 I13 =>
    LoadT (.sc .sl) w12 (l10.2.2.1.add 2) fun x14 =>
    Br (decide ((l10.2.2.2.2.2.1 : Int) < ((x14.n : Nat) : Int)))
      (LoadT (.sc .sl) w12 (l10.2.2.1.add 2) fun x15 =>
      Idx x15.a x15.n 3 l10.2.2.2.2.2.1 fun a16 =>
      LoadT (.agg [.int .i64, .int .i64, .int .i64]) w12 a16 fun x17 =>
      New w12 (.cells #[(.int .i64 0), (.int .i64 0), (.int .i64 0)] 100) fun b18 w19 =>
      StoreN w19 (Addr.mk b18 0 none) [(.int .i64 x17.1), (.int .i64 x17.2.1), (.int .i64 x17.2.2.1)] fun w20 =>
      Join (σ := Int × Int × Addr × Addr × Addr × Int × Addr × Unit) (fun j23 g22 w26 =>
        Join (σ := Int × Int × Addr × Addr × Addr × Int × Addr × Unit) (fun j29 g28 w32 =>
          LoadT (.sc .sl) w32 (j29.2.2.2.2.1.add 2) fun x33 =>
          LoadT (.agg [.int .i64, .int .i64, .int .i64]) w32 j29.2.2.2.2.2.2.1 fun x34 =>
          CallT Tryd.prog 69 #[(.slice x33.a x33.n x33.c), (.agg #[(.int .i64 x34.1), (.int .i64 x34.2.1), (.int .i64 x34.2.2.1)])] (.sc .sl) w32 (fun r35 w36 =>
            Store1 w36 (j29.2.2.2.2.1.add 2) (.slice r35.a r35.n r35.c) fun w38 =>
            I13 (j29.1, j29.2.1, j29.2.2.1, j29.2.2.2.1, j29.2.2.2.2.1, (IntKind.wrap .i64 (j29.2.2.2.2.2.1 + 1)), ()) w38) (fun h37 w36 => R (.panicked h37) w36)) fun J27 =>
          LoadT (.sc (.int .i64)) w26 (j23.2.2.2.2.2.2.1.add 2) fun x30 =>
          Br ((x30 : Int) == j23.2.1)
            (Store1 w26 (j23.2.2.2.2.2.2.1.add 2) (.int .i64 j23.1) fun w31 =>
            J27 (j23.1, j23.2.1, j23.2.2.1, j23.2.2.2.1, j23.2.2.2.2.1, j23.2.2.2.2.2.1, j23.2.2.2.2.2.2.1, ()) w31)
            (J27 (j23.1, j23.2.1, j23.2.2.1, j23.2.2.2.1, j23.2.2.2.2.1, j23.2.2.2.2.2.1, j23.2.2.2.2.2.2.1, ()) w26)) fun J21 =>
        LoadT (.sc (.int .i64)) w20 ((Addr.mk b18 0 none).add 0) fun x24 =>
        Br ((x24 : Int) == l10.2.1)
          (Store1 w20 ((Addr.mk b18 0 none).add 0) (.int .i64 l10.1) fun w25 =>
          J21 (l10.1, l10.2.1, l10.2.2.1, l10.2.2.2.1, l10.2.2.2.2.1, l10.2.2.2.2.2.1, (Addr.mk b18 0 none), ()) w25)
          (J21 (l10.1, l10.2.1, l10.2.2.1, l10.2.2.2.1, l10.2.2.2.2.1, l10.2.2.2.2.2.1, (Addr.mk b18 0 none), ()) w20))
      (LoadT (.agg [.int .i64, .int .i64, .sl]) w12 l10.2.2.2.2.1 fun x39 =>
      StoreN w12 l10.2.2.2.1 [(.int .i64 x39.1), (.int .i64 x39.2.1), (.slice x39.2.2.1.a x39.2.2.1.n x39.2.2.1.c)] fun w40 =>
      LoadT (.agg [.int .i64, .int .i64, .sl]) w40 l10.2.2.2.1 fun x41 =>
      R (.returned (.agg #[(.int .i64 x41.1), (.int .i64 x41.2.1), (.slice x41.2.2.1.a x41.2.2.1.n x41.2.2.1.c)])) w40)
theorem cayleyref21_merged.eq (p0_0 : Int) (p0_1 : Int) (p0_2 : Sl) (p1 : Int) (p2 : Int) (R : Ending → World → Prop) (w : World) : cayleyref21_merged.sh p0_0 p0_1 p0_2 p1 p2 R w = wpc Tryd.prog cayleyref21_merged.ann cayleyref21_merged.body (fnKs Tryd.prog Tryd.f97 R) [] (env0 #[(.agg #[(.int .i64 p0_0), (.int .i64 p0_1), (.slice p0_2.a p0_2.n p0_2.c)]), (.int .i64 p1), (.int .i64 p2)]) w := by kernel_rfl
theorem cayleyref21_merged.calls (p0_0 : Int) (p0_1 : Int) (p0_2 : Sl) (p1 : Int) (p2 : Int) {R : Ending → World → Prop} {w : World} (h : cayleyref21_merged.sh p0_0 p0_1 p0_2 p1 p2 R w) : Calls Tryd.prog 97 #[(.agg #[(.int .i64 p0_0), (.int .i64 p0_1), (.slice p0_2.a p0_2.n p0_2.c)]), (.int .i64 p1), (.int .i64 p2)] w R :=
  calls_of_wpc mixed Tryd.func97 (by kernel_rfl) (by kernel_rfl) ((cayleyref21_merged.eq p0_0 p0_1 p0_2 p1 p2 R w).mp h)
noncomputable def cayleyref21_clash.ann : Ann where
  loops := fun | 2 => [(1, .sc .adr), (2, .sc .adr), (4, .sc (.int .i64))] | 5 => [(1, .sc .adr), (2, .sc .adr), (4, .sc (.int .i64)), (5, .sc (.int .i64))] | _ => []
  joins := fun | 9 => some [(1, .sc .adr), (2, .sc .adr), (4, .sc (.int .i64)), (5, .sc (.int .i64)), (6, .sc .adr), (7, .sc .adr), (48, .sc .bool)] | 11 => some [(1, .sc .adr), (2, .sc .adr), (4, .sc (.int .i64)), (5, .sc (.int .i64)), (6, .sc .adr), (7, .sc .adr), (78, .sc .bool)] | _ => none
noncomputable def cayleyref21_clash.body : Code := match Tryd.f96.body with | some c => c | none => .skip
def cayleyref21_clash.sh (p0_0 : Int) (p0_1 : Int) (p0_2 : Sl) (R : Ending → World → Prop) (w : World) : Prop :=
  New w (.cells #[(.int .i64 p0_0), (.int .i64 p0_1), (.slice p0_2.a p0_2.n p0_2.c)] 54) fun b1 w2 =>
  New w2 (.cells #[(.int .i64 0), (.int .i64 0), (.int .i64 0)] 100) fun b3 w4 =>
  LoopT (σ := Addr × Addr × Int × Unit) ((Addr.mk b1 0 none), (Addr.mk b3 0 none), 0, ()) w4 fun l5 g6 w7 I8 =>
    LoadT (.sc .sl) w7 (l5.1.add 2) fun x9 =>
    Br (decide ((l5.2.2.1 : Int) < ((x9.n : Nat) : Int)))
      (LoopT (σ := Addr × Addr × Int × Int × Unit) (l5.1, l5.2.1, l5.2.2.1, 0, ()) w7 fun l10 g11 w12 I13 =>
        Br (decide ((l10.2.2.2.1 : Int) < l10.2.2.1))
          (∃ S14 : World → Prop, S14 w12.drew ∧
          (LoadS S14 (.sc .sl) (l10.1.add 2) fun x15 =>
          Idx x15.a x15.n 3 l10.2.2.1 fun a16 =>
          LoadS S14 (.agg [.int .i64, .int .i64, .int .i64]) a16 fun x17 =>
          LoadS S14 (.sc .sl) (l10.1.add 2) fun x18 =>
          Idx x18.a x18.n 3 l10.2.2.2.1 fun a19 =>
          LoadS S14 (.agg [.int .i64, .int .i64, .int .i64]) a19 fun x20 =>
          (New w12.drew (.cells #[(.int .i64 0), (.int .i64 0), (.int .i64 0)] 100) fun b21 w22 =>
            S14 w22 ∧
            (New w22 (.cells #[(.int .i64 0), (.int .i64 0), (.int .i64 0)] 100) fun b23 w24 =>
              S14 w24 ∧
              (StoreN w24 (Addr.mk b21 0 none) [(.int .i64 x17.1), (.int .i64 x17.2.1), (.int .i64 x17.2.2.1)] fun w25 =>
                S14 w25 ∧
                (StoreN w25 (Addr.mk b23 0 none) [(.int .i64 x20.1), (.int .i64 x20.2.1), (.int .i64 x20.2.2.1)] fun w26 =>
                  Join (σ := Addr × Addr × Int × Int × Addr × Addr × Bool × Unit) (fun j29 g28 w36 =>
                    Br j29.2.2.2.2.2.2.1
                      (LoadT (.sc (.int .i64)) w36 (j29.2.2.2.2.1.add 2) fun x37 =>
                      LoadT (.sc (.int .i64)) w36 (j29.2.2.2.2.2.1.add 2) fun x38 =>
                      RunT Tryd.prog (.sc (.int .i64)) (Builtin.min_ #[3, 3] 3 #[(.int .i64 x37), (.int .i64 x38)]) w36 fun r39 w40 =>
                      LoadT (.sc (.int .i64)) w40 (j29.2.2.2.2.1.add 2) fun x41 =>
                      LoadT (.sc (.int .i64)) w40 (j29.2.2.2.2.2.1.add 2) fun x42 =>
                      RunT Tryd.prog (.sc (.int .i64)) (Builtin.max_ #[3, 3] 3 #[(.int .i64 x41), (.int .i64 x42)]) w40 fun r43 w44 =>
                      StoreN w44 j29.2.1 [(.int .i64 r39), (.int .i64 0), (.int .i64 r43)] fun w45 =>
                      LoadT (.agg [.int .i64, .int .i64, .int .i64]) w45 j29.2.1 fun x46 =>
                      R (.returned (.tuple #[(.agg #[(.int .i64 x46.1), (.int .i64 x46.2.1), (.int .i64 x46.2.2.1)]), (.bool true)])) w45)
                      (Join (σ := Addr × Addr × Int × Int × Addr × Addr × Bool × Unit) (fun j49 g48 w56 =>
                        Br j49.2.2.2.2.2.2.1
                          (LoadT (.sc (.int .i64)) w56 (j49.2.2.2.2.1.add 0) fun x57 =>
                          LoadT (.sc (.int .i64)) w56 (j49.2.2.2.2.2.1.add 0) fun x58 =>
                          RunT Tryd.prog (.sc (.int .i64)) (Builtin.min_ #[3, 3] 3 #[(.int .i64 x57), (.int .i64 x58)]) w56 fun r59 w60 =>
                          LoadT (.sc (.int .i64)) w60 (j49.2.2.2.2.1.add 0) fun x61 =>
                          LoadT (.sc (.int .i64)) w60 (j49.2.2.2.2.2.1.add 0) fun x62 =>
                          RunT Tryd.prog (.sc (.int .i64)) (Builtin.max_ #[3, 3] 3 #[(.int .i64 x61), (.int .i64 x62)]) w60 fun r63 w64 =>
                          StoreN w64 j49.2.1 [(.int .i64 r59), (.int .i64 0), (.int .i64 r63)] fun w65 =>
                          LoadT (.agg [.int .i64, .int .i64, .int .i64]) w65 j49.2.1 fun x66 =>
                          R (.returned (.tuple #[(.agg #[(.int .i64 x66.1), (.int .i64 x66.2.1), (.int .i64 x66.2.2.1)]), (.bool true)])) w65)
                          (I13 (j49.1, j49.2.1, j49.2.2.1, (IntKind.wrap .i64 (j49.2.2.2.1 + 1)), ()) w56)) fun J47 =>
                        LoadT (.sc (.int .i64)) w36 (j29.2.2.2.2.1.add 1) fun x50 =>
                        LoadT (.sc (.int .i64)) w36 (j29.2.2.2.2.2.1.add 1) fun x51 =>
                        Br ((x50 : Int) == x51)
                          (LoadT (.sc (.int .i64)) w36 (j29.2.2.2.2.1.add 2) fun x52 =>
                          LoadT (.sc (.int .i64)) w36 (j29.2.2.2.2.2.1.add 2) fun x53 =>
                          Br ((x52 : Int) == x53)
                            (LoadT (.sc (.int .i64)) w36 (j29.2.2.2.2.1.add 0) fun x54 =>
                            LoadT (.sc (.int .i64)) w36 (j29.2.2.2.2.2.1.add 0) fun x55 =>
                            J47 (j29.1, j29.2.1, j29.2.2.1, j29.2.2.2.1, j29.2.2.2.2.1, j29.2.2.2.2.2.1, ((x54 : Int) != x55), ()) w36)
                            (J47 (j29.1, j29.2.1, j29.2.2.1, j29.2.2.2.1, j29.2.2.2.2.1, j29.2.2.2.2.2.1, false, ()) w36))
                          (J47 (j29.1, j29.2.1, j29.2.2.1, j29.2.2.2.1, j29.2.2.2.2.1, j29.2.2.2.2.2.1, false, ()) w36))) fun J27 =>
                    LoadT (.sc (.int .i64)) w26 ((Addr.mk b21 0 none).add 1) fun x30 =>
                    LoadT (.sc (.int .i64)) w26 ((Addr.mk b23 0 none).add 1) fun x31 =>
                    Br ((x30 : Int) == x31)
                      (LoadT (.sc (.int .i64)) w26 ((Addr.mk b21 0 none).add 0) fun x32 =>
                      LoadT (.sc (.int .i64)) w26 ((Addr.mk b23 0 none).add 0) fun x33 =>
                      Br ((x32 : Int) == x33)
                        (LoadT (.sc (.int .i64)) w26 ((Addr.mk b21 0 none).add 2) fun x34 =>
                        LoadT (.sc (.int .i64)) w26 ((Addr.mk b23 0 none).add 2) fun x35 =>
                        J27 (l10.1, l10.2.1, l10.2.2.1, l10.2.2.2.1, (Addr.mk b21 0 none), (Addr.mk b23 0 none), ((x34 : Int) != x35), ()) w26)
                        (J27 (l10.1, l10.2.1, l10.2.2.1, l10.2.2.2.1, (Addr.mk b21 0 none), (Addr.mk b23 0 none), false, ()) w26))
                      (J27 (l10.1, l10.2.1, l10.2.2.1, l10.2.2.2.1, (Addr.mk b21 0 none), (Addr.mk b23 0 none), false, ()) w26))))) ∧
          (New w12.drew (.cells #[(.int .i64 0), (.int .i64 0), (.int .i64 0)] 100) fun b67 w68 =>
            S14 w68 ∧
            (New w68 (.cells #[(.int .i64 0), (.int .i64 0), (.int .i64 0)] 100) fun b69 w70 =>
              S14 w70 ∧
              (StoreN w70 (Addr.mk b69 0 none) [(.int .i64 x17.1), (.int .i64 x17.2.1), (.int .i64 x17.2.2.1)] fun w71 =>
                S14 w71 ∧
                (StoreN w71 (Addr.mk b67 0 none) [(.int .i64 x20.1), (.int .i64 x20.2.1), (.int .i64 x20.2.2.1)] fun w72 =>
                  Join (σ := Addr × Addr × Int × Int × Addr × Addr × Bool × Unit) (fun j75 g74 w82 =>
                    Br j75.2.2.2.2.2.2.1
                      (LoadT (.sc (.int .i64)) w82 (j75.2.2.2.2.1.add 2) fun x83 =>
                      LoadT (.sc (.int .i64)) w82 (j75.2.2.2.2.2.1.add 2) fun x84 =>
                      RunT Tryd.prog (.sc (.int .i64)) (Builtin.min_ #[3, 3] 3 #[(.int .i64 x83), (.int .i64 x84)]) w82 fun r85 w86 =>
                      LoadT (.sc (.int .i64)) w86 (j75.2.2.2.2.1.add 2) fun x87 =>
                      LoadT (.sc (.int .i64)) w86 (j75.2.2.2.2.2.1.add 2) fun x88 =>
                      RunT Tryd.prog (.sc (.int .i64)) (Builtin.max_ #[3, 3] 3 #[(.int .i64 x87), (.int .i64 x88)]) w86 fun r89 w90 =>
                      StoreN w90 j75.2.1 [(.int .i64 r85), (.int .i64 0), (.int .i64 r89)] fun w91 =>
                      LoadT (.agg [.int .i64, .int .i64, .int .i64]) w91 j75.2.1 fun x92 =>
                      R (.returned (.tuple #[(.agg #[(.int .i64 x92.1), (.int .i64 x92.2.1), (.int .i64 x92.2.2.1)]), (.bool true)])) w91)
                      (Join (σ := Addr × Addr × Int × Int × Addr × Addr × Bool × Unit) (fun j95 g94 w102 =>
                        Br j95.2.2.2.2.2.2.1
                          (LoadT (.sc (.int .i64)) w102 (j95.2.2.2.2.1.add 0) fun x103 =>
                          LoadT (.sc (.int .i64)) w102 (j95.2.2.2.2.2.1.add 0) fun x104 =>
                          RunT Tryd.prog (.sc (.int .i64)) (Builtin.min_ #[3, 3] 3 #[(.int .i64 x103), (.int .i64 x104)]) w102 fun r105 w106 =>
                          LoadT (.sc (.int .i64)) w106 (j95.2.2.2.2.1.add 0) fun x107 =>
                          LoadT (.sc (.int .i64)) w106 (j95.2.2.2.2.2.1.add 0) fun x108 =>
                          RunT Tryd.prog (.sc (.int .i64)) (Builtin.max_ #[3, 3] 3 #[(.int .i64 x107), (.int .i64 x108)]) w106 fun r109 w110 =>
                          StoreN w110 j95.2.1 [(.int .i64 r105), (.int .i64 0), (.int .i64 r109)] fun w111 =>
                          LoadT (.agg [.int .i64, .int .i64, .int .i64]) w111 j95.2.1 fun x112 =>
                          R (.returned (.tuple #[(.agg #[(.int .i64 x112.1), (.int .i64 x112.2.1), (.int .i64 x112.2.2.1)]), (.bool true)])) w111)
                          (I13 (j95.1, j95.2.1, j95.2.2.1, (IntKind.wrap .i64 (j95.2.2.2.1 + 1)), ()) w102)) fun J93 =>
                        LoadT (.sc (.int .i64)) w82 (j75.2.2.2.2.1.add 1) fun x96 =>
                        LoadT (.sc (.int .i64)) w82 (j75.2.2.2.2.2.1.add 1) fun x97 =>
                        Br ((x96 : Int) == x97)
                          (LoadT (.sc (.int .i64)) w82 (j75.2.2.2.2.1.add 2) fun x98 =>
                          LoadT (.sc (.int .i64)) w82 (j75.2.2.2.2.2.1.add 2) fun x99 =>
                          Br ((x98 : Int) == x99)
                            (LoadT (.sc (.int .i64)) w82 (j75.2.2.2.2.1.add 0) fun x100 =>
                            LoadT (.sc (.int .i64)) w82 (j75.2.2.2.2.2.1.add 0) fun x101 =>
                            J93 (j75.1, j75.2.1, j75.2.2.1, j75.2.2.2.1, j75.2.2.2.2.1, j75.2.2.2.2.2.1, ((x100 : Int) != x101), ()) w82)
                            (J93 (j75.1, j75.2.1, j75.2.2.1, j75.2.2.2.1, j75.2.2.2.2.1, j75.2.2.2.2.2.1, false, ()) w82))
                          (J93 (j75.1, j75.2.1, j75.2.2.1, j75.2.2.2.1, j75.2.2.2.2.1, j75.2.2.2.2.2.1, false, ()) w82))) fun J73 =>
                    LoadT (.sc (.int .i64)) w72 ((Addr.mk b69 0 none).add 1) fun x76 =>
                    LoadT (.sc (.int .i64)) w72 ((Addr.mk b67 0 none).add 1) fun x77 =>
                    Br ((x76 : Int) == x77)
                      (LoadT (.sc (.int .i64)) w72 ((Addr.mk b69 0 none).add 0) fun x78 =>
                      LoadT (.sc (.int .i64)) w72 ((Addr.mk b67 0 none).add 0) fun x79 =>
                      Br ((x78 : Int) == x79)
                        (LoadT (.sc (.int .i64)) w72 ((Addr.mk b69 0 none).add 2) fun x80 =>
                        LoadT (.sc (.int .i64)) w72 ((Addr.mk b67 0 none).add 2) fun x81 =>
                        J73 (l10.1, l10.2.1, l10.2.2.1, l10.2.2.2.1, (Addr.mk b69 0 none), (Addr.mk b67 0 none), ((x80 : Int) != x81), ()) w72)
                        (J73 (l10.1, l10.2.1, l10.2.2.1, l10.2.2.2.1, (Addr.mk b69 0 none), (Addr.mk b67 0 none), false, ()) w72))
                      (J73 (l10.1, l10.2.1, l10.2.2.1, l10.2.2.2.1, (Addr.mk b69 0 none), (Addr.mk b67 0 none), false, ()) w72)))))))
          (I8 (l10.1, l10.2.1, (IntKind.wrap .i64 (l10.2.2.1 + 1)), ()) w12))
      (StoreN w7 l5.2.1 [(.int .i64 0), (.int .i64 0), (.int .i64 0)] fun w113 =>
      LoadT (.agg [.int .i64, .int .i64, .int .i64]) w113 l5.2.1 fun x114 =>
      R (.returned (.tuple #[(.agg #[(.int .i64 x114.1), (.int .i64 x114.2.1), (.int .i64 x114.2.2.1)]), (.bool false)])) w113)
theorem cayleyref21_clash.eq (p0_0 : Int) (p0_1 : Int) (p0_2 : Sl) (R : Ending → World → Prop) (w : World) : cayleyref21_clash.sh p0_0 p0_1 p0_2 R w = wpc Tryd.prog cayleyref21_clash.ann cayleyref21_clash.body (fnKs Tryd.prog Tryd.f96 R) [] (env0 #[(.agg #[(.int .i64 p0_0), (.int .i64 p0_1), (.slice p0_2.a p0_2.n p0_2.c)])]) w := by kernel_rfl
theorem cayleyref21_clash.calls (p0_0 : Int) (p0_1 : Int) (p0_2 : Sl) {R : Ending → World → Prop} {w : World} (h : cayleyref21_clash.sh p0_0 p0_1 p0_2 R w) : Calls Tryd.prog 96 #[(.agg #[(.int .i64 p0_0), (.int .i64 p0_1), (.slice p0_2.a p0_2.n p0_2.c)])] w R :=
  calls_of_wpc mixed Tryd.func96 (by kernel_rfl) (by kernel_rfl) ((cayleyref21_clash.eq p0_0 p0_1 p0_2 R w).mp h)
noncomputable def cayleyref21_degree.ann : Ann where
  loops := fun | 3 => [(1, .sc (.int .i64)), (2, .sc .adr), (5, .sc (.int .i64)), (6, .sc (.int .i64))] | _ => []
  joins := fun | 7 => some [(1, .sc (.int .i64)), (2, .sc .adr), (5, .sc (.int .i64)), (6, .sc (.int .i64))] | _ => none
noncomputable def cayleyref21_degree.body : Code := match Tryd.f92.body with | some c => c | none => .skip
def cayleyref21_degree.sh (p0_0 : Int) (p0_1 : Int) (p0_2 : Sl) (p1 : Int) (R : Ending → World → Prop) (w : World) : Prop :=
  New w (.cells #[(.int .i64 p0_0), (.int .i64 p0_1), (.slice p0_2.a p0_2.n p0_2.c)] 54) fun b1 w2 =>
  LoopT (σ := Int × Addr × Int × Int × Unit) (p1, (Addr.mk b1 0 none), 0, 0, ()) w2 fun l3 g4 w5 I6 =>
    LoadT (.sc .sl) w5 (l3.2.1.add 2) fun x7 =>
    Br (decide ((l3.2.2.2.1 : Int) < ((x7.n : Nat) : Int)))
      (Join (σ := Int × Addr × Int × Int × Unit) (fun j10 g9 w14 =>
        LoadT (.sc .sl) w14 (j10.2.1.add 2) fun x15 =>
        Idx x15.a x15.n 3 j10.2.2.2.1 fun a16 =>
        LoadT (.sc (.int .i64)) w14 (a16.add 2) fun x17 =>
        Br ((x17 : Int) == j10.1)
          (I6 (j10.1, j10.2.1, (IntKind.wrap .i64 (j10.2.2.1 + 1)), (IntKind.wrap .i64 (j10.2.2.2.1 + 1)), ()) w14)
          (I6 (j10.1, j10.2.1, j10.2.2.1, (IntKind.wrap .i64 (j10.2.2.2.1 + 1)), ()) w14)) fun J8 =>
        LoadT (.sc .sl) w5 (l3.2.1.add 2) fun x11 =>
        Idx x11.a x11.n 3 l3.2.2.2.1 fun a12 =>
        LoadT (.sc (.int .i64)) w5 (a12.add 0) fun x13 =>
        Br ((x13 : Int) == l3.1)
          (J8 (l3.1, l3.2.1, (IntKind.wrap .i64 (l3.2.2.1 + 1)), l3.2.2.2.1, ()) w5)
          (J8 (l3.1, l3.2.1, l3.2.2.1, l3.2.2.2.1, ()) w5))
      (R (.returned (.int .i64 l3.2.2.1)) w5)
theorem cayleyref21_degree.eq (p0_0 : Int) (p0_1 : Int) (p0_2 : Sl) (p1 : Int) (R : Ending → World → Prop) (w : World) : cayleyref21_degree.sh p0_0 p0_1 p0_2 p1 R w = wpc Tryd.prog cayleyref21_degree.ann cayleyref21_degree.body (fnKs Tryd.prog Tryd.f92 R) [] (env0 #[(.agg #[(.int .i64 p0_0), (.int .i64 p0_1), (.slice p0_2.a p0_2.n p0_2.c)]), (.int .i64 p1)]) w := by kernel_rfl
theorem cayleyref21_degree.calls (p0_0 : Int) (p0_1 : Int) (p0_2 : Sl) (p1 : Int) {R : Ending → World → Prop} {w : World} (h : cayleyref21_degree.sh p0_0 p0_1 p0_2 p1 R w) : Calls Tryd.prog 92 #[(.agg #[(.int .i64 p0_0), (.int .i64 p0_1), (.slice p0_2.a p0_2.n p0_2.c)]), (.int .i64 p1)] w R :=
  calls_of_wpc mixed Tryd.func92 (by kernel_rfl) (by kernel_rfl) ((cayleyref21_degree.eq p0_0 p0_1 p0_2 p1 R w).mp h)
noncomputable def cayleyref21_Folded.ann : Ann where
  loops := fun | 1 => [(1, .sc .adr), (2, .sc .adr)] | _ => []
  joins := fun | _ => none
noncomputable def cayleyref21_Folded.body : Code := match Tryd.f85.body with | some c => c | none => .skip
def cayleyref21_Folded.sh (p0_0 : Int) (p0_1 : Int) (p0_2 : Sl) (R : Ending → World → Prop) (w : World) : Prop :=
  New w (.cells #[(.int .i64 p0_0), (.int .i64 p0_1), (.slice p0_2.a p0_2.n p0_2.c)] 54) fun b1 w2 =>
  New w2 (.cells #[(.int .i64 0), (.int .i64 0), (.slice none 0 0)] 54) fun b3 w4 =>
  LoopT (σ := Addr × Addr × Unit) ((Addr.mk b1 0 none), (Addr.mk b3 0 none), ()) w4 fun l5 g6 w7 I8 =>
    LoadT (.agg [.int .i64, .int .i64, .sl]) w7 l5.1 fun x9 =>
    CallN Tryd.prog 96 #[(.agg #[(.int .i64 x9.1), (.int .i64 x9.2.1), (.slice x9.2.2.1.a x9.2.2.1.n x9.2.2.1.c)])] [.agg [.int .i64, .int .i64, .int .i64], .sc .bool] w7 (fun r10 w11 =>
      New w11 (.cells #[(.int .i64 0), (.int .i64 0), (.int .i64 0)] 100) fun b13 w14 =>
      StoreN w14 (Addr.mk b13 0 none) [(.int .i64 r10.1.1), (.int .i64 r10.1.2.1), (.int .i64 r10.1.2.2.1)] fun w15 =>
      Br (!r10.2.1)
        (LoadT (.agg [.int .i64, .int .i64, .sl]) w15 l5.1 fun x16 =>
        StoreN w15 l5.2.1 [(.int .i64 x16.1), (.int .i64 x16.2.1), (.slice x16.2.2.1.a x16.2.2.1.n x16.2.2.1.c)] fun w17 =>
        LoadT (.agg [.int .i64, .int .i64, .sl]) w17 l5.2.1 fun x18 =>
        R (.returned (.agg #[(.int .i64 x18.1), (.int .i64 x18.2.1), (.slice x18.2.2.1.a x18.2.2.1.n x18.2.2.1.c)])) w17)
        (LoadT (.agg [.int .i64, .int .i64, .sl]) w15 l5.1 fun x19 =>
        LoadT (.sc (.int .i64)) w15 ((Addr.mk b13 0 none).add 0) fun x20 =>
        LoadT (.sc (.int .i64)) w15 ((Addr.mk b13 0 none).add 2) fun x21 =>
        CallT Tryd.prog 97 #[(.agg #[(.int .i64 x19.1), (.int .i64 x19.2.1), (.slice x19.2.2.1.a x19.2.2.1.n x19.2.2.1.c)]), (.int .i64 x20), (.int .i64 x21)] (.agg [.int .i64, .int .i64, .sl]) w15 (fun r22 w23 =>
          StoreN w23 l5.1 [(.int .i64 r22.1), (.int .i64 r22.2.1), (.slice r22.2.2.1.a r22.2.2.1.n r22.2.2.1.c)] fun w25 =>
          I8 (l5.1, l5.2.1, ()) w25) (fun h24 w23 => R (.panicked h24) w23))) (fun h12 w11 => R (.panicked h12) w11)
theorem cayleyref21_Folded.eq (p0_0 : Int) (p0_1 : Int) (p0_2 : Sl) (R : Ending → World → Prop) (w : World) : cayleyref21_Folded.sh p0_0 p0_1 p0_2 R w = wpc Tryd.prog cayleyref21_Folded.ann cayleyref21_Folded.body (fnKs Tryd.prog Tryd.f85 R) [] (env0 #[(.agg #[(.int .i64 p0_0), (.int .i64 p0_1), (.slice p0_2.a p0_2.n p0_2.c)])]) w := by kernel_rfl
theorem cayleyref21_Folded.calls (p0_0 : Int) (p0_1 : Int) (p0_2 : Sl) {R : Ending → World → Prop} {w : World} (h : cayleyref21_Folded.sh p0_0 p0_1 p0_2 R w) : Calls Tryd.prog 85 #[(.agg #[(.int .i64 p0_0), (.int .i64 p0_1), (.slice p0_2.a p0_2.n p0_2.c)])] w R :=
  calls_of_wpc mixed Tryd.func85 (by kernel_rfl) (by kernel_rfl) ((cayleyref21_Folded.eq p0_0 p0_1 p0_2 R w).mp h)
noncomputable def cayleyref21_Pruned.ann : Ann where
  loops := fun | 2 => [(1, .sc .bool), (2, .sc .adr), (4, .sc .adr), (5, .sc .bool)] | 5 => [(1, .sc .bool), (2, .sc .adr), (4, .sc .adr), (5, .sc .bool), (6, .sc (.int .i64))] | _ => []
  joins := fun | 7 => some [(1, .sc .bool), (2, .sc .adr), (4, .sc .adr), (5, .sc .bool), (6, .sc (.int .i64))] | 9 => some [(1, .sc .bool), (2, .sc .adr), (4, .sc .adr), (5, .sc .bool), (6, .sc (.int .i64)), (53, .sc .bool)] | _ => none
noncomputable def cayleyref21_Pruned.body : Code := match Tryd.f71.body with | some c => c | none => .skip
def cayleyref21_Pruned.sh (p0_0 : Int) (p0_1 : Int) (p0_2 : Sl) (p1 : Bool) (R : Ending → World → Prop) (w : World) : Prop :=
  New w (.cells #[(.int .i64 p0_0), (.int .i64 p0_1), (.slice p0_2.a p0_2.n p0_2.c)] 54) fun b1 w2 =>
  New w2 (.cells #[(.int .i64 0), (.int .i64 0), (.slice none 0 0)] 54) fun b3 w4 =>
  LoopT (σ := Bool × Addr × Addr × Bool × Unit) (p1, (Addr.mk b1 0 none), (Addr.mk b3 0 none), true, ()) w4 fun l5 g6 w7 I8 =>
    Br l5.2.2.2.1
      (LoopT (σ := Bool × Addr × Addr × Bool × Int × Unit) (l5.1, l5.2.1, l5.2.2.1, false, 0, ()) w7 fun l9 g10 w11 I12 =>
        Join (σ := Bool × Addr × Addr × Bool × Int × Unit) (fun j15 g14 w17 =>
          LoadT (.sc .sl) w17 (j15.2.1.add 2) fun x18 =>
          Idx x18.a x18.n 3 j15.2.2.2.2.1 fun a19 =>
          LoadT (.agg [.int .i64, .int .i64, .int .i64]) w17 a19 fun x20 =>
          New w17 (.cells #[(.int .i64 0), (.int .i64 0), (.int .i64 0)] 100) fun b21 w22 =>
          StoreN w22 (Addr.mk b21 0 none) [(.int .i64 x20.1), (.int .i64 x20.2.1), (.int .i64 x20.2.2.1)] fun w23 =>
          Join (σ := Bool × Addr × Addr × Bool × Int × Bool × Unit) (fun j26 g25 w45 =>
            Br j26.2.2.2.2.2.1
              (New w45 (.cells #[] 100) fun b46 w47 =>
              LoadT (.sc .sl) w47 (j26.2.1.add 2) fun x48 =>
              RunT Tryd.prog (.sc .sl) (Instr.sliceAt 52 (.slice x48.a x48.n x48.c) none (some (.int .i64 j26.2.2.2.2.1)) none) w47 fun r49 w50 =>
              RunT Tryd.prog (.sc .sl) (Builtin.append_ #[52, 52] 52 #[(.slice (some (Addr.mk b46 0 none)) 0 0), (.slice r49.a r49.n r49.c)]) w50 fun r51 w52 =>
              LoadT (.sc .sl) w52 (j26.2.1.add 2) fun x53 =>
              RunT Tryd.prog (.sc .sl) (Instr.sliceAt 52 (.slice x53.a x53.n x53.c) (some (.int .i64 (IntKind.wrap .i64 (j26.2.2.2.2.1 + 1)))) none none) w52 fun r54 w55 =>
              RunT Tryd.prog (.sc .sl) (Builtin.append_ #[52, 52] 52 #[(.slice r51.a r51.n r51.c), (.slice r54.a r54.n r54.c)]) w55 fun r56 w57 =>
              Store1 w57 (j26.2.1.add 2) (.slice r56.a r56.n r56.c) fun w58 =>
              I12 (j26.1, j26.2.1, j26.2.2.1, true, (IntKind.wrap .i64 (j26.2.2.2.2.1 + 1)), ()) w58)
              (I12 (j26.1, j26.2.1, j26.2.2.1, j26.2.2.2.1, (IntKind.wrap .i64 (j26.2.2.2.2.1 + 1)), ()) w45)) fun J24 =>
            LoadT (.agg [.int .i64, .int .i64, .sl]) w23 j15.2.1 fun x27 =>
            LoadT (.sc (.int .i64)) w23 ((Addr.mk b21 0 none).add 0) fun x28 =>
            CallT Tryd.prog 92 #[(.agg #[(.int .i64 x27.1), (.int .i64 x27.2.1), (.slice x27.2.2.1.a x27.2.2.1.n x27.2.2.1.c)]), (.int .i64 x28)] (.sc (.int .i64)) w23 (fun r29 w30 =>
              Br ((r29 : Int) == 1)
                (LoadT (.sc (.int .i64)) w30 ((Addr.mk b21 0 none).add 0) fun x32 =>
                Br ((x32 : Int) != 0)
                  (J24 (j15.1, j15.2.1, j15.2.2.1, j15.2.2.2.1, j15.2.2.2.2.1, true, ()) w30)
                  (Br j15.1
                    (J24 (j15.1, j15.2.1, j15.2.2.1, j15.2.2.2.1, j15.2.2.2.2.1, true, ()) w30)
                    (LoadT (.agg [.int .i64, .int .i64, .sl]) w30 j15.2.1 fun x33 =>
                    LoadT (.sc (.int .i64)) w30 ((Addr.mk b21 0 none).add 2) fun x34 =>
                    CallT Tryd.prog 92 #[(.agg #[(.int .i64 x33.1), (.int .i64 x33.2.1), (.slice x33.2.2.1.a x33.2.2.1.n x33.2.2.1.c)]), (.int .i64 x34)] (.sc (.int .i64)) w30 (fun r35 w36 =>
                      Br ((r35 : Int) == 1)
                        (LoadT (.sc (.int .i64)) w36 ((Addr.mk b21 0 none).add 2) fun x38 =>
                        Br ((x38 : Int) != 0)
                          (J24 (j15.1, j15.2.1, j15.2.2.1, j15.2.2.2.1, j15.2.2.2.2.1, true, ()) w36)
                          (J24 (j15.1, j15.2.1, j15.2.2.1, j15.2.2.2.1, j15.2.2.2.2.1, j15.1, ()) w36))
                        (J24 (j15.1, j15.2.1, j15.2.2.1, j15.2.2.2.1, j15.2.2.2.2.1, false, ()) w36)) (fun h37 w36 => R (.panicked h37) w36))))
                (LoadT (.agg [.int .i64, .int .i64, .sl]) w30 j15.2.1 fun x39 =>
                LoadT (.sc (.int .i64)) w30 ((Addr.mk b21 0 none).add 2) fun x40 =>
                CallT Tryd.prog 92 #[(.agg #[(.int .i64 x39.1), (.int .i64 x39.2.1), (.slice x39.2.2.1.a x39.2.2.1.n x39.2.2.1.c)]), (.int .i64 x40)] (.sc (.int .i64)) w30 (fun r41 w42 =>
                  Br ((r41 : Int) == 1)
                    (LoadT (.sc (.int .i64)) w42 ((Addr.mk b21 0 none).add 2) fun x44 =>
                    Br ((x44 : Int) != 0)
                      (J24 (j15.1, j15.2.1, j15.2.2.1, j15.2.2.2.1, j15.2.2.2.2.1, true, ()) w42)
                      (J24 (j15.1, j15.2.1, j15.2.2.1, j15.2.2.2.1, j15.2.2.2.2.1, j15.1, ()) w42))
                    (J24 (j15.1, j15.2.1, j15.2.2.1, j15.2.2.2.1, j15.2.2.2.2.1, false, ()) w42)) (fun h43 w42 => R (.panicked h43) w42))) (fun h31 w30 => R (.panicked h31) w30)) fun J13 =>
          LoadT (.sc .sl) w11 (l9.2.1.add 2) fun x16 =>
          Br (decide ((l9.2.2.2.2.1 : Int) < ((x16.n : Nat) : Int)))
            (Br (!l9.2.2.2.1)
              (J13 (l9.1, l9.2.1, l9.2.2.1, l9.2.2.2.1, l9.2.2.2.2.1, ()) w11)
              (I8 (l9.1, l9.2.1, l9.2.2.1, l9.2.2.2.1, ()) w11))
            (Br false
              (J13 (l9.1, l9.2.1, l9.2.2.1, l9.2.2.2.1, l9.2.2.2.2.1, ()) w11)
              (I8 (l9.1, l9.2.1, l9.2.2.1, l9.2.2.2.1, ()) w11)))
      (LoadT (.agg [.int .i64, .int .i64, .sl]) w7 l5.2.1 fun x59 =>
      StoreN w7 l5.2.2.1 [(.int .i64 x59.1), (.int .i64 x59.2.1), (.slice x59.2.2.1.a x59.2.2.1.n x59.2.2.1.c)] fun w60 =>
      LoadT (.agg [.int .i64, .int .i64, .sl]) w60 l5.2.2.1 fun x61 =>
      R (.returned (.agg #[(.int .i64 x61.1), (.int .i64 x61.2.1), (.slice x61.2.2.1.a x61.2.2.1.n x61.2.2.1.c)])) w60)
theorem cayleyref21_Pruned.eq (p0_0 : Int) (p0_1 : Int) (p0_2 : Sl) (p1 : Bool) (R : Ending → World → Prop) (w : World) : cayleyref21_Pruned.sh p0_0 p0_1 p0_2 p1 R w = wpc Tryd.prog cayleyref21_Pruned.ann cayleyref21_Pruned.body (fnKs Tryd.prog Tryd.f71 R) [] (env0 #[(.agg #[(.int .i64 p0_0), (.int .i64 p0_1), (.slice p0_2.a p0_2.n p0_2.c)]), (.bool p1)]) w := by kernel_rfl
theorem cayleyref21_Pruned.calls (p0_0 : Int) (p0_1 : Int) (p0_2 : Sl) (p1 : Bool) {R : Ending → World → Prop} {w : World} (h : cayleyref21_Pruned.sh p0_0 p0_1 p0_2 p1 R w) : Calls Tryd.prog 71 #[(.agg #[(.int .i64 p0_0), (.int .i64 p0_1), (.slice p0_2.a p0_2.n p0_2.c)]), (.bool p1)] w R :=
  calls_of_wpc mixed Tryd.func71 (by kernel_rfl) (by kernel_rfl) ((cayleyref21_Pruned.eq p0_0 p0_1 p0_2 p1 R w).mp h)
noncomputable def cayleyref21_Stallings.ann : Ann where
  loops := fun | _ => []
  joins := fun | _ => none
noncomputable def cayleyref21_Stallings.body : Code := match Tryd.f51.body with | some c => c | none => .skip
def cayleyref21_Stallings.sh (p0_0 : Int) (p0_1 : Int) (p0_2 : Sl) (R : Ending → World → Prop) (w : World) : Prop :=
  New w (.cells #[(.int .i64 p0_0), (.int .i64 p0_1), (.slice p0_2.a p0_2.n p0_2.c)] 54) fun b1 w2 =>
  New w2 (.cells #[(.int .i64 0), (.int .i64 0), (.slice none 0 0), (.slice none 0 0)] 27) fun b3 w4 =>
  LoadT (.agg [.int .i64, .int .i64, .sl]) w4 (Addr.mk b1 0 none) fun x5 =>
  CallT Tryd.prog 85 #[(.agg #[(.int .i64 x5.1), (.int .i64 x5.2.1), (.slice x5.2.2.1.a x5.2.2.1.n x5.2.2.1.c)])] (.agg [.int .i64, .int .i64, .sl]) w4 (fun r6 w7 =>
    CallT Tryd.prog 71 #[(.agg #[(.int .i64 r6.1), (.int .i64 r6.2.1), (.slice r6.2.2.1.a r6.2.2.1.n r6.2.2.1.c)]), (.bool false)] (.agg [.int .i64, .int .i64, .sl]) w7 (fun r9 w10 =>
      CallT Tryd.prog 70 #[(.agg #[(.int .i64 r9.1), (.int .i64 r9.2.1), (.slice r9.2.2.1.a r9.2.2.1.n r9.2.2.1.c)]), (.int .i64 0)] (.agg [.int .i64, .int .i64, .sl, .sl]) w10 (fun r12 w13 =>
        StoreN w13 (Addr.mk b3 0 none) [(.int .i64 r12.1), (.int .i64 r12.2.1), (.slice r12.2.2.1.a r12.2.2.1.n r12.2.2.1.c), (.slice r12.2.2.2.1.a r12.2.2.2.1.n r12.2.2.2.1.c)] fun w15 =>
        LoadT (.agg [.int .i64, .int .i64, .sl, .sl]) w15 (Addr.mk b3 0 none) fun x16 =>
        R (.returned (.agg #[(.int .i64 x16.1), (.int .i64 x16.2.1), (.slice x16.2.2.1.a x16.2.2.1.n x16.2.2.1.c), (.slice x16.2.2.2.1.a x16.2.2.2.1.n x16.2.2.2.1.c)])) w15) (fun h14 w13 => R (.panicked h14) w13)) (fun h11 w10 => R (.panicked h11) w10)) (fun h8 w7 => R (.panicked h8) w7)
theorem cayleyref21_Stallings.eq (p0_0 : Int) (p0_1 : Int) (p0_2 : Sl) (R : Ending → World → Prop) (w : World) : cayleyref21_Stallings.sh p0_0 p0_1 p0_2 R w = wpc Tryd.prog cayleyref21_Stallings.ann cayleyref21_Stallings.body (fnKs Tryd.prog Tryd.f51 R) [] (env0 #[(.agg #[(.int .i64 p0_0), (.int .i64 p0_1), (.slice p0_2.a p0_2.n p0_2.c)])]) w := by kernel_rfl
theorem cayleyref21_Stallings.calls (p0_0 : Int) (p0_1 : Int) (p0_2 : Sl) {R : Ending → World → Prop} {w : World} (h : cayleyref21_Stallings.sh p0_0 p0_1 p0_2 R w) : Calls Tryd.prog 51 #[(.agg #[(.int .i64 p0_0), (.int .i64 p0_1), (.slice p0_2.a p0_2.n p0_2.c)])] w R :=
  calls_of_wpc mixed Tryd.func51 (by kernel_rfl) (by kernel_rfl) ((cayleyref21_Stallings.eq p0_0 p0_1 p0_2 R w).mp h)
noncomputable def cayleyref21_Fold.ann : Ann where
  loops := fun | 7 => [(0, .sc (.int .i64)), (1, .sc .sl), (4, .sc .adr), (6, .sc .adr), (7, .sc (.int .i64))] | _ => []
  joins := fun | 2 => some [(0, .sc (.int .i64)), (1, .sc .sl), (4, .sc .adr), (14, .sc .bool)] | _ => none
noncomputable def cayleyref21_Fold.body : Code := match Tryd.f13.body with | some c => c | none => .skip
def cayleyref21_Fold.sh (p0 : Int) (p1 : Sl) (R : Ending → World → Prop) (w : World) : Prop :=
  New w (.cells #[(.int .i64 0), (.int .i64 0), (.slice none 0 0), (.slice none 0 0)] 27) fun b1 w2 =>
  Join (σ := Int × Sl × Addr × Bool × Unit) (fun j5 g4 w6 =>
    Br j5.2.2.2.1
      (StoreN w6 j5.2.2.1 [(.int .i64 0), (.int .i64 0), (.slice none 0 0), (.slice none 0 0)] fun w7 =>
      LoadT (.agg [.int .i64, .int .i64, .sl, .sl]) w7 j5.2.2.1 fun x8 =>
      R (.returned (.tuple #[(.agg #[(.int .i64 x8.1), (.int .i64 x8.2.1), (.slice x8.2.2.1.a x8.2.2.1.n x8.2.2.1.c), (.slice x8.2.2.2.1.a x8.2.2.2.1.n x8.2.2.2.1.c)]), (.int .i64 1)])) w7)
      (CallT Tryd.prog 11 #[(.slice j5.2.1.a j5.2.1.n j5.2.1.c), (.int .i64 20000)] (.sc .bool) w6 (fun r9 w10 =>
        Br (!r9)
          (StoreN w10 j5.2.2.1 [(.int .i64 0), (.int .i64 0), (.slice none 0 0), (.slice none 0 0)] fun w12 =>
          LoadT (.agg [.int .i64, .int .i64, .sl, .sl]) w12 j5.2.2.1 fun x13 =>
          R (.returned (.tuple #[(.agg #[(.int .i64 x13.1), (.int .i64 x13.2.1), (.slice x13.2.2.1.a x13.2.2.1.n x13.2.2.1.c), (.slice x13.2.2.2.1.a x13.2.2.2.1.n x13.2.2.2.1.c)]), (.int .i64 2)])) w12)
          (New w10 (.cells #[(.int .i64 0), (.int .i64 0), (.slice none 0 0)] 54) fun b14 w15 =>
          StoreN w15 (Addr.mk b14 0 none) [(.int .i64 j5.1), (.int .i64 1), (.slice none 0 0)] fun w16 =>
          LoopT (σ := Int × Sl × Addr × Addr × Int × Unit) (j5.1, j5.2.1, j5.2.2.1, (Addr.mk b14 0 none), 0, ()) w16 fun l17 g18 w19 I20 =>
            Br (decide ((l17.2.2.2.2.1 : Int) < ((l17.2.1.n : Nat) : Int)))
              (Idx l17.2.1.a l17.2.1.n 1 l17.2.2.2.2.1 fun a21 =>
              LoadT (.sc .str) w19 a21 fun x22 =>
              CallT Tryd.prog 22 #[(.int .i64 l17.1), (.string x22)] (.sc .bool) w19 (fun r23 w24 =>
                Br (!r23)
                  (StoreN w24 l17.2.2.1 [(.int .i64 0), (.int .i64 0), (.slice none 0 0), (.slice none 0 0)] fun w26 =>
                  LoadT (.agg [.int .i64, .int .i64, .sl, .sl]) w26 l17.2.2.1 fun x27 =>
                  R (.returned (.tuple #[(.agg #[(.int .i64 x27.1), (.int .i64 x27.2.1), (.slice x27.2.2.1.a x27.2.2.1.n x27.2.2.1.c), (.slice x27.2.2.2.1.a x27.2.2.2.1.n x27.2.2.2.1.c)]), (.int .i64 4)])) w26)
                  (∃ S28 : World → Prop, S28 w24.drew ∧
                  (LoadS S28 (.agg [.int .i64, .int .i64, .sl]) l17.2.2.2.1 fun x29 =>
                  Idx l17.2.1.a l17.2.1.n 1 l17.2.2.2.2.1 fun a30 =>
                  LoadS S28 (.sc .str) a30 fun x31 =>
                  CallT Tryd.prog 25 #[(.string x31)] (.sc .str) w24.drew (fun r32 w33 =>
                      S28 w33 ∧
                      (CallT Tryd.prog 50 #[(.agg #[(.int .i64 x29.1), (.int .i64 x29.2.1), (.slice x29.2.2.1.a x29.2.2.1.n x29.2.2.1.c)]), (.string r32)] (.agg [.int .i64, .int .i64, .sl]) w33 (fun r35 w36 =>
                          S28 w36 ∧
                          (StoreN w36 l17.2.2.2.1 [(.int .i64 r35.1), (.int .i64 r35.2.1), (.slice r35.2.2.1.a r35.2.2.1.n r35.2.2.1.c)] fun w38 =>
                            I20 (l17.1, l17.2.1, l17.2.2.1, l17.2.2.2.1, (IntKind.wrap .i64 (l17.2.2.2.2.1 + 1)), ()) w38)) (fun h37 w36 => R (.panicked h37) w36))) (fun h34 w33 => R (.panicked h34) w33)))) (fun h25 w24 => R (.panicked h25) w24))
              (LoadT (.agg [.int .i64, .int .i64, .sl]) w19 l17.2.2.2.1 fun x39 =>
              CallT Tryd.prog 51 #[(.agg #[(.int .i64 x39.1), (.int .i64 x39.2.1), (.slice x39.2.2.1.a x39.2.2.1.n x39.2.2.1.c)])] (.agg [.int .i64, .int .i64, .sl, .sl]) w19 (fun r40 w41 =>
                New w41 (.cells #[(.int .i64 0), (.int .i64 0), (.slice none 0 0), (.slice none 0 0)] 27) fun b43 w44 =>
                StoreN w44 (Addr.mk b43 0 none) [(.int .i64 r40.1), (.int .i64 r40.2.1), (.slice r40.2.2.1.a r40.2.2.1.n r40.2.2.1.c), (.slice r40.2.2.2.1.a r40.2.2.2.1.n r40.2.2.2.1.c)] fun w45 =>
                LoadT (.sc .sl) w45 ((Addr.mk b43 0 none).add 2) fun x46 =>
                Br (decide ((((x46.n : Nat) : Int) : Int) > 2000))
                  (StoreN w45 l17.2.2.1 [(.int .i64 0), (.int .i64 0), (.slice none 0 0), (.slice none 0 0)] fun w47 =>
                  LoadT (.agg [.int .i64, .int .i64, .sl, .sl]) w47 l17.2.2.1 fun x48 =>
                  R (.returned (.tuple #[(.agg #[(.int .i64 x48.1), (.int .i64 x48.2.1), (.slice x48.2.2.1.a x48.2.2.1.n x48.2.2.1.c), (.slice x48.2.2.2.1.a x48.2.2.2.1.n x48.2.2.2.1.c)]), (.int .i64 2)])) w47)
                  (LoadT (.agg [.int .i64, .int .i64, .sl, .sl]) w45 (Addr.mk b43 0 none) fun x49 =>
                  StoreN w45 l17.2.2.1 [(.int .i64 x49.1), (.int .i64 x49.2.1), (.slice x49.2.2.1.a x49.2.2.1.n x49.2.2.1.c), (.slice x49.2.2.2.1.a x49.2.2.2.1.n x49.2.2.2.1.c)] fun w50 =>
                  LoadT (.agg [.int .i64, .int .i64, .sl, .sl]) w50 l17.2.2.1 fun x51 =>
                  R (.returned (.tuple #[(.agg #[(.int .i64 x51.1), (.int .i64 x51.2.1), (.slice x51.2.2.1.a x51.2.2.1.n x51.2.2.1.c), (.slice x51.2.2.2.1.a x51.2.2.2.1.n x51.2.2.2.1.c)]), (.int .i64 0)])) w50)) (fun h42 w41 => R (.panicked h42) w41)))) (fun h11 w10 => R (.panicked h11) w10))) fun J3 =>
    Br (decide ((p0 : Int) < 1))
      (J3 (p0, p1, (Addr.mk b1 0 none), true, ()) w2)
      (J3 (p0, p1, (Addr.mk b1 0 none), (decide ((p0 : Int) > 8)), ()) w2)
theorem cayleyref21_Fold.eq (p0 : Int) (p1 : Sl) (R : Ending → World → Prop) (w : World) : cayleyref21_Fold.sh p0 p1 R w = wpc Tryd.prog cayleyref21_Fold.ann cayleyref21_Fold.body (fnKs Tryd.prog Tryd.f13 R) [] (env0 #[(.int .i64 p0), (.slice p1.a p1.n p1.c)]) w := by kernel_rfl
theorem cayleyref21_Fold.calls (p0 : Int) (p1 : Sl) {R : Ending → World → Prop} {w : World} (h : cayleyref21_Fold.sh p0 p1 R w) : Calls Tryd.prog 13 #[(.int .i64 p0), (.slice p1.a p1.n p1.c)] w R :=
  calls_of_wpc mixed Tryd.func13 (by kernel_rfl) (by kernel_rfl) ((cayleyref21_Fold.eq p0 p1 R w).mp h)
noncomputable def cayleylaw21_FoldFinds.ann : Ann where
  loops := fun | _ => []
  joins := fun | 3 => some [(0, .sc (.int .i64)), (1, .sc .sl)] | _ => none
noncomputable def cayleylaw21_FoldFinds.body : Code := match Tryd.f3.body with | some c => c | none => .skip
def cayleylaw21_FoldFinds.sh (p0 : Int) (p1 : Sl) (R : Ending → World → Prop) (w : World) : Prop :=
  Join (σ := Int × Sl × Unit) (fun j3 g2 w7 =>
    CallN Tryd.prog 12 #[(.int .i64 j3.1), (.slice j3.2.1.a j3.2.1.n j3.2.1.c)] [.agg [.int .i64, .int .i64, .sl, .sl], .sc (.int .i64)] w7 (fun r8 w9 =>
      New w9 (.cells #[(.int .i64 0), (.int .i64 0), (.slice none 0 0), (.slice none 0 0)] 27) fun b11 w12 =>
      StoreN w12 (Addr.mk b11 0 none) [(.int .i64 r8.1.1), (.int .i64 r8.1.2.1), (.slice r8.1.2.2.1.a r8.1.2.2.1.n r8.1.2.2.1.c), (.slice r8.1.2.2.2.1.a r8.1.2.2.2.1.n r8.1.2.2.2.1.c)] fun w13 =>
      CallN Tryd.prog 13 #[(.int .i64 j3.1), (.slice j3.2.1.a j3.2.1.n j3.2.1.c)] [.agg [.int .i64, .int .i64, .sl, .sl], .sc (.int .i64)] w13 (fun r14 w15 =>
        New w15 (.cells #[(.int .i64 0), (.int .i64 0), (.slice none 0 0), (.slice none 0 0)] 27) fun b17 w18 =>
        StoreN w18 (Addr.mk b17 0 none) [(.int .i64 r14.1.1), (.int .i64 r14.1.2.1), (.slice r14.1.2.2.1.a r14.1.2.2.1.n r14.1.2.2.1.c), (.slice r14.1.2.2.2.1.a r14.1.2.2.2.1.n r14.1.2.2.2.1.c)] fun w19 =>
        CallT Tryd.prog 14 #[] (.sc .bool) w19 (fun r20 w21 =>
          Br r20
            (Br ((r8.2.1 : Int) == r14.2.1)
              (LoadT (.agg [.int .i64, .int .i64, .sl, .sl]) w21 (Addr.mk b11 0 none) fun x23 =>
              LoadT (.agg [.int .i64, .int .i64, .sl, .sl]) w21 (Addr.mk b17 0 none) fun x24 =>
              CallT Tryd.prog 15 #[(.agg #[(.int .i64 x23.1), (.int .i64 x23.2.1), (.slice x23.2.2.1.a x23.2.2.1.n x23.2.2.1.c), (.slice x23.2.2.2.1.a x23.2.2.2.1.n x23.2.2.2.1.c)]), (.agg #[(.int .i64 x24.1), (.int .i64 x24.2.1), (.slice x24.2.2.1.a x24.2.2.1.n x24.2.2.1.c), (.slice x24.2.2.2.1.a x24.2.2.2.1.n x24.2.2.2.1.c)])] (.sc .bool) w21 (fun r25 w26 =>
                R (.returned (.bool r25)) w26) (fun h27 w26 => R (.panicked h27) w26))
              (R (.returned (.bool false)) w21))
            (R (.returned (.bool false)) w21)) (fun h22 w21 => R (.panicked h22) w21)) (fun h16 w15 => R (.panicked h16) w15)) (fun h10 w9 => R (.panicked h10) w9)) fun J1 =>
    CallT Tryd.prog 11 #[(.slice p1.a p1.n p1.c), (.int .i64 150)] (.sc .bool) w (fun r4 w5 =>
      Br (!r4)
        (Br (decide ((((p1.n : Nat) : Int) : Int) ≤ 200))
          (R (.returned (.bool true)) w5)
          (J1 (p0, p1, ()) w5))
        (Br false
          (R (.returned (.bool true)) w5)
          (J1 (p0, p1, ()) w5))) (fun h6 w5 => R (.panicked h6) w5)
theorem cayleylaw21_FoldFinds.eq (p0 : Int) (p1 : Sl) (R : Ending → World → Prop) (w : World) : cayleylaw21_FoldFinds.sh p0 p1 R w = wpc Tryd.prog cayleylaw21_FoldFinds.ann cayleylaw21_FoldFinds.body (fnKs Tryd.prog Tryd.f3 R) [] (env0 #[(.int .i64 p0), (.slice p1.a p1.n p1.c)]) w := by kernel_rfl
theorem cayleylaw21_FoldFinds.calls (p0 : Int) (p1 : Sl) {R : Ending → World → Prop} {w : World} (h : cayleylaw21_FoldFinds.sh p0 p1 R w) : Calls Tryd.prog 3 #[(.int .i64 p0), (.slice p1.a p1.n p1.c)] w R :=
  calls_of_wpc mixed Tryd.func3 (by kernel_rfl) (by kernel_rfl) ((cayleylaw21_FoldFinds.eq p0 p1 R w).mp h)
end Go.Proofs.YtffdjfkekdoeaaaDoor
end
section
set_option linter.unusedVariables false
set_option linter.unusedSimpArgs false
set_option maxRecDepth 8000
set_option maxHeartbeats 4000000
namespace Go.Proofs.YtffdjfkekdoeaaaDoor.Rf
open Fw Wd Fo
theorem size3 : (Tryd.prog.info? 3).map (·.size) = some 1 := by kernel_rfl
def degE (es : List Ed) (v : Nat) : Nat := match es with
  | [] => 0
  | (f, _, t) :: l => (if f = v then 1 else 0) + (if t = v then 1 else 0) + degE l v
theorem degE_le (v : Nat) : ∀ es : List Ed, degE es v ≤ 2 * es.length
  | [] => by simp [degE]
  | (f, x, t) :: l => by have := degE_le v l; simp only [degE, List.length_cons]; split <;> split <;> omega
theorem degE_app (v : Nat) : ∀ es es' : List Ed, degE (es ++ es') v = degE es v + degE es' v
  | [], es' => by simp [degE]
  | (f, x, t) :: l, es' => by have := degE_app v l es'; simp only [degE, List.cons_append]; omega
theorem degree_ret {w : World} {g1 g2 : Int} {s : Sl} {es : List Ed} (h : RdT w tE s (es.map ofE)) (hb : es.length ≤ 1000000000) (v : Nat) :
    Ret Tryd.prog 92 #[.agg #[.int .i64 g1, .int .i64 g2, s.v], .int .i64 (v : Int)] tI w fun y w' => y = (degE es v : Int) ∧ Chg Nil w w' := by
  refine cayleyref21_degree.calls g1 g2 s (v : Int) ?_
  unfold cayleyref21_degree.sh
  refine New.mk fun b1 w1 hb1 hn1 hs1 hc1 => ?_
  have hn : s.n = es.length := by rw [h.len, List.length_map]
  refine LoopT.mk (fun y W => ∃ i : Nat, i ≤ es.length ∧ y = ((v : Int), at0 b1, ((degE (es.take i) v : Nat) : Int), (i : Int), ()) ∧ W = w1) (fun y _ => es.length - y.2.2.2.1.toNat) ⟨0, Nat.zero_le _, rfl, rfl⟩ ?_
  rintro y g W ⟨i, hi, rfl, hW⟩
  rw [hW]; clear hW
  dsimp only
  have ld : ∀ {K : Sl → Prop}, K s → LoadT (.sc .sl) w1 ((at0 b1).add 2) K := fun k => LoadT.sc (s := .sl) (x := s) (by rw [cellOf hn1]; rfl) k
  refine ld ?_
  refine Br.dec (fun hlt => ?_) (fun hge => ?_)
  · have hlt' : i < es.length := by omega
    have hei : (es.map ofE)[i]? = some (ofE es[i]) := by rw [List.getElem?_map, List.getElem?_eq_getElem hlt']; rfl
    have htk : es.take (i + 1) = es.take i ++ [es[i]] := by rw [List.take_add_one, List.getElem?_eq_getElem hlt']; rfl
    have hd1 : degE (es.take (i + 1)) v = degE (es.take i) v + degE [es[i]] v := by rw [htk, degE_app]
    have hle := degE_le v (es.take (i + 1))
    have hll : (es.take (i + 1)).length ≤ es.length := by simp; omega
    generalize es[i] = e at hei hd1
    obtain ⟨f, x, t⟩ := e
    simp only [degE] at hd1
    have hr : RdT w1 tE s (es.map ofE) := h.chg hc1 fun _ _ h => h
    have hmu : es.length - ((i + 1 : Nat) : Int).toNat < es.length - ((i : Nat) : Int).toNat := by omega
    refine Join.by' (fun y V => V = w1 ∧ y = ((v : Int), at0 b1, (((degE (es.take i) v + if f = v then 1 else 0 : Nat)) : Int), (i : Int), ())) ?_ ?_
    · rintro y V g2 ⟨hV, rfl⟩
      rw [hV]; clear hV
      dsimp only
      refine ld ?_
      refine hr.idx (t := tE) i rfl hei fun a ha => ?_
      refine LoadT.sc (s := .int .i64) (x := (t : Int)) (ha 2 _ rfl) ?_
      have hw1 : IntKind.wrap .i64 ((i : Int) + 1) = ((i + 1 : Nat) : Int) := wrap64 (by omega) (by omega)
      rw [hw1]
      refine Br.mk (fun he => ?_) (fun he => ?_)
      · have he : t = v := by have : (t : Int) = (v : Int) := by simpa using he
                              omega
        refine ⟨⟨i + 1, hlt', ?_, rfl⟩, hmu⟩
        rw [hd1, if_pos he, wrap64 (by split <;> omega) (by split <;> omega)]
        congr 3
      · have he : ¬ t = v := fun h => by subst h; simp at he
        refine ⟨⟨i + 1, hlt', ?_, rfl⟩, hmu⟩
        rw [hd1, if_neg he]; simp
    · intro J hJ
      refine ld ?_
      refine hr.idx (t := tE) i rfl hei fun a ha => ?_
      refine LoadT.sc (s := .int .i64) (x := (f : Int)) (ha 0 _ rfl) ?_
      refine Br.mk (fun he => ?_) (fun he => ?_)
      · have he : f = v := by have : (f : Int) = (v : Int) := by simpa using he
                              omega
        refine hJ _ _ ⟨rfl, ?_⟩
        rw [if_pos he, wrap64 (by omega) (by omega)]; rfl
      · have he : ¬ f = v := fun h => by subst h; simp at he
        exact hJ _ _ ⟨rfl, by rw [if_neg he]; rfl⟩
  · have hin : i = es.length := by omega
    rw [hin, List.take_length]
    exact ⟨_, rfl, rfl, hc1⟩
end Go.Proofs.YtffdjfkekdoeaaaDoor.Rf
end
section
set_option linter.unusedVariables false
set_option linter.unusedSimpArgs false
set_option maxRecDepth 8000
set_option maxHeartbeats 4000000
namespace Go.Proofs.YtffdjfkekdoeaaaDoor.Rf
open Fw Wd Fo
theorem RdT.upto {P : Program} {w : World} {st e : TypeId} {t : Ty} {bytes : Nat} (ok : slOk P st e t.sz bytes = true) {s : Sl} {xs : List t.den} (h : RdT w t s xs) (hc : s.n ≤ s.c) {n : Int} (n' : Nat) (hn : n = (n' : Int)) (hle : n' ≤ xs.length) {K : Sl → World → Prop}
    (k : RdT w t ⟨s.a, n', s.c⟩ (xs.take n') → K ⟨s.a, n', s.c⟩ w) : RunT P (.sc .sl) (Instr.sliceAt st s.v none (some (.int .i64 n)) none) w K := by
  obtain ⟨i, z, h1, h2, h3, h4, h5, h6⟩ := slOk_spec ok
  have hel : P.underlying st = some (.slice (P.elem st)) := by unfold Program.elem; rw [h1]
  have hele : P.elem st = e := by unfold Program.elem; rw [h1]
  have hcap : n' ≤ s.c := by have := h.len; omega
  have hrun : (Instr.sliceAt st s.v none (some (.int .i64 n)) none).run P w = .ok (sliced s.a 0 n' s.c i.size) w := by
    rw [run_sliceAt_slice w st _ _ _ _ hel]
    rw [show s.v = .slice s.a s.n s.c from rfl, run_slice_h w st s.a s.n s.c hel .i64 n (by omega) (by omega), hele]
    simp [sizeOf, typeInfo, h2, hn]
  have hsl : sliced s.a 0 n' s.c i.size = .slice s.a n' s.c := by
    unfold sliced
    rw [Nat.zero_mul]
    cases ha : s.a with
    | none => simp
    | some a => simp [add0]
  rw [hsl] at hrun
  refine ⟨⟨s.a, n', s.c⟩, w, hrun, k ⟨?_, fun i x hx => ?_⟩⟩
  · rw [List.length_take]; show n' = _; omega
  · rw [List.getElem?_take] at hx
    split at hx
    · exact h.at' i x hx
    · cases hx
theorem RdT.from {P : Program} {w : World} {st e : TypeId} {t : Ty} {bytes : Nat} (ok : slOk P st e t.sz bytes = true) {s : Sl} {xs : List t.den} (h : RdT w t s xs) (hcap : s.n ≤ s.c) {n : Int} (n' : Nat) (hn : n = (n' : Int)) (hle : n' ≤ xs.length) {K : Sl → World → Prop}
    (k : ∀ s', RdT w t s' (xs.drop n') → (s.a ≠ none → s'.a ≠ none) → K s' w) : RunT P (.sc .sl) (Instr.sliceAt st s.v (some (.int .i64 n)) none none) w K := by
  obtain ⟨i, z, h1, h2, h3, h4, h5, h6⟩ := slOk_spec ok
  have hel : P.underlying st = some (.slice (P.elem st)) := by unfold Program.elem; rw [h1]
  have hele : P.elem st = e := by unfold Program.elem; rw [h1]
  have hrun : (Instr.sliceAt st s.v (some (.int .i64 n)) none none).run P w = .ok (sliced s.a n' s.n s.c i.size) w := by
    rw [run_sliceAt_slice w st _ _ _ _ hel]
    rw [show s.v = .slice s.a s.n s.c from rfl, run_slice_l w st s.a s.n s.c hel .i64 n (by omega) (by have := h.len; omega), hele]
    simp [sizeOf, typeInfo, h2, hn]
  let s' : Sl := ⟨if s.c = n' then s.a else s.a.map (·.add (n' * i.size)), s.n - n', s.c - n'⟩
  refine ⟨s', w, hrun, k s' ⟨?_, fun j x hx => ?_⟩ fun hne => ?_⟩
  · rw [List.length_drop, ← h.len]
  · rw [List.getElem?_drop] at hx
    obtain ⟨a, ha, hc⟩ := h.at' (n' + j) x hx
    by_cases hcn : s.c = n'
    · have := (List.getElem?_eq_some_iff.1 hx).1
      have := h.len
      omega
    · refine ⟨a.add (n' * i.size), by show (if s.c = n' then s.a else s.a.map (·.add (n' * i.size))) = _; rw [if_neg hcn, ha]; rfl, fun q v hq => ?_⟩
      have := hc q v hq
      rw [Fw.add_add, Nat.add_mul, Nat.add_assoc] at this
      rw [h3, Fw.add_add, Fw.add_add]
      exact this
  · show (if s.c = n' then s.a else s.a.map (·.add (n' * i.size))) ≠ none
    split
    · exact hne
    · cases hh : s.a with
      | none => exact absurd hh hne
      | some a => simp
end Go.Proofs.YtffdjfkekdoeaaaDoor.Rf
end
section
set_option linter.unusedVariables false
set_option linter.unusedSimpArgs false
set_option maxRecDepth 8000
set_option maxHeartbeats 4000000
namespace Go.Proofs.YtffdjfkekdoeaaaDoor.Rf
open Fw Wd Fo
theorem OwnT.cap {w : World} {e : TypeId} {t : Ty} {s : Sl} {xs : List t.den} (h : OwnT w e t s xs) : s.n ≤ s.c := by
  rcases h.block with ⟨_, hx⟩ | ⟨g, cur, _, _, h1, _⟩
  · have := h.len; rw [hx] at this; simp at this; omega
  · exact h1
theorem max_run {w : World} {x y : Nat} {K : Int → World → Prop} (k : K ((max x y : Nat) : Int) w) : RunT Tryd.prog (.sc (.int .i64)) (Builtin.max_ #[3, 3] 3 #[(.int .i64 (x : Int)), (.int .i64 (y : Int))]) w K := by
  refine ⟨((max x y : Nat) : Int), w, ?_, k⟩
  rw [run_max_int2]
  have : (if (x : Int) < (y : Int) then (y : Int) else (x : Int)) = ((max x y : Nat) : Int) := by split <;> omega
  rw [this]
end Go.Proofs.YtffdjfkekdoeaaaDoor.Rf
end
section
set_option linter.unusedVariables false
set_option linter.unusedSimpArgs false
set_option maxRecDepth 8000
set_option maxHeartbeats 4000000
namespace Go.Proofs.YtffdjfkekdoeaaaDoor.Rf
open Fw Wd Fo
abbrev tG : Ty := .agg [.int .i64, .int .i64, .sl]
end Go.Proofs.YtffdjfkekdoeaaaDoor.Rf
end
section
set_option linter.unusedVariables false
set_option linter.unusedSimpArgs false
set_option maxRecDepth 8000
set_option maxHeartbeats 4000000
namespace Go.Proofs.YtffdjfkekdoeaaaDoor.Rf
open Fw Wd Fo
theorem rowE_get {k : Nat} {es : List Ed} {v x : Nat} (h : x < 2 * k) : (rowE k es v)[x]? = some (stepE es v x) := by
  unfold rowE
  rw [List.getElem?_map, List.getElem?_range h]; rfl
theorem rowE_len (k : Nat) (es : List Ed) (v : Nat) : (rowE k es v).length = 2 * k := by unfold rowE; simp
theorem Numbered_ret {w : World} {k : Nat} (hk : k ≤ 8) {g2 : Int} {s : Sl} {es : List Ed} (h : RdT w tE s (es.map ofE)) (hb : es.length ≤ 1000000000) {B base : Nat} (hB : B ≤ 1000000) (hes : ∀ e ∈ es, e.1 < B ∧ e.2.2 < B) (hbase : base < B) {K : Nat} {res : List Row} (hf : numE k es K 0 [base] [] = some res) :
    Ret Tryd.prog 70 #[.agg #[.int .i64 (k : Int), .int .i64 g2, s.v], .int .i64 (base : Int)] tA w fun y w' => y.1 = ((2 * k : Nat) : Int) ∧ y.2.1 = 0 ∧ AutR w.heap.size w' y.2.2.1 y.2.2.2.1 (accF res.length) (res.map (·.map ofO)) ∧ Chg Nil w w' ∧ res.length ≤ B := by
  refine cayleyref21_Numbered.calls (k : Int) g2 s (base : Int) ?_
  unfold cayleyref21_Numbered.sh
  generalize hgc : (#[.int .i64 (k : Int), .int .i64 g2, .slice s.a s.n s.c] : Array Value) = gc
  refine New.mk fun b1 w1 hb1 hn1 hs1 hc1 => ?_
  refine New.mk fun b3 w2 hb3 hn3 hs3 hc3 => ?_
  refine New.mk fun b5 w3 hb5 hn5 hs5 hc5 => ?_
  have h13 := hc5.heap (hc3.heap hn1 fun h => h) fun h => h
  refine LoadT.sc (s := .int .i64) (x := (k : Int)) (by rw [cellOf h13, ← hgc]; rfl) ?_
  have hw2k : IntKind.wrap .i64 (2 * (k : Int)) = ((2 * k : Nat) : Int) := by rw [wrap64 (by omega) (by omega)]; omega
  rw [hw2k]
  refine New.mk fun b8 w4 hb8 hn8 hs8 hc8 => ?_
  refine StoreN.whole (vs := [.int .i64 ((2 * k : Nat) : Int), .int .i64 0, .slice none 0 0, .slice none 0 0]) hn8 rfl fun w5 h85 hc8' _ => ?_
  have hN : Chg Nil w3 w5 := hc8.trans hc8' (fun _ _ h => h) fun i hi he => by have he : i = b8 := he; omega
  have s1 := hc1.size
  have s3 := hc3.size
  have s5 := hc5.size
  have hml : maxLen = 9223372036854775807 := rfl
  have hNm0 : Nm w w5 b1 b3 b8 gc (2 * k) ⟨some ⟨b5, 0, none⟩, 1, 1⟩ ⟨none, 0, 0⟩ ⟨none, 0, 0⟩ ⟨none, 0, 0⟩ [base] [] [] [] :=
    { chg := ((hc1.then hc3).then hc5).then hN, ge := by omega, c1 := hN.heap h13 fun h => h, c3 := hN.heap (hc5.heap hn3 fun h => h) fun h => h, c8 := h85
      que := ⟨⟨rfl, .inr ⟨b5, 1, _, rfl, Nat.zero_le _, hN.heap hn5 fun h => h, Nat.le_refl _, by simp [maxLen], rfl, rfl⟩⟩, rfl⟩
      acc := OwnT.nil _ _ _, nxt := OwnT.nil _ _ _, len := rfl, row := fun i s r hi => by simp at hi, curr := OwnT.nil _ _ _
      own := fun k hk => by
        rcases hk with ⟨a, ha, rfl⟩ | hk | hk | hk | ⟨s, hs, _⟩
        · cases ha; dsimp only; omega
        · exact Own.nilk k hk
        · exact Own.nilk k hk
        · exact Own.nilk k hk
        · simp at hs
      ap1 := fun k hk => Own.nilk k hk, ap2 := fun s hs => by simp at hs }
  clear hn1 hn3 hn5 h13 hn8 h85
  refine LoopT.fuel (fun f y W => ∃ (i : Nat) (qs sa sn : Sl) (q : List Nat) (os : List Sl) (out : List Row), y = (at0 b1, at0 b3, qs, at0 b8, (i : Int), ()) ∧ Nm w W b1 b3 b8 gc (2 * k) qs sa sn ⟨none, 0, 0⟩ q os out [] ∧ numE k es f i q out = some res ∧ out.length = i ∧ q.Nodup ∧ (∀ v ∈ q, v < B) ∧ i ≤ q.length) K
    ⟨0, _, _, _, [base], [], [], rfl, hNm0, hf, rfl, by simp, by simpa using hbase, by simp⟩ ?_
  clear hNm0 hf
  rintro f y g W C ⟨i, qs, sa, sn, q, os, out, rfl, hG, hf, hout, hnd, hqB, hiq⟩ hC
  dsimp only
  have hqn : qs.n = q.length := by rw [hG.que.len, List.length_map]
  have hqlen := nodup_len B q hnd hqB
  cases f with
  | zero => simp [numE] at hf
  | succ f =>
  simp only [numE] at hf
  split at hf
  · rename_i hnone
    cases hf
    have hiq' : q.length ≤ i := by simpa using hnone
    refine Br.no (by rw [hqn]; omega) ?_
    refine LoadT.mk tA (x := (((2 * k : Nat) : Int), (0 : Int), sa, sn, ())) (fun j v hv => by rw [cellOf hG.c8]; simpa [Ty.cells] using hv) ?_
    refine StoreN.whole (vs := [.int .i64 ((2 * k : Nat) : Int), .int .i64 0, sa.v, sn.v]) hG.c3 rfl fun w6 h6 hc6 _ => ?_
    refine LoadT.mk tA (x := (((2 * k : Nat) : Int), (0 : Int), sa, sn, ())) (fun j v hv => by rw [cellOf h6]; simpa [Ty.cells] using hv) ?_
    have k3 : ∀ k, k = b3 → ∃ c f, W.heap[k]? = some (.cells c 27 f) := fun k hk => by subst hk; exact ⟨_, _, hG.c3⟩
    refine ⟨_, rfl, rfl, rfl, ?_, hG.chg.trans hc6 (fun _ _ h => h) fun j hj he => (by have he : j = b3 := he; have := hG.ge; omega), by omega⟩
    have hA := hG.aut
    obtain ⟨p1, p2, p3, sls, p4, p5, p6, p7⟩ := hA
    refine ⟨(OwnT.chgT hG.acc hc6 k3 (by decide)).rd, p2, p3, os, (OwnT.chgT hG.nxt hc6 k3 (by decide)).rd, by rw [hG.len, List.length_map], fun i s r hi hr => ?_, fun s hs k hk => hG.own k (.inr (.inr (.inr (.inr ⟨s, hs, hk⟩))))⟩
    rw [List.getElem?_map] at hr
    cases ho : res[i]? with
    | none => rw [ho] at hr; cases hr
    | some r' => rw [ho] at hr; cases hr; exact (OwnT.chgT (hG.row i s r' hi ho) hc6 k3 (by decide)).rd
  rename_i v hv
  have hiq' : i < q.length := (List.getElem?_eq_some_iff.1 hv).1
  refine Br.yes (by rw [hqn]; omega) ?_
  refine New.mk fun b15 W1 hb15 hn15 hs15 hc15 => ?_
  have hG1 := hG.newRow hc15 hb15 hn15
  generalize hR : rowE k es v = rowv at hf
  have hrl : rowv.length = 2 * k := by rw [← hR]; exact rowE_len _ _ _
  have hrB : ∀ t, some t ∈ rowv → t < B := fun t ht => by
    rw [← hR] at ht
    unfold rowE at ht
    obtain ⟨x, _, hx⟩ := List.mem_map.1 ht
    exact stepE_lt es v x t hes hx
  refine LoopT.mk (fun y W => ∃ (x : Nat) (qs rs : Sl) (q' : List Nat) (cur : Row), x ≤ 2 * k ∧ y = (at0 b1, at0 b3, qs, at0 b8, (i : Int), rs, (x : Int), ()) ∧ Nm w W b1 b3 b8 gc (2 * k) qs sa sn rs q' os out cur ∧ cur.length = x ∧ (bfsRow (rowv.drop x) q').1 = (bfsRow rowv q).1 ∧
      cur ++ (bfsRow (rowv.drop x) q').2 = (bfsRow rowv q).2 ∧ q'.Nodup ∧ (∀ v ∈ q', v < B) ∧ q'[i]? = some v) (fun y _ => 2 * k - y.2.2.2.2.2.2.1.toNat)
    ⟨0, qs, _, q, [], Nat.zero_le _, rfl, hG1, rfl, rfl, rfl, hnd, hqB, hv⟩ ?_
  clear hG1 hnd hqB hv hiq' hqlen hqn hG hn15 hc15 hs15
  rintro y gE W1 ⟨x, qs, rs, q', cur, hx, rfl, hG, hcl, hb1', hb2, hnd, hqB, hv⟩
  dsimp only
  have hqn : qs.n = q'.length := by rw [hG.que.len, List.length_map]
  have hqlen := nodup_len B q' hnd hqB
  have hiq' : i < q'.length := (List.getElem?_eq_some_iff.1 hv).1
  refine LoadT.sc (s := .int .i64) (x := (k : Int)) (by rw [cellOf hG.c1, ← hgc]; rfl) ?_
  rw [hw2k]
  refine Br.dec (fun hlt => ?_) (fun hge => ?_)
  · have hx2 : x < 2 * k := by omega
    have hd : Chg Nil W1 W1.drew := Chg.drew W1
    have hGd := hG.nil hd
    have hdrop : rowv.drop x = stepE es v x :: rowv.drop (x + 1) := by
      have h1 := rowE_get (k := k) (es := es) (v := v) hx2
      rw [hR] at h1
      obtain ⟨h2, h3⟩ := List.getElem?_eq_some_iff.1 h1
      rw [← h3]; exact List.drop_eq_getElem_cons h2
    rw [hdrop] at hb1' hb2
    have hwx : IntKind.wrap .i64 ((x : Int) + 1) = ((x + 1 : Nat) : Int) := by rw [wrap64 (by omega) (by omega)]; rfl
    have hmu : 2 * k - (x + 1) < 2 * k - x := by omega
    refine LoadT.mk (.agg [.int .i64, .int .i64, .sl]) (x := ((k : Int), g2, s, ())) (fun j u hu => by rw [cellOf hGd.c1, ← hgc]; simpa [Ty.cells] using hu) ?_
    refine hGd.que.rd.get (t := tI) i rfl (x := ofN v) (by rw [List.getElem?_map, hv]; rfl) ?_
    refine Ret.call (step_ret (h.chg hGd.chg fun _ _ h => h) hb v x (by omega)) ?_
    rintro _ W2 ⟨rfl, hc2⟩
    have hG2 := hGd.nil hc2
    -- behind the search
    refine Join.by' (fun y V => ∃ (qs2 : Sl) (q2 : List Nat) (o : Option Nat), y = (at0 b1, at0 b3, qs2, at0 b8, (i : Int), rs, (x : Int), ofO o, ()) ∧ Nm w V b1 b3 b8 gc (2 * k) qs2 sa sn rs q2 os out cur ∧ (bfsRow (rowv.drop (x + 1)) q2).1 = (bfsRow rowv q).1 ∧
        cur ++ o :: (bfsRow (rowv.drop (x + 1)) q2).2 = (bfsRow rowv q).2 ∧ q2.Nodup ∧ (∀ v ∈ q2, v < B) ∧ q2[i]? = some v) ?_ ?_
    · rintro y V g3 ⟨qs2, q2, o, rfl, hV, e1, e2, e3, e4, e5⟩
      dsimp only
      refine New.mk fun b42 V1 hb42 hn42 _ hc42 => ?_
      have hV1 := hV.nil hc42
      refine OwnT.append (t := tI) (m := 1) ok85 rfl (by decide) hV1.curr [ofO o] rfl (by decide) (fun j u hu => by rw [cellOf hn42]; simpa [Ty.cells] using hu) ?_ ?_ fun rs' V2 ho2 hcA hownA => ?_
      · rw [List.length_map]; omega
      · rw [List.length_map]; omega
      have hV2 := hV1.setCur (cur' := cur ++ [o]) hcA (by rw [List.map_append]; exact ho2) hownA
      rw [hwx]
      exact ⟨⟨x + 1, qs2, rs', q2, cur ++ [o], hx2, rfl, hV2, by simp [hcl], e1, by rw [List.append_assoc]; exact e2, e3, e4, e5⟩, hmu⟩
    · intro J hJ
      cases hst : stepE es v x with
      | none =>
        rw [hst] at hb1' hb2
        simp only [bfsRow] at hb1' hb2
        refine Br.no (by show ¬ ((-1 : Int) ≥ 0); omega) (hJ _ _ ⟨qs, q', none, rfl, hG2, hb1', hb2, hnd, hqB, hv⟩)
      | some t =>
        rw [hst] at hb1' hb2
        simp only [bfsRow] at hb1' hb2
        have htB := stepE_lt es v x t hes hst
        refine Br.yes (by show ((t : Int) ≥ 0); omega) ?_
        refine LoopT.mk (fun y V => ∃ (kk : Nat) (at' : Int), kk ≤ q'.length ∧ y = (at0 b1, at0 b3, qs, at0 b8, (i : Int), rs, (x : Int), (t : Int), at', (kk : Int), ()) ∧ V = W2 ∧ at' = (if t ∈ q'.take kk then ((q'.idxOf t : Nat) : Int) else -1)) (fun y _ => q'.length - y.2.2.2.2.2.2.2.2.2.1.toNat)
          ⟨0, -1, Nat.zero_le _, rfl, rfl, by simp⟩ ?_
        rintro y g4 V ⟨kk, at', hkk, rfl, hV, hat⟩
        rw [hV]; clear hV
        dsimp only
        refine Br.dec (fun hlt3 => ?_) (fun hge3 => ?_)
        · have hlt3' : kk < q'.length := by omega
          refine hG2.que.rd.get (t := tI) kk rfl (x := ofN q'[kk]) (by rw [List.getElem?_map, List.getElem?_eq_getElem hlt3']; rfl) ?_
          rw [wrap64 (x := (kk : Int) + 1) (by omega) (by omega)]
          have hmu3 : q'.length - (kk + 1) < q'.length - kk := by omega
          have htk : q'.take (kk + 1) = q'.take kk ++ [q'[kk]] := take_snoc hlt3'
          refine Br.mk (fun heq => ?_) (fun hne => ?_)
          · have heq' : q'[kk] = t := by have : ((q'[kk] : Nat) : Int) = (t : Int) := by simpa [ofN] using heq
                                         omega
            refine ⟨⟨kk + 1, (kk : Int), hlt3', rfl, rfl, ?_⟩, hmu3⟩
            rw [htk, if_pos (by simp [heq'])]
            have hidx : q'.idxOf t = kk := by
              rw [← heq']; exact hnd.idxOf_getElem kk hlt3'
            rw [hidx]
          · have hne' : ¬ q'[kk] = t := fun he => by rw [he] at hne; simp [ofN] at hne
            refine ⟨⟨kk + 1, at', hlt3', rfl, rfl, ?_⟩, hmu3⟩
            rw [hat, htk]
            have : (t ∈ q'.take kk ++ [q'[kk]]) ↔ t ∈ q'.take kk := by
              simp only [List.mem_append, List.mem_singleton]
              exact ⟨fun h => h.elim id fun h => absurd h.symm hne', .inl⟩
            simp only [this]
        · have hkn : kk = q'.length := by omega
          rw [hkn, List.take_length] at hat
          by_cases hin : t ∈ q'
          · rw [if_pos hin] at hat hb1' hb2
            refine Br.no (by rw [hat]; omega) (hJ _ _ ⟨qs, q', some (q'.idxOf t), by rw [hat]; rfl, hG2, hb1', hb2, hnd, hqB, hv⟩)
          · rw [if_neg hin] at hat hb1' hb2
            refine Br.yes (by rw [hat]; decide) ?_
            refine New.mk fun b37 V1 hb37 hn37 _ hc37 => ?_
            have hV1 := hG2.nil hc37
            refine OwnT.append (t := tI) (m := 1) ok85 rfl (by decide) hV1.que [ofN t] rfl (by decide) (fun j u hu => by rw [cellOf hn37]; simpa [Ty.cells, ofN] using hu) ?_ ?_ fun qs' V2 ho2 hcA hownA => ?_
            · rw [List.length_map]; omega
            · rw [List.length_map]; omega
            have hV2 := hV1.setQue (q' := q' ++ [t]) hcA (by unfold OwnN; rw [List.map_append]; exact ho2) hownA
            rw [hqn]
            refine hJ _ _ ⟨qs', q' ++ [t], some q'.length, rfl, hV2, hb1', hb2, ?_, ?_, ?_⟩
            · rw [List.nodup_append]
              exact ⟨hnd, by simp, fun a ha b hb => by simp only [List.mem_singleton] at hb; subst hb; exact fun he => hin (he ▸ ha)⟩
            · intro u hu
              rcases List.mem_append.1 hu with hu | hu
              · exact hqB u hu
              · simp only [List.mem_singleton] at hu; subst hu; exact htB
            · rw [List.getElem?_append_left hiq']; exact hv
  · have hx2 : x = 2 * k := by omega
    have hdr : rowv.drop x = [] := List.drop_eq_nil_of_le (by omega)
    rw [hdr] at hb1' hb2
    simp only [bfsRow, List.append_nil] at hb1' hb2
    rw [← hb1', ← hb2] at hf
    have hol : os.length ≤ B := by rw [hG.len, hout]; omega
    refine LoadT.sc (s := .sl) (x := sn) (by rw [cellOf hG.c8]; rfl) ?_
    refine New.mk fun b47 V1 hb47 hn47 _ hc47 => ?_
    have hG1 := hG.nil hc47
    refine OwnT.append (t := .sc .sl) (m := 1) ok25 rfl (by decide) hG1.nxt [rs] rfl (by decide) (fun j u hu => by rw [cellOf hn47]; simpa [Ty.cells] using hu) ?_ ?_ fun sn' V2 hn2 hcN hownN => ?_
    · omega
    · omega
    have k1 := Rf.OwnT.kind hG1.nxt
    have h82 := Chg.heapT hcN k1 hG1.c8 (by decide)
    refine Store1.at h82 3 (by show 3 < 4; decide) rfl fun V3 h83 hc3' _ => ?_
    refine LoadT.sc (s := .sl) (x := sa) (by rw [cellOf h83]; rfl) ?_
    refine New.mk fun b53 V4 hb53 hn53 _ hc53 => ?_
    have k2 : ∀ k, k = b8 → ∃ c f, V2.heap[k]? = some (.cells c 27 f) := fun k hk => by subst hk; exact ⟨_, _, h82⟩
    have acc3 : OwnT V3 4 (.sc .bool) sa (accF out.length) := OwnT.chgT (OwnT.chgT hG1.acc hcN k1 (by decide)) hc3' k2 (by decide)
    have acc4 := OwnT.chg acc3 hc53 fun _ _ h => h
    have hib : (((i : Nat) : Int) == 0) = (out.length == 0) := by rw [hout, Bool.eq_iff_iff]; simp
    refine OwnT.append (t := .sc .bool) (m := 1) ok24 rfl (by decide) acc4 [out.length == 0] rfl (by decide) (fun j u hu => by rw [cellOf hn53, hib]; simpa [Ty.cells] using hu) ?_ ?_ fun sa' V5 ha5 hcA hownA => ?_
    · simp [accF]; omega
    · simp [accF]; omega
    have acck := Rf.OwnT.kind acc4
    have h84 := hc53.heap h83 fun h => h
    have h85' := Chg.heapT hcA acck h84 (by decide)
    refine Store1.at h85' 2 (by show 2 < 4; decide) rfl fun V6 h86 hc6 _ => ?_
    have c23 : Chg (· = b8) V2 V4 := hc3'.then hc53.nil
    have hz2 := hc3'.size
    rw [← accF_succ] at ha5
    have hfin := hG1.endRow hcN hn2 hownN c23 h84 hcA ha5 hownA hc6 h86
    rw [wrap64 (x := (i : Int) + 1) (by omega) (by omega)]
    refine hC _ _ f (by omega) ⟨i + 1, qs, sa', sn', q', os ++ [rs], out ++ [cur], rfl, hfin, hf, by simp [hout], hnd, hqB, hiq'⟩
end Go.Proofs.YtffdjfkekdoeaaaDoor.Rf
end
section
set_option linter.unusedVariables false
set_option linter.unusedSimpArgs false
set_option maxRecDepth 4000
set_option maxHeartbeats 2000000
namespace Go.Proofs.YtffdjfkekdoeaaaDoor.Pl
open Fo
def Ev {α : Type} (f : Nat → Option α) (r : α) : Prop := ∃ K0, ∀ K, K0 ≤ K → f K = some r
theorem Ev.of {α : Type} {f : Nat → Option α} {r : α} (K0 : Nat) (h : ∀ K, K0 ≤ K → f K = some r) : Ev f r := ⟨K0, h⟩
theorem Ev.const {α : Type} {o : Option α} {r : α} (h : o = some r) : Ev (fun _ => o) r := ⟨0, fun _ _ => h⟩
inductive Root (par : List Nat) : Nat → Nat → Prop
  | base {s : Nat} : par[s]? = some s → Root par s s
  | step {s p r : Nat} : par[s]? = some p → p ≠ s → Root par p r → Root par s r
theorem Root.unique {par : List Nat} {s r r' : Nat} (h : Root par s r) (h' : Root par s r') : r = r' := by
  induction h with
  | base h =>
    cases h' with
    | base _ => rfl
    | step h1 h2 _ => rw [h] at h1; cases h1; exact absurd rfl h2
  | step h1 h2 _ ih =>
    cases h' with
    | base h => rw [h] at h1; cases h1; exact absurd rfl h2
    | step h3 h4 h5 => rw [h1] at h3; cases h3; exact ih h5
theorem Root.isRoot {par : List Nat} {s r : Nat} (h : Root par s r) : par[r]? = some r := by
  induction h with
  | base h => exact h
  | step _ _ _ ih => exact ih
theorem Root.self {par : List Nat} {s r : Nat} (h : Root par s r) : Root par r r := .base h.isRoot
theorem Root.lt {par : List Nat} {s r : Nat} (h : Root par s r) : r < par.length := (List.getElem?_eq_some_iff.1 h.isRoot).1
structure Forest (par : List Nat) (d : Nat → Nat) : Prop where
  at' : ∀ s, s < par.length → ∃ p, par[s]? = some p ∧ p < par.length ∧ (p ≠ s → d p < d s)
theorem Forest.root {par : List Nat} {d : Nat → Nat} (h : Forest par d) : ∀ (n s : Nat), d s ≤ n → s < par.length → ∃ r, Root par s r := by
  intro n
  induction n with
  | zero =>
    intro s hd hs
    obtain ⟨p, h1, h2, h3⟩ := h.at' s hs
    by_cases hp : p = s
    · subst hp; exact ⟨p, .base h1⟩
    · have := h3 hp; omega
  | succ n ih =>
    intro s hd hs
    obtain ⟨p, h1, h2, h3⟩ := h.at' s hs
    by_cases hp : p = s
    · subst hp; exact ⟨p, .base h1⟩
    · obtain ⟨r, hr⟩ := ih p (by have := h3 hp; omega) h2
      exact ⟨r, .step h1 hp hr⟩
theorem halve {par : List Nat} {d : Nat → Nat} (h : Forest par d) {s p g : Nat} (h1 : par[s]? = some p) (hp : p ≠ s) (h2 : par[p]? = some g) : Forest (par.set s g) d ∧ ∀ u r, Root (par.set s g) u r ↔ Root par u r := by
  have hs : s < par.length := (List.getElem?_eq_some_iff.1 h1).1
  have hpl : p < par.length := (List.getElem?_eq_some_iff.1 h2).1
  obtain ⟨p', q1, _, q3⟩ := h.at' s hs
  rw [h1] at q1; cases q1
  have hdp := q3 hp
  obtain ⟨g', q4, q5, q6⟩ := h.at' p hpl
  rw [h2] at q4; cases q4
  have hdg : d g ≤ d p := by
    by_cases hg : g = p
    · rw [hg]; exact Nat.le_refl _
    · have := q6 hg; omega
  have hgs : g ≠ s := fun he => by rw [he] at hdg; omega
  have hset : (par.set s g)[s]? = some g := by rw [List.getElem?_set_self hs]
  have hother : ∀ u, u ≠ s → (par.set s g)[u]? = par[u]? := fun u hu => List.getElem?_set_ne (fun e => hu e.symm)
  have back : ∀ u r, Root par u r → Root (par.set s g) u r := by
    intro u r hr
    have key : ∀ n, ∀ u r, d u ≤ n → Root par u r → Root (par.set s g) u r := by
      intro n
      induction n with
      | zero =>
        intro u r hd hr
        cases hr with
        | base hb =>
          have hu : u ≠ s := fun he => by subst he; rw [h1] at hb; cases hb; exact hp rfl
          exact .base (by rw [hother u hu]; exact hb)
        | step hb hne hr' =>
          obtain ⟨p', k1, k2, k3⟩ := h.at' u (List.getElem?_eq_some_iff.1 hb).1
          rw [hb] at k1; cases k1
          have := k3 hne; omega
      | succ n ih =>
        intro u r hd hr
        cases hr with
        | base hb =>
          have hu : u ≠ s := fun he => by subst he; rw [h1] at hb; cases hb; exact hp rfl
          exact .base (by rw [hother u hu]; exact hb)
        | step hb hne hr' =>
          obtain ⟨p', k1, k2, k3⟩ := h.at' u (List.getElem?_eq_some_iff.1 hb).1
          rw [hb] at k1; cases k1
          have hlt := k3 hne
          by_cases hu : u = s
          · subst hu
            rw [h1] at hb; cases hb
            refine .step hset hgs (ih g r (by omega) ?_)
            cases hr' with
            | base hb' => rw [h2] at hb'; cases hb'; exact .base h2
            | step hb' _ hr'' => rw [h2] at hb'; cases hb'; exact hr''
          · exact .step (by rw [hother u hu]; exact hb) hne (ih _ r (by omega) hr')
    exact key _ u r (Nat.le_refl _) hr
  refine ⟨⟨fun u hu => ?_⟩, fun u r => ⟨fun hr => ?_, back u r⟩⟩
  · rw [List.length_set] at hu ⊢
    by_cases hus : u = s
    · subst hus
      exact ⟨g, hset, q5, fun _ => by omega⟩
    · rw [hother u hus]; exact h.at' u hu
  · have hu : u < par.length := by
      cases hr with
      | base hb => have := (List.getElem?_eq_some_iff.1 hb).1; rw [List.length_set] at this; exact this
      | step hb _ _ => have := (List.getElem?_eq_some_iff.1 hb).1; rw [List.length_set] at this; exact this
    obtain ⟨r', hr'⟩ := h.root _ u (Nat.le_refl _) hu
    have := hr.unique (back u r' hr')
    subst this; exact hr'
theorem find_ev {d : Nat → Nat} : ∀ (n s : Nat) (par : List Nat), d s ≤ n → Forest par d → s < par.length → ∃ par' r, (∀ K, n < K → findF K par s = some (par', r)) ∧ Root par s r ∧ Forest par' d ∧ par'.length = par.length ∧ ∀ u v, Root par' u v ↔ Root par u v := by
  intro n
  induction n with
  | zero =>
    intro s par hd h hs
    obtain ⟨p, h1, h2, h3⟩ := h.at' s hs
    have hp : p = s := by
      by_cases hp : p = s
      · exact hp
      · have := h3 hp; omega
    subst hp
    refine ⟨par, p, fun K hK => ?_, .base h1, h, rfl, fun _ _ => Iff.rfl⟩
    obtain ⟨K, rfl⟩ : ∃ m, K = m + 1 := ⟨K - 1, by omega⟩
    simp only [findF, h1]
    rw [if_pos trivial]
  | succ n ih =>
    intro s par hd h hs
    obtain ⟨p, h1, h2, h3⟩ := h.at' s hs
    by_cases hp : p = s
    · subst hp
      refine ⟨par, p, fun K hK => ?_, .base h1, h, rfl, fun _ _ => Iff.rfl⟩
      obtain ⟨K, rfl⟩ : ∃ m, K = m + 1 := ⟨K - 1, by omega⟩
      simp only [findF, h1]
      rw [if_pos trivial]
    · have hdp := h3 hp
      obtain ⟨g, g1, g2, g3⟩ := h.at' p h2
      obtain ⟨q1, q2⟩ := halve h h1 hp g1
      have hdg : d g ≤ n := by
        by_cases hg : g = p
        · rw [hg]; omega
        · have := g3 hg; omega
      obtain ⟨par', r, r1, r2, r3, r4, r5⟩ := ih g (par.set s g) hdg q1 (by rw [List.length_set]; exact g2)
      refine ⟨par', r, fun K hK => ?_, ?_, r3, by rw [r4, List.length_set], fun u v => (r5 u v).trans (q2 u v)⟩
      · obtain ⟨K, rfl⟩ : ∃ m, K = m + 1 := ⟨K - 1, by omega⟩
        simp only [findF, h1, if_neg hp, g1]
        exact r1 K (by omega)
      · have hg := (q2 g r).1 r2
        refine .step h1 hp ?_
        by_cases hgp : g = p
        · subst hgp; exact hg
        · exact .step g1 hgp hg
theorem unite {par : List Nat} {d : Nat → Nat} (h : Forest par d) {a b : Nat} (ha : par[a]? = some a) (hb : par[b]? = some b) (hab : a ≠ b) : (∃ d', Forest (par.set b a) d') ∧ ∀ u r, Root (par.set b a) u r ↔ (Root par u r ∧ r ≠ b) ∨ (Root par u b ∧ r = a) := by
  classical
  have hbl : b < par.length := (List.getElem?_eq_some_iff.1 hb).1
  have hal : a < par.length := (List.getElem?_eq_some_iff.1 ha).1
  have hset : (par.set b a)[b]? = some a := by rw [List.getElem?_set_self hbl]
  have hother : ∀ u, u ≠ b → (par.set b a)[u]? = par[u]? := fun u hu => List.getElem?_set_ne (fun e => hu e.symm)
  have hra : Root (par.set b a) a a := .base (by rw [hother a hab]; exact ha)
  have fwd : ∀ u r, Root par u r → (r ≠ b → Root (par.set b a) u r) ∧ (r = b → Root (par.set b a) u a) := by
    intro u r hr
    induction hr with
    | base h1 =>
      rename_i s
      refine ⟨fun hn => .base (by rw [hother s hn]; exact h1), fun he => ?_⟩
      subst he
      exact .step hset hab hra
    | step h1 h2 h3 ih =>
      rename_i s p r
      have hs : s ≠ b := fun he => by subst he; rw [hb] at h1; cases h1; exact h2 rfl
      exact ⟨fun hn => .step (by rw [hother s hs]; exact h1) h2 (ih.1 hn), fun he => .step (by rw [hother s hs]; exact h1) h2 (ih.2 he)⟩
  refine ⟨⟨fun u => if Root par u b then d u + (d a + 1) else d u, ⟨fun u hu => ?_⟩⟩, fun u r => ⟨fun hr => ?_, fun hr => ?_⟩⟩
  · rw [List.length_set] at hu ⊢
    by_cases hub : u = b
    · subst hub
      refine ⟨a, hset, hal, fun _ => ?_⟩
      have h1 : ¬ Root par a u := fun hh => hab ((Root.base ha).unique hh)
      simp only [if_neg h1, if_pos (Root.base hb)]
      omega
    · obtain ⟨p, p1, p2, p3⟩ := h.at' u hu
      refine ⟨p, by rw [hother u hub]; exact p1, p2, fun hne => ?_⟩
      have hlt := p3 hne
      have : Root par u b ↔ Root par p b := by
        constructor
        · intro hh
          cases hh with
          | base _ => exact absurd rfl hub
          | step q1 q2 q3 => rw [p1] at q1; cases q1; exact q3
        · exact fun hh => .step p1 hne hh
      by_cases hh : Root par p b
      · simp only [if_pos hh, if_pos (this.2 hh)]; omega
      · simp only [if_neg hh, if_neg (fun h => hh (this.1 h))]; omega
  · have hu : u < par.length := by
      cases hr with
      | base h1 => have := (List.getElem?_eq_some_iff.1 h1).1; rw [List.length_set] at this; exact this
      | step h1 _ _ => have := (List.getElem?_eq_some_iff.1 h1).1; rw [List.length_set] at this; exact this
    obtain ⟨r', hr'⟩ := h.root _ u (Nat.le_refl _) hu
    by_cases he : r' = b
    · subst he
      have := hr.unique ((fwd u _ hr').2 rfl)
      exact .inr ⟨hr', this⟩
    · have := hr.unique ((fwd u r' hr').1 he)
      subst this
      exact .inl ⟨hr', he⟩
  · rcases hr with ⟨h1, h2⟩ | ⟨h1, h2⟩
    · exact (fwd u r h1).1 h2
    · subst h2; exact (fwd u b h1).2 rfl
def roots (par : List Nat) : Nat := ((List.range par.length).filter fun s => par[s]? == some s).length
theorem filter_len_congr {α : Type} {p q : α → Bool} : ∀ (l : List α), (∀ x ∈ l, p x = q x) → (l.filter p).length = (l.filter q).length
  | [], _ => rfl
  | x :: l, h => by
    have ih := filter_len_congr l fun y hy => h y (by simp [hy])
    have hx := h x (by simp)
    by_cases hp : p x = true
    · rw [List.filter_cons_of_pos hp, List.filter_cons_of_pos (by rw [← hx]; exact hp), List.length_cons, List.length_cons, ih]
    · rw [List.filter_cons_of_neg hp, List.filter_cons_of_neg (by rw [← hx]; exact hp), ih]
theorem roots_same {par par' : List Nat} (hl : par'.length = par.length) (h : ∀ u v, Root par' u v ↔ Root par u v) : roots par' = roots par := by
  unfold roots
  rw [hl]
  refine filter_len_congr _ fun s _ => ?_
  rw [Bool.eq_iff_iff]
  simp only [beq_iff_eq]
  exact ⟨fun e => ((h s s).1 (.base e)).isRoot, fun e => ((h s s).2 (.base e)).isRoot⟩
theorem filter_len_lt {α : Type} {p q : α → Bool} {b : α} : ∀ (l : List α), (∀ x ∈ l, q x = true → p x = true) → b ∈ l → p b = true → q b = false → (l.filter q).length < (l.filter p).length
  | [], _, h, _, _ => by simp at h
  | x :: l, hs, hm, hp, hq => by
    have hle : (l.filter q).length ≤ (l.filter p).length := by
      have : ∀ l : List α, (∀ x ∈ l, q x = true → p x = true) → (l.filter q).length ≤ (l.filter p).length := by
        intro l
        induction l with
        | nil => simp
        | cons y l ih =>
          intro hs
          have := ih fun z hz => hs z (by simp [hz])
          by_cases hy : q y = true
          · rw [List.filter_cons_of_pos hy, List.filter_cons_of_pos (hs y (by simp) hy)]; simp; omega
          · rw [List.filter_cons_of_neg hy]
            by_cases hy' : p y = true
            · rw [List.filter_cons_of_pos hy']; simp; omega
            · rw [List.filter_cons_of_neg hy']; exact this
      exact this l fun y hy => hs y (by simp [hy])
    rcases List.mem_cons.1 hm with rfl | hm
    · rw [List.filter_cons_of_pos hp, List.filter_cons_of_neg (by rw [hq]; simp)]; simp; omega
    · have ih := filter_len_lt l (fun y hy => hs y (by simp [hy])) hm hp hq
      by_cases hx : q x = true
      · rw [List.filter_cons_of_pos hx, List.filter_cons_of_pos (hs x (by simp) hx)]; simp; omega
      · rw [List.filter_cons_of_neg hx]
        by_cases hx' : p x = true
        · rw [List.filter_cons_of_pos hx']; simp; omega
        · rw [List.filter_cons_of_neg hx']; exact ih
theorem roots_unite {par : List Nat} {a b : Nat} (hb : par[b]? = some b) (hab : a ≠ b) : roots (par.set b a) < roots par := by
  have hbl : b < par.length := (List.getElem?_eq_some_iff.1 hb).1
  unfold roots
  rw [List.length_set]
  refine filter_len_lt (b := b) _ (fun s _ h => ?_) (by simpa using hbl) (by simp [hb]) ?_
  · by_cases hs : s = b
    · subst hs; simp [hb]
    · rw [List.getElem?_set_ne (fun e => hs e.symm)] at h; exact h
  · rw [List.getElem?_set_self hbl]
    rw [beq_eq_false_iff_ne]
    intro he; cases he; exact hab rfl
theorem roots_le (par : List Nat) : roots par ≤ par.length := by
  unfold roots
  exact Nat.le_trans (List.length_filter_le _ _) (by simp)
end Go.Proofs.YtffdjfkekdoeaaaDoor.Pl
end
section
set_option linter.unusedVariables false
set_option linter.unusedSimpArgs false
set_option maxRecDepth 4000
set_option maxHeartbeats 2000000
namespace Go.Proofs.YtffdjfkekdoeaaaDoor.Pl
open Fo
abbrev Edg := Nat × Nat × Nat
def Sm (par : List Nat) (u v : Nat) : Prop := ∃ r, Root par u r ∧ Root par v r
inductive Eqv (par : List Nat) (todo : List (Nat × Nat)) : Nat → Nat → Prop
  | same {u v : Nat} : Sm par u v → Eqv par todo u v
  | pair {u v : Nat} : (u, v) ∈ todo → Eqv par todo u v
  | symm {u v : Nat} : Eqv par todo u v → Eqv par todo v u
  | trans {u v w : Nat} : Eqv par todo u v → Eqv par todo v w → Eqv par todo u w
theorem Eqv.mono {par par' : List Nat} {todo todo' : List (Nat × Nat)} (h1 : ∀ u v, Sm par u v → Eqv par' todo' u v) (h2 : ∀ u v, (u, v) ∈ todo → Eqv par' todo' u v) {u v : Nat} (h : Eqv par todo u v) : Eqv par' todo' u v := by
  induction h with
  | same h => exact h1 _ _ h
  | pair h => exact h2 _ _ h
  | symm _ ih => exact ih.symm
  | trans _ _ ih1 ih2 => exact ih1.trans ih2
inductive Cg (E : List Edg) : Nat → Nat → Prop
  | refl (u : Nat) : Cg E u u
  | symm {u v : Nat} : Cg E u v → Cg E v u
  | trans {u v w : Nat} : Cg E u v → Cg E v w → Cg E u w
  | fold {s s' x t t' : Nat} : (s, x, t) ∈ E → (s', x, t') ∈ E → Cg E s s' → Cg E t t'
theorem Cg.mono {E E' : List Edg} (h : ∀ e ∈ E, e ∈ E') {u v : Nat} (hc : Cg E u v) : Cg E' u v := by
  induction hc with
  | refl u => exact .refl u
  | symm _ ih => exact ih.symm
  | trans _ _ ih1 ih2 => exact ih1.trans ih2
  | fold h1 h2 _ ih => exact .fold (h _ h1) (h _ h2) ih
structure Ok (st : St) : Prop where
  len : st.next.length = st.par.length
  forest : ∃ d, Forest st.par d
  row : ∀ r ∈ st.next, r.length = st.m ∧ ∀ t, some t ∈ r → t < st.par.length
  todo : ∀ p ∈ st.todo, p.1 < st.par.length ∧ p.2 < st.par.length
def Ent (st : St) (i x t : Nat) : Prop := ∃ row, st.next[i]? = some row ∧ row[x]? = some (some t)
structure Snd (E : List Edg) (st : St) : Prop where
  par : ∀ u v, Sm st.par u v → Cg E u v
  todo : ∀ u v, (u, v) ∈ st.todo → Cg E u v
  ent : ∀ i x t, Ent st i x t → ∃ s, (s, x, t) ∈ E ∧ Cg E i s
def Done (st : St) (s x t : Nat) : Prop := ∃ r t', Root st.par s r ∧ Ent st r x t' ∧ Eqv st.par st.todo t' t
def Cm (C : List Edg) (st : St) : Prop := ∀ s x t, (s, x, t) ∈ C → Done st s x t
structure Grow (st st' : St) : Prop where
  m : st'.m = st.m
  len : st'.par.length = st.par.length
  root : ∀ u v, Root st'.par u v ↔ Root st.par u v
  ent : ∀ i x t, Ent st i x t → Ent st' i x t
  todo : ∀ p ∈ st.todo, p ∈ st'.todo
theorem Grow.refl (st : St) : Grow st st := ⟨rfl, rfl, fun _ _ => Iff.rfl, fun _ _ _ h => h, fun _ h => h⟩
theorem Grow.trans {a b c : St} (h : Grow a b) (k : Grow b c) : Grow a c :=
  ⟨k.m.trans h.m, k.len.trans h.len, fun u v => (k.root u v).trans (h.root u v), fun i x t e => k.ent i x t (h.ent i x t e), fun p hp => k.todo p (h.todo p hp)⟩
theorem Grow.eqv {st st' : St} (h : Grow st st') {u v : Nat} (he : Eqv st.par st.todo u v) : Eqv st'.par st'.todo u v :=
  he.mono (fun u v ⟨r, h1, h2⟩ => .same ⟨r, (h.root _ _).2 h1, (h.root _ _).2 h2⟩) fun u v hp => .pair (h.todo _ hp)
theorem Grow.done {st st' : St} (h : Grow st st') {s x t : Nat} (hd : Done st s x t) : Done st' s x t := by
  obtain ⟨r, t', h1, h2, h3⟩ := hd
  exact ⟨r, t', (h.root _ _).2 h1, h.ent _ _ _ h2, h.eqv h3⟩
theorem Grow.roots {st st' : St} (h : Grow st st') : roots st'.par = roots st.par := roots_same h.len h.root
theorem lead_ev {st : St} (hok : Ok st) {s x t : Nat} (hs : s < st.par.length) (hx : x < st.m) (ht : t < st.par.length) (hb : st.todo.length < big) :
    ∃ st', Ev (fun K => leadF K st s x t) st' ∧ Ok st' ∧ Grow st st' ∧ st'.todo.length ≤ st.todo.length + 1 ∧ Done st' s x t ∧ (∀ i, ¬ Root st.par i i → st'.next[i]? = st.next[i]?) ∧
      ∀ E, Snd E st → (∃ s', (s', x, t) ∈ E ∧ Cg E s s') → Snd E st' := by
  obtain ⟨d, hf⟩ := hok.forest
  obtain ⟨par', r, k1, k2, k3, k4, k5⟩ := find_ev (d s) s st.par (Nat.le_refl _) hf hs
  have hr : r < st.next.length := by rw [hok.len]; exact k2.lt
  have hrow : st.next[r]? = some st.next[r] := List.getElem?_eq_getElem hr
  have hmem := hok.row _ (List.getElem_mem hr)
  generalize hR : st.next[r] = row at *
  have hxl : x < row.length := by omega
  have hxe : row[x]? = some row[x] := List.getElem?_eq_getElem hxl
  have hsm : ∀ u v, Sm par' u v ↔ Sm st.par u v := fun u v => ⟨fun ⟨q, a, b⟩ => ⟨q, (k5 _ _).1 a, (k5 _ _).1 b⟩, fun ⟨q, a, b⟩ => ⟨q, (k5 _ _).2 a, (k5 _ _).2 b⟩⟩
  cases ho : row[x] with
  | none =>
    refine ⟨{ st with par := par', next := st.next.set r (row.set x (some t)) }, ⟨d s + 1, fun K hK => ?_⟩, ?_, ?_, Nat.le_succ _, ?_, fun i hi => ?_, fun E hS hE => ?_⟩
    · show leadF K st s x t = _
      unfold leadF
      rw [k1 K (by omega)]
      simp only [hrow, hxe, ho]
    · refine ⟨by show (st.next.set _ _).length = par'.length; rw [List.length_set, k4, hok.len], ⟨d, k3⟩, fun q hq => ?_, fun p hp => by show p.1 < par'.length ∧ p.2 < par'.length; rw [k4]; exact hok.todo p hp⟩
      show q.length = st.m ∧ ∀ t, some t ∈ q → t < par'.length
      rw [k4]
      rcases List.mem_or_eq_of_mem_set hq with hq | rfl
      · exact hok.row q hq
      · refine ⟨by rw [List.length_set]; exact hmem.1, fun u hu => ?_⟩
        rcases List.mem_or_eq_of_mem_set hu with hu | hu
        · exact hmem.2 u hu
        · cases hu; exact ht
    · refine ⟨rfl, k4, k5, fun i y u ⟨q, h1, h2⟩ => ?_, fun p hp => hp⟩
      by_cases hir : i = r
      · subst hir
        rw [hrow] at h1; cases h1
        refine ⟨row.set x (some t), List.getElem?_set_self hr, ?_⟩
        by_cases hy : y = x
        · subst hy; rw [hxe, ho] at h2; cases h2
        · rw [List.getElem?_set_ne (fun e => hy e.symm)]; exact h2
      · exact ⟨q, by show (st.next.set r _)[i]? = _; rw [List.getElem?_set_ne (fun e => hir e.symm)]; exact h1, h2⟩
    · exact ⟨r, t, (k5 _ _).2 k2, ⟨_, List.getElem?_set_self hr, List.getElem?_set_self hxl⟩, .same (by
        obtain ⟨q, hq⟩ := hf.root _ t (Nat.le_refl _) ht
        exact ⟨q, (k5 _ _).2 hq, (k5 _ _).2 hq⟩)⟩
    · show (st.next.set r _)[i]? = _
      exact List.getElem?_set_ne (fun e => hi (by rw [← e]; exact k2.self))
    · refine ⟨fun u v h => hS.par u v ((hsm u v).1 h), hS.todo, fun i y u ⟨q, h1, h2⟩ => ?_⟩
      have h1 : (st.next.set r (row.set x (some t)))[i]? = some q := h1
      by_cases hir : i = r
      · subst hir
        rw [List.getElem?_set_self hr] at h1; cases h1
        by_cases hy : y = x
        · subst hy
          rw [List.getElem?_set_self hxl] at h2; cases h2
          obtain ⟨s', e1, e2⟩ := hE
          exact ⟨s', e1, (hS.par _ _ ⟨i, k2.self, k2⟩).trans e2⟩
        · rw [List.getElem?_set_ne (fun e => hy e.symm)] at h2
          exact hS.ent i y u ⟨row, hrow, h2⟩
      · rw [List.getElem?_set_ne (fun e => hir e.symm)] at h1
        exact hS.ent i y u ⟨q, h1, h2⟩
  | some u =>
    have hu : u < st.par.length := hmem.2 u (by rw [← ho]; exact List.getElem_mem hxl)
    refine ⟨{ st with par := par', todo := st.todo ++ [(u, t)] }, ⟨d s + 1, fun K hK => ?_⟩, ?_, ?_, by simp, ?_, fun i hi => rfl, fun E hS hE => ?_⟩
    · show leadF K st s x t = _
      unfold leadF
      rw [k1 K (by omega)]
      simp only [hrow, hxe, ho]
      rw [if_pos hb]
    · refine ⟨by show st.next.length = par'.length; rw [k4, hok.len], ⟨d, k3⟩, fun q hq => by show q.length = st.m ∧ ∀ t, some t ∈ q → t < par'.length; rw [k4]; exact hok.row q hq, fun p hp => ?_⟩
      show p.1 < par'.length ∧ p.2 < par'.length
      rw [k4]
      rcases List.mem_append.1 hp with hp | hp
      · exact hok.todo p hp
      · simp only [List.mem_singleton] at hp; subst hp; exact ⟨hu, ht⟩
    · exact ⟨rfl, k4, k5, fun i y v h => h, fun p hp => List.mem_append_left _ hp⟩
    · exact ⟨r, u, (k5 _ _).2 k2, ⟨row, hrow, by rw [hxe, ho]⟩, .pair (List.mem_append_right _ (by simp))⟩
    · refine ⟨fun u v h => hS.par u v ((hsm u v).1 h), fun v v' hp => ?_, fun i y v h => hS.ent i y v h⟩
      rcases List.mem_append.1 hp with hp | hp
      · exact hS.todo v v' hp
      · simp only [List.mem_singleton, Prod.mk.injEq] at hp
        obtain ⟨rfl, rfl⟩ := hp
        obtain ⟨s1, e1, e2⟩ := hS.ent r x v ⟨row, hrow, by rw [hxe, ho]⟩
        obtain ⟨s2, e3, e4⟩ := hE
        exact .fold e1 e3 ((e2.symm.trans (hS.par _ _ ⟨r, k2.self, k2⟩)).trans e4)
theorem spill_ev : ∀ (n : Nat) (st : St) (a b y : Nat) (rowb : Row), Ok st → a < st.par.length → ¬ Root st.par b b → st.next[b]? = some rowb → y + n = st.m → st.todo.length + n < big →
    ∃ st', Ev (fun K => spillF K n st a b y) st' ∧ Ok st' ∧ Grow st st' ∧ st'.todo.length ≤ st.todo.length + n ∧ (∀ x t, y ≤ x → rowb[x]? = some (some t) → Done st' a x t) ∧ ∀ E, Snd E st → Cg E a b → Snd E st'
  | 0, st, a, b, y, rowb, hok, ha, hb, hrb, hy, hbig => by
    refine ⟨st, ⟨0, fun _ _ => rfl⟩, hok, Grow.refl st, Nat.le_refl _, fun x t hx hxt => ?_, fun E hS _ => hS⟩
    have := (hok.row rowb (List.mem_of_getElem? hrb)).1
    have := (List.getElem?_eq_some_iff.1 hxt).1
    omega
  | n + 1, st, a, b, y, rowb, hok, ha, hb, hrb, hy, hbig => by
    have hm := hok.row rowb (List.mem_of_getElem? hrb)
    have hyl : y < rowb.length := by omega
    have hye : rowb[y]? = some rowb[y] := List.getElem?_eq_getElem hyl
    cases ho : rowb[y] with
    | none =>
      obtain ⟨st', ⟨K0, h1⟩, h2, h3, h4, h5, h6⟩ := spill_ev n st a b (y + 1) rowb hok ha hb hrb (by omega) (by omega)
      refine ⟨st', ⟨K0, fun K hK => ?_⟩, h2, h3, by omega, fun x t hx hxt => ?_, h6⟩
      · show spillF K (n + 1) st a b y = _
        simp only [spillF, hrb, Option.bind_some, hye, ho]
        exact h1 K hK
      · by_cases hxy : x = y
        · subst hxy; rw [hye, ho] at hxt; cases hxt
        · exact h5 x t (by omega) hxt
    | some t =>
      have ht := hm.2 t (by rw [← ho]; exact List.getElem_mem hyl)
      obtain ⟨st1, ⟨K1, a1⟩, a2, a3, a4, a5, a6, a7⟩ := lead_ev hok (s := a) (x := y) (t := t) ha (by omega) ht (by omega)
      obtain ⟨st', ⟨K0, h1⟩, h2, h3, h4, h5, h6⟩ := spill_ev n st1 a b (y + 1) rowb a2 (by rw [a3.len]; exact ha) (fun h => hb ((a3.root _ _).1 h)) (by rw [a6 b hb]; exact hrb) (by rw [a3.m]; omega) (by omega)
      refine ⟨st', ⟨max K0 K1, fun K hK => ?_⟩, h2, a3.trans h3, by omega, fun x u hx hxt => ?_, fun E hS hE => h6 E (a7 E hS ?_) hE⟩
      · show spillF K (n + 1) st a b y = _
        simp only [spillF, hrb, Option.bind_some, hye, ho]
        rw [show leadF K st a y t = some st1 from a1 K (by omega)]
        exact h1 K (by omega)
      · by_cases hxy : x = y
        · subst hxy; rw [hye, ho] at hxt; cases hxt
          exact h3.done a5
        · exact h5 x u (by omega) hxt
      · obtain ⟨s', e1, e2⟩ := hS.ent b y t ⟨rowb, hrb, by rw [hye, ho]⟩
        exact ⟨s', e1, hE.trans e2⟩
def mu (st : St) : Nat := roots st.par * (st.m + 1) + st.todo.length
theorem fold_ev : ∀ (N : Nat) (st : St), mu st ≤ N → N + st.m < big → Ok st →
    ∃ st' K0, (∀ K k, K0 ≤ K → N < k → foldF K k st = some st') ∧ Ok st' ∧ st'.todo = [] ∧ st'.m = st.m ∧ st'.par.length = st.par.length ∧ (∀ C, Cm C st → Cm C st') ∧ ∀ E, Snd E st → Snd E st' := by
  intro N
  induction N with
  | zero =>
    intro st hmu hbig hok
    have ht : st.todo = [] := by
      unfold mu at hmu
      exact List.eq_nil_of_length_eq_zero (by omega)
    refine ⟨st, 0, fun K k _ hk => ?_, hok, ht, rfl, rfl, fun _ h => h, fun _ h => h⟩
    obtain ⟨k, rfl⟩ : ∃ m, k = m + 1 := ⟨k - 1, by omega⟩
    simp only [foldF, ht, List.getLast?_nil]
  | succ N ih =>
    intro st hmu hbig hok
    rcases List.eq_nil_or_concat st.todo with ht | ⟨td, ⟨u, v⟩, ht⟩
    · refine ⟨st, 0, fun K k _ hk => ?_, hok, ht, rfl, rfl, fun _ h => h, fun _ h => h⟩
      obtain ⟨k, rfl⟩ : ∃ m, k = m + 1 := ⟨k - 1, by omega⟩
      simp only [foldF, ht, List.getLast?_nil]
    · rw [List.concat_eq_append] at ht
      have hlast : st.todo.getLast? = some (u, v) := by rw [ht]; simp
      have hdl : st.todo.dropLast = td := by rw [ht]; simp
      have hlen : st.todo.length = td.length + 1 := by rw [ht]; simp
      obtain ⟨hu, hv⟩ := hok.todo (u, v) (by rw [ht]; simp)
      dsimp only at hu hv
      obtain ⟨d, hf⟩ := hok.forest
      obtain ⟨par1, a, k1, k2, k3, k4, k5⟩ := find_ev (d u) u st.par (Nat.le_refl _) hf hu
      obtain ⟨par2, b, l1, l2, l3, l4, l5⟩ := find_ev (d v) v par1 (Nat.le_refl _) k3 (by rw [k4]; exact hv)
      have hroot2 : ∀ p q, Root par2 p q ↔ Root st.par p q := fun p q => (l5 p q).trans (k5 p q)
      have hlen2 : par2.length = st.par.length := l4.trans k4
      have l2' : Root st.par v b := (k5 _ _).1 l2
      have hsm2 : ∀ p q, Sm st.par p q ↔ Sm par2 p q := fun p q => ⟨fun ⟨r, e1, e2⟩ => ⟨r, (hroot2 _ _).2 e1, (hroot2 _ _).2 e2⟩, fun ⟨r, e1, e2⟩ => ⟨r, (hroot2 _ _).1 e1, (hroot2 _ _).1 e2⟩⟩
      have hroots2 : roots par2 = roots st.par := roots_same hlen2 hroot2
      have htodo : ∀ p ∈ td, p ∈ st.todo := fun p hp => by rw [ht]; exact List.mem_append_left _ hp
      unfold mu at hmu
      by_cases hab : a = b
      · subst hab
        obtain ⟨st', K0, r1, r2, r3, r4, r5, r6, r7⟩ := ih { st with par := par2, todo := td } (by unfold mu; dsimp only; rw [hroots2]; omega) (by show N + st.m < big; omega)
          ⟨by show st.next.length = par2.length; rw [hlen2, hok.len], ⟨d, l3⟩, fun q hq => by show q.length = st.m ∧ ∀ t, some t ∈ q → t < par2.length; rw [hlen2]; exact hok.row q hq, fun p hp => by show p.1 < par2.length ∧ p.2 < par2.length; rw [hlen2]; exact hok.todo p (htodo p hp)⟩
        refine ⟨st', K0 + d u + d v + 1, fun K k hK hk => ?_, r2, r3, r4, r5.trans hlen2, fun C hC => r6 C fun s x t he => ?_, fun E hS => r7 E ⟨fun p q h => hS.par p q ((hsm2 _ _).2 h), fun p q h => hS.todo p q (htodo _ h), fun i x t h => hS.ent i x t h⟩⟩
        · obtain ⟨k, rfl⟩ : ∃ m, k = m + 1 := ⟨k - 1, by omega⟩
          simp only [foldF, hlast]
          rw [k1 K (by omega)]
          simp only
          rw [l1 K (by omega)]
          simp only [if_true, hdl]
          exact r1 K k (by omega) (by omega)
        · obtain ⟨r, t', e1, e2, e3⟩ := hC s x t he
          refine ⟨r, t', (hroot2 _ _).2 e1, e2, e3.mono (fun p q h => .same ((hsm2 _ _).1 h)) fun p q h => ?_⟩
          rw [ht] at h
          rcases List.mem_append.1 h with h | h
          · exact .pair h
          · simp only [List.mem_singleton, Prod.mk.injEq] at h
            obtain ⟨rfl, rfl⟩ := h
            exact .same ⟨a, (hroot2 _ _).2 k2, (hroot2 _ _).2 l2'⟩
      · have ha2 : par2[a]? = some a := ((hroot2 _ _).2 k2.self).isRoot
        have hb2 : par2[b]? = some b := ((hroot2 _ _).2 l2'.self).isRoot
        obtain ⟨⟨d3, hf3⟩, hroot3⟩ := unite l3 ha2 hb2 hab
        have hal : a < st.par.length := k2.lt
        have hbl : b < st.par.length := l2'.lt
        have hrb : st.next[b]? = some (st.next[b]'(by rw [hok.len]; exact hbl)) := List.getElem?_eq_getElem _
        have hnb : ¬ Root (par2.set b a) b b := fun h => by
          rcases (hroot3 _ _).1 h with ⟨_, h2⟩ | ⟨_, h2⟩
          · exact h2 rfl
          · exact hab h2.symm
        have hok2 : Ok { st with par := par2.set b a, todo := td } :=
          ⟨by show st.next.length = (par2.set b a).length; rw [List.length_set, hlen2, hok.len], ⟨d3, hf3⟩, fun q hq => by show q.length = st.m ∧ ∀ t, some t ∈ q → t < (par2.set b a).length; rw [List.length_set, hlen2]; exact hok.row q hq, fun p hp => by show p.1 < (par2.set b a).length ∧ p.2 < (par2.set b a).length; rw [List.length_set, hlen2]; exact hok.todo p (htodo p hp)⟩
        have hrless : roots (par2.set b a) < roots st.par := by rw [← hroots2]; exact roots_unite hb2 hab
        have hmul : roots (par2.set b a) * (st.m + 1) + (st.m + 1) ≤ roots st.par * (st.m + 1) := by
          rw [← Nat.succ_mul]; exact Nat.mul_le_mul_right _ hrless
        obtain ⟨st3, ⟨K3, s1⟩, s2, s3, s4, s5, s6⟩ := spill_ev st.m { st with par := par2.set b a, todo := td } a b 0 _ hok2 (by show a < (par2.set b a).length; rw [List.length_set, hlen2]; exact hal) hnb hrb (by simp) (by show td.length + st.m < big; omega)
        have s4 : st3.todo.length ≤ td.length + st.m := s4
        have hr3 : roots st3.par = roots (par2.set b a) := s3.roots
        have hm3 : st3.m = st.m := s3.m
        obtain ⟨st', K0, r1, r2, r3, r4, r5, r6, r7⟩ := ih st3 (by unfold mu; rw [hr3, hm3]; omega) (by rw [hm3]; omega) s2
        have hsm3 : ∀ p q, Sm st.par p q → Sm (par2.set b a) p q := fun p q ⟨r, e1, e2⟩ => by
          by_cases hr : r = b
          · subst hr
            exact ⟨a, (hroot3 _ _).2 (.inr ⟨(hroot2 _ _).2 e1, rfl⟩), (hroot3 _ _).2 (.inr ⟨(hroot2 _ _).2 e2, rfl⟩)⟩
          · exact ⟨r, (hroot3 _ _).2 (.inl ⟨(hroot2 _ _).2 e1, hr⟩), (hroot3 _ _).2 (.inl ⟨(hroot2 _ _).2 e2, hr⟩)⟩
        have huv : Sm (par2.set b a) u v := ⟨a, (hroot3 _ _).2 (.inl ⟨(hroot2 _ _).2 k2, hab⟩), (hroot3 _ _).2 (.inr ⟨(hroot2 _ _).2 l2', rfl⟩)⟩
        have hsm3' : ∀ p q, Sm (par2.set b a) p q → Sm st3.par p q := fun p q ⟨r, e1, e2⟩ => ⟨r, (s3.root _ _).2 e1, (s3.root _ _).2 e2⟩
        have heqv : ∀ p q, Eqv st.par st.todo p q → Eqv st3.par st3.todo p q := fun p q h => h.mono (fun p q h => .same (hsm3' _ _ (hsm3 _ _ h))) fun p q h => by
          rw [ht] at h
          rcases List.mem_append.1 h with h | h
          · exact .pair (s3.todo _ h)
          · simp only [List.mem_singleton, Prod.mk.injEq] at h
            obtain ⟨rfl, rfl⟩ := h
            exact .same (hsm3' _ _ huv)
        refine ⟨st', K0 + K3 + d u + d v + 1, fun K k hK hk => ?_, r2, r3, r4.trans hm3, r5.trans (s3.len.trans (by show (par2.set b a).length = _; rw [List.length_set, hlen2])), fun C hC => r6 C fun s x t he => ?_, fun E hS => r7 E (s6 E ⟨fun p q ⟨r, e1, e2⟩ => ?_, fun p q h => hS.todo p q (htodo _ h), fun i x t h => hS.ent i x t h⟩ ?_)⟩
        · obtain ⟨k, rfl⟩ : ∃ m, k = m + 1 := ⟨k - 1, by omega⟩
          simp only [foldF, hlast]
          rw [k1 K (by omega)]
          simp only
          rw [l1 K (by omega)]
          simp only [if_neg hab, hb2, hrb, hdl]
          rw [show spillF K st.m { st with par := par2.set b a, todo := td } a b 0 = some st3 from s1 K (by omega)]
          exact r1 K k (by omega) (by omega)
        · obtain ⟨r, t', e1, e2, e3⟩ := hC s x t he
          by_cases hr : r = b
          · subst hr
            obtain ⟨row, q1, q2⟩ := e2
            rw [hrb] at q1; cases q1
            obtain ⟨r', t'', f1, f2, f3⟩ := s5 x t' (Nat.zero_le _) q2
            have hra : Root st3.par s a := (s3.root _ _).2 ((hroot3 _ _).2 (.inr ⟨(hroot2 _ _).2 e1, rfl⟩))
            have : r' = a := f1.unique hra.self
            subst this
            exact ⟨r', t'', hra, f2, f3.trans (heqv _ _ e3)⟩
          · exact ⟨r, t', (s3.root _ _).2 ((hroot3 _ _).2 (.inl ⟨(hroot2 _ _).2 e1, hr⟩)), s3.ent r x t' e2, heqv _ _ e3⟩
        · have hcab : Cg E a b := ((hS.par _ _ ⟨a, k2.self, k2⟩).trans (hS.todo u v (by rw [ht]; simp))).trans (hS.par _ _ ⟨b, l2', l2'.self⟩)
          rcases (hroot3 _ _).1 e1 with ⟨f1, f2⟩ | ⟨f1, f2⟩ <;> rcases (hroot3 _ _).1 e2 with ⟨g1, g2⟩ | ⟨g1, g2⟩
          · exact hS.par _ _ ⟨r, (hroot2 _ _).1 f1, (hroot2 _ _).1 g1⟩
          · subst g2
            exact ((hS.par p r ⟨r, (hroot2 _ _).1 f1, k2.self⟩).trans hcab).trans (hS.par b q ⟨b, l2'.self, (hroot2 _ _).1 g1⟩)
          · subst f2
            exact ((hS.par p b ⟨b, (hroot2 _ _).1 f1, l2'.self⟩).trans hcab.symm).trans (hS.par r q ⟨r, k2.self, (hroot2 _ _).1 g1⟩)
          · exact hS.par _ _ ⟨b, (hroot2 _ _).1 f1, (hroot2 _ _).1 g1⟩
        · exact ((hS.par _ _ ⟨a, k2.self, k2⟩).trans (hS.todo u v (by rw [ht]; simp))).trans (hS.par _ _ ⟨b, l2', l2'.self⟩)
structure Inv (E : List Edg) (st : St) : Prop where
  ok : Ok st
  todo : st.todo = []
  snd : Snd E st
  cm : Cm E st
theorem link_ev {E : List Edg} {st : St} (h : Inv E st) {s x t : Nat} (hs : s < st.par.length) (ht : t < st.par.length) (hx : x < st.m) (hx1 : x ^^^ 1 < st.m) (hb : st.par.length * (st.m + 1) + 2 + st.m < big) :
    ∃ st', Ev (fun K => linkF K st s x t) st' ∧ Inv ((s, x, t) :: (t, x ^^^ 1, s) :: E) st' ∧ st'.m = st.m ∧ st'.par.length = st.par.length := by
  have hrl := roots_le st.par
  have hmul : roots st.par * (st.m + 1) ≤ st.par.length * (st.m + 1) := Nat.mul_le_mul_right _ hrl
  obtain ⟨st1, ⟨K1, a1⟩, a2, a3, a4, a5, _, a7⟩ := lead_ev h.ok hs hx ht (by rw [h.todo]; simp; omega)
  rw [h.todo] at a4
  simp only [List.length_nil] at a4
  obtain ⟨st2, ⟨K2, b1⟩, b2, b3, b4, b5, _, b7⟩ := lead_ev a2 (s := t) (x := x ^^^ 1) (t := s) (by rw [a3.len]; exact ht) (by rw [a3.m]; exact hx1) (by rw [a3.len]; exact hs) (by omega)
  have hg := a3.trans b3
  have hmu : mu st2 ≤ st.par.length * (st.m + 1) + 2 := by
    unfold mu
    rw [hg.roots, hg.m]; omega
  obtain ⟨st', K0, r1, r2, r3, r4, r5, r6, r7⟩ := fold_ev (st.par.length * (st.m + 1) + 2) st2 hmu (by rw [hg.m]; omega) b2
  have hsub : ∀ e ∈ E, e ∈ (s, x, t) :: (t, x ^^^ 1, s) :: E := fun e he => by simp [he]
  have hS0 : Snd ((s, x, t) :: (t, x ^^^ 1, s) :: E) st := ⟨fun u v hh => (h.snd.par u v hh).mono hsub, fun u v hh => (h.snd.todo u v hh).mono hsub, fun i y u hh => by
    obtain ⟨s', e1, e2⟩ := h.snd.ent i y u hh
    exact ⟨s', hsub _ e1, e2.mono hsub⟩⟩
  refine ⟨st', ⟨K0 + K1 + K2 + (st.par.length * (st.m + 1) + 2) + 1, fun K hK => ?_⟩, ⟨r2, r3, ?_, ?_⟩, r4.trans hg.m, r5.trans hg.len⟩
  · show linkF K st s x t = _
    unfold linkF
    rw [show leadF K st s x t = some st1 from a1 K (by omega)]
    simp only
    rw [show leadF K st1 t (x ^^^ 1) s = some st2 from b1 K (by omega)]
    exact r1 K K (by omega) (by omega)
  · exact r7 _ (b7 _ (a7 _ hS0 ⟨s, by simp, .refl s⟩) ⟨t, by simp, .refl t⟩)
  · refine r6 _ fun p y q he => ?_
    rcases List.mem_cons.1 he with he | he
    · simp only [Prod.mk.injEq] at he
      obtain ⟨rfl, rfl, rfl⟩ := he
      exact b3.done a5
    · rcases List.mem_cons.1 he with he | he
      · simp only [Prod.mk.injEq] at he
        obtain ⟨rfl, rfl, rfl⟩ := he
        exact b5
      · exact hg.done (h.cm p y q he)
end Go.Proofs.YtffdjfkekdoeaaaDoor.Pl
end
section
set_option linter.unusedVariables false
set_option linter.unusedSimpArgs false
set_option maxRecDepth 4000
set_option maxHeartbeats 2000000
namespace Go.Proofs.YtffdjfkekdoeaaaDoor.Pl
open Fo
theorem Inv.congr {E E' : List Edg} {st : St} (h : Inv E st) (he : ∀ e, e ∈ E ↔ e ∈ E') : Inv E' st := by
  have m1 : ∀ e ∈ E, e ∈ E' := fun e h => (he e).1 h
  exact ⟨h.ok, h.todo, ⟨fun u v hh => (h.snd.par u v hh).mono m1, fun u v hh => (h.snd.todo u v hh).mono m1, fun i x t hh => by
    obtain ⟨s, e1, e2⟩ := h.snd.ent i x t hh; exact ⟨s, m1 _ e1, e2.mono m1⟩⟩, fun s x t hh => h.cm s x t ((he _).2 hh)⟩
theorem Root.lt_left {par : List Nat} {s r : Nat} (h : Root par s r) : s < par.length := by
  cases h with
  | base h => exact (List.getElem?_eq_some_iff.1 h).1
  | step h _ _ => exact (List.getElem?_eq_some_iff.1 h).1
theorem root_app {par : List Nat} {d : Nat → Nat} (hf : Forest par d) {u v : Nat} : Root (par ++ [par.length]) u v ↔ Root par u v ∨ (u = par.length ∧ v = par.length) := by
  have hn : (par ++ [par.length])[par.length]? = some par.length := by simp
  constructor
  · intro h
    induction h with
    | base h =>
      rename_i s
      by_cases hs : s < par.length
      · rw [List.getElem?_append_left hs] at h; exact .inl (.base h)
      · have := (List.getElem?_eq_some_iff.1 h).1
        simp at this
        exact .inr ⟨by omega, by omega⟩
    | step h1 h2 h3 ih =>
      rename_i s p r
      by_cases hs : s < par.length
      · rw [List.getElem?_append_left hs] at h1
        rcases ih with ih | ⟨ih, ih'⟩
        · exact .inl (.step h1 h2 ih)
        · obtain ⟨q, q1, q2, _⟩ := hf.at' s hs
          rw [h1] at q1; cases q1
          omega
      · have := (List.getElem?_eq_some_iff.1 h1).1
        simp at this
        obtain rfl : s = par.length := by omega
        rw [hn] at h1; cases h1; exact absurd rfl h2
  · rintro (h | ⟨rfl, rfl⟩)
    · induction h with
      | base h => exact .base (by rw [List.getElem?_append_left (List.getElem?_eq_some_iff.1 h).1]; exact h)
      | step h1 h2 _ ih => exact .step (by rw [List.getElem?_append_left (List.getElem?_eq_some_iff.1 h1).1]; exact h1) h2 ih
    · exact .base hn
theorem state_ev {E : List Edg} {st : St} (h : Inv E st) (hb : st.par.length < big) :
    ∃ st', stateF st = some st' ∧ Inv E st' ∧ st'.m = st.m ∧ st'.par.length = st.par.length + 1 := by
  obtain ⟨d, hf⟩ := h.ok.forest
  have hroot := fun u v => root_app hf (u := u) (v := v)
  have hsm : ∀ u v, Sm (st.par ++ [st.par.length]) u v → Sm st.par u v ∨ u = v := fun u v ⟨r, h1, h2⟩ => by
    rcases (hroot _ _).1 h1 with h1 | ⟨h1, h1'⟩ <;> rcases (hroot _ _).1 h2 with h2 | ⟨h2, h2'⟩
    · exact .inl ⟨r, h1, h2⟩
    · have := h1.lt; omega
    · have := h2.lt; omega
    · exact .inr (by omega)
  have hent : ∀ i x t, Ent { st with par := st.par ++ [st.par.length], next := st.next ++ [List.replicate st.m none] } i x t ↔ Ent st i x t := fun i x t => by
    constructor
    · rintro ⟨row, h1, h2⟩
      have h1 : (st.next ++ [List.replicate st.m none])[i]? = some row := h1
      by_cases hi : i < st.next.length
      · rw [List.getElem?_append_left hi] at h1; exact ⟨row, h1, h2⟩
      · rw [List.getElem?_append_right (by omega)] at h1
        cases hk : i - st.next.length with
        | zero =>
          rw [hk] at h1
          simp only [List.getElem?_cons_zero, Option.some.injEq] at h1
          subst h1
          rw [List.getElem?_replicate] at h2
          split at h2 <;> cases h2
        | succ n => rw [hk] at h1; simp at h1
    · rintro ⟨row, h1, h2⟩
      exact ⟨row, by show (st.next ++ [_])[i]? = _; rw [List.getElem?_append_left (List.getElem?_eq_some_iff.1 h1).1]; exact h1, h2⟩
  refine ⟨{ st with par := st.par ++ [st.par.length], next := st.next ++ [List.replicate st.m none] }, ?_, ⟨⟨?_, ⟨d, ⟨fun s hs => ?_⟩⟩, fun r hr => ?_, fun p hp => ?_⟩, h.todo, ⟨fun u v hh => ?_, h.snd.todo, fun i x t hh => h.snd.ent i x t ((hent i x t).1 hh)⟩, fun s x t he => ?_⟩, rfl, by simp⟩
  · unfold stateF
    rw [if_pos ⟨hb, by rw [h.ok.len]; exact hb⟩]
  · simp [h.ok.len]
  · have hs : s < (st.par ++ [st.par.length]).length := hs
    show ∃ p, (st.par ++ [st.par.length])[s]? = some p ∧ p < (st.par ++ [st.par.length]).length ∧ _
    simp only [List.length_append, List.length_singleton] at hs ⊢
    by_cases hl : s < st.par.length
    · obtain ⟨p, h1, h2, h3⟩ := hf.at' s hl
      exact ⟨p, by rw [List.getElem?_append_left hl]; exact h1, by omega, h3⟩
    · obtain rfl : s = st.par.length := by omega
      exact ⟨st.par.length, by simp, by omega, fun hh => absurd rfl hh⟩
  · show r.length = st.m ∧ ∀ t, some t ∈ r → t < (st.par ++ [st.par.length]).length
    rcases List.mem_append.1 hr with hr | hr
    · have := h.ok.row r hr
      exact ⟨this.1, fun t ht => by have := this.2 t ht; simp; omega⟩
    · simp only [List.mem_singleton] at hr
      subst hr
      exact ⟨by simp, fun t ht => by have := List.eq_of_mem_replicate ht; cases this⟩
  · have hp : p ∈ st.todo := hp
    rw [h.todo] at hp; simp at hp
  · rcases hsm u v hh with hh | rfl
    · exact h.snd.par u v hh
    · exact .refl u
  · obtain ⟨r, t', h1, h2, h3⟩ := h.cm s x t he
    exact ⟨r, t', (hroot _ _).2 (.inl h1), (hent _ _ _).2 h2, h3.mono (fun u v ⟨q, a, b⟩ => .same ⟨q, (hroot _ _).2 (.inl a), (hroot _ _).2 (.inl b)⟩) fun u v hp => .pair hp⟩
def pathE : Nat → Nat → List Nat → Nat → List Edg
  | _, _, [], _ => []
  | _, s, [x], t => [(s, x, t), (t, x ^^^ 1, s)]
  | n, s, x :: y :: l, t => (s, x, n) :: (n, x ^^^ 1, s) :: pathE (n + 1) n (y :: l) t
theorem path_ev : ∀ (w : List Nat) (E : List Edg) (st : St) (s t : Nat), Inv E st → s < st.par.length → t < st.par.length → (∀ x ∈ w, x < st.m ∧ x ^^^ 1 < st.m) → (st.par.length + w.length) * (st.m + 1) + 2 + st.m < big →
    ∃ st', Ev (fun K => pathF K st s w t) st' ∧ Inv (pathE st.par.length s w t ++ E) st' ∧ st'.m = st.m ∧ st'.par.length = st.par.length + (w.length - 1)
  | [], E, st, s, t, h, hs, ht, hw, hb => ⟨st, ⟨0, fun _ _ => by simp [pathF]⟩, h, rfl, rfl⟩
  | [x], E, st, s, t, h, hs, ht, hw, hb => by
    have hx := hw x (by simp)
    have hle : st.par.length * (st.m + 1) ≤ (st.par.length + [x].length) * (st.m + 1) := Nat.mul_le_mul_right _ (by simp)
    obtain ⟨st', ⟨K0, h1⟩, h2, h3, h4⟩ := link_ev h hs ht hx.1 hx.2 (by omega)
    exact ⟨st', ⟨K0, fun K hK => by show pathF K st s [x] t = _; simp only [pathF]; exact h1 K hK⟩, h2, h3, by rw [h4]; rfl⟩
  | x :: y :: l, E, st, s, t, h, hs, ht, hw, hb => by
    have hx := hw x (by simp)
    have hlen : (x :: y :: l).length = l.length + 2 := by simp
    have hle : (st.par.length + 1) * (st.m + 1) ≤ (st.par.length + (x :: y :: l).length) * (st.m + 1) := Nat.mul_le_mul_right _ (by omega)
    have hbig : st.par.length < big := by
      have : st.par.length + 1 ≤ (st.par.length + 1) * (st.m + 1) := Nat.le_mul_of_pos_right _ (by omega)
      omega
    obtain ⟨st1, a1, a2, a3, a4⟩ := state_ev h hbig
    obtain ⟨st2, ⟨K2, b1⟩, b2, b3, b4⟩ := link_ev a2 (s := s) (x := x) (t := st.par.length) (by omega) (by omega) (by rw [a3]; exact hx.1) (by rw [a3]; exact hx.2) (by rw [a4, a3]; omega)
    have hn2 : st2.par.length = st.par.length + 1 := by rw [b4, a4]
    have hm2 : st2.m = st.m := by rw [b3, a3]
    obtain ⟨st3, ⟨K3, c1⟩, c2, c3, c4⟩ := path_ev (y :: l) _ st2 st.par.length t b2 (by omega) (by omega) (fun z hz => by rw [hm2]; exact hw z (by simp [List.mem_cons.1 hz])) (by
      rw [hn2, hm2]
      have : (st.par.length + 1 + (y :: l).length) = st.par.length + (x :: y :: l).length := by simp; omega
      rw [this]; exact hb)
    refine ⟨st3, ⟨max K2 K3, fun K hK => ?_⟩, c2.congr fun e => ?_, c3.trans hm2, by rw [c4, hn2]; simp; omega⟩
    · show pathF K st s (x :: y :: l) t = _
      simp only [pathF, a1]
      rw [show linkF K st1 s x st.par.length = some st2 from b1 K (by omega)]
      exact c1 K (by omega)
    · rw [hn2]
      simp only [pathE, List.mem_append, List.mem_cons]
      constructor
      · rintro (h | h | h | h)
        · exact .inl (.inr (.inr h))
        · exact .inl (.inl h)
        · exact .inl (.inr (.inl h))
        · exact .inr h
      · rintro ((h | h | h) | h)
        · exact .inr (.inl h)
        · exact .inr (.inr (.inl h))
        · exact .inl h
        · exact .inr (.inr (.inr h))
def allE : Nat → List (List Nat) → List Edg
  | _, [] => []
  | n, w :: l => pathE n 0 w 0 ++ allE (n + (w.length - 1)) l
def lens (ws : List (List Nat)) : Nat := (ws.map List.length).sum
theorem all_ev : ∀ (ws : List (List Nat)) (E : List Edg) (st : St), Inv E st → 0 < st.par.length → (∀ w ∈ ws, ∀ x ∈ w, x < st.m ∧ x ^^^ 1 < st.m) → (st.par.length + lens ws) * (st.m + 1) + 2 + st.m < big →
    ∃ st', Ev (fun K => allF K st ws) st' ∧ Inv (E ++ allE st.par.length ws) st' ∧ st'.m = st.m ∧ 0 < st'.par.length ∧ st'.par.length ≤ st.par.length + lens ws
  | [], E, st, h, h0, hw, hb => ⟨st, ⟨0, fun _ _ => by simp [allF]⟩, by simpa [allE] using h, rfl, h0, by simp [lens]⟩
  | w :: l, E, st, h, h0, hw, hb => by
    have hl : lens (w :: l) = w.length + lens l := by simp [lens]
    have hle : (st.par.length + w.length) * (st.m + 1) ≤ (st.par.length + lens (w :: l)) * (st.m + 1) := Nat.mul_le_mul_right _ (by omega)
    obtain ⟨st1, ⟨K1, a1⟩, a2, a3, a4⟩ := path_ev w E st 0 0 h h0 h0 (hw w (by simp)) (by omega)
    have hle2 : (st1.par.length + lens l) * (st.m + 1) ≤ (st.par.length + lens (w :: l)) * (st.m + 1) := Nat.mul_le_mul_right _ (by omega)
    obtain ⟨st2, ⟨K2, b1⟩, b2, b3, b4, b5⟩ := all_ev l _ st1 a2 (by omega) (fun v hv x hx => by rw [a3]; exact hw v (by simp [hv]) x hx) (by rw [a3]; omega)
    refine ⟨st2, ⟨max K1 K2, fun K hK => ?_⟩, b2.congr fun e => ?_, b3.trans a3, b4, by omega⟩
    · show allF K st (w :: l) = _
      simp only [allF]
      rw [show pathF K st 0 w 0 = some st1 from a1 K (by omega)]
      exact b1 K (by omega)
    · rw [a4]
      simp only [allE, List.mem_append]
      constructor
      · rintro ((h | h) | h)
        · exact .inr (.inl h)
        · exact .inl h
        · exact .inr (.inr h)
      · rintro (h | h | h)
        · exact .inl (.inr h)
        · exact .inl (.inl h)
        · exact .inr h
theorem start_inv (m : Nat) : Inv [] (start0 m) where
  ok := ⟨rfl, ⟨fun _ => 0, ⟨fun s hs => by
    have : s = 0 := by have hs : s < 1 := hs; omega
    subst this
    exact ⟨0, rfl, Nat.zero_lt_one, fun h => absurd rfl h⟩⟩⟩, fun r hr => by
      have hr : r = List.replicate m none := by simpa [start0] using hr
      subst hr
      exact ⟨by simp [start0], fun t ht => by have := List.eq_of_mem_replicate ht; cases this⟩, fun p hp => by simp [start0] at hp⟩
  todo := rfl
  snd := ⟨fun u v ⟨r, h1, h2⟩ => by
    have e1 : u = 0 := by have := h1.lt_left; have : u < 1 := this; omega
    have e2 : v = 0 := by have := h2.lt_left; have : v < 1 := this; omega
    subst e1; subst e2; exact .refl 0, fun u v h => by simp [start0] at h, fun i x t ⟨row, h1, h2⟩ => by
      have hm := List.mem_of_getElem? h1
      have hr : row = List.replicate m none := by simpa [start0] using hm
      subst hr
      have := List.eq_of_mem_replicate (List.mem_of_getElem? h2)
      cases this⟩
  cm := fun s x t h => by simp at h
open Classical in
noncomputable def rt (par : List Nat) (u : Nat) : Nat := if h : ∃ r, Root par u r then Classical.choose h else u
theorem rt_spec {par : List Nat} {u r : Nat} (h : Root par u r) : rt par u = r := by
  unfold rt
  have hx : ∃ r, Root par u r := ⟨r, h⟩
  rw [dif_pos hx]
  exact (Classical.choose_spec hx).unique h
theorem rt_congr {par par' : List Nat} (h : ∀ u v, Root par' u v ↔ Root par u v) (u : Nat) : rt par' u = rt par u := by
  by_cases hx : ∃ r, Root par u r
  · obtain ⟨r, hr⟩ := hx
    rw [rt_spec hr, rt_spec ((h _ _).2 hr)]
  · have hx' : ¬ ∃ r, Root par' u r := fun ⟨r, hr⟩ => hx ⟨r, (h _ _).1 hr⟩
    unfold rt
    rw [dif_neg hx, dif_neg hx']
theorem reps_ev {d : Nat → Nat} : ∀ (row : Row) (par : List Nat), Forest par d → (∀ t, some t ∈ row → t < par.length) →
    ∃ par', Ev (fun K => repsF K par row) (par', row.map (Option.map (rt par))) ∧ Forest par' d ∧ par'.length = par.length ∧ ∀ u v, Root par' u v ↔ Root par u v
  | [], par, h, hr => ⟨par, ⟨0, fun _ _ => rfl⟩, h, rfl, fun _ _ => Iff.rfl⟩
  | none :: l, par, h, hr => by
    obtain ⟨par', ⟨K0, h1⟩, h2, h3, h4⟩ := reps_ev l par h fun t ht => hr t (by simp [ht])
    refine ⟨par', ⟨K0, fun K hK => ?_⟩, h2, h3, h4⟩
    show repsF K par (none :: l) = _
    simp only [repsF]
    rw [show repsF K par l = _ from h1 K hK]
    rfl
  | some t :: l, par, h, hr => by
    obtain ⟨par1, r, k1, k2, k3, k4, k5⟩ := find_ev (d t) t par (Nat.le_refl _) h (hr t (by simp))
    obtain ⟨par', ⟨K0, h1⟩, h2, h3, h4⟩ := reps_ev l par1 k3 fun u hu => by rw [k4]; exact hr u (by simp [hu])
    refine ⟨par', ⟨K0 + d t + 1, fun K hK => ?_⟩, h2, h3.trans k4, fun u v => (h4 u v).trans (k5 u v)⟩
    show repsF K par (some t :: l) = _
    simp only [repsF]
    rw [k1 K (by omega)]
    simp only
    rw [show repsF K par1 l = _ from h1 K (by omega)]
    have hc : (fun o => Option.map (rt par1) o) = fun o => Option.map (rt par) o := by
      funext o; cases o with
      | none => rfl
      | some u => simp only [Option.map_some]; rw [rt_congr k5]
    simp only [List.map_cons, Option.map_some, rt_spec k2]
    congr 3
    exact congrArg (fun f => l.map f) hc
noncomputable def rowsS (par : List Nat) : Nat → List Row → List (Option Row)
  | _, [] => []
  | s, row :: l => (if rt par s = s then some (row.map (Option.map (rt par))) else none) :: rowsS par (s + 1) l
theorem rowsS_congr {par par' : List Nat} (h : ∀ u v, Root par' u v ↔ Root par u v) : ∀ (l : List Row) (s : Nat), rowsS par' s l = rowsS par s l
  | [], _ => rfl
  | row :: l, s => by
    have hc : (rt par') = rt par := funext fun u => rt_congr h u
    simp only [rowsS, rowsS_congr h l (s + 1), hc]
theorem rows_ev {d : Nat → Nat} : ∀ (l : List Row) (par : List Nat) (s : Nat), Forest par d → s + l.length = par.length → (∀ row ∈ l, ∀ t, some t ∈ row → t < par.length) →
    ∃ par', Ev (fun K => rowsF K par l s) (par', rowsS par s l) ∧ Forest par' d ∧ par'.length = par.length ∧ ∀ u v, Root par' u v ↔ Root par u v
  | [], par, s, h, hl, hr => ⟨par, ⟨0, fun _ _ => rfl⟩, h, rfl, fun _ _ => Iff.rfl⟩
  | row :: l, par, s, h, hl, hr => by
    simp only [List.length_cons] at hl
    obtain ⟨par1, r, k1, k2, k3, k4, k5⟩ := find_ev (d s) s par (Nat.le_refl _) h (by omega)
    have hrt := rt_spec k2
    by_cases hrs : r = s
    · obtain ⟨par2, ⟨K2, a1⟩, a2, a3, a4⟩ := reps_ev row par1 k3 fun t ht => by rw [k4]; exact hr row (by simp) t ht
      have h2 : ∀ u v, Root par2 u v ↔ Root par u v := fun u v => (a4 u v).trans (k5 u v)
      obtain ⟨par', ⟨K0, b1⟩, b2, b3, b4⟩ := rows_ev l par2 (s + 1) a2 (by rw [a3, k4]; omega) fun q hq t ht => by rw [a3, k4]; exact hr q (by simp [hq]) t ht
      refine ⟨par', ⟨K0 + K2 + d s + 1, fun K hK => ?_⟩, b2, b3.trans (a3.trans k4), fun u v => (b4 u v).trans (h2 u v)⟩
      show rowsF K par (row :: l) s = _
      simp only [rowsF]
      rw [k1 K (by omega)]
      simp only [if_pos hrs]
      rw [show repsF K par1 row = _ from a1 K (by omega)]
      simp only
      rw [show rowsF K par2 l (s + 1) = _ from b1 K (by omega)]
      have hc : (rt par1) = rt par := funext fun u => rt_congr k5 u
      simp only [rowsS]
      rw [rowsS_congr h2, if_pos (hrt.trans hrs), hc]
    · obtain ⟨par', ⟨K0, b1⟩, b2, b3, b4⟩ := rows_ev l par1 (s + 1) k3 (by rw [k4]; omega) fun q hq t ht => by rw [k4]; exact hr q (by simp [hq]) t ht
      refine ⟨par', ⟨K0 + d s + 1, fun K hK => ?_⟩, b2, b3.trans k4, fun u v => (b4 u v).trans (k5 u v)⟩
      show rowsF K par (row :: l) s = _
      simp only [rowsF]
      rw [k1 K (by omega)]
      simp only [if_neg hrs]
      rw [show rowsF K par1 l (s + 1) = _ from b1 K (by omega)]
      simp only [rowsS]
      rw [rowsS_congr k5, if_neg (by rw [hrt]; exact hrs)]
end Go.Proofs.YtffdjfkekdoeaaaDoor.Pl
end
