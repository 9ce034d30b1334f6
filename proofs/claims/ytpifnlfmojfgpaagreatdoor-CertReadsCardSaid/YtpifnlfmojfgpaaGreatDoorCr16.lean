/- Parts of a proof, laid one behind the other by our own merge.py: Sh6 SnMap SnDisk SnPlain SnVer SnSane. -/
import Derived.Test.YtpifnlfmojfgpaaGreatDoorCr7
import Derived.Test.YtpifnlfmojfgpaaGreatDoorProg
import Derived.KernelRfl
import Derived.Test.YtpifnlfmojfgpaaGreatDoorCr15
set_option linter.unusedVariables false
set_option linter.unusedSimpArgs false
section
set_option maxRecDepth 10000
namespace Go.Proofs.YtpifnlfmojfgpaaGreatDoor
open Fw
noncomputable def cert_verifiers.ann:Ann where
 loops:=fun | _=>[]
 joins:=fun | _=>none
noncomputable def cert_verifiers.body:Code:=match Tryz.f78.body with | some c=>c | none=>.skip
def cert_verifiers.sh  (R:Ending → World → Prop) (w:World):Prop:=
 New w (.map #[] 0) fun b1 w2=>
 RunU Tryz.prog (Instr.mapUpdate 129 (.map (some b1)) (.int .i64 1) (.func (.func 117) #[] #[])) w2 fun w3=>
 RunU Tryz.prog (Instr.mapUpdate 129 (.map (some b1)) (.int .i64 2) (.func (.func 118) #[] #[])) w3 fun w4=>
 RunU Tryz.prog (Instr.mapUpdate 129 (.map (some b1)) (.int .i64 3) (.func (.func 119) #[] #[])) w4 fun w5=>
 RunU Tryz.prog (Instr.mapUpdate 129 (.map (some b1)) (.int .i64 4) (.func (.func 120) #[] #[])) w5 fun w6=>
 RunU Tryz.prog (Instr.mapUpdate 129 (.map (some b1)) (.int .i64 5) (.func (.func 121) #[] #[])) w6 fun w7=>
 RunU Tryz.prog (Instr.mapUpdate 129 (.map (some b1)) (.int .i64 6) (.func (.func 122) #[] #[])) w7 fun w8=>
 RunU Tryz.prog (Instr.mapUpdate 129 (.map (some b1)) (.int .i64 7) (.func (.func 123) #[] #[])) w8 fun w9=>
 RunU Tryz.prog (Instr.mapUpdate 129 (.map (some b1)) (.int .i64 8) (.func (.func 124) #[] #[])) w9 fun w10=>
 RunU Tryz.prog (Instr.mapUpdate 129 (.map (some b1)) (.int .i64 9) (.func (.func 125) #[] #[])) w10 fun w11=>
 R (.returned (.map (some b1))) w11
theorem cert_verifiers.calls  {R:Ending → World → Prop} {w:World} (h:cert_verifiers.sh  R w):Calls Tryz.prog 78 #[] w R:=calls_of_wpc mixed Tryz.func78 (by kernel_rfl) (by kernel_rfl) ((show _ = wpc Tryz.prog cert_verifiers.ann cert_verifiers.body (fnKs Tryz.prog Tryz.f78 R) [] (env0 #[]) w by kernel_rfl).mp h)
noncomputable def cert_Verify.ann:Ann where
 loops:=fun | _=>[]
 joins:=fun | _=>none
noncomputable def cert_Verify.body:Code:=match Tryz.f36.body with | some c=>c | none=>.skip
def cert_Verify.sh (p0_0:Int) (p0_1:Int) (p0_2:Sl) (p0_3:ByteArray) (p0_4:ByteArray) (p0_5:Int) (p0_6:Sl) (p0_7:ByteArray) (p0_8:Sl) (p0_9:Int) (p0_10:Int) (p0_11:Sl) (p0_12:Sl) (p0_13:Sl) (p0_14:Int) (p0_15:Sl) (p0_16:Int) (p0_17:Sl) (p0_18:Int) (p0_19:Sl) (p0_20:Int) (p0_21:Int) (p0_22:Sl) (p0_23:Sl) (p0_24:Sl) (p0_25:Sl) (p0_26:Sl) (p0_27:Sl) (R:Ending → World → Prop) (w:World):Prop:=
 New w (.cells #[(.int .i64 p0_0),(.int .i64 p0_1),(.slice p0_2.a p0_2.n p0_2.c),(.string p0_3),(.string p0_4),(.int .i64 p0_5),(.slice p0_6.a p0_6.n p0_6.c),(.string p0_7),(.slice p0_8.a p0_8.n p0_8.c),(.int .i64 p0_9),(.int .i64 p0_10),(.slice p0_11.a p0_11.n p0_11.c),(.slice p0_12.a p0_12.n p0_12.c),(.slice p0_13.a p0_13.n p0_13.c),(.int .i64 p0_14),(.slice p0_15.a p0_15.n p0_15.c),(.int .i64 p0_16),(.slice p0_17.a p0_17.n p0_17.c),(.int .i64 p0_18),(.slice p0_19.a p0_19.n p0_19.c),(.int .i64 p0_20),(.int .i64 p0_21),(.slice p0_22.a p0_22.n p0_22.c),(.slice p0_23.a p0_23.n p0_23.c),(.slice p0_24.a p0_24.n p0_24.c),(.slice p0_25.a p0_25.n p0_25.c),(.slice p0_26.a p0_26.n p0_26.c),(.slice p0_27.a p0_27.n p0_27.c)] 43) fun b1 w2=>
 LoadT (.agg [.int .i64,.int .i64,.sl,.str,.str,.int .i64,.sl,.str,.sl,.int .i64,.int .i64,.sl,.sl,.sl,.int .i64,.sl,.int .i64,.sl,.int .i64,.sl,.int .i64,.int .i64,.sl,.sl,.sl,.sl,.sl,.sl]) w2 (Addr.mk b1 0 none) fun x3=>
 CallT Tryz.prog 15 #[(.agg #[(.int .i64 x3.1),(.int .i64 x3.2.1),(.slice x3.2.2.1.a x3.2.2.1.n x3.2.2.1.c),(.string x3.2.2.2.1),(.string x3.2.2.2.2.1),(.int .i64 x3.2.2.2.2.2.1),(.slice x3.2.2.2.2.2.2.1.a x3.2.2.2.2.2.2.1.n x3.2.2.2.2.2.2.1.c),(.string x3.2.2.2.2.2.2.2.1),(.slice x3.2.2.2.2.2.2.2.2.1.a x3.2.2.2.2.2.2.2.2.1.n x3.2.2.2.2.2.2.2.2.1.c),(.int .i64 x3.2.2.2.2.2.2.2.2.2.1),(.int .i64 x3.2.2.2.2.2.2.2.2.2.2.1),(.slice x3.2.2.2.2.2.2.2.2.2.2.2.1.a x3.2.2.2.2.2.2.2.2.2.2.2.1.n x3.2.2.2.2.2.2.2.2.2.2.2.1.c),(.slice x3.2.2.2.2.2.2.2.2.2.2.2.2.1.a x3.2.2.2.2.2.2.2.2.2.2.2.2.1.n x3.2.2.2.2.2.2.2.2.2.2.2.2.1.c),(.slice x3.2.2.2.2.2.2.2.2.2.2.2.2.2.1.a x3.2.2.2.2.2.2.2.2.2.2.2.2.2.1.n x3.2.2.2.2.2.2.2.2.2.2.2.2.2.1.c),(.int .i64 x3.2.2.2.2.2.2.2.2.2.2.2.2.2.2.1),(.slice x3.2.2.2.2.2.2.2.2.2.2.2.2.2.2.2.1.a x3.2.2.2.2.2.2.2.2.2.2.2.2.2.2.2.1.n x3.2.2.2.2.2.2.2.2.2.2.2.2.2.2.2.1.c),(.int .i64 x3.2.2.2.2.2.2.2.2.2.2.2.2.2.2.2.2.1),(.slice x3.2.2.2.2.2.2.2.2.2.2.2.2.2.2.2.2.2.1.a x3.2.2.2.2.2.2.2.2.2.2.2.2.2.2.2.2.2.1.n x3.2.2.2.2.2.2.2.2.2.2.2.2.2.2.2.2.2.1.c),(.int .i64 x3.2.2.2.2.2.2.2.2.2.2.2.2.2.2.2.2.2.2.1),(.slice x3.2.2.2.2.2.2.2.2.2.2.2.2.2.2.2.2.2.2.2.1.a x3.2.2.2.2.2.2.2.2.2.2.2.2.2.2.2.2.2.2.2.1.n x3.2.2.2.2.2.2.2.2.2.2.2.2.2.2.2.2.2.2.2.1.c),(.int .i64 x3.2.2.2.2.2.2.2.2.2.2.2.2.2.2.2.2.2.2.2.2.1),(.int .i64 x3.2.2.2.2.2.2.2.2.2.2.2.2.2.2.2.2.2.2.2.2.2.1),(.slice x3.2.2.2.2.2.2.2.2.2.2.2.2.2.2.2.2.2.2.2.2.2.2.1.a x3.2.2.2.2.2.2.2.2.2.2.2.2.2.2.2.2.2.2.2.2.2.2.1.n x3.2.2.2.2.2.2.2.2.2.2.2.2.2.2.2.2.2.2.2.2.2.2.1.c),(.slice x3.2.2.2.2.2.2.2.2.2.2.2.2.2.2.2.2.2.2.2.2.2.2.2.1.a x3.2.2.2.2.2.2.2.2.2.2.2.2.2.2.2.2.2.2.2.2.2.2.2.1.n x3.2.2.2.2.2.2.2.2.2.2.2.2.2.2.2.2.2.2.2.2.2.2.2.1.c),(.slice x3.2.2.2.2.2.2.2.2.2.2.2.2.2.2.2.2.2.2.2.2.2.2.2.2.1.a x3.2.2.2.2.2.2.2.2.2.2.2.2.2.2.2.2.2.2.2.2.2.2.2.2.1.n x3.2.2.2.2.2.2.2.2.2.2.2.2.2.2.2.2.2.2.2.2.2.2.2.2.1.c),(.slice x3.2.2.2.2.2.2.2.2.2.2.2.2.2.2.2.2.2.2.2.2.2.2.2.2.2.1.a x3.2.2.2.2.2.2.2.2.2.2.2.2.2.2.2.2.2.2.2.2.2.2.2.2.2.1.n x3.2.2.2.2.2.2.2.2.2.2.2.2.2.2.2.2.2.2.2.2.2.2.2.2.2.1.c),(.slice x3.2.2.2.2.2.2.2.2.2.2.2.2.2.2.2.2.2.2.2.2.2.2.2.2.2.2.1.a x3.2.2.2.2.2.2.2.2.2.2.2.2.2.2.2.2.2.2.2.2.2.2.2.2.2.2.1.n x3.2.2.2.2.2.2.2.2.2.2.2.2.2.2.2.2.2.2.2.2.2.2.2.2.2.2.1.c),(.slice x3.2.2.2.2.2.2.2.2.2.2.2.2.2.2.2.2.2.2.2.2.2.2.2.2.2.2.2.1.a x3.2.2.2.2.2.2.2.2.2.2.2.2.2.2.2.2.2.2.2.2.2.2.2.2.2.2.2.1.n x3.2.2.2.2.2.2.2.2.2.2.2.2.2.2.2.2.2.2.2.2.2.2.2.2.2.2.2.1.c)])] (.sc .bool) w2 (fun r4 w5=>
  Br (!r4)
   (R (.returned (.int .i64 280)) w5)
   (LoadT (.agg [.int .i64,.int .i64,.sl,.str,.str,.int .i64,.sl,.str,.sl,.int .i64,.int .i64,.sl,.sl,.sl,.int .i64,.sl,.int .i64,.sl,.int .i64,.sl,.int .i64,.int .i64,.sl,.sl,.sl,.sl,.sl,.sl]) w5 (Addr.mk b1 0 none) fun x7=>
   New w5 (.cells #[(.int .i64 0),(.int .i64 0),(.slice none 0 0),(.string (ByteArray.mk #[])),(.string (ByteArray.mk #[])),(.int .i64 0),(.slice none 0 0),(.string (ByteArray.mk #[])),(.slice none 0 0),(.int .i64 0),(.int .i64 0),(.slice none 0 0),(.slice none 0 0),(.slice none 0 0),(.int .i64 0),(.slice none 0 0),(.int .i64 0),(.slice none 0 0),(.int .i64 0),(.slice none 0 0),(.int .i64 0),(.int .i64 0),(.slice none 0 0),(.slice none 0 0),(.slice none 0 0),(.slice none 0 0),(.slice none 0 0),(.slice none 0 0)] 125) fun b8 w9=>
   StoreN w9 (Addr.mk b8 0 none) [(.int .i64 x7.1),(.int .i64 x7.2.1),(.slice x7.2.2.1.a x7.2.2.1.n x7.2.2.1.c),(.string x7.2.2.2.1),(.string x7.2.2.2.2.1),(.int .i64 x7.2.2.2.2.2.1),(.slice x7.2.2.2.2.2.2.1.a x7.2.2.2.2.2.2.1.n x7.2.2.2.2.2.2.1.c),(.string x7.2.2.2.2.2.2.2.1),(.slice x7.2.2.2.2.2.2.2.2.1.a x7.2.2.2.2.2.2.2.2.1.n x7.2.2.2.2.2.2.2.2.1.c),(.int .i64 x7.2.2.2.2.2.2.2.2.2.1),(.int .i64 x7.2.2.2.2.2.2.2.2.2.2.1),(.slice x7.2.2.2.2.2.2.2.2.2.2.2.1.a x7.2.2.2.2.2.2.2.2.2.2.2.1.n x7.2.2.2.2.2.2.2.2.2.2.2.1.c),(.slice x7.2.2.2.2.2.2.2.2.2.2.2.2.1.a x7.2.2.2.2.2.2.2.2.2.2.2.2.1.n x7.2.2.2.2.2.2.2.2.2.2.2.2.1.c),(.slice x7.2.2.2.2.2.2.2.2.2.2.2.2.2.1.a x7.2.2.2.2.2.2.2.2.2.2.2.2.2.1.n x7.2.2.2.2.2.2.2.2.2.2.2.2.2.1.c),(.int .i64 x7.2.2.2.2.2.2.2.2.2.2.2.2.2.2.1),(.slice x7.2.2.2.2.2.2.2.2.2.2.2.2.2.2.2.1.a x7.2.2.2.2.2.2.2.2.2.2.2.2.2.2.2.1.n x7.2.2.2.2.2.2.2.2.2.2.2.2.2.2.2.1.c),(.int .i64 x7.2.2.2.2.2.2.2.2.2.2.2.2.2.2.2.2.1),(.slice x7.2.2.2.2.2.2.2.2.2.2.2.2.2.2.2.2.2.1.a x7.2.2.2.2.2.2.2.2.2.2.2.2.2.2.2.2.2.1.n x7.2.2.2.2.2.2.2.2.2.2.2.2.2.2.2.2.2.1.c),(.int .i64 x7.2.2.2.2.2.2.2.2.2.2.2.2.2.2.2.2.2.2.1),(.slice x7.2.2.2.2.2.2.2.2.2.2.2.2.2.2.2.2.2.2.2.1.a x7.2.2.2.2.2.2.2.2.2.2.2.2.2.2.2.2.2.2.2.1.n x7.2.2.2.2.2.2.2.2.2.2.2.2.2.2.2.2.2.2.2.1.c),(.int .i64 x7.2.2.2.2.2.2.2.2.2.2.2.2.2.2.2.2.2.2.2.2.1),(.int .i64 x7.2.2.2.2.2.2.2.2.2.2.2.2.2.2.2.2.2.2.2.2.2.1),(.slice x7.2.2.2.2.2.2.2.2.2.2.2.2.2.2.2.2.2.2.2.2.2.2.1.a x7.2.2.2.2.2.2.2.2.2.2.2.2.2.2.2.2.2.2.2.2.2.2.1.n x7.2.2.2.2.2.2.2.2.2.2.2.2.2.2.2.2.2.2.2.2.2.2.1.c),(.slice x7.2.2.2.2.2.2.2.2.2.2.2.2.2.2.2.2.2.2.2.2.2.2.2.1.a x7.2.2.2.2.2.2.2.2.2.2.2.2.2.2.2.2.2.2.2.2.2.2.2.1.n x7.2.2.2.2.2.2.2.2.2.2.2.2.2.2.2.2.2.2.2.2.2.2.2.1.c),(.slice x7.2.2.2.2.2.2.2.2.2.2.2.2.2.2.2.2.2.2.2.2.2.2.2.2.1.a x7.2.2.2.2.2.2.2.2.2.2.2.2.2.2.2.2.2.2.2.2.2.2.2.2.1.n x7.2.2.2.2.2.2.2.2.2.2.2.2.2.2.2.2.2.2.2.2.2.2.2.2.1.c),(.slice x7.2.2.2.2.2.2.2.2.2.2.2.2.2.2.2.2.2.2.2.2.2.2.2.2.2.1.a x7.2.2.2.2.2.2.2.2.2.2.2.2.2.2.2.2.2.2.2.2.2.2.2.2.2.1.n x7.2.2.2.2.2.2.2.2.2.2.2.2.2.2.2.2.2.2.2.2.2.2.2.2.2.1.c),(.slice x7.2.2.2.2.2.2.2.2.2.2.2.2.2.2.2.2.2.2.2.2.2.2.2.2.2.2.1.a x7.2.2.2.2.2.2.2.2.2.2.2.2.2.2.2.2.2.2.2.2.2.2.2.2.2.2.1.n x7.2.2.2.2.2.2.2.2.2.2.2.2.2.2.2.2.2.2.2.2.2.2.2.2.2.2.1.c),(.slice x7.2.2.2.2.2.2.2.2.2.2.2.2.2.2.2.2.2.2.2.2.2.2.2.2.2.2.2.1.a x7.2.2.2.2.2.2.2.2.2.2.2.2.2.2.2.2.2.2.2.2.2.2.2.2.2.2.2.1.n x7.2.2.2.2.2.2.2.2.2.2.2.2.2.2.2.2.2.2.2.2.2.2.2.2.2.2.2.1.c)] fun w10=>
   LoadT (.agg [.int .i64,.sl]) w10 ((Addr.mk b1 0 none).add 1) fun x11=>
   CallT Tryz.prog 75 #[(.agg #[(.int .i64 x11.1),(.slice x11.2.1.a x11.2.1.n x11.2.1.c)])] (.sc (.int .i64)) w10 (fun r12 w13=>
    Br ((r12:Int) != 0)
     (Br ((r12:Int) != 0)
      (R (.returned (.int .i64 281)) w13)
      (R (.returned (.int .i64 0)) w13))
     (LoadT (.sc .str) w13 ((Addr.mk b1 0 none).add 3) fun x15=>
     Br (decide ((((x15.size:Nat):Int):Int) > 1000))
      (Br (decide ((((x15.size:Nat):Int):Int) > 1000))
       (R (.returned (.int .i64 281)) w13)
       (R (.returned (.int .i64 0)) w13))
      (LoadT (.sc .str) w13 ((Addr.mk b1 0 none).add 4) fun x16=>
      Br (decide ((((x16.size:Nat):Int):Int) > 1000))
       (Br (decide ((((x16.size:Nat):Int):Int) > 1000))
        (R (.returned (.int .i64 281)) w13)
        (R (.returned (.int .i64 0)) w13))
       (LoadT (.sc (.int .i64)) w13 (((Addr.mk b1 0 none).add 1).add 0) fun x17=>
       LoadT (.sc .str) w13 ((Addr.mk b1 0 none).add 3) fun x18=>
       CallT Tryz.prog 76 #[(.int .i64 x17),(.string x18)] (.sc (.int .i64)) w13 (fun r19 w20=>
        Br ((r19:Int) != 0)
         (Br ((r19:Int) != 0)
          (R (.returned (.int .i64 281)) w20)
          (R (.returned (.int .i64 0)) w20))
         (LoadT (.sc (.int .i64)) w20 (((Addr.mk b1 0 none).add 1).add 0) fun x22=>
         LoadT (.sc .str) w20 ((Addr.mk b1 0 none).add 4) fun x23=>
         CallT Tryz.prog 76 #[(.int .i64 x22),(.string x23)] (.sc (.int .i64)) w20 (fun r24 w25=>
          Br ((r24:Int) != 0)
           (Br ((r24:Int) != 0)
            (R (.returned (.int .i64 281)) w25)
            (R (.returned (.int .i64 0)) w25))
           (∃ S27:World → Prop,S27 w25.drew ∧
           (LoadS S27 (.agg [.int .i64,.int .i64,.sl,.str,.str,.int .i64,.sl,.str,.sl,.int .i64,.int .i64,.sl,.sl,.sl,.int .i64,.sl,.int .i64,.sl,.int .i64,.sl,.int .i64,.int .i64,.sl,.sl,.sl,.sl,.sl,.sl]) (Addr.mk b1 0 none) fun x28=>
           LoadS S27 (.agg [.int .i64,.int .i64,.sl,.str,.str,.int .i64,.sl,.str,.sl,.int .i64,.int .i64,.sl,.sl,.sl,.int .i64,.sl,.int .i64,.sl,.int .i64,.sl,.int .i64,.int .i64,.sl,.sl,.sl,.sl,.sl,.sl]) (Addr.mk b8 0 none) fun x29=>
           CallT Tryz.prog 77 #[(.agg #[(.int .i64 x29.1),(.int .i64 x29.2.1),(.slice x29.2.2.1.a x29.2.2.1.n x29.2.2.1.c),(.string x29.2.2.2.1),(.string x29.2.2.2.2.1),(.int .i64 x29.2.2.2.2.2.1),(.slice x29.2.2.2.2.2.2.1.a x29.2.2.2.2.2.2.1.n x29.2.2.2.2.2.2.1.c),(.string x29.2.2.2.2.2.2.2.1),(.slice x29.2.2.2.2.2.2.2.2.1.a x29.2.2.2.2.2.2.2.2.1.n x29.2.2.2.2.2.2.2.2.1.c),(.int .i64 x29.2.2.2.2.2.2.2.2.2.1),(.int .i64 x29.2.2.2.2.2.2.2.2.2.2.1),(.slice x29.2.2.2.2.2.2.2.2.2.2.2.1.a x29.2.2.2.2.2.2.2.2.2.2.2.1.n x29.2.2.2.2.2.2.2.2.2.2.2.1.c),(.slice x29.2.2.2.2.2.2.2.2.2.2.2.2.1.a x29.2.2.2.2.2.2.2.2.2.2.2.2.1.n x29.2.2.2.2.2.2.2.2.2.2.2.2.1.c),(.slice x29.2.2.2.2.2.2.2.2.2.2.2.2.2.1.a x29.2.2.2.2.2.2.2.2.2.2.2.2.2.1.n x29.2.2.2.2.2.2.2.2.2.2.2.2.2.1.c),(.int .i64 x29.2.2.2.2.2.2.2.2.2.2.2.2.2.2.1),(.slice x29.2.2.2.2.2.2.2.2.2.2.2.2.2.2.2.1.a x29.2.2.2.2.2.2.2.2.2.2.2.2.2.2.2.1.n x29.2.2.2.2.2.2.2.2.2.2.2.2.2.2.2.1.c),(.int .i64 x29.2.2.2.2.2.2.2.2.2.2.2.2.2.2.2.2.1),(.slice x29.2.2.2.2.2.2.2.2.2.2.2.2.2.2.2.2.2.1.a x29.2.2.2.2.2.2.2.2.2.2.2.2.2.2.2.2.2.1.n x29.2.2.2.2.2.2.2.2.2.2.2.2.2.2.2.2.2.1.c),(.int .i64 x29.2.2.2.2.2.2.2.2.2.2.2.2.2.2.2.2.2.2.1),(.slice x29.2.2.2.2.2.2.2.2.2.2.2.2.2.2.2.2.2.2.2.1.a x29.2.2.2.2.2.2.2.2.2.2.2.2.2.2.2.2.2.2.2.1.n x29.2.2.2.2.2.2.2.2.2.2.2.2.2.2.2.2.2.2.2.1.c),(.int .i64 x29.2.2.2.2.2.2.2.2.2.2.2.2.2.2.2.2.2.2.2.2.1),(.int .i64 x29.2.2.2.2.2.2.2.2.2.2.2.2.2.2.2.2.2.2.2.2.2.1),(.slice x29.2.2.2.2.2.2.2.2.2.2.2.2.2.2.2.2.2.2.2.2.2.2.1.a x29.2.2.2.2.2.2.2.2.2.2.2.2.2.2.2.2.2.2.2.2.2.2.1.n x29.2.2.2.2.2.2.2.2.2.2.2.2.2.2.2.2.2.2.2.2.2.2.1.c),(.slice x29.2.2.2.2.2.2.2.2.2.2.2.2.2.2.2.2.2.2.2.2.2.2.2.1.a x29.2.2.2.2.2.2.2.2.2.2.2.2.2.2.2.2.2.2.2.2.2.2.2.1.n x29.2.2.2.2.2.2.2.2.2.2.2.2.2.2.2.2.2.2.2.2.2.2.2.1.c),(.slice x29.2.2.2.2.2.2.2.2.2.2.2.2.2.2.2.2.2.2.2.2.2.2.2.2.1.a x29.2.2.2.2.2.2.2.2.2.2.2.2.2.2.2.2.2.2.2.2.2.2.2.2.1.n x29.2.2.2.2.2.2.2.2.2.2.2.2.2.2.2.2.2.2.2.2.2.2.2.2.1.c),(.slice x29.2.2.2.2.2.2.2.2.2.2.2.2.2.2.2.2.2.2.2.2.2.2.2.2.2.1.a x29.2.2.2.2.2.2.2.2.2.2.2.2.2.2.2.2.2.2.2.2.2.2.2.2.2.1.n x29.2.2.2.2.2.2.2.2.2.2.2.2.2.2.2.2.2.2.2.2.2.2.2.2.2.1.c),(.slice x29.2.2.2.2.2.2.2.2.2.2.2.2.2.2.2.2.2.2.2.2.2.2.2.2.2.2.1.a x29.2.2.2.2.2.2.2.2.2.2.2.2.2.2.2.2.2.2.2.2.2.2.2.2.2.2.1.n x29.2.2.2.2.2.2.2.2.2.2.2.2.2.2.2.2.2.2.2.2.2.2.2.2.2.2.1.c),(.slice x29.2.2.2.2.2.2.2.2.2.2.2.2.2.2.2.2.2.2.2.2.2.2.2.2.2.2.2.1.a x29.2.2.2.2.2.2.2.2.2.2.2.2.2.2.2.2.2.2.2.2.2.2.2.2.2.2.2.1.n x29.2.2.2.2.2.2.2.2.2.2.2.2.2.2.2.2.2.2.2.2.2.2.2.2.2.2.2.1.c)])] (.agg [.int .i64,.int .i64,.sl,.str,.str,.int .i64,.sl,.str,.sl,.int .i64,.int .i64,.sl,.sl,.sl,.int .i64,.sl,.int .i64,.sl,.int .i64,.sl,.int .i64,.int .i64,.sl,.sl,.sl,.sl,.sl,.sl]) w25.drew (fun r30 w31=>
             ∃ S33:World → Prop,(∀ w,S33 w → S27 w) ∧ S33 w31 ∧
             (CallT Tryz.prog 8 #[(.agg #[(.int .i64 x28.1),(.int .i64 x28.2.1),(.slice x28.2.2.1.a x28.2.2.1.n x28.2.2.1.c),(.string x28.2.2.2.1),(.string x28.2.2.2.2.1),(.int .i64 x28.2.2.2.2.2.1),(.slice x28.2.2.2.2.2.2.1.a x28.2.2.2.2.2.2.1.n x28.2.2.2.2.2.2.1.c),(.string x28.2.2.2.2.2.2.2.1),(.slice x28.2.2.2.2.2.2.2.2.1.a x28.2.2.2.2.2.2.2.2.1.n x28.2.2.2.2.2.2.2.2.1.c),(.int .i64 x28.2.2.2.2.2.2.2.2.2.1),(.int .i64 x28.2.2.2.2.2.2.2.2.2.2.1),(.slice x28.2.2.2.2.2.2.2.2.2.2.2.1.a x28.2.2.2.2.2.2.2.2.2.2.2.1.n x28.2.2.2.2.2.2.2.2.2.2.2.1.c),(.slice x28.2.2.2.2.2.2.2.2.2.2.2.2.1.a x28.2.2.2.2.2.2.2.2.2.2.2.2.1.n x28.2.2.2.2.2.2.2.2.2.2.2.2.1.c),(.slice x28.2.2.2.2.2.2.2.2.2.2.2.2.2.1.a x28.2.2.2.2.2.2.2.2.2.2.2.2.2.1.n x28.2.2.2.2.2.2.2.2.2.2.2.2.2.1.c),(.int .i64 x28.2.2.2.2.2.2.2.2.2.2.2.2.2.2.1),(.slice x28.2.2.2.2.2.2.2.2.2.2.2.2.2.2.2.1.a x28.2.2.2.2.2.2.2.2.2.2.2.2.2.2.2.1.n x28.2.2.2.2.2.2.2.2.2.2.2.2.2.2.2.1.c),(.int .i64 x28.2.2.2.2.2.2.2.2.2.2.2.2.2.2.2.2.1),(.slice x28.2.2.2.2.2.2.2.2.2.2.2.2.2.2.2.2.2.1.a x28.2.2.2.2.2.2.2.2.2.2.2.2.2.2.2.2.2.1.n x28.2.2.2.2.2.2.2.2.2.2.2.2.2.2.2.2.2.1.c),(.int .i64 x28.2.2.2.2.2.2.2.2.2.2.2.2.2.2.2.2.2.2.1),(.slice x28.2.2.2.2.2.2.2.2.2.2.2.2.2.2.2.2.2.2.2.1.a x28.2.2.2.2.2.2.2.2.2.2.2.2.2.2.2.2.2.2.2.1.n x28.2.2.2.2.2.2.2.2.2.2.2.2.2.2.2.2.2.2.2.1.c),(.int .i64 x28.2.2.2.2.2.2.2.2.2.2.2.2.2.2.2.2.2.2.2.2.1),(.int .i64 x28.2.2.2.2.2.2.2.2.2.2.2.2.2.2.2.2.2.2.2.2.2.1),(.slice x28.2.2.2.2.2.2.2.2.2.2.2.2.2.2.2.2.2.2.2.2.2.2.1.a x28.2.2.2.2.2.2.2.2.2.2.2.2.2.2.2.2.2.2.2.2.2.2.1.n x28.2.2.2.2.2.2.2.2.2.2.2.2.2.2.2.2.2.2.2.2.2.2.1.c),(.slice x28.2.2.2.2.2.2.2.2.2.2.2.2.2.2.2.2.2.2.2.2.2.2.2.1.a x28.2.2.2.2.2.2.2.2.2.2.2.2.2.2.2.2.2.2.2.2.2.2.2.1.n x28.2.2.2.2.2.2.2.2.2.2.2.2.2.2.2.2.2.2.2.2.2.2.2.1.c),(.slice x28.2.2.2.2.2.2.2.2.2.2.2.2.2.2.2.2.2.2.2.2.2.2.2.2.1.a x28.2.2.2.2.2.2.2.2.2.2.2.2.2.2.2.2.2.2.2.2.2.2.2.2.1.n x28.2.2.2.2.2.2.2.2.2.2.2.2.2.2.2.2.2.2.2.2.2.2.2.2.1.c),(.slice x28.2.2.2.2.2.2.2.2.2.2.2.2.2.2.2.2.2.2.2.2.2.2.2.2.2.1.a x28.2.2.2.2.2.2.2.2.2.2.2.2.2.2.2.2.2.2.2.2.2.2.2.2.2.1.n x28.2.2.2.2.2.2.2.2.2.2.2.2.2.2.2.2.2.2.2.2.2.2.2.2.2.1.c),(.slice x28.2.2.2.2.2.2.2.2.2.2.2.2.2.2.2.2.2.2.2.2.2.2.2.2.2.2.1.a x28.2.2.2.2.2.2.2.2.2.2.2.2.2.2.2.2.2.2.2.2.2.2.2.2.2.2.1.n x28.2.2.2.2.2.2.2.2.2.2.2.2.2.2.2.2.2.2.2.2.2.2.2.2.2.2.1.c),(.slice x28.2.2.2.2.2.2.2.2.2.2.2.2.2.2.2.2.2.2.2.2.2.2.2.2.2.2.2.1.a x28.2.2.2.2.2.2.2.2.2.2.2.2.2.2.2.2.2.2.2.2.2.2.2.2.2.2.2.1.n x28.2.2.2.2.2.2.2.2.2.2.2.2.2.2.2.2.2.2.2.2.2.2.2.2.2.2.2.1.c)]),(.agg #[(.int .i64 r30.1),(.int .i64 r30.2.1),(.slice r30.2.2.1.a r30.2.2.1.n r30.2.2.1.c),(.string r30.2.2.2.1),(.string r30.2.2.2.2.1),(.int .i64 r30.2.2.2.2.2.1),(.slice r30.2.2.2.2.2.2.1.a r30.2.2.2.2.2.2.1.n r30.2.2.2.2.2.2.1.c),(.string r30.2.2.2.2.2.2.2.1),(.slice r30.2.2.2.2.2.2.2.2.1.a r30.2.2.2.2.2.2.2.2.1.n r30.2.2.2.2.2.2.2.2.1.c),(.int .i64 r30.2.2.2.2.2.2.2.2.2.1),(.int .i64 r30.2.2.2.2.2.2.2.2.2.2.1),(.slice r30.2.2.2.2.2.2.2.2.2.2.2.1.a r30.2.2.2.2.2.2.2.2.2.2.2.1.n r30.2.2.2.2.2.2.2.2.2.2.2.1.c),(.slice r30.2.2.2.2.2.2.2.2.2.2.2.2.1.a r30.2.2.2.2.2.2.2.2.2.2.2.2.1.n r30.2.2.2.2.2.2.2.2.2.2.2.2.1.c),(.slice r30.2.2.2.2.2.2.2.2.2.2.2.2.2.1.a r30.2.2.2.2.2.2.2.2.2.2.2.2.2.1.n r30.2.2.2.2.2.2.2.2.2.2.2.2.2.1.c),(.int .i64 r30.2.2.2.2.2.2.2.2.2.2.2.2.2.2.1),(.slice r30.2.2.2.2.2.2.2.2.2.2.2.2.2.2.2.1.a r30.2.2.2.2.2.2.2.2.2.2.2.2.2.2.2.1.n r30.2.2.2.2.2.2.2.2.2.2.2.2.2.2.2.1.c),(.int .i64 r30.2.2.2.2.2.2.2.2.2.2.2.2.2.2.2.2.1),(.slice r30.2.2.2.2.2.2.2.2.2.2.2.2.2.2.2.2.2.1.a r30.2.2.2.2.2.2.2.2.2.2.2.2.2.2.2.2.2.1.n r30.2.2.2.2.2.2.2.2.2.2.2.2.2.2.2.2.2.1.c),(.int .i64 r30.2.2.2.2.2.2.2.2.2.2.2.2.2.2.2.2.2.2.1),(.slice r30.2.2.2.2.2.2.2.2.2.2.2.2.2.2.2.2.2.2.2.1.a r30.2.2.2.2.2.2.2.2.2.2.2.2.2.2.2.2.2.2.2.1.n r30.2.2.2.2.2.2.2.2.2.2.2.2.2.2.2.2.2.2.2.1.c),(.int .i64 r30.2.2.2.2.2.2.2.2.2.2.2.2.2.2.2.2.2.2.2.2.1),(.int .i64 r30.2.2.2.2.2.2.2.2.2.2.2.2.2.2.2.2.2.2.2.2.2.1),(.slice r30.2.2.2.2.2.2.2.2.2.2.2.2.2.2.2.2.2.2.2.2.2.2.1.a r30.2.2.2.2.2.2.2.2.2.2.2.2.2.2.2.2.2.2.2.2.2.2.1.n r30.2.2.2.2.2.2.2.2.2.2.2.2.2.2.2.2.2.2.2.2.2.2.1.c),(.slice r30.2.2.2.2.2.2.2.2.2.2.2.2.2.2.2.2.2.2.2.2.2.2.2.1.a r30.2.2.2.2.2.2.2.2.2.2.2.2.2.2.2.2.2.2.2.2.2.2.2.1.n r30.2.2.2.2.2.2.2.2.2.2.2.2.2.2.2.2.2.2.2.2.2.2.2.1.c),(.slice r30.2.2.2.2.2.2.2.2.2.2.2.2.2.2.2.2.2.2.2.2.2.2.2.2.1.a r30.2.2.2.2.2.2.2.2.2.2.2.2.2.2.2.2.2.2.2.2.2.2.2.2.1.n r30.2.2.2.2.2.2.2.2.2.2.2.2.2.2.2.2.2.2.2.2.2.2.2.2.1.c),(.slice r30.2.2.2.2.2.2.2.2.2.2.2.2.2.2.2.2.2.2.2.2.2.2.2.2.2.1.a r30.2.2.2.2.2.2.2.2.2.2.2.2.2.2.2.2.2.2.2.2.2.2.2.2.2.1.n r30.2.2.2.2.2.2.2.2.2.2.2.2.2.2.2.2.2.2.2.2.2.2.2.2.2.1.c),(.slice r30.2.2.2.2.2.2.2.2.2.2.2.2.2.2.2.2.2.2.2.2.2.2.2.2.2.2.1.a r30.2.2.2.2.2.2.2.2.2.2.2.2.2.2.2.2.2.2.2.2.2.2.2.2.2.2.1.n r30.2.2.2.2.2.2.2.2.2.2.2.2.2.2.2.2.2.2.2.2.2.2.2.2.2.2.1.c),(.slice r30.2.2.2.2.2.2.2.2.2.2.2.2.2.2.2.2.2.2.2.2.2.2.2.2.2.2.2.1.a r30.2.2.2.2.2.2.2.2.2.2.2.2.2.2.2.2.2.2.2.2.2.2.2.2.2.2.2.1.n r30.2.2.2.2.2.2.2.2.2.2.2.2.2.2.2.2.2.2.2.2.2.2.2.2.2.2.2.1.c)])] (.sc .bool) w31 (fun r34 w35=>
               ∃ S37:World → Prop,(∀ w,S37 w → S33 w) ∧ S37 w35 ∧
               (Br (!r34)
                (Br (!r34)
                 (R (.returned (.int .i64 281)) w35)
                 (R (.returned (.int .i64 0)) w35))
                (∃ S38:World → Prop,S38 w35.drew ∧
                (LoadS S38 (.sc (.int .i64)) ((Addr.mk b1 0 none).add 0) fun x39=>
                LoadS S38 (.agg [.int .i64,.int .i64,.sl,.str,.str,.int .i64,.sl,.str,.sl,.int .i64,.int .i64,.sl,.sl,.sl,.int .i64,.sl,.int .i64,.sl,.int .i64,.sl,.int .i64,.int .i64,.sl,.sl,.sl,.sl,.sl,.sl]) (Addr.mk b8 0 none) fun x40=>
                CallT Tryz.prog 78 #[] (.sc .map) w35.drew (fun r41 w42=>
                  ∃ S44:World → Prop,(∀ w,S44 w → S38 w) ∧ S44 w42 ∧
                  (∃ r45:Ty.den (.sc .raw),(∀ w46,S44 w46 → (Instr.lookup 129 (.map r41) (.int .i64 x39) false).run Tryz.prog w46 = .ok (Ty.val (.sc .raw) r45) w46) ∧
                  match r45 with
                   | .func (.func g47) fi48 ca49=>bif enters Tryz.prog g47 then CallR Tryz.prog 4 g47 ((fi48 ++ #[(.agg #[(.int .i64 x40.1),(.int .i64 x40.2.1),(.slice x40.2.2.1.a x40.2.2.1.n x40.2.2.1.c),(.string x40.2.2.2.1),(.string x40.2.2.2.2.1),(.int .i64 x40.2.2.2.2.2.1),(.slice x40.2.2.2.2.2.2.1.a x40.2.2.2.2.2.2.1.n x40.2.2.2.2.2.2.1.c),(.string x40.2.2.2.2.2.2.2.1),(.slice x40.2.2.2.2.2.2.2.2.1.a x40.2.2.2.2.2.2.2.2.1.n x40.2.2.2.2.2.2.2.2.1.c),(.int .i64 x40.2.2.2.2.2.2.2.2.2.1),(.int .i64 x40.2.2.2.2.2.2.2.2.2.2.1),(.slice x40.2.2.2.2.2.2.2.2.2.2.2.1.a x40.2.2.2.2.2.2.2.2.2.2.2.1.n x40.2.2.2.2.2.2.2.2.2.2.2.1.c),(.slice x40.2.2.2.2.2.2.2.2.2.2.2.2.1.a x40.2.2.2.2.2.2.2.2.2.2.2.2.1.n x40.2.2.2.2.2.2.2.2.2.2.2.2.1.c),(.slice x40.2.2.2.2.2.2.2.2.2.2.2.2.2.1.a x40.2.2.2.2.2.2.2.2.2.2.2.2.2.1.n x40.2.2.2.2.2.2.2.2.2.2.2.2.2.1.c),(.int .i64 x40.2.2.2.2.2.2.2.2.2.2.2.2.2.2.1),(.slice x40.2.2.2.2.2.2.2.2.2.2.2.2.2.2.2.1.a x40.2.2.2.2.2.2.2.2.2.2.2.2.2.2.2.1.n x40.2.2.2.2.2.2.2.2.2.2.2.2.2.2.2.1.c),(.int .i64 x40.2.2.2.2.2.2.2.2.2.2.2.2.2.2.2.2.1),(.slice x40.2.2.2.2.2.2.2.2.2.2.2.2.2.2.2.2.2.1.a x40.2.2.2.2.2.2.2.2.2.2.2.2.2.2.2.2.2.1.n x40.2.2.2.2.2.2.2.2.2.2.2.2.2.2.2.2.2.1.c),(.int .i64 x40.2.2.2.2.2.2.2.2.2.2.2.2.2.2.2.2.2.2.1),(.slice x40.2.2.2.2.2.2.2.2.2.2.2.2.2.2.2.2.2.2.2.1.a x40.2.2.2.2.2.2.2.2.2.2.2.2.2.2.2.2.2.2.2.1.n x40.2.2.2.2.2.2.2.2.2.2.2.2.2.2.2.2.2.2.2.1.c),(.int .i64 x40.2.2.2.2.2.2.2.2.2.2.2.2.2.2.2.2.2.2.2.2.1),(.int .i64 x40.2.2.2.2.2.2.2.2.2.2.2.2.2.2.2.2.2.2.2.2.2.1),(.slice x40.2.2.2.2.2.2.2.2.2.2.2.2.2.2.2.2.2.2.2.2.2.2.1.a x40.2.2.2.2.2.2.2.2.2.2.2.2.2.2.2.2.2.2.2.2.2.2.1.n x40.2.2.2.2.2.2.2.2.2.2.2.2.2.2.2.2.2.2.2.2.2.2.1.c),(.slice x40.2.2.2.2.2.2.2.2.2.2.2.2.2.2.2.2.2.2.2.2.2.2.2.1.a x40.2.2.2.2.2.2.2.2.2.2.2.2.2.2.2.2.2.2.2.2.2.2.2.1.n x40.2.2.2.2.2.2.2.2.2.2.2.2.2.2.2.2.2.2.2.2.2.2.2.1.c),(.slice x40.2.2.2.2.2.2.2.2.2.2.2.2.2.2.2.2.2.2.2.2.2.2.2.2.1.a x40.2.2.2.2.2.2.2.2.2.2.2.2.2.2.2.2.2.2.2.2.2.2.2.2.1.n x40.2.2.2.2.2.2.2.2.2.2.2.2.2.2.2.2.2.2.2.2.2.2.2.2.1.c),(.slice x40.2.2.2.2.2.2.2.2.2.2.2.2.2.2.2.2.2.2.2.2.2.2.2.2.2.1.a x40.2.2.2.2.2.2.2.2.2.2.2.2.2.2.2.2.2.2.2.2.2.2.2.2.2.1.n x40.2.2.2.2.2.2.2.2.2.2.2.2.2.2.2.2.2.2.2.2.2.2.2.2.2.1.c),(.slice x40.2.2.2.2.2.2.2.2.2.2.2.2.2.2.2.2.2.2.2.2.2.2.2.2.2.2.1.a x40.2.2.2.2.2.2.2.2.2.2.2.2.2.2.2.2.2.2.2.2.2.2.2.2.2.2.1.n x40.2.2.2.2.2.2.2.2.2.2.2.2.2.2.2.2.2.2.2.2.2.2.2.2.2.2.1.c),(.slice x40.2.2.2.2.2.2.2.2.2.2.2.2.2.2.2.2.2.2.2.2.2.2.2.2.2.2.2.1.a x40.2.2.2.2.2.2.2.2.2.2.2.2.2.2.2.2.2.2.2.2.2.2.2.2.2.2.2.1.n x40.2.2.2.2.2.2.2.2.2.2.2.2.2.2.2.2.2.2.2.2.2.2.2.2.2.2.2.1.c)])]) ++ ca49) w42 (fun v50 w51=>
                    ∃ S56:World → Prop,(∀ w,S56 w → S44 w) ∧ S56 w51 ∧
                    (match v50 with
                    | .bool b57=>
                     Br (!b57)
                      (R (.returned (.int .i64 281)) w51)
                      (R (.returned (.int .i64 0)) w51)
                    | _=>False)) (fun h52 w51=>R (.panicked h52) w51) else False
                   | .func (.yield l53) fi48 ca49=>YieldT Tryz.prog l53 (fi48 ++ #[(.agg #[(.int .i64 x40.1),(.int .i64 x40.2.1),(.slice x40.2.2.1.a x40.2.2.1.n x40.2.2.1.c),(.string x40.2.2.2.1),(.string x40.2.2.2.2.1),(.int .i64 x40.2.2.2.2.2.1),(.slice x40.2.2.2.2.2.2.1.a x40.2.2.2.2.2.2.1.n x40.2.2.2.2.2.2.1.c),(.string x40.2.2.2.2.2.2.2.1),(.slice x40.2.2.2.2.2.2.2.2.1.a x40.2.2.2.2.2.2.2.2.1.n x40.2.2.2.2.2.2.2.2.1.c),(.int .i64 x40.2.2.2.2.2.2.2.2.2.1),(.int .i64 x40.2.2.2.2.2.2.2.2.2.2.1),(.slice x40.2.2.2.2.2.2.2.2.2.2.2.1.a x40.2.2.2.2.2.2.2.2.2.2.2.1.n x40.2.2.2.2.2.2.2.2.2.2.2.1.c),(.slice x40.2.2.2.2.2.2.2.2.2.2.2.2.1.a x40.2.2.2.2.2.2.2.2.2.2.2.2.1.n x40.2.2.2.2.2.2.2.2.2.2.2.2.1.c),(.slice x40.2.2.2.2.2.2.2.2.2.2.2.2.2.1.a x40.2.2.2.2.2.2.2.2.2.2.2.2.2.1.n x40.2.2.2.2.2.2.2.2.2.2.2.2.2.1.c),(.int .i64 x40.2.2.2.2.2.2.2.2.2.2.2.2.2.2.1),(.slice x40.2.2.2.2.2.2.2.2.2.2.2.2.2.2.2.1.a x40.2.2.2.2.2.2.2.2.2.2.2.2.2.2.2.1.n x40.2.2.2.2.2.2.2.2.2.2.2.2.2.2.2.1.c),(.int .i64 x40.2.2.2.2.2.2.2.2.2.2.2.2.2.2.2.2.1),(.slice x40.2.2.2.2.2.2.2.2.2.2.2.2.2.2.2.2.2.1.a x40.2.2.2.2.2.2.2.2.2.2.2.2.2.2.2.2.2.1.n x40.2.2.2.2.2.2.2.2.2.2.2.2.2.2.2.2.2.1.c),(.int .i64 x40.2.2.2.2.2.2.2.2.2.2.2.2.2.2.2.2.2.2.1),(.slice x40.2.2.2.2.2.2.2.2.2.2.2.2.2.2.2.2.2.2.2.1.a x40.2.2.2.2.2.2.2.2.2.2.2.2.2.2.2.2.2.2.2.1.n x40.2.2.2.2.2.2.2.2.2.2.2.2.2.2.2.2.2.2.2.1.c),(.int .i64 x40.2.2.2.2.2.2.2.2.2.2.2.2.2.2.2.2.2.2.2.2.1),(.int .i64 x40.2.2.2.2.2.2.2.2.2.2.2.2.2.2.2.2.2.2.2.2.2.1),(.slice x40.2.2.2.2.2.2.2.2.2.2.2.2.2.2.2.2.2.2.2.2.2.2.1.a x40.2.2.2.2.2.2.2.2.2.2.2.2.2.2.2.2.2.2.2.2.2.2.1.n x40.2.2.2.2.2.2.2.2.2.2.2.2.2.2.2.2.2.2.2.2.2.2.1.c),(.slice x40.2.2.2.2.2.2.2.2.2.2.2.2.2.2.2.2.2.2.2.2.2.2.2.1.a x40.2.2.2.2.2.2.2.2.2.2.2.2.2.2.2.2.2.2.2.2.2.2.2.1.n x40.2.2.2.2.2.2.2.2.2.2.2.2.2.2.2.2.2.2.2.2.2.2.2.1.c),(.slice x40.2.2.2.2.2.2.2.2.2.2.2.2.2.2.2.2.2.2.2.2.2.2.2.2.1.a x40.2.2.2.2.2.2.2.2.2.2.2.2.2.2.2.2.2.2.2.2.2.2.2.2.1.n x40.2.2.2.2.2.2.2.2.2.2.2.2.2.2.2.2.2.2.2.2.2.2.2.2.1.c),(.slice x40.2.2.2.2.2.2.2.2.2.2.2.2.2.2.2.2.2.2.2.2.2.2.2.2.2.1.a x40.2.2.2.2.2.2.2.2.2.2.2.2.2.2.2.2.2.2.2.2.2.2.2.2.2.1.n x40.2.2.2.2.2.2.2.2.2.2.2.2.2.2.2.2.2.2.2.2.2.2.2.2.2.1.c),(.slice x40.2.2.2.2.2.2.2.2.2.2.2.2.2.2.2.2.2.2.2.2.2.2.2.2.2.2.1.a x40.2.2.2.2.2.2.2.2.2.2.2.2.2.2.2.2.2.2.2.2.2.2.2.2.2.2.1.n x40.2.2.2.2.2.2.2.2.2.2.2.2.2.2.2.2.2.2.2.2.2.2.2.2.2.2.1.c),(.slice x40.2.2.2.2.2.2.2.2.2.2.2.2.2.2.2.2.2.2.2.2.2.2.2.2.2.2.2.1.a x40.2.2.2.2.2.2.2.2.2.2.2.2.2.2.2.2.2.2.2.2.2.2.2.2.2.2.2.1.n x40.2.2.2.2.2.2.2.2.2.2.2.2.2.2.2.2.2.2.2.2.2.2.2.2.2.2.2.1.c)])]) w42 fun b54 w55=>
                    ∃ S58:World → Prop,(∀ w,S58 w → S44 w) ∧ S58 w55 ∧
                    (Br (!b54)
                     (R (.returned (.int .i64 281)) w55)
                     (R (.returned (.int .i64 0)) w55))
                   | _=>False)) (fun h43 w42=>R (.panicked h43) w42))))) (fun h36 w35=>R (.panicked h36) w35))) (fun h32 w31=>R (.panicked h32) w31)))) (fun h26 w25=>R (.panicked h26) w25))) (fun h21 w20=>R (.panicked h21) w20))))) (fun h14 w13=>R (.panicked h14) w13))) (fun h6 w5=>R (.panicked h6) w5)
theorem cert_Verify.calls (p0_0:Int) (p0_1:Int) (p0_2:Sl) (p0_3:ByteArray) (p0_4:ByteArray) (p0_5:Int) (p0_6:Sl) (p0_7:ByteArray) (p0_8:Sl) (p0_9:Int) (p0_10:Int) (p0_11:Sl) (p0_12:Sl) (p0_13:Sl) (p0_14:Int) (p0_15:Sl) (p0_16:Int) (p0_17:Sl) (p0_18:Int) (p0_19:Sl) (p0_20:Int) (p0_21:Int) (p0_22:Sl) (p0_23:Sl) (p0_24:Sl) (p0_25:Sl) (p0_26:Sl) (p0_27:Sl) {R:Ending → World → Prop} {w:World} (h:cert_Verify.sh p0_0 p0_1 p0_2 p0_3 p0_4 p0_5 p0_6 p0_7 p0_8 p0_9 p0_10 p0_11 p0_12 p0_13 p0_14 p0_15 p0_16 p0_17 p0_18 p0_19 p0_20 p0_21 p0_22 p0_23 p0_24 p0_25 p0_26 p0_27 R w):Calls Tryz.prog 36 #[(.agg #[(.int .i64 p0_0),(.int .i64 p0_1),(.slice p0_2.a p0_2.n p0_2.c),(.string p0_3),(.string p0_4),(.int .i64 p0_5),(.slice p0_6.a p0_6.n p0_6.c),(.string p0_7),(.slice p0_8.a p0_8.n p0_8.c),(.int .i64 p0_9),(.int .i64 p0_10),(.slice p0_11.a p0_11.n p0_11.c),(.slice p0_12.a p0_12.n p0_12.c),(.slice p0_13.a p0_13.n p0_13.c),(.int .i64 p0_14),(.slice p0_15.a p0_15.n p0_15.c),(.int .i64 p0_16),(.slice p0_17.a p0_17.n p0_17.c),(.int .i64 p0_18),(.slice p0_19.a p0_19.n p0_19.c),(.int .i64 p0_20),(.int .i64 p0_21),(.slice p0_22.a p0_22.n p0_22.c),(.slice p0_23.a p0_23.n p0_23.c),(.slice p0_24.a p0_24.n p0_24.c),(.slice p0_25.a p0_25.n p0_25.c),(.slice p0_26.a p0_26.n p0_26.c),(.slice p0_27.a p0_27.n p0_27.c)])] w R:=calls_of_wpc mixed Tryz.func36 (by kernel_rfl) (by kernel_rfl) ((show _ = wpc Tryz.prog cert_Verify.ann cert_Verify.body (fnKs Tryz.prog Tryz.f36 R) [] (env0 #[(.agg #[(.int .i64 p0_0),(.int .i64 p0_1),(.slice p0_2.a p0_2.n p0_2.c),(.string p0_3),(.string p0_4),(.int .i64 p0_5),(.slice p0_6.a p0_6.n p0_6.c),(.string p0_7),(.slice p0_8.a p0_8.n p0_8.c),(.int .i64 p0_9),(.int .i64 p0_10),(.slice p0_11.a p0_11.n p0_11.c),(.slice p0_12.a p0_12.n p0_12.c),(.slice p0_13.a p0_13.n p0_13.c),(.int .i64 p0_14),(.slice p0_15.a p0_15.n p0_15.c),(.int .i64 p0_16),(.slice p0_17.a p0_17.n p0_17.c),(.int .i64 p0_18),(.slice p0_19.a p0_19.n p0_19.c),(.int .i64 p0_20),(.int .i64 p0_21),(.slice p0_22.a p0_22.n p0_22.c),(.slice p0_23.a p0_23.n p0_23.c),(.slice p0_24.a p0_24.n p0_24.c),(.slice p0_25.a p0_25.n p0_25.c),(.slice p0_26.a p0_26.n p0_26.c),(.slice p0_27.a p0_27.n p0_27.c)])]) w by kernel_rfl).mp h)
noncomputable def pres_Check.ann:Ann where
 loops:=fun | _=>[]
 joins:=fun | 3=>some [(1,.sc .adr)] | 5=>some [(1,.sc .adr)] | _=>none
noncomputable def pres_Check.body:Code:=match Tryz.f75.body with | some c=>c | none=>.skip
def pres_Check.sh (p0_0:Int) (p0_1:Sl) (R:Ending → World → Prop) (w:World):Prop:=
 New w (.cells #[(.int .i64 p0_0),(.slice p0_1.a p0_1.n p0_1.c)] 24) fun b1 w2=>
 Join (σ:=Addr × Unit) (fun j5 g4 w8=>
  Join (σ:=Addr × Unit) (fun j11 g10 w17=>
   LoadT (.sc .sl) w17 (j11.1.add 1) fun x18=>
   CallT Tryz.prog 109 #[(.slice x18.a x18.n x18.c),(.func (.func 111) #[] #[(.pointer (some j11.1))])] (.sc .bool) w17 (fun r19 w20=>
    Br r19
     (R (.returned (.int .i64 4)) w20)
     (R (.returned (.int .i64 0)) w20)) (fun h21 w20=>R (.panicked h21) w20)) fun J9=>
   LoadT (.sc .sl) w8 (j5.1.add 1) fun x12=>
   Br (decide ((((x12.n:Nat):Int):Int) > 60))
    (Br true
     (R (.returned (.int .i64 2)) w8)
     (J9 (j5.1,()) w8))
    (LoadT (.sc .sl) w8 (j5.1.add 1) fun x13=>
    CallT Tryz.prog 109 #[(.slice x13.a x13.n x13.c),(.func (.func 110) #[] #[])] (.sc .bool) w8 (fun r14 w15=>
     Br r14
      (R (.returned (.int .i64 2)) w15)
      (J9 (j5.1,()) w15)) (fun h16 w15=>R (.panicked h16) w15))) fun J3=>
  LoadT (.sc (.int .i64)) w2 ((Addr.mk b1 0 none).add 0) fun x6=>
  Br (decide ((x6:Int) < 1))
   (Br true
    (R (.returned (.int .i64 1)) w2)
    (J3 ((Addr.mk b1 0 none),()) w2))
   (LoadT (.sc (.int .i64)) w2 ((Addr.mk b1 0 none).add 0) fun x7=>
   Br (decide ((x7:Int) > 8))
    (R (.returned (.int .i64 1)) w2)
    (J3 ((Addr.mk b1 0 none),()) w2))
theorem pres_Check.calls (p0_0:Int) (p0_1:Sl) {R:Ending → World → Prop} {w:World} (h:pres_Check.sh p0_0 p0_1 R w):Calls Tryz.prog 75 #[(.agg #[(.int .i64 p0_0),(.slice p0_1.a p0_1.n p0_1.c)])] w R:=calls_of_wpc mixed Tryz.func75 (by kernel_rfl) (by kernel_rfl) ((show _ = wpc Tryz.prog pres_Check.ann pres_Check.body (fnKs Tryz.prog Tryz.f75 R) [] (env0 #[(.agg #[(.int .i64 p0_0),(.slice p0_1.a p0_1.n p0_1.c)])]) w by kernel_rfl).mp h)
end Go.Proofs.YtpifnlfmojfgpaaGreatDoor
end
section
set_option maxRecDepth 10000
set_option maxHeartbeats 400000
namespace Go.Proofs.YtpifnlfmojfgpaaGreatDoor.Sn
open Fw Pw Ct Rk Pk
theorem under3:Tryz.prog.underlying 3 = some (.int .i64):=by kernel_rfl
theorem under129:∃ e,Tryz.prog.underlying 129 = some (.map 3 e):=by
 have h:(Tryz.prog.underlying 129).map (fun d=>(match d with | .map k _=>k | _=>0)) = some 3:=by kernel_rfl
 obtain ⟨t,ht,hd⟩:=Option.map_eq_some_iff.1 h
 cases t <;> simp at hd
 subst hd
 exact ⟨_,ht⟩
theorem checkKey_int (P:Program) (w:World) (b:Bool) (n:Nat) (t:TypeId) (k kd:IntKind) (v:Int) (h:P.underlying t = some (.int kd)):(Instr.checkKey b (n + 1) t (.int k v)).run P w = .ok () w:=by
 simp [Instr.checkKey,run_underlying h]
theorem sameNow_int (kd k:IntKind) (a b:Int):Instr.sameNow (.int kd) (.int k a) (.int k b) = some (a == b):=by simp [Instr.sameNow]
def ents (es:List MapEntry) (l:List (Int × Value)):Prop:=es.map (fun e=>(e.key,e.val)) = l.map fun p=>(.int .i64 p.1,p.2)
theorem findNow_none (kd:IntKind) (t:Int):∀ (es:List MapEntry) (l:List (Int × Value)) (i:Nat),ents es l → (∀ p ∈ l,p.1 ≠ t) → Instr.findNow (.int kd) (.int .i64 t) es i = some none
 | [],l,i,_,_=>rfl
 | e :: es,[],i,h,_=>by simp [ents] at h
 | e :: es,p :: l,i,h,hn=>by
  simp only [ents,List.map_cons,List.cons.injEq,Prod.mk.injEq] at h
  have hne:(t == p.1) = false:=by rw [beq_eq_false_iff_ne]; exact fun he=>hn p (by simp) he.symm
  rw [Instr.findNow,h.1.1,sameNow_int,hne]
  exact findNow_none kd t es l (i + 1) h.2 fun q hq=>hn q (by simp [hq])
theorem findNow_head (kd:IntKind) (t:Int) (v:Value) (es:List MapEntry) (l:List (Int × Value)) (i:Nat) (h:ents es ((t,v) :: l)):Instr.findNow (.int kd) (.int .i64 t) es i = some (some (i,v)):=by
 cases es with
 | nil=>simp [ents] at h
 | cons e es=>
  simp only [ents,List.map_cons,List.cons.injEq,Prod.mk.injEq] at h
  rw [Instr.findNow,h.1.1,sameNow_int]
  simp [h.1.2]
def MapV (w:World) (mb:Nat) (l:List (Int × Value)):Prop:=∃ es clock,w.heap[mb]? = some (.map es clock) ∧ ents es.toList l
theorem map_set {w:World} {mb:Nat} {l:List (Int × Value)} (h:MapV w mb l) {t:Int} {v:Value} (ht:∀ p ∈ l,p.1 ≠ t) {K:World → Prop} (k:∀ w',MapV w' mb (l ++ [(t,v)]) → Chg (· = mb) w w' → K w') :
  RunU Tryz.prog (Instr.mapUpdate 129 (.map (some mb)) (.int .i64 t) v) w K:=by
 obtain ⟨es,c,h1,h2⟩:=h
 obtain ⟨el,hu⟩:=under129
 refine ⟨w.putObj mb (.map (es.push { key:=.int .i64 t,val:=v,born:=c }) (c + 1)),?_,k _ ⟨_,_,heap_put h1,?_⟩ chg_put⟩
 ·simp [Instr.mapUpdate,run_underlying hu,getObj,setObj,Sem.run_bind,Sem.run,h1,Result.andThen,checkKey_int Tryz.prog w _ 9999 3 .i64 .i64 _ under3,Instr.findKey,run_underlying under3,findNow_none .i64 _ _ _ 0 h2 ht,World.putObj]
 ·unfold ents at *
  rw [Array.toList_push,List.map_append,h2,List.map_append]
  rfl
theorem map_get {w:World} {mb:Nat} {l:List (Int × Value)} {t:Int} {v:Value} (h:MapV w mb ((t,v) :: l)):(Instr.lookup 129 (.map (some mb)) (.int .i64 t) false).run Tryz.prog w = .ok v w:=by
 obtain ⟨es,c,h1,h2⟩:=h
 obtain ⟨el,hu⟩:=under129
 simp [Instr.lookup,run_underlying hu,getObj,Sem.run_bind,Sem.run,h1,Result.andThen,checkKey_int Tryz.prog w _ 9999 3 .i64 .i64 _ under3,Instr.findKey,run_underlying under3,findNow_head .i64 t v _ l 0 h2]
theorem verifiers_ok (w:World):Calls Tryz.prog 78 #[] w fun e w'=>∃ m l,e = .returned (.map (some m)) ∧ Chg Nil w w' ∧ w.heap.size ≤ m ∧ MapV w' m ((1,.func (.func 117) #[] #[]) :: l):=by
 refine cert_verifiers.calls ?_
 unfold cert_verifiers.sh
 refine New.mk fun m W1 hm hn1 hs1 hc1=>?_
 have h0:MapV W1 m []:=⟨#[],0,hn1,rfl⟩
 have st:∀ {W W':World},Chg Nil w W → Chg (· = m) W W' → Chg Nil w W':=fun h h'=>h.trans h' (fun _ _ h=>h) fun i hi e=>by have e:i = m:=e; omega
 refine map_set h0 (by intro p hp; simp at hp) fun W2 h2 c2=>?_
 refine map_set h2 (by intro p hp; simp at hp; rcases hp with rfl; decide) fun W3 h3 c3=>?_
 refine map_set h3 (by intro p hp; simp at hp; rcases hp with rfl | rfl <;> decide) fun W4 h4 c4=>?_
 refine map_set h4 (by intro p hp; simp at hp; rcases hp with rfl | rfl | rfl <;> decide) fun W5 h5 c5=>?_
 refine map_set h5 (by intro p hp; simp at hp; rcases hp with rfl | rfl | rfl | rfl <;> decide) fun W6 h6 c6=>?_
 refine map_set h6 (by intro p hp; simp at hp; rcases hp with rfl | rfl | rfl | rfl | rfl <;> decide) fun W7 h7 c7=>?_
 refine map_set h7 (by intro p hp; simp at hp; rcases hp with rfl | rfl | rfl | rfl | rfl | rfl <;> decide) fun W8 h8 c8=>?_
 refine map_set h8 (by intro p hp; simp at hp; rcases hp with rfl | rfl | rfl | rfl | rfl | rfl | rfl <;> decide) fun W9 h9 c9=>?_
 refine map_set h9 (by intro p hp; simp at hp; rcases hp with rfl | rfl | rfl | rfl | rfl | rfl | rfl | rfl <;> decide) fun W10 h10 c10=>?_
 exact ⟨m,_,rfl,st (st (st (st (st (st (st (st (st hc1 c2) c3) c4) c5) c6) c7) c8) c9) c10,by omega,h10⟩
end Go.Proofs.YtpifnlfmojfgpaaGreatDoor.Sn
end
section
set_option maxRecDepth 20000
set_option maxHeartbeats 4000000
namespace Go.Proofs.YtpifnlfmojfgpaaGreatDoor.Sn
open Fw Pw Ct Rk Pk
noncomputable def a212:FAnn:={}
noncomputable def a211:FAnn where
 loops:=fun | 2=>[.sl 0 (.ls 5 (.int .u8)),.kv 1,.kv 10,.kv 11,.sl 12 (.pv (.int .i64))] | _=>[]
noncomputable def a209:FAnn:={}
noncomputable def a207:FAnn where
 loops:=fun | 4=>[.km 0,.kv 2,.kv 12,.kv 13,.sl 14 (.pv (.int .i64))] | _=>[]
noncomputable def a276:FAnn:={}
noncomputable def a206:FAnn where
 loops:=fun | 4=>[.km 0,.kv 1,.kv 20,.kv 21,.sl 22 (.pv (.int .i64))] | _=>[]
noncomputable def a208:FAnn where
 loops:=fun | 5=>[.km 0,.kv 2,.sl 5 (.pv (.int .i64)),.kv 11,.kv 12,.sl 13 (.pv (.int .i64))] | _=>[]
noncomputable def a167:FAnn where
 loops:=fun | 4=>[.km 0,.kv 2,.kv 3,.kv 14,.kv 15,.sl 16 (.pv (.int .i64))] | 10=>[.km 0,.kv 3,.kv 25,.kv 26,.sl 27 (.pv (.int .i64))] | _=>[]
noncomputable def a168:FAnn where
 loops:=fun | 3=>[.km 0,.kv 2,.sl 5 (.ls 5 (.int .u8)),.kv 10,.kv 11,.sl 12 (.pv (.int .i64))] | 6=>[.km 0,.kv 2,.sl 5 (.ls 5 (.int .u8)),.kv 10,.kv 11,.kv 12,.kv 27,.kv 28,.sl 29 (.pv (.int .i64))] | _=>[]
 sched:=fun | 5=>runS [(0,false),(1,false),(2,false),(3,false),(4,false),(5,false),(6,false),(8,false),(9,false),(13,false),(7,false),(10,false),(11,false),(12,false)] .fin | _=>.fin
noncomputable def a169:FAnn where
 loops:=fun | 3=>[.sl 3 (.ls 5 (.int .u8)),.kv 6,.kv 7,.sl 8 (.pv (.int .i64))] | _=>[]
noncomputable def a147:FAnn:={}
noncomputable def a148:FAnn:={}
noncomputable def a170:FAnn:={}
noncomputable def a112:FAnn:={}
noncomputable def a113:FAnn where
 loops:=fun | 3=>[.sl 3 (.ls 5 (.int .u8)),.kv 8,.kv 9,.sl 10 (.pv (.int .i64))] | 6=>[.sl 3 (.ls 5 (.int .u8)),.kv 5,.kv 8,.kv 9,.kv 10,.kv 15,.sl 16 (.pv (.int .i64))] | _=>[]
 sched:=fun | 9=>runS [(0,false),(1,false),(2,false),(3,false),(4,false),(5,false),(6,false),(7,false),(8,false),(9,false),(10,false),(11,false),(12,false),(13,false)] .fin | _=>.fin
noncomputable def a110:FAnn:={}
noncomputable def a77:FAnn where
 sched:=fun | 4=>runS [(0,false),(1,false),(2,false),(3,false),(4,false),(5,false),(6,false),(7,false),(8,false),(9,false),(10,false),(11,false),(12,false),(13,false),(14,true)] .fin | 6=>runS [(0,false),(1,false),(2,false),(3,false),(4,false),(5,false),(6,false),(7,false),(8,false),(9,false),(10,false),(11,false),(12,false),(13,false),(14,true)] .fin | 8=>runS [(0,false),(1,false),(2,false),(3,false),(4,false),(5,false),(6,false),(7,false),(8,false),(9,false),(10,false),(11,false),(12,false),(13,false),(14,true)] .fin | 10=>runS [(0,false),(1,false),(2,false),(3,false),(4,false),(5,false),(6,false),(7,false),(8,false),(9,false),(10,false),(11,false),(12,false),(13,false),(14,true)] .fin | 12=>runS [(0,false),(1,false),(2,false),(3,false),(4,false),(5,false),(6,false),(7,false),(8,false),(9,false),(10,false),(11,false),(12,false),(13,false),(14,true)] .fin | 14=>runS [(0,false),(1,false),(2,false),(3,false),(4,false),(5,false),(6,false),(7,false),(8,false),(9,true)] .fin | 18=>runS [(0,false),(1,false),(2,false),(3,false),(4,false),(5,false),(6,false),(7,false),(8,false),(9,false),(10,false),(11,false),(12,false),(13,false),(14,false),(15,false),(16,false),(17,false),(18,false),(19,true)] .fin | 20=>runS [(0,false),(1,false),(2,false),(3,false),(4,false),(5,false),(6,false),(7,false),(8,false),(9,true)] .fin | _=>.fin
 hot:=fun | 4=>[(3,0,28)] | _=>[]
noncomputable def a117:FAnn where
 sched:=fun | 1=>runS [(0,false),(1,false),(2,false),(3,false),(4,false),(5,false),(6,false),(7,false),(8,false),(9,false),(10,false),(11,false),(12,false),(13,false),(14,true),(15,false),(16,false)] .fin | _=>.fin
noncomputable def a35:FAnn:={}
def sg212:Sig:=⟨[.pv (.int .u8),.pv (.int .u8)],[.any,.any],[bA]⟩
def sg211:Sig:=⟨[.ls 5 (.int .u8),.fn 212 .nil,.pv (.lst (.int .u8))],[.any,.any,.any],[.ls 5 (.int .u8)]⟩
def sg209:Sig:=⟨[.pv presT,iA,bA],[.any,.any,.any],[sA]⟩
def sg207:Sig:=⟨[.pv presT,sA],[.any,.any],[bA]⟩
def sg276:Sig:=⟨[.pv (.int .u8)],[.any],[iA]⟩
def sg206:Sig:=⟨[.pv presT],[.any],[bA]⟩
def sg208:Sig:=⟨[.pv presT,.pv tCs],[.any,.any],[bA]⟩
def sg167:Sig:=⟨[.pv presT,.pv tW,.pv (.lst tCs)],[.any,.any,.any],[iA]⟩
def sg168:Sig:=⟨[.pv presT,.pv tCs],[.any,.any],[sA]⟩
def sg169:Sig:=⟨[.pv tW],[.any],[sA]⟩
def sg147:Sig:=⟨[.pv presT,.pv tCs,sA],[.any,.any,.any],[iA]⟩
def sg148:Sig:=⟨[sA],[.any],[sA]⟩
def sg170:Sig:=⟨[sA],[.any],[bA]⟩
def sg112:Sig:=⟨[iA,sA],[.any,.any],[bA]⟩
def sg113:Sig:=⟨[.pv tW],[.any],[sA]⟩
def sg110:Sig:=⟨[sA],[.any],[bA]⟩
def sg77:Sig:=⟨[.pv (.cons claimT .nil)],[.any],[.pv claimT]⟩
def sg117:Sig:=⟨[.pv (.cons claimT .nil)],[.any],[bA]⟩
def sg35:Sig:=⟨[bA],[.any],[.pv claimT]⟩
def sg76:Sig:=⟨[iA,sA],[.any,.any],[iA]⟩
theorem inverted_pc (a b:Int):PC Tryz.prog 212 sg212 (a,b,()) (fun y _=>y = (a == Go.bits .xor .u8 b 32,())) (fun _=>False):=by
 refine PC.of a212 [(277,sg277)] (by kernel_rfl) ?_
 refine CallP.mk _ _ (other277_pc b) ?_ (fun p h=>h.elim)
 rintro y z rfl
 exact rfl
theorem push0:PC Tryz.prog 211 sg211 ([],(),[97,98,65,66],()) (fun y _=>y = ([97,98,65,66],())) (fun _=>False):=by
 refine PC.of a211 [(212,sg212)] (by kernel_rfl) ?_
 repeat (first
  | refine BrP.yes rfl ?_
  | refine BrP.no rfl ?_
  | refine LenL.mk fun _=>?_
  | refine SameV.mk rfl ?_
  | refine GetL.get _ (by decide) rfl ?_
  | refine AppL.mk' (by decide) ?_
  | refine CatL.mk (by decide) ?_
  | (refine CallP.mk _ _ (inverted_pc _ _) ?_ (fun p h=>h.elim); rintro y z rfl)
  | refine LoopP.unroll 6 ?_)
 exact rfl
theorem push1:PC Tryz.prog 211 sg211 ([],(),[98,97,66,65],()) (fun y _=>y = ([98,97,66,65],())) (fun _=>False):=by
 refine PC.of a211 [(212,sg212)] (by kernel_rfl) ?_
 repeat (first
  | refine BrP.yes rfl ?_
  | refine BrP.no rfl ?_
  | refine LenL.mk fun _=>?_
  | refine SameV.mk rfl ?_
  | refine GetL.get _ (by decide) rfl ?_
  | refine AppL.mk' (by decide) ?_
  | refine CatL.mk (by decide) ?_
  | (refine CallP.mk _ _ (inverted_pc _ _) ?_ (fun p h=>h.elim); rintro y z rfl)
  | refine LoopP.unroll 6 ?_)
 exact rfl
theorem push2:PC Tryz.prog 211 sg211 ([],(),[],()) (fun y _=>y = ([],())) (fun _=>False):=by
 refine PC.of a211 [(212,sg212)] (by kernel_rfl) ?_
 repeat (first
  | refine BrP.yes rfl ?_
  | refine BrP.no rfl ?_
  | refine LenL.mk fun _=>?_
  | refine SameV.mk rfl ?_
  | refine GetL.get _ (by decide) rfl ?_
  | refine AppL.mk' (by decide) ?_
  | refine CatL.mk (by decide) ?_
  | (refine CallP.mk _ _ (inverted_pc _ _) ?_ (fun p h=>h.elim); rintro y z rfl)
  | refine LoopP.unroll 6 ?_)
 exact rfl
theorem push3:PC Tryz.prog 211 sg211 ([97,98,65,66],(),[],()) (fun y _=>y = ([97,98,65,66],())) (fun _=>False):=by
 refine PC.of a211 [(212,sg212)] (by kernel_rfl) ?_
 repeat (first
  | refine BrP.yes rfl ?_
  | refine BrP.no rfl ?_
  | refine LenL.mk fun _=>?_
  | refine SameV.mk rfl ?_
  | refine GetL.get _ (by decide) rfl ?_
  | refine AppL.mk' (by decide) ?_
  | refine CatL.mk (by decide) ?_
  | (refine CallP.mk _ _ (inverted_pc _ _) ?_ (fun p h=>h.elim); rintro y z rfl)
  | refine LoopP.unroll 6 ?_)
 exact rfl
theorem push4:PC Tryz.prog 211 sg211 ([98,97,66,65],(),[],()) (fun y _=>y = ([98,97,66,65],())) (fun _=>False):=by
 refine PC.of a211 [(212,sg212)] (by kernel_rfl) ?_
 repeat (first
  | refine BrP.yes rfl ?_
  | refine BrP.no rfl ?_
  | refine LenL.mk fun _=>?_
  | refine SameV.mk rfl ?_
  | refine GetL.get _ (by decide) rfl ?_
  | refine AppL.mk' (by decide) ?_
  | refine CatL.mk (by decide) ?_
  | (refine CallP.mk _ _ (inverted_pc _ _) ?_ (fun p h=>h.elim); rintro y z rfl)
  | refine LoopP.unroll 6 ?_)
 exact rfl
theorem index97:PC Tryz.prog 276 sg276 (97,()) (fun y _=>y = (0,())) (fun _=>False):=by
 refine PC.of a276 [] (by kernel_rfl) ?_
 repeat (first
  | refine BrP.yes rfl ?_
  | refine BrP.no rfl ?_
  | refine LenL.mk fun _=>?_
  | refine SameV.mk rfl ?_
  | refine GetL.get _ (by decide) rfl ?_
  | refine AppL.mk' (by decide) ?_
  | refine CatL.mk (by decide) ?_
  | refine LoopP.unroll 6 ?_)
 exact rfl
theorem index98:PC Tryz.prog 276 sg276 (98,()) (fun y _=>y = (2,())) (fun _=>False):=by
 refine PC.of a276 [] (by kernel_rfl) ?_
 repeat (first
  | refine BrP.yes rfl ?_
  | refine BrP.no rfl ?_
  | refine LenL.mk fun _=>?_
  | refine SameV.mk rfl ?_
  | refine GetL.get _ (by decide) rfl ?_
  | refine AppL.mk' (by decide) ?_
  | refine CatL.mk (by decide) ?_
  | refine LoopP.unroll 6 ?_)
 exact rfl
theorem index65:PC Tryz.prog 276 sg276 (65,()) (fun y _=>y = (1,())) (fun _=>False):=by
 refine PC.of a276 [] (by kernel_rfl) ?_
 repeat (first
  | refine BrP.yes rfl ?_
  | refine BrP.no rfl ?_
  | refine LenL.mk fun _=>?_
  | refine SameV.mk rfl ?_
  | refine GetL.get _ (by decide) rfl ?_
  | refine AppL.mk' (by decide) ?_
  | refine CatL.mk (by decide) ?_
  | refine LoopP.unroll 6 ?_)
 exact rfl
theorem index66:PC Tryz.prog 276 sg276 (66,()) (fun y _=>y = (3,())) (fun _=>False):=by
 refine PC.of a276 [] (by kernel_rfl) ?_
 repeat (first
  | refine BrP.yes rfl ?_
  | refine BrP.no rfl ?_
  | refine LenL.mk fun _=>?_
  | refine SameV.mk rfl ?_
  | refine GetL.get _ (by decide) rfl ?_
  | refine AppL.mk' (by decide) ?_
  | refine CatL.mk (by decide) ?_
  | refine LoopP.unroll 6 ?_)
 exact rfl
theorem isWord0:PC Tryz.prog 207 sg207 ((2,[[97,98,65,66]],()),[],()) (fun y _=>y = (true,())) (fun _=>False):=by
 refine PC.of a207 [(276,sg276)] (by kernel_rfl) ?_
 repeat (first
  | refine BrP.yes rfl ?_
  | refine BrP.no rfl ?_
  | refine LenL.mk fun _=>?_
  | refine SameV.mk rfl ?_
  | refine GetL.get _ (by decide) rfl ?_
  | refine AppL.mk' (by decide) ?_
  | refine CatL.mk (by decide) ?_
  | (refine CallP.mk _ _ index97 ?_ (fun p h=>h.elim); rintro y z rfl)
  | (refine CallP.mk _ _ index98 ?_ (fun p h=>h.elim); rintro y z rfl)
  | (refine CallP.mk _ _ index65 ?_ (fun p h=>h.elim); rintro y z rfl)
  | (refine CallP.mk _ _ index66 ?_ (fun p h=>h.elim); rintro y z rfl)
  | refine LoopP.unroll 6 ?_)
 exact rfl
theorem isWordA:PC Tryz.prog 207 sg207 ((2,[[97,98,65,66]],()),[97,98,65,66],()) (fun y _=>y = (true,())) (fun _=>False):=by
 refine PC.of a207 [(276,sg276)] (by kernel_rfl) ?_
 repeat (first
  | refine BrP.yes rfl ?_
  | refine BrP.no rfl ?_
  | refine LenL.mk fun _=>?_
  | refine SameV.mk rfl ?_
  | refine GetL.get _ (by decide) rfl ?_
  | refine AppL.mk' (by decide) ?_
  | refine CatL.mk (by decide) ?_
  | (refine CallP.mk _ _ index97 ?_ (fun p h=>h.elim); rintro y z rfl)
  | (refine CallP.mk _ _ index98 ?_ (fun p h=>h.elim); rintro y z rfl)
  | (refine CallP.mk _ _ index65 ?_ (fun p h=>h.elim); rintro y z rfl)
  | (refine CallP.mk _ _ index66 ?_ (fun p h=>h.elim); rintro y z rfl)
  | refine LoopP.unroll 6 ?_)
 exact rfl
theorem isWordB:PC Tryz.prog 207 sg207 ((2,[[97,98,65,66]],()),[98,97,66,65],()) (fun y _=>y = (true,())) (fun _=>False):=by
 refine PC.of a207 [(276,sg276)] (by kernel_rfl) ?_
 repeat (first
  | refine BrP.yes rfl ?_
  | refine BrP.no rfl ?_
  | refine LenL.mk fun _=>?_
  | refine SameV.mk rfl ?_
  | refine GetL.get _ (by decide) rfl ?_
  | refine AppL.mk' (by decide) ?_
  | refine CatL.mk (by decide) ?_
  | (refine CallP.mk _ _ index97 ?_ (fun p h=>h.elim); rintro y z rfl)
  | (refine CallP.mk _ _ index98 ?_ (fun p h=>h.elim); rintro y z rfl)
  | (refine CallP.mk _ _ index65 ?_ (fun p h=>h.elim); rintro y z rfl)
  | (refine CallP.mk _ _ index66 ?_ (fun p h=>h.elim); rintro y z rfl)
  | refine LoopP.unroll 6 ?_)
 exact rfl
theorem reducedA:PC Tryz.prog 169 sg169 ([[97,98,65,66]],()) (fun y _=>y = ([97,98,65,66],())) (fun _=>False):=by
 refine PC.of a169 [(211,sg211)] (by kernel_rfl) ?_
 repeat (first
  | refine BrP.yes rfl ?_
  | refine BrP.no rfl ?_
  | refine LenL.mk fun _=>?_
  | refine SameV.mk rfl ?_
  | refine GetL.get _ (by decide) rfl ?_
  | refine AppL.mk' (by decide) ?_
  | refine CatL.mk (by decide) ?_
  | (refine CallP.mk _ _ push0 ?_ (fun p h=>h.elim); rintro y z rfl)
  | (refine CallP.mk _ _ push1 ?_ (fun p h=>h.elim); rintro y z rfl)
  | (refine CallP.mk _ _ push2 ?_ (fun p h=>h.elim); rintro y z rfl)
  | (refine CallP.mk _ _ push3 ?_ (fun p h=>h.elim); rintro y z rfl)
  | (refine CallP.mk _ _ push4 ?_ (fun p h=>h.elim); rintro y z rfl)
  | refine BytL.mk [97,98,65,66] rfl (by decide) ?_
  | refine LoopP.unroll 6 ?_)
 exact rfl
theorem reducedB:PC Tryz.prog 169 sg169 ([[98,97,66,65]],()) (fun y _=>y = ([98,97,66,65],())) (fun _=>False):=by
 refine PC.of a169 [(211,sg211)] (by kernel_rfl) ?_
 repeat (first
  | refine BrP.yes rfl ?_
  | refine BrP.no rfl ?_
  | refine LenL.mk fun _=>?_
  | refine SameV.mk rfl ?_
  | refine GetL.get _ (by decide) rfl ?_
  | refine AppL.mk' (by decide) ?_
  | refine CatL.mk (by decide) ?_
  | (refine CallP.mk _ _ push0 ?_ (fun p h=>h.elim); rintro y z rfl)
  | (refine CallP.mk _ _ push1 ?_ (fun p h=>h.elim); rintro y z rfl)
  | (refine CallP.mk _ _ push2 ?_ (fun p h=>h.elim); rintro y z rfl)
  | (refine CallP.mk _ _ push3 ?_ (fun p h=>h.elim); rintro y z rfl)
  | (refine CallP.mk _ _ push4 ?_ (fun p h=>h.elim); rintro y z rfl)
  | refine BytL.mk [98,97,66,65] rfl (by decide) ?_
  | refine LoopP.unroll 6 ?_)
 exact rfl
theorem isPres1:PC Tryz.prog 206 sg206 ((2,[[97,98,65,66]],()),()) (fun y _=>y = (true,())) (fun _=>False):=by
 refine PC.of a206 [(207,sg207),(169,sg169)] (by kernel_rfl) ?_
 repeat (first
  | refine BrP.yes rfl ?_
  | refine BrP.no rfl ?_
  | refine LenL.mk fun _=>?_
  | refine SameV.mk rfl ?_
  | refine GetL.get _ (by decide) rfl ?_
  | refine AppL.mk' (by decide) ?_
  | refine CatL.mk (by decide) ?_
  | (refine CallP.mk _ _ isWord0 ?_ (fun p h=>h.elim); rintro y z rfl)
  | (refine CallP.mk _ _ isWordA ?_ (fun p h=>h.elim); rintro y z rfl)
  | (refine CallP.mk _ _ isWordB ?_ (fun p h=>h.elim); rintro y z rfl)
  | (refine CallP.mk _ _ reducedA ?_ (fun p h=>h.elim); rintro y z rfl)
  | refine LoopP.unroll 6 ?_)
 exact rfl
theorem side_true:PC Tryz.prog 209 sg209 ((2,[[97,98,65,66]],()),0,true,()) (fun y _=>y = ([98,97,66,65],())) (fun _=>False):=by
 refine PC.of a209 [(210,sg210)] (by kernel_rfl) ?_
 repeat (first
  | refine BrP.yes rfl ?_
  | refine BrP.no rfl ?_
  | refine LenL.mk fun _=>?_
  | refine SameV.mk rfl ?_
  | refine GetL.get _ (by decide) rfl ?_
  | refine AppL.mk' (by decide) ?_
  | refine CatL.mk (by decide) ?_
  | (refine CallP.mk _ _ inverse0 ?_ (fun p h=>h.elim); rintro y z rfl)
  | (refine CallP.mk _ _ inverseA ?_ (fun p h=>h.elim); rintro y z rfl)
  | refine LoopP.unroll 6 ?_)
 exact rfl
theorem isDisk_true:PC Tryz.prog 208 sg208 ((2,[[97,98,65,66]],()),[([],0,true,())],()) (fun y _=>y = (true,())) (fun _=>False):=by
 refine PC.of a208 [(207,sg207)] (by kernel_rfl) ?_
 repeat (first
  | refine BrP.yes rfl ?_
  | refine BrP.no rfl ?_
  | refine LenL.mk fun _=>?_
  | refine SameV.mk rfl ?_
  | refine GetL.get _ (by decide) rfl ?_
  | refine AppL.mk' (by decide) ?_
  | refine CatL.mk (by decide) ?_
  | (refine CallP.mk _ _ isWord0 ?_ (fun p h=>h.elim); rintro y z rfl)
  | (refine CallP.mk _ _ isWordA ?_ (fun p h=>h.elim); rintro y z rfl)
  | (refine CallP.mk _ _ isWordB ?_ (fun p h=>h.elim); rintro y z rfl)
  | refine LoopP.unroll 6 ?_)
 exact rfl
theorem examine_true:PC Tryz.prog 167 sg167 ((2,[[97,98,65,66]],()),[[98,97,66,65]],[[([],0,true,())]],()) (fun y _=>y = (0,())) (fun _=>False):=by
 refine PC.of a167 [(206,sg206),(207,sg207),(208,sg208)] (by kernel_rfl) ?_
 repeat (first
  | refine BrP.yes rfl ?_
  | refine BrP.no rfl ?_
  | refine LenL.mk fun _=>?_
  | refine SameV.mk rfl ?_
  | refine GetL.get _ (by decide) rfl ?_
  | refine AppL.mk' (by decide) ?_
  | refine CatL.mk (by decide) ?_
  | (refine CallP.mk _ _ isPres1 ?_ (fun p h=>h.elim); rintro y z rfl)
  | (refine CallP.mk _ _ isWord0 ?_ (fun p h=>h.elim); rintro y z rfl)
  | (refine CallP.mk _ _ isWordA ?_ (fun p h=>h.elim); rintro y z rfl)
  | (refine CallP.mk _ _ isWordB ?_ (fun p h=>h.elim); rintro y z rfl)
  | (refine CallP.mk _ _ isDisk_true ?_ (fun p h=>h.elim); rintro y z rfl)
  | refine LoopP.unroll 6 ?_)
 exact rfl
theorem boundary_true:PC Tryz.prog 168 sg168 ((2,[[97,98,65,66]],()),[([],0,true,())],()) (fun y _=>y = ([98,97,66,65],())) (fun _=>False):=by
 refine PC.of a168 [(209,sg209),(210,sg210),(211,sg211)] (by kernel_rfl) ?_
 repeat (first
  | refine BrP.yes rfl ?_
  | refine BrP.no rfl ?_
  | refine LenL.mk fun _=>?_
  | refine SameV.mk rfl ?_
  | refine GetL.get _ (by decide) rfl ?_
  | refine AppL.mk' (by decide) ?_
  | refine CatL.mk (by decide) ?_
  | (refine CallP.mk _ _ side_true ?_ (fun p h=>h.elim); rintro y z rfl)
  | (refine CallP.mk _ _ inverse0 ?_ (fun p h=>h.elim); rintro y z rfl)
  | (refine CallP.mk _ _ inverseA ?_ (fun p h=>h.elim); rintro y z rfl)
  | (refine CallP.mk _ _ push0 ?_ (fun p h=>h.elim); rintro y z rfl)
  | (refine CallP.mk _ _ push1 ?_ (fun p h=>h.elim); rintro y z rfl)
  | (refine CallP.mk _ _ push2 ?_ (fun p h=>h.elim); rintro y z rfl)
  | (refine CallP.mk _ _ push3 ?_ (fun p h=>h.elim); rintro y z rfl)
  | (refine CallP.mk _ _ push4 ?_ (fun p h=>h.elim); rintro y z rfl)
  | refine BytL.mk [98,97,66,65] rfl (by decide) ?_
  | refine LoopP.unroll 6 ?_)
 exact rfl
theorem proves_true:PC Tryz.prog 147 sg147 ((2,[[97,98,65,66]],()),[([],0,true,())],[98,97,66,65],()) (fun y _=>y = (0,())) (fun _=>False):=by
 refine PC.of a147 [(167,sg167),(168,sg168),(169,sg169)] (by kernel_rfl) ?_
 repeat (first
  | refine BrP.yes rfl ?_
  | refine BrP.no rfl ?_
  | refine LenL.mk fun _=>?_
  | refine SameV.mk rfl ?_
  | refine GetL.get _ (by decide) rfl ?_
  | refine AppL.mk' (by decide) ?_
  | refine CatL.mk (by decide) ?_
  | (refine CallP.mk _ _ examine_true ?_ (fun p h=>h.elim); rintro y z rfl)
  | (refine CallP.mk _ _ boundary_true ?_ (fun p h=>h.elim); rintro y z rfl)
  | (refine CallP.mk _ _ reducedB ?_ (fun p h=>h.elim); rintro y z rfl)
  | refine LoopP.unroll 6 ?_)
 exact rfl
theorem side_false:PC Tryz.prog 209 sg209 ((2,[[97,98,65,66]],()),0,false,()) (fun y _=>y = ([97,98,65,66],())) (fun _=>False):=by
 refine PC.of a209 [(210,sg210)] (by kernel_rfl) ?_
 repeat (first
  | refine BrP.yes rfl ?_
  | refine BrP.no rfl ?_
  | refine LenL.mk fun _=>?_
  | refine SameV.mk rfl ?_
  | refine GetL.get _ (by decide) rfl ?_
  | refine AppL.mk' (by decide) ?_
  | refine CatL.mk (by decide) ?_
  | (refine CallP.mk _ _ inverse0 ?_ (fun p h=>h.elim); rintro y z rfl)
  | (refine CallP.mk _ _ inverseA ?_ (fun p h=>h.elim); rintro y z rfl)
  | refine LoopP.unroll 6 ?_)
 exact rfl
theorem isDisk_false:PC Tryz.prog 208 sg208 ((2,[[97,98,65,66]],()),[([],0,false,())],()) (fun y _=>y = (true,())) (fun _=>False):=by
 refine PC.of a208 [(207,sg207)] (by kernel_rfl) ?_
 repeat (first
  | refine BrP.yes rfl ?_
  | refine BrP.no rfl ?_
  | refine LenL.mk fun _=>?_
  | refine SameV.mk rfl ?_
  | refine GetL.get _ (by decide) rfl ?_
  | refine AppL.mk' (by decide) ?_
  | refine CatL.mk (by decide) ?_
  | (refine CallP.mk _ _ isWord0 ?_ (fun p h=>h.elim); rintro y z rfl)
  | (refine CallP.mk _ _ isWordA ?_ (fun p h=>h.elim); rintro y z rfl)
  | (refine CallP.mk _ _ isWordB ?_ (fun p h=>h.elim); rintro y z rfl)
  | refine LoopP.unroll 6 ?_)
 exact rfl
theorem examine_false:PC Tryz.prog 167 sg167 ((2,[[97,98,65,66]],()),[[98,97,66,65]],[[([],0,false,())]],()) (fun y _=>y = (0,())) (fun _=>False):=by
 refine PC.of a167 [(206,sg206),(207,sg207),(208,sg208)] (by kernel_rfl) ?_
 repeat (first
  | refine BrP.yes rfl ?_
  | refine BrP.no rfl ?_
  | refine LenL.mk fun _=>?_
  | refine SameV.mk rfl ?_
  | refine GetL.get _ (by decide) rfl ?_
  | refine AppL.mk' (by decide) ?_
  | refine CatL.mk (by decide) ?_
  | (refine CallP.mk _ _ isPres1 ?_ (fun p h=>h.elim); rintro y z rfl)
  | (refine CallP.mk _ _ isWord0 ?_ (fun p h=>h.elim); rintro y z rfl)
  | (refine CallP.mk _ _ isWordA ?_ (fun p h=>h.elim); rintro y z rfl)
  | (refine CallP.mk _ _ isWordB ?_ (fun p h=>h.elim); rintro y z rfl)
  | (refine CallP.mk _ _ isDisk_false ?_ (fun p h=>h.elim); rintro y z rfl)
  | refine LoopP.unroll 6 ?_)
 exact rfl
theorem boundary_false:PC Tryz.prog 168 sg168 ((2,[[97,98,65,66]],()),[([],0,false,())],()) (fun y _=>y = ([97,98,65,66],())) (fun _=>False):=by
 refine PC.of a168 [(209,sg209),(210,sg210),(211,sg211)] (by kernel_rfl) ?_
 repeat (first
  | refine BrP.yes rfl ?_
  | refine BrP.no rfl ?_
  | refine LenL.mk fun _=>?_
  | refine SameV.mk rfl ?_
  | refine GetL.get _ (by decide) rfl ?_
  | refine AppL.mk' (by decide) ?_
  | refine CatL.mk (by decide) ?_
  | (refine CallP.mk _ _ side_false ?_ (fun p h=>h.elim); rintro y z rfl)
  | (refine CallP.mk _ _ inverse0 ?_ (fun p h=>h.elim); rintro y z rfl)
  | (refine CallP.mk _ _ inverseA ?_ (fun p h=>h.elim); rintro y z rfl)
  | (refine CallP.mk _ _ push0 ?_ (fun p h=>h.elim); rintro y z rfl)
  | (refine CallP.mk _ _ push1 ?_ (fun p h=>h.elim); rintro y z rfl)
  | (refine CallP.mk _ _ push2 ?_ (fun p h=>h.elim); rintro y z rfl)
  | (refine CallP.mk _ _ push3 ?_ (fun p h=>h.elim); rintro y z rfl)
  | (refine CallP.mk _ _ push4 ?_ (fun p h=>h.elim); rintro y z rfl)
  | refine BytL.mk [97,98,65,66] rfl (by decide) ?_
  | refine LoopP.unroll 6 ?_)
 exact rfl
theorem proves_false:PC Tryz.prog 147 sg147 ((2,[[97,98,65,66]],()),[([],0,false,())],[98,97,66,65],()) (fun y _=>y = (5,())) (fun _=>False):=by
 refine PC.of a147 [(167,sg167),(168,sg168),(169,sg169)] (by kernel_rfl) ?_
 repeat (first
  | refine BrP.yes rfl ?_
  | refine BrP.no rfl ?_
  | refine LenL.mk fun _=>?_
  | refine SameV.mk rfl ?_
  | refine GetL.get _ (by decide) rfl ?_
  | refine AppL.mk' (by decide) ?_
  | refine CatL.mk (by decide) ?_
  | (refine CallP.mk _ _ examine_false ?_ (fun p h=>h.elim); rintro y z rfl)
  | (refine CallP.mk _ _ boundary_false ?_ (fun p h=>h.elim); rintro y z rfl)
  | (refine CallP.mk _ _ reducedB ?_ (fun p h=>h.elim); rintro y z rfl)
  | refine LoopP.unroll 6 ?_)
 exact rfl
end Go.Proofs.YtpifnlfmojfgpaaGreatDoor.Sn
end
section
set_option maxRecDepth 20000
set_option maxHeartbeats 4000000
namespace Go.Proofs.YtpifnlfmojfgpaaGreatDoor.Sn
open Fw Pw Ct Rk Pk
theorem is1:PC Tryz.prog 170 sg170 ([97,98],()) (fun y _=>y = (true,())) (fun _=>False):=by
 refine PC.of a170 [(76,sg76)] (by kernel_rfl) ?_
 repeat (first
  | refine BrP.yes rfl ?_
  | refine BrP.no rfl ?_
  | refine LenL.mk fun _=>?_
  | refine SameV.mk rfl ?_
  | refine GetL.get _ (by decide) rfl ?_
  | refine AppL.mk' (by decide) ?_
  | refine CatL.mk (by decide) ?_
  | (refine CallP.mk _ _ chk8 ?_ (fun p h=>h.elim); rintro y z rfl)
  | refine LoopP.unroll 6 ?_)
 exact rfl
theorem winverse1:PC Tryz.prog 148 sg148 ([97,98],()) (fun y _=>y = ([66,65],())) (fun _=>False):=by
 refine PC.of a148 [(170,sg170),(171,sg171)] (by kernel_rfl) ?_
 repeat (first
  | refine BrP.yes rfl ?_
  | refine BrP.no rfl ?_
  | refine LenL.mk fun _=>?_
  | refine SameV.mk rfl ?_
  | refine GetL.get _ (by decide) rfl ?_
  | refine AppL.mk' (by decide) ?_
  | refine CatL.mk (by decide) ?_
  | (refine CallP.mk _ _ is1 ?_ (fun p h=>h.elim); rintro y z rfl)
  | (refine CallP.mk _ _ winverse0 ?_ (fun p h=>h.elim); rintro y z rfl)
  | refine LoopP.unroll 6 ?_)
 exact rfl
theorem isWord112:PC Tryz.prog 112 sg112 (2,[97,98,65,66],()) (fun y _=>y = (true,())) (fun _=>False):=by
 refine PC.of a112 [(76,sg76)] (by kernel_rfl) ?_
 repeat (first
  | refine BrP.yes rfl ?_
  | refine BrP.no rfl ?_
  | refine LenL.mk fun _=>?_
  | refine SameV.mk rfl ?_
  | refine GetL.get _ (by decide) rfl ?_
  | refine AppL.mk' (by decide) ?_
  | refine CatL.mk (by decide) ?_
  | (refine CallP.mk _ _ chk2 ?_ (fun p h=>h.elim); rintro y z rfl)
  | refine LoopP.unroll 6 ?_)
 exact rfl
theorem preduce:PC Tryz.prog 113 sg113 ([[97,98,65,66]],()) (fun y _=>y = ([97,98,65,66],())) (fun _=>False):=by
 refine PC.of a113 [] (by kernel_rfl) ?_
 repeat (first
  | refine BrP.yes rfl ?_
  | refine BrP.no rfl ?_
  | refine LenL.mk fun _=>?_
  | refine SameV.mk rfl ?_
  | refine GetL.get _ (by decide) rfl ?_
  | refine AppL.mk' (by decide) ?_
  | refine CatL.mk (by decide) ?_
  | refine BytL.mk [97,98,65,66] rfl (by decide) ?_
  | refine LoopP.unroll 6 ?_)
 exact rfl
theorem long110:PC Tryz.prog 110 sg110 ([97,98,65,66],()) (fun y _=>y = (false,())) (fun _=>False):=by
 refine PC.of a110 [] (by kernel_rfl) ?_
 repeat (first
  | refine BrP.yes rfl ?_
  | refine BrP.no rfl ?_
  | refine LenL.mk fun _=>?_
  | refine SameV.mk rfl ?_
  | refine GetL.get _ (by decide) rfl ?_
  | refine AppL.mk' (by decide) ?_
  | refine CatL.mk (by decide) ?_
  | refine LoopP.unroll 6 ?_)
 exact rfl
noncomputable def a145a:FAnn where
 loops:=fun | 2=>[.kv 0,.kv 1,.kv 7,.sl 8 (.pv (.int .i64))] | _=>[]
noncomputable def a145b:FAnn where
 loops:=fun | 2=>[.mem 0 0 (.pv presT),.kv 0,.kv 1,.kv 7,.sl 8 (.pv (.int .i64))] | _=>[]
noncomputable def a109a:FAnn:={}
noncomputable def a109b:FAnn:={}
noncomputable def a111:FAnn:={}
def sg145a:Sig:=⟨[.pv tW,.fn 110 .nil],[.any,.any],[iA]⟩
def sg145b:Sig:=⟨[.pv tW,.fn 111 (.box (.pv presT))],[.any,.any],[iA]⟩
def sg109a:Sig:=⟨[.pv tW,.fn 110 .nil],[.any,.any],[bA]⟩
def sg109b:Sig:=⟨[.pv tW,.fn 111 (.box (.pv presT))],[.any,.any],[bA]⟩
def sg111:Sig:=⟨[sA,.box (.pv presT)],[.any,.box (.pv presT)],[bA]⟩
theorem form111:PC Tryz.prog 111 sg111 ([97,98,65,66],(2,[[97,98,65,66]],()),()) (fun y z=>y = (false,()) ∧ z = ((),(2,[[97,98,65,66]],()),())) (fun _=>False):=by
 refine PC.of a111 [(112,sg112),(113,sg113)] (by kernel_rfl) ?_
 repeat (first
  | refine BrP.yes rfl ?_
  | refine BrP.no rfl ?_
  | refine LenL.mk fun _=>?_
  | refine SameV.mk rfl ?_
  | refine GetL.get _ (by decide) rfl ?_
  | refine AppL.mk' (by decide) ?_
  | refine CatL.mk (by decide) ?_
  | (refine CallP.mk _ _ isWord112 ?_ (fun p h=>h.elim); rintro y z rfl)
  | (refine CallP.mk _ _ preduce ?_ (fun p h=>h.elim); rintro y z rfl)
  | refine LoopP.unroll 6 ?_)
 exact ⟨rfl,rfl⟩
theorem index110:PC Tryz.prog 145 sg145a ([[97,98,65,66]],(),()) (fun y _=>y = (-1,())) (fun _=>False):=by
 refine PC.of a145a [(110,sg110)] (by kernel_rfl) ?_
 repeat (first
  | refine BrP.yes rfl ?_
  | refine BrP.no rfl ?_
  | refine LenL.mk fun _=>?_
  | refine SameV.mk rfl ?_
  | refine GetL.get _ (by decide) rfl ?_
  | refine AppL.mk' (by decide) ?_
  | refine CatL.mk (by decide) ?_
  | (refine CallP.mk _ _ long110 ?_ (fun p h=>h.elim); rintro y z rfl)
  | refine LoopP.unroll 6 ?_)
 exact rfl
theorem index111:PC Tryz.prog 145 sg145b ([[97,98,65,66]],(2,[[97,98,65,66]],()),()) (fun y _=>y = (-1,())) (fun _=>False):=by
 refine PC.of a145b [(111,sg111)] (by kernel_rfl) ?_
 repeat (first
  | refine BrP.yes rfl ?_
  | refine BrP.no rfl ?_
  | refine LenL.mk fun _=>?_
  | refine SameV.mk rfl ?_
  | refine GetL.get _ (by decide) rfl ?_
  | refine AppL.mk' (by decide) ?_
  | refine CatL.mk (by decide) ?_
  | (refine CallP.mk _ _ form111 ?_ (fun p h=>h.elim); rintro y z ⟨rfl,rfl⟩)
  | refine LoopP.unroll 6 ?_)
 exact rfl
theorem contains110:PC Tryz.prog 109 sg109a ([[97,98,65,66]],(),()) (fun y _=>y = (false,())) (fun _=>False):=by
 refine PC.of a109a [(145,sg145a)] (by kernel_rfl) ?_
 repeat (first
  | refine BrP.yes rfl ?_
  | refine BrP.no rfl ?_
  | refine LenL.mk fun _=>?_
  | refine SameV.mk rfl ?_
  | refine GetL.get _ (by decide) rfl ?_
  | refine AppL.mk' (by decide) ?_
  | refine CatL.mk (by decide) ?_
  | (refine CallP.mk _ _ index110 ?_ (fun p h=>h.elim); rintro y z rfl)
  | refine LoopP.unroll 6 ?_)
 exact rfl
theorem contains111:PC Tryz.prog 109 sg109b ([[97,98,65,66]],(2,[[97,98,65,66]],()),()) (fun y _=>y = (false,())) (fun _=>False):=by
 refine PC.of a109b [(145,sg145b)] (by kernel_rfl) ?_
 repeat (first
  | refine BrP.yes rfl ?_
  | refine BrP.no rfl ?_
  | refine LenL.mk fun _=>?_
  | refine SameV.mk rfl ?_
  | refine GetL.get _ (by decide) rfl ?_
  | refine AppL.mk' (by decide) ?_
  | refine CatL.mk (by decide) ?_
  | (refine CallP.mk _ _ index111 ?_ (fun p h=>h.elim); rintro y z rfl)
  | refine LoopP.unroll 6 ?_)
 exact rfl
theorem example_true:PC Tryz.prog 35 sg35 (true,()) (fun y _=>y = (exC true,())) (fun _=>False):=by
 refine PC.of a35 [] (by kernel_rfl) ?_
 repeat (first
  | refine BrP.yes rfl ?_
  | refine BrP.no rfl ?_
  | refine LenL.mk fun _=>?_
  | refine SameV.mk rfl ?_
  | refine GetL.get _ (by decide) rfl ?_
  | refine AppL.mk' (by decide) ?_
  | refine CatL.mk (by decide) ?_
  | refine LoopP.unroll 6 ?_)
 exact rfl
theorem plain_true:PC Tryz.prog 77 sg77 ((exC true,()),()) (fun y _=>y = (exC true,())) (fun _=>False):=by
 refine PC.of a77 [] (by kernel_rfl) ?_
 repeat (first
  | refine BrP.yes rfl ?_
  | refine BrP.no rfl ?_
  | refine LenL.mk fun _=>?_
  | refine SameV.mk rfl ?_
  | refine GetL.get _ (by decide) rfl ?_
  | refine AppL.mk' (by decide) ?_
  | refine CatL.mk (by decide) ?_
  | refine LoopP.unroll 6 ?_)
 exact rfl
theorem equal_true:PC Tryz.prog 117 sg117 ((exC true,()),()) (fun y _=>y = (true,())) (fun _=>False):=by
 refine PC.of a117 [(148,sg148),(147,sg147)] (by kernel_rfl) ?_
 repeat (first
  | refine BrP.yes rfl ?_
  | refine BrP.no rfl ?_
  | refine LenL.mk fun _=>?_
  | refine SameV.mk rfl ?_
  | refine GetL.get _ (by decide) rfl ?_
  | refine AppL.mk' (by decide) ?_
  | refine CatL.mk (by decide) ?_
  | (refine CallP.mk _ _ winverse1 ?_ (fun p h=>h.elim); rintro y z rfl)
  | (refine CallP.mk _ _ proves_true ?_ (fun p h=>h.elim); rintro y z rfl)
  | refine LoopP.unroll 6 ?_)
 exact rfl
theorem example_false:PC Tryz.prog 35 sg35 (false,()) (fun y _=>y = (exC false,())) (fun _=>False):=by
 refine PC.of a35 [] (by kernel_rfl) ?_
 repeat (first
  | refine BrP.yes rfl ?_
  | refine BrP.no rfl ?_
  | refine LenL.mk fun _=>?_
  | refine SameV.mk rfl ?_
  | refine GetL.get _ (by decide) rfl ?_
  | refine AppL.mk' (by decide) ?_
  | refine CatL.mk (by decide) ?_
  | refine LoopP.unroll 6 ?_)
 exact rfl
theorem plain_false:PC Tryz.prog 77 sg77 ((exC false,()),()) (fun y _=>y = (exC false,())) (fun _=>False):=by
 refine PC.of a77 [] (by kernel_rfl) ?_
 repeat (first
  | refine BrP.yes rfl ?_
  | refine BrP.no rfl ?_
  | refine LenL.mk fun _=>?_
  | refine SameV.mk rfl ?_
  | refine GetL.get _ (by decide) rfl ?_
  | refine AppL.mk' (by decide) ?_
  | refine CatL.mk (by decide) ?_
  | refine LoopP.unroll 6 ?_)
 exact rfl
theorem equal_false:PC Tryz.prog 117 sg117 ((exC false,()),()) (fun y _=>y = (false,())) (fun _=>False):=by
 refine PC.of a117 [(148,sg148),(147,sg147)] (by kernel_rfl) ?_
 repeat (first
  | refine BrP.yes rfl ?_
  | refine BrP.no rfl ?_
  | refine LenL.mk fun _=>?_
  | refine SameV.mk rfl ?_
  | refine GetL.get _ (by decide) rfl ?_
  | refine AppL.mk' (by decide) ?_
  | refine CatL.mk (by decide) ?_
  | (refine CallP.mk _ _ winverse1 ?_ (fun p h=>h.elim); rintro y z rfl)
  | (refine CallP.mk _ _ proves_false ?_ (fun p h=>h.elim); rintro y z rfl)
  | refine LoopP.unroll 6 ?_)
 exact rfl
end Go.Proofs.YtpifnlfmojfgpaaGreatDoor.Sn
end
section
set_option maxRecDepth 10000
set_option maxHeartbeats 1000000
namespace Go.Proofs.YtpifnlfmojfgpaaGreatDoor.Sn
open Fw Pw Ct Rk Pk
theorem bool_of {A:Pos} {w:World} {b:Bool} {u:Unit} {rs:List Value} {ω:Ow} (h:TRs Tryz.prog A w [.pv .bool] (b,u) rs ω):rs = [.bool b]:=by
 obtain ⟨v,vs',_,_,rfl,⟨us,h1,_,h2⟩,h3,_⟩:=h
 have h1:us = [.bool b]:=h1
 have h2:us = [v]:=h2
 have h3:vs' = []:=h3
 subst h3
 rw [h1] at h2
 cases h2
 rfl
theorem pcheck_ok {w:World} (hg:GOk w) {s:Sl} (hs:Rp (allP w) w tW [[97,98,65,66]] [s.v]):Calls Tryz.prog 75 #[.agg #[.int .i64 2,s.v]] w fun e w'=>e = .returned (.int .i64 0) ∧ Chg Nil w w':=by
 have hn:s.n = 1:=by
  obtain ⟨_,_,_,h,h2,_⟩:=hs
  injection h with h _
  injection h with _ h _
  rw [h]; exact h2
 refine pres_Check.calls 2 s ?_
 unfold pres_Check.sh
 refine New.mk fun b1 W1 hb hn1 hs1 hc1=>?_
 have ld:∀ {W:World},W.heap[b1]? = some (.cells #[.int .i64 2,s.v] 24 (0,0)) → W.cell? ((Addr.mk b1 0 none).add 0) = some (.int .i64 2) ∧ W.cell? ((Addr.mk b1 0 none).add 1) = some s.v:=fun h=>⟨by rw [cellOf h]; rfl,by rw [cellOf h]; rfl⟩
 refine Join.by' (fun y W=>y = (Addr.mk b1 0 none,()) ∧ Chg Nil w W ∧ W.heap[b1]? = some (.cells #[.int .i64 2,s.v] 24 (0,0))) (fun y W g hy=>?_) (fun J hJ=>?_)
 rotate_left
 ·refine LoadT.sc (s:=.int .i64) (x:=2) (ld hn1).1 ?_
  refine Br.mk (fun h=>absurd h (by decide)) (fun _=>?_)
  refine LoadT.sc (s:=.int .i64) (x:=2) (ld hn1).1 ?_
  exact Br.mk (fun h=>absurd h (by decide)) (fun _=>hJ _ _ ⟨rfl,hc1,hn1⟩)
 obtain ⟨rfl,hcW,hW⟩:=hy
 dsimp only
 refine Join.by' (fun y W=>y = (Addr.mk b1 0 none,()) ∧ Chg Nil w W ∧ W.heap[b1]? = some (.cells #[.int .i64 2,s.v] 24 (0,0))) (fun y W2 g hy=>?_) (fun J hJ=>?_)
 rotate_left
 ·refine LoadT.sc (s:=.sl) (x:=s) (ld hW).2 ?_
  refine Br.mk (fun h=>absurd h (by rw [hn]; decide)) (fun _=>?_)
  refine LoadT.sc (s:=.sl) (x:=s) (ld hW).2 ?_
  refine Calls.mono (contains110.2 (allP W) W [s.v,.func (.func 110) #[] #[]] .no ⟨_,_,.no,.no,rfl,⟨[s.v],hs.ext fun g o hgo=>⟨Nat.lt_of_lt_of_le hgo hcW.size,World.cell?_of_block (hcW.block g hgo fun h=>h)⟩,rfl,rfl⟩,⟨_,_,.no,.no,rfl,⟨[_],⟨[],rfl,rfl,rfl⟩,rfl,rfl⟩,rfl,Ow.dis_no,.refl _,.refl _⟩,Ow.dis_no,.refl _,.refl _⟩ (fun g o h=>h) ⟨gok_chg hg hcW,fun _ _ h=>h.elim,fun _ h=>h.elim⟩) fun e W3 he=>?_
  cases e with
  | outgrown=>exact he.elim
  | panicked ch=>obtain ⟨_,_,_,_,h,_⟩:=he; exact h.elim
  | returned v=>
   obtain ⟨A',y,z,rs,ω1,ω2,rfl,rfl,hrs,_,_,ha⟩:=he
   have:=bool_of hrs
   subst this
   have hc3:=after_chg ha
   refine ⟨false,rfl,?_⟩
   exact Br.mk (fun h=>(by cases h)) (fun _=>hJ _ _ ⟨rfl,hcW.then hc3,hc3.heap hW fun h=>h⟩)
 obtain ⟨rfl,hcW2,hW2⟩:=hy
 dsimp only
 refine LoadT.sc (s:=.sl) (x:=s) (ld hW2).2 ?_
 have hg2:=gok_chg hg hcW2
 have hnb:∀ j v,[Value.int .i64 2,s.v][j]? = some v → W2.cell? ⟨b1,0 + j,none⟩ = some v ∧ W2.frozen? ⟨b1,0 + j,none⟩ = false:=fun j v hj=>by
  have:=Box.of (vs:=[Value.int .i64 2,s.v]) hW2 j v hj
  rwa [Nat.zero_add]
 refine Calls.mono (contains111.2 (fun g _=>g < W2.heap.size ∧ g ≠ b1) W2 [s.v,.func (.func 111) #[] #[.pointer (some ⟨b1,0,none⟩)]] ⟨fun g o=>g = b1 ∧ o < 2,fun _=>False⟩
  ⟨_,_,.no,⟨fun g o=>g = b1 ∧ o < 2,fun _=>False⟩,rfl,⟨[s.v],hs.ext fun g o hgo=>⟨⟨Nat.lt_of_lt_of_le hgo hcW2.size,by have hgo:g < w.heap.size:=hgo; omega⟩,World.cell?_of_block (hcW2.block g hgo fun h=>h)⟩,rfl,rfl⟩,
   ⟨_,_,⟨fun g o=>g = b1 ∧ o < 2,fun _=>False⟩,.no,rfl,⟨[_],⟨[.pointer (some ⟨b1,0,none⟩)],rfl,rfl,b1,0,[.int .i64 2,s.v],.no,⟨fun g o=>g = b1 ∧ o < 2,fun _=>False⟩,rfl,rfl,
    rp_pres (p:=(2,[[97,98,65,66]],())) (hs.ext fun g o hgo=>⟨⟨Nat.lt_of_lt_of_le hgo hcW2.size,by have hgo:g < w.heap.size:=hgo; omega⟩,World.cell?_of_block (hcW2.block g hgo fun h=>h)⟩),
    fun j v hj=>⟨(hnb j v hj).1,(hnb j v hj).2,fun h=>h.2 rfl,rfl,by have:=(List.getElem?_eq_some_iff.1 hj).1; simp at this; omega⟩,⟨fun _ _ h=>h.elim,fun _ h=>h.elim,fun _ _ h=>h.elim,fun _ _ h=>h.elim⟩,Ow.no_le _,.refl _⟩,rfl,rfl⟩,rfl,⟨fun _ _ _ h=>h.elim,fun _ h=>h.elim,fun _ _ h=>h.elim,fun _ _ h=>h.elim⟩,.refl _,Ow.no_le _⟩,
   ⟨fun _ _ h=>h.elim,fun _ h=>h.elim,fun _ _ h=>h.elim,fun _ _ h=>h.elim⟩,Ow.no_le _,.refl _⟩ (fun g o h=>h.1) ⟨hg2,fun g o h=>by have:=hg.size; have:=h.1; omega,fun _ h=>h.elim⟩) fun e W3 he=>?_
 cases e with
 | outgrown=>exact he.elim
 | panicked ch=>obtain ⟨_,_,_,_,h,_⟩:=he; exact h.elim
 | returned v=>
  obtain ⟨A',y,z,rs,ω1,ω2,rfl,rfl,hrs,_,_,ha⟩:=he
  have:=bool_of hrs
  subst this
  refine ⟨false,rfl,?_⟩
  refine Br.mk (fun h=>(by cases h)) (fun _=>⟨rfl,hcW2.trans (T:=(· = b1)) ⟨ha.fr.os,ha.fr.tape,ha.fr.output,ha.fr.size,fun k hk hn=>ha.fr.block k hk fun o hop=>?_⟩ (fun _ _ h=>h) fun i hi e=>?_⟩)
  ·rcases hop with (hop | hop) | ⟨hop | hop,_⟩
   ·omega
   ·exact hn hop.1
   ·omega
   ·exact hop
  ·have e:i = b1:=e
   omega
theorem pc_int {f:FuncId} {ps:List PT} {out:List AT} {x:aden (ps.map AT.pv)} {y:Int} {Q:aden [AT.pv tI] → aden out → Prop} (h:PC Tryz.prog f ⟨ps.map AT.pv,out,[.pv tI]⟩ x Q (fun _=>False)) (hy:∀ a b,Q a b → a.1 = y) {w:World} {vs:List Value} (hp:PVs (allP w) w ps x vs) (hg:GOk w) :
  Calls Tryz.prog f vs.toArray w fun e w'=>e = .returned (.int .i64 y) ∧ Chg Nil w w' ∧ GOk w':=by
 refine (pc_pure (rs:=[tI]) h hp hg).mono fun e w' he=>?_
 obtain ⟨A',a,z,us,h1,rfl,⟨cs,v,vs',rfl,hb,h4,h5⟩,h6,h7,_⟩:=he
 have h5:vs' = []:=h5
 have h4:cs = [v]:=h4
 have hb:cs = [.int .i64 a.1]:=hb
 subst h5
 rw [h4] at hb
 simp only [List.cons.injEq,and_true] at hb
 subst hb
 rw [hy _ _ h1] at *
 exact ⟨rfl,h6,h7⟩
theorem lim_ex (inv:Bool):Lim NN claimT (exC inv):=by
 have h0:∀ {α:Type} {p:α → Prop},([]:List α).length ≤ NN ∧ ∀ x ∈ ([]:List α),p x:=fun {α p}=>⟨Nat.zero_le _,fun x hx=>by cases hx⟩
 have hi:∀ n:Int,(-9223372036854775808 ≤ n ∧ n ≤ 9223372036854775807) → Lim NN tI n:=fun n h=>h
 have hs:∀ s:Str,s.length ≤ 20001 → Lim NN .str s:=fun s h=>h
 refine ⟨hi 1 (by decide),⟨hi 2 (by decide),⟨by show 1 ≤ 20001; decide,fun x hx=>?_⟩,trivial⟩,hs [98,97] (by decide),hs [97,98] (by decide),hi 0 (by decide),⟨by show 1 ≤ 20001; decide,fun x hx=>?_⟩,⟨hs [] (by decide),h0,trivial⟩,⟨hi 0 (by decide),hi 0 (by decide),h0,h0,trivial⟩,h0,⟨⟨hi 0 (by decide),h0,trivial⟩,hi 0 (by decide),h0,trivial⟩,
  ⟨⟨hi 0 (by decide),h0,trivial⟩,⟨hi 0 (by decide),hi 0 (by decide),h0,h0,trivial⟩,h0,h0,h0,h0,trivial⟩,trivial⟩
 ·have hx:x ∈ [[97,98,65,66]]:=hx
  have hx:x = [97,98,65,66]:=by simpa using hx
  subst hx
  exact hs _ (by decide)
 ·have hx:x ∈ [([],0,inv,())]:=hx
  have hx:x = ([],0,inv,()):=by simpa using hx
  subst hx
  exact ⟨hs [] (by decide),hi 0 (by decide),trivial,trivial⟩
theorem w_ex:∀ inv:Bool,writable (exC inv) = true:=by intro inv; cases inv <;> kernel_rfl
def VerR (inv:Bool) (w:World) (e:Ending) (w':World):Prop:=e = .returned (.int .i64 (if inv then 0 else 281)) ∧ Chg Nil w w'
theorem callR_bool {f:FuncId} {args:Array Value} {w:World} {K:Value → World → Prop} {Kp:List PanicEntry → World → Prop} (h:CallT Tryz.prog f args (.sc .bool) w (fun x w'=>K (.bool x) w') Kp):CallR Tryz.prog 4 f args w K Kp:=by
 have h4:Tryz.prog.underlying 4 = some .bool:=by kernel_rfl
 have h5:tyOf Tryz.prog 4 = .sc .bool:=by kernel_rfl
 unfold CallR
 rw [h4]
 dsimp only
 rw [h5]
 exact h
theorem verify_ok (inv:Bool) {w:World} (hg:GOk w) {x:ClmV} (hr:Rp (allP w) w claimT (exC inv) (x.cs (exC inv)).toList) (hx:x.R (allP w) w (exC inv)):Calls Tryz.prog 36 #[.agg (x.cs (exC inv))] w (VerR inv w):=by
 have hl:=lim_ex inv
 obtain ⟨c,hc⟩:∃ c,c = exC inv:=⟨_,rfl⟩
 have hpres:c.2.1 = (2,[[97,98,65,66]],()):=by rw [hc]; rfl
 have hu2:c.2.2.1 = [98,97]:=by rw [hc]; rfl
 have hv2:c.2.2.2.1 = [97,98]:=by rw [hc]; rfl
 have hk1:c.1 = 1:=by rw [hc]; rfl
 have hwr:writable c = true:=by rw [hc]; exact w_ex inv
 rw [← hc] at hr hx hl ⊢
 refine cert_Verify.calls c.1 c.2.1.1 x.r x.u x.v c.2.2.2.2.1 x.d x.cj x.ring (cSep c).1 (cSep c).2.1 x.si x.sp x.im (cMap c).1.1 x.mr (cMap c).2.1 x.mi (cStr c).1.1 x.s.r (cStr c).2.1.1 (cStr c).2.1.2.1 x.s.acc x.s.nx x.s.mu x.s.df x.s.st x.s.en ?_
 unfold cert_Verify.sh
 have at_:∀ {W:World},Chg Nil w W → Rp (allP W) W claimT c (x.cs c).toList:=fun h=>hr.ext fun g o hgo=>⟨Nat.lt_of_lt_of_le hgo h.size,World.cell?_of_block (h.block g hgo fun h=>h)⟩
 refine New.mk fun b1 W1 hb1 hn1 hs1 hc1=>?_
 have ld:∀ {W:World} {t:TypeId},∀ b,W.heap[b]? = some (.cells (x.cs c) t (0,0)) → ∀ (k:Nat) u,(x.cs c)[k]? = some u → W.cell? ((Addr.mk b 0 none).add k) = some u:=fun b h k u hu=>by rw [cellOf h]; exact hu
 refine LoadT.mk (.agg [.int .i64,.int .i64,.sl,.str,.str,.int .i64,.sl,.str,.sl,.int .i64,.int .i64,.sl,.sl,.sl,.int .i64,.sl,.int .i64,.sl,.int .i64,.sl,.int .i64,.int .i64,.sl,.sl,.sl,.sl,.sl,.sl]) (x:=(c.1,c.2.1.1,x.r,x.u,x.v,c.2.2.2.2.1,x.d,x.cj,x.ring,(cSep c).1,(cSep c).2.1,x.si,x.sp,x.im,(cMap c).1.1,x.mr,(cMap c).2.1,x.mi,(cStr c).1.1,x.s.r,(cStr c).2.1.1,(cStr c).2.1.2.1,x.s.acc,x.s.nx,x.s.mu,x.s.df,x.s.st,x.s.en,())) (fun k u hu=>ld b1 hn1 k u (by rw [← Array.getElem?_toList]; exact hu)) ?_
 refine writable_call (gok_chg hg hc1) hl (at_ hc1) fun W2 hc2=>?_
 rw [hwr]
 refine Br.mk (fun h=>(by cases h)) (fun _=>?_)
 have h12:=hc2.heap hn1 fun h=>h
 have hcw2:=hc1.then hc2
 refine LoadT.mk (.agg [.int .i64,.int .i64,.sl,.str,.str,.int .i64,.sl,.str,.sl,.int .i64,.int .i64,.sl,.sl,.sl,.int .i64,.sl,.int .i64,.sl,.int .i64,.sl,.int .i64,.int .i64,.sl,.sl,.sl,.sl,.sl,.sl]) (x:=(c.1,c.2.1.1,x.r,x.u,x.v,c.2.2.2.2.1,x.d,x.cj,x.ring,(cSep c).1,(cSep c).2.1,x.si,x.sp,x.im,(cMap c).1.1,x.mr,(cMap c).2.1,x.mi,(cStr c).1.1,x.s.r,(cStr c).2.1.1,(cStr c).2.1.2.1,x.s.acc,x.s.nx,x.s.mu,x.s.df,x.s.st,x.s.en,())) (fun k u hu=>ld b1 h12 k u (by rw [← Array.getElem?_toList]; exact hu)) ?_
 refine New.mk fun b8 W3 hb8 hn8 hs8 hc3=>?_
 refine StoreN.whole (vs:=(x.cs c).toList) hn8 rfl fun W4 h84 hc4 hs4=>?_
 have hbne:b1 ≠ b8:=by have:=hc2.size; omega
 have h14:=hc4.heap (hc3.heap h12 fun h=>h) fun e=>hbne e
 have hcw4:Chg Nil w W4:=(hcw2.then hc3).trans hc4 (fun _ _ h=>h) fun i hi e=>by have e:i = b8:=e; have:=hcw2.size; omega
 have h84:W4.heap[b8]? = some (.cells (x.cs c) 125 (0,0)):=h84
 refine LoadT.mk (.agg [.int .i64,.sl]) (x:=(c.2.1.1,x.r,())) (fun k u hu=>?_) ?_
 ·rw [mk_add,mk_add]
  have:=ld b1 h14 (k + 1) u (by
   rcases k with _ | _ | k
   ·simpa [Ty.cells,vals,ClmV.cs] using hu
   ·simpa [Ty.cells,vals,ClmV.cs] using hu
   ·simp [Ty.cells,vals] at hu)
  rw [mk_add] at this
  rw [show 0 + 1 + k = 0 + (k + 1) by omega]; exact this
 have hrels:Rp (allP W4) W4 tW [[97,98,65,66]] [x.r.v]:=by
  have h:=hx.r
  rw [hpres] at h
  exact h.ext fun g o hgo=>⟨Nat.lt_of_lt_of_le hgo hcw4.size,World.cell?_of_block (hcw4.block g hgo fun h=>h)⟩
 have hp1:c.2.1.1 = 2:=by rw [hpres]
 rw [hp1]
 refine Calls.mono (pcheck_ok (gok_chg hg hcw4) hrels) fun e W5 he=>?_
 obtain ⟨rfl,hc5⟩:=he
 refine ⟨0,rfl,?_⟩
 refine Br.mk (fun h=>(by cases h)) (fun _=>?_)
 have hcw5:=hcw4.then hc5
 have h15:=hc5.heap h14 fun h=>h
 have h85:=hc5.heap h84 fun h=>h
 have hus:x.u.size = 2:=by rw [size_of hx.u,hu2]; rfl
 have hvs:x.v.size = 2:=by rw [size_of hx.v,hv2]; rfl
 refine LoadT.sc (s:=.str) (x:=x.u) (ld b1 h15 3 _ rfl) ?_
 refine Br.mk (fun h=>absurd h (by rw [hus]; decide)) (fun _=>?_)
 refine LoadT.sc (s:=.str) (x:=x.v) (ld b1 h15 4 _ rfl) ?_
 refine Br.mk (fun h=>absurd h (by rw [hvs]; decide)) (fun _=>?_)
 refine LoadT.sc (s:=.int .i64) (x:=c.2.1.1) (by rw [add0]; exact ld b1 h15 1 _ rfl) ?_
 refine LoadT.sc (s:=.str) (x:=x.u) (ld b1 h15 3 _ rfl) ?_
 rw [hp1]
 refine Calls.mono (pc_int (ps:=[tI,.str]) (out:=[.any,.any]) (y:=0) (x:=(2,[98,97],())) (Wd.wcheck_pc 2 [98,97]) (fun a b h=>h) (vs:=[.int .i64 2,.string x.u]) ⟨[_],_,_,rfl,rfl,rfl,[_],_,_,rfl,⟨x.u,rfl,hx.u.trans hu2,by decide⟩,rfl,rfl⟩ (gok_chg hg hcw5)) fun e W6 he=>?_
 obtain ⟨rfl,hc6,_⟩:=he
 refine ⟨0,rfl,?_⟩
 refine Br.mk (fun h=>(by cases h)) (fun _=>?_)
 have hcw6:=hcw5.then hc6
 have h16:=hc6.heap h15 fun h=>h
 have h86:=hc6.heap h85 fun h=>h
 refine LoadT.sc (s:=.int .i64) (x:=c.2.1.1) (by rw [add0]; exact ld b1 h16 1 _ rfl) ?_
 refine LoadT.sc (s:=.str) (x:=x.v) (ld b1 h16 4 _ rfl) ?_
 rw [hp1]
 refine Calls.mono (pc_int (ps:=[tI,.str]) (out:=[.any,.any]) (y:=0) (x:=(2,[97,98],())) (Wd.wcheck_pc 2 [97,98]) (fun a b h=>h) (vs:=[.int .i64 2,.string x.v]) ⟨[_],_,_,rfl,rfl,rfl,[_],_,_,rfl,⟨x.v,rfl,hx.v.trans hv2,by decide⟩,rfl,rfl⟩ (gok_chg hg hcw6)) fun e W7 he=>?_
 obtain ⟨rfl,hc7,_⟩:=he
 refine ⟨0,rfl,?_⟩
 refine Br.mk (fun h=>(by cases h)) (fun _=>?_)
 have hcw7:=hcw6.then hc7
 have h17:=hc7.heap h16 fun h=>h
 have h87:=hc7.heap h86 fun h=>h
 have hd7:Chg Nil W7 W7.drew:=Chg.drew W7
 obtain ⟨S,hS⟩:∃ S:World → Prop,S = fun W=>W.heap[b1]? = some (.cells (x.cs c) 43 (0,0)) ∧ W.heap[b8]? = some (.cells (x.cs c) 125 (0,0)):=⟨_,rfl⟩
 have S1:∀ {W:World},S W → W.heap[b1]? = some (.cells (x.cs c) 43 (0,0)):=fun h=>by rw [hS] at h; exact h.1
 have S8:∀ {W:World},S W → W.heap[b8]? = some (.cells (x.cs c) 125 (0,0)):=fun h=>by rw [hS] at h; exact h.2
 have Sm:∀ {W W':World},S W → Chg Nil W W' → S W':=fun h hc=>by rw [hS] at h ⊢; exact ⟨hc.heap h.1 fun h=>h,hc.heap h.2 fun h=>h⟩
 have s7:S W7:=by rw [hS]; exact ⟨h17,h87⟩
 refine ⟨S,Sm s7 hd7,?_⟩
 refine LoadS.mk (.agg [.int .i64,.int .i64,.sl,.str,.str,.int .i64,.sl,.str,.sl,.int .i64,.int .i64,.sl,.sl,.sl,.int .i64,.sl,.int .i64,.sl,.int .i64,.sl,.int .i64,.int .i64,.sl,.sl,.sl,.sl,.sl,.sl]) (x:=(c.1,c.2.1.1,x.r,x.u,x.v,c.2.2.2.2.1,x.d,x.cj,x.ring,(cSep c).1,(cSep c).2.1,x.si,x.sp,x.im,(cMap c).1.1,x.mr,(cMap c).2.1,x.mi,(cStr c).1.1,x.s.r,(cStr c).2.1.1,(cStr c).2.1.2.1,x.s.acc,x.s.nx,x.s.mu,x.s.df,x.s.st,x.s.en,())) (fun W hW k u hu=>ld b1 (S1 hW) k u (by rw [← Array.getElem?_toList]; exact hu)) ?_
 refine LoadS.mk (.agg [.int .i64,.int .i64,.sl,.str,.str,.int .i64,.sl,.str,.sl,.int .i64,.int .i64,.sl,.sl,.sl,.int .i64,.sl,.int .i64,.sl,.int .i64,.sl,.int .i64,.int .i64,.sl,.sl,.sl,.sl,.sl,.sl]) (x:=(c.1,c.2.1.1,x.r,x.u,x.v,c.2.2.2.2.1,x.d,x.cj,x.ring,(cSep c).1,(cSep c).2.1,x.si,x.sp,x.im,(cMap c).1.1,x.mr,(cMap c).2.1,x.mi,(cStr c).1.1,x.s.r,(cStr c).2.1.1,(cStr c).2.1.2.1,x.s.acc,x.s.nx,x.s.mu,x.s.df,x.s.st,x.s.en,())) (fun W hW k u hu=>ld b8 (S8 hW) k u (by rw [← Array.getElem?_toList]; exact hu)) ?_
 have hcd7:=hcw7.then hd7
 have hpl:PC Tryz.prog 77 ⟨[.pv (.cons claimT .nil)],[.any],[.pv claimT]⟩ ((c,()),()) (fun y _=>y = (c,())) (fun _=>False):=by
  rw [hc]; cases inv
  ·exact plain_false
  ·exact plain_true
 refine Calls.mono (pc_pure (ps:=[.cons claimT .nil]) (rs:=[claimT]) hpl (vs:=[.agg (x.cs c)]) ⟨(x.cs c).toList ++ [],_,_,rfl,⟨_,[],rfl,at_ hcd7,rfl⟩,by rw [List.append_nil]; rfl,rfl⟩ (gok_chg hg hcd7)) fun e W8 he=>?_
 obtain ⟨A',y,z,us,rfl,rfl,⟨cs,v,vs',rfl,hq,hv,hvs'⟩,hc8,hg8,hlow8⟩:=he
 have hvs':vs' = []:=hvs'
 have hv:v = .agg cs.toArray:=hv
 subst hvs'; subst hv
 obtain ⟨x',rfl,hx'⟩:=clm_open hq
 refine ⟨(c.1,c.2.1.1,x'.r,x'.u,x'.v,c.2.2.2.2.1,x'.d,x'.cj,x'.ring,(cSep c).1,(cSep c).2.1,x'.si,x'.sp,x'.im,(cMap c).1.1,x'.mr,(cMap c).2.1,x'.mi,(cStr c).1.1,x'.s.r,(cStr c).2.1.1,(cStr c).2.1.2.1,x'.s.acc,x'.s.nx,x'.s.mu,x'.s.df,x'.s.st,x'.s.en,()),rfl,?_⟩
 have hcw8:=hcd7.then hc8
 have s8:=Sm (Sm s7 hd7) hc8
 refine ⟨S,fun _ h=>h,s8,?_⟩
 refine Calls.mono (pc_bool (ps:=[claimT,claimT]) (out:=[.any,.any]) (clm8_pc c c hl) (fun a b hq=>hq) (vs:=[.agg (x.cs c),.agg (x'.cs c)]) ⟨(x.cs c).toList,_,_,rfl,at_ hcw8,rfl,(x'.cs c).toList,_,_,rfl,rp_all hlow8 hq,rfl,rfl⟩ hg8) fun e W9 he=>?_
 obtain ⟨rfl,hc9,hg9⟩:=he
 refine ⟨_,rfl,?_⟩
 have hcw9:=hcw8.then hc9
 have s9:=Sm s8 hc9
 refine ⟨S,fun _ h=>h,s9,?_⟩
 refine Br.mk (fun h=>absurd h (by rw [decide_eq_true rfl]; decide)) (fun _=>?_)
 have hd9:Chg Nil W9 W9.drew:=Chg.drew W9
 refine ⟨S,Sm s9 hd9,?_⟩
 refine LoadS.sc (s:=.int .i64) (x:=c.1) (fun W hW=>ld b1 (S1 hW) 0 _ rfl) ?_
 refine LoadS.mk (.agg [.int .i64,.int .i64,.sl,.str,.str,.int .i64,.sl,.str,.sl,.int .i64,.int .i64,.sl,.sl,.sl,.int .i64,.sl,.int .i64,.sl,.int .i64,.sl,.int .i64,.int .i64,.sl,.sl,.sl,.sl,.sl,.sl]) (x:=(c.1,c.2.1.1,x.r,x.u,x.v,c.2.2.2.2.1,x.d,x.cj,x.ring,(cSep c).1,(cSep c).2.1,x.si,x.sp,x.im,(cMap c).1.1,x.mr,(cMap c).2.1,x.mi,(cStr c).1.1,x.s.r,(cStr c).2.1.1,(cStr c).2.1.2.1,x.s.acc,x.s.nx,x.s.mu,x.s.df,x.s.st,x.s.en,())) (fun W hW k u hu=>ld b8 (S8 hW) k u (by rw [← Array.getElem?_toList]; exact hu)) ?_
 refine Calls.mono (verifiers_ok W9.drew) fun e W10 he=>?_
 obtain ⟨m,l,rfl,hc10,hm,hmap⟩:=he
 refine ⟨some m,rfl,?_⟩
 have hcw10:=(hcw9.then hd9).then hc10
 have s10:=Sm (Sm s9 hd9) hc10
 refine ⟨fun W=>S W ∧ MapV W m ((1,.func (.func 117) #[] #[]) :: l),fun _ h=>h.1,⟨s10,hmap⟩,?_⟩
 refine ⟨.func (.func 117) #[] #[],fun W hW=>?_,?_⟩
 ·rw [hk1]; exact map_get hW.2
 have hent:enters Tryz.prog 117 = true:=by kernel_rfl
 dsimp only
 rw [hent,cond_true,Array.empty_append,Array.append_empty]
 refine callR_bool ?_
 have hpe:PC Tryz.prog 117 ⟨[.pv (.cons claimT .nil)],[.any],[.pv .bool]⟩ ((c,()),()) (fun y _=>y = (inv,())) (fun _=>False):=by
  rw [hc]; cases inv
  ·exact equal_false
  ·exact equal_true
 refine Calls.mono (pc_bool (ps:=[.cons claimT .nil]) (out:=[.any]) hpe (fun a b h=>congrArg Prod.fst h) (vs:=[.agg (x.cs c)]) ⟨(x.cs c).toList ++ [],_,_,rfl,⟨_,[],rfl,at_ hcw10,rfl⟩,by rw [List.append_nil]; rfl,rfl⟩ (gok_chg hg hcw10)) fun e W11 he=>?_
 obtain ⟨rfl,hc11,hg11⟩:=he
 refine ⟨inv,rfl,?_⟩
 have hcw11:=hcw10.then hc11
 refine ⟨fun W=>S W ∧ MapV W m ((1,.func (.func 117) #[] #[]) :: l),fun _ h=>h,⟨Sm s10 hc11,?_⟩,?_⟩
 ·obtain ⟨es,ck,k1,k2⟩:=hmap
  exact ⟨es,ck,hc11.heap k1 fun h=>h,k2⟩
 ·cases inv
  ·exact Br.mk (fun _=>⟨rfl,hcw11⟩) (fun h=>(by cases h))
  ·exact Br.mk (fun h=>(by cases h)) (fun _=>⟨rfl,hcw11⟩)
end Go.Proofs.YtpifnlfmojfgpaaGreatDoor.Sn
end
section
set_option maxRecDepth 20000
set_option maxHeartbeats 4000000
namespace Go.Proofs.YtpifnlfmojfgpaaGreatDoor.Sn
open Fw Pw Ct Rk Pk
def exT:Str:=[99,108,97,105,109,32,101,113,117,97,108,10,103,101,110,115,32,50,10,114,101,108,32,97,98,65,66,10,117,32,98,97,10,118,32,97,98,10,99,101,108,108,32,45,32,48,32,49,10,100,111,110,101,10]
def badT:Str:=[99,108,97,105,109,32,101,113,117,97,108,10,103,101,110,115,32,48,50,10,100,111,110,101,10]
theorem ex_text:textL (linesC (exC true)) = exT:=by kernel_rfl
theorem bad_text:claimS (linesF badT).1 = none:=by kernel_rfl
theorem is_ex:IsText exT (exC true):=⟨lim_ex true,w_ex true,ex_text⟩
theorem is_one {t:Str} {c c':Clm} (h:IsText t c) (h':IsText t c'):c = c':=by
 have h1:=h.lines.symm.trans h'.lines
 have h2:linesC c = linesC c':=(Prod.mk.inj h1).1
 have h3:=h.read
 rw [h2,h'.read] at h3
 exact (Option.some.inj h3).symm
theorem is_bad (c:Clm):¬ IsText badT c:=fun h=>by
 have h1:(linesF badT).1 = linesC c:=by rw [h.lines]
 have h2:=h.read
 rw [← h1,bad_text] at h2
 cases h2
theorem read_ex:PC Tryz.prog 11 sg11 (exT,()) (fun y _=>y = (exC true,0,())) (fun _=>False):=q_of (pread_pc exT (by decide)) fun y z h=>by
 rcases h with ⟨c,h1,rfl⟩ | ⟨h1,_⟩
 ·rw [is_one h1 is_ex]
 ·exact absurd is_ex (h1 _)
theorem read_bad:PC Tryz.prog 11 sg11 (badT,()) (fun y _=>y = (zeroClm,280,())) (fun _=>False):=q_of (pread_pc badT (by decide)) fun y z h=>by
 rcases h with ⟨c,h1,rfl⟩ | ⟨_,h1⟩
 ·exact absurd h1 (is_bad c)
 ·exact h1
theorem text_ex:PC Tryz.prog 6 sg6 (exC true,()) (fun y _=>y = (exT,0,())) (fun _=>False):=q_of (text_pc (exC true) (lim_ex true)) fun y z h=>by
 rw [show y = textR (exC true) from h]
 unfold textR
 rw [w_ex,if_pos rfl,ex_text,if_pos (by decide)]
def sg36:Sig:=⟨[.pv claimT],[.any],[iA]⟩
theorem verify_pc (inv:Bool):PC Tryz.prog 36 sg36 (exC inv,()) (fun y _=>y = ((if inv then 0 else 281),())) (fun _=>False):=by
 refine pc_mk (ps:=[claimT]) (rs:=[tI]) (x:=(exC inv,())) (Q:=fun y _=>y = ((if inv then 0 else 281),())) (by kernel_rfl) fun A w vs hp hlow hg=>?_
 obtain ⟨us,v,vs',rfl,hr,hv,hvs⟩:=hp
 have hvs:vs' = []:=hvs
 have hv:v = .agg us.toArray:=hv
 subst hvs; subst hv
 have hr':=rp_all hlow hr
 obtain ⟨x,rfl,hx⟩:=clm_open hr'
 refine (verify_ok inv hg hr' hx).mono fun e w' he=>?_
 obtain ⟨rfl,hc⟩:=he
 exact ⟨A,((if inv then 0 else 281),()),[.int .i64 (if inv then 0 else 281)],rfl,rfl,⟨[_],_,_,rfl,rfl,rfl,rfl⟩,hc,fun _ _ h=>h,fun g o h=>.inl h⟩
theorem verify_t:PC Tryz.prog 36 sg36 (exC true,()) (fun y _=>y = (0,())) (fun _=>False):=verify_pc true
theorem verify_f:PC Tryz.prog 36 sg36 (exC false,()) (fun y _=>y = (281,())) (fun _=>False):=verify_pc false
theorem same_tt:PC Tryz.prog 8 sg8 (exC true,exC true,()) (fun y _=>y = (true,())) (fun _=>False):=q_of (clm8_pc (exC true) (exC true) (lim_ex true)) fun y z h=>by
 obtain ⟨a,b⟩:=y
 have h:a = decide (exC true = exC true):=h
 rw [h,decide_eq_true rfl]
theorem ex_ne:exC true ≠ exC false:=fun h=>by
 have h1:[(([]:Str),(0:Int),true,())] = [([],0,false,())]:=congrArg (fun c:Clm=>c.2.2.2.2.2.1) h
 cases h1
theorem same_tf:PC Tryz.prog 8 sg8 (exC true,exC false,()) (fun y _=>y = (false,())) (fun _=>False):=q_of (clm8_pc (exC true) (exC false) (lim_ex true)) fun y z h=>by
 obtain ⟨a,b⟩:=y
 have h:a = decide (exC true = exC false):=h
 rw [h,decide_eq_false ex_ne]
noncomputable def a37:FAnn:={}
def sg37:Sig:=⟨[sA],[.any],[iA]⟩
def sg10:Sig:=⟨[],[],[bA]⟩
noncomputable def a10:FAnn where
 sched:=fun | 4=>runS [(0,false),(1,false),(2,false),(3,false),(4,false),(5,false),(6,false),(7,false),(8,false),(9,false),(10,false),(11,false),(12,false),(13,true),(14,false),(15,false),(16,false),(17,false),(18,true),(19,false),(20,false),(21,false),(22,false),(23,true),(24,false),(25,false),(26,false),(27,true),(28,true),(29,false),(30,false),(31,false),(32,false),(33,true),(34,false),(35,false),(36,false),(37,false),(38,false),(39,false),(40,false)] .fin | _=>.fin
theorem vtext_ex:PC Tryz.prog 37 sg37 (exT,()) (fun y _=>y = (0,())) (fun _=>False):=by
 refine PC.of a37 [(11,sg11),(36,sg36)] (by kernel_rfl) ?_
 repeat (first
  | refine BrP.yes rfl ?_
  | refine BrP.no rfl ?_
  | refine LenL.mk fun _=>?_
  | refine SameV.mk rfl ?_
  | (refine CallP.mk _ _ read_ex ?_ (fun p h=>h.elim); rintro y z rfl)
  | (refine CallP.mk _ _ verify_t ?_ (fun p h=>h.elim); rintro y z rfl))
 exact rfl
theorem sane_pc:PC Tryz.prog 10 sg10 () (fun y _=>y = (true,())) (fun _=>False):=by
 refine PC.of a10 [(35,sg35),(6,sg6),(11,sg11),(8,sg8),(36,sg36),(37,sg37)] (by kernel_rfl) ?_
 repeat (first
  | refine BrP.yes rfl ?_
  | refine BrP.no rfl ?_
  | refine LenL.mk fun _=>?_
  | refine SameV.mk rfl ?_
  | (refine CallP.mk _ _ example_true ?_ (fun p h=>h.elim); rintro y z rfl)
  | (refine CallP.mk _ _ example_false ?_ (fun p h=>h.elim); rintro y z rfl)
  | (refine CallP.mk _ _ text_ex ?_ (fun p h=>h.elim); rintro y z rfl)
  | (refine CallP.mk _ _ read_ex ?_ (fun p h=>h.elim); rintro y z rfl)
  | (refine CallP.mk _ _ read_bad ?_ (fun p h=>h.elim); rintro y z rfl)
  | (refine CallP.mk _ _ same_tt ?_ (fun p h=>h.elim); rintro y z rfl)
  | (refine CallP.mk _ _ same_tf ?_ (fun p h=>h.elim); rintro y z rfl)
  | (refine CallP.mk _ _ verify_t ?_ (fun p h=>h.elim); rintro y z rfl)
  | (refine CallP.mk _ _ verify_f ?_ (fun p h=>h.elim); rintro y z rfl)
  | (refine CallP.mk _ _ vtext_ex ?_ (fun p h=>h.elim); rintro y z rfl))
 exact rfl
end Go.Proofs.YtpifnlfmojfgpaaGreatDoor.Sn
end
