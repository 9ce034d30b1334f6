/- Parts of a proof, laid one behind the other by our own merge.py: Sh0 PkRdEnd Sh3 PkRdC PwFw PkCell PkFront. -/
import Derived.Test.YtpifnlfmojfgpaaGreatDoorCr2
import Derived.Test.YtpifnlfmojfgpaaGreatDoorProg
import Derived.KernelRfl
import Derived.Test.YtpifnlfmojfgpaaGreatDoorCr6
import Derived.Recover
import Derived.DefersIn
set_option linter.unusedVariables false
set_option linter.unusedSimpArgs false
section
set_option maxRecDepth 10000
namespace Go.Proofs.YtpifnlfmojfgpaaGreatDoor
open Fw
theorem mixed:Tryz.prog.follows .mixedOrders = true:=by kernel_rfl
noncomputable def cert_number.ann:Ann where
 loops:=fun | _=>[]
 joins:=fun | _=>none
noncomputable def cert_number.body:Code:=match Tryz.f163.body with | some c=>c | none=>.skip
def cert_number.sh (p0:ByteArray) (R:Ending → World → Prop) (w:World):Prop:=
 CallN Tryz.prog 201 #[(.string p0)] [.sc (.int .i64),.sc .raw] w (fun r1 w2=>
  binW Tryz.prog .eql 69 (.tmp 10) (.const Value.nilIface) r1.2.1 Value.nilIface (fun v4=>
   CallN Tryz.prog 80 #[v4] [] w2 (fun r8 w9=>
    R (.returned (.int .i64 r1.1)) w9) (fun h10 w9=>R (.panicked h10) w9)) (fun s6=>RunR Tryz.prog 4 s6 w2 fun v5 w7=>
   CallN Tryz.prog 80 #[v5] [] w7 (fun r11 w12=>
    R (.returned (.int .i64 r1.1)) w12) (fun h13 w12=>R (.panicked h13) w12))) (fun h3 w2=>R (.panicked h3) w2)
theorem cert_number.calls (p0:ByteArray) {R:Ending → World → Prop} {w:World} (h:cert_number.sh p0 R w):Calls Tryz.prog 163 #[(.string p0)] w R:=calls_of_wpc mixed Tryz.func163 (by kernel_rfl) (by kernel_rfl) ((show _ = wpc Tryz.prog cert_number.ann cert_number.body (fnKs Tryz.prog Tryz.f163 R) [] (env0 #[(.string p0)]) w by kernel_rfl).mp h)
noncomputable def cert_kinds.ann:Ann where
 loops:=fun | _=>[]
 joins:=fun | _=>none
noncomputable def cert_kinds.body:Code:=match Tryz.f46.body with | some c=>c | none=>.skip
def cert_kinds.sh  (R:Ending → World → Prop) (w:World):Prop:=
 New w (.cells #[(.string (ByteArray.mk #[])),(.string (ByteArray.mk #[101,113,117,97,108])),(.string (ByteArray.mk #[117,110,101,113,117,97,108])),(.string (ByteArray.mk #[100,105,102,102,101,114,101,110,116])),(.string (ByteArray.mk #[99,111,110,106,117,103,97,116,101])),(.string (ByteArray.mk #[115,101,112,97,114,97,116,101])),(.string (ByteArray.mk #[105,110,102,105,110,105,116,101])),(.string (ByteArray.mk #[115,116,114,117,99,116,117,114,101])),(.string (ByteArray.mk #[111,114,100,101,114])),(.string (ByteArray.mk #[115,105,122,101]))] 9) fun b1 w2=>
 R (.returned (.slice (some (Addr.mk b1 0 none)) 10 10)) w2
theorem cert_kinds.calls  {R:Ending → World → Prop} {w:World} (h:cert_kinds.sh  R w):Calls Tryz.prog 46 #[] w R:=calls_of_wpc mixed Tryz.func46 (by kernel_rfl) (by kernel_rfl) ((show _ = wpc Tryz.prog cert_kinds.ann cert_kinds.body (fnKs Tryz.prog Tryz.f46 R) [] (env0 #[]) w by kernel_rfl).mp h)
noncomputable def word_Index.ann:Ann where
 loops:=fun | 2=>[(0,.sc (.int .u8)),(5,.agg [.int .u8,.int .u8,.int .u8,.int .u8,.int .u8,.int .u8,.int .u8,.int .u8,.int .u8,.int .u8,.int .u8,.int .u8,.int .u8,.int .u8,.int .u8,.int .u8]),(6,.sc (.int .i64))] | _=>[]
 joins:=fun | _=>none
noncomputable def word_Index.body:Code:=match Tryz.f116.body with | some c=>c | none=>.skip
def word_Index.sh (p0:Int) (R:Ending → World → Prop) (w:World):Prop:=
 LoadT (.agg [.int .u8,.int .u8,.int .u8,.int .u8,.int .u8,.int .u8,.int .u8,.int .u8,.int .u8,.int .u8,.int .u8,.int .u8,.int .u8,.int .u8,.int .u8,.int .u8]) w (Addr.mk 0 0 none) fun x1=>
 LoopT (σ:=Int × (Int × Int × Int × Int × Int × Int × Int × Int × Int × Int × Int × Int × Int × Int × Int × Int × Unit) × Int × Unit) (p0,(x1.1,x1.2.1,x1.2.2.1,x1.2.2.2.1,x1.2.2.2.2.1,x1.2.2.2.2.2.1,x1.2.2.2.2.2.2.1,x1.2.2.2.2.2.2.2.1,x1.2.2.2.2.2.2.2.2.1,x1.2.2.2.2.2.2.2.2.2.1,x1.2.2.2.2.2.2.2.2.2.2.1,x1.2.2.2.2.2.2.2.2.2.2.2.1,x1.2.2.2.2.2.2.2.2.2.2.2.2.1,x1.2.2.2.2.2.2.2.2.2.2.2.2.2.1,x1.2.2.2.2.2.2.2.2.2.2.2.2.2.2.1,x1.2.2.2.2.2.2.2.2.2.2.2.2.2.2.2.1,()),0,()) w fun l2 g3 w4 I5=>
  Br (decide ((l2.2.2.1:Int) < 16))
   (RunT Tryz.prog (.sc (.int .u8)) (Instr.index 183 (.agg #[(.int .u8 l2.2.1.1),(.int .u8 l2.2.1.2.1),(.int .u8 l2.2.1.2.2.1),(.int .u8 l2.2.1.2.2.2.1),(.int .u8 l2.2.1.2.2.2.2.1),(.int .u8 l2.2.1.2.2.2.2.2.1),(.int .u8 l2.2.1.2.2.2.2.2.2.1),(.int .u8 l2.2.1.2.2.2.2.2.2.2.1),(.int .u8 l2.2.1.2.2.2.2.2.2.2.2.1),(.int .u8 l2.2.1.2.2.2.2.2.2.2.2.2.1),(.int .u8 l2.2.1.2.2.2.2.2.2.2.2.2.2.1),(.int .u8 l2.2.1.2.2.2.2.2.2.2.2.2.2.2.1),(.int .u8 l2.2.1.2.2.2.2.2.2.2.2.2.2.2.2.1),(.int .u8 l2.2.1.2.2.2.2.2.2.2.2.2.2.2.2.2.1),(.int .u8 l2.2.1.2.2.2.2.2.2.2.2.2.2.2.2.2.2.1),(.int .u8 l2.2.1.2.2.2.2.2.2.2.2.2.2.2.2.2.2.2.1)]) (.int .i64 l2.2.2.1)) w4 fun r6 w7=>
   Br ((r6:Int) == l2.1)
    (R (.returned (.int .i64 l2.2.2.1)) w7)
    (I5 (l2.1,(l2.2.1.1,l2.2.1.2.1,l2.2.1.2.2.1,l2.2.1.2.2.2.1,l2.2.1.2.2.2.2.1,l2.2.1.2.2.2.2.2.1,l2.2.1.2.2.2.2.2.2.1,l2.2.1.2.2.2.2.2.2.2.1,l2.2.1.2.2.2.2.2.2.2.2.1,l2.2.1.2.2.2.2.2.2.2.2.2.1,l2.2.1.2.2.2.2.2.2.2.2.2.2.1,l2.2.1.2.2.2.2.2.2.2.2.2.2.2.1,l2.2.1.2.2.2.2.2.2.2.2.2.2.2.2.1,l2.2.1.2.2.2.2.2.2.2.2.2.2.2.2.2.1,l2.2.1.2.2.2.2.2.2.2.2.2.2.2.2.2.2.1,l2.2.1.2.2.2.2.2.2.2.2.2.2.2.2.2.2.2.1,()),(IntKind.wrap .i64 (l2.2.2.1 + 1)),()) w7))
   (R (.returned (.int .i64 (-1))) w4)
theorem word_Index.calls (p0:Int) {R:Ending → World → Prop} {w:World} (h:word_Index.sh p0 R w):Calls Tryz.prog 116 #[(.int .u8 p0)] w R:=calls_of_wpc mixed Tryz.func116 (by kernel_rfl) (by kernel_rfl) ((show _ = wpc Tryz.prog word_Index.ann word_Index.body (fnKs Tryz.prog Tryz.f116 R) [] (env0 #[(.int .u8 p0)]) w by kernel_rfl).mp h)
noncomputable def word_Check_c1.ann:Ann where
 loops:=fun | _=>[]
 joins:=fun | _=>none
noncomputable def word_Check_c1.body:Code:=match Tryz.f115.body with | some c=>c | none=>.skip
def word_Check_c1.sh (p0:Int) (q0:Addr) (R:Ending → World → Prop) (w:World):Prop:=
 ∃ S1:World → Prop,S1 w.drew ∧
 (Br (decide ((p0:Int) > 127))
  (R (.returned (.bool true)) w.drew)
  (∃ r2:Ty.den (.sc (.int .u8)),(∀ w3,S1 w3 → (convert 21 5 (.int .i32 p0)).run Tryz.prog w3 = .ok (Ty.val (.sc (.int .u8)) r2) w3) ∧
  CallT Tryz.prog 116 #[(.int .u8 r2)] (.sc (.int .i64)) w.drew (fun r4 w5=>
    ∃ S7:World → Prop,(∀ w,S7 w → S1 w) ∧ S7 w5 ∧
    (Br (decide ((r4:Int) < 0))
     (R (.returned (.bool true)) w5)
     (∃ r8:Ty.den (.sc (.int .u8)),(∀ w9,S7 w9 → (convert 21 5 (.int .i32 p0)).run Tryz.prog w9 = .ok (Ty.val (.sc (.int .u8)) r8) w9) ∧
     LoadS S7 (.sc (.int .i64)) q0 fun x10=>
     CallT Tryz.prog 116 #[(.int .u8 r8)] (.sc (.int .i64)) w5 (fun r11 w12=>
       ∃ S14:World → Prop,(∀ w,S14 w → S7 w) ∧ S14 w12 ∧
       (R (.returned (.bool (decide ((r11:Int) ≥ (IntKind.wrap .i64 (2 * x10)))))) w12)) (fun h13 w12=>R (.panicked h13) w12)))) (fun h6 w5=>R (.panicked h6) w5)))
theorem word_Check_c1.calls (p0:Int) (q0:Addr) {R:Ending → World → Prop} {w:World} (h:word_Check_c1.sh p0 q0 R w):Calls Tryz.prog 115 #[(.int .i32 p0),(.pointer (some q0))] w R:=calls_of_wpc mixed Tryz.func115 (by kernel_rfl) (by kernel_rfl) ((show _ = wpc Tryz.prog word_Check_c1.ann word_Check_c1.body (fnKs Tryz.prog Tryz.f115 R) [] (env0 #[(.int .i32 p0),(.pointer (some q0))]) w by kernel_rfl).mp h)
noncomputable def strings_indexFunc.ann:Ann where
 loops:=fun | 2=>[(1,.sc (.clo 115 1)),(2,.sc .bool),(10,.sc .adr)] | _=>[]
 joins:=fun | _=>none
noncomputable def strings_indexFunc.body:Code:=match Tryz.f166.body with | some c=>c | none=>.skip
def strings_indexFunc.sh (p0:ByteArray) (p1_0:Addr) (p2:Bool) (R:Ending → World → Prop) (w:World):Prop:=
 RunT Tryz.prog (.sc .adr) (Instr.range 9 (.string p0)) w fun r1 w2=>
 LoopT (σ:=(Addr × Unit) × Bool × Addr × Unit) ((p1_0,()),p2,r1,()) w2 fun l3 g4 w5 I6=>
  NextT Tryz.prog (Instr.next (.pointer (some l3.2.2.1)) true 0) w5 (fun w7=>
   Br false
    (False)
    (R (.returned (.int .i64 (-1))) w7))
   (RunN Tryz.prog [.sc .bool,.sc (.int .i64),.sc (.int .i32)] (Instr.next (.pointer (some l3.2.2.1)) true 0) w5 fun r8 w9=>
   Br r8.1
    (CallT Tryz.prog 115 #[(.int .i32 r8.2.2.1),(.pointer (some l3.1.1))] (.sc .bool) w9 (fun r10 w11=>
     Br (r10 == l3.2.1)
      (R (.returned (.int .i64 r8.2.1)) w11)
      (I6 ((l3.1.1,()),l3.2.1,l3.2.2.1,()) w11)) (fun h12 w11=>R (.panicked h12) w11))
    (R (.returned (.int .i64 (-1))) w9))
theorem strings_indexFunc.calls (p0:ByteArray) (p1_0:Addr) (p2:Bool) {R:Ending → World → Prop} {w:World} (h:strings_indexFunc.sh p0 p1_0 p2 R w):Calls Tryz.prog 166 #[(.string p0),(.func (.func 115) #[] #[(.pointer (some p1_0))]),(.bool p2)] w R:=calls_of_wpc mixed Tryz.func166 (by kernel_rfl) (by kernel_rfl) ((show _ = wpc Tryz.prog strings_indexFunc.ann strings_indexFunc.body (fnKs Tryz.prog Tryz.f166 R) [] (env0 #[(.string p0),(.func (.func 115) #[] #[(.pointer (some p1_0))]),(.bool p2)]) w by kernel_rfl).mp h)
noncomputable def strings_IndexFunc.ann:Ann where
 loops:=fun | _=>[]
 joins:=fun | _=>none
noncomputable def strings_IndexFunc.body:Code:=match Tryz.f146.body with | some c=>c | none=>.skip
def strings_IndexFunc.sh (p0:ByteArray) (p1_0:Addr) (R:Ending → World → Prop) (w:World):Prop:=
 CallT Tryz.prog 166 #[(.string p0),(.func (.func 115) #[] #[(.pointer (some p1_0))]),(.bool true)] (.sc (.int .i64)) w (fun r1 w2=>
  R (.returned (.int .i64 r1)) w2) (fun h3 w2=>R (.panicked h3) w2)
theorem strings_IndexFunc.calls (p0:ByteArray) (p1_0:Addr) {R:Ending → World → Prop} {w:World} (h:strings_IndexFunc.sh p0 p1_0 R w):Calls Tryz.prog 146 #[(.string p0),(.func (.func 115) #[] #[(.pointer (some p1_0))])] w R:=calls_of_wpc mixed Tryz.func146 (by kernel_rfl) (by kernel_rfl) ((show _ = wpc Tryz.prog strings_IndexFunc.ann strings_IndexFunc.body (fnKs Tryz.prog Tryz.f146 R) [] (env0 #[(.string p0),(.func (.func 115) #[] #[(.pointer (some p1_0))])]) w by kernel_rfl).mp h)
noncomputable def strings_ContainsFunc.ann:Ann where
 loops:=fun | _=>[]
 joins:=fun | _=>none
noncomputable def strings_ContainsFunc.body:Code:=match Tryz.f114.body with | some c=>c | none=>.skip
def strings_ContainsFunc.sh (p0:ByteArray) (p1_0:Addr) (R:Ending → World → Prop) (w:World):Prop:=
 CallT Tryz.prog 146 #[(.string p0),(.func (.func 115) #[] #[(.pointer (some p1_0))])] (.sc (.int .i64)) w (fun r1 w2=>
  R (.returned (.bool (decide ((r1:Int) ≥ 0)))) w2) (fun h3 w2=>R (.panicked h3) w2)
theorem strings_ContainsFunc.calls (p0:ByteArray) (p1_0:Addr) {R:Ending → World → Prop} {w:World} (h:strings_ContainsFunc.sh p0 p1_0 R w):Calls Tryz.prog 114 #[(.string p0),(.func (.func 115) #[] #[(.pointer (some p1_0))])] w R:=calls_of_wpc mixed Tryz.func114 (by kernel_rfl) (by kernel_rfl) ((show _ = wpc Tryz.prog strings_ContainsFunc.ann strings_ContainsFunc.body (fnKs Tryz.prog Tryz.f114 R) [] (env0 #[(.string p0),(.func (.func 115) #[] #[(.pointer (some p1_0))])]) w by kernel_rfl).mp h)
noncomputable def word_Check.ann:Ann where
 loops:=fun | _=>[]
 joins:=fun | 2=>some [(1,.sc .str),(2,.sc .adr),(5,.sc .bool)] | _=>none
noncomputable def word_Check.body:Code:=match Tryz.f76.body with | some c=>c | none=>.skip
def word_Check.sh (p0:Int) (p1:ByteArray) (R:Ending → World → Prop) (w:World):Prop:=
 New w (.cells #[(.int .i64 p0)] 3) fun b1 w2=>
 Join (σ:=ByteArray × Addr × Bool × Unit) (fun j5 g4 w8=>
  Br j5.2.2.1
   (R (.returned (.int .i64 1)) w8)
   (Br (decide ((((j5.1.size:Nat):Int):Int) > 100000))
    (R (.returned (.int .i64 2)) w8)
    (CallT Tryz.prog 114 #[(.string j5.1),(.func (.func 115) #[] #[(.pointer (some j5.2.1))])] (.sc .bool) w8 (fun r9 w10=>
     Br r9
      (R (.returned (.int .i64 4)) w10)
      (R (.returned (.int .i64 0)) w10)) (fun h11 w10=>R (.panicked h11) w10)))) fun J3=>
  LoadT (.sc (.int .i64)) w2 (Addr.mk b1 0 none) fun x6=>
  Br (decide ((x6:Int) < 1))
   (J3 (p1,(Addr.mk b1 0 none),true,()) w2)
   (LoadT (.sc (.int .i64)) w2 (Addr.mk b1 0 none) fun x7=>
   J3 (p1,(Addr.mk b1 0 none),(decide ((x7:Int) > 8)),()) w2)
theorem word_Check.calls (p0:Int) (p1:ByteArray) {R:Ending → World → Prop} {w:World} (h:word_Check.sh p0 p1 R w):Calls Tryz.prog 76 #[(.int .i64 p0),(.string p1)] w R:=calls_of_wpc mixed Tryz.func76 (by kernel_rfl) (by kernel_rfl) ((show _ = wpc Tryz.prog word_Check.ann word_Check.body (fnKs Tryz.prog Tryz.f76 R) [] (env0 #[(.int .i64 p0),(.string p1)]) w by kernel_rfl).mp h)
noncomputable def strings_splitSeq_c1.ann:Ann where
 loops:=fun | 1=>[(0,.sc .yld),(2,.sc .adr)] | 5=>[(0,.sc .yld),(1,.sc .adr),(2,.sc .adr),(3,.sc .adr)] | _=>[]
 joins:=fun | _=>none
noncomputable def strings_splitSeq_c1.body:Code:=match Tryz.f158.body with | some c=>c | none=>.skip
def strings_splitSeq_c1.sh (p0:Nat) (q0:Addr) (q1:Addr) (q2:Addr) (R:Ending → World → Prop) (w:World):Prop:=
 LoadT (.sc .str) w q0 fun x1=>
 Br ((((x1.size:Nat):Int):Int) == 0)
  (LoopT (σ:=Nat × Addr × Unit) (p0,q1,()) w fun l2 g3 w4 I5=>
   LoadT (.sc .str) w4 l2.2.1 fun x6=>
   Br (decide ((((x6.size:Nat):Int):Int) > 0))
    (LoadT (.sc .str) w4 l2.2.1 fun x7=>
    CallN Tryz.prog 159 #[(.string x7)] [.sc (.int .i32),.sc (.int .i64)] w4 (fun r8 w9=>
     LoadT (.sc .str) w9 l2.2.1 fun x11=>
     RunT Tryz.prog (.sc .str) (Instr.sliceAt 9 (.string x11) none (some (.int .i64 r8.2.1)) none) w9 fun r12 w13=>
     YieldT Tryz.prog l2.1 #[(.string r12)] w13 fun r14 w15=>
     Br (!r14)
      (R (.returned (.tuple #[])) w15)
      (LoadT (.sc .str) w15 l2.2.1 fun x16=>
      RunT Tryz.prog (.sc .str) (Instr.sliceAt 9 (.string x16) (some (.int .i64 r8.2.1)) none none) w15 fun r17 w18=>
      Store1 w18 l2.2.1 (.string r17) fun w19=>
      I5 (l2.1,l2.2.1,()) w19)) (fun h10 w9=>R (.panicked h10) w9))
    (R (.returned (.tuple #[])) w4))
  (LoopT (σ:=Nat × Addr × Addr × Addr × Unit) (p0,q0,q1,q2,()) w fun l20 g21 w22 I23=>
   LoadT (.sc .str) w22 l20.2.2.1 fun x24=>
   LoadT (.sc .str) w22 l20.2.1 fun x25=>
   CallT Tryz.prog 160 #[(.string x24),(.string x25)] (.sc (.int .i64)) w22 (fun r26 w27=>
    Br (decide ((r26:Int) < 0))
     (LoadT (.sc .str) w27 l20.2.2.1 fun x29=>
     YieldT Tryz.prog l20.1 #[(.string x29)] w27 fun r30 w31=>
     R (.returned (.tuple #[])) w31)
     (LoadT (.sc .str) w27 l20.2.2.1 fun x32=>
     LoadT (.sc (.int .i64)) w27 l20.2.2.2.1 fun x33=>
     RunT Tryz.prog (.sc .str) (Instr.sliceAt 9 (.string x32) none (some (.int .i64 (IntKind.wrap .i64 (r26 + x33)))) none) w27 fun r34 w35=>
     YieldT Tryz.prog l20.1 #[(.string r34)] w35 fun r36 w37=>
     Br (!r36)
      (R (.returned (.tuple #[])) w37)
      (LoadT (.sc .str) w37 l20.2.2.1 fun x38=>
      LoadT (.sc .str) w37 l20.2.1 fun x39=>
      RunT Tryz.prog (.sc .str) (Instr.sliceAt 9 (.string x38) (some (.int .i64 (IntKind.wrap .i64 (r26 + ((x39.size:Nat):Int))))) none none) w37 fun r40 w41=>
      Store1 w41 l20.2.2.1 (.string r40) fun w42=>
      I23 (l20.1,l20.2.1,l20.2.2.1,l20.2.2.2.1,()) w42))) (fun h28 w27=>R (.panicked h28) w27))
theorem strings_splitSeq_c1.calls (p0:Nat) (q0:Addr) (q1:Addr) (q2:Addr) {R:Ending → World → Prop} {w:World} (h:strings_splitSeq_c1.sh p0 q0 q1 q2 R w):Calls Tryz.prog 158 #[(.func (.yield p0) #[] #[]),(.pointer (some q0)),(.pointer (some q1)),(.pointer (some q2))] w R:=calls_of_wpc mixed Tryz.func158 (by kernel_rfl) (by kernel_rfl) ((show _ = wpc Tryz.prog strings_splitSeq_c1.ann strings_splitSeq_c1.body (fnKs Tryz.prog Tryz.f158 R) [] (env0 #[(.func (.yield p0) #[] #[]),(.pointer (some q0)),(.pointer (some q1)),(.pointer (some q2))]) w by kernel_rfl).mp h)
noncomputable def strings_splitSeq.ann:Ann where
 loops:=fun | _=>[]
 joins:=fun | _=>none
noncomputable def strings_splitSeq.body:Code:=match Tryz.f127.body with | some c=>c | none=>.skip
def strings_splitSeq.sh (p0:ByteArray) (p1:ByteArray) (p2:Int) (R:Ending → World → Prop) (w:World):Prop:=
 New w (.cells #[(.string p0)] 9) fun b1 w2=>
 New w2 (.cells #[(.string p1)] 9) fun b3 w4=>
 New w4 (.cells #[(.int .i64 p2)] 3) fun b5 w6=>
 R (.returned (.func (.func 158) #[] #[(.pointer (some (Addr.mk b3 0 none))),(.pointer (some (Addr.mk b1 0 none))),(.pointer (some (Addr.mk b5 0 none)))])) w6
theorem strings_splitSeq.calls (p0:ByteArray) (p1:ByteArray) (p2:Int) {R:Ending → World → Prop} {w:World} (h:strings_splitSeq.sh p0 p1 p2 R w):Calls Tryz.prog 127 #[(.string p0),(.string p1),(.int .i64 p2)] w R:=calls_of_wpc mixed Tryz.func127 (by kernel_rfl) (by kernel_rfl) ((show _ = wpc Tryz.prog strings_splitSeq.ann strings_splitSeq.body (fnKs Tryz.prog Tryz.f127 R) [] (env0 #[(.string p0),(.string p1),(.int .i64 p2)]) w by kernel_rfl).mp h)
noncomputable def strings_SplitSeq.ann:Ann where
 loops:=fun | _=>[]
 joins:=fun | _=>none
noncomputable def strings_SplitSeq.body:Code:=match Tryz.f82.body with | some c=>c | none=>.skip
def strings_SplitSeq.sh (p0:ByteArray) (p1:ByteArray) (R:Ending → World → Prop) (w:World):Prop:=
 CallT Tryz.prog 127 #[(.string p0),(.string p1),(.int .i64 0)] (.sc (.clo 158 3)) w (fun r1 w2=>
  R (.returned (.func (.func 158) #[] #[(.pointer (some r1.1)),(.pointer (some r1.2.1)),(.pointer (some r1.2.2.1))])) w2) (fun h3 w2=>R (.panicked h3) w2)
theorem strings_SplitSeq.calls (p0:ByteArray) (p1:ByteArray) {R:Ending → World → Prop} {w:World} (h:strings_SplitSeq.sh p0 p1 R w):Calls Tryz.prog 82 #[(.string p0),(.string p1)] w R:=calls_of_wpc mixed Tryz.func82 (by kernel_rfl) (by kernel_rfl) ((show _ = wpc Tryz.prog strings_SplitSeq.ann strings_SplitSeq.body (fnKs Tryz.prog Tryz.f82 R) [] (env0 #[(.string p0),(.string p1)]) w by kernel_rfl).mp h)
noncomputable def __strings_Builder__WriteString.ann:Ann where
 loops:=fun | _=>[]
 joins:=fun | _=>none
noncomputable def __strings_Builder__WriteString.body:Code:=match Tryz.f18.body with | some c=>c | none=>.skip
def __strings_Builder__WriteString.sh (p0:Option Addr) (p1:ByteArray) (R:Ending → World → Prop) (w:World):Prop:=
 CallN Tryz.prog 51 #[(.pointer p0)] [] w (fun r1 w2=>
  NilCk p0 fun a4=>
  LoadT (.sc .sl) w2 (a4.add 1) fun x5=>
  RunT Tryz.prog (.sc .sl) (Builtin.append_ #[61,9] 61 #[(.slice x5.a x5.n x5.c),(.string p1)]) w2 fun r6 w7=>
  NilCk p0 fun a8=>
  Store1 w7 (a8.add 1) (.slice r6.a r6.n r6.c) fun w9=>
  R (.returned (.tuple #[(.int .i64 ((p1.size:Nat):Int)),Value.nilIface])) w9) (fun h3 w2=>R (.panicked h3) w2)
theorem __strings_Builder__WriteString.calls (p0:Option Addr) (p1:ByteArray) {R:Ending → World → Prop} {w:World} (h:__strings_Builder__WriteString.sh p0 p1 R w):Calls Tryz.prog 18 #[(.pointer p0),(.string p1)] w R:=calls_of_wpc mixed Tryz.func18 (by kernel_rfl) (by kernel_rfl) ((show _ = wpc Tryz.prog __strings_Builder__WriteString.ann __strings_Builder__WriteString.body (fnKs Tryz.prog Tryz.f18 R) [] (env0 #[(.pointer p0),(.string p1)]) w by kernel_rfl).mp h)
noncomputable def __strings_Builder__WriteByte.ann:Ann where
 loops:=fun | _=>[]
 joins:=fun | _=>none
noncomputable def __strings_Builder__WriteByte.body:Code:=match Tryz.f19.body with | some c=>c | none=>.skip
def __strings_Builder__WriteByte.sh (p0:Option Addr) (p1:Int) (R:Ending → World → Prop) (w:World):Prop:=
 CallN Tryz.prog 51 #[(.pointer p0)] [] w (fun r1 w2=>
  NilCk p0 fun a4=>
  LoadT (.sc .sl) w2 (a4.add 1) fun x5=>
  New w2 (.cells #[(.int .u8 p1)] 5) fun b6 w7=>
  RunT Tryz.prog (.sc .sl) (Builtin.append_ #[61,61] 61 #[(.slice x5.a x5.n x5.c),(.slice (some (Addr.mk b6 0 none)) 1 1)]) w7 fun r8 w9=>
  NilCk p0 fun a10=>
  Store1 w9 (a10.add 1) (.slice r8.a r8.n r8.c) fun w11=>
  R (.returned Value.nilIface) w11) (fun h3 w2=>R (.panicked h3) w2)
theorem __strings_Builder__WriteByte.calls (p0:Option Addr) (p1:Int) {R:Ending → World → Prop} {w:World} (h:__strings_Builder__WriteByte.sh p0 p1 R w):Calls Tryz.prog 19 #[(.pointer p0),(.int .u8 p1)] w R:=calls_of_wpc mixed Tryz.func19 (by kernel_rfl) (by kernel_rfl) ((show _ = wpc Tryz.prog __strings_Builder__WriteByte.ann __strings_Builder__WriteByte.body (fnKs Tryz.prog Tryz.f19 R) [] (env0 #[(.pointer p0),(.int .u8 p1)]) w by kernel_rfl).mp h)
end Go.Proofs.YtpifnlfmojfgpaaGreatDoor
end
section
set_option maxRecDepth 10000
set_option maxHeartbeats 1000000
namespace Go.Proofs.YtpifnlfmojfgpaaGreatDoor.Pk
open Fw Pw Ct
def zVals:List Value:=[.int .i64 0,.int .i64 0,.slice none 0 0,.string ⟨#[]⟩,.string ⟨#[]⟩,.int .i64 0,.slice none 0 0,.string ⟨#[]⟩,.slice none 0 0,.int .i64 0,.int .i64 0,.slice none 0 0,.slice none 0 0,.slice none 0 0,
 .int .i64 0,.slice none 0 0,.int .i64 0,.slice none 0 0,.int .i64 0,.slice none 0 0,.int .i64 0,.int .i64 0,.slice none 0 0,.slice none 0 0,.slice none 0 0,.slice none 0 0,.slice none 0 0,.slice none 0 0]
def op0 : Oper := Oper.mk (some 5) (.call ⟨.builtin .recover, #[], #[]⟩) 20 "text.go:356" #[] none
def op1 : Oper := Oper.mk (some 6) (.typeAssert (.tmp 5) 20 132 true) 133 "text.go:356" #[⟨0, .data⟩] none
def op2 : Oper := Oper.mk (some 4) (.move (.tmp 6)) 133 "text.go:356" #[⟨1, .data⟩] none
def op3 : Oper := Oper.mk (some 7) (.extract (.tmp 4) 0) 132 "text.go:356" #[⟨2, .data⟩] none
def op4 : Oper := Oper.mk (some 8) (.extract (.tmp 4) 1) 4 "text.go:356" #[⟨2, .data⟩, ⟨6, .gcOnly .lateStores⟩] none
def op5 : Oper := Oper.mk (some 2) (.alloc 132) 0 "text.go:356" #[] none
def op6 : Oper := Oper.mk none (.store 132 (.tmp 2) (.tmp 7)) 0 "text.go:356" #[⟨5, .data⟩, ⟨3, .data⟩, ⟨0, .chain⟩, ⟨0, .phase⟩, ⟨1, .phase⟩, ⟨2, .phase⟩, ⟨3, .phase⟩, ⟨4, .textOnly .lateStores⟩, ⟨5, .phase⟩] none
def op7 : Oper := Oper.mk (some 3) (.assign (.tmp 8)) 4 "text.go:356" #[⟨4, .data⟩, ⟨6, .chain⟩, ⟨0, .phase⟩, ⟨1, .phase⟩, ⟨2, .phase⟩, ⟨3, .phase⟩, ⟨4, .phase⟩, ⟨5, .phase⟩, ⟨6, .phase⟩] none
def ops79:Array Oper:=#[op0,op1,op2,op3,op4,op5,op6,op7]
theorem gt79_0:ops79[0]? = some op0:=rfl
theorem gt79_1:ops79[1]? = some op1:=rfl
theorem gt79_2:ops79[2]? = some op2:=rfl
theorem gt79_3:ops79[3]? = some op3:=rfl
theorem gt79_4:ops79[4]? = some op4:=rfl
theorem gt79_5:ops79[5]? = some op5:=rfl
theorem gt79_6:ops79[6]? = some op6:=rfl
theorem gt79_7:ops79[7]? = some op7:=rfl
noncomputable def rest79:Code:=match Tryz.f79.body with | some (.seq _ c)=>c | _=>.skip
theorem body79:Tryz.f79.body = some (.seq (.region 0 ops79 false) rest79):=by kernel_rfl
def act79 (q0 q1:Addr):Act:={ tmps:=#[.pointer (some q0),.pointer (some q1)] ++ Array.replicate 9 undef,defers:=[] }
theorem act79_size (q0 q1:Addr):(act79 q0 q1).tmps.size = 11:=by simp [act79]
theorem ntmps79:Tryz.f79.ntmps = 11:=by kernel_rfl
theorem wanted_plain {o:Oper} (h:o.guard = none) (f:Nat → Option Bool):Region.wanted o f = true:=by simp [Region.wanted,h]
theorem opsS_val {P:Program} {ops:Array Oper} {Q:Exit → Act → List Frame → World → Prop} {i:Nat} {rest:List Nat} {o:Oper} {a:Act} {cs:List Frame} {w w':World} {v:Value} (ho:ops[i]? = some o) (hg:o.guard = none) (he:(execOp a.eval o).run P w = .ok (.value v) w')
  {d:Option Nat} (hd:o.dst = d) (h:∀ a',a' = a.put d v → wpOpsS P ops Q rest a' cs w'):wpOpsS P ops Q (i :: rest) a cs w:=by
 unfold wpOpsS
 rw [ho]
 dsimp only
 rw [if_pos (wanted_plain hg _),he]
 exact h _ (by rw [hd])
theorem opsS_skip {P:Program} {ops:Array Oper} {Q:Exit → Act → List Frame → World → Prop} {i:Nat} {rest:List Nat} {o:Oper} {a:Act} {cs:List Frame} {w w':World} (ho:ops[i]? = some o) (hg:o.guard = none) (he:(execOp a.eval o).run P w = .ok .skip w')
  (hd:o.dst = none) (h:wpOpsS P ops Q rest a cs w'):wpOpsS P ops Q (i :: rest) a cs w:=by
 unfold wpOpsS
 rw [ho]
 dsimp only
 rw [if_pos (wanted_plain hg _),he]
 show wpOpsS P ops Q rest (a.put o.dst undef) cs w'
 rw [hd]; exact h
theorem callsDIn_of_wpS' {P:Program} {n:Nat} {f:FuncId} {fn:Func} {c:Code} {args:Array Value} {u:FrameMode} {w:World} {R:Ending → FrameMode → World → Prop}
  (hf:P.funcs[f]? = some fn) (hb:fn.body = some c)
  (h:∀ (c₀:Frame) (cs:List Frame),c₀.mode = u →
   c.wpS P (bodyPostS P fn c₀ cs R) { tmps:=args ++ Array.replicate (fn.ntmps - args.size) undef,defers:=[] } (c₀ :: cs) w) :
  CallsDIn (Wf none) n P f args u w R:=by
 refine ⟨trivial,fun c₀ cs hu _=>?_⟩
 let b:Frame:={ (default:Frame) with fn:=f,kind:=.deferred }
 have henter:Frame.enter P f args .deferred =
   b.at { tmps:=args ++ Array.replicate (fn.ntmps - args.size) undef,defers:=[] } [.code c]:=by
  simp [Frame.enter,Frame.at,hf,hb,b]
 obtain ⟨e,a',cs',w',hq,harr⟩:=h c₀ cs hu b [] rfl rfl
 rw [← henter] at harr
 cases e with
 | normal=>
  obtain ⟨hd,u',rfl,v,hr,hR⟩:=hq
  exact ⟨.returned v,u',w',_,hR,comesIn_wide.2 (Steps.trans harr (.one step_end)),rfl,rfl,rfl,hd,fn,hf,hr⟩
 | ret=>
  obtain ⟨hd,u',rfl,v,hr,hR⟩:=hq
  obtain ⟨todo,hs⟩:=harr
  exact ⟨.returned v,u',w',_,hR,comesIn_wide.2 hs,rfl,rfl,rfl,hd,fn,hf,hr⟩
 | panic chain=>
  obtain ⟨hd,u',rfl,hR⟩:=hq
  obtain ⟨todo,hs⟩:=harr
  exact ⟨.panicked chain,u',w',_,hR,comesIn_wide.2 hs,rfl,rfl,rfl,hd,fn,hf⟩
 | exit id=>exact hq.elim
 | goto l=>exact hq.elim
 | outgrown=>
  obtain ⟨u',hR⟩:=hq
  exact ⟨.outgrown,u',w',b,hR,comesIn_wide.2 (harr.resolve_left (by simp [b])),rfl,rfl,trivial⟩
theorem under132:(Tryz.prog.underlying 132).map (fun d=>(match d with | .struct _=>true | _=>false)) = some true:=by kernel_rfl
theorem zero132:zeroOf Tryz.prog 132 = some (.agg #[]):=by kernel_rfl
theorem assert_in (w:World):(Instr.typeAssert (.iface 132 (.agg #[])) 20 132 true).run Tryz.prog w = .ok (.tuple #[.agg #[],.bool true]) w:=by
 obtain ⟨t,ht,hd⟩:=Option.map_eq_some_iff.1 under132
 cases t <;> simp at hd
 simp [Instr.typeAssert,run_underlying ht]
theorem assert_nil (w:World):(Instr.typeAssert .nilIface 20 132 true).run Tryz.prog w = .ok (.tuple #[.agg #[],.bool false]) w:=by
 obtain ⟨t,ht,hd⟩:=Option.map_eq_some_iff.1 under132
 cases t <;> simp at hd
 simp [Instr.typeAssert,run_underlying ht,run_zeroValue_some zero132]
theorem run_alloc132 (w:World):(Instr.alloc 132 true (.tuple #[])).run Tryz.prog w = .ok (.pointer (some ⟨w.heap.size,0,none⟩)) (w.alloc (.cells #[] 132)):=by
 simp [Instr.alloc,run_zeroValue_some zero132,newVar,newRow,newObj,Sem.run]
 rfl
theorem run_extract (l:Array Value) (k:Nat) (v:Value) (h:l[k]? = some v) (w:World):(Instr.extract (.tuple l) k).run Tryz.prog w = .ok v w:=by
 simp [Instr.extract,h]
theorem size132:sizeP Tryz.prog 132 = 0:=by kernel_rfl
theorem isSome132:(Tryz.prog.info? 132).isSome = true:=by kernel_rfl
theorem run_store132 (w:World) (b:Nat):(Instr.storeAt 132 (.pointer (some ⟨b,0,none⟩)) (.agg #[])).run Tryz.prog w = .ok () w:=by
 have h:=run_storeVar_agg (P:=Tryz.prog) (w:=w) (t:=132) (a:=⟨b,0,none⟩) (cs:=#[]) (by rw [size132]; rfl) isSome132 (by simp) (by trivial)
 simp only [Instr.storeAt,Instr.sureAddr]
 exact h
theorem ex1 {a:Act} {rv v:Value} {w:World} (h:a.eval (.tmp 5) = rv) (hr:(Instr.typeAssert rv 20 132 true).run Tryz.prog w = .ok v w):(execOp a.eval op1).run Tryz.prog w = .ok (.value v) w:=by
 show (do pure (Next.value (← Instr.typeAssert (a.eval (.tmp 5)) 20 132 true)):Sem Next).run _ _ = _
 rw [h,Sem.run_bind,hr]; rfl
theorem ex2 {a:Act} {v:Value} {w:World} (h:a.eval (.tmp 6) = v):(execOp a.eval op2).run Tryz.prog w = .ok (.value v) w:=by
 show (pure (Next.value (a.eval (.tmp 6))):Sem Next).run _ _ = _
 rw [h]; rfl
theorem ex3 {a:Act} {l:Array Value} {v:Value} {w:World} (h:a.eval (.tmp 4) = .tuple l) (hl:l[0]? = some v):(execOp a.eval op3).run Tryz.prog w = .ok (.value v) w:=by
 show (do pure (Next.value (← Instr.extract (a.eval (.tmp 4)) 0)):Sem Next).run _ _ = _
 rw [h,Sem.run_bind,run_extract l 0 v hl]; rfl
theorem ex4 {a:Act} {l:Array Value} {v:Value} {w:World} (h:a.eval (.tmp 4) = .tuple l) (hl:l[1]? = some v):(execOp a.eval op4).run Tryz.prog w = .ok (.value v) w:=by
 show (do pure (Next.value (← Instr.extract (a.eval (.tmp 4)) 1)):Sem Next).run _ _ = _
 rw [h,Sem.run_bind,run_extract l 1 v hl]; rfl
theorem ex5 {a:Act} {w:World}:(execOp a.eval op5).run Tryz.prog w = .ok (.value (.pointer (some ⟨w.heap.size,0,none⟩))) (w.alloc (.cells #[] 132)):=by
 show (do pure (Next.value (← Instr.alloc 132 true (.tuple #[]))):Sem Next).run _ _ = _
 rw [Sem.run_bind,run_alloc132]; rfl
theorem ex6 {a:Act} {b:Nat} {w:World} (h:a.eval (.tmp 2) = .pointer (some ⟨b,0,none⟩)) (h2:a.eval (.tmp 7) = .agg #[]):(execOp a.eval op6).run Tryz.prog w = .ok .skip w:=by
 show (do Instr.storeAt 132 (a.eval (.tmp 2)) (a.eval (.tmp 7)); pure Next.skip:Sem Next).run _ _ = _
 rw [h,h2,Sem.run_bind,run_store132]; rfl
theorem ex7 {a:Act} {v:Value} {w:World} (h:a.eval (.tmp 8) = v):(execOp a.eval op7).run Tryz.prog w = .ok (.value v) w:=by
 show (pure (Next.value (a.eval (.tmp 8))):Sem Next).run _ _ = _
 rw [h]; rfl
theorem put_size (a:Act) (d:Option Nat) (v:Value):(a.put d v).tmps.size = a.tmps.size:=by
 cases d <;> simp [Act.put]
theorem put_same {a:Act} {k:Nat} {v:Value} (h:k < a.tmps.size):(a.put (some k) v).eval (.tmp k) = v:=by simp [Act.put,Act.eval,h]
theorem put_other {a:Act} {k j:Nat} {v:Value} (h:k ≠ j):(a.put (some k) v).eval (.tmp j) = a.eval (.tmp j):=by
 simp [Act.put,Act.eval,Array.getElem?_setIfInBounds_ne h]
def rd79 (q0 q1:Addr) (t:Bool) (K:World → Prop) (w:World):Prop:=Br t (StoreN w q0 zVals fun w1=>Store1 w1 q1 (.bool false) fun w2=>K w2) (K w)
def ann79:Ann:={ loops:=fun _=>[],joins:=fun _=>none }
noncomputable def env79 (q0 q1:Addr) (rv:Value) (t:Bool) (p:Value):Env:=
 upd (upd (upd (upd (upd (upd (upd (env0 #[(.pointer (some q0)),(.pointer (some q1))]) 5 rv) 6 (.tuple #[.agg #[],.bool t])) 4 (.tuple #[.agg #[],.bool t])) 7 (.agg #[])) 8 (.bool t)) 2 p) 3 (.bool t)
theorem rd79_eq (q0 q1:Addr) (rv:Value) (t:Bool) (p:Value) (R:Ending → World → Prop) (w:World):rd79 q0 q1 t (fun w'=>R (.returned (.tuple #[])) w') w = wpc Tryz.prog ann79 rest79 (fnKs Tryz.prog Tryz.f79 R) [] (env79 q0 q1 rv t p) w:=by kernel_rfl
theorem read1_D {n:Nat} {q0 q1:Addr} {u u2:FrameMode} {rv:Value} {t:Bool} {w:World} {R:Ending → World → Prop} (hrv:∀ w,(Instr.typeAssert rv 20 132 true).run Tryz.prog w = .ok (.tuple #[.agg #[],.bool t]) w)
  (hrec:∀ (c₀:Frame) (cs:List Frame),c₀.mode = u → (match recoverD (c₀ :: cs) with
   | some (v,cs')=>v = rv ∧ cs' = { c₀ with mode:=u2 } :: cs
   | none=>rv = .nilIface ∧ c₀ :: cs = { c₀ with mode:=u2 } :: cs))
  (h:rd79 q0 q1 t (fun w'=>R (.returned (.tuple #[])) w') (w.alloc (.cells #[] 132))) :
  CallsDIn (Wf none) n Tryz.prog 79 #[.pointer (some q0),.pointer (some q1)] u w fun e u' w'=>u' = u2 ∧ R e w':=by
 rw [rd79_eq q0 q1 rv t (.pointer (some ⟨w.heap.size,0,none⟩))] at h
 have hrep:Fw.Rep ⟨11,[]⟩ [] (env0 #[.pointer (some q0),.pointer (some q1)]) (act79 q0 q1):=
  rep0 (n:=11) (fx:=[]) (args:=#[.pointer (some q0),.pointer (some q1)]) (by show 2 ≤ 11; decide) (by simp) (by simp)
 have hrep2:=((((((hrep.put (some 5) rv rfl).put (some 6) (.tuple #[.agg #[],.bool t]) rfl).put (some 4) (.tuple #[.agg #[],.bool t]) rfl).put (some 7) (.agg #[]) rfl).put (some 8) (.bool t) rfl).put (some 2) (.pointer (some ⟨w.heap.size,0,none⟩)) rfl)
 have hrep3:=(hrep2.put none undef rfl).put (some 3) (.bool t) rfl
 have hw:=wp_of_wpc (fn:=Tryz.f79) (n:=11) (R:=R) mixed (by kernel_rfl) (by kernel_rfl) hrep3 h
 refine callsDIn_of_wpS' Tryz.func79 body79 fun c₀ cs hu=>?_
 have ha:({ tmps:=#[.pointer (some q0),.pointer (some q1)] ++ Array.replicate (Tryz.f79.ntmps - (#[.pointer (some q0),.pointer (some q1)]:Array Value).size) undef,defers:=[] }:Act) = act79 q0 q1:=by rw [ntmps79]; rfl
 rw [ha]
 have fin:∀ (v:Value) (cs':List Frame),v = rv → cs' = { c₀ with mode:=u2 } :: cs → wpOpsS Tryz.prog ops79 (Exit.thenS (rest79.wpS Tryz.prog (bodyPostS Tryz.prog Tryz.f79 c₀ cs fun e u' w'=>u' = u2 ∧ R e w')) (bodyPostS Tryz.prog Tryz.f79 c₀ cs fun e u' w'=>u' = u2 ∧ R e w')) [1,2,3,4,5,6,7] ((act79 q0 q1).put op0.dst v) cs' w:=by
  rintro v _ hv rfl
  rw [hv,show op0.dst = some 5 from rfl]
  have hsz:=act79_size q0 q1
  have tl:∀ {a:Act} {k:Nat},a.tmps.size = 11 → k < 11 → k < a.tmps.size:=fun h hk=>by rw [h]; exact hk
  obtain ⟨a1,e1⟩:∃ a1,a1 = (act79 q0 q1).put (some 5) rv:=⟨_,rfl⟩
  rw [← e1] at hrep3 hw ⊢
  have z1:a1.tmps.size = 11:=by rw [e1,put_size]; exact hsz
  have v1:a1.eval (.tmp 5) = rv:=by rw [e1]; exact put_same (tl hsz (by decide))
  refine opsS_val gt79_1 rfl (ex1 v1 (hrv w)) (d:=some 6) rfl fun a2 e2=>?_
  have z2:a2.tmps.size = 11:=by rw [e2,put_size]; exact z1
  have v2:a2.eval (.tmp 6) = .tuple #[.agg #[],.bool t]:=by rw [e2]; exact put_same (tl z1 (by decide))
  refine opsS_val gt79_2 rfl (ex2 v2) (d:=some 4) rfl fun a3 e3=>?_
  have z3:a3.tmps.size = 11:=by rw [e3,put_size]; exact z2
  have v3:a3.eval (.tmp 4) = .tuple #[.agg #[],.bool t]:=by rw [e3]; exact put_same (tl z2 (by decide))
  refine opsS_val gt79_3 rfl (ex3 v3 (v:=.agg #[]) rfl) (d:=some 7) rfl fun a4 e4=>?_
  have z4:a4.tmps.size = 11:=by rw [e4,put_size]; exact z3
  have v4:a4.eval (.tmp 4) = .tuple #[.agg #[],.bool t]:=by rw [e4,put_other (by decide)]; exact v3
  have w4:a4.eval (.tmp 7) = .agg #[]:=by rw [e4]; exact put_same (tl z3 (by decide))
  refine opsS_val gt79_4 rfl (ex4 v4 (v:=.bool t) rfl) (d:=some 8) rfl fun a5 e5=>?_
  have z5:a5.tmps.size = 11:=by rw [e5,put_size]; exact z4
  have v5:a5.eval (.tmp 8) = .bool t:=by rw [e5]; exact put_same (tl z4 (by decide))
  have w5:a5.eval (.tmp 7) = .agg #[]:=by rw [e5,put_other (by decide)]; exact w4
  refine opsS_val gt79_5 rfl ex5 (d:=some 2) rfl fun a6 e6=>?_
  have v6:a6.eval (.tmp 8) = .bool t:=by rw [e6,put_other (by decide)]; exact v5
  have w6:a6.eval (.tmp 7) = .agg #[]:=by rw [e6,put_other (by decide)]; exact w5
  have x6:a6.eval (.tmp 2) = .pointer (some ⟨w.heap.size,0,none⟩):=by rw [e6]; exact put_same (tl z5 (by decide))
  refine opsS_skip gt79_6 rfl (ex6 x6 w6) rfl ?_
  refine opsS_val gt79_7 rfl (ex7 v6) (d:=some 3) rfl fun a7 e7=>?_
  have ea:a7 = (((((((a1.put (some 6) (.tuple #[.agg #[],.bool t])).put (some 4) (.tuple #[.agg #[],.bool t])).put (some 7) (.agg #[])).put (some 8) (.bool t)).put (some 2) (.pointer (some ⟨w.heap.size,0,none⟩))).put none undef).put (some 3) (.bool t)):=by
   rw [e7,e6,e5,e4,e3,e2]; rfl
  rw [ea]
  show rest79.wpS _ _ _ _ _
  refine wpS_of_wp fun b k cs2=>?_
  obtain ⟨e,a',w',hq,har⟩:=hw b k cs2
  refine ⟨e,a',w',?_,har⟩
  cases e with
  | normal=>obtain ⟨h1,v,h2,h3⟩:=hq; exact ⟨h1,u2,rfl,v,h2,rfl,h3⟩
  | ret=>obtain ⟨h1,v,h2,h3⟩:=hq; exact ⟨h1,u2,rfl,v,h2,rfl,h3⟩
  | panic ch=>obtain ⟨h1,h2⟩:=hq; exact ⟨h1,u2,rfl,rfl,h2⟩
  | exit id=>exact hq.elim
  | goto l=>exact hq.elim
  | outgrown=>exact ⟨u2,rfl,hq⟩
 refine wpS_seq (wpS_region ?_)
 show wpOpsS _ ops79 _ [0,1,2,3,4,5,6,7] _ _ _
 unfold wpOpsS
 have e0:(execOp (act79 q0 q1).eval op0).run Tryz.prog w = .ok .recover w:=rfl
 rw [gt79_0]
 dsimp only
 rw [if_pos (wanted_plain rfl _),e0]
 dsimp only
 have hr:=hrec c₀ cs hu
 generalize recoverD (c₀ :: cs) = rd at hr ⊢
 cases rd with
 | some p=>exact fin _ p.2 hr.1 hr.2
 | none=>
  dsimp only at hr ⊢
  have h1:=hr.1
  have h2:=hr.2
  clear hr
  rw [← h1]
  exact fin rv _ rfl h2
end Go.Proofs.YtpifnlfmojfgpaaGreatDoor.Pk
end
section
set_option maxRecDepth 10000
namespace Go.Proofs.YtpifnlfmojfgpaaGreatDoor
open Fw
noncomputable def cert_read.ann:Ann where
 loops:=fun | _=>[]
 joins:=fun | 12=>some [(2,.sc .adr),(3,.sc .adr),(4,.sc .adr)] | 14=>some [(2,.sc .adr),(3,.sc .adr),(4,.sc .adr)] | _=>none
noncomputable def cert_read.body:Code:=match Tryz.f38.body with | some c=>c | none=>.skip
def cert_read.sh (p0:ByteArray) (Rn:List Deferred → List Value → World → Prop) (Rp:List PanicEntry → List Deferred → World → Prop) (w:World):Prop:=
 New w (.cells #[(.int .i64 0),(.int .i64 0),(.slice none 0 0),(.string (ByteArray.mk #[])),(.string (ByteArray.mk #[])),(.int .i64 0),(.slice none 0 0),(.string (ByteArray.mk #[])),(.slice none 0 0),(.int .i64 0),(.int .i64 0),(.slice none 0 0),(.slice none 0 0),(.slice none 0 0),(.int .i64 0),(.slice none 0 0),(.int .i64 0),(.slice none 0 0),(.int .i64 0),(.slice none 0 0),(.int .i64 0),(.int .i64 0),(.slice none 0 0),(.slice none 0 0),(.slice none 0 0),(.slice none 0 0),(.slice none 0 0),(.slice none 0 0)] 43) fun b1 w2=>
 New w2 (.cells #[(.bool false)] 4) fun b3 w4=>
 CallT Tryz.prog 81 #[(.string p0),(.string (ByteArray.mk #[10]))] (.sc .bool) w4 (fun r5 w6=>
  CallN Tryz.prog 80 #[(.bool r5)] [] w6 (fun r8 w9=>
   New w9 (.cells #[(.slice none 0 0),(.int .i64 0),(.int .i64 0),(.slice none 0 0),(.string (ByteArray.mk #[])),(.string (ByteArray.mk #[])),(.int .i64 0),(.slice none 0 0),(.string (ByteArray.mk #[])),(.slice none 0 0),(.int .i64 0),(.int .i64 0),(.slice none 0 0),(.slice none 0 0),(.slice none 0 0),(.int .i64 0),(.slice none 0 0),(.int .i64 0),(.slice none 0 0),(.int .i64 0),(.slice none 0 0),(.int .i64 0),(.int .i64 0),(.slice none 0 0),(.slice none 0 0),(.slice none 0 0),(.slice none 0 0),(.slice none 0 0),(.slice none 0 0)] 140) fun b11 w12=>
   New w12 (.cells #[(.pointer none)] 135) fun b13 w14=>
   Store1 w14 (Addr.mk b13 0 none) (.pointer (some (Addr.mk b11 0 none))) fun w15=>
   RunT Tryz.prog (.sc .str) (Instr.sliceAt 9 (.string p0) none (some (.int .i64 (IntKind.wrap .i64 (((p0.size:Nat):Int) - 1)))) none) w15 fun r16 w17=>
   CallT Tryz.prog 82 #[(.string r16),(.string (ByteArray.mk #[10]))] (.sc (.clo 158 3)) w17 (fun r18 w19=>
    RangeF Tryz.prog 158 #[] #[(.pointer (some r18.1)),(.pointer (some r18.2.1)),(.pointer (some r18.2.2.1))] [.sc .str] w19 (fun x21 w22 Kc23 Kx24=>
     ∃ S28:World → Prop,S28 w22.drew ∧
      (LoadS S28 (.sc .ptr) (Addr.mk b13 0 none) fun x29=>
      LoadS S28 (.sc .ptr) (Addr.mk b13 0 none) fun x30=>
      NilCk x30 fun a31=>
      LoadS S28 (.sc .sl) ((a31.add 0).add 0) fun x32=>
      CallT Tryz.prog 83 #[(.string x21.1),(.string (ByteArray.mk #[32]))] (.sc .sl) w22.drew (fun r33 w34=>
        ∃ S36:World → Prop,(∀ w,S36 w → S28 w) ∧ S36 w34 ∧
        (New w34 (.cells #[(.slice r33.a r33.n r33.c)] 22) fun b37 w38=>
         ∃ S39:World → Prop,(∀ w,S39 w → S36 w) ∧ S39 w38 ∧
         (RunT Tryz.prog (.sc .sl) (Builtin.append_ #[136,136] 136 #[(.slice x32.a x32.n x32.c),(.slice (some (Addr.mk b37 0 none)) 1 1)]) w38 fun r40 w41=>
          ∃ S42:World → Prop,(∀ w,S42 w → S39 w) ∧ S42 w41 ∧
          (NilCk x29 fun a43=>
          Store1 w41 ((a43.add 0).add 0) (.slice r40.a r40.n r40.c) fun w44=>
           Kc23 w44)))) (fun h35 w34=>False)))
     (fun j25 d26 w27=>match j25 with
     | none=>
       LoadT (.sc .ptr) w27 (Addr.mk b13 0 none) fun x45=>
       CallN Tryz.prog 84 #[(.pointer x45)] [] w27 (fun r46 w47=>
        LoadT (.sc .ptr) w47 (Addr.mk b13 0 none) fun x49=>
        CallN Tryz.prog 85 #[(.pointer x49)] [] w47 (fun r50 w51=>
         Join (σ:=Addr × Addr × Addr × Unit) (fun j55 g54 w65=>
          LoadT (.sc .ptr) w65 j55.2.2.1 fun x66=>
          NilCk x66 fun a67=>
          CallN Tryz.prog 86 #[(.pointer (some (a67.add 0))),(.string (ByteArray.mk #[100,111,110,101]))] [.sc .sl,.sc .bool] w65 (fun r68 w69=>
           Store1 w69 j55.2.1 (.bool r68.2.1) fun w71=>
           Join (σ:=Addr × Addr × Addr × Unit) (fun j74 g73 w88=>
            LoadT (.sc .ptr) w88 j74.2.2.1 fun x89=>
            NilCk x89 fun a90=>
            LoadT (.agg [.int .i64,.int .i64,.sl,.str,.str,.int .i64,.sl,.str,.sl,.int .i64,.int .i64,.sl,.sl,.sl,.int .i64,.sl,.int .i64,.sl,.int .i64,.sl,.int .i64,.int .i64,.sl,.sl,.sl,.sl,.sl,.sl]) w88 (a90.add 1) fun x91=>
            StoreN w88 j74.1 [(.int .i64 x91.1),(.int .i64 x91.2.1),(.slice x91.2.2.1.a x91.2.2.1.n x91.2.2.1.c),(.string x91.2.2.2.1),(.string x91.2.2.2.2.1),(.int .i64 x91.2.2.2.2.2.1),(.slice x91.2.2.2.2.2.2.1.a x91.2.2.2.2.2.2.1.n x91.2.2.2.2.2.2.1.c),(.string x91.2.2.2.2.2.2.2.1),(.slice x91.2.2.2.2.2.2.2.2.1.a x91.2.2.2.2.2.2.2.2.1.n x91.2.2.2.2.2.2.2.2.1.c),(.int .i64 x91.2.2.2.2.2.2.2.2.2.1),(.int .i64 x91.2.2.2.2.2.2.2.2.2.2.1),(.slice x91.2.2.2.2.2.2.2.2.2.2.2.1.a x91.2.2.2.2.2.2.2.2.2.2.2.1.n x91.2.2.2.2.2.2.2.2.2.2.2.1.c),(.slice x91.2.2.2.2.2.2.2.2.2.2.2.2.1.a x91.2.2.2.2.2.2.2.2.2.2.2.2.1.n x91.2.2.2.2.2.2.2.2.2.2.2.2.1.c),(.slice x91.2.2.2.2.2.2.2.2.2.2.2.2.2.1.a x91.2.2.2.2.2.2.2.2.2.2.2.2.2.1.n x91.2.2.2.2.2.2.2.2.2.2.2.2.2.1.c),(.int .i64 x91.2.2.2.2.2.2.2.2.2.2.2.2.2.2.1),(.slice x91.2.2.2.2.2.2.2.2.2.2.2.2.2.2.2.1.a x91.2.2.2.2.2.2.2.2.2.2.2.2.2.2.2.1.n x91.2.2.2.2.2.2.2.2.2.2.2.2.2.2.2.1.c),(.int .i64 x91.2.2.2.2.2.2.2.2.2.2.2.2.2.2.2.2.1),(.slice x91.2.2.2.2.2.2.2.2.2.2.2.2.2.2.2.2.2.1.a x91.2.2.2.2.2.2.2.2.2.2.2.2.2.2.2.2.2.1.n x91.2.2.2.2.2.2.2.2.2.2.2.2.2.2.2.2.2.1.c),(.int .i64 x91.2.2.2.2.2.2.2.2.2.2.2.2.2.2.2.2.2.2.1),(.slice x91.2.2.2.2.2.2.2.2.2.2.2.2.2.2.2.2.2.2.2.1.a x91.2.2.2.2.2.2.2.2.2.2.2.2.2.2.2.2.2.2.2.1.n x91.2.2.2.2.2.2.2.2.2.2.2.2.2.2.2.2.2.2.2.1.c),(.int .i64 x91.2.2.2.2.2.2.2.2.2.2.2.2.2.2.2.2.2.2.2.2.1),(.int .i64 x91.2.2.2.2.2.2.2.2.2.2.2.2.2.2.2.2.2.2.2.2.2.1),(.slice x91.2.2.2.2.2.2.2.2.2.2.2.2.2.2.2.2.2.2.2.2.2.2.1.a x91.2.2.2.2.2.2.2.2.2.2.2.2.2.2.2.2.2.2.2.2.2.2.1.n x91.2.2.2.2.2.2.2.2.2.2.2.2.2.2.2.2.2.2.2.2.2.2.1.c),(.slice x91.2.2.2.2.2.2.2.2.2.2.2.2.2.2.2.2.2.2.2.2.2.2.2.1.a x91.2.2.2.2.2.2.2.2.2.2.2.2.2.2.2.2.2.2.2.2.2.2.2.1.n x91.2.2.2.2.2.2.2.2.2.2.2.2.2.2.2.2.2.2.2.2.2.2.2.1.c),(.slice x91.2.2.2.2.2.2.2.2.2.2.2.2.2.2.2.2.2.2.2.2.2.2.2.2.1.a x91.2.2.2.2.2.2.2.2.2.2.2.2.2.2.2.2.2.2.2.2.2.2.2.2.1.n x91.2.2.2.2.2.2.2.2.2.2.2.2.2.2.2.2.2.2.2.2.2.2.2.2.1.c),(.slice x91.2.2.2.2.2.2.2.2.2.2.2.2.2.2.2.2.2.2.2.2.2.2.2.2.2.1.a x91.2.2.2.2.2.2.2.2.2.2.2.2.2.2.2.2.2.2.2.2.2.2.2.2.2.1.n x91.2.2.2.2.2.2.2.2.2.2.2.2.2.2.2.2.2.2.2.2.2.2.2.2.2.1.c),(.slice x91.2.2.2.2.2.2.2.2.2.2.2.2.2.2.2.2.2.2.2.2.2.2.2.2.2.2.1.a x91.2.2.2.2.2.2.2.2.2.2.2.2.2.2.2.2.2.2.2.2.2.2.2.2.2.2.1.n x91.2.2.2.2.2.2.2.2.2.2.2.2.2.2.2.2.2.2.2.2.2.2.2.2.2.2.1.c),(.slice x91.2.2.2.2.2.2.2.2.2.2.2.2.2.2.2.2.2.2.2.2.2.2.2.2.2.2.2.1.a x91.2.2.2.2.2.2.2.2.2.2.2.2.2.2.2.2.2.2.2.2.2.2.2.2.2.2.2.1.n x91.2.2.2.2.2.2.2.2.2.2.2.2.2.2.2.2.2.2.2.2.2.2.2.2.2.2.2.1.c)] fun w92=>
            Store1 w92 j74.2.1 (.bool true) fun w93=>
            Rn (Fw.mark d26 :: ({ target:=.fn (.func 79) #[(.pointer (some (Addr.mk b1 0 none))),(.pointer (some (Addr.mk b3 0 none)))],args:=#[] }:Deferred) :: []) [(.pointer (some j74.1)),(.pointer (some j74.2.1))] w93) fun J72=>
            LoadT (.sc .bool) w71 j55.2.1 fun x75=>
            Br x75
             (Br ((((r68.1.n:Nat):Int):Int) == 0)
              (LoadT (.sc .ptr) w71 j55.2.2.1 fun x76=>
              NilCk x76 fun a77=>
              LoadT (.sc .sl) w71 ((a77.add 0).add 0) fun x78=>
              CallN Tryz.prog 80 #[(.bool ((((x78.n:Nat):Int):Int) == 0))] [] w71 (fun r79 w80=>
               J72 (j55.1,j55.2.1,j55.2.2.1,()) w80) (fun h81 w80=>Rp h81 (Fw.mark d26 :: ({ target:=.fn (.func 79) #[(.pointer (some (Addr.mk b1 0 none))),(.pointer (some (Addr.mk b3 0 none)))],args:=#[] }:Deferred) :: []) w80))
              (CallN Tryz.prog 80 #[(.bool false)] [] w71 (fun r82 w83=>
               J72 (j55.1,j55.2.1,j55.2.2.1,()) w83) (fun h84 w83=>Rp h84 (Fw.mark d26 :: ({ target:=.fn (.func 79) #[(.pointer (some (Addr.mk b1 0 none))),(.pointer (some (Addr.mk b3 0 none)))],args:=#[] }:Deferred) :: []) w83)))
             (CallN Tryz.prog 80 #[(.bool false)] [] w71 (fun r85 w86=>
              J72 (j55.1,j55.2.1,j55.2.2.1,()) w86) (fun h87 w86=>Rp h87 (Fw.mark d26 :: ({ target:=.fn (.func 79) #[(.pointer (some (Addr.mk b1 0 none))),(.pointer (some (Addr.mk b3 0 none)))],args:=#[] }:Deferred) :: []) w86))) (fun h70 w69=>Rp h70 (Fw.mark d26 :: ({ target:=.fn (.func 79) #[(.pointer (some (Addr.mk b1 0 none))),(.pointer (some (Addr.mk b3 0 none)))],args:=#[] }:Deferred) :: []) w69)) fun J53=>
          LoadT (.sc .ptr) w51 (Addr.mk b13 0 none) fun x56=>
          NilCk x56 fun a57=>
          CallN Tryz.prog 86 #[(.pointer (some (a57.add 0))),(.string (ByteArray.mk #[97,99,99,101,112,116]))] [.sc .sl,.sc .bool] w51 (fun r58 w59=>
           Br r58.2.1
            (LoadT (.sc .ptr) w59 (Addr.mk b13 0 none) fun x61=>
            CallN Tryz.prog 87 #[(.pointer x61),(.slice r58.1.a r58.1.n r58.1.c)] [] w59 (fun r62 w63=>
             J53 ((Addr.mk b1 0 none),(Addr.mk b3 0 none),(Addr.mk b13 0 none),()) w63) (fun h64 w63=>Rp h64 (Fw.mark d26 :: ({ target:=.fn (.func 79) #[(.pointer (some (Addr.mk b1 0 none))),(.pointer (some (Addr.mk b3 0 none)))],args:=#[] }:Deferred) :: []) w63))
            (J53 ((Addr.mk b1 0 none),(Addr.mk b3 0 none),(Addr.mk b13 0 none),()) w59)) (fun h60 w59=>Rp h60 (Fw.mark d26 :: ({ target:=.fn (.func 79) #[(.pointer (some (Addr.mk b1 0 none))),(.pointer (some (Addr.mk b3 0 none)))],args:=#[] }:Deferred) :: []) w59)) (fun h52 w51=>Rp h52 (Fw.mark d26 :: ({ target:=.fn (.func 79) #[(.pointer (some (Addr.mk b1 0 none))),(.pointer (some (Addr.mk b3 0 none)))],args:=#[] }:Deferred) :: []) w51)) (fun h48 w47=>Rp h48 (Fw.mark d26 :: ({ target:=.fn (.func 79) #[(.pointer (some (Addr.mk b1 0 none))),(.pointer (some (Addr.mk b3 0 none)))],args:=#[] }:Deferred) :: []) w47)
     | some (.exit i)=>
      False
     | some .ret=>
       Rn (Fw.mark d26 :: ({ target:=.fn (.func 79) #[(.pointer (some (Addr.mk b1 0 none))),(.pointer (some (Addr.mk b3 0 none)))],args:=#[] }:Deferred) :: []) [(.pointer (some (Addr.mk b1 0 none))),(.pointer (some (Addr.mk b3 0 none)))] w27
     | some _=>False)) (fun h20 w19=>Rp h20 (({ target:=.fn (.func 79) #[(.pointer (some (Addr.mk b1 0 none))),(.pointer (some (Addr.mk b3 0 none)))],args:=#[] }:Deferred) :: []) w19)) (fun h10 w9=>Rp h10 (({ target:=.fn (.func 79) #[(.pointer (some (Addr.mk b1 0 none))),(.pointer (some (Addr.mk b3 0 none)))],args:=#[] }:Deferred) :: []) w9)) (fun h7 w6=>Rp h7 (({ target:=.fn (.func 79) #[(.pointer (some (Addr.mk b1 0 none))),(.pointer (some (Addr.mk b3 0 none)))],args:=#[] }:Deferred) :: []) w6)
theorem cert_read.eq (p0:ByteArray) (Rn:List Deferred → List Value → World → Prop) (Rp:List PanicEntry → List Deferred → World → Prop) (w:World):cert_read.sh p0 Rn Rp w = wpc Tryz.prog cert_read.ann cert_read.body (defKs [2,3] Rn Rp) [] (env0 #[(.string p0)]) w:=by kernel_rfl
end Go.Proofs.YtpifnlfmojfgpaaGreatDoor
end
section
set_option maxRecDepth 10000
set_option maxHeartbeats 1000000
namespace Go.Proofs.YtpifnlfmojfgpaaGreatDoor.Pk
open Fw Pw Ct
noncomputable def reg38:Code:=match Tryz.f38.body with | some (.seq c _)=>c | _=>.skip
noncomputable def rest38:Code:=match Tryz.f38.body with | some (.seq _ c)=>c | _=>.skip
theorem body38:Tryz.f38.body = some (.seq reg38 rest38):=by kernel_rfl
theorem ntmps38:Tryz.f38.ntmps = 77:=by kernel_rfl
theorem results38:Tryz.f38.results = #[.cell 2 43,.cell 3 4]:=by kernel_rfl
theorem under43:(Tryz.prog.underlying 43).map (fun d=>(match d with | .struct _=>true | _=>false)) = some true:=by kernel_rfl
theorem info43:(Tryz.prog.info? 43).map (·.size) = some 28:=by kernel_rfl
theorem run_results38 {tmps:Array Value} {w:World} {b1 b3:Nat} {cs:Array Value} {k:Bool} (h4:tmps.getD 2 undef = .pointer (some ⟨b1,0,none⟩)) (h5:tmps.getD 3 undef = .pointer (some ⟨b3,0,none⟩))
  (hb1:w.heap[b1]? = some (.cells cs 43 (0,0))) (hsz:cs.size = 28) (hb3:w.heap[b3]? = some (.cells #[.bool k] 4 (0,0))):(results Tryz.f38 tmps).run Tryz.prog w = .ok (.tuple #[.agg cs,.bool k]) w:=by
 obtain ⟨d,hd,hds⟩:=Option.map_eq_some_iff.1 under43
 have l1:(loadVar 43 ⟨b1,0,none⟩).run Tryz.prog w = .ok (.agg cs) w:=by
  refine run_loadVar_row w b1 43 43 cs (0,0) d hb1 hd ?_ (by rw [info43,hsz])
  cases d <;> simp_all
 have l2:(loadVar 4 ⟨b3,0,none⟩).run Tryz.prog w = .ok (.bool k) w:=by
  have hc:w.cell? ⟨b3,0,none⟩ = some (.bool k):=by rw [cellOf0 hb3]; rfl
  simp [loadVar,isAgg,run_underlying Tryz.underlying4,hc]
 have hre:results Tryz.f38 tmps = (do let vs ← Tryz.f38.results.mapM (resSem tmps); pure (if h:vs.size = 1 then vs[0] else .tuple vs)):=rfl
 have hl:[ResultVar.cell 2 43,ResultVar.cell 3 4].mapM (resSem tmps) = (do let a ← resSem tmps (.cell 2 43); let b ← resSem tmps (.cell 3 4); pure [a,b]):=by simp
 rw [hre,results38,List.mapM_toArray,Sem.run_bind,Sem.run_map,hl]
 simp [resSem,h4,h5,asAddr,l1,l2,-Array.getD_eq_getD_getElem?]
def endD (R:Ending → World → Prop) (b1 b3:Nat) (u:FrameMode) (w:World):Prop:=
 CallsDIn (Wf none) (0 - 1) Tryz.prog 79 #[.pointer (some ⟨b1,0,none⟩),.pointer (some ⟨b3,0,none⟩)] u w fun e u' w'=>(∃ v,e = .returned v) ∧ settle u' = .returning ∧ ∃ (cs:Array Value) (k:Bool),w'.heap[b1]? = some (.cells cs 43 (0,0)) ∧ cs.size = 28 ∧ w'.heap[b3]? = some (.cells #[.bool k] 4 (0,0)) ∧
  R (.returned (.tuple #[.agg cs,.bool k])) w'
def dfr (b1 b3:Nat):Deferred:={ target:=.fn (.func 79) #[.pointer (some ⟨b1,0,none⟩),.pointer (some ⟨b3,0,none⟩)],args:=#[] }
def endM (R:Ending → World → Prop) (b1 b3:Nat) (ds:List Deferred) (u:FrameMode) (w:World):Prop:=
 (ds = [dfr b1 b3] ∧ endD R b1 b3 u w) ∨ ∃ d,ds = [Fw.mark d,dfr b1 b3] ∧ w.heap[d]? = some (.deferred (some [])) ∧ endD R b1 b3 u (w.putObj d (.deferred none))
theorem leaves38 {R:Ending → World → Prop} {b1 b3:Nat} {u:FrameMode} {w:World} {tmps:Array Value} (hu:u ≠ .run) (h4:tmps.getD 2 undef = .pointer (some ⟨b1,0,none⟩)) (h5:tmps.getD 3 undef = .pointer (some ⟨b3,0,none⟩)) (h:endD R b1 b3 u w) :
  LeavesInM (Wf none) 0 Tryz.prog Tryz.f38 tmps R [dfr b1 b3] u w:=by
 refine ⟨hu,.inr ⟨fun h=>(by cases h),.func 79,_,79,_,rfl,rfl,fun _ _=>trivial,h.1,?_⟩⟩
 intro c cs hc hroom
 obtain ⟨e,u',w',fr,hq,hrest⟩:=h.2 c cs hc hroom
 refine ⟨e,u',w',fr,?_,hrest⟩
 obtain ⟨⟨v,rfl⟩,hs,cs',k,hb1,hsz,hb3,hR⟩:=hq
 show LeavesInM _ _ _ _ _ _ [] (settle u') w'
 rw [hs]
 exact ⟨_,run_results38 h4 h5 hb1 hsz hb3,hR⟩
theorem leavesM38 {R:Ending → World → Prop} {b1 b3:Nat} {ds:List Deferred} {u:FrameMode} {w:World} {tmps:Array Value} (hu:u ≠ .run) (h4:tmps.getD 2 undef = .pointer (some ⟨b1,0,none⟩)) (h5:tmps.getD 3 undef = .pointer (some ⟨b3,0,none⟩)) (h:endM R b1 b3 ds u w) :
  LeavesInM (Wf none) 0 Tryz.prog Tryz.f38 tmps R ds u w:=by
 rcases h with ⟨rfl,h⟩ | ⟨d,rfl,hd,h⟩
 ·exact leaves38 hu h4 h5 h
 ·exact ⟨hu,.inl ⟨d,_,rfl,run_takeDeferred hd,leaves38 hu h4 h5 h⟩⟩
theorem read_calls {p0:ByteArray} {w:World} {R:Ending → World → Prop} (h:cert_read.sh p0 (fun ds _ w'=>endM R w.heap.size (w.heap.size + 1) ds .returning w')
   (fun ch ds w'=>endM R w.heap.size (w.heap.size + 1) ds (.panicking ch) w') w):Calls Tryz.prog 38 #[.string p0] w R:=by
 generalize hRn:(fun (ds:List Deferred) (_:List Value) (w':World)=>endM R w.heap.size (w.heap.size + 1) ds .returning w') = Rn at h
 generalize hRp:(fun (ch:List PanicEntry) (ds:List Deferred) (w':World)=>endM R w.heap.size (w.heap.size + 1) ds (.panicking ch) w') = Rp at h
 have h:=(cert_read.eq p0 Rn Rp w).mp h
 have hsplit:wpc Tryz.prog cert_read.ann cert_read.body (defKs [2,3] Rn Rp) [] (env0 #[(.string p0)]) w =
   New w (.cells zVals.toArray 43) fun b1 w2=>New w2 (.cells #[(.bool false)] 4) fun b3 w4=>
    wpc Tryz.prog cert_read.ann rest38 (defKs [2,3] Rn Rp) [] (upd (upd (env0 #[(.string p0)]) 2 (.pointer (some (Addr.mk b1 0 none)))) 3 (.pointer (some (Addr.mk b3 0 none)))) w4:=by kernel_rfl
 rw [hsplit] at h
 refine (callsIn_wide (n:=0)).1 ?_
 rw [← Wf_none]
 refine callsIn_of_wp_marks Tryz.func38 body38 trivial ?_
 refine wpIn_seq ?_
 have ha:({ tmps:=#[.string p0] ++ Array.replicate (Tryz.f38.ntmps - (#[.string p0]:Array Value).size) undef,defers:=[] }:Act) = { tmps:=#[.string p0] ++ Array.replicate (77 - (#[.string p0]:Array Value).size) undef,defers:=[] }:=by rw [ntmps38]
 rw [ha]
 have hrep:Fw.Rep ⟨77,[]⟩ [] (env0 #[.string p0]) { tmps:=#[.string p0] ++ Array.replicate (77 - (#[.string p0]:Array Value).size) undef,defers:=[] }:=
  rep0 (n:=77) (fx:=[]) (args:=#[.string p0]) (by show 1 ≤ 77; decide) (by simp) (by simp)
 refine wpIn_of_wpc (F:=⟨77,[]⟩) (A:=cert_read.ann) mixed reg38 none
  { N:=fun ds e w'=>ds = [] ∧ e 2 = .pointer (some ⟨w.heap.size,0,none⟩) ∧ e 3 = .pointer (some ⟨w.heap.size + 1,0,none⟩) ∧ wpc Tryz.prog cert_read.ann rest38 (defKs [2,3] Rn Rp) [] e w',X:=fun _ _ _ _=>False,R:=fun _ _ _=>False,P:=fun _ _ _=>False }
  [] _ _ w _ (by kernel_rfl) hrep ⟨fun ds e a w' _ hr hn=>?_,fun _ _ _ _ _ _ _ h=>h.elim,fun _ _ _ _ _ _ h=>h.elim,fun _ _ _ _ h=>h.elim⟩ ?_
 ·obtain ⟨rfl,e4,e5,hw⟩:=hn
  have hr':Fw.Rep ⟨77,[(2,.pointer (some ⟨w.heap.size,0,none⟩)),(3,.pointer (some ⟨w.heap.size + 1,0,none⟩))]⟩ [] e a:=
   ⟨hr.size,hr.slots,hr.defers,fun p hp=>by
    simp only [List.mem_cons,List.not_mem_nil,or_false] at hp
    rcases hp with rfl | rfl
    ·exact e4
    ·exact e5,fun p hp=>by
    simp only [List.mem_cons,List.not_mem_nil,or_false] at hp
    rcases hp with rfl | rfl
    ·show 2 < 77; decide
    ·show 3 < 77; decide⟩
  refine wpIn_of_wpc (F:=⟨77,[(2,.pointer (some ⟨w.heap.size,0,none⟩)),(3,.pointer (some ⟨w.heap.size + 1,0,none⟩))]⟩) mixed rest38 none (defKs [2,3] Rn Rp) [] e a w' _ (by kernel_rfl) hr' ⟨fun ds e a w' _ hr hn=>?_,fun _ _ _ _ _ _ _ h=>h.elim,fun ds e a w' _ hr hn=>?_,fun ch ds w' _ hn a ha hfx=>?_⟩ hw
  ·have hn:Rn ds [e 2,e 3] w':=hn
   rw [← hRn] at hn
   show LeavesInM _ _ _ _ _ _ _ _ _
   rw [hr.defers]
   exact leavesM38 (by simp) (hr.at (2,_) (by simp)) (hr.at (3,_) (by simp)) hn
  ·have hn:Rn ds [e 2,e 3] w':=hn
   rw [← hRn] at hn
   show LeavesInM _ _ _ _ _ _ _ _ _
   rw [hr.defers]
   exact leavesM38 (by simp) (hr.at (2,_) (by simp)) (hr.at (3,_) (by simp)) hn
  ·have hn:Rp ch ds w':=hn
   rw [← hRp] at hn
   show LeavesInM _ _ _ _ _ _ _ _ _
   rw [ha]
   exact leavesM38 (by simp) (hfx (2,_) (by simp)) (hfx (3,_) (by simp)) hn
 ·have hsplit2:∀ K:Ks,wpc Tryz.prog cert_read.ann reg38 K [] (env0 #[(.string p0)]) w =
   New w (.cells zVals.toArray 43) fun b1 w2=>New w2 (.cells #[(.bool false)] 4) fun b3 w4=>
    K.N [] (upd (upd (env0 #[(.string p0)]) 2 (.pointer (some (Addr.mk b1 0 none)))) 3 (.pointer (some (Addr.mk b3 0 none)))) w4:=fun K=>by kernel_rfl
  rw [hsplit2]
  refine ⟨rfl,rfl,?_,h⟩
  show Value.pointer (some (Addr.mk (w.alloc _).heap.size 0 none)) = _
  rw [World.size_alloc]
end Go.Proofs.YtpifnlfmojfgpaaGreatDoor.Pk
end
section
namespace Go.Proofs.YtpifnlfmojfgpaaGreatDoor.Pw
open Fw RowKit
def allP (w:World):Pos:=fun g _=>g < w.heap.size
def PVs (A:Pos) (w:World):(l:List PT) → aden (l.map AT.pv) → List Value → Prop
 | [],_,vs=>vs = []
 | t :: l,x,vs=>∃ us v vs',vs = v :: vs' ∧ Rp A w t x.1 us ∧ (match t.isAgg with
  | true=>v = .agg us.toArray
  | false=>us = [v]) ∧ PVs A w l x.2 vs'
theorem Ow.dis_no:Ow.no.dis Ow.no:=⟨fun _ _ h=>h.elim,fun _ h=>h.elim,fun _ _ h=>h.elim,fun _ _ h=>h.elim⟩
theorem PVs.trs {P:Program} {A:Pos} {w:World}:∀ {l:List PT} {x:aden (l.map AT.pv)} {vs:List Value},PVs A w l x vs → TRs P A w (l.map AT.pv) x vs .no
 | [],_,_,h=>h
 | t :: l,x,_,⟨us,v,vs',he,h1,h2,h3⟩=>⟨v,vs',.no,.no,he,⟨us,h1,h1.len,h2⟩,h3.trs,Ow.dis_no,.refl _,.refl _⟩
theorem TRs.pvs {P:Program} {A:Pos} {w:World}:∀ {l:List PT} {x:aden (l.map AT.pv)} {vs:List Value} {ω:Ow},TRs P A w (l.map AT.pv) x vs ω → PVs A w l x vs
 | [],_,_,_,h=>h
 | t :: l,x,_,_,⟨v,vs',ω1,ω2,he,⟨us,h1,_,h2⟩,h3,_⟩=>⟨us,v,vs',he,h1,h2,h3.pvs⟩
theorem Chg.all {S:Nat → Prop} {w w':World} (h:Chg S w w') {A:Pos} (hA:∀ g o,A g o → g < w.heap.size ∧ ¬ S g):∀ g o,A g o → A g o ∧ w'.cell? ⟨g,o,none⟩ = w.cell? ⟨g,o,none⟩:=
 fun g o hg=>⟨hg,World.cell?_of_block (h.block g (hA g o hg).1 (hA g o hg).2)⟩
theorem pc_pure {P:Program} {f:FuncId} {ps rs:List PT} {out:List AT} {x:aden (ps.map AT.pv)} {Q:aden (rs.map AT.pv) → aden out → Prop} (h:PC P f ⟨ps.map AT.pv,out,rs.map AT.pv⟩ x Q (fun _=>False)) {w:World} {vs:List Value} (hp:PVs (allP w) w ps x vs) (hg:GOk w) :
  Calls P f vs.toArray w fun e w'=>∃ A' y z us,Q y z ∧ e = .returned (retV us) ∧ PVs A' w' rs y us ∧ Chg Nil w w' ∧ GOk w' ∧ (∀ g o,A' g o → g < w'.heap.size):=by
 refine (h.2 (allP w) w vs .no hp.trs (fun g o h=>h) ⟨hg,fun _ _ h=>h.elim,fun _ h=>h.elim⟩).mono fun e w' he=>?_
 cases e with
 | returned v=>
  obtain ⟨A',y,z,us,ω1,ω2,h1,rfl,h3,_,_,h4⟩:=he
  have hno:∀ g o,g < w.heap.size → ¬ OP (OF (allP w) w .no) (allP w) g o:=fun g o hlt hop=>by
   rcases hop with (hop | hop) | ⟨hop | hop,_⟩
   ·omega
   ·exact hop
   ·omega
   ·exact hop
  refine ⟨A',y,z,us,h1,rfl,h3.pvs,⟨h4.fr.os,h4.fr.tape,h4.fr.output,h4.fr.size,fun k hk _=>h4.fr.block k hk fun o=>hno k o hk⟩,hg.keep h4.fr.size fun g hlt=>?_,h4.low⟩
  have:=hg.size
  exact h4.fr.block g (by omega) fun o=>hno g o (by omega)
 | panicked c=>obtain ⟨_,_,_,_,h1,_⟩:=he; exact h1.elim
 | outgrown=>exact he.elim
theorem pc_str {P:Program} {f:FuncId} {ps:List PT} {out:List AT} {x:aden (ps.map AT.pv)} {y:List UInt8} {Q:aden [AT.pv .str] → aden out → Prop} (h:PC P f ⟨ps.map AT.pv,out,[.pv .str]⟩ x Q (fun _=>False)) (hy:∀ a b,Q a b → a.1 = y) {w:World} {vs:List Value} (hp:PVs (allP w) w ps x vs) (hg:GOk w) :
  Calls P f vs.toArray w fun e w'=>∃ b:ByteArray,e = .returned (.string b) ∧ b.data.toList = y ∧ y.length ≤ big ∧ Chg Nil w w' ∧ GOk w':=by
 refine (pc_pure (rs:=[.str]) h hp hg).mono fun e w' he=>?_
 obtain ⟨A',a,z,us,h1,rfl,⟨cs,v,vs',rfl,⟨b,hb,h2,h3⟩,h4,h5⟩,h6,h7,_⟩:=he
 have h5:vs' = []:=h5
 have h4:cs = [v]:=h4
 subst h5
 rw [h4] at hb
 cases hb
 refine ⟨b,rfl,h2.trans (hy _ _ h1),?_,h6,h7⟩
 rw [← hy _ _ h1]; exact h3
theorem pc_bool {P:Program} {f:FuncId} {ps:List PT} {out:List AT} {x:aden (ps.map AT.pv)} {y:Bool} {Q:aden [AT.pv .bool] → aden out → Prop} (h:PC P f ⟨ps.map AT.pv,out,[.pv .bool]⟩ x Q (fun _=>False)) (hy:∀ a b,Q a b → a.1 = y) {w:World} {vs:List Value} (hp:PVs (allP w) w ps x vs) (hg:GOk w) :
  Calls P f vs.toArray w fun e w'=>e = .returned (.bool y) ∧ Chg Nil w w' ∧ GOk w':=by
 refine (pc_pure (rs:=[.bool]) h hp hg).mono fun e w' he=>?_
 obtain ⟨A',a,z,us,h1,rfl,⟨cs,v,vs',rfl,hb,h4,h5⟩,h6,h7,_⟩:=he
 have h5:vs' = []:=h5
 have h4:cs = [v]:=h4
 have hb:cs = [.bool a.1]:=hb
 subst h5
 rw [h4] at hb
 simp only [List.cons.injEq,and_true] at hb
 subst hb
 rw [hy _ _ h1] at *
 exact ⟨rfl,h6,h7⟩
def anyL:Nat → List AT
 | 0=>[]
 | n + 1=>.any :: anyL n
def anyZ:(n:Nat) → aden (anyL n)
 | 0=>()
 | n + 1=>((),anyZ n)
theorem TRo_any {P:Program} {A:Pos} {w:World} {ω:Ow}:∀ (n:Nat) {vs:List Value},vs.length = n → TRo P A w (anyL n) (anyZ n) vs ω
 | 0,[],_=>trivial
 | n + 1,_ :: vs,h=>TRo_any n (vs:=vs) (by simpa using h)
theorem PVs.len {A:Pos} {w:World}:∀ {l:List PT} {x:aden (l.map AT.pv)} {vs:List Value},PVs A w l x vs → vs.length = l.length
 | [],_,_,h=>by rw [show _ = _ from h]; rfl
 | t :: l,x,_,⟨us,v,vs',he,_,_,h3⟩=>by rw [he,List.length_cons,List.length_cons,h3.len]
theorem After.of_chg {A A':Pos} {w w':World} (h:Chg Nil w w') (hlow:∀ g o,A g o → g < w.heap.size) (h1:∀ g o,A g o → A' g o) (h2:∀ g o,A' g o → A g o ∨ (w.heap.size ≤ g ∧ g < w'.heap.size)) {ω ω':Ow} (hω:ω'.le (OF A w ω)):After A w ω A' w' ω':=
 ⟨Fr.of_chg (S:=Nil) h (fun _ _ h=>h.elim),fun g o hg=>⟨h1 g o hg,World.cell?_of_block (h.block g (hlow g o hg) fun h=>h)⟩,fun g o hg=>(h2 g o hg).elim .inl fun h=>.inr (.inl (.inl h.1)),fun g o hg=>(h2 g o hg).elim (fun hA=>Nat.lt_of_lt_of_le (hlow g o hA) h.size) (fun h=>h.2),hω⟩
theorem Ow.no_le (ω:Ow):Ow.no.le ω:=⟨fun _ _ h=>h.elim,fun _ h=>h.elim⟩
theorem Ow.or_no_le (ω:Ow):(Ow.no.or Ow.no).le ω:=⟨fun _ _ h=>h.elim (fun h=>h.elim) (fun h=>h.elim),fun _ h=>h.elim (fun h=>h.elim) (fun h=>h.elim)⟩
theorem pc_mk {P:Program} {f:FuncId} {ps rs:List PT} {x:aden (ps.map AT.pv)} {Q:aden (rs.map AT.pv) → aden (anyL ps.length) → Prop} (hen:enters P f = true)
  (h:∀ (A:Pos) (w:World) (vs:List Value),PVs A w ps x vs → (∀ g o,A g o → g < w.heap.size) → GOk w → Calls P f vs.toArray w fun e w'=>∃ A' y us,Q y (anyZ _) ∧ e = .returned (retV us) ∧ PVs A' w' rs y us ∧ Chg Nil w w' ∧ (∀ g o,A g o → A' g o) ∧ (∀ g o,A' g o → A g o ∨ (w.heap.size ≤ g ∧ g < w'.heap.size))) :
  PC P f ⟨ps.map AT.pv,anyL ps.length,rs.map AT.pv⟩ x Q (fun _=>False):=by
 refine ⟨hen,fun A w vs ω ht hlow htab=>?_⟩
 have hp:=TRs.pvs ht
 refine (h A w vs hp hlow htab.ok).mono fun e w' he=>?_
 obtain ⟨A',y,us,h1,rfl,h3,h4,h5,h6⟩:=he
 exact ⟨A',y,anyZ _,us,.no,.no,h1,rfl,h3.trs,TRo_any _ hp.len,Ow.dis_no,After.of_chg h4 hlow h5 h6 (Ow.or_no_le _)⟩
end Go.Proofs.YtpifnlfmojfgpaaGreatDoor.Pw
end
section
set_option maxRecDepth 10000
namespace Go.Proofs.YtpifnlfmojfgpaaGreatDoor.Pk
open Fw Pw Ct
def CellOk (c:Cell):Prop:=c.1.length ≤ NN ∧ In64 c.2.1
theorem unS_eq {s w:Str} (h:unS s = some w):w = if s = [49] then [] else s:=by
 unfold unS at h
 split at h
 ·rename_i he; rw [if_pos he]; simpa using h.symm
 ·rename_i he
  rw [if_neg he]
  split at h
  ·cases h
  ·simpa using h.symm
theorem cells_pc (hnum:NumPC) (h:Str) (L:Lns) (hL:LimL L) (hh:h ≠ []):PC Tryz.prog 133 sg133 (L,h,()) (fun y z=>Done cellS h L CellOk y.1 z.1) (fun p=>manyS cellS h L = none ∧ p = mal):=by
 refine PC.of a133 [(86,sg86),(80,sg80),(138,sg138),(163,sg163)] (by kernel_rfl) ?_
 repeat refine SameV.mk rfl ?_
 refine LoopP.mk (fun x=>ManyOk cellS h L CellOk x.1 x.2.1) (fun x=>x.2.1.length) (ManyOk.start _ _ _ _) ?_
 rintro ⟨out,R,_⟩ hm
 have hm:ManyOk cellS h L CellOk out R:=hm
 have hR:=hL.sfx hm.sfx
 refine CallP.mk _ _ (take_pc h R hR.full hh) ?_ (fun p h=>h.elim)
 rintro y ⟨z,_⟩ ⟨rfl,rfl⟩
 refine BrP.mk' (fun hb=>?_) (fun hb=>?_)
 ·have hb:(takeF h R).2.1 = false:=by simpa using hb
  have:=(many_stop (f:=cellS) hb).2
  show Done _ _ _ _ out (takeF h R).2.2
  rw [this]; exact hm.done hb
 ·have hb:(takeF h R).2.1 = true:=by simpa using hb
  have hp:=take_parts (h:=h) hR
  refine JoinP.mk (fun x=>x = (out,(takeF h R).2.2,()) ∧ ∃ s n c,(takeF h R).1 = [s,n,c] ∧ (s = [43] ∨ s = [45])) ?_ ?_
  ·rintro x ⟨rfl,s,n,c,hs,hsg⟩
   have g0:(takeF h R).1[0]? = some s:=by rw [hs]; rfl
   have g1:(takeF h R).1[1]? = some n:=by rw [hs]; rfl
   have g2:(takeF h R).1[2]? = some c:=by rw [hs]; rfl
   have m1:n.length ≤ NN:=hp.2 n (by rw [hs]; simp)
   have m2:c.length ≤ NN:=hp.2 c (by rw [hs]; simp)
   have hcell:∀ x,cellS (takeF h R).1 = some x → numS n = some x.2.1 ∧ x.1 = (if c = [49] then [] else c) ∧ x.2.2.1 = decide (s = [45]):=fun x hx=>by
    rw [hs] at hx
    simp only [cellS,if_pos hsg,Option.bind_eq_some_iff,Option.map_eq_some_iff] at hx
    obtain ⟨v,h1,w,h2,rfl⟩:=hx
    exact ⟨h1,unS_eq h2,rfl⟩
   refine GetL.is 2 rfl g2 (GetL.is 1 rfl g1 (GetL.is 0 rfl g0 ?_))
   refine CallP.mk _ _ (unspelt_pc c) ?_ (fun p h=>h.elim)
   rintro ⟨w,_⟩ z hw
   have hw:w = if c = [49] then [] else c:=hw
   refine CallP.mk _ _ (hnum n m1) ?_ ?_
   ·rintro ⟨v,_⟩ z ⟨hv,hv'⟩
    have hv:In64 v:=hv
    have hv':∀ n',numS n = some n' → v = n':=hv'
    refine AppL.mk' (by show out.length + 1 ≤ _; have:=hm.len; have:=hL.len; unfold NN at this; omega) ?_
    repeat refine SameV.mk rfl ?_
    refine ⟨hm.next (y:=(w,v,s == [45],())) hb ⟨?_,hv⟩ fun x hx=>?_,take_lt hb⟩
    ·show w.length ≤ NN
     rw [hw]; split
     ·exact Nat.zero_le _
     ·exact m2
    ·obtain ⟨k1,k2,k3⟩:=hcell x hx
     obtain ⟨xa,xb,xc,_⟩:=x
     dsimp only at k1 k2 k3
     rw [hv' _ k1,hw,k2,k3]
     cases hd:decide (s = [45]) <;> simp at hd <;> simp [hd]
   ·rintro p ⟨h1,rfl⟩
    refine show _ ∧ _ from ⟨hm.bad hb ?_,rfl⟩
    cases hx:cellS (takeF h R).1 with
    | none=>rfl
    | some x=>rw [(hcell x hx).1] at h1; cases h1
  ·have bad:(∀ s n c,(takeF h R).1 = [s,n,c] → ¬ (s = [43] ∨ s = [45])) → cellS (takeF h R).1 = none:=fun hno=>by
    unfold cellS
    split
    ·rename_i s n c hs; rw [if_neg (hno s n c hs)]
    ·rfl
   refine LenL.mk fun _=>?_
   refine BrP.mk' (fun h3=>?_) (fun h3=>?_)
   ·have h3:(takeF h R).1.length = 3:=by
     have:((takeF h R).1.length:Int) = 3:=by simpa using h3
     omega
    obtain ⟨s,n,c,hs⟩:∃ s n c,(takeF h R).1 = [s,n,c]:=by
     match hq:(takeF h R).1,h3 with
     | [s,n,c],_=>exact ⟨s,n,c,rfl⟩
    have g0:(takeF h R).1[0]? = some s:=by rw [hs]; rfl
    refine GetL.is 0 rfl g0 ?_
    refine BrP.mk' (fun h4=>?_) (fun h4=>?_)
    ·have h4:s = [43]:=by simpa using h4
     refine CallP.mk _ _ (must_pc true) ?_ (fun p h=>by cases h.1)
     rintro y z _
     repeat refine SameV.mk rfl ?_
     exact show _ ∧ _ from ⟨rfl,s,n,c,hs,.inl h4⟩
    ·refine GetL.is 0 rfl g0 ?_
     refine CallP.mk _ _ (must_pc _) ?_ ?_
     ·rintro y z h5
      have h5:s = [45]:=by simpa using h5
      repeat refine SameV.mk rfl ?_
      exact show _ ∧ _ from ⟨rfl,s,n,c,hs,.inr h5⟩
     ·rintro p ⟨h5,rfl⟩
      have h4:s ≠ [43]:=by simpa using h4
      have h5:s ≠ [45]:=by simpa using h5
      refine show _ ∧ _ from ⟨hm.bad hb (bad fun s' n' c' hs'=>?_),rfl⟩
      rw [hs] at hs'
      simp only [List.cons.injEq] at hs'
      rw [← hs'.1]; exact fun h=>h.elim h4 h5
   ·have h3:¬ (takeF h R).1.length = 3:=fun h6=>by
     have:¬ ((takeF h R).1.length:Int) = 3:=by simpa using h3
     omega
    refine CallP.mk _ _ (must_pc false) (fun y z h=>by cases h) ?_
    rintro p ⟨_,rfl⟩
    exact show _ ∧ _ from ⟨hm.bad hb (bad fun s' n' c' hs'=>absurd (by rw [hs']; rfl) h3),rfl⟩
def oneF (h:Str) (to:Str) (L:Lns):Option (Str × Lns):=optS soleS h to L
theorem one_pc (h to:Str) (L:Lns) (hL:LimL L) (hh:h ≠ []):PC Tryz.prog 132 sg132 (L,h,to,()) (fun _ z=>oneF h to L = some (z.2.2.1,z.1)) (fun p=>oneF h to L = none ∧ p = mal):=by
 refine PC.of a132 [(86,sg86),(80,sg80)] (by kernel_rfl) ?_
 refine CallP.mk _ _ (take_pc h L hL.full hh) ?_ (fun p h=>h.elim)
 rintro y ⟨z,_⟩ ⟨rfl,rfl⟩
 refine BrP.mk' (fun hb=>?_) (fun hb=>?_)
 ·have hb:(takeF h L).2.1 = true:=by simpa using hb
  refine LenL.mk fun _=>?_
  have ho:oneF h to L = (soleS (takeF h L).1).map fun x=>(x,(takeF h L).2.2):=by unfold oneF optS; rw [if_pos hb]
  refine CallP.mk _ _ (must_pc _) ?_ ?_
  ·rintro y z h1
   have h1:(takeF h L).1.length = 1:=by
    have:((takeF h L).1.length:Int) = 1:=by simpa using h1
    omega
   obtain ⟨x,hx⟩:=List.length_eq_one_iff.1 h1
   refine GetL.is 0 (x:=x) rfl (by show (takeF h L).1[0]? = some x; rw [hx]; rfl) ?_
   show oneF h to L = some (x,(takeF h L).2.2)
   rw [ho,hx]; rfl
  ·rintro p ⟨h1,rfl⟩
   have h1:¬ (takeF h L).1.length = 1:=fun h6=>by
    have:¬ ((takeF h L).1.length:Int) = 1:=by simpa using h1
    omega
   refine show _ ∧ _ from ⟨?_,rfl⟩
   rw [ho]
   have:soleS (takeF h L).1 = none:=by
    unfold soleS
    split
    ·rename_i x hx; rw [hx] at h1; exact absurd rfl h1
    ·rfl
   rw [this]; rfl
 ·have hb:(takeF h L).2.1 = false:=by simpa using hb
  show oneF h to L = some (to,(takeF h L).2.2)
  unfold oneF optS; rw [hb]; simp [(many_stop (f:=soleS) hb).2]
end Go.Proofs.YtpifnlfmojfgpaaGreatDoor.Pk
end
section
set_option maxRecDepth 10000
set_option maxHeartbeats 400000
namespace Go.Proofs.YtpifnlfmojfgpaaGreatDoor.Pk
open Fw Pw Ct
abbrev frontT:AT:=.cons lnsA (.cons iA (.cons iA (.cons (.ls 9 .str) (.cons sA (.cons sA (.cons iA (.cons (.pv tCs) .nil)))))))
abbrev frontO:AT:=.cons lnsA (.cons iA (.cons (.pv presT) (.cons sA (.cons sA (.cons iA (.cons (.pv tCs) .nil))))))
noncomputable def a84:FAnn where
 loops:=fun | 6=>[.kv 0,.mem 1 0 frontT] | _=>[]
 joins:=fun | 2=>some [.kv 0,.kv 2,.mem 1 0 frontT] | 11=>some [.kv 0,.mem 1 0 frontT] | 12=>some [.kv 0,.mem 1 0 frontT] | 15=>some [.kv 0,.mem 1 0 frontT] | _=>none
 sched:=fun | 2=>runS [(0,false),(2,false),(3,false),(4,false),(1,false),(5,false),(6,false),(7,false),(8,false),(9,true)] .fin | 9=>runS [(0,false),(1,false),(2,false),(3,false),(4,false),(5,false),(6,false),(7,false),(8,false),(9,false),(10,false),(11,false),(12,false),(13,false),(14,true)] .fin | _=>.fin
noncomputable def a129:FAnn where
 loops:=fun | 2=>[.kv 0,.kv 1,.kv 7,.sl 8 (.pv (.int .i64))] | _=>[]
noncomputable def a46:FAnn:={}
def sg84:Sig:=⟨[.box frontT],[.box frontO],[]⟩
def sg129:Sig:=⟨[.pv tW,sA],[.any,.any],[iA]⟩
def sg46:Sig:=⟨[],[],[.pv tW]⟩
theorem kinds_pc:PC Tryz.prog 46 sg46 () (fun y _=>y.1 = kindsL) (fun _=>False):=by
 refine PC.of a46 [] (by kernel_rfl) ?_
 exact (rfl:kindsL = kindsL)
theorem idxS_step {s:Str} {i:Nat} {l:List Str} {k:Str} (h:l[0]? = some k):idxS s i l = if k = s then some i else idxS s (i + 1) (l.drop 1):=by
 cases l with
 | nil=>simp at h
 | cons x l=>simp at h; subst h; simp [idxS]
theorem index_pc (l:List Str) (s:Str) (hl:l.length ≤ NN):PC Tryz.prog 129 sg129 (l,s,()) (fun y _=>y.1 = match idxS s 0 l with | some i=>(i:Int) | none=>-1) (fun _=>False):=by
 refine PC.of a129 [] (by kernel_rfl) ?_
 unfold NN at hl
 refine LenL.mk fun _=>?_
 repeat refine SameV.mk rfl ?_
 refine LoopP.mk (fun x=>∃ i:Nat,x = ((i:Int),()) ∧ i ≤ l.length ∧ idxS s i (l.drop i) = idxS s 0 l) (fun x=>l.length - x.1.toNat) ⟨0,rfl,Nat.zero_le _,rfl⟩ ?_
 rintro x ⟨i,rfl,hi,he⟩
 refine BrP.mk' (fun h=>?_) (fun h=>?_)
 ·have h:i < l.length:=by simpa using h
  have h0:(l.drop i)[0]? = some l[i]:=by simp [h]
  rw [idxS_step h0,List.drop_drop] at he
  refine GetL.at i rfl h ?_
  refine BrP.mk' (fun hb=>?_) (fun hb=>?_)
  ·have hb:s = l[i]:=by simpa using hb
   rw [if_pos hb.symm] at he
   show (i:Int) = _
   rw [← he]
  ·have hb:s ≠ l[i]:=by simpa using hb
   rw [if_neg (fun e=>hb e.symm)] at he
   repeat refine SameV.mk rfl ?_
   have hw:IntKind.wrap .i64 ((i:Int) + 1) = ((i + 1:Nat):Int):=wrap64 ⟨by omega,by omega⟩
   refine ⟨⟨i + 1,by rw [← hw]; rfl,h,he⟩,?_⟩
   show l.length - (IntKind.wrap .i64 ((i:Int) + 1)).toNat < l.length - (i:Int).toNat
   rw [hw]; omega
 ·have h:i = l.length:=by have:¬ i < l.length:=by simpa using h
                          omega
  subst h
  rw [List.drop_length] at he
  show (-1:Int) = _
  rw [← he]; rfl
structure FrontOk (L:Lns) (R:Lns) (k:Int) (p:Pres) (u v:Str) (n:Int) (d:List Cell):Prop where
 sfx:R <:+ L
 lk:In64 k
 lp:Lim NN presT p
 lu:u.length ≤ NN
 lv:v.length ≤ NN
 ln:In64 n
 ld:Lim NN tCs d
 is:∀ o,frontS L = some o → o = ((k,p,u,v,n,d),R)
theorem must_some {α:Type} {f:List Str → Option α} {h:Str} {L:Lns} {r:α × Lns} (hr:mustS f h L = some r):(takeF h L).2.1 = true ∧ f (takeF h L).1 = some r.1 ∧ r.2 = (takeF h L).2.2:=by
 unfold mustS at hr
 split at hr
 ·rename_i hk
  simp only [Option.map_eq_some_iff] at hr
  obtain ⟨x,h1,rfl⟩:=hr
  exact ⟨hk,h1,rfl⟩
 ·cases hr
theorem front_some {L:Lns} {o} (h:frontS L = some o):∃ k g r u v n d,mustS kindS sClaim L = some k ∧ mustS num1S sGens k.2 = some g ∧ manyS soleS sRel g.2 = some r ∧ optS soleS sU [] r.2 = some u ∧ optS soleS sV [] u.2 = some v ∧
  optS num1S sN 0 v.2 = some n ∧ manyS cellS sCell n.2 = some d ∧ o = ((k.1,(g.1,r.1,()),u.1,v.1,n.1,d.1),d.2):=by
 simp only [frontS,Option.bind_eq_some_iff,Option.map_eq_some_iff] at h
 obtain ⟨k,h1,g,h2,r,h3,u,h4,v,h5,n,h6,d,h7,rfl⟩:=h
 exact ⟨k,g,r,u,v,n,d,h1,h2,h3,h4,h5,h6,h7,rfl⟩
theorem sole_eq {ps:List Str} {s:Str} (h:soleS ps = some s):ps = [s]:=by
 unfold soleS at h
 split at h
 ·simp only [Option.some.injEq] at h; rw [h]
 ·cases h
theorem sole_len {ps:List Str} (h:¬ ps.length = 1):soleS ps = none:=by
 cases hs:soleS ps with
 | none=>rfl
 | some s=>rw [sole_eq hs] at h; exact absurd rfl h
theorem head_take {h:Str} {R:Lns} (hh:h ≠ []) (he:headF R = h):(takeF h R).2.1 = true:=by
 cases R with
 | nil=>exact absurd he.symm hh
 | cons l R=>
  have he:l.headD [] = h:=he
  simp only [takeF]; rw [if_pos he]
theorem head_not {h:Str} {R:Lns} (he:headF R ≠ h):(takeF h R).2.1 = false:=by
 cases R with
 | nil=>rfl
 | cons l R=>
  have he:l.headD [] ≠ h:=he
  simp only [takeF]; rw [if_neg he]
theorem one_sfx {h to:Str} {L:Lns} {r:Str × Lns} (hr:oneF h to L = some r):r.2 <:+ L:=by
 unfold oneF optS at hr
 split at hr
 ·simp only [Option.map_eq_some_iff] at hr
  obtain ⟨x,_,rfl⟩:=hr
  exact take_sfx _ _
 ·simp only [Option.some.injEq] at hr; subst hr; exact List.suffix_rfl
theorem one_len {h to:Str} {L:Lns} {r:Str × Lns} (hr:oneF h to L = some r) (hL:LimL L) (ht:to.length ≤ NN):r.1.length ≤ NN:=by
 unfold oneF optS at hr
 split at hr
 ·simp only [Option.map_eq_some_iff] at hr
  obtain ⟨x,h1,rfl⟩:=hr
  exact (take_parts hL).2 x (by rw [sole_eq h1]; simp)
 ·simp only [Option.some.injEq] at hr; subst hr; exact ht
theorem none_front {L:Lns} (h:∀ o,frontS L ≠ some o):frontS L = none:=by
 cases hq:frontS L with
 | none=>rfl
 | some o=>exact absurd hq (h o)
theorem num1_is {ps:List Str} {g n:Int} (hy:ListOk ps [g]) (h:num1S ps = some n):n = g:=by
 unfold num1S at h
 simp only [Option.bind_eq_some_iff] at h
 obtain ⟨s,h1,h2⟩:=h
 rw [sole_eq h1] at hy
 have:=hy.is [n] (by simp [listS,h2])
 simpa using this.symm
theorem num1_none {ps:List Str} (h:(ps.length:Int) = 1 → listS ps = none):num1S ps = none:=by
 cases hq:num1S ps with
 | none=>rfl
 | some n=>
  unfold num1S at hq
  simp only [Option.bind_eq_some_iff] at hq
  obtain ⟨s,h1,h2⟩:=hq
  rw [sole_eq h1] at h
  have:=h rfl
  simp [listS,h2] at this
theorem sole_of {ps:List Str} {l:List Int} (h:(ps.length:Int) = 1) (hy:ListOk ps l):∃ n,l = [n]:=List.length_eq_one_iff.1 (by rw [hy.len]; omega)
theorem get_one {l:List Int} {n:Int} (h:l = [n]):l[0]? = some n:=by rw [h]; rfl
theorem _root_.List.IsSuffix.trans' {α:Type} {a b c:List α} (h:b <:+ a) (k:c <:+ b):c <:+ a:=k.trans h
theorem cells_lim {d:List Cell} (hl:d.length ≤ NN) (h:∀ c ∈ d,CellOk c):Lim NN tCs d:=⟨hl,fun c hc=>⟨(h c hc).1,(h c hc).2,trivial,trivial⟩⟩
theorem front_fin {L R2 R R6 R7:Lns} {k g n:Int} {rels:List Str} {u v:Str} {d:List Cell} (hL:L.length ≤ NN) (hs:R6 <:+ L) (h2:R2.length ≤ NN) (h6:R6.length ≤ NN) (lk:In64 k) (lg:In64 g) (hm:ManyOk soleS sRel R2 (fun r=>r.length ≤ NN) rels R)
  (lu:u.length ≤ NN) (lv:v.length ≤ NN) (ln:In64 n) (F7:Done cellS sCell R6 CellOk d R7) (is:∀ o,frontS L = some o → o = ((k,(g,rels,()),u,v,n,d),R7)):FrontOk L R7 k (g,rels,()) u v n d:=
 ⟨F7.1.sfx.trans hs,lk,⟨lg,⟨Nat.le_trans (Nat.le_trans (Nat.le_add_right _ _) hm.len) h2,hm.ok⟩,trivial⟩,lu,lv,ln,cells_lim (Nat.le_trans (Nat.le_trans (Nat.le_add_right _ _) F7.1.len) h6) F7.1.ok,is⟩
theorem front_pc (hnum:NumPC) (L:Lns) (hL:LimL L):PC Tryz.prog 84 sg84 ((L,0,0,[],[],[],0,[],()),()) (fun _ z=>∃ R k p u v n d,z.1 = (R,k,p,u,v,n,d,()) ∧ FrontOk L R k p u v n d) (fun p=>frontS L = none ∧ p = mal):=by
 refine PC.of a84 [(86,sg86),(80,sg80),(46,sg46),(129,sg129),(130,sg130),(131,sg131),(132,sg132),(133,sg133)] (by kernel_rfl) ?_
 refine CallP.mk _ _ (take_pc sClaim L hL.full (by simp)) ?_ (fun p h=>h.elim)
 rintro y ⟨z,_⟩ ⟨rfl,rfl⟩
 have hp1:=take_parts (h:=sClaim) hL
 have E1:∃ R,R = (takeF sClaim L).2.2:=⟨_,rfl⟩
 obtain ⟨R1,e1⟩:=E1
 have s1:R1 <:+ L:=by rw [e1]; exact take_sfx _ _
 have hR1:=hL.sfx s1
 refine JoinP.mk (fun x=>∃ R1',x = ((R1',0,0,[],[],[],0,[],()),()) ∧ R1 = R1' ∧ (takeF sClaim L).2.1 = true ∧ ∃ s,(takeF sClaim L).1 = [s]) ?_ ?_
 ·rintro x ⟨_,rfl,rfl,hk,s,hs⟩
  have g0:(takeF sClaim L).1[0]? = some s:=by rw [hs]; rfl
  refine GetL.is 0 rfl g0 ?_
  refine CallP.mk _ _ kinds_pc ?_ (fun p h=>h.elim)
  rintro ⟨y,_⟩ z rfl
  refine CallP.mk _ _ (index_pc kindsL s (by unfold NN; decide)) ?_ (fun p h=>h.elim)
  rintro ⟨k,_⟩ z hk0
  have hk0:k = match idxS s 0 kindsL with | some i=>(i:Int) | none=>-1:=hk0
  have F1:∀ o,mustS kindS sClaim L = some o → o = (k,R1):=fun o ho=>by
   obtain ⟨h1,h2,h3⟩:=must_some ho
   rw [hs] at h2
   simp only [kindS,soleS,Option.bind_some,Option.bind_eq_some_iff] at h2
   obtain ⟨i,h4,h5⟩:=h2
   split at h5
   ·simp only [Option.some.injEq] at h5
    obtain ⟨a,b⟩:=o
    dsimp only at h3 h5
    rw [hk0,h4,h3,← e1,← h5]
   ·cases h5
  have lk:In64 k:=by
   rw [hk0]
   split
   ·rename_i i hi
    have:∀ (l:List Str) (j i:Nat),idxS s j l = some i → i < j + l.length:=by
     intro l
     induction l with
     | nil=>intro j i h; cases h
     | cons x l ih=>
      intro j i h
      simp only [idxS] at h
      split at h
      ·simp only [Option.some.injEq] at h; subst h; simp
      ·have:=ih _ _ h; simp; omega
    have:=this _ _ _ hi
    have hlen:kindsL.length = 10:=rfl
    exact ⟨by omega,by omega⟩
   ·exact ⟨by omega,by omega⟩
  refine CallP.mk _ _ (take_pc sGens R1 hR1.full (by simp)) ?_ (fun p h=>h.elim)
  rintro y ⟨z,_⟩ ⟨rfl,rfl⟩
  have hp2:=take_parts (h:=sGens) hR1
  have E2:∃ R,R = (takeF sGens R1).2.2:=⟨_,rfl⟩
  obtain ⟨R2,e2⟩:=E2
  have s2:R2 <:+ R1:=by rw [e2]; exact take_sfx _ _
  have hR2:=hR1.sfx s2
  refine CallP.mk _ _ (must_pc _) ?_ ?_
  ·rintro y z hk2
   have hk2:(takeF sGens R1).2.1 = true:=hk2
   refine CallP.mk _ _ (some_pc hnum _ 1 hp2.1 hp2.2) ?_ ?_
   ·rintro ⟨y,_⟩ z ⟨h1,hy⟩
    have hy:ListOk (takeF sGens R1).1 y:=hy
    have h1:((takeF sGens R1).1.length:Int) = 1:=h1
    have hgg:=sole_of h1 hy
    obtain ⟨g,hg⟩:=hgg
    have lg:In64 g:=hy.num g (by rw [hg]; simp)
    have F2:∀ o,mustS num1S sGens R1 = some o → o = (g,R2):=fun o ho=>by
     obtain ⟨_,h4,h5⟩:=must_some ho
     obtain ⟨a,b⟩:=o
     dsimp only at h4 h5
     rw [num1_is (hg ▸ hy) h4,h5,e2]
    refine GetL.is 0 (x:=g) rfl (get_one hg) ?_
    repeat refine SameV.mk rfl ?_
    refine LoopP.mk (fun x=>∃ rels R,x = ((R,k,g,rels,[],[],0,[],()),()) ∧ ManyOk soleS sRel R2 (fun r=>r.length ≤ NN) rels R) (fun x=>x.1.1.length) ⟨[],_,rfl,e2 ▸ ManyOk.start _ _ _ _⟩ ?_
    rintro x ⟨rels,R,rfl,hm⟩
    have hR:=hR2.sfx hm.sfx
    refine CallP.mk _ _ (head_pc R hR.full) ?_ (fun p h=>h.elim)
    rintro y z ⟨rfl,rfl⟩
    refine BrP.mk' (fun h3=>?_) (fun h3=>?_)
    ·have h3:headF R = sRel:=by simpa using h3
     have hk3:=head_take (by simp) h3
     refine CallP.mk _ _ (one_pc sRel [] R hR (by simp)) ?_ ?_
     ·rintro y ⟨R',_,r,_⟩ hq
      have hq:oneF sRel [] R = some (r,R'):=hq
      have hq2:=hq
      unfold oneF optS at hq
      rw [if_pos hk3] at hq
      simp only [Option.map_eq_some_iff,Prod.mk.injEq] at hq
      obtain ⟨_,hq3,rfl,rfl⟩:=hq
      refine AppL.mk' (by show rels.length + 1 ≤ _; have:=hm.len; have:=hR2.len; unfold NN at this; omega) ?_
      repeat refine SameV.mk rfl ?_
      refine ⟨⟨_,_,rfl,hm.next hk3 (one_len hq2 hR (Nat.zero_le _)) fun x hx=>?_⟩,take_lt hk3⟩
      rw [hq3] at hx
      simp only [Option.some.injEq] at hx; exact hx
     ·rintro p ⟨hq,rfl⟩
      refine show _ ∧ _ from ⟨none_front fun o ho=>?_,rfl⟩
      obtain ⟨k',g',r',u',v',n',d',q1,q2,q3,q4,q5,q6,q7,rfl⟩:=front_some ho
      have:=F1 _ q1; subst this
      have:=F2 _ q2; subst this
      have hb:soleS (takeF sRel R).1 = none:=by
       unfold oneF optS at hq
       rw [if_pos hk3] at hq
       simpa using hq
      rw [hm.bad hk3 hb] at q3; cases q3
    ·have h3:headF R ≠ sRel:=by simpa using h3
     have hk3:=head_not h3
     have hdone:=hm.done hk3
     -- u,v
     have F3:=hdone.2
     refine JoinP.mk (fun x=>∃ u R4,x = ((R4,k,g,rels,u,[],0,[],()),()) ∧ oneF sU [] R = some (u,R4)) ?_ ?_
     rotate_left
     ·refine CallP.mk _ _ (one_pc sU [] R hR (by simp)) ?_ ?_
      ·rintro y ⟨R4,_,u,_⟩ q4
       repeat refine SameV.mk rfl ?_
       exact ⟨u,R4,rfl,q4⟩
      ·rintro p ⟨h1,rfl⟩
       refine show _ ∧ _ from ⟨none_front fun o ho=>?_,rfl⟩
       obtain ⟨k',g',r',u',v',n',d',q1,q2,q3,q4',q5',q6,q7,rfl⟩:=front_some ho
       have:=F1 _ q1; subst this
       have:=F2 _ q2; subst this
       have:=F3 _ q3; subst this
       rw [show optS soleS sU [] R = none from h1] at q4'; cases q4'
     ·rintro x ⟨u,R4,rfl,q4⟩
      have hR4:LimL R4:=hR.sfx (one_sfx q4)
      refine JoinP.mk (fun x=>∃ v R5,x = ((R5,k,g,rels,u,v,0,[],()),()) ∧ oneF sV [] R4 = some (v,R5)) ?_ ?_
      rotate_left
      ·refine CallP.mk _ _ (one_pc sV [] R4 hR4 (by simp)) ?_ ?_
       ·rintro y ⟨R5,_,v,_⟩ q5
        repeat refine SameV.mk rfl ?_
        exact ⟨v,R5,rfl,q5⟩
       ·rintro p ⟨h1,rfl⟩
        refine show _ ∧ _ from ⟨none_front fun o ho=>?_,rfl⟩
        obtain ⟨k',g',r',u',v',n',d',q1,q2,q3,q4',q5',q6,q7,rfl⟩:=front_some ho
        have:=F1 _ q1; subst this
        have:=F2 _ q2; subst this
        have:=F3 _ q3; subst this
        rw [show optS soleS sU [] R = some (u,R4) from q4] at q4'; cases q4'
        rw [show optS soleS sV [] R4 = none from h1] at q5'; cases q5'
      ·rintro x ⟨v,R5,rfl,q5⟩
       have hR5:LimL R5:=hR4.sfx (one_sfx q5)
       have hp6:=take_parts (h:=sN) hR5
       have E6:∃ R,R = (takeF sN R5).2.2:=⟨_,rfl⟩
       obtain ⟨R6,e6⟩:=E6
       have hs6:R6 <:+ R5:=by rw [e6]; exact take_sfx _ _
       have hR6:LimL R6:=hR5.sfx hs6
       refine JoinP.mk (fun x=>∃ n R6',x = ((R6',k,g,rels,u,v,n,[],()),()) ∧ R6 = R6' ∧ In64 n ∧ ∀ o,optS num1S sN 0 R5 = some o → o = (n,R6)) ?_ ?_
       ·rintro x ⟨n,_,rfl,rfl,ln,F6⟩
        refine CallP.mk _ _ (cells_pc hnum sCell R6 hR6 (by simp)) ?_ ?_
        ·rintro ⟨d,_⟩ ⟨R7,_⟩ F7
         have F7:Done cellS sCell R6 CellOk d R7:=F7
         refine ⟨R7,k,(g,rels,()),u,v,n,d,rfl,?_⟩
         exact front_fin hL.len (s1.trans' (s2.trans' (hm.sfx.trans' ((one_sfx q4).trans' ((one_sfx q5).trans' hs6))))) hR2.len hR6.len lk lg hm (one_len q4 hR (Nat.zero_le _)) (one_len q5 hR4 (Nat.zero_le _)) ln F7 fun o ho=>by
          obtain ⟨k',g',r',u',v',n',d',q1,q2,q3,q4',q5',q6,q7,rfl⟩:=front_some ho
          have:=F1 _ q1; subst this
          have:=F2 _ q2; subst this
          have:=F3 _ q3; subst this
          rw [show optS soleS sU [] R = some (u,R4) from q4] at q4'; cases q4'
          rw [show optS soleS sV [] R4 = some (v,R5) from q5] at q5'; cases q5'
          have:=F6 _ q6; subst this
          have:=F7.2 _ q7; subst this
          rfl
        ·rintro p ⟨h1,rfl⟩
         refine show _ ∧ _ from ⟨none_front fun o ho=>?_,rfl⟩
         obtain ⟨k',g',r',u',v',n',d',q1,q2,q3,q4',q5',q6,q7,rfl⟩:=front_some ho
         have:=F1 _ q1; subst this
         have:=F2 _ q2; subst this
         have:=F3 _ q3; subst this
         rw [show optS soleS sU [] R = some (u,R4) from q4] at q4'; cases q4'
         rw [show optS soleS sV [] R4 = some (v,R5) from q5] at q5'; cases q5'
         have:=F6 _ q6; subst this
         rw [h1] at q7; cases q7
       ·refine CallP.mk _ _ (take_pc sN R5 hR5.full (by simp)) ?_ (fun p h=>h.elim)
        rintro y ⟨z,_⟩ ⟨rfl,rfl⟩
        refine BrP.mk' (fun hk6=>?_) (fun hk6=>?_)
        ·have hk6:(takeF sN R5).2.1 = true:=hk6
         refine CallP.mk _ _ (some_pc hnum _ 1 hp6.1 hp6.2) ?_ ?_
         ·rintro ⟨y,_⟩ z ⟨h6,hy6⟩
          have hy6:ListOk (takeF sN R5).1 y:=hy6
          have h6:((takeF sN R5).1.length:Int) = 1:=h6
          have hnn:=sole_of h6 hy6
          obtain ⟨n,hn⟩:=hnn
          refine GetL.is 0 (x:=n) rfl (get_one hn) ?_
          repeat refine SameV.mk rfl ?_
          refine ⟨n,_,rfl,e6,hy6.num n (by rw [hn]; simp),fun o ho=>?_⟩
          unfold optS at ho
          rw [if_pos hk6] at ho
          simp only [Option.map_eq_some_iff] at ho
          obtain ⟨x,h7,rfl⟩:=ho
          rw [num1_is (hn ▸ hy6) h7,e6]
         ·rintro p ⟨h6,rfl⟩
          refine show _ ∧ _ from ⟨none_front fun o ho=>?_,rfl⟩
          obtain ⟨k',g',r',u',v',n',d',q1,q2,q3,q4',q5',q6,q7,rfl⟩:=front_some ho
          have:=F1 _ q1; subst this
          have:=F2 _ q2; subst this
          have:=F3 _ q3; subst this
          rw [show optS soleS sU [] R = some (u,R4) from q4] at q4'; cases q4'
          rw [show optS soleS sV [] R4 = some (v,R5) from q5] at q5'; cases q5'
          unfold optS at q6
          rw [if_pos hk6,num1_none (ps:=(takeF sN R5).1) h6] at q6; cases q6
        ·have hk6:(takeF sN R5).2.1 = false:=hk6
         repeat refine SameV.mk rfl ?_
         refine ⟨0,_,rfl,e6,⟨by decide,by decide⟩,fun o ho=>?_⟩
         unfold optS at ho
         rw [hk6] at ho
         simp only [Bool.false_eq_true,if_false,Option.some.injEq] at ho
         rw [← ho,e6,(many_stop (f:=soleS) hk6).2]
   ·rintro p ⟨h1,rfl⟩
    refine show _ ∧ _ from ⟨none_front fun o ho=>?_,rfl⟩
    obtain ⟨k',g',r',u',v',n',d',q1,q2,_⟩:=front_some ho
    have:=F1 _ q1; subst this
    obtain ⟨_,h4,h5⟩:=must_some q2
    rw [num1_none (ps:=(takeF sGens R1).1) h1] at h4; cases h4
  ·rintro p ⟨h1,rfl⟩
   refine show _ ∧ _ from ⟨none_front fun o ho=>?_,rfl⟩
   obtain ⟨k',g',r',u',v',n',d',q1,q2,_⟩:=front_some ho
   have:=F1 _ q1; subst this
   have h1:(takeF sGens R1).2.1 = false:=h1
   have:=(must_some q2).1
   rw [h1] at this; cases this
 ·have bad:(takeF sClaim L).2.1 = false ∨ ¬ (takeF sClaim L).1.length = 1 → frontS L = none:=fun h=>none_front fun o ho=>by
   obtain ⟨k',g',r',u',v',n',d',q1,_⟩:=front_some ho
   obtain ⟨h1,h2,h3⟩:=must_some q1
   rcases h with h | h
   ·rw [h] at h1; cases h1
   ·simp only [kindS,sole_len h,Option.bind_none] at h2; cases h2
  refine BrP.mk' (fun hk=>?_) (fun hk=>?_)
  ·have hk:(takeF sClaim L).2.1 = true:=hk
   refine LenL.mk fun _=>?_
   refine CallP.mk _ _ (must_pc _) ?_ ?_
   ·rintro y z h1
    have h1:(takeF sClaim L).1.length = 1:=by
     have:((takeF sClaim L).1.length:Int) = 1:=by simpa using h1
     omega
    repeat refine SameV.mk rfl ?_
    exact ⟨_,rfl,e1,hk,List.length_eq_one_iff.1 h1⟩
   ·rintro p ⟨h1,rfl⟩
    have h1:¬ (takeF sClaim L).1.length = 1:=fun h6=>by
     have:¬ ((takeF sClaim L).1.length:Int) = 1:=by simpa using h1
     omega
    exact show _ ∧ _ from ⟨bad (.inr h1),rfl⟩
  ·refine CallP.mk _ _ (must_pc false) (fun y z h=>by cases h) ?_
   rintro p ⟨_,rfl⟩
   exact show _ ∧ _ from ⟨bad (.inl hk),rfl⟩
end Go.Proofs.YtpifnlfmojfgpaaGreatDoor.Pk
end
